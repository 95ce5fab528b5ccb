-- PRINTED for this claim by a program of this session's repo over the kit's printer, with contracts of our own among the functions.
import Derived.Test.YtmdmhcganiaogaaDoorPFnExactReadDecx0
namespace Go.Proofs.YtmdmhcganiaogaaDoor.PFnExactReadDec
open Go.RowKit Go.Proofs.YtmdmhcganiaogaaDoorW.PrintWords Go.Proofs.YtmdmhcganiaogaaDoorW.PrintLast Go.Proofs.YtmdmhcganiaogaaDoorW.PrintMore
attribute [local go_sem] max2_int min2_int max_two min_two max_three min_three max_four min_four   -- for this text's walks alone
set_option linter.unusedVariables false
set_option linter.unusedSimpArgs false

/-! ### spec_l01In: function 46 -/
def spec_l01In.f (a0 : Int) (a1 : Int) (a2 : Int) : Option (Bool) := if a0 ≥ a1 then (some (decide (a0 ≤ a2))) else (some false)
set_option maxHeartbeats 8000000 in
set_option maxRecDepth 100000 in
theorem spec_l01In.calls (a0 : Int) (a1 : Int) (a2 : Int) (r : Bool) (w : World) (h : spec_l01In.f a0 a1 a2 = some r) :
    Calls Tryd.prog 46 #[.int .i64 a0, .int .i64 a1, .int .i64 a2] w fun e w' => e = .returned (.bool r) ∧ Drawn0 w w' := by
  have H : (if a0 ≥ a1 then (some (decide (a0 ≤ a2))) else (some false)) = some r := h
  clear h
  by_cases c4 : a0 ≥ a1
  · rw [if_pos c4] at H
    have c4b0 : decide (a1 ≤ a0) = true := decide_eq_true c4
    clear c4
    obtain rfl := Option.some.inj H
    go_enter Tryd.func46, Tryd.ntmps46
    go_wp2
    go_ret
    exact ⟨by first | rfl | (simp; done) | (simp [*]; done), by repeat (first | exact Drawn0.refl _ | apply Drawn0.step)⟩
  · rw [if_neg c4] at H
    have c4b0 : decide (a1 ≤ a0) = false := decide_eq_false c4
    clear c4
    obtain rfl := Option.some.inj H
    go_enter Tryd.func46, Tryd.ntmps46
    go_wp2
    go_ret
    exact ⟨by first | rfl | (simp; done) | (simp [*]; done), by repeat (first | exact Drawn0.refl _ | apply Drawn0.step)⟩

/-! ### spec_l01Value: function 52 -/
def spec_l01Value.l0 : Nat → ByteArray → Int → Int → Int → Option (Int)
  | 0, _, _, _, _ => none
  | k + 1, x0, x1, x5, x6 => if x6 < (x0.size : Int) then (if 0 ≤ x6 then ((spec_l01In.f (wrap64 (bt x0 x6)) 48 57).bind fun t101 => (if t101 = true then (if (wrap64 ((wrap64 (bt x0 x6)) - 48)) < 0 then (some (-1)) else (if (wrap64 ((wrap64 (bt x0 x6)) - 48)) ≥ x1 then (some (-1)) else (if x1 = 0 then (none) else (if x5 > (wrap64 (Int.tdiv (wrap64 (9007199254740991 - (wrap64 ((wrap64 (bt x0 x6)) - 48)))) x1)) then (some (-1)) else (spec_l01Value.l0 k x0 x1 (wrap64 ((wrap64 (x5 * x1)) + (wrap64 ((wrap64 (bt x0 x6)) - 48)))) (wrap64 (x6 + 1))))))) else ((spec_l01In.f (wrap64 (bt x0 x6)) 97 102).bind fun t102 => (if t102 = true then (if (wrap64 ((wrap64 (bt x0 x6)) - 87)) < 0 then (some (-1)) else (if (wrap64 ((wrap64 (bt x0 x6)) - 87)) ≥ x1 then (some (-1)) else (if x1 = 0 then (none) else (if x5 > (wrap64 (Int.tdiv (wrap64 (9007199254740991 - (wrap64 ((wrap64 (bt x0 x6)) - 87)))) x1)) then (some (-1)) else (spec_l01Value.l0 k x0 x1 (wrap64 ((wrap64 (x5 * x1)) + (wrap64 ((wrap64 (bt x0 x6)) - 87)))) (wrap64 (x6 + 1))))))) else (if (-1) < 0 then (some (-1)) else (if (-1) ≥ x1 then (some (-1)) else (if x1 = 0 then (none) else (if x5 > (wrap64 ((9007199254740991 - (-1)) / x1)) then (some (-1)) else (spec_l01Value.l0 k x0 x1 (wrap64 ((wrap64 (x5 * x1)) + (-1))) (wrap64 (x6 + 1))))))))))) else (none)) else (some x5)
def spec_l01Value.f (k : Nat) (a0 : ByteArray) (a1 : Int) : Option (Int) := spec_l01Value.l0 k a0 a1 0 0
theorem spec_l01Value.mono_l : ∀ k, (∀ y0 y1 y2 y3, LeO (spec_l01Value.l0 k y0 y1 y2 y3) (spec_l01Value.l0 (k + 1) y0 y1 y2 y3))
  | 0 => fun _ _ _ _ r h => by simp [spec_l01Value.l0] at h
  | k + 1 => by
    have ih0 := spec_l01Value.mono_l k
    · intro y0 y1 y2 y3
      unfold spec_l01Value.l0
      repeat' first
      | (with_reducible exact ih0 _ _ _ _)
      | (with_reducible exact LeO.refl _)
      | (with_reducible exact LeO.none _)
      | (with_reducible refine LeO.ite ?_ ?_)
      | (with_reducible refine LeO.bind ?_ (fun _ => ?_))
      | exact ih0 _ _ _ _
      | exact LeO.none _
      | refine LeO.ite ?_ ?_
      | refine LeO.bind ?_ (fun _ => ?_)
theorem spec_l01Value.mono : ∀ a0 a1 k, LeO (spec_l01Value.f k a0 a1) (spec_l01Value.f (k + 1) a0 a1) := by
  intro a0 a1 k
  have ih0 := spec_l01Value.mono_l k
  unfold spec_l01Value.f
  repeat' first
      | (with_reducible exact ih0 _ _ _ _)
      | (with_reducible exact LeO.refl _)
      | (with_reducible exact LeO.none _)
      | (with_reducible refine LeO.ite ?_ ?_)
      | (with_reducible refine LeO.bind ?_ (fun _ => ?_))
      | exact ih0 _ _ _ _
      | exact LeO.none _
      | refine LeO.ite ?_ ?_
      | refine LeO.bind ?_ (fun _ => ?_)
set_option maxHeartbeats 8000000 in
set_option maxRecDepth 100000 in
theorem spec_l01Value.calls (k : Nat) (a0 : ByteArray) (a1 : Int) (r : Int) (w : World) (h : spec_l01Value.f k a0 a1 = some r) :
    Calls Tryd.prog 52 #[.string a0, .int .i64 a1] w fun e w' => e = .returned (.int .i64 r) ∧ Drawn0 w w' := by
  have H : (spec_l01Value.l0 k a0 a1 0 0) = some r := h
  clear h
  have H' := Aside0.mk H
  clear H
  go_enter Tryd.func52, Tryd.ntmps52
  go_wp2
  go_loopg [5, 6] k (fun kq v5 v6 w' => ∃ (x5_1 : Int) (x6_1 : Int), v5 = .int .i64 x5_1 ∧ v6 = .int .i64 x6_1 ∧ Aside0 (spec_l01Value.l0 kq a0 a1 x5_1 x6_1 = some r) ∧ Aside0 (kq ≤ k) ∧ Drawn0 w w')
  case atStart => exact ⟨(0), (0), (by first | rfl | (simp; done) | (simp [*]; done)), (by first | rfl | (simp; done) | (simp [*]; done)), H', ⟨Nat.le_refl _⟩, by repeat (first | exact Drawn0.refl _ | apply Drawn0.step)⟩
  case round =>
    clear H'
    try clear p2
    obtain ⟨x5_1, x6_1, rfl, rfl, HA, HK1, ⟨m1, rfl⟩⟩ := hrel
    cases gk with
    | zero => exact absurd HA.out (by simp [spec_l01Value.l0])
    | succ k1 =>
      have H := HA.out
      clear HA
      simp only [spec_l01Value.l0] at H
      by_cases c3 : x6_1 < (a0.size : Int)
      · rw [if_pos c3] at H
        have c3b0 : decide (x6_1 < (a0.size : Int)) = true := decide_eq_true c3
        clear c3
        by_cases c4 : 0 ≤ x6_1
        · rw [if_pos c4] at H
          have c4b0 : decide (0 ≤ x6_1) = true := decide_eq_true c4
          clear c4
          replace H := Option.bind_eq_some_iff.mp H
          obtain ⟨t101, A60, H⟩ := H
          replace H : (if t101 = true then (if (wrap64 ((wrap64 (bt a0 x6_1)) - 48)) < 0 then (some (-1)) else (if (wrap64 ((wrap64 (bt a0 x6_1)) - 48)) ≥ a1 then (some (-1)) else (if a1 = 0 then (none) else (if x5_1 > (wrap64 (Int.tdiv (wrap64 (9007199254740991 - (wrap64 ((wrap64 (bt a0 x6_1)) - 48)))) a1)) then (some (-1)) else (spec_l01Value.l0 k1 a0 a1 (wrap64 ((wrap64 (x5_1 * a1)) + (wrap64 ((wrap64 (bt a0 x6_1)) - 48)))) (wrap64 (x6_1 + 1))))))) else ((spec_l01In.f (wrap64 (bt a0 x6_1)) 97 102).bind fun t102 => (if t102 = true then (if (wrap64 ((wrap64 (bt a0 x6_1)) - 87)) < 0 then (some (-1)) else (if (wrap64 ((wrap64 (bt a0 x6_1)) - 87)) ≥ a1 then (some (-1)) else (if a1 = 0 then (none) else (if x5_1 > (wrap64 (Int.tdiv (wrap64 (9007199254740991 - (wrap64 ((wrap64 (bt a0 x6_1)) - 87)))) a1)) then (some (-1)) else (spec_l01Value.l0 k1 a0 a1 (wrap64 ((wrap64 (x5_1 * a1)) + (wrap64 ((wrap64 (bt a0 x6_1)) - 87)))) (wrap64 (x6_1 + 1))))))) else (if (-1) < 0 then (some (-1)) else (if (-1) ≥ a1 then (some (-1)) else (if a1 = 0 then (none) else (if x5_1 > (wrap64 ((9007199254740991 - (-1)) / a1)) then (some (-1)) else (spec_l01Value.l0 k1 a0 a1 (wrap64 ((wrap64 (x5_1 * a1)) + (-1))) (wrap64 (x6_1 + 1)))))))))) = some r := H
          have A6 := Aside0.mk A60
          clear A60
          by_cases c7 : t101 = true
          · subst c7
            have H1 : (if (wrap64 ((wrap64 (bt a0 x6_1)) - 48)) < 0 then (some (-1)) else (if (wrap64 ((wrap64 (bt a0 x6_1)) - 48)) ≥ a1 then (some (-1)) else (if a1 = 0 then (none) else (if x5_1 > (wrap64 (Int.tdiv (wrap64 (9007199254740991 - (wrap64 ((wrap64 (bt a0 x6_1)) - 48)))) a1)) then (some (-1)) else (spec_l01Value.l0 k1 a0 a1 (wrap64 ((wrap64 (x5_1 * a1)) + (wrap64 ((wrap64 (bt a0 x6_1)) - 48)))) (wrap64 (x6_1 + 1))))))) = some r := by rw [if_pos rfl] at H; exact H
            clear H
            have H := H1
            clear H1
            by_cases c9 : (wrap64 ((wrap64 (bt a0 x6_1)) - 48)) < 0
            · rw [if_pos c9] at H
              have c9b0 : decide ((wrap64 ((wrap64 (bt a0 x6_1)) - 48)) < 0) = true := decide_eq_true c9
              clear c9
              obtain rfl := Option.some.inj H
              have p5 : 0 ≤ (x6_1 : Int) := of_decide_eq_true (by assumption)
              have q5 : x6_1 < (a0.size : Int) := of_decide_eq_true (by assumption)
              have hx5 := bt_at a0 x6_1
              replace p5 := eq_true p5
              replace q5 := eq_true q5
              go_wp2_with (first | ((with_reducible refine gate_callee (f := 46) rfl ?_); refine goesL_ (some 19) rfl rfl Tryd.func46 (by kernel_rfl) rfl #[.int .i64 (wrap64 (bt a0 x6_1)), .int .i64 48, .int .i64 57] rfl (by (try simp only [List.map_toArray, List.map_cons, List.map_nil]); first | done | rfl | (simp only [List.length_drop, List.length_take]; rfl)) ?_; (with_reducible refine (spec_l01In.calls (wrap64 (bt a0 x6_1)) 48 57 true _ A6.out).mono ?_); rintro e w' ⟨rfl, ⟨nd, rfl⟩⟩; refine ⟨_, rfl, ?_⟩; have p8 : 0 ≤ (x6_1 : Int) := of_decide_eq_true (by assumption); have q8 : x6_1 < (a0.size : Int) := of_decide_eq_true (by assumption); have hx8 := bt_at a0 x6_1; replace p8 := eq_true p8; replace q8 := eq_true q8))
              go_ret
              exact ⟨by first | rfl | (simp; done) | (simp [*]; done), by repeat (first | exact Drawn0.refl _ | apply Drawn0.step)⟩
            · rw [if_neg c9] at H
              have c9b0 : decide ((wrap64 ((wrap64 (bt a0 x6_1)) - 48)) < 0) = false := decide_eq_false c9
              clear c9
              by_cases c10 : (wrap64 ((wrap64 (bt a0 x6_1)) - 48)) ≥ a1
              · rw [if_pos c10] at H
                have c10b0 : decide (a1 ≤ (wrap64 ((wrap64 (bt a0 x6_1)) - 48))) = true := decide_eq_true c10
                clear c10
                obtain rfl := Option.some.inj H
                have p5 : 0 ≤ (x6_1 : Int) := of_decide_eq_true (by assumption)
                have q5 : x6_1 < (a0.size : Int) := of_decide_eq_true (by assumption)
                have hx5 := bt_at a0 x6_1
                replace p5 := eq_true p5
                replace q5 := eq_true q5
                go_wp2_with (first | ((with_reducible refine gate_callee (f := 46) rfl ?_); refine goesL_ (some 19) rfl rfl Tryd.func46 (by kernel_rfl) rfl #[.int .i64 (wrap64 (bt a0 x6_1)), .int .i64 48, .int .i64 57] rfl (by (try simp only [List.map_toArray, List.map_cons, List.map_nil]); first | done | rfl | (simp only [List.length_drop, List.length_take]; rfl)) ?_; (with_reducible refine (spec_l01In.calls (wrap64 (bt a0 x6_1)) 48 57 true _ A6.out).mono ?_); rintro e w' ⟨rfl, ⟨nd, rfl⟩⟩; refine ⟨_, rfl, ?_⟩; have p8 : 0 ≤ (x6_1 : Int) := of_decide_eq_true (by assumption); have q8 : x6_1 < (a0.size : Int) := of_decide_eq_true (by assumption); have hx8 := bt_at a0 x6_1; replace p8 := eq_true p8; replace q8 := eq_true q8))
                go_ret
                exact ⟨by first | rfl | (simp; done) | (simp [*]; done), by repeat (first | exact Drawn0.refl _ | apply Drawn0.step)⟩
              · rw [if_neg c10] at H
                have c10b0 : decide (a1 ≤ (wrap64 ((wrap64 (bt a0 x6_1)) - 48))) = false := decide_eq_false c10
                clear c10
                by_cases c11 : a1 = 0
                · rw [if_pos c11] at H
                  exact absurd H (by simp)
                · rw [if_neg c11] at H
                  have c11b0 : (a1 == 0) = false := beq_eq_false_iff_ne.mpr c11
                  have c11b1 : (a1 != 0) = true := bne_iff_ne.mpr c11
                  by_cases c12 : x5_1 > (wrap64 (Int.tdiv (wrap64 (9007199254740991 - (wrap64 ((wrap64 (bt a0 x6_1)) - 48)))) a1))
                  · rw [if_pos c12] at H
                    have c12b0 : decide ((wrap64 (Int.tdiv (wrap64 (9007199254740991 - (wrap64 ((wrap64 (bt a0 x6_1)) - 48)))) a1)) < x5_1) = true := decide_eq_true c12
                    clear c12
                    obtain rfl := Option.some.inj H
                    have p5 : 0 ≤ (x6_1 : Int) := of_decide_eq_true (by assumption)
                    have q5 : x6_1 < (a0.size : Int) := of_decide_eq_true (by assumption)
                    have hx5 := bt_at a0 x6_1
                    replace p5 := eq_true p5
                    replace q5 := eq_true q5
                    go_wp2_with (first | ((with_reducible refine gate_callee (f := 46) rfl ?_); refine goesL_ (some 19) rfl rfl Tryd.func46 (by kernel_rfl) rfl #[.int .i64 (wrap64 (bt a0 x6_1)), .int .i64 48, .int .i64 57] rfl (by (try simp only [List.map_toArray, List.map_cons, List.map_nil]); first | done | rfl | (simp only [List.length_drop, List.length_take]; rfl)) ?_; (with_reducible refine (spec_l01In.calls (wrap64 (bt a0 x6_1)) 48 57 true _ A6.out).mono ?_); rintro e w' ⟨rfl, ⟨nd, rfl⟩⟩; refine ⟨_, rfl, ?_⟩; have p8 : 0 ≤ (x6_1 : Int) := of_decide_eq_true (by assumption); have q8 : x6_1 < (a0.size : Int) := of_decide_eq_true (by assumption); have hx8 := bt_at a0 x6_1; replace p8 := eq_true p8; replace q8 := eq_true q8))
                    go_ret
                    exact ⟨by first | rfl | (simp; done) | (simp [*]; done), by repeat (first | exact Drawn0.refl _ | apply Drawn0.step)⟩
                  · rw [if_neg c12] at H
                    have c12b0 : decide ((wrap64 (Int.tdiv (wrap64 (9007199254740991 - (wrap64 ((wrap64 (bt a0 x6_1)) - 48)))) a1)) < x5_1) = false := decide_eq_false c12
                    clear c12
                    have H' := Aside0.mk H
                    clear H
                    have p5 : 0 ≤ (x6_1 : Int) := of_decide_eq_true (by assumption)
                    have q5 : x6_1 < (a0.size : Int) := of_decide_eq_true (by assumption)
                    have hx5 := bt_at a0 x6_1
                    replace p5 := eq_true p5
                    replace q5 := eq_true q5
                    go_wp2_with (first | ((with_reducible refine gate_callee (f := 46) rfl ?_); refine goesL_ (some 19) rfl rfl Tryd.func46 (by kernel_rfl) rfl #[.int .i64 (wrap64 (bt a0 x6_1)), .int .i64 48, .int .i64 57] rfl (by (try simp only [List.map_toArray, List.map_cons, List.map_nil]); first | done | rfl | (simp only [List.length_drop, List.length_take]; rfl)) ?_; (with_reducible refine (spec_l01In.calls (wrap64 (bt a0 x6_1)) 48 57 true _ A6.out).mono ?_); rintro e w' ⟨rfl, ⟨nd, rfl⟩⟩; refine ⟨_, rfl, ?_⟩; have p8 : 0 ≤ (x6_1 : Int) := of_decide_eq_true (by assumption); have q8 : x6_1 < (a0.size : Int) := of_decide_eq_true (by assumption); have hx8 := bt_at a0 x6_1; replace p8 := eq_true p8; replace q8 := eq_true q8))
                    go_roundg k1
                    case measure => have := HK1.out; omega
                    case rel => exact ⟨(wrap64 ((wrap64 (x5_1 * a1)) + (wrap64 ((wrap64 (bt a0 x6_1)) - 48)))), (wrap64 (x6_1 + 1)), (by first | rfl | (simp; done) | (simp [*]; done)), (by first | rfl | (simp; done) | (simp [*]; done)), H', ⟨by have := HK1.out; omega⟩, by repeat (first | exact Drawn0.refl _ | apply Drawn0.step)⟩
          · replace c7 := Bool.eq_false_iff.mpr c7
            subst c7
            have H1 : ((spec_l01In.f (wrap64 (bt a0 x6_1)) 97 102).bind fun t102 => (if t102 = true then (if (wrap64 ((wrap64 (bt a0 x6_1)) - 87)) < 0 then (some (-1)) else (if (wrap64 ((wrap64 (bt a0 x6_1)) - 87)) ≥ a1 then (some (-1)) else (if a1 = 0 then (none) else (if x5_1 > (wrap64 (Int.tdiv (wrap64 (9007199254740991 - (wrap64 ((wrap64 (bt a0 x6_1)) - 87)))) a1)) then (some (-1)) else (spec_l01Value.l0 k1 a0 a1 (wrap64 ((wrap64 (x5_1 * a1)) + (wrap64 ((wrap64 (bt a0 x6_1)) - 87)))) (wrap64 (x6_1 + 1))))))) else (if (-1) < 0 then (some (-1)) else (if (-1) ≥ a1 then (some (-1)) else (if a1 = 0 then (none) else (if x5_1 > (wrap64 ((9007199254740991 - (-1)) / a1)) then (some (-1)) else (spec_l01Value.l0 k1 a0 a1 (wrap64 ((wrap64 (x5_1 * a1)) + (-1))) (wrap64 (x6_1 + 1))))))))) = some r := by rw [if_neg (show ¬ (false = true) by decide)] at H; exact H
            clear H
            have H := H1
            clear H1
            replace H := Option.bind_eq_some_iff.mp H
            obtain ⟨t102, A140, H⟩ := H
            replace H : (if t102 = true then (if (wrap64 ((wrap64 (bt a0 x6_1)) - 87)) < 0 then (some (-1)) else (if (wrap64 ((wrap64 (bt a0 x6_1)) - 87)) ≥ a1 then (some (-1)) else (if a1 = 0 then (none) else (if x5_1 > (wrap64 (Int.tdiv (wrap64 (9007199254740991 - (wrap64 ((wrap64 (bt a0 x6_1)) - 87)))) a1)) then (some (-1)) else (spec_l01Value.l0 k1 a0 a1 (wrap64 ((wrap64 (x5_1 * a1)) + (wrap64 ((wrap64 (bt a0 x6_1)) - 87)))) (wrap64 (x6_1 + 1))))))) else (if (-1) < 0 then (some (-1)) else (if (-1) ≥ a1 then (some (-1)) else (if a1 = 0 then (none) else (if x5_1 > (wrap64 ((9007199254740991 - (-1)) / a1)) then (some (-1)) else (spec_l01Value.l0 k1 a0 a1 (wrap64 ((wrap64 (x5_1 * a1)) + (-1))) (wrap64 (x6_1 + 1)))))))) = some r := H
            have A14 := Aside0.mk A140
            clear A140
            by_cases c15 : t102 = true
            · subst c15
              have H1 : (if (wrap64 ((wrap64 (bt a0 x6_1)) - 87)) < 0 then (some (-1)) else (if (wrap64 ((wrap64 (bt a0 x6_1)) - 87)) ≥ a1 then (some (-1)) else (if a1 = 0 then (none) else (if x5_1 > (wrap64 (Int.tdiv (wrap64 (9007199254740991 - (wrap64 ((wrap64 (bt a0 x6_1)) - 87)))) a1)) then (some (-1)) else (spec_l01Value.l0 k1 a0 a1 (wrap64 ((wrap64 (x5_1 * a1)) + (wrap64 ((wrap64 (bt a0 x6_1)) - 87)))) (wrap64 (x6_1 + 1))))))) = some r := by rw [if_pos rfl] at H; exact H
              clear H
              have H := H1
              clear H1
              by_cases c17 : (wrap64 ((wrap64 (bt a0 x6_1)) - 87)) < 0
              · rw [if_pos c17] at H
                have c17b0 : decide ((wrap64 ((wrap64 (bt a0 x6_1)) - 87)) < 0) = true := decide_eq_true c17
                clear c17
                obtain rfl := Option.some.inj H
                have p5 : 0 ≤ (x6_1 : Int) := of_decide_eq_true (by assumption)
                have q5 : x6_1 < (a0.size : Int) := of_decide_eq_true (by assumption)
                have hx5 := bt_at a0 x6_1
                replace p5 := eq_true p5
                replace q5 := eq_true q5
                go_wp2_with (first | ((with_reducible refine gate_callee (f := 46) rfl ?_); refine goesL_ (some 19) rfl rfl Tryd.func46 (by kernel_rfl) rfl #[.int .i64 (wrap64 (bt a0 x6_1)), .int .i64 48, .int .i64 57] rfl (by (try simp only [List.map_toArray, List.map_cons, List.map_nil]); first | done | rfl | (simp only [List.length_drop, List.length_take]; rfl)) ?_; (with_reducible refine (spec_l01In.calls (wrap64 (bt a0 x6_1)) 48 57 false _ A6.out).mono ?_); rintro e w' ⟨rfl, ⟨nd, rfl⟩⟩; refine ⟨_, rfl, ?_⟩; have p13 : 0 ≤ (x6_1 : Int) := of_decide_eq_true (by assumption); have q13 : x6_1 < (a0.size : Int) := of_decide_eq_true (by assumption); have hx13 := bt_at a0 x6_1; replace p13 := eq_true p13; replace q13 := eq_true q13) | ((with_reducible refine gate_callee (f := 46) rfl ?_); refine goesL_ (some 30) rfl rfl Tryd.func46 (by kernel_rfl) rfl #[.int .i64 (wrap64 (bt a0 x6_1)), .int .i64 97, .int .i64 102] rfl (by (try simp only [List.map_toArray, List.map_cons, List.map_nil]); first | done | rfl | (simp only [List.length_drop, List.length_take]; rfl)) ?_; (with_reducible refine (spec_l01In.calls (wrap64 (bt a0 x6_1)) 97 102 true _ A14.out).mono ?_); rintro e w' ⟨rfl, ⟨nd, rfl⟩⟩; refine ⟨_, rfl, ?_⟩; have p16 : 0 ≤ (x6_1 : Int) := of_decide_eq_true (by assumption); have q16 : x6_1 < (a0.size : Int) := of_decide_eq_true (by assumption); have hx16 := bt_at a0 x6_1; replace p16 := eq_true p16; replace q16 := eq_true q16))
                go_ret
                exact ⟨by first | rfl | (simp; done) | (simp [*]; done), by repeat (first | exact Drawn0.refl _ | apply Drawn0.step)⟩
              · rw [if_neg c17] at H
                have c17b0 : decide ((wrap64 ((wrap64 (bt a0 x6_1)) - 87)) < 0) = false := decide_eq_false c17
                clear c17
                by_cases c18 : (wrap64 ((wrap64 (bt a0 x6_1)) - 87)) ≥ a1
                · rw [if_pos c18] at H
                  have c18b0 : decide (a1 ≤ (wrap64 ((wrap64 (bt a0 x6_1)) - 87))) = true := decide_eq_true c18
                  clear c18
                  obtain rfl := Option.some.inj H
                  have p5 : 0 ≤ (x6_1 : Int) := of_decide_eq_true (by assumption)
                  have q5 : x6_1 < (a0.size : Int) := of_decide_eq_true (by assumption)
                  have hx5 := bt_at a0 x6_1
                  replace p5 := eq_true p5
                  replace q5 := eq_true q5
                  go_wp2_with (first | ((with_reducible refine gate_callee (f := 46) rfl ?_); refine goesL_ (some 19) rfl rfl Tryd.func46 (by kernel_rfl) rfl #[.int .i64 (wrap64 (bt a0 x6_1)), .int .i64 48, .int .i64 57] rfl (by (try simp only [List.map_toArray, List.map_cons, List.map_nil]); first | done | rfl | (simp only [List.length_drop, List.length_take]; rfl)) ?_; (with_reducible refine (spec_l01In.calls (wrap64 (bt a0 x6_1)) 48 57 false _ A6.out).mono ?_); rintro e w' ⟨rfl, ⟨nd, rfl⟩⟩; refine ⟨_, rfl, ?_⟩; have p13 : 0 ≤ (x6_1 : Int) := of_decide_eq_true (by assumption); have q13 : x6_1 < (a0.size : Int) := of_decide_eq_true (by assumption); have hx13 := bt_at a0 x6_1; replace p13 := eq_true p13; replace q13 := eq_true q13) | ((with_reducible refine gate_callee (f := 46) rfl ?_); refine goesL_ (some 30) rfl rfl Tryd.func46 (by kernel_rfl) rfl #[.int .i64 (wrap64 (bt a0 x6_1)), .int .i64 97, .int .i64 102] rfl (by (try simp only [List.map_toArray, List.map_cons, List.map_nil]); first | done | rfl | (simp only [List.length_drop, List.length_take]; rfl)) ?_; (with_reducible refine (spec_l01In.calls (wrap64 (bt a0 x6_1)) 97 102 true _ A14.out).mono ?_); rintro e w' ⟨rfl, ⟨nd, rfl⟩⟩; refine ⟨_, rfl, ?_⟩; have p16 : 0 ≤ (x6_1 : Int) := of_decide_eq_true (by assumption); have q16 : x6_1 < (a0.size : Int) := of_decide_eq_true (by assumption); have hx16 := bt_at a0 x6_1; replace p16 := eq_true p16; replace q16 := eq_true q16))
                  go_ret
                  exact ⟨by first | rfl | (simp; done) | (simp [*]; done), by repeat (first | exact Drawn0.refl _ | apply Drawn0.step)⟩
                · rw [if_neg c18] at H
                  have c18b0 : decide (a1 ≤ (wrap64 ((wrap64 (bt a0 x6_1)) - 87))) = false := decide_eq_false c18
                  clear c18
                  by_cases c19 : a1 = 0
                  · rw [if_pos c19] at H
                    exact absurd H (by simp)
                  · rw [if_neg c19] at H
                    have c19b0 : (a1 == 0) = false := beq_eq_false_iff_ne.mpr c19
                    have c19b1 : (a1 != 0) = true := bne_iff_ne.mpr c19
                    by_cases c20 : x5_1 > (wrap64 (Int.tdiv (wrap64 (9007199254740991 - (wrap64 ((wrap64 (bt a0 x6_1)) - 87)))) a1))
                    · rw [if_pos c20] at H
                      have c20b0 : decide ((wrap64 (Int.tdiv (wrap64 (9007199254740991 - (wrap64 ((wrap64 (bt a0 x6_1)) - 87)))) a1)) < x5_1) = true := decide_eq_true c20
                      clear c20
                      obtain rfl := Option.some.inj H
                      have p5 : 0 ≤ (x6_1 : Int) := of_decide_eq_true (by assumption)
                      have q5 : x6_1 < (a0.size : Int) := of_decide_eq_true (by assumption)
                      have hx5 := bt_at a0 x6_1
                      replace p5 := eq_true p5
                      replace q5 := eq_true q5
                      go_wp2_with (first | ((with_reducible refine gate_callee (f := 46) rfl ?_); refine goesL_ (some 19) rfl rfl Tryd.func46 (by kernel_rfl) rfl #[.int .i64 (wrap64 (bt a0 x6_1)), .int .i64 48, .int .i64 57] rfl (by (try simp only [List.map_toArray, List.map_cons, List.map_nil]); first | done | rfl | (simp only [List.length_drop, List.length_take]; rfl)) ?_; (with_reducible refine (spec_l01In.calls (wrap64 (bt a0 x6_1)) 48 57 false _ A6.out).mono ?_); rintro e w' ⟨rfl, ⟨nd, rfl⟩⟩; refine ⟨_, rfl, ?_⟩; have p13 : 0 ≤ (x6_1 : Int) := of_decide_eq_true (by assumption); have q13 : x6_1 < (a0.size : Int) := of_decide_eq_true (by assumption); have hx13 := bt_at a0 x6_1; replace p13 := eq_true p13; replace q13 := eq_true q13) | ((with_reducible refine gate_callee (f := 46) rfl ?_); refine goesL_ (some 30) rfl rfl Tryd.func46 (by kernel_rfl) rfl #[.int .i64 (wrap64 (bt a0 x6_1)), .int .i64 97, .int .i64 102] rfl (by (try simp only [List.map_toArray, List.map_cons, List.map_nil]); first | done | rfl | (simp only [List.length_drop, List.length_take]; rfl)) ?_; (with_reducible refine (spec_l01In.calls (wrap64 (bt a0 x6_1)) 97 102 true _ A14.out).mono ?_); rintro e w' ⟨rfl, ⟨nd, rfl⟩⟩; refine ⟨_, rfl, ?_⟩; have p16 : 0 ≤ (x6_1 : Int) := of_decide_eq_true (by assumption); have q16 : x6_1 < (a0.size : Int) := of_decide_eq_true (by assumption); have hx16 := bt_at a0 x6_1; replace p16 := eq_true p16; replace q16 := eq_true q16))
                      go_ret
                      exact ⟨by first | rfl | (simp; done) | (simp [*]; done), by repeat (first | exact Drawn0.refl _ | apply Drawn0.step)⟩
                    · rw [if_neg c20] at H
                      have c20b0 : decide ((wrap64 (Int.tdiv (wrap64 (9007199254740991 - (wrap64 ((wrap64 (bt a0 x6_1)) - 87)))) a1)) < x5_1) = false := decide_eq_false c20
                      clear c20
                      have H' := Aside0.mk H
                      clear H
                      have p5 : 0 ≤ (x6_1 : Int) := of_decide_eq_true (by assumption)
                      have q5 : x6_1 < (a0.size : Int) := of_decide_eq_true (by assumption)
                      have hx5 := bt_at a0 x6_1
                      replace p5 := eq_true p5
                      replace q5 := eq_true q5
                      go_wp2_with (first | ((with_reducible refine gate_callee (f := 46) rfl ?_); refine goesL_ (some 19) rfl rfl Tryd.func46 (by kernel_rfl) rfl #[.int .i64 (wrap64 (bt a0 x6_1)), .int .i64 48, .int .i64 57] rfl (by (try simp only [List.map_toArray, List.map_cons, List.map_nil]); first | done | rfl | (simp only [List.length_drop, List.length_take]; rfl)) ?_; (with_reducible refine (spec_l01In.calls (wrap64 (bt a0 x6_1)) 48 57 false _ A6.out).mono ?_); rintro e w' ⟨rfl, ⟨nd, rfl⟩⟩; refine ⟨_, rfl, ?_⟩; have p13 : 0 ≤ (x6_1 : Int) := of_decide_eq_true (by assumption); have q13 : x6_1 < (a0.size : Int) := of_decide_eq_true (by assumption); have hx13 := bt_at a0 x6_1; replace p13 := eq_true p13; replace q13 := eq_true q13) | ((with_reducible refine gate_callee (f := 46) rfl ?_); refine goesL_ (some 30) rfl rfl Tryd.func46 (by kernel_rfl) rfl #[.int .i64 (wrap64 (bt a0 x6_1)), .int .i64 97, .int .i64 102] rfl (by (try simp only [List.map_toArray, List.map_cons, List.map_nil]); first | done | rfl | (simp only [List.length_drop, List.length_take]; rfl)) ?_; (with_reducible refine (spec_l01In.calls (wrap64 (bt a0 x6_1)) 97 102 true _ A14.out).mono ?_); rintro e w' ⟨rfl, ⟨nd, rfl⟩⟩; refine ⟨_, rfl, ?_⟩; have p16 : 0 ≤ (x6_1 : Int) := of_decide_eq_true (by assumption); have q16 : x6_1 < (a0.size : Int) := of_decide_eq_true (by assumption); have hx16 := bt_at a0 x6_1; replace p16 := eq_true p16; replace q16 := eq_true q16))
                      go_roundg k1
                      case measure => have := HK1.out; omega
                      case rel => exact ⟨(wrap64 ((wrap64 (x5_1 * a1)) + (wrap64 ((wrap64 (bt a0 x6_1)) - 87)))), (wrap64 (x6_1 + 1)), (by first | rfl | (simp; done) | (simp [*]; done)), (by first | rfl | (simp; done) | (simp [*]; done)), H', ⟨by have := HK1.out; omega⟩, by repeat (first | exact Drawn0.refl _ | apply Drawn0.step)⟩
            · replace c15 := Bool.eq_false_iff.mpr c15
              subst c15
              have H1 : (if (-1) < 0 then (some (-1)) else (if (-1) ≥ a1 then (some (-1)) else (if a1 = 0 then (none) else (if x5_1 > (wrap64 ((9007199254740991 - (-1)) / a1)) then (some (-1)) else (spec_l01Value.l0 k1 a0 a1 (wrap64 ((wrap64 (x5_1 * a1)) + (-1))) (wrap64 (x6_1 + 1))))))) = some r := by rw [if_neg (show ¬ (false = true) by decide)] at H; exact H
              clear H
              have H := H1
              clear H1
              by_cases c21 : (-1) < 0
              · rw [if_pos c21] at H
                have c21b0 : decide ((-1) < 0) = true := decide_eq_true c21
                clear c21
                obtain rfl := Option.some.inj H
                have p5 : 0 ≤ (x6_1 : Int) := of_decide_eq_true (by assumption)
                have q5 : x6_1 < (a0.size : Int) := of_decide_eq_true (by assumption)
                have hx5 := bt_at a0 x6_1
                replace p5 := eq_true p5
                replace q5 := eq_true q5
                go_wp2_with (first | ((with_reducible refine gate_callee (f := 46) rfl ?_); refine goesL_ (some 19) rfl rfl Tryd.func46 (by kernel_rfl) rfl #[.int .i64 (wrap64 (bt a0 x6_1)), .int .i64 48, .int .i64 57] rfl (by (try simp only [List.map_toArray, List.map_cons, List.map_nil]); first | done | rfl | (simp only [List.length_drop, List.length_take]; rfl)) ?_; (with_reducible refine (spec_l01In.calls (wrap64 (bt a0 x6_1)) 48 57 false _ A6.out).mono ?_); rintro e w' ⟨rfl, ⟨nd, rfl⟩⟩; refine ⟨_, rfl, ?_⟩; have p13 : 0 ≤ (x6_1 : Int) := of_decide_eq_true (by assumption); have q13 : x6_1 < (a0.size : Int) := of_decide_eq_true (by assumption); have hx13 := bt_at a0 x6_1; replace p13 := eq_true p13; replace q13 := eq_true q13) | ((with_reducible refine gate_callee (f := 46) rfl ?_); refine goesL_ (some 30) rfl rfl Tryd.func46 (by kernel_rfl) rfl #[.int .i64 (wrap64 (bt a0 x6_1)), .int .i64 97, .int .i64 102] rfl (by (try simp only [List.map_toArray, List.map_cons, List.map_nil]); first | done | rfl | (simp only [List.length_drop, List.length_take]; rfl)) ?_; (with_reducible refine (spec_l01In.calls (wrap64 (bt a0 x6_1)) 97 102 false _ A14.out).mono ?_); rintro e w' ⟨rfl, ⟨nd, rfl⟩⟩; refine ⟨_, rfl, ?_⟩))
                go_ret
                exact ⟨by first | rfl | (simp; done) | (simp [*]; done), by repeat (first | exact Drawn0.refl _ | apply Drawn0.step)⟩
              · exact absurd (by decide) c21
        · rw [if_neg c4] at H
          exact absurd H (by simp)
      · rw [if_neg c3] at H
        have c3b0 : decide (x6_1 < (a0.size : Int)) = false := decide_eq_false c3
        clear c3
        obtain rfl := Option.some.inj H
        go_wp2
        go_ret
        exact ⟨by first | rfl | (simp; done) | (simp [*]; done), by repeat (first | exact Drawn0.refl _ | apply Drawn0.step)⟩

/-! ### spec_DecText: function 56 -/
def spec_DecText.l0 : Nat → Int → ByteArray → Int → Option (ByteArray)
  | 0, _, _, _ => none
  | k + 1, x0, x3, x4 => if x4 = 0 then (if x0 < 0 then (if 1 + x3.size ≤ 9223372036854775807 then (some ((⟨#[45]⟩ : ByteArray) ++ x3)) else (none)) else (some x3)) else (if (Int.tmod x4 10) < 0 then (if 0 ≤ (wrap64 (-(Int.tmod x4 10))) then (if (wrap64 (-(Int.tmod x4 10))) ≤ (wrap64 ((wrap64 (-(Int.tmod x4 10))) + 1)) then (if (wrap64 ((wrap64 (-(Int.tmod x4 10))) + 1)) ≤ 10 then (if ((⟨#[48, 49, 50, 51, 52, 53, 54, 55, 56, 57]⟩ : ByteArray).extract ((wrap64 (-(Int.tmod x4 10))) : Int).toNat ((wrap64 ((wrap64 (-(Int.tmod x4 10))) + 1)) : Int).toNat).size + x3.size ≤ 9223372036854775807 then (spec_DecText.l0 k x0 (((⟨#[48, 49, 50, 51, 52, 53, 54, 55, 56, 57]⟩ : ByteArray).extract ((wrap64 (-(Int.tmod x4 10))) : Int).toNat ((wrap64 ((wrap64 (-(Int.tmod x4 10))) + 1)) : Int).toNat) ++ x3) (wrap64 (Int.tdiv x4 10))) else (none)) else (none)) else (none)) else (none)) else (if 0 ≤ (Int.tmod x4 10) then (if (Int.tmod x4 10) ≤ (wrap64 ((Int.tmod x4 10) + 1)) then (if (wrap64 ((Int.tmod x4 10) + 1)) ≤ 10 then (if ((⟨#[48, 49, 50, 51, 52, 53, 54, 55, 56, 57]⟩ : ByteArray).extract ((Int.tmod x4 10) : Int).toNat ((wrap64 ((Int.tmod x4 10) + 1)) : Int).toNat).size + x3.size ≤ 9223372036854775807 then (spec_DecText.l0 k x0 (((⟨#[48, 49, 50, 51, 52, 53, 54, 55, 56, 57]⟩ : ByteArray).extract ((Int.tmod x4 10) : Int).toNat ((wrap64 ((Int.tmod x4 10) + 1)) : Int).toNat) ++ x3) (wrap64 (Int.tdiv x4 10))) else (none)) else (none)) else (none)) else (none)))
def spec_DecText.f (k : Nat) (a0 : Int) : Option (ByteArray) := if a0 = 0 then (some (⟨#[48]⟩ : ByteArray)) else (spec_DecText.l0 k a0 (⟨#[]⟩ : ByteArray) a0)
theorem spec_DecText.mono_l : ∀ k, (∀ y0 y1 y2, LeO (spec_DecText.l0 k y0 y1 y2) (spec_DecText.l0 (k + 1) y0 y1 y2))
  | 0 => fun _ _ _ r h => by simp [spec_DecText.l0] at h
  | k + 1 => by
    have ih0 := spec_DecText.mono_l k
    · intro y0 y1 y2
      unfold spec_DecText.l0
      repeat' first
      | (with_reducible exact ih0 _ _ _)
      | (with_reducible exact LeO.refl _)
      | (with_reducible exact LeO.none _)
      | (with_reducible refine LeO.ite ?_ ?_)
      | (with_reducible refine LeO.bind ?_ (fun _ => ?_))
      | exact ih0 _ _ _
      | exact LeO.none _
      | refine LeO.ite ?_ ?_
      | refine LeO.bind ?_ (fun _ => ?_)
theorem spec_DecText.mono : ∀ a0 k, LeO (spec_DecText.f k a0) (spec_DecText.f (k + 1) a0) := by
  intro a0 k
  have ih0 := spec_DecText.mono_l k
  unfold spec_DecText.f
  repeat' first
      | (with_reducible exact ih0 _ _ _)
      | (with_reducible exact LeO.refl _)
      | (with_reducible exact LeO.none _)
      | (with_reducible refine LeO.ite ?_ ?_)
      | (with_reducible refine LeO.bind ?_ (fun _ => ?_))
      | exact ih0 _ _ _
      | exact LeO.none _
      | refine LeO.ite ?_ ?_
      | refine LeO.bind ?_ (fun _ => ?_)
set_option maxHeartbeats 8000000 in
set_option maxRecDepth 100000 in
theorem spec_DecText.calls (k : Nat) (a0 : Int) (r : ByteArray) (w : World) (h : spec_DecText.f k a0 = some r) :
    Calls Tryd.prog 56 #[.int .i64 a0] w fun e w' => e = .returned (.string r) ∧ Drawn0 w w' := by
  have H : (if a0 = 0 then (some (⟨#[48]⟩ : ByteArray)) else (spec_DecText.l0 k a0 (⟨#[]⟩ : ByteArray) a0)) = some r := h
  clear h
  by_cases c2 : a0 = 0
  · rw [if_pos c2] at H
    have c2b0 : (a0 == 0) = true := beq_iff_eq.mpr c2
    have c2b1 : (a0 != 0) = false := bne_eq_false_iff_eq.mpr c2
    clear c2
    obtain rfl := Option.some.inj H
    go_enter Tryd.func56, Tryd.ntmps56
    go_wp2
    go_ret
    exact ⟨by first | rfl | (simp; done) | (simp [*]; done), by repeat (first | exact Drawn0.refl _ | apply Drawn0.step)⟩
  · rw [if_neg c2] at H
    have c2b0 : (a0 == 0) = false := beq_eq_false_iff_ne.mpr c2
    have c2b1 : (a0 != 0) = true := bne_iff_ne.mpr c2
    have H' := Aside0.mk H
    clear H
    go_enter Tryd.func56, Tryd.ntmps56
    go_wp2
    go_loopg [3, 4] k (fun kq v3 v4 w' => ∃ (x3_1 : ByteArray) (x4_1 : Int), v3 = .string x3_1 ∧ v4 = .int .i64 x4_1 ∧ Aside0 (spec_DecText.l0 kq a0 x3_1 x4_1 = some r) ∧ Aside0 (kq ≤ k) ∧ Drawn0 w w')
    case atStart => exact ⟨((⟨#[]⟩ : ByteArray)), (a0), (by first | rfl | (simp; done) | (simp [*]; done)), (by first | rfl | (simp; done) | (simp [*]; done)), H', ⟨Nat.le_refl _⟩, by repeat (first | exact Drawn0.refl _ | apply Drawn0.step)⟩
    case round =>
      clear H'
      try clear c2
      try clear c2b0
      try clear c2b1
      try clear p2
      obtain ⟨x3_1, x4_1, rfl, rfl, HA, HK1, ⟨m1, rfl⟩⟩ := hrel
      cases gk with
      | zero => exact absurd HA.out (by simp [spec_DecText.l0])
      | succ k1 =>
        have H := HA.out
        clear HA
        simp only [spec_DecText.l0] at H
        by_cases c3 : x4_1 = 0
        · rw [if_pos c3] at H
          have c3b0 : (x4_1 == 0) = true := beq_iff_eq.mpr c3
          have c3b1 : (x4_1 != 0) = false := bne_eq_false_iff_eq.mpr c3
          clear c3
          by_cases c4 : a0 < 0
          · rw [if_pos c4] at H
            have c4b0 : decide (a0 < 0) = true := decide_eq_true c4
            clear c4
            by_cases c5 : 1 + x3_1.size ≤ 9223372036854775807
            · rw [if_pos c5] at H
              have c5b0 := eq_true c5
              have c5b1 : decide (1 + x3_1.size ≤ 9223372036854775807) = true := decide_eq_true c5
              try have c5b2 : (9223372036854775807 < 1 + x3_1.size) = False := eq_false (Nat.not_lt.2 c5)
              obtain rfl := Option.some.inj H
              go_wp2
              go_ret
              exact ⟨by first | rfl | (simp; done) | (simp [*]; done), by repeat (first | exact Drawn0.refl _ | apply Drawn0.step)⟩
            · rw [if_neg c5] at H
              exact absurd H (by simp)
          · rw [if_neg c4] at H
            have c4b0 : decide (a0 < 0) = false := decide_eq_false c4
            clear c4
            obtain rfl := Option.some.inj H
            go_wp2
            go_ret
            exact ⟨by first | rfl | (simp; done) | (simp [*]; done), by repeat (first | exact Drawn0.refl _ | apply Drawn0.step)⟩
        · rw [if_neg c3] at H
          have c3b0 : (x4_1 == 0) = false := beq_eq_false_iff_ne.mpr c3
          have c3b1 : (x4_1 != 0) = true := bne_iff_ne.mpr c3
          by_cases c6 : (Int.tmod x4_1 10) < 0
          · rw [if_pos c6] at H
            have c6b0 : decide ((Int.tmod x4_1 10) < 0) = true := decide_eq_true c6
            clear c6
            obtain ⟨ji7, hji7⟩ : ∃ j_ : Int, (wrap64 (-(Int.tmod x4_1 10))) = j_ := ⟨_, rfl⟩
            replace H : (if 0 ≤ (ji7) then (if (ji7) ≤ (wrap64 ((ji7) + 1)) then (if (wrap64 ((ji7) + 1)) ≤ 10 then (if ((⟨#[48, 49, 50, 51, 52, 53, 54, 55, 56, 57]⟩ : ByteArray).extract ((ji7) : Int).toNat ((wrap64 ((ji7) + 1)) : Int).toNat).size + x3_1.size ≤ 9223372036854775807 then (spec_DecText.l0 k1 a0 (((⟨#[48, 49, 50, 51, 52, 53, 54, 55, 56, 57]⟩ : ByteArray).extract ((ji7) : Int).toNat ((wrap64 ((ji7) + 1)) : Int).toNat) ++ x3_1) (wrap64 (Int.tdiv x4_1 10))) else (none)) else (none)) else (none)) else (none)) = some r := by first | (rw [hji7] at H; exact H) | (simp only [hji7] at H ⊢; exact H)
            have hji7w : (IntKind.i64.wrap (-(Int.tmod x4_1 10))) = ji7 := (i64_w _).trans hji7
            by_cases c8 : 0 ≤ (ji7)
            · rw [if_pos c8] at H
              have c8b0 := eq_true c8
              have c8b1 : decide (0 ≤ (ji7)) = true := decide_eq_true c8
              clear c8
              by_cases c9 : (ji7) ≤ (wrap64 ((ji7) + 1))
              · rw [if_pos c9] at H
                have c9b0 := eq_true c9
                have c9b1 : decide ((ji7) ≤ (wrap64 ((ji7) + 1))) = true := decide_eq_true c9
                by_cases c10 : (wrap64 ((ji7) + 1)) ≤ 10
                · rw [if_pos c10] at H
                  have c10b0 := eq_true c10
                  have c10b1 : decide ((wrap64 ((ji7) + 1)) ≤ 10) = true := decide_eq_true c10
                  by_cases c11 : ((⟨#[48, 49, 50, 51, 52, 53, 54, 55, 56, 57]⟩ : ByteArray).extract ((ji7) : Int).toNat ((wrap64 ((ji7) + 1)) : Int).toNat).size + x3_1.size ≤ 9223372036854775807
                  · rw [if_pos c11] at H
                    have c11b0 := eq_true c11
                    have c11b1 : decide (((⟨#[48, 49, 50, 51, 52, 53, 54, 55, 56, 57]⟩ : ByteArray).extract ((ji7) : Int).toNat ((wrap64 ((ji7) + 1)) : Int).toNat).size + x3_1.size ≤ 9223372036854775807) = true := decide_eq_true c11
                    try have c11b2 : (9223372036854775807 < ((⟨#[48, 49, 50, 51, 52, 53, 54, 55, 56, 57]⟩ : ByteArray).extract ((ji7) : Int).toNat ((wrap64 ((ji7) + 1)) : Int).toNat).size + x3_1.size) = False := eq_false (Nat.not_lt.2 c11)
                    have H' := Aside0.mk H
                    clear H
                    go_wp2
                    go_roundg k1
                    case measure => have := HK1.out; omega
                    case rel => exact ⟨(((⟨#[48, 49, 50, 51, 52, 53, 54, 55, 56, 57]⟩ : ByteArray).extract ((ji7) : Int).toNat ((wrap64 ((ji7) + 1)) : Int).toNat) ++ x3_1), (wrap64 (Int.tdiv x4_1 10)), (by first | rfl | (simp; done) | (simp only [← hji7] <;> (first | rfl | simp)) | (simp [*]; done)), (by first | rfl | (simp; done) | (simp [*]; done)), H', ⟨by have := HK1.out; omega⟩, by repeat (first | exact Drawn0.refl _ | apply Drawn0.step)⟩
                  · rw [if_neg c11] at H
                    exact absurd H (by simp)
                · rw [if_neg c10] at H
                  exact absurd H (by simp)
              · rw [if_neg c9] at H
                exact absurd H (by simp)
            · rw [if_neg c8] at H
              exact absurd H (by simp)
          · rw [if_neg c6] at H
            have c6b0 : decide ((Int.tmod x4_1 10) < 0) = false := decide_eq_false c6
            clear c6
            obtain ⟨ji12, hji12⟩ : ∃ j_ : Int, (Int.tmod x4_1 10) = j_ := ⟨_, rfl⟩
            replace H : (if 0 ≤ (ji12) then (if (ji12) ≤ (wrap64 ((ji12) + 1)) then (if (wrap64 ((ji12) + 1)) ≤ 10 then (if ((⟨#[48, 49, 50, 51, 52, 53, 54, 55, 56, 57]⟩ : ByteArray).extract ((ji12) : Int).toNat ((wrap64 ((ji12) + 1)) : Int).toNat).size + x3_1.size ≤ 9223372036854775807 then (spec_DecText.l0 k1 a0 (((⟨#[48, 49, 50, 51, 52, 53, 54, 55, 56, 57]⟩ : ByteArray).extract ((ji12) : Int).toNat ((wrap64 ((ji12) + 1)) : Int).toNat) ++ x3_1) (wrap64 (Int.tdiv x4_1 10))) else (none)) else (none)) else (none)) else (none)) = some r := by first | (rw [hji12] at H; exact H) | (simp only [hji12] at H ⊢; exact H)
            (try rw [hji12] at c6b0)
            by_cases c13 : 0 ≤ (ji12)
            · rw [if_pos c13] at H
              have c13b0 := eq_true c13
              have c13b1 : decide (0 ≤ (ji12)) = true := decide_eq_true c13
              clear c13
              by_cases c14 : (ji12) ≤ (wrap64 ((ji12) + 1))
              · rw [if_pos c14] at H
                have c14b0 := eq_true c14
                have c14b1 : decide ((ji12) ≤ (wrap64 ((ji12) + 1))) = true := decide_eq_true c14
                by_cases c15 : (wrap64 ((ji12) + 1)) ≤ 10
                · rw [if_pos c15] at H
                  have c15b0 := eq_true c15
                  have c15b1 : decide ((wrap64 ((ji12) + 1)) ≤ 10) = true := decide_eq_true c15
                  by_cases c16 : ((⟨#[48, 49, 50, 51, 52, 53, 54, 55, 56, 57]⟩ : ByteArray).extract ((ji12) : Int).toNat ((wrap64 ((ji12) + 1)) : Int).toNat).size + x3_1.size ≤ 9223372036854775807
                  · rw [if_pos c16] at H
                    have c16b0 := eq_true c16
                    have c16b1 : decide (((⟨#[48, 49, 50, 51, 52, 53, 54, 55, 56, 57]⟩ : ByteArray).extract ((ji12) : Int).toNat ((wrap64 ((ji12) + 1)) : Int).toNat).size + x3_1.size ≤ 9223372036854775807) = true := decide_eq_true c16
                    try have c16b2 : (9223372036854775807 < ((⟨#[48, 49, 50, 51, 52, 53, 54, 55, 56, 57]⟩ : ByteArray).extract ((ji12) : Int).toNat ((wrap64 ((ji12) + 1)) : Int).toNat).size + x3_1.size) = False := eq_false (Nat.not_lt.2 c16)
                    have H' := Aside0.mk H
                    clear H
                    go_wp2
                    go_roundg k1
                    case measure => have := HK1.out; omega
                    case rel => exact ⟨(((⟨#[48, 49, 50, 51, 52, 53, 54, 55, 56, 57]⟩ : ByteArray).extract ((ji12) : Int).toNat ((wrap64 ((ji12) + 1)) : Int).toNat) ++ x3_1), (wrap64 (Int.tdiv x4_1 10)), (by first | rfl | (simp; done) | (simp only [← hji12] <;> (first | rfl | simp)) | (simp [*]; done)), (by first | rfl | (simp; done) | (simp [*]; done)), H', ⟨by have := HK1.out; omega⟩, by repeat (first | exact Drawn0.refl _ | apply Drawn0.step)⟩
                  · rw [if_neg c16] at H
                    exact absurd H (by simp)
                · rw [if_neg c15] at H
                  exact absurd H (by simp)
              · rw [if_neg c14] at H
                exact absurd H (by simp)
            · rw [if_neg c13] at H
              exact absurd H (by simp)

/-! ### spec_ReadDec: function 20 -/
def spec_ReadDec.f (k : Nat) (a0 : ByteArray) : Option (Int) := (spec_l01Value.f k a0 10).bind fun t103 => (if a0.toList = ([] : List UInt8) then (some (-1)) else (if (a0.size : Int) > 6 then (some (-1)) else ((spec_DecText.f k t103).bind fun t104 => (if t104.toList = a0.toList then (some t103) else (some (-1))))))
theorem spec_ReadDec.mono : ∀ a0 k, LeO (spec_ReadDec.f k a0) (spec_ReadDec.f (k + 1) a0) := by
  intro a0 k
  unfold spec_ReadDec.f
  repeat' first
      | (with_reducible exact spec_DecText.mono _ _)
      | (with_reducible exact spec_l01Value.mono _ _ _)
      | (with_reducible exact LeO.refl _)
      | (with_reducible exact LeO.none _)
      | (with_reducible refine LeO.ite ?_ ?_)
      | (with_reducible refine LeO.bind ?_ (fun _ => ?_))
      | exact spec_DecText.mono _ _
      | exact spec_l01Value.mono _ _ _
      | exact LeO.none _
      | refine LeO.ite ?_ ?_
      | refine LeO.bind ?_ (fun _ => ?_)
set_option maxHeartbeats 8000000 in
set_option maxRecDepth 100000 in
theorem spec_ReadDec.calls (k : Nat) (a0 : ByteArray) (r : Int) (w : World) (h : spec_ReadDec.f k a0 = some r) :
    Calls Tryd.prog 20 #[.string a0] w fun e w' => e = .returned (.int .i64 r) ∧ Drawn0 w w' := by
  have H : ((spec_l01Value.f k a0 10).bind fun t103 => (if a0.toList = ([] : List UInt8) then (some (-1)) else (if (a0.size : Int) > 6 then (some (-1)) else ((spec_DecText.f k t103).bind fun t104 => (if t104.toList = a0.toList then (some t103) else (some (-1))))))) = some r := h
  clear h
  replace H := Option.bind_eq_some_iff.mp H
  obtain ⟨t103, A20, H⟩ := H
  replace H : (if a0.toList = ([] : List UInt8) then (some (-1)) else (if (a0.size : Int) > 6 then (some (-1)) else ((spec_DecText.f k t103).bind fun t104 => (if t104.toList = a0.toList then (some t103) else (some (-1)))))) = some r := H
  have A2 := Aside0.mk A20
  clear A20
  by_cases c3 : a0.toList = ([] : List UInt8)
  · rw [if_pos c3] at H
    have c3b0 : (a0.toList == ([] : List UInt8)) = true := beq_iff_eq.mpr c3
    have c3b0i : (a0.toList).isEmpty = true := (by cases a0.toList <;> rfl : (a0.toList == ([] : List UInt8)) = (a0.toList).isEmpty).symm.trans c3b0
    have c3b1 : (a0.toList != ([] : List UInt8)) = false := bne_eq_false_iff_eq.mpr c3
    clear c3
    obtain rfl := Option.some.inj H
    go_enter Tryd.func20, Tryd.ntmps20
    go_wp2_with (first | ((with_reducible refine gate_callee (f := 52) rfl ?_); refine goesL_ (some 5) rfl rfl Tryd.func52 (by kernel_rfl) rfl #[.string a0, .int .i64 10] rfl (by (try simp only [List.map_toArray, List.map_cons, List.map_nil]); first | done | rfl | (simp only [List.length_drop, List.length_take]; rfl)) ?_; (with_reducible refine (spec_l01Value.calls k a0 10 t103 _ A2.out).mono ?_); rintro e w' ⟨rfl, ⟨nd, rfl⟩⟩; refine ⟨_, rfl, ?_⟩))
    all_goals try (rename_i h_; rw [c3b0i] at h_; cases h_; done)
    go_ret
    exact ⟨by first | rfl | (simp; done) | (simp [*]; done), by repeat (first | exact Drawn0.refl _ | apply Drawn0.step)⟩
  · rw [if_neg c3] at H
    have c3b0 : (a0.toList == ([] : List UInt8)) = false := beq_eq_false_iff_ne.mpr c3
    have c3b0i : (a0.toList).isEmpty = false := (by cases a0.toList <;> rfl : (a0.toList == ([] : List UInt8)) = (a0.toList).isEmpty).symm.trans c3b0
    have c3b1 : (a0.toList != ([] : List UInt8)) = true := bne_iff_ne.mpr c3
    by_cases c4 : (a0.size : Int) > 6
    · rw [if_pos c4] at H
      have c4b0 : decide (6 < (a0.size : Int)) = true := decide_eq_true c4
      have c4b1 : decide (6 < a0.size) = true := decide_eq_true (by omega)
      clear c4
      obtain rfl := Option.some.inj H
      go_enter Tryd.func20, Tryd.ntmps20
      go_wp2_with (first | ((with_reducible refine gate_callee (f := 52) rfl ?_); refine goesL_ (some 5) rfl rfl Tryd.func52 (by kernel_rfl) rfl #[.string a0, .int .i64 10] rfl (by (try simp only [List.map_toArray, List.map_cons, List.map_nil]); first | done | rfl | (simp only [List.length_drop, List.length_take]; rfl)) ?_; (with_reducible refine (spec_l01Value.calls k a0 10 t103 _ A2.out).mono ?_); rintro e w' ⟨rfl, ⟨nd, rfl⟩⟩; refine ⟨_, rfl, ?_⟩))
      all_goals try (rename_i h_; rw [c3b0i] at h_; cases h_; done)
      go_ret
      exact ⟨by first | rfl | (simp; done) | (simp [*]; done), by repeat (first | exact Drawn0.refl _ | apply Drawn0.step)⟩
    · rw [if_neg c4] at H
      have c4b0 : decide (6 < (a0.size : Int)) = false := decide_eq_false c4
      have c4b1 : decide (6 < a0.size) = false := decide_eq_false (by omega)
      clear c4
      replace H := Option.bind_eq_some_iff.mp H
      obtain ⟨t104, A50, H⟩ := H
      replace H : (if t104.toList = a0.toList then (some t103) else (some (-1))) = some r := H
      have A5 := Aside0.mk A50
      clear A50
      by_cases c6 : t104.toList = a0.toList
      · rw [if_pos c6] at H
        have c6b0 : (t104.toList == a0.toList) = true := beq_iff_eq.mpr c6
        have c6b1 : (t104.toList != a0.toList) = false := bne_eq_false_iff_eq.mpr c6
        clear c6
        obtain rfl := Option.some.inj H
        go_enter Tryd.func20, Tryd.ntmps20
        go_wp2_with (first | ((with_reducible refine gate_callee (f := 52) rfl ?_); refine goesL_ (some 5) rfl rfl Tryd.func52 (by kernel_rfl) rfl #[.string a0, .int .i64 10] rfl (by (try simp only [List.map_toArray, List.map_cons, List.map_nil]); first | done | rfl | (simp only [List.length_drop, List.length_take]; rfl)) ?_; (with_reducible refine (spec_l01Value.calls k a0 10 t103 _ A2.out).mono ?_); rintro e w' ⟨rfl, ⟨nd, rfl⟩⟩; refine ⟨_, rfl, ?_⟩) | (go_at_call 56; (with_reducible refine (spec_DecText.calls k t103 t104 _ A5.out).mono ?_); rintro e w' ⟨rfl, ⟨nd, rfl⟩⟩))
        all_goals try (rename_i h_; rw [c3b0i] at h_; cases h_; done)
        go_ret
        exact ⟨by first | rfl | (simp; done) | (simp [*]; done), by repeat (first | exact Drawn0.refl _ | apply Drawn0.step)⟩
      · rw [if_neg c6] at H
        have c6b0 : (t104.toList == a0.toList) = false := beq_eq_false_iff_ne.mpr c6
        have c6b1 : (t104.toList != a0.toList) = true := bne_iff_ne.mpr c6
        obtain rfl := Option.some.inj H
        go_enter Tryd.func20, Tryd.ntmps20
        go_wp2_with (first | ((with_reducible refine gate_callee (f := 52) rfl ?_); refine goesL_ (some 5) rfl rfl Tryd.func52 (by kernel_rfl) rfl #[.string a0, .int .i64 10] rfl (by (try simp only [List.map_toArray, List.map_cons, List.map_nil]); first | done | rfl | (simp only [List.length_drop, List.length_take]; rfl)) ?_; (with_reducible refine (spec_l01Value.calls k a0 10 t103 _ A2.out).mono ?_); rintro e w' ⟨rfl, ⟨nd, rfl⟩⟩; refine ⟨_, rfl, ?_⟩) | (go_at_call 56; (with_reducible refine (spec_DecText.calls k t103 t104 _ A5.out).mono ?_); rintro e w' ⟨rfl, ⟨nd, rfl⟩⟩))
        all_goals try (rename_i h_; rw [c3b0i] at h_; cases h_; done)
        go_ret
        exact ⟨by first | rfl | (simp; done) | (simp [*]; done), by repeat (first | exact Drawn0.refl _ | apply Drawn0.step)⟩

/-! ### impl_within: function 55 -/
def impl_within.f (a0 : Int) (a1 : Int) (a2 : Int) : Option (Bool) := if a1 ≤ a0 then (some (decide (a0 ≤ a2))) else (some false)
set_option maxHeartbeats 8000000 in
set_option maxRecDepth 100000 in
theorem impl_within.calls (a0 : Int) (a1 : Int) (a2 : Int) (r : Bool) (w : World) (h : impl_within.f a0 a1 a2 = some r) :
    Calls Tryd.prog 55 #[.int .i64 a0, .int .i64 a1, .int .i64 a2] w fun e w' => e = .returned (.bool r) ∧ Drawn0 w w' := by
  have H : (if a1 ≤ a0 then (some (decide (a0 ≤ a2))) else (some false)) = some r := h
  clear h
  by_cases c4 : a1 ≤ a0
  · rw [if_pos c4] at H
    have c4b0 : decide (a1 ≤ a0) = true := decide_eq_true c4
    clear c4
    obtain rfl := Option.some.inj H
    go_enter Tryd.func55, Tryd.ntmps55
    go_wp2
    go_ret
    exact ⟨by first | rfl | (simp; done) | (simp [*]; done), by repeat (first | exact Drawn0.refl _ | apply Drawn0.step)⟩
  · rw [if_neg c4] at H
    have c4b0 : decide (a1 ≤ a0) = false := decide_eq_false c4
    clear c4
    obtain rfl := Option.some.inj H
    go_enter Tryd.func55, Tryd.ntmps55
    go_wp2
    go_ret
    exact ⟨by first | rfl | (simp; done) | (simp [*]; done), by repeat (first | exact Drawn0.refl _ | apply Drawn0.step)⟩

/-! ### strconv_Itoa: function 100, by a contract of our own -/
/-- The decimal text. -/
def strconv_Itoa.f (a0 : Int) : Option ByteArray := if -9223372036854775808 ≤ a0 ∧ a0 ≤ 9223372036854775807 then some ⟨(Lib.itoa a0).toArray⟩ else none
theorem strconv_Itoa.calls (a0 : Int) (r : ByteArray) (w : World) (h : strconv_Itoa.f a0 = some r) (hL : Tabs w) :
    Calls Tryd.prog 100 #[.int .i64 a0] w fun e w' => e = .returned (.string r) ∧ Below w.heap.size w w' := by
  unfold strconv_Itoa.f at h
  by_cases hb : -9223372036854775808 ≤ a0 ∧ a0 ≤ 9223372036854775807
  · rw [if_pos hb] at h
    obtain rfl := Option.some.inj h
    refine (Tryd.strconv_Itoa a0 hb.1 hb.2 w hL.1.1).mono fun e w' he => ?_
    obtain ⟨rfl, k, os, rfl⟩ := he
    exact ⟨rfl, below_grow_ _ _ _⟩
  · rw [if_neg hb] at h
    cases h

/-! ### impl_DecText: function 58 -/
def impl_DecText.f (a0 : Int) : Option (ByteArray) := (strconv_Itoa.f a0).bind fun t105 => (some t105)
set_option maxHeartbeats 8000000 in
set_option maxRecDepth 100000 in
theorem impl_DecText.calls (a0 : Int) (r : ByteArray) (w : World) (h : impl_DecText.f a0 = some r) (hL : Tabs w) :
    Calls Tryd.prog 58 #[.int .i64 a0] w fun e w' => e = .returned (.string r) ∧ Below w.heap.size w w' := by
  have HL := Aside0.mk hL
  clear hL
  have HB := Aside0.mk (Below.refl w.heap.size w)
  have H : ((strconv_Itoa.f a0).bind fun t105 => (some t105)) = some r := h
  clear h
  replace H := Option.bind_eq_some_iff.mp H
  obtain ⟨t105, A20, H⟩ := H
  replace H : (some t105) = some r := H
  have A2 := Aside0.mk A20
  clear A20
  obtain rfl := Option.some.inj H
  go_enter Tryd.func58, Tryd.ntmps58
  go_wp2_with (first | ((with_reducible refine gate_callee (f := 100) rfl ?_); refine goesL_ (some 4) rfl rfl Tryd.func100 (by kernel_rfl) rfl #[.int .i64 a0] rfl (by (try simp only [List.map_toArray, List.map_cons, List.map_nil]); first | done | rfl | (simp only [List.length_drop, List.length_take]; rfl)) ?_; (with_reducible refine (strconv_Itoa.calls a0 t105 _ A2.out (Tabs.below HL.out (by repeat (first | (with_reducible first | exact HB.out | apply below_alloc | apply pw_below_drewN | apply below_drew1) | exact HB.out)))).mono ?_); rintro e w3 ⟨rfl, hb⟩; refine ⟨_, rfl, ?_⟩; have n0_ := Aside0.mk (below_step (by repeat (first | (with_reducible first | exact HB.out | apply below_alloc | apply pw_below_drewN | apply below_drew1) | exact HB.out)) hb); clear HB; have HB := n0_; clear n0_; (try clear hb); (try clear hb2); (try clear hk); (try clear hi)))
  go_ret
  exact ⟨by first | rfl | (simp [errW_none, errW_some] <;> rfl) | (simp [*, errW_none, errW_some] <;> rfl) | (simp only [decide_eq_true_eq] at *; simp [*, bt]; done), by repeat (first | (with_reducible first | exact HB.out | apply below_alloc | apply pw_below_drewN | apply below_drew1) | exact HB.out)⟩

/-! ### impl_ReadDec: function 21, by a contract of our own -/
/-- strconv.Atoi at every text: its number, or an error. -/
theorem atoi_okR (s : ByteArray) (hs : s.size ≤ 140737488355328) (v : Int) (h : Lib.atoiAll s.data.toList = .ok v) (w : World) :
    Calls Tryd.prog 57 #[.string s] w fun e w' => e = .returned (.tuple #[.int .i64 v, .nilIface]) ∧ Below w.heap.size w w' := by
  refine (Tryd.strconv_Atoi_ok s (by omega) v h w).mono fun e w' he => ?_
  obtain ⟨rfl, rfl | ⟨t, rfl⟩⟩ := he
  · exact ⟨rfl, Below.refl _ _⟩
  · exact ⟨rfl, bytes_below (Below.refl _ _) (Nat.le_refl _) _ t⟩
theorem atoi_errR (s : ByteArray) (hs : s.size ≤ 140737488355328) (h : ∀ v, Lib.atoiAll s.data.toList ≠ .ok v) (w : World) (hL : Tabs w) :
    Calls Tryd.prog 57 #[.string s] w fun e w' => ∃ z T q, e = .returned (.tuple #[.int .i64 z, .iface T (.pointer (some q))]) ∧ Below w.heap.size w w' := by
  obtain ⟨⟨t1, p1, h1⟩, t2, p2, h2⟩ := hL.2
  rcases hq : Lib.atoiAll s.data.toList with v | _ | _
  · exact absurd hq (h v)
  · refine (Tryd.strconv_Atoi_syntax s (by omega) hq (.iface t1 p1) w h1 (Or.inr ⟨_, _, rfl⟩)).mono fun e w' he => ?_
    obtain ⟨N, rfl, _, _, hb⟩ := he
    exact ⟨_, _, _, rfl, hb⟩
  · refine (Tryd.strconv_Atoi_range s (by omega) hq (.iface t2 p2) w h2 (Or.inr ⟨_, _, rfl⟩)).mono fun e w' he => ?_
    obtain ⟨N, rfl, _, _, hb⟩ := he
    exact ⟨_, _, _, rfl, hb⟩
def impl_ReadDec.f (a0 : ByteArray) : Option Int :=
  if a0.size ≤ 140737488355328 then (match Lib.atoiAll a0.data.toList with
    | .ok v => if 0 ≤ v ∧ v ≤ 999999 then (impl_DecText.f v).bind fun t => if t.toList = a0.toList then some v else some (-1) else some (-1)
    | _ => some (-1)) else none
set_option maxRecDepth 100000 in
set_option maxHeartbeats 4000000 in
theorem impl_ReadDec.calls (a0 : ByteArray) (r : Int) (w : World) (h : impl_ReadDec.f a0 = some r) (hL : Tabs w) :
    Calls Tryd.prog 21 #[.string a0] w fun e w' => e = .returned (.int .i64 r) ∧ Below w.heap.size w w' := by
  unfold impl_ReadDec.f at h
  by_cases hs : a0.size ≤ 140737488355328
  case neg =>
    rw [if_neg hs] at h
    cases h
  rw [if_pos hs] at h
  have err : (∀ v, Lib.atoiAll a0.data.toList ≠ .ok v) → Calls Tryd.prog 21 #[.string a0] w fun e w' => e = .returned (.int .i64 (-1)) ∧ Below w.heap.size w w' := by
    intro hne
    have hA := atoi_errR a0 hs hne w hL
    clear h hL hne
    go_enter Tryd.func21, Tryd.ntmps21
    go_wp2_with (go_at_call 57; refine hA.mono ?_; rintro e w1 ⟨z, T, q, rfl, hb1⟩)
    go_ret
    exact ⟨rfl, hb1⟩
  rcases hq : Lib.atoiAll a0.data.toList with v | _ | _
  rotate_left
  · rw [hq] at h
    obtain rfl := Option.some.inj h
    exact err (fun v e => by rw [hq] at e; cases e)
  · rw [hq] at h
    obtain rfl := Option.some.inj h
    exact err (fun v e => by rw [hq] at e; cases e)
  · rw [hq] at h
    simp only at h
    have hA := fun W => atoi_okR a0 hs v hq W
    clear hq err
    by_cases hv : 0 ≤ v ∧ v ≤ 999999
    · rw [if_pos hv] at h
      obtain ⟨t, ht, h⟩ := Option.bind_eq_some_iff.1 h
      have hD := fun W hT => impl_DecText.calls v t W ht hT
      have hW := fun W => impl_within.calls v 0 999999 true W (by unfold impl_within.f; rw [if_pos hv.1, decide_eq_true hv.2])
      have HT := Aside0.mk hL
      clear hL ht
      cases hc : (t.toList == a0.toList) with
      | true =>
        rw [if_pos (by simpa using hc)] at h
        obtain rfl := Option.some.inj h
        clear h hv
        go_enter Tryd.func21, Tryd.ntmps21
        go_wp2_with (first | (go_at_call 57; refine (hA _).mono ?_; rintro e w1 ⟨rfl, hb1⟩) | (go_at_call 55; refine (hW _).mono ?_; rintro e w2 ⟨rfl, q, rfl⟩) | (go_at_call 58; refine (hD _ (Tabs.below HT.out (hb1.trans ((pw_below_drewN (Below.refl _ _) q : Below _ _ _).mono (Nat.le_refl _))))).mono ?_; rintro e w3 ⟨rfl, hb3⟩))
        go_ret
        exact ⟨rfl, (hb1.trans ((pw_below_drewN (Below.refl _ _) q).mono hb1.size)).trans (hb3.mono (Nat.le_trans hb1.size (by simp)))⟩
      | false =>
        rw [if_neg (by simpa using hc)] at h
        obtain rfl := Option.some.inj h
        clear h hv
        go_enter Tryd.func21, Tryd.ntmps21
        go_wp2_with (first | (go_at_call 57; refine (hA _).mono ?_; rintro e w1 ⟨rfl, hb1⟩) | (go_at_call 55; refine (hW _).mono ?_; rintro e w2 ⟨rfl, q, rfl⟩) | (go_at_call 58; refine (hD _ (Tabs.below HT.out (hb1.trans ((pw_below_drewN (Below.refl _ _) q : Below _ _ _).mono (Nat.le_refl _))))).mono ?_; rintro e w3 ⟨rfl, hb3⟩))
        go_ret
        exact ⟨rfl, (hb1.trans ((pw_below_drewN (Below.refl _ _) q).mono hb1.size)).trans (hb3.mono (Nat.le_trans hb1.size (by simp)))⟩
    · rw [if_neg hv] at h
      obtain rfl := Option.some.inj h
      have hW := fun W => impl_within.calls v 0 999999 false W (by unfold impl_within.f; by_cases c : (0 : Int) ≤ v <;> simp only [c, if_true, if_false] <;> first | rfl | rw [decide_eq_false (by omega)])
      clear h hv hL
      go_enter Tryd.func21, Tryd.ntmps21
      go_wp2_with (first | (go_at_call 57; refine (hA _).mono ?_; rintro e w1 ⟨rfl, hb1⟩) | (go_at_call 55; refine (hW _).mono ?_; rintro e w2 ⟨rfl, q, rfl⟩))
      go_ret
      exact ⟨rfl, hb1.trans ((pw_below_drewN (Below.refl _ _) q).mono hb1.size)⟩

/-! ### laws_FnExactReadDec: function 6 -/
def laws_FnExactReadDec.f (k : Nat) (a0 : ByteArray) : Option (Bool) := if (a0.size : Int) > 1048576 then (some true) else ((spec_ReadDec.f k a0).bind fun t106 => ((impl_ReadDec.f a0).bind fun t107 => (if t107 = t106 then (some true) else (some false))))
theorem laws_FnExactReadDec.mono : ∀ a0 k, LeO (laws_FnExactReadDec.f k a0) (laws_FnExactReadDec.f (k + 1) a0) := by
  intro a0 k
  unfold laws_FnExactReadDec.f
  repeat' first
      | (with_reducible exact spec_ReadDec.mono _ _)
      | (with_reducible exact LeO.refl _)
      | (with_reducible exact LeO.none _)
      | (with_reducible refine LeO.ite ?_ ?_)
      | (with_reducible refine LeO.bind ?_ (fun _ => ?_))
      | exact spec_ReadDec.mono _ _
      | exact LeO.none _
      | refine LeO.ite ?_ ?_
      | refine LeO.bind ?_ (fun _ => ?_)
set_option maxHeartbeats 8000000 in
set_option maxRecDepth 100000 in
theorem laws_FnExactReadDec.calls (k : Nat) (a0 : ByteArray) (r : Bool) (w : World) (h : laws_FnExactReadDec.f k a0 = some r) (hL : Tabs w) :
    Calls Tryd.prog 6 #[.string a0] w fun e w' => e = .returned (.bool r) ∧ Below w.heap.size w w' := by
  have HL := Aside0.mk hL
  clear hL
  have HB := Aside0.mk (Below.refl w.heap.size w)
  have H : (if (a0.size : Int) > 1048576 then (some true) else ((spec_ReadDec.f k a0).bind fun t106 => ((impl_ReadDec.f a0).bind fun t107 => (if t107 = t106 then (some true) else (some false))))) = some r := h
  clear h
  by_cases c2 : (a0.size : Int) > 1048576
  · rw [if_pos c2] at H
    have c2b0 : decide (1048576 < (a0.size : Int)) = true := decide_eq_true c2
    have c2b1 : decide (1048576 < a0.size) = true := decide_eq_true (by omega)
    clear c2
    obtain rfl := Option.some.inj H
    go_enter Tryd.func6, Tryd.ntmps6
    go_wp2
    go_ret
    exact ⟨by first | rfl | (simp [errW_none, errW_some] <;> rfl) | (simp [*, errW_none, errW_some] <;> rfl) | (simp only [decide_eq_true_eq] at *; simp [*, bt]; done), by repeat (first | (with_reducible first | exact HB.out | apply below_alloc | apply pw_below_drewN | apply below_drew1) | exact HB.out)⟩
  · rw [if_neg c2] at H
    have c2b0 : decide (1048576 < (a0.size : Int)) = false := decide_eq_false c2
    have c2b1 : decide (1048576 < a0.size) = false := decide_eq_false (by omega)
    clear c2
    replace H := Option.bind_eq_some_iff.mp H
    obtain ⟨t106, A30, H⟩ := H
    replace H : ((impl_ReadDec.f a0).bind fun t107 => (if t107 = t106 then (some true) else (some false))) = some r := H
    have A3 := Aside0.mk A30
    clear A30
    replace H := Option.bind_eq_some_iff.mp H
    obtain ⟨t107, A40, H⟩ := H
    replace H : (if t107 = t106 then (some true) else (some false)) = some r := H
    have A4 := Aside0.mk A40
    clear A40
    by_cases c5 : t107 = t106
    · rw [if_pos c5] at H
      have c5b0 : (t107 == t106) = true := beq_iff_eq.mpr c5
      have c5b1 : (t107 != t106) = false := bne_eq_false_iff_eq.mpr c5
      clear c5
      obtain rfl := Option.some.inj H
      go_enter Tryd.func6, Tryd.ntmps6
      go_wp2_with (first | ((with_reducible refine gate_callee (f := 20) rfl ?_); refine goesL_ (some 9) rfl rfl Tryd.func20 (by kernel_rfl) rfl #[.string a0] rfl (by (try simp only [List.map_toArray, List.map_cons, List.map_nil]); first | done | rfl | (simp only [List.length_drop, List.length_take]; rfl)) ?_; (with_reducible refine (spec_ReadDec.calls k a0 t106 _ A3.out).mono ?_); rintro e w' ⟨rfl, ⟨nd, rfl⟩⟩; refine ⟨_, rfl, ?_⟩) | ((with_reducible refine gate_callee (f := 21) rfl ?_); refine goesL_ (some 11) rfl rfl Tryd.func21 (by kernel_rfl) rfl #[.string a0] rfl (by (try simp only [List.map_toArray, List.map_cons, List.map_nil]); first | done | rfl | (simp only [List.length_drop, List.length_take]; rfl)) ?_; (with_reducible refine (impl_ReadDec.calls a0 t107 _ A4.out (Tabs.below HL.out (by repeat (first | (with_reducible first | exact HB.out | apply below_alloc | apply pw_below_drewN | apply below_drew1) | exact HB.out)))).mono ?_); rintro e w6 ⟨rfl, hb⟩; refine ⟨_, rfl, ?_⟩; have n0_ := Aside0.mk (below_step (by repeat (first | (with_reducible first | exact HB.out | apply below_alloc | apply pw_below_drewN | apply below_drew1) | exact HB.out)) hb); clear HB; have HB := n0_; clear n0_; (try clear hb); (try clear hb2); (try clear hk); (try clear hi)))
      go_ret
      exact ⟨by first | rfl | (simp [errW_none, errW_some] <;> rfl) | (simp [*, errW_none, errW_some] <;> rfl) | (simp only [decide_eq_true_eq] at *; simp [*, bt]; done), by repeat (first | (with_reducible first | exact HB.out | apply below_alloc | apply pw_below_drewN | apply below_drew1) | exact HB.out)⟩
    · rw [if_neg c5] at H
      have c5b0 : (t107 == t106) = false := beq_eq_false_iff_ne.mpr c5
      have c5b1 : (t107 != t106) = true := bne_iff_ne.mpr c5
      obtain rfl := Option.some.inj H
      go_enter Tryd.func6, Tryd.ntmps6
      go_wp2_with (first | ((with_reducible refine gate_callee (f := 20) rfl ?_); refine goesL_ (some 9) rfl rfl Tryd.func20 (by kernel_rfl) rfl #[.string a0] rfl (by (try simp only [List.map_toArray, List.map_cons, List.map_nil]); first | done | rfl | (simp only [List.length_drop, List.length_take]; rfl)) ?_; (with_reducible refine (spec_ReadDec.calls k a0 t106 _ A3.out).mono ?_); rintro e w' ⟨rfl, ⟨nd, rfl⟩⟩; refine ⟨_, rfl, ?_⟩) | ((with_reducible refine gate_callee (f := 21) rfl ?_); refine goesL_ (some 11) rfl rfl Tryd.func21 (by kernel_rfl) rfl #[.string a0] rfl (by (try simp only [List.map_toArray, List.map_cons, List.map_nil]); first | done | rfl | (simp only [List.length_drop, List.length_take]; rfl)) ?_; (with_reducible refine (impl_ReadDec.calls a0 t107 _ A4.out (Tabs.below HL.out (by repeat (first | (with_reducible first | exact HB.out | apply below_alloc | apply pw_below_drewN | apply below_drew1) | exact HB.out)))).mono ?_); rintro e w7 ⟨rfl, hb⟩; refine ⟨_, rfl, ?_⟩; have n0_ := Aside0.mk (below_step (by repeat (first | (with_reducible first | exact HB.out | apply below_alloc | apply pw_below_drewN | apply below_drew1) | exact HB.out)) hb); clear HB; have HB := n0_; clear n0_; (try clear hb); (try clear hb2); (try clear hk); (try clear hi)))
      go_ret
      exact ⟨by first | rfl | (simp [errW_none, errW_some] <;> rfl) | (simp [*, errW_none, errW_some] <;> rfl) | (simp only [decide_eq_true_eq] at *; simp [*, bt]; done), by repeat (first | (with_reducible first | exact HB.out | apply below_alloc | apply pw_below_drewN | apply below_drew1) | exact HB.out)⟩

/-- THE ONE PURE STATEMENT of laws_FnExactReadDec: yours. -/
def laws_FnExactReadDec.Pure : Prop := ∀ (a0 : ByteArray), a0.size ≤ 140737488351232 → ∃ k, laws_FnExactReadDec.f k a0 = some true

end Go.Proofs.YtmdmhcganiaogaaDoor.PFnExactReadDec
