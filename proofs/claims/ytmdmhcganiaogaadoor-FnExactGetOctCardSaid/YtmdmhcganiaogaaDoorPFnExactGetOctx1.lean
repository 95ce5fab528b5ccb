-- PRINTED for this claim by a program of this session's repo over the kit's printer, with contracts of our own among the functions.
import Derived.Test.YtmdmhcganiaogaaDoorPFnExactGetOctx0
namespace Go.Proofs.YtmdmhcganiaogaaDoor.PFnExactGetOct
open Go.RowKit Go.Proofs.YtmdmhcganiaogaaDoorW.PrintWords Go.Proofs.YtmdmhcganiaogaaDoorW.PrintLast Go.Proofs.YtmdmhcganiaogaaDoorW.PrintMore
attribute [local go_sem] max2_int min2_int max_two min_two max_three min_three max_four min_four   -- for this text's walks alone
set_option linter.unusedVariables false
set_option linter.unusedSimpArgs false

/-! ### spec_l01In: function 46 -/
def spec_l01In.f (a0 : Int) (a1 : Int) (a2 : Int) : Option (Bool) := if a0 ≥ a1 then (some (decide (a0 ≤ a2))) else (some false)
set_option maxHeartbeats 8000000 in
set_option maxRecDepth 100000 in
theorem spec_l01In.calls (a0 : Int) (a1 : Int) (a2 : Int) (r : Bool) (w : World) (h : spec_l01In.f a0 a1 a2 = some r) :
    Calls Tryd.prog 46 #[.int .i64 a0, .int .i64 a1, .int .i64 a2] w fun e w' => e = .returned (.bool r) ∧ Drawn0 w w' := by
  have H : (if a0 ≥ a1 then (some (decide (a0 ≤ a2))) else (some false)) = some r := h
  clear h
  by_cases c4 : a0 ≥ a1
  · rw [if_pos c4] at H
    have c4b0 : decide (a1 ≤ a0) = true := decide_eq_true c4
    clear c4
    obtain rfl := Option.some.inj H
    go_enter Tryd.func46, Tryd.ntmps46
    go_wp2
    go_ret
    exact ⟨by first | rfl | (simp; done) | (simp [*]; done), by repeat (first | exact Drawn0.refl _ | apply Drawn0.step)⟩
  · rw [if_neg c4] at H
    have c4b0 : decide (a1 ≤ a0) = false := decide_eq_false c4
    clear c4
    obtain rfl := Option.some.inj H
    go_enter Tryd.func46, Tryd.ntmps46
    go_wp2
    go_ret
    exact ⟨by first | rfl | (simp; done) | (simp [*]; done), by repeat (first | exact Drawn0.refl _ | apply Drawn0.step)⟩

/-! ### spec_l01Value: function 52 -/
def spec_l01Value.l0 : Nat → ByteArray → Int → Int → Int → Option (Int)
  | 0, _, _, _, _ => none
  | k + 1, x0, x1, x5, x6 => if x6 < (x0.size : Int) then (if 0 ≤ x6 then ((spec_l01In.f (wrap64 (bt x0 x6)) 48 57).bind fun t101 => (if t101 = true then (if (wrap64 ((wrap64 (bt x0 x6)) - 48)) < 0 then (some (-1)) else (if (wrap64 ((wrap64 (bt x0 x6)) - 48)) ≥ x1 then (some (-1)) else (if x1 = 0 then (none) else (if x5 > (wrap64 (Int.tdiv (wrap64 (9007199254740991 - (wrap64 ((wrap64 (bt x0 x6)) - 48)))) x1)) then (some (-1)) else (spec_l01Value.l0 k x0 x1 (wrap64 ((wrap64 (x5 * x1)) + (wrap64 ((wrap64 (bt x0 x6)) - 48)))) (wrap64 (x6 + 1))))))) else ((spec_l01In.f (wrap64 (bt x0 x6)) 97 102).bind fun t102 => (if t102 = true then (if (wrap64 ((wrap64 (bt x0 x6)) - 87)) < 0 then (some (-1)) else (if (wrap64 ((wrap64 (bt x0 x6)) - 87)) ≥ x1 then (some (-1)) else (if x1 = 0 then (none) else (if x5 > (wrap64 (Int.tdiv (wrap64 (9007199254740991 - (wrap64 ((wrap64 (bt x0 x6)) - 87)))) x1)) then (some (-1)) else (spec_l01Value.l0 k x0 x1 (wrap64 ((wrap64 (x5 * x1)) + (wrap64 ((wrap64 (bt x0 x6)) - 87)))) (wrap64 (x6 + 1))))))) else (if (-1) < 0 then (some (-1)) else (if (-1) ≥ x1 then (some (-1)) else (if x1 = 0 then (none) else (if x5 > (wrap64 ((9007199254740991 - (-1)) / x1)) then (some (-1)) else (spec_l01Value.l0 k x0 x1 (wrap64 ((wrap64 (x5 * x1)) + (-1))) (wrap64 (x6 + 1))))))))))) else (none)) else (some x5)
def spec_l01Value.f (k : Nat) (a0 : ByteArray) (a1 : Int) : Option (Int) := spec_l01Value.l0 k a0 a1 0 0
theorem spec_l01Value.mono_l : ∀ k, (∀ y0 y1 y2 y3, LeO (spec_l01Value.l0 k y0 y1 y2 y3) (spec_l01Value.l0 (k + 1) y0 y1 y2 y3))
  | 0 => fun _ _ _ _ r h => by simp [spec_l01Value.l0] at h
  | k + 1 => by
    have ih0 := spec_l01Value.mono_l k
    · intro y0 y1 y2 y3
      unfold spec_l01Value.l0
      repeat' first
      | (with_reducible exact ih0 _ _ _ _)
      | (with_reducible exact LeO.refl _)
      | (with_reducible exact LeO.none _)
      | (with_reducible refine LeO.ite ?_ ?_)
      | (with_reducible refine LeO.bind ?_ (fun _ => ?_))
      | exact ih0 _ _ _ _
      | exact LeO.none _
      | refine LeO.ite ?_ ?_
      | refine LeO.bind ?_ (fun _ => ?_)
theorem spec_l01Value.mono : ∀ a0 a1 k, LeO (spec_l01Value.f k a0 a1) (spec_l01Value.f (k + 1) a0 a1) := by
  intro a0 a1 k
  have ih0 := spec_l01Value.mono_l k
  unfold spec_l01Value.f
  repeat' first
      | (with_reducible exact ih0 _ _ _ _)
      | (with_reducible exact LeO.refl _)
      | (with_reducible exact LeO.none _)
      | (with_reducible refine LeO.ite ?_ ?_)
      | (with_reducible refine LeO.bind ?_ (fun _ => ?_))
      | exact ih0 _ _ _ _
      | exact LeO.none _
      | refine LeO.ite ?_ ?_
      | refine LeO.bind ?_ (fun _ => ?_)
set_option maxHeartbeats 8000000 in
set_option maxRecDepth 100000 in
theorem spec_l01Value.calls (k : Nat) (a0 : ByteArray) (a1 : Int) (r : Int) (w : World) (h : spec_l01Value.f k a0 a1 = some r) :
    Calls Tryd.prog 52 #[.string a0, .int .i64 a1] w fun e w' => e = .returned (.int .i64 r) ∧ Drawn0 w w' := by
  have H : (spec_l01Value.l0 k a0 a1 0 0) = some r := h
  clear h
  have H' := Aside0.mk H
  clear H
  go_enter Tryd.func52, Tryd.ntmps52
  go_wp2
  go_loopg [5, 6] k (fun kq v5 v6 w' => ∃ (x5_1 : Int) (x6_1 : Int), v5 = .int .i64 x5_1 ∧ v6 = .int .i64 x6_1 ∧ Aside0 (spec_l01Value.l0 kq a0 a1 x5_1 x6_1 = some r) ∧ Aside0 (kq ≤ k) ∧ Drawn0 w w')
  case atStart => exact ⟨(0), (0), (by first | rfl | (simp; done) | (simp [*]; done)), (by first | rfl | (simp; done) | (simp [*]; done)), H', ⟨Nat.le_refl _⟩, by repeat (first | exact Drawn0.refl _ | apply Drawn0.step)⟩
  case round =>
    clear H'
    try clear p2
    obtain ⟨x5_1, x6_1, rfl, rfl, HA, HK1, ⟨m1, rfl⟩⟩ := hrel
    cases gk with
    | zero => exact absurd HA.out (by simp [spec_l01Value.l0])
    | succ k1 =>
      have H := HA.out
      clear HA
      simp only [spec_l01Value.l0] at H
      by_cases c3 : x6_1 < (a0.size : Int)
      · rw [if_pos c3] at H
        have c3b0 : decide (x6_1 < (a0.size : Int)) = true := decide_eq_true c3
        clear c3
        by_cases c4 : 0 ≤ x6_1
        · rw [if_pos c4] at H
          have c4b0 : decide (0 ≤ x6_1) = true := decide_eq_true c4
          clear c4
          replace H := Option.bind_eq_some_iff.mp H
          obtain ⟨t101, A60, H⟩ := H
          replace H : (if t101 = true then (if (wrap64 ((wrap64 (bt a0 x6_1)) - 48)) < 0 then (some (-1)) else (if (wrap64 ((wrap64 (bt a0 x6_1)) - 48)) ≥ a1 then (some (-1)) else (if a1 = 0 then (none) else (if x5_1 > (wrap64 (Int.tdiv (wrap64 (9007199254740991 - (wrap64 ((wrap64 (bt a0 x6_1)) - 48)))) a1)) then (some (-1)) else (spec_l01Value.l0 k1 a0 a1 (wrap64 ((wrap64 (x5_1 * a1)) + (wrap64 ((wrap64 (bt a0 x6_1)) - 48)))) (wrap64 (x6_1 + 1))))))) else ((spec_l01In.f (wrap64 (bt a0 x6_1)) 97 102).bind fun t102 => (if t102 = true then (if (wrap64 ((wrap64 (bt a0 x6_1)) - 87)) < 0 then (some (-1)) else (if (wrap64 ((wrap64 (bt a0 x6_1)) - 87)) ≥ a1 then (some (-1)) else (if a1 = 0 then (none) else (if x5_1 > (wrap64 (Int.tdiv (wrap64 (9007199254740991 - (wrap64 ((wrap64 (bt a0 x6_1)) - 87)))) a1)) then (some (-1)) else (spec_l01Value.l0 k1 a0 a1 (wrap64 ((wrap64 (x5_1 * a1)) + (wrap64 ((wrap64 (bt a0 x6_1)) - 87)))) (wrap64 (x6_1 + 1))))))) else (if (-1) < 0 then (some (-1)) else (if (-1) ≥ a1 then (some (-1)) else (if a1 = 0 then (none) else (if x5_1 > (wrap64 ((9007199254740991 - (-1)) / a1)) then (some (-1)) else (spec_l01Value.l0 k1 a0 a1 (wrap64 ((wrap64 (x5_1 * a1)) + (-1))) (wrap64 (x6_1 + 1)))))))))) = some r := H
          have A6 := Aside0.mk A60
          clear A60
          by_cases c7 : t101 = true
          · subst c7
            have H1 : (if (wrap64 ((wrap64 (bt a0 x6_1)) - 48)) < 0 then (some (-1)) else (if (wrap64 ((wrap64 (bt a0 x6_1)) - 48)) ≥ a1 then (some (-1)) else (if a1 = 0 then (none) else (if x5_1 > (wrap64 (Int.tdiv (wrap64 (9007199254740991 - (wrap64 ((wrap64 (bt a0 x6_1)) - 48)))) a1)) then (some (-1)) else (spec_l01Value.l0 k1 a0 a1 (wrap64 ((wrap64 (x5_1 * a1)) + (wrap64 ((wrap64 (bt a0 x6_1)) - 48)))) (wrap64 (x6_1 + 1))))))) = some r := by rw [if_pos rfl] at H; exact H
            clear H
            have H := H1
            clear H1
            by_cases c9 : (wrap64 ((wrap64 (bt a0 x6_1)) - 48)) < 0
            · rw [if_pos c9] at H
              have c9b0 : decide ((wrap64 ((wrap64 (bt a0 x6_1)) - 48)) < 0) = true := decide_eq_true c9
              clear c9
              obtain rfl := Option.some.inj H
              have p5 : 0 ≤ (x6_1 : Int) := of_decide_eq_true (by assumption)
              have q5 : x6_1 < (a0.size : Int) := of_decide_eq_true (by assumption)
              have hx5 := bt_at a0 x6_1
              replace p5 := eq_true p5
              replace q5 := eq_true q5
              go_wp2_with (first | ((with_reducible refine gate_callee (f := 46) rfl ?_); refine goesL_ (some 19) rfl rfl Tryd.func46 (by kernel_rfl) rfl #[.int .i64 (wrap64 (bt a0 x6_1)), .int .i64 48, .int .i64 57] rfl (by (try simp only [List.map_toArray, List.map_cons, List.map_nil]); first | done | rfl | (simp only [List.length_drop, List.length_take]; rfl)) ?_; (with_reducible refine (spec_l01In.calls (wrap64 (bt a0 x6_1)) 48 57 true _ A6.out).mono ?_); rintro e w' ⟨rfl, ⟨nd, rfl⟩⟩; refine ⟨_, rfl, ?_⟩; have p8 : 0 ≤ (x6_1 : Int) := of_decide_eq_true (by assumption); have q8 : x6_1 < (a0.size : Int) := of_decide_eq_true (by assumption); have hx8 := bt_at a0 x6_1; replace p8 := eq_true p8; replace q8 := eq_true q8))
              go_ret
              exact ⟨by first | rfl | (simp; done) | (simp [*]; done), by repeat (first | exact Drawn0.refl _ | apply Drawn0.step)⟩
            · rw [if_neg c9] at H
              have c9b0 : decide ((wrap64 ((wrap64 (bt a0 x6_1)) - 48)) < 0) = false := decide_eq_false c9
              clear c9
              by_cases c10 : (wrap64 ((wrap64 (bt a0 x6_1)) - 48)) ≥ a1
              · rw [if_pos c10] at H
                have c10b0 : decide (a1 ≤ (wrap64 ((wrap64 (bt a0 x6_1)) - 48))) = true := decide_eq_true c10
                clear c10
                obtain rfl := Option.some.inj H
                have p5 : 0 ≤ (x6_1 : Int) := of_decide_eq_true (by assumption)
                have q5 : x6_1 < (a0.size : Int) := of_decide_eq_true (by assumption)
                have hx5 := bt_at a0 x6_1
                replace p5 := eq_true p5
                replace q5 := eq_true q5
                go_wp2_with (first | ((with_reducible refine gate_callee (f := 46) rfl ?_); refine goesL_ (some 19) rfl rfl Tryd.func46 (by kernel_rfl) rfl #[.int .i64 (wrap64 (bt a0 x6_1)), .int .i64 48, .int .i64 57] rfl (by (try simp only [List.map_toArray, List.map_cons, List.map_nil]); first | done | rfl | (simp only [List.length_drop, List.length_take]; rfl)) ?_; (with_reducible refine (spec_l01In.calls (wrap64 (bt a0 x6_1)) 48 57 true _ A6.out).mono ?_); rintro e w' ⟨rfl, ⟨nd, rfl⟩⟩; refine ⟨_, rfl, ?_⟩; have p8 : 0 ≤ (x6_1 : Int) := of_decide_eq_true (by assumption); have q8 : x6_1 < (a0.size : Int) := of_decide_eq_true (by assumption); have hx8 := bt_at a0 x6_1; replace p8 := eq_true p8; replace q8 := eq_true q8))
                go_ret
                exact ⟨by first | rfl | (simp; done) | (simp [*]; done), by repeat (first | exact Drawn0.refl _ | apply Drawn0.step)⟩
              · rw [if_neg c10] at H
                have c10b0 : decide (a1 ≤ (wrap64 ((wrap64 (bt a0 x6_1)) - 48))) = false := decide_eq_false c10
                clear c10
                by_cases c11 : a1 = 0
                · rw [if_pos c11] at H
                  exact absurd H (by simp)
                · rw [if_neg c11] at H
                  have c11b0 : (a1 == 0) = false := beq_eq_false_iff_ne.mpr c11
                  have c11b1 : (a1 != 0) = true := bne_iff_ne.mpr c11
                  by_cases c12 : x5_1 > (wrap64 (Int.tdiv (wrap64 (9007199254740991 - (wrap64 ((wrap64 (bt a0 x6_1)) - 48)))) a1))
                  · rw [if_pos c12] at H
                    have c12b0 : decide ((wrap64 (Int.tdiv (wrap64 (9007199254740991 - (wrap64 ((wrap64 (bt a0 x6_1)) - 48)))) a1)) < x5_1) = true := decide_eq_true c12
                    clear c12
                    obtain rfl := Option.some.inj H
                    have p5 : 0 ≤ (x6_1 : Int) := of_decide_eq_true (by assumption)
                    have q5 : x6_1 < (a0.size : Int) := of_decide_eq_true (by assumption)
                    have hx5 := bt_at a0 x6_1
                    replace p5 := eq_true p5
                    replace q5 := eq_true q5
                    go_wp2_with (first | ((with_reducible refine gate_callee (f := 46) rfl ?_); refine goesL_ (some 19) rfl rfl Tryd.func46 (by kernel_rfl) rfl #[.int .i64 (wrap64 (bt a0 x6_1)), .int .i64 48, .int .i64 57] rfl (by (try simp only [List.map_toArray, List.map_cons, List.map_nil]); first | done | rfl | (simp only [List.length_drop, List.length_take]; rfl)) ?_; (with_reducible refine (spec_l01In.calls (wrap64 (bt a0 x6_1)) 48 57 true _ A6.out).mono ?_); rintro e w' ⟨rfl, ⟨nd, rfl⟩⟩; refine ⟨_, rfl, ?_⟩; have p8 : 0 ≤ (x6_1 : Int) := of_decide_eq_true (by assumption); have q8 : x6_1 < (a0.size : Int) := of_decide_eq_true (by assumption); have hx8 := bt_at a0 x6_1; replace p8 := eq_true p8; replace q8 := eq_true q8))
                    go_ret
                    exact ⟨by first | rfl | (simp; done) | (simp [*]; done), by repeat (first | exact Drawn0.refl _ | apply Drawn0.step)⟩
                  · rw [if_neg c12] at H
                    have c12b0 : decide ((wrap64 (Int.tdiv (wrap64 (9007199254740991 - (wrap64 ((wrap64 (bt a0 x6_1)) - 48)))) a1)) < x5_1) = false := decide_eq_false c12
                    clear c12
                    have H' := Aside0.mk H
                    clear H
                    have p5 : 0 ≤ (x6_1 : Int) := of_decide_eq_true (by assumption)
                    have q5 : x6_1 < (a0.size : Int) := of_decide_eq_true (by assumption)
                    have hx5 := bt_at a0 x6_1
                    replace p5 := eq_true p5
                    replace q5 := eq_true q5
                    go_wp2_with (first | ((with_reducible refine gate_callee (f := 46) rfl ?_); refine goesL_ (some 19) rfl rfl Tryd.func46 (by kernel_rfl) rfl #[.int .i64 (wrap64 (bt a0 x6_1)), .int .i64 48, .int .i64 57] rfl (by (try simp only [List.map_toArray, List.map_cons, List.map_nil]); first | done | rfl | (simp only [List.length_drop, List.length_take]; rfl)) ?_; (with_reducible refine (spec_l01In.calls (wrap64 (bt a0 x6_1)) 48 57 true _ A6.out).mono ?_); rintro e w' ⟨rfl, ⟨nd, rfl⟩⟩; refine ⟨_, rfl, ?_⟩; have p8 : 0 ≤ (x6_1 : Int) := of_decide_eq_true (by assumption); have q8 : x6_1 < (a0.size : Int) := of_decide_eq_true (by assumption); have hx8 := bt_at a0 x6_1; replace p8 := eq_true p8; replace q8 := eq_true q8))
                    go_roundg k1
                    case measure => have := HK1.out; omega
                    case rel => exact ⟨(wrap64 ((wrap64 (x5_1 * a1)) + (wrap64 ((wrap64 (bt a0 x6_1)) - 48)))), (wrap64 (x6_1 + 1)), (by first | rfl | (simp; done) | (simp [*]; done)), (by first | rfl | (simp; done) | (simp [*]; done)), H', ⟨by have := HK1.out; omega⟩, by repeat (first | exact Drawn0.refl _ | apply Drawn0.step)⟩
          · replace c7 := Bool.eq_false_iff.mpr c7
            subst c7
            have H1 : ((spec_l01In.f (wrap64 (bt a0 x6_1)) 97 102).bind fun t102 => (if t102 = true then (if (wrap64 ((wrap64 (bt a0 x6_1)) - 87)) < 0 then (some (-1)) else (if (wrap64 ((wrap64 (bt a0 x6_1)) - 87)) ≥ a1 then (some (-1)) else (if a1 = 0 then (none) else (if x5_1 > (wrap64 (Int.tdiv (wrap64 (9007199254740991 - (wrap64 ((wrap64 (bt a0 x6_1)) - 87)))) a1)) then (some (-1)) else (spec_l01Value.l0 k1 a0 a1 (wrap64 ((wrap64 (x5_1 * a1)) + (wrap64 ((wrap64 (bt a0 x6_1)) - 87)))) (wrap64 (x6_1 + 1))))))) else (if (-1) < 0 then (some (-1)) else (if (-1) ≥ a1 then (some (-1)) else (if a1 = 0 then (none) else (if x5_1 > (wrap64 ((9007199254740991 - (-1)) / a1)) then (some (-1)) else (spec_l01Value.l0 k1 a0 a1 (wrap64 ((wrap64 (x5_1 * a1)) + (-1))) (wrap64 (x6_1 + 1))))))))) = some r := by rw [if_neg (show ¬ (false = true) by decide)] at H; exact H
            clear H
            have H := H1
            clear H1
            replace H := Option.bind_eq_some_iff.mp H
            obtain ⟨t102, A140, H⟩ := H
            replace H : (if t102 = true then (if (wrap64 ((wrap64 (bt a0 x6_1)) - 87)) < 0 then (some (-1)) else (if (wrap64 ((wrap64 (bt a0 x6_1)) - 87)) ≥ a1 then (some (-1)) else (if a1 = 0 then (none) else (if x5_1 > (wrap64 (Int.tdiv (wrap64 (9007199254740991 - (wrap64 ((wrap64 (bt a0 x6_1)) - 87)))) a1)) then (some (-1)) else (spec_l01Value.l0 k1 a0 a1 (wrap64 ((wrap64 (x5_1 * a1)) + (wrap64 ((wrap64 (bt a0 x6_1)) - 87)))) (wrap64 (x6_1 + 1))))))) else (if (-1) < 0 then (some (-1)) else (if (-1) ≥ a1 then (some (-1)) else (if a1 = 0 then (none) else (if x5_1 > (wrap64 ((9007199254740991 - (-1)) / a1)) then (some (-1)) else (spec_l01Value.l0 k1 a0 a1 (wrap64 ((wrap64 (x5_1 * a1)) + (-1))) (wrap64 (x6_1 + 1)))))))) = some r := H
            have A14 := Aside0.mk A140
            clear A140
            by_cases c15 : t102 = true
            · subst c15
              have H1 : (if (wrap64 ((wrap64 (bt a0 x6_1)) - 87)) < 0 then (some (-1)) else (if (wrap64 ((wrap64 (bt a0 x6_1)) - 87)) ≥ a1 then (some (-1)) else (if a1 = 0 then (none) else (if x5_1 > (wrap64 (Int.tdiv (wrap64 (9007199254740991 - (wrap64 ((wrap64 (bt a0 x6_1)) - 87)))) a1)) then (some (-1)) else (spec_l01Value.l0 k1 a0 a1 (wrap64 ((wrap64 (x5_1 * a1)) + (wrap64 ((wrap64 (bt a0 x6_1)) - 87)))) (wrap64 (x6_1 + 1))))))) = some r := by rw [if_pos rfl] at H; exact H
              clear H
              have H := H1
              clear H1
              by_cases c17 : (wrap64 ((wrap64 (bt a0 x6_1)) - 87)) < 0
              · rw [if_pos c17] at H
                have c17b0 : decide ((wrap64 ((wrap64 (bt a0 x6_1)) - 87)) < 0) = true := decide_eq_true c17
                clear c17
                obtain rfl := Option.some.inj H
                have p5 : 0 ≤ (x6_1 : Int) := of_decide_eq_true (by assumption)
                have q5 : x6_1 < (a0.size : Int) := of_decide_eq_true (by assumption)
                have hx5 := bt_at a0 x6_1
                replace p5 := eq_true p5
                replace q5 := eq_true q5
                go_wp2_with (first | ((with_reducible refine gate_callee (f := 46) rfl ?_); refine goesL_ (some 19) rfl rfl Tryd.func46 (by kernel_rfl) rfl #[.int .i64 (wrap64 (bt a0 x6_1)), .int .i64 48, .int .i64 57] rfl (by (try simp only [List.map_toArray, List.map_cons, List.map_nil]); first | done | rfl | (simp only [List.length_drop, List.length_take]; rfl)) ?_; (with_reducible refine (spec_l01In.calls (wrap64 (bt a0 x6_1)) 48 57 false _ A6.out).mono ?_); rintro e w' ⟨rfl, ⟨nd, rfl⟩⟩; refine ⟨_, rfl, ?_⟩; have p13 : 0 ≤ (x6_1 : Int) := of_decide_eq_true (by assumption); have q13 : x6_1 < (a0.size : Int) := of_decide_eq_true (by assumption); have hx13 := bt_at a0 x6_1; replace p13 := eq_true p13; replace q13 := eq_true q13) | ((with_reducible refine gate_callee (f := 46) rfl ?_); refine goesL_ (some 30) rfl rfl Tryd.func46 (by kernel_rfl) rfl #[.int .i64 (wrap64 (bt a0 x6_1)), .int .i64 97, .int .i64 102] rfl (by (try simp only [List.map_toArray, List.map_cons, List.map_nil]); first | done | rfl | (simp only [List.length_drop, List.length_take]; rfl)) ?_; (with_reducible refine (spec_l01In.calls (wrap64 (bt a0 x6_1)) 97 102 true _ A14.out).mono ?_); rintro e w' ⟨rfl, ⟨nd, rfl⟩⟩; refine ⟨_, rfl, ?_⟩; have p16 : 0 ≤ (x6_1 : Int) := of_decide_eq_true (by assumption); have q16 : x6_1 < (a0.size : Int) := of_decide_eq_true (by assumption); have hx16 := bt_at a0 x6_1; replace p16 := eq_true p16; replace q16 := eq_true q16))
                go_ret
                exact ⟨by first | rfl | (simp; done) | (simp [*]; done), by repeat (first | exact Drawn0.refl _ | apply Drawn0.step)⟩
              · rw [if_neg c17] at H
                have c17b0 : decide ((wrap64 ((wrap64 (bt a0 x6_1)) - 87)) < 0) = false := decide_eq_false c17
                clear c17
                by_cases c18 : (wrap64 ((wrap64 (bt a0 x6_1)) - 87)) ≥ a1
                · rw [if_pos c18] at H
                  have c18b0 : decide (a1 ≤ (wrap64 ((wrap64 (bt a0 x6_1)) - 87))) = true := decide_eq_true c18
                  clear c18
                  obtain rfl := Option.some.inj H
                  have p5 : 0 ≤ (x6_1 : Int) := of_decide_eq_true (by assumption)
                  have q5 : x6_1 < (a0.size : Int) := of_decide_eq_true (by assumption)
                  have hx5 := bt_at a0 x6_1
                  replace p5 := eq_true p5
                  replace q5 := eq_true q5
                  go_wp2_with (first | ((with_reducible refine gate_callee (f := 46) rfl ?_); refine goesL_ (some 19) rfl rfl Tryd.func46 (by kernel_rfl) rfl #[.int .i64 (wrap64 (bt a0 x6_1)), .int .i64 48, .int .i64 57] rfl (by (try simp only [List.map_toArray, List.map_cons, List.map_nil]); first | done | rfl | (simp only [List.length_drop, List.length_take]; rfl)) ?_; (with_reducible refine (spec_l01In.calls (wrap64 (bt a0 x6_1)) 48 57 false _ A6.out).mono ?_); rintro e w' ⟨rfl, ⟨nd, rfl⟩⟩; refine ⟨_, rfl, ?_⟩; have p13 : 0 ≤ (x6_1 : Int) := of_decide_eq_true (by assumption); have q13 : x6_1 < (a0.size : Int) := of_decide_eq_true (by assumption); have hx13 := bt_at a0 x6_1; replace p13 := eq_true p13; replace q13 := eq_true q13) | ((with_reducible refine gate_callee (f := 46) rfl ?_); refine goesL_ (some 30) rfl rfl Tryd.func46 (by kernel_rfl) rfl #[.int .i64 (wrap64 (bt a0 x6_1)), .int .i64 97, .int .i64 102] rfl (by (try simp only [List.map_toArray, List.map_cons, List.map_nil]); first | done | rfl | (simp only [List.length_drop, List.length_take]; rfl)) ?_; (with_reducible refine (spec_l01In.calls (wrap64 (bt a0 x6_1)) 97 102 true _ A14.out).mono ?_); rintro e w' ⟨rfl, ⟨nd, rfl⟩⟩; refine ⟨_, rfl, ?_⟩; have p16 : 0 ≤ (x6_1 : Int) := of_decide_eq_true (by assumption); have q16 : x6_1 < (a0.size : Int) := of_decide_eq_true (by assumption); have hx16 := bt_at a0 x6_1; replace p16 := eq_true p16; replace q16 := eq_true q16))
                  go_ret
                  exact ⟨by first | rfl | (simp; done) | (simp [*]; done), by repeat (first | exact Drawn0.refl _ | apply Drawn0.step)⟩
                · rw [if_neg c18] at H
                  have c18b0 : decide (a1 ≤ (wrap64 ((wrap64 (bt a0 x6_1)) - 87))) = false := decide_eq_false c18
                  clear c18
                  by_cases c19 : a1 = 0
                  · rw [if_pos c19] at H
                    exact absurd H (by simp)
                  · rw [if_neg c19] at H
                    have c19b0 : (a1 == 0) = false := beq_eq_false_iff_ne.mpr c19
                    have c19b1 : (a1 != 0) = true := bne_iff_ne.mpr c19
                    by_cases c20 : x5_1 > (wrap64 (Int.tdiv (wrap64 (9007199254740991 - (wrap64 ((wrap64 (bt a0 x6_1)) - 87)))) a1))
                    · rw [if_pos c20] at H
                      have c20b0 : decide ((wrap64 (Int.tdiv (wrap64 (9007199254740991 - (wrap64 ((wrap64 (bt a0 x6_1)) - 87)))) a1)) < x5_1) = true := decide_eq_true c20
                      clear c20
                      obtain rfl := Option.some.inj H
                      have p5 : 0 ≤ (x6_1 : Int) := of_decide_eq_true (by assumption)
                      have q5 : x6_1 < (a0.size : Int) := of_decide_eq_true (by assumption)
                      have hx5 := bt_at a0 x6_1
                      replace p5 := eq_true p5
                      replace q5 := eq_true q5
                      go_wp2_with (first | ((with_reducible refine gate_callee (f := 46) rfl ?_); refine goesL_ (some 19) rfl rfl Tryd.func46 (by kernel_rfl) rfl #[.int .i64 (wrap64 (bt a0 x6_1)), .int .i64 48, .int .i64 57] rfl (by (try simp only [List.map_toArray, List.map_cons, List.map_nil]); first | done | rfl | (simp only [List.length_drop, List.length_take]; rfl)) ?_; (with_reducible refine (spec_l01In.calls (wrap64 (bt a0 x6_1)) 48 57 false _ A6.out).mono ?_); rintro e w' ⟨rfl, ⟨nd, rfl⟩⟩; refine ⟨_, rfl, ?_⟩; have p13 : 0 ≤ (x6_1 : Int) := of_decide_eq_true (by assumption); have q13 : x6_1 < (a0.size : Int) := of_decide_eq_true (by assumption); have hx13 := bt_at a0 x6_1; replace p13 := eq_true p13; replace q13 := eq_true q13) | ((with_reducible refine gate_callee (f := 46) rfl ?_); refine goesL_ (some 30) rfl rfl Tryd.func46 (by kernel_rfl) rfl #[.int .i64 (wrap64 (bt a0 x6_1)), .int .i64 97, .int .i64 102] rfl (by (try simp only [List.map_toArray, List.map_cons, List.map_nil]); first | done | rfl | (simp only [List.length_drop, List.length_take]; rfl)) ?_; (with_reducible refine (spec_l01In.calls (wrap64 (bt a0 x6_1)) 97 102 true _ A14.out).mono ?_); rintro e w' ⟨rfl, ⟨nd, rfl⟩⟩; refine ⟨_, rfl, ?_⟩; have p16 : 0 ≤ (x6_1 : Int) := of_decide_eq_true (by assumption); have q16 : x6_1 < (a0.size : Int) := of_decide_eq_true (by assumption); have hx16 := bt_at a0 x6_1; replace p16 := eq_true p16; replace q16 := eq_true q16))
                      go_ret
                      exact ⟨by first | rfl | (simp; done) | (simp [*]; done), by repeat (first | exact Drawn0.refl _ | apply Drawn0.step)⟩
                    · rw [if_neg c20] at H
                      have c20b0 : decide ((wrap64 (Int.tdiv (wrap64 (9007199254740991 - (wrap64 ((wrap64 (bt a0 x6_1)) - 87)))) a1)) < x5_1) = false := decide_eq_false c20
                      clear c20
                      have H' := Aside0.mk H
                      clear H
                      have p5 : 0 ≤ (x6_1 : Int) := of_decide_eq_true (by assumption)
                      have q5 : x6_1 < (a0.size : Int) := of_decide_eq_true (by assumption)
                      have hx5 := bt_at a0 x6_1
                      replace p5 := eq_true p5
                      replace q5 := eq_true q5
                      go_wp2_with (first | ((with_reducible refine gate_callee (f := 46) rfl ?_); refine goesL_ (some 19) rfl rfl Tryd.func46 (by kernel_rfl) rfl #[.int .i64 (wrap64 (bt a0 x6_1)), .int .i64 48, .int .i64 57] rfl (by (try simp only [List.map_toArray, List.map_cons, List.map_nil]); first | done | rfl | (simp only [List.length_drop, List.length_take]; rfl)) ?_; (with_reducible refine (spec_l01In.calls (wrap64 (bt a0 x6_1)) 48 57 false _ A6.out).mono ?_); rintro e w' ⟨rfl, ⟨nd, rfl⟩⟩; refine ⟨_, rfl, ?_⟩; have p13 : 0 ≤ (x6_1 : Int) := of_decide_eq_true (by assumption); have q13 : x6_1 < (a0.size : Int) := of_decide_eq_true (by assumption); have hx13 := bt_at a0 x6_1; replace p13 := eq_true p13; replace q13 := eq_true q13) | ((with_reducible refine gate_callee (f := 46) rfl ?_); refine goesL_ (some 30) rfl rfl Tryd.func46 (by kernel_rfl) rfl #[.int .i64 (wrap64 (bt a0 x6_1)), .int .i64 97, .int .i64 102] rfl (by (try simp only [List.map_toArray, List.map_cons, List.map_nil]); first | done | rfl | (simp only [List.length_drop, List.length_take]; rfl)) ?_; (with_reducible refine (spec_l01In.calls (wrap64 (bt a0 x6_1)) 97 102 true _ A14.out).mono ?_); rintro e w' ⟨rfl, ⟨nd, rfl⟩⟩; refine ⟨_, rfl, ?_⟩; have p16 : 0 ≤ (x6_1 : Int) := of_decide_eq_true (by assumption); have q16 : x6_1 < (a0.size : Int) := of_decide_eq_true (by assumption); have hx16 := bt_at a0 x6_1; replace p16 := eq_true p16; replace q16 := eq_true q16))
                      go_roundg k1
                      case measure => have := HK1.out; omega
                      case rel => exact ⟨(wrap64 ((wrap64 (x5_1 * a1)) + (wrap64 ((wrap64 (bt a0 x6_1)) - 87)))), (wrap64 (x6_1 + 1)), (by first | rfl | (simp; done) | (simp [*]; done)), (by first | rfl | (simp; done) | (simp [*]; done)), H', ⟨by have := HK1.out; omega⟩, by repeat (first | exact Drawn0.refl _ | apply Drawn0.step)⟩
            · replace c15 := Bool.eq_false_iff.mpr c15
              subst c15
              have H1 : (if (-1) < 0 then (some (-1)) else (if (-1) ≥ a1 then (some (-1)) else (if a1 = 0 then (none) else (if x5_1 > (wrap64 ((9007199254740991 - (-1)) / a1)) then (some (-1)) else (spec_l01Value.l0 k1 a0 a1 (wrap64 ((wrap64 (x5_1 * a1)) + (-1))) (wrap64 (x6_1 + 1))))))) = some r := by rw [if_neg (show ¬ (false = true) by decide)] at H; exact H
              clear H
              have H := H1
              clear H1
              by_cases c21 : (-1) < 0
              · rw [if_pos c21] at H
                have c21b0 : decide ((-1) < 0) = true := decide_eq_true c21
                clear c21
                obtain rfl := Option.some.inj H
                have p5 : 0 ≤ (x6_1 : Int) := of_decide_eq_true (by assumption)
                have q5 : x6_1 < (a0.size : Int) := of_decide_eq_true (by assumption)
                have hx5 := bt_at a0 x6_1
                replace p5 := eq_true p5
                replace q5 := eq_true q5
                go_wp2_with (first | ((with_reducible refine gate_callee (f := 46) rfl ?_); refine goesL_ (some 19) rfl rfl Tryd.func46 (by kernel_rfl) rfl #[.int .i64 (wrap64 (bt a0 x6_1)), .int .i64 48, .int .i64 57] rfl (by (try simp only [List.map_toArray, List.map_cons, List.map_nil]); first | done | rfl | (simp only [List.length_drop, List.length_take]; rfl)) ?_; (with_reducible refine (spec_l01In.calls (wrap64 (bt a0 x6_1)) 48 57 false _ A6.out).mono ?_); rintro e w' ⟨rfl, ⟨nd, rfl⟩⟩; refine ⟨_, rfl, ?_⟩; have p13 : 0 ≤ (x6_1 : Int) := of_decide_eq_true (by assumption); have q13 : x6_1 < (a0.size : Int) := of_decide_eq_true (by assumption); have hx13 := bt_at a0 x6_1; replace p13 := eq_true p13; replace q13 := eq_true q13) | ((with_reducible refine gate_callee (f := 46) rfl ?_); refine goesL_ (some 30) rfl rfl Tryd.func46 (by kernel_rfl) rfl #[.int .i64 (wrap64 (bt a0 x6_1)), .int .i64 97, .int .i64 102] rfl (by (try simp only [List.map_toArray, List.map_cons, List.map_nil]); first | done | rfl | (simp only [List.length_drop, List.length_take]; rfl)) ?_; (with_reducible refine (spec_l01In.calls (wrap64 (bt a0 x6_1)) 97 102 false _ A14.out).mono ?_); rintro e w' ⟨rfl, ⟨nd, rfl⟩⟩; refine ⟨_, rfl, ?_⟩))
                go_ret
                exact ⟨by first | rfl | (simp; done) | (simp [*]; done), by repeat (first | exact Drawn0.refl _ | apply Drawn0.step)⟩
              · exact absurd (by decide) c21
        · rw [if_neg c4] at H
          exact absurd H (by simp)
      · rw [if_neg c3] at H
        have c3b0 : decide (x6_1 < (a0.size : Int)) = false := decide_eq_false c3
        clear c3
        obtain rfl := Option.some.inj H
        go_wp2
        go_ret
        exact ⟨by first | rfl | (simp; done) | (simp [*]; done), by repeat (first | exact Drawn0.refl _ | apply Drawn0.step)⟩

/-! ### spec_GetOct: function 18 -/
def spec_GetOct.f (k : Nat) (a0 : ByteArray) : Option (Int × Bool) := (spec_l01In.f (a0.size : Int) 1 20).bind fun t103 => (if t103 = true then ((spec_l01Value.f k a0 8).bind fun t104 => (if t104 < 0 then (some (0, false)) else (some (t104, true)))) else (some (0, false)))
theorem spec_GetOct.mono : ∀ a0 k, LeO (spec_GetOct.f k a0) (spec_GetOct.f (k + 1) a0) := by
  intro a0 k
  unfold spec_GetOct.f
  repeat' first
      | (with_reducible exact spec_l01Value.mono _ _ _)
      | (with_reducible exact LeO.refl _)
      | (with_reducible exact LeO.none _)
      | (with_reducible refine LeO.ite ?_ ?_)
      | (with_reducible refine LeO.bind ?_ (fun _ => ?_))
      | exact spec_l01Value.mono _ _ _
      | exact LeO.none _
      | refine LeO.ite ?_ ?_
      | refine LeO.bind ?_ (fun _ => ?_)
set_option maxHeartbeats 8000000 in
set_option maxRecDepth 100000 in
theorem spec_GetOct.calls (k : Nat) (a0 : ByteArray) (r1 : Int) (r2 : Bool) (w : World) (h : spec_GetOct.f k a0 = some (r1, r2)) :
    Calls Tryd.prog 18 #[.string a0] w fun e w' => e = .returned (.tuple #[.int .i64 r1, .bool r2]) ∧ Drawn0 w w' := by
  have H : ((spec_l01In.f (a0.size : Int) 1 20).bind fun t103 => (if t103 = true then ((spec_l01Value.f k a0 8).bind fun t104 => (if t104 < 0 then (some (0, false)) else (some (t104, true)))) else (some (0, false)))) = some (r1, r2) := h
  clear h
  replace H := Option.bind_eq_some_iff.mp H
  obtain ⟨t103, A20, H⟩ := H
  replace H : (if t103 = true then ((spec_l01Value.f k a0 8).bind fun t104 => (if t104 < 0 then (some (0, false)) else (some (t104, true)))) else (some (0, false))) = some (r1, r2) := H
  have A2 := Aside0.mk A20
  clear A20
  by_cases c3 : t103 = true
  · subst c3
    have H1 : ((spec_l01Value.f k a0 8).bind fun t104 => (if t104 < 0 then (some (0, false)) else (some (t104, true)))) = some (r1, r2) := by rw [if_pos rfl] at H; exact H
    clear H
    have H := H1
    clear H1
    replace H := Option.bind_eq_some_iff.mp H
    obtain ⟨t104, A40, H⟩ := H
    replace H : (if t104 < 0 then (some (0, false)) else (some (t104, true))) = some (r1, r2) := H
    have A4 := Aside0.mk A40
    clear A40
    by_cases c5 : t104 < 0
    · rw [if_pos c5] at H
      have c5b0 : decide (t104 < 0) = true := decide_eq_true c5
      clear c5
      simp only [Option.some.injEq, Prod.mk.injEq] at H
      obtain ⟨rfl, rfl⟩ := H
      go_enter Tryd.func18, Tryd.ntmps18
      go_wp2_with (first | ((with_reducible refine gate_callee (f := 46) rfl ?_); refine goesL_ (some 7) rfl rfl Tryd.func46 (by kernel_rfl) rfl #[.int .i64 (a0.size : Int), .int .i64 1, .int .i64 20] rfl (by (try simp only [List.map_toArray, List.map_cons, List.map_nil]); first | done | rfl | (simp only [List.length_drop, List.length_take]; rfl)) ?_; (with_reducible refine (spec_l01In.calls (a0.size : Int) 1 20 true _ A2.out).mono ?_); rintro e w' ⟨rfl, ⟨nd, rfl⟩⟩; refine ⟨_, rfl, ?_⟩) | ((with_reducible refine gate_callee (f := 52) rfl ?_); refine goesL_ (some 10) rfl rfl Tryd.func52 (by kernel_rfl) rfl #[.string a0, .int .i64 8] rfl (by (try simp only [List.map_toArray, List.map_cons, List.map_nil]); first | done | rfl | (simp only [List.length_drop, List.length_take]; rfl)) ?_; (with_reducible refine (spec_l01Value.calls k a0 8 t104 _ A4.out).mono ?_); rintro e w' ⟨rfl, ⟨nd, rfl⟩⟩; refine ⟨_, rfl, ?_⟩))
      go_ret2
      exact ⟨by first | rfl | (simp; done) | (simp [*]; done), by repeat (first | exact Drawn0.refl _ | apply Drawn0.step)⟩
    · rw [if_neg c5] at H
      have c5b0 : decide (t104 < 0) = false := decide_eq_false c5
      clear c5
      simp only [Option.some.injEq, Prod.mk.injEq] at H
      obtain ⟨rfl, rfl⟩ := H
      go_enter Tryd.func18, Tryd.ntmps18
      go_wp2_with (first | ((with_reducible refine gate_callee (f := 46) rfl ?_); refine goesL_ (some 7) rfl rfl Tryd.func46 (by kernel_rfl) rfl #[.int .i64 (a0.size : Int), .int .i64 1, .int .i64 20] rfl (by (try simp only [List.map_toArray, List.map_cons, List.map_nil]); first | done | rfl | (simp only [List.length_drop, List.length_take]; rfl)) ?_; (with_reducible refine (spec_l01In.calls (a0.size : Int) 1 20 true _ A2.out).mono ?_); rintro e w' ⟨rfl, ⟨nd, rfl⟩⟩; refine ⟨_, rfl, ?_⟩) | ((with_reducible refine gate_callee (f := 52) rfl ?_); refine goesL_ (some 10) rfl rfl Tryd.func52 (by kernel_rfl) rfl #[.string a0, .int .i64 8] rfl (by (try simp only [List.map_toArray, List.map_cons, List.map_nil]); first | done | rfl | (simp only [List.length_drop, List.length_take]; rfl)) ?_; (with_reducible refine (spec_l01Value.calls k a0 8 t104 _ A4.out).mono ?_); rintro e w' ⟨rfl, ⟨nd, rfl⟩⟩; refine ⟨_, rfl, ?_⟩))
      go_ret2
      exact ⟨by first | rfl | (simp; done) | (simp [*]; done), by repeat (first | exact Drawn0.refl _ | apply Drawn0.step)⟩
  · replace c3 := Bool.eq_false_iff.mpr c3
    subst c3
    have H1 : (some (0, false)) = some (r1, r2) := by rw [if_neg (show ¬ (false = true) by decide)] at H; exact H
    clear H
    have H := H1
    clear H1
    simp only [Option.some.injEq, Prod.mk.injEq] at H
    obtain ⟨rfl, rfl⟩ := H
    go_enter Tryd.func18, Tryd.ntmps18
    go_wp2_with (first | ((with_reducible refine gate_callee (f := 46) rfl ?_); refine goesL_ (some 7) rfl rfl Tryd.func46 (by kernel_rfl) rfl #[.int .i64 (a0.size : Int), .int .i64 1, .int .i64 20] rfl (by (try simp only [List.map_toArray, List.map_cons, List.map_nil]); first | done | rfl | (simp only [List.length_drop, List.length_take]; rfl)) ?_; (with_reducible refine (spec_l01In.calls (a0.size : Int) 1 20 false _ A2.out).mono ?_); rintro e w' ⟨rfl, ⟨nd, rfl⟩⟩; refine ⟨_, rfl, ?_⟩))
    go_ret2
    exact ⟨by first | rfl | (simp; done) | (simp [*]; done), by repeat (first | exact Drawn0.refl _ | apply Drawn0.step)⟩

/-! ### impl_within: function 55 -/
def impl_within.f (a0 : Int) (a1 : Int) (a2 : Int) : Option (Bool) := if a1 ≤ a0 then (some (decide (a0 ≤ a2))) else (some false)
set_option maxHeartbeats 8000000 in
set_option maxRecDepth 100000 in
theorem impl_within.calls (a0 : Int) (a1 : Int) (a2 : Int) (r : Bool) (w : World) (h : impl_within.f a0 a1 a2 = some r) :
    Calls Tryd.prog 55 #[.int .i64 a0, .int .i64 a1, .int .i64 a2] w fun e w' => e = .returned (.bool r) ∧ Drawn0 w w' := by
  have H : (if a1 ≤ a0 then (some (decide (a0 ≤ a2))) else (some false)) = some r := h
  clear h
  by_cases c4 : a1 ≤ a0
  · rw [if_pos c4] at H
    have c4b0 : decide (a1 ≤ a0) = true := decide_eq_true c4
    clear c4
    obtain rfl := Option.some.inj H
    go_enter Tryd.func55, Tryd.ntmps55
    go_wp2
    go_ret
    exact ⟨by first | rfl | (simp; done) | (simp [*]; done), by repeat (first | exact Drawn0.refl _ | apply Drawn0.step)⟩
  · rw [if_neg c4] at H
    have c4b0 : decide (a1 ≤ a0) = false := decide_eq_false c4
    clear c4
    obtain rfl := Option.some.inj H
    go_enter Tryd.func55, Tryd.ntmps55
    go_wp2
    go_ret
    exact ⟨by first | rfl | (simp; done) | (simp [*]; done), by repeat (first | exact Drawn0.refl _ | apply Drawn0.step)⟩

/-! ### impl_areBytes: function 94, by a contract of our own -/
/-- Where the first number is of which a predicate holds, from place k on; -1. -/
def idxFrom (p : Int → Bool) (xs : List Int) : Nat → Nat → Int
  | 0, _ => -1
  | d + 1, k => if p (xs.getD k 0) = true then (k : Int) else idxFrom p xs d (k + 1)
theorem idxFrom_nonneg (p : Int → Bool) (xs : List Int) : ∀ (d k : Nat), decide (0 ≤ idxFrom p xs d k) = ((List.range' k d).any fun j => p (xs.getD j 0))
  | 0, k => by simp [idxFrom]
  | d + 1, k => by
    unfold idxFrom
    rw [List.range'_succ, List.any_cons, ← idxFrom_nonneg p xs d (k + 1)]
    cases h : p (xs.getD k 0) with
    | true => rw [if_pos rfl]; simp
    | false => rw [if_neg (by simp)]; simp
/-- The bytes of a text that a predicate holds of: all. -/
def allB (p : Int → Bool) (s : ByteArray) : Bool := s.toList.all fun b => p (b.toNat : Int)
theorem any_range_bytes (p : Int → Bool) (s : ByteArray) : ((List.range' 0 s.size).any fun j => !p ((bytesOf s).getD j 0)) = !allB p s := by
  unfold allB
  rw [ByteArray.toList_eq, Bool.eq_iff_iff]
  simp only [List.any_eq_true, Bool.not_eq_true', List.all_eq_false, List.mem_range'_1, bytesOf]
  constructor
  · rintro ⟨j, ⟨_, hj⟩, h⟩
    have hj' : j < s.data.toList.length := by rw [data_length]; omega
    refine ⟨s.data.toList[j], List.getElem_mem _, ?_⟩
    rw [List.getD_eq_getElem?_getD, List.getElem?_map, List.getElem?_eq_getElem hj'] at h
    simpa using h
  · rintro ⟨b, hb, h⟩
    obtain ⟨j, hj, rfl⟩ := List.getElem_of_mem hb
    refine ⟨j, ⟨by omega, by rw [data_length] at hj; omega⟩, ?_⟩
    rw [List.getD_eq_getElem?_getD, List.getElem?_map, List.getElem?_eq_getElem hj]
    simpa using h
set_option maxHeartbeats 2000000 in
theorem idx_bytes_calls (p : Int → Bool) (B b off n c : Nat) (xs : List Int) (w : World)
    (hp : ∀ (q : Nat) (x : Int), Calls Tryd.prog 166 #[.int .u8 x, .pointer (some ⟨B, 0, none⟩)] (w.drewN q) fun e w' => e = .returned (.bool (p x)) ∧ ∃ q', w' = (w.drewN q).drewN q') (hbig : n ≤ 9223372036854775807)
    (hc : ∀ j, j < n → w.cell? ⟨b, off + j, none⟩ = some (.int .u8 (xs.getD j 0))) :
    Calls Tryd.prog 190 #[.slice (some ⟨b, off, none⟩) n c, .func (.func 166) #[] #[.pointer (some ⟨B, 0, none⟩)]] w fun e w' => e = .returned (.int .i64 (idxFrom p xs n 0)) ∧ ∃ q, w' = w.drewN q := by
  have HC := Aside0.mk hc
  have HP := Aside0.mk hp
  clear hc hp
  go_enter Tryd.func190, Tryd.ntmps190
  go_wp2
  go_loopg [5, 8] n (fun gg _ s8 wr => ∃ kk q : Nat, kk ≤ n ∧ n - kk ≤ gg ∧ s8 = .int .i64 kk ∧ wr = w.drewN q ∧ Aside0 (idxFrom p xs n 0 = idxFrom p xs (n - kk) kk))
  case atStart => exact ⟨0, 0, Nat.zero_le _, by omega, rfl, rfl, ⟨rfl⟩⟩
  case round =>
    obtain ⟨kk, q, hkk, hg, rfl, rfl, A⟩ := hrel
    by_cases hlt : kk < n
    · have hltz : (kk : Int) < (n : Int) := by omega
      have hcell := HC.out kk (by omega)
      clear HC
      have B2 : Aside0 (idxFrom p xs n 0 = if p (xs.getD kk 0) = true then (kk : Int) else idxFrom p xs (n - (kk + 1)) (kk + 1)) := ⟨by
        rw [A.out, show n - kk = (n - (kk + 1)) + 1 by omega]; rfl⟩
      clear A
      generalize xs.getD kk 0 = y at hcell B2
      have hcall := fun q => HP.out q y
      clear HP
      cases hq : p y with
      | true =>
        rw [hq] at hcall
        go_wp2_with (go_at_call 166; refine (hcall _).mono ?_; rintro e w' ⟨rfl, q', rfl⟩)
        go_ret
        refine ⟨?_, _, rfl⟩
        rw [B2.out, hq, if_pos rfl]
        rfl
      | false =>
        rw [hq] at hcall
        go_wp2_with (go_at_call 166; refine (hcall _).mono ?_; rintro e w' ⟨rfl, q', rfl⟩)
        go_roundg (n - (kk + 1))
        case measure => omega
        case rel => exact ⟨kk + 1, _, by omega, by omega, by go_num, rfl, ⟨by rw [B2.out, hq, if_neg (by simp)]⟩⟩
    · have hltz : ¬ (kk : Int) < (n : Int) := by omega
      obtain rfl : kk = n := by omega
      clear HC HP
      go_wp2
      go_ret
      refine ⟨?_, _, rfl⟩
      rw [A.out, Nat.sub_self]
      rfl
set_option maxHeartbeats 1000000 in
theorem contains_bytes_calls (p : Int → Bool) (B b off n c : Nat) (xs : List Int) (w : World)
    (hp : ∀ (q : Nat) (x : Int), Calls Tryd.prog 166 #[.int .u8 x, .pointer (some ⟨B, 0, none⟩)] (w.drewN q) fun e w' => e = .returned (.bool (p x)) ∧ ∃ q', w' = (w.drewN q).drewN q') (hbig : n ≤ 9223372036854775807)
    (hc : ∀ j, j < n → w.cell? ⟨b, off + j, none⟩ = some (.int .u8 (xs.getD j 0))) :
    Calls Tryd.prog 165 #[.slice (some ⟨b, off, none⟩) n c, .func (.func 166) #[] #[.pointer (some ⟨B, 0, none⟩)]] w fun e w' => e = .returned (.bool (decide (0 ≤ idxFrom p xs n 0))) ∧ ∃ q, w' = w.drewN q := by
  have hC := idx_bytes_calls p B b off n c xs w hp hbig hc
  clear hp hc
  go_enter Tryd.func165, Tryd.ntmps165
  go_wp2_with (go_at_call 190; refine hC.mono ?_; rintro e w' ⟨rfl, q, rfl⟩)
  go_ret
  exact ⟨rfl, q, rfl⟩
set_option maxHeartbeats 1000000 in
theorem areAll_bytes_calls (p : Int → Bool) (g : Nat) (lb : Array Value) (b off n c : Nat) (xs : List Int) (w : World)
    (hp : ∀ (W : World) (x : Int), W.cell? ⟨w.heap.size, 0, none⟩ = some (.func (.func g) #[] lb) → Below w.heap.size w W → Calls Tryd.prog 166 #[.int .u8 x, .pointer (some ⟨w.heap.size, 0, none⟩)] W fun e w' => e = .returned (.bool (!p x)) ∧ ∃ q, w' = W.drewN q) (hbig : n ≤ 9223372036854775807) (hb : b < w.heap.size)
    (hc : ∀ j, j < n → w.cell? ⟨b, off + j, none⟩ = some (.int .u8 (xs.getD j 0))) :
    Calls Tryd.prog 127 #[.slice (some ⟨b, off, none⟩) n c, .func (.func g) #[] lb] w fun e w' => e = .returned (.bool (!decide (0 ≤ idxFrom (fun x => !p x) xs n 0))) ∧ Below w.heap.size w w' := by
  have hC := fun (W : World) (hW : ∀ j, j < n → W.cell? ⟨b, off + j, none⟩ = some (.int .u8 (xs.getD j 0))) (hB : W.cell? ⟨w.heap.size, 0, none⟩ = some (.func (.func g) #[] lb)) (hBel : Below w.heap.size w W) =>
    contains_bytes_calls (fun x => !p x) w.heap.size b off n c xs W (fun q x => hp _ x hB (pw_below_drewN hBel q)) hbig hW
  have hc2 : Aside0 (∀ o : Obj, ∀ j, j < n → (w.alloc o).cell? ⟨b, off + j, none⟩ = some (.int .u8 (xs.getD j 0))) := ⟨fun o j hj => by
    rw [← hc j hj]; exact (below_alloc (Below.refl _ w) o).cell (p := ⟨b, off + j, none⟩) hb⟩
  clear hc hp
  go_enter Tryd.func127, Tryd.ntmps127
  go_wp2_with (go_at_call 165; refine (hC _ (hc2.out _) (by simp) (below_alloc (Below.refl _ _) _)).mono ?_; rintro e w' ⟨rfl, q, rfl⟩)
  go_ret
  exact ⟨rfl, pw_below_drewN (below_alloc (Below.refl _ _) _) _⟩
set_option maxHeartbeats 1000000 in
theorem areBytes_any (p : Int → Bool) (g : Nat) (lb : Array Value) (s : ByteArray) (hs : s.size ≤ 140737488355328) (w : World)
    (hp : ∀ (B : Nat) (W : World) (x : Int), W.cell? ⟨B, 0, none⟩ = some (.func (.func g) #[] lb) → Below w.heap.size w W → Calls Tryd.prog 166 #[.int .u8 x, .pointer (some ⟨B, 0, none⟩)] W fun e w' => e = .returned (.bool (!p x)) ∧ ∃ q, w' = W.drewN q) :
    Calls Tryd.prog 94 #[.string s, .func (.func g) #[] lb] w fun e w' => e = .returned (.bool (allB p s)) ∧ Below w.heap.size w w' := by
  have hC := fun (W : World) (b : Nat) (c : Nat) (hBel : Below w.heap.size w W) (hlt : w.heap.size ≤ W.heap.size) (hb : b < W.heap.size) (hW : ∀ j, j < s.size → W.cell? ⟨b, 0 + j, none⟩ = some (.int .u8 ((bytesOf s).getD j 0))) => areAll_bytes_calls p g lb b 0 s.size c (bytesOf s) W (fun W2 x hc h2 => hp _ W2 x hc (below_then hBel hlt h2)) (by omega) hb hW
  clear hp
  have kb := fun W => print_bytes (P := Tryd.prog) 9 83 5 Tryd.underlying9 Tryd.underlying83 Tryd.underlying5 s W
  have hr : Aside0 (∀ j, j < s.size → (Lib.bytesWorld w 5 s).cell? ⟨w.heap.size, 0 + j, none⟩ = some (.int .u8 ((bytesOf s).getD j 0))) := ⟨fun j hj => by
    rw [Nat.zero_add, Lib.bytesWorld_cell w _ s j hj]
    have h' : j < s.data.toList.length := by rw [data_length]; exact hj
    simp [bytesOf, List.getD_eq_getElem?_getD, List.getElem?_eq_getElem h']⟩
  have hlt : w.heap.size < (Lib.bytesWorld w 5 s).heap.size := by rw [Lib.bytesWorld_size]; omega
  have HLT := Aside0.mk hlt
  have HS := Aside0.mk hs
  clear hlt hs
  go_enter Tryd.func94, Tryd.ntmps94
  go_wp2_with (go_at_call 127; refine (hC _ _ _ (bytes_below (Below.refl _ _) (Nat.le_refl _) _ s) (Nat.le_of_lt HLT.out) HLT.out hr.out).mono ?_; rintro e w' ⟨rfl, hb⟩)
  go_ret
  refine ⟨?_, below_then (bytes_below (Below.refl _ _) (Nat.le_refl _) _ s) (Nat.le_of_lt HLT.out) hb⟩
  rw [idxFrom_nonneg, any_range_bytes, Bool.not_not]
  rfl
def impl_areBytes.f (a0 : ByteArray) (a1 : Nat) : Option Bool :=
  if a0.size ≤ 140737488355328 then (
    none) else none
theorem impl_areBytes.calls (a0 : ByteArray) (a1 : Nat) (r : Bool) (w : World) (h : impl_areBytes.f a0 a1 = some r) :
    Calls Tryd.prog 94 #[.string a0, .func (.func a1) #[] #[]] w fun e w' => e = .returned (.bool r) ∧ Below w.heap.size w w' := by
  unfold impl_areBytes.f at h
  by_cases hs : a0.size ≤ 140737488355328
  · rw [if_pos hs] at h
    cases h
  · rw [if_neg hs] at h
    cases h

/-! ### stringslite_IndexByte: function 128, by a contract of our own -/
def stringslite_IndexByte.f (a0 : ByteArray) (a1 : Int) : Option Int := some (Lib.indexByte a0.data.toList a1.toNat.toUInt8)
set_option maxRecDepth 100000 in
set_option maxHeartbeats 1000000 in
theorem stringslite_IndexByte.calls (a0 : ByteArray) (a1 : Int) (r : Int) (w : World) (h : stringslite_IndexByte.f a0 a1 = some r) :
    Calls Tryd.prog 128 #[.string a0, .int .u8 a1] w fun e w' => e = .returned (.int .i64 r) ∧ Drawn0 w w' := by
  obtain rfl := Option.some.inj h
  clear h
  go_enter Tryd.func128, Tryd.ntmps128
  go_wp2
  rw [run_callFunc_extern Tryd.func167 (by kernel_rfl) (by kernel_rfl) (by kernel_rfl) (e := Extern.BytealgIndexByte.indexByte) (by kernel_rfl), Lib.run_indexByteString]
  simp only [Result.andThen]
  rw [Oper.upon_value]
  go_wp2
  go_ret
  exact ⟨rfl, Drawn0.refl _⟩

end Go.Proofs.YtmdmhcganiaogaaDoor.PFnExactGetOct
