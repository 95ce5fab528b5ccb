-- PRINTED for this claim by a program of this session's repo over the kit's printer, with contracts of our own among the functions.
import Derived.Test.YtgmggpgcfonmgaaDoorPFnExactPutHeadx0
import Derived.Test.YtgmggpgcfonmgaaDoorPFnExactPutHeadx6
import Derived.Test.YtgmggpgcfonmgaaDoorPFnExactPutHeadx7
import Derived.Test.YtgmggpgcfonmgaaDoorPFnExactPutHeadx8
namespace Go.Proofs.YtgmggpgcfonmgaaDoor.PFnExactPutHead
open Go.RowKit Go.Proofs.YtgmggpgcfonmgaaDoorW.PrintWords Go.Proofs.YtgmggpgcfonmgaaDoorW.PrintLast Go.Proofs.YtgmggpgcfonmgaaDoorW.PrintMore
attribute [local go_sem] max2_int min2_int max_two min_two max_three min_three max_four min_four   -- for this text's walks alone
set_option linter.unusedVariables false
set_option linter.unusedSimpArgs false

/-! ### impl_Split: function 56 -/
def impl_Split.l0 : Nat → ByteArray → Int → Option (ByteArray × ByteArray × Bool)
  | 0, _, _ => none
  | k + 1, x0, x5 => if x5 < (x0.size : Int) then (if 0 ≤ x5 then (if (bt x0 x5) = 47 then (if x5 > 155 then (some ((⟨#[]⟩ : ByteArray), (⟨#[]⟩ : ByteArray), false)) else (if x5 ≤ (x0.size : Int) then (if 0 ≤ (wrap64 (x5 + 1)) then (if (wrap64 (x5 + 1)) ≤ (x0.size : Int) then (some (x0.extract 0 (x5 : Int).toNat, x0.extract ((wrap64 (x5 + 1)) : Int).toNat x0.size, true)) else (none)) else (none)) else (none))) else (impl_Split.l0 k x0 (wrap64 (x5 + 1)))) else (none)) else (some ((⟨#[]⟩ : ByteArray), (⟨#[]⟩ : ByteArray), false))
def impl_Split.f (k : Nat) (a0 : ByteArray) : Option (ByteArray × ByteArray × Bool) := (impl_PathOk.f k a0).bind fun t221 => (if t221 = true then (if (a0.size : Int) ≤ 100 then (some ((⟨#[]⟩ : ByteArray), a0, true)) else (impl_Split.l0 k a0 (wrap64 ((wrap64 ((a0.size : Int) - 100)) - 1)))) else (some ((⟨#[]⟩ : ByteArray), (⟨#[]⟩ : ByteArray), false)))
theorem impl_Split.mono_l : ∀ k, (∀ y0 y1, LeO (impl_Split.l0 k y0 y1) (impl_Split.l0 (k + 1) y0 y1))
  | 0 => fun _ _ r h => by simp [impl_Split.l0] at h
  | k + 1 => by
    have ih0 := impl_Split.mono_l k
    · intro y0 y1
      unfold impl_Split.l0
      repeat' first
      | (with_reducible exact ih0 _ _)
      | (with_reducible exact impl_PathOk.mono _ _)
      | (with_reducible exact LeO.refl _)
      | (with_reducible exact LeO.none _)
      | (with_reducible refine LeO.ite ?_ ?_)
      | (with_reducible refine LeO.bind ?_ (fun _ => ?_))
      | exact ih0 _ _
      | exact impl_PathOk.mono _ _
      | exact LeO.none _
      | refine LeO.ite ?_ ?_
      | refine LeO.bind ?_ (fun _ => ?_)
theorem impl_Split.mono : ∀ a0 k, LeO (impl_Split.f k a0) (impl_Split.f (k + 1) a0) := by
  intro a0 k
  have ih0 := impl_Split.mono_l k
  unfold impl_Split.f
  repeat' first
      | (with_reducible exact ih0 _ _)
      | (with_reducible exact impl_PathOk.mono _ _)
      | (with_reducible exact LeO.refl _)
      | (with_reducible exact LeO.none _)
      | (with_reducible refine LeO.ite ?_ ?_)
      | (with_reducible refine LeO.bind ?_ (fun _ => ?_))
      | exact ih0 _ _
      | exact impl_PathOk.mono _ _
      | exact LeO.none _
      | refine LeO.ite ?_ ?_
      | refine LeO.bind ?_ (fun _ => ?_)
set_option maxHeartbeats 8000000 in
set_option maxRecDepth 100000 in
theorem impl_Split.calls (k : Nat) (a0 : ByteArray) (r1 : ByteArray) (r2 : ByteArray) (r3 : Bool) (w : World) (h : impl_Split.f k a0 = some (r1, r2, r3)) :
    Calls Tryd.prog 56 #[.string a0] w fun e w' => e = .returned (.tuple #[.string r1, .string r2, .bool r3]) ∧ Below w.heap.size w w' := by
  have HB := Aside0.mk (Below.refl w.heap.size w)
  have H : ((impl_PathOk.f k a0).bind fun t221 => (if t221 = true then (if (a0.size : Int) ≤ 100 then (some ((⟨#[]⟩ : ByteArray), a0, true)) else (impl_Split.l0 k a0 (wrap64 ((wrap64 ((a0.size : Int) - 100)) - 1)))) else (some ((⟨#[]⟩ : ByteArray), (⟨#[]⟩ : ByteArray), false)))) = some (r1, r2, r3) := h
  clear h
  replace H := Option.bind_eq_some_iff.mp H
  obtain ⟨t221, A20, H⟩ := H
  replace H : (if t221 = true then (if (a0.size : Int) ≤ 100 then (some ((⟨#[]⟩ : ByteArray), a0, true)) else (impl_Split.l0 k a0 (wrap64 ((wrap64 ((a0.size : Int) - 100)) - 1)))) else (some ((⟨#[]⟩ : ByteArray), (⟨#[]⟩ : ByteArray), false))) = some (r1, r2, r3) := H
  have A2 := Aside0.mk A20
  clear A20
  by_cases c3 : t221 = true
  · subst c3
    have H1 : (if (a0.size : Int) ≤ 100 then (some ((⟨#[]⟩ : ByteArray), a0, true)) else (impl_Split.l0 k a0 (wrap64 ((wrap64 ((a0.size : Int) - 100)) - 1)))) = some (r1, r2, r3) := by rw [if_pos rfl] at H; exact H
    clear H
    have H := H1
    clear H1
    by_cases c4 : (a0.size : Int) ≤ 100
    · rw [if_pos c4] at H
      have c4b0 : decide ((a0.size : Int) ≤ 100) = true := decide_eq_true c4
      have c4b1 : decide (a0.size ≤ 100) = true := decide_eq_true (by omega)
      clear c4
      simp only [Option.some.injEq, Prod.mk.injEq] at H
      obtain ⟨rfl, rfl, rfl⟩ := H
      go_enter Tryd.func56, Tryd.ntmps56
      go_wp2_with (first | (go_at_call 71; (with_reducible refine (impl_PathOk.calls k a0 true _ A2.out).mono ?_); rintro e w5 ⟨rfl, hb⟩; have n0_ := Aside0.mk (below_step (by repeat (first | (with_reducible first | exact HB.out | apply below_alloc | apply pw_below_drewN | apply below_drew1) | exact HB.out)) hb); clear HB; have HB := n0_; clear n0_; (try clear hb); (try clear hb2); (try clear hk); (try clear hi)))
      repeat (go_quiet (first | (go_at_call 71; (with_reducible refine (impl_PathOk.calls k a0 true _ A2.out).mono ?_); rintro e w5 ⟨rfl, hb⟩; have n0_ := Aside0.mk (below_step (by repeat (first | (with_reducible first | exact HB.out | apply below_alloc | apply pw_below_drewN | apply below_drew1) | exact HB.out)) hb); clear HB; have HB := n0_; clear n0_; (try clear hb); (try clear hb2); (try clear hk); (try clear hi))); try go_wp2_with (first | (go_at_call 71; (with_reducible refine (impl_PathOk.calls k a0 true _ A2.out).mono ?_); rintro e w5 ⟨rfl, hb⟩; have n0_ := Aside0.mk (below_step (by repeat (first | (with_reducible first | exact HB.out | apply below_alloc | apply pw_below_drewN | apply below_drew1) | exact HB.out)) hb); clear HB; have HB := n0_; clear n0_; (try clear hb); (try clear hb2); (try clear hk); (try clear hi))))
      go_ret3
      exact ⟨by first | rfl | (simp [errW_none, errW_some] <;> rfl) | (simp [*, errW_none, errW_some] <;> rfl) | (simp only [decide_eq_true_eq] at *; simp [*, bt]; done), by repeat (first | (with_reducible first | exact HB.out | apply below_alloc | apply pw_below_drewN | apply below_drew1) | exact HB.out)⟩
    · rw [if_neg c4] at H
      have c4b0 : decide ((a0.size : Int) ≤ 100) = false := decide_eq_false c4
      have c4b1 : decide (a0.size ≤ 100) = false := decide_eq_false (by omega)
      clear c4
      have H' := Aside0.mk H
      clear H
      go_enter Tryd.func56, Tryd.ntmps56
      go_wp2_with (first | (go_at_call 71; (with_reducible refine (impl_PathOk.calls k a0 true _ A2.out).mono ?_); rintro e w6 ⟨rfl, hb⟩; have n0_ := Aside0.mk (below_step (by repeat (first | (with_reducible first | exact HB.out | apply below_alloc | apply pw_below_drewN | apply below_drew1) | exact HB.out)) hb); clear HB; have HB := n0_; clear n0_; (try clear hb); (try clear hb2); (try clear hk); (try clear hi)))
      repeat (go_quiet (first | (go_at_call 71; (with_reducible refine (impl_PathOk.calls k a0 true _ A2.out).mono ?_); rintro e w6 ⟨rfl, hb⟩; have n0_ := Aside0.mk (below_step (by repeat (first | (with_reducible first | exact HB.out | apply below_alloc | apply pw_below_drewN | apply below_drew1) | exact HB.out)) hb); clear HB; have HB := n0_; clear n0_; (try clear hb); (try clear hb2); (try clear hk); (try clear hi))); try go_wp2_with (first | (go_at_call 71; (with_reducible refine (impl_PathOk.calls k a0 true _ A2.out).mono ?_); rintro e w6 ⟨rfl, hb⟩; have n0_ := Aside0.mk (below_step (by repeat (first | (with_reducible first | exact HB.out | apply below_alloc | apply pw_below_drewN | apply below_drew1) | exact HB.out)) hb); clear HB; have HB := n0_; clear n0_; (try clear hb); (try clear hb2); (try clear hk); (try clear hi))))
      go_loopg [5] k (fun kq v5 w' => ∃ (x5_1 : Int), v5 = .int .i64 x5_1 ∧ Aside0 (impl_Split.l0 kq a0 x5_1 = some (r1, r2, r3)) ∧ Aside0 (kq ≤ k) ∧ Aside0 (Below w.heap.size w w'))
      case atStart => exact ⟨(wrap64 ((wrap64 ((a0.size : Int) - 100)) - 1)), (by first | rfl | (simp; done) | (simp [*]; done)), H', ⟨Nat.le_refl _⟩, ⟨by repeat (first | (with_reducible first | exact HB.out | apply below_alloc | apply pw_below_drewN | apply below_drew1) | exact HB.out)⟩⟩
      case round =>
        clear H'
        try clear p2
        try clear c3
        try clear c4
        try clear c4b0
        try clear c4b1
        try clear c5
        try clear p6
        obtain ⟨x5_1, rfl, HA, HK1, HB⟩ := hrel
        cases gk with
        | zero => exact absurd HA.out (by simp [impl_Split.l0])
        | succ k1 =>
          have H := HA.out
          clear HA
          simp only [impl_Split.l0] at H
          by_cases c7 : x5_1 < (a0.size : Int)
          · rw [if_pos c7] at H
            have c7b0 : decide (x5_1 < (a0.size : Int)) = true := decide_eq_true c7
            clear c7
            by_cases c8 : 0 ≤ x5_1
            · rw [if_pos c8] at H
              have c8b0 : decide (0 ≤ x5_1) = true := decide_eq_true c8
              clear c8
              by_cases c10 : (bt a0 x5_1) = 47
              · rw [if_pos c10] at H
                have c10b0 : ((bt a0 x5_1) == 47) = true := beq_iff_eq.mpr c10
                have c10b1 : ((bt a0 x5_1) != 47) = false := bne_eq_false_iff_eq.mpr c10
                clear c10
                by_cases c11 : x5_1 > 155
                · rw [if_pos c11] at H
                  have c11b0 : decide (155 < x5_1) = true := decide_eq_true c11
                  clear c11
                  simp only [Option.some.injEq, Prod.mk.injEq] at H
                  obtain ⟨rfl, rfl, rfl⟩ := H
                  have p9 : 0 ≤ (x5_1 : Int) := of_decide_eq_true (by assumption)
                  have q9 : x5_1 < (a0.size : Int) := of_decide_eq_true (by assumption)
                  have hx9 := bt_at a0 x5_1
                  replace p9 := eq_true p9
                  replace q9 := eq_true q9
                  go_wp2
                  repeat (go_quiet (fail); try go_wp2)
                  go_ret3
                  exact ⟨by first | rfl | (simp [errW_none, errW_some] <;> rfl) | (simp [*, errW_none, errW_some] <;> rfl) | (simp only [decide_eq_true_eq] at *; simp [*, bt]; done), by repeat (first | (with_reducible first | exact HB.out | apply below_alloc | apply pw_below_drewN | apply below_drew1) | exact HB.out)⟩
                · rw [if_neg c11] at H
                  have c11b0 : decide (155 < x5_1) = false := decide_eq_false c11
                  clear c11
                  have c12b0 := eq_true (of_decide_eq_true (by assumption) : 0 ≤ x5_1)
                  by_cases c13 : x5_1 ≤ (a0.size : Int)
                  · rw [if_pos c13] at H
                    have c13b0 := eq_true c13
                    have c13b1 : decide (x5_1 ≤ (a0.size : Int)) = true := decide_eq_true c13
                    clear c13
                    obtain ⟨ji14, hji14⟩ : ∃ j_ : Int, (wrap64 (x5_1 + 1)) = j_ := ⟨_, rfl⟩
                    replace H : (if 0 ≤ (ji14) then (if (ji14) ≤ (a0.size : Int) then (some (a0.extract 0 (x5_1 : Int).toNat, a0.extract ((ji14) : Int).toNat a0.size, true)) else (none)) else (none)) = some (r1, r2, r3) := by first | (rw [hji14] at H; exact H) | (simp only [hji14] at H ⊢; exact H)
                    have hji14w : (IntKind.i64.wrap (x5_1 + 1)) = ji14 := (i64_w _).trans hji14
                    by_cases c15 : 0 ≤ (ji14)
                    · rw [if_pos c15] at H
                      have c15b0 := eq_true c15
                      have c15b1 : decide (0 ≤ (ji14)) = true := decide_eq_true c15
                      clear c15
                      by_cases c16 : (ji14) ≤ (a0.size : Int)
                      · rw [if_pos c16] at H
                        have c16b0 := eq_true c16
                        have c16b1 : decide ((ji14) ≤ (a0.size : Int)) = true := decide_eq_true c16
                        clear c16
                        simp only [Option.some.injEq, Prod.mk.injEq] at H
                        obtain ⟨rfl, rfl, rfl⟩ := H
                        have p9 : 0 ≤ (x5_1 : Int) := of_decide_eq_true (by assumption)
                        have q9 : x5_1 < (a0.size : Int) := of_decide_eq_true (by assumption)
                        have hx9 := bt_at a0 x5_1
                        replace p9 := eq_true p9
                        replace q9 := eq_true q9
                        go_wp2
                        repeat (go_quiet (fail); try go_wp2)
                        go_ret3
                        exact ⟨by first | rfl | (simp [errW_none, errW_some] <;> rfl) | (simp only [← hji14]; first | rfl | (simp [errW_none, errW_some] <;> rfl)) | (simp [*, errW_none, errW_some] <;> rfl), by repeat (first | (with_reducible first | exact HB.out | apply below_alloc | apply pw_below_drewN | apply below_drew1) | exact HB.out)⟩
                      · rw [if_neg c16] at H
                        exact absurd H (by simp)
                    · rw [if_neg c15] at H
                      exact absurd H (by simp)
                  · rw [if_neg c13] at H
                    exact absurd H (by simp)
              · rw [if_neg c10] at H
                have c10b0 : ((bt a0 x5_1) == 47) = false := beq_eq_false_iff_ne.mpr c10
                have c10b1 : ((bt a0 x5_1) != 47) = true := bne_iff_ne.mpr c10
                have H' := Aside0.mk H
                clear H
                have p9 : 0 ≤ (x5_1 : Int) := of_decide_eq_true (by assumption)
                have q9 : x5_1 < (a0.size : Int) := of_decide_eq_true (by assumption)
                have hx9 := bt_at a0 x5_1
                replace p9 := eq_true p9
                replace q9 := eq_true q9
                go_wp2
                repeat (go_quiet (fail); try go_wp2)
                go_roundg k1
                case measure => have := HK1.out; omega
                case rel => exact ⟨(wrap64 (x5_1 + 1)), (by first | rfl | (simp; done) | (simp [*]; done)), H', ⟨by have := HK1.out; omega⟩, ⟨by repeat (first | (with_reducible first | exact HB.out | apply below_alloc | apply pw_below_drewN | apply below_drew1) | exact HB.out)⟩⟩
            · rw [if_neg c8] at H
              exact absurd H (by simp)
          · rw [if_neg c7] at H
            have c7b0 : decide (x5_1 < (a0.size : Int)) = false := decide_eq_false c7
            clear c7
            simp only [Option.some.injEq, Prod.mk.injEq] at H
            obtain ⟨rfl, rfl, rfl⟩ := H
            go_wp2
            repeat (go_quiet (fail); try go_wp2)
            go_ret3
            exact ⟨by first | rfl | (simp [errW_none, errW_some] <;> rfl) | (simp [*, errW_none, errW_some] <;> rfl) | (simp only [decide_eq_true_eq] at *; simp [*, bt]; done), by repeat (first | (with_reducible first | exact HB.out | apply below_alloc | apply pw_below_drewN | apply below_drew1) | exact HB.out)⟩
  · replace c3 := Bool.eq_false_iff.mpr c3
    subst c3
    have H1 : (some ((⟨#[]⟩ : ByteArray), (⟨#[]⟩ : ByteArray), false)) = some (r1, r2, r3) := by rw [if_neg (show ¬ (false = true) by decide)] at H; exact H
    clear H
    have H := H1
    clear H1
    simp only [Option.some.injEq, Prod.mk.injEq] at H
    obtain ⟨rfl, rfl, rfl⟩ := H
    go_enter Tryd.func56, Tryd.ntmps56
    go_wp2_with (first | (go_at_call 71; (with_reducible refine (impl_PathOk.calls k a0 false _ A2.out).mono ?_); rintro e w17 ⟨rfl, hb⟩; have n0_ := Aside0.mk (below_step (by repeat (first | (with_reducible first | exact HB.out | apply below_alloc | apply pw_below_drewN | apply below_drew1) | exact HB.out)) hb); clear HB; have HB := n0_; clear n0_; (try clear hb); (try clear hb2); (try clear hk); (try clear hi)))
    repeat (go_quiet (first | (go_at_call 71; (with_reducible refine (impl_PathOk.calls k a0 false _ A2.out).mono ?_); rintro e w17 ⟨rfl, hb⟩; have n0_ := Aside0.mk (below_step (by repeat (first | (with_reducible first | exact HB.out | apply below_alloc | apply pw_below_drewN | apply below_drew1) | exact HB.out)) hb); clear HB; have HB := n0_; clear n0_; (try clear hb); (try clear hb2); (try clear hk); (try clear hi))); try go_wp2_with (first | (go_at_call 71; (with_reducible refine (impl_PathOk.calls k a0 false _ A2.out).mono ?_); rintro e w17 ⟨rfl, hb⟩; have n0_ := Aside0.mk (below_step (by repeat (first | (with_reducible first | exact HB.out | apply below_alloc | apply pw_below_drewN | apply below_drew1) | exact HB.out)) hb); clear HB; have HB := n0_; clear n0_; (try clear hb); (try clear hb2); (try clear hk); (try clear hi))))
    go_ret3
    exact ⟨by first | rfl | (simp [errW_none, errW_some] <;> rfl) | (simp [*, errW_none, errW_some] <;> rfl) | (simp only [decide_eq_true_eq] at *; simp [*, bt]; done), by repeat (first | (with_reducible first | exact HB.out | apply below_alloc | apply pw_below_drewN | apply below_drew1) | exact HB.out)⟩

/-! ### impl_UstarFits: function 54 -/
def impl_UstarFits.f (k : Nat) (a0_0 : Int) (a0_1 : ByteArray) (a0_2 : ByteArray) (a0_3 : Int) (a0_4 : Int) (a0_5 : Int) (a0_6 : Int) (a0_7 : ByteArray) (a0_8 : ByteArray) (a0_9 : ByteArray) : Option (Bool) := (impl_Split.f k a0_1).bind fun bt223 => ((impl_EntryOk.f k a0_0 a0_1 a0_2 a0_3 a0_4 a0_5 a0_6 a0_7 a0_8 a0_9).bind fun t226 => (if t226 = true then (if bt223.2.2 = true then (if (a0_2.size : Int) ≤ 100 then (if a0_4 ≤ 2097151 then (if a0_5 ≤ 2097151 then (some (decide (a0_6 ≤ 8589934591))) else (some false)) else (some false)) else (some false)) else (some false)) else (some false)))
theorem impl_UstarFits.mono : ∀ a0 a1 a2 a3 a4 a5 a6 a7 a8 a9 k, LeO (impl_UstarFits.f k a0 a1 a2 a3 a4 a5 a6 a7 a8 a9) (impl_UstarFits.f (k + 1) a0 a1 a2 a3 a4 a5 a6 a7 a8 a9) := by
  intro a0 a1 a2 a3 a4 a5 a6 a7 a8 a9 k
  unfold impl_UstarFits.f
  repeat' first
      | (with_reducible exact impl_EntryOk.mono _ _ _ _ _ _ _ _ _ _ _)
      | (with_reducible exact impl_Split.mono _ _)
      | (with_reducible exact LeO.refl _)
      | (with_reducible exact LeO.none _)
      | (with_reducible refine LeO.ite ?_ ?_)
      | (with_reducible refine LeO.bind ?_ (fun _ => ?_))
      | exact impl_EntryOk.mono _ _ _ _ _ _ _ _ _ _ _
      | exact impl_Split.mono _ _
      | exact LeO.none _
      | refine LeO.ite ?_ ?_
      | refine LeO.bind ?_ (fun _ => ?_)
set_option maxHeartbeats 8000000 in
set_option maxRecDepth 100000 in
theorem impl_UstarFits.calls (k : Nat) (a0_0 : Int) (a0_1 : ByteArray) (a0_2 : ByteArray) (a0_3 : Int) (a0_4 : Int) (a0_5 : Int) (a0_6 : Int) (a0_7 : ByteArray) (a0_8 : ByteArray) (a0_9 : ByteArray) (r : Bool) (w : World) (h : impl_UstarFits.f k a0_0 a0_1 a0_2 a0_3 a0_4 a0_5 a0_6 a0_7 a0_8 a0_9 = some r) :
    Calls Tryd.prog 54 #[.agg #[.int .i64 a0_0, .string a0_1, .string a0_2, .int .i64 a0_3, .int .i64 a0_4, .int .i64 a0_5, .int .i64 a0_6, .string a0_7, .string a0_8, .string a0_9]] w fun e w' => e = .returned (.bool r) ∧ Below w.heap.size w w' := by
  have hu36 := Tryd.underlying36
  have HB := Aside0.mk (Below.refl w.heap.size w)
  have H : ((impl_Split.f k a0_1).bind fun bt223 => ((impl_EntryOk.f k a0_0 a0_1 a0_2 a0_3 a0_4 a0_5 a0_6 a0_7 a0_8 a0_9).bind fun t226 => (if t226 = true then (if bt223.2.2 = true then (if (a0_2.size : Int) ≤ 100 then (if a0_4 ≤ 2097151 then (if a0_5 ≤ 2097151 then (some (decide (a0_6 ≤ 8589934591))) else (some false)) else (some false)) else (some false)) else (some false)) else (some false)))) = some r := h
  clear h
  replace H := Option.bind_eq_some_iff.mp H
  obtain ⟨⟨t223, t224, t225⟩, A20, H⟩ := H
  replace H : ((impl_EntryOk.f k a0_0 a0_1 a0_2 a0_3 a0_4 a0_5 a0_6 a0_7 a0_8 a0_9).bind fun t226 => (if t226 = true then (if t225 = true then (if (a0_2.size : Int) ≤ 100 then (if a0_4 ≤ 2097151 then (if a0_5 ≤ 2097151 then (some (decide (a0_6 ≤ 8589934591))) else (some false)) else (some false)) else (some false)) else (some false)) else (some false))) = some r := H
  have A2 := Aside0.mk A20
  clear A20
  replace H := Option.bind_eq_some_iff.mp H
  obtain ⟨t226, A30, H⟩ := H
  replace H : (if t226 = true then (if t225 = true then (if (a0_2.size : Int) ≤ 100 then (if a0_4 ≤ 2097151 then (if a0_5 ≤ 2097151 then (some (decide (a0_6 ≤ 8589934591))) else (some false)) else (some false)) else (some false)) else (some false)) else (some false)) = some r := H
  have A3 := Aside0.mk A30
  clear A30
  by_cases c4 : t226 = true
  · subst c4
    have H1 : (if t225 = true then (if (a0_2.size : Int) ≤ 100 then (if a0_4 ≤ 2097151 then (if a0_5 ≤ 2097151 then (some (decide (a0_6 ≤ 8589934591))) else (some false)) else (some false)) else (some false)) else (some false)) = some r := by rw [if_pos rfl] at H; exact H
    clear H
    have H := H1
    clear H1
    by_cases c5 : t225 = true
    · subst c5
      have H1 : (if (a0_2.size : Int) ≤ 100 then (if a0_4 ≤ 2097151 then (if a0_5 ≤ 2097151 then (some (decide (a0_6 ≤ 8589934591))) else (some false)) else (some false)) else (some false)) = some r := by rw [if_pos rfl] at H; exact H
      clear H
      have H := H1
      clear H1
      by_cases c6 : (a0_2.size : Int) ≤ 100
      · rw [if_pos c6] at H
        have c6b0 : decide ((a0_2.size : Int) ≤ 100) = true := decide_eq_true c6
        have c6b1 : decide (a0_2.size ≤ 100) = true := decide_eq_true (by omega)
        clear c6
        by_cases c7 : a0_4 ≤ 2097151
        · rw [if_pos c7] at H
          have c7b0 : decide (a0_4 ≤ 2097151) = true := decide_eq_true c7
          clear c7
          by_cases c8 : a0_5 ≤ 2097151
          · rw [if_pos c8] at H
            have c8b0 : decide (a0_5 ≤ 2097151) = true := decide_eq_true c8
            clear c8
            obtain rfl := Option.some.inj H
            go_enter Tryd.func54, Tryd.ntmps54
            go_wp2_with (first | ((with_reducible refine gate_dst (N := 1) rfl ?_); (try (refine gate_guard (by rfl) ?_; dsimp only)); refine box_event ?hg (N := 1) ?hd (cs := #[.int .i64 a0_0, .string a0_1, .string a0_2, .int .i64 a0_3, .int .i64 a0_4, .int .i64 a0_5, .int .i64 a0_6, .string a0_7, .string a0_8, .string a0_9]) (t := 36) ?hr ?_; (case hd => rfl); (case hg => rfl); (case hr => first | (go_simp; done) | (go_simp; rfl)); intro gb222 hg w9 hbox hb; have n0_ := Aside0.mk (below_step (by repeat (first | (with_reducible first | exact HB.out | apply below_alloc | apply pw_below_drewN | apply below_drew1) | exact HB.out)) hb); have n1_ := Aside0.mk (hbox); have n2_ := Aside0.mk ((by rw [hg]; exact (below_size (by repeat (first | (with_reducible first | exact HB.out | apply below_alloc | apply pw_below_drewN | apply below_drew1) | exact HB.out))) : w.heap.size ≤ gb222)); have n3_ := Aside0.mk ((by rw [hg]; exact (below_size (by repeat (first | (with_reducible first | exact HB.out | apply below_alloc | apply pw_below_drewN | apply below_drew1) | exact HB.out))) : w.heap.size ≤ gb222)); clear HB; have HB := n0_; have BK222 := n1_; have GW222 := n2_; have GE222 := n3_; clear n0_ n1_ n2_ n3_; clear hb hbox hg; have hcz10_0 : w9.cell? ⟨gb222, 0, none⟩ = some (.int .i64 a0_0) := (blk_cell BK222.out 0).trans rfl; have hcz10_1 : w9.cell? ⟨gb222, 1, none⟩ = some (.string a0_1) := (blk_cell BK222.out 1).trans rfl; have hcz10_2 : w9.cell? ⟨gb222, 2, none⟩ = some (.string a0_2) := (blk_cell BK222.out 2).trans rfl; have hcz10_3 : w9.cell? ⟨gb222, 3, none⟩ = some (.int .i64 a0_3) := (blk_cell BK222.out 3).trans rfl; have hcz10_4 : w9.cell? ⟨gb222, 4, none⟩ = some (.int .i64 a0_4) := (blk_cell BK222.out 4).trans rfl; have hcz10_5 : w9.cell? ⟨gb222, 5, none⟩ = some (.int .i64 a0_5) := (blk_cell BK222.out 5).trans rfl; have hcz10_6 : w9.cell? ⟨gb222, 6, none⟩ = some (.int .i64 a0_6) := (blk_cell BK222.out 6).trans rfl; have hcz10_7 : w9.cell? ⟨gb222, 7, none⟩ = some (.string a0_7) := (blk_cell BK222.out 7).trans rfl; have hcz10_8 : w9.cell? ⟨gb222, 8, none⟩ = some (.string a0_8) := (blk_cell BK222.out 8).trans rfl; have hcz10_9 : w9.cell? ⟨gb222, 9, none⟩ = some (.string a0_9) := (blk_cell BK222.out 9).trans rfl; have hfz10_0 := blk_frozen BK222.out 0; have hfz10_1 := blk_frozen BK222.out 1; have hfz10_2 := blk_frozen BK222.out 2; have hfz10_3 := blk_frozen BK222.out 3; have hfz10_4 := blk_frozen BK222.out 4; have hfz10_5 := blk_frozen BK222.out 5; have hfz10_6 := blk_frozen BK222.out 6; have hfz10_7 := blk_frozen BK222.out 7; have hfz10_8 := blk_frozen BK222.out 8; have hfz10_9 := blk_frozen BK222.out 9) | ((with_reducible refine gate_callee (f := 56) rfl ?_); refine goesL_ (some 9) rfl rfl Tryd.func56 (by kernel_rfl) rfl #[.string a0_1] rfl (by (try simp only [List.map_toArray, List.map_cons, List.map_nil]); first | done | rfl | (simp only [List.length_drop, List.length_take]; rfl)) ?_; (with_reducible refine (impl_Split.calls k a0_1 t223 t224 true _ A2.out).mono ?_); rintro e w11 ⟨rfl, hb⟩; refine ⟨_, rfl, ?_⟩; have n0_ := Aside0.mk (blk_below (g := gb222) (o := .cells #[.int .i64 a0_0, .string a0_1, .string a0_2, .int .i64 a0_3, .int .i64 a0_4, .int .i64 a0_5, .int .i64 a0_6, .string a0_7, .string a0_8, .string a0_9] 36 (0, 0)) (by (with_reducible repeat (first | refine blk_drewN ?_ _ | refine blk_drew ?_ | refine blk_alloc ?_ _)); exact BK222.out) hb); have n1_ := Aside0.mk (below_step (by repeat (first | (with_reducible first | exact HB.out | apply below_alloc | apply pw_below_drewN | apply below_drew1 | refine below_set ?_ GE222.out) | exact HB.out)) hb); clear BK222; clear HB; have BK222 := n0_; have HB := n1_; clear n0_ n1_; (try clear hb); (try clear hb2); (try clear hk); (try clear hi); have hcz12_0 : w11.cell? ⟨gb222, 0, none⟩ = some (.int .i64 a0_0) := (blk_cell BK222.out 0).trans rfl; have hcz12_1 : w11.cell? ⟨gb222, 1, none⟩ = some (.string a0_1) := (blk_cell BK222.out 1).trans rfl; have hcz12_2 : w11.cell? ⟨gb222, 2, none⟩ = some (.string a0_2) := (blk_cell BK222.out 2).trans rfl; have hcz12_3 : w11.cell? ⟨gb222, 3, none⟩ = some (.int .i64 a0_3) := (blk_cell BK222.out 3).trans rfl; have hcz12_4 : w11.cell? ⟨gb222, 4, none⟩ = some (.int .i64 a0_4) := (blk_cell BK222.out 4).trans rfl; have hcz12_5 : w11.cell? ⟨gb222, 5, none⟩ = some (.int .i64 a0_5) := (blk_cell BK222.out 5).trans rfl; have hcz12_6 : w11.cell? ⟨gb222, 6, none⟩ = some (.int .i64 a0_6) := (blk_cell BK222.out 6).trans rfl; have hcz12_7 : w11.cell? ⟨gb222, 7, none⟩ = some (.string a0_7) := (blk_cell BK222.out 7).trans rfl; have hcz12_8 : w11.cell? ⟨gb222, 8, none⟩ = some (.string a0_8) := (blk_cell BK222.out 8).trans rfl; have hcz12_9 : w11.cell? ⟨gb222, 9, none⟩ = some (.string a0_9) := (blk_cell BK222.out 9).trans rfl; have hfz12_0 := blk_frozen BK222.out 0; have hfz12_1 := blk_frozen BK222.out 1; have hfz12_2 := blk_frozen BK222.out 2; have hfz12_3 := blk_frozen BK222.out 3; have hfz12_4 := blk_frozen BK222.out 4; have hfz12_5 := blk_frozen BK222.out 5; have hfz12_6 := blk_frozen BK222.out 6; have hfz12_7 := blk_frozen BK222.out 7; have hfz12_8 := blk_frozen BK222.out 8; have hfz12_9 := blk_frozen BK222.out 9) | ((with_reducible refine gate_callee (f := 36) rfl ?_); refine goesL_ (some 14) rfl rfl Tryd.func36 (by kernel_rfl) rfl #[.agg #[.int .i64 a0_0, .string a0_1, .string a0_2, .int .i64 a0_3, .int .i64 a0_4, .int .i64 a0_5, .int .i64 a0_6, .string a0_7, .string a0_8, .string a0_9]] rfl (by (try simp only [List.map_toArray, List.map_cons, List.map_nil]); first | done | rfl | (simp only [List.length_drop, List.length_take]; rfl)) ?_; (with_reducible refine (impl_EntryOk.calls k a0_0 a0_1 a0_2 a0_3 a0_4 a0_5 a0_6 a0_7 a0_8 a0_9 true _ A3.out).mono ?_); rintro e w13 ⟨rfl, hb⟩; refine ⟨_, rfl, ?_⟩; have n0_ := Aside0.mk (blk_below (g := gb222) (o := .cells #[.int .i64 a0_0, .string a0_1, .string a0_2, .int .i64 a0_3, .int .i64 a0_4, .int .i64 a0_5, .int .i64 a0_6, .string a0_7, .string a0_8, .string a0_9] 36 (0, 0)) (by (with_reducible repeat (first | refine blk_drewN ?_ _ | refine blk_drew ?_ | refine blk_alloc ?_ _)); exact BK222.out) hb); have n1_ := Aside0.mk (below_step (by repeat (first | (with_reducible first | exact HB.out | apply below_alloc | apply pw_below_drewN | apply below_drew1 | refine below_set ?_ GE222.out) | exact HB.out)) hb); clear BK222; clear HB; have BK222 := n0_; have HB := n1_; clear n0_ n1_; (try clear hb); (try clear hb2); (try clear hk); (try clear hi); have hcz14_0 : w13.cell? ⟨gb222, 0, none⟩ = some (.int .i64 a0_0) := (blk_cell BK222.out 0).trans rfl; have hcz14_1 : w13.cell? ⟨gb222, 1, none⟩ = some (.string a0_1) := (blk_cell BK222.out 1).trans rfl; have hcz14_2 : w13.cell? ⟨gb222, 2, none⟩ = some (.string a0_2) := (blk_cell BK222.out 2).trans rfl; have hcz14_3 : w13.cell? ⟨gb222, 3, none⟩ = some (.int .i64 a0_3) := (blk_cell BK222.out 3).trans rfl; have hcz14_4 : w13.cell? ⟨gb222, 4, none⟩ = some (.int .i64 a0_4) := (blk_cell BK222.out 4).trans rfl; have hcz14_5 : w13.cell? ⟨gb222, 5, none⟩ = some (.int .i64 a0_5) := (blk_cell BK222.out 5).trans rfl; have hcz14_6 : w13.cell? ⟨gb222, 6, none⟩ = some (.int .i64 a0_6) := (blk_cell BK222.out 6).trans rfl; have hcz14_7 : w13.cell? ⟨gb222, 7, none⟩ = some (.string a0_7) := (blk_cell BK222.out 7).trans rfl; have hcz14_8 : w13.cell? ⟨gb222, 8, none⟩ = some (.string a0_8) := (blk_cell BK222.out 8).trans rfl; have hcz14_9 : w13.cell? ⟨gb222, 9, none⟩ = some (.string a0_9) := (blk_cell BK222.out 9).trans rfl; have hfz14_0 := blk_frozen BK222.out 0; have hfz14_1 := blk_frozen BK222.out 1; have hfz14_2 := blk_frozen BK222.out 2; have hfz14_3 := blk_frozen BK222.out 3; have hfz14_4 := blk_frozen BK222.out 4; have hfz14_5 := blk_frozen BK222.out 5; have hfz14_6 := blk_frozen BK222.out 6; have hfz14_7 := blk_frozen BK222.out 7; have hfz14_8 := blk_frozen BK222.out 8; have hfz14_9 := blk_frozen BK222.out 9))
            go_ret
            exact ⟨by first | rfl | (simp [errW_none, errW_some] <;> rfl) | (simp [*, errW_none, errW_some] <;> rfl) | (simp only [decide_eq_true_eq] at *; simp [*, bt]; done), by repeat (first | (with_reducible first | exact HB.out | apply below_alloc | apply pw_below_drewN | apply below_drew1 | refine below_set ?_ GE222.out) | exact HB.out)⟩
          · rw [if_neg c8] at H
            have c8b0 : decide (a0_5 ≤ 2097151) = false := decide_eq_false c8
            clear c8
            obtain rfl := Option.some.inj H
            go_enter Tryd.func54, Tryd.ntmps54
            go_wp2_with (first | ((with_reducible refine gate_dst (N := 1) rfl ?_); (try (refine gate_guard (by rfl) ?_; dsimp only)); refine box_event ?hg (N := 1) ?hd (cs := #[.int .i64 a0_0, .string a0_1, .string a0_2, .int .i64 a0_3, .int .i64 a0_4, .int .i64 a0_5, .int .i64 a0_6, .string a0_7, .string a0_8, .string a0_9]) (t := 36) ?hr ?_; (case hd => rfl); (case hg => rfl); (case hr => first | (go_simp; done) | (go_simp; rfl)); intro gb222 hg w15 hbox hb; have n0_ := Aside0.mk (below_step (by repeat (first | (with_reducible first | exact HB.out | apply below_alloc | apply pw_below_drewN | apply below_drew1) | exact HB.out)) hb); have n1_ := Aside0.mk (hbox); have n2_ := Aside0.mk ((by rw [hg]; exact (below_size (by repeat (first | (with_reducible first | exact HB.out | apply below_alloc | apply pw_below_drewN | apply below_drew1) | exact HB.out))) : w.heap.size ≤ gb222)); have n3_ := Aside0.mk ((by rw [hg]; exact (below_size (by repeat (first | (with_reducible first | exact HB.out | apply below_alloc | apply pw_below_drewN | apply below_drew1) | exact HB.out))) : w.heap.size ≤ gb222)); clear HB; have HB := n0_; have BK222 := n1_; have GW222 := n2_; have GE222 := n3_; clear n0_ n1_ n2_ n3_; clear hb hbox hg; have hcz16_0 : w15.cell? ⟨gb222, 0, none⟩ = some (.int .i64 a0_0) := (blk_cell BK222.out 0).trans rfl; have hcz16_1 : w15.cell? ⟨gb222, 1, none⟩ = some (.string a0_1) := (blk_cell BK222.out 1).trans rfl; have hcz16_2 : w15.cell? ⟨gb222, 2, none⟩ = some (.string a0_2) := (blk_cell BK222.out 2).trans rfl; have hcz16_3 : w15.cell? ⟨gb222, 3, none⟩ = some (.int .i64 a0_3) := (blk_cell BK222.out 3).trans rfl; have hcz16_4 : w15.cell? ⟨gb222, 4, none⟩ = some (.int .i64 a0_4) := (blk_cell BK222.out 4).trans rfl; have hcz16_5 : w15.cell? ⟨gb222, 5, none⟩ = some (.int .i64 a0_5) := (blk_cell BK222.out 5).trans rfl; have hcz16_6 : w15.cell? ⟨gb222, 6, none⟩ = some (.int .i64 a0_6) := (blk_cell BK222.out 6).trans rfl; have hcz16_7 : w15.cell? ⟨gb222, 7, none⟩ = some (.string a0_7) := (blk_cell BK222.out 7).trans rfl; have hcz16_8 : w15.cell? ⟨gb222, 8, none⟩ = some (.string a0_8) := (blk_cell BK222.out 8).trans rfl; have hcz16_9 : w15.cell? ⟨gb222, 9, none⟩ = some (.string a0_9) := (blk_cell BK222.out 9).trans rfl; have hfz16_0 := blk_frozen BK222.out 0; have hfz16_1 := blk_frozen BK222.out 1; have hfz16_2 := blk_frozen BK222.out 2; have hfz16_3 := blk_frozen BK222.out 3; have hfz16_4 := blk_frozen BK222.out 4; have hfz16_5 := blk_frozen BK222.out 5; have hfz16_6 := blk_frozen BK222.out 6; have hfz16_7 := blk_frozen BK222.out 7; have hfz16_8 := blk_frozen BK222.out 8; have hfz16_9 := blk_frozen BK222.out 9) | ((with_reducible refine gate_callee (f := 56) rfl ?_); refine goesL_ (some 9) rfl rfl Tryd.func56 (by kernel_rfl) rfl #[.string a0_1] rfl (by (try simp only [List.map_toArray, List.map_cons, List.map_nil]); first | done | rfl | (simp only [List.length_drop, List.length_take]; rfl)) ?_; (with_reducible refine (impl_Split.calls k a0_1 t223 t224 true _ A2.out).mono ?_); rintro e w17 ⟨rfl, hb⟩; refine ⟨_, rfl, ?_⟩; have n0_ := Aside0.mk (blk_below (g := gb222) (o := .cells #[.int .i64 a0_0, .string a0_1, .string a0_2, .int .i64 a0_3, .int .i64 a0_4, .int .i64 a0_5, .int .i64 a0_6, .string a0_7, .string a0_8, .string a0_9] 36 (0, 0)) (by (with_reducible repeat (first | refine blk_drewN ?_ _ | refine blk_drew ?_ | refine blk_alloc ?_ _)); exact BK222.out) hb); have n1_ := Aside0.mk (below_step (by repeat (first | (with_reducible first | exact HB.out | apply below_alloc | apply pw_below_drewN | apply below_drew1 | refine below_set ?_ GE222.out) | exact HB.out)) hb); clear BK222; clear HB; have BK222 := n0_; have HB := n1_; clear n0_ n1_; (try clear hb); (try clear hb2); (try clear hk); (try clear hi); have hcz18_0 : w17.cell? ⟨gb222, 0, none⟩ = some (.int .i64 a0_0) := (blk_cell BK222.out 0).trans rfl; have hcz18_1 : w17.cell? ⟨gb222, 1, none⟩ = some (.string a0_1) := (blk_cell BK222.out 1).trans rfl; have hcz18_2 : w17.cell? ⟨gb222, 2, none⟩ = some (.string a0_2) := (blk_cell BK222.out 2).trans rfl; have hcz18_3 : w17.cell? ⟨gb222, 3, none⟩ = some (.int .i64 a0_3) := (blk_cell BK222.out 3).trans rfl; have hcz18_4 : w17.cell? ⟨gb222, 4, none⟩ = some (.int .i64 a0_4) := (blk_cell BK222.out 4).trans rfl; have hcz18_5 : w17.cell? ⟨gb222, 5, none⟩ = some (.int .i64 a0_5) := (blk_cell BK222.out 5).trans rfl; have hcz18_6 : w17.cell? ⟨gb222, 6, none⟩ = some (.int .i64 a0_6) := (blk_cell BK222.out 6).trans rfl; have hcz18_7 : w17.cell? ⟨gb222, 7, none⟩ = some (.string a0_7) := (blk_cell BK222.out 7).trans rfl; have hcz18_8 : w17.cell? ⟨gb222, 8, none⟩ = some (.string a0_8) := (blk_cell BK222.out 8).trans rfl; have hcz18_9 : w17.cell? ⟨gb222, 9, none⟩ = some (.string a0_9) := (blk_cell BK222.out 9).trans rfl; have hfz18_0 := blk_frozen BK222.out 0; have hfz18_1 := blk_frozen BK222.out 1; have hfz18_2 := blk_frozen BK222.out 2; have hfz18_3 := blk_frozen BK222.out 3; have hfz18_4 := blk_frozen BK222.out 4; have hfz18_5 := blk_frozen BK222.out 5; have hfz18_6 := blk_frozen BK222.out 6; have hfz18_7 := blk_frozen BK222.out 7; have hfz18_8 := blk_frozen BK222.out 8; have hfz18_9 := blk_frozen BK222.out 9) | ((with_reducible refine gate_callee (f := 36) rfl ?_); refine goesL_ (some 14) rfl rfl Tryd.func36 (by kernel_rfl) rfl #[.agg #[.int .i64 a0_0, .string a0_1, .string a0_2, .int .i64 a0_3, .int .i64 a0_4, .int .i64 a0_5, .int .i64 a0_6, .string a0_7, .string a0_8, .string a0_9]] rfl (by (try simp only [List.map_toArray, List.map_cons, List.map_nil]); first | done | rfl | (simp only [List.length_drop, List.length_take]; rfl)) ?_; (with_reducible refine (impl_EntryOk.calls k a0_0 a0_1 a0_2 a0_3 a0_4 a0_5 a0_6 a0_7 a0_8 a0_9 true _ A3.out).mono ?_); rintro e w19 ⟨rfl, hb⟩; refine ⟨_, rfl, ?_⟩; have n0_ := Aside0.mk (blk_below (g := gb222) (o := .cells #[.int .i64 a0_0, .string a0_1, .string a0_2, .int .i64 a0_3, .int .i64 a0_4, .int .i64 a0_5, .int .i64 a0_6, .string a0_7, .string a0_8, .string a0_9] 36 (0, 0)) (by (with_reducible repeat (first | refine blk_drewN ?_ _ | refine blk_drew ?_ | refine blk_alloc ?_ _)); exact BK222.out) hb); have n1_ := Aside0.mk (below_step (by repeat (first | (with_reducible first | exact HB.out | apply below_alloc | apply pw_below_drewN | apply below_drew1 | refine below_set ?_ GE222.out) | exact HB.out)) hb); clear BK222; clear HB; have BK222 := n0_; have HB := n1_; clear n0_ n1_; (try clear hb); (try clear hb2); (try clear hk); (try clear hi); have hcz20_0 : w19.cell? ⟨gb222, 0, none⟩ = some (.int .i64 a0_0) := (blk_cell BK222.out 0).trans rfl; have hcz20_1 : w19.cell? ⟨gb222, 1, none⟩ = some (.string a0_1) := (blk_cell BK222.out 1).trans rfl; have hcz20_2 : w19.cell? ⟨gb222, 2, none⟩ = some (.string a0_2) := (blk_cell BK222.out 2).trans rfl; have hcz20_3 : w19.cell? ⟨gb222, 3, none⟩ = some (.int .i64 a0_3) := (blk_cell BK222.out 3).trans rfl; have hcz20_4 : w19.cell? ⟨gb222, 4, none⟩ = some (.int .i64 a0_4) := (blk_cell BK222.out 4).trans rfl; have hcz20_5 : w19.cell? ⟨gb222, 5, none⟩ = some (.int .i64 a0_5) := (blk_cell BK222.out 5).trans rfl; have hcz20_6 : w19.cell? ⟨gb222, 6, none⟩ = some (.int .i64 a0_6) := (blk_cell BK222.out 6).trans rfl; have hcz20_7 : w19.cell? ⟨gb222, 7, none⟩ = some (.string a0_7) := (blk_cell BK222.out 7).trans rfl; have hcz20_8 : w19.cell? ⟨gb222, 8, none⟩ = some (.string a0_8) := (blk_cell BK222.out 8).trans rfl; have hcz20_9 : w19.cell? ⟨gb222, 9, none⟩ = some (.string a0_9) := (blk_cell BK222.out 9).trans rfl; have hfz20_0 := blk_frozen BK222.out 0; have hfz20_1 := blk_frozen BK222.out 1; have hfz20_2 := blk_frozen BK222.out 2; have hfz20_3 := blk_frozen BK222.out 3; have hfz20_4 := blk_frozen BK222.out 4; have hfz20_5 := blk_frozen BK222.out 5; have hfz20_6 := blk_frozen BK222.out 6; have hfz20_7 := blk_frozen BK222.out 7; have hfz20_8 := blk_frozen BK222.out 8; have hfz20_9 := blk_frozen BK222.out 9))
            go_ret
            exact ⟨by first | rfl | (simp [errW_none, errW_some] <;> rfl) | (simp [*, errW_none, errW_some] <;> rfl) | (simp only [decide_eq_true_eq] at *; simp [*, bt]; done), by repeat (first | (with_reducible first | exact HB.out | apply below_alloc | apply pw_below_drewN | apply below_drew1 | refine below_set ?_ GE222.out) | exact HB.out)⟩
        · rw [if_neg c7] at H
          have c7b0 : decide (a0_4 ≤ 2097151) = false := decide_eq_false c7
          clear c7
          obtain rfl := Option.some.inj H
          go_enter Tryd.func54, Tryd.ntmps54
          go_wp2_with (first | ((with_reducible refine gate_dst (N := 1) rfl ?_); (try (refine gate_guard (by rfl) ?_; dsimp only)); refine box_event ?hg (N := 1) ?hd (cs := #[.int .i64 a0_0, .string a0_1, .string a0_2, .int .i64 a0_3, .int .i64 a0_4, .int .i64 a0_5, .int .i64 a0_6, .string a0_7, .string a0_8, .string a0_9]) (t := 36) ?hr ?_; (case hd => rfl); (case hg => rfl); (case hr => first | (go_simp; done) | (go_simp; rfl)); intro gb222 hg w21 hbox hb; have n0_ := Aside0.mk (below_step (by repeat (first | (with_reducible first | exact HB.out | apply below_alloc | apply pw_below_drewN | apply below_drew1) | exact HB.out)) hb); have n1_ := Aside0.mk (hbox); have n2_ := Aside0.mk ((by rw [hg]; exact (below_size (by repeat (first | (with_reducible first | exact HB.out | apply below_alloc | apply pw_below_drewN | apply below_drew1) | exact HB.out))) : w.heap.size ≤ gb222)); have n3_ := Aside0.mk ((by rw [hg]; exact (below_size (by repeat (first | (with_reducible first | exact HB.out | apply below_alloc | apply pw_below_drewN | apply below_drew1) | exact HB.out))) : w.heap.size ≤ gb222)); clear HB; have HB := n0_; have BK222 := n1_; have GW222 := n2_; have GE222 := n3_; clear n0_ n1_ n2_ n3_; clear hb hbox hg; have hcz22_0 : w21.cell? ⟨gb222, 0, none⟩ = some (.int .i64 a0_0) := (blk_cell BK222.out 0).trans rfl; have hcz22_1 : w21.cell? ⟨gb222, 1, none⟩ = some (.string a0_1) := (blk_cell BK222.out 1).trans rfl; have hcz22_2 : w21.cell? ⟨gb222, 2, none⟩ = some (.string a0_2) := (blk_cell BK222.out 2).trans rfl; have hcz22_3 : w21.cell? ⟨gb222, 3, none⟩ = some (.int .i64 a0_3) := (blk_cell BK222.out 3).trans rfl; have hcz22_4 : w21.cell? ⟨gb222, 4, none⟩ = some (.int .i64 a0_4) := (blk_cell BK222.out 4).trans rfl; have hcz22_5 : w21.cell? ⟨gb222, 5, none⟩ = some (.int .i64 a0_5) := (blk_cell BK222.out 5).trans rfl; have hcz22_6 : w21.cell? ⟨gb222, 6, none⟩ = some (.int .i64 a0_6) := (blk_cell BK222.out 6).trans rfl; have hcz22_7 : w21.cell? ⟨gb222, 7, none⟩ = some (.string a0_7) := (blk_cell BK222.out 7).trans rfl; have hcz22_8 : w21.cell? ⟨gb222, 8, none⟩ = some (.string a0_8) := (blk_cell BK222.out 8).trans rfl; have hcz22_9 : w21.cell? ⟨gb222, 9, none⟩ = some (.string a0_9) := (blk_cell BK222.out 9).trans rfl; have hfz22_0 := blk_frozen BK222.out 0; have hfz22_1 := blk_frozen BK222.out 1; have hfz22_2 := blk_frozen BK222.out 2; have hfz22_3 := blk_frozen BK222.out 3; have hfz22_4 := blk_frozen BK222.out 4; have hfz22_5 := blk_frozen BK222.out 5; have hfz22_6 := blk_frozen BK222.out 6; have hfz22_7 := blk_frozen BK222.out 7; have hfz22_8 := blk_frozen BK222.out 8; have hfz22_9 := blk_frozen BK222.out 9) | ((with_reducible refine gate_callee (f := 56) rfl ?_); refine goesL_ (some 9) rfl rfl Tryd.func56 (by kernel_rfl) rfl #[.string a0_1] rfl (by (try simp only [List.map_toArray, List.map_cons, List.map_nil]); first | done | rfl | (simp only [List.length_drop, List.length_take]; rfl)) ?_; (with_reducible refine (impl_Split.calls k a0_1 t223 t224 true _ A2.out).mono ?_); rintro e w23 ⟨rfl, hb⟩; refine ⟨_, rfl, ?_⟩; have n0_ := Aside0.mk (blk_below (g := gb222) (o := .cells #[.int .i64 a0_0, .string a0_1, .string a0_2, .int .i64 a0_3, .int .i64 a0_4, .int .i64 a0_5, .int .i64 a0_6, .string a0_7, .string a0_8, .string a0_9] 36 (0, 0)) (by (with_reducible repeat (first | refine blk_drewN ?_ _ | refine blk_drew ?_ | refine blk_alloc ?_ _)); exact BK222.out) hb); have n1_ := Aside0.mk (below_step (by repeat (first | (with_reducible first | exact HB.out | apply below_alloc | apply pw_below_drewN | apply below_drew1 | refine below_set ?_ GE222.out) | exact HB.out)) hb); clear BK222; clear HB; have BK222 := n0_; have HB := n1_; clear n0_ n1_; (try clear hb); (try clear hb2); (try clear hk); (try clear hi); have hcz24_0 : w23.cell? ⟨gb222, 0, none⟩ = some (.int .i64 a0_0) := (blk_cell BK222.out 0).trans rfl; have hcz24_1 : w23.cell? ⟨gb222, 1, none⟩ = some (.string a0_1) := (blk_cell BK222.out 1).trans rfl; have hcz24_2 : w23.cell? ⟨gb222, 2, none⟩ = some (.string a0_2) := (blk_cell BK222.out 2).trans rfl; have hcz24_3 : w23.cell? ⟨gb222, 3, none⟩ = some (.int .i64 a0_3) := (blk_cell BK222.out 3).trans rfl; have hcz24_4 : w23.cell? ⟨gb222, 4, none⟩ = some (.int .i64 a0_4) := (blk_cell BK222.out 4).trans rfl; have hcz24_5 : w23.cell? ⟨gb222, 5, none⟩ = some (.int .i64 a0_5) := (blk_cell BK222.out 5).trans rfl; have hcz24_6 : w23.cell? ⟨gb222, 6, none⟩ = some (.int .i64 a0_6) := (blk_cell BK222.out 6).trans rfl; have hcz24_7 : w23.cell? ⟨gb222, 7, none⟩ = some (.string a0_7) := (blk_cell BK222.out 7).trans rfl; have hcz24_8 : w23.cell? ⟨gb222, 8, none⟩ = some (.string a0_8) := (blk_cell BK222.out 8).trans rfl; have hcz24_9 : w23.cell? ⟨gb222, 9, none⟩ = some (.string a0_9) := (blk_cell BK222.out 9).trans rfl; have hfz24_0 := blk_frozen BK222.out 0; have hfz24_1 := blk_frozen BK222.out 1; have hfz24_2 := blk_frozen BK222.out 2; have hfz24_3 := blk_frozen BK222.out 3; have hfz24_4 := blk_frozen BK222.out 4; have hfz24_5 := blk_frozen BK222.out 5; have hfz24_6 := blk_frozen BK222.out 6; have hfz24_7 := blk_frozen BK222.out 7; have hfz24_8 := blk_frozen BK222.out 8; have hfz24_9 := blk_frozen BK222.out 9) | ((with_reducible refine gate_callee (f := 36) rfl ?_); refine goesL_ (some 14) rfl rfl Tryd.func36 (by kernel_rfl) rfl #[.agg #[.int .i64 a0_0, .string a0_1, .string a0_2, .int .i64 a0_3, .int .i64 a0_4, .int .i64 a0_5, .int .i64 a0_6, .string a0_7, .string a0_8, .string a0_9]] rfl (by (try simp only [List.map_toArray, List.map_cons, List.map_nil]); first | done | rfl | (simp only [List.length_drop, List.length_take]; rfl)) ?_; (with_reducible refine (impl_EntryOk.calls k a0_0 a0_1 a0_2 a0_3 a0_4 a0_5 a0_6 a0_7 a0_8 a0_9 true _ A3.out).mono ?_); rintro e w25 ⟨rfl, hb⟩; refine ⟨_, rfl, ?_⟩; have n0_ := Aside0.mk (blk_below (g := gb222) (o := .cells #[.int .i64 a0_0, .string a0_1, .string a0_2, .int .i64 a0_3, .int .i64 a0_4, .int .i64 a0_5, .int .i64 a0_6, .string a0_7, .string a0_8, .string a0_9] 36 (0, 0)) (by (with_reducible repeat (first | refine blk_drewN ?_ _ | refine blk_drew ?_ | refine blk_alloc ?_ _)); exact BK222.out) hb); have n1_ := Aside0.mk (below_step (by repeat (first | (with_reducible first | exact HB.out | apply below_alloc | apply pw_below_drewN | apply below_drew1 | refine below_set ?_ GE222.out) | exact HB.out)) hb); clear BK222; clear HB; have BK222 := n0_; have HB := n1_; clear n0_ n1_; (try clear hb); (try clear hb2); (try clear hk); (try clear hi); have hcz26_0 : w25.cell? ⟨gb222, 0, none⟩ = some (.int .i64 a0_0) := (blk_cell BK222.out 0).trans rfl; have hcz26_1 : w25.cell? ⟨gb222, 1, none⟩ = some (.string a0_1) := (blk_cell BK222.out 1).trans rfl; have hcz26_2 : w25.cell? ⟨gb222, 2, none⟩ = some (.string a0_2) := (blk_cell BK222.out 2).trans rfl; have hcz26_3 : w25.cell? ⟨gb222, 3, none⟩ = some (.int .i64 a0_3) := (blk_cell BK222.out 3).trans rfl; have hcz26_4 : w25.cell? ⟨gb222, 4, none⟩ = some (.int .i64 a0_4) := (blk_cell BK222.out 4).trans rfl; have hcz26_5 : w25.cell? ⟨gb222, 5, none⟩ = some (.int .i64 a0_5) := (blk_cell BK222.out 5).trans rfl; have hcz26_6 : w25.cell? ⟨gb222, 6, none⟩ = some (.int .i64 a0_6) := (blk_cell BK222.out 6).trans rfl; have hcz26_7 : w25.cell? ⟨gb222, 7, none⟩ = some (.string a0_7) := (blk_cell BK222.out 7).trans rfl; have hcz26_8 : w25.cell? ⟨gb222, 8, none⟩ = some (.string a0_8) := (blk_cell BK222.out 8).trans rfl; have hcz26_9 : w25.cell? ⟨gb222, 9, none⟩ = some (.string a0_9) := (blk_cell BK222.out 9).trans rfl; have hfz26_0 := blk_frozen BK222.out 0; have hfz26_1 := blk_frozen BK222.out 1; have hfz26_2 := blk_frozen BK222.out 2; have hfz26_3 := blk_frozen BK222.out 3; have hfz26_4 := blk_frozen BK222.out 4; have hfz26_5 := blk_frozen BK222.out 5; have hfz26_6 := blk_frozen BK222.out 6; have hfz26_7 := blk_frozen BK222.out 7; have hfz26_8 := blk_frozen BK222.out 8; have hfz26_9 := blk_frozen BK222.out 9))
          go_ret
          exact ⟨by first | rfl | (simp [errW_none, errW_some] <;> rfl) | (simp [*, errW_none, errW_some] <;> rfl) | (simp only [decide_eq_true_eq] at *; simp [*, bt]; done), by repeat (first | (with_reducible first | exact HB.out | apply below_alloc | apply pw_below_drewN | apply below_drew1 | refine below_set ?_ GE222.out) | exact HB.out)⟩
      · rw [if_neg c6] at H
        have c6b0 : decide ((a0_2.size : Int) ≤ 100) = false := decide_eq_false c6
        have c6b1 : decide (a0_2.size ≤ 100) = false := decide_eq_false (by omega)
        clear c6
        obtain rfl := Option.some.inj H
        go_enter Tryd.func54, Tryd.ntmps54
        go_wp2_with (first | ((with_reducible refine gate_dst (N := 1) rfl ?_); (try (refine gate_guard (by rfl) ?_; dsimp only)); refine box_event ?hg (N := 1) ?hd (cs := #[.int .i64 a0_0, .string a0_1, .string a0_2, .int .i64 a0_3, .int .i64 a0_4, .int .i64 a0_5, .int .i64 a0_6, .string a0_7, .string a0_8, .string a0_9]) (t := 36) ?hr ?_; (case hd => rfl); (case hg => rfl); (case hr => first | (go_simp; done) | (go_simp; rfl)); intro gb222 hg w27 hbox hb; have n0_ := Aside0.mk (below_step (by repeat (first | (with_reducible first | exact HB.out | apply below_alloc | apply pw_below_drewN | apply below_drew1) | exact HB.out)) hb); have n1_ := Aside0.mk (hbox); have n2_ := Aside0.mk ((by rw [hg]; exact (below_size (by repeat (first | (with_reducible first | exact HB.out | apply below_alloc | apply pw_below_drewN | apply below_drew1) | exact HB.out))) : w.heap.size ≤ gb222)); have n3_ := Aside0.mk ((by rw [hg]; exact (below_size (by repeat (first | (with_reducible first | exact HB.out | apply below_alloc | apply pw_below_drewN | apply below_drew1) | exact HB.out))) : w.heap.size ≤ gb222)); clear HB; have HB := n0_; have BK222 := n1_; have GW222 := n2_; have GE222 := n3_; clear n0_ n1_ n2_ n3_; clear hb hbox hg; have hcz28_0 : w27.cell? ⟨gb222, 0, none⟩ = some (.int .i64 a0_0) := (blk_cell BK222.out 0).trans rfl; have hcz28_1 : w27.cell? ⟨gb222, 1, none⟩ = some (.string a0_1) := (blk_cell BK222.out 1).trans rfl; have hcz28_2 : w27.cell? ⟨gb222, 2, none⟩ = some (.string a0_2) := (blk_cell BK222.out 2).trans rfl; have hcz28_3 : w27.cell? ⟨gb222, 3, none⟩ = some (.int .i64 a0_3) := (blk_cell BK222.out 3).trans rfl; have hcz28_4 : w27.cell? ⟨gb222, 4, none⟩ = some (.int .i64 a0_4) := (blk_cell BK222.out 4).trans rfl; have hcz28_5 : w27.cell? ⟨gb222, 5, none⟩ = some (.int .i64 a0_5) := (blk_cell BK222.out 5).trans rfl; have hcz28_6 : w27.cell? ⟨gb222, 6, none⟩ = some (.int .i64 a0_6) := (blk_cell BK222.out 6).trans rfl; have hcz28_7 : w27.cell? ⟨gb222, 7, none⟩ = some (.string a0_7) := (blk_cell BK222.out 7).trans rfl; have hcz28_8 : w27.cell? ⟨gb222, 8, none⟩ = some (.string a0_8) := (blk_cell BK222.out 8).trans rfl; have hcz28_9 : w27.cell? ⟨gb222, 9, none⟩ = some (.string a0_9) := (blk_cell BK222.out 9).trans rfl; have hfz28_0 := blk_frozen BK222.out 0; have hfz28_1 := blk_frozen BK222.out 1; have hfz28_2 := blk_frozen BK222.out 2; have hfz28_3 := blk_frozen BK222.out 3; have hfz28_4 := blk_frozen BK222.out 4; have hfz28_5 := blk_frozen BK222.out 5; have hfz28_6 := blk_frozen BK222.out 6; have hfz28_7 := blk_frozen BK222.out 7; have hfz28_8 := blk_frozen BK222.out 8; have hfz28_9 := blk_frozen BK222.out 9) | ((with_reducible refine gate_callee (f := 56) rfl ?_); refine goesL_ (some 9) rfl rfl Tryd.func56 (by kernel_rfl) rfl #[.string a0_1] rfl (by (try simp only [List.map_toArray, List.map_cons, List.map_nil]); first | done | rfl | (simp only [List.length_drop, List.length_take]; rfl)) ?_; (with_reducible refine (impl_Split.calls k a0_1 t223 t224 true _ A2.out).mono ?_); rintro e w29 ⟨rfl, hb⟩; refine ⟨_, rfl, ?_⟩; have n0_ := Aside0.mk (blk_below (g := gb222) (o := .cells #[.int .i64 a0_0, .string a0_1, .string a0_2, .int .i64 a0_3, .int .i64 a0_4, .int .i64 a0_5, .int .i64 a0_6, .string a0_7, .string a0_8, .string a0_9] 36 (0, 0)) (by (with_reducible repeat (first | refine blk_drewN ?_ _ | refine blk_drew ?_ | refine blk_alloc ?_ _)); exact BK222.out) hb); have n1_ := Aside0.mk (below_step (by repeat (first | (with_reducible first | exact HB.out | apply below_alloc | apply pw_below_drewN | apply below_drew1 | refine below_set ?_ GE222.out) | exact HB.out)) hb); clear BK222; clear HB; have BK222 := n0_; have HB := n1_; clear n0_ n1_; (try clear hb); (try clear hb2); (try clear hk); (try clear hi); have hcz30_0 : w29.cell? ⟨gb222, 0, none⟩ = some (.int .i64 a0_0) := (blk_cell BK222.out 0).trans rfl; have hcz30_1 : w29.cell? ⟨gb222, 1, none⟩ = some (.string a0_1) := (blk_cell BK222.out 1).trans rfl; have hcz30_2 : w29.cell? ⟨gb222, 2, none⟩ = some (.string a0_2) := (blk_cell BK222.out 2).trans rfl; have hcz30_3 : w29.cell? ⟨gb222, 3, none⟩ = some (.int .i64 a0_3) := (blk_cell BK222.out 3).trans rfl; have hcz30_4 : w29.cell? ⟨gb222, 4, none⟩ = some (.int .i64 a0_4) := (blk_cell BK222.out 4).trans rfl; have hcz30_5 : w29.cell? ⟨gb222, 5, none⟩ = some (.int .i64 a0_5) := (blk_cell BK222.out 5).trans rfl; have hcz30_6 : w29.cell? ⟨gb222, 6, none⟩ = some (.int .i64 a0_6) := (blk_cell BK222.out 6).trans rfl; have hcz30_7 : w29.cell? ⟨gb222, 7, none⟩ = some (.string a0_7) := (blk_cell BK222.out 7).trans rfl; have hcz30_8 : w29.cell? ⟨gb222, 8, none⟩ = some (.string a0_8) := (blk_cell BK222.out 8).trans rfl; have hcz30_9 : w29.cell? ⟨gb222, 9, none⟩ = some (.string a0_9) := (blk_cell BK222.out 9).trans rfl; have hfz30_0 := blk_frozen BK222.out 0; have hfz30_1 := blk_frozen BK222.out 1; have hfz30_2 := blk_frozen BK222.out 2; have hfz30_3 := blk_frozen BK222.out 3; have hfz30_4 := blk_frozen BK222.out 4; have hfz30_5 := blk_frozen BK222.out 5; have hfz30_6 := blk_frozen BK222.out 6; have hfz30_7 := blk_frozen BK222.out 7; have hfz30_8 := blk_frozen BK222.out 8; have hfz30_9 := blk_frozen BK222.out 9) | ((with_reducible refine gate_callee (f := 36) rfl ?_); refine goesL_ (some 14) rfl rfl Tryd.func36 (by kernel_rfl) rfl #[.agg #[.int .i64 a0_0, .string a0_1, .string a0_2, .int .i64 a0_3, .int .i64 a0_4, .int .i64 a0_5, .int .i64 a0_6, .string a0_7, .string a0_8, .string a0_9]] rfl (by (try simp only [List.map_toArray, List.map_cons, List.map_nil]); first | done | rfl | (simp only [List.length_drop, List.length_take]; rfl)) ?_; (with_reducible refine (impl_EntryOk.calls k a0_0 a0_1 a0_2 a0_3 a0_4 a0_5 a0_6 a0_7 a0_8 a0_9 true _ A3.out).mono ?_); rintro e w31 ⟨rfl, hb⟩; refine ⟨_, rfl, ?_⟩; have n0_ := Aside0.mk (blk_below (g := gb222) (o := .cells #[.int .i64 a0_0, .string a0_1, .string a0_2, .int .i64 a0_3, .int .i64 a0_4, .int .i64 a0_5, .int .i64 a0_6, .string a0_7, .string a0_8, .string a0_9] 36 (0, 0)) (by (with_reducible repeat (first | refine blk_drewN ?_ _ | refine blk_drew ?_ | refine blk_alloc ?_ _)); exact BK222.out) hb); have n1_ := Aside0.mk (below_step (by repeat (first | (with_reducible first | exact HB.out | apply below_alloc | apply pw_below_drewN | apply below_drew1 | refine below_set ?_ GE222.out) | exact HB.out)) hb); clear BK222; clear HB; have BK222 := n0_; have HB := n1_; clear n0_ n1_; (try clear hb); (try clear hb2); (try clear hk); (try clear hi); have hcz32_0 : w31.cell? ⟨gb222, 0, none⟩ = some (.int .i64 a0_0) := (blk_cell BK222.out 0).trans rfl; have hcz32_1 : w31.cell? ⟨gb222, 1, none⟩ = some (.string a0_1) := (blk_cell BK222.out 1).trans rfl; have hcz32_2 : w31.cell? ⟨gb222, 2, none⟩ = some (.string a0_2) := (blk_cell BK222.out 2).trans rfl; have hcz32_3 : w31.cell? ⟨gb222, 3, none⟩ = some (.int .i64 a0_3) := (blk_cell BK222.out 3).trans rfl; have hcz32_4 : w31.cell? ⟨gb222, 4, none⟩ = some (.int .i64 a0_4) := (blk_cell BK222.out 4).trans rfl; have hcz32_5 : w31.cell? ⟨gb222, 5, none⟩ = some (.int .i64 a0_5) := (blk_cell BK222.out 5).trans rfl; have hcz32_6 : w31.cell? ⟨gb222, 6, none⟩ = some (.int .i64 a0_6) := (blk_cell BK222.out 6).trans rfl; have hcz32_7 : w31.cell? ⟨gb222, 7, none⟩ = some (.string a0_7) := (blk_cell BK222.out 7).trans rfl; have hcz32_8 : w31.cell? ⟨gb222, 8, none⟩ = some (.string a0_8) := (blk_cell BK222.out 8).trans rfl; have hcz32_9 : w31.cell? ⟨gb222, 9, none⟩ = some (.string a0_9) := (blk_cell BK222.out 9).trans rfl; have hfz32_0 := blk_frozen BK222.out 0; have hfz32_1 := blk_frozen BK222.out 1; have hfz32_2 := blk_frozen BK222.out 2; have hfz32_3 := blk_frozen BK222.out 3; have hfz32_4 := blk_frozen BK222.out 4; have hfz32_5 := blk_frozen BK222.out 5; have hfz32_6 := blk_frozen BK222.out 6; have hfz32_7 := blk_frozen BK222.out 7; have hfz32_8 := blk_frozen BK222.out 8; have hfz32_9 := blk_frozen BK222.out 9))
        go_ret
        exact ⟨by first | rfl | (simp [errW_none, errW_some] <;> rfl) | (simp [*, errW_none, errW_some] <;> rfl) | (simp only [decide_eq_true_eq] at *; simp [*, bt]; done), by repeat (first | (with_reducible first | exact HB.out | apply below_alloc | apply pw_below_drewN | apply below_drew1 | refine below_set ?_ GE222.out) | exact HB.out)⟩
    · replace c5 := Bool.eq_false_iff.mpr c5
      subst c5
      have H1 : (some false) = some r := by rw [if_neg (show ¬ (false = true) by decide)] at H; exact H
      clear H
      have H := H1
      clear H1
      obtain rfl := Option.some.inj H
      go_enter Tryd.func54, Tryd.ntmps54
      go_wp2_with (first | ((with_reducible refine gate_dst (N := 1) rfl ?_); (try (refine gate_guard (by rfl) ?_; dsimp only)); refine box_event ?hg (N := 1) ?hd (cs := #[.int .i64 a0_0, .string a0_1, .string a0_2, .int .i64 a0_3, .int .i64 a0_4, .int .i64 a0_5, .int .i64 a0_6, .string a0_7, .string a0_8, .string a0_9]) (t := 36) ?hr ?_; (case hd => rfl); (case hg => rfl); (case hr => first | (go_simp; done) | (go_simp; rfl)); intro gb222 hg w33 hbox hb; have n0_ := Aside0.mk (below_step (by repeat (first | (with_reducible first | exact HB.out | apply below_alloc | apply pw_below_drewN | apply below_drew1) | exact HB.out)) hb); have n1_ := Aside0.mk (hbox); have n2_ := Aside0.mk ((by rw [hg]; exact (below_size (by repeat (first | (with_reducible first | exact HB.out | apply below_alloc | apply pw_below_drewN | apply below_drew1) | exact HB.out))) : w.heap.size ≤ gb222)); have n3_ := Aside0.mk ((by rw [hg]; exact (below_size (by repeat (first | (with_reducible first | exact HB.out | apply below_alloc | apply pw_below_drewN | apply below_drew1) | exact HB.out))) : w.heap.size ≤ gb222)); clear HB; have HB := n0_; have BK222 := n1_; have GW222 := n2_; have GE222 := n3_; clear n0_ n1_ n2_ n3_; clear hb hbox hg; have hcz34_0 : w33.cell? ⟨gb222, 0, none⟩ = some (.int .i64 a0_0) := (blk_cell BK222.out 0).trans rfl; have hcz34_1 : w33.cell? ⟨gb222, 1, none⟩ = some (.string a0_1) := (blk_cell BK222.out 1).trans rfl; have hcz34_2 : w33.cell? ⟨gb222, 2, none⟩ = some (.string a0_2) := (blk_cell BK222.out 2).trans rfl; have hcz34_3 : w33.cell? ⟨gb222, 3, none⟩ = some (.int .i64 a0_3) := (blk_cell BK222.out 3).trans rfl; have hcz34_4 : w33.cell? ⟨gb222, 4, none⟩ = some (.int .i64 a0_4) := (blk_cell BK222.out 4).trans rfl; have hcz34_5 : w33.cell? ⟨gb222, 5, none⟩ = some (.int .i64 a0_5) := (blk_cell BK222.out 5).trans rfl; have hcz34_6 : w33.cell? ⟨gb222, 6, none⟩ = some (.int .i64 a0_6) := (blk_cell BK222.out 6).trans rfl; have hcz34_7 : w33.cell? ⟨gb222, 7, none⟩ = some (.string a0_7) := (blk_cell BK222.out 7).trans rfl; have hcz34_8 : w33.cell? ⟨gb222, 8, none⟩ = some (.string a0_8) := (blk_cell BK222.out 8).trans rfl; have hcz34_9 : w33.cell? ⟨gb222, 9, none⟩ = some (.string a0_9) := (blk_cell BK222.out 9).trans rfl; have hfz34_0 := blk_frozen BK222.out 0; have hfz34_1 := blk_frozen BK222.out 1; have hfz34_2 := blk_frozen BK222.out 2; have hfz34_3 := blk_frozen BK222.out 3; have hfz34_4 := blk_frozen BK222.out 4; have hfz34_5 := blk_frozen BK222.out 5; have hfz34_6 := blk_frozen BK222.out 6; have hfz34_7 := blk_frozen BK222.out 7; have hfz34_8 := blk_frozen BK222.out 8; have hfz34_9 := blk_frozen BK222.out 9) | ((with_reducible refine gate_callee (f := 56) rfl ?_); refine goesL_ (some 9) rfl rfl Tryd.func56 (by kernel_rfl) rfl #[.string a0_1] rfl (by (try simp only [List.map_toArray, List.map_cons, List.map_nil]); first | done | rfl | (simp only [List.length_drop, List.length_take]; rfl)) ?_; (with_reducible refine (impl_Split.calls k a0_1 t223 t224 false _ A2.out).mono ?_); rintro e w35 ⟨rfl, hb⟩; refine ⟨_, rfl, ?_⟩; have n0_ := Aside0.mk (blk_below (g := gb222) (o := .cells #[.int .i64 a0_0, .string a0_1, .string a0_2, .int .i64 a0_3, .int .i64 a0_4, .int .i64 a0_5, .int .i64 a0_6, .string a0_7, .string a0_8, .string a0_9] 36 (0, 0)) (by (with_reducible repeat (first | refine blk_drewN ?_ _ | refine blk_drew ?_ | refine blk_alloc ?_ _)); exact BK222.out) hb); have n1_ := Aside0.mk (below_step (by repeat (first | (with_reducible first | exact HB.out | apply below_alloc | apply pw_below_drewN | apply below_drew1 | refine below_set ?_ GE222.out) | exact HB.out)) hb); clear BK222; clear HB; have BK222 := n0_; have HB := n1_; clear n0_ n1_; (try clear hb); (try clear hb2); (try clear hk); (try clear hi); have hcz36_0 : w35.cell? ⟨gb222, 0, none⟩ = some (.int .i64 a0_0) := (blk_cell BK222.out 0).trans rfl; have hcz36_1 : w35.cell? ⟨gb222, 1, none⟩ = some (.string a0_1) := (blk_cell BK222.out 1).trans rfl; have hcz36_2 : w35.cell? ⟨gb222, 2, none⟩ = some (.string a0_2) := (blk_cell BK222.out 2).trans rfl; have hcz36_3 : w35.cell? ⟨gb222, 3, none⟩ = some (.int .i64 a0_3) := (blk_cell BK222.out 3).trans rfl; have hcz36_4 : w35.cell? ⟨gb222, 4, none⟩ = some (.int .i64 a0_4) := (blk_cell BK222.out 4).trans rfl; have hcz36_5 : w35.cell? ⟨gb222, 5, none⟩ = some (.int .i64 a0_5) := (blk_cell BK222.out 5).trans rfl; have hcz36_6 : w35.cell? ⟨gb222, 6, none⟩ = some (.int .i64 a0_6) := (blk_cell BK222.out 6).trans rfl; have hcz36_7 : w35.cell? ⟨gb222, 7, none⟩ = some (.string a0_7) := (blk_cell BK222.out 7).trans rfl; have hcz36_8 : w35.cell? ⟨gb222, 8, none⟩ = some (.string a0_8) := (blk_cell BK222.out 8).trans rfl; have hcz36_9 : w35.cell? ⟨gb222, 9, none⟩ = some (.string a0_9) := (blk_cell BK222.out 9).trans rfl; have hfz36_0 := blk_frozen BK222.out 0; have hfz36_1 := blk_frozen BK222.out 1; have hfz36_2 := blk_frozen BK222.out 2; have hfz36_3 := blk_frozen BK222.out 3; have hfz36_4 := blk_frozen BK222.out 4; have hfz36_5 := blk_frozen BK222.out 5; have hfz36_6 := blk_frozen BK222.out 6; have hfz36_7 := blk_frozen BK222.out 7; have hfz36_8 := blk_frozen BK222.out 8; have hfz36_9 := blk_frozen BK222.out 9) | ((with_reducible refine gate_callee (f := 36) rfl ?_); refine goesL_ (some 14) rfl rfl Tryd.func36 (by kernel_rfl) rfl #[.agg #[.int .i64 a0_0, .string a0_1, .string a0_2, .int .i64 a0_3, .int .i64 a0_4, .int .i64 a0_5, .int .i64 a0_6, .string a0_7, .string a0_8, .string a0_9]] rfl (by (try simp only [List.map_toArray, List.map_cons, List.map_nil]); first | done | rfl | (simp only [List.length_drop, List.length_take]; rfl)) ?_; (with_reducible refine (impl_EntryOk.calls k a0_0 a0_1 a0_2 a0_3 a0_4 a0_5 a0_6 a0_7 a0_8 a0_9 true _ A3.out).mono ?_); rintro e w37 ⟨rfl, hb⟩; refine ⟨_, rfl, ?_⟩; have n0_ := Aside0.mk (blk_below (g := gb222) (o := .cells #[.int .i64 a0_0, .string a0_1, .string a0_2, .int .i64 a0_3, .int .i64 a0_4, .int .i64 a0_5, .int .i64 a0_6, .string a0_7, .string a0_8, .string a0_9] 36 (0, 0)) (by (with_reducible repeat (first | refine blk_drewN ?_ _ | refine blk_drew ?_ | refine blk_alloc ?_ _)); exact BK222.out) hb); have n1_ := Aside0.mk (below_step (by repeat (first | (with_reducible first | exact HB.out | apply below_alloc | apply pw_below_drewN | apply below_drew1 | refine below_set ?_ GE222.out) | exact HB.out)) hb); clear BK222; clear HB; have BK222 := n0_; have HB := n1_; clear n0_ n1_; (try clear hb); (try clear hb2); (try clear hk); (try clear hi)))
      go_ret
      exact ⟨by first | rfl | (simp [errW_none, errW_some] <;> rfl) | (simp [*, errW_none, errW_some] <;> rfl) | (simp only [decide_eq_true_eq] at *; simp [*, bt]; done), by repeat (first | (with_reducible first | exact HB.out | apply below_alloc | apply pw_below_drewN | apply below_drew1 | refine below_set ?_ GE222.out) | exact HB.out)⟩
  · replace c4 := Bool.eq_false_iff.mpr c4
    subst c4
    have H1 : (some false) = some r := by rw [if_neg (show ¬ (false = true) by decide)] at H; exact H
    clear H
    have H := H1
    clear H1
    obtain rfl := Option.some.inj H
    go_enter Tryd.func54, Tryd.ntmps54
    go_wp2_with (first | ((with_reducible refine gate_dst (N := 1) rfl ?_); (try (refine gate_guard (by rfl) ?_; dsimp only)); refine box_event ?hg (N := 1) ?hd (cs := #[.int .i64 a0_0, .string a0_1, .string a0_2, .int .i64 a0_3, .int .i64 a0_4, .int .i64 a0_5, .int .i64 a0_6, .string a0_7, .string a0_8, .string a0_9]) (t := 36) ?hr ?_; (case hd => rfl); (case hg => rfl); (case hr => first | (go_simp; done) | (go_simp; rfl)); intro gb222 hg w38 hbox hb; have n0_ := Aside0.mk (below_step (by repeat (first | (with_reducible first | exact HB.out | apply below_alloc | apply pw_below_drewN | apply below_drew1) | exact HB.out)) hb); have n1_ := Aside0.mk (hbox); have n2_ := Aside0.mk ((by rw [hg]; exact (below_size (by repeat (first | (with_reducible first | exact HB.out | apply below_alloc | apply pw_below_drewN | apply below_drew1) | exact HB.out))) : w.heap.size ≤ gb222)); have n3_ := Aside0.mk ((by rw [hg]; exact (below_size (by repeat (first | (with_reducible first | exact HB.out | apply below_alloc | apply pw_below_drewN | apply below_drew1) | exact HB.out))) : w.heap.size ≤ gb222)); clear HB; have HB := n0_; have BK222 := n1_; have GW222 := n2_; have GE222 := n3_; clear n0_ n1_ n2_ n3_; clear hb hbox hg; have hcz39_0 : w38.cell? ⟨gb222, 0, none⟩ = some (.int .i64 a0_0) := (blk_cell BK222.out 0).trans rfl; have hcz39_1 : w38.cell? ⟨gb222, 1, none⟩ = some (.string a0_1) := (blk_cell BK222.out 1).trans rfl; have hcz39_2 : w38.cell? ⟨gb222, 2, none⟩ = some (.string a0_2) := (blk_cell BK222.out 2).trans rfl; have hcz39_3 : w38.cell? ⟨gb222, 3, none⟩ = some (.int .i64 a0_3) := (blk_cell BK222.out 3).trans rfl; have hcz39_4 : w38.cell? ⟨gb222, 4, none⟩ = some (.int .i64 a0_4) := (blk_cell BK222.out 4).trans rfl; have hcz39_5 : w38.cell? ⟨gb222, 5, none⟩ = some (.int .i64 a0_5) := (blk_cell BK222.out 5).trans rfl; have hcz39_6 : w38.cell? ⟨gb222, 6, none⟩ = some (.int .i64 a0_6) := (blk_cell BK222.out 6).trans rfl; have hcz39_7 : w38.cell? ⟨gb222, 7, none⟩ = some (.string a0_7) := (blk_cell BK222.out 7).trans rfl; have hcz39_8 : w38.cell? ⟨gb222, 8, none⟩ = some (.string a0_8) := (blk_cell BK222.out 8).trans rfl; have hcz39_9 : w38.cell? ⟨gb222, 9, none⟩ = some (.string a0_9) := (blk_cell BK222.out 9).trans rfl; have hfz39_0 := blk_frozen BK222.out 0; have hfz39_1 := blk_frozen BK222.out 1; have hfz39_2 := blk_frozen BK222.out 2; have hfz39_3 := blk_frozen BK222.out 3; have hfz39_4 := blk_frozen BK222.out 4; have hfz39_5 := blk_frozen BK222.out 5; have hfz39_6 := blk_frozen BK222.out 6; have hfz39_7 := blk_frozen BK222.out 7; have hfz39_8 := blk_frozen BK222.out 8; have hfz39_9 := blk_frozen BK222.out 9) | ((with_reducible refine gate_callee (f := 56) rfl ?_); refine goesL_ (some 9) rfl rfl Tryd.func56 (by kernel_rfl) rfl #[.string a0_1] rfl (by (try simp only [List.map_toArray, List.map_cons, List.map_nil]); first | done | rfl | (simp only [List.length_drop, List.length_take]; rfl)) ?_; (with_reducible refine (impl_Split.calls k a0_1 t223 t224 t225 _ A2.out).mono ?_); rintro e w40 ⟨rfl, hb⟩; refine ⟨_, rfl, ?_⟩; have n0_ := Aside0.mk (blk_below (g := gb222) (o := .cells #[.int .i64 a0_0, .string a0_1, .string a0_2, .int .i64 a0_3, .int .i64 a0_4, .int .i64 a0_5, .int .i64 a0_6, .string a0_7, .string a0_8, .string a0_9] 36 (0, 0)) (by (with_reducible repeat (first | refine blk_drewN ?_ _ | refine blk_drew ?_ | refine blk_alloc ?_ _)); exact BK222.out) hb); have n1_ := Aside0.mk (below_step (by repeat (first | (with_reducible first | exact HB.out | apply below_alloc | apply pw_below_drewN | apply below_drew1 | refine below_set ?_ GE222.out) | exact HB.out)) hb); clear BK222; clear HB; have BK222 := n0_; have HB := n1_; clear n0_ n1_; (try clear hb); (try clear hb2); (try clear hk); (try clear hi); have hcz41_0 : w40.cell? ⟨gb222, 0, none⟩ = some (.int .i64 a0_0) := (blk_cell BK222.out 0).trans rfl; have hcz41_1 : w40.cell? ⟨gb222, 1, none⟩ = some (.string a0_1) := (blk_cell BK222.out 1).trans rfl; have hcz41_2 : w40.cell? ⟨gb222, 2, none⟩ = some (.string a0_2) := (blk_cell BK222.out 2).trans rfl; have hcz41_3 : w40.cell? ⟨gb222, 3, none⟩ = some (.int .i64 a0_3) := (blk_cell BK222.out 3).trans rfl; have hcz41_4 : w40.cell? ⟨gb222, 4, none⟩ = some (.int .i64 a0_4) := (blk_cell BK222.out 4).trans rfl; have hcz41_5 : w40.cell? ⟨gb222, 5, none⟩ = some (.int .i64 a0_5) := (blk_cell BK222.out 5).trans rfl; have hcz41_6 : w40.cell? ⟨gb222, 6, none⟩ = some (.int .i64 a0_6) := (blk_cell BK222.out 6).trans rfl; have hcz41_7 : w40.cell? ⟨gb222, 7, none⟩ = some (.string a0_7) := (blk_cell BK222.out 7).trans rfl; have hcz41_8 : w40.cell? ⟨gb222, 8, none⟩ = some (.string a0_8) := (blk_cell BK222.out 8).trans rfl; have hcz41_9 : w40.cell? ⟨gb222, 9, none⟩ = some (.string a0_9) := (blk_cell BK222.out 9).trans rfl; have hfz41_0 := blk_frozen BK222.out 0; have hfz41_1 := blk_frozen BK222.out 1; have hfz41_2 := blk_frozen BK222.out 2; have hfz41_3 := blk_frozen BK222.out 3; have hfz41_4 := blk_frozen BK222.out 4; have hfz41_5 := blk_frozen BK222.out 5; have hfz41_6 := blk_frozen BK222.out 6; have hfz41_7 := blk_frozen BK222.out 7; have hfz41_8 := blk_frozen BK222.out 8; have hfz41_9 := blk_frozen BK222.out 9) | ((with_reducible refine gate_callee (f := 36) rfl ?_); refine goesL_ (some 14) rfl rfl Tryd.func36 (by kernel_rfl) rfl #[.agg #[.int .i64 a0_0, .string a0_1, .string a0_2, .int .i64 a0_3, .int .i64 a0_4, .int .i64 a0_5, .int .i64 a0_6, .string a0_7, .string a0_8, .string a0_9]] rfl (by (try simp only [List.map_toArray, List.map_cons, List.map_nil]); first | done | rfl | (simp only [List.length_drop, List.length_take]; rfl)) ?_; (with_reducible refine (impl_EntryOk.calls k a0_0 a0_1 a0_2 a0_3 a0_4 a0_5 a0_6 a0_7 a0_8 a0_9 false _ A3.out).mono ?_); rintro e w42 ⟨rfl, hb⟩; refine ⟨_, rfl, ?_⟩; have n0_ := Aside0.mk (blk_below (g := gb222) (o := .cells #[.int .i64 a0_0, .string a0_1, .string a0_2, .int .i64 a0_3, .int .i64 a0_4, .int .i64 a0_5, .int .i64 a0_6, .string a0_7, .string a0_8, .string a0_9] 36 (0, 0)) (by (with_reducible repeat (first | refine blk_drewN ?_ _ | refine blk_drew ?_ | refine blk_alloc ?_ _)); exact BK222.out) hb); have n1_ := Aside0.mk (below_step (by repeat (first | (with_reducible first | exact HB.out | apply below_alloc | apply pw_below_drewN | apply below_drew1 | refine below_set ?_ GE222.out) | exact HB.out)) hb); clear BK222; clear HB; have BK222 := n0_; have HB := n1_; clear n0_ n1_; (try clear hb); (try clear hb2); (try clear hk); (try clear hi)))
    go_ret
    exact ⟨by first | rfl | (simp [errW_none, errW_some] <;> rfl) | (simp [*, errW_none, errW_some] <;> rfl) | (simp only [decide_eq_true_eq] at *; simp [*, bt]; done), by repeat (first | (with_reducible first | exact HB.out | apply below_alloc | apply pw_below_drewN | apply below_drew1 | refine below_set ?_ GE222.out) | exact HB.out)⟩

/-! ### strconv_FormatInt: function 100, by a contract of our own -/
/-- The digits of a number in a base, the least behind. -/
def dgt (d : Nat) : UInt8 := Lib.digits36.data.toList.getD d 0
def fmtL (b u : Nat) : List UInt8 := if h : u < b ∨ b ≤ 1 then [dgt u] else fmtL b (u / b) ++ [dgt (u % b)]
termination_by u
decreasing_by exact Nat.div_lt_self (by omega) (by omega)
theorem fmtL_less (b u : Nat) (h : u < b) : fmtL b u = [dgt u] := by rw [fmtL, dif_pos (Or.inl h)]
theorem fmtL_more (b u : Nat) (hb : 2 ≤ b) (h : ¬ u < b) : fmtL b u = fmtL b (u / b) ++ [dgt (u % b)] := by rw [fmtL, dif_neg (by omega)]
def zeros65 : Array Value := #[Value.int .u8 0, Value.int .u8 0, Value.int .u8 0, Value.int .u8 0, Value.int .u8 0, Value.int .u8 0, Value.int .u8 0, Value.int .u8 0, Value.int .u8 0, Value.int .u8 0, Value.int .u8 0, Value.int .u8 0, Value.int .u8 0, Value.int .u8 0, Value.int .u8 0, Value.int .u8 0, Value.int .u8 0, Value.int .u8 0, Value.int .u8 0, Value.int .u8 0, Value.int .u8 0, Value.int .u8 0, Value.int .u8 0, Value.int .u8 0, Value.int .u8 0, Value.int .u8 0, Value.int .u8 0, Value.int .u8 0, Value.int .u8 0, Value.int .u8 0, Value.int .u8 0, Value.int .u8 0, Value.int .u8 0, Value.int .u8 0, Value.int .u8 0, Value.int .u8 0, Value.int .u8 0, Value.int .u8 0, Value.int .u8 0, Value.int .u8 0, Value.int .u8 0, Value.int .u8 0, Value.int .u8 0, Value.int .u8 0, Value.int .u8 0, Value.int .u8 0, Value.int .u8 0, Value.int .u8 0, Value.int .u8 0, Value.int .u8 0, Value.int .u8 0, Value.int .u8 0, Value.int .u8 0, Value.int .u8 0, Value.int .u8 0, Value.int .u8 0, Value.int .u8 0, Value.int .u8 0, Value.int .u8 0, Value.int .u8 0, Value.int .u8 0, Value.int .u8 0, Value.int .u8 0, Value.int .u8 0, Value.int .u8 0]
theorem zeros65_at (i : Nat) (h : i < 65) : zeros65[i]? = some (.int .u8 0) := by
  have e : zeros65 = Array.replicate 65 (.int .u8 0) := rfl
  rw [e, Array.getElem?_replicate, if_pos h]
theorem holds65 (w : World) (T : TypeId) : Go.Sort.Holds (fun (b : UInt8) => Value.int .u8 (b.toNat : Int)) (w.alloc (.cells zeros65 T)) w.heap.size 0 (Array.replicate 65 (0 : UInt8)) := fun j hj => by
  have hj' : j < 65 := by simpa using hj
  refine ⟨?_, World.frozen?_alloc_new _ _ _ _⟩
  rw [World.cell?_alloc_new, zeros65_at _ (by omega), getElem!_pos _ j hj]
  simp
theorem idx_digits36 (z : Int) (k : IntKind) (i : Nat) (hz : z = (i : Int)) (hi : i < 36) (w : World) :
    (Instr.index 9 (.string Lib.digits36) (.int k z)).run Tryd.prog w = .ok (.int .u8 ((dgt i).toNat : Int)) w := by
  subst hz
  have hs : Lib.digits36.size = 36 := rfl
  rw [run_index_string w 9 Lib.digits36 k _ Tryd.underlying9, dif_pos ⟨by omega, by rw [hs]; omega⟩]
  have e : ((i : Int)).toNat = i := by omega
  simp only [e]
  rw [Lib.getD_at Lib.digits36 i (by rw [hs]; exact hi)]
  rfl
theorem set_drop (dk : Array UInt8) (i : Nat) (x : UInt8) (h : i < dk.size) : (dk.setIfInBounds i x).toList.drop i = x :: dk.toList.drop (i + 1) := by
  have hl : i < (dk.toList.set i x).length := by rw [List.length_set, Array.length_toList]; exact h
  rw [Array.toList_setIfInBounds, List.drop_eq_getElem_cons hl, List.getElem_set_self, List.drop_set, if_pos (by omega)]
theorem bits_and_low (v : Nat) (S : Nat) (hv : v < 18446744073709551616) (hS : S < 63) : bits .and .u64 (v : Int) ((2 ^ S - 1 : Nat) : Int) = ((v % 2 ^ S : Nat) : Int) := by
  have h2 : (2 : Nat) ^ S ≤ 2 ^ 63 := Nat.pow_le_pow_right (by decide) (by omega)
  rw [bits_and_u64_nat v _ hv (by omega), Nat.and_two_pow_sub_one_eq_mod]
/-- The tables' cells, whatever the call lays. -/
theorem tz_cell {w W : World} (hL : Tabs w) (hb : Below w.heap.size w W) (i : Nat) (hi : i < 64) : W.cell? ⟨3, i, none⟩ = some (.int .u8 ((Lib.deBruijn64tab.map Int.ofNat).getD i 0)) :=
  (Tabs.below hL hb).1.2.cell (by kernel_rfl) i (by simp [Lib.deBruijn64tab]; omega)
set_option maxRecDepth 100000 in
set_option maxHeartbeats 4000000 in
theorem tz64_8 (W : World) (hc : W.cell? ⟨3, 7, none⟩ = some (.int .u8 3)) :
    Calls Tryd.prog 156 #[.int .u64 8] W fun e w' => e = .returned (.int .i64 3) ∧ w' = W := by
  have key : IntKind.u64.wrap (bits BinOp.and IntKind.u64 8 (IntKind.u64.wrap (-8)) * 285870213051353865) / 288230376151711744 = 7 := by decide
  have g1 : Tryd.prog.globals.findIdx? (·.name == "math/bits.deBruijn64tab") = some 3 := by kernel_rfl
  go_enter Tryd.func156, Tryd.ntmps156
  go_wp2_with (simp only [key])
  go_ret
  exact ⟨rfl, rfl⟩
set_option maxRecDepth 100000 in
theorem tz_8 (W : World) (hc : W.cell? ⟨3, 7, none⟩ = some (.int .u8 3)) :
    Calls Tryd.prog 150 #[.int .u64 8] W fun e w' => e = .returned (.int .i64 3) ∧ w' = W := by
  have c64 := tz64_8 W hc
  clear hc
  go_enter Tryd.func150, Tryd.ntmps150
  go_wp2_with (go_at_call 156; refine c64.mono ?_; rintro e w' ⟨rfl, rfl⟩)
  go_ret
  exact ⟨rfl, rfl⟩
theorem pow2_8 (W : World) : Calls Tryd.prog 149 #[.int .i64 8] W fun e w' => e = .returned (.bool true) ∧ w' = W := by
  have hb : bits .and .i64 8 7 = 0 := by decide
  go_enter Tryd.func149, Tryd.ntmps149
  go_wp2
  go_ret
  exact ⟨by first | rfl | simp [hb], rfl⟩
set_option maxRecDepth 100000 in
set_option maxHeartbeats 16000000 in
theorem formatBits8 (u : Nat) (hu : u < 9223372036854775808) (w : World) (hL : Tabs w) :
    Calls Tryd.prog 142 #[.slice none 0 0, .int .u64 u, .int .i64 8, .bool false, .bool false] w fun e w' => e = .returned (.tuple #[.slice none 0 0, .string ⟨(fmtL 8 u).toArray⟩]) ∧ Below w.heap.size w w' := by
  have hz := fun (W : World) (hb : Below w.heap.size w W) => tz_8 W (tz_cell hL hb 7 (by decide))
  have hp := fun W => pow2_8 W
  clear hL
  go_enter Tryd.func142, Tryd.ntmps142
  go_name_bytes_deep 44 PM hPM
  clear hPM
  go_name_bytes_deep 30 DG hDG
  have eDG : DG = Lib.digits36 := by rw [← hDG]; decide +kernel
  subst eDG
  clear hDG
  go_wp2_with (first | (go_at_call 149; refine (hp _).mono ?_; rintro e w' ⟨rfl, rfl⟩) | (go_at_call 150; refine (hz _ (by repeat (first | exact Below.refl _ _ | apply below_alloc | apply below_drew1 | apply pw_below_drewN))).mono ?_; rintro e w' ⟨rfl, rfl⟩))
  go_loopw [1, 13] (fun vu vi wr => ∃ (v i n : Nat) (dk : Array UInt8), vu = .int .u64 v ∧ vi = .int .i64 i ∧ wr = (Go.Sort.putRow (fun (b : UInt8) => Value.int .u8 (b.toNat : Int)) (w.alloc (.cells zeros65 138)) w.heap.size 0 dk).drewN n ∧ Hid (dk.size = 65 ∧ v < 2 ^ (i - 2) ∧ 2 ≤ i ∧ i ≤ 65 ∧ fmtL 8 u = fmtL 8 v ++ dk.toList.drop i)) (fun vu _ _ => (RowKit.intOf vu).toNat)
  case atStart => exact ⟨u, 65, 0, Array.replicate 65 0, rfl, rfl, (Go.Sort.putRow_self _ _ _ _ _ (holds65 w 138)).symm, by simp, by omega, by omega, by omega, by simp⟩
  case round =>
    obtain ⟨v, i, n, dk, rfl, rfl, hw0, HI⟩ := hrel
    rename World => W0
    clear hz hp
    obtain ⟨hs0, hv, hi2, hi65, hdec⟩ := HI.out
    have hH0 : Go.Sort.Holds (fun (b : UInt8) => Value.int .u8 (b.toNat : Int)) W0 w.heap.size 0 dk := by rw [hw0]; exact Go.Sort.holds_putRow _ _ _ _ (Array.replicate 65 (0 : UInt8)) dk (holds65 w 138) (by rw [hs0, Array.size_replicate])
    obtain ⟨m, rfl⟩ : ∃ m, i = m + 1 := ⟨i - 1, by omega⟩
    obtain ⟨g, hg⟩ : ∃ g : Int, g = (dk[m]!.toNat : Int) := ⟨_, rfl⟩
    have hc0 : W0.cell? ⟨w.heap.size, m, none⟩ = some (.int .u8 g) := by rw [hg, ← (hH0 m (by omega)).1, Nat.zero_add]
    have hf0 : W0.frozen? ⟨w.heap.size, m, none⟩ = false := by rw [← (hH0 m (by omega)).2, Nat.zero_add]
    have hv64 : v < 9223372036854775808 := Nat.lt_of_lt_of_le hv (Nat.le_trans (Nat.pow_le_pow_right (by decide) (show m + 1 - 2 ≤ 63 by omega)) (by decide))
    have hal : Tryd.prog.arrayLen 138 = 65 := by kernel_rfl
    have AW0 := Lib.hid hw0
    have AH := Lib.hid hH0
    clear hw0 hH0 hg
    by_cases hge : 8 ≤ v
    · obtain ⟨x, hx⟩ : ∃ x : Nat, x = v % 8 := ⟨_, rfl⟩
      obtain ⟨q, hq⟩ : ∃ q : Nat, q = v / 8 := ⟨_, rfl⟩
      have hand : bits .and .u64 (v : Int) 7 = (x : Int) := by rw [hx]; exact bits_and_low v 3 (by omega) (by decide)
      have hX : ∀ w, (Instr.index 9 (.string Lib.digits36) (.int .u64 (x : Int))).run Tryd.prog w = .ok (.int .u8 ((dgt x).toNat : Int)) w := idx_digits36 _ .u64 x rfl (by omega)
      have HN : Hid ((dk.setIfInBounds m (dgt x)).size = 65 ∧ q < 2 ^ (m - 2) ∧ 2 ≤ m ∧ m ≤ 65 ∧ fmtL 8 u = fmtL 8 q ++ (dk.setIfInBounds m (dgt x)).toList.drop m) := Lib.hid (by
        have h4 : 3 + 2 ≤ m := by
          have : ¬ m + 1 - 2 ≤ 3 := fun hle => by
            have h8 : v < 2 ^ 3 := Nat.lt_of_lt_of_le hv (Nat.pow_le_pow_right (by decide) hle)
            have h9 : (2 : Nat) ^ 3 = 8 := by decide
            omega
          omega
        refine ⟨by simpa using hs0, ?_, by omega, by omega, ?_⟩
        · rw [hq]
          apply Nat.div_lt_of_lt_mul
          have e : 8 * 2 ^ (m - 2) = 2 ^ (m - 2 + 3) := by rw [Nat.pow_add, Nat.mul_comm]
          rw [e]
          exact Nat.lt_of_lt_of_le hv (Nat.pow_le_pow_right (by decide) (by omega))
        · rw [set_drop dk m _ (by omega), hdec, fmtL_more 8 v (by decide) (by omega), ← hx, ← hq, List.append_assoc]
          rfl)
      have hqv : v / 8 = q := hq.symm
      have hqi : (v : Int) / 8 = (q : Int) := by omega
      have hlt : q < v := by omega
      clear hdec hv HI hx hq
      go_wp2
      refine ⟨⟨q, m, n, dk.setIfInBounds m (dgt x), rfl, rfl, ?_, HN⟩, by simp [RowKit.intOf]; omega⟩
      rw [AW0.out]
      have hst := Lib.store1_world (w.alloc (.cells zeros65 138)) w.heap.size 0 dk n m (dgt x) (by omega)
      rw [Nat.zero_add] at hst
      exact hst
    · have hX : ∀ w, (Instr.index 9 (.string Lib.digits36) (.int .u64 (v : Int))).run Tryd.prog w = .ok (.int .u8 ((dgt v).toNat : Int)) w := idx_digits36 _ .u64 v rfl (by omega)
      have hlast : fmtL 8 u = (dk.setIfInBounds m (dgt v)).toList.drop m := by
        rw [set_drop dk m _ (by omega), hdec, fmtL_less 8 v (by omega)]
        rfl
      have hlen : (fmtL 8 u).length = 65 - m := by
        rw [hlast, List.length_drop, Array.length_toList, Array.size_setIfInBounds, hs0]
      have hst : W0.setCell ⟨w.heap.size, m, none⟩ (.int .u8 ((dgt v).toNat : Int)) = (Go.Sort.putRow (fun (b : UInt8) => Value.int .u8 (b.toNat : Int)) (w.alloc (.cells zeros65 138)) w.heap.size 0 (dk.setIfInBounds m (dgt v))).drewN n := by
        have hst := Lib.store1_world (w.alloc (.cells zeros65 138)) w.heap.size 0 dk n m (dgt v) (by omega)
        rw [Nat.zero_add] at hst
        rw [AW0.out]
        exact hst
      have hH1 : Go.Sort.Holds (fun (b : UInt8) => Value.int .u8 (b.toNat : Int)) (W0.setCell ⟨w.heap.size, m, none⟩ (.int .u8 ((dgt v).toNat : Int))) w.heap.size 0 (dk.setIfInBounds m (dgt v)) := by rw [hst]; exact Go.Sort.holds_putRow _ _ _ _ (Array.replicate 65 (0 : UInt8)) _ (holds65 w 138) (by rw [Array.size_setIfInBounds, hs0, Array.size_replicate])
      have hsl : ∀ W, (Instr.sliceAt 138 (.pointer (some ⟨w.heap.size, 0, none⟩)) (some (.int .i64 (m : Int))) none none).run Tryd.prog W = .ok (.slice (some ⟨w.heap.size, m, none⟩) (65 - m) (65 - m)) W := fun W => by
        rw [run_sliceAt_array_l W 138 ⟨w.heap.size, 0, none⟩ (by kernel_rfl) .i64 (m : Int) (by omega) (by rw [hal]; omega)]
        rw [hal, show Tryd.prog.elem 138 = 5 by kernel_rfl]
        simp only [slicedAt, Int.toNat_natCast]
        rw [show (sizeOf 5).run Tryd.prog W = .ok 1 W from Tryd.sizeOf5 W]
        simp only [Result.andThen, if_neg (show ¬ 65 = m by omega), Lib.add_plain, Nat.mul_one, Nat.zero_add]
      have hcv : (convert 71 9 (.slice (some ⟨w.heap.size, m, none⟩) (65 - m) (65 - m))).run Tryd.prog (W0.setCell ⟨w.heap.size, m, none⟩ (.int .u8 ((dgt v).toNat : Int))) = .ok (.string ⟨(fmtL 8 u).toArray⟩) (W0.setCell ⟨w.heap.size, m, none⟩ (.int .u8 ((dgt v).toNat : Int))) := by
        have h := run_convert_bytes_back (P := Tryd.prog) (W0.setCell ⟨w.heap.size, m, none⟩ (.int .u8 ((dgt v).toNat : Int))) 71 9 5 ⟨w.heap.size, m, none⟩ (65 - m) (fmtL 8 u) Tryd.underlying71 Tryd.underlying5 Tryd.underlying9 (fun j hj => by
          rw [Lib.add_plain]
          have hj2 : m + j < (dk.setIfInBounds m (dgt v)).size := by rw [Array.size_setIfInBounds]; omega
          have h1 := (hH1 (m + j) hj2).1
          rw [Nat.zero_add] at h1
          have e : (dk.setIfInBounds m (dgt v))[m + j]! = (fmtL 8 u)[j] := by
            rw [getElem!_pos _ (m + j) hj2]
            simp only [hlast, List.getElem_drop, Array.getElem_toList]
          rw [h1, e])
        rw [hlen] at h
        exact h
      have hbel : Below w.heap.size w (W0.setCell ⟨w.heap.size, m, none⟩ (.int .u8 ((dgt v).toNat : Int))) := by
        rw [hst]
        obtain ⟨os, eo⟩ := Lib.fin_at w (.cells zeros65 138) (dk.setIfInBounds m (dgt v)) n 0
        rw [eo]
        exact below_grow_ _ _ _
      have HB := Aside0.mk hbel
      clear hbel hH1 hst hlen hlast hdec hv HI hs0 AW0
      go_wp2
      go_ret2
      exact ⟨rfl, HB.out⟩
set_option maxRecDepth 100000 in
set_option maxHeartbeats 4000000 in
theorem tz64_16 (W : World) (hc : W.cell? ⟨3, 15, none⟩ = some (.int .u8 4)) :
    Calls Tryd.prog 156 #[.int .u64 16] W fun e w' => e = .returned (.int .i64 4) ∧ w' = W := by
  have key : IntKind.u64.wrap (bits BinOp.and IntKind.u64 16 (IntKind.u64.wrap (-16)) * 285870213051353865) / 288230376151711744 = 15 := by decide
  have g1 : Tryd.prog.globals.findIdx? (·.name == "math/bits.deBruijn64tab") = some 3 := by kernel_rfl
  go_enter Tryd.func156, Tryd.ntmps156
  go_wp2_with (simp only [key])
  go_ret
  exact ⟨rfl, rfl⟩
set_option maxRecDepth 100000 in
theorem tz_16 (W : World) (hc : W.cell? ⟨3, 15, none⟩ = some (.int .u8 4)) :
    Calls Tryd.prog 150 #[.int .u64 16] W fun e w' => e = .returned (.int .i64 4) ∧ w' = W := by
  have c64 := tz64_16 W hc
  clear hc
  go_enter Tryd.func150, Tryd.ntmps150
  go_wp2_with (go_at_call 156; refine c64.mono ?_; rintro e w' ⟨rfl, rfl⟩)
  go_ret
  exact ⟨rfl, rfl⟩
theorem pow2_16 (W : World) : Calls Tryd.prog 149 #[.int .i64 16] W fun e w' => e = .returned (.bool true) ∧ w' = W := by
  have hb : bits .and .i64 16 15 = 0 := by decide
  go_enter Tryd.func149, Tryd.ntmps149
  go_wp2
  go_ret
  exact ⟨by first | rfl | simp [hb], rfl⟩
set_option maxRecDepth 100000 in
set_option maxHeartbeats 16000000 in
theorem formatBits16 (u : Nat) (hu : u < 9223372036854775808) (w : World) (hL : Tabs w) :
    Calls Tryd.prog 142 #[.slice none 0 0, .int .u64 u, .int .i64 16, .bool false, .bool false] w fun e w' => e = .returned (.tuple #[.slice none 0 0, .string ⟨(fmtL 16 u).toArray⟩]) ∧ Below w.heap.size w w' := by
  have hz := fun (W : World) (hb : Below w.heap.size w W) => tz_16 W (tz_cell hL hb 15 (by decide))
  have hp := fun W => pow2_16 W
  clear hL
  go_enter Tryd.func142, Tryd.ntmps142
  go_name_bytes_deep 44 PM hPM
  clear hPM
  go_name_bytes_deep 30 DG hDG
  have eDG : DG = Lib.digits36 := by rw [← hDG]; decide +kernel
  subst eDG
  clear hDG
  go_wp2_with (first | (go_at_call 149; refine (hp _).mono ?_; rintro e w' ⟨rfl, rfl⟩) | (go_at_call 150; refine (hz _ (by repeat (first | exact Below.refl _ _ | apply below_alloc | apply below_drew1 | apply pw_below_drewN))).mono ?_; rintro e w' ⟨rfl, rfl⟩))
  go_loopw [1, 13] (fun vu vi wr => ∃ (v i n : Nat) (dk : Array UInt8), vu = .int .u64 v ∧ vi = .int .i64 i ∧ wr = (Go.Sort.putRow (fun (b : UInt8) => Value.int .u8 (b.toNat : Int)) (w.alloc (.cells zeros65 138)) w.heap.size 0 dk).drewN n ∧ Hid (dk.size = 65 ∧ v < 2 ^ (i - 2) ∧ 2 ≤ i ∧ i ≤ 65 ∧ fmtL 16 u = fmtL 16 v ++ dk.toList.drop i)) (fun vu _ _ => (RowKit.intOf vu).toNat)
  case atStart => exact ⟨u, 65, 0, Array.replicate 65 0, rfl, rfl, (Go.Sort.putRow_self _ _ _ _ _ (holds65 w 138)).symm, by simp, by omega, by omega, by omega, by simp⟩
  case round =>
    obtain ⟨v, i, n, dk, rfl, rfl, hw0, HI⟩ := hrel
    rename World => W0
    clear hz hp
    obtain ⟨hs0, hv, hi2, hi65, hdec⟩ := HI.out
    have hH0 : Go.Sort.Holds (fun (b : UInt8) => Value.int .u8 (b.toNat : Int)) W0 w.heap.size 0 dk := by rw [hw0]; exact Go.Sort.holds_putRow _ _ _ _ (Array.replicate 65 (0 : UInt8)) dk (holds65 w 138) (by rw [hs0, Array.size_replicate])
    obtain ⟨m, rfl⟩ : ∃ m, i = m + 1 := ⟨i - 1, by omega⟩
    obtain ⟨g, hg⟩ : ∃ g : Int, g = (dk[m]!.toNat : Int) := ⟨_, rfl⟩
    have hc0 : W0.cell? ⟨w.heap.size, m, none⟩ = some (.int .u8 g) := by rw [hg, ← (hH0 m (by omega)).1, Nat.zero_add]
    have hf0 : W0.frozen? ⟨w.heap.size, m, none⟩ = false := by rw [← (hH0 m (by omega)).2, Nat.zero_add]
    have hv64 : v < 9223372036854775808 := Nat.lt_of_lt_of_le hv (Nat.le_trans (Nat.pow_le_pow_right (by decide) (show m + 1 - 2 ≤ 63 by omega)) (by decide))
    have hal : Tryd.prog.arrayLen 138 = 65 := by kernel_rfl
    have AW0 := Lib.hid hw0
    have AH := Lib.hid hH0
    clear hw0 hH0 hg
    by_cases hge : 16 ≤ v
    · obtain ⟨x, hx⟩ : ∃ x : Nat, x = v % 16 := ⟨_, rfl⟩
      obtain ⟨q, hq⟩ : ∃ q : Nat, q = v / 16 := ⟨_, rfl⟩
      have hand : bits .and .u64 (v : Int) 15 = (x : Int) := by rw [hx]; exact bits_and_low v 4 (by omega) (by decide)
      have hX : ∀ w, (Instr.index 9 (.string Lib.digits36) (.int .u64 (x : Int))).run Tryd.prog w = .ok (.int .u8 ((dgt x).toNat : Int)) w := idx_digits36 _ .u64 x rfl (by omega)
      have HN : Hid ((dk.setIfInBounds m (dgt x)).size = 65 ∧ q < 2 ^ (m - 2) ∧ 2 ≤ m ∧ m ≤ 65 ∧ fmtL 16 u = fmtL 16 q ++ (dk.setIfInBounds m (dgt x)).toList.drop m) := Lib.hid (by
        have h4 : 4 + 2 ≤ m := by
          have : ¬ m + 1 - 2 ≤ 4 := fun hle => by
            have h8 : v < 2 ^ 4 := Nat.lt_of_lt_of_le hv (Nat.pow_le_pow_right (by decide) hle)
            have h9 : (2 : Nat) ^ 4 = 16 := by decide
            omega
          omega
        refine ⟨by simpa using hs0, ?_, by omega, by omega, ?_⟩
        · rw [hq]
          apply Nat.div_lt_of_lt_mul
          have e : 16 * 2 ^ (m - 2) = 2 ^ (m - 2 + 4) := by rw [Nat.pow_add, Nat.mul_comm]
          rw [e]
          exact Nat.lt_of_lt_of_le hv (Nat.pow_le_pow_right (by decide) (by omega))
        · rw [set_drop dk m _ (by omega), hdec, fmtL_more 16 v (by decide) (by omega), ← hx, ← hq, List.append_assoc]
          rfl)
      have hqv : v / 16 = q := hq.symm
      have hqi : (v : Int) / 16 = (q : Int) := by omega
      have hlt : q < v := by omega
      clear hdec hv HI hx hq
      go_wp2
      refine ⟨⟨q, m, n, dk.setIfInBounds m (dgt x), rfl, rfl, ?_, HN⟩, by simp [RowKit.intOf]; omega⟩
      rw [AW0.out]
      have hst := Lib.store1_world (w.alloc (.cells zeros65 138)) w.heap.size 0 dk n m (dgt x) (by omega)
      rw [Nat.zero_add] at hst
      exact hst
    · have hX : ∀ w, (Instr.index 9 (.string Lib.digits36) (.int .u64 (v : Int))).run Tryd.prog w = .ok (.int .u8 ((dgt v).toNat : Int)) w := idx_digits36 _ .u64 v rfl (by omega)
      have hlast : fmtL 16 u = (dk.setIfInBounds m (dgt v)).toList.drop m := by
        rw [set_drop dk m _ (by omega), hdec, fmtL_less 16 v (by omega)]
        rfl
      have hlen : (fmtL 16 u).length = 65 - m := by
        rw [hlast, List.length_drop, Array.length_toList, Array.size_setIfInBounds, hs0]
      have hst : W0.setCell ⟨w.heap.size, m, none⟩ (.int .u8 ((dgt v).toNat : Int)) = (Go.Sort.putRow (fun (b : UInt8) => Value.int .u8 (b.toNat : Int)) (w.alloc (.cells zeros65 138)) w.heap.size 0 (dk.setIfInBounds m (dgt v))).drewN n := by
        have hst := Lib.store1_world (w.alloc (.cells zeros65 138)) w.heap.size 0 dk n m (dgt v) (by omega)
        rw [Nat.zero_add] at hst
        rw [AW0.out]
        exact hst
      have hH1 : Go.Sort.Holds (fun (b : UInt8) => Value.int .u8 (b.toNat : Int)) (W0.setCell ⟨w.heap.size, m, none⟩ (.int .u8 ((dgt v).toNat : Int))) w.heap.size 0 (dk.setIfInBounds m (dgt v)) := by rw [hst]; exact Go.Sort.holds_putRow _ _ _ _ (Array.replicate 65 (0 : UInt8)) _ (holds65 w 138) (by rw [Array.size_setIfInBounds, hs0, Array.size_replicate])
      have hsl : ∀ W, (Instr.sliceAt 138 (.pointer (some ⟨w.heap.size, 0, none⟩)) (some (.int .i64 (m : Int))) none none).run Tryd.prog W = .ok (.slice (some ⟨w.heap.size, m, none⟩) (65 - m) (65 - m)) W := fun W => by
        rw [run_sliceAt_array_l W 138 ⟨w.heap.size, 0, none⟩ (by kernel_rfl) .i64 (m : Int) (by omega) (by rw [hal]; omega)]
        rw [hal, show Tryd.prog.elem 138 = 5 by kernel_rfl]
        simp only [slicedAt, Int.toNat_natCast]
        rw [show (sizeOf 5).run Tryd.prog W = .ok 1 W from Tryd.sizeOf5 W]
        simp only [Result.andThen, if_neg (show ¬ 65 = m by omega), Lib.add_plain, Nat.mul_one, Nat.zero_add]
      have hcv : (convert 71 9 (.slice (some ⟨w.heap.size, m, none⟩) (65 - m) (65 - m))).run Tryd.prog (W0.setCell ⟨w.heap.size, m, none⟩ (.int .u8 ((dgt v).toNat : Int))) = .ok (.string ⟨(fmtL 16 u).toArray⟩) (W0.setCell ⟨w.heap.size, m, none⟩ (.int .u8 ((dgt v).toNat : Int))) := by
        have h := run_convert_bytes_back (P := Tryd.prog) (W0.setCell ⟨w.heap.size, m, none⟩ (.int .u8 ((dgt v).toNat : Int))) 71 9 5 ⟨w.heap.size, m, none⟩ (65 - m) (fmtL 16 u) Tryd.underlying71 Tryd.underlying5 Tryd.underlying9 (fun j hj => by
          rw [Lib.add_plain]
          have hj2 : m + j < (dk.setIfInBounds m (dgt v)).size := by rw [Array.size_setIfInBounds]; omega
          have h1 := (hH1 (m + j) hj2).1
          rw [Nat.zero_add] at h1
          have e : (dk.setIfInBounds m (dgt v))[m + j]! = (fmtL 16 u)[j] := by
            rw [getElem!_pos _ (m + j) hj2]
            simp only [hlast, List.getElem_drop, Array.getElem_toList]
          rw [h1, e])
        rw [hlen] at h
        exact h
      have hbel : Below w.heap.size w (W0.setCell ⟨w.heap.size, m, none⟩ (.int .u8 ((dgt v).toNat : Int))) := by
        rw [hst]
        obtain ⟨os, eo⟩ := Lib.fin_at w (.cells zeros65 138) (dk.setIfInBounds m (dgt v)) n 0
        rw [eo]
        exact below_grow_ _ _ _
      have HB := Aside0.mk hbel
      clear hbel hH1 hst hlen hlast hdec hv HI hs0 AW0
      go_wp2
      go_ret2
      exact ⟨rfl, HB.out⟩
set_option maxRecDepth 100000 in
theorem fmtIn (b : Nat) (hb : b = 8 ∨ b = 16) (u : Nat) (hu : u < 9223372036854775808) (w : World) (hL : Tabs w) :
    Calls Tryd.prog 125 #[.int .i64 u, .int .i64 b] w fun e w' => e = .returned (.string ⟨(fmtL b u).toArray⟩) ∧ Below w.heap.size w w' := by
  have hw : IntKind.u64.wrap (u : Int) = (u : Int) := by rw [IntKind.wrap_u64]; omega
  rcases hb with rfl | rfl
  · have hF := formatBits8 u hu
    have HT := Aside0.mk hL
    clear hL
    go_enter Tryd.func125, Tryd.ntmps125
    go_wp2_with (go_at_call 142; refine (hF _ (by first | exact HT.out | exact Tabs.below HT.out (by repeat (first | exact Below.refl _ _ | apply below_drew1 | apply pw_below_drewN)))).mono ?_; rintro e w' ⟨rfl, hb⟩)
    go_ret
    exact ⟨rfl, by first | exact hb | exact (by repeat (first | exact Below.refl _ _ | apply below_drew1 | apply pw_below_drewN) : Below w.heap.size w _).trans (hb.mono (by simp))⟩
  · have hF := formatBits16 u hu
    have HT := Aside0.mk hL
    clear hL
    go_enter Tryd.func125, Tryd.ntmps125
    go_wp2_with (go_at_call 142; refine (hF _ (by first | exact HT.out | exact Tabs.below HT.out (by repeat (first | exact Below.refl _ _ | apply below_drew1 | apply pw_below_drewN)))).mono ?_; rintro e w' ⟨rfl, hb⟩)
    go_ret
    exact ⟨rfl, by first | exact hb | exact (by repeat (first | exact Below.refl _ _ | apply below_drew1 | apply pw_below_drewN) : Below w.heap.size w _).trans (hb.mono (by simp))⟩
set_option maxRecDepth 100000 in
theorem fmtOut (b : Nat) (hb : b = 8 ∨ b = 16) (u : Nat) (hu : u < 9223372036854775808) (w : World) (hL : Tabs w) :
    Calls Tryd.prog 100 #[.int .i64 u, .int .i64 b] w fun e w' => e = .returned (.string ⟨(fmtL b u).toArray⟩) ∧ Below w.heap.size w w' := by
  have hF := fmtIn b hb u hu w hL
  clear hL
  go_enter Tryd.func100, Tryd.ntmps100
  go_wp2_with (go_at_call 125; refine hF.mono ?_; rintro e w' ⟨rfl, hb⟩)
  go_ret
  exact ⟨rfl, hb⟩
/-- Of the bases ten (every number), eight and sixteen (no number below zero): the text. -/
def strconv_FormatInt.f (a0 a1 : Int) : Option ByteArray :=
  if a1 = 10 ∧ -9223372036854775808 ≤ a0 ∧ a0 ≤ 9223372036854775807 then some ⟨(Lib.itoa a0).toArray⟩ else
  if (a1 = 8 ∨ a1 = 16) ∧ 0 ≤ a0 ∧ a0 ≤ 9223372036854775807 then some ⟨(fmtL a1.toNat a0.toNat).toArray⟩ else none
theorem strconv_FormatInt.calls (a0 a1 : Int) (r : ByteArray) (w : World) (h : strconv_FormatInt.f a0 a1 = some r) (hL : Tabs w) :
    Calls Tryd.prog 100 #[.int .i64 a0, .int .i64 a1] w fun e w' => e = .returned (.string r) ∧ Below w.heap.size w w' := by
  unfold strconv_FormatInt.f at h
  by_cases hb : a1 = 10 ∧ -9223372036854775808 ≤ a0 ∧ a0 ≤ 9223372036854775807
  · rw [if_pos hb] at h
    obtain rfl := Option.some.inj h
    obtain ⟨rfl, h0, h1⟩ := hb
    refine (Tryd.strconv_FormatInt_10 a0 h0 h1 w hL.1.1).mono fun e w' he => ?_
    obtain ⟨rfl, k, os, rfl⟩ := he
    exact ⟨rfl, below_grow_ _ _ _⟩
  · rw [if_neg hb] at h
    by_cases hc : (a1 = 8 ∨ a1 = 16) ∧ 0 ≤ a0 ∧ a0 ≤ 9223372036854775807
    · rw [if_pos hc] at h
      obtain rfl := Option.some.inj h
      obtain ⟨h1, h2, h3⟩ := hc
      obtain ⟨u, rfl⟩ := Int.eq_ofNat_of_zero_le h2
      obtain ⟨b, rfl⟩ : ∃ b : Nat, a1 = b := ⟨a1.toNat, by omega⟩
      rw [Int.toNat_natCast, Int.toNat_natCast]
      exact fmtOut b (by omega) u (by omega) w hL
    · rw [if_neg hc] at h
      cases h

/-! ### impl_inBase: function 81 -/
def impl_inBase.f (a0 : Int) (a1 : Int) : Option (ByteArray) := (strconv_FormatInt.f a0 a1).bind fun t227 => (some t227)
set_option maxHeartbeats 8000000 in
set_option maxRecDepth 100000 in
theorem impl_inBase.calls (a0 : Int) (a1 : Int) (r : ByteArray) (w : World) (h : impl_inBase.f a0 a1 = some r) (hL : Tabs w) :
    Calls Tryd.prog 81 #[.int .i64 a0, .int .i64 a1] w fun e w' => e = .returned (.string r) ∧ Below w.heap.size w w' := by
  have HL := Aside0.mk hL
  clear hL
  have HB := Aside0.mk (Below.refl w.heap.size w)
  have H : ((strconv_FormatInt.f a0 a1).bind fun t227 => (some t227)) = some r := h
  clear h
  replace H := Option.bind_eq_some_iff.mp H
  obtain ⟨t227, A30, H⟩ := H
  replace H : (some t227) = some r := H
  have A3 := Aside0.mk A30
  clear A30
  obtain rfl := Option.some.inj H
  go_enter Tryd.func81, Tryd.ntmps81
  go_wp2_with (first | ((with_reducible refine gate_callee (f := 100) rfl ?_); refine goesL_ (some 7) rfl rfl Tryd.func100 (by kernel_rfl) rfl #[.int .i64 a0, .int .i64 a1] rfl (by (try simp only [List.map_toArray, List.map_cons, List.map_nil]); first | done | rfl | (simp only [List.length_drop, List.length_take]; rfl)) ?_; (with_reducible refine (strconv_FormatInt.calls a0 a1 t227 _ A3.out (Tabs.below HL.out (by repeat (first | (with_reducible first | exact HB.out | apply below_alloc | apply pw_below_drewN | apply below_drew1) | exact HB.out)))).mono ?_); rintro e w4 ⟨rfl, hb⟩; refine ⟨_, rfl, ?_⟩; have n0_ := Aside0.mk (below_step (by repeat (first | (with_reducible first | exact HB.out | apply below_alloc | apply pw_below_drewN | apply below_drew1) | exact HB.out)) hb); clear HB; have HB := n0_; clear n0_; (try clear hb); (try clear hb2); (try clear hk); (try clear hi)))
  go_ret
  exact ⟨by first | rfl | (simp [errW_none, errW_some] <;> rfl) | (simp [*, errW_none, errW_some] <;> rfl) | (simp only [decide_eq_true_eq] at *; simp [*, bt]; done), by repeat (first | (with_reducible first | exact HB.out | apply below_alloc | apply pw_below_drewN | apply below_drew1) | exact HB.out)⟩

/-! ### impl_isField: function 79 -/
def impl_isField.f (a0 : Int) (a1 : Int) (a2 : Int) : Option (Bool) := (impl_within.f a0 0 9007199254740991).bind fun t228 => (if t228 = true then ((impl_within.f a1 1 20).bind fun t229 => (if t229 = true then ((impl_inBase.f a0 a2).bind fun t230 => (some (decide ((t230.size : Int) ≤ a1)))) else (some false))) else (some false))
set_option maxHeartbeats 8000000 in
set_option maxRecDepth 100000 in
theorem impl_isField.calls (a0 : Int) (a1 : Int) (a2 : Int) (r : Bool) (w : World) (h : impl_isField.f a0 a1 a2 = some r) (hL : Tabs w) :
    Calls Tryd.prog 79 #[.int .i64 a0, .int .i64 a1, .int .i64 a2] w fun e w' => e = .returned (.bool r) ∧ Below w.heap.size w w' := by
  have HL := Aside0.mk hL
  clear hL
  have HB := Aside0.mk (Below.refl w.heap.size w)
  have H : ((impl_within.f a0 0 9007199254740991).bind fun t228 => (if t228 = true then ((impl_within.f a1 1 20).bind fun t229 => (if t229 = true then ((impl_inBase.f a0 a2).bind fun t230 => (some (decide ((t230.size : Int) ≤ a1)))) else (some false))) else (some false))) = some r := h
  clear h
  replace H := Option.bind_eq_some_iff.mp H
  obtain ⟨t228, A40, H⟩ := H
  replace H : (if t228 = true then ((impl_within.f a1 1 20).bind fun t229 => (if t229 = true then ((impl_inBase.f a0 a2).bind fun t230 => (some (decide ((t230.size : Int) ≤ a1)))) else (some false))) else (some false)) = some r := H
  have A4 := Aside0.mk A40
  clear A40
  by_cases c5 : t228 = true
  · subst c5
    have H1 : ((impl_within.f a1 1 20).bind fun t229 => (if t229 = true then ((impl_inBase.f a0 a2).bind fun t230 => (some (decide ((t230.size : Int) ≤ a1)))) else (some false))) = some r := by rw [if_pos rfl] at H; exact H
    clear H
    have H := H1
    clear H1
    replace H := Option.bind_eq_some_iff.mp H
    obtain ⟨t229, A60, H⟩ := H
    replace H : (if t229 = true then ((impl_inBase.f a0 a2).bind fun t230 => (some (decide ((t230.size : Int) ≤ a1)))) else (some false)) = some r := H
    have A6 := Aside0.mk A60
    clear A60
    by_cases c7 : t229 = true
    · subst c7
      have H1 : ((impl_inBase.f a0 a2).bind fun t230 => (some (decide ((t230.size : Int) ≤ a1)))) = some r := by rw [if_pos rfl] at H; exact H
      clear H
      have H := H1
      clear H1
      replace H := Option.bind_eq_some_iff.mp H
      obtain ⟨t230, A80, H⟩ := H
      replace H : (some (decide ((t230.size : Int) ≤ a1))) = some r := H
      have A8 := Aside0.mk A80
      clear A80
      obtain rfl := Option.some.inj H
      go_enter Tryd.func79, Tryd.ntmps79
      go_wp2_with (first | ((with_reducible refine gate_callee (f := 55) rfl ?_); refine goesL_ (some 8) rfl rfl Tryd.func55 (by kernel_rfl) rfl #[.int .i64 a0, .int .i64 0, .int .i64 9007199254740991] rfl (by (try simp only [List.map_toArray, List.map_cons, List.map_nil]); first | done | rfl | (simp only [List.length_drop, List.length_take]; rfl)) ?_; (with_reducible refine (impl_within.calls a0 0 9007199254740991 true _ A4.out).mono ?_); rintro e w' ⟨rfl, ⟨nd, rfl⟩⟩; refine ⟨_, rfl, ?_⟩) | (go_at_call 55; (with_reducible refine (impl_within.calls a1 1 20 true _ A6.out).mono ?_); rintro e w' ⟨rfl, ⟨nd, rfl⟩⟩) | (go_at_call 81; (with_reducible refine (impl_inBase.calls a0 a2 t230 _ A8.out (Tabs.below HL.out (by repeat (first | (with_reducible first | exact HB.out | apply below_alloc | apply pw_below_drewN | apply below_drew1) | exact HB.out)))).mono ?_); rintro e w9 ⟨rfl, hb⟩; have n0_ := Aside0.mk (below_step (by repeat (first | (with_reducible first | exact HB.out | apply below_alloc | apply pw_below_drewN | apply below_drew1) | exact HB.out)) hb); clear HB; have HB := n0_; clear n0_; (try clear hb); (try clear hb2); (try clear hk); (try clear hi)))
      go_ret
      exact ⟨by first | rfl | (simp [errW_none, errW_some] <;> rfl) | (simp [*, errW_none, errW_some] <;> rfl) | (simp only [decide_eq_true_eq] at *; simp [*, bt]; done), by repeat (first | (with_reducible first | exact HB.out | apply below_alloc | apply pw_below_drewN | apply below_drew1) | exact HB.out)⟩
    · replace c7 := Bool.eq_false_iff.mpr c7
      subst c7
      have H1 : (some false) = some r := by rw [if_neg (show ¬ (false = true) by decide)] at H; exact H
      clear H
      have H := H1
      clear H1
      obtain rfl := Option.some.inj H
      go_enter Tryd.func79, Tryd.ntmps79
      go_wp2_with (first | ((with_reducible refine gate_callee (f := 55) rfl ?_); refine goesL_ (some 8) rfl rfl Tryd.func55 (by kernel_rfl) rfl #[.int .i64 a0, .int .i64 0, .int .i64 9007199254740991] rfl (by (try simp only [List.map_toArray, List.map_cons, List.map_nil]); first | done | rfl | (simp only [List.length_drop, List.length_take]; rfl)) ?_; (with_reducible refine (impl_within.calls a0 0 9007199254740991 true _ A4.out).mono ?_); rintro e w' ⟨rfl, ⟨nd, rfl⟩⟩; refine ⟨_, rfl, ?_⟩) | (go_at_call 55; (with_reducible refine (impl_within.calls a1 1 20 false _ A6.out).mono ?_); rintro e w' ⟨rfl, ⟨nd, rfl⟩⟩))
      go_ret
      exact ⟨by first | rfl | (simp [errW_none, errW_some] <;> rfl) | (simp [*, errW_none, errW_some] <;> rfl) | (simp only [decide_eq_true_eq] at *; simp [*, bt]; done), by repeat (first | (with_reducible first | exact HB.out | apply below_alloc | apply pw_below_drewN | apply below_drew1) | exact HB.out)⟩
  · replace c5 := Bool.eq_false_iff.mpr c5
    subst c5
    have H1 : (some false) = some r := by rw [if_neg (show ¬ (false = true) by decide)] at H; exact H
    clear H
    have H := H1
    clear H1
    obtain rfl := Option.some.inj H
    go_enter Tryd.func79, Tryd.ntmps79
    go_wp2_with (first | ((with_reducible refine gate_callee (f := 55) rfl ?_); refine goesL_ (some 8) rfl rfl Tryd.func55 (by kernel_rfl) rfl #[.int .i64 a0, .int .i64 0, .int .i64 9007199254740991] rfl (by (try simp only [List.map_toArray, List.map_cons, List.map_nil]); first | done | rfl | (simp only [List.length_drop, List.length_take]; rfl)) ?_; (with_reducible refine (impl_within.calls a0 0 9007199254740991 false _ A4.out).mono ?_); rintro e w' ⟨rfl, ⟨nd, rfl⟩⟩; refine ⟨_, rfl, ?_⟩))
    go_ret
    exact ⟨by first | rfl | (simp [errW_none, errW_some] <;> rfl) | (simp [*, errW_none, errW_some] <;> rfl) | (simp only [decide_eq_true_eq] at *; simp [*, bt]; done), by repeat (first | (with_reducible first | exact HB.out | apply below_alloc | apply pw_below_drewN | apply below_drew1) | exact HB.out)⟩

/-! ### strings_Repeat: function 89, by a contract of our own -/
/-- Of a result that is no longer than 2^47 bytes. -/
def strings_Repeat.f (a0 : ByteArray) (a1 : Int) : Option ByteArray :=
  if 0 ≤ a1 ∧ a1 ≤ 9223372036854775807 ∧ a0.size * a1.toNat ≤ 140737488355328 then some ⟨(Lib.repeatL a0.data.toList a1.toNat).toArray⟩ else none
theorem strings_Repeat.calls (a0 : ByteArray) (a1 : Int) (r : ByteArray) (w : World) (h : strings_Repeat.f a0 a1 = some r) :
    Calls Tryd.prog 89 #[.string a0, .int .i64 a1] w fun e w' => e = .returned (.string r) ∧ Below w.heap.size w w' := by
  unfold strings_Repeat.f at h
  by_cases hb : 0 ≤ a1 ∧ a1 ≤ 9223372036854775807 ∧ a0.size * a1.toNat ≤ 140737488355328
  · rw [if_pos hb] at h
    obtain rfl := Option.some.inj h
    obtain ⟨n, rfl⟩ := Int.eq_ofNat_of_zero_le hb.1
    exact Tryd.strings_Repeat a0 n w (by omega) hb.2.2
  · rw [if_neg hb] at h
    cases h

/-! ### impl_zeros: function 80 -/
def impl_zeros.f (a0 : ByteArray) (a1 : Int) : Option (ByteArray) := (strings_Repeat.f (⟨#[48]⟩ : ByteArray) (wrap64 (a1 - (a0.size : Int)))).bind fun t231 => (if t231.size + a0.size ≤ 9223372036854775807 then (some (t231 ++ a0)) else (none))
set_option maxHeartbeats 8000000 in
set_option maxRecDepth 100000 in
theorem impl_zeros.calls (a0 : ByteArray) (a1 : Int) (r : ByteArray) (w : World) (h : impl_zeros.f a0 a1 = some r) :
    Calls Tryd.prog 80 #[.string a0, .int .i64 a1] w fun e w' => e = .returned (.string r) ∧ Below w.heap.size w w' := by
  have HB := Aside0.mk (Below.refl w.heap.size w)
  have H : ((strings_Repeat.f (⟨#[48]⟩ : ByteArray) (wrap64 (a1 - (a0.size : Int)))).bind fun t231 => (if t231.size + a0.size ≤ 9223372036854775807 then (some (t231 ++ a0)) else (none))) = some r := h
  clear h
  replace H := Option.bind_eq_some_iff.mp H
  obtain ⟨t231, A30, H⟩ := H
  replace H : (if t231.size + a0.size ≤ 9223372036854775807 then (some (t231 ++ a0)) else (none)) = some r := H
  have A3 := Aside0.mk A30
  clear A30
  by_cases c4 : t231.size + a0.size ≤ 9223372036854775807
  · rw [if_pos c4] at H
    have c4b0 := eq_true c4
    have c4b1 : decide (t231.size + a0.size ≤ 9223372036854775807) = true := decide_eq_true c4
    try have c4b2 : (9223372036854775807 < t231.size + a0.size) = False := eq_false (Nat.not_lt.2 c4)
    obtain rfl := Option.some.inj H
    go_enter Tryd.func80, Tryd.ntmps80
    go_wp2_with (first | ((with_reducible refine gate_callee (f := 89) rfl ?_); refine goesL_ (some 9) rfl rfl Tryd.func89 (by kernel_rfl) rfl #[.string (⟨#[48]⟩ : ByteArray), .int .i64 (wrap64 (a1 - (a0.size : Int)))] rfl (by (try simp only [List.map_toArray, List.map_cons, List.map_nil]); first | done | rfl | (simp only [List.length_drop, List.length_take]; rfl)) ?_; (with_reducible refine (strings_Repeat.calls (⟨#[48]⟩ : ByteArray) (wrap64 (a1 - (a0.size : Int))) t231 _ A3.out).mono ?_); rintro e w5 ⟨rfl, hb⟩; refine ⟨_, rfl, ?_⟩; have n0_ := Aside0.mk (below_step (by repeat (first | (with_reducible first | exact HB.out | apply below_alloc | apply pw_below_drewN | apply below_drew1) | exact HB.out)) hb); clear HB; have HB := n0_; clear n0_; (try clear hb); (try clear hb2); (try clear hk); (try clear hi)))
    go_ret
    exact ⟨by first | rfl | (simp [errW_none, errW_some] <;> rfl) | (simp [*, errW_none, errW_some] <;> rfl) | (simp only [decide_eq_true_eq] at *; simp [*, bt]; done), by repeat (first | (with_reducible first | exact HB.out | apply below_alloc | apply pw_below_drewN | apply below_drew1) | exact HB.out)⟩
  · rw [if_neg c4] at H
    exact absurd H (by simp)

/-! ### impl_PutOct: function 46 -/
def impl_PutOct.f (a0 : Int) (a1 : Int) : Option (ByteArray × Bool) := (impl_isField.f a0 a1 8).bind fun t232 => (if t232 = true then ((impl_inBase.f a0 8).bind fun t233 => ((impl_zeros.f t233 a1).bind fun t234 => (some (t234, true)))) else (some ((⟨#[]⟩ : ByteArray), false)))
set_option maxHeartbeats 8000000 in
set_option maxRecDepth 100000 in
theorem impl_PutOct.calls (a0 : Int) (a1 : Int) (r1 : ByteArray) (r2 : Bool) (w : World) (h : impl_PutOct.f a0 a1 = some (r1, r2)) (hL : Tabs w) :
    Calls Tryd.prog 46 #[.int .i64 a0, .int .i64 a1] w fun e w' => e = .returned (.tuple #[.string r1, .bool r2]) ∧ Below w.heap.size w w' := by
  have HL := Aside0.mk hL
  clear hL
  have HB := Aside0.mk (Below.refl w.heap.size w)
  have H : ((impl_isField.f a0 a1 8).bind fun t232 => (if t232 = true then ((impl_inBase.f a0 8).bind fun t233 => ((impl_zeros.f t233 a1).bind fun t234 => (some (t234, true)))) else (some ((⟨#[]⟩ : ByteArray), false)))) = some (r1, r2) := h
  clear h
  replace H := Option.bind_eq_some_iff.mp H
  obtain ⟨t232, A30, H⟩ := H
  replace H : (if t232 = true then ((impl_inBase.f a0 8).bind fun t233 => ((impl_zeros.f t233 a1).bind fun t234 => (some (t234, true)))) else (some ((⟨#[]⟩ : ByteArray), false))) = some (r1, r2) := H
  have A3 := Aside0.mk A30
  clear A30
  by_cases c4 : t232 = true
  · subst c4
    have H1 : ((impl_inBase.f a0 8).bind fun t233 => ((impl_zeros.f t233 a1).bind fun t234 => (some (t234, true)))) = some (r1, r2) := by rw [if_pos rfl] at H; exact H
    clear H
    have H := H1
    clear H1
    replace H := Option.bind_eq_some_iff.mp H
    obtain ⟨t233, A50, H⟩ := H
    replace H : ((impl_zeros.f t233 a1).bind fun t234 => (some (t234, true))) = some (r1, r2) := H
    have A5 := Aside0.mk A50
    clear A50
    replace H := Option.bind_eq_some_iff.mp H
    obtain ⟨t234, A60, H⟩ := H
    replace H : (some (t234, true)) = some (r1, r2) := H
    have A6 := Aside0.mk A60
    clear A60
    simp only [Option.some.injEq, Prod.mk.injEq] at H
    obtain ⟨rfl, rfl⟩ := H
    go_enter Tryd.func46, Tryd.ntmps46
    go_wp2_with (first | ((with_reducible refine gate_callee (f := 79) rfl ?_); refine goesL_ (some 8) rfl rfl Tryd.func79 (by kernel_rfl) rfl #[.int .i64 a0, .int .i64 a1, .int .i64 8] rfl (by (try simp only [List.map_toArray, List.map_cons, List.map_nil]); first | done | rfl | (simp only [List.length_drop, List.length_take]; rfl)) ?_; (with_reducible refine (impl_isField.calls a0 a1 8 true _ A3.out (Tabs.below HL.out (by repeat (first | (with_reducible first | exact HB.out | apply below_alloc | apply pw_below_drewN | apply below_drew1) | exact HB.out)))).mono ?_); rintro e w7 ⟨rfl, hb⟩; refine ⟨_, rfl, ?_⟩; have n0_ := Aside0.mk (below_step (by repeat (first | (with_reducible first | exact HB.out | apply below_alloc | apply pw_below_drewN | apply below_drew1) | exact HB.out)) hb); clear HB; have HB := n0_; clear n0_; (try clear hb); (try clear hb2); (try clear hk); (try clear hi)) | ((with_reducible refine gate_callee (f := 81) rfl ?_); refine goesL_ (some 11) rfl rfl Tryd.func81 (by kernel_rfl) rfl #[.int .i64 a0, .int .i64 8] rfl (by (try simp only [List.map_toArray, List.map_cons, List.map_nil]); first | done | rfl | (simp only [List.length_drop, List.length_take]; rfl)) ?_; (with_reducible refine (impl_inBase.calls a0 8 t233 _ A5.out (Tabs.below HL.out (by repeat (first | (with_reducible first | exact HB.out | apply below_alloc | apply pw_below_drewN | apply below_drew1) | exact HB.out)))).mono ?_); rintro e w8 ⟨rfl, hb⟩; refine ⟨_, rfl, ?_⟩; have n0_ := Aside0.mk (below_step (by repeat (first | (with_reducible first | exact HB.out | apply below_alloc | apply pw_below_drewN | apply below_drew1) | exact HB.out)) hb); clear HB; have HB := n0_; clear n0_; (try clear hb); (try clear hb2); (try clear hk); (try clear hi)) | ((with_reducible refine gate_callee (f := 80) rfl ?_); refine goesL_ (some 13) rfl rfl Tryd.func80 (by kernel_rfl) rfl #[.string t233, .int .i64 a1] rfl (by (try simp only [List.map_toArray, List.map_cons, List.map_nil]); first | done | rfl | (simp only [List.length_drop, List.length_take]; rfl)) ?_; (with_reducible refine (impl_zeros.calls t233 a1 t234 _ A6.out).mono ?_); rintro e w9 ⟨rfl, hb⟩; refine ⟨_, rfl, ?_⟩; have n0_ := Aside0.mk (below_step (by repeat (first | (with_reducible first | exact HB.out | apply below_alloc | apply pw_below_drewN | apply below_drew1) | exact HB.out)) hb); clear HB; have HB := n0_; clear n0_; (try clear hb); (try clear hb2); (try clear hk); (try clear hi)))
    go_ret2
    exact ⟨by first | rfl | (simp [errW_none, errW_some] <;> rfl) | (simp [*, errW_none, errW_some] <;> rfl) | (simp only [decide_eq_true_eq] at *; simp [*, bt]; done), by repeat (first | (with_reducible first | exact HB.out | apply below_alloc | apply pw_below_drewN | apply below_drew1) | exact HB.out)⟩
  · replace c4 := Bool.eq_false_iff.mpr c4
    subst c4
    have H1 : (some ((⟨#[]⟩ : ByteArray), false)) = some (r1, r2) := by rw [if_neg (show ¬ (false = true) by decide)] at H; exact H
    clear H
    have H := H1
    clear H1
    simp only [Option.some.injEq, Prod.mk.injEq] at H
    obtain ⟨rfl, rfl⟩ := H
    go_enter Tryd.func46, Tryd.ntmps46
    go_wp2_with (first | ((with_reducible refine gate_callee (f := 79) rfl ?_); refine goesL_ (some 8) rfl rfl Tryd.func79 (by kernel_rfl) rfl #[.int .i64 a0, .int .i64 a1, .int .i64 8] rfl (by (try simp only [List.map_toArray, List.map_cons, List.map_nil]); first | done | rfl | (simp only [List.length_drop, List.length_take]; rfl)) ?_; (with_reducible refine (impl_isField.calls a0 a1 8 false _ A3.out (Tabs.below HL.out (by repeat (first | (with_reducible first | exact HB.out | apply below_alloc | apply pw_below_drewN | apply below_drew1) | exact HB.out)))).mono ?_); rintro e w10 ⟨rfl, hb⟩; refine ⟨_, rfl, ?_⟩; have n0_ := Aside0.mk (below_step (by repeat (first | (with_reducible first | exact HB.out | apply below_alloc | apply pw_below_drewN | apply below_drew1) | exact HB.out)) hb); clear HB; have HB := n0_; clear n0_; (try clear hb); (try clear hb2); (try clear hk); (try clear hi)))
    go_ret2
    exact ⟨by first | rfl | (simp [errW_none, errW_some] <;> rfl) | (simp [*, errW_none, errW_some] <;> rfl) | (simp only [decide_eq_true_eq] at *; simp [*, bt]; done), by repeat (first | (with_reducible first | exact HB.out | apply below_alloc | apply pw_below_drewN | apply below_drew1) | exact HB.out)⟩

/-! ### impl_nuls: function 60 -/
def impl_nuls.f (a0 : Int) : Option (ByteArray) := (strings_Repeat.f (⟨#[0]⟩ : ByteArray) a0).bind fun t235 => (some t235)
set_option maxHeartbeats 8000000 in
set_option maxRecDepth 100000 in
theorem impl_nuls.calls (a0 : Int) (r : ByteArray) (w : World) (h : impl_nuls.f a0 = some r) :
    Calls Tryd.prog 60 #[.int .i64 a0] w fun e w' => e = .returned (.string r) ∧ Below w.heap.size w w' := by
  have HB := Aside0.mk (Below.refl w.heap.size w)
  have H : ((strings_Repeat.f (⟨#[0]⟩ : ByteArray) a0).bind fun t235 => (some t235)) = some r := h
  clear h
  replace H := Option.bind_eq_some_iff.mp H
  obtain ⟨t235, A20, H⟩ := H
  replace H : (some t235) = some r := H
  have A2 := Aside0.mk A20
  clear A20
  obtain rfl := Option.some.inj H
  go_enter Tryd.func60, Tryd.ntmps60
  go_wp2_with (first | ((with_reducible refine gate_callee (f := 89) rfl ?_); refine goesL_ (some 4) rfl rfl Tryd.func89 (by kernel_rfl) rfl #[.string (⟨#[0]⟩ : ByteArray), .int .i64 a0] rfl (by (try simp only [List.map_toArray, List.map_cons, List.map_nil]); first | done | rfl | (simp only [List.length_drop, List.length_take]; rfl)) ?_; (with_reducible refine (strings_Repeat.calls (⟨#[0]⟩ : ByteArray) a0 t235 _ A2.out).mono ?_); rintro e w3 ⟨rfl, hb⟩; refine ⟨_, rfl, ?_⟩; have n0_ := Aside0.mk (below_step (by repeat (first | (with_reducible first | exact HB.out | apply below_alloc | apply pw_below_drewN | apply below_drew1) | exact HB.out)) hb); clear HB; have HB := n0_; clear n0_; (try clear hb); (try clear hb2); (try clear hk); (try clear hi)))
  go_ret
  exact ⟨by first | rfl | (simp [errW_none, errW_some] <;> rfl) | (simp [*, errW_none, errW_some] <;> rfl) | (simp only [decide_eq_true_eq] at *; simp [*, bt]; done), by repeat (first | (with_reducible first | exact HB.out | apply below_alloc | apply pw_below_drewN | apply below_drew1) | exact HB.out)⟩

/-! ### impl_Fill: function 58 -/
def impl_Fill.f (a0 : ByteArray) (a1 : Int) : Option (ByteArray) := if (a0.size : Int) > a1 then (some a0) else (if a1 > 1024 then (some a0) else ((impl_nuls.f (wrap64 (a1 - (a0.size : Int)))).bind fun t236 => (if a0.size + t236.size ≤ 9223372036854775807 then (some (a0 ++ t236)) else (none))))
set_option maxHeartbeats 8000000 in
set_option maxRecDepth 100000 in
theorem impl_Fill.calls (a0 : ByteArray) (a1 : Int) (r : ByteArray) (w : World) (h : impl_Fill.f a0 a1 = some r) :
    Calls Tryd.prog 58 #[.string a0, .int .i64 a1] w fun e w' => e = .returned (.string r) ∧ Below w.heap.size w w' := by
  have HB := Aside0.mk (Below.refl w.heap.size w)
  have H : (if (a0.size : Int) > a1 then (some a0) else (if a1 > 1024 then (some a0) else ((impl_nuls.f (wrap64 (a1 - (a0.size : Int)))).bind fun t236 => (if a0.size + t236.size ≤ 9223372036854775807 then (some (a0 ++ t236)) else (none))))) = some r := h
  clear h
  by_cases c3 : (a0.size : Int) > a1
  · rw [if_pos c3] at H
    have c3b0 : decide (a1 < (a0.size : Int)) = true := decide_eq_true c3
    clear c3
    obtain rfl := Option.some.inj H
    go_enter Tryd.func58, Tryd.ntmps58
    go_wp2
    go_ret
    exact ⟨by first | rfl | (simp [errW_none, errW_some] <;> rfl) | (simp [*, errW_none, errW_some] <;> rfl) | (simp only [decide_eq_true_eq] at *; simp [*, bt]; done), by repeat (first | (with_reducible first | exact HB.out | apply below_alloc | apply pw_below_drewN | apply below_drew1) | exact HB.out)⟩
  · rw [if_neg c3] at H
    have c3b0 : decide (a1 < (a0.size : Int)) = false := decide_eq_false c3
    clear c3
    by_cases c4 : a1 > 1024
    · rw [if_pos c4] at H
      have c4b0 : decide (1024 < a1) = true := decide_eq_true c4
      clear c4
      obtain rfl := Option.some.inj H
      go_enter Tryd.func58, Tryd.ntmps58
      go_wp2
      go_ret
      exact ⟨by first | rfl | (simp [errW_none, errW_some] <;> rfl) | (simp [*, errW_none, errW_some] <;> rfl) | (simp only [decide_eq_true_eq] at *; simp [*, bt]; done), by repeat (first | (with_reducible first | exact HB.out | apply below_alloc | apply pw_below_drewN | apply below_drew1) | exact HB.out)⟩
    · rw [if_neg c4] at H
      have c4b0 : decide (1024 < a1) = false := decide_eq_false c4
      clear c4
      replace H := Option.bind_eq_some_iff.mp H
      obtain ⟨t236, A50, H⟩ := H
      replace H : (if a0.size + t236.size ≤ 9223372036854775807 then (some (a0 ++ t236)) else (none)) = some r := H
      have A5 := Aside0.mk A50
      clear A50
      by_cases c6 : a0.size + t236.size ≤ 9223372036854775807
      · rw [if_pos c6] at H
        have c6b0 := eq_true c6
        have c6b1 : decide (a0.size + t236.size ≤ 9223372036854775807) = true := decide_eq_true c6
        try have c6b2 : (9223372036854775807 < a0.size + t236.size) = False := eq_false (Nat.not_lt.2 c6)
        obtain rfl := Option.some.inj H
        go_enter Tryd.func58, Tryd.ntmps58
        go_wp2_with (first | ((with_reducible refine gate_callee (f := 60) rfl ?_); refine goesL_ (some 19) rfl rfl Tryd.func60 (by kernel_rfl) rfl #[.int .i64 (wrap64 (a1 - (a0.size : Int)))] rfl (by (try simp only [List.map_toArray, List.map_cons, List.map_nil]); first | done | rfl | (simp only [List.length_drop, List.length_take]; rfl)) ?_; (with_reducible refine (impl_nuls.calls (wrap64 (a1 - (a0.size : Int))) t236 _ A5.out).mono ?_); rintro e w7 ⟨rfl, hb⟩; refine ⟨_, rfl, ?_⟩; have n0_ := Aside0.mk (below_step (by repeat (first | (with_reducible first | exact HB.out | apply below_alloc | apply pw_below_drewN | apply below_drew1) | exact HB.out)) hb); clear HB; have HB := n0_; clear n0_; (try clear hb); (try clear hb2); (try clear hk); (try clear hi)))
        go_ret
        exact ⟨by first | rfl | (simp [errW_none, errW_some] <;> rfl) | (simp [*, errW_none, errW_some] <;> rfl) | (simp only [decide_eq_true_eq] at *; simp [*, bt]; done), by repeat (first | (with_reducible first | exact HB.out | apply below_alloc | apply pw_below_drewN | apply below_drew1) | exact HB.out)⟩
      · rw [if_neg c6] at H
        exact absurd H (by simp)

end Go.Proofs.YtgmggpgcfonmgaaDoor.PFnExactPutHead
