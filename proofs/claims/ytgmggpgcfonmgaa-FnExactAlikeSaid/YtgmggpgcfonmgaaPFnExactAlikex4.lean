-- PRINTED for this claim by a program of this session's repo over the kit's printer, with contracts of our own among the functions.
import Derived.Test.YtgmggpgcfonmgaaPFnExactAlikex0
import Derived.Test.YtgmggpgcfonmgaaPFnExactAlikex3
namespace Go.Proofs.Ytgmggpgcfonmgaa.PFnExactAlike
open Go.RowKit Go.Proofs.YtgmggpgcfonmgaaW.PrintWords Go.Proofs.YtgmggpgcfonmgaaW.PrintLast Go.Proofs.YtgmggpgcfonmgaaW.PrintMore
attribute [local go_sem] max2_int min2_int max_two min_two max_three min_three max_four min_four   -- for this text's walks alone
set_option linter.unusedVariables false
set_option linter.unusedSimpArgs false

/-! ### laws_eqEntryS: function 10 -/
def laws_eqEntryS.l0 : Nat → List (S39) → List (S39) → Int → Option (Bool)
  | 0, _, _, _ => none
  | k + 1, x0, x1, x5 => if x5 < (x0.length : Int) then (if 0 ≤ x5 then (if x5 < (x1.length : Int) then ((laws_eqEntry.f ((rd_T39 x0 x5).f0) ((rd_T39 x0 x5).f1) ((rd_T39 x0 x5).f2) ((rd_T39 x0 x5).f3) ((rd_T39 x0 x5).f4) ((rd_T39 x0 x5).f5) ((rd_T39 x0 x5).f6) ((rd_T39 x0 x5).f7) ((rd_T39 x0 x5).f8) ((rd_T39 x0 x5).f9) ((rd_T39 x1 x5).f0) ((rd_T39 x1 x5).f1) ((rd_T39 x1 x5).f2) ((rd_T39 x1 x5).f3) ((rd_T39 x1 x5).f4) ((rd_T39 x1 x5).f5) ((rd_T39 x1 x5).f6) ((rd_T39 x1 x5).f7) ((rd_T39 x1 x5).f8) ((rd_T39 x1 x5).f9)).bind fun t156 => (if t156 = true then (laws_eqEntryS.l0 k x0 x1 (wrap64 (x5 + 1))) else (some false))) else (none)) else (none)) else (some true)
def laws_eqEntryS.f (k : Nat) (l0 : List (S39)) (l1 : List (S39)) : Option (Bool) := if (l0.length : Int) = (l1.length : Int) then (laws_eqEntryS.l0 k l0 l1 0) else (some false)
theorem laws_eqEntryS.mono_l : ∀ k, (∀ y0 y1 y2, LeO (laws_eqEntryS.l0 k y0 y1 y2) (laws_eqEntryS.l0 (k + 1) y0 y1 y2))
  | 0 => fun _ _ _ r h => by simp [laws_eqEntryS.l0] at h
  | k + 1 => by
    have ih0 := laws_eqEntryS.mono_l k
    · intro y0 y1 y2
      unfold laws_eqEntryS.l0
      repeat' first
      | (with_reducible exact ih0 _ _ _)
      | (with_reducible exact LeO.refl _)
      | (with_reducible exact LeO.none _)
      | (with_reducible refine LeO.ite ?_ ?_)
      | (with_reducible refine LeO.bind ?_ (fun _ => ?_))
      | exact ih0 _ _ _
      | exact LeO.none _
      | refine LeO.ite ?_ ?_
      | refine LeO.bind ?_ (fun _ => ?_)
theorem laws_eqEntryS.mono : ∀ a0 a1 k, LeO (laws_eqEntryS.f k a0 a1) (laws_eqEntryS.f (k + 1) a0 a1) := by
  intro a0 a1 k
  have ih0 := laws_eqEntryS.mono_l k
  unfold laws_eqEntryS.f
  repeat' first
      | (with_reducible exact ih0 _ _ _)
      | (with_reducible exact LeO.refl _)
      | (with_reducible exact LeO.none _)
      | (with_reducible refine LeO.ite ?_ ?_)
      | (with_reducible refine LeO.bind ?_ (fun _ => ?_))
      | exact ih0 _ _ _
      | exact LeO.none _
      | refine LeO.ite ?_ ?_
      | refine LeO.bind ?_ (fun _ => ?_)
def laws_eqEntryS.T6 : Bool × List (List Nat × List Nat) := (true, [([], []), ([], []), ([0, 1], [0, 1]), ([2], [2]), ([], []), ([], []), ([4, 5], [4, 5]), ([6], [6]), ([3, 7], [3, 7]), ([8], [8])])
def laws_eqEntryS.B6 : List Nat := [0, 0, 3, 7, 0, 0, 48, 112, 255, 511]
theorem laws_eqEntryS.tab6 : rtab .any (opsOf Try.f10 6) = laws_eqEntryS.T6 := by kernel_rfl
theorem laws_eqEntryS.bits6 : waitsOk laws_eqEntryS.T6.2 laws_eqEntryS.B6 = true := by kernel_rfl
set_option maxHeartbeats 8000000 in
set_option maxRecDepth 100000 in
theorem laws_eqEntryS.calls (k : Nat) (A0 : Option Addr) (c0 : Nat) (l0 : List (S39)) (A1 : Option Addr) (c1 : Nat) (l1 : List (S39)) (r : Bool) (w : World) (hr0 : Kd.C k39 w A0 l0.length l0) (hc0 : l0.length ≤ c0) (hr1 : Kd.C k39 w A1 l1.length l1) (hc1 : l1.length ≤ c1) (h : laws_eqEntryS.f k l0 l1 = some r) :
    Calls Try.prog 10 #[.slice A0 l0.length c0, .slice A1 l1.length c1] w fun e w' => e = .returned (.bool r) ∧ Below w.heap.size w w' := by
  have hu39 := Try.underlying39
  have HR0 := Aside0.mk hr0
  have HC0 := Aside0.mk hc0
  clear hr0 hc0
  have HR1 := Aside0.mk hr1
  have HC1 := Aside0.mk hc1
  clear hr1 hc1
  have HB := Aside0.mk (Below.refl w.heap.size w)
  have H : (if (l0.length : Int) = (l1.length : Int) then (laws_eqEntryS.l0 k l0 l1 0) else (some false)) = some r := h
  clear h
  by_cases c3 : (l0.length : Int) = (l1.length : Int)
  · rw [if_pos c3] at H
    have c3b0 : ((l0.length : Int) == (l1.length : Int)) = true := beq_iff_eq.mpr c3
    have c3b1 : ((l0.length : Int) != (l1.length : Int)) = false := bne_eq_false_iff_eq.mpr c3
    have c3b2 : (l0.length == l1.length) = true := by first | simpa using c3 | (simp at c3 ⊢; omega)
    clear c3
    have H' := Aside0.mk H
    clear H
    go_enter Try.func10, Try.ntmps10
    go_wp2
    go_loopg [5] k (fun kq v5 w' => ∃ (x5_1 : Int), v5 = .int .i64 x5_1 ∧ Aside0 (laws_eqEntryS.l0 kq l0 l1 x5_1 = some r) ∧ Aside0 (kq ≤ k) ∧ Aside0 (Below w.heap.size w w'))
    case atStart => exact ⟨(0), (by first | rfl | (simp; done) | (simp [*]; done)), H', ⟨Nat.le_refl _⟩, ⟨by repeat (first | (with_reducible first | exact HB.out | apply below_alloc | apply pw_below_drewN | apply below_drew1) | exact HB.out)⟩⟩
    case round =>
      clear H'
      try clear c1
      try clear p2
      try clear c3
      try clear c3b0
      try clear c3b1
      try clear c3b2
      obtain ⟨x5_1, rfl, HA, HK1, HB⟩ := hrel
      cases gk with
      | zero => exact absurd HA.out (by simp [laws_eqEntryS.l0])
      | succ k1 =>
        have H := HA.out
        clear HA
        simp only [laws_eqEntryS.l0] at H
        by_cases c4 : x5_1 < (l0.length : Int)
        · rw [if_pos c4] at H
          have c4b0 : decide (x5_1 < (l0.length : Int)) = true := decide_eq_true c4
          clear c4
          by_cases c5 : 0 ≤ x5_1
          · rw [if_pos c5] at H
            have c5b0 : decide (0 ≤ x5_1) = true := decide_eq_true c5
            clear c5
            by_cases c6 : x5_1 < (l1.length : Int)
            · rw [if_pos c6] at H
              have c6b0 : decide (x5_1 < (l1.length : Int)) = true := decide_eq_true c6
              clear c6
              replace H := Option.bind_eq_some_iff.mp H
              obtain ⟨t156, A70, H⟩ := H
              replace H : (if t156 = true then (laws_eqEntryS.l0 k1 l0 l1 (wrap64 (x5_1 + 1))) else (some false)) = some r := H
              have A7 := Aside0.mk A70
              clear A70
              by_cases c8 : t156 = true
              · subst c8
                have H1 : (laws_eqEntryS.l0 k1 l0 l1 (wrap64 (x5_1 + 1))) = some r := by rw [if_pos rfl] at H; exact H
                clear H
                have H := H1
                clear H1
                have H' := Aside0.mk H
                clear H
                try go_wp2
                have n0_ := Aside0.mk (below_drew1 HB.out)
                clear HB
                have HB := n0_
                clear n0_
                have p154 : 0 ≤ (x5_1 : Int) := of_decide_eq_true (by assumption)
                have q154 : x5_1 < (l0.length : Int) := of_decide_eq_true (by assumption)
                obtain ⟨ad154, e154, hx154_0, hx154_1, hx154_2, hx154_3, hx154_4, hx154_5, hx154_6, hx154_7, hx154_8, hx154_9⟩ := at_T39 HR0.out x5_1 p154 q154
                have hw154_9 := hx154_9
                have hw154_8 := hx154_8
                have hw154_7 := hx154_7
                have hw154_6 := hx154_6
                have hw154_5 := hx154_5
                have hw154_4 := hx154_4
                have hw154_3 := hx154_3
                have hw154_2 := hx154_2
                have hw154_1 := hx154_1
                have hw154_0 := hx154_0
                cases e154
                replace hx154_0 := (HB.out.cell (World.block_lt_of_cell? w _ hx154_0)).trans hx154_0
                replace hx154_1 := (HB.out.cell (World.block_lt_of_cell? w _ hx154_1)).trans hx154_1
                replace hx154_2 := (HB.out.cell (World.block_lt_of_cell? w _ hx154_2)).trans hx154_2
                replace hx154_3 := (HB.out.cell (World.block_lt_of_cell? w _ hx154_3)).trans hx154_3
                replace hx154_4 := (HB.out.cell (World.block_lt_of_cell? w _ hx154_4)).trans hx154_4
                replace hx154_5 := (HB.out.cell (World.block_lt_of_cell? w _ hx154_5)).trans hx154_5
                replace hx154_6 := (HB.out.cell (World.block_lt_of_cell? w _ hx154_6)).trans hx154_6
                replace hx154_7 := (HB.out.cell (World.block_lt_of_cell? w _ hx154_7)).trans hx154_7
                replace hx154_8 := (HB.out.cell (World.block_lt_of_cell? w _ hx154_8)).trans hx154_8
                replace hx154_9 := (HB.out.cell (World.block_lt_of_cell? w _ hx154_9)).trans hx154_9
                replace p154 := eq_true p154
                replace q154 := eq_true q154
                have p155 : 0 ≤ (x5_1 : Int) := of_decide_eq_true (by assumption)
                have q155 : x5_1 < (l1.length : Int) := of_decide_eq_true (by assumption)
                obtain ⟨ad155, e155, hx155_0, hx155_1, hx155_2, hx155_3, hx155_4, hx155_5, hx155_6, hx155_7, hx155_8, hx155_9⟩ := at_T39 HR1.out x5_1 p155 q155
                have hw155_9 := hx155_9
                have hw155_8 := hx155_8
                have hw155_7 := hx155_7
                have hw155_6 := hx155_6
                have hw155_5 := hx155_5
                have hw155_4 := hx155_4
                have hw155_3 := hx155_3
                have hw155_2 := hx155_2
                have hw155_1 := hx155_1
                have hw155_0 := hx155_0
                cases e155
                replace hx155_0 := (HB.out.cell (World.block_lt_of_cell? w _ hx155_0)).trans hx155_0
                replace hx155_1 := (HB.out.cell (World.block_lt_of_cell? w _ hx155_1)).trans hx155_1
                replace hx155_2 := (HB.out.cell (World.block_lt_of_cell? w _ hx155_2)).trans hx155_2
                replace hx155_3 := (HB.out.cell (World.block_lt_of_cell? w _ hx155_3)).trans hx155_3
                replace hx155_4 := (HB.out.cell (World.block_lt_of_cell? w _ hx155_4)).trans hx155_4
                replace hx155_5 := (HB.out.cell (World.block_lt_of_cell? w _ hx155_5)).trans hx155_5
                replace hx155_6 := (HB.out.cell (World.block_lt_of_cell? w _ hx155_6)).trans hx155_6
                replace hx155_7 := (HB.out.cell (World.block_lt_of_cell? w _ hx155_7)).trans hx155_7
                replace hx155_8 := (HB.out.cell (World.block_lt_of_cell? w _ hx155_8)).trans hx155_8
                replace hx155_9 := (HB.out.cell (World.block_lt_of_cell? w _ hx155_9)).trans hx155_9
                replace p155 := eq_true p155
                replace q155 := eq_true q155
                refine start_ (n := 10) (S := fun w' => w'.cell? (ad154.add ((x5_1).toNat * 10)) = some (.int .i64 ((rd_T39 l0 x5_1).f0)) ∧ w'.cell? ⟨(ad154.add ((x5_1).toNat * 10)).block, (ad154.add ((x5_1).toNat * 10)).off + 1, none⟩ = some (.string ((rd_T39 l0 x5_1).f1)) ∧ w'.cell? ⟨(ad154.add ((x5_1).toNat * 10)).block, (ad154.add ((x5_1).toNat * 10)).off + 2, none⟩ = some (.string ((rd_T39 l0 x5_1).f2)) ∧ w'.cell? ⟨(ad154.add ((x5_1).toNat * 10)).block, (ad154.add ((x5_1).toNat * 10)).off + 3, none⟩ = some (.int .i64 ((rd_T39 l0 x5_1).f3)) ∧ w'.cell? ⟨(ad154.add ((x5_1).toNat * 10)).block, (ad154.add ((x5_1).toNat * 10)).off + 4, none⟩ = some (.int .i64 ((rd_T39 l0 x5_1).f4)) ∧ w'.cell? ⟨(ad154.add ((x5_1).toNat * 10)).block, (ad154.add ((x5_1).toNat * 10)).off + 5, none⟩ = some (.int .i64 ((rd_T39 l0 x5_1).f5)) ∧ w'.cell? ⟨(ad154.add ((x5_1).toNat * 10)).block, (ad154.add ((x5_1).toNat * 10)).off + 6, none⟩ = some (.int .i64 ((rd_T39 l0 x5_1).f6)) ∧ w'.cell? ⟨(ad154.add ((x5_1).toNat * 10)).block, (ad154.add ((x5_1).toNat * 10)).off + 7, none⟩ = some (.string ((rd_T39 l0 x5_1).f7)) ∧ w'.cell? ⟨(ad154.add ((x5_1).toNat * 10)).block, (ad154.add ((x5_1).toNat * 10)).off + 8, none⟩ = some (.string ((rd_T39 l0 x5_1).f8)) ∧ w'.cell? ⟨(ad154.add ((x5_1).toNat * 10)).block, (ad154.add ((x5_1).toNat * 10)).off + 9, none⟩ = some (.string ((rd_T39 l0 x5_1).f9)) ∧ w'.cell? (ad155.add ((x5_1).toNat * 10)) = some (.int .i64 ((rd_T39 l1 x5_1).f0)) ∧ w'.cell? ⟨(ad155.add ((x5_1).toNat * 10)).block, (ad155.add ((x5_1).toNat * 10)).off + 1, none⟩ = some (.string ((rd_T39 l1 x5_1).f1)) ∧ w'.cell? ⟨(ad155.add ((x5_1).toNat * 10)).block, (ad155.add ((x5_1).toNat * 10)).off + 2, none⟩ = some (.string ((rd_T39 l1 x5_1).f2)) ∧ w'.cell? ⟨(ad155.add ((x5_1).toNat * 10)).block, (ad155.add ((x5_1).toNat * 10)).off + 3, none⟩ = some (.int .i64 ((rd_T39 l1 x5_1).f3)) ∧ w'.cell? ⟨(ad155.add ((x5_1).toNat * 10)).block, (ad155.add ((x5_1).toNat * 10)).off + 4, none⟩ = some (.int .i64 ((rd_T39 l1 x5_1).f4)) ∧ w'.cell? ⟨(ad155.add ((x5_1).toNat * 10)).block, (ad155.add ((x5_1).toNat * 10)).off + 5, none⟩ = some (.int .i64 ((rd_T39 l1 x5_1).f5)) ∧ w'.cell? ⟨(ad155.add ((x5_1).toNat * 10)).block, (ad155.add ((x5_1).toNat * 10)).off + 6, none⟩ = some (.int .i64 ((rd_T39 l1 x5_1).f6)) ∧ w'.cell? ⟨(ad155.add ((x5_1).toNat * 10)).block, (ad155.add ((x5_1).toNat * 10)).off + 7, none⟩ = some (.string ((rd_T39 l1 x5_1).f7)) ∧ w'.cell? ⟨(ad155.add ((x5_1).toNat * 10)).block, (ad155.add ((x5_1).toNat * 10)).off + 8, none⟩ = some (.string ((rd_T39 l1 x5_1).f8)) ∧ w'.cell? ⟨(ad155.add ((x5_1).toNat * 10)).block, (ad155.add ((x5_1).toNat * 10)).off + 9, none⟩ = some (.string ((rd_T39 l1 x5_1).f9))) (ds := []) #[false, false, false, false, false, false, false, false, false, false] (by kernel_rfl) rfl rfl ⟨((HB.out.cell (World.block_lt_of_cell? w _ hw154_0)).trans hw154_0), ((HB.out.cell (World.block_lt_of_cell? w _ hw154_1)).trans hw154_1), ((HB.out.cell (World.block_lt_of_cell? w _ hw154_2)).trans hw154_2), ((HB.out.cell (World.block_lt_of_cell? w _ hw154_3)).trans hw154_3), ((HB.out.cell (World.block_lt_of_cell? w _ hw154_4)).trans hw154_4), ((HB.out.cell (World.block_lt_of_cell? w _ hw154_5)).trans hw154_5), ((HB.out.cell (World.block_lt_of_cell? w _ hw154_6)).trans hw154_6), ((HB.out.cell (World.block_lt_of_cell? w _ hw154_7)).trans hw154_7), ((HB.out.cell (World.block_lt_of_cell? w _ hw154_8)).trans hw154_8), ((HB.out.cell (World.block_lt_of_cell? w _ hw154_9)).trans hw154_9), ((HB.out.cell (World.block_lt_of_cell? w _ hw155_0)).trans hw155_0), ((HB.out.cell (World.block_lt_of_cell? w _ hw155_1)).trans hw155_1), ((HB.out.cell (World.block_lt_of_cell? w _ hw155_2)).trans hw155_2), ((HB.out.cell (World.block_lt_of_cell? w _ hw155_3)).trans hw155_3), ((HB.out.cell (World.block_lt_of_cell? w _ hw155_4)).trans hw155_4), ((HB.out.cell (World.block_lt_of_cell? w _ hw155_5)).trans hw155_5), ((HB.out.cell (World.block_lt_of_cell? w _ hw155_6)).trans hw155_6), ((HB.out.cell (World.block_lt_of_cell? w _ hw155_7)).trans hw155_7), ((HB.out.cell (World.block_lt_of_cell? w _ hw155_8)).trans hw155_8), ((HB.out.cell (World.block_lt_of_cell? w _ hw155_9)).trans hw155_9)⟩ (fun hHeld => ?_); refine with_tabW laws_eqEntryS.tab6 laws_eqEntryS.bits6 (fun HT_ HW_ => ?_)
                generalize wr.drew = w9 at HB hx154_0 hx154_1 hx154_2 hx154_3 hx154_4 hx154_5 hx154_6 hx154_7 hx154_8 hx154_9 hx155_0 hx155_1 hx155_2 hx155_3 hx155_4 hx155_5 hx155_6 hx155_7 hx155_8 hx155_9 hHeld ⊢
                refine pure_ (i := 0) (N := some 17) (v := ?_) (a' := ?_) #[true, false, false, false, false, false, false, false, false, false] rfl rfl (any_of HT_.out (by kernel_rfl)) (fun _ _ _ h => h) (Or.inl ⟨by rfl, ?_⟩) ?_ ?_
                rotate_left
                · intro w'
                  go_simp
                  with_reducible rfl
                rotate_left
                · simp only [Act.put, List.setIfInBounds_toArray, List.set_cons_zero, List.set_cons_succ, i64_w, i32_w]
                  rfl
                refine pure_ (i := 1) (N := some 18) (v := ?_) (a' := ?_) #[true, true, false, false, false, false, false, false, false, false] rfl rfl (any_of HT_.out (by kernel_rfl)) (fun _ _ _ h => h) (Or.inl ⟨by rfl, ?_⟩) ?_ ?_
                rotate_left
                · intro w'
                  go_simp
                  with_reducible rfl
                rotate_left
                · simp only [Act.put, List.setIfInBounds_toArray, List.set_cons_zero, List.set_cons_succ, i64_w, i32_w]
                  rfl
                refine pure_ (i := 2) (N := some 19) (v := ?_) (a' := ?_) #[true, true, true, false, false, false, false, false, false, false] rfl rfl (any_of HT_.out (by kernel_rfl)) (fun _ _ _ h => h) (Or.inl ⟨by rfl, ?_⟩) ?_ ?_
                rotate_left
                · intro w'
                  go_simp
                  with_reducible rfl
                rotate_left
                · simp only [Act.put, List.setIfInBounds_toArray, List.set_cons_zero, List.set_cons_succ, i64_w, i32_w]
                  rfl
                refine pure_ (i := 4) (N := some 21) (v := ?_) (a' := ?_) #[true, true, true, false, true, false, false, false, false, false] rfl rfl (any_of HT_.out (by kernel_rfl)) (fun _ _ _ h => h) (Or.inl ⟨by rfl, ?_⟩) ?_ ?_
                rotate_left
                · intro w'
                  go_simp
                  with_reducible rfl
                rotate_left
                · simp only [Act.put, List.setIfInBounds_toArray, List.set_cons_zero, List.set_cons_succ, i64_w, i32_w]
                  rfl
                refine pure_ (i := 5) (N := some 22) (v := ?_) (a' := ?_) #[true, true, true, false, true, true, false, false, false, false] rfl rfl (any_of HT_.out (by kernel_rfl)) (fun _ _ _ h => h) (Or.inl ⟨by rfl, ?_⟩) ?_ ?_
                rotate_left
                · intro w'
                  go_simp
                  with_reducible rfl
                rotate_left
                · simp only [Act.put, List.setIfInBounds_toArray, List.set_cons_zero, List.set_cons_succ, i64_w, i32_w]
                  rfl
                refine pure_ (i := 6) (N := some 23) (v := ?_) (a' := ?_) #[true, true, true, false, true, true, true, false, false, false] rfl rfl (any_of HT_.out (by kernel_rfl)) (fun _ _ _ h => h) (Or.inl ⟨by rfl, ?_⟩) ?_ ?_
                rotate_left
                · intro w'
                  go_simp
                  with_reducible rfl
                rotate_left
                · simp only [Act.put, List.setIfInBounds_toArray, List.set_cons_zero, List.set_cons_succ, i64_w, i32_w]
                  rfl
                refine take_ (i := 3) (N := some 20) (v := ?_) (a' := ?_) #[true, true, true, true, true, true, true, false, false, false] rfl rfl (take_ofW HT_.out HW_.out (by kernel_rfl)) (fun _ _ _ h => h) (Or.inl ⟨by rfl, ?_⟩) hHeld ?_ ?_
                rotate_left
                · rintro w' ⟨s0, s1, s2, s3, s4, s5, s6, s7, s8, s9, s10, s11, s12, s13, s14, s15, s16, s17, s18, s19⟩
                  go_simp
                  with_reducible rfl
                rotate_left
                · simp only [Act.put, List.setIfInBounds_toArray, List.set_cons_zero, List.set_cons_succ, i64_w, i32_w]
                  rfl
                refine take_ (i := 7) (N := some 24) (v := ?_) (a' := ?_) #[true, true, true, true, true, true, true, true, false, false] rfl rfl (take_ofW HT_.out HW_.out (by kernel_rfl)) (fun _ _ _ h => h) (Or.inl ⟨by rfl, ?_⟩) hHeld ?_ ?_
                rotate_left
                · rintro w' ⟨s0, s1, s2, s3, s4, s5, s6, s7, s8, s9, s10, s11, s12, s13, s14, s15, s16, s17, s18, s19⟩
                  go_simp
                  with_reducible rfl
                rotate_left
                · simp only [Act.put, List.setIfInBounds_toArray, List.set_cons_zero, List.set_cons_succ, i64_w, i32_w]
                  rfl
                refine one_ (i := 8) (N := some 25) #[true, true, true, true, true, true, true, true, true, false] rfl rfl (one_of HT_.out (by kernel_rfl)) (by decide) (fun K hK => ?_)
                refine goes_ Try.func21 (by kernel_rfl) rfl #[.agg #[.int .i64 ((rd_T39 l0 x5_1).f0), .string ((rd_T39 l0 x5_1).f1), .string ((rd_T39 l0 x5_1).f2), .int .i64 ((rd_T39 l0 x5_1).f3), .int .i64 ((rd_T39 l0 x5_1).f4), .int .i64 ((rd_T39 l0 x5_1).f5), .int .i64 ((rd_T39 l0 x5_1).f6), .string ((rd_T39 l0 x5_1).f7), .string ((rd_T39 l0 x5_1).f8), .string ((rd_T39 l0 x5_1).f9)], .agg #[.int .i64 ((rd_T39 l1 x5_1).f0), .string ((rd_T39 l1 x5_1).f1), .string ((rd_T39 l1 x5_1).f2), .int .i64 ((rd_T39 l1 x5_1).f3), .int .i64 ((rd_T39 l1 x5_1).f4), .int .i64 ((rd_T39 l1 x5_1).f5), .int .i64 ((rd_T39 l1 x5_1).f6), .string ((rd_T39 l1 x5_1).f7), .string ((rd_T39 l1 x5_1).f8), .string ((rd_T39 l1 x5_1).f9)]] (by rfl) rfl rfl (by (try simp only [List.map_toArray, List.map_cons, List.map_nil]); first | done | rfl | (simp only [List.length_drop, List.length_take]; rfl)) ?_
                with_reducible refine (laws_eqEntry.calls ((rd_T39 l0 x5_1).f0) ((rd_T39 l0 x5_1).f1) ((rd_T39 l0 x5_1).f2) ((rd_T39 l0 x5_1).f3) ((rd_T39 l0 x5_1).f4) ((rd_T39 l0 x5_1).f5) ((rd_T39 l0 x5_1).f6) ((rd_T39 l0 x5_1).f7) ((rd_T39 l0 x5_1).f8) ((rd_T39 l0 x5_1).f9) ((rd_T39 l1 x5_1).f0) ((rd_T39 l1 x5_1).f1) ((rd_T39 l1 x5_1).f2) ((rd_T39 l1 x5_1).f3) ((rd_T39 l1 x5_1).f4) ((rd_T39 l1 x5_1).f5) ((rd_T39 l1 x5_1).f6) ((rd_T39 l1 x5_1).f7) ((rd_T39 l1 x5_1).f8) ((rd_T39 l1 x5_1).f9) true _ A7.out).mono ?_
                rintro e w10 ⟨rfl, hb⟩
                refine ⟨_, rfl, ?_⟩
                have n0_ := Aside0.mk (below_step (by repeat (first | (with_reducible first | exact HB.out | apply below_alloc | apply pw_below_drewN | apply below_drew1) | exact HB.out)) hb)
                clear HB
                have HB := n0_
                clear n0_
                (try clear hb)
                (try clear hb2)
                (try clear hk)
                (try clear hi)
                refine hK.out _ _ ⟨((HB.out.cell (World.block_lt_of_cell? w _ hw154_0)).trans hw154_0), ((HB.out.cell (World.block_lt_of_cell? w _ hw154_1)).trans hw154_1), ((HB.out.cell (World.block_lt_of_cell? w _ hw154_2)).trans hw154_2), ((HB.out.cell (World.block_lt_of_cell? w _ hw154_3)).trans hw154_3), ((HB.out.cell (World.block_lt_of_cell? w _ hw154_4)).trans hw154_4), ((HB.out.cell (World.block_lt_of_cell? w _ hw154_5)).trans hw154_5), ((HB.out.cell (World.block_lt_of_cell? w _ hw154_6)).trans hw154_6), ((HB.out.cell (World.block_lt_of_cell? w _ hw154_7)).trans hw154_7), ((HB.out.cell (World.block_lt_of_cell? w _ hw154_8)).trans hw154_8), ((HB.out.cell (World.block_lt_of_cell? w _ hw154_9)).trans hw154_9), ((HB.out.cell (World.block_lt_of_cell? w _ hw155_0)).trans hw155_0), ((HB.out.cell (World.block_lt_of_cell? w _ hw155_1)).trans hw155_1), ((HB.out.cell (World.block_lt_of_cell? w _ hw155_2)).trans hw155_2), ((HB.out.cell (World.block_lt_of_cell? w _ hw155_3)).trans hw155_3), ((HB.out.cell (World.block_lt_of_cell? w _ hw155_4)).trans hw155_4), ((HB.out.cell (World.block_lt_of_cell? w _ hw155_5)).trans hw155_5), ((HB.out.cell (World.block_lt_of_cell? w _ hw155_6)).trans hw155_6), ((HB.out.cell (World.block_lt_of_cell? w _ hw155_7)).trans hw155_7), ((HB.out.cell (World.block_lt_of_cell? w _ hw155_8)).trans hw155_8), ((HB.out.cell (World.block_lt_of_cell? w _ hw155_9)).trans hw155_9)⟩ (fun hHeld => ?_)
                clear hK K
                refine norm_ (a' := ?_) ?_ ?_
                rotate_left
                · show Act.put _ (some 25) _ = _
                  simp only [Act.put, List.setIfInBounds_toArray, List.set_cons_zero, List.set_cons_succ, i64_w, i32_w]
                  rfl
                refine pure_ (i := 9) (N := some 26) (v := ?_) (a' := ?_) #[true, true, true, true, true, true, true, true, true, true] rfl rfl (any_of HT_.out (by kernel_rfl)) (fun _ _ _ h => h) (Or.inl ⟨by rfl, ?_⟩) ?_ ?_
                rotate_left
                · intro w'
                  go_simp
                  with_reducible rfl
                rotate_left
                · simp only [Act.put, List.setIfInBounds_toArray, List.set_cons_zero, List.set_cons_succ, i64_w, i32_w]
                  rfl
                refine done_ (done_of HT_.out (by kernel_rfl)) ?_
                try go_wp2
                go_roundg k1
                case measure => have := HK1.out; omega
                case rel => exact ⟨(wrap64 (x5_1 + 1)), (by first | rfl | (simp; done) | (simp [*]; done)), H', ⟨by have := HK1.out; omega⟩, ⟨by repeat (first | (with_reducible first | exact HB.out | apply below_alloc | apply pw_below_drewN | apply below_drew1) | exact HB.out)⟩⟩
              · replace c8 := Bool.eq_false_iff.mpr c8
                subst c8
                have H1 : (some false) = some r := by rw [if_neg (show ¬ (false = true) by decide)] at H; exact H
                clear H
                have H := H1
                clear H1
                obtain rfl := Option.some.inj H
                try go_wp2
                have n0_ := Aside0.mk (below_drew1 HB.out)
                clear HB
                have HB := n0_
                clear n0_
                have p154 : 0 ≤ (x5_1 : Int) := of_decide_eq_true (by assumption)
                have q154 : x5_1 < (l0.length : Int) := of_decide_eq_true (by assumption)
                obtain ⟨ad154, e154, hx154_0, hx154_1, hx154_2, hx154_3, hx154_4, hx154_5, hx154_6, hx154_7, hx154_8, hx154_9⟩ := at_T39 HR0.out x5_1 p154 q154
                have hw154_9 := hx154_9
                have hw154_8 := hx154_8
                have hw154_7 := hx154_7
                have hw154_6 := hx154_6
                have hw154_5 := hx154_5
                have hw154_4 := hx154_4
                have hw154_3 := hx154_3
                have hw154_2 := hx154_2
                have hw154_1 := hx154_1
                have hw154_0 := hx154_0
                cases e154
                replace hx154_0 := (HB.out.cell (World.block_lt_of_cell? w _ hx154_0)).trans hx154_0
                replace hx154_1 := (HB.out.cell (World.block_lt_of_cell? w _ hx154_1)).trans hx154_1
                replace hx154_2 := (HB.out.cell (World.block_lt_of_cell? w _ hx154_2)).trans hx154_2
                replace hx154_3 := (HB.out.cell (World.block_lt_of_cell? w _ hx154_3)).trans hx154_3
                replace hx154_4 := (HB.out.cell (World.block_lt_of_cell? w _ hx154_4)).trans hx154_4
                replace hx154_5 := (HB.out.cell (World.block_lt_of_cell? w _ hx154_5)).trans hx154_5
                replace hx154_6 := (HB.out.cell (World.block_lt_of_cell? w _ hx154_6)).trans hx154_6
                replace hx154_7 := (HB.out.cell (World.block_lt_of_cell? w _ hx154_7)).trans hx154_7
                replace hx154_8 := (HB.out.cell (World.block_lt_of_cell? w _ hx154_8)).trans hx154_8
                replace hx154_9 := (HB.out.cell (World.block_lt_of_cell? w _ hx154_9)).trans hx154_9
                replace p154 := eq_true p154
                replace q154 := eq_true q154
                have p155 : 0 ≤ (x5_1 : Int) := of_decide_eq_true (by assumption)
                have q155 : x5_1 < (l1.length : Int) := of_decide_eq_true (by assumption)
                obtain ⟨ad155, e155, hx155_0, hx155_1, hx155_2, hx155_3, hx155_4, hx155_5, hx155_6, hx155_7, hx155_8, hx155_9⟩ := at_T39 HR1.out x5_1 p155 q155
                have hw155_9 := hx155_9
                have hw155_8 := hx155_8
                have hw155_7 := hx155_7
                have hw155_6 := hx155_6
                have hw155_5 := hx155_5
                have hw155_4 := hx155_4
                have hw155_3 := hx155_3
                have hw155_2 := hx155_2
                have hw155_1 := hx155_1
                have hw155_0 := hx155_0
                cases e155
                replace hx155_0 := (HB.out.cell (World.block_lt_of_cell? w _ hx155_0)).trans hx155_0
                replace hx155_1 := (HB.out.cell (World.block_lt_of_cell? w _ hx155_1)).trans hx155_1
                replace hx155_2 := (HB.out.cell (World.block_lt_of_cell? w _ hx155_2)).trans hx155_2
                replace hx155_3 := (HB.out.cell (World.block_lt_of_cell? w _ hx155_3)).trans hx155_3
                replace hx155_4 := (HB.out.cell (World.block_lt_of_cell? w _ hx155_4)).trans hx155_4
                replace hx155_5 := (HB.out.cell (World.block_lt_of_cell? w _ hx155_5)).trans hx155_5
                replace hx155_6 := (HB.out.cell (World.block_lt_of_cell? w _ hx155_6)).trans hx155_6
                replace hx155_7 := (HB.out.cell (World.block_lt_of_cell? w _ hx155_7)).trans hx155_7
                replace hx155_8 := (HB.out.cell (World.block_lt_of_cell? w _ hx155_8)).trans hx155_8
                replace hx155_9 := (HB.out.cell (World.block_lt_of_cell? w _ hx155_9)).trans hx155_9
                replace p155 := eq_true p155
                replace q155 := eq_true q155
                refine start_ (n := 10) (S := fun w' => w'.cell? (ad154.add ((x5_1).toNat * 10)) = some (.int .i64 ((rd_T39 l0 x5_1).f0)) ∧ w'.cell? ⟨(ad154.add ((x5_1).toNat * 10)).block, (ad154.add ((x5_1).toNat * 10)).off + 1, none⟩ = some (.string ((rd_T39 l0 x5_1).f1)) ∧ w'.cell? ⟨(ad154.add ((x5_1).toNat * 10)).block, (ad154.add ((x5_1).toNat * 10)).off + 2, none⟩ = some (.string ((rd_T39 l0 x5_1).f2)) ∧ w'.cell? ⟨(ad154.add ((x5_1).toNat * 10)).block, (ad154.add ((x5_1).toNat * 10)).off + 3, none⟩ = some (.int .i64 ((rd_T39 l0 x5_1).f3)) ∧ w'.cell? ⟨(ad154.add ((x5_1).toNat * 10)).block, (ad154.add ((x5_1).toNat * 10)).off + 4, none⟩ = some (.int .i64 ((rd_T39 l0 x5_1).f4)) ∧ w'.cell? ⟨(ad154.add ((x5_1).toNat * 10)).block, (ad154.add ((x5_1).toNat * 10)).off + 5, none⟩ = some (.int .i64 ((rd_T39 l0 x5_1).f5)) ∧ w'.cell? ⟨(ad154.add ((x5_1).toNat * 10)).block, (ad154.add ((x5_1).toNat * 10)).off + 6, none⟩ = some (.int .i64 ((rd_T39 l0 x5_1).f6)) ∧ w'.cell? ⟨(ad154.add ((x5_1).toNat * 10)).block, (ad154.add ((x5_1).toNat * 10)).off + 7, none⟩ = some (.string ((rd_T39 l0 x5_1).f7)) ∧ w'.cell? ⟨(ad154.add ((x5_1).toNat * 10)).block, (ad154.add ((x5_1).toNat * 10)).off + 8, none⟩ = some (.string ((rd_T39 l0 x5_1).f8)) ∧ w'.cell? ⟨(ad154.add ((x5_1).toNat * 10)).block, (ad154.add ((x5_1).toNat * 10)).off + 9, none⟩ = some (.string ((rd_T39 l0 x5_1).f9)) ∧ w'.cell? (ad155.add ((x5_1).toNat * 10)) = some (.int .i64 ((rd_T39 l1 x5_1).f0)) ∧ w'.cell? ⟨(ad155.add ((x5_1).toNat * 10)).block, (ad155.add ((x5_1).toNat * 10)).off + 1, none⟩ = some (.string ((rd_T39 l1 x5_1).f1)) ∧ w'.cell? ⟨(ad155.add ((x5_1).toNat * 10)).block, (ad155.add ((x5_1).toNat * 10)).off + 2, none⟩ = some (.string ((rd_T39 l1 x5_1).f2)) ∧ w'.cell? ⟨(ad155.add ((x5_1).toNat * 10)).block, (ad155.add ((x5_1).toNat * 10)).off + 3, none⟩ = some (.int .i64 ((rd_T39 l1 x5_1).f3)) ∧ w'.cell? ⟨(ad155.add ((x5_1).toNat * 10)).block, (ad155.add ((x5_1).toNat * 10)).off + 4, none⟩ = some (.int .i64 ((rd_T39 l1 x5_1).f4)) ∧ w'.cell? ⟨(ad155.add ((x5_1).toNat * 10)).block, (ad155.add ((x5_1).toNat * 10)).off + 5, none⟩ = some (.int .i64 ((rd_T39 l1 x5_1).f5)) ∧ w'.cell? ⟨(ad155.add ((x5_1).toNat * 10)).block, (ad155.add ((x5_1).toNat * 10)).off + 6, none⟩ = some (.int .i64 ((rd_T39 l1 x5_1).f6)) ∧ w'.cell? ⟨(ad155.add ((x5_1).toNat * 10)).block, (ad155.add ((x5_1).toNat * 10)).off + 7, none⟩ = some (.string ((rd_T39 l1 x5_1).f7)) ∧ w'.cell? ⟨(ad155.add ((x5_1).toNat * 10)).block, (ad155.add ((x5_1).toNat * 10)).off + 8, none⟩ = some (.string ((rd_T39 l1 x5_1).f8)) ∧ w'.cell? ⟨(ad155.add ((x5_1).toNat * 10)).block, (ad155.add ((x5_1).toNat * 10)).off + 9, none⟩ = some (.string ((rd_T39 l1 x5_1).f9))) (ds := []) #[false, false, false, false, false, false, false, false, false, false] (by kernel_rfl) rfl rfl ⟨((HB.out.cell (World.block_lt_of_cell? w _ hw154_0)).trans hw154_0), ((HB.out.cell (World.block_lt_of_cell? w _ hw154_1)).trans hw154_1), ((HB.out.cell (World.block_lt_of_cell? w _ hw154_2)).trans hw154_2), ((HB.out.cell (World.block_lt_of_cell? w _ hw154_3)).trans hw154_3), ((HB.out.cell (World.block_lt_of_cell? w _ hw154_4)).trans hw154_4), ((HB.out.cell (World.block_lt_of_cell? w _ hw154_5)).trans hw154_5), ((HB.out.cell (World.block_lt_of_cell? w _ hw154_6)).trans hw154_6), ((HB.out.cell (World.block_lt_of_cell? w _ hw154_7)).trans hw154_7), ((HB.out.cell (World.block_lt_of_cell? w _ hw154_8)).trans hw154_8), ((HB.out.cell (World.block_lt_of_cell? w _ hw154_9)).trans hw154_9), ((HB.out.cell (World.block_lt_of_cell? w _ hw155_0)).trans hw155_0), ((HB.out.cell (World.block_lt_of_cell? w _ hw155_1)).trans hw155_1), ((HB.out.cell (World.block_lt_of_cell? w _ hw155_2)).trans hw155_2), ((HB.out.cell (World.block_lt_of_cell? w _ hw155_3)).trans hw155_3), ((HB.out.cell (World.block_lt_of_cell? w _ hw155_4)).trans hw155_4), ((HB.out.cell (World.block_lt_of_cell? w _ hw155_5)).trans hw155_5), ((HB.out.cell (World.block_lt_of_cell? w _ hw155_6)).trans hw155_6), ((HB.out.cell (World.block_lt_of_cell? w _ hw155_7)).trans hw155_7), ((HB.out.cell (World.block_lt_of_cell? w _ hw155_8)).trans hw155_8), ((HB.out.cell (World.block_lt_of_cell? w _ hw155_9)).trans hw155_9)⟩ (fun hHeld => ?_); refine with_tabW laws_eqEntryS.tab6 laws_eqEntryS.bits6 (fun HT_ HW_ => ?_)
                generalize wr.drew = w11 at HB hx154_0 hx154_1 hx154_2 hx154_3 hx154_4 hx154_5 hx154_6 hx154_7 hx154_8 hx154_9 hx155_0 hx155_1 hx155_2 hx155_3 hx155_4 hx155_5 hx155_6 hx155_7 hx155_8 hx155_9 hHeld ⊢
                refine pure_ (i := 0) (N := some 17) (v := ?_) (a' := ?_) #[true, false, false, false, false, false, false, false, false, false] rfl rfl (any_of HT_.out (by kernel_rfl)) (fun _ _ _ h => h) (Or.inl ⟨by rfl, ?_⟩) ?_ ?_
                rotate_left
                · intro w'
                  go_simp
                  with_reducible rfl
                rotate_left
                · simp only [Act.put, List.setIfInBounds_toArray, List.set_cons_zero, List.set_cons_succ, i64_w, i32_w]
                  rfl
                refine pure_ (i := 1) (N := some 18) (v := ?_) (a' := ?_) #[true, true, false, false, false, false, false, false, false, false] rfl rfl (any_of HT_.out (by kernel_rfl)) (fun _ _ _ h => h) (Or.inl ⟨by rfl, ?_⟩) ?_ ?_
                rotate_left
                · intro w'
                  go_simp
                  with_reducible rfl
                rotate_left
                · simp only [Act.put, List.setIfInBounds_toArray, List.set_cons_zero, List.set_cons_succ, i64_w, i32_w]
                  rfl
                refine pure_ (i := 2) (N := some 19) (v := ?_) (a' := ?_) #[true, true, true, false, false, false, false, false, false, false] rfl rfl (any_of HT_.out (by kernel_rfl)) (fun _ _ _ h => h) (Or.inl ⟨by rfl, ?_⟩) ?_ ?_
                rotate_left
                · intro w'
                  go_simp
                  with_reducible rfl
                rotate_left
                · simp only [Act.put, List.setIfInBounds_toArray, List.set_cons_zero, List.set_cons_succ, i64_w, i32_w]
                  rfl
                refine pure_ (i := 4) (N := some 21) (v := ?_) (a' := ?_) #[true, true, true, false, true, false, false, false, false, false] rfl rfl (any_of HT_.out (by kernel_rfl)) (fun _ _ _ h => h) (Or.inl ⟨by rfl, ?_⟩) ?_ ?_
                rotate_left
                · intro w'
                  go_simp
                  with_reducible rfl
                rotate_left
                · simp only [Act.put, List.setIfInBounds_toArray, List.set_cons_zero, List.set_cons_succ, i64_w, i32_w]
                  rfl
                refine pure_ (i := 5) (N := some 22) (v := ?_) (a' := ?_) #[true, true, true, false, true, true, false, false, false, false] rfl rfl (any_of HT_.out (by kernel_rfl)) (fun _ _ _ h => h) (Or.inl ⟨by rfl, ?_⟩) ?_ ?_
                rotate_left
                · intro w'
                  go_simp
                  with_reducible rfl
                rotate_left
                · simp only [Act.put, List.setIfInBounds_toArray, List.set_cons_zero, List.set_cons_succ, i64_w, i32_w]
                  rfl
                refine pure_ (i := 6) (N := some 23) (v := ?_) (a' := ?_) #[true, true, true, false, true, true, true, false, false, false] rfl rfl (any_of HT_.out (by kernel_rfl)) (fun _ _ _ h => h) (Or.inl ⟨by rfl, ?_⟩) ?_ ?_
                rotate_left
                · intro w'
                  go_simp
                  with_reducible rfl
                rotate_left
                · simp only [Act.put, List.setIfInBounds_toArray, List.set_cons_zero, List.set_cons_succ, i64_w, i32_w]
                  rfl
                refine take_ (i := 3) (N := some 20) (v := ?_) (a' := ?_) #[true, true, true, true, true, true, true, false, false, false] rfl rfl (take_ofW HT_.out HW_.out (by kernel_rfl)) (fun _ _ _ h => h) (Or.inl ⟨by rfl, ?_⟩) hHeld ?_ ?_
                rotate_left
                · rintro w' ⟨s0, s1, s2, s3, s4, s5, s6, s7, s8, s9, s10, s11, s12, s13, s14, s15, s16, s17, s18, s19⟩
                  go_simp
                  with_reducible rfl
                rotate_left
                · simp only [Act.put, List.setIfInBounds_toArray, List.set_cons_zero, List.set_cons_succ, i64_w, i32_w]
                  rfl
                refine take_ (i := 7) (N := some 24) (v := ?_) (a' := ?_) #[true, true, true, true, true, true, true, true, false, false] rfl rfl (take_ofW HT_.out HW_.out (by kernel_rfl)) (fun _ _ _ h => h) (Or.inl ⟨by rfl, ?_⟩) hHeld ?_ ?_
                rotate_left
                · rintro w' ⟨s0, s1, s2, s3, s4, s5, s6, s7, s8, s9, s10, s11, s12, s13, s14, s15, s16, s17, s18, s19⟩
                  go_simp
                  with_reducible rfl
                rotate_left
                · simp only [Act.put, List.setIfInBounds_toArray, List.set_cons_zero, List.set_cons_succ, i64_w, i32_w]
                  rfl
                refine one_ (i := 8) (N := some 25) #[true, true, true, true, true, true, true, true, true, false] rfl rfl (one_of HT_.out (by kernel_rfl)) (by decide) (fun K hK => ?_)
                refine goes_ Try.func21 (by kernel_rfl) rfl #[.agg #[.int .i64 ((rd_T39 l0 x5_1).f0), .string ((rd_T39 l0 x5_1).f1), .string ((rd_T39 l0 x5_1).f2), .int .i64 ((rd_T39 l0 x5_1).f3), .int .i64 ((rd_T39 l0 x5_1).f4), .int .i64 ((rd_T39 l0 x5_1).f5), .int .i64 ((rd_T39 l0 x5_1).f6), .string ((rd_T39 l0 x5_1).f7), .string ((rd_T39 l0 x5_1).f8), .string ((rd_T39 l0 x5_1).f9)], .agg #[.int .i64 ((rd_T39 l1 x5_1).f0), .string ((rd_T39 l1 x5_1).f1), .string ((rd_T39 l1 x5_1).f2), .int .i64 ((rd_T39 l1 x5_1).f3), .int .i64 ((rd_T39 l1 x5_1).f4), .int .i64 ((rd_T39 l1 x5_1).f5), .int .i64 ((rd_T39 l1 x5_1).f6), .string ((rd_T39 l1 x5_1).f7), .string ((rd_T39 l1 x5_1).f8), .string ((rd_T39 l1 x5_1).f9)]] (by rfl) rfl rfl (by (try simp only [List.map_toArray, List.map_cons, List.map_nil]); first | done | rfl | (simp only [List.length_drop, List.length_take]; rfl)) ?_
                with_reducible refine (laws_eqEntry.calls ((rd_T39 l0 x5_1).f0) ((rd_T39 l0 x5_1).f1) ((rd_T39 l0 x5_1).f2) ((rd_T39 l0 x5_1).f3) ((rd_T39 l0 x5_1).f4) ((rd_T39 l0 x5_1).f5) ((rd_T39 l0 x5_1).f6) ((rd_T39 l0 x5_1).f7) ((rd_T39 l0 x5_1).f8) ((rd_T39 l0 x5_1).f9) ((rd_T39 l1 x5_1).f0) ((rd_T39 l1 x5_1).f1) ((rd_T39 l1 x5_1).f2) ((rd_T39 l1 x5_1).f3) ((rd_T39 l1 x5_1).f4) ((rd_T39 l1 x5_1).f5) ((rd_T39 l1 x5_1).f6) ((rd_T39 l1 x5_1).f7) ((rd_T39 l1 x5_1).f8) ((rd_T39 l1 x5_1).f9) false _ A7.out).mono ?_
                rintro e w12 ⟨rfl, hb⟩
                refine ⟨_, rfl, ?_⟩
                have n0_ := Aside0.mk (below_step (by repeat (first | (with_reducible first | exact HB.out | apply below_alloc | apply pw_below_drewN | apply below_drew1) | exact HB.out)) hb)
                clear HB
                have HB := n0_
                clear n0_
                (try clear hb)
                (try clear hb2)
                (try clear hk)
                (try clear hi)
                refine hK.out _ _ ⟨((HB.out.cell (World.block_lt_of_cell? w _ hw154_0)).trans hw154_0), ((HB.out.cell (World.block_lt_of_cell? w _ hw154_1)).trans hw154_1), ((HB.out.cell (World.block_lt_of_cell? w _ hw154_2)).trans hw154_2), ((HB.out.cell (World.block_lt_of_cell? w _ hw154_3)).trans hw154_3), ((HB.out.cell (World.block_lt_of_cell? w _ hw154_4)).trans hw154_4), ((HB.out.cell (World.block_lt_of_cell? w _ hw154_5)).trans hw154_5), ((HB.out.cell (World.block_lt_of_cell? w _ hw154_6)).trans hw154_6), ((HB.out.cell (World.block_lt_of_cell? w _ hw154_7)).trans hw154_7), ((HB.out.cell (World.block_lt_of_cell? w _ hw154_8)).trans hw154_8), ((HB.out.cell (World.block_lt_of_cell? w _ hw154_9)).trans hw154_9), ((HB.out.cell (World.block_lt_of_cell? w _ hw155_0)).trans hw155_0), ((HB.out.cell (World.block_lt_of_cell? w _ hw155_1)).trans hw155_1), ((HB.out.cell (World.block_lt_of_cell? w _ hw155_2)).trans hw155_2), ((HB.out.cell (World.block_lt_of_cell? w _ hw155_3)).trans hw155_3), ((HB.out.cell (World.block_lt_of_cell? w _ hw155_4)).trans hw155_4), ((HB.out.cell (World.block_lt_of_cell? w _ hw155_5)).trans hw155_5), ((HB.out.cell (World.block_lt_of_cell? w _ hw155_6)).trans hw155_6), ((HB.out.cell (World.block_lt_of_cell? w _ hw155_7)).trans hw155_7), ((HB.out.cell (World.block_lt_of_cell? w _ hw155_8)).trans hw155_8), ((HB.out.cell (World.block_lt_of_cell? w _ hw155_9)).trans hw155_9)⟩ (fun hHeld => ?_)
                clear hK K
                refine norm_ (a' := ?_) ?_ ?_
                rotate_left
                · show Act.put _ (some 25) _ = _
                  simp only [Act.put, List.setIfInBounds_toArray, List.set_cons_zero, List.set_cons_succ, i64_w, i32_w]
                  rfl
                refine pure_ (i := 9) (N := some 26) (v := ?_) (a' := ?_) #[true, true, true, true, true, true, true, true, true, true] rfl rfl (any_of HT_.out (by kernel_rfl)) (fun _ _ _ h => h) (Or.inl ⟨by rfl, ?_⟩) ?_ ?_
                rotate_left
                · intro w'
                  go_simp
                  with_reducible rfl
                rotate_left
                · simp only [Act.put, List.setIfInBounds_toArray, List.set_cons_zero, List.set_cons_succ, i64_w, i32_w]
                  rfl
                refine done_ (done_of HT_.out (by kernel_rfl)) ?_
                try go_wp2
                go_ret
                exact ⟨by first | rfl | (simp [errW_none, errW_some] <;> rfl) | (simp [*, errW_none, errW_some] <;> rfl) | (simp only [decide_eq_true_eq] at *; simp [*, bt]; done), by repeat (first | (with_reducible first | exact HB.out | apply below_alloc | apply pw_below_drewN | apply below_drew1) | exact HB.out)⟩
            · rw [if_neg c6] at H
              exact absurd H (by simp)
          · rw [if_neg c5] at H
            exact absurd H (by simp)
        · rw [if_neg c4] at H
          have c4b0 : decide (x5_1 < (l0.length : Int)) = false := decide_eq_false c4
          clear c4
          obtain rfl := Option.some.inj H
          go_wp2
          go_ret
          exact ⟨by first | rfl | (simp [errW_none, errW_some] <;> rfl) | (simp [*, errW_none, errW_some] <;> rfl) | (simp only [decide_eq_true_eq] at *; simp [*, bt]; done), by repeat (first | (with_reducible first | exact HB.out | apply below_alloc | apply pw_below_drewN | apply below_drew1) | exact HB.out)⟩
  · rw [if_neg c3] at H
    have c3b0 : ((l0.length : Int) == (l1.length : Int)) = false := beq_eq_false_iff_ne.mpr c3
    have c3b1 : ((l0.length : Int) != (l1.length : Int)) = true := bne_iff_ne.mpr c3
    have c3b2 : (l0.length == l1.length) = false := by first | simpa using c3 | (simp at c3 ⊢; omega)
    obtain rfl := Option.some.inj H
    go_enter Try.func10, Try.ntmps10
    go_wp2
    go_ret
    exact ⟨by first | rfl | (simp [errW_none, errW_some] <;> rfl) | (simp [*, errW_none, errW_some] <;> rfl) | (simp only [decide_eq_true_eq] at *; simp [*, bt]; done), by repeat (first | (with_reducible first | exact HB.out | apply below_alloc | apply pw_below_drewN | apply below_drew1) | exact HB.out)⟩

/-! ### laws_markText: function 22 -/
def laws_markText.l0 : Nat → Int → ByteArray → Option (ByteArray)
  | 0, _, _ => none
  | k + 1, x0, x3 => if x0 > 0 then ((some (([(wrap64 (48 + (Int.tmod x0 10))) % 256] : List Int) : List Int)).bind fun y157 => (if (strOfNums y157).size + x3.size ≤ 9223372036854775807 then (laws_markText.l0 k (wrap64 (Int.tdiv x0 10)) ((strOfNums y157) ++ x3)) else (none))) else (if 1 + x3.size ≤ 9223372036854775807 then (some ((⟨#[109]⟩ : ByteArray) ++ x3)) else (none))
def laws_markText.f (k : Nat) (a0 : Int) : Option (ByteArray) := if a0 ≤ 0 then (some (⟨#[109, 48]⟩ : ByteArray)) else (laws_markText.l0 k a0 (⟨#[]⟩ : ByteArray))
theorem laws_markText.mono_l : ∀ k, (∀ y0 y1, LeO (laws_markText.l0 k y0 y1) (laws_markText.l0 (k + 1) y0 y1))
  | 0 => fun _ _ r h => by simp [laws_markText.l0] at h
  | k + 1 => by
    have ih0 := laws_markText.mono_l k
    · intro y0 y1
      unfold laws_markText.l0
      repeat' first
      | (with_reducible exact ih0 _ _)
      | (with_reducible exact LeO.refl _)
      | (with_reducible exact LeO.none _)
      | (with_reducible refine LeO.ite ?_ ?_)
      | (with_reducible refine LeO.bind ?_ (fun _ => ?_))
      | exact ih0 _ _
      | exact LeO.none _
      | refine LeO.ite ?_ ?_
      | refine LeO.bind ?_ (fun _ => ?_)
theorem laws_markText.mono : ∀ a0 k, LeO (laws_markText.f k a0) (laws_markText.f (k + 1) a0) := by
  intro a0 k
  have ih0 := laws_markText.mono_l k
  unfold laws_markText.f
  repeat' first
      | (with_reducible exact ih0 _ _)
      | (with_reducible exact LeO.refl _)
      | (with_reducible exact LeO.none _)
      | (with_reducible refine LeO.ite ?_ ?_)
      | (with_reducible refine LeO.bind ?_ (fun _ => ?_))
      | exact ih0 _ _
      | exact LeO.none _
      | refine LeO.ite ?_ ?_
      | refine LeO.bind ?_ (fun _ => ?_)
set_option maxHeartbeats 8000000 in
set_option maxRecDepth 100000 in
theorem laws_markText.calls (k : Nat) (a0 : Int) (r : ByteArray) (w : World) (h : laws_markText.f k a0 = some r) :
    Calls Try.prog 22 #[.int .i64 a0] w fun e w' => e = .returned (.string r) ∧ Below w.heap.size w w' := by
  have HB := Aside0.mk (Below.refl w.heap.size w)
  have H : (if a0 ≤ 0 then (some (⟨#[109, 48]⟩ : ByteArray)) else (laws_markText.l0 k a0 (⟨#[]⟩ : ByteArray))) = some r := h
  clear h
  by_cases c2 : a0 ≤ 0
  · rw [if_pos c2] at H
    have c2b0 : decide (a0 ≤ 0) = true := decide_eq_true c2
    clear c2
    obtain rfl := Option.some.inj H
    go_enter Try.func22, Try.ntmps22
    go_wp2
    go_ret
    exact ⟨by first | rfl | (simp [errW_none, errW_some] <;> rfl) | (simp [*, errW_none, errW_some] <;> rfl) | (simp only [decide_eq_true_eq] at *; simp [*, bt]; done), by repeat (first | (with_reducible first | exact HB.out | apply below_alloc | apply pw_below_drewN | apply below_drew1) | exact HB.out)⟩
  · rw [if_neg c2] at H
    have c2b0 : decide (a0 ≤ 0) = false := decide_eq_false c2
    clear c2
    have H' := Aside0.mk H
    clear H
    go_enter Try.func22, Try.ntmps22
    go_wp2
    go_loopg [0, 3] k (fun kq v0 v3 w' => ∃ (x0_1 : Int) (x3_1 : ByteArray), v0 = .int .i64 x0_1 ∧ v3 = .string x3_1 ∧ Aside0 (laws_markText.l0 kq x0_1 x3_1 = some r) ∧ Aside0 (kq ≤ k) ∧ Aside0 (Below w.heap.size w w'))
    case atStart => exact ⟨(a0), ((⟨#[]⟩ : ByteArray)), (by first | rfl | (simp; done) | (simp [*]; done)), (by first | rfl | (simp; done) | (simp [*]; done)), H', ⟨Nat.le_refl _⟩, ⟨by repeat (first | (with_reducible first | exact HB.out | apply below_alloc | apply pw_below_drewN | apply below_drew1) | exact HB.out)⟩⟩
    case round =>
      clear H'
      try clear c2
      try clear c2b0
      try clear p2
      obtain ⟨x0_1, x3_1, rfl, rfl, HA, HK1, HB⟩ := hrel
      cases gk with
      | zero => exact absurd HA.out (by simp [laws_markText.l0])
      | succ k1 =>
        have H := HA.out
        clear HA
        simp only [laws_markText.l0] at H
        by_cases c3 : x0_1 > 0
        · rw [if_pos c3] at H
          have c3b0 : decide (0 < x0_1) = true := decide_eq_true c3
          clear c3
          obtain ⟨y157, hy157⟩ : ∃ y_ : List Int, y_ = (([(wrap64 (48 + (Int.tmod x0_1 10))) % 256] : List Int)) := ⟨_, rfl⟩
          replace H : (if (strOfNums y157).size + x3_1.size ≤ 9223372036854775807 then (laws_markText.l0 k1 (wrap64 (Int.tdiv x0_1 10)) ((strOfNums y157) ++ x3_1)) else (none)) = some r := by first | (rw [hy157]; with_reducible exact H) | (have H2_ := (Option.bind_some _ _).symm.trans H; rw [hy157]; with_reducible exact H2_) | (have H2_ := (Option.bind_some _ _).symm.trans H; with_reducible exact H2_) | with_reducible exact H | (rw [hy157]; exact H) | exact H
          have Ny157 := Aside0.mk hy157
          clear hy157
          by_cases c4 : (strOfNums y157).size + x3_1.size ≤ 9223372036854775807
          · rw [if_pos c4] at H
            have c4b0 := eq_true c4
            have c4b1 : decide ((strOfNums y157).size + x3_1.size ≤ 9223372036854775807) = true := decide_eq_true c4
            try have c4b2 : (9223372036854775807 < (strOfNums y157).size + x3_1.size) = False := eq_false (Nat.not_lt.2 c4)
            have H' := Aside0.mk H
            clear H
            go_wp2_with (first | ((with_reducible refine gate_dst (N := 12) rfl ?_); refine Kd.R_lit (Kd.int .u8) _ 5 ?hg (N := 12) ?hd (xs := ([(wrap64 (48 + (Int.tmod x0_1 10))) % 256] : List Int)) (inner := [.int .u8 ((wrap64 (48 + (Int.tmod x0_1 10))) % 256)]) (ok := fun _ => True) (okp := fun _ => True) ?hr ?hp (fun _ hk => hk) trivial (Below.refl _ _) (Nat.le_refl _) (by simp) ?_; (case hd => rfl); (case hg => rfl); (case hr => first | (go_simp; done) | (go_simp; rfl)); (case hp => exact (Reps.one (show Kd.M (Kd.int .u8) _ _ _ ((wrap64 (48 + (Int.tmod x0_1 10))) % 256) [.int .u8 ((wrap64 (48 + (Int.tmod x0_1 10))) % 256)] from rfl) (Reps.none _ _))); intro v158 w5 ho6 hb hg_ hnew_; clear hg_ hnew_; (first | rw [← Ny157.out] at ho6 | (simp only [Int.reduceToNat] at ho6; rw [← Ny157.out] at ho6)); have n0_ := Aside0.mk (Kd.R_lower ho6 (below_size (by repeat (first | (with_reducible first | exact HB.out | apply below_alloc | apply pw_below_drewN | apply below_drew1) | exact HB.out)))); have n1_ := Aside0.mk (below_step (by repeat (first | (with_reducible first | exact HB.out | apply below_alloc | apply pw_below_drewN | apply below_drew1) | exact HB.out)) hb); clear HB; have HO159 := n0_; have HB := n1_; clear n0_ n1_; clear hb ho6; have hcv7 := own_string (P := Try.prog) Try.underlying49 Try.underlying5 Try.underlying9 (Kd.own_of_R HO159.out)))
            go_roundg k1
            case measure => have := HK1.out; omega
            case rel => exact ⟨(wrap64 (Int.tdiv x0_1 10)), ((strOfNums y157) ++ x3_1), (by first | rfl | (simp; done) | (simp [*]; done)), (by first | rfl | (simp; done) | (simp [*]; done)), H', ⟨by have := HK1.out; omega⟩, ⟨by repeat (first | (with_reducible first | exact HB.out | apply below_alloc | apply pw_below_drewN | apply below_drew1) | exact HB.out)⟩⟩
          · rw [if_neg c4] at H
            exact absurd H (by simp)
        · rw [if_neg c3] at H
          have c3b0 : decide (0 < x0_1) = false := decide_eq_false c3
          clear c3
          by_cases c8 : 1 + x3_1.size ≤ 9223372036854775807
          · rw [if_pos c8] at H
            have c8b0 := eq_true c8
            have c8b1 : decide (1 + x3_1.size ≤ 9223372036854775807) = true := decide_eq_true c8
            try have c8b2 : (9223372036854775807 < 1 + x3_1.size) = False := eq_false (Nat.not_lt.2 c8)
            obtain rfl := Option.some.inj H
            go_wp2
            go_ret
            exact ⟨by first | rfl | (simp [errW_none, errW_some] <;> rfl) | (simp [*, errW_none, errW_some] <;> rfl) | (simp only [decide_eq_true_eq] at *; simp [*, bt]; done), by repeat (first | (with_reducible first | exact HB.out | apply below_alloc | apply pw_below_drewN | apply below_drew1) | exact HB.out)⟩
          · rw [if_neg c8] at H
            exact absurd H (by simp)

/-! ### laws_markEntryS: function 11 -/
def laws_markEntryS.l0 : Nat → List (S39) → Int → Int → Option (Int × (List (S39)))
  | 0, _, _, _ => none
  | k + 1, x0, x1, x5 => if x5 < (x0.length : Int) then (if 0 ≤ x5 then ((some (x0.set (x5 : Int).toNat (⟨x1, (rd_T39 x0 x5).f1, (rd_T39 x0 x5).f2, (rd_T39 x0 x5).f3, (rd_T39 x0 x5).f4, (rd_T39 x0 x5).f5, (rd_T39 x0 x5).f6, (rd_T39 x0 x5).f7, (rd_T39 x0 x5).f8, (rd_T39 x0 x5).f9⟩ : S39) : List (S39))).bind fun y160 => ((laws_markText.f k (wrap64 (x1 + 1))).bind fun t161 => ((some (y160.set (x5 : Int).toNat (⟨(rd_T39 y160 x5).f0, t161, (rd_T39 y160 x5).f2, (rd_T39 y160 x5).f3, (rd_T39 y160 x5).f4, (rd_T39 y160 x5).f5, (rd_T39 y160 x5).f6, (rd_T39 y160 x5).f7, (rd_T39 y160 x5).f8, (rd_T39 y160 x5).f9⟩ : S39) : List (S39))).bind fun y162 => ((laws_markText.f k (wrap64 ((wrap64 (x1 + 1)) + 1))).bind fun t163 => ((some (y162.set (x5 : Int).toNat (⟨(rd_T39 y162 x5).f0, (rd_T39 y162 x5).f1, t163, (rd_T39 y162 x5).f3, (rd_T39 y162 x5).f4, (rd_T39 y162 x5).f5, (rd_T39 y162 x5).f6, (rd_T39 y162 x5).f7, (rd_T39 y162 x5).f8, (rd_T39 y162 x5).f9⟩ : S39) : List (S39))).bind fun y164 => ((some (y164.set (x5 : Int).toNat (⟨(rd_T39 y164 x5).f0, (rd_T39 y164 x5).f1, (rd_T39 y164 x5).f2, wrap64 ((wrap64 ((wrap64 (x1 + 1)) + 1)) + 1), (rd_T39 y164 x5).f4, (rd_T39 y164 x5).f5, (rd_T39 y164 x5).f6, (rd_T39 y164 x5).f7, (rd_T39 y164 x5).f8, (rd_T39 y164 x5).f9⟩ : S39) : List (S39))).bind fun y165 => ((some (y165.set (x5 : Int).toNat (⟨(rd_T39 y165 x5).f0, (rd_T39 y165 x5).f1, (rd_T39 y165 x5).f2, (rd_T39 y165 x5).f3, wrap64 ((wrap64 ((wrap64 ((wrap64 (x1 + 1)) + 1)) + 1)) + 1), (rd_T39 y165 x5).f5, (rd_T39 y165 x5).f6, (rd_T39 y165 x5).f7, (rd_T39 y165 x5).f8, (rd_T39 y165 x5).f9⟩ : S39) : List (S39))).bind fun y166 => ((some (y166.set (x5 : Int).toNat (⟨(rd_T39 y166 x5).f0, (rd_T39 y166 x5).f1, (rd_T39 y166 x5).f2, (rd_T39 y166 x5).f3, (rd_T39 y166 x5).f4, wrap64 ((wrap64 ((wrap64 ((wrap64 ((wrap64 (x1 + 1)) + 1)) + 1)) + 1)) + 1), (rd_T39 y166 x5).f6, (rd_T39 y166 x5).f7, (rd_T39 y166 x5).f8, (rd_T39 y166 x5).f9⟩ : S39) : List (S39))).bind fun y167 => ((some (y167.set (x5 : Int).toNat (⟨(rd_T39 y167 x5).f0, (rd_T39 y167 x5).f1, (rd_T39 y167 x5).f2, (rd_T39 y167 x5).f3, (rd_T39 y167 x5).f4, (rd_T39 y167 x5).f5, wrap64 ((wrap64 ((wrap64 ((wrap64 ((wrap64 ((wrap64 (x1 + 1)) + 1)) + 1)) + 1)) + 1)) + 1), (rd_T39 y167 x5).f7, (rd_T39 y167 x5).f8, (rd_T39 y167 x5).f9⟩ : S39) : List (S39))).bind fun y168 => ((laws_markText.f k (wrap64 ((wrap64 ((wrap64 ((wrap64 ((wrap64 ((wrap64 ((wrap64 (x1 + 1)) + 1)) + 1)) + 1)) + 1)) + 1)) + 1))).bind fun t169 => ((some (y168.set (x5 : Int).toNat (⟨(rd_T39 y168 x5).f0, (rd_T39 y168 x5).f1, (rd_T39 y168 x5).f2, (rd_T39 y168 x5).f3, (rd_T39 y168 x5).f4, (rd_T39 y168 x5).f5, (rd_T39 y168 x5).f6, t169, (rd_T39 y168 x5).f8, (rd_T39 y168 x5).f9⟩ : S39) : List (S39))).bind fun y170 => ((laws_markText.f k (wrap64 ((wrap64 ((wrap64 ((wrap64 ((wrap64 ((wrap64 ((wrap64 ((wrap64 (x1 + 1)) + 1)) + 1)) + 1)) + 1)) + 1)) + 1)) + 1))).bind fun t171 => ((some (y170.set (x5 : Int).toNat (⟨(rd_T39 y170 x5).f0, (rd_T39 y170 x5).f1, (rd_T39 y170 x5).f2, (rd_T39 y170 x5).f3, (rd_T39 y170 x5).f4, (rd_T39 y170 x5).f5, (rd_T39 y170 x5).f6, (rd_T39 y170 x5).f7, t171, (rd_T39 y170 x5).f9⟩ : S39) : List (S39))).bind fun y172 => ((laws_markText.f k (wrap64 ((wrap64 ((wrap64 ((wrap64 ((wrap64 ((wrap64 ((wrap64 ((wrap64 ((wrap64 (x1 + 1)) + 1)) + 1)) + 1)) + 1)) + 1)) + 1)) + 1)) + 1))).bind fun t173 => (laws_markEntryS.l0 k (y172.set (x5 : Int).toNat (⟨(rd_T39 y172 x5).f0, (rd_T39 y172 x5).f1, (rd_T39 y172 x5).f2, (rd_T39 y172 x5).f3, (rd_T39 y172 x5).f4, (rd_T39 y172 x5).f5, (rd_T39 y172 x5).f6, (rd_T39 y172 x5).f7, (rd_T39 y172 x5).f8, t173⟩ : S39)) (wrap64 ((wrap64 ((wrap64 ((wrap64 ((wrap64 ((wrap64 ((wrap64 ((wrap64 ((wrap64 ((wrap64 (x1 + 1)) + 1)) + 1)) + 1)) + 1)) + 1)) + 1)) + 1)) + 1)) + 1)) (wrap64 (x5 + 1))))))))))))))))) else (none)) else (some (x1, x0))
def laws_markEntryS.f (k : Nat) (l0 : List (S39)) (a1 : Int) : Option (Int × (List (S39))) := laws_markEntryS.l0 k l0 a1 0
theorem laws_markEntryS.mono_l : ∀ k, (∀ y0 y1 y2, LeO (laws_markEntryS.l0 k y0 y1 y2) (laws_markEntryS.l0 (k + 1) y0 y1 y2))
  | 0 => fun _ _ _ r h => by simp [laws_markEntryS.l0] at h
  | k + 1 => by
    have ih0 := laws_markEntryS.mono_l k
    · intro y0 y1 y2
      unfold laws_markEntryS.l0
      repeat' first
      | (with_reducible exact ih0 _ _ _)
      | (with_reducible exact laws_markText.mono _ _)
      | (with_reducible exact LeO.refl _)
      | (with_reducible exact LeO.none _)
      | (with_reducible refine LeO.ite ?_ ?_)
      | (with_reducible refine LeO.bind ?_ (fun _ => ?_))
      | exact ih0 _ _ _
      | exact laws_markText.mono _ _
      | exact LeO.none _
      | refine LeO.ite ?_ ?_
      | refine LeO.bind ?_ (fun _ => ?_)
theorem laws_markEntryS.mono : ∀ a0 a1 k, LeO (laws_markEntryS.f k a0 a1) (laws_markEntryS.f (k + 1) a0 a1) := by
  intro a0 a1 k
  have ih0 := laws_markEntryS.mono_l k
  unfold laws_markEntryS.f
  repeat' first
      | (with_reducible exact ih0 _ _ _)
      | (with_reducible exact laws_markText.mono _ _)
      | (with_reducible exact LeO.refl _)
      | (with_reducible exact LeO.none _)
      | (with_reducible refine LeO.ite ?_ ?_)
      | (with_reducible refine LeO.bind ?_ (fun _ => ?_))
      | exact ih0 _ _ _
      | exact laws_markText.mono _ _
      | exact LeO.none _
      | refine LeO.ite ?_ ?_
      | refine LeO.bind ?_ (fun _ => ?_)
set_option maxHeartbeats 8000000 in
set_option maxRecDepth 100000 in
theorem laws_markEntryS.calls (k : Nat) (P0_ : Nat → Prop) (u9000_ : Value) (l0 : List (S39)) (a1 : Int) (r1 : Int) (r2 : List (S39)) (w0 w : World) (hB : Below w0.heap.size w0 w) (ho0 : Kd.R k39 39 w w0.heap.size P0_ u9000_ l0) (h : laws_markEntryS.f k l0 a1 = some (r1, r2)) :
    Calls Try.prog 11 #[u9000_, .int .i64 a1] w fun e w' => e = .returned (.int .i64 r1) ∧ Kd.R k39 39 w' w0.heap.size (fun k_ => (P0_ k_ ∨ w.heap.size ≤ k_)) u9000_ r2 ∧ Below w0.heap.size w0 w' ∧ Kept w w' (fun k_ => P0_ k_) := by
  have HO0 := Aside0.mk (show Kd.R k39 39 w w0.heap.size (fun k_ => (P0_ k_ ∨ w.heap.size ≤ k_)) u9000_ l0 from Kd.R_mono ho0 (fun k_ hk => (.inl hk)))
  have HK := Aside0.mk (Kept.refl w (fun k_ => P0_ k_))
  have HW0 := Aside0.mk hB.size
  have HB := Aside0.mk hB
  clear hB
  have H : (laws_markEntryS.l0 k l0 a1 0) = some (r1, r2) := h
  clear h
  have H' := Aside0.mk H
  clear H
  go_enter Try.func11, Try.ntmps11
  go_wp2
  go_loopg [1, 5] k (fun kq v1 v5 w' => ∃ (x0_1 : List (S39)) (x1_1 : Int) (x5_1 : Int), v1 = .int .i64 x1_1 ∧ v5 = .int .i64 x5_1 ∧ Aside0 (laws_markEntryS.l0 kq x0_1 x1_1 x5_1 = some (r1, r2)) ∧ Aside0 (kq ≤ k) ∧ Aside0 (Kd.R k39 39 w' w0.heap.size (fun k_ => (P0_ k_ ∨ w.heap.size ≤ k_)) u9000_ x0_1) ∧ Aside0 (Kept w w' (fun k_ => P0_ k_)) ∧ Aside0 (Below w0.heap.size w0 w'))
  case atStart => exact ⟨(l0), (a1), (0), (by first | rfl | (simp; done) | (simp [*]; done)), (by first | rfl | (simp; done) | (simp [*]; done)), H', ⟨Nat.le_refl _⟩, ⟨by (with_reducible repeat (first | apply Kd.R_alloc | apply Kd.R_drewN | apply Kd.R_drew)); first | exact HO0.out | exact Kd.R_mono HO0.out (fun k_ h_ q_ => h_ (q_.trans (ownBlock_len _ _ _ _)))⟩, ⟨by repeat (first | (with_reducible first | exact HK.out | apply Kept.alloc | apply Kept.drewN | apply Kept.drew) | exact HK.out)⟩, ⟨by repeat (first | (with_reducible first | exact HB.out | apply below_alloc | apply pw_below_drewN | apply below_drew1) | exact HB.out)⟩⟩
  case round =>
    clear H'
    try clear c1
    try clear p2
    obtain ⟨x0_1, x1_1, x5_1, rfl, rfl, HA, HK1, HO_0, HK, HB⟩ := hrel
    cases gk with
    | zero => exact absurd HA.out (by simp [laws_markEntryS.l0])
    | succ k1 =>
      have H := HA.out
      clear HA
      simp only [laws_markEntryS.l0] at H
      by_cases c3 : x5_1 < (x0_1.length : Int)
      · rw [if_pos c3] at H
        have c3b0 : decide (x5_1 < (x0_1.length : Int)) = true := decide_eq_true c3
        clear c3
        by_cases c4 : 0 ≤ x5_1
        · rw [if_pos c4] at H
          have c4b0 : decide (0 ≤ x5_1) = true := decide_eq_true c4
          clear c4
          obtain ⟨y160, hy160⟩ : ∃ y_ : List (S39), y_ = (x0_1.set (x5_1 : Int).toNat (⟨x1_1, (rd_T39 x0_1 x5_1).f1, (rd_T39 x0_1 x5_1).f2, (rd_T39 x0_1 x5_1).f3, (rd_T39 x0_1 x5_1).f4, (rd_T39 x0_1 x5_1).f5, (rd_T39 x0_1 x5_1).f6, (rd_T39 x0_1 x5_1).f7, (rd_T39 x0_1 x5_1).f8, (rd_T39 x0_1 x5_1).f9⟩ : S39)) := ⟨_, rfl⟩
          replace H : ((laws_markText.f k1 (wrap64 (x1_1 + 1))).bind fun t161 => ((some (y160.set (x5_1 : Int).toNat (⟨(rd_T39 y160 x5_1).f0, t161, (rd_T39 y160 x5_1).f2, (rd_T39 y160 x5_1).f3, (rd_T39 y160 x5_1).f4, (rd_T39 y160 x5_1).f5, (rd_T39 y160 x5_1).f6, (rd_T39 y160 x5_1).f7, (rd_T39 y160 x5_1).f8, (rd_T39 y160 x5_1).f9⟩ : S39) : List (S39))).bind fun y162 => ((laws_markText.f k1 (wrap64 ((wrap64 (x1_1 + 1)) + 1))).bind fun t163 => ((some (y162.set (x5_1 : Int).toNat (⟨(rd_T39 y162 x5_1).f0, (rd_T39 y162 x5_1).f1, t163, (rd_T39 y162 x5_1).f3, (rd_T39 y162 x5_1).f4, (rd_T39 y162 x5_1).f5, (rd_T39 y162 x5_1).f6, (rd_T39 y162 x5_1).f7, (rd_T39 y162 x5_1).f8, (rd_T39 y162 x5_1).f9⟩ : S39) : List (S39))).bind fun y164 => ((some (y164.set (x5_1 : Int).toNat (⟨(rd_T39 y164 x5_1).f0, (rd_T39 y164 x5_1).f1, (rd_T39 y164 x5_1).f2, wrap64 ((wrap64 ((wrap64 (x1_1 + 1)) + 1)) + 1), (rd_T39 y164 x5_1).f4, (rd_T39 y164 x5_1).f5, (rd_T39 y164 x5_1).f6, (rd_T39 y164 x5_1).f7, (rd_T39 y164 x5_1).f8, (rd_T39 y164 x5_1).f9⟩ : S39) : List (S39))).bind fun y165 => ((some (y165.set (x5_1 : Int).toNat (⟨(rd_T39 y165 x5_1).f0, (rd_T39 y165 x5_1).f1, (rd_T39 y165 x5_1).f2, (rd_T39 y165 x5_1).f3, wrap64 ((wrap64 ((wrap64 ((wrap64 (x1_1 + 1)) + 1)) + 1)) + 1), (rd_T39 y165 x5_1).f5, (rd_T39 y165 x5_1).f6, (rd_T39 y165 x5_1).f7, (rd_T39 y165 x5_1).f8, (rd_T39 y165 x5_1).f9⟩ : S39) : List (S39))).bind fun y166 => ((some (y166.set (x5_1 : Int).toNat (⟨(rd_T39 y166 x5_1).f0, (rd_T39 y166 x5_1).f1, (rd_T39 y166 x5_1).f2, (rd_T39 y166 x5_1).f3, (rd_T39 y166 x5_1).f4, wrap64 ((wrap64 ((wrap64 ((wrap64 ((wrap64 (x1_1 + 1)) + 1)) + 1)) + 1)) + 1), (rd_T39 y166 x5_1).f6, (rd_T39 y166 x5_1).f7, (rd_T39 y166 x5_1).f8, (rd_T39 y166 x5_1).f9⟩ : S39) : List (S39))).bind fun y167 => ((some (y167.set (x5_1 : Int).toNat (⟨(rd_T39 y167 x5_1).f0, (rd_T39 y167 x5_1).f1, (rd_T39 y167 x5_1).f2, (rd_T39 y167 x5_1).f3, (rd_T39 y167 x5_1).f4, (rd_T39 y167 x5_1).f5, wrap64 ((wrap64 ((wrap64 ((wrap64 ((wrap64 ((wrap64 (x1_1 + 1)) + 1)) + 1)) + 1)) + 1)) + 1), (rd_T39 y167 x5_1).f7, (rd_T39 y167 x5_1).f8, (rd_T39 y167 x5_1).f9⟩ : S39) : List (S39))).bind fun y168 => ((laws_markText.f k1 (wrap64 ((wrap64 ((wrap64 ((wrap64 ((wrap64 ((wrap64 ((wrap64 (x1_1 + 1)) + 1)) + 1)) + 1)) + 1)) + 1)) + 1))).bind fun t169 => ((some (y168.set (x5_1 : Int).toNat (⟨(rd_T39 y168 x5_1).f0, (rd_T39 y168 x5_1).f1, (rd_T39 y168 x5_1).f2, (rd_T39 y168 x5_1).f3, (rd_T39 y168 x5_1).f4, (rd_T39 y168 x5_1).f5, (rd_T39 y168 x5_1).f6, t169, (rd_T39 y168 x5_1).f8, (rd_T39 y168 x5_1).f9⟩ : S39) : List (S39))).bind fun y170 => ((laws_markText.f k1 (wrap64 ((wrap64 ((wrap64 ((wrap64 ((wrap64 ((wrap64 ((wrap64 ((wrap64 (x1_1 + 1)) + 1)) + 1)) + 1)) + 1)) + 1)) + 1)) + 1))).bind fun t171 => ((some (y170.set (x5_1 : Int).toNat (⟨(rd_T39 y170 x5_1).f0, (rd_T39 y170 x5_1).f1, (rd_T39 y170 x5_1).f2, (rd_T39 y170 x5_1).f3, (rd_T39 y170 x5_1).f4, (rd_T39 y170 x5_1).f5, (rd_T39 y170 x5_1).f6, (rd_T39 y170 x5_1).f7, t171, (rd_T39 y170 x5_1).f9⟩ : S39) : List (S39))).bind fun y172 => ((laws_markText.f k1 (wrap64 ((wrap64 ((wrap64 ((wrap64 ((wrap64 ((wrap64 ((wrap64 ((wrap64 ((wrap64 (x1_1 + 1)) + 1)) + 1)) + 1)) + 1)) + 1)) + 1)) + 1)) + 1))).bind fun t173 => (laws_markEntryS.l0 k1 (y172.set (x5_1 : Int).toNat (⟨(rd_T39 y172 x5_1).f0, (rd_T39 y172 x5_1).f1, (rd_T39 y172 x5_1).f2, (rd_T39 y172 x5_1).f3, (rd_T39 y172 x5_1).f4, (rd_T39 y172 x5_1).f5, (rd_T39 y172 x5_1).f6, (rd_T39 y172 x5_1).f7, (rd_T39 y172 x5_1).f8, t173⟩ : S39)) (wrap64 ((wrap64 ((wrap64 ((wrap64 ((wrap64 ((wrap64 ((wrap64 ((wrap64 ((wrap64 ((wrap64 (x1_1 + 1)) + 1)) + 1)) + 1)) + 1)) + 1)) + 1)) + 1)) + 1)) + 1)) (wrap64 (x5_1 + 1)))))))))))))))) = some (r1, r2) := by first | (rw [hy160]; with_reducible exact H) | (have H2_ := (Option.bind_some _ _).symm.trans H; rw [hy160]; with_reducible exact H2_) | (have H2_ := (Option.bind_some _ _).symm.trans H; with_reducible exact H2_) | with_reducible exact H | (rw [hy160]; exact H) | exact H
          have Ny160 := Aside0.mk hy160
          clear hy160
          replace H := Option.bind_eq_some_iff.mp H
          obtain ⟨t161, A60, H⟩ := H
          replace H : ((some (y160.set (x5_1 : Int).toNat (⟨(rd_T39 y160 x5_1).f0, t161, (rd_T39 y160 x5_1).f2, (rd_T39 y160 x5_1).f3, (rd_T39 y160 x5_1).f4, (rd_T39 y160 x5_1).f5, (rd_T39 y160 x5_1).f6, (rd_T39 y160 x5_1).f7, (rd_T39 y160 x5_1).f8, (rd_T39 y160 x5_1).f9⟩ : S39) : List (S39))).bind fun y162 => ((laws_markText.f k1 (wrap64 ((wrap64 (x1_1 + 1)) + 1))).bind fun t163 => ((some (y162.set (x5_1 : Int).toNat (⟨(rd_T39 y162 x5_1).f0, (rd_T39 y162 x5_1).f1, t163, (rd_T39 y162 x5_1).f3, (rd_T39 y162 x5_1).f4, (rd_T39 y162 x5_1).f5, (rd_T39 y162 x5_1).f6, (rd_T39 y162 x5_1).f7, (rd_T39 y162 x5_1).f8, (rd_T39 y162 x5_1).f9⟩ : S39) : List (S39))).bind fun y164 => ((some (y164.set (x5_1 : Int).toNat (⟨(rd_T39 y164 x5_1).f0, (rd_T39 y164 x5_1).f1, (rd_T39 y164 x5_1).f2, wrap64 ((wrap64 ((wrap64 (x1_1 + 1)) + 1)) + 1), (rd_T39 y164 x5_1).f4, (rd_T39 y164 x5_1).f5, (rd_T39 y164 x5_1).f6, (rd_T39 y164 x5_1).f7, (rd_T39 y164 x5_1).f8, (rd_T39 y164 x5_1).f9⟩ : S39) : List (S39))).bind fun y165 => ((some (y165.set (x5_1 : Int).toNat (⟨(rd_T39 y165 x5_1).f0, (rd_T39 y165 x5_1).f1, (rd_T39 y165 x5_1).f2, (rd_T39 y165 x5_1).f3, wrap64 ((wrap64 ((wrap64 ((wrap64 (x1_1 + 1)) + 1)) + 1)) + 1), (rd_T39 y165 x5_1).f5, (rd_T39 y165 x5_1).f6, (rd_T39 y165 x5_1).f7, (rd_T39 y165 x5_1).f8, (rd_T39 y165 x5_1).f9⟩ : S39) : List (S39))).bind fun y166 => ((some (y166.set (x5_1 : Int).toNat (⟨(rd_T39 y166 x5_1).f0, (rd_T39 y166 x5_1).f1, (rd_T39 y166 x5_1).f2, (rd_T39 y166 x5_1).f3, (rd_T39 y166 x5_1).f4, wrap64 ((wrap64 ((wrap64 ((wrap64 ((wrap64 (x1_1 + 1)) + 1)) + 1)) + 1)) + 1), (rd_T39 y166 x5_1).f6, (rd_T39 y166 x5_1).f7, (rd_T39 y166 x5_1).f8, (rd_T39 y166 x5_1).f9⟩ : S39) : List (S39))).bind fun y167 => ((some (y167.set (x5_1 : Int).toNat (⟨(rd_T39 y167 x5_1).f0, (rd_T39 y167 x5_1).f1, (rd_T39 y167 x5_1).f2, (rd_T39 y167 x5_1).f3, (rd_T39 y167 x5_1).f4, (rd_T39 y167 x5_1).f5, wrap64 ((wrap64 ((wrap64 ((wrap64 ((wrap64 ((wrap64 (x1_1 + 1)) + 1)) + 1)) + 1)) + 1)) + 1), (rd_T39 y167 x5_1).f7, (rd_T39 y167 x5_1).f8, (rd_T39 y167 x5_1).f9⟩ : S39) : List (S39))).bind fun y168 => ((laws_markText.f k1 (wrap64 ((wrap64 ((wrap64 ((wrap64 ((wrap64 ((wrap64 ((wrap64 (x1_1 + 1)) + 1)) + 1)) + 1)) + 1)) + 1)) + 1))).bind fun t169 => ((some (y168.set (x5_1 : Int).toNat (⟨(rd_T39 y168 x5_1).f0, (rd_T39 y168 x5_1).f1, (rd_T39 y168 x5_1).f2, (rd_T39 y168 x5_1).f3, (rd_T39 y168 x5_1).f4, (rd_T39 y168 x5_1).f5, (rd_T39 y168 x5_1).f6, t169, (rd_T39 y168 x5_1).f8, (rd_T39 y168 x5_1).f9⟩ : S39) : List (S39))).bind fun y170 => ((laws_markText.f k1 (wrap64 ((wrap64 ((wrap64 ((wrap64 ((wrap64 ((wrap64 ((wrap64 ((wrap64 (x1_1 + 1)) + 1)) + 1)) + 1)) + 1)) + 1)) + 1)) + 1))).bind fun t171 => ((some (y170.set (x5_1 : Int).toNat (⟨(rd_T39 y170 x5_1).f0, (rd_T39 y170 x5_1).f1, (rd_T39 y170 x5_1).f2, (rd_T39 y170 x5_1).f3, (rd_T39 y170 x5_1).f4, (rd_T39 y170 x5_1).f5, (rd_T39 y170 x5_1).f6, (rd_T39 y170 x5_1).f7, t171, (rd_T39 y170 x5_1).f9⟩ : S39) : List (S39))).bind fun y172 => ((laws_markText.f k1 (wrap64 ((wrap64 ((wrap64 ((wrap64 ((wrap64 ((wrap64 ((wrap64 ((wrap64 ((wrap64 (x1_1 + 1)) + 1)) + 1)) + 1)) + 1)) + 1)) + 1)) + 1)) + 1))).bind fun t173 => (laws_markEntryS.l0 k1 (y172.set (x5_1 : Int).toNat (⟨(rd_T39 y172 x5_1).f0, (rd_T39 y172 x5_1).f1, (rd_T39 y172 x5_1).f2, (rd_T39 y172 x5_1).f3, (rd_T39 y172 x5_1).f4, (rd_T39 y172 x5_1).f5, (rd_T39 y172 x5_1).f6, (rd_T39 y172 x5_1).f7, (rd_T39 y172 x5_1).f8, t173⟩ : S39)) (wrap64 ((wrap64 ((wrap64 ((wrap64 ((wrap64 ((wrap64 ((wrap64 ((wrap64 ((wrap64 ((wrap64 (x1_1 + 1)) + 1)) + 1)) + 1)) + 1)) + 1)) + 1)) + 1)) + 1)) + 1)) (wrap64 (x5_1 + 1))))))))))))))) = some (r1, r2) := H
          have A6 := Aside0.mk A60
          clear A60
          obtain ⟨y162, hy162⟩ : ∃ y_ : List (S39), y_ = (y160.set (x5_1 : Int).toNat (⟨(rd_T39 y160 x5_1).f0, t161, (rd_T39 y160 x5_1).f2, (rd_T39 y160 x5_1).f3, (rd_T39 y160 x5_1).f4, (rd_T39 y160 x5_1).f5, (rd_T39 y160 x5_1).f6, (rd_T39 y160 x5_1).f7, (rd_T39 y160 x5_1).f8, (rd_T39 y160 x5_1).f9⟩ : S39)) := ⟨_, rfl⟩
          replace H : ((laws_markText.f k1 (wrap64 ((wrap64 (x1_1 + 1)) + 1))).bind fun t163 => ((some (y162.set (x5_1 : Int).toNat (⟨(rd_T39 y162 x5_1).f0, (rd_T39 y162 x5_1).f1, t163, (rd_T39 y162 x5_1).f3, (rd_T39 y162 x5_1).f4, (rd_T39 y162 x5_1).f5, (rd_T39 y162 x5_1).f6, (rd_T39 y162 x5_1).f7, (rd_T39 y162 x5_1).f8, (rd_T39 y162 x5_1).f9⟩ : S39) : List (S39))).bind fun y164 => ((some (y164.set (x5_1 : Int).toNat (⟨(rd_T39 y164 x5_1).f0, (rd_T39 y164 x5_1).f1, (rd_T39 y164 x5_1).f2, wrap64 ((wrap64 ((wrap64 (x1_1 + 1)) + 1)) + 1), (rd_T39 y164 x5_1).f4, (rd_T39 y164 x5_1).f5, (rd_T39 y164 x5_1).f6, (rd_T39 y164 x5_1).f7, (rd_T39 y164 x5_1).f8, (rd_T39 y164 x5_1).f9⟩ : S39) : List (S39))).bind fun y165 => ((some (y165.set (x5_1 : Int).toNat (⟨(rd_T39 y165 x5_1).f0, (rd_T39 y165 x5_1).f1, (rd_T39 y165 x5_1).f2, (rd_T39 y165 x5_1).f3, wrap64 ((wrap64 ((wrap64 ((wrap64 (x1_1 + 1)) + 1)) + 1)) + 1), (rd_T39 y165 x5_1).f5, (rd_T39 y165 x5_1).f6, (rd_T39 y165 x5_1).f7, (rd_T39 y165 x5_1).f8, (rd_T39 y165 x5_1).f9⟩ : S39) : List (S39))).bind fun y166 => ((some (y166.set (x5_1 : Int).toNat (⟨(rd_T39 y166 x5_1).f0, (rd_T39 y166 x5_1).f1, (rd_T39 y166 x5_1).f2, (rd_T39 y166 x5_1).f3, (rd_T39 y166 x5_1).f4, wrap64 ((wrap64 ((wrap64 ((wrap64 ((wrap64 (x1_1 + 1)) + 1)) + 1)) + 1)) + 1), (rd_T39 y166 x5_1).f6, (rd_T39 y166 x5_1).f7, (rd_T39 y166 x5_1).f8, (rd_T39 y166 x5_1).f9⟩ : S39) : List (S39))).bind fun y167 => ((some (y167.set (x5_1 : Int).toNat (⟨(rd_T39 y167 x5_1).f0, (rd_T39 y167 x5_1).f1, (rd_T39 y167 x5_1).f2, (rd_T39 y167 x5_1).f3, (rd_T39 y167 x5_1).f4, (rd_T39 y167 x5_1).f5, wrap64 ((wrap64 ((wrap64 ((wrap64 ((wrap64 ((wrap64 (x1_1 + 1)) + 1)) + 1)) + 1)) + 1)) + 1), (rd_T39 y167 x5_1).f7, (rd_T39 y167 x5_1).f8, (rd_T39 y167 x5_1).f9⟩ : S39) : List (S39))).bind fun y168 => ((laws_markText.f k1 (wrap64 ((wrap64 ((wrap64 ((wrap64 ((wrap64 ((wrap64 ((wrap64 (x1_1 + 1)) + 1)) + 1)) + 1)) + 1)) + 1)) + 1))).bind fun t169 => ((some (y168.set (x5_1 : Int).toNat (⟨(rd_T39 y168 x5_1).f0, (rd_T39 y168 x5_1).f1, (rd_T39 y168 x5_1).f2, (rd_T39 y168 x5_1).f3, (rd_T39 y168 x5_1).f4, (rd_T39 y168 x5_1).f5, (rd_T39 y168 x5_1).f6, t169, (rd_T39 y168 x5_1).f8, (rd_T39 y168 x5_1).f9⟩ : S39) : List (S39))).bind fun y170 => ((laws_markText.f k1 (wrap64 ((wrap64 ((wrap64 ((wrap64 ((wrap64 ((wrap64 ((wrap64 ((wrap64 (x1_1 + 1)) + 1)) + 1)) + 1)) + 1)) + 1)) + 1)) + 1))).bind fun t171 => ((some (y170.set (x5_1 : Int).toNat (⟨(rd_T39 y170 x5_1).f0, (rd_T39 y170 x5_1).f1, (rd_T39 y170 x5_1).f2, (rd_T39 y170 x5_1).f3, (rd_T39 y170 x5_1).f4, (rd_T39 y170 x5_1).f5, (rd_T39 y170 x5_1).f6, (rd_T39 y170 x5_1).f7, t171, (rd_T39 y170 x5_1).f9⟩ : S39) : List (S39))).bind fun y172 => ((laws_markText.f k1 (wrap64 ((wrap64 ((wrap64 ((wrap64 ((wrap64 ((wrap64 ((wrap64 ((wrap64 ((wrap64 (x1_1 + 1)) + 1)) + 1)) + 1)) + 1)) + 1)) + 1)) + 1)) + 1))).bind fun t173 => (laws_markEntryS.l0 k1 (y172.set (x5_1 : Int).toNat (⟨(rd_T39 y172 x5_1).f0, (rd_T39 y172 x5_1).f1, (rd_T39 y172 x5_1).f2, (rd_T39 y172 x5_1).f3, (rd_T39 y172 x5_1).f4, (rd_T39 y172 x5_1).f5, (rd_T39 y172 x5_1).f6, (rd_T39 y172 x5_1).f7, (rd_T39 y172 x5_1).f8, t173⟩ : S39)) (wrap64 ((wrap64 ((wrap64 ((wrap64 ((wrap64 ((wrap64 ((wrap64 ((wrap64 ((wrap64 ((wrap64 (x1_1 + 1)) + 1)) + 1)) + 1)) + 1)) + 1)) + 1)) + 1)) + 1)) + 1)) (wrap64 (x5_1 + 1)))))))))))))) = some (r1, r2) := by first | (rw [hy162]; with_reducible exact H) | (have H2_ := (Option.bind_some _ _).symm.trans H; rw [hy162]; with_reducible exact H2_) | (have H2_ := (Option.bind_some _ _).symm.trans H; with_reducible exact H2_) | with_reducible exact H | (rw [hy162]; exact H) | exact H
          have Ny162 := Aside0.mk hy162
          clear hy162
          replace H := Option.bind_eq_some_iff.mp H
          obtain ⟨t163, A80, H⟩ := H
          replace H : ((some (y162.set (x5_1 : Int).toNat (⟨(rd_T39 y162 x5_1).f0, (rd_T39 y162 x5_1).f1, t163, (rd_T39 y162 x5_1).f3, (rd_T39 y162 x5_1).f4, (rd_T39 y162 x5_1).f5, (rd_T39 y162 x5_1).f6, (rd_T39 y162 x5_1).f7, (rd_T39 y162 x5_1).f8, (rd_T39 y162 x5_1).f9⟩ : S39) : List (S39))).bind fun y164 => ((some (y164.set (x5_1 : Int).toNat (⟨(rd_T39 y164 x5_1).f0, (rd_T39 y164 x5_1).f1, (rd_T39 y164 x5_1).f2, wrap64 ((wrap64 ((wrap64 (x1_1 + 1)) + 1)) + 1), (rd_T39 y164 x5_1).f4, (rd_T39 y164 x5_1).f5, (rd_T39 y164 x5_1).f6, (rd_T39 y164 x5_1).f7, (rd_T39 y164 x5_1).f8, (rd_T39 y164 x5_1).f9⟩ : S39) : List (S39))).bind fun y165 => ((some (y165.set (x5_1 : Int).toNat (⟨(rd_T39 y165 x5_1).f0, (rd_T39 y165 x5_1).f1, (rd_T39 y165 x5_1).f2, (rd_T39 y165 x5_1).f3, wrap64 ((wrap64 ((wrap64 ((wrap64 (x1_1 + 1)) + 1)) + 1)) + 1), (rd_T39 y165 x5_1).f5, (rd_T39 y165 x5_1).f6, (rd_T39 y165 x5_1).f7, (rd_T39 y165 x5_1).f8, (rd_T39 y165 x5_1).f9⟩ : S39) : List (S39))).bind fun y166 => ((some (y166.set (x5_1 : Int).toNat (⟨(rd_T39 y166 x5_1).f0, (rd_T39 y166 x5_1).f1, (rd_T39 y166 x5_1).f2, (rd_T39 y166 x5_1).f3, (rd_T39 y166 x5_1).f4, wrap64 ((wrap64 ((wrap64 ((wrap64 ((wrap64 (x1_1 + 1)) + 1)) + 1)) + 1)) + 1), (rd_T39 y166 x5_1).f6, (rd_T39 y166 x5_1).f7, (rd_T39 y166 x5_1).f8, (rd_T39 y166 x5_1).f9⟩ : S39) : List (S39))).bind fun y167 => ((some (y167.set (x5_1 : Int).toNat (⟨(rd_T39 y167 x5_1).f0, (rd_T39 y167 x5_1).f1, (rd_T39 y167 x5_1).f2, (rd_T39 y167 x5_1).f3, (rd_T39 y167 x5_1).f4, (rd_T39 y167 x5_1).f5, wrap64 ((wrap64 ((wrap64 ((wrap64 ((wrap64 ((wrap64 (x1_1 + 1)) + 1)) + 1)) + 1)) + 1)) + 1), (rd_T39 y167 x5_1).f7, (rd_T39 y167 x5_1).f8, (rd_T39 y167 x5_1).f9⟩ : S39) : List (S39))).bind fun y168 => ((laws_markText.f k1 (wrap64 ((wrap64 ((wrap64 ((wrap64 ((wrap64 ((wrap64 ((wrap64 (x1_1 + 1)) + 1)) + 1)) + 1)) + 1)) + 1)) + 1))).bind fun t169 => ((some (y168.set (x5_1 : Int).toNat (⟨(rd_T39 y168 x5_1).f0, (rd_T39 y168 x5_1).f1, (rd_T39 y168 x5_1).f2, (rd_T39 y168 x5_1).f3, (rd_T39 y168 x5_1).f4, (rd_T39 y168 x5_1).f5, (rd_T39 y168 x5_1).f6, t169, (rd_T39 y168 x5_1).f8, (rd_T39 y168 x5_1).f9⟩ : S39) : List (S39))).bind fun y170 => ((laws_markText.f k1 (wrap64 ((wrap64 ((wrap64 ((wrap64 ((wrap64 ((wrap64 ((wrap64 ((wrap64 (x1_1 + 1)) + 1)) + 1)) + 1)) + 1)) + 1)) + 1)) + 1))).bind fun t171 => ((some (y170.set (x5_1 : Int).toNat (⟨(rd_T39 y170 x5_1).f0, (rd_T39 y170 x5_1).f1, (rd_T39 y170 x5_1).f2, (rd_T39 y170 x5_1).f3, (rd_T39 y170 x5_1).f4, (rd_T39 y170 x5_1).f5, (rd_T39 y170 x5_1).f6, (rd_T39 y170 x5_1).f7, t171, (rd_T39 y170 x5_1).f9⟩ : S39) : List (S39))).bind fun y172 => ((laws_markText.f k1 (wrap64 ((wrap64 ((wrap64 ((wrap64 ((wrap64 ((wrap64 ((wrap64 ((wrap64 ((wrap64 (x1_1 + 1)) + 1)) + 1)) + 1)) + 1)) + 1)) + 1)) + 1)) + 1))).bind fun t173 => (laws_markEntryS.l0 k1 (y172.set (x5_1 : Int).toNat (⟨(rd_T39 y172 x5_1).f0, (rd_T39 y172 x5_1).f1, (rd_T39 y172 x5_1).f2, (rd_T39 y172 x5_1).f3, (rd_T39 y172 x5_1).f4, (rd_T39 y172 x5_1).f5, (rd_T39 y172 x5_1).f6, (rd_T39 y172 x5_1).f7, (rd_T39 y172 x5_1).f8, t173⟩ : S39)) (wrap64 ((wrap64 ((wrap64 ((wrap64 ((wrap64 ((wrap64 ((wrap64 ((wrap64 ((wrap64 ((wrap64 (x1_1 + 1)) + 1)) + 1)) + 1)) + 1)) + 1)) + 1)) + 1)) + 1)) + 1)) (wrap64 (x5_1 + 1))))))))))))) = some (r1, r2) := H
          have A8 := Aside0.mk A80
          clear A80
          obtain ⟨y164, hy164⟩ : ∃ y_ : List (S39), y_ = (y162.set (x5_1 : Int).toNat (⟨(rd_T39 y162 x5_1).f0, (rd_T39 y162 x5_1).f1, t163, (rd_T39 y162 x5_1).f3, (rd_T39 y162 x5_1).f4, (rd_T39 y162 x5_1).f5, (rd_T39 y162 x5_1).f6, (rd_T39 y162 x5_1).f7, (rd_T39 y162 x5_1).f8, (rd_T39 y162 x5_1).f9⟩ : S39)) := ⟨_, rfl⟩
          replace H : ((some (y164.set (x5_1 : Int).toNat (⟨(rd_T39 y164 x5_1).f0, (rd_T39 y164 x5_1).f1, (rd_T39 y164 x5_1).f2, wrap64 ((wrap64 ((wrap64 (x1_1 + 1)) + 1)) + 1), (rd_T39 y164 x5_1).f4, (rd_T39 y164 x5_1).f5, (rd_T39 y164 x5_1).f6, (rd_T39 y164 x5_1).f7, (rd_T39 y164 x5_1).f8, (rd_T39 y164 x5_1).f9⟩ : S39) : List (S39))).bind fun y165 => ((some (y165.set (x5_1 : Int).toNat (⟨(rd_T39 y165 x5_1).f0, (rd_T39 y165 x5_1).f1, (rd_T39 y165 x5_1).f2, (rd_T39 y165 x5_1).f3, wrap64 ((wrap64 ((wrap64 ((wrap64 (x1_1 + 1)) + 1)) + 1)) + 1), (rd_T39 y165 x5_1).f5, (rd_T39 y165 x5_1).f6, (rd_T39 y165 x5_1).f7, (rd_T39 y165 x5_1).f8, (rd_T39 y165 x5_1).f9⟩ : S39) : List (S39))).bind fun y166 => ((some (y166.set (x5_1 : Int).toNat (⟨(rd_T39 y166 x5_1).f0, (rd_T39 y166 x5_1).f1, (rd_T39 y166 x5_1).f2, (rd_T39 y166 x5_1).f3, (rd_T39 y166 x5_1).f4, wrap64 ((wrap64 ((wrap64 ((wrap64 ((wrap64 (x1_1 + 1)) + 1)) + 1)) + 1)) + 1), (rd_T39 y166 x5_1).f6, (rd_T39 y166 x5_1).f7, (rd_T39 y166 x5_1).f8, (rd_T39 y166 x5_1).f9⟩ : S39) : List (S39))).bind fun y167 => ((some (y167.set (x5_1 : Int).toNat (⟨(rd_T39 y167 x5_1).f0, (rd_T39 y167 x5_1).f1, (rd_T39 y167 x5_1).f2, (rd_T39 y167 x5_1).f3, (rd_T39 y167 x5_1).f4, (rd_T39 y167 x5_1).f5, wrap64 ((wrap64 ((wrap64 ((wrap64 ((wrap64 ((wrap64 (x1_1 + 1)) + 1)) + 1)) + 1)) + 1)) + 1), (rd_T39 y167 x5_1).f7, (rd_T39 y167 x5_1).f8, (rd_T39 y167 x5_1).f9⟩ : S39) : List (S39))).bind fun y168 => ((laws_markText.f k1 (wrap64 ((wrap64 ((wrap64 ((wrap64 ((wrap64 ((wrap64 ((wrap64 (x1_1 + 1)) + 1)) + 1)) + 1)) + 1)) + 1)) + 1))).bind fun t169 => ((some (y168.set (x5_1 : Int).toNat (⟨(rd_T39 y168 x5_1).f0, (rd_T39 y168 x5_1).f1, (rd_T39 y168 x5_1).f2, (rd_T39 y168 x5_1).f3, (rd_T39 y168 x5_1).f4, (rd_T39 y168 x5_1).f5, (rd_T39 y168 x5_1).f6, t169, (rd_T39 y168 x5_1).f8, (rd_T39 y168 x5_1).f9⟩ : S39) : List (S39))).bind fun y170 => ((laws_markText.f k1 (wrap64 ((wrap64 ((wrap64 ((wrap64 ((wrap64 ((wrap64 ((wrap64 ((wrap64 (x1_1 + 1)) + 1)) + 1)) + 1)) + 1)) + 1)) + 1)) + 1))).bind fun t171 => ((some (y170.set (x5_1 : Int).toNat (⟨(rd_T39 y170 x5_1).f0, (rd_T39 y170 x5_1).f1, (rd_T39 y170 x5_1).f2, (rd_T39 y170 x5_1).f3, (rd_T39 y170 x5_1).f4, (rd_T39 y170 x5_1).f5, (rd_T39 y170 x5_1).f6, (rd_T39 y170 x5_1).f7, t171, (rd_T39 y170 x5_1).f9⟩ : S39) : List (S39))).bind fun y172 => ((laws_markText.f k1 (wrap64 ((wrap64 ((wrap64 ((wrap64 ((wrap64 ((wrap64 ((wrap64 ((wrap64 ((wrap64 (x1_1 + 1)) + 1)) + 1)) + 1)) + 1)) + 1)) + 1)) + 1)) + 1))).bind fun t173 => (laws_markEntryS.l0 k1 (y172.set (x5_1 : Int).toNat (⟨(rd_T39 y172 x5_1).f0, (rd_T39 y172 x5_1).f1, (rd_T39 y172 x5_1).f2, (rd_T39 y172 x5_1).f3, (rd_T39 y172 x5_1).f4, (rd_T39 y172 x5_1).f5, (rd_T39 y172 x5_1).f6, (rd_T39 y172 x5_1).f7, (rd_T39 y172 x5_1).f8, t173⟩ : S39)) (wrap64 ((wrap64 ((wrap64 ((wrap64 ((wrap64 ((wrap64 ((wrap64 ((wrap64 ((wrap64 ((wrap64 (x1_1 + 1)) + 1)) + 1)) + 1)) + 1)) + 1)) + 1)) + 1)) + 1)) + 1)) (wrap64 (x5_1 + 1)))))))))))) = some (r1, r2) := by first | (rw [hy164]; with_reducible exact H) | (have H2_ := (Option.bind_some _ _).symm.trans H; rw [hy164]; with_reducible exact H2_) | (have H2_ := (Option.bind_some _ _).symm.trans H; with_reducible exact H2_) | with_reducible exact H | (rw [hy164]; exact H) | exact H
          have Ny164 := Aside0.mk hy164
          clear hy164
          obtain ⟨y165, hy165⟩ : ∃ y_ : List (S39), y_ = (y164.set (x5_1 : Int).toNat (⟨(rd_T39 y164 x5_1).f0, (rd_T39 y164 x5_1).f1, (rd_T39 y164 x5_1).f2, wrap64 ((wrap64 ((wrap64 (x1_1 + 1)) + 1)) + 1), (rd_T39 y164 x5_1).f4, (rd_T39 y164 x5_1).f5, (rd_T39 y164 x5_1).f6, (rd_T39 y164 x5_1).f7, (rd_T39 y164 x5_1).f8, (rd_T39 y164 x5_1).f9⟩ : S39)) := ⟨_, rfl⟩
          replace H : ((some (y165.set (x5_1 : Int).toNat (⟨(rd_T39 y165 x5_1).f0, (rd_T39 y165 x5_1).f1, (rd_T39 y165 x5_1).f2, (rd_T39 y165 x5_1).f3, wrap64 ((wrap64 ((wrap64 ((wrap64 (x1_1 + 1)) + 1)) + 1)) + 1), (rd_T39 y165 x5_1).f5, (rd_T39 y165 x5_1).f6, (rd_T39 y165 x5_1).f7, (rd_T39 y165 x5_1).f8, (rd_T39 y165 x5_1).f9⟩ : S39) : List (S39))).bind fun y166 => ((some (y166.set (x5_1 : Int).toNat (⟨(rd_T39 y166 x5_1).f0, (rd_T39 y166 x5_1).f1, (rd_T39 y166 x5_1).f2, (rd_T39 y166 x5_1).f3, (rd_T39 y166 x5_1).f4, wrap64 ((wrap64 ((wrap64 ((wrap64 ((wrap64 (x1_1 + 1)) + 1)) + 1)) + 1)) + 1), (rd_T39 y166 x5_1).f6, (rd_T39 y166 x5_1).f7, (rd_T39 y166 x5_1).f8, (rd_T39 y166 x5_1).f9⟩ : S39) : List (S39))).bind fun y167 => ((some (y167.set (x5_1 : Int).toNat (⟨(rd_T39 y167 x5_1).f0, (rd_T39 y167 x5_1).f1, (rd_T39 y167 x5_1).f2, (rd_T39 y167 x5_1).f3, (rd_T39 y167 x5_1).f4, (rd_T39 y167 x5_1).f5, wrap64 ((wrap64 ((wrap64 ((wrap64 ((wrap64 ((wrap64 (x1_1 + 1)) + 1)) + 1)) + 1)) + 1)) + 1), (rd_T39 y167 x5_1).f7, (rd_T39 y167 x5_1).f8, (rd_T39 y167 x5_1).f9⟩ : S39) : List (S39))).bind fun y168 => ((laws_markText.f k1 (wrap64 ((wrap64 ((wrap64 ((wrap64 ((wrap64 ((wrap64 ((wrap64 (x1_1 + 1)) + 1)) + 1)) + 1)) + 1)) + 1)) + 1))).bind fun t169 => ((some (y168.set (x5_1 : Int).toNat (⟨(rd_T39 y168 x5_1).f0, (rd_T39 y168 x5_1).f1, (rd_T39 y168 x5_1).f2, (rd_T39 y168 x5_1).f3, (rd_T39 y168 x5_1).f4, (rd_T39 y168 x5_1).f5, (rd_T39 y168 x5_1).f6, t169, (rd_T39 y168 x5_1).f8, (rd_T39 y168 x5_1).f9⟩ : S39) : List (S39))).bind fun y170 => ((laws_markText.f k1 (wrap64 ((wrap64 ((wrap64 ((wrap64 ((wrap64 ((wrap64 ((wrap64 ((wrap64 (x1_1 + 1)) + 1)) + 1)) + 1)) + 1)) + 1)) + 1)) + 1))).bind fun t171 => ((some (y170.set (x5_1 : Int).toNat (⟨(rd_T39 y170 x5_1).f0, (rd_T39 y170 x5_1).f1, (rd_T39 y170 x5_1).f2, (rd_T39 y170 x5_1).f3, (rd_T39 y170 x5_1).f4, (rd_T39 y170 x5_1).f5, (rd_T39 y170 x5_1).f6, (rd_T39 y170 x5_1).f7, t171, (rd_T39 y170 x5_1).f9⟩ : S39) : List (S39))).bind fun y172 => ((laws_markText.f k1 (wrap64 ((wrap64 ((wrap64 ((wrap64 ((wrap64 ((wrap64 ((wrap64 ((wrap64 ((wrap64 (x1_1 + 1)) + 1)) + 1)) + 1)) + 1)) + 1)) + 1)) + 1)) + 1))).bind fun t173 => (laws_markEntryS.l0 k1 (y172.set (x5_1 : Int).toNat (⟨(rd_T39 y172 x5_1).f0, (rd_T39 y172 x5_1).f1, (rd_T39 y172 x5_1).f2, (rd_T39 y172 x5_1).f3, (rd_T39 y172 x5_1).f4, (rd_T39 y172 x5_1).f5, (rd_T39 y172 x5_1).f6, (rd_T39 y172 x5_1).f7, (rd_T39 y172 x5_1).f8, t173⟩ : S39)) (wrap64 ((wrap64 ((wrap64 ((wrap64 ((wrap64 ((wrap64 ((wrap64 ((wrap64 ((wrap64 ((wrap64 (x1_1 + 1)) + 1)) + 1)) + 1)) + 1)) + 1)) + 1)) + 1)) + 1)) + 1)) (wrap64 (x5_1 + 1))))))))))) = some (r1, r2) := by first | (rw [hy165]; with_reducible exact H) | (have H2_ := (Option.bind_some _ _).symm.trans H; rw [hy165]; with_reducible exact H2_) | (have H2_ := (Option.bind_some _ _).symm.trans H; with_reducible exact H2_) | with_reducible exact H | (rw [hy165]; exact H) | exact H
          have Ny165 := Aside0.mk hy165
          clear hy165
          obtain ⟨y166, hy166⟩ : ∃ y_ : List (S39), y_ = (y165.set (x5_1 : Int).toNat (⟨(rd_T39 y165 x5_1).f0, (rd_T39 y165 x5_1).f1, (rd_T39 y165 x5_1).f2, (rd_T39 y165 x5_1).f3, wrap64 ((wrap64 ((wrap64 ((wrap64 (x1_1 + 1)) + 1)) + 1)) + 1), (rd_T39 y165 x5_1).f5, (rd_T39 y165 x5_1).f6, (rd_T39 y165 x5_1).f7, (rd_T39 y165 x5_1).f8, (rd_T39 y165 x5_1).f9⟩ : S39)) := ⟨_, rfl⟩
          replace H : ((some (y166.set (x5_1 : Int).toNat (⟨(rd_T39 y166 x5_1).f0, (rd_T39 y166 x5_1).f1, (rd_T39 y166 x5_1).f2, (rd_T39 y166 x5_1).f3, (rd_T39 y166 x5_1).f4, wrap64 ((wrap64 ((wrap64 ((wrap64 ((wrap64 (x1_1 + 1)) + 1)) + 1)) + 1)) + 1), (rd_T39 y166 x5_1).f6, (rd_T39 y166 x5_1).f7, (rd_T39 y166 x5_1).f8, (rd_T39 y166 x5_1).f9⟩ : S39) : List (S39))).bind fun y167 => ((some (y167.set (x5_1 : Int).toNat (⟨(rd_T39 y167 x5_1).f0, (rd_T39 y167 x5_1).f1, (rd_T39 y167 x5_1).f2, (rd_T39 y167 x5_1).f3, (rd_T39 y167 x5_1).f4, (rd_T39 y167 x5_1).f5, wrap64 ((wrap64 ((wrap64 ((wrap64 ((wrap64 ((wrap64 (x1_1 + 1)) + 1)) + 1)) + 1)) + 1)) + 1), (rd_T39 y167 x5_1).f7, (rd_T39 y167 x5_1).f8, (rd_T39 y167 x5_1).f9⟩ : S39) : List (S39))).bind fun y168 => ((laws_markText.f k1 (wrap64 ((wrap64 ((wrap64 ((wrap64 ((wrap64 ((wrap64 ((wrap64 (x1_1 + 1)) + 1)) + 1)) + 1)) + 1)) + 1)) + 1))).bind fun t169 => ((some (y168.set (x5_1 : Int).toNat (⟨(rd_T39 y168 x5_1).f0, (rd_T39 y168 x5_1).f1, (rd_T39 y168 x5_1).f2, (rd_T39 y168 x5_1).f3, (rd_T39 y168 x5_1).f4, (rd_T39 y168 x5_1).f5, (rd_T39 y168 x5_1).f6, t169, (rd_T39 y168 x5_1).f8, (rd_T39 y168 x5_1).f9⟩ : S39) : List (S39))).bind fun y170 => ((laws_markText.f k1 (wrap64 ((wrap64 ((wrap64 ((wrap64 ((wrap64 ((wrap64 ((wrap64 ((wrap64 (x1_1 + 1)) + 1)) + 1)) + 1)) + 1)) + 1)) + 1)) + 1))).bind fun t171 => ((some (y170.set (x5_1 : Int).toNat (⟨(rd_T39 y170 x5_1).f0, (rd_T39 y170 x5_1).f1, (rd_T39 y170 x5_1).f2, (rd_T39 y170 x5_1).f3, (rd_T39 y170 x5_1).f4, (rd_T39 y170 x5_1).f5, (rd_T39 y170 x5_1).f6, (rd_T39 y170 x5_1).f7, t171, (rd_T39 y170 x5_1).f9⟩ : S39) : List (S39))).bind fun y172 => ((laws_markText.f k1 (wrap64 ((wrap64 ((wrap64 ((wrap64 ((wrap64 ((wrap64 ((wrap64 ((wrap64 ((wrap64 (x1_1 + 1)) + 1)) + 1)) + 1)) + 1)) + 1)) + 1)) + 1)) + 1))).bind fun t173 => (laws_markEntryS.l0 k1 (y172.set (x5_1 : Int).toNat (⟨(rd_T39 y172 x5_1).f0, (rd_T39 y172 x5_1).f1, (rd_T39 y172 x5_1).f2, (rd_T39 y172 x5_1).f3, (rd_T39 y172 x5_1).f4, (rd_T39 y172 x5_1).f5, (rd_T39 y172 x5_1).f6, (rd_T39 y172 x5_1).f7, (rd_T39 y172 x5_1).f8, t173⟩ : S39)) (wrap64 ((wrap64 ((wrap64 ((wrap64 ((wrap64 ((wrap64 ((wrap64 ((wrap64 ((wrap64 ((wrap64 (x1_1 + 1)) + 1)) + 1)) + 1)) + 1)) + 1)) + 1)) + 1)) + 1)) + 1)) (wrap64 (x5_1 + 1)))))))))) = some (r1, r2) := by first | (rw [hy166]; with_reducible exact H) | (have H2_ := (Option.bind_some _ _).symm.trans H; rw [hy166]; with_reducible exact H2_) | (have H2_ := (Option.bind_some _ _).symm.trans H; with_reducible exact H2_) | with_reducible exact H | (rw [hy166]; exact H) | exact H
          have Ny166 := Aside0.mk hy166
          clear hy166
          obtain ⟨y167, hy167⟩ : ∃ y_ : List (S39), y_ = (y166.set (x5_1 : Int).toNat (⟨(rd_T39 y166 x5_1).f0, (rd_T39 y166 x5_1).f1, (rd_T39 y166 x5_1).f2, (rd_T39 y166 x5_1).f3, (rd_T39 y166 x5_1).f4, wrap64 ((wrap64 ((wrap64 ((wrap64 ((wrap64 (x1_1 + 1)) + 1)) + 1)) + 1)) + 1), (rd_T39 y166 x5_1).f6, (rd_T39 y166 x5_1).f7, (rd_T39 y166 x5_1).f8, (rd_T39 y166 x5_1).f9⟩ : S39)) := ⟨_, rfl⟩
          replace H : ((some (y167.set (x5_1 : Int).toNat (⟨(rd_T39 y167 x5_1).f0, (rd_T39 y167 x5_1).f1, (rd_T39 y167 x5_1).f2, (rd_T39 y167 x5_1).f3, (rd_T39 y167 x5_1).f4, (rd_T39 y167 x5_1).f5, wrap64 ((wrap64 ((wrap64 ((wrap64 ((wrap64 ((wrap64 (x1_1 + 1)) + 1)) + 1)) + 1)) + 1)) + 1), (rd_T39 y167 x5_1).f7, (rd_T39 y167 x5_1).f8, (rd_T39 y167 x5_1).f9⟩ : S39) : List (S39))).bind fun y168 => ((laws_markText.f k1 (wrap64 ((wrap64 ((wrap64 ((wrap64 ((wrap64 ((wrap64 ((wrap64 (x1_1 + 1)) + 1)) + 1)) + 1)) + 1)) + 1)) + 1))).bind fun t169 => ((some (y168.set (x5_1 : Int).toNat (⟨(rd_T39 y168 x5_1).f0, (rd_T39 y168 x5_1).f1, (rd_T39 y168 x5_1).f2, (rd_T39 y168 x5_1).f3, (rd_T39 y168 x5_1).f4, (rd_T39 y168 x5_1).f5, (rd_T39 y168 x5_1).f6, t169, (rd_T39 y168 x5_1).f8, (rd_T39 y168 x5_1).f9⟩ : S39) : List (S39))).bind fun y170 => ((laws_markText.f k1 (wrap64 ((wrap64 ((wrap64 ((wrap64 ((wrap64 ((wrap64 ((wrap64 ((wrap64 (x1_1 + 1)) + 1)) + 1)) + 1)) + 1)) + 1)) + 1)) + 1))).bind fun t171 => ((some (y170.set (x5_1 : Int).toNat (⟨(rd_T39 y170 x5_1).f0, (rd_T39 y170 x5_1).f1, (rd_T39 y170 x5_1).f2, (rd_T39 y170 x5_1).f3, (rd_T39 y170 x5_1).f4, (rd_T39 y170 x5_1).f5, (rd_T39 y170 x5_1).f6, (rd_T39 y170 x5_1).f7, t171, (rd_T39 y170 x5_1).f9⟩ : S39) : List (S39))).bind fun y172 => ((laws_markText.f k1 (wrap64 ((wrap64 ((wrap64 ((wrap64 ((wrap64 ((wrap64 ((wrap64 ((wrap64 ((wrap64 (x1_1 + 1)) + 1)) + 1)) + 1)) + 1)) + 1)) + 1)) + 1)) + 1))).bind fun t173 => (laws_markEntryS.l0 k1 (y172.set (x5_1 : Int).toNat (⟨(rd_T39 y172 x5_1).f0, (rd_T39 y172 x5_1).f1, (rd_T39 y172 x5_1).f2, (rd_T39 y172 x5_1).f3, (rd_T39 y172 x5_1).f4, (rd_T39 y172 x5_1).f5, (rd_T39 y172 x5_1).f6, (rd_T39 y172 x5_1).f7, (rd_T39 y172 x5_1).f8, t173⟩ : S39)) (wrap64 ((wrap64 ((wrap64 ((wrap64 ((wrap64 ((wrap64 ((wrap64 ((wrap64 ((wrap64 ((wrap64 (x1_1 + 1)) + 1)) + 1)) + 1)) + 1)) + 1)) + 1)) + 1)) + 1)) + 1)) (wrap64 (x5_1 + 1))))))))) = some (r1, r2) := by first | (rw [hy167]; with_reducible exact H) | (have H2_ := (Option.bind_some _ _).symm.trans H; rw [hy167]; with_reducible exact H2_) | (have H2_ := (Option.bind_some _ _).symm.trans H; with_reducible exact H2_) | with_reducible exact H | (rw [hy167]; exact H) | exact H
          have Ny167 := Aside0.mk hy167
          clear hy167
          obtain ⟨y168, hy168⟩ : ∃ y_ : List (S39), y_ = (y167.set (x5_1 : Int).toNat (⟨(rd_T39 y167 x5_1).f0, (rd_T39 y167 x5_1).f1, (rd_T39 y167 x5_1).f2, (rd_T39 y167 x5_1).f3, (rd_T39 y167 x5_1).f4, (rd_T39 y167 x5_1).f5, wrap64 ((wrap64 ((wrap64 ((wrap64 ((wrap64 ((wrap64 (x1_1 + 1)) + 1)) + 1)) + 1)) + 1)) + 1), (rd_T39 y167 x5_1).f7, (rd_T39 y167 x5_1).f8, (rd_T39 y167 x5_1).f9⟩ : S39)) := ⟨_, rfl⟩
          replace H : ((laws_markText.f k1 (wrap64 ((wrap64 ((wrap64 ((wrap64 ((wrap64 ((wrap64 ((wrap64 (x1_1 + 1)) + 1)) + 1)) + 1)) + 1)) + 1)) + 1))).bind fun t169 => ((some (y168.set (x5_1 : Int).toNat (⟨(rd_T39 y168 x5_1).f0, (rd_T39 y168 x5_1).f1, (rd_T39 y168 x5_1).f2, (rd_T39 y168 x5_1).f3, (rd_T39 y168 x5_1).f4, (rd_T39 y168 x5_1).f5, (rd_T39 y168 x5_1).f6, t169, (rd_T39 y168 x5_1).f8, (rd_T39 y168 x5_1).f9⟩ : S39) : List (S39))).bind fun y170 => ((laws_markText.f k1 (wrap64 ((wrap64 ((wrap64 ((wrap64 ((wrap64 ((wrap64 ((wrap64 ((wrap64 (x1_1 + 1)) + 1)) + 1)) + 1)) + 1)) + 1)) + 1)) + 1))).bind fun t171 => ((some (y170.set (x5_1 : Int).toNat (⟨(rd_T39 y170 x5_1).f0, (rd_T39 y170 x5_1).f1, (rd_T39 y170 x5_1).f2, (rd_T39 y170 x5_1).f3, (rd_T39 y170 x5_1).f4, (rd_T39 y170 x5_1).f5, (rd_T39 y170 x5_1).f6, (rd_T39 y170 x5_1).f7, t171, (rd_T39 y170 x5_1).f9⟩ : S39) : List (S39))).bind fun y172 => ((laws_markText.f k1 (wrap64 ((wrap64 ((wrap64 ((wrap64 ((wrap64 ((wrap64 ((wrap64 ((wrap64 ((wrap64 (x1_1 + 1)) + 1)) + 1)) + 1)) + 1)) + 1)) + 1)) + 1)) + 1))).bind fun t173 => (laws_markEntryS.l0 k1 (y172.set (x5_1 : Int).toNat (⟨(rd_T39 y172 x5_1).f0, (rd_T39 y172 x5_1).f1, (rd_T39 y172 x5_1).f2, (rd_T39 y172 x5_1).f3, (rd_T39 y172 x5_1).f4, (rd_T39 y172 x5_1).f5, (rd_T39 y172 x5_1).f6, (rd_T39 y172 x5_1).f7, (rd_T39 y172 x5_1).f8, t173⟩ : S39)) (wrap64 ((wrap64 ((wrap64 ((wrap64 ((wrap64 ((wrap64 ((wrap64 ((wrap64 ((wrap64 ((wrap64 (x1_1 + 1)) + 1)) + 1)) + 1)) + 1)) + 1)) + 1)) + 1)) + 1)) + 1)) (wrap64 (x5_1 + 1)))))))) = some (r1, r2) := by first | (rw [hy168]; with_reducible exact H) | (have H2_ := (Option.bind_some _ _).symm.trans H; rw [hy168]; with_reducible exact H2_) | (have H2_ := (Option.bind_some _ _).symm.trans H; with_reducible exact H2_) | with_reducible exact H | (rw [hy168]; exact H) | exact H
          have Ny168 := Aside0.mk hy168
          clear hy168
          replace H := Option.bind_eq_some_iff.mp H
          obtain ⟨t169, A140, H⟩ := H
          replace H : ((some (y168.set (x5_1 : Int).toNat (⟨(rd_T39 y168 x5_1).f0, (rd_T39 y168 x5_1).f1, (rd_T39 y168 x5_1).f2, (rd_T39 y168 x5_1).f3, (rd_T39 y168 x5_1).f4, (rd_T39 y168 x5_1).f5, (rd_T39 y168 x5_1).f6, t169, (rd_T39 y168 x5_1).f8, (rd_T39 y168 x5_1).f9⟩ : S39) : List (S39))).bind fun y170 => ((laws_markText.f k1 (wrap64 ((wrap64 ((wrap64 ((wrap64 ((wrap64 ((wrap64 ((wrap64 ((wrap64 (x1_1 + 1)) + 1)) + 1)) + 1)) + 1)) + 1)) + 1)) + 1))).bind fun t171 => ((some (y170.set (x5_1 : Int).toNat (⟨(rd_T39 y170 x5_1).f0, (rd_T39 y170 x5_1).f1, (rd_T39 y170 x5_1).f2, (rd_T39 y170 x5_1).f3, (rd_T39 y170 x5_1).f4, (rd_T39 y170 x5_1).f5, (rd_T39 y170 x5_1).f6, (rd_T39 y170 x5_1).f7, t171, (rd_T39 y170 x5_1).f9⟩ : S39) : List (S39))).bind fun y172 => ((laws_markText.f k1 (wrap64 ((wrap64 ((wrap64 ((wrap64 ((wrap64 ((wrap64 ((wrap64 ((wrap64 ((wrap64 (x1_1 + 1)) + 1)) + 1)) + 1)) + 1)) + 1)) + 1)) + 1)) + 1))).bind fun t173 => (laws_markEntryS.l0 k1 (y172.set (x5_1 : Int).toNat (⟨(rd_T39 y172 x5_1).f0, (rd_T39 y172 x5_1).f1, (rd_T39 y172 x5_1).f2, (rd_T39 y172 x5_1).f3, (rd_T39 y172 x5_1).f4, (rd_T39 y172 x5_1).f5, (rd_T39 y172 x5_1).f6, (rd_T39 y172 x5_1).f7, (rd_T39 y172 x5_1).f8, t173⟩ : S39)) (wrap64 ((wrap64 ((wrap64 ((wrap64 ((wrap64 ((wrap64 ((wrap64 ((wrap64 ((wrap64 ((wrap64 (x1_1 + 1)) + 1)) + 1)) + 1)) + 1)) + 1)) + 1)) + 1)) + 1)) + 1)) (wrap64 (x5_1 + 1))))))) = some (r1, r2) := H
          have A14 := Aside0.mk A140
          clear A140
          obtain ⟨y170, hy170⟩ : ∃ y_ : List (S39), y_ = (y168.set (x5_1 : Int).toNat (⟨(rd_T39 y168 x5_1).f0, (rd_T39 y168 x5_1).f1, (rd_T39 y168 x5_1).f2, (rd_T39 y168 x5_1).f3, (rd_T39 y168 x5_1).f4, (rd_T39 y168 x5_1).f5, (rd_T39 y168 x5_1).f6, t169, (rd_T39 y168 x5_1).f8, (rd_T39 y168 x5_1).f9⟩ : S39)) := ⟨_, rfl⟩
          replace H : ((laws_markText.f k1 (wrap64 ((wrap64 ((wrap64 ((wrap64 ((wrap64 ((wrap64 ((wrap64 ((wrap64 (x1_1 + 1)) + 1)) + 1)) + 1)) + 1)) + 1)) + 1)) + 1))).bind fun t171 => ((some (y170.set (x5_1 : Int).toNat (⟨(rd_T39 y170 x5_1).f0, (rd_T39 y170 x5_1).f1, (rd_T39 y170 x5_1).f2, (rd_T39 y170 x5_1).f3, (rd_T39 y170 x5_1).f4, (rd_T39 y170 x5_1).f5, (rd_T39 y170 x5_1).f6, (rd_T39 y170 x5_1).f7, t171, (rd_T39 y170 x5_1).f9⟩ : S39) : List (S39))).bind fun y172 => ((laws_markText.f k1 (wrap64 ((wrap64 ((wrap64 ((wrap64 ((wrap64 ((wrap64 ((wrap64 ((wrap64 ((wrap64 (x1_1 + 1)) + 1)) + 1)) + 1)) + 1)) + 1)) + 1)) + 1)) + 1))).bind fun t173 => (laws_markEntryS.l0 k1 (y172.set (x5_1 : Int).toNat (⟨(rd_T39 y172 x5_1).f0, (rd_T39 y172 x5_1).f1, (rd_T39 y172 x5_1).f2, (rd_T39 y172 x5_1).f3, (rd_T39 y172 x5_1).f4, (rd_T39 y172 x5_1).f5, (rd_T39 y172 x5_1).f6, (rd_T39 y172 x5_1).f7, (rd_T39 y172 x5_1).f8, t173⟩ : S39)) (wrap64 ((wrap64 ((wrap64 ((wrap64 ((wrap64 ((wrap64 ((wrap64 ((wrap64 ((wrap64 ((wrap64 (x1_1 + 1)) + 1)) + 1)) + 1)) + 1)) + 1)) + 1)) + 1)) + 1)) + 1)) (wrap64 (x5_1 + 1)))))) = some (r1, r2) := by first | (rw [hy170]; with_reducible exact H) | (have H2_ := (Option.bind_some _ _).symm.trans H; rw [hy170]; with_reducible exact H2_) | (have H2_ := (Option.bind_some _ _).symm.trans H; with_reducible exact H2_) | with_reducible exact H | (rw [hy170]; exact H) | exact H
          have Ny170 := Aside0.mk hy170
          clear hy170
          replace H := Option.bind_eq_some_iff.mp H
          obtain ⟨t171, A160, H⟩ := H
          replace H : ((some (y170.set (x5_1 : Int).toNat (⟨(rd_T39 y170 x5_1).f0, (rd_T39 y170 x5_1).f1, (rd_T39 y170 x5_1).f2, (rd_T39 y170 x5_1).f3, (rd_T39 y170 x5_1).f4, (rd_T39 y170 x5_1).f5, (rd_T39 y170 x5_1).f6, (rd_T39 y170 x5_1).f7, t171, (rd_T39 y170 x5_1).f9⟩ : S39) : List (S39))).bind fun y172 => ((laws_markText.f k1 (wrap64 ((wrap64 ((wrap64 ((wrap64 ((wrap64 ((wrap64 ((wrap64 ((wrap64 ((wrap64 (x1_1 + 1)) + 1)) + 1)) + 1)) + 1)) + 1)) + 1)) + 1)) + 1))).bind fun t173 => (laws_markEntryS.l0 k1 (y172.set (x5_1 : Int).toNat (⟨(rd_T39 y172 x5_1).f0, (rd_T39 y172 x5_1).f1, (rd_T39 y172 x5_1).f2, (rd_T39 y172 x5_1).f3, (rd_T39 y172 x5_1).f4, (rd_T39 y172 x5_1).f5, (rd_T39 y172 x5_1).f6, (rd_T39 y172 x5_1).f7, (rd_T39 y172 x5_1).f8, t173⟩ : S39)) (wrap64 ((wrap64 ((wrap64 ((wrap64 ((wrap64 ((wrap64 ((wrap64 ((wrap64 ((wrap64 ((wrap64 (x1_1 + 1)) + 1)) + 1)) + 1)) + 1)) + 1)) + 1)) + 1)) + 1)) + 1)) (wrap64 (x5_1 + 1))))) = some (r1, r2) := H
          have A16 := Aside0.mk A160
          clear A160
          obtain ⟨y172, hy172⟩ : ∃ y_ : List (S39), y_ = (y170.set (x5_1 : Int).toNat (⟨(rd_T39 y170 x5_1).f0, (rd_T39 y170 x5_1).f1, (rd_T39 y170 x5_1).f2, (rd_T39 y170 x5_1).f3, (rd_T39 y170 x5_1).f4, (rd_T39 y170 x5_1).f5, (rd_T39 y170 x5_1).f6, (rd_T39 y170 x5_1).f7, t171, (rd_T39 y170 x5_1).f9⟩ : S39)) := ⟨_, rfl⟩
          replace H : ((laws_markText.f k1 (wrap64 ((wrap64 ((wrap64 ((wrap64 ((wrap64 ((wrap64 ((wrap64 ((wrap64 ((wrap64 (x1_1 + 1)) + 1)) + 1)) + 1)) + 1)) + 1)) + 1)) + 1)) + 1))).bind fun t173 => (laws_markEntryS.l0 k1 (y172.set (x5_1 : Int).toNat (⟨(rd_T39 y172 x5_1).f0, (rd_T39 y172 x5_1).f1, (rd_T39 y172 x5_1).f2, (rd_T39 y172 x5_1).f3, (rd_T39 y172 x5_1).f4, (rd_T39 y172 x5_1).f5, (rd_T39 y172 x5_1).f6, (rd_T39 y172 x5_1).f7, (rd_T39 y172 x5_1).f8, t173⟩ : S39)) (wrap64 ((wrap64 ((wrap64 ((wrap64 ((wrap64 ((wrap64 ((wrap64 ((wrap64 ((wrap64 ((wrap64 (x1_1 + 1)) + 1)) + 1)) + 1)) + 1)) + 1)) + 1)) + 1)) + 1)) + 1)) (wrap64 (x5_1 + 1)))) = some (r1, r2) := by first | (rw [hy172]; with_reducible exact H) | (have H2_ := (Option.bind_some _ _).symm.trans H; rw [hy172]; with_reducible exact H2_) | (have H2_ := (Option.bind_some _ _).symm.trans H; with_reducible exact H2_) | with_reducible exact H | (rw [hy172]; exact H) | exact H
          have Ny172 := Aside0.mk hy172
          clear hy172
          replace H := Option.bind_eq_some_iff.mp H
          obtain ⟨t173, A180, H⟩ := H
          replace H : (laws_markEntryS.l0 k1 (y172.set (x5_1 : Int).toNat (⟨(rd_T39 y172 x5_1).f0, (rd_T39 y172 x5_1).f1, (rd_T39 y172 x5_1).f2, (rd_T39 y172 x5_1).f3, (rd_T39 y172 x5_1).f4, (rd_T39 y172 x5_1).f5, (rd_T39 y172 x5_1).f6, (rd_T39 y172 x5_1).f7, (rd_T39 y172 x5_1).f8, t173⟩ : S39)) (wrap64 ((wrap64 ((wrap64 ((wrap64 ((wrap64 ((wrap64 ((wrap64 ((wrap64 ((wrap64 ((wrap64 (x1_1 + 1)) + 1)) + 1)) + 1)) + 1)) + 1)) + 1)) + 1)) + 1)) + 1)) (wrap64 (x5_1 + 1))) = some (r1, r2) := H
          have A18 := Aside0.mk A180
          clear A180
          obtain ⟨y174, hy174⟩ : ∃ y_ : List (S39), y_ = (y172.set (x5_1 : Int).toNat (⟨(rd_T39 y172 x5_1).f0, (rd_T39 y172 x5_1).f1, (rd_T39 y172 x5_1).f2, (rd_T39 y172 x5_1).f3, (rd_T39 y172 x5_1).f4, (rd_T39 y172 x5_1).f5, (rd_T39 y172 x5_1).f6, (rd_T39 y172 x5_1).f7, (rd_T39 y172 x5_1).f8, t173⟩ : S39)) := ⟨_, rfl⟩
          replace H : (laws_markEntryS.l0 k1 y174 (wrap64 ((wrap64 ((wrap64 ((wrap64 ((wrap64 ((wrap64 ((wrap64 ((wrap64 ((wrap64 ((wrap64 (x1_1 + 1)) + 1)) + 1)) + 1)) + 1)) + 1)) + 1)) + 1)) + 1)) + 1)) (wrap64 (x5_1 + 1))) = some (r1, r2) := by first | (rw [hy174]; with_reducible exact H) | (have H2_ := (Option.bind_some _ _).symm.trans H; rw [hy174]; with_reducible exact H2_) | (have H2_ := (Option.bind_some _ _).symm.trans H; with_reducible exact H2_) | with_reducible exact H | (rw [hy174]; exact H) | exact H
          have Ny174 := Aside0.mk hy174
          clear hy174
          have H' := Aside0.mk H
          clear H
          obtain ⟨Ao20, co20, eo20⟩ := Kd.R_slice HO_0.out
          subst eo20
          have p5 : 0 ≤ (x5_1 : Int) := of_decide_eq_true (by assumption)
          have q5 : (x5_1 : Int) < ((x0_1.length : Int) : Int) := of_decide_eq_true (by assumption)
          obtain ⟨go5, co5, eo5, gb5, gl5, cl5, HG5⟩ := Kd.R_form HO_0.out (by omega)
          (first | cases eo5 | (injection eo5 with ea_ en_ ec_; (first | subst ea_ | (injection ea_ with ea_; subst ea_)); subst ec_; clear en_))
          have GB5 := Aside0.mk gb5
          have GG5 := Aside0.mk HG5
          clear gb5 gl5 HG5
          have HMgo5 := Aside0.mk (show (P0_ go5 ∨ w.heap.size ≤ go5) from (HO_0.out.1 _ rfl))
          obtain ⟨ce5, hcl5, hM5, hcc5, hfr5⟩ := Kd.R_elem HO_0.out z39 (x5_1 : Int) p5 q5
          obtain rfl := k39_openM hM5
          have hx5_0 : wr.cell? ⟨go5, (x5_1 : Int).toNat * 10, none⟩ = some (.int .i64 ((rd_T39 x0_1 x5_1).f0)) := hcc5 0 _ rfl
          have hx5_1 : wr.cell? ⟨go5, (x5_1 : Int).toNat * 10 + 1, none⟩ = some (.string ((rd_T39 x0_1 x5_1).f1)) := hcc5 1 _ rfl
          have hx5_2 : wr.cell? ⟨go5, (x5_1 : Int).toNat * 10 + 2, none⟩ = some (.string ((rd_T39 x0_1 x5_1).f2)) := hcc5 2 _ rfl
          have hx5_3 : wr.cell? ⟨go5, (x5_1 : Int).toNat * 10 + 3, none⟩ = some (.int .i64 ((rd_T39 x0_1 x5_1).f3)) := hcc5 3 _ rfl
          have hx5_4 : wr.cell? ⟨go5, (x5_1 : Int).toNat * 10 + 4, none⟩ = some (.int .i64 ((rd_T39 x0_1 x5_1).f4)) := hcc5 4 _ rfl
          have hx5_5 : wr.cell? ⟨go5, (x5_1 : Int).toNat * 10 + 5, none⟩ = some (.int .i64 ((rd_T39 x0_1 x5_1).f5)) := hcc5 5 _ rfl
          have hx5_6 : wr.cell? ⟨go5, (x5_1 : Int).toNat * 10 + 6, none⟩ = some (.int .i64 ((rd_T39 x0_1 x5_1).f6)) := hcc5 6 _ rfl
          have hx5_7 : wr.cell? ⟨go5, (x5_1 : Int).toNat * 10 + 7, none⟩ = some (.string ((rd_T39 x0_1 x5_1).f7)) := hcc5 7 _ rfl
          have hx5_8 : wr.cell? ⟨go5, (x5_1 : Int).toNat * 10 + 8, none⟩ = some (.string ((rd_T39 x0_1 x5_1).f8)) := hcc5 8 _ rfl
          have hx5_9 : wr.cell? ⟨go5, (x5_1 : Int).toNat * 10 + 9, none⟩ = some (.string ((rd_T39 x0_1 x5_1).f9)) := hcc5 9 _ rfl
          have hf5_0 : wr.frozen? ⟨go5, (x5_1 : Int).toNat * 10, none⟩ = false := hfr5 0
          have hf5_1 : wr.frozen? ⟨go5, (x5_1 : Int).toNat * 10 + 1, none⟩ = false := hfr5 1
          have hf5_2 : wr.frozen? ⟨go5, (x5_1 : Int).toNat * 10 + 2, none⟩ = false := hfr5 2
          have hf5_3 : wr.frozen? ⟨go5, (x5_1 : Int).toNat * 10 + 3, none⟩ = false := hfr5 3
          have hf5_4 : wr.frozen? ⟨go5, (x5_1 : Int).toNat * 10 + 4, none⟩ = false := hfr5 4
          have hf5_5 : wr.frozen? ⟨go5, (x5_1 : Int).toNat * 10 + 5, none⟩ = false := hfr5 5
          have hf5_6 : wr.frozen? ⟨go5, (x5_1 : Int).toNat * 10 + 6, none⟩ = false := hfr5 6
          have hf5_7 : wr.frozen? ⟨go5, (x5_1 : Int).toNat * 10 + 7, none⟩ = false := hfr5 7
          have hf5_8 : wr.frozen? ⟨go5, (x5_1 : Int).toNat * 10 + 8, none⟩ = false := hfr5 8
          have hf5_9 : wr.frozen? ⟨go5, (x5_1 : Int).toNat * 10 + 9, none⟩ = false := hfr5 9
          clear hcl5 hcc5 hfr5 hM5
          replace p5 := eq_true p5
          replace q5 := eq_true q5
          have HX21 := Aside0.mk (show Kd.R k39 39 wr w0.heap.size (fun k_ => (P0_ k_ ∨ w.heap.size ≤ k_)) (.slice (some ⟨go5, 0, none⟩) x0_1.length co20) x0_1 from (by (with_reducible repeat (first | apply Kd.R_alloc | apply Kd.R_drewN | apply Kd.R_drew)); exact HO_0.out))
          obtain ⟨ce21, hcl21, hM21, hcc21, hfr21⟩ := Kd.R_elem HX21.out z39 (x5_1 : Int) (of_decide_eq_true (by assumption)) (by have h_ : (x5_1 : Int) < ((x0_1.length : Int) : Int) := of_decide_eq_true (by assumption); first | exact h_ | (have e_ := (Kd.R_reads' HO_0.out).1; omega) | simpa using h_)
          obtain rfl := k39_openM hM21
          have HP21 := Kd.R_seg HX21.out (x5_1 : Int) (of_decide_eq_true (by assumption)) (by have h_ : (x5_1 : Int) < ((x0_1.length : Int) : Int) := of_decide_eq_true (by assumption); first | exact h_ | (have e_ := (Kd.R_reads' HO_0.out).1; omega) | simpa using h_) (seg := [.int .i64 x1_1]) (j := 0) hcl21 hcc21 (show 1 ≤ 10 from by decide) (x' := (⟨x1_1, (rd_T39 x0_1 x5_1).f1, (rd_T39 x0_1 x5_1).f2, (rd_T39 x0_1 x5_1).f3, (rd_T39 x0_1 x5_1).f4, (rd_T39 x0_1 x5_1).f5, (rd_T39 x0_1 x5_1).f6, (rd_T39 x0_1 x5_1).f7, (rd_T39 x0_1 x5_1).f8, (rd_T39 x0_1 x5_1).f9⟩ : S39)) (k39_mkM _ _ _ (⟨x1_1, (rd_T39 x0_1 x5_1).f1, (rd_T39 x0_1 x5_1).f2, (rd_T39 x0_1 x5_1).f3, (rd_T39 x0_1 x5_1).f4, (rd_T39 x0_1 x5_1).f5, (rd_T39 x0_1 x5_1).f6, (rd_T39 x0_1 x5_1).f7, (rd_T39 x0_1 x5_1).f8, (rd_T39 x0_1 x5_1).f9⟩ : S39) ) (fun _ hk => hk)
          have hx21_0 := hcc21 0 _ rfl
          (try simp only [show (k39).sz = 10 from rfl, Nat.mul_one, Nat.add_zero] at hx21_0)
          have hf21_0 := hfr21 0
          (try simp only [show (k39).sz = 10 from rfl, Nat.mul_one, Nat.add_zero] at hf21_0)
          clear hcl21 hcc21 hfr21 hM21
          go_wp2_with (first | ((with_reducible refine gate_store (t := 3) (p := 16) rfl ?_); refine store_event (t := 3) (p := 16) (v := ?vo_w22) (w1 := (wr.setCell ⟨go5, (x5_1 : Int).toNat * 10, none⟩ (.int .i64 x1_1))) ?hg ?ho ?hn ?hr ?_; (case ho => rfl); (case hg => rfl); (case hn => rfl); (case hr => first | (go_simp; done) | (go_simp; rfl)); intro w22 hw; have hg : wr.grownBy w22 (some go5) := (by rw [hw]; exact HP21.2); have hp_ : Kd.R k39 39 w22 w0.heap.size (fun k_ => (P0_ k_ ∨ w.heap.size ≤ k_)) (.slice (some ⟨go5, 0, none⟩) x0_1.length co20) y160 := (by rw [hw, Ny160.out]; exact HP21.1); clear HP21; have n0_ := Aside0.mk (hp_); have n1_ := Aside0.mk ((by rw [hw]; exact below_set (HB.out) GB5.out : Below w0.heap.size w0 w22)); have n2_ := Aside0.mk (Kept.of_grown (S := (fun k_ => P0_ k_)) hg (by repeat (first | (with_reducible first | exact HK.out | apply Kept.alloc | apply Kept.drewN | apply Kept.drew) | exact HK.out)) (fun k_ e_ => (HO_0.out.1 k_ e_))); clear HO_0; clear HB; clear HK; have HO_0 := n0_; have HB := n1_; have HK := n2_; clear n0_ n1_ n2_; clear hg hw hp_) | ((with_reducible refine gate_callee (f := 22) rfl ?_); refine goesL_ (some 22) rfl rfl Try.func22 (by kernel_rfl) rfl #[.int .i64 (wrap64 (x1_1 + 1))] rfl (by (try simp only [List.map_toArray, List.map_cons, List.map_nil]); first | done | rfl | (simp only [List.length_drop, List.length_take]; rfl)) ?_; (with_reducible refine (laws_markText.calls k1 (wrap64 (x1_1 + 1)) t161 _ A6.out).mono ?_); rintro e w23 ⟨rfl, hb⟩; refine ⟨_, rfl, ?_⟩; have n0_ := Aside0.mk (Kd.R_below (by (with_reducible repeat (first | apply Kd.R_alloc | apply Kd.R_drewN | apply Kd.R_drew)); exact HO_0.out) hb); have n1_ := Aside0.mk (Kept.below (S := (fun k_ => P0_ k_)) (by repeat (first | (with_reducible first | exact HK.out | apply Kept.alloc | apply Kept.drewN | apply Kept.drew) | exact HK.out)) hb); have n2_ := Aside0.mk (below_step (by repeat (first | (with_reducible first | exact HB.out | apply below_alloc | apply pw_below_drewN | apply below_drew1) | exact HB.out)) hb); clear HO_0; clear HK; clear HB; have HO_0 := n0_; have HK := n1_; have HB := n2_; clear n0_ n1_ n2_; (try clear hb); (try clear hb2); (try clear hk); (try clear hi); have p7 : 0 ≤ (x5_1 : Int) := of_decide_eq_true (by assumption); have q7 : (x5_1 : Int) < ((x0_1.length : Int) : Int) := of_decide_eq_true (by assumption); obtain ⟨ce7, hcl7, hM7, hcc7, hfr7⟩ := Kd.R_elem HO_0.out z39 (x5_1 : Int) p7 q7; obtain rfl := k39_openM hM7; have hx7_0 : w23.cell? ⟨go5, (x5_1 : Int).toNat * 10, none⟩ = some (.int .i64 ((rd_T39 y160 x5_1).f0)) := hcc7 0 _ rfl; have hx7_1 : w23.cell? ⟨go5, (x5_1 : Int).toNat * 10 + 1, none⟩ = some (.string ((rd_T39 y160 x5_1).f1)) := hcc7 1 _ rfl; have hx7_2 : w23.cell? ⟨go5, (x5_1 : Int).toNat * 10 + 2, none⟩ = some (.string ((rd_T39 y160 x5_1).f2)) := hcc7 2 _ rfl; have hx7_3 : w23.cell? ⟨go5, (x5_1 : Int).toNat * 10 + 3, none⟩ = some (.int .i64 ((rd_T39 y160 x5_1).f3)) := hcc7 3 _ rfl; have hx7_4 : w23.cell? ⟨go5, (x5_1 : Int).toNat * 10 + 4, none⟩ = some (.int .i64 ((rd_T39 y160 x5_1).f4)) := hcc7 4 _ rfl; have hx7_5 : w23.cell? ⟨go5, (x5_1 : Int).toNat * 10 + 5, none⟩ = some (.int .i64 ((rd_T39 y160 x5_1).f5)) := hcc7 5 _ rfl; have hx7_6 : w23.cell? ⟨go5, (x5_1 : Int).toNat * 10 + 6, none⟩ = some (.int .i64 ((rd_T39 y160 x5_1).f6)) := hcc7 6 _ rfl; have hx7_7 : w23.cell? ⟨go5, (x5_1 : Int).toNat * 10 + 7, none⟩ = some (.string ((rd_T39 y160 x5_1).f7)) := hcc7 7 _ rfl; have hx7_8 : w23.cell? ⟨go5, (x5_1 : Int).toNat * 10 + 8, none⟩ = some (.string ((rd_T39 y160 x5_1).f8)) := hcc7 8 _ rfl; have hx7_9 : w23.cell? ⟨go5, (x5_1 : Int).toNat * 10 + 9, none⟩ = some (.string ((rd_T39 y160 x5_1).f9)) := hcc7 9 _ rfl; have hf7_0 : w23.frozen? ⟨go5, (x5_1 : Int).toNat * 10, none⟩ = false := hfr7 0; have hf7_1 : w23.frozen? ⟨go5, (x5_1 : Int).toNat * 10 + 1, none⟩ = false := hfr7 1; have hf7_2 : w23.frozen? ⟨go5, (x5_1 : Int).toNat * 10 + 2, none⟩ = false := hfr7 2; have hf7_3 : w23.frozen? ⟨go5, (x5_1 : Int).toNat * 10 + 3, none⟩ = false := hfr7 3; have hf7_4 : w23.frozen? ⟨go5, (x5_1 : Int).toNat * 10 + 4, none⟩ = false := hfr7 4; have hf7_5 : w23.frozen? ⟨go5, (x5_1 : Int).toNat * 10 + 5, none⟩ = false := hfr7 5; have hf7_6 : w23.frozen? ⟨go5, (x5_1 : Int).toNat * 10 + 6, none⟩ = false := hfr7 6; have hf7_7 : w23.frozen? ⟨go5, (x5_1 : Int).toNat * 10 + 7, none⟩ = false := hfr7 7; have hf7_8 : w23.frozen? ⟨go5, (x5_1 : Int).toNat * 10 + 8, none⟩ = false := hfr7 8; have hf7_9 : w23.frozen? ⟨go5, (x5_1 : Int).toNat * 10 + 9, none⟩ = false := hfr7 9; clear hcl7 hcc7 hfr7 hM7; replace p7 := eq_true p7; replace q7 := eq_true q7; have HX24 := Aside0.mk (show Kd.R k39 39 w23 w0.heap.size (fun k_ => (P0_ k_ ∨ w.heap.size ≤ k_)) (.slice (some ⟨go5, 0, none⟩) x0_1.length co20) y160 from (by (with_reducible repeat (first | apply Kd.R_alloc | apply Kd.R_drewN | apply Kd.R_drew)); exact HO_0.out)); obtain ⟨ce24, hcl24, hM24, hcc24, hfr24⟩ := Kd.R_elem HX24.out z39 (x5_1 : Int) (of_decide_eq_true (by assumption)) (by have h_ : (x5_1 : Int) < ((x0_1.length : Int) : Int) := of_decide_eq_true (by assumption); first | exact h_ | (have e_ := (Kd.R_reads' HO_0.out).1; omega) | simpa using h_); obtain rfl := k39_openM hM24; have HP24 := Kd.R_seg HX24.out (x5_1 : Int) (of_decide_eq_true (by assumption)) (by have h_ : (x5_1 : Int) < ((x0_1.length : Int) : Int) := of_decide_eq_true (by assumption); first | exact h_ | (have e_ := (Kd.R_reads' HO_0.out).1; omega) | simpa using h_) (seg := [.string t161]) (j := 1) hcl24 hcc24 (show 2 ≤ 10 from by decide) (x' := (⟨(rd_T39 y160 x5_1).f0, t161, (rd_T39 y160 x5_1).f2, (rd_T39 y160 x5_1).f3, (rd_T39 y160 x5_1).f4, (rd_T39 y160 x5_1).f5, (rd_T39 y160 x5_1).f6, (rd_T39 y160 x5_1).f7, (rd_T39 y160 x5_1).f8, (rd_T39 y160 x5_1).f9⟩ : S39)) (k39_mkM _ _ _ (⟨(rd_T39 y160 x5_1).f0, t161, (rd_T39 y160 x5_1).f2, (rd_T39 y160 x5_1).f3, (rd_T39 y160 x5_1).f4, (rd_T39 y160 x5_1).f5, (rd_T39 y160 x5_1).f6, (rd_T39 y160 x5_1).f7, (rd_T39 y160 x5_1).f8, (rd_T39 y160 x5_1).f9⟩ : S39) ) (fun _ hk => hk); have hx24_1 := hcc24 1 _ rfl; (try simp only [show (k39).sz = 10 from rfl, Nat.mul_one, Nat.add_zero] at hx24_1); have hf24_1 := hfr24 1; (try simp only [show (k39).sz = 10 from rfl, Nat.mul_one, Nat.add_zero] at hf24_1); clear hcl24 hcc24 hfr24 hM24) | ((with_reducible refine gate_store (t := 9) (p := 24) rfl ?_); refine store_event (t := 9) (p := 24) (v := ?vo_w25) (w1 := (w23.setCell ⟨go5, (x5_1 : Int).toNat * 10 + 1, none⟩ (.string t161))) ?hg ?ho ?hn ?hr ?_; (case ho => rfl); (case hg => rfl); (case hn => rfl); (case hr => first | (go_simp; done) | (go_simp; rfl)); intro w25 hw; have hg : w23.grownBy w25 (some go5) := (by rw [hw]; exact HP24.2); have hp_ : Kd.R k39 39 w25 w0.heap.size (fun k_ => (P0_ k_ ∨ w.heap.size ≤ k_)) (.slice (some ⟨go5, 0, none⟩) x0_1.length co20) y162 := (by rw [hw, Ny162.out]; exact HP24.1); clear HP24; have n0_ := Aside0.mk (hp_); have n1_ := Aside0.mk ((by rw [hw]; exact below_set (HB.out) GB5.out : Below w0.heap.size w0 w25)); have n2_ := Aside0.mk (Kept.of_grown (S := (fun k_ => P0_ k_)) hg (by repeat (first | (with_reducible first | exact HK.out | apply Kept.alloc | apply Kept.drewN | apply Kept.drew) | exact HK.out)) (fun k_ e_ => (HO_0.out.1 k_ e_))); clear HO_0; clear HB; clear HK; have HO_0 := n0_; have HB := n1_; have HK := n2_; clear n0_ n1_ n2_; clear hg hw hp_) | ((with_reducible refine gate_callee (f := 22) rfl ?_); refine goesL_ (some 30) rfl rfl Try.func22 (by kernel_rfl) rfl #[.int .i64 (wrap64 ((wrap64 (x1_1 + 1)) + 1))] rfl (by (try simp only [List.map_toArray, List.map_cons, List.map_nil]); first | done | rfl | (simp only [List.length_drop, List.length_take]; rfl)) ?_; (with_reducible refine (laws_markText.calls k1 (wrap64 ((wrap64 (x1_1 + 1)) + 1)) t163 _ A8.out).mono ?_); rintro e w26 ⟨rfl, hb⟩; refine ⟨_, rfl, ?_⟩; have n0_ := Aside0.mk (Kd.R_below (by (with_reducible repeat (first | apply Kd.R_alloc | apply Kd.R_drewN | apply Kd.R_drew)); exact HO_0.out) hb); have n1_ := Aside0.mk (Kept.below (S := (fun k_ => P0_ k_)) (by repeat (first | (with_reducible first | exact HK.out | apply Kept.alloc | apply Kept.drewN | apply Kept.drew) | exact HK.out)) hb); have n2_ := Aside0.mk (below_step (by repeat (first | (with_reducible first | exact HB.out | apply below_alloc | apply pw_below_drewN | apply below_drew1) | exact HB.out)) hb); clear HO_0; clear HK; clear HB; have HO_0 := n0_; have HK := n1_; have HB := n2_; clear n0_ n1_ n2_; (try clear hb); (try clear hb2); (try clear hk); (try clear hi); have p9 : 0 ≤ (x5_1 : Int) := of_decide_eq_true (by assumption); have q9 : (x5_1 : Int) < ((x0_1.length : Int) : Int) := of_decide_eq_true (by assumption); obtain ⟨ce9, hcl9, hM9, hcc9, hfr9⟩ := Kd.R_elem HO_0.out z39 (x5_1 : Int) p9 q9; obtain rfl := k39_openM hM9; have hx9_0 : w26.cell? ⟨go5, (x5_1 : Int).toNat * 10, none⟩ = some (.int .i64 ((rd_T39 y162 x5_1).f0)) := hcc9 0 _ rfl; have hx9_1 : w26.cell? ⟨go5, (x5_1 : Int).toNat * 10 + 1, none⟩ = some (.string ((rd_T39 y162 x5_1).f1)) := hcc9 1 _ rfl; have hx9_2 : w26.cell? ⟨go5, (x5_1 : Int).toNat * 10 + 2, none⟩ = some (.string ((rd_T39 y162 x5_1).f2)) := hcc9 2 _ rfl; have hx9_3 : w26.cell? ⟨go5, (x5_1 : Int).toNat * 10 + 3, none⟩ = some (.int .i64 ((rd_T39 y162 x5_1).f3)) := hcc9 3 _ rfl; have hx9_4 : w26.cell? ⟨go5, (x5_1 : Int).toNat * 10 + 4, none⟩ = some (.int .i64 ((rd_T39 y162 x5_1).f4)) := hcc9 4 _ rfl; have hx9_5 : w26.cell? ⟨go5, (x5_1 : Int).toNat * 10 + 5, none⟩ = some (.int .i64 ((rd_T39 y162 x5_1).f5)) := hcc9 5 _ rfl; have hx9_6 : w26.cell? ⟨go5, (x5_1 : Int).toNat * 10 + 6, none⟩ = some (.int .i64 ((rd_T39 y162 x5_1).f6)) := hcc9 6 _ rfl; have hx9_7 : w26.cell? ⟨go5, (x5_1 : Int).toNat * 10 + 7, none⟩ = some (.string ((rd_T39 y162 x5_1).f7)) := hcc9 7 _ rfl; have hx9_8 : w26.cell? ⟨go5, (x5_1 : Int).toNat * 10 + 8, none⟩ = some (.string ((rd_T39 y162 x5_1).f8)) := hcc9 8 _ rfl; have hx9_9 : w26.cell? ⟨go5, (x5_1 : Int).toNat * 10 + 9, none⟩ = some (.string ((rd_T39 y162 x5_1).f9)) := hcc9 9 _ rfl; have hf9_0 : w26.frozen? ⟨go5, (x5_1 : Int).toNat * 10, none⟩ = false := hfr9 0; have hf9_1 : w26.frozen? ⟨go5, (x5_1 : Int).toNat * 10 + 1, none⟩ = false := hfr9 1; have hf9_2 : w26.frozen? ⟨go5, (x5_1 : Int).toNat * 10 + 2, none⟩ = false := hfr9 2; have hf9_3 : w26.frozen? ⟨go5, (x5_1 : Int).toNat * 10 + 3, none⟩ = false := hfr9 3; have hf9_4 : w26.frozen? ⟨go5, (x5_1 : Int).toNat * 10 + 4, none⟩ = false := hfr9 4; have hf9_5 : w26.frozen? ⟨go5, (x5_1 : Int).toNat * 10 + 5, none⟩ = false := hfr9 5; have hf9_6 : w26.frozen? ⟨go5, (x5_1 : Int).toNat * 10 + 6, none⟩ = false := hfr9 6; have hf9_7 : w26.frozen? ⟨go5, (x5_1 : Int).toNat * 10 + 7, none⟩ = false := hfr9 7; have hf9_8 : w26.frozen? ⟨go5, (x5_1 : Int).toNat * 10 + 8, none⟩ = false := hfr9 8; have hf9_9 : w26.frozen? ⟨go5, (x5_1 : Int).toNat * 10 + 9, none⟩ = false := hfr9 9; clear hcl9 hcc9 hfr9 hM9; replace p9 := eq_true p9; replace q9 := eq_true q9; have HX27 := Aside0.mk (show Kd.R k39 39 w26 w0.heap.size (fun k_ => (P0_ k_ ∨ w.heap.size ≤ k_)) (.slice (some ⟨go5, 0, none⟩) x0_1.length co20) y162 from (by (with_reducible repeat (first | apply Kd.R_alloc | apply Kd.R_drewN | apply Kd.R_drew)); exact HO_0.out)); obtain ⟨ce27, hcl27, hM27, hcc27, hfr27⟩ := Kd.R_elem HX27.out z39 (x5_1 : Int) (of_decide_eq_true (by assumption)) (by have h_ : (x5_1 : Int) < ((x0_1.length : Int) : Int) := of_decide_eq_true (by assumption); first | exact h_ | (have e_ := (Kd.R_reads' HO_0.out).1; omega) | simpa using h_); obtain rfl := k39_openM hM27; have HP27 := Kd.R_seg HX27.out (x5_1 : Int) (of_decide_eq_true (by assumption)) (by have h_ : (x5_1 : Int) < ((x0_1.length : Int) : Int) := of_decide_eq_true (by assumption); first | exact h_ | (have e_ := (Kd.R_reads' HO_0.out).1; omega) | simpa using h_) (seg := [.string t163]) (j := 2) hcl27 hcc27 (show 3 ≤ 10 from by decide) (x' := (⟨(rd_T39 y162 x5_1).f0, (rd_T39 y162 x5_1).f1, t163, (rd_T39 y162 x5_1).f3, (rd_T39 y162 x5_1).f4, (rd_T39 y162 x5_1).f5, (rd_T39 y162 x5_1).f6, (rd_T39 y162 x5_1).f7, (rd_T39 y162 x5_1).f8, (rd_T39 y162 x5_1).f9⟩ : S39)) (k39_mkM _ _ _ (⟨(rd_T39 y162 x5_1).f0, (rd_T39 y162 x5_1).f1, t163, (rd_T39 y162 x5_1).f3, (rd_T39 y162 x5_1).f4, (rd_T39 y162 x5_1).f5, (rd_T39 y162 x5_1).f6, (rd_T39 y162 x5_1).f7, (rd_T39 y162 x5_1).f8, (rd_T39 y162 x5_1).f9⟩ : S39) ) (fun _ hk => hk); have hx27_2 := hcc27 2 _ rfl; (try simp only [show (k39).sz = 10 from rfl, Nat.mul_one, Nat.add_zero] at hx27_2); have hf27_2 := hfr27 2; (try simp only [show (k39).sz = 10 from rfl, Nat.mul_one, Nat.add_zero] at hf27_2); clear hcl27 hcc27 hfr27 hM27) | ((with_reducible refine gate_store (t := 9) (p := 32) rfl ?_); refine store_event (t := 9) (p := 32) (v := ?vo_w28) (w1 := (w26.setCell ⟨go5, (x5_1 : Int).toNat * 10 + 2, none⟩ (.string t163))) ?hg ?ho ?hn ?hr ?_; (case ho => rfl); (case hg => rfl); (case hn => rfl); (case hr => first | (go_simp; done) | (go_simp; rfl)); intro w28 hw; have hg : w26.grownBy w28 (some go5) := (by rw [hw]; exact HP27.2); have hp_ : Kd.R k39 39 w28 w0.heap.size (fun k_ => (P0_ k_ ∨ w.heap.size ≤ k_)) (.slice (some ⟨go5, 0, none⟩) x0_1.length co20) y164 := (by rw [hw, Ny164.out]; exact HP27.1); clear HP27; have n0_ := Aside0.mk (hp_); have n1_ := Aside0.mk ((by rw [hw]; exact below_set (HB.out) GB5.out : Below w0.heap.size w0 w28)); have n2_ := Aside0.mk (Kept.of_grown (S := (fun k_ => P0_ k_)) hg (by repeat (first | (with_reducible first | exact HK.out | apply Kept.alloc | apply Kept.drewN | apply Kept.drew) | exact HK.out)) (fun k_ e_ => (HO_0.out.1 k_ e_))); clear HO_0; clear HB; clear HK; have HO_0 := n0_; have HB := n1_; have HK := n2_; clear n0_ n1_ n2_; clear hg hw hp_; have p10 : 0 ≤ (x5_1 : Int) := of_decide_eq_true (by assumption); have q10 : (x5_1 : Int) < ((x0_1.length : Int) : Int) := of_decide_eq_true (by assumption); obtain ⟨ce10, hcl10, hM10, hcc10, hfr10⟩ := Kd.R_elem HO_0.out z39 (x5_1 : Int) p10 q10; obtain rfl := k39_openM hM10; have hx10_0 : w28.cell? ⟨go5, (x5_1 : Int).toNat * 10, none⟩ = some (.int .i64 ((rd_T39 y164 x5_1).f0)) := hcc10 0 _ rfl; have hx10_1 : w28.cell? ⟨go5, (x5_1 : Int).toNat * 10 + 1, none⟩ = some (.string ((rd_T39 y164 x5_1).f1)) := hcc10 1 _ rfl; have hx10_2 : w28.cell? ⟨go5, (x5_1 : Int).toNat * 10 + 2, none⟩ = some (.string ((rd_T39 y164 x5_1).f2)) := hcc10 2 _ rfl; have hx10_3 : w28.cell? ⟨go5, (x5_1 : Int).toNat * 10 + 3, none⟩ = some (.int .i64 ((rd_T39 y164 x5_1).f3)) := hcc10 3 _ rfl; have hx10_4 : w28.cell? ⟨go5, (x5_1 : Int).toNat * 10 + 4, none⟩ = some (.int .i64 ((rd_T39 y164 x5_1).f4)) := hcc10 4 _ rfl; have hx10_5 : w28.cell? ⟨go5, (x5_1 : Int).toNat * 10 + 5, none⟩ = some (.int .i64 ((rd_T39 y164 x5_1).f5)) := hcc10 5 _ rfl; have hx10_6 : w28.cell? ⟨go5, (x5_1 : Int).toNat * 10 + 6, none⟩ = some (.int .i64 ((rd_T39 y164 x5_1).f6)) := hcc10 6 _ rfl; have hx10_7 : w28.cell? ⟨go5, (x5_1 : Int).toNat * 10 + 7, none⟩ = some (.string ((rd_T39 y164 x5_1).f7)) := hcc10 7 _ rfl; have hx10_8 : w28.cell? ⟨go5, (x5_1 : Int).toNat * 10 + 8, none⟩ = some (.string ((rd_T39 y164 x5_1).f8)) := hcc10 8 _ rfl; have hx10_9 : w28.cell? ⟨go5, (x5_1 : Int).toNat * 10 + 9, none⟩ = some (.string ((rd_T39 y164 x5_1).f9)) := hcc10 9 _ rfl; have hf10_0 : w28.frozen? ⟨go5, (x5_1 : Int).toNat * 10, none⟩ = false := hfr10 0; have hf10_1 : w28.frozen? ⟨go5, (x5_1 : Int).toNat * 10 + 1, none⟩ = false := hfr10 1; have hf10_2 : w28.frozen? ⟨go5, (x5_1 : Int).toNat * 10 + 2, none⟩ = false := hfr10 2; have hf10_3 : w28.frozen? ⟨go5, (x5_1 : Int).toNat * 10 + 3, none⟩ = false := hfr10 3; have hf10_4 : w28.frozen? ⟨go5, (x5_1 : Int).toNat * 10 + 4, none⟩ = false := hfr10 4; have hf10_5 : w28.frozen? ⟨go5, (x5_1 : Int).toNat * 10 + 5, none⟩ = false := hfr10 5; have hf10_6 : w28.frozen? ⟨go5, (x5_1 : Int).toNat * 10 + 6, none⟩ = false := hfr10 6; have hf10_7 : w28.frozen? ⟨go5, (x5_1 : Int).toNat * 10 + 7, none⟩ = false := hfr10 7; have hf10_8 : w28.frozen? ⟨go5, (x5_1 : Int).toNat * 10 + 8, none⟩ = false := hfr10 8; have hf10_9 : w28.frozen? ⟨go5, (x5_1 : Int).toNat * 10 + 9, none⟩ = false := hfr10 9; clear hcl10 hcc10 hfr10 hM10; replace p10 := eq_true p10; replace q10 := eq_true q10; have HX29 := Aside0.mk (show Kd.R k39 39 w28 w0.heap.size (fun k_ => (P0_ k_ ∨ w.heap.size ≤ k_)) (.slice (some ⟨go5, 0, none⟩) x0_1.length co20) y164 from (by (with_reducible repeat (first | apply Kd.R_alloc | apply Kd.R_drewN | apply Kd.R_drew)); exact HO_0.out)); obtain ⟨ce29, hcl29, hM29, hcc29, hfr29⟩ := Kd.R_elem HX29.out z39 (x5_1 : Int) (of_decide_eq_true (by assumption)) (by have h_ : (x5_1 : Int) < ((x0_1.length : Int) : Int) := of_decide_eq_true (by assumption); first | exact h_ | (have e_ := (Kd.R_reads' HO_0.out).1; omega) | simpa using h_); obtain rfl := k39_openM hM29; have HP29 := Kd.R_seg HX29.out (x5_1 : Int) (of_decide_eq_true (by assumption)) (by have h_ : (x5_1 : Int) < ((x0_1.length : Int) : Int) := of_decide_eq_true (by assumption); first | exact h_ | (have e_ := (Kd.R_reads' HO_0.out).1; omega) | simpa using h_) (seg := [.int .i64 (wrap64 ((wrap64 ((wrap64 (x1_1 + 1)) + 1)) + 1))]) (j := 3) hcl29 hcc29 (show 4 ≤ 10 from by decide) (x' := (⟨(rd_T39 y164 x5_1).f0, (rd_T39 y164 x5_1).f1, (rd_T39 y164 x5_1).f2, wrap64 ((wrap64 ((wrap64 (x1_1 + 1)) + 1)) + 1), (rd_T39 y164 x5_1).f4, (rd_T39 y164 x5_1).f5, (rd_T39 y164 x5_1).f6, (rd_T39 y164 x5_1).f7, (rd_T39 y164 x5_1).f8, (rd_T39 y164 x5_1).f9⟩ : S39)) (k39_mkM _ _ _ (⟨(rd_T39 y164 x5_1).f0, (rd_T39 y164 x5_1).f1, (rd_T39 y164 x5_1).f2, wrap64 ((wrap64 ((wrap64 (x1_1 + 1)) + 1)) + 1), (rd_T39 y164 x5_1).f4, (rd_T39 y164 x5_1).f5, (rd_T39 y164 x5_1).f6, (rd_T39 y164 x5_1).f7, (rd_T39 y164 x5_1).f8, (rd_T39 y164 x5_1).f9⟩ : S39) ) (fun _ hk => hk); have hx29_3 := hcc29 3 _ rfl; (try simp only [show (k39).sz = 10 from rfl, Nat.mul_one, Nat.add_zero] at hx29_3); have hf29_3 := hfr29 3; (try simp only [show (k39).sz = 10 from rfl, Nat.mul_one, Nat.add_zero] at hf29_3); clear hcl29 hcc29 hfr29 hM29) | ((with_reducible refine gate_store (t := 3) (p := 39) rfl ?_); refine store_event (t := 3) (p := 39) (v := ?vo_w30) (w1 := (w28.setCell ⟨go5, (x5_1 : Int).toNat * 10 + 3, none⟩ (.int .i64 (wrap64 ((wrap64 ((wrap64 (x1_1 + 1)) + 1)) + 1))))) ?hg ?ho ?hn ?hr ?_; (case ho => rfl); (case hg => rfl); (case hn => rfl); (case hr => first | (go_simp; done) | (go_simp; rfl)); intro w30 hw; have hg : w28.grownBy w30 (some go5) := (by rw [hw]; exact HP29.2); have hp_ : Kd.R k39 39 w30 w0.heap.size (fun k_ => (P0_ k_ ∨ w.heap.size ≤ k_)) (.slice (some ⟨go5, 0, none⟩) x0_1.length co20) y165 := (by rw [hw, Ny165.out]; exact HP29.1); clear HP29; have n0_ := Aside0.mk (hp_); have n1_ := Aside0.mk ((by rw [hw]; exact below_set (HB.out) GB5.out : Below w0.heap.size w0 w30)); have n2_ := Aside0.mk (Kept.of_grown (S := (fun k_ => P0_ k_)) hg (by repeat (first | (with_reducible first | exact HK.out | apply Kept.alloc | apply Kept.drewN | apply Kept.drew) | exact HK.out)) (fun k_ e_ => (HO_0.out.1 k_ e_))); clear HO_0; clear HB; clear HK; have HO_0 := n0_; have HB := n1_; have HK := n2_; clear n0_ n1_ n2_; clear hg hw hp_; have p11 : 0 ≤ (x5_1 : Int) := of_decide_eq_true (by assumption); have q11 : (x5_1 : Int) < ((x0_1.length : Int) : Int) := of_decide_eq_true (by assumption); obtain ⟨ce11, hcl11, hM11, hcc11, hfr11⟩ := Kd.R_elem HO_0.out z39 (x5_1 : Int) p11 q11; obtain rfl := k39_openM hM11; have hx11_0 : w30.cell? ⟨go5, (x5_1 : Int).toNat * 10, none⟩ = some (.int .i64 ((rd_T39 y165 x5_1).f0)) := hcc11 0 _ rfl; have hx11_1 : w30.cell? ⟨go5, (x5_1 : Int).toNat * 10 + 1, none⟩ = some (.string ((rd_T39 y165 x5_1).f1)) := hcc11 1 _ rfl; have hx11_2 : w30.cell? ⟨go5, (x5_1 : Int).toNat * 10 + 2, none⟩ = some (.string ((rd_T39 y165 x5_1).f2)) := hcc11 2 _ rfl; have hx11_3 : w30.cell? ⟨go5, (x5_1 : Int).toNat * 10 + 3, none⟩ = some (.int .i64 ((rd_T39 y165 x5_1).f3)) := hcc11 3 _ rfl; have hx11_4 : w30.cell? ⟨go5, (x5_1 : Int).toNat * 10 + 4, none⟩ = some (.int .i64 ((rd_T39 y165 x5_1).f4)) := hcc11 4 _ rfl; have hx11_5 : w30.cell? ⟨go5, (x5_1 : Int).toNat * 10 + 5, none⟩ = some (.int .i64 ((rd_T39 y165 x5_1).f5)) := hcc11 5 _ rfl; have hx11_6 : w30.cell? ⟨go5, (x5_1 : Int).toNat * 10 + 6, none⟩ = some (.int .i64 ((rd_T39 y165 x5_1).f6)) := hcc11 6 _ rfl; have hx11_7 : w30.cell? ⟨go5, (x5_1 : Int).toNat * 10 + 7, none⟩ = some (.string ((rd_T39 y165 x5_1).f7)) := hcc11 7 _ rfl; have hx11_8 : w30.cell? ⟨go5, (x5_1 : Int).toNat * 10 + 8, none⟩ = some (.string ((rd_T39 y165 x5_1).f8)) := hcc11 8 _ rfl; have hx11_9 : w30.cell? ⟨go5, (x5_1 : Int).toNat * 10 + 9, none⟩ = some (.string ((rd_T39 y165 x5_1).f9)) := hcc11 9 _ rfl; have hf11_0 : w30.frozen? ⟨go5, (x5_1 : Int).toNat * 10, none⟩ = false := hfr11 0; have hf11_1 : w30.frozen? ⟨go5, (x5_1 : Int).toNat * 10 + 1, none⟩ = false := hfr11 1; have hf11_2 : w30.frozen? ⟨go5, (x5_1 : Int).toNat * 10 + 2, none⟩ = false := hfr11 2; have hf11_3 : w30.frozen? ⟨go5, (x5_1 : Int).toNat * 10 + 3, none⟩ = false := hfr11 3; have hf11_4 : w30.frozen? ⟨go5, (x5_1 : Int).toNat * 10 + 4, none⟩ = false := hfr11 4; have hf11_5 : w30.frozen? ⟨go5, (x5_1 : Int).toNat * 10 + 5, none⟩ = false := hfr11 5; have hf11_6 : w30.frozen? ⟨go5, (x5_1 : Int).toNat * 10 + 6, none⟩ = false := hfr11 6; have hf11_7 : w30.frozen? ⟨go5, (x5_1 : Int).toNat * 10 + 7, none⟩ = false := hfr11 7; have hf11_8 : w30.frozen? ⟨go5, (x5_1 : Int).toNat * 10 + 8, none⟩ = false := hfr11 8; have hf11_9 : w30.frozen? ⟨go5, (x5_1 : Int).toNat * 10 + 9, none⟩ = false := hfr11 9; clear hcl11 hcc11 hfr11 hM11; replace p11 := eq_true p11; replace q11 := eq_true q11; have HX31 := Aside0.mk (show Kd.R k39 39 w30 w0.heap.size (fun k_ => (P0_ k_ ∨ w.heap.size ≤ k_)) (.slice (some ⟨go5, 0, none⟩) x0_1.length co20) y165 from (by (with_reducible repeat (first | apply Kd.R_alloc | apply Kd.R_drewN | apply Kd.R_drew)); exact HO_0.out)); obtain ⟨ce31, hcl31, hM31, hcc31, hfr31⟩ := Kd.R_elem HX31.out z39 (x5_1 : Int) (of_decide_eq_true (by assumption)) (by have h_ : (x5_1 : Int) < ((x0_1.length : Int) : Int) := of_decide_eq_true (by assumption); first | exact h_ | (have e_ := (Kd.R_reads' HO_0.out).1; omega) | simpa using h_); obtain rfl := k39_openM hM31; have HP31 := Kd.R_seg HX31.out (x5_1 : Int) (of_decide_eq_true (by assumption)) (by have h_ : (x5_1 : Int) < ((x0_1.length : Int) : Int) := of_decide_eq_true (by assumption); first | exact h_ | (have e_ := (Kd.R_reads' HO_0.out).1; omega) | simpa using h_) (seg := [.int .i64 (wrap64 ((wrap64 ((wrap64 ((wrap64 (x1_1 + 1)) + 1)) + 1)) + 1))]) (j := 4) hcl31 hcc31 (show 5 ≤ 10 from by decide) (x' := (⟨(rd_T39 y165 x5_1).f0, (rd_T39 y165 x5_1).f1, (rd_T39 y165 x5_1).f2, (rd_T39 y165 x5_1).f3, wrap64 ((wrap64 ((wrap64 ((wrap64 (x1_1 + 1)) + 1)) + 1)) + 1), (rd_T39 y165 x5_1).f5, (rd_T39 y165 x5_1).f6, (rd_T39 y165 x5_1).f7, (rd_T39 y165 x5_1).f8, (rd_T39 y165 x5_1).f9⟩ : S39)) (k39_mkM _ _ _ (⟨(rd_T39 y165 x5_1).f0, (rd_T39 y165 x5_1).f1, (rd_T39 y165 x5_1).f2, (rd_T39 y165 x5_1).f3, wrap64 ((wrap64 ((wrap64 ((wrap64 (x1_1 + 1)) + 1)) + 1)) + 1), (rd_T39 y165 x5_1).f5, (rd_T39 y165 x5_1).f6, (rd_T39 y165 x5_1).f7, (rd_T39 y165 x5_1).f8, (rd_T39 y165 x5_1).f9⟩ : S39) ) (fun _ hk => hk); have hx31_4 := hcc31 4 _ rfl; (try simp only [show (k39).sz = 10 from rfl, Nat.mul_one, Nat.add_zero] at hx31_4); have hf31_4 := hfr31 4; (try simp only [show (k39).sz = 10 from rfl, Nat.mul_one, Nat.add_zero] at hf31_4); clear hcl31 hcc31 hfr31 hM31) | ((with_reducible refine gate_store (t := 3) (p := 46) rfl ?_); refine store_event (t := 3) (p := 46) (v := ?vo_w32) (w1 := (w30.setCell ⟨go5, (x5_1 : Int).toNat * 10 + 4, none⟩ (.int .i64 (wrap64 ((wrap64 ((wrap64 ((wrap64 (x1_1 + 1)) + 1)) + 1)) + 1))))) ?hg ?ho ?hn ?hr ?_; (case ho => rfl); (case hg => rfl); (case hn => rfl); (case hr => first | (go_simp; done) | (go_simp; rfl)); intro w32 hw; have hg : w30.grownBy w32 (some go5) := (by rw [hw]; exact HP31.2); have hp_ : Kd.R k39 39 w32 w0.heap.size (fun k_ => (P0_ k_ ∨ w.heap.size ≤ k_)) (.slice (some ⟨go5, 0, none⟩) x0_1.length co20) y166 := (by rw [hw, Ny166.out]; exact HP31.1); clear HP31; have n0_ := Aside0.mk (hp_); have n1_ := Aside0.mk ((by rw [hw]; exact below_set (HB.out) GB5.out : Below w0.heap.size w0 w32)); have n2_ := Aside0.mk (Kept.of_grown (S := (fun k_ => P0_ k_)) hg (by repeat (first | (with_reducible first | exact HK.out | apply Kept.alloc | apply Kept.drewN | apply Kept.drew) | exact HK.out)) (fun k_ e_ => (HO_0.out.1 k_ e_))); clear HO_0; clear HB; clear HK; have HO_0 := n0_; have HB := n1_; have HK := n2_; clear n0_ n1_ n2_; clear hg hw hp_; have p12 : 0 ≤ (x5_1 : Int) := of_decide_eq_true (by assumption); have q12 : (x5_1 : Int) < ((x0_1.length : Int) : Int) := of_decide_eq_true (by assumption); obtain ⟨ce12, hcl12, hM12, hcc12, hfr12⟩ := Kd.R_elem HO_0.out z39 (x5_1 : Int) p12 q12; obtain rfl := k39_openM hM12; have hx12_0 : w32.cell? ⟨go5, (x5_1 : Int).toNat * 10, none⟩ = some (.int .i64 ((rd_T39 y166 x5_1).f0)) := hcc12 0 _ rfl; have hx12_1 : w32.cell? ⟨go5, (x5_1 : Int).toNat * 10 + 1, none⟩ = some (.string ((rd_T39 y166 x5_1).f1)) := hcc12 1 _ rfl; have hx12_2 : w32.cell? ⟨go5, (x5_1 : Int).toNat * 10 + 2, none⟩ = some (.string ((rd_T39 y166 x5_1).f2)) := hcc12 2 _ rfl; have hx12_3 : w32.cell? ⟨go5, (x5_1 : Int).toNat * 10 + 3, none⟩ = some (.int .i64 ((rd_T39 y166 x5_1).f3)) := hcc12 3 _ rfl; have hx12_4 : w32.cell? ⟨go5, (x5_1 : Int).toNat * 10 + 4, none⟩ = some (.int .i64 ((rd_T39 y166 x5_1).f4)) := hcc12 4 _ rfl; have hx12_5 : w32.cell? ⟨go5, (x5_1 : Int).toNat * 10 + 5, none⟩ = some (.int .i64 ((rd_T39 y166 x5_1).f5)) := hcc12 5 _ rfl; have hx12_6 : w32.cell? ⟨go5, (x5_1 : Int).toNat * 10 + 6, none⟩ = some (.int .i64 ((rd_T39 y166 x5_1).f6)) := hcc12 6 _ rfl; have hx12_7 : w32.cell? ⟨go5, (x5_1 : Int).toNat * 10 + 7, none⟩ = some (.string ((rd_T39 y166 x5_1).f7)) := hcc12 7 _ rfl; have hx12_8 : w32.cell? ⟨go5, (x5_1 : Int).toNat * 10 + 8, none⟩ = some (.string ((rd_T39 y166 x5_1).f8)) := hcc12 8 _ rfl; have hx12_9 : w32.cell? ⟨go5, (x5_1 : Int).toNat * 10 + 9, none⟩ = some (.string ((rd_T39 y166 x5_1).f9)) := hcc12 9 _ rfl; have hf12_0 : w32.frozen? ⟨go5, (x5_1 : Int).toNat * 10, none⟩ = false := hfr12 0; have hf12_1 : w32.frozen? ⟨go5, (x5_1 : Int).toNat * 10 + 1, none⟩ = false := hfr12 1; have hf12_2 : w32.frozen? ⟨go5, (x5_1 : Int).toNat * 10 + 2, none⟩ = false := hfr12 2; have hf12_3 : w32.frozen? ⟨go5, (x5_1 : Int).toNat * 10 + 3, none⟩ = false := hfr12 3; have hf12_4 : w32.frozen? ⟨go5, (x5_1 : Int).toNat * 10 + 4, none⟩ = false := hfr12 4; have hf12_5 : w32.frozen? ⟨go5, (x5_1 : Int).toNat * 10 + 5, none⟩ = false := hfr12 5; have hf12_6 : w32.frozen? ⟨go5, (x5_1 : Int).toNat * 10 + 6, none⟩ = false := hfr12 6; have hf12_7 : w32.frozen? ⟨go5, (x5_1 : Int).toNat * 10 + 7, none⟩ = false := hfr12 7; have hf12_8 : w32.frozen? ⟨go5, (x5_1 : Int).toNat * 10 + 8, none⟩ = false := hfr12 8; have hf12_9 : w32.frozen? ⟨go5, (x5_1 : Int).toNat * 10 + 9, none⟩ = false := hfr12 9; clear hcl12 hcc12 hfr12 hM12; replace p12 := eq_true p12; replace q12 := eq_true q12; have HX33 := Aside0.mk (show Kd.R k39 39 w32 w0.heap.size (fun k_ => (P0_ k_ ∨ w.heap.size ≤ k_)) (.slice (some ⟨go5, 0, none⟩) x0_1.length co20) y166 from (by (with_reducible repeat (first | apply Kd.R_alloc | apply Kd.R_drewN | apply Kd.R_drew)); exact HO_0.out)); obtain ⟨ce33, hcl33, hM33, hcc33, hfr33⟩ := Kd.R_elem HX33.out z39 (x5_1 : Int) (of_decide_eq_true (by assumption)) (by have h_ : (x5_1 : Int) < ((x0_1.length : Int) : Int) := of_decide_eq_true (by assumption); first | exact h_ | (have e_ := (Kd.R_reads' HO_0.out).1; omega) | simpa using h_); obtain rfl := k39_openM hM33; have HP33 := Kd.R_seg HX33.out (x5_1 : Int) (of_decide_eq_true (by assumption)) (by have h_ : (x5_1 : Int) < ((x0_1.length : Int) : Int) := of_decide_eq_true (by assumption); first | exact h_ | (have e_ := (Kd.R_reads' HO_0.out).1; omega) | simpa using h_) (seg := [.int .i64 (wrap64 ((wrap64 ((wrap64 ((wrap64 ((wrap64 (x1_1 + 1)) + 1)) + 1)) + 1)) + 1))]) (j := 5) hcl33 hcc33 (show 6 ≤ 10 from by decide) (x' := (⟨(rd_T39 y166 x5_1).f0, (rd_T39 y166 x5_1).f1, (rd_T39 y166 x5_1).f2, (rd_T39 y166 x5_1).f3, (rd_T39 y166 x5_1).f4, wrap64 ((wrap64 ((wrap64 ((wrap64 ((wrap64 (x1_1 + 1)) + 1)) + 1)) + 1)) + 1), (rd_T39 y166 x5_1).f6, (rd_T39 y166 x5_1).f7, (rd_T39 y166 x5_1).f8, (rd_T39 y166 x5_1).f9⟩ : S39)) (k39_mkM _ _ _ (⟨(rd_T39 y166 x5_1).f0, (rd_T39 y166 x5_1).f1, (rd_T39 y166 x5_1).f2, (rd_T39 y166 x5_1).f3, (rd_T39 y166 x5_1).f4, wrap64 ((wrap64 ((wrap64 ((wrap64 ((wrap64 (x1_1 + 1)) + 1)) + 1)) + 1)) + 1), (rd_T39 y166 x5_1).f6, (rd_T39 y166 x5_1).f7, (rd_T39 y166 x5_1).f8, (rd_T39 y166 x5_1).f9⟩ : S39) ) (fun _ hk => hk); have hx33_5 := hcc33 5 _ rfl; (try simp only [show (k39).sz = 10 from rfl, Nat.mul_one, Nat.add_zero] at hx33_5); have hf33_5 := hfr33 5; (try simp only [show (k39).sz = 10 from rfl, Nat.mul_one, Nat.add_zero] at hf33_5); clear hcl33 hcc33 hfr33 hM33) | ((with_reducible refine gate_store (t := 3) (p := 53) rfl ?_); refine store_event (t := 3) (p := 53) (v := ?vo_w34) (w1 := (w32.setCell ⟨go5, (x5_1 : Int).toNat * 10 + 5, none⟩ (.int .i64 (wrap64 ((wrap64 ((wrap64 ((wrap64 ((wrap64 (x1_1 + 1)) + 1)) + 1)) + 1)) + 1))))) ?hg ?ho ?hn ?hr ?_; (case ho => rfl); (case hg => rfl); (case hn => rfl); (case hr => first | (go_simp; done) | (go_simp; rfl)); intro w34 hw; have hg : w32.grownBy w34 (some go5) := (by rw [hw]; exact HP33.2); have hp_ : Kd.R k39 39 w34 w0.heap.size (fun k_ => (P0_ k_ ∨ w.heap.size ≤ k_)) (.slice (some ⟨go5, 0, none⟩) x0_1.length co20) y167 := (by rw [hw, Ny167.out]; exact HP33.1); clear HP33; have n0_ := Aside0.mk (hp_); have n1_ := Aside0.mk ((by rw [hw]; exact below_set (HB.out) GB5.out : Below w0.heap.size w0 w34)); have n2_ := Aside0.mk (Kept.of_grown (S := (fun k_ => P0_ k_)) hg (by repeat (first | (with_reducible first | exact HK.out | apply Kept.alloc | apply Kept.drewN | apply Kept.drew) | exact HK.out)) (fun k_ e_ => (HO_0.out.1 k_ e_))); clear HO_0; clear HB; clear HK; have HO_0 := n0_; have HB := n1_; have HK := n2_; clear n0_ n1_ n2_; clear hg hw hp_; have p13 : 0 ≤ (x5_1 : Int) := of_decide_eq_true (by assumption); have q13 : (x5_1 : Int) < ((x0_1.length : Int) : Int) := of_decide_eq_true (by assumption); obtain ⟨ce13, hcl13, hM13, hcc13, hfr13⟩ := Kd.R_elem HO_0.out z39 (x5_1 : Int) p13 q13; obtain rfl := k39_openM hM13; have hx13_0 : w34.cell? ⟨go5, (x5_1 : Int).toNat * 10, none⟩ = some (.int .i64 ((rd_T39 y167 x5_1).f0)) := hcc13 0 _ rfl; have hx13_1 : w34.cell? ⟨go5, (x5_1 : Int).toNat * 10 + 1, none⟩ = some (.string ((rd_T39 y167 x5_1).f1)) := hcc13 1 _ rfl; have hx13_2 : w34.cell? ⟨go5, (x5_1 : Int).toNat * 10 + 2, none⟩ = some (.string ((rd_T39 y167 x5_1).f2)) := hcc13 2 _ rfl; have hx13_3 : w34.cell? ⟨go5, (x5_1 : Int).toNat * 10 + 3, none⟩ = some (.int .i64 ((rd_T39 y167 x5_1).f3)) := hcc13 3 _ rfl; have hx13_4 : w34.cell? ⟨go5, (x5_1 : Int).toNat * 10 + 4, none⟩ = some (.int .i64 ((rd_T39 y167 x5_1).f4)) := hcc13 4 _ rfl; have hx13_5 : w34.cell? ⟨go5, (x5_1 : Int).toNat * 10 + 5, none⟩ = some (.int .i64 ((rd_T39 y167 x5_1).f5)) := hcc13 5 _ rfl; have hx13_6 : w34.cell? ⟨go5, (x5_1 : Int).toNat * 10 + 6, none⟩ = some (.int .i64 ((rd_T39 y167 x5_1).f6)) := hcc13 6 _ rfl; have hx13_7 : w34.cell? ⟨go5, (x5_1 : Int).toNat * 10 + 7, none⟩ = some (.string ((rd_T39 y167 x5_1).f7)) := hcc13 7 _ rfl; have hx13_8 : w34.cell? ⟨go5, (x5_1 : Int).toNat * 10 + 8, none⟩ = some (.string ((rd_T39 y167 x5_1).f8)) := hcc13 8 _ rfl; have hx13_9 : w34.cell? ⟨go5, (x5_1 : Int).toNat * 10 + 9, none⟩ = some (.string ((rd_T39 y167 x5_1).f9)) := hcc13 9 _ rfl; have hf13_0 : w34.frozen? ⟨go5, (x5_1 : Int).toNat * 10, none⟩ = false := hfr13 0; have hf13_1 : w34.frozen? ⟨go5, (x5_1 : Int).toNat * 10 + 1, none⟩ = false := hfr13 1; have hf13_2 : w34.frozen? ⟨go5, (x5_1 : Int).toNat * 10 + 2, none⟩ = false := hfr13 2; have hf13_3 : w34.frozen? ⟨go5, (x5_1 : Int).toNat * 10 + 3, none⟩ = false := hfr13 3; have hf13_4 : w34.frozen? ⟨go5, (x5_1 : Int).toNat * 10 + 4, none⟩ = false := hfr13 4; have hf13_5 : w34.frozen? ⟨go5, (x5_1 : Int).toNat * 10 + 5, none⟩ = false := hfr13 5; have hf13_6 : w34.frozen? ⟨go5, (x5_1 : Int).toNat * 10 + 6, none⟩ = false := hfr13 6; have hf13_7 : w34.frozen? ⟨go5, (x5_1 : Int).toNat * 10 + 7, none⟩ = false := hfr13 7; have hf13_8 : w34.frozen? ⟨go5, (x5_1 : Int).toNat * 10 + 8, none⟩ = false := hfr13 8; have hf13_9 : w34.frozen? ⟨go5, (x5_1 : Int).toNat * 10 + 9, none⟩ = false := hfr13 9; clear hcl13 hcc13 hfr13 hM13; replace p13 := eq_true p13; replace q13 := eq_true q13; have HX35 := Aside0.mk (show Kd.R k39 39 w34 w0.heap.size (fun k_ => (P0_ k_ ∨ w.heap.size ≤ k_)) (.slice (some ⟨go5, 0, none⟩) x0_1.length co20) y167 from (by (with_reducible repeat (first | apply Kd.R_alloc | apply Kd.R_drewN | apply Kd.R_drew)); exact HO_0.out)); obtain ⟨ce35, hcl35, hM35, hcc35, hfr35⟩ := Kd.R_elem HX35.out z39 (x5_1 : Int) (of_decide_eq_true (by assumption)) (by have h_ : (x5_1 : Int) < ((x0_1.length : Int) : Int) := of_decide_eq_true (by assumption); first | exact h_ | (have e_ := (Kd.R_reads' HO_0.out).1; omega) | simpa using h_); obtain rfl := k39_openM hM35; have HP35 := Kd.R_seg HX35.out (x5_1 : Int) (of_decide_eq_true (by assumption)) (by have h_ : (x5_1 : Int) < ((x0_1.length : Int) : Int) := of_decide_eq_true (by assumption); first | exact h_ | (have e_ := (Kd.R_reads' HO_0.out).1; omega) | simpa using h_) (seg := [.int .i64 (wrap64 ((wrap64 ((wrap64 ((wrap64 ((wrap64 ((wrap64 (x1_1 + 1)) + 1)) + 1)) + 1)) + 1)) + 1))]) (j := 6) hcl35 hcc35 (show 7 ≤ 10 from by decide) (x' := (⟨(rd_T39 y167 x5_1).f0, (rd_T39 y167 x5_1).f1, (rd_T39 y167 x5_1).f2, (rd_T39 y167 x5_1).f3, (rd_T39 y167 x5_1).f4, (rd_T39 y167 x5_1).f5, wrap64 ((wrap64 ((wrap64 ((wrap64 ((wrap64 ((wrap64 (x1_1 + 1)) + 1)) + 1)) + 1)) + 1)) + 1), (rd_T39 y167 x5_1).f7, (rd_T39 y167 x5_1).f8, (rd_T39 y167 x5_1).f9⟩ : S39)) (k39_mkM _ _ _ (⟨(rd_T39 y167 x5_1).f0, (rd_T39 y167 x5_1).f1, (rd_T39 y167 x5_1).f2, (rd_T39 y167 x5_1).f3, (rd_T39 y167 x5_1).f4, (rd_T39 y167 x5_1).f5, wrap64 ((wrap64 ((wrap64 ((wrap64 ((wrap64 ((wrap64 (x1_1 + 1)) + 1)) + 1)) + 1)) + 1)) + 1), (rd_T39 y167 x5_1).f7, (rd_T39 y167 x5_1).f8, (rd_T39 y167 x5_1).f9⟩ : S39) ) (fun _ hk => hk); have hx35_6 := hcc35 6 _ rfl; (try simp only [show (k39).sz = 10 from rfl, Nat.mul_one, Nat.add_zero] at hx35_6); have hf35_6 := hfr35 6; (try simp only [show (k39).sz = 10 from rfl, Nat.mul_one, Nat.add_zero] at hf35_6); clear hcl35 hcc35 hfr35 hM35) | ((with_reducible refine gate_store (t := 3) (p := 60) rfl ?_); refine store_event (t := 3) (p := 60) (v := ?vo_w36) (w1 := (w34.setCell ⟨go5, (x5_1 : Int).toNat * 10 + 6, none⟩ (.int .i64 (wrap64 ((wrap64 ((wrap64 ((wrap64 ((wrap64 ((wrap64 (x1_1 + 1)) + 1)) + 1)) + 1)) + 1)) + 1))))) ?hg ?ho ?hn ?hr ?_; (case ho => rfl); (case hg => rfl); (case hn => rfl); (case hr => first | (go_simp; done) | (go_simp; rfl)); intro w36 hw; have hg : w34.grownBy w36 (some go5) := (by rw [hw]; exact HP35.2); have hp_ : Kd.R k39 39 w36 w0.heap.size (fun k_ => (P0_ k_ ∨ w.heap.size ≤ k_)) (.slice (some ⟨go5, 0, none⟩) x0_1.length co20) y168 := (by rw [hw, Ny168.out]; exact HP35.1); clear HP35; have n0_ := Aside0.mk (hp_); have n1_ := Aside0.mk ((by rw [hw]; exact below_set (HB.out) GB5.out : Below w0.heap.size w0 w36)); have n2_ := Aside0.mk (Kept.of_grown (S := (fun k_ => P0_ k_)) hg (by repeat (first | (with_reducible first | exact HK.out | apply Kept.alloc | apply Kept.drewN | apply Kept.drew) | exact HK.out)) (fun k_ e_ => (HO_0.out.1 k_ e_))); clear HO_0; clear HB; clear HK; have HO_0 := n0_; have HB := n1_; have HK := n2_; clear n0_ n1_ n2_; clear hg hw hp_) | ((with_reducible refine gate_callee (f := 22) rfl ?_); refine goesL_ (some 66) rfl rfl Try.func22 (by kernel_rfl) rfl #[.int .i64 (wrap64 ((wrap64 ((wrap64 ((wrap64 ((wrap64 ((wrap64 ((wrap64 (x1_1 + 1)) + 1)) + 1)) + 1)) + 1)) + 1)) + 1))] rfl (by (try simp only [List.map_toArray, List.map_cons, List.map_nil]); first | done | rfl | (simp only [List.length_drop, List.length_take]; rfl)) ?_; (with_reducible refine (laws_markText.calls k1 (wrap64 ((wrap64 ((wrap64 ((wrap64 ((wrap64 ((wrap64 ((wrap64 (x1_1 + 1)) + 1)) + 1)) + 1)) + 1)) + 1)) + 1)) t169 _ A14.out).mono ?_); rintro e w37 ⟨rfl, hb⟩; refine ⟨_, rfl, ?_⟩; have n0_ := Aside0.mk (Kd.R_below (by (with_reducible repeat (first | apply Kd.R_alloc | apply Kd.R_drewN | apply Kd.R_drew)); exact HO_0.out) hb); have n1_ := Aside0.mk (Kept.below (S := (fun k_ => P0_ k_)) (by repeat (first | (with_reducible first | exact HK.out | apply Kept.alloc | apply Kept.drewN | apply Kept.drew) | exact HK.out)) hb); have n2_ := Aside0.mk (below_step (by repeat (first | (with_reducible first | exact HB.out | apply below_alloc | apply pw_below_drewN | apply below_drew1) | exact HB.out)) hb); clear HO_0; clear HK; clear HB; have HO_0 := n0_; have HK := n1_; have HB := n2_; clear n0_ n1_ n2_; (try clear hb); (try clear hb2); (try clear hk); (try clear hi); have p15 : 0 ≤ (x5_1 : Int) := of_decide_eq_true (by assumption); have q15 : (x5_1 : Int) < ((x0_1.length : Int) : Int) := of_decide_eq_true (by assumption); obtain ⟨ce15, hcl15, hM15, hcc15, hfr15⟩ := Kd.R_elem HO_0.out z39 (x5_1 : Int) p15 q15; obtain rfl := k39_openM hM15; have hx15_0 : w37.cell? ⟨go5, (x5_1 : Int).toNat * 10, none⟩ = some (.int .i64 ((rd_T39 y168 x5_1).f0)) := hcc15 0 _ rfl; have hx15_1 : w37.cell? ⟨go5, (x5_1 : Int).toNat * 10 + 1, none⟩ = some (.string ((rd_T39 y168 x5_1).f1)) := hcc15 1 _ rfl; have hx15_2 : w37.cell? ⟨go5, (x5_1 : Int).toNat * 10 + 2, none⟩ = some (.string ((rd_T39 y168 x5_1).f2)) := hcc15 2 _ rfl; have hx15_3 : w37.cell? ⟨go5, (x5_1 : Int).toNat * 10 + 3, none⟩ = some (.int .i64 ((rd_T39 y168 x5_1).f3)) := hcc15 3 _ rfl; have hx15_4 : w37.cell? ⟨go5, (x5_1 : Int).toNat * 10 + 4, none⟩ = some (.int .i64 ((rd_T39 y168 x5_1).f4)) := hcc15 4 _ rfl; have hx15_5 : w37.cell? ⟨go5, (x5_1 : Int).toNat * 10 + 5, none⟩ = some (.int .i64 ((rd_T39 y168 x5_1).f5)) := hcc15 5 _ rfl; have hx15_6 : w37.cell? ⟨go5, (x5_1 : Int).toNat * 10 + 6, none⟩ = some (.int .i64 ((rd_T39 y168 x5_1).f6)) := hcc15 6 _ rfl; have hx15_7 : w37.cell? ⟨go5, (x5_1 : Int).toNat * 10 + 7, none⟩ = some (.string ((rd_T39 y168 x5_1).f7)) := hcc15 7 _ rfl; have hx15_8 : w37.cell? ⟨go5, (x5_1 : Int).toNat * 10 + 8, none⟩ = some (.string ((rd_T39 y168 x5_1).f8)) := hcc15 8 _ rfl; have hx15_9 : w37.cell? ⟨go5, (x5_1 : Int).toNat * 10 + 9, none⟩ = some (.string ((rd_T39 y168 x5_1).f9)) := hcc15 9 _ rfl; have hf15_0 : w37.frozen? ⟨go5, (x5_1 : Int).toNat * 10, none⟩ = false := hfr15 0; have hf15_1 : w37.frozen? ⟨go5, (x5_1 : Int).toNat * 10 + 1, none⟩ = false := hfr15 1; have hf15_2 : w37.frozen? ⟨go5, (x5_1 : Int).toNat * 10 + 2, none⟩ = false := hfr15 2; have hf15_3 : w37.frozen? ⟨go5, (x5_1 : Int).toNat * 10 + 3, none⟩ = false := hfr15 3; have hf15_4 : w37.frozen? ⟨go5, (x5_1 : Int).toNat * 10 + 4, none⟩ = false := hfr15 4; have hf15_5 : w37.frozen? ⟨go5, (x5_1 : Int).toNat * 10 + 5, none⟩ = false := hfr15 5; have hf15_6 : w37.frozen? ⟨go5, (x5_1 : Int).toNat * 10 + 6, none⟩ = false := hfr15 6; have hf15_7 : w37.frozen? ⟨go5, (x5_1 : Int).toNat * 10 + 7, none⟩ = false := hfr15 7; have hf15_8 : w37.frozen? ⟨go5, (x5_1 : Int).toNat * 10 + 8, none⟩ = false := hfr15 8; have hf15_9 : w37.frozen? ⟨go5, (x5_1 : Int).toNat * 10 + 9, none⟩ = false := hfr15 9; clear hcl15 hcc15 hfr15 hM15; replace p15 := eq_true p15; replace q15 := eq_true q15; have HX38 := Aside0.mk (show Kd.R k39 39 w37 w0.heap.size (fun k_ => (P0_ k_ ∨ w.heap.size ≤ k_)) (.slice (some ⟨go5, 0, none⟩) x0_1.length co20) y168 from (by (with_reducible repeat (first | apply Kd.R_alloc | apply Kd.R_drewN | apply Kd.R_drew)); exact HO_0.out)); obtain ⟨ce38, hcl38, hM38, hcc38, hfr38⟩ := Kd.R_elem HX38.out z39 (x5_1 : Int) (of_decide_eq_true (by assumption)) (by have h_ : (x5_1 : Int) < ((x0_1.length : Int) : Int) := of_decide_eq_true (by assumption); first | exact h_ | (have e_ := (Kd.R_reads' HO_0.out).1; omega) | simpa using h_); obtain rfl := k39_openM hM38; have HP38 := Kd.R_seg HX38.out (x5_1 : Int) (of_decide_eq_true (by assumption)) (by have h_ : (x5_1 : Int) < ((x0_1.length : Int) : Int) := of_decide_eq_true (by assumption); first | exact h_ | (have e_ := (Kd.R_reads' HO_0.out).1; omega) | simpa using h_) (seg := [.string t169]) (j := 7) hcl38 hcc38 (show 8 ≤ 10 from by decide) (x' := (⟨(rd_T39 y168 x5_1).f0, (rd_T39 y168 x5_1).f1, (rd_T39 y168 x5_1).f2, (rd_T39 y168 x5_1).f3, (rd_T39 y168 x5_1).f4, (rd_T39 y168 x5_1).f5, (rd_T39 y168 x5_1).f6, t169, (rd_T39 y168 x5_1).f8, (rd_T39 y168 x5_1).f9⟩ : S39)) (k39_mkM _ _ _ (⟨(rd_T39 y168 x5_1).f0, (rd_T39 y168 x5_1).f1, (rd_T39 y168 x5_1).f2, (rd_T39 y168 x5_1).f3, (rd_T39 y168 x5_1).f4, (rd_T39 y168 x5_1).f5, (rd_T39 y168 x5_1).f6, t169, (rd_T39 y168 x5_1).f8, (rd_T39 y168 x5_1).f9⟩ : S39) ) (fun _ hk => hk); have hx38_7 := hcc38 7 _ rfl; (try simp only [show (k39).sz = 10 from rfl, Nat.mul_one, Nat.add_zero] at hx38_7); have hf38_7 := hfr38 7; (try simp only [show (k39).sz = 10 from rfl, Nat.mul_one, Nat.add_zero] at hf38_7); clear hcl38 hcc38 hfr38 hM38) | ((with_reducible refine gate_store (t := 9) (p := 68) rfl ?_); refine store_event (t := 9) (p := 68) (v := ?vo_w39) (w1 := (w37.setCell ⟨go5, (x5_1 : Int).toNat * 10 + 7, none⟩ (.string t169))) ?hg ?ho ?hn ?hr ?_; (case ho => rfl); (case hg => rfl); (case hn => rfl); (case hr => first | (go_simp; done) | (go_simp; rfl)); intro w39 hw; have hg : w37.grownBy w39 (some go5) := (by rw [hw]; exact HP38.2); have hp_ : Kd.R k39 39 w39 w0.heap.size (fun k_ => (P0_ k_ ∨ w.heap.size ≤ k_)) (.slice (some ⟨go5, 0, none⟩) x0_1.length co20) y170 := (by rw [hw, Ny170.out]; exact HP38.1); clear HP38; have n0_ := Aside0.mk (hp_); have n1_ := Aside0.mk ((by rw [hw]; exact below_set (HB.out) GB5.out : Below w0.heap.size w0 w39)); have n2_ := Aside0.mk (Kept.of_grown (S := (fun k_ => P0_ k_)) hg (by repeat (first | (with_reducible first | exact HK.out | apply Kept.alloc | apply Kept.drewN | apply Kept.drew) | exact HK.out)) (fun k_ e_ => (HO_0.out.1 k_ e_))); clear HO_0; clear HB; clear HK; have HO_0 := n0_; have HB := n1_; have HK := n2_; clear n0_ n1_ n2_; clear hg hw hp_) | ((with_reducible refine gate_callee (f := 22) rfl ?_); refine goesL_ (some 74) rfl rfl Try.func22 (by kernel_rfl) rfl #[.int .i64 (wrap64 ((wrap64 ((wrap64 ((wrap64 ((wrap64 ((wrap64 ((wrap64 ((wrap64 (x1_1 + 1)) + 1)) + 1)) + 1)) + 1)) + 1)) + 1)) + 1))] rfl (by (try simp only [List.map_toArray, List.map_cons, List.map_nil]); first | done | rfl | (simp only [List.length_drop, List.length_take]; rfl)) ?_; (with_reducible refine (laws_markText.calls k1 (wrap64 ((wrap64 ((wrap64 ((wrap64 ((wrap64 ((wrap64 ((wrap64 ((wrap64 (x1_1 + 1)) + 1)) + 1)) + 1)) + 1)) + 1)) + 1)) + 1)) t171 _ A16.out).mono ?_); rintro e w40 ⟨rfl, hb⟩; refine ⟨_, rfl, ?_⟩; have n0_ := Aside0.mk (Kd.R_below (by (with_reducible repeat (first | apply Kd.R_alloc | apply Kd.R_drewN | apply Kd.R_drew)); exact HO_0.out) hb); have n1_ := Aside0.mk (Kept.below (S := (fun k_ => P0_ k_)) (by repeat (first | (with_reducible first | exact HK.out | apply Kept.alloc | apply Kept.drewN | apply Kept.drew) | exact HK.out)) hb); have n2_ := Aside0.mk (below_step (by repeat (first | (with_reducible first | exact HB.out | apply below_alloc | apply pw_below_drewN | apply below_drew1) | exact HB.out)) hb); clear HO_0; clear HK; clear HB; have HO_0 := n0_; have HK := n1_; have HB := n2_; clear n0_ n1_ n2_; (try clear hb); (try clear hb2); (try clear hk); (try clear hi); have p17 : 0 ≤ (x5_1 : Int) := of_decide_eq_true (by assumption); have q17 : (x5_1 : Int) < ((x0_1.length : Int) : Int) := of_decide_eq_true (by assumption); obtain ⟨ce17, hcl17, hM17, hcc17, hfr17⟩ := Kd.R_elem HO_0.out z39 (x5_1 : Int) p17 q17; obtain rfl := k39_openM hM17; have hx17_0 : w40.cell? ⟨go5, (x5_1 : Int).toNat * 10, none⟩ = some (.int .i64 ((rd_T39 y170 x5_1).f0)) := hcc17 0 _ rfl; have hx17_1 : w40.cell? ⟨go5, (x5_1 : Int).toNat * 10 + 1, none⟩ = some (.string ((rd_T39 y170 x5_1).f1)) := hcc17 1 _ rfl; have hx17_2 : w40.cell? ⟨go5, (x5_1 : Int).toNat * 10 + 2, none⟩ = some (.string ((rd_T39 y170 x5_1).f2)) := hcc17 2 _ rfl; have hx17_3 : w40.cell? ⟨go5, (x5_1 : Int).toNat * 10 + 3, none⟩ = some (.int .i64 ((rd_T39 y170 x5_1).f3)) := hcc17 3 _ rfl; have hx17_4 : w40.cell? ⟨go5, (x5_1 : Int).toNat * 10 + 4, none⟩ = some (.int .i64 ((rd_T39 y170 x5_1).f4)) := hcc17 4 _ rfl; have hx17_5 : w40.cell? ⟨go5, (x5_1 : Int).toNat * 10 + 5, none⟩ = some (.int .i64 ((rd_T39 y170 x5_1).f5)) := hcc17 5 _ rfl; have hx17_6 : w40.cell? ⟨go5, (x5_1 : Int).toNat * 10 + 6, none⟩ = some (.int .i64 ((rd_T39 y170 x5_1).f6)) := hcc17 6 _ rfl; have hx17_7 : w40.cell? ⟨go5, (x5_1 : Int).toNat * 10 + 7, none⟩ = some (.string ((rd_T39 y170 x5_1).f7)) := hcc17 7 _ rfl; have hx17_8 : w40.cell? ⟨go5, (x5_1 : Int).toNat * 10 + 8, none⟩ = some (.string ((rd_T39 y170 x5_1).f8)) := hcc17 8 _ rfl; have hx17_9 : w40.cell? ⟨go5, (x5_1 : Int).toNat * 10 + 9, none⟩ = some (.string ((rd_T39 y170 x5_1).f9)) := hcc17 9 _ rfl; have hf17_0 : w40.frozen? ⟨go5, (x5_1 : Int).toNat * 10, none⟩ = false := hfr17 0; have hf17_1 : w40.frozen? ⟨go5, (x5_1 : Int).toNat * 10 + 1, none⟩ = false := hfr17 1; have hf17_2 : w40.frozen? ⟨go5, (x5_1 : Int).toNat * 10 + 2, none⟩ = false := hfr17 2; have hf17_3 : w40.frozen? ⟨go5, (x5_1 : Int).toNat * 10 + 3, none⟩ = false := hfr17 3; have hf17_4 : w40.frozen? ⟨go5, (x5_1 : Int).toNat * 10 + 4, none⟩ = false := hfr17 4; have hf17_5 : w40.frozen? ⟨go5, (x5_1 : Int).toNat * 10 + 5, none⟩ = false := hfr17 5; have hf17_6 : w40.frozen? ⟨go5, (x5_1 : Int).toNat * 10 + 6, none⟩ = false := hfr17 6; have hf17_7 : w40.frozen? ⟨go5, (x5_1 : Int).toNat * 10 + 7, none⟩ = false := hfr17 7; have hf17_8 : w40.frozen? ⟨go5, (x5_1 : Int).toNat * 10 + 8, none⟩ = false := hfr17 8; have hf17_9 : w40.frozen? ⟨go5, (x5_1 : Int).toNat * 10 + 9, none⟩ = false := hfr17 9; clear hcl17 hcc17 hfr17 hM17; replace p17 := eq_true p17; replace q17 := eq_true q17; have HX41 := Aside0.mk (show Kd.R k39 39 w40 w0.heap.size (fun k_ => (P0_ k_ ∨ w.heap.size ≤ k_)) (.slice (some ⟨go5, 0, none⟩) x0_1.length co20) y170 from (by (with_reducible repeat (first | apply Kd.R_alloc | apply Kd.R_drewN | apply Kd.R_drew)); exact HO_0.out)); obtain ⟨ce41, hcl41, hM41, hcc41, hfr41⟩ := Kd.R_elem HX41.out z39 (x5_1 : Int) (of_decide_eq_true (by assumption)) (by have h_ : (x5_1 : Int) < ((x0_1.length : Int) : Int) := of_decide_eq_true (by assumption); first | exact h_ | (have e_ := (Kd.R_reads' HO_0.out).1; omega) | simpa using h_); obtain rfl := k39_openM hM41; have HP41 := Kd.R_seg HX41.out (x5_1 : Int) (of_decide_eq_true (by assumption)) (by have h_ : (x5_1 : Int) < ((x0_1.length : Int) : Int) := of_decide_eq_true (by assumption); first | exact h_ | (have e_ := (Kd.R_reads' HO_0.out).1; omega) | simpa using h_) (seg := [.string t171]) (j := 8) hcl41 hcc41 (show 9 ≤ 10 from by decide) (x' := (⟨(rd_T39 y170 x5_1).f0, (rd_T39 y170 x5_1).f1, (rd_T39 y170 x5_1).f2, (rd_T39 y170 x5_1).f3, (rd_T39 y170 x5_1).f4, (rd_T39 y170 x5_1).f5, (rd_T39 y170 x5_1).f6, (rd_T39 y170 x5_1).f7, t171, (rd_T39 y170 x5_1).f9⟩ : S39)) (k39_mkM _ _ _ (⟨(rd_T39 y170 x5_1).f0, (rd_T39 y170 x5_1).f1, (rd_T39 y170 x5_1).f2, (rd_T39 y170 x5_1).f3, (rd_T39 y170 x5_1).f4, (rd_T39 y170 x5_1).f5, (rd_T39 y170 x5_1).f6, (rd_T39 y170 x5_1).f7, t171, (rd_T39 y170 x5_1).f9⟩ : S39) ) (fun _ hk => hk); have hx41_8 := hcc41 8 _ rfl; (try simp only [show (k39).sz = 10 from rfl, Nat.mul_one, Nat.add_zero] at hx41_8); have hf41_8 := hfr41 8; (try simp only [show (k39).sz = 10 from rfl, Nat.mul_one, Nat.add_zero] at hf41_8); clear hcl41 hcc41 hfr41 hM41) | ((with_reducible refine gate_store (t := 9) (p := 76) rfl ?_); refine store_event (t := 9) (p := 76) (v := ?vo_w42) (w1 := (w40.setCell ⟨go5, (x5_1 : Int).toNat * 10 + 8, none⟩ (.string t171))) ?hg ?ho ?hn ?hr ?_; (case ho => rfl); (case hg => rfl); (case hn => rfl); (case hr => first | (go_simp; done) | (go_simp; rfl)); intro w42 hw; have hg : w40.grownBy w42 (some go5) := (by rw [hw]; exact HP41.2); have hp_ : Kd.R k39 39 w42 w0.heap.size (fun k_ => (P0_ k_ ∨ w.heap.size ≤ k_)) (.slice (some ⟨go5, 0, none⟩) x0_1.length co20) y172 := (by rw [hw, Ny172.out]; exact HP41.1); clear HP41; have n0_ := Aside0.mk (hp_); have n1_ := Aside0.mk ((by rw [hw]; exact below_set (HB.out) GB5.out : Below w0.heap.size w0 w42)); have n2_ := Aside0.mk (Kept.of_grown (S := (fun k_ => P0_ k_)) hg (by repeat (first | (with_reducible first | exact HK.out | apply Kept.alloc | apply Kept.drewN | apply Kept.drew) | exact HK.out)) (fun k_ e_ => (HO_0.out.1 k_ e_))); clear HO_0; clear HB; clear HK; have HO_0 := n0_; have HB := n1_; have HK := n2_; clear n0_ n1_ n2_; clear hg hw hp_) | ((with_reducible refine gate_callee (f := 22) rfl ?_); refine goesL_ (some 82) rfl rfl Try.func22 (by kernel_rfl) rfl #[.int .i64 (wrap64 ((wrap64 ((wrap64 ((wrap64 ((wrap64 ((wrap64 ((wrap64 ((wrap64 ((wrap64 (x1_1 + 1)) + 1)) + 1)) + 1)) + 1)) + 1)) + 1)) + 1)) + 1))] rfl (by (try simp only [List.map_toArray, List.map_cons, List.map_nil]); first | done | rfl | (simp only [List.length_drop, List.length_take]; rfl)) ?_; (with_reducible refine (laws_markText.calls k1 (wrap64 ((wrap64 ((wrap64 ((wrap64 ((wrap64 ((wrap64 ((wrap64 ((wrap64 ((wrap64 (x1_1 + 1)) + 1)) + 1)) + 1)) + 1)) + 1)) + 1)) + 1)) + 1)) t173 _ A18.out).mono ?_); rintro e w43 ⟨rfl, hb⟩; refine ⟨_, rfl, ?_⟩; have n0_ := Aside0.mk (Kd.R_below (by (with_reducible repeat (first | apply Kd.R_alloc | apply Kd.R_drewN | apply Kd.R_drew)); exact HO_0.out) hb); have n1_ := Aside0.mk (Kept.below (S := (fun k_ => P0_ k_)) (by repeat (first | (with_reducible first | exact HK.out | apply Kept.alloc | apply Kept.drewN | apply Kept.drew) | exact HK.out)) hb); have n2_ := Aside0.mk (below_step (by repeat (first | (with_reducible first | exact HB.out | apply below_alloc | apply pw_below_drewN | apply below_drew1) | exact HB.out)) hb); clear HO_0; clear HK; clear HB; have HO_0 := n0_; have HK := n1_; have HB := n2_; clear n0_ n1_ n2_; (try clear hb); (try clear hb2); (try clear hk); (try clear hi); have p19 : 0 ≤ (x5_1 : Int) := of_decide_eq_true (by assumption); have q19 : (x5_1 : Int) < ((x0_1.length : Int) : Int) := of_decide_eq_true (by assumption); obtain ⟨ce19, hcl19, hM19, hcc19, hfr19⟩ := Kd.R_elem HO_0.out z39 (x5_1 : Int) p19 q19; obtain rfl := k39_openM hM19; have hx19_0 : w43.cell? ⟨go5, (x5_1 : Int).toNat * 10, none⟩ = some (.int .i64 ((rd_T39 y172 x5_1).f0)) := hcc19 0 _ rfl; have hx19_1 : w43.cell? ⟨go5, (x5_1 : Int).toNat * 10 + 1, none⟩ = some (.string ((rd_T39 y172 x5_1).f1)) := hcc19 1 _ rfl; have hx19_2 : w43.cell? ⟨go5, (x5_1 : Int).toNat * 10 + 2, none⟩ = some (.string ((rd_T39 y172 x5_1).f2)) := hcc19 2 _ rfl; have hx19_3 : w43.cell? ⟨go5, (x5_1 : Int).toNat * 10 + 3, none⟩ = some (.int .i64 ((rd_T39 y172 x5_1).f3)) := hcc19 3 _ rfl; have hx19_4 : w43.cell? ⟨go5, (x5_1 : Int).toNat * 10 + 4, none⟩ = some (.int .i64 ((rd_T39 y172 x5_1).f4)) := hcc19 4 _ rfl; have hx19_5 : w43.cell? ⟨go5, (x5_1 : Int).toNat * 10 + 5, none⟩ = some (.int .i64 ((rd_T39 y172 x5_1).f5)) := hcc19 5 _ rfl; have hx19_6 : w43.cell? ⟨go5, (x5_1 : Int).toNat * 10 + 6, none⟩ = some (.int .i64 ((rd_T39 y172 x5_1).f6)) := hcc19 6 _ rfl; have hx19_7 : w43.cell? ⟨go5, (x5_1 : Int).toNat * 10 + 7, none⟩ = some (.string ((rd_T39 y172 x5_1).f7)) := hcc19 7 _ rfl; have hx19_8 : w43.cell? ⟨go5, (x5_1 : Int).toNat * 10 + 8, none⟩ = some (.string ((rd_T39 y172 x5_1).f8)) := hcc19 8 _ rfl; have hx19_9 : w43.cell? ⟨go5, (x5_1 : Int).toNat * 10 + 9, none⟩ = some (.string ((rd_T39 y172 x5_1).f9)) := hcc19 9 _ rfl; have hf19_0 : w43.frozen? ⟨go5, (x5_1 : Int).toNat * 10, none⟩ = false := hfr19 0; have hf19_1 : w43.frozen? ⟨go5, (x5_1 : Int).toNat * 10 + 1, none⟩ = false := hfr19 1; have hf19_2 : w43.frozen? ⟨go5, (x5_1 : Int).toNat * 10 + 2, none⟩ = false := hfr19 2; have hf19_3 : w43.frozen? ⟨go5, (x5_1 : Int).toNat * 10 + 3, none⟩ = false := hfr19 3; have hf19_4 : w43.frozen? ⟨go5, (x5_1 : Int).toNat * 10 + 4, none⟩ = false := hfr19 4; have hf19_5 : w43.frozen? ⟨go5, (x5_1 : Int).toNat * 10 + 5, none⟩ = false := hfr19 5; have hf19_6 : w43.frozen? ⟨go5, (x5_1 : Int).toNat * 10 + 6, none⟩ = false := hfr19 6; have hf19_7 : w43.frozen? ⟨go5, (x5_1 : Int).toNat * 10 + 7, none⟩ = false := hfr19 7; have hf19_8 : w43.frozen? ⟨go5, (x5_1 : Int).toNat * 10 + 8, none⟩ = false := hfr19 8; have hf19_9 : w43.frozen? ⟨go5, (x5_1 : Int).toNat * 10 + 9, none⟩ = false := hfr19 9; clear hcl19 hcc19 hfr19 hM19; replace p19 := eq_true p19; replace q19 := eq_true q19; have HX44 := Aside0.mk (show Kd.R k39 39 w43 w0.heap.size (fun k_ => (P0_ k_ ∨ w.heap.size ≤ k_)) (.slice (some ⟨go5, 0, none⟩) x0_1.length co20) y172 from (by (with_reducible repeat (first | apply Kd.R_alloc | apply Kd.R_drewN | apply Kd.R_drew)); exact HO_0.out)); obtain ⟨ce44, hcl44, hM44, hcc44, hfr44⟩ := Kd.R_elem HX44.out z39 (x5_1 : Int) (of_decide_eq_true (by assumption)) (by have h_ : (x5_1 : Int) < ((x0_1.length : Int) : Int) := of_decide_eq_true (by assumption); first | exact h_ | (have e_ := (Kd.R_reads' HO_0.out).1; omega) | simpa using h_); obtain rfl := k39_openM hM44; have HP44 := Kd.R_seg HX44.out (x5_1 : Int) (of_decide_eq_true (by assumption)) (by have h_ : (x5_1 : Int) < ((x0_1.length : Int) : Int) := of_decide_eq_true (by assumption); first | exact h_ | (have e_ := (Kd.R_reads' HO_0.out).1; omega) | simpa using h_) (seg := [.string t173]) (j := 9) hcl44 hcc44 (show 10 ≤ 10 from by decide) (x' := (⟨(rd_T39 y172 x5_1).f0, (rd_T39 y172 x5_1).f1, (rd_T39 y172 x5_1).f2, (rd_T39 y172 x5_1).f3, (rd_T39 y172 x5_1).f4, (rd_T39 y172 x5_1).f5, (rd_T39 y172 x5_1).f6, (rd_T39 y172 x5_1).f7, (rd_T39 y172 x5_1).f8, t173⟩ : S39)) (k39_mkM _ _ _ (⟨(rd_T39 y172 x5_1).f0, (rd_T39 y172 x5_1).f1, (rd_T39 y172 x5_1).f2, (rd_T39 y172 x5_1).f3, (rd_T39 y172 x5_1).f4, (rd_T39 y172 x5_1).f5, (rd_T39 y172 x5_1).f6, (rd_T39 y172 x5_1).f7, (rd_T39 y172 x5_1).f8, t173⟩ : S39) ) (fun _ hk => hk); have hx44_9 := hcc44 9 _ rfl; (try simp only [show (k39).sz = 10 from rfl, Nat.mul_one, Nat.add_zero] at hx44_9); have hf44_9 := hfr44 9; (try simp only [show (k39).sz = 10 from rfl, Nat.mul_one, Nat.add_zero] at hf44_9); clear hcl44 hcc44 hfr44 hM44) | ((with_reducible refine gate_store (t := 9) (p := 84) rfl ?_); refine store_event (t := 9) (p := 84) (v := ?vo_w45) (w1 := (w43.setCell ⟨go5, (x5_1 : Int).toNat * 10 + 9, none⟩ (.string t173))) ?hg ?ho ?hn ?hr ?_; (case ho => rfl); (case hg => rfl); (case hn => rfl); (case hr => first | (go_simp; done) | (go_simp; rfl)); intro w45 hw; have hg : w43.grownBy w45 (some go5) := (by rw [hw]; exact HP44.2); have hp_ : Kd.R k39 39 w45 w0.heap.size (fun k_ => (P0_ k_ ∨ w.heap.size ≤ k_)) (.slice (some ⟨go5, 0, none⟩) x0_1.length co20) y174 := (by rw [hw, Ny174.out]; exact HP44.1); clear HP44; have n0_ := Aside0.mk (hp_); have n1_ := Aside0.mk ((by rw [hw]; exact below_set (HB.out) GB5.out : Below w0.heap.size w0 w45)); have n2_ := Aside0.mk (Kept.of_grown (S := (fun k_ => P0_ k_)) hg (by repeat (first | (with_reducible first | exact HK.out | apply Kept.alloc | apply Kept.drewN | apply Kept.drew) | exact HK.out)) (fun k_ e_ => (HO_0.out.1 k_ e_))); clear HO_0; clear HB; clear HK; have HO_0 := n0_; have HB := n1_; have HK := n2_; clear n0_ n1_ n2_; clear hg hw hp_))
          go_roundg k1
          case measure => have := HK1.out; omega
          case rel => exact ⟨(y174), (wrap64 ((wrap64 ((wrap64 ((wrap64 ((wrap64 ((wrap64 ((wrap64 ((wrap64 ((wrap64 ((wrap64 (x1_1 + 1)) + 1)) + 1)) + 1)) + 1)) + 1)) + 1)) + 1)) + 1)) + 1)), (wrap64 (x5_1 + 1)), (by first | rfl | (simp; done) | (simp [*]; done)), (by first | rfl | (simp; done) | (simp [*]; done)), H', ⟨by have := HK1.out; omega⟩, ⟨by (with_reducible repeat (first | apply Kd.R_alloc | apply Kd.R_drewN | apply Kd.R_drew)); first | exact HO_0.out | exact Kd.R_mono HO_0.out (fun k_ h_ q_ => h_ (q_.trans (ownBlock_len _ _ _ _)))⟩, ⟨by repeat (first | (with_reducible first | exact HK.out | apply Kept.alloc | apply Kept.drewN | apply Kept.drew) | exact HK.out)⟩, ⟨by repeat (first | (with_reducible first | exact HB.out | apply below_alloc | apply pw_below_drewN | apply below_drew1) | exact HB.out)⟩⟩
        · rw [if_neg c4] at H
          exact absurd H (by simp)
      · rw [if_neg c3] at H
        have c3b0 : decide (x5_1 < (x0_1.length : Int)) = false := decide_eq_false c3
        clear c3
        simp only [Option.some.injEq, Prod.mk.injEq] at H
        obtain ⟨rfl, rfl⟩ := H
        obtain ⟨Ao46, co46, eo46⟩ := Kd.R_slice HO_0.out
        subst eo46
        go_wp2
        go_ret
        exact ⟨by first | rfl | (simp [errW_none, errW_some] <;> rfl) | (simp [*, errW_none, errW_some] <;> rfl) | (simp only [decide_eq_true_eq] at *; simp [*, bt]; done), by (with_reducible repeat (first | apply Kd.R_alloc | apply Kd.R_drewN | apply Kd.R_drew)); exact HO_0.out, by repeat (first | (with_reducible first | exact HB.out | apply below_alloc | apply pw_below_drewN | apply below_drew1) | exact HB.out), by repeat (first | (with_reducible first | exact HK.out | apply Kept.alloc | apply Kept.drewN | apply Kept.drew) | exact HK.out)⟩

/-! ### laws_markStringS: function 12 -/
def laws_markStringS.l0 : Nat → List ByteArray → Int → Int → Option (Int × List ByteArray)
  | 0, _, _, _ => none
  | k + 1, x0, x1, x5 => if x5 < (x0.length : Int) then ((laws_markText.f k x1).bind fun t175 => (if 0 ≤ x5 then (laws_markStringS.l0 k (x0.set (x5 : Int).toNat t175) (wrap64 (x1 + 1)) (wrap64 (x5 + 1))) else (none))) else (some (x1, x0))
def laws_markStringS.f (k : Nat) (l0 : List ByteArray) (a1 : Int) : Option (Int × List ByteArray) := laws_markStringS.l0 k l0 a1 0
theorem laws_markStringS.mono_l : ∀ k, (∀ y0 y1 y2, LeO (laws_markStringS.l0 k y0 y1 y2) (laws_markStringS.l0 (k + 1) y0 y1 y2))
  | 0 => fun _ _ _ r h => by simp [laws_markStringS.l0] at h
  | k + 1 => by
    have ih0 := laws_markStringS.mono_l k
    · intro y0 y1 y2
      unfold laws_markStringS.l0
      repeat' first
      | (with_reducible exact ih0 _ _ _)
      | (with_reducible exact laws_markText.mono _ _)
      | (with_reducible exact LeO.refl _)
      | (with_reducible exact LeO.none _)
      | (with_reducible refine LeO.ite ?_ ?_)
      | (with_reducible refine LeO.bind ?_ (fun _ => ?_))
      | exact ih0 _ _ _
      | exact laws_markText.mono _ _
      | exact LeO.none _
      | refine LeO.ite ?_ ?_
      | refine LeO.bind ?_ (fun _ => ?_)
theorem laws_markStringS.mono : ∀ a0 a1 k, LeO (laws_markStringS.f k a0 a1) (laws_markStringS.f (k + 1) a0 a1) := by
  intro a0 a1 k
  have ih0 := laws_markStringS.mono_l k
  unfold laws_markStringS.f
  repeat' first
      | (with_reducible exact ih0 _ _ _)
      | (with_reducible exact laws_markText.mono _ _)
      | (with_reducible exact LeO.refl _)
      | (with_reducible exact LeO.none _)
      | (with_reducible refine LeO.ite ?_ ?_)
      | (with_reducible refine LeO.bind ?_ (fun _ => ?_))
      | exact ih0 _ _ _
      | exact laws_markText.mono _ _
      | exact LeO.none _
      | refine LeO.ite ?_ ?_
      | refine LeO.bind ?_ (fun _ => ?_)
set_option maxHeartbeats 8000000 in
set_option maxRecDepth 100000 in
theorem laws_markStringS.calls (k : Nat) (P0_ : Nat → Prop) (u9000_ : Value) (l0 : List ByteArray) (a1 : Int) (r1 : Int) (r2 : List ByteArray) (w0 w : World) (hB : Below w0.heap.size w0 w) (ho0 : Kd.R Kd.string 9 w w0.heap.size P0_ u9000_ l0) (h : laws_markStringS.f k l0 a1 = some (r1, r2)) :
    Calls Try.prog 12 #[u9000_, .int .i64 a1] w fun e w' => e = .returned (.int .i64 r1) ∧ Kd.R Kd.string 9 w' w0.heap.size (fun k_ => (P0_ k_ ∨ w.heap.size ≤ k_)) u9000_ r2 ∧ Below w0.heap.size w0 w' ∧ Kept w w' (fun k_ => P0_ k_) := by
  have HO0 := Aside0.mk (show Kd.R Kd.string 9 w w0.heap.size (fun k_ => (P0_ k_ ∨ w.heap.size ≤ k_)) u9000_ l0 from Kd.R_mono ho0 (fun k_ hk => (.inl hk)))
  have HK := Aside0.mk (Kept.refl w (fun k_ => P0_ k_))
  have HW0 := Aside0.mk hB.size
  have HB := Aside0.mk hB
  clear hB
  have H : (laws_markStringS.l0 k l0 a1 0) = some (r1, r2) := h
  clear h
  have H' := Aside0.mk H
  clear H
  go_enter Try.func12, Try.ntmps12
  go_wp2
  go_loopg [1, 5] k (fun kq v1 v5 w' => ∃ (x0_1 : List ByteArray) (x1_1 : Int) (x5_1 : Int), v1 = .int .i64 x1_1 ∧ v5 = .int .i64 x5_1 ∧ Aside0 (laws_markStringS.l0 kq x0_1 x1_1 x5_1 = some (r1, r2)) ∧ Aside0 (kq ≤ k) ∧ Aside0 (Kd.R Kd.string 9 w' w0.heap.size (fun k_ => (P0_ k_ ∨ w.heap.size ≤ k_)) u9000_ x0_1) ∧ Aside0 (Kept w w' (fun k_ => P0_ k_)) ∧ Aside0 (Below w0.heap.size w0 w'))
  case atStart => exact ⟨(l0), (a1), (0), (by first | rfl | (simp; done) | (simp [*]; done)), (by first | rfl | (simp; done) | (simp [*]; done)), H', ⟨Nat.le_refl _⟩, ⟨by (with_reducible repeat (first | apply Kd.R_alloc | apply Kd.R_drewN | apply Kd.R_drew)); first | exact HO0.out | exact Kd.R_mono HO0.out (fun k_ h_ q_ => h_ (q_.trans (ownBlock_len _ _ _ _)))⟩, ⟨by repeat (first | (with_reducible first | exact HK.out | apply Kept.alloc | apply Kept.drewN | apply Kept.drew) | exact HK.out)⟩, ⟨by repeat (first | (with_reducible first | exact HB.out | apply below_alloc | apply pw_below_drewN | apply below_drew1) | exact HB.out)⟩⟩
  case round =>
    clear H'
    try clear c1
    try clear p2
    obtain ⟨x0_1, x1_1, x5_1, rfl, rfl, HA, HK1, HO_0, HK, HB⟩ := hrel
    cases gk with
    | zero => exact absurd HA.out (by simp [laws_markStringS.l0])
    | succ k1 =>
      have H := HA.out
      clear HA
      simp only [laws_markStringS.l0] at H
      by_cases c3 : x5_1 < (x0_1.length : Int)
      · rw [if_pos c3] at H
        have c3b0 : decide (x5_1 < (x0_1.length : Int)) = true := decide_eq_true c3
        clear c3
        replace H := Option.bind_eq_some_iff.mp H
        obtain ⟨t175, A40, H⟩ := H
        replace H : (if 0 ≤ x5_1 then (laws_markStringS.l0 k1 (x0_1.set (x5_1 : Int).toNat t175) (wrap64 (x1_1 + 1)) (wrap64 (x5_1 + 1))) else (none)) = some (r1, r2) := H
        have A4 := Aside0.mk A40
        clear A40
        by_cases c5 : 0 ≤ x5_1
        · rw [if_pos c5] at H
          have c5b0 : decide (0 ≤ x5_1) = true := decide_eq_true c5
          clear c5
          obtain ⟨y176, hy176⟩ : ∃ y_ : List ByteArray, y_ = (x0_1.set (x5_1 : Int).toNat t175) := ⟨_, rfl⟩
          replace H : (laws_markStringS.l0 k1 y176 (wrap64 (x1_1 + 1)) (wrap64 (x5_1 + 1))) = some (r1, r2) := by first | (rw [hy176]; with_reducible exact H) | (have H2_ := (Option.bind_some _ _).symm.trans H; rw [hy176]; with_reducible exact H2_) | (have H2_ := (Option.bind_some _ _).symm.trans H; with_reducible exact H2_) | with_reducible exact H | (rw [hy176]; exact H) | exact H
          have Ny176 := Aside0.mk hy176
          clear hy176
          have H' := Aside0.mk H
          clear H
          obtain ⟨Ao7, co7, eo7⟩ := Kd.R_slice HO_0.out
          subst eo7
          go_wp2_with (first | ((with_reducible refine gate_callee (f := 22) rfl ?_); refine goesL_ (some 15) rfl rfl Try.func22 (by kernel_rfl) rfl #[.int .i64 x1_1] rfl (by (try simp only [List.map_toArray, List.map_cons, List.map_nil]); first | done | rfl | (simp only [List.length_drop, List.length_take]; rfl)) ?_; (with_reducible refine (laws_markText.calls k1 x1_1 t175 _ A4.out).mono ?_); rintro e w8 ⟨rfl, hb⟩; refine ⟨_, rfl, ?_⟩; have n0_ := Aside0.mk (Kd.R_below (by (with_reducible repeat (first | apply Kd.R_alloc | apply Kd.R_drewN | apply Kd.R_drew)); exact HO_0.out) hb); have n1_ := Aside0.mk (Kept.below (S := (fun k_ => P0_ k_)) (by repeat (first | (with_reducible first | exact HK.out | apply Kept.alloc | apply Kept.drewN | apply Kept.drew) | exact HK.out)) hb); have n2_ := Aside0.mk (below_step (by repeat (first | (with_reducible first | exact HB.out | apply below_alloc | apply pw_below_drewN | apply below_drew1) | exact HB.out)) hb); clear HO_0; clear HK; clear HB; have HO_0 := n0_; have HK := n1_; have HB := n2_; clear n0_ n1_ n2_; (try clear hb); (try clear hb2); (try clear hk); (try clear hi); have p6 : 0 ≤ (x5_1 : Int) := of_decide_eq_true (by assumption); have q6 : (x5_1 : Int) < ((x0_1.length : Int) : Int) := of_decide_eq_true (by assumption); obtain ⟨go6, co6, eo6, gb6, gl6, cl6, HG6⟩ := Kd.R_form HO_0.out (by omega); (first | cases eo6 | (injection eo6 with ea_ en_ ec_; (first | subst ea_ | (injection ea_ with ea_; subst ea_)); subst ec_; clear en_)); have GB6 := Aside0.mk gb6; have GG6 := Aside0.mk HG6; clear gb6 gl6 HG6; have HMgo6 := Aside0.mk (show (P0_ go6 ∨ w.heap.size ≤ go6) from (HO_0.out.1 _ rfl)); obtain ⟨hx6_0, hf6_0⟩ := Kd.R_celln (⟨#[]⟩ : ByteArray) HO_0.out (x5_1 : Int) p6 q6; replace p6 := eq_true p6; replace q6 := eq_true q6; obtain ⟨hy9_, hz9_⟩ := Kd.R_celln (⟨#[]⟩ : ByteArray) HO_0.out (x5_1 : Int) (of_decide_eq_true (by assumption)) (of_decide_eq_true (by assumption)); have HP9 := Kd.R_putg HO_0.out (x5_1 : Int) t175) | ((with_reducible refine gate_store (t := 9) (p := 16) rfl ?_); refine store_event (t := 9) (p := 16) (v := ?vo_w10) (w1 := (w8.setCell ⟨go6, (x5_1 : Int).toNat, none⟩ (.string t175))) ?hg ?ho ?hn ?hr ?_; (case ho => rfl); (case hg => rfl); (case hn => rfl); (case hr => first | (go_simp; done) | (go_simp; rfl)); intro w10 hw; have hg : w8.grownBy w10 (some go6) := (by rw [hw]; exact HP9.2); have hp_ : Kd.R Kd.string 9 w10 w0.heap.size (fun k_ => (P0_ k_ ∨ w.heap.size ≤ k_)) (.slice (some ⟨go6, 0, none⟩) x0_1.length co7) y176 := (by rw [hw, Ny176.out]; exact HP9.1); clear HP9; have n0_ := Aside0.mk (hp_); have n1_ := Aside0.mk ((by rw [hw]; exact below_set (HB.out) GB6.out : Below w0.heap.size w0 w10)); have n2_ := Aside0.mk (Kept.of_grown (S := (fun k_ => P0_ k_)) hg (by repeat (first | (with_reducible first | exact HK.out | apply Kept.alloc | apply Kept.drewN | apply Kept.drew) | exact HK.out)) (fun k_ e_ => (HO_0.out.1 k_ e_))); clear HO_0; clear HB; clear HK; have HO_0 := n0_; have HB := n1_; have HK := n2_; clear n0_ n1_ n2_; clear hg hw hp_))
          go_roundg k1
          case measure => have := HK1.out; omega
          case rel => exact ⟨(y176), (wrap64 (x1_1 + 1)), (wrap64 (x5_1 + 1)), (by first | rfl | (simp; done) | (simp [*]; done)), (by first | rfl | (simp; done) | (simp [*]; done)), H', ⟨by have := HK1.out; omega⟩, ⟨by (with_reducible repeat (first | apply Kd.R_alloc | apply Kd.R_drewN | apply Kd.R_drew)); first | exact HO_0.out | exact Kd.R_mono HO_0.out (fun k_ h_ q_ => h_ (q_.trans (ownBlock_len _ _ _ _)))⟩, ⟨by repeat (first | (with_reducible first | exact HK.out | apply Kept.alloc | apply Kept.drewN | apply Kept.drew) | exact HK.out)⟩, ⟨by repeat (first | (with_reducible first | exact HB.out | apply below_alloc | apply pw_below_drewN | apply below_drew1) | exact HB.out)⟩⟩
        · rw [if_neg c5] at H
          exact absurd H (by simp)
      · rw [if_neg c3] at H
        have c3b0 : decide (x5_1 < (x0_1.length : Int)) = false := decide_eq_false c3
        clear c3
        simp only [Option.some.injEq, Prod.mk.injEq] at H
        obtain ⟨rfl, rfl⟩ := H
        obtain ⟨Ao11, co11, eo11⟩ := Kd.R_slice HO_0.out
        subst eo11
        go_wp2
        go_ret
        exact ⟨by first | rfl | (simp [errW_none, errW_some] <;> rfl) | (simp [*, errW_none, errW_some] <;> rfl) | (simp only [decide_eq_true_eq] at *; simp [*, bt]; done), by (with_reducible repeat (first | apply Kd.R_alloc | apply Kd.R_drewN | apply Kd.R_drew)); exact HO_0.out, by repeat (first | (with_reducible first | exact HB.out | apply below_alloc | apply pw_below_drewN | apply below_drew1) | exact HB.out), by repeat (first | (with_reducible first | exact HK.out | apply Kept.alloc | apply Kept.drewN | apply Kept.drew) | exact HK.out)⟩

end Go.Proofs.Ytgmggpgcfonmgaa.PFnExactAlike
