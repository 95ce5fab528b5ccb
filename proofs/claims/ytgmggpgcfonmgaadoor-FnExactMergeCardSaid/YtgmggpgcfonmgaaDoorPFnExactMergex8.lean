-- PRINTED for this claim by a program of this session's repo over the kit's printer, with contracts of our own among the functions.
import Derived.Test.YtgmggpgcfonmgaaDoorPFnExactMergex0
import Derived.Test.YtgmggpgcfonmgaaDoorPFnExactMergex5
import Derived.Test.YtgmggpgcfonmgaaDoorPFnExactMergex6
import Derived.Test.YtgmggpgcfonmgaaDoorPFnExactMergex7
namespace Go.Proofs.YtgmggpgcfonmgaaDoor.PFnExactMerge
open Go.RowKit Go.Proofs.YtgmggpgcfonmgaaDoorW.PrintWords Go.Proofs.YtgmggpgcfonmgaaDoorW.PrintLast Go.Proofs.YtgmggpgcfonmgaaDoorW.PrintMore
attribute [local go_sem] max2_int min2_int max_two min_two max_three min_three max_four min_four   -- for this text's walks alone
set_option linter.unusedVariables false
set_option linter.unusedSimpArgs false

/-! ### impl_EntryOk: function 36 -/
def impl_EntryOk.j0 : Nat → Bool → Int → ByteArray → ByteArray → Int → Int → Int → Int → ByteArray → ByteArray → ByteArray → Option (Bool)
  | 0, _, _, _, _, _, _, _, _, _, _, _ => none
  | k + 1, x42, x219000, x219001, x219002, x219003, x219004, x219005, x219006, x219007, x219008, x219009 => if x42 = true then (some false) else (if x219000 = 0 then (if (x219009.size : Int) ≤ 3000 then (some (x219002.toList == ([] : List UInt8))) else (some false)) else (if x219000 = 1 then (if x219002.toList = ([] : List UInt8) then (some (x219009.toList == ([] : List UInt8))) else (some false)) else (if x219000 = 2 then ((impl_within.f (x219002.size : Int) 1 150).bind fun t226 => (if t226 = true then ((impl_areBytes.f x219002 74).bind fun t227 => (if t227 = true then (some (x219009.toList == ([] : List UInt8))) else (some false))) else (some false))) else (if x219000 = 3 then ((impl_PathOk.f k x219002).bind fun t228 => (if t228 = true then (if x219002.toList = x219001.toList then (some false) else (some (x219009.toList == ([] : List UInt8)))) else (some false))) else (some false)))))
def impl_EntryOk.f (k : Nat) (a0_0 : Int) (a0_1 : ByteArray) (a0_2 : ByteArray) (a0_3 : Int) (a0_4 : Int) (a0_5 : Int) (a0_6 : Int) (a0_7 : ByteArray) (a0_8 : ByteArray) (a0_9 : ByteArray) : Option (Bool) := (impl_PathOk.f k a0_1).bind fun t219 => (if t219 = true then ((impl_within.f a0_3 0 4095).bind fun t220 => (if t220 = true then ((impl_within.f a0_4 0 4294967295).bind fun t221 => (if t221 = true then ((impl_within.f a0_5 0 4294967295).bind fun t222 => (if t222 = true then ((impl_within.f a0_6 0 99999999999).bind fun t223 => (if t223 = true then ((impl_isUser.f a0_7).bind fun t224 => (if t224 = true then ((impl_isUser.f a0_8).bind fun t225 => (impl_EntryOk.j0 k (!t225) a0_0 a0_1 a0_2 a0_3 a0_4 a0_5 a0_6 a0_7 a0_8 a0_9)) else (impl_EntryOk.j0 k true a0_0 a0_1 a0_2 a0_3 a0_4 a0_5 a0_6 a0_7 a0_8 a0_9))) else (impl_EntryOk.j0 k true a0_0 a0_1 a0_2 a0_3 a0_4 a0_5 a0_6 a0_7 a0_8 a0_9))) else (impl_EntryOk.j0 k true a0_0 a0_1 a0_2 a0_3 a0_4 a0_5 a0_6 a0_7 a0_8 a0_9))) else (impl_EntryOk.j0 k true a0_0 a0_1 a0_2 a0_3 a0_4 a0_5 a0_6 a0_7 a0_8 a0_9))) else (impl_EntryOk.j0 k true a0_0 a0_1 a0_2 a0_3 a0_4 a0_5 a0_6 a0_7 a0_8 a0_9))) else (impl_EntryOk.j0 k true a0_0 a0_1 a0_2 a0_3 a0_4 a0_5 a0_6 a0_7 a0_8 a0_9))
theorem impl_EntryOk.mono_l : ∀ k, (∀ y0 y1 y2 y3 y4 y5 y6 y7 y8 y9 y10, LeO (impl_EntryOk.j0 k y0 y1 y2 y3 y4 y5 y6 y7 y8 y9 y10) (impl_EntryOk.j0 (k + 1) y0 y1 y2 y3 y4 y5 y6 y7 y8 y9 y10))
  | 0 => fun _ _ _ _ _ _ _ _ _ _ _ r h => by simp [impl_EntryOk.j0] at h
  | k + 1 => by
    have ih0 := impl_EntryOk.mono_l k
    {
    intro y0 y1 y2 y3 y4 y5 y6 y7 y8 y9 y10
    unfold impl_EntryOk.j0
    repeat' first
    | (with_reducible exact ih0 _ _ _ _ _ _ _ _ _ _ _)
    | (with_reducible exact impl_PathOk.mono _ _)
    | (with_reducible exact LeO.refl _)
    | (with_reducible exact LeO.none _)
    | (with_reducible refine LeO.ite ?_ ?_)
    | (with_reducible refine LeO.bind ?_ (fun _ => ?_))
    | exact ih0 _ _ _ _ _ _ _ _ _ _ _
    | exact impl_PathOk.mono _ _
    | exact LeO.none _
    | refine LeO.ite ?_ ?_
    | refine LeO.bind ?_ (fun _ => ?_)
    }
theorem impl_EntryOk.mono : ∀ a0 a1 a2 a3 a4 a5 a6 a7 a8 a9 k, LeO (impl_EntryOk.f k a0 a1 a2 a3 a4 a5 a6 a7 a8 a9) (impl_EntryOk.f (k + 1) a0 a1 a2 a3 a4 a5 a6 a7 a8 a9) := by
  intro a0 a1 a2 a3 a4 a5 a6 a7 a8 a9 k
  have ih0 := impl_EntryOk.mono_l k
  unfold impl_EntryOk.f
  repeat' first
      | (with_reducible exact ih0 _ _ _ _ _ _ _ _ _ _ _)
      | (with_reducible exact impl_PathOk.mono _ _)
      | (with_reducible exact LeO.refl _)
      | (with_reducible exact LeO.none _)
      | (with_reducible refine LeO.ite ?_ ?_)
      | (with_reducible refine LeO.bind ?_ (fun _ => ?_))
      | exact ih0 _ _ _ _ _ _ _ _ _ _ _
      | exact impl_PathOk.mono _ _
      | exact LeO.none _
      | refine LeO.ite ?_ ?_
      | refine LeO.bind ?_ (fun _ => ?_)
set_option maxHeartbeats 8000000 in
set_option maxRecDepth 100000 in
theorem impl_EntryOk.calls (k : Nat) (a0_0 : Int) (a0_1 : ByteArray) (a0_2 : ByteArray) (a0_3 : Int) (a0_4 : Int) (a0_5 : Int) (a0_6 : Int) (a0_7 : ByteArray) (a0_8 : ByteArray) (a0_9 : ByteArray) (r : Bool) (w : World) (h : impl_EntryOk.f k a0_0 a0_1 a0_2 a0_3 a0_4 a0_5 a0_6 a0_7 a0_8 a0_9 = some r) :
    Calls Tryd.prog 36 #[.agg #[.int .i64 a0_0, .string a0_1, .string a0_2, .int .i64 a0_3, .int .i64 a0_4, .int .i64 a0_5, .int .i64 a0_6, .string a0_7, .string a0_8, .string a0_9]] w fun e w' => e = .returned (.bool r) ∧ Below w.heap.size w w' := by
  have hu36 := Tryd.underlying36
  have HB := Aside0.mk (Below.refl w.heap.size w)
  have H : ((impl_PathOk.f k a0_1).bind fun t219 => (if t219 = true then ((impl_within.f a0_3 0 4095).bind fun t220 => (if t220 = true then ((impl_within.f a0_4 0 4294967295).bind fun t221 => (if t221 = true then ((impl_within.f a0_5 0 4294967295).bind fun t222 => (if t222 = true then ((impl_within.f a0_6 0 99999999999).bind fun t223 => (if t223 = true then ((impl_isUser.f a0_7).bind fun t224 => (if t224 = true then ((impl_isUser.f a0_8).bind fun t225 => (impl_EntryOk.j0 k (!t225) a0_0 a0_1 a0_2 a0_3 a0_4 a0_5 a0_6 a0_7 a0_8 a0_9)) else (impl_EntryOk.j0 k true a0_0 a0_1 a0_2 a0_3 a0_4 a0_5 a0_6 a0_7 a0_8 a0_9))) else (impl_EntryOk.j0 k true a0_0 a0_1 a0_2 a0_3 a0_4 a0_5 a0_6 a0_7 a0_8 a0_9))) else (impl_EntryOk.j0 k true a0_0 a0_1 a0_2 a0_3 a0_4 a0_5 a0_6 a0_7 a0_8 a0_9))) else (impl_EntryOk.j0 k true a0_0 a0_1 a0_2 a0_3 a0_4 a0_5 a0_6 a0_7 a0_8 a0_9))) else (impl_EntryOk.j0 k true a0_0 a0_1 a0_2 a0_3 a0_4 a0_5 a0_6 a0_7 a0_8 a0_9))) else (impl_EntryOk.j0 k true a0_0 a0_1 a0_2 a0_3 a0_4 a0_5 a0_6 a0_7 a0_8 a0_9))) = some r := h
  clear h
  have HC2 := Aside0.mk H
  clear H
  go_enter Tryd.func36, Tryd.ntmps36
  go_upto_region 1 with (first | ((with_reducible refine gate_dst (N := 1) rfl ?_); refine box_event ?hg (N := 1) ?hd (cs := #[.int .i64 a0_0, .string a0_1, .string a0_2, .int .i64 a0_3, .int .i64 a0_4, .int .i64 a0_5, .int .i64 a0_6, .string a0_7, .string a0_8, .string a0_9]) (t := 36) ?hr ?_; (case hd => rfl); (case hg => rfl); (case hr => first | (go_simp; done) | (go_simp; rfl)); intro gb218 hg w3 hbox hb; have n0_ := Aside0.mk (below_step (by repeat (first | (with_reducible first | exact HB.out | apply below_alloc | apply pw_below_drewN | apply below_drew1) | exact HB.out)) hb); have n1_ := Aside0.mk (hbox); have n2_ := Aside0.mk ((by rw [hg]; exact (below_size (by repeat (first | (with_reducible first | exact HB.out | apply below_alloc | apply pw_below_drewN | apply below_drew1) | exact HB.out))) : w.heap.size ≤ gb218)); have n3_ := Aside0.mk ((by rw [hg]; exact (below_size (by repeat (first | (with_reducible first | exact HB.out | apply below_alloc | apply pw_below_drewN | apply below_drew1) | exact HB.out))) : w.heap.size ≤ gb218)); clear HB; have HB := n0_; have BK218 := n1_; have GW218 := n2_; have GE218 := n3_; clear n0_ n1_ n2_ n3_; clear hb hbox hg))
  (try simp only [Act.put, List.setIfInBounds_toArray, List.set_cons_zero, List.set_cons_succ])
  go_cut [42] (fun v42 wc => ∃ (kq : Nat) (x42_1 : Bool), v42 = .bool x42_1 ∧ Aside0 (impl_EntryOk.j0 kq x42_1 a0_0 a0_1 a0_2 a0_3 a0_4 a0_5 a0_6 a0_7 a0_8 a0_9 = some r) ∧ Aside0 (kq ≤ k) ∧ Aside0 (wc.heap[gb218]? = some (.cells #[.int .i64 a0_0, .string a0_1, .string a0_2, .int .i64 a0_3, .int .i64 a0_4, .int .i64 a0_5, .int .i64 a0_6, .string a0_7, .string a0_8, .string a0_9] 36 (0, 0))) ∧ Aside0 (Below w.heap.size w wc))
  case first =>
    have H := HC2.out
    clear HC2
    replace H := Option.bind_eq_some_iff.mp H
    obtain ⟨t219, A40, H⟩ := H
    try dsimp only at H
    have A4 := Aside0.mk A40
    clear A40
    by_cases c5 : t219 = true
    {
    subst c5
    have H1 := H; rw [if_pos rfl] at H1
    clear H
    have H := H1
    clear H1
    replace H := Option.bind_eq_some_iff.mp H
    obtain ⟨t220, A60, H⟩ := H
    try dsimp only at H
    have A6 := Aside0.mk A60
    clear A60
    by_cases c7 : t220 = true
    {
    subst c7
    have H1 := H; rw [if_pos rfl] at H1
    clear H
    have H := H1
    clear H1
    replace H := Option.bind_eq_some_iff.mp H
    obtain ⟨t221, A80, H⟩ := H
    try dsimp only at H
    have A8 := Aside0.mk A80
    clear A80
    by_cases c9 : t221 = true
    {
    subst c9
    have H1 := H; rw [if_pos rfl] at H1
    clear H
    have H := H1
    clear H1
    replace H := Option.bind_eq_some_iff.mp H
    obtain ⟨t222, A100, H⟩ := H
    try dsimp only at H
    have A10 := Aside0.mk A100
    clear A100
    by_cases c11 : t222 = true
    {
    subst c11
    have H1 := H; rw [if_pos rfl] at H1
    clear H
    have H := H1
    clear H1
    replace H := Option.bind_eq_some_iff.mp H
    obtain ⟨t223, A120, H⟩ := H
    try dsimp only at H
    have A12 := Aside0.mk A120
    clear A120
    by_cases c13 : t223 = true
    {
    subst c13
    have H1 := H; rw [if_pos rfl] at H1
    clear H
    have H := H1
    clear H1
    replace H := Option.bind_eq_some_iff.mp H
    obtain ⟨t224, A140, H⟩ := H
    replace H : (if t224 = true then ((impl_isUser.f a0_8).bind fun t225 => (impl_EntryOk.j0 k (!t225) a0_0 a0_1 a0_2 a0_3 a0_4 a0_5 a0_6 a0_7 a0_8 a0_9)) else (impl_EntryOk.j0 k true a0_0 a0_1 a0_2 a0_3 a0_4 a0_5 a0_6 a0_7 a0_8 a0_9)) = some r := H
    have A14 := Aside0.mk A140
    clear A140
    by_cases c15 : t224 = true
    {
    subst c15
    have H1 : ((impl_isUser.f a0_8).bind fun t225 => (impl_EntryOk.j0 k (!t225) a0_0 a0_1 a0_2 a0_3 a0_4 a0_5 a0_6 a0_7 a0_8 a0_9)) = some r := by rw [if_pos rfl] at H; exact H
    clear H
    have H := H1
    clear H1
    replace H := Option.bind_eq_some_iff.mp H
    obtain ⟨t225, A160, H⟩ := H
    replace H : (impl_EntryOk.j0 k (!t225) a0_0 a0_1 a0_2 a0_3 a0_4 a0_5 a0_6 a0_7 a0_8 a0_9) = some r := H
    have A16 := Aside0.mk A160
    clear A160
    have H' := Aside0.mk H
    clear H
    have hcz17_0 : w3.cell? ⟨gb218, 0, none⟩ = some (.int .i64 a0_0) := (blk_cell BK218.out 0).trans rfl
    have hcz17_1 : w3.cell? ⟨gb218, 1, none⟩ = some (.string a0_1) := (blk_cell BK218.out 1).trans rfl
    have hcz17_2 : w3.cell? ⟨gb218, 2, none⟩ = some (.string a0_2) := (blk_cell BK218.out 2).trans rfl
    have hcz17_3 : w3.cell? ⟨gb218, 3, none⟩ = some (.int .i64 a0_3) := (blk_cell BK218.out 3).trans rfl
    have hcz17_4 : w3.cell? ⟨gb218, 4, none⟩ = some (.int .i64 a0_4) := (blk_cell BK218.out 4).trans rfl
    have hcz17_5 : w3.cell? ⟨gb218, 5, none⟩ = some (.int .i64 a0_5) := (blk_cell BK218.out 5).trans rfl
    have hcz17_6 : w3.cell? ⟨gb218, 6, none⟩ = some (.int .i64 a0_6) := (blk_cell BK218.out 6).trans rfl
    have hcz17_7 : w3.cell? ⟨gb218, 7, none⟩ = some (.string a0_7) := (blk_cell BK218.out 7).trans rfl
    have hcz17_8 : w3.cell? ⟨gb218, 8, none⟩ = some (.string a0_8) := (blk_cell BK218.out 8).trans rfl
    have hcz17_9 : w3.cell? ⟨gb218, 9, none⟩ = some (.string a0_9) := (blk_cell BK218.out 9).trans rfl
    have hfz17_0 := blk_frozen BK218.out 0
    have hfz17_1 := blk_frozen BK218.out 1
    have hfz17_2 := blk_frozen BK218.out 2
    have hfz17_3 := blk_frozen BK218.out 3
    have hfz17_4 := blk_frozen BK218.out 4
    have hfz17_5 := blk_frozen BK218.out 5
    have hfz17_6 := blk_frozen BK218.out 6
    have hfz17_7 := blk_frozen BK218.out 7
    have hfz17_8 := blk_frozen BK218.out 8
    have hfz17_9 := blk_frozen BK218.out 9
    go_wp2_with (first | ((with_reducible refine gate_callee (f := 71) rfl ?_); refine goesL_ (some 5) rfl rfl Tryd.func71 (by kernel_rfl) rfl #[.string a0_1] rfl (by (try simp only [List.map_toArray, List.map_cons, List.map_nil]); first | done | rfl | (simp only [List.length_drop, List.length_take]; rfl)) ?_; (with_reducible refine (impl_PathOk.calls k a0_1 true _ A4.out).mono ?_); rintro e w18 ⟨rfl, hb⟩; refine ⟨_, rfl, ?_⟩; have n0_ := Aside0.mk (blk_below (g := gb218) (o := .cells #[.int .i64 a0_0, .string a0_1, .string a0_2, .int .i64 a0_3, .int .i64 a0_4, .int .i64 a0_5, .int .i64 a0_6, .string a0_7, .string a0_8, .string a0_9] 36 (0, 0)) (by (with_reducible repeat (first | refine blk_drewN ?_ _ | refine blk_drew ?_ | refine blk_alloc ?_ _)); exact BK218.out) hb); have n1_ := Aside0.mk (below_step (by repeat (first | (with_reducible first | exact HB.out | apply below_alloc | apply pw_below_drewN | apply below_drew1 | refine below_set ?_ GE218.out) | exact HB.out)) hb); clear BK218; clear HB; have BK218 := n0_; have HB := n1_; clear n0_ n1_; (try clear hb); (try clear hb2); (try clear hk); (try clear hi); have hcz19_0 : w18.cell? ⟨gb218, 0, none⟩ = some (.int .i64 a0_0) := (blk_cell BK218.out 0).trans rfl; have hcz19_1 : w18.cell? ⟨gb218, 1, none⟩ = some (.string a0_1) := (blk_cell BK218.out 1).trans rfl; have hcz19_2 : w18.cell? ⟨gb218, 2, none⟩ = some (.string a0_2) := (blk_cell BK218.out 2).trans rfl; have hcz19_3 : w18.cell? ⟨gb218, 3, none⟩ = some (.int .i64 a0_3) := (blk_cell BK218.out 3).trans rfl; have hcz19_4 : w18.cell? ⟨gb218, 4, none⟩ = some (.int .i64 a0_4) := (blk_cell BK218.out 4).trans rfl; have hcz19_5 : w18.cell? ⟨gb218, 5, none⟩ = some (.int .i64 a0_5) := (blk_cell BK218.out 5).trans rfl; have hcz19_6 : w18.cell? ⟨gb218, 6, none⟩ = some (.int .i64 a0_6) := (blk_cell BK218.out 6).trans rfl; have hcz19_7 : w18.cell? ⟨gb218, 7, none⟩ = some (.string a0_7) := (blk_cell BK218.out 7).trans rfl; have hcz19_8 : w18.cell? ⟨gb218, 8, none⟩ = some (.string a0_8) := (blk_cell BK218.out 8).trans rfl; have hcz19_9 : w18.cell? ⟨gb218, 9, none⟩ = some (.string a0_9) := (blk_cell BK218.out 9).trans rfl; have hfz19_0 := blk_frozen BK218.out 0; have hfz19_1 := blk_frozen BK218.out 1; have hfz19_2 := blk_frozen BK218.out 2; have hfz19_3 := blk_frozen BK218.out 3; have hfz19_4 := blk_frozen BK218.out 4; have hfz19_5 := blk_frozen BK218.out 5; have hfz19_6 := blk_frozen BK218.out 6; have hfz19_7 := blk_frozen BK218.out 7; have hfz19_8 := blk_frozen BK218.out 8; have hfz19_9 := blk_frozen BK218.out 9) | (go_at_call 55; (with_reducible refine (impl_within.calls a0_3 0 4095 true _ A6.out).mono ?_); rintro e w' ⟨rfl, ⟨nd, rfl⟩⟩) | (go_at_call 55; (with_reducible refine (impl_within.calls a0_4 0 4294967295 true _ A8.out).mono ?_); rintro e w' ⟨rfl, ⟨nd, rfl⟩⟩) | (go_at_call 55; (with_reducible refine (impl_within.calls a0_5 0 4294967295 true _ A10.out).mono ?_); rintro e w' ⟨rfl, ⟨nd, rfl⟩⟩) | (go_at_call 55; (with_reducible refine (impl_within.calls a0_6 0 99999999999 true _ A12.out).mono ?_); rintro e w' ⟨rfl, ⟨nd, rfl⟩⟩) | (go_at_call 72; (with_reducible refine (impl_isUser.calls a0_7 true _ A14.out).mono ?_); rintro e w20 ⟨rfl, hb⟩; have n0_ := Aside0.mk (blk_below (g := gb218) (o := .cells #[.int .i64 a0_0, .string a0_1, .string a0_2, .int .i64 a0_3, .int .i64 a0_4, .int .i64 a0_5, .int .i64 a0_6, .string a0_7, .string a0_8, .string a0_9] 36 (0, 0)) (by (with_reducible repeat (first | refine blk_drewN ?_ _ | refine blk_drew ?_ | refine blk_alloc ?_ _)); exact BK218.out) hb); have n1_ := Aside0.mk (below_step (by repeat (first | (with_reducible first | exact HB.out | apply below_alloc | apply pw_below_drewN | apply below_drew1 | refine below_set ?_ GE218.out) | exact HB.out)) hb); clear BK218; clear HB; have BK218 := n0_; have HB := n1_; clear n0_ n1_; (try clear hb); (try clear hb2); (try clear hk); (try clear hi); have hcz21_0 : w20.cell? ⟨gb218, 0, none⟩ = some (.int .i64 a0_0) := (blk_cell BK218.out 0).trans rfl; have hcz21_1 : w20.cell? ⟨gb218, 1, none⟩ = some (.string a0_1) := (blk_cell BK218.out 1).trans rfl; have hcz21_2 : w20.cell? ⟨gb218, 2, none⟩ = some (.string a0_2) := (blk_cell BK218.out 2).trans rfl; have hcz21_3 : w20.cell? ⟨gb218, 3, none⟩ = some (.int .i64 a0_3) := (blk_cell BK218.out 3).trans rfl; have hcz21_4 : w20.cell? ⟨gb218, 4, none⟩ = some (.int .i64 a0_4) := (blk_cell BK218.out 4).trans rfl; have hcz21_5 : w20.cell? ⟨gb218, 5, none⟩ = some (.int .i64 a0_5) := (blk_cell BK218.out 5).trans rfl; have hcz21_6 : w20.cell? ⟨gb218, 6, none⟩ = some (.int .i64 a0_6) := (blk_cell BK218.out 6).trans rfl; have hcz21_7 : w20.cell? ⟨gb218, 7, none⟩ = some (.string a0_7) := (blk_cell BK218.out 7).trans rfl; have hcz21_8 : w20.cell? ⟨gb218, 8, none⟩ = some (.string a0_8) := (blk_cell BK218.out 8).trans rfl; have hcz21_9 : w20.cell? ⟨gb218, 9, none⟩ = some (.string a0_9) := (blk_cell BK218.out 9).trans rfl; have hfz21_0 := blk_frozen BK218.out 0; have hfz21_1 := blk_frozen BK218.out 1; have hfz21_2 := blk_frozen BK218.out 2; have hfz21_3 := blk_frozen BK218.out 3; have hfz21_4 := blk_frozen BK218.out 4; have hfz21_5 := blk_frozen BK218.out 5; have hfz21_6 := blk_frozen BK218.out 6; have hfz21_7 := blk_frozen BK218.out 7; have hfz21_8 := blk_frozen BK218.out 8; have hfz21_9 := blk_frozen BK218.out 9) | (go_at_call 72; (with_reducible refine (impl_isUser.calls a0_8 t225 _ A16.out).mono ?_); rintro e w22 ⟨rfl, hb⟩; have n0_ := Aside0.mk (blk_below (g := gb218) (o := .cells #[.int .i64 a0_0, .string a0_1, .string a0_2, .int .i64 a0_3, .int .i64 a0_4, .int .i64 a0_5, .int .i64 a0_6, .string a0_7, .string a0_8, .string a0_9] 36 (0, 0)) (by (with_reducible repeat (first | refine blk_drewN ?_ _ | refine blk_drew ?_ | refine blk_alloc ?_ _)); exact BK218.out) hb); have n1_ := Aside0.mk (below_step (by repeat (first | (with_reducible first | exact HB.out | apply below_alloc | apply pw_below_drewN | apply below_drew1 | refine below_set ?_ GE218.out) | exact HB.out)) hb); clear BK218; clear HB; have BK218 := n0_; have HB := n1_; clear n0_ n1_; (try clear hb); (try clear hb2); (try clear hk); (try clear hi)))
    go_meet
    case rel => exact ⟨_, (!t225), (by first | rfl | (simp; done) | (simp [*]; done)), H', ⟨by first | omega | exact Nat.le_refl _⟩, ⟨by (with_reducible repeat (first | refine blk_drewN ?_ _ | refine blk_drew ?_ | refine blk_alloc ?_ _)); exact BK218.out⟩, ⟨by repeat (first | (with_reducible first | exact HB.out | apply below_alloc | apply pw_below_drewN | apply below_drew1 | refine below_set ?_ GE218.out) | exact HB.out)⟩⟩
    }
    {
    replace c15 := Bool.eq_false_iff.mpr c15
    subst c15
    have H1 : (impl_EntryOk.j0 k true a0_0 a0_1 a0_2 a0_3 a0_4 a0_5 a0_6 a0_7 a0_8 a0_9) = some r := by rw [if_neg (show ¬ (false = true) by decide)] at H; exact H
    clear H
    have H := H1
    clear H1
    have H' := Aside0.mk H
    clear H
    have hcz23_0 : w3.cell? ⟨gb218, 0, none⟩ = some (.int .i64 a0_0) := (blk_cell BK218.out 0).trans rfl
    have hcz23_1 : w3.cell? ⟨gb218, 1, none⟩ = some (.string a0_1) := (blk_cell BK218.out 1).trans rfl
    have hcz23_2 : w3.cell? ⟨gb218, 2, none⟩ = some (.string a0_2) := (blk_cell BK218.out 2).trans rfl
    have hcz23_3 : w3.cell? ⟨gb218, 3, none⟩ = some (.int .i64 a0_3) := (blk_cell BK218.out 3).trans rfl
    have hcz23_4 : w3.cell? ⟨gb218, 4, none⟩ = some (.int .i64 a0_4) := (blk_cell BK218.out 4).trans rfl
    have hcz23_5 : w3.cell? ⟨gb218, 5, none⟩ = some (.int .i64 a0_5) := (blk_cell BK218.out 5).trans rfl
    have hcz23_6 : w3.cell? ⟨gb218, 6, none⟩ = some (.int .i64 a0_6) := (blk_cell BK218.out 6).trans rfl
    have hcz23_7 : w3.cell? ⟨gb218, 7, none⟩ = some (.string a0_7) := (blk_cell BK218.out 7).trans rfl
    have hcz23_8 : w3.cell? ⟨gb218, 8, none⟩ = some (.string a0_8) := (blk_cell BK218.out 8).trans rfl
    have hcz23_9 : w3.cell? ⟨gb218, 9, none⟩ = some (.string a0_9) := (blk_cell BK218.out 9).trans rfl
    have hfz23_0 := blk_frozen BK218.out 0
    have hfz23_1 := blk_frozen BK218.out 1
    have hfz23_2 := blk_frozen BK218.out 2
    have hfz23_3 := blk_frozen BK218.out 3
    have hfz23_4 := blk_frozen BK218.out 4
    have hfz23_5 := blk_frozen BK218.out 5
    have hfz23_6 := blk_frozen BK218.out 6
    have hfz23_7 := blk_frozen BK218.out 7
    have hfz23_8 := blk_frozen BK218.out 8
    have hfz23_9 := blk_frozen BK218.out 9
    go_wp2_with (first | ((with_reducible refine gate_callee (f := 71) rfl ?_); refine goesL_ (some 5) rfl rfl Tryd.func71 (by kernel_rfl) rfl #[.string a0_1] rfl (by (try simp only [List.map_toArray, List.map_cons, List.map_nil]); first | done | rfl | (simp only [List.length_drop, List.length_take]; rfl)) ?_; (with_reducible refine (impl_PathOk.calls k a0_1 true _ A4.out).mono ?_); rintro e w24 ⟨rfl, hb⟩; refine ⟨_, rfl, ?_⟩; have n0_ := Aside0.mk (blk_below (g := gb218) (o := .cells #[.int .i64 a0_0, .string a0_1, .string a0_2, .int .i64 a0_3, .int .i64 a0_4, .int .i64 a0_5, .int .i64 a0_6, .string a0_7, .string a0_8, .string a0_9] 36 (0, 0)) (by (with_reducible repeat (first | refine blk_drewN ?_ _ | refine blk_drew ?_ | refine blk_alloc ?_ _)); exact BK218.out) hb); have n1_ := Aside0.mk (below_step (by repeat (first | (with_reducible first | exact HB.out | apply below_alloc | apply pw_below_drewN | apply below_drew1 | refine below_set ?_ GE218.out) | exact HB.out)) hb); clear BK218; clear HB; have BK218 := n0_; have HB := n1_; clear n0_ n1_; (try clear hb); (try clear hb2); (try clear hk); (try clear hi); have hcz25_0 : w24.cell? ⟨gb218, 0, none⟩ = some (.int .i64 a0_0) := (blk_cell BK218.out 0).trans rfl; have hcz25_1 : w24.cell? ⟨gb218, 1, none⟩ = some (.string a0_1) := (blk_cell BK218.out 1).trans rfl; have hcz25_2 : w24.cell? ⟨gb218, 2, none⟩ = some (.string a0_2) := (blk_cell BK218.out 2).trans rfl; have hcz25_3 : w24.cell? ⟨gb218, 3, none⟩ = some (.int .i64 a0_3) := (blk_cell BK218.out 3).trans rfl; have hcz25_4 : w24.cell? ⟨gb218, 4, none⟩ = some (.int .i64 a0_4) := (blk_cell BK218.out 4).trans rfl; have hcz25_5 : w24.cell? ⟨gb218, 5, none⟩ = some (.int .i64 a0_5) := (blk_cell BK218.out 5).trans rfl; have hcz25_6 : w24.cell? ⟨gb218, 6, none⟩ = some (.int .i64 a0_6) := (blk_cell BK218.out 6).trans rfl; have hcz25_7 : w24.cell? ⟨gb218, 7, none⟩ = some (.string a0_7) := (blk_cell BK218.out 7).trans rfl; have hcz25_8 : w24.cell? ⟨gb218, 8, none⟩ = some (.string a0_8) := (blk_cell BK218.out 8).trans rfl; have hcz25_9 : w24.cell? ⟨gb218, 9, none⟩ = some (.string a0_9) := (blk_cell BK218.out 9).trans rfl; have hfz25_0 := blk_frozen BK218.out 0; have hfz25_1 := blk_frozen BK218.out 1; have hfz25_2 := blk_frozen BK218.out 2; have hfz25_3 := blk_frozen BK218.out 3; have hfz25_4 := blk_frozen BK218.out 4; have hfz25_5 := blk_frozen BK218.out 5; have hfz25_6 := blk_frozen BK218.out 6; have hfz25_7 := blk_frozen BK218.out 7; have hfz25_8 := blk_frozen BK218.out 8; have hfz25_9 := blk_frozen BK218.out 9) | (go_at_call 55; (with_reducible refine (impl_within.calls a0_3 0 4095 true _ A6.out).mono ?_); rintro e w' ⟨rfl, ⟨nd, rfl⟩⟩) | (go_at_call 55; (with_reducible refine (impl_within.calls a0_4 0 4294967295 true _ A8.out).mono ?_); rintro e w' ⟨rfl, ⟨nd, rfl⟩⟩) | (go_at_call 55; (with_reducible refine (impl_within.calls a0_5 0 4294967295 true _ A10.out).mono ?_); rintro e w' ⟨rfl, ⟨nd, rfl⟩⟩) | (go_at_call 55; (with_reducible refine (impl_within.calls a0_6 0 99999999999 true _ A12.out).mono ?_); rintro e w' ⟨rfl, ⟨nd, rfl⟩⟩) | (go_at_call 72; (with_reducible refine (impl_isUser.calls a0_7 false _ A14.out).mono ?_); rintro e w26 ⟨rfl, hb⟩; have n0_ := Aside0.mk (blk_below (g := gb218) (o := .cells #[.int .i64 a0_0, .string a0_1, .string a0_2, .int .i64 a0_3, .int .i64 a0_4, .int .i64 a0_5, .int .i64 a0_6, .string a0_7, .string a0_8, .string a0_9] 36 (0, 0)) (by (with_reducible repeat (first | refine blk_drewN ?_ _ | refine blk_drew ?_ | refine blk_alloc ?_ _)); exact BK218.out) hb); have n1_ := Aside0.mk (below_step (by repeat (first | (with_reducible first | exact HB.out | apply below_alloc | apply pw_below_drewN | apply below_drew1 | refine below_set ?_ GE218.out) | exact HB.out)) hb); clear BK218; clear HB; have BK218 := n0_; have HB := n1_; clear n0_ n1_; (try clear hb); (try clear hb2); (try clear hk); (try clear hi)))
    go_meet
    case rel => exact ⟨_, (true), (by first | rfl | (simp; done) | (simp [*]; done)), H', ⟨by first | omega | exact Nat.le_refl _⟩, ⟨by (with_reducible repeat (first | refine blk_drewN ?_ _ | refine blk_drew ?_ | refine blk_alloc ?_ _)); exact BK218.out⟩, ⟨by repeat (first | (with_reducible first | exact HB.out | apply below_alloc | apply pw_below_drewN | apply below_drew1 | refine below_set ?_ GE218.out) | exact HB.out)⟩⟩
    }
    }
    {
    replace c13 := Bool.eq_false_iff.mpr c13
    subst c13
    have H1 : (impl_EntryOk.j0 k true a0_0 a0_1 a0_2 a0_3 a0_4 a0_5 a0_6 a0_7 a0_8 a0_9) = some r := by rw [if_neg (show ¬ (false = true) by decide)] at H; exact H
    clear H
    have H := H1
    clear H1
    have H' := Aside0.mk H
    clear H
    have hcz27_0 : w3.cell? ⟨gb218, 0, none⟩ = some (.int .i64 a0_0) := (blk_cell BK218.out 0).trans rfl
    have hcz27_1 : w3.cell? ⟨gb218, 1, none⟩ = some (.string a0_1) := (blk_cell BK218.out 1).trans rfl
    have hcz27_2 : w3.cell? ⟨gb218, 2, none⟩ = some (.string a0_2) := (blk_cell BK218.out 2).trans rfl
    have hcz27_3 : w3.cell? ⟨gb218, 3, none⟩ = some (.int .i64 a0_3) := (blk_cell BK218.out 3).trans rfl
    have hcz27_4 : w3.cell? ⟨gb218, 4, none⟩ = some (.int .i64 a0_4) := (blk_cell BK218.out 4).trans rfl
    have hcz27_5 : w3.cell? ⟨gb218, 5, none⟩ = some (.int .i64 a0_5) := (blk_cell BK218.out 5).trans rfl
    have hcz27_6 : w3.cell? ⟨gb218, 6, none⟩ = some (.int .i64 a0_6) := (blk_cell BK218.out 6).trans rfl
    have hcz27_7 : w3.cell? ⟨gb218, 7, none⟩ = some (.string a0_7) := (blk_cell BK218.out 7).trans rfl
    have hcz27_8 : w3.cell? ⟨gb218, 8, none⟩ = some (.string a0_8) := (blk_cell BK218.out 8).trans rfl
    have hcz27_9 : w3.cell? ⟨gb218, 9, none⟩ = some (.string a0_9) := (blk_cell BK218.out 9).trans rfl
    have hfz27_0 := blk_frozen BK218.out 0
    have hfz27_1 := blk_frozen BK218.out 1
    have hfz27_2 := blk_frozen BK218.out 2
    have hfz27_3 := blk_frozen BK218.out 3
    have hfz27_4 := blk_frozen BK218.out 4
    have hfz27_5 := blk_frozen BK218.out 5
    have hfz27_6 := blk_frozen BK218.out 6
    have hfz27_7 := blk_frozen BK218.out 7
    have hfz27_8 := blk_frozen BK218.out 8
    have hfz27_9 := blk_frozen BK218.out 9
    go_wp2_with (first | ((with_reducible refine gate_callee (f := 71) rfl ?_); refine goesL_ (some 5) rfl rfl Tryd.func71 (by kernel_rfl) rfl #[.string a0_1] rfl (by (try simp only [List.map_toArray, List.map_cons, List.map_nil]); first | done | rfl | (simp only [List.length_drop, List.length_take]; rfl)) ?_; (with_reducible refine (impl_PathOk.calls k a0_1 true _ A4.out).mono ?_); rintro e w28 ⟨rfl, hb⟩; refine ⟨_, rfl, ?_⟩; have n0_ := Aside0.mk (blk_below (g := gb218) (o := .cells #[.int .i64 a0_0, .string a0_1, .string a0_2, .int .i64 a0_3, .int .i64 a0_4, .int .i64 a0_5, .int .i64 a0_6, .string a0_7, .string a0_8, .string a0_9] 36 (0, 0)) (by (with_reducible repeat (first | refine blk_drewN ?_ _ | refine blk_drew ?_ | refine blk_alloc ?_ _)); exact BK218.out) hb); have n1_ := Aside0.mk (below_step (by repeat (first | (with_reducible first | exact HB.out | apply below_alloc | apply pw_below_drewN | apply below_drew1 | refine below_set ?_ GE218.out) | exact HB.out)) hb); clear BK218; clear HB; have BK218 := n0_; have HB := n1_; clear n0_ n1_; (try clear hb); (try clear hb2); (try clear hk); (try clear hi); have hcz29_0 : w28.cell? ⟨gb218, 0, none⟩ = some (.int .i64 a0_0) := (blk_cell BK218.out 0).trans rfl; have hcz29_1 : w28.cell? ⟨gb218, 1, none⟩ = some (.string a0_1) := (blk_cell BK218.out 1).trans rfl; have hcz29_2 : w28.cell? ⟨gb218, 2, none⟩ = some (.string a0_2) := (blk_cell BK218.out 2).trans rfl; have hcz29_3 : w28.cell? ⟨gb218, 3, none⟩ = some (.int .i64 a0_3) := (blk_cell BK218.out 3).trans rfl; have hcz29_4 : w28.cell? ⟨gb218, 4, none⟩ = some (.int .i64 a0_4) := (blk_cell BK218.out 4).trans rfl; have hcz29_5 : w28.cell? ⟨gb218, 5, none⟩ = some (.int .i64 a0_5) := (blk_cell BK218.out 5).trans rfl; have hcz29_6 : w28.cell? ⟨gb218, 6, none⟩ = some (.int .i64 a0_6) := (blk_cell BK218.out 6).trans rfl; have hcz29_7 : w28.cell? ⟨gb218, 7, none⟩ = some (.string a0_7) := (blk_cell BK218.out 7).trans rfl; have hcz29_8 : w28.cell? ⟨gb218, 8, none⟩ = some (.string a0_8) := (blk_cell BK218.out 8).trans rfl; have hcz29_9 : w28.cell? ⟨gb218, 9, none⟩ = some (.string a0_9) := (blk_cell BK218.out 9).trans rfl; have hfz29_0 := blk_frozen BK218.out 0; have hfz29_1 := blk_frozen BK218.out 1; have hfz29_2 := blk_frozen BK218.out 2; have hfz29_3 := blk_frozen BK218.out 3; have hfz29_4 := blk_frozen BK218.out 4; have hfz29_5 := blk_frozen BK218.out 5; have hfz29_6 := blk_frozen BK218.out 6; have hfz29_7 := blk_frozen BK218.out 7; have hfz29_8 := blk_frozen BK218.out 8; have hfz29_9 := blk_frozen BK218.out 9) | (go_at_call 55; (with_reducible refine (impl_within.calls a0_3 0 4095 true _ A6.out).mono ?_); rintro e w' ⟨rfl, ⟨nd, rfl⟩⟩) | (go_at_call 55; (with_reducible refine (impl_within.calls a0_4 0 4294967295 true _ A8.out).mono ?_); rintro e w' ⟨rfl, ⟨nd, rfl⟩⟩) | (go_at_call 55; (with_reducible refine (impl_within.calls a0_5 0 4294967295 true _ A10.out).mono ?_); rintro e w' ⟨rfl, ⟨nd, rfl⟩⟩) | (go_at_call 55; (with_reducible refine (impl_within.calls a0_6 0 99999999999 false _ A12.out).mono ?_); rintro e w' ⟨rfl, ⟨nd, rfl⟩⟩))
    go_meet
    case rel => exact ⟨_, (true), (by first | rfl | (simp; done) | (simp [*]; done)), H', ⟨by first | omega | exact Nat.le_refl _⟩, ⟨by (with_reducible repeat (first | refine blk_drewN ?_ _ | refine blk_drew ?_ | refine blk_alloc ?_ _)); exact BK218.out⟩, ⟨by repeat (first | (with_reducible first | exact HB.out | apply below_alloc | apply pw_below_drewN | apply below_drew1 | refine below_set ?_ GE218.out) | exact HB.out)⟩⟩
    }
    }
    {
    replace c11 := Bool.eq_false_iff.mpr c11
    subst c11
    have H1 : (impl_EntryOk.j0 k true a0_0 a0_1 a0_2 a0_3 a0_4 a0_5 a0_6 a0_7 a0_8 a0_9) = some r := by rw [if_neg (show ¬ (false = true) by decide)] at H; exact H
    clear H
    have H := H1
    clear H1
    have H' := Aside0.mk H
    clear H
    have hcz30_0 : w3.cell? ⟨gb218, 0, none⟩ = some (.int .i64 a0_0) := (blk_cell BK218.out 0).trans rfl
    have hcz30_1 : w3.cell? ⟨gb218, 1, none⟩ = some (.string a0_1) := (blk_cell BK218.out 1).trans rfl
    have hcz30_2 : w3.cell? ⟨gb218, 2, none⟩ = some (.string a0_2) := (blk_cell BK218.out 2).trans rfl
    have hcz30_3 : w3.cell? ⟨gb218, 3, none⟩ = some (.int .i64 a0_3) := (blk_cell BK218.out 3).trans rfl
    have hcz30_4 : w3.cell? ⟨gb218, 4, none⟩ = some (.int .i64 a0_4) := (blk_cell BK218.out 4).trans rfl
    have hcz30_5 : w3.cell? ⟨gb218, 5, none⟩ = some (.int .i64 a0_5) := (blk_cell BK218.out 5).trans rfl
    have hcz30_6 : w3.cell? ⟨gb218, 6, none⟩ = some (.int .i64 a0_6) := (blk_cell BK218.out 6).trans rfl
    have hcz30_7 : w3.cell? ⟨gb218, 7, none⟩ = some (.string a0_7) := (blk_cell BK218.out 7).trans rfl
    have hcz30_8 : w3.cell? ⟨gb218, 8, none⟩ = some (.string a0_8) := (blk_cell BK218.out 8).trans rfl
    have hcz30_9 : w3.cell? ⟨gb218, 9, none⟩ = some (.string a0_9) := (blk_cell BK218.out 9).trans rfl
    have hfz30_0 := blk_frozen BK218.out 0
    have hfz30_1 := blk_frozen BK218.out 1
    have hfz30_2 := blk_frozen BK218.out 2
    have hfz30_3 := blk_frozen BK218.out 3
    have hfz30_4 := blk_frozen BK218.out 4
    have hfz30_5 := blk_frozen BK218.out 5
    have hfz30_6 := blk_frozen BK218.out 6
    have hfz30_7 := blk_frozen BK218.out 7
    have hfz30_8 := blk_frozen BK218.out 8
    have hfz30_9 := blk_frozen BK218.out 9
    go_wp2_with (first | ((with_reducible refine gate_callee (f := 71) rfl ?_); refine goesL_ (some 5) rfl rfl Tryd.func71 (by kernel_rfl) rfl #[.string a0_1] rfl (by (try simp only [List.map_toArray, List.map_cons, List.map_nil]); first | done | rfl | (simp only [List.length_drop, List.length_take]; rfl)) ?_; (with_reducible refine (impl_PathOk.calls k a0_1 true _ A4.out).mono ?_); rintro e w31 ⟨rfl, hb⟩; refine ⟨_, rfl, ?_⟩; have n0_ := Aside0.mk (blk_below (g := gb218) (o := .cells #[.int .i64 a0_0, .string a0_1, .string a0_2, .int .i64 a0_3, .int .i64 a0_4, .int .i64 a0_5, .int .i64 a0_6, .string a0_7, .string a0_8, .string a0_9] 36 (0, 0)) (by (with_reducible repeat (first | refine blk_drewN ?_ _ | refine blk_drew ?_ | refine blk_alloc ?_ _)); exact BK218.out) hb); have n1_ := Aside0.mk (below_step (by repeat (first | (with_reducible first | exact HB.out | apply below_alloc | apply pw_below_drewN | apply below_drew1 | refine below_set ?_ GE218.out) | exact HB.out)) hb); clear BK218; clear HB; have BK218 := n0_; have HB := n1_; clear n0_ n1_; (try clear hb); (try clear hb2); (try clear hk); (try clear hi); have hcz32_0 : w31.cell? ⟨gb218, 0, none⟩ = some (.int .i64 a0_0) := (blk_cell BK218.out 0).trans rfl; have hcz32_1 : w31.cell? ⟨gb218, 1, none⟩ = some (.string a0_1) := (blk_cell BK218.out 1).trans rfl; have hcz32_2 : w31.cell? ⟨gb218, 2, none⟩ = some (.string a0_2) := (blk_cell BK218.out 2).trans rfl; have hcz32_3 : w31.cell? ⟨gb218, 3, none⟩ = some (.int .i64 a0_3) := (blk_cell BK218.out 3).trans rfl; have hcz32_4 : w31.cell? ⟨gb218, 4, none⟩ = some (.int .i64 a0_4) := (blk_cell BK218.out 4).trans rfl; have hcz32_5 : w31.cell? ⟨gb218, 5, none⟩ = some (.int .i64 a0_5) := (blk_cell BK218.out 5).trans rfl; have hcz32_6 : w31.cell? ⟨gb218, 6, none⟩ = some (.int .i64 a0_6) := (blk_cell BK218.out 6).trans rfl; have hcz32_7 : w31.cell? ⟨gb218, 7, none⟩ = some (.string a0_7) := (blk_cell BK218.out 7).trans rfl; have hcz32_8 : w31.cell? ⟨gb218, 8, none⟩ = some (.string a0_8) := (blk_cell BK218.out 8).trans rfl; have hcz32_9 : w31.cell? ⟨gb218, 9, none⟩ = some (.string a0_9) := (blk_cell BK218.out 9).trans rfl; have hfz32_0 := blk_frozen BK218.out 0; have hfz32_1 := blk_frozen BK218.out 1; have hfz32_2 := blk_frozen BK218.out 2; have hfz32_3 := blk_frozen BK218.out 3; have hfz32_4 := blk_frozen BK218.out 4; have hfz32_5 := blk_frozen BK218.out 5; have hfz32_6 := blk_frozen BK218.out 6; have hfz32_7 := blk_frozen BK218.out 7; have hfz32_8 := blk_frozen BK218.out 8; have hfz32_9 := blk_frozen BK218.out 9) | (go_at_call 55; (with_reducible refine (impl_within.calls a0_3 0 4095 true _ A6.out).mono ?_); rintro e w' ⟨rfl, ⟨nd, rfl⟩⟩) | (go_at_call 55; (with_reducible refine (impl_within.calls a0_4 0 4294967295 true _ A8.out).mono ?_); rintro e w' ⟨rfl, ⟨nd, rfl⟩⟩) | (go_at_call 55; (with_reducible refine (impl_within.calls a0_5 0 4294967295 false _ A10.out).mono ?_); rintro e w' ⟨rfl, ⟨nd, rfl⟩⟩))
    go_meet
    case rel => exact ⟨_, (true), (by first | rfl | (simp; done) | (simp [*]; done)), H', ⟨by first | omega | exact Nat.le_refl _⟩, ⟨by (with_reducible repeat (first | refine blk_drewN ?_ _ | refine blk_drew ?_ | refine blk_alloc ?_ _)); exact BK218.out⟩, ⟨by repeat (first | (with_reducible first | exact HB.out | apply below_alloc | apply pw_below_drewN | apply below_drew1 | refine below_set ?_ GE218.out) | exact HB.out)⟩⟩
    }
    }
    {
    replace c9 := Bool.eq_false_iff.mpr c9
    subst c9
    have H1 : (impl_EntryOk.j0 k true a0_0 a0_1 a0_2 a0_3 a0_4 a0_5 a0_6 a0_7 a0_8 a0_9) = some r := by rw [if_neg (show ¬ (false = true) by decide)] at H; exact H
    clear H
    have H := H1
    clear H1
    have H' := Aside0.mk H
    clear H
    have hcz33_0 : w3.cell? ⟨gb218, 0, none⟩ = some (.int .i64 a0_0) := (blk_cell BK218.out 0).trans rfl
    have hcz33_1 : w3.cell? ⟨gb218, 1, none⟩ = some (.string a0_1) := (blk_cell BK218.out 1).trans rfl
    have hcz33_2 : w3.cell? ⟨gb218, 2, none⟩ = some (.string a0_2) := (blk_cell BK218.out 2).trans rfl
    have hcz33_3 : w3.cell? ⟨gb218, 3, none⟩ = some (.int .i64 a0_3) := (blk_cell BK218.out 3).trans rfl
    have hcz33_4 : w3.cell? ⟨gb218, 4, none⟩ = some (.int .i64 a0_4) := (blk_cell BK218.out 4).trans rfl
    have hcz33_5 : w3.cell? ⟨gb218, 5, none⟩ = some (.int .i64 a0_5) := (blk_cell BK218.out 5).trans rfl
    have hcz33_6 : w3.cell? ⟨gb218, 6, none⟩ = some (.int .i64 a0_6) := (blk_cell BK218.out 6).trans rfl
    have hcz33_7 : w3.cell? ⟨gb218, 7, none⟩ = some (.string a0_7) := (blk_cell BK218.out 7).trans rfl
    have hcz33_8 : w3.cell? ⟨gb218, 8, none⟩ = some (.string a0_8) := (blk_cell BK218.out 8).trans rfl
    have hcz33_9 : w3.cell? ⟨gb218, 9, none⟩ = some (.string a0_9) := (blk_cell BK218.out 9).trans rfl
    have hfz33_0 := blk_frozen BK218.out 0
    have hfz33_1 := blk_frozen BK218.out 1
    have hfz33_2 := blk_frozen BK218.out 2
    have hfz33_3 := blk_frozen BK218.out 3
    have hfz33_4 := blk_frozen BK218.out 4
    have hfz33_5 := blk_frozen BK218.out 5
    have hfz33_6 := blk_frozen BK218.out 6
    have hfz33_7 := blk_frozen BK218.out 7
    have hfz33_8 := blk_frozen BK218.out 8
    have hfz33_9 := blk_frozen BK218.out 9
    go_wp2_with (first | ((with_reducible refine gate_callee (f := 71) rfl ?_); refine goesL_ (some 5) rfl rfl Tryd.func71 (by kernel_rfl) rfl #[.string a0_1] rfl (by (try simp only [List.map_toArray, List.map_cons, List.map_nil]); first | done | rfl | (simp only [List.length_drop, List.length_take]; rfl)) ?_; (with_reducible refine (impl_PathOk.calls k a0_1 true _ A4.out).mono ?_); rintro e w34 ⟨rfl, hb⟩; refine ⟨_, rfl, ?_⟩; have n0_ := Aside0.mk (blk_below (g := gb218) (o := .cells #[.int .i64 a0_0, .string a0_1, .string a0_2, .int .i64 a0_3, .int .i64 a0_4, .int .i64 a0_5, .int .i64 a0_6, .string a0_7, .string a0_8, .string a0_9] 36 (0, 0)) (by (with_reducible repeat (first | refine blk_drewN ?_ _ | refine blk_drew ?_ | refine blk_alloc ?_ _)); exact BK218.out) hb); have n1_ := Aside0.mk (below_step (by repeat (first | (with_reducible first | exact HB.out | apply below_alloc | apply pw_below_drewN | apply below_drew1 | refine below_set ?_ GE218.out) | exact HB.out)) hb); clear BK218; clear HB; have BK218 := n0_; have HB := n1_; clear n0_ n1_; (try clear hb); (try clear hb2); (try clear hk); (try clear hi); have hcz35_0 : w34.cell? ⟨gb218, 0, none⟩ = some (.int .i64 a0_0) := (blk_cell BK218.out 0).trans rfl; have hcz35_1 : w34.cell? ⟨gb218, 1, none⟩ = some (.string a0_1) := (blk_cell BK218.out 1).trans rfl; have hcz35_2 : w34.cell? ⟨gb218, 2, none⟩ = some (.string a0_2) := (blk_cell BK218.out 2).trans rfl; have hcz35_3 : w34.cell? ⟨gb218, 3, none⟩ = some (.int .i64 a0_3) := (blk_cell BK218.out 3).trans rfl; have hcz35_4 : w34.cell? ⟨gb218, 4, none⟩ = some (.int .i64 a0_4) := (blk_cell BK218.out 4).trans rfl; have hcz35_5 : w34.cell? ⟨gb218, 5, none⟩ = some (.int .i64 a0_5) := (blk_cell BK218.out 5).trans rfl; have hcz35_6 : w34.cell? ⟨gb218, 6, none⟩ = some (.int .i64 a0_6) := (blk_cell BK218.out 6).trans rfl; have hcz35_7 : w34.cell? ⟨gb218, 7, none⟩ = some (.string a0_7) := (blk_cell BK218.out 7).trans rfl; have hcz35_8 : w34.cell? ⟨gb218, 8, none⟩ = some (.string a0_8) := (blk_cell BK218.out 8).trans rfl; have hcz35_9 : w34.cell? ⟨gb218, 9, none⟩ = some (.string a0_9) := (blk_cell BK218.out 9).trans rfl; have hfz35_0 := blk_frozen BK218.out 0; have hfz35_1 := blk_frozen BK218.out 1; have hfz35_2 := blk_frozen BK218.out 2; have hfz35_3 := blk_frozen BK218.out 3; have hfz35_4 := blk_frozen BK218.out 4; have hfz35_5 := blk_frozen BK218.out 5; have hfz35_6 := blk_frozen BK218.out 6; have hfz35_7 := blk_frozen BK218.out 7; have hfz35_8 := blk_frozen BK218.out 8; have hfz35_9 := blk_frozen BK218.out 9) | (go_at_call 55; (with_reducible refine (impl_within.calls a0_3 0 4095 true _ A6.out).mono ?_); rintro e w' ⟨rfl, ⟨nd, rfl⟩⟩) | (go_at_call 55; (with_reducible refine (impl_within.calls a0_4 0 4294967295 false _ A8.out).mono ?_); rintro e w' ⟨rfl, ⟨nd, rfl⟩⟩))
    go_meet
    case rel => exact ⟨_, (true), (by first | rfl | (simp; done) | (simp [*]; done)), H', ⟨by first | omega | exact Nat.le_refl _⟩, ⟨by (with_reducible repeat (first | refine blk_drewN ?_ _ | refine blk_drew ?_ | refine blk_alloc ?_ _)); exact BK218.out⟩, ⟨by repeat (first | (with_reducible first | exact HB.out | apply below_alloc | apply pw_below_drewN | apply below_drew1 | refine below_set ?_ GE218.out) | exact HB.out)⟩⟩
    }
    }
    {
    replace c7 := Bool.eq_false_iff.mpr c7
    subst c7
    have H1 : (impl_EntryOk.j0 k true a0_0 a0_1 a0_2 a0_3 a0_4 a0_5 a0_6 a0_7 a0_8 a0_9) = some r := by rw [if_neg (show ¬ (false = true) by decide)] at H; exact H
    clear H
    have H := H1
    clear H1
    have H' := Aside0.mk H
    clear H
    have hcz36_0 : w3.cell? ⟨gb218, 0, none⟩ = some (.int .i64 a0_0) := (blk_cell BK218.out 0).trans rfl
    have hcz36_1 : w3.cell? ⟨gb218, 1, none⟩ = some (.string a0_1) := (blk_cell BK218.out 1).trans rfl
    have hcz36_2 : w3.cell? ⟨gb218, 2, none⟩ = some (.string a0_2) := (blk_cell BK218.out 2).trans rfl
    have hcz36_3 : w3.cell? ⟨gb218, 3, none⟩ = some (.int .i64 a0_3) := (blk_cell BK218.out 3).trans rfl
    have hcz36_4 : w3.cell? ⟨gb218, 4, none⟩ = some (.int .i64 a0_4) := (blk_cell BK218.out 4).trans rfl
    have hcz36_5 : w3.cell? ⟨gb218, 5, none⟩ = some (.int .i64 a0_5) := (blk_cell BK218.out 5).trans rfl
    have hcz36_6 : w3.cell? ⟨gb218, 6, none⟩ = some (.int .i64 a0_6) := (blk_cell BK218.out 6).trans rfl
    have hcz36_7 : w3.cell? ⟨gb218, 7, none⟩ = some (.string a0_7) := (blk_cell BK218.out 7).trans rfl
    have hcz36_8 : w3.cell? ⟨gb218, 8, none⟩ = some (.string a0_8) := (blk_cell BK218.out 8).trans rfl
    have hcz36_9 : w3.cell? ⟨gb218, 9, none⟩ = some (.string a0_9) := (blk_cell BK218.out 9).trans rfl
    have hfz36_0 := blk_frozen BK218.out 0
    have hfz36_1 := blk_frozen BK218.out 1
    have hfz36_2 := blk_frozen BK218.out 2
    have hfz36_3 := blk_frozen BK218.out 3
    have hfz36_4 := blk_frozen BK218.out 4
    have hfz36_5 := blk_frozen BK218.out 5
    have hfz36_6 := blk_frozen BK218.out 6
    have hfz36_7 := blk_frozen BK218.out 7
    have hfz36_8 := blk_frozen BK218.out 8
    have hfz36_9 := blk_frozen BK218.out 9
    go_wp2_with (first | ((with_reducible refine gate_callee (f := 71) rfl ?_); refine goesL_ (some 5) rfl rfl Tryd.func71 (by kernel_rfl) rfl #[.string a0_1] rfl (by (try simp only [List.map_toArray, List.map_cons, List.map_nil]); first | done | rfl | (simp only [List.length_drop, List.length_take]; rfl)) ?_; (with_reducible refine (impl_PathOk.calls k a0_1 true _ A4.out).mono ?_); rintro e w37 ⟨rfl, hb⟩; refine ⟨_, rfl, ?_⟩; have n0_ := Aside0.mk (blk_below (g := gb218) (o := .cells #[.int .i64 a0_0, .string a0_1, .string a0_2, .int .i64 a0_3, .int .i64 a0_4, .int .i64 a0_5, .int .i64 a0_6, .string a0_7, .string a0_8, .string a0_9] 36 (0, 0)) (by (with_reducible repeat (first | refine blk_drewN ?_ _ | refine blk_drew ?_ | refine blk_alloc ?_ _)); exact BK218.out) hb); have n1_ := Aside0.mk (below_step (by repeat (first | (with_reducible first | exact HB.out | apply below_alloc | apply pw_below_drewN | apply below_drew1 | refine below_set ?_ GE218.out) | exact HB.out)) hb); clear BK218; clear HB; have BK218 := n0_; have HB := n1_; clear n0_ n1_; (try clear hb); (try clear hb2); (try clear hk); (try clear hi); have hcz38_0 : w37.cell? ⟨gb218, 0, none⟩ = some (.int .i64 a0_0) := (blk_cell BK218.out 0).trans rfl; have hcz38_1 : w37.cell? ⟨gb218, 1, none⟩ = some (.string a0_1) := (blk_cell BK218.out 1).trans rfl; have hcz38_2 : w37.cell? ⟨gb218, 2, none⟩ = some (.string a0_2) := (blk_cell BK218.out 2).trans rfl; have hcz38_3 : w37.cell? ⟨gb218, 3, none⟩ = some (.int .i64 a0_3) := (blk_cell BK218.out 3).trans rfl; have hcz38_4 : w37.cell? ⟨gb218, 4, none⟩ = some (.int .i64 a0_4) := (blk_cell BK218.out 4).trans rfl; have hcz38_5 : w37.cell? ⟨gb218, 5, none⟩ = some (.int .i64 a0_5) := (blk_cell BK218.out 5).trans rfl; have hcz38_6 : w37.cell? ⟨gb218, 6, none⟩ = some (.int .i64 a0_6) := (blk_cell BK218.out 6).trans rfl; have hcz38_7 : w37.cell? ⟨gb218, 7, none⟩ = some (.string a0_7) := (blk_cell BK218.out 7).trans rfl; have hcz38_8 : w37.cell? ⟨gb218, 8, none⟩ = some (.string a0_8) := (blk_cell BK218.out 8).trans rfl; have hcz38_9 : w37.cell? ⟨gb218, 9, none⟩ = some (.string a0_9) := (blk_cell BK218.out 9).trans rfl; have hfz38_0 := blk_frozen BK218.out 0; have hfz38_1 := blk_frozen BK218.out 1; have hfz38_2 := blk_frozen BK218.out 2; have hfz38_3 := blk_frozen BK218.out 3; have hfz38_4 := blk_frozen BK218.out 4; have hfz38_5 := blk_frozen BK218.out 5; have hfz38_6 := blk_frozen BK218.out 6; have hfz38_7 := blk_frozen BK218.out 7; have hfz38_8 := blk_frozen BK218.out 8; have hfz38_9 := blk_frozen BK218.out 9) | (go_at_call 55; (with_reducible refine (impl_within.calls a0_3 0 4095 false _ A6.out).mono ?_); rintro e w' ⟨rfl, ⟨nd, rfl⟩⟩))
    go_meet
    case rel => exact ⟨_, (true), (by first | rfl | (simp; done) | (simp [*]; done)), H', ⟨by first | omega | exact Nat.le_refl _⟩, ⟨by (with_reducible repeat (first | refine blk_drewN ?_ _ | refine blk_drew ?_ | refine blk_alloc ?_ _)); exact BK218.out⟩, ⟨by repeat (first | (with_reducible first | exact HB.out | apply below_alloc | apply pw_below_drewN | apply below_drew1 | refine below_set ?_ GE218.out) | exact HB.out)⟩⟩
    }
    }
    {
    replace c5 := Bool.eq_false_iff.mpr c5
    subst c5
    have H1 : (impl_EntryOk.j0 k true a0_0 a0_1 a0_2 a0_3 a0_4 a0_5 a0_6 a0_7 a0_8 a0_9) = some r := by rw [if_neg (show ¬ (false = true) by decide)] at H; exact H
    clear H
    have H := H1
    clear H1
    have H' := Aside0.mk H
    clear H
    have hcz39_0 : w3.cell? ⟨gb218, 0, none⟩ = some (.int .i64 a0_0) := (blk_cell BK218.out 0).trans rfl
    have hcz39_1 : w3.cell? ⟨gb218, 1, none⟩ = some (.string a0_1) := (blk_cell BK218.out 1).trans rfl
    have hcz39_2 : w3.cell? ⟨gb218, 2, none⟩ = some (.string a0_2) := (blk_cell BK218.out 2).trans rfl
    have hcz39_3 : w3.cell? ⟨gb218, 3, none⟩ = some (.int .i64 a0_3) := (blk_cell BK218.out 3).trans rfl
    have hcz39_4 : w3.cell? ⟨gb218, 4, none⟩ = some (.int .i64 a0_4) := (blk_cell BK218.out 4).trans rfl
    have hcz39_5 : w3.cell? ⟨gb218, 5, none⟩ = some (.int .i64 a0_5) := (blk_cell BK218.out 5).trans rfl
    have hcz39_6 : w3.cell? ⟨gb218, 6, none⟩ = some (.int .i64 a0_6) := (blk_cell BK218.out 6).trans rfl
    have hcz39_7 : w3.cell? ⟨gb218, 7, none⟩ = some (.string a0_7) := (blk_cell BK218.out 7).trans rfl
    have hcz39_8 : w3.cell? ⟨gb218, 8, none⟩ = some (.string a0_8) := (blk_cell BK218.out 8).trans rfl
    have hcz39_9 : w3.cell? ⟨gb218, 9, none⟩ = some (.string a0_9) := (blk_cell BK218.out 9).trans rfl
    have hfz39_0 := blk_frozen BK218.out 0
    have hfz39_1 := blk_frozen BK218.out 1
    have hfz39_2 := blk_frozen BK218.out 2
    have hfz39_3 := blk_frozen BK218.out 3
    have hfz39_4 := blk_frozen BK218.out 4
    have hfz39_5 := blk_frozen BK218.out 5
    have hfz39_6 := blk_frozen BK218.out 6
    have hfz39_7 := blk_frozen BK218.out 7
    have hfz39_8 := blk_frozen BK218.out 8
    have hfz39_9 := blk_frozen BK218.out 9
    go_wp2_with (first | ((with_reducible refine gate_callee (f := 71) rfl ?_); refine goesL_ (some 5) rfl rfl Tryd.func71 (by kernel_rfl) rfl #[.string a0_1] rfl (by (try simp only [List.map_toArray, List.map_cons, List.map_nil]); first | done | rfl | (simp only [List.length_drop, List.length_take]; rfl)) ?_; (with_reducible refine (impl_PathOk.calls k a0_1 false _ A4.out).mono ?_); rintro e w40 ⟨rfl, hb⟩; refine ⟨_, rfl, ?_⟩; have n0_ := Aside0.mk (blk_below (g := gb218) (o := .cells #[.int .i64 a0_0, .string a0_1, .string a0_2, .int .i64 a0_3, .int .i64 a0_4, .int .i64 a0_5, .int .i64 a0_6, .string a0_7, .string a0_8, .string a0_9] 36 (0, 0)) (by (with_reducible repeat (first | refine blk_drewN ?_ _ | refine blk_drew ?_ | refine blk_alloc ?_ _)); exact BK218.out) hb); have n1_ := Aside0.mk (below_step (by repeat (first | (with_reducible first | exact HB.out | apply below_alloc | apply pw_below_drewN | apply below_drew1 | refine below_set ?_ GE218.out) | exact HB.out)) hb); clear BK218; clear HB; have BK218 := n0_; have HB := n1_; clear n0_ n1_; (try clear hb); (try clear hb2); (try clear hk); (try clear hi)))
    go_meet
    case rel => exact ⟨_, (true), (by first | rfl | (simp; done) | (simp [*]; done)), H', ⟨by first | omega | exact Nat.le_refl _⟩, ⟨by (with_reducible repeat (first | refine blk_drewN ?_ _ | refine blk_drew ?_ | refine blk_alloc ?_ _)); exact BK218.out⟩, ⟨by repeat (first | (with_reducible first | exact HB.out | apply below_alloc | apply pw_below_drewN | apply below_drew1 | refine below_set ?_ GE218.out) | exact HB.out)⟩⟩
    }
  case rest =>
    clear HC2
    try clear c1
    try clear p2
    try clear c3
    try clear c5
    try clear c7
    try clear c9
    try clear c11
    try clear c13
    try clear c15
    try clear c36
    try clear hcz17_0
    try clear hcz17_1
    try clear hcz17_2
    try clear hcz17_3
    try clear hcz17_4
    try clear hcz17_5
    try clear hcz17_6
    try clear hcz17_7
    try clear hcz17_8
    try clear hcz17_9
    try clear hcz19_0
    try clear hcz19_1
    try clear hcz19_2
    try clear hcz19_3
    try clear hcz19_4
    try clear hcz19_5
    try clear hcz19_6
    try clear hcz19_7
    try clear hcz19_8
    try clear hcz19_9
    try clear hcz21_0
    try clear hcz21_1
    try clear hcz21_2
    try clear hcz21_3
    try clear hcz21_4
    try clear hcz21_5
    try clear hcz21_6
    try clear hcz21_7
    try clear hcz21_8
    try clear hcz21_9
    try clear hcz23_0
    try clear hcz23_1
    try clear hcz23_2
    try clear hcz23_3
    try clear hcz23_4
    try clear hcz23_5
    try clear hcz23_6
    try clear hcz23_7
    try clear hcz23_8
    try clear hcz23_9
    try clear hcz25_0
    try clear hcz25_1
    try clear hcz25_2
    try clear hcz25_3
    try clear hcz25_4
    try clear hcz25_5
    try clear hcz25_6
    try clear hcz25_7
    try clear hcz25_8
    try clear hcz25_9
    try clear hcz27_0
    try clear hcz27_1
    try clear hcz27_2
    try clear hcz27_3
    try clear hcz27_4
    try clear hcz27_5
    try clear hcz27_6
    try clear hcz27_7
    try clear hcz27_8
    try clear hcz27_9
    try clear hcz29_0
    try clear hcz29_1
    try clear hcz29_2
    try clear hcz29_3
    try clear hcz29_4
    try clear hcz29_5
    try clear hcz29_6
    try clear hcz29_7
    try clear hcz29_8
    try clear hcz29_9
    try clear hcz30_0
    try clear hcz30_1
    try clear hcz30_2
    try clear hcz30_3
    try clear hcz30_4
    try clear hcz30_5
    try clear hcz30_6
    try clear hcz30_7
    try clear hcz30_8
    try clear hcz30_9
    try clear hcz32_0
    try clear hcz32_1
    try clear hcz32_2
    try clear hcz32_3
    try clear hcz32_4
    try clear hcz32_5
    try clear hcz32_6
    try clear hcz32_7
    try clear hcz32_8
    try clear hcz32_9
    try clear hcz33_0
    try clear hcz33_1
    try clear hcz33_2
    try clear hcz33_3
    try clear hcz33_4
    try clear hcz33_5
    try clear hcz33_6
    try clear hcz33_7
    try clear hcz33_8
    try clear hcz33_9
    try clear hcz35_0
    try clear hcz35_1
    try clear hcz35_2
    try clear hcz35_3
    try clear hcz35_4
    try clear hcz35_5
    try clear hcz35_6
    try clear hcz35_7
    try clear hcz35_8
    try clear hcz35_9
    try clear hcz36_0
    try clear hcz36_1
    try clear hcz36_2
    try clear hcz36_3
    try clear hcz36_4
    try clear hcz36_5
    try clear hcz36_6
    try clear hcz36_7
    try clear hcz36_8
    try clear hcz36_9
    try clear hcz38_0
    try clear hcz38_1
    try clear hcz38_2
    try clear hcz38_3
    try clear hcz38_4
    try clear hcz38_5
    try clear hcz38_6
    try clear hcz38_7
    try clear hcz38_8
    try clear hcz38_9
    try clear hcz39_0
    try clear hcz39_1
    try clear hcz39_2
    try clear hcz39_3
    try clear hcz39_4
    try clear hcz39_5
    try clear hcz39_6
    try clear hcz39_7
    try clear hcz39_8
    try clear hcz39_9
    try clear hfz17_0
    try clear hfz17_1
    try clear hfz17_2
    try clear hfz17_3
    try clear hfz17_4
    try clear hfz17_5
    try clear hfz17_6
    try clear hfz17_7
    try clear hfz17_8
    try clear hfz17_9
    try clear hfz19_0
    try clear hfz19_1
    try clear hfz19_2
    try clear hfz19_3
    try clear hfz19_4
    try clear hfz19_5
    try clear hfz19_6
    try clear hfz19_7
    try clear hfz19_8
    try clear hfz19_9
    try clear hfz21_0
    try clear hfz21_1
    try clear hfz21_2
    try clear hfz21_3
    try clear hfz21_4
    try clear hfz21_5
    try clear hfz21_6
    try clear hfz21_7
    try clear hfz21_8
    try clear hfz21_9
    try clear hfz23_0
    try clear hfz23_1
    try clear hfz23_2
    try clear hfz23_3
    try clear hfz23_4
    try clear hfz23_5
    try clear hfz23_6
    try clear hfz23_7
    try clear hfz23_8
    try clear hfz23_9
    try clear hfz25_0
    try clear hfz25_1
    try clear hfz25_2
    try clear hfz25_3
    try clear hfz25_4
    try clear hfz25_5
    try clear hfz25_6
    try clear hfz25_7
    try clear hfz25_8
    try clear hfz25_9
    try clear hfz27_0
    try clear hfz27_1
    try clear hfz27_2
    try clear hfz27_3
    try clear hfz27_4
    try clear hfz27_5
    try clear hfz27_6
    try clear hfz27_7
    try clear hfz27_8
    try clear hfz27_9
    try clear hfz29_0
    try clear hfz29_1
    try clear hfz29_2
    try clear hfz29_3
    try clear hfz29_4
    try clear hfz29_5
    try clear hfz29_6
    try clear hfz29_7
    try clear hfz29_8
    try clear hfz29_9
    try clear hfz30_0
    try clear hfz30_1
    try clear hfz30_2
    try clear hfz30_3
    try clear hfz30_4
    try clear hfz30_5
    try clear hfz30_6
    try clear hfz30_7
    try clear hfz30_8
    try clear hfz30_9
    try clear hfz32_0
    try clear hfz32_1
    try clear hfz32_2
    try clear hfz32_3
    try clear hfz32_4
    try clear hfz32_5
    try clear hfz32_6
    try clear hfz32_7
    try clear hfz32_8
    try clear hfz32_9
    try clear hfz33_0
    try clear hfz33_1
    try clear hfz33_2
    try clear hfz33_3
    try clear hfz33_4
    try clear hfz33_5
    try clear hfz33_6
    try clear hfz33_7
    try clear hfz33_8
    try clear hfz33_9
    try clear hfz35_0
    try clear hfz35_1
    try clear hfz35_2
    try clear hfz35_3
    try clear hfz35_4
    try clear hfz35_5
    try clear hfz35_6
    try clear hfz35_7
    try clear hfz35_8
    try clear hfz35_9
    try clear hfz36_0
    try clear hfz36_1
    try clear hfz36_2
    try clear hfz36_3
    try clear hfz36_4
    try clear hfz36_5
    try clear hfz36_6
    try clear hfz36_7
    try clear hfz36_8
    try clear hfz36_9
    try clear hfz38_0
    try clear hfz38_1
    try clear hfz38_2
    try clear hfz38_3
    try clear hfz38_4
    try clear hfz38_5
    try clear hfz38_6
    try clear hfz38_7
    try clear hfz38_8
    try clear hfz38_9
    try clear hfz39_0
    try clear hfz39_1
    try clear hfz39_2
    try clear hfz39_3
    try clear hfz39_4
    try clear hfz39_5
    try clear hfz39_6
    try clear hfz39_7
    try clear hfz39_8
    try clear hfz39_9
    obtain ⟨kq, x42_1, rfl, HA, HJ1, BK218, HB⟩ := hcut
    cases kq with
    | zero => exact absurd HA.out (by simp [impl_EntryOk.j0])
    | succ kj1 =>
      have H := HA.out
      clear HA
      simp only [impl_EntryOk.j0] at H
      by_cases c41 : x42_1 = true
      · subst c41
        have H1 : (some false) = some r := by rw [if_pos rfl] at H; exact H
        clear H
        have H := H1
        clear H1
        obtain rfl := Option.some.inj H
        go_wp2
        go_ret
        exact ⟨by first | rfl | (simp [errW_none, errW_some] <;> rfl) | (simp [*, errW_none, errW_some] <;> rfl) | (simp only [decide_eq_true_eq] at *; simp [*, bt]; done), by repeat (first | (with_reducible first | exact HB.out | apply below_alloc | apply pw_below_drewN | apply below_drew1 | refine below_set ?_ GE218.out) | exact HB.out)⟩
      {
      replace c41 := Bool.eq_false_iff.mpr c41
      subst c41
      have H1 : (if a0_0 = 0 then (if (a0_9.size : Int) ≤ 3000 then (some (a0_2.toList == ([] : List UInt8))) else (some false)) else (if a0_0 = 1 then (if a0_2.toList = ([] : List UInt8) then (some (a0_9.toList == ([] : List UInt8))) else (some false)) else (if a0_0 = 2 then ((impl_within.f (a0_2.size : Int) 1 150).bind fun t226 => (if t226 = true then ((impl_areBytes.f a0_2 74).bind fun t227 => (if t227 = true then (some (a0_9.toList == ([] : List UInt8))) else (some false))) else (some false))) else (if a0_0 = 3 then ((impl_PathOk.f kj1 a0_2).bind fun t228 => (if t228 = true then (if a0_2.toList = a0_1.toList then (some false) else (some (a0_9.toList == ([] : List UInt8)))) else (some false))) else (some false))))) = some r := by rw [if_neg (show ¬ (false = true) by decide)] at H; exact H
      clear H
      have H := H1
      clear H1
      by_cases c42 : a0_0 = 0
      {
      rw [if_pos c42] at H
      have c42b0 : (a0_0 == 0) = true := beq_iff_eq.mpr c42
      have c42b1 : (a0_0 != 0) = false := bne_eq_false_iff_eq.mpr c42
      clear c42
      by_cases c43 : (a0_9.size : Int) ≤ 3000
      {
      rw [if_pos c43] at H
      have c43b0 : decide ((a0_9.size : Int) ≤ 3000) = true := decide_eq_true c43
      have c43b1 : decide (a0_9.size ≤ 3000) = true := decide_eq_true (by omega)
      clear c43
      obtain rfl := Option.some.inj H
      have hcz44_0 : wc.cell? ⟨gb218, 0, none⟩ = some (.int .i64 a0_0) := (blk_cell BK218.out 0).trans rfl
      have hcz44_1 : wc.cell? ⟨gb218, 1, none⟩ = some (.string a0_1) := (blk_cell BK218.out 1).trans rfl
      have hcz44_2 : wc.cell? ⟨gb218, 2, none⟩ = some (.string a0_2) := (blk_cell BK218.out 2).trans rfl
      have hcz44_3 : wc.cell? ⟨gb218, 3, none⟩ = some (.int .i64 a0_3) := (blk_cell BK218.out 3).trans rfl
      have hcz44_4 : wc.cell? ⟨gb218, 4, none⟩ = some (.int .i64 a0_4) := (blk_cell BK218.out 4).trans rfl
      have hcz44_5 : wc.cell? ⟨gb218, 5, none⟩ = some (.int .i64 a0_5) := (blk_cell BK218.out 5).trans rfl
      have hcz44_6 : wc.cell? ⟨gb218, 6, none⟩ = some (.int .i64 a0_6) := (blk_cell BK218.out 6).trans rfl
      have hcz44_7 : wc.cell? ⟨gb218, 7, none⟩ = some (.string a0_7) := (blk_cell BK218.out 7).trans rfl
      have hcz44_8 : wc.cell? ⟨gb218, 8, none⟩ = some (.string a0_8) := (blk_cell BK218.out 8).trans rfl
      have hcz44_9 : wc.cell? ⟨gb218, 9, none⟩ = some (.string a0_9) := (blk_cell BK218.out 9).trans rfl
      have hfz44_0 := blk_frozen BK218.out 0
      have hfz44_1 := blk_frozen BK218.out 1
      have hfz44_2 := blk_frozen BK218.out 2
      have hfz44_3 := blk_frozen BK218.out 3
      have hfz44_4 := blk_frozen BK218.out 4
      have hfz44_5 := blk_frozen BK218.out 5
      have hfz44_6 := blk_frozen BK218.out 6
      have hfz44_7 := blk_frozen BK218.out 7
      have hfz44_8 := blk_frozen BK218.out 8
      have hfz44_9 := blk_frozen BK218.out 9
      go_wp2
      go_ret
      exact ⟨by first | rfl | (simp [errW_none, errW_some] <;> rfl) | (simp [*, errW_none, errW_some] <;> rfl) | (simp only [decide_eq_true_eq] at *; simp [*, bt]; done), by repeat (first | (with_reducible first | exact HB.out | apply below_alloc | apply pw_below_drewN | apply below_drew1 | refine below_set ?_ GE218.out) | exact HB.out)⟩
      }
      {
      rw [if_neg c43] at H
      have c43b0 : decide ((a0_9.size : Int) ≤ 3000) = false := decide_eq_false c43
      have c43b1 : decide (a0_9.size ≤ 3000) = false := decide_eq_false (by omega)
      clear c43
      obtain rfl := Option.some.inj H
      have hcz45_0 : wc.cell? ⟨gb218, 0, none⟩ = some (.int .i64 a0_0) := (blk_cell BK218.out 0).trans rfl
      have hcz45_1 : wc.cell? ⟨gb218, 1, none⟩ = some (.string a0_1) := (blk_cell BK218.out 1).trans rfl
      have hcz45_2 : wc.cell? ⟨gb218, 2, none⟩ = some (.string a0_2) := (blk_cell BK218.out 2).trans rfl
      have hcz45_3 : wc.cell? ⟨gb218, 3, none⟩ = some (.int .i64 a0_3) := (blk_cell BK218.out 3).trans rfl
      have hcz45_4 : wc.cell? ⟨gb218, 4, none⟩ = some (.int .i64 a0_4) := (blk_cell BK218.out 4).trans rfl
      have hcz45_5 : wc.cell? ⟨gb218, 5, none⟩ = some (.int .i64 a0_5) := (blk_cell BK218.out 5).trans rfl
      have hcz45_6 : wc.cell? ⟨gb218, 6, none⟩ = some (.int .i64 a0_6) := (blk_cell BK218.out 6).trans rfl
      have hcz45_7 : wc.cell? ⟨gb218, 7, none⟩ = some (.string a0_7) := (blk_cell BK218.out 7).trans rfl
      have hcz45_8 : wc.cell? ⟨gb218, 8, none⟩ = some (.string a0_8) := (blk_cell BK218.out 8).trans rfl
      have hcz45_9 : wc.cell? ⟨gb218, 9, none⟩ = some (.string a0_9) := (blk_cell BK218.out 9).trans rfl
      have hfz45_0 := blk_frozen BK218.out 0
      have hfz45_1 := blk_frozen BK218.out 1
      have hfz45_2 := blk_frozen BK218.out 2
      have hfz45_3 := blk_frozen BK218.out 3
      have hfz45_4 := blk_frozen BK218.out 4
      have hfz45_5 := blk_frozen BK218.out 5
      have hfz45_6 := blk_frozen BK218.out 6
      have hfz45_7 := blk_frozen BK218.out 7
      have hfz45_8 := blk_frozen BK218.out 8
      have hfz45_9 := blk_frozen BK218.out 9
      go_wp2
      go_ret
      exact ⟨by first | rfl | (simp [errW_none, errW_some] <;> rfl) | (simp [*, errW_none, errW_some] <;> rfl) | (simp only [decide_eq_true_eq] at *; simp [*, bt]; done), by repeat (first | (with_reducible first | exact HB.out | apply below_alloc | apply pw_below_drewN | apply below_drew1 | refine below_set ?_ GE218.out) | exact HB.out)⟩
      }
      }
      {
      rw [if_neg c42] at H
      have c42b0 : (a0_0 == 0) = false := beq_eq_false_iff_ne.mpr c42
      have c42b1 : (a0_0 != 0) = true := bne_iff_ne.mpr c42
      by_cases c46 : a0_0 = 1
      {
      rw [if_pos c46] at H
      have c46b0 : (a0_0 == 1) = true := beq_iff_eq.mpr c46
      have c46b1 : (a0_0 != 1) = false := bne_eq_false_iff_eq.mpr c46
      clear c46
      by_cases c47 : a0_2.toList = ([] : List UInt8)
      {
      rw [if_pos c47] at H
      have c47b0 : (a0_2.toList == ([] : List UInt8)) = true := beq_iff_eq.mpr c47
      have c47b0i : (a0_2.toList).isEmpty = true := (by cases a0_2.toList <;> rfl : (a0_2.toList == ([] : List UInt8)) = (a0_2.toList).isEmpty).symm.trans c47b0
      have c47b1 : (a0_2.toList != ([] : List UInt8)) = false := bne_eq_false_iff_eq.mpr c47
      clear c47
      obtain rfl := Option.some.inj H
      have hcz48_0 : wc.cell? ⟨gb218, 0, none⟩ = some (.int .i64 a0_0) := (blk_cell BK218.out 0).trans rfl
      have hcz48_1 : wc.cell? ⟨gb218, 1, none⟩ = some (.string a0_1) := (blk_cell BK218.out 1).trans rfl
      have hcz48_2 : wc.cell? ⟨gb218, 2, none⟩ = some (.string a0_2) := (blk_cell BK218.out 2).trans rfl
      have hcz48_3 : wc.cell? ⟨gb218, 3, none⟩ = some (.int .i64 a0_3) := (blk_cell BK218.out 3).trans rfl
      have hcz48_4 : wc.cell? ⟨gb218, 4, none⟩ = some (.int .i64 a0_4) := (blk_cell BK218.out 4).trans rfl
      have hcz48_5 : wc.cell? ⟨gb218, 5, none⟩ = some (.int .i64 a0_5) := (blk_cell BK218.out 5).trans rfl
      have hcz48_6 : wc.cell? ⟨gb218, 6, none⟩ = some (.int .i64 a0_6) := (blk_cell BK218.out 6).trans rfl
      have hcz48_7 : wc.cell? ⟨gb218, 7, none⟩ = some (.string a0_7) := (blk_cell BK218.out 7).trans rfl
      have hcz48_8 : wc.cell? ⟨gb218, 8, none⟩ = some (.string a0_8) := (blk_cell BK218.out 8).trans rfl
      have hcz48_9 : wc.cell? ⟨gb218, 9, none⟩ = some (.string a0_9) := (blk_cell BK218.out 9).trans rfl
      have hfz48_0 := blk_frozen BK218.out 0
      have hfz48_1 := blk_frozen BK218.out 1
      have hfz48_2 := blk_frozen BK218.out 2
      have hfz48_3 := blk_frozen BK218.out 3
      have hfz48_4 := blk_frozen BK218.out 4
      have hfz48_5 := blk_frozen BK218.out 5
      have hfz48_6 := blk_frozen BK218.out 6
      have hfz48_7 := blk_frozen BK218.out 7
      have hfz48_8 := blk_frozen BK218.out 8
      have hfz48_9 := blk_frozen BK218.out 9
      go_wp2
      all_goals try (rename_i h_; rw [c47b0i] at h_; cases h_; done)
      go_ret
      exact ⟨by first | rfl | (simp [errW_none, errW_some] <;> rfl) | (simp [*, errW_none, errW_some] <;> rfl) | (simp only [decide_eq_true_eq] at *; simp [*, bt]; done), by repeat (first | (with_reducible first | exact HB.out | apply below_alloc | apply pw_below_drewN | apply below_drew1 | refine below_set ?_ GE218.out) | exact HB.out)⟩
      }
      {
      rw [if_neg c47] at H
      have c47b0 : (a0_2.toList == ([] : List UInt8)) = false := beq_eq_false_iff_ne.mpr c47
      have c47b0i : (a0_2.toList).isEmpty = false := (by cases a0_2.toList <;> rfl : (a0_2.toList == ([] : List UInt8)) = (a0_2.toList).isEmpty).symm.trans c47b0
      have c47b1 : (a0_2.toList != ([] : List UInt8)) = true := bne_iff_ne.mpr c47
      obtain rfl := Option.some.inj H
      have hcz49_0 : wc.cell? ⟨gb218, 0, none⟩ = some (.int .i64 a0_0) := (blk_cell BK218.out 0).trans rfl
      have hcz49_1 : wc.cell? ⟨gb218, 1, none⟩ = some (.string a0_1) := (blk_cell BK218.out 1).trans rfl
      have hcz49_2 : wc.cell? ⟨gb218, 2, none⟩ = some (.string a0_2) := (blk_cell BK218.out 2).trans rfl
      have hcz49_3 : wc.cell? ⟨gb218, 3, none⟩ = some (.int .i64 a0_3) := (blk_cell BK218.out 3).trans rfl
      have hcz49_4 : wc.cell? ⟨gb218, 4, none⟩ = some (.int .i64 a0_4) := (blk_cell BK218.out 4).trans rfl
      have hcz49_5 : wc.cell? ⟨gb218, 5, none⟩ = some (.int .i64 a0_5) := (blk_cell BK218.out 5).trans rfl
      have hcz49_6 : wc.cell? ⟨gb218, 6, none⟩ = some (.int .i64 a0_6) := (blk_cell BK218.out 6).trans rfl
      have hcz49_7 : wc.cell? ⟨gb218, 7, none⟩ = some (.string a0_7) := (blk_cell BK218.out 7).trans rfl
      have hcz49_8 : wc.cell? ⟨gb218, 8, none⟩ = some (.string a0_8) := (blk_cell BK218.out 8).trans rfl
      have hcz49_9 : wc.cell? ⟨gb218, 9, none⟩ = some (.string a0_9) := (blk_cell BK218.out 9).trans rfl
      have hfz49_0 := blk_frozen BK218.out 0
      have hfz49_1 := blk_frozen BK218.out 1
      have hfz49_2 := blk_frozen BK218.out 2
      have hfz49_3 := blk_frozen BK218.out 3
      have hfz49_4 := blk_frozen BK218.out 4
      have hfz49_5 := blk_frozen BK218.out 5
      have hfz49_6 := blk_frozen BK218.out 6
      have hfz49_7 := blk_frozen BK218.out 7
      have hfz49_8 := blk_frozen BK218.out 8
      have hfz49_9 := blk_frozen BK218.out 9
      go_wp2
      all_goals try (rename_i h_; rw [c47b0i] at h_; cases h_; done)
      go_ret
      exact ⟨by first | rfl | (simp [errW_none, errW_some] <;> rfl) | (simp [*, errW_none, errW_some] <;> rfl) | (simp only [decide_eq_true_eq] at *; simp [*, bt]; done), by repeat (first | (with_reducible first | exact HB.out | apply below_alloc | apply pw_below_drewN | apply below_drew1 | refine below_set ?_ GE218.out) | exact HB.out)⟩
      }
      }
      {
      rw [if_neg c46] at H
      have c46b0 : (a0_0 == 1) = false := beq_eq_false_iff_ne.mpr c46
      have c46b1 : (a0_0 != 1) = true := bne_iff_ne.mpr c46
      by_cases c50 : a0_0 = 2
      {
      rw [if_pos c50] at H
      have c50b0 : (a0_0 == 2) = true := beq_iff_eq.mpr c50
      have c50b1 : (a0_0 != 2) = false := bne_eq_false_iff_eq.mpr c50
      clear c50
      replace H := Option.bind_eq_some_iff.mp H
      obtain ⟨t226, A510, H⟩ := H
      replace H : (if t226 = true then ((impl_areBytes.f a0_2 74).bind fun t227 => (if t227 = true then (some (a0_9.toList == ([] : List UInt8))) else (some false))) else (some false)) = some r := H
      have A51 := Aside0.mk A510
      clear A510
      by_cases c52 : t226 = true
      {
      subst c52
      have H1 : ((impl_areBytes.f a0_2 74).bind fun t227 => (if t227 = true then (some (a0_9.toList == ([] : List UInt8))) else (some false))) = some r := by rw [if_pos rfl] at H; exact H
      clear H
      have H := H1
      clear H1
      replace H := Option.bind_eq_some_iff.mp H
      obtain ⟨t227, A530, H⟩ := H
      replace H : (if t227 = true then (some (a0_9.toList == ([] : List UInt8))) else (some false)) = some r := H
      have A53 := Aside0.mk A530
      clear A530
      by_cases c54 : t227 = true
      {
      subst c54
      have H1 : (some (a0_9.toList == ([] : List UInt8))) = some r := by rw [if_pos rfl] at H; exact H
      clear H
      have H := H1
      clear H1
      obtain rfl := Option.some.inj H
      have hcz55_0 : wc.cell? ⟨gb218, 0, none⟩ = some (.int .i64 a0_0) := (blk_cell BK218.out 0).trans rfl
      have hcz55_1 : wc.cell? ⟨gb218, 1, none⟩ = some (.string a0_1) := (blk_cell BK218.out 1).trans rfl
      have hcz55_2 : wc.cell? ⟨gb218, 2, none⟩ = some (.string a0_2) := (blk_cell BK218.out 2).trans rfl
      have hcz55_3 : wc.cell? ⟨gb218, 3, none⟩ = some (.int .i64 a0_3) := (blk_cell BK218.out 3).trans rfl
      have hcz55_4 : wc.cell? ⟨gb218, 4, none⟩ = some (.int .i64 a0_4) := (blk_cell BK218.out 4).trans rfl
      have hcz55_5 : wc.cell? ⟨gb218, 5, none⟩ = some (.int .i64 a0_5) := (blk_cell BK218.out 5).trans rfl
      have hcz55_6 : wc.cell? ⟨gb218, 6, none⟩ = some (.int .i64 a0_6) := (blk_cell BK218.out 6).trans rfl
      have hcz55_7 : wc.cell? ⟨gb218, 7, none⟩ = some (.string a0_7) := (blk_cell BK218.out 7).trans rfl
      have hcz55_8 : wc.cell? ⟨gb218, 8, none⟩ = some (.string a0_8) := (blk_cell BK218.out 8).trans rfl
      have hcz55_9 : wc.cell? ⟨gb218, 9, none⟩ = some (.string a0_9) := (blk_cell BK218.out 9).trans rfl
      have hfz55_0 := blk_frozen BK218.out 0
      have hfz55_1 := blk_frozen BK218.out 1
      have hfz55_2 := blk_frozen BK218.out 2
      have hfz55_3 := blk_frozen BK218.out 3
      have hfz55_4 := blk_frozen BK218.out 4
      have hfz55_5 := blk_frozen BK218.out 5
      have hfz55_6 := blk_frozen BK218.out 6
      have hfz55_7 := blk_frozen BK218.out 7
      have hfz55_8 := blk_frozen BK218.out 8
      have hfz55_9 := blk_frozen BK218.out 9
      go_wp2_with (first | ((with_reducible refine gate_callee (f := 55) rfl ?_); refine goesL_ (some 71) rfl rfl Tryd.func55 (by kernel_rfl) rfl #[.int .i64 (a0_2.size : Int), .int .i64 1, .int .i64 150] rfl (by (try simp only [List.map_toArray, List.map_cons, List.map_nil]); first | done | rfl | (simp only [List.length_drop, List.length_take]; rfl)) ?_; (with_reducible refine (impl_within.calls (a0_2.size : Int) 1 150 true _ A51.out).mono ?_); rintro e w' ⟨rfl, ⟨nd, rfl⟩⟩; refine ⟨_, rfl, ?_⟩) | (go_at_call 73; (with_reducible refine (impl_areBytes.calls a0_2 74 true _ A53.out).mono ?_); rintro e w56 ⟨rfl, hb⟩; have n0_ := Aside0.mk (blk_below (g := gb218) (o := .cells #[.int .i64 a0_0, .string a0_1, .string a0_2, .int .i64 a0_3, .int .i64 a0_4, .int .i64 a0_5, .int .i64 a0_6, .string a0_7, .string a0_8, .string a0_9] 36 (0, 0)) (by (with_reducible repeat (first | refine blk_drewN ?_ _ | refine blk_drew ?_ | refine blk_alloc ?_ _)); exact BK218.out) hb); have n1_ := Aside0.mk (below_step (by repeat (first | (with_reducible first | exact HB.out | apply below_alloc | apply pw_below_drewN | apply below_drew1 | refine below_set ?_ GE218.out) | exact HB.out)) hb); clear BK218; clear HB; have BK218 := n0_; have HB := n1_; clear n0_ n1_; (try clear hb); (try clear hb2); (try clear hk); (try clear hi); have hcz57_0 : w56.cell? ⟨gb218, 0, none⟩ = some (.int .i64 a0_0) := (blk_cell BK218.out 0).trans rfl; have hcz57_1 : w56.cell? ⟨gb218, 1, none⟩ = some (.string a0_1) := (blk_cell BK218.out 1).trans rfl; have hcz57_2 : w56.cell? ⟨gb218, 2, none⟩ = some (.string a0_2) := (blk_cell BK218.out 2).trans rfl; have hcz57_3 : w56.cell? ⟨gb218, 3, none⟩ = some (.int .i64 a0_3) := (blk_cell BK218.out 3).trans rfl; have hcz57_4 : w56.cell? ⟨gb218, 4, none⟩ = some (.int .i64 a0_4) := (blk_cell BK218.out 4).trans rfl; have hcz57_5 : w56.cell? ⟨gb218, 5, none⟩ = some (.int .i64 a0_5) := (blk_cell BK218.out 5).trans rfl; have hcz57_6 : w56.cell? ⟨gb218, 6, none⟩ = some (.int .i64 a0_6) := (blk_cell BK218.out 6).trans rfl; have hcz57_7 : w56.cell? ⟨gb218, 7, none⟩ = some (.string a0_7) := (blk_cell BK218.out 7).trans rfl; have hcz57_8 : w56.cell? ⟨gb218, 8, none⟩ = some (.string a0_8) := (blk_cell BK218.out 8).trans rfl; have hcz57_9 : w56.cell? ⟨gb218, 9, none⟩ = some (.string a0_9) := (blk_cell BK218.out 9).trans rfl; have hfz57_0 := blk_frozen BK218.out 0; have hfz57_1 := blk_frozen BK218.out 1; have hfz57_2 := blk_frozen BK218.out 2; have hfz57_3 := blk_frozen BK218.out 3; have hfz57_4 := blk_frozen BK218.out 4; have hfz57_5 := blk_frozen BK218.out 5; have hfz57_6 := blk_frozen BK218.out 6; have hfz57_7 := blk_frozen BK218.out 7; have hfz57_8 := blk_frozen BK218.out 8; have hfz57_9 := blk_frozen BK218.out 9))
      go_ret
      exact ⟨by first | rfl | (simp [errW_none, errW_some] <;> rfl) | (simp [*, errW_none, errW_some] <;> rfl) | (simp only [decide_eq_true_eq] at *; simp [*, bt]; done), by repeat (first | (with_reducible first | exact HB.out | apply below_alloc | apply pw_below_drewN | apply below_drew1 | refine below_set ?_ GE218.out) | exact HB.out)⟩
      }
      {
      replace c54 := Bool.eq_false_iff.mpr c54
      subst c54
      have H1 : (some false) = some r := by rw [if_neg (show ¬ (false = true) by decide)] at H; exact H
      clear H
      have H := H1
      clear H1
      obtain rfl := Option.some.inj H
      have hcz58_0 : wc.cell? ⟨gb218, 0, none⟩ = some (.int .i64 a0_0) := (blk_cell BK218.out 0).trans rfl
      have hcz58_1 : wc.cell? ⟨gb218, 1, none⟩ = some (.string a0_1) := (blk_cell BK218.out 1).trans rfl
      have hcz58_2 : wc.cell? ⟨gb218, 2, none⟩ = some (.string a0_2) := (blk_cell BK218.out 2).trans rfl
      have hcz58_3 : wc.cell? ⟨gb218, 3, none⟩ = some (.int .i64 a0_3) := (blk_cell BK218.out 3).trans rfl
      have hcz58_4 : wc.cell? ⟨gb218, 4, none⟩ = some (.int .i64 a0_4) := (blk_cell BK218.out 4).trans rfl
      have hcz58_5 : wc.cell? ⟨gb218, 5, none⟩ = some (.int .i64 a0_5) := (blk_cell BK218.out 5).trans rfl
      have hcz58_6 : wc.cell? ⟨gb218, 6, none⟩ = some (.int .i64 a0_6) := (blk_cell BK218.out 6).trans rfl
      have hcz58_7 : wc.cell? ⟨gb218, 7, none⟩ = some (.string a0_7) := (blk_cell BK218.out 7).trans rfl
      have hcz58_8 : wc.cell? ⟨gb218, 8, none⟩ = some (.string a0_8) := (blk_cell BK218.out 8).trans rfl
      have hcz58_9 : wc.cell? ⟨gb218, 9, none⟩ = some (.string a0_9) := (blk_cell BK218.out 9).trans rfl
      have hfz58_0 := blk_frozen BK218.out 0
      have hfz58_1 := blk_frozen BK218.out 1
      have hfz58_2 := blk_frozen BK218.out 2
      have hfz58_3 := blk_frozen BK218.out 3
      have hfz58_4 := blk_frozen BK218.out 4
      have hfz58_5 := blk_frozen BK218.out 5
      have hfz58_6 := blk_frozen BK218.out 6
      have hfz58_7 := blk_frozen BK218.out 7
      have hfz58_8 := blk_frozen BK218.out 8
      have hfz58_9 := blk_frozen BK218.out 9
      go_wp2_with (first | ((with_reducible refine gate_callee (f := 55) rfl ?_); refine goesL_ (some 71) rfl rfl Tryd.func55 (by kernel_rfl) rfl #[.int .i64 (a0_2.size : Int), .int .i64 1, .int .i64 150] rfl (by (try simp only [List.map_toArray, List.map_cons, List.map_nil]); first | done | rfl | (simp only [List.length_drop, List.length_take]; rfl)) ?_; (with_reducible refine (impl_within.calls (a0_2.size : Int) 1 150 true _ A51.out).mono ?_); rintro e w' ⟨rfl, ⟨nd, rfl⟩⟩; refine ⟨_, rfl, ?_⟩) | (go_at_call 73; (with_reducible refine (impl_areBytes.calls a0_2 74 false _ A53.out).mono ?_); rintro e w59 ⟨rfl, hb⟩; have n0_ := Aside0.mk (blk_below (g := gb218) (o := .cells #[.int .i64 a0_0, .string a0_1, .string a0_2, .int .i64 a0_3, .int .i64 a0_4, .int .i64 a0_5, .int .i64 a0_6, .string a0_7, .string a0_8, .string a0_9] 36 (0, 0)) (by (with_reducible repeat (first | refine blk_drewN ?_ _ | refine blk_drew ?_ | refine blk_alloc ?_ _)); exact BK218.out) hb); have n1_ := Aside0.mk (below_step (by repeat (first | (with_reducible first | exact HB.out | apply below_alloc | apply pw_below_drewN | apply below_drew1 | refine below_set ?_ GE218.out) | exact HB.out)) hb); clear BK218; clear HB; have BK218 := n0_; have HB := n1_; clear n0_ n1_; (try clear hb); (try clear hb2); (try clear hk); (try clear hi)))
      go_ret
      exact ⟨by first | rfl | (simp [errW_none, errW_some] <;> rfl) | (simp [*, errW_none, errW_some] <;> rfl) | (simp only [decide_eq_true_eq] at *; simp [*, bt]; done), by repeat (first | (with_reducible first | exact HB.out | apply below_alloc | apply pw_below_drewN | apply below_drew1 | refine below_set ?_ GE218.out) | exact HB.out)⟩
      }
      }
      {
      replace c52 := Bool.eq_false_iff.mpr c52
      subst c52
      have H1 : (some false) = some r := by rw [if_neg (show ¬ (false = true) by decide)] at H; exact H
      clear H
      have H := H1
      clear H1
      obtain rfl := Option.some.inj H
      have hcz60_0 : wc.cell? ⟨gb218, 0, none⟩ = some (.int .i64 a0_0) := (blk_cell BK218.out 0).trans rfl
      have hcz60_1 : wc.cell? ⟨gb218, 1, none⟩ = some (.string a0_1) := (blk_cell BK218.out 1).trans rfl
      have hcz60_2 : wc.cell? ⟨gb218, 2, none⟩ = some (.string a0_2) := (blk_cell BK218.out 2).trans rfl
      have hcz60_3 : wc.cell? ⟨gb218, 3, none⟩ = some (.int .i64 a0_3) := (blk_cell BK218.out 3).trans rfl
      have hcz60_4 : wc.cell? ⟨gb218, 4, none⟩ = some (.int .i64 a0_4) := (blk_cell BK218.out 4).trans rfl
      have hcz60_5 : wc.cell? ⟨gb218, 5, none⟩ = some (.int .i64 a0_5) := (blk_cell BK218.out 5).trans rfl
      have hcz60_6 : wc.cell? ⟨gb218, 6, none⟩ = some (.int .i64 a0_6) := (blk_cell BK218.out 6).trans rfl
      have hcz60_7 : wc.cell? ⟨gb218, 7, none⟩ = some (.string a0_7) := (blk_cell BK218.out 7).trans rfl
      have hcz60_8 : wc.cell? ⟨gb218, 8, none⟩ = some (.string a0_8) := (blk_cell BK218.out 8).trans rfl
      have hcz60_9 : wc.cell? ⟨gb218, 9, none⟩ = some (.string a0_9) := (blk_cell BK218.out 9).trans rfl
      have hfz60_0 := blk_frozen BK218.out 0
      have hfz60_1 := blk_frozen BK218.out 1
      have hfz60_2 := blk_frozen BK218.out 2
      have hfz60_3 := blk_frozen BK218.out 3
      have hfz60_4 := blk_frozen BK218.out 4
      have hfz60_5 := blk_frozen BK218.out 5
      have hfz60_6 := blk_frozen BK218.out 6
      have hfz60_7 := blk_frozen BK218.out 7
      have hfz60_8 := blk_frozen BK218.out 8
      have hfz60_9 := blk_frozen BK218.out 9
      go_wp2_with (first | ((with_reducible refine gate_callee (f := 55) rfl ?_); refine goesL_ (some 71) rfl rfl Tryd.func55 (by kernel_rfl) rfl #[.int .i64 (a0_2.size : Int), .int .i64 1, .int .i64 150] rfl (by (try simp only [List.map_toArray, List.map_cons, List.map_nil]); first | done | rfl | (simp only [List.length_drop, List.length_take]; rfl)) ?_; (with_reducible refine (impl_within.calls (a0_2.size : Int) 1 150 false _ A51.out).mono ?_); rintro e w' ⟨rfl, ⟨nd, rfl⟩⟩; refine ⟨_, rfl, ?_⟩))
      go_ret
      exact ⟨by first | rfl | (simp [errW_none, errW_some] <;> rfl) | (simp [*, errW_none, errW_some] <;> rfl) | (simp only [decide_eq_true_eq] at *; simp [*, bt]; done), by repeat (first | (with_reducible first | exact HB.out | apply below_alloc | apply pw_below_drewN | apply below_drew1 | refine below_set ?_ GE218.out) | exact HB.out)⟩
      }
      }
      {
      rw [if_neg c50] at H
      have c50b0 : (a0_0 == 2) = false := beq_eq_false_iff_ne.mpr c50
      have c50b1 : (a0_0 != 2) = true := bne_iff_ne.mpr c50
      by_cases c61 : a0_0 = 3
      {
      rw [if_pos c61] at H
      have c61b0 : (a0_0 == 3) = true := beq_iff_eq.mpr c61
      have c61b1 : (a0_0 != 3) = false := bne_eq_false_iff_eq.mpr c61
      clear c61
      replace H := Option.bind_eq_some_iff.mp H
      obtain ⟨t228, A620, H⟩ := H
      replace H : (if t228 = true then (if a0_2.toList = a0_1.toList then (some false) else (some (a0_9.toList == ([] : List UInt8)))) else (some false)) = some r := H
      have A62 := Aside0.mk A620
      clear A620
      by_cases c63 : t228 = true
      {
      subst c63
      have H1 : (if a0_2.toList = a0_1.toList then (some false) else (some (a0_9.toList == ([] : List UInt8)))) = some r := by rw [if_pos rfl] at H; exact H
      clear H
      have H := H1
      clear H1
      by_cases c64 : a0_2.toList = a0_1.toList
      {
      rw [if_pos c64] at H
      have c64b0 : (a0_2.toList == a0_1.toList) = true := beq_iff_eq.mpr c64
      have c64b1 : (a0_2.toList != a0_1.toList) = false := bne_eq_false_iff_eq.mpr c64
      clear c64
      obtain rfl := Option.some.inj H
      have hcz65_0 : wc.cell? ⟨gb218, 0, none⟩ = some (.int .i64 a0_0) := (blk_cell BK218.out 0).trans rfl
      have hcz65_1 : wc.cell? ⟨gb218, 1, none⟩ = some (.string a0_1) := (blk_cell BK218.out 1).trans rfl
      have hcz65_2 : wc.cell? ⟨gb218, 2, none⟩ = some (.string a0_2) := (blk_cell BK218.out 2).trans rfl
      have hcz65_3 : wc.cell? ⟨gb218, 3, none⟩ = some (.int .i64 a0_3) := (blk_cell BK218.out 3).trans rfl
      have hcz65_4 : wc.cell? ⟨gb218, 4, none⟩ = some (.int .i64 a0_4) := (blk_cell BK218.out 4).trans rfl
      have hcz65_5 : wc.cell? ⟨gb218, 5, none⟩ = some (.int .i64 a0_5) := (blk_cell BK218.out 5).trans rfl
      have hcz65_6 : wc.cell? ⟨gb218, 6, none⟩ = some (.int .i64 a0_6) := (blk_cell BK218.out 6).trans rfl
      have hcz65_7 : wc.cell? ⟨gb218, 7, none⟩ = some (.string a0_7) := (blk_cell BK218.out 7).trans rfl
      have hcz65_8 : wc.cell? ⟨gb218, 8, none⟩ = some (.string a0_8) := (blk_cell BK218.out 8).trans rfl
      have hcz65_9 : wc.cell? ⟨gb218, 9, none⟩ = some (.string a0_9) := (blk_cell BK218.out 9).trans rfl
      have hfz65_0 := blk_frozen BK218.out 0
      have hfz65_1 := blk_frozen BK218.out 1
      have hfz65_2 := blk_frozen BK218.out 2
      have hfz65_3 := blk_frozen BK218.out 3
      have hfz65_4 := blk_frozen BK218.out 4
      have hfz65_5 := blk_frozen BK218.out 5
      have hfz65_6 := blk_frozen BK218.out 6
      have hfz65_7 := blk_frozen BK218.out 7
      have hfz65_8 := blk_frozen BK218.out 8
      have hfz65_9 := blk_frozen BK218.out 9
      go_wp2_with (first | ((with_reducible refine gate_callee (f := 71) rfl ?_); refine goesL_ (some 86) rfl rfl Tryd.func71 (by kernel_rfl) rfl #[.string a0_2] rfl (by (try simp only [List.map_toArray, List.map_cons, List.map_nil]); first | done | rfl | (simp only [List.length_drop, List.length_take]; rfl)) ?_; (with_reducible refine (impl_PathOk.calls kj1 a0_2 true _ A62.out).mono ?_); rintro e w66 ⟨rfl, hb⟩; refine ⟨_, rfl, ?_⟩; have n0_ := Aside0.mk (blk_below (g := gb218) (o := .cells #[.int .i64 a0_0, .string a0_1, .string a0_2, .int .i64 a0_3, .int .i64 a0_4, .int .i64 a0_5, .int .i64 a0_6, .string a0_7, .string a0_8, .string a0_9] 36 (0, 0)) (by (with_reducible repeat (first | refine blk_drewN ?_ _ | refine blk_drew ?_ | refine blk_alloc ?_ _)); exact BK218.out) hb); have n1_ := Aside0.mk (below_step (by repeat (first | (with_reducible first | exact HB.out | apply below_alloc | apply pw_below_drewN | apply below_drew1 | refine below_set ?_ GE218.out) | exact HB.out)) hb); clear BK218; clear HB; have BK218 := n0_; have HB := n1_; clear n0_ n1_; (try clear hb); (try clear hb2); (try clear hk); (try clear hi); have hcz67_0 : w66.cell? ⟨gb218, 0, none⟩ = some (.int .i64 a0_0) := (blk_cell BK218.out 0).trans rfl; have hcz67_1 : w66.cell? ⟨gb218, 1, none⟩ = some (.string a0_1) := (blk_cell BK218.out 1).trans rfl; have hcz67_2 : w66.cell? ⟨gb218, 2, none⟩ = some (.string a0_2) := (blk_cell BK218.out 2).trans rfl; have hcz67_3 : w66.cell? ⟨gb218, 3, none⟩ = some (.int .i64 a0_3) := (blk_cell BK218.out 3).trans rfl; have hcz67_4 : w66.cell? ⟨gb218, 4, none⟩ = some (.int .i64 a0_4) := (blk_cell BK218.out 4).trans rfl; have hcz67_5 : w66.cell? ⟨gb218, 5, none⟩ = some (.int .i64 a0_5) := (blk_cell BK218.out 5).trans rfl; have hcz67_6 : w66.cell? ⟨gb218, 6, none⟩ = some (.int .i64 a0_6) := (blk_cell BK218.out 6).trans rfl; have hcz67_7 : w66.cell? ⟨gb218, 7, none⟩ = some (.string a0_7) := (blk_cell BK218.out 7).trans rfl; have hcz67_8 : w66.cell? ⟨gb218, 8, none⟩ = some (.string a0_8) := (blk_cell BK218.out 8).trans rfl; have hcz67_9 : w66.cell? ⟨gb218, 9, none⟩ = some (.string a0_9) := (blk_cell BK218.out 9).trans rfl; have hfz67_0 := blk_frozen BK218.out 0; have hfz67_1 := blk_frozen BK218.out 1; have hfz67_2 := blk_frozen BK218.out 2; have hfz67_3 := blk_frozen BK218.out 3; have hfz67_4 := blk_frozen BK218.out 4; have hfz67_5 := blk_frozen BK218.out 5; have hfz67_6 := blk_frozen BK218.out 6; have hfz67_7 := blk_frozen BK218.out 7; have hfz67_8 := blk_frozen BK218.out 8; have hfz67_9 := blk_frozen BK218.out 9))
      go_ret
      exact ⟨by first | rfl | (simp [errW_none, errW_some] <;> rfl) | (simp [*, errW_none, errW_some] <;> rfl) | (simp only [decide_eq_true_eq] at *; simp [*, bt]; done), by repeat (first | (with_reducible first | exact HB.out | apply below_alloc | apply pw_below_drewN | apply below_drew1 | refine below_set ?_ GE218.out) | exact HB.out)⟩
      }
      {
      rw [if_neg c64] at H
      have c64b0 : (a0_2.toList == a0_1.toList) = false := beq_eq_false_iff_ne.mpr c64
      have c64b1 : (a0_2.toList != a0_1.toList) = true := bne_iff_ne.mpr c64
      obtain rfl := Option.some.inj H
      have hcz68_0 : wc.cell? ⟨gb218, 0, none⟩ = some (.int .i64 a0_0) := (blk_cell BK218.out 0).trans rfl
      have hcz68_1 : wc.cell? ⟨gb218, 1, none⟩ = some (.string a0_1) := (blk_cell BK218.out 1).trans rfl
      have hcz68_2 : wc.cell? ⟨gb218, 2, none⟩ = some (.string a0_2) := (blk_cell BK218.out 2).trans rfl
      have hcz68_3 : wc.cell? ⟨gb218, 3, none⟩ = some (.int .i64 a0_3) := (blk_cell BK218.out 3).trans rfl
      have hcz68_4 : wc.cell? ⟨gb218, 4, none⟩ = some (.int .i64 a0_4) := (blk_cell BK218.out 4).trans rfl
      have hcz68_5 : wc.cell? ⟨gb218, 5, none⟩ = some (.int .i64 a0_5) := (blk_cell BK218.out 5).trans rfl
      have hcz68_6 : wc.cell? ⟨gb218, 6, none⟩ = some (.int .i64 a0_6) := (blk_cell BK218.out 6).trans rfl
      have hcz68_7 : wc.cell? ⟨gb218, 7, none⟩ = some (.string a0_7) := (blk_cell BK218.out 7).trans rfl
      have hcz68_8 : wc.cell? ⟨gb218, 8, none⟩ = some (.string a0_8) := (blk_cell BK218.out 8).trans rfl
      have hcz68_9 : wc.cell? ⟨gb218, 9, none⟩ = some (.string a0_9) := (blk_cell BK218.out 9).trans rfl
      have hfz68_0 := blk_frozen BK218.out 0
      have hfz68_1 := blk_frozen BK218.out 1
      have hfz68_2 := blk_frozen BK218.out 2
      have hfz68_3 := blk_frozen BK218.out 3
      have hfz68_4 := blk_frozen BK218.out 4
      have hfz68_5 := blk_frozen BK218.out 5
      have hfz68_6 := blk_frozen BK218.out 6
      have hfz68_7 := blk_frozen BK218.out 7
      have hfz68_8 := blk_frozen BK218.out 8
      have hfz68_9 := blk_frozen BK218.out 9
      go_wp2_with (first | ((with_reducible refine gate_callee (f := 71) rfl ?_); refine goesL_ (some 86) rfl rfl Tryd.func71 (by kernel_rfl) rfl #[.string a0_2] rfl (by (try simp only [List.map_toArray, List.map_cons, List.map_nil]); first | done | rfl | (simp only [List.length_drop, List.length_take]; rfl)) ?_; (with_reducible refine (impl_PathOk.calls kj1 a0_2 true _ A62.out).mono ?_); rintro e w69 ⟨rfl, hb⟩; refine ⟨_, rfl, ?_⟩; have n0_ := Aside0.mk (blk_below (g := gb218) (o := .cells #[.int .i64 a0_0, .string a0_1, .string a0_2, .int .i64 a0_3, .int .i64 a0_4, .int .i64 a0_5, .int .i64 a0_6, .string a0_7, .string a0_8, .string a0_9] 36 (0, 0)) (by (with_reducible repeat (first | refine blk_drewN ?_ _ | refine blk_drew ?_ | refine blk_alloc ?_ _)); exact BK218.out) hb); have n1_ := Aside0.mk (below_step (by repeat (first | (with_reducible first | exact HB.out | apply below_alloc | apply pw_below_drewN | apply below_drew1 | refine below_set ?_ GE218.out) | exact HB.out)) hb); clear BK218; clear HB; have BK218 := n0_; have HB := n1_; clear n0_ n1_; (try clear hb); (try clear hb2); (try clear hk); (try clear hi); have hcz70_0 : w69.cell? ⟨gb218, 0, none⟩ = some (.int .i64 a0_0) := (blk_cell BK218.out 0).trans rfl; have hcz70_1 : w69.cell? ⟨gb218, 1, none⟩ = some (.string a0_1) := (blk_cell BK218.out 1).trans rfl; have hcz70_2 : w69.cell? ⟨gb218, 2, none⟩ = some (.string a0_2) := (blk_cell BK218.out 2).trans rfl; have hcz70_3 : w69.cell? ⟨gb218, 3, none⟩ = some (.int .i64 a0_3) := (blk_cell BK218.out 3).trans rfl; have hcz70_4 : w69.cell? ⟨gb218, 4, none⟩ = some (.int .i64 a0_4) := (blk_cell BK218.out 4).trans rfl; have hcz70_5 : w69.cell? ⟨gb218, 5, none⟩ = some (.int .i64 a0_5) := (blk_cell BK218.out 5).trans rfl; have hcz70_6 : w69.cell? ⟨gb218, 6, none⟩ = some (.int .i64 a0_6) := (blk_cell BK218.out 6).trans rfl; have hcz70_7 : w69.cell? ⟨gb218, 7, none⟩ = some (.string a0_7) := (blk_cell BK218.out 7).trans rfl; have hcz70_8 : w69.cell? ⟨gb218, 8, none⟩ = some (.string a0_8) := (blk_cell BK218.out 8).trans rfl; have hcz70_9 : w69.cell? ⟨gb218, 9, none⟩ = some (.string a0_9) := (blk_cell BK218.out 9).trans rfl; have hfz70_0 := blk_frozen BK218.out 0; have hfz70_1 := blk_frozen BK218.out 1; have hfz70_2 := blk_frozen BK218.out 2; have hfz70_3 := blk_frozen BK218.out 3; have hfz70_4 := blk_frozen BK218.out 4; have hfz70_5 := blk_frozen BK218.out 5; have hfz70_6 := blk_frozen BK218.out 6; have hfz70_7 := blk_frozen BK218.out 7; have hfz70_8 := blk_frozen BK218.out 8; have hfz70_9 := blk_frozen BK218.out 9))
      go_ret
      exact ⟨by first | rfl | (simp [errW_none, errW_some] <;> rfl) | (simp [*, errW_none, errW_some] <;> rfl) | (simp only [decide_eq_true_eq] at *; simp [*, bt]; done), by repeat (first | (with_reducible first | exact HB.out | apply below_alloc | apply pw_below_drewN | apply below_drew1 | refine below_set ?_ GE218.out) | exact HB.out)⟩
      }
      }
      {
      replace c63 := Bool.eq_false_iff.mpr c63
      subst c63
      have H1 : (some false) = some r := by rw [if_neg (show ¬ (false = true) by decide)] at H; exact H
      clear H
      have H := H1
      clear H1
      obtain rfl := Option.some.inj H
      have hcz71_0 : wc.cell? ⟨gb218, 0, none⟩ = some (.int .i64 a0_0) := (blk_cell BK218.out 0).trans rfl
      have hcz71_1 : wc.cell? ⟨gb218, 1, none⟩ = some (.string a0_1) := (blk_cell BK218.out 1).trans rfl
      have hcz71_2 : wc.cell? ⟨gb218, 2, none⟩ = some (.string a0_2) := (blk_cell BK218.out 2).trans rfl
      have hcz71_3 : wc.cell? ⟨gb218, 3, none⟩ = some (.int .i64 a0_3) := (blk_cell BK218.out 3).trans rfl
      have hcz71_4 : wc.cell? ⟨gb218, 4, none⟩ = some (.int .i64 a0_4) := (blk_cell BK218.out 4).trans rfl
      have hcz71_5 : wc.cell? ⟨gb218, 5, none⟩ = some (.int .i64 a0_5) := (blk_cell BK218.out 5).trans rfl
      have hcz71_6 : wc.cell? ⟨gb218, 6, none⟩ = some (.int .i64 a0_6) := (blk_cell BK218.out 6).trans rfl
      have hcz71_7 : wc.cell? ⟨gb218, 7, none⟩ = some (.string a0_7) := (blk_cell BK218.out 7).trans rfl
      have hcz71_8 : wc.cell? ⟨gb218, 8, none⟩ = some (.string a0_8) := (blk_cell BK218.out 8).trans rfl
      have hcz71_9 : wc.cell? ⟨gb218, 9, none⟩ = some (.string a0_9) := (blk_cell BK218.out 9).trans rfl
      have hfz71_0 := blk_frozen BK218.out 0
      have hfz71_1 := blk_frozen BK218.out 1
      have hfz71_2 := blk_frozen BK218.out 2
      have hfz71_3 := blk_frozen BK218.out 3
      have hfz71_4 := blk_frozen BK218.out 4
      have hfz71_5 := blk_frozen BK218.out 5
      have hfz71_6 := blk_frozen BK218.out 6
      have hfz71_7 := blk_frozen BK218.out 7
      have hfz71_8 := blk_frozen BK218.out 8
      have hfz71_9 := blk_frozen BK218.out 9
      go_wp2_with (first | ((with_reducible refine gate_callee (f := 71) rfl ?_); refine goesL_ (some 86) rfl rfl Tryd.func71 (by kernel_rfl) rfl #[.string a0_2] rfl (by (try simp only [List.map_toArray, List.map_cons, List.map_nil]); first | done | rfl | (simp only [List.length_drop, List.length_take]; rfl)) ?_; (with_reducible refine (impl_PathOk.calls kj1 a0_2 false _ A62.out).mono ?_); rintro e w72 ⟨rfl, hb⟩; refine ⟨_, rfl, ?_⟩; have n0_ := Aside0.mk (blk_below (g := gb218) (o := .cells #[.int .i64 a0_0, .string a0_1, .string a0_2, .int .i64 a0_3, .int .i64 a0_4, .int .i64 a0_5, .int .i64 a0_6, .string a0_7, .string a0_8, .string a0_9] 36 (0, 0)) (by (with_reducible repeat (first | refine blk_drewN ?_ _ | refine blk_drew ?_ | refine blk_alloc ?_ _)); exact BK218.out) hb); have n1_ := Aside0.mk (below_step (by repeat (first | (with_reducible first | exact HB.out | apply below_alloc | apply pw_below_drewN | apply below_drew1 | refine below_set ?_ GE218.out) | exact HB.out)) hb); clear BK218; clear HB; have BK218 := n0_; have HB := n1_; clear n0_ n1_; (try clear hb); (try clear hb2); (try clear hk); (try clear hi)))
      go_ret
      exact ⟨by first | rfl | (simp [errW_none, errW_some] <;> rfl) | (simp [*, errW_none, errW_some] <;> rfl) | (simp only [decide_eq_true_eq] at *; simp [*, bt]; done), by repeat (first | (with_reducible first | exact HB.out | apply below_alloc | apply pw_below_drewN | apply below_drew1 | refine below_set ?_ GE218.out) | exact HB.out)⟩
      }
      }
      {
      rw [if_neg c61] at H
      have c61b0 : (a0_0 == 3) = false := beq_eq_false_iff_ne.mpr c61
      have c61b1 : (a0_0 != 3) = true := bne_iff_ne.mpr c61
      obtain rfl := Option.some.inj H
      have hcz73_0 : wc.cell? ⟨gb218, 0, none⟩ = some (.int .i64 a0_0) := (blk_cell BK218.out 0).trans rfl
      have hcz73_1 : wc.cell? ⟨gb218, 1, none⟩ = some (.string a0_1) := (blk_cell BK218.out 1).trans rfl
      have hcz73_2 : wc.cell? ⟨gb218, 2, none⟩ = some (.string a0_2) := (blk_cell BK218.out 2).trans rfl
      have hcz73_3 : wc.cell? ⟨gb218, 3, none⟩ = some (.int .i64 a0_3) := (blk_cell BK218.out 3).trans rfl
      have hcz73_4 : wc.cell? ⟨gb218, 4, none⟩ = some (.int .i64 a0_4) := (blk_cell BK218.out 4).trans rfl
      have hcz73_5 : wc.cell? ⟨gb218, 5, none⟩ = some (.int .i64 a0_5) := (blk_cell BK218.out 5).trans rfl
      have hcz73_6 : wc.cell? ⟨gb218, 6, none⟩ = some (.int .i64 a0_6) := (blk_cell BK218.out 6).trans rfl
      have hcz73_7 : wc.cell? ⟨gb218, 7, none⟩ = some (.string a0_7) := (blk_cell BK218.out 7).trans rfl
      have hcz73_8 : wc.cell? ⟨gb218, 8, none⟩ = some (.string a0_8) := (blk_cell BK218.out 8).trans rfl
      have hcz73_9 : wc.cell? ⟨gb218, 9, none⟩ = some (.string a0_9) := (blk_cell BK218.out 9).trans rfl
      have hfz73_0 := blk_frozen BK218.out 0
      have hfz73_1 := blk_frozen BK218.out 1
      have hfz73_2 := blk_frozen BK218.out 2
      have hfz73_3 := blk_frozen BK218.out 3
      have hfz73_4 := blk_frozen BK218.out 4
      have hfz73_5 := blk_frozen BK218.out 5
      have hfz73_6 := blk_frozen BK218.out 6
      have hfz73_7 := blk_frozen BK218.out 7
      have hfz73_8 := blk_frozen BK218.out 8
      have hfz73_9 := blk_frozen BK218.out 9
      go_wp2
      go_ret
      exact ⟨by first | rfl | (simp [errW_none, errW_some] <;> rfl) | (simp [*, errW_none, errW_some] <;> rfl) | (simp only [decide_eq_true_eq] at *; simp [*, bt]; done), by repeat (first | (with_reducible first | exact HB.out | apply below_alloc | apply pw_below_drewN | apply below_drew1 | refine below_set ?_ GE218.out) | exact HB.out)⟩

      }
      }
      }
      }
      }
end Go.Proofs.YtgmggpgcfonmgaaDoor.PFnExactMerge
