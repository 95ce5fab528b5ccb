-- PRINTED for this claim by a program of this session's repo over the kit's printer, with contracts of our own among the functions.
import Derived.Test.YtgmggpgcfonmgaaDoorPFnExactPutHeadx0
import Derived.Test.YtgmggpgcfonmgaaDoorPFnExactPutHeadx6
import Derived.Test.YtgmggpgcfonmgaaDoorPFnExactPutHeadx9
import Derived.Test.YtgmggpgcfonmgaaDoorPFnExactPutHeadx10
namespace Go.Proofs.YtgmggpgcfonmgaaDoor.PFnExactPutHead
open Go.RowKit Go.Proofs.YtgmggpgcfonmgaaDoorW.PrintWords Go.Proofs.YtgmggpgcfonmgaaDoorW.PrintLast Go.Proofs.YtgmggpgcfonmgaaDoorW.PrintMore
attribute [local go_sem] max2_int min2_int max_two min_two max_three min_three max_four min_four   -- for this text's walks alone
set_option linter.unusedVariables false
set_option linter.unusedSimpArgs false

/-! ### impl_PutHead: function 24 -/
def impl_PutHead.j0 : Nat → ByteArray → Int → Bool → Int → ByteArray → ByteArray → Int → Int → Int → Int → ByteArray → ByteArray → ByteArray → Option (ByteArray)
  | 0, _, _, _, _, _, _, _, _, _, _, _, _, _ => none
  | k + 1, x1, x2, x22, x246000, x246001, x246002, x246003, x246004, x246005, x246006, x246007, x246008, x246009 => if x22 = true then (some (⟨#[]⟩ : ByteArray)) else ((impl_Split.f k x246001).bind fun bt248 => ((impl_Fill.f bt248.2.1 100).bind fun t251 => ((impl_octal.f x246003 8).bind fun t252 => (if t251.size + t252.size ≤ 9223372036854775807 then ((impl_octal.f x246004 8).bind fun t253 => (if (t251 ++ t252).size + t253.size ≤ 9223372036854775807 then ((impl_octal.f x246005 8).bind fun t254 => (if ((t251 ++ t252) ++ t253).size + t254.size ≤ 9223372036854775807 then ((impl_octal.f x2 12).bind fun t255 => (if (((t251 ++ t252) ++ t253) ++ t254).size + t255.size ≤ 9223372036854775807 then ((impl_octal.f x246006 12).bind fun t256 => (if ((((t251 ++ t252) ++ t253) ++ t254) ++ t255).size + t256.size ≤ 9223372036854775807 then ((impl_nuls.f 8).bind fun t257 => (if (((((t251 ++ t252) ++ t253) ++ t254) ++ t255) ++ t256).size + t257.size ≤ 9223372036854775807 then (if ((((((t251 ++ t252) ++ t253) ++ t254) ++ t255) ++ t256) ++ t257).size + x1.size ≤ 9223372036854775807 then ((impl_Fill.f x246002 100).bind fun t258 => (if (((((((t251 ++ t252) ++ t253) ++ t254) ++ t255) ++ t256) ++ t257) ++ x1).size + t258.size ≤ 9223372036854775807 then (if ((((((((t251 ++ t252) ++ t253) ++ t254) ++ t255) ++ t256) ++ t257) ++ x1) ++ t258).size + 8 ≤ 9223372036854775807 then ((impl_Fill.f x246007 32).bind fun t259 => (if (((((((((t251 ++ t252) ++ t253) ++ t254) ++ t255) ++ t256) ++ t257) ++ x1) ++ t258) ++ (⟨#[117, 115, 116, 97, 114, 0, 48, 48]⟩ : ByteArray)).size + t259.size ≤ 9223372036854775807 then ((impl_Fill.f x246008 32).bind fun t260 => (if ((((((((((t251 ++ t252) ++ t253) ++ t254) ++ t255) ++ t256) ++ t257) ++ x1) ++ t258) ++ (⟨#[117, 115, 116, 97, 114, 0, 48, 48]⟩ : ByteArray)) ++ t259).size + t260.size ≤ 9223372036854775807 then ((impl_octal.f 0 8).bind fun t261 => (if (((((((((((t251 ++ t252) ++ t253) ++ t254) ++ t255) ++ t256) ++ t257) ++ x1) ++ t258) ++ (⟨#[117, 115, 116, 97, 114, 0, 48, 48]⟩ : ByteArray)) ++ t259) ++ t260).size + t261.size ≤ 9223372036854775807 then ((impl_octal.f 0 8).bind fun t262 => (if ((((((((((((t251 ++ t252) ++ t253) ++ t254) ++ t255) ++ t256) ++ t257) ++ x1) ++ t258) ++ (⟨#[117, 115, 116, 97, 114, 0, 48, 48]⟩ : ByteArray)) ++ t259) ++ t260) ++ t261).size + t262.size ≤ 9223372036854775807 then (if (((((((((((((t251 ++ t252) ++ t253) ++ t254) ++ t255) ++ t256) ++ t257) ++ x1) ++ t258) ++ (⟨#[117, 115, 116, 97, 114, 0, 48, 48]⟩ : ByteArray)) ++ t259) ++ t260) ++ t261) ++ t262).size + bt248.1.size ≤ 9223372036854775807 then ((impl_summed.f k ((((((((((((((t251 ++ t252) ++ t253) ++ t254) ++ t255) ++ t256) ++ t257) ++ x1) ++ t258) ++ (⟨#[117, 115, 116, 97, 114, 0, 48, 48]⟩ : ByteArray)) ++ t259) ++ t260) ++ t261) ++ t262) ++ bt248.1)).bind fun t263 => (some t263)) else (none)) else (none))) else (none))) else (none))) else (none))) else (none)) else (none))) else (none)) else (none))) else (none))) else (none))) else (none))) else (none))) else (none)))))
def impl_PutHead.f (k : Nat) (a0_0 : Int) (a0_1 : ByteArray) (a0_2 : ByteArray) (a0_3 : Int) (a0_4 : Int) (a0_5 : Int) (a0_6 : Int) (a0_7 : ByteArray) (a0_8 : ByteArray) (a0_9 : ByteArray) (a1 : ByteArray) (a2 : Int) : Option (ByteArray) := (impl_UstarFits.f k a0_0 a0_1 a0_2 a0_3 a0_4 a0_5 a0_6 a0_7 a0_8 a0_9).bind fun t246 => (if t246 = true then (if (a1.size : Int) = 1 then ((impl_within.f a2 0 3000).bind fun t247 => (impl_PutHead.j0 k a1 a2 (!t247) a0_0 a0_1 a0_2 a0_3 a0_4 a0_5 a0_6 a0_7 a0_8 a0_9)) else (impl_PutHead.j0 k a1 a2 true a0_0 a0_1 a0_2 a0_3 a0_4 a0_5 a0_6 a0_7 a0_8 a0_9)) else (impl_PutHead.j0 k a1 a2 true a0_0 a0_1 a0_2 a0_3 a0_4 a0_5 a0_6 a0_7 a0_8 a0_9))
theorem impl_PutHead.mono_l : ∀ k, (∀ y0 y1 y2 y3 y4 y5 y6 y7 y8 y9 y10 y11 y12, LeO (impl_PutHead.j0 k y0 y1 y2 y3 y4 y5 y6 y7 y8 y9 y10 y11 y12) (impl_PutHead.j0 (k + 1) y0 y1 y2 y3 y4 y5 y6 y7 y8 y9 y10 y11 y12))
  | 0 => fun _ _ _ _ _ _ _ _ _ _ _ _ _ r h => by simp [impl_PutHead.j0] at h
  | k + 1 => by
    have ih0 := impl_PutHead.mono_l k
    · intro y0 y1 y2 y3 y4 y5 y6 y7 y8 y9 y10 y11 y12
      unfold impl_PutHead.j0
      repeat' first
      | (with_reducible exact ih0 _ _ _ _ _ _ _ _ _ _ _ _ _)
      | (with_reducible exact impl_Split.mono _ _)
      | (with_reducible exact impl_UstarFits.mono _ _ _ _ _ _ _ _ _ _ _)
      | (with_reducible exact impl_summed.mono _ _)
      | (with_reducible exact LeO.refl _)
      | (with_reducible exact LeO.none _)
      | (with_reducible refine LeO.ite ?_ ?_)
      | (with_reducible refine LeO.bind ?_ (fun _ => ?_))
      | exact ih0 _ _ _ _ _ _ _ _ _ _ _ _ _
      | exact impl_Split.mono _ _
      | exact impl_UstarFits.mono _ _ _ _ _ _ _ _ _ _ _
      | exact impl_summed.mono _ _
      | exact LeO.none _
      | refine LeO.ite ?_ ?_
      | refine LeO.bind ?_ (fun _ => ?_)
theorem impl_PutHead.mono : ∀ a0 a1 a2 a3 a4 a5 a6 a7 a8 a9 a10 a11 k, LeO (impl_PutHead.f k a0 a1 a2 a3 a4 a5 a6 a7 a8 a9 a10 a11) (impl_PutHead.f (k + 1) a0 a1 a2 a3 a4 a5 a6 a7 a8 a9 a10 a11) := by
  intro a0 a1 a2 a3 a4 a5 a6 a7 a8 a9 a10 a11 k
  have ih0 := impl_PutHead.mono_l k
  unfold impl_PutHead.f
  repeat' first
      | (with_reducible exact ih0 _ _ _ _ _ _ _ _ _ _ _ _ _)
      | (with_reducible exact impl_Split.mono _ _)
      | (with_reducible exact impl_UstarFits.mono _ _ _ _ _ _ _ _ _ _ _)
      | (with_reducible exact impl_summed.mono _ _)
      | (with_reducible exact LeO.refl _)
      | (with_reducible exact LeO.none _)
      | (with_reducible refine LeO.ite ?_ ?_)
      | (with_reducible refine LeO.bind ?_ (fun _ => ?_))
      | exact ih0 _ _ _ _ _ _ _ _ _ _ _ _ _
      | exact impl_Split.mono _ _
      | exact impl_UstarFits.mono _ _ _ _ _ _ _ _ _ _ _
      | exact impl_summed.mono _ _
      | exact LeO.none _
      | refine LeO.ite ?_ ?_
      | refine LeO.bind ?_ (fun _ => ?_)
def impl_PutHead.T4 : Bool × List (List Nat × List Nat) := (true, [([], []), ([0], [0]), ([], []), ([2], [2]), ([3, 1], [3]), ([1, 4], [1, 4]), ([], []), ([6], [6]), ([7, 4], [7]), ([5, 8], [5, 8]), ([], []), ([10], [10]), ([11, 8], [11]), ([9, 12], [9, 12]), ([], []), ([14, 12], [14]), ([13, 15], [13, 15]), ([], []), ([17], [17]), ([18, 15], [18]), ([16, 19], [16, 19]), ([19], []), ([20, 21], [20, 21]), ([], []), ([22, 23], [22, 23]), ([], []), ([25], [25]), ([26, 21], [26]), ([24, 27], [24, 27]), ([28], [28]), ([], []), ([30], [30]), ([31, 27], [31]), ([29, 32], [29, 32]), ([], []), ([34], [34]), ([35, 32], [35]), ([33, 36], [33, 36]), ([36], []), ([37, 38], [37, 38]), ([38], []), ([39, 40], [39, 40]), ([], []), ([41, 42], [41, 42]), ([43, 40], [43]), ([44, 44, 0, 1, 2, 3, 4, 5, 6, 7, 8, 9, 10, 11, 12, 13, 14, 15, 16, 17, 18, 19, 20, 21, 22, 23, 24, 25, 26, 27, 28, 29, 30, 31, 32, 33, 34, 35, 36, 37, 38, 39, 40, 41, 42, 43, 44], [44])])
def impl_PutHead.B4 : List Nat := [0, 1, 0, 4, 15, 31, 0, 64, 223, 511, 0, 1024, 3551, 8191, 0, 24031, 65535, 0, 131072, 450015, 1048575, 974303, 4194303, 0, 16777215, 0, 33554432, 103734751, 268435455, 536870911, 0, 1073741824, 3459177951, 8589934591, 0, 17179869184, 59293752799, 137438953471, 128013229535, 549755813887, 402891136479, 2199023255551, 0, 8796093022207, 17592186044415, 35184372088831]
theorem impl_PutHead.tab4 : rtab .any (opsOf Tryd.f24 4) = impl_PutHead.T4 := by kernel_rfl
theorem impl_PutHead.bits4 : waitsOk impl_PutHead.T4.2 impl_PutHead.B4 = true := by kernel_rfl
set_option maxHeartbeats 8000000 in
set_option maxRecDepth 100000 in
theorem impl_PutHead.calls (k : Nat) (a0_0 : Int) (a0_1 : ByteArray) (a0_2 : ByteArray) (a0_3 : Int) (a0_4 : Int) (a0_5 : Int) (a0_6 : Int) (a0_7 : ByteArray) (a0_8 : ByteArray) (a0_9 : ByteArray) (a1 : ByteArray) (a2 : Int) (r : ByteArray) (w : World) (h : impl_PutHead.f k a0_0 a0_1 a0_2 a0_3 a0_4 a0_5 a0_6 a0_7 a0_8 a0_9 a1 a2 = some r) (hL : Tabs w) :
    Calls Tryd.prog 24 #[.agg #[.int .i64 a0_0, .string a0_1, .string a0_2, .int .i64 a0_3, .int .i64 a0_4, .int .i64 a0_5, .int .i64 a0_6, .string a0_7, .string a0_8, .string a0_9], .string a1, .int .i64 a2] w fun e w' => e = .returned (.string r) ∧ Below w.heap.size w w' := by
  have HL := Aside0.mk hL
  clear hL
  have hu36 := Tryd.underlying36
  have HB := Aside0.mk (Below.refl w.heap.size w)
  have H : ((impl_UstarFits.f k a0_0 a0_1 a0_2 a0_3 a0_4 a0_5 a0_6 a0_7 a0_8 a0_9).bind fun t246 => (if t246 = true then (if (a1.size : Int) = 1 then ((impl_within.f a2 0 3000).bind fun t247 => (impl_PutHead.j0 k a1 a2 (!t247) a0_0 a0_1 a0_2 a0_3 a0_4 a0_5 a0_6 a0_7 a0_8 a0_9)) else (impl_PutHead.j0 k a1 a2 true a0_0 a0_1 a0_2 a0_3 a0_4 a0_5 a0_6 a0_7 a0_8 a0_9)) else (impl_PutHead.j0 k a1 a2 true a0_0 a0_1 a0_2 a0_3 a0_4 a0_5 a0_6 a0_7 a0_8 a0_9))) = some r := h
  clear h
  have HC4 := Aside0.mk H
  clear H
  go_enter Tryd.func24, Tryd.ntmps24
  go_upto_region 1 with (first | ((with_reducible refine gate_dst (N := 3) rfl ?_); (try (refine gate_guard (by rfl) ?_; dsimp only)); refine box_event ?hg (N := 3) ?hd (cs := #[.int .i64 a0_0, .string a0_1, .string a0_2, .int .i64 a0_3, .int .i64 a0_4, .int .i64 a0_5, .int .i64 a0_6, .string a0_7, .string a0_8, .string a0_9]) (t := 36) ?hr ?_; (case hd => rfl); (case hg => rfl); (case hr => first | (go_simp; done) | (go_simp; rfl)); intro gb245 hg w5 hbox hb; have n0_ := Aside0.mk (below_step (by repeat (first | (with_reducible first | exact HB.out | apply below_alloc | apply pw_below_drewN | apply below_drew1) | exact HB.out)) hb); have n1_ := Aside0.mk (hbox); have n2_ := Aside0.mk ((by rw [hg]; exact (below_size (by repeat (first | (with_reducible first | exact HB.out | apply below_alloc | apply pw_below_drewN | apply below_drew1) | exact HB.out))) : w.heap.size ≤ gb245)); have n3_ := Aside0.mk ((by rw [hg]; exact (below_size (by repeat (first | (with_reducible first | exact HB.out | apply below_alloc | apply pw_below_drewN | apply below_drew1) | exact HB.out))) : w.heap.size ≤ gb245)); clear HB; have HB := n0_; have BK245 := n1_; have GW245 := n2_; have GE245 := n3_; clear n0_ n1_ n2_ n3_; clear hb hbox hg))
  (try simp only [Act.put, List.setIfInBounds_toArray, List.set_cons_zero, List.set_cons_succ])
  go_cut [22] (fun v22 wc => ∃ (kq : Nat) (x22_3 : Bool), v22 = .bool x22_3 ∧ Aside0 (impl_PutHead.j0 kq a1 a2 x22_3 a0_0 a0_1 a0_2 a0_3 a0_4 a0_5 a0_6 a0_7 a0_8 a0_9 = some r) ∧ Aside0 (kq ≤ k) ∧ Aside0 (wc.heap[gb245]? = some (.cells #[.int .i64 a0_0, .string a0_1, .string a0_2, .int .i64 a0_3, .int .i64 a0_4, .int .i64 a0_5, .int .i64 a0_6, .string a0_7, .string a0_8, .string a0_9] 36 (0, 0))) ∧ Aside0 (Below w.heap.size w wc))
  case first =>
    have H := HC4.out
    clear HC4
    replace H := Option.bind_eq_some_iff.mp H
    obtain ⟨t246, A60, H⟩ := H
    replace H : (if t246 = true then (if (a1.size : Int) = 1 then ((impl_within.f a2 0 3000).bind fun t247 => (impl_PutHead.j0 k a1 a2 (!t247) a0_0 a0_1 a0_2 a0_3 a0_4 a0_5 a0_6 a0_7 a0_8 a0_9)) else (impl_PutHead.j0 k a1 a2 true a0_0 a0_1 a0_2 a0_3 a0_4 a0_5 a0_6 a0_7 a0_8 a0_9)) else (impl_PutHead.j0 k a1 a2 true a0_0 a0_1 a0_2 a0_3 a0_4 a0_5 a0_6 a0_7 a0_8 a0_9)) = some r := H
    have A6 := Aside0.mk A60
    clear A60
    by_cases c7 : t246 = true
    · subst c7
      have H1 : (if (a1.size : Int) = 1 then ((impl_within.f a2 0 3000).bind fun t247 => (impl_PutHead.j0 k a1 a2 (!t247) a0_0 a0_1 a0_2 a0_3 a0_4 a0_5 a0_6 a0_7 a0_8 a0_9)) else (impl_PutHead.j0 k a1 a2 true a0_0 a0_1 a0_2 a0_3 a0_4 a0_5 a0_6 a0_7 a0_8 a0_9)) = some r := by rw [if_pos rfl] at H; exact H
      clear H
      have H := H1
      clear H1
      by_cases c8 : (a1.size : Int) = 1
      · rw [if_pos c8] at H
        have c8b0 : ((a1.size : Int) == 1) = true := beq_iff_eq.mpr c8
        have c8b1 : ((a1.size : Int) != 1) = false := bne_eq_false_iff_eq.mpr c8
        clear c8
        (first | rw [c8b0] | (simp only [i64_w, i32_w]; rw [c8b0]) | skip)
        replace H := Option.bind_eq_some_iff.mp H
        obtain ⟨t247, A90, H⟩ := H
        replace H : (impl_PutHead.j0 k a1 a2 (!t247) a0_0 a0_1 a0_2 a0_3 a0_4 a0_5 a0_6 a0_7 a0_8 a0_9) = some r := H
        have A9 := Aside0.mk A90
        clear A90
        have H' := Aside0.mk H
        clear H
        have hcz10_0 : w5.cell? ⟨gb245, 0, none⟩ = some (.int .i64 a0_0) := (blk_cell BK245.out 0).trans rfl
        have hcz10_1 : w5.cell? ⟨gb245, 1, none⟩ = some (.string a0_1) := (blk_cell BK245.out 1).trans rfl
        have hcz10_2 : w5.cell? ⟨gb245, 2, none⟩ = some (.string a0_2) := (blk_cell BK245.out 2).trans rfl
        have hcz10_3 : w5.cell? ⟨gb245, 3, none⟩ = some (.int .i64 a0_3) := (blk_cell BK245.out 3).trans rfl
        have hcz10_4 : w5.cell? ⟨gb245, 4, none⟩ = some (.int .i64 a0_4) := (blk_cell BK245.out 4).trans rfl
        have hcz10_5 : w5.cell? ⟨gb245, 5, none⟩ = some (.int .i64 a0_5) := (blk_cell BK245.out 5).trans rfl
        have hcz10_6 : w5.cell? ⟨gb245, 6, none⟩ = some (.int .i64 a0_6) := (blk_cell BK245.out 6).trans rfl
        have hcz10_7 : w5.cell? ⟨gb245, 7, none⟩ = some (.string a0_7) := (blk_cell BK245.out 7).trans rfl
        have hcz10_8 : w5.cell? ⟨gb245, 8, none⟩ = some (.string a0_8) := (blk_cell BK245.out 8).trans rfl
        have hcz10_9 : w5.cell? ⟨gb245, 9, none⟩ = some (.string a0_9) := (blk_cell BK245.out 9).trans rfl
        have hfz10_0 := blk_frozen BK245.out 0
        have hfz10_1 := blk_frozen BK245.out 1
        have hfz10_2 := blk_frozen BK245.out 2
        have hfz10_3 := blk_frozen BK245.out 3
        have hfz10_4 := blk_frozen BK245.out 4
        have hfz10_5 := blk_frozen BK245.out 5
        have hfz10_6 := blk_frozen BK245.out 6
        have hfz10_7 := blk_frozen BK245.out 7
        have hfz10_8 := blk_frozen BK245.out 8
        have hfz10_9 := blk_frozen BK245.out 9
        go_wp2_with (first | ((with_reducible refine gate_callee (f := 54) rfl ?_); refine goesL_ (some 11) rfl rfl Tryd.func54 (by kernel_rfl) rfl #[.agg #[.int .i64 a0_0, .string a0_1, .string a0_2, .int .i64 a0_3, .int .i64 a0_4, .int .i64 a0_5, .int .i64 a0_6, .string a0_7, .string a0_8, .string a0_9]] rfl (by (try simp only [List.map_toArray, List.map_cons, List.map_nil]); first | done | rfl | (simp only [List.length_drop, List.length_take]; rfl)) ?_; (with_reducible refine (impl_UstarFits.calls k a0_0 a0_1 a0_2 a0_3 a0_4 a0_5 a0_6 a0_7 a0_8 a0_9 true _ A6.out).mono ?_); rintro e w11 ⟨rfl, hb⟩; refine ⟨_, rfl, ?_⟩; have n0_ := Aside0.mk (blk_below (g := gb245) (o := .cells #[.int .i64 a0_0, .string a0_1, .string a0_2, .int .i64 a0_3, .int .i64 a0_4, .int .i64 a0_5, .int .i64 a0_6, .string a0_7, .string a0_8, .string a0_9] 36 (0, 0)) (by (with_reducible repeat (first | refine blk_drewN ?_ _ | refine blk_drew ?_ | refine blk_alloc ?_ _)); exact BK245.out) hb); have n1_ := Aside0.mk (below_step (by repeat (first | (with_reducible first | exact HB.out | apply below_alloc | apply pw_below_drewN | apply below_drew1 | refine below_set ?_ GE245.out) | exact HB.out)) hb); clear BK245; clear HB; have BK245 := n0_; have HB := n1_; clear n0_ n1_; (try clear hb); (try clear hb2); (try clear hk); (try clear hi)) | (go_at_call 55; (with_reducible refine (impl_within.calls a2 0 3000 t247 _ A9.out).mono ?_); rintro e w' ⟨rfl, ⟨nd, rfl⟩⟩))
        go_meet
        case rel => exact ⟨_, (!t247), (by first | rfl | (simp; done) | (simp [*]; done)), H', ⟨by first | omega | exact Nat.le_refl _⟩, ⟨by (with_reducible repeat (first | refine blk_drewN ?_ _ | refine blk_drew ?_ | refine blk_alloc ?_ _)); exact BK245.out⟩, ⟨by repeat (first | (with_reducible first | exact HB.out | apply below_alloc | apply pw_below_drewN | apply below_drew1 | refine below_set ?_ GE245.out) | exact HB.out)⟩⟩
      · rw [if_neg c8] at H
        have c8b0 : ((a1.size : Int) == 1) = false := beq_eq_false_iff_ne.mpr c8
        have c8b1 : ((a1.size : Int) != 1) = true := bne_iff_ne.mpr c8
        (first | rw [c8b0] | (simp only [i64_w, i32_w]; rw [c8b0]) | skip)
        have H' := Aside0.mk H
        clear H
        have hcz12_0 : w5.cell? ⟨gb245, 0, none⟩ = some (.int .i64 a0_0) := (blk_cell BK245.out 0).trans rfl
        have hcz12_1 : w5.cell? ⟨gb245, 1, none⟩ = some (.string a0_1) := (blk_cell BK245.out 1).trans rfl
        have hcz12_2 : w5.cell? ⟨gb245, 2, none⟩ = some (.string a0_2) := (blk_cell BK245.out 2).trans rfl
        have hcz12_3 : w5.cell? ⟨gb245, 3, none⟩ = some (.int .i64 a0_3) := (blk_cell BK245.out 3).trans rfl
        have hcz12_4 : w5.cell? ⟨gb245, 4, none⟩ = some (.int .i64 a0_4) := (blk_cell BK245.out 4).trans rfl
        have hcz12_5 : w5.cell? ⟨gb245, 5, none⟩ = some (.int .i64 a0_5) := (blk_cell BK245.out 5).trans rfl
        have hcz12_6 : w5.cell? ⟨gb245, 6, none⟩ = some (.int .i64 a0_6) := (blk_cell BK245.out 6).trans rfl
        have hcz12_7 : w5.cell? ⟨gb245, 7, none⟩ = some (.string a0_7) := (blk_cell BK245.out 7).trans rfl
        have hcz12_8 : w5.cell? ⟨gb245, 8, none⟩ = some (.string a0_8) := (blk_cell BK245.out 8).trans rfl
        have hcz12_9 : w5.cell? ⟨gb245, 9, none⟩ = some (.string a0_9) := (blk_cell BK245.out 9).trans rfl
        have hfz12_0 := blk_frozen BK245.out 0
        have hfz12_1 := blk_frozen BK245.out 1
        have hfz12_2 := blk_frozen BK245.out 2
        have hfz12_3 := blk_frozen BK245.out 3
        have hfz12_4 := blk_frozen BK245.out 4
        have hfz12_5 := blk_frozen BK245.out 5
        have hfz12_6 := blk_frozen BK245.out 6
        have hfz12_7 := blk_frozen BK245.out 7
        have hfz12_8 := blk_frozen BK245.out 8
        have hfz12_9 := blk_frozen BK245.out 9
        go_wp2_with (first | ((with_reducible refine gate_callee (f := 54) rfl ?_); refine goesL_ (some 11) rfl rfl Tryd.func54 (by kernel_rfl) rfl #[.agg #[.int .i64 a0_0, .string a0_1, .string a0_2, .int .i64 a0_3, .int .i64 a0_4, .int .i64 a0_5, .int .i64 a0_6, .string a0_7, .string a0_8, .string a0_9]] rfl (by (try simp only [List.map_toArray, List.map_cons, List.map_nil]); first | done | rfl | (simp only [List.length_drop, List.length_take]; rfl)) ?_; (with_reducible refine (impl_UstarFits.calls k a0_0 a0_1 a0_2 a0_3 a0_4 a0_5 a0_6 a0_7 a0_8 a0_9 true _ A6.out).mono ?_); rintro e w13 ⟨rfl, hb⟩; refine ⟨_, rfl, ?_⟩; have n0_ := Aside0.mk (blk_below (g := gb245) (o := .cells #[.int .i64 a0_0, .string a0_1, .string a0_2, .int .i64 a0_3, .int .i64 a0_4, .int .i64 a0_5, .int .i64 a0_6, .string a0_7, .string a0_8, .string a0_9] 36 (0, 0)) (by (with_reducible repeat (first | refine blk_drewN ?_ _ | refine blk_drew ?_ | refine blk_alloc ?_ _)); exact BK245.out) hb); have n1_ := Aside0.mk (below_step (by repeat (first | (with_reducible first | exact HB.out | apply below_alloc | apply pw_below_drewN | apply below_drew1 | refine below_set ?_ GE245.out) | exact HB.out)) hb); clear BK245; clear HB; have BK245 := n0_; have HB := n1_; clear n0_ n1_; (try clear hb); (try clear hb2); (try clear hk); (try clear hi)))
        go_meet
        case rel => exact ⟨_, (true), (by first | rfl | (simp; done) | (simp [*]; done)), H', ⟨by first | omega | exact Nat.le_refl _⟩, ⟨by (with_reducible repeat (first | refine blk_drewN ?_ _ | refine blk_drew ?_ | refine blk_alloc ?_ _)); exact BK245.out⟩, ⟨by repeat (first | (with_reducible first | exact HB.out | apply below_alloc | apply pw_below_drewN | apply below_drew1 | refine below_set ?_ GE245.out) | exact HB.out)⟩⟩
    · replace c7 := Bool.eq_false_iff.mpr c7
      subst c7
      have H1 : (impl_PutHead.j0 k a1 a2 true a0_0 a0_1 a0_2 a0_3 a0_4 a0_5 a0_6 a0_7 a0_8 a0_9) = some r := by rw [if_neg (show ¬ (false = true) by decide)] at H; exact H
      clear H
      have H := H1
      clear H1
      have H' := Aside0.mk H
      clear H
      have hcz14_0 : w5.cell? ⟨gb245, 0, none⟩ = some (.int .i64 a0_0) := (blk_cell BK245.out 0).trans rfl
      have hcz14_1 : w5.cell? ⟨gb245, 1, none⟩ = some (.string a0_1) := (blk_cell BK245.out 1).trans rfl
      have hcz14_2 : w5.cell? ⟨gb245, 2, none⟩ = some (.string a0_2) := (blk_cell BK245.out 2).trans rfl
      have hcz14_3 : w5.cell? ⟨gb245, 3, none⟩ = some (.int .i64 a0_3) := (blk_cell BK245.out 3).trans rfl
      have hcz14_4 : w5.cell? ⟨gb245, 4, none⟩ = some (.int .i64 a0_4) := (blk_cell BK245.out 4).trans rfl
      have hcz14_5 : w5.cell? ⟨gb245, 5, none⟩ = some (.int .i64 a0_5) := (blk_cell BK245.out 5).trans rfl
      have hcz14_6 : w5.cell? ⟨gb245, 6, none⟩ = some (.int .i64 a0_6) := (blk_cell BK245.out 6).trans rfl
      have hcz14_7 : w5.cell? ⟨gb245, 7, none⟩ = some (.string a0_7) := (blk_cell BK245.out 7).trans rfl
      have hcz14_8 : w5.cell? ⟨gb245, 8, none⟩ = some (.string a0_8) := (blk_cell BK245.out 8).trans rfl
      have hcz14_9 : w5.cell? ⟨gb245, 9, none⟩ = some (.string a0_9) := (blk_cell BK245.out 9).trans rfl
      have hfz14_0 := blk_frozen BK245.out 0
      have hfz14_1 := blk_frozen BK245.out 1
      have hfz14_2 := blk_frozen BK245.out 2
      have hfz14_3 := blk_frozen BK245.out 3
      have hfz14_4 := blk_frozen BK245.out 4
      have hfz14_5 := blk_frozen BK245.out 5
      have hfz14_6 := blk_frozen BK245.out 6
      have hfz14_7 := blk_frozen BK245.out 7
      have hfz14_8 := blk_frozen BK245.out 8
      have hfz14_9 := blk_frozen BK245.out 9
      go_wp2_with (first | ((with_reducible refine gate_callee (f := 54) rfl ?_); refine goesL_ (some 11) rfl rfl Tryd.func54 (by kernel_rfl) rfl #[.agg #[.int .i64 a0_0, .string a0_1, .string a0_2, .int .i64 a0_3, .int .i64 a0_4, .int .i64 a0_5, .int .i64 a0_6, .string a0_7, .string a0_8, .string a0_9]] rfl (by (try simp only [List.map_toArray, List.map_cons, List.map_nil]); first | done | rfl | (simp only [List.length_drop, List.length_take]; rfl)) ?_; (with_reducible refine (impl_UstarFits.calls k a0_0 a0_1 a0_2 a0_3 a0_4 a0_5 a0_6 a0_7 a0_8 a0_9 false _ A6.out).mono ?_); rintro e w15 ⟨rfl, hb⟩; refine ⟨_, rfl, ?_⟩; have n0_ := Aside0.mk (blk_below (g := gb245) (o := .cells #[.int .i64 a0_0, .string a0_1, .string a0_2, .int .i64 a0_3, .int .i64 a0_4, .int .i64 a0_5, .int .i64 a0_6, .string a0_7, .string a0_8, .string a0_9] 36 (0, 0)) (by (with_reducible repeat (first | refine blk_drewN ?_ _ | refine blk_drew ?_ | refine blk_alloc ?_ _)); exact BK245.out) hb); have n1_ := Aside0.mk (below_step (by repeat (first | (with_reducible first | exact HB.out | apply below_alloc | apply pw_below_drewN | apply below_drew1 | refine below_set ?_ GE245.out) | exact HB.out)) hb); clear BK245; clear HB; have BK245 := n0_; have HB := n1_; clear n0_ n1_; (try clear hb); (try clear hb2); (try clear hk); (try clear hi)))
      go_meet
      case rel => exact ⟨_, (true), (by first | rfl | (simp; done) | (simp [*]; done)), H', ⟨by first | omega | exact Nat.le_refl _⟩, ⟨by (with_reducible repeat (first | refine blk_drewN ?_ _ | refine blk_drew ?_ | refine blk_alloc ?_ _)); exact BK245.out⟩, ⟨by repeat (first | (with_reducible first | exact HB.out | apply below_alloc | apply pw_below_drewN | apply below_drew1 | refine below_set ?_ GE245.out) | exact HB.out)⟩⟩
  case rest =>
    clear HC4
    try clear c2
    try clear p2
    try clear c5
    try clear c7
    try clear c8
    try clear c8b0
    try clear c8b1
    try clear hcz10_0
    try clear hcz10_1
    try clear hcz10_2
    try clear hcz10_3
    try clear hcz10_4
    try clear hcz10_5
    try clear hcz10_6
    try clear hcz10_7
    try clear hcz10_8
    try clear hcz10_9
    try clear hcz12_0
    try clear hcz12_1
    try clear hcz12_2
    try clear hcz12_3
    try clear hcz12_4
    try clear hcz12_5
    try clear hcz12_6
    try clear hcz12_7
    try clear hcz12_8
    try clear hcz12_9
    try clear hcz14_0
    try clear hcz14_1
    try clear hcz14_2
    try clear hcz14_3
    try clear hcz14_4
    try clear hcz14_5
    try clear hcz14_6
    try clear hcz14_7
    try clear hcz14_8
    try clear hcz14_9
    try clear hfz10_0
    try clear hfz10_1
    try clear hfz10_2
    try clear hfz10_3
    try clear hfz10_4
    try clear hfz10_5
    try clear hfz10_6
    try clear hfz10_7
    try clear hfz10_8
    try clear hfz10_9
    try clear hfz12_0
    try clear hfz12_1
    try clear hfz12_2
    try clear hfz12_3
    try clear hfz12_4
    try clear hfz12_5
    try clear hfz12_6
    try clear hfz12_7
    try clear hfz12_8
    try clear hfz12_9
    try clear hfz14_0
    try clear hfz14_1
    try clear hfz14_2
    try clear hfz14_3
    try clear hfz14_4
    try clear hfz14_5
    try clear hfz14_6
    try clear hfz14_7
    try clear hfz14_8
    try clear hfz14_9
    obtain ⟨kq, x22_3, rfl, HA, HJ3, BK245, HB⟩ := hcut
    cases kq with
    | zero => exact absurd HA.out (by simp [impl_PutHead.j0])
    | succ kj3 =>
      have H := HA.out
      clear HA
      simp only [impl_PutHead.j0] at H
      by_cases c16 : x22_3 = true
      · subst c16
        have H1 : (some (⟨#[]⟩ : ByteArray)) = some r := by rw [if_pos rfl] at H; exact H
        clear H
        have H := H1
        clear H1
        obtain rfl := Option.some.inj H
        go_wp2
        go_ret
        exact ⟨by first | rfl | (simp [errW_none, errW_some] <;> rfl) | (simp [*, errW_none, errW_some] <;> rfl) | (simp only [decide_eq_true_eq] at *; simp [*, bt]; done), by repeat (first | (with_reducible first | exact HB.out | apply below_alloc | apply pw_below_drewN | apply below_drew1 | refine below_set ?_ GE245.out) | exact HB.out)⟩
      · replace c16 := Bool.eq_false_iff.mpr c16
        subst c16
        have H1 : ((impl_Split.f kj3 a0_1).bind fun bt248 => ((impl_Fill.f bt248.2.1 100).bind fun t251 => ((impl_octal.f a0_3 8).bind fun t252 => (if t251.size + t252.size ≤ 9223372036854775807 then ((impl_octal.f a0_4 8).bind fun t253 => (if (t251 ++ t252).size + t253.size ≤ 9223372036854775807 then ((impl_octal.f a0_5 8).bind fun t254 => (if ((t251 ++ t252) ++ t253).size + t254.size ≤ 9223372036854775807 then ((impl_octal.f a2 12).bind fun t255 => (if (((t251 ++ t252) ++ t253) ++ t254).size + t255.size ≤ 9223372036854775807 then ((impl_octal.f a0_6 12).bind fun t256 => (if ((((t251 ++ t252) ++ t253) ++ t254) ++ t255).size + t256.size ≤ 9223372036854775807 then ((impl_nuls.f 8).bind fun t257 => (if (((((t251 ++ t252) ++ t253) ++ t254) ++ t255) ++ t256).size + t257.size ≤ 9223372036854775807 then (if ((((((t251 ++ t252) ++ t253) ++ t254) ++ t255) ++ t256) ++ t257).size + a1.size ≤ 9223372036854775807 then ((impl_Fill.f a0_2 100).bind fun t258 => (if (((((((t251 ++ t252) ++ t253) ++ t254) ++ t255) ++ t256) ++ t257) ++ a1).size + t258.size ≤ 9223372036854775807 then (if ((((((((t251 ++ t252) ++ t253) ++ t254) ++ t255) ++ t256) ++ t257) ++ a1) ++ t258).size + 8 ≤ 9223372036854775807 then ((impl_Fill.f a0_7 32).bind fun t259 => (if (((((((((t251 ++ t252) ++ t253) ++ t254) ++ t255) ++ t256) ++ t257) ++ a1) ++ t258) ++ (⟨#[117, 115, 116, 97, 114, 0, 48, 48]⟩ : ByteArray)).size + t259.size ≤ 9223372036854775807 then ((impl_Fill.f a0_8 32).bind fun t260 => (if ((((((((((t251 ++ t252) ++ t253) ++ t254) ++ t255) ++ t256) ++ t257) ++ a1) ++ t258) ++ (⟨#[117, 115, 116, 97, 114, 0, 48, 48]⟩ : ByteArray)) ++ t259).size + t260.size ≤ 9223372036854775807 then ((impl_octal.f 0 8).bind fun t261 => (if (((((((((((t251 ++ t252) ++ t253) ++ t254) ++ t255) ++ t256) ++ t257) ++ a1) ++ t258) ++ (⟨#[117, 115, 116, 97, 114, 0, 48, 48]⟩ : ByteArray)) ++ t259) ++ t260).size + t261.size ≤ 9223372036854775807 then ((impl_octal.f 0 8).bind fun t262 => (if ((((((((((((t251 ++ t252) ++ t253) ++ t254) ++ t255) ++ t256) ++ t257) ++ a1) ++ t258) ++ (⟨#[117, 115, 116, 97, 114, 0, 48, 48]⟩ : ByteArray)) ++ t259) ++ t260) ++ t261).size + t262.size ≤ 9223372036854775807 then (if (((((((((((((t251 ++ t252) ++ t253) ++ t254) ++ t255) ++ t256) ++ t257) ++ a1) ++ t258) ++ (⟨#[117, 115, 116, 97, 114, 0, 48, 48]⟩ : ByteArray)) ++ t259) ++ t260) ++ t261) ++ t262).size + bt248.1.size ≤ 9223372036854775807 then ((impl_summed.f kj3 ((((((((((((((t251 ++ t252) ++ t253) ++ t254) ++ t255) ++ t256) ++ t257) ++ a1) ++ t258) ++ (⟨#[117, 115, 116, 97, 114, 0, 48, 48]⟩ : ByteArray)) ++ t259) ++ t260) ++ t261) ++ t262) ++ bt248.1)).bind fun t263 => (some t263)) else (none)) else (none))) else (none))) else (none))) else (none))) else (none)) else (none))) else (none)) else (none))) else (none))) else (none))) else (none))) else (none))) else (none))))) = some r := by rw [if_neg (show ¬ (false = true) by decide)] at H; exact H
        clear H
        have H := H1
        clear H1
        replace H := Option.bind_eq_some_iff.mp H
        obtain ⟨⟨t248, t249, t250⟩, A170, H⟩ := H
        replace H : ((impl_Fill.f t249 100).bind fun t251 => ((impl_octal.f a0_3 8).bind fun t252 => (if t251.size + t252.size ≤ 9223372036854775807 then ((impl_octal.f a0_4 8).bind fun t253 => (if (t251 ++ t252).size + t253.size ≤ 9223372036854775807 then ((impl_octal.f a0_5 8).bind fun t254 => (if ((t251 ++ t252) ++ t253).size + t254.size ≤ 9223372036854775807 then ((impl_octal.f a2 12).bind fun t255 => (if (((t251 ++ t252) ++ t253) ++ t254).size + t255.size ≤ 9223372036854775807 then ((impl_octal.f a0_6 12).bind fun t256 => (if ((((t251 ++ t252) ++ t253) ++ t254) ++ t255).size + t256.size ≤ 9223372036854775807 then ((impl_nuls.f 8).bind fun t257 => (if (((((t251 ++ t252) ++ t253) ++ t254) ++ t255) ++ t256).size + t257.size ≤ 9223372036854775807 then (if ((((((t251 ++ t252) ++ t253) ++ t254) ++ t255) ++ t256) ++ t257).size + a1.size ≤ 9223372036854775807 then ((impl_Fill.f a0_2 100).bind fun t258 => (if (((((((t251 ++ t252) ++ t253) ++ t254) ++ t255) ++ t256) ++ t257) ++ a1).size + t258.size ≤ 9223372036854775807 then (if ((((((((t251 ++ t252) ++ t253) ++ t254) ++ t255) ++ t256) ++ t257) ++ a1) ++ t258).size + 8 ≤ 9223372036854775807 then ((impl_Fill.f a0_7 32).bind fun t259 => (if (((((((((t251 ++ t252) ++ t253) ++ t254) ++ t255) ++ t256) ++ t257) ++ a1) ++ t258) ++ (⟨#[117, 115, 116, 97, 114, 0, 48, 48]⟩ : ByteArray)).size + t259.size ≤ 9223372036854775807 then ((impl_Fill.f a0_8 32).bind fun t260 => (if ((((((((((t251 ++ t252) ++ t253) ++ t254) ++ t255) ++ t256) ++ t257) ++ a1) ++ t258) ++ (⟨#[117, 115, 116, 97, 114, 0, 48, 48]⟩ : ByteArray)) ++ t259).size + t260.size ≤ 9223372036854775807 then ((impl_octal.f 0 8).bind fun t261 => (if (((((((((((t251 ++ t252) ++ t253) ++ t254) ++ t255) ++ t256) ++ t257) ++ a1) ++ t258) ++ (⟨#[117, 115, 116, 97, 114, 0, 48, 48]⟩ : ByteArray)) ++ t259) ++ t260).size + t261.size ≤ 9223372036854775807 then ((impl_octal.f 0 8).bind fun t262 => (if ((((((((((((t251 ++ t252) ++ t253) ++ t254) ++ t255) ++ t256) ++ t257) ++ a1) ++ t258) ++ (⟨#[117, 115, 116, 97, 114, 0, 48, 48]⟩ : ByteArray)) ++ t259) ++ t260) ++ t261).size + t262.size ≤ 9223372036854775807 then (if (((((((((((((t251 ++ t252) ++ t253) ++ t254) ++ t255) ++ t256) ++ t257) ++ a1) ++ t258) ++ (⟨#[117, 115, 116, 97, 114, 0, 48, 48]⟩ : ByteArray)) ++ t259) ++ t260) ++ t261) ++ t262).size + t248.size ≤ 9223372036854775807 then ((impl_summed.f kj3 ((((((((((((((t251 ++ t252) ++ t253) ++ t254) ++ t255) ++ t256) ++ t257) ++ a1) ++ t258) ++ (⟨#[117, 115, 116, 97, 114, 0, 48, 48]⟩ : ByteArray)) ++ t259) ++ t260) ++ t261) ++ t262) ++ t248)).bind fun t263 => (some t263)) else (none)) else (none))) else (none))) else (none))) else (none))) else (none)) else (none))) else (none)) else (none))) else (none))) else (none))) else (none))) else (none))) else (none)))) = some r := H
        have A17 := Aside0.mk A170
        clear A170
        replace H := Option.bind_eq_some_iff.mp H
        obtain ⟨t251, A180, H⟩ := H
        replace H : ((impl_octal.f a0_3 8).bind fun t252 => (if t251.size + t252.size ≤ 9223372036854775807 then ((impl_octal.f a0_4 8).bind fun t253 => (if (t251 ++ t252).size + t253.size ≤ 9223372036854775807 then ((impl_octal.f a0_5 8).bind fun t254 => (if ((t251 ++ t252) ++ t253).size + t254.size ≤ 9223372036854775807 then ((impl_octal.f a2 12).bind fun t255 => (if (((t251 ++ t252) ++ t253) ++ t254).size + t255.size ≤ 9223372036854775807 then ((impl_octal.f a0_6 12).bind fun t256 => (if ((((t251 ++ t252) ++ t253) ++ t254) ++ t255).size + t256.size ≤ 9223372036854775807 then ((impl_nuls.f 8).bind fun t257 => (if (((((t251 ++ t252) ++ t253) ++ t254) ++ t255) ++ t256).size + t257.size ≤ 9223372036854775807 then (if ((((((t251 ++ t252) ++ t253) ++ t254) ++ t255) ++ t256) ++ t257).size + a1.size ≤ 9223372036854775807 then ((impl_Fill.f a0_2 100).bind fun t258 => (if (((((((t251 ++ t252) ++ t253) ++ t254) ++ t255) ++ t256) ++ t257) ++ a1).size + t258.size ≤ 9223372036854775807 then (if ((((((((t251 ++ t252) ++ t253) ++ t254) ++ t255) ++ t256) ++ t257) ++ a1) ++ t258).size + 8 ≤ 9223372036854775807 then ((impl_Fill.f a0_7 32).bind fun t259 => (if (((((((((t251 ++ t252) ++ t253) ++ t254) ++ t255) ++ t256) ++ t257) ++ a1) ++ t258) ++ (⟨#[117, 115, 116, 97, 114, 0, 48, 48]⟩ : ByteArray)).size + t259.size ≤ 9223372036854775807 then ((impl_Fill.f a0_8 32).bind fun t260 => (if ((((((((((t251 ++ t252) ++ t253) ++ t254) ++ t255) ++ t256) ++ t257) ++ a1) ++ t258) ++ (⟨#[117, 115, 116, 97, 114, 0, 48, 48]⟩ : ByteArray)) ++ t259).size + t260.size ≤ 9223372036854775807 then ((impl_octal.f 0 8).bind fun t261 => (if (((((((((((t251 ++ t252) ++ t253) ++ t254) ++ t255) ++ t256) ++ t257) ++ a1) ++ t258) ++ (⟨#[117, 115, 116, 97, 114, 0, 48, 48]⟩ : ByteArray)) ++ t259) ++ t260).size + t261.size ≤ 9223372036854775807 then ((impl_octal.f 0 8).bind fun t262 => (if ((((((((((((t251 ++ t252) ++ t253) ++ t254) ++ t255) ++ t256) ++ t257) ++ a1) ++ t258) ++ (⟨#[117, 115, 116, 97, 114, 0, 48, 48]⟩ : ByteArray)) ++ t259) ++ t260) ++ t261).size + t262.size ≤ 9223372036854775807 then (if (((((((((((((t251 ++ t252) ++ t253) ++ t254) ++ t255) ++ t256) ++ t257) ++ a1) ++ t258) ++ (⟨#[117, 115, 116, 97, 114, 0, 48, 48]⟩ : ByteArray)) ++ t259) ++ t260) ++ t261) ++ t262).size + t248.size ≤ 9223372036854775807 then ((impl_summed.f kj3 ((((((((((((((t251 ++ t252) ++ t253) ++ t254) ++ t255) ++ t256) ++ t257) ++ a1) ++ t258) ++ (⟨#[117, 115, 116, 97, 114, 0, 48, 48]⟩ : ByteArray)) ++ t259) ++ t260) ++ t261) ++ t262) ++ t248)).bind fun t263 => (some t263)) else (none)) else (none))) else (none))) else (none))) else (none))) else (none)) else (none))) else (none)) else (none))) else (none))) else (none))) else (none))) else (none))) else (none))) = some r := H
        have A18 := Aside0.mk A180
        clear A180
        replace H := Option.bind_eq_some_iff.mp H
        obtain ⟨t252, A190, H⟩ := H
        replace H : (if t251.size + t252.size ≤ 9223372036854775807 then ((impl_octal.f a0_4 8).bind fun t253 => (if (t251 ++ t252).size + t253.size ≤ 9223372036854775807 then ((impl_octal.f a0_5 8).bind fun t254 => (if ((t251 ++ t252) ++ t253).size + t254.size ≤ 9223372036854775807 then ((impl_octal.f a2 12).bind fun t255 => (if (((t251 ++ t252) ++ t253) ++ t254).size + t255.size ≤ 9223372036854775807 then ((impl_octal.f a0_6 12).bind fun t256 => (if ((((t251 ++ t252) ++ t253) ++ t254) ++ t255).size + t256.size ≤ 9223372036854775807 then ((impl_nuls.f 8).bind fun t257 => (if (((((t251 ++ t252) ++ t253) ++ t254) ++ t255) ++ t256).size + t257.size ≤ 9223372036854775807 then (if ((((((t251 ++ t252) ++ t253) ++ t254) ++ t255) ++ t256) ++ t257).size + a1.size ≤ 9223372036854775807 then ((impl_Fill.f a0_2 100).bind fun t258 => (if (((((((t251 ++ t252) ++ t253) ++ t254) ++ t255) ++ t256) ++ t257) ++ a1).size + t258.size ≤ 9223372036854775807 then (if ((((((((t251 ++ t252) ++ t253) ++ t254) ++ t255) ++ t256) ++ t257) ++ a1) ++ t258).size + 8 ≤ 9223372036854775807 then ((impl_Fill.f a0_7 32).bind fun t259 => (if (((((((((t251 ++ t252) ++ t253) ++ t254) ++ t255) ++ t256) ++ t257) ++ a1) ++ t258) ++ (⟨#[117, 115, 116, 97, 114, 0, 48, 48]⟩ : ByteArray)).size + t259.size ≤ 9223372036854775807 then ((impl_Fill.f a0_8 32).bind fun t260 => (if ((((((((((t251 ++ t252) ++ t253) ++ t254) ++ t255) ++ t256) ++ t257) ++ a1) ++ t258) ++ (⟨#[117, 115, 116, 97, 114, 0, 48, 48]⟩ : ByteArray)) ++ t259).size + t260.size ≤ 9223372036854775807 then ((impl_octal.f 0 8).bind fun t261 => (if (((((((((((t251 ++ t252) ++ t253) ++ t254) ++ t255) ++ t256) ++ t257) ++ a1) ++ t258) ++ (⟨#[117, 115, 116, 97, 114, 0, 48, 48]⟩ : ByteArray)) ++ t259) ++ t260).size + t261.size ≤ 9223372036854775807 then ((impl_octal.f 0 8).bind fun t262 => (if ((((((((((((t251 ++ t252) ++ t253) ++ t254) ++ t255) ++ t256) ++ t257) ++ a1) ++ t258) ++ (⟨#[117, 115, 116, 97, 114, 0, 48, 48]⟩ : ByteArray)) ++ t259) ++ t260) ++ t261).size + t262.size ≤ 9223372036854775807 then (if (((((((((((((t251 ++ t252) ++ t253) ++ t254) ++ t255) ++ t256) ++ t257) ++ a1) ++ t258) ++ (⟨#[117, 115, 116, 97, 114, 0, 48, 48]⟩ : ByteArray)) ++ t259) ++ t260) ++ t261) ++ t262).size + t248.size ≤ 9223372036854775807 then ((impl_summed.f kj3 ((((((((((((((t251 ++ t252) ++ t253) ++ t254) ++ t255) ++ t256) ++ t257) ++ a1) ++ t258) ++ (⟨#[117, 115, 116, 97, 114, 0, 48, 48]⟩ : ByteArray)) ++ t259) ++ t260) ++ t261) ++ t262) ++ t248)).bind fun t263 => (some t263)) else (none)) else (none))) else (none))) else (none))) else (none))) else (none)) else (none))) else (none)) else (none))) else (none))) else (none))) else (none))) else (none))) else (none)) = some r := H
        have A19 := Aside0.mk A190
        clear A190
        by_cases c20 : t251.size + t252.size ≤ 9223372036854775807
        · rw [if_pos c20] at H
          have c20b0 := eq_true c20
          have c20b1 : decide (t251.size + t252.size ≤ 9223372036854775807) = true := decide_eq_true c20
          try have c20b2 : (9223372036854775807 < t251.size + t252.size) = False := eq_false (Nat.not_lt.2 c20)
          replace H := Option.bind_eq_some_iff.mp H
          obtain ⟨t253, A210, H⟩ := H
          replace H : (if (t251 ++ t252).size + t253.size ≤ 9223372036854775807 then ((impl_octal.f a0_5 8).bind fun t254 => (if ((t251 ++ t252) ++ t253).size + t254.size ≤ 9223372036854775807 then ((impl_octal.f a2 12).bind fun t255 => (if (((t251 ++ t252) ++ t253) ++ t254).size + t255.size ≤ 9223372036854775807 then ((impl_octal.f a0_6 12).bind fun t256 => (if ((((t251 ++ t252) ++ t253) ++ t254) ++ t255).size + t256.size ≤ 9223372036854775807 then ((impl_nuls.f 8).bind fun t257 => (if (((((t251 ++ t252) ++ t253) ++ t254) ++ t255) ++ t256).size + t257.size ≤ 9223372036854775807 then (if ((((((t251 ++ t252) ++ t253) ++ t254) ++ t255) ++ t256) ++ t257).size + a1.size ≤ 9223372036854775807 then ((impl_Fill.f a0_2 100).bind fun t258 => (if (((((((t251 ++ t252) ++ t253) ++ t254) ++ t255) ++ t256) ++ t257) ++ a1).size + t258.size ≤ 9223372036854775807 then (if ((((((((t251 ++ t252) ++ t253) ++ t254) ++ t255) ++ t256) ++ t257) ++ a1) ++ t258).size + 8 ≤ 9223372036854775807 then ((impl_Fill.f a0_7 32).bind fun t259 => (if (((((((((t251 ++ t252) ++ t253) ++ t254) ++ t255) ++ t256) ++ t257) ++ a1) ++ t258) ++ (⟨#[117, 115, 116, 97, 114, 0, 48, 48]⟩ : ByteArray)).size + t259.size ≤ 9223372036854775807 then ((impl_Fill.f a0_8 32).bind fun t260 => (if ((((((((((t251 ++ t252) ++ t253) ++ t254) ++ t255) ++ t256) ++ t257) ++ a1) ++ t258) ++ (⟨#[117, 115, 116, 97, 114, 0, 48, 48]⟩ : ByteArray)) ++ t259).size + t260.size ≤ 9223372036854775807 then ((impl_octal.f 0 8).bind fun t261 => (if (((((((((((t251 ++ t252) ++ t253) ++ t254) ++ t255) ++ t256) ++ t257) ++ a1) ++ t258) ++ (⟨#[117, 115, 116, 97, 114, 0, 48, 48]⟩ : ByteArray)) ++ t259) ++ t260).size + t261.size ≤ 9223372036854775807 then ((impl_octal.f 0 8).bind fun t262 => (if ((((((((((((t251 ++ t252) ++ t253) ++ t254) ++ t255) ++ t256) ++ t257) ++ a1) ++ t258) ++ (⟨#[117, 115, 116, 97, 114, 0, 48, 48]⟩ : ByteArray)) ++ t259) ++ t260) ++ t261).size + t262.size ≤ 9223372036854775807 then (if (((((((((((((t251 ++ t252) ++ t253) ++ t254) ++ t255) ++ t256) ++ t257) ++ a1) ++ t258) ++ (⟨#[117, 115, 116, 97, 114, 0, 48, 48]⟩ : ByteArray)) ++ t259) ++ t260) ++ t261) ++ t262).size + t248.size ≤ 9223372036854775807 then ((impl_summed.f kj3 ((((((((((((((t251 ++ t252) ++ t253) ++ t254) ++ t255) ++ t256) ++ t257) ++ a1) ++ t258) ++ (⟨#[117, 115, 116, 97, 114, 0, 48, 48]⟩ : ByteArray)) ++ t259) ++ t260) ++ t261) ++ t262) ++ t248)).bind fun t263 => (some t263)) else (none)) else (none))) else (none))) else (none))) else (none))) else (none)) else (none))) else (none)) else (none))) else (none))) else (none))) else (none))) else (none)) = some r := H
          have A21 := Aside0.mk A210
          clear A210
          by_cases c22 : (t251 ++ t252).size + t253.size ≤ 9223372036854775807
          · rw [if_pos c22] at H
            have c22b0 := eq_true c22
            have c22b1 : decide ((t251 ++ t252).size + t253.size ≤ 9223372036854775807) = true := decide_eq_true c22
            try (have c22b1z := c22b1; simp only [ByteArray.size_append] at c22b1z)
            try have c22b2 : (9223372036854775807 < (t251 ++ t252).size + t253.size) = False := eq_false (Nat.not_lt.2 c22)
            try (have c22b2z := c22b2; simp only [ByteArray.size_append] at c22b2z)
            replace H := Option.bind_eq_some_iff.mp H
            obtain ⟨t254, A230, H⟩ := H
            replace H : (if ((t251 ++ t252) ++ t253).size + t254.size ≤ 9223372036854775807 then ((impl_octal.f a2 12).bind fun t255 => (if (((t251 ++ t252) ++ t253) ++ t254).size + t255.size ≤ 9223372036854775807 then ((impl_octal.f a0_6 12).bind fun t256 => (if ((((t251 ++ t252) ++ t253) ++ t254) ++ t255).size + t256.size ≤ 9223372036854775807 then ((impl_nuls.f 8).bind fun t257 => (if (((((t251 ++ t252) ++ t253) ++ t254) ++ t255) ++ t256).size + t257.size ≤ 9223372036854775807 then (if ((((((t251 ++ t252) ++ t253) ++ t254) ++ t255) ++ t256) ++ t257).size + a1.size ≤ 9223372036854775807 then ((impl_Fill.f a0_2 100).bind fun t258 => (if (((((((t251 ++ t252) ++ t253) ++ t254) ++ t255) ++ t256) ++ t257) ++ a1).size + t258.size ≤ 9223372036854775807 then (if ((((((((t251 ++ t252) ++ t253) ++ t254) ++ t255) ++ t256) ++ t257) ++ a1) ++ t258).size + 8 ≤ 9223372036854775807 then ((impl_Fill.f a0_7 32).bind fun t259 => (if (((((((((t251 ++ t252) ++ t253) ++ t254) ++ t255) ++ t256) ++ t257) ++ a1) ++ t258) ++ (⟨#[117, 115, 116, 97, 114, 0, 48, 48]⟩ : ByteArray)).size + t259.size ≤ 9223372036854775807 then ((impl_Fill.f a0_8 32).bind fun t260 => (if ((((((((((t251 ++ t252) ++ t253) ++ t254) ++ t255) ++ t256) ++ t257) ++ a1) ++ t258) ++ (⟨#[117, 115, 116, 97, 114, 0, 48, 48]⟩ : ByteArray)) ++ t259).size + t260.size ≤ 9223372036854775807 then ((impl_octal.f 0 8).bind fun t261 => (if (((((((((((t251 ++ t252) ++ t253) ++ t254) ++ t255) ++ t256) ++ t257) ++ a1) ++ t258) ++ (⟨#[117, 115, 116, 97, 114, 0, 48, 48]⟩ : ByteArray)) ++ t259) ++ t260).size + t261.size ≤ 9223372036854775807 then ((impl_octal.f 0 8).bind fun t262 => (if ((((((((((((t251 ++ t252) ++ t253) ++ t254) ++ t255) ++ t256) ++ t257) ++ a1) ++ t258) ++ (⟨#[117, 115, 116, 97, 114, 0, 48, 48]⟩ : ByteArray)) ++ t259) ++ t260) ++ t261).size + t262.size ≤ 9223372036854775807 then (if (((((((((((((t251 ++ t252) ++ t253) ++ t254) ++ t255) ++ t256) ++ t257) ++ a1) ++ t258) ++ (⟨#[117, 115, 116, 97, 114, 0, 48, 48]⟩ : ByteArray)) ++ t259) ++ t260) ++ t261) ++ t262).size + t248.size ≤ 9223372036854775807 then ((impl_summed.f kj3 ((((((((((((((t251 ++ t252) ++ t253) ++ t254) ++ t255) ++ t256) ++ t257) ++ a1) ++ t258) ++ (⟨#[117, 115, 116, 97, 114, 0, 48, 48]⟩ : ByteArray)) ++ t259) ++ t260) ++ t261) ++ t262) ++ t248)).bind fun t263 => (some t263)) else (none)) else (none))) else (none))) else (none))) else (none))) else (none)) else (none))) else (none)) else (none))) else (none))) else (none))) else (none)) = some r := H
            have A23 := Aside0.mk A230
            clear A230
            by_cases c24 : ((t251 ++ t252) ++ t253).size + t254.size ≤ 9223372036854775807
            · rw [if_pos c24] at H
              have c24b0 := eq_true c24
              have c24b1 : decide (((t251 ++ t252) ++ t253).size + t254.size ≤ 9223372036854775807) = true := decide_eq_true c24
              try (have c24b1z := c24b1; simp only [ByteArray.size_append] at c24b1z)
              try have c24b2 : (9223372036854775807 < ((t251 ++ t252) ++ t253).size + t254.size) = False := eq_false (Nat.not_lt.2 c24)
              try (have c24b2z := c24b2; simp only [ByteArray.size_append] at c24b2z)
              replace H := Option.bind_eq_some_iff.mp H
              obtain ⟨t255, A250, H⟩ := H
              replace H : (if (((t251 ++ t252) ++ t253) ++ t254).size + t255.size ≤ 9223372036854775807 then ((impl_octal.f a0_6 12).bind fun t256 => (if ((((t251 ++ t252) ++ t253) ++ t254) ++ t255).size + t256.size ≤ 9223372036854775807 then ((impl_nuls.f 8).bind fun t257 => (if (((((t251 ++ t252) ++ t253) ++ t254) ++ t255) ++ t256).size + t257.size ≤ 9223372036854775807 then (if ((((((t251 ++ t252) ++ t253) ++ t254) ++ t255) ++ t256) ++ t257).size + a1.size ≤ 9223372036854775807 then ((impl_Fill.f a0_2 100).bind fun t258 => (if (((((((t251 ++ t252) ++ t253) ++ t254) ++ t255) ++ t256) ++ t257) ++ a1).size + t258.size ≤ 9223372036854775807 then (if ((((((((t251 ++ t252) ++ t253) ++ t254) ++ t255) ++ t256) ++ t257) ++ a1) ++ t258).size + 8 ≤ 9223372036854775807 then ((impl_Fill.f a0_7 32).bind fun t259 => (if (((((((((t251 ++ t252) ++ t253) ++ t254) ++ t255) ++ t256) ++ t257) ++ a1) ++ t258) ++ (⟨#[117, 115, 116, 97, 114, 0, 48, 48]⟩ : ByteArray)).size + t259.size ≤ 9223372036854775807 then ((impl_Fill.f a0_8 32).bind fun t260 => (if ((((((((((t251 ++ t252) ++ t253) ++ t254) ++ t255) ++ t256) ++ t257) ++ a1) ++ t258) ++ (⟨#[117, 115, 116, 97, 114, 0, 48, 48]⟩ : ByteArray)) ++ t259).size + t260.size ≤ 9223372036854775807 then ((impl_octal.f 0 8).bind fun t261 => (if (((((((((((t251 ++ t252) ++ t253) ++ t254) ++ t255) ++ t256) ++ t257) ++ a1) ++ t258) ++ (⟨#[117, 115, 116, 97, 114, 0, 48, 48]⟩ : ByteArray)) ++ t259) ++ t260).size + t261.size ≤ 9223372036854775807 then ((impl_octal.f 0 8).bind fun t262 => (if ((((((((((((t251 ++ t252) ++ t253) ++ t254) ++ t255) ++ t256) ++ t257) ++ a1) ++ t258) ++ (⟨#[117, 115, 116, 97, 114, 0, 48, 48]⟩ : ByteArray)) ++ t259) ++ t260) ++ t261).size + t262.size ≤ 9223372036854775807 then (if (((((((((((((t251 ++ t252) ++ t253) ++ t254) ++ t255) ++ t256) ++ t257) ++ a1) ++ t258) ++ (⟨#[117, 115, 116, 97, 114, 0, 48, 48]⟩ : ByteArray)) ++ t259) ++ t260) ++ t261) ++ t262).size + t248.size ≤ 9223372036854775807 then ((impl_summed.f kj3 ((((((((((((((t251 ++ t252) ++ t253) ++ t254) ++ t255) ++ t256) ++ t257) ++ a1) ++ t258) ++ (⟨#[117, 115, 116, 97, 114, 0, 48, 48]⟩ : ByteArray)) ++ t259) ++ t260) ++ t261) ++ t262) ++ t248)).bind fun t263 => (some t263)) else (none)) else (none))) else (none))) else (none))) else (none))) else (none)) else (none))) else (none)) else (none))) else (none))) else (none)) = some r := H
              have A25 := Aside0.mk A250
              clear A250
              by_cases c26 : (((t251 ++ t252) ++ t253) ++ t254).size + t255.size ≤ 9223372036854775807
              · rw [if_pos c26] at H
                have c26b0 := eq_true c26
                have c26b1 : decide ((((t251 ++ t252) ++ t253) ++ t254).size + t255.size ≤ 9223372036854775807) = true := decide_eq_true c26
                try (have c26b1z := c26b1; simp only [ByteArray.size_append] at c26b1z)
                try have c26b2 : (9223372036854775807 < (((t251 ++ t252) ++ t253) ++ t254).size + t255.size) = False := eq_false (Nat.not_lt.2 c26)
                try (have c26b2z := c26b2; simp only [ByteArray.size_append] at c26b2z)
                replace H := Option.bind_eq_some_iff.mp H
                obtain ⟨t256, A270, H⟩ := H
                replace H : (if ((((t251 ++ t252) ++ t253) ++ t254) ++ t255).size + t256.size ≤ 9223372036854775807 then ((impl_nuls.f 8).bind fun t257 => (if (((((t251 ++ t252) ++ t253) ++ t254) ++ t255) ++ t256).size + t257.size ≤ 9223372036854775807 then (if ((((((t251 ++ t252) ++ t253) ++ t254) ++ t255) ++ t256) ++ t257).size + a1.size ≤ 9223372036854775807 then ((impl_Fill.f a0_2 100).bind fun t258 => (if (((((((t251 ++ t252) ++ t253) ++ t254) ++ t255) ++ t256) ++ t257) ++ a1).size + t258.size ≤ 9223372036854775807 then (if ((((((((t251 ++ t252) ++ t253) ++ t254) ++ t255) ++ t256) ++ t257) ++ a1) ++ t258).size + 8 ≤ 9223372036854775807 then ((impl_Fill.f a0_7 32).bind fun t259 => (if (((((((((t251 ++ t252) ++ t253) ++ t254) ++ t255) ++ t256) ++ t257) ++ a1) ++ t258) ++ (⟨#[117, 115, 116, 97, 114, 0, 48, 48]⟩ : ByteArray)).size + t259.size ≤ 9223372036854775807 then ((impl_Fill.f a0_8 32).bind fun t260 => (if ((((((((((t251 ++ t252) ++ t253) ++ t254) ++ t255) ++ t256) ++ t257) ++ a1) ++ t258) ++ (⟨#[117, 115, 116, 97, 114, 0, 48, 48]⟩ : ByteArray)) ++ t259).size + t260.size ≤ 9223372036854775807 then ((impl_octal.f 0 8).bind fun t261 => (if (((((((((((t251 ++ t252) ++ t253) ++ t254) ++ t255) ++ t256) ++ t257) ++ a1) ++ t258) ++ (⟨#[117, 115, 116, 97, 114, 0, 48, 48]⟩ : ByteArray)) ++ t259) ++ t260).size + t261.size ≤ 9223372036854775807 then ((impl_octal.f 0 8).bind fun t262 => (if ((((((((((((t251 ++ t252) ++ t253) ++ t254) ++ t255) ++ t256) ++ t257) ++ a1) ++ t258) ++ (⟨#[117, 115, 116, 97, 114, 0, 48, 48]⟩ : ByteArray)) ++ t259) ++ t260) ++ t261).size + t262.size ≤ 9223372036854775807 then (if (((((((((((((t251 ++ t252) ++ t253) ++ t254) ++ t255) ++ t256) ++ t257) ++ a1) ++ t258) ++ (⟨#[117, 115, 116, 97, 114, 0, 48, 48]⟩ : ByteArray)) ++ t259) ++ t260) ++ t261) ++ t262).size + t248.size ≤ 9223372036854775807 then ((impl_summed.f kj3 ((((((((((((((t251 ++ t252) ++ t253) ++ t254) ++ t255) ++ t256) ++ t257) ++ a1) ++ t258) ++ (⟨#[117, 115, 116, 97, 114, 0, 48, 48]⟩ : ByteArray)) ++ t259) ++ t260) ++ t261) ++ t262) ++ t248)).bind fun t263 => (some t263)) else (none)) else (none))) else (none))) else (none))) else (none))) else (none)) else (none))) else (none)) else (none))) else (none)) = some r := H
                have A27 := Aside0.mk A270
                clear A270
                by_cases c28 : ((((t251 ++ t252) ++ t253) ++ t254) ++ t255).size + t256.size ≤ 9223372036854775807
                · rw [if_pos c28] at H
                  have c28b0 := eq_true c28
                  have c28b1 : decide (((((t251 ++ t252) ++ t253) ++ t254) ++ t255).size + t256.size ≤ 9223372036854775807) = true := decide_eq_true c28
                  try (have c28b1z := c28b1; simp only [ByteArray.size_append] at c28b1z)
                  try have c28b2 : (9223372036854775807 < ((((t251 ++ t252) ++ t253) ++ t254) ++ t255).size + t256.size) = False := eq_false (Nat.not_lt.2 c28)
                  try (have c28b2z := c28b2; simp only [ByteArray.size_append] at c28b2z)
                  replace H := Option.bind_eq_some_iff.mp H
                  obtain ⟨t257, A290, H⟩ := H
                  replace H : (if (((((t251 ++ t252) ++ t253) ++ t254) ++ t255) ++ t256).size + t257.size ≤ 9223372036854775807 then (if ((((((t251 ++ t252) ++ t253) ++ t254) ++ t255) ++ t256) ++ t257).size + a1.size ≤ 9223372036854775807 then ((impl_Fill.f a0_2 100).bind fun t258 => (if (((((((t251 ++ t252) ++ t253) ++ t254) ++ t255) ++ t256) ++ t257) ++ a1).size + t258.size ≤ 9223372036854775807 then (if ((((((((t251 ++ t252) ++ t253) ++ t254) ++ t255) ++ t256) ++ t257) ++ a1) ++ t258).size + 8 ≤ 9223372036854775807 then ((impl_Fill.f a0_7 32).bind fun t259 => (if (((((((((t251 ++ t252) ++ t253) ++ t254) ++ t255) ++ t256) ++ t257) ++ a1) ++ t258) ++ (⟨#[117, 115, 116, 97, 114, 0, 48, 48]⟩ : ByteArray)).size + t259.size ≤ 9223372036854775807 then ((impl_Fill.f a0_8 32).bind fun t260 => (if ((((((((((t251 ++ t252) ++ t253) ++ t254) ++ t255) ++ t256) ++ t257) ++ a1) ++ t258) ++ (⟨#[117, 115, 116, 97, 114, 0, 48, 48]⟩ : ByteArray)) ++ t259).size + t260.size ≤ 9223372036854775807 then ((impl_octal.f 0 8).bind fun t261 => (if (((((((((((t251 ++ t252) ++ t253) ++ t254) ++ t255) ++ t256) ++ t257) ++ a1) ++ t258) ++ (⟨#[117, 115, 116, 97, 114, 0, 48, 48]⟩ : ByteArray)) ++ t259) ++ t260).size + t261.size ≤ 9223372036854775807 then ((impl_octal.f 0 8).bind fun t262 => (if ((((((((((((t251 ++ t252) ++ t253) ++ t254) ++ t255) ++ t256) ++ t257) ++ a1) ++ t258) ++ (⟨#[117, 115, 116, 97, 114, 0, 48, 48]⟩ : ByteArray)) ++ t259) ++ t260) ++ t261).size + t262.size ≤ 9223372036854775807 then (if (((((((((((((t251 ++ t252) ++ t253) ++ t254) ++ t255) ++ t256) ++ t257) ++ a1) ++ t258) ++ (⟨#[117, 115, 116, 97, 114, 0, 48, 48]⟩ : ByteArray)) ++ t259) ++ t260) ++ t261) ++ t262).size + t248.size ≤ 9223372036854775807 then ((impl_summed.f kj3 ((((((((((((((t251 ++ t252) ++ t253) ++ t254) ++ t255) ++ t256) ++ t257) ++ a1) ++ t258) ++ (⟨#[117, 115, 116, 97, 114, 0, 48, 48]⟩ : ByteArray)) ++ t259) ++ t260) ++ t261) ++ t262) ++ t248)).bind fun t263 => (some t263)) else (none)) else (none))) else (none))) else (none))) else (none))) else (none)) else (none))) else (none)) else (none)) = some r := H
                  have A29 := Aside0.mk A290
                  clear A290
                  by_cases c30 : (((((t251 ++ t252) ++ t253) ++ t254) ++ t255) ++ t256).size + t257.size ≤ 9223372036854775807
                  · rw [if_pos c30] at H
                    have c30b0 := eq_true c30
                    have c30b1 : decide ((((((t251 ++ t252) ++ t253) ++ t254) ++ t255) ++ t256).size + t257.size ≤ 9223372036854775807) = true := decide_eq_true c30
                    try (have c30b1z := c30b1; simp only [ByteArray.size_append] at c30b1z)
                    try have c30b2 : (9223372036854775807 < (((((t251 ++ t252) ++ t253) ++ t254) ++ t255) ++ t256).size + t257.size) = False := eq_false (Nat.not_lt.2 c30)
                    try (have c30b2z := c30b2; simp only [ByteArray.size_append] at c30b2z)
                    by_cases c31 : ((((((t251 ++ t252) ++ t253) ++ t254) ++ t255) ++ t256) ++ t257).size + a1.size ≤ 9223372036854775807
                    · rw [if_pos c31] at H
                      have c31b0 := eq_true c31
                      have c31b1 : decide (((((((t251 ++ t252) ++ t253) ++ t254) ++ t255) ++ t256) ++ t257).size + a1.size ≤ 9223372036854775807) = true := decide_eq_true c31
                      try (have c31b1z := c31b1; simp only [ByteArray.size_append] at c31b1z)
                      try have c31b2 : (9223372036854775807 < ((((((t251 ++ t252) ++ t253) ++ t254) ++ t255) ++ t256) ++ t257).size + a1.size) = False := eq_false (Nat.not_lt.2 c31)
                      try (have c31b2z := c31b2; simp only [ByteArray.size_append] at c31b2z)
                      replace H := Option.bind_eq_some_iff.mp H
                      obtain ⟨t258, A320, H⟩ := H
                      replace H : (if (((((((t251 ++ t252) ++ t253) ++ t254) ++ t255) ++ t256) ++ t257) ++ a1).size + t258.size ≤ 9223372036854775807 then (if ((((((((t251 ++ t252) ++ t253) ++ t254) ++ t255) ++ t256) ++ t257) ++ a1) ++ t258).size + 8 ≤ 9223372036854775807 then ((impl_Fill.f a0_7 32).bind fun t259 => (if (((((((((t251 ++ t252) ++ t253) ++ t254) ++ t255) ++ t256) ++ t257) ++ a1) ++ t258) ++ (⟨#[117, 115, 116, 97, 114, 0, 48, 48]⟩ : ByteArray)).size + t259.size ≤ 9223372036854775807 then ((impl_Fill.f a0_8 32).bind fun t260 => (if ((((((((((t251 ++ t252) ++ t253) ++ t254) ++ t255) ++ t256) ++ t257) ++ a1) ++ t258) ++ (⟨#[117, 115, 116, 97, 114, 0, 48, 48]⟩ : ByteArray)) ++ t259).size + t260.size ≤ 9223372036854775807 then ((impl_octal.f 0 8).bind fun t261 => (if (((((((((((t251 ++ t252) ++ t253) ++ t254) ++ t255) ++ t256) ++ t257) ++ a1) ++ t258) ++ (⟨#[117, 115, 116, 97, 114, 0, 48, 48]⟩ : ByteArray)) ++ t259) ++ t260).size + t261.size ≤ 9223372036854775807 then ((impl_octal.f 0 8).bind fun t262 => (if ((((((((((((t251 ++ t252) ++ t253) ++ t254) ++ t255) ++ t256) ++ t257) ++ a1) ++ t258) ++ (⟨#[117, 115, 116, 97, 114, 0, 48, 48]⟩ : ByteArray)) ++ t259) ++ t260) ++ t261).size + t262.size ≤ 9223372036854775807 then (if (((((((((((((t251 ++ t252) ++ t253) ++ t254) ++ t255) ++ t256) ++ t257) ++ a1) ++ t258) ++ (⟨#[117, 115, 116, 97, 114, 0, 48, 48]⟩ : ByteArray)) ++ t259) ++ t260) ++ t261) ++ t262).size + t248.size ≤ 9223372036854775807 then ((impl_summed.f kj3 ((((((((((((((t251 ++ t252) ++ t253) ++ t254) ++ t255) ++ t256) ++ t257) ++ a1) ++ t258) ++ (⟨#[117, 115, 116, 97, 114, 0, 48, 48]⟩ : ByteArray)) ++ t259) ++ t260) ++ t261) ++ t262) ++ t248)).bind fun t263 => (some t263)) else (none)) else (none))) else (none))) else (none))) else (none))) else (none)) else (none)) = some r := H
                      have A32 := Aside0.mk A320
                      clear A320
                      by_cases c33 : (((((((t251 ++ t252) ++ t253) ++ t254) ++ t255) ++ t256) ++ t257) ++ a1).size + t258.size ≤ 9223372036854775807
                      · rw [if_pos c33] at H
                        have c33b0 := eq_true c33
                        have c33b1 : decide ((((((((t251 ++ t252) ++ t253) ++ t254) ++ t255) ++ t256) ++ t257) ++ a1).size + t258.size ≤ 9223372036854775807) = true := decide_eq_true c33
                        try (have c33b1z := c33b1; simp only [ByteArray.size_append] at c33b1z)
                        try have c33b2 : (9223372036854775807 < (((((((t251 ++ t252) ++ t253) ++ t254) ++ t255) ++ t256) ++ t257) ++ a1).size + t258.size) = False := eq_false (Nat.not_lt.2 c33)
                        try (have c33b2z := c33b2; simp only [ByteArray.size_append] at c33b2z)
                        by_cases c34 : ((((((((t251 ++ t252) ++ t253) ++ t254) ++ t255) ++ t256) ++ t257) ++ a1) ++ t258).size + 8 ≤ 9223372036854775807
                        · rw [if_pos c34] at H
                          have c34b0 := eq_true c34
                          have c34b1 : decide (((((((((t251 ++ t252) ++ t253) ++ t254) ++ t255) ++ t256) ++ t257) ++ a1) ++ t258).size + 8 ≤ 9223372036854775807) = true := decide_eq_true c34
                          try (have c34b1z := c34b1; simp only [ByteArray.size_append] at c34b1z)
                          try have c34b2 : (9223372036854775807 < ((((((((t251 ++ t252) ++ t253) ++ t254) ++ t255) ++ t256) ++ t257) ++ a1) ++ t258).size + 8) = False := eq_false (Nat.not_lt.2 c34)
                          try (have c34b2z := c34b2; simp only [ByteArray.size_append] at c34b2z)
                          replace H := Option.bind_eq_some_iff.mp H
                          obtain ⟨t259, A350, H⟩ := H
                          replace H : (if (((((((((t251 ++ t252) ++ t253) ++ t254) ++ t255) ++ t256) ++ t257) ++ a1) ++ t258) ++ (⟨#[117, 115, 116, 97, 114, 0, 48, 48]⟩ : ByteArray)).size + t259.size ≤ 9223372036854775807 then ((impl_Fill.f a0_8 32).bind fun t260 => (if ((((((((((t251 ++ t252) ++ t253) ++ t254) ++ t255) ++ t256) ++ t257) ++ a1) ++ t258) ++ (⟨#[117, 115, 116, 97, 114, 0, 48, 48]⟩ : ByteArray)) ++ t259).size + t260.size ≤ 9223372036854775807 then ((impl_octal.f 0 8).bind fun t261 => (if (((((((((((t251 ++ t252) ++ t253) ++ t254) ++ t255) ++ t256) ++ t257) ++ a1) ++ t258) ++ (⟨#[117, 115, 116, 97, 114, 0, 48, 48]⟩ : ByteArray)) ++ t259) ++ t260).size + t261.size ≤ 9223372036854775807 then ((impl_octal.f 0 8).bind fun t262 => (if ((((((((((((t251 ++ t252) ++ t253) ++ t254) ++ t255) ++ t256) ++ t257) ++ a1) ++ t258) ++ (⟨#[117, 115, 116, 97, 114, 0, 48, 48]⟩ : ByteArray)) ++ t259) ++ t260) ++ t261).size + t262.size ≤ 9223372036854775807 then (if (((((((((((((t251 ++ t252) ++ t253) ++ t254) ++ t255) ++ t256) ++ t257) ++ a1) ++ t258) ++ (⟨#[117, 115, 116, 97, 114, 0, 48, 48]⟩ : ByteArray)) ++ t259) ++ t260) ++ t261) ++ t262).size + t248.size ≤ 9223372036854775807 then ((impl_summed.f kj3 ((((((((((((((t251 ++ t252) ++ t253) ++ t254) ++ t255) ++ t256) ++ t257) ++ a1) ++ t258) ++ (⟨#[117, 115, 116, 97, 114, 0, 48, 48]⟩ : ByteArray)) ++ t259) ++ t260) ++ t261) ++ t262) ++ t248)).bind fun t263 => (some t263)) else (none)) else (none))) else (none))) else (none))) else (none)) = some r := H
                          have A35 := Aside0.mk A350
                          clear A350
                          by_cases c36 : (((((((((t251 ++ t252) ++ t253) ++ t254) ++ t255) ++ t256) ++ t257) ++ a1) ++ t258) ++ (⟨#[117, 115, 116, 97, 114, 0, 48, 48]⟩ : ByteArray)).size + t259.size ≤ 9223372036854775807
                          · rw [if_pos c36] at H
                            have c36b0 := eq_true c36
                            have c36b1 : decide ((((((((((t251 ++ t252) ++ t253) ++ t254) ++ t255) ++ t256) ++ t257) ++ a1) ++ t258) ++ (⟨#[117, 115, 116, 97, 114, 0, 48, 48]⟩ : ByteArray)).size + t259.size ≤ 9223372036854775807) = true := decide_eq_true c36
                            try (have c36b1z := c36b1; simp only [ByteArray.size_append, show (⟨#[117, 115, 116, 97, 114, 0, 48, 48]⟩ : ByteArray).size = 8 from rfl] at c36b1z)
                            try have c36b2 : (9223372036854775807 < (((((((((t251 ++ t252) ++ t253) ++ t254) ++ t255) ++ t256) ++ t257) ++ a1) ++ t258) ++ (⟨#[117, 115, 116, 97, 114, 0, 48, 48]⟩ : ByteArray)).size + t259.size) = False := eq_false (Nat.not_lt.2 c36)
                            try (have c36b2z := c36b2; simp only [ByteArray.size_append, show (⟨#[117, 115, 116, 97, 114, 0, 48, 48]⟩ : ByteArray).size = 8 from rfl] at c36b2z)
                            replace H := Option.bind_eq_some_iff.mp H
                            obtain ⟨t260, A370, H⟩ := H
                            replace H : (if ((((((((((t251 ++ t252) ++ t253) ++ t254) ++ t255) ++ t256) ++ t257) ++ a1) ++ t258) ++ (⟨#[117, 115, 116, 97, 114, 0, 48, 48]⟩ : ByteArray)) ++ t259).size + t260.size ≤ 9223372036854775807 then ((impl_octal.f 0 8).bind fun t261 => (if (((((((((((t251 ++ t252) ++ t253) ++ t254) ++ t255) ++ t256) ++ t257) ++ a1) ++ t258) ++ (⟨#[117, 115, 116, 97, 114, 0, 48, 48]⟩ : ByteArray)) ++ t259) ++ t260).size + t261.size ≤ 9223372036854775807 then ((impl_octal.f 0 8).bind fun t262 => (if ((((((((((((t251 ++ t252) ++ t253) ++ t254) ++ t255) ++ t256) ++ t257) ++ a1) ++ t258) ++ (⟨#[117, 115, 116, 97, 114, 0, 48, 48]⟩ : ByteArray)) ++ t259) ++ t260) ++ t261).size + t262.size ≤ 9223372036854775807 then (if (((((((((((((t251 ++ t252) ++ t253) ++ t254) ++ t255) ++ t256) ++ t257) ++ a1) ++ t258) ++ (⟨#[117, 115, 116, 97, 114, 0, 48, 48]⟩ : ByteArray)) ++ t259) ++ t260) ++ t261) ++ t262).size + t248.size ≤ 9223372036854775807 then ((impl_summed.f kj3 ((((((((((((((t251 ++ t252) ++ t253) ++ t254) ++ t255) ++ t256) ++ t257) ++ a1) ++ t258) ++ (⟨#[117, 115, 116, 97, 114, 0, 48, 48]⟩ : ByteArray)) ++ t259) ++ t260) ++ t261) ++ t262) ++ t248)).bind fun t263 => (some t263)) else (none)) else (none))) else (none))) else (none)) = some r := H
                            have A37 := Aside0.mk A370
                            clear A370
                            by_cases c38 : ((((((((((t251 ++ t252) ++ t253) ++ t254) ++ t255) ++ t256) ++ t257) ++ a1) ++ t258) ++ (⟨#[117, 115, 116, 97, 114, 0, 48, 48]⟩ : ByteArray)) ++ t259).size + t260.size ≤ 9223372036854775807
                            · rw [if_pos c38] at H
                              have c38b0 := eq_true c38
                              have c38b1 : decide (((((((((((t251 ++ t252) ++ t253) ++ t254) ++ t255) ++ t256) ++ t257) ++ a1) ++ t258) ++ (⟨#[117, 115, 116, 97, 114, 0, 48, 48]⟩ : ByteArray)) ++ t259).size + t260.size ≤ 9223372036854775807) = true := decide_eq_true c38
                              try (have c38b1z := c38b1; simp only [ByteArray.size_append, show (⟨#[117, 115, 116, 97, 114, 0, 48, 48]⟩ : ByteArray).size = 8 from rfl] at c38b1z)
                              try have c38b2 : (9223372036854775807 < ((((((((((t251 ++ t252) ++ t253) ++ t254) ++ t255) ++ t256) ++ t257) ++ a1) ++ t258) ++ (⟨#[117, 115, 116, 97, 114, 0, 48, 48]⟩ : ByteArray)) ++ t259).size + t260.size) = False := eq_false (Nat.not_lt.2 c38)
                              try (have c38b2z := c38b2; simp only [ByteArray.size_append, show (⟨#[117, 115, 116, 97, 114, 0, 48, 48]⟩ : ByteArray).size = 8 from rfl] at c38b2z)
                              replace H := Option.bind_eq_some_iff.mp H
                              obtain ⟨t261, A390, H⟩ := H
                              replace H : (if (((((((((((t251 ++ t252) ++ t253) ++ t254) ++ t255) ++ t256) ++ t257) ++ a1) ++ t258) ++ (⟨#[117, 115, 116, 97, 114, 0, 48, 48]⟩ : ByteArray)) ++ t259) ++ t260).size + t261.size ≤ 9223372036854775807 then ((impl_octal.f 0 8).bind fun t262 => (if ((((((((((((t251 ++ t252) ++ t253) ++ t254) ++ t255) ++ t256) ++ t257) ++ a1) ++ t258) ++ (⟨#[117, 115, 116, 97, 114, 0, 48, 48]⟩ : ByteArray)) ++ t259) ++ t260) ++ t261).size + t262.size ≤ 9223372036854775807 then (if (((((((((((((t251 ++ t252) ++ t253) ++ t254) ++ t255) ++ t256) ++ t257) ++ a1) ++ t258) ++ (⟨#[117, 115, 116, 97, 114, 0, 48, 48]⟩ : ByteArray)) ++ t259) ++ t260) ++ t261) ++ t262).size + t248.size ≤ 9223372036854775807 then ((impl_summed.f kj3 ((((((((((((((t251 ++ t252) ++ t253) ++ t254) ++ t255) ++ t256) ++ t257) ++ a1) ++ t258) ++ (⟨#[117, 115, 116, 97, 114, 0, 48, 48]⟩ : ByteArray)) ++ t259) ++ t260) ++ t261) ++ t262) ++ t248)).bind fun t263 => (some t263)) else (none)) else (none))) else (none)) = some r := H
                              have A39 := Aside0.mk A390
                              clear A390
                              by_cases c40 : (((((((((((t251 ++ t252) ++ t253) ++ t254) ++ t255) ++ t256) ++ t257) ++ a1) ++ t258) ++ (⟨#[117, 115, 116, 97, 114, 0, 48, 48]⟩ : ByteArray)) ++ t259) ++ t260).size + t261.size ≤ 9223372036854775807
                              · rw [if_pos c40] at H
                                have c40b0 := eq_true c40
                                have c40b1 : decide ((((((((((((t251 ++ t252) ++ t253) ++ t254) ++ t255) ++ t256) ++ t257) ++ a1) ++ t258) ++ (⟨#[117, 115, 116, 97, 114, 0, 48, 48]⟩ : ByteArray)) ++ t259) ++ t260).size + t261.size ≤ 9223372036854775807) = true := decide_eq_true c40
                                try (have c40b1z := c40b1; simp only [ByteArray.size_append, show (⟨#[117, 115, 116, 97, 114, 0, 48, 48]⟩ : ByteArray).size = 8 from rfl] at c40b1z)
                                try have c40b2 : (9223372036854775807 < (((((((((((t251 ++ t252) ++ t253) ++ t254) ++ t255) ++ t256) ++ t257) ++ a1) ++ t258) ++ (⟨#[117, 115, 116, 97, 114, 0, 48, 48]⟩ : ByteArray)) ++ t259) ++ t260).size + t261.size) = False := eq_false (Nat.not_lt.2 c40)
                                try (have c40b2z := c40b2; simp only [ByteArray.size_append, show (⟨#[117, 115, 116, 97, 114, 0, 48, 48]⟩ : ByteArray).size = 8 from rfl] at c40b2z)
                                replace H := Option.bind_eq_some_iff.mp H
                                obtain ⟨t262, A410, H⟩ := H
                                replace H : (if ((((((((((((t251 ++ t252) ++ t253) ++ t254) ++ t255) ++ t256) ++ t257) ++ a1) ++ t258) ++ (⟨#[117, 115, 116, 97, 114, 0, 48, 48]⟩ : ByteArray)) ++ t259) ++ t260) ++ t261).size + t262.size ≤ 9223372036854775807 then (if (((((((((((((t251 ++ t252) ++ t253) ++ t254) ++ t255) ++ t256) ++ t257) ++ a1) ++ t258) ++ (⟨#[117, 115, 116, 97, 114, 0, 48, 48]⟩ : ByteArray)) ++ t259) ++ t260) ++ t261) ++ t262).size + t248.size ≤ 9223372036854775807 then ((impl_summed.f kj3 ((((((((((((((t251 ++ t252) ++ t253) ++ t254) ++ t255) ++ t256) ++ t257) ++ a1) ++ t258) ++ (⟨#[117, 115, 116, 97, 114, 0, 48, 48]⟩ : ByteArray)) ++ t259) ++ t260) ++ t261) ++ t262) ++ t248)).bind fun t263 => (some t263)) else (none)) else (none)) = some r := H
                                have A41 := Aside0.mk A410
                                clear A410
                                by_cases c42 : ((((((((((((t251 ++ t252) ++ t253) ++ t254) ++ t255) ++ t256) ++ t257) ++ a1) ++ t258) ++ (⟨#[117, 115, 116, 97, 114, 0, 48, 48]⟩ : ByteArray)) ++ t259) ++ t260) ++ t261).size + t262.size ≤ 9223372036854775807
                                · rw [if_pos c42] at H
                                  have c42b0 := eq_true c42
                                  have c42b1 : decide (((((((((((((t251 ++ t252) ++ t253) ++ t254) ++ t255) ++ t256) ++ t257) ++ a1) ++ t258) ++ (⟨#[117, 115, 116, 97, 114, 0, 48, 48]⟩ : ByteArray)) ++ t259) ++ t260) ++ t261).size + t262.size ≤ 9223372036854775807) = true := decide_eq_true c42
                                  try (have c42b1z := c42b1; simp only [ByteArray.size_append, show (⟨#[117, 115, 116, 97, 114, 0, 48, 48]⟩ : ByteArray).size = 8 from rfl] at c42b1z)
                                  try have c42b2 : (9223372036854775807 < ((((((((((((t251 ++ t252) ++ t253) ++ t254) ++ t255) ++ t256) ++ t257) ++ a1) ++ t258) ++ (⟨#[117, 115, 116, 97, 114, 0, 48, 48]⟩ : ByteArray)) ++ t259) ++ t260) ++ t261).size + t262.size) = False := eq_false (Nat.not_lt.2 c42)
                                  try (have c42b2z := c42b2; simp only [ByteArray.size_append, show (⟨#[117, 115, 116, 97, 114, 0, 48, 48]⟩ : ByteArray).size = 8 from rfl] at c42b2z)
                                  by_cases c43 : (((((((((((((t251 ++ t252) ++ t253) ++ t254) ++ t255) ++ t256) ++ t257) ++ a1) ++ t258) ++ (⟨#[117, 115, 116, 97, 114, 0, 48, 48]⟩ : ByteArray)) ++ t259) ++ t260) ++ t261) ++ t262).size + t248.size ≤ 9223372036854775807
                                  · rw [if_pos c43] at H
                                    have c43b0 := eq_true c43
                                    have c43b1 : decide ((((((((((((((t251 ++ t252) ++ t253) ++ t254) ++ t255) ++ t256) ++ t257) ++ a1) ++ t258) ++ (⟨#[117, 115, 116, 97, 114, 0, 48, 48]⟩ : ByteArray)) ++ t259) ++ t260) ++ t261) ++ t262).size + t248.size ≤ 9223372036854775807) = true := decide_eq_true c43
                                    try (have c43b1z := c43b1; simp only [ByteArray.size_append, show (⟨#[117, 115, 116, 97, 114, 0, 48, 48]⟩ : ByteArray).size = 8 from rfl] at c43b1z)
                                    try have c43b2 : (9223372036854775807 < (((((((((((((t251 ++ t252) ++ t253) ++ t254) ++ t255) ++ t256) ++ t257) ++ a1) ++ t258) ++ (⟨#[117, 115, 116, 97, 114, 0, 48, 48]⟩ : ByteArray)) ++ t259) ++ t260) ++ t261) ++ t262).size + t248.size) = False := eq_false (Nat.not_lt.2 c43)
                                    try (have c43b2z := c43b2; simp only [ByteArray.size_append, show (⟨#[117, 115, 116, 97, 114, 0, 48, 48]⟩ : ByteArray).size = 8 from rfl] at c43b2z)
                                    replace H := Option.bind_eq_some_iff.mp H
                                    obtain ⟨t263, A440, H⟩ := H
                                    replace H : (some t263) = some r := H
                                    have A44 := Aside0.mk A440
                                    clear A440
                                    obtain rfl := Option.some.inj H
                                    have hcz45_0 : wc.cell? ⟨gb245, 0, none⟩ = some (.int .i64 a0_0) := (blk_cell BK245.out 0).trans rfl
                                    have hcz45_1 : wc.cell? ⟨gb245, 1, none⟩ = some (.string a0_1) := (blk_cell BK245.out 1).trans rfl
                                    have hcz45_2 : wc.cell? ⟨gb245, 2, none⟩ = some (.string a0_2) := (blk_cell BK245.out 2).trans rfl
                                    have hcz45_3 : wc.cell? ⟨gb245, 3, none⟩ = some (.int .i64 a0_3) := (blk_cell BK245.out 3).trans rfl
                                    have hcz45_4 : wc.cell? ⟨gb245, 4, none⟩ = some (.int .i64 a0_4) := (blk_cell BK245.out 4).trans rfl
                                    have hcz45_5 : wc.cell? ⟨gb245, 5, none⟩ = some (.int .i64 a0_5) := (blk_cell BK245.out 5).trans rfl
                                    have hcz45_6 : wc.cell? ⟨gb245, 6, none⟩ = some (.int .i64 a0_6) := (blk_cell BK245.out 6).trans rfl
                                    have hcz45_7 : wc.cell? ⟨gb245, 7, none⟩ = some (.string a0_7) := (blk_cell BK245.out 7).trans rfl
                                    have hcz45_8 : wc.cell? ⟨gb245, 8, none⟩ = some (.string a0_8) := (blk_cell BK245.out 8).trans rfl
                                    have hcz45_9 : wc.cell? ⟨gb245, 9, none⟩ = some (.string a0_9) := (blk_cell BK245.out 9).trans rfl
                                    have hfz45_0 := blk_frozen BK245.out 0
                                    have hfz45_1 := blk_frozen BK245.out 1
                                    have hfz45_2 := blk_frozen BK245.out 2
                                    have hfz45_3 := blk_frozen BK245.out 3
                                    have hfz45_4 := blk_frozen BK245.out 4
                                    have hfz45_5 := blk_frozen BK245.out 5
                                    have hfz45_6 := blk_frozen BK245.out 6
                                    have hfz45_7 := blk_frozen BK245.out 7
                                    have hfz45_8 := blk_frozen BK245.out 8
                                    have hfz45_9 := blk_frozen BK245.out 9
                                    try go_wp2_with (first | ((with_reducible refine gate_callee (f := 56) rfl ?_); refine goesL_ (some 26) rfl rfl Tryd.func56 (by kernel_rfl) rfl #[.string a0_1] rfl (by (try simp only [List.map_toArray, List.map_cons, List.map_nil]); first | done | rfl | (simp only [List.length_drop, List.length_take]; rfl)) ?_; (with_reducible refine (impl_Split.calls kj3 a0_1 t248 t249 t250 _ A17.out).mono ?_); rintro e w46 ⟨rfl, hb⟩; refine ⟨_, rfl, ?_⟩; have n0_ := Aside0.mk (blk_below (g := gb245) (o := .cells #[.int .i64 a0_0, .string a0_1, .string a0_2, .int .i64 a0_3, .int .i64 a0_4, .int .i64 a0_5, .int .i64 a0_6, .string a0_7, .string a0_8, .string a0_9] 36 (0, 0)) (by (with_reducible repeat (first | refine blk_drewN ?_ _ | refine blk_drew ?_ | refine blk_alloc ?_ _)); exact BK245.out) hb); have n1_ := Aside0.mk (below_step (by repeat (first | (with_reducible first | exact HB.out | apply below_alloc | apply pw_below_drewN | apply below_drew1 | refine below_set ?_ GE245.out) | exact HB.out)) hb); clear BK245; clear HB; have BK245 := n0_; have HB := n1_; clear n0_ n1_; (try clear hb); (try clear hb2); (try clear hk); (try clear hi)))
                                    have n0_ := Aside0.mk (blk_drew BK245.out)
                                    have n1_ := Aside0.mk (below_drew1 HB.out)
                                    clear BK245
                                    clear HB
                                    have BK245 := n0_
                                    have HB := n1_
                                    clear n0_ n1_
                                    refine start_ (n := 46) (S := fun w' => w'.cell? ⟨gb245, 0, none⟩ = some (.int .i64 a0_0) ∧ w'.cell? ⟨gb245, 1, none⟩ = some (.string a0_1) ∧ w'.cell? ⟨gb245, 2, none⟩ = some (.string a0_2) ∧ w'.cell? ⟨gb245, 3, none⟩ = some (.int .i64 a0_3) ∧ w'.cell? ⟨gb245, 4, none⟩ = some (.int .i64 a0_4) ∧ w'.cell? ⟨gb245, 5, none⟩ = some (.int .i64 a0_5) ∧ w'.cell? ⟨gb245, 6, none⟩ = some (.int .i64 a0_6) ∧ w'.cell? ⟨gb245, 7, none⟩ = some (.string a0_7) ∧ w'.cell? ⟨gb245, 8, none⟩ = some (.string a0_8) ∧ w'.cell? ⟨gb245, 9, none⟩ = some (.string a0_9)) (ds := []) #[false, false, false, false, false, false, false, false, false, false, false, false, false, false, false, false, false, false, false, false, false, false, false, false, false, false, false, false, false, false, false, false, false, false, false, false, false, false, false, false, false, false, false, false, false, false] (by kernel_rfl) rfl rfl ⟨(blk_cell BK245.out 0).trans rfl, (blk_cell BK245.out 1).trans rfl, (blk_cell BK245.out 2).trans rfl, (blk_cell BK245.out 3).trans rfl, (blk_cell BK245.out 4).trans rfl, (blk_cell BK245.out 5).trans rfl, (blk_cell BK245.out 6).trans rfl, (blk_cell BK245.out 7).trans rfl, (blk_cell BK245.out 8).trans rfl, (blk_cell BK245.out 9).trans rfl⟩ (fun hHeld => ?_); refine with_tabW impl_PutHead.tab4 impl_PutHead.bits4 (fun HT_ HW_ => ?_)
                                    generalize w46.drew = w47 at BK245 HB hHeld ⊢
                                    refine pure_ (i := 0) (N := some 30) (v := ?_) (a' := ?_) #[true, false, false, false, false, false, false, false, false, false, false, false, false, false, false, false, false, false, false, false, false, false, false, false, false, false, false, false, false, false, false, false, false, false, false, false, false, false, false, false, false, false, false, false, false, false] rfl rfl (any_of HT_.out (by kernel_rfl)) (fun _ _ _ h => h) (Or.inl ⟨by rfl, ?_⟩) ?_ ?_
                                    rotate_left
                                    · intro w'
                                      go_simp
                                      with_reducible rfl
                                    rotate_left
                                    · simp only [Act.put, List.setIfInBounds_toArray, List.set_cons_zero, List.set_cons_succ, i64_w, i32_w]
                                      rfl
                                    refine pure_ (i := 2) (N := some 32) (v := ?_) (a' := ?_) #[true, false, true, false, false, false, false, false, false, false, false, false, false, false, false, false, false, false, false, false, false, false, false, false, false, false, false, false, false, false, false, false, false, false, false, false, false, false, false, false, false, false, false, false, false, false] rfl rfl (any_of HT_.out (by kernel_rfl)) (fun _ _ _ h => h) (Or.inl ⟨by rfl, ?_⟩) ?_ ?_
                                    rotate_left
                                    · intro w'
                                      go_simp
                                      with_reducible rfl
                                    rotate_left
                                    · simp only [Act.put, List.setIfInBounds_toArray, List.set_cons_zero, List.set_cons_succ, i64_w, i32_w]
                                      rfl
                                    refine pure_ (i := 6) (N := some 36) (v := ?_) (a' := ?_) #[true, false, true, false, false, false, true, false, false, false, false, false, false, false, false, false, false, false, false, false, false, false, false, false, false, false, false, false, false, false, false, false, false, false, false, false, false, false, false, false, false, false, false, false, false, false] rfl rfl (any_of HT_.out (by kernel_rfl)) (fun _ _ _ h => h) (Or.inl ⟨by rfl, ?_⟩) ?_ ?_
                                    rotate_left
                                    · intro w'
                                      go_simp
                                      with_reducible rfl
                                    rotate_left
                                    · simp only [Act.put, List.setIfInBounds_toArray, List.set_cons_zero, List.set_cons_succ, i64_w, i32_w]
                                      rfl
                                    refine pure_ (i := 10) (N := some 40) (v := ?_) (a' := ?_) #[true, false, true, false, false, false, true, false, false, false, true, false, false, false, false, false, false, false, false, false, false, false, false, false, false, false, false, false, false, false, false, false, false, false, false, false, false, false, false, false, false, false, false, false, false, false] rfl rfl (any_of HT_.out (by kernel_rfl)) (fun _ _ _ h => h) (Or.inl ⟨by rfl, ?_⟩) ?_ ?_
                                    rotate_left
                                    · intro w'
                                      go_simp
                                      with_reducible rfl
                                    rotate_left
                                    · simp only [Act.put, List.setIfInBounds_toArray, List.set_cons_zero, List.set_cons_succ, i64_w, i32_w]
                                      rfl
                                    refine pure_ (i := 14) (N := some 44) (v := ?_) (a' := ?_) #[true, false, true, false, false, false, true, false, false, false, true, false, false, false, true, false, false, false, false, false, false, false, false, false, false, false, false, false, false, false, false, false, false, false, false, false, false, false, false, false, false, false, false, false, false, false] rfl rfl (any_of HT_.out (by kernel_rfl)) (fun _ _ _ h => h) (Or.inl ⟨by rfl, ?_⟩) ?_ ?_
                                    rotate_left
                                    · intro w'
                                      go_simp
                                      with_reducible rfl
                                    rotate_left
                                    · simp only [Act.put, List.setIfInBounds_toArray, List.set_cons_zero, List.set_cons_succ, i64_w, i32_w]
                                      rfl
                                    refine pure_ (i := 17) (N := some 47) (v := ?_) (a' := ?_) #[true, false, true, false, false, false, true, false, false, false, true, false, false, false, true, false, false, true, false, false, false, false, false, false, false, false, false, false, false, false, false, false, false, false, false, false, false, false, false, false, false, false, false, false, false, false] rfl rfl (any_of HT_.out (by kernel_rfl)) (fun _ _ _ h => h) (Or.inl ⟨by rfl, ?_⟩) ?_ ?_
                                    rotate_left
                                    · intro w'
                                      go_simp
                                      with_reducible rfl
                                    rotate_left
                                    · simp only [Act.put, List.setIfInBounds_toArray, List.set_cons_zero, List.set_cons_succ, i64_w, i32_w]
                                      rfl
                                    refine pure_ (i := 23) (N := some 53) (v := ?_) (a' := ?_) #[true, false, true, false, false, false, true, false, false, false, true, false, false, false, true, false, false, true, false, false, false, false, false, true, false, false, false, false, false, false, false, false, false, false, false, false, false, false, false, false, false, false, false, false, false, false] rfl rfl (any_of HT_.out (by kernel_rfl)) (fun _ _ _ h => h) (Or.inl ⟨by rfl, ?_⟩) ?_ ?_
                                    rotate_left
                                    · intro w'
                                      go_simp
                                      with_reducible rfl
                                    rotate_left
                                    · simp only [Act.put, List.setIfInBounds_toArray, List.set_cons_zero, List.set_cons_succ, i64_w, i32_w]
                                      rfl
                                    refine pure_ (i := 25) (N := some 55) (v := ?_) (a' := ?_) #[true, false, true, false, false, false, true, false, false, false, true, false, false, false, true, false, false, true, false, false, false, false, false, true, false, true, false, false, false, false, false, false, false, false, false, false, false, false, false, false, false, false, false, false, false, false] rfl rfl (any_of HT_.out (by kernel_rfl)) (fun _ _ _ h => h) (Or.inl ⟨by rfl, ?_⟩) ?_ ?_
                                    rotate_left
                                    · intro w'
                                      go_simp
                                      with_reducible rfl
                                    rotate_left
                                    · simp only [Act.put, List.setIfInBounds_toArray, List.set_cons_zero, List.set_cons_succ, i64_w, i32_w]
                                      rfl
                                    refine pure_ (i := 30) (N := some 60) (v := ?_) (a' := ?_) #[true, false, true, false, false, false, true, false, false, false, true, false, false, false, true, false, false, true, false, false, false, false, false, true, false, true, false, false, false, false, true, false, false, false, false, false, false, false, false, false, false, false, false, false, false, false] rfl rfl (any_of HT_.out (by kernel_rfl)) (fun _ _ _ h => h) (Or.inl ⟨by rfl, ?_⟩) ?_ ?_
                                    rotate_left
                                    · intro w'
                                      go_simp
                                      with_reducible rfl
                                    rotate_left
                                    · simp only [Act.put, List.setIfInBounds_toArray, List.set_cons_zero, List.set_cons_succ, i64_w, i32_w]
                                      rfl
                                    refine pure_ (i := 34) (N := some 64) (v := ?_) (a' := ?_) #[true, false, true, false, false, false, true, false, false, false, true, false, false, false, true, false, false, true, false, false, false, false, false, true, false, true, false, false, false, false, true, false, false, false, true, false, false, false, false, false, false, false, false, false, false, false] rfl rfl (any_of HT_.out (by kernel_rfl)) (fun _ _ _ h => h) (Or.inl ⟨by rfl, ?_⟩) ?_ ?_
                                    rotate_left
                                    · intro w'
                                      go_simp
                                      with_reducible rfl
                                    rotate_left
                                    · simp only [Act.put, List.setIfInBounds_toArray, List.set_cons_zero, List.set_cons_succ, i64_w, i32_w]
                                      rfl
                                    refine pure_ (i := 42) (N := some 72) (v := ?_) (a' := ?_) #[true, false, true, false, false, false, true, false, false, false, true, false, false, false, true, false, false, true, false, false, false, false, false, true, false, true, false, false, false, false, true, false, false, false, true, false, false, false, false, false, false, false, true, false, false, false] rfl rfl (any_of HT_.out (by kernel_rfl)) (fun _ _ _ h => h) (Or.inl ⟨by rfl, ?_⟩) ?_ ?_
                                    rotate_left
                                    · intro w'
                                      go_simp
                                      with_reducible rfl
                                    rotate_left
                                    · simp only [Act.put, List.setIfInBounds_toArray, List.set_cons_zero, List.set_cons_succ, i64_w, i32_w]
                                      rfl
                                    refine take_ (i := 3) (N := some 33) (v := ?_) (a' := ?_) #[true, false, true, true, false, false, true, false, false, false, true, false, false, false, true, false, false, true, false, false, false, false, false, true, false, true, false, false, false, false, true, false, false, false, true, false, false, false, false, false, false, false, true, false, false, false] rfl rfl (take_ofW HT_.out HW_.out (by kernel_rfl)) (fun _ _ _ h => h) (Or.inl ⟨by rfl, ?_⟩) hHeld ?_ ?_
                                    rotate_left
                                    · rintro w' ⟨s0, s1, s2, s3, s4, s5, s6, s7, s8, s9⟩
                                      go_simp
                                      with_reducible rfl
                                    rotate_left
                                    · simp only [Act.put, List.setIfInBounds_toArray, List.set_cons_zero, List.set_cons_succ, i64_w, i32_w]
                                      rfl
                                    refine take_ (i := 7) (N := some 37) (v := ?_) (a' := ?_) #[true, false, true, true, false, false, true, true, false, false, true, false, false, false, true, false, false, true, false, false, false, false, false, true, false, true, false, false, false, false, true, false, false, false, true, false, false, false, false, false, false, false, true, false, false, false] rfl rfl (take_ofW HT_.out HW_.out (by kernel_rfl)) (fun _ _ _ h => h) (Or.inl ⟨by rfl, ?_⟩) hHeld ?_ ?_
                                    rotate_left
                                    · rintro w' ⟨s0, s1, s2, s3, s4, s5, s6, s7, s8, s9⟩
                                      go_simp
                                      with_reducible rfl
                                    rotate_left
                                    · simp only [Act.put, List.setIfInBounds_toArray, List.set_cons_zero, List.set_cons_succ, i64_w, i32_w]
                                      rfl
                                    refine take_ (i := 11) (N := some 41) (v := ?_) (a' := ?_) #[true, false, true, true, false, false, true, true, false, false, true, true, false, false, true, false, false, true, false, false, false, false, false, true, false, true, false, false, false, false, true, false, false, false, true, false, false, false, false, false, false, false, true, false, false, false] rfl rfl (take_ofW HT_.out HW_.out (by kernel_rfl)) (fun _ _ _ h => h) (Or.inl ⟨by rfl, ?_⟩) hHeld ?_ ?_
                                    rotate_left
                                    · rintro w' ⟨s0, s1, s2, s3, s4, s5, s6, s7, s8, s9⟩
                                      go_simp
                                      with_reducible rfl
                                    rotate_left
                                    · simp only [Act.put, List.setIfInBounds_toArray, List.set_cons_zero, List.set_cons_succ, i64_w, i32_w]
                                      rfl
                                    refine take_ (i := 18) (N := some 48) (v := ?_) (a' := ?_) #[true, false, true, true, false, false, true, true, false, false, true, true, false, false, true, false, false, true, true, false, false, false, false, true, false, true, false, false, false, false, true, false, false, false, true, false, false, false, false, false, false, false, true, false, false, false] rfl rfl (take_ofW HT_.out HW_.out (by kernel_rfl)) (fun _ _ _ h => h) (Or.inl ⟨by rfl, ?_⟩) hHeld ?_ ?_
                                    rotate_left
                                    · rintro w' ⟨s0, s1, s2, s3, s4, s5, s6, s7, s8, s9⟩
                                      go_simp
                                      with_reducible rfl
                                    rotate_left
                                    · simp only [Act.put, List.setIfInBounds_toArray, List.set_cons_zero, List.set_cons_succ, i64_w, i32_w]
                                      rfl
                                    refine take_ (i := 26) (N := some 56) (v := ?_) (a' := ?_) #[true, false, true, true, false, false, true, true, false, false, true, true, false, false, true, false, false, true, true, false, false, false, false, true, false, true, true, false, false, false, true, false, false, false, true, false, false, false, false, false, false, false, true, false, false, false] rfl rfl (take_ofW HT_.out HW_.out (by kernel_rfl)) (fun _ _ _ h => h) (Or.inl ⟨by rfl, ?_⟩) hHeld ?_ ?_
                                    rotate_left
                                    · rintro w' ⟨s0, s1, s2, s3, s4, s5, s6, s7, s8, s9⟩
                                      go_simp
                                      with_reducible rfl
                                    rotate_left
                                    · simp only [Act.put, List.setIfInBounds_toArray, List.set_cons_zero, List.set_cons_succ, i64_w, i32_w]
                                      rfl
                                    refine take_ (i := 31) (N := some 61) (v := ?_) (a' := ?_) #[true, false, true, true, false, false, true, true, false, false, true, true, false, false, true, false, false, true, true, false, false, false, false, true, false, true, true, false, false, false, true, true, false, false, true, false, false, false, false, false, false, false, true, false, false, false] rfl rfl (take_ofW HT_.out HW_.out (by kernel_rfl)) (fun _ _ _ h => h) (Or.inl ⟨by rfl, ?_⟩) hHeld ?_ ?_
                                    rotate_left
                                    · rintro w' ⟨s0, s1, s2, s3, s4, s5, s6, s7, s8, s9⟩
                                      go_simp
                                      with_reducible rfl
                                    rotate_left
                                    · simp only [Act.put, List.setIfInBounds_toArray, List.set_cons_zero, List.set_cons_succ, i64_w, i32_w]
                                      rfl
                                    refine take_ (i := 35) (N := some 65) (v := ?_) (a' := ?_) #[true, false, true, true, false, false, true, true, false, false, true, true, false, false, true, false, false, true, true, false, false, false, false, true, false, true, true, false, false, false, true, true, false, false, true, true, false, false, false, false, false, false, true, false, false, false] rfl rfl (take_ofW HT_.out HW_.out (by kernel_rfl)) (fun _ _ _ h => h) (Or.inl ⟨by rfl, ?_⟩) hHeld ?_ ?_
                                    rotate_left
                                    · rintro w' ⟨s0, s1, s2, s3, s4, s5, s6, s7, s8, s9⟩
                                      go_simp
                                      with_reducible rfl
                                    rotate_left
                                    · simp only [Act.put, List.setIfInBounds_toArray, List.set_cons_zero, List.set_cons_succ, i64_w, i32_w]
                                      rfl
                                    refine one_ (i := 1) (N := some 31) #[true, true, true, true, false, false, true, true, false, false, true, true, false, false, true, false, false, true, true, false, false, false, false, true, false, true, true, false, false, false, true, true, false, false, true, true, false, false, false, false, false, false, true, false, false, false] rfl rfl (one_of HT_.out (by kernel_rfl)) (by decide) (fun K hK => ?_)
                                    refine goes_ Tryd.func58 (by kernel_rfl) rfl #[.string t249, .int .i64 100] (by rfl) rfl rfl (by (try simp only [List.map_toArray, List.map_cons, List.map_nil]); first | done | rfl | (simp only [List.length_drop, List.length_take]; rfl)) ?_
                                    with_reducible refine (impl_Fill.calls t249 100 t251 _ A18.out).mono ?_
                                    rintro e w48 ⟨rfl, hb⟩
                                    refine ⟨_, rfl, ?_⟩
                                    have n0_ := Aside0.mk (blk_below (g := gb245) (o := .cells #[.int .i64 a0_0, .string a0_1, .string a0_2, .int .i64 a0_3, .int .i64 a0_4, .int .i64 a0_5, .int .i64 a0_6, .string a0_7, .string a0_8, .string a0_9] 36 (0, 0)) (by (with_reducible repeat (first | refine blk_drewN ?_ _ | refine blk_drew ?_ | refine blk_alloc ?_ _)); exact BK245.out) hb)
                                    have n1_ := Aside0.mk (below_step (by repeat (first | (with_reducible first | exact HB.out | apply below_alloc | apply pw_below_drewN | apply below_drew1 | refine below_set ?_ GE245.out) | exact HB.out)) hb)
                                    clear BK245
                                    clear HB
                                    have BK245 := n0_
                                    have HB := n1_
                                    clear n0_ n1_
                                    (try clear hb)
                                    (try clear hb2)
                                    (try clear hk)
                                    (try clear hi)
                                    refine hK.out _ _ ⟨(blk_cell BK245.out 0).trans rfl, (blk_cell BK245.out 1).trans rfl, (blk_cell BK245.out 2).trans rfl, (blk_cell BK245.out 3).trans rfl, (blk_cell BK245.out 4).trans rfl, (blk_cell BK245.out 5).trans rfl, (blk_cell BK245.out 6).trans rfl, (blk_cell BK245.out 7).trans rfl, (blk_cell BK245.out 8).trans rfl, (blk_cell BK245.out 9).trans rfl⟩ (fun hHeld => ?_)
                                    clear hK K
                                    refine norm_ (a' := ?_) ?_ ?_
                                    rotate_left
                                    · show Act.put _ (some 31) _ = _
                                      simp only [Act.put, List.setIfInBounds_toArray, List.set_cons_zero, List.set_cons_succ, i64_w, i32_w]
                                      rfl
                                    refine one_ (i := 4) (N := some 34) #[true, true, true, true, true, false, true, true, false, false, true, true, false, false, true, false, false, true, true, false, false, false, false, true, false, true, true, false, false, false, true, true, false, false, true, true, false, false, false, false, false, false, true, false, false, false] rfl rfl (one_of HT_.out (by kernel_rfl)) (by decide) (fun K hK => ?_)
                                    refine goes_ Tryd.func59 (by kernel_rfl) rfl #[.int .i64 a0_3, .int .i64 8] (by rfl) rfl rfl (by (try simp only [List.map_toArray, List.map_cons, List.map_nil]); first | done | rfl | (simp only [List.length_drop, List.length_take]; rfl)) ?_
                                    with_reducible refine (impl_octal.calls a0_3 8 t252 _ A19.out (Tabs.below HL.out (by repeat (first | (with_reducible first | exact HB.out | apply below_alloc | apply pw_below_drewN | apply below_drew1) | exact HB.out)))).mono ?_
                                    rintro e w49 ⟨rfl, hb⟩
                                    refine ⟨_, rfl, ?_⟩
                                    have n0_ := Aside0.mk (blk_below (g := gb245) (o := .cells #[.int .i64 a0_0, .string a0_1, .string a0_2, .int .i64 a0_3, .int .i64 a0_4, .int .i64 a0_5, .int .i64 a0_6, .string a0_7, .string a0_8, .string a0_9] 36 (0, 0)) (by (with_reducible repeat (first | refine blk_drewN ?_ _ | refine blk_drew ?_ | refine blk_alloc ?_ _)); exact BK245.out) hb)
                                    have n1_ := Aside0.mk (below_step (by repeat (first | (with_reducible first | exact HB.out | apply below_alloc | apply pw_below_drewN | apply below_drew1 | refine below_set ?_ GE245.out) | exact HB.out)) hb)
                                    clear BK245
                                    clear HB
                                    have BK245 := n0_
                                    have HB := n1_
                                    clear n0_ n1_
                                    (try clear hb)
                                    (try clear hb2)
                                    (try clear hk)
                                    (try clear hi)
                                    refine hK.out _ _ ⟨(blk_cell BK245.out 0).trans rfl, (blk_cell BK245.out 1).trans rfl, (blk_cell BK245.out 2).trans rfl, (blk_cell BK245.out 3).trans rfl, (blk_cell BK245.out 4).trans rfl, (blk_cell BK245.out 5).trans rfl, (blk_cell BK245.out 6).trans rfl, (blk_cell BK245.out 7).trans rfl, (blk_cell BK245.out 8).trans rfl, (blk_cell BK245.out 9).trans rfl⟩ (fun hHeld => ?_)
                                    clear hK K
                                    refine norm_ (a' := ?_) ?_ ?_
                                    rotate_left
                                    · show Act.put _ (some 34) _ = _
                                      simp only [Act.put, List.setIfInBounds_toArray, List.set_cons_zero, List.set_cons_succ, i64_w, i32_w]
                                      rfl
                                    refine pure_ (i := 5) (N := some 35) (v := ?_) (a' := ?_) #[true, true, true, true, true, true, true, true, false, false, true, true, false, false, true, false, false, true, true, false, false, false, false, true, false, true, true, false, false, false, true, true, false, false, true, true, false, false, false, false, false, false, true, false, false, false] rfl rfl (any_of HT_.out (by kernel_rfl)) (fun _ _ _ h => h) (Or.inl ⟨by rfl, ?_⟩) ?_ ?_
                                    rotate_left
                                    · intro w'
                                      go_simp
                                      with_reducible rfl
                                    rotate_left
                                    · simp only [Act.put, List.setIfInBounds_toArray, List.set_cons_zero, List.set_cons_succ, i64_w, i32_w]
                                      rfl
                                    refine one_ (i := 8) (N := some 38) #[true, true, true, true, true, true, true, true, true, false, true, true, false, false, true, false, false, true, true, false, false, false, false, true, false, true, true, false, false, false, true, true, false, false, true, true, false, false, false, false, false, false, true, false, false, false] rfl rfl (one_of HT_.out (by kernel_rfl)) (by decide) (fun K hK => ?_)
                                    refine goes_ Tryd.func59 (by kernel_rfl) rfl #[.int .i64 a0_4, .int .i64 8] (by rfl) rfl rfl (by (try simp only [List.map_toArray, List.map_cons, List.map_nil]); first | done | rfl | (simp only [List.length_drop, List.length_take]; rfl)) ?_
                                    with_reducible refine (impl_octal.calls a0_4 8 t253 _ A21.out (Tabs.below HL.out (by repeat (first | (with_reducible first | exact HB.out | apply below_alloc | apply pw_below_drewN | apply below_drew1) | exact HB.out)))).mono ?_
                                    rintro e w50 ⟨rfl, hb⟩
                                    refine ⟨_, rfl, ?_⟩
                                    have n0_ := Aside0.mk (blk_below (g := gb245) (o := .cells #[.int .i64 a0_0, .string a0_1, .string a0_2, .int .i64 a0_3, .int .i64 a0_4, .int .i64 a0_5, .int .i64 a0_6, .string a0_7, .string a0_8, .string a0_9] 36 (0, 0)) (by (with_reducible repeat (first | refine blk_drewN ?_ _ | refine blk_drew ?_ | refine blk_alloc ?_ _)); exact BK245.out) hb)
                                    have n1_ := Aside0.mk (below_step (by repeat (first | (with_reducible first | exact HB.out | apply below_alloc | apply pw_below_drewN | apply below_drew1 | refine below_set ?_ GE245.out) | exact HB.out)) hb)
                                    clear BK245
                                    clear HB
                                    have BK245 := n0_
                                    have HB := n1_
                                    clear n0_ n1_
                                    (try clear hb)
                                    (try clear hb2)
                                    (try clear hk)
                                    (try clear hi)
                                    refine hK.out _ _ ⟨(blk_cell BK245.out 0).trans rfl, (blk_cell BK245.out 1).trans rfl, (blk_cell BK245.out 2).trans rfl, (blk_cell BK245.out 3).trans rfl, (blk_cell BK245.out 4).trans rfl, (blk_cell BK245.out 5).trans rfl, (blk_cell BK245.out 6).trans rfl, (blk_cell BK245.out 7).trans rfl, (blk_cell BK245.out 8).trans rfl, (blk_cell BK245.out 9).trans rfl⟩ (fun hHeld => ?_)
                                    clear hK K
                                    refine norm_ (a' := ?_) ?_ ?_
                                    rotate_left
                                    · show Act.put _ (some 38) _ = _
                                      simp only [Act.put, List.setIfInBounds_toArray, List.set_cons_zero, List.set_cons_succ, i64_w, i32_w]
                                      rfl
                                    refine pure_ (i := 9) (N := some 39) (v := ?_) (a' := ?_) #[true, true, true, true, true, true, true, true, true, true, true, true, false, false, true, false, false, true, true, false, false, false, false, true, false, true, true, false, false, false, true, true, false, false, true, true, false, false, false, false, false, false, true, false, false, false] rfl rfl (any_of HT_.out (by kernel_rfl)) (fun _ _ _ h => h) (Or.inl ⟨by rfl, ?_⟩) ?_ ?_
                                    rotate_left
                                    · intro w'
                                      go_simp
                                      with_reducible rfl
                                    rotate_left
                                    · simp only [Act.put, List.setIfInBounds_toArray, List.set_cons_zero, List.set_cons_succ, i64_w, i32_w]
                                      rfl
                                    refine one_ (i := 12) (N := some 42) #[true, true, true, true, true, true, true, true, true, true, true, true, true, false, true, false, false, true, true, false, false, false, false, true, false, true, true, false, false, false, true, true, false, false, true, true, false, false, false, false, false, false, true, false, false, false] rfl rfl (one_of HT_.out (by kernel_rfl)) (by decide) (fun K hK => ?_)
                                    refine goes_ Tryd.func59 (by kernel_rfl) rfl #[.int .i64 a0_5, .int .i64 8] (by rfl) rfl rfl (by (try simp only [List.map_toArray, List.map_cons, List.map_nil]); first | done | rfl | (simp only [List.length_drop, List.length_take]; rfl)) ?_
                                    with_reducible refine (impl_octal.calls a0_5 8 t254 _ A23.out (Tabs.below HL.out (by repeat (first | (with_reducible first | exact HB.out | apply below_alloc | apply pw_below_drewN | apply below_drew1) | exact HB.out)))).mono ?_
                                    rintro e w51 ⟨rfl, hb⟩
                                    refine ⟨_, rfl, ?_⟩
                                    have n0_ := Aside0.mk (blk_below (g := gb245) (o := .cells #[.int .i64 a0_0, .string a0_1, .string a0_2, .int .i64 a0_3, .int .i64 a0_4, .int .i64 a0_5, .int .i64 a0_6, .string a0_7, .string a0_8, .string a0_9] 36 (0, 0)) (by (with_reducible repeat (first | refine blk_drewN ?_ _ | refine blk_drew ?_ | refine blk_alloc ?_ _)); exact BK245.out) hb)
                                    have n1_ := Aside0.mk (below_step (by repeat (first | (with_reducible first | exact HB.out | apply below_alloc | apply pw_below_drewN | apply below_drew1 | refine below_set ?_ GE245.out) | exact HB.out)) hb)
                                    clear BK245
                                    clear HB
                                    have BK245 := n0_
                                    have HB := n1_
                                    clear n0_ n1_
                                    (try clear hb)
                                    (try clear hb2)
                                    (try clear hk)
                                    (try clear hi)
                                    refine hK.out _ _ ⟨(blk_cell BK245.out 0).trans rfl, (blk_cell BK245.out 1).trans rfl, (blk_cell BK245.out 2).trans rfl, (blk_cell BK245.out 3).trans rfl, (blk_cell BK245.out 4).trans rfl, (blk_cell BK245.out 5).trans rfl, (blk_cell BK245.out 6).trans rfl, (blk_cell BK245.out 7).trans rfl, (blk_cell BK245.out 8).trans rfl, (blk_cell BK245.out 9).trans rfl⟩ (fun hHeld => ?_)
                                    clear hK K
                                    refine norm_ (a' := ?_) ?_ ?_
                                    rotate_left
                                    · show Act.put _ (some 42) _ = _
                                      simp only [Act.put, List.setIfInBounds_toArray, List.set_cons_zero, List.set_cons_succ, i64_w, i32_w]
                                      rfl
                                    refine pure_ (i := 13) (N := some 43) (v := ?_) (a' := ?_) #[true, true, true, true, true, true, true, true, true, true, true, true, true, true, true, false, false, true, true, false, false, false, false, true, false, true, true, false, false, false, true, true, false, false, true, true, false, false, false, false, false, false, true, false, false, false] rfl rfl (any_of HT_.out (by kernel_rfl)) (fun _ _ _ h => h) (Or.inl ⟨by rfl, ?_⟩) ?_ ?_
                                    rotate_left
                                    · intro w'
                                      go_simp
                                      with_reducible rfl
                                    rotate_left
                                    · simp only [Act.put, List.setIfInBounds_toArray, List.set_cons_zero, List.set_cons_succ, i64_w, i32_w]
                                      rfl
                                    refine one_ (i := 15) (N := some 45) #[true, true, true, true, true, true, true, true, true, true, true, true, true, true, true, true, false, true, true, false, false, false, false, true, false, true, true, false, false, false, true, true, false, false, true, true, false, false, false, false, false, false, true, false, false, false] rfl rfl (one_of HT_.out (by kernel_rfl)) (by decide) (fun K hK => ?_)
                                    refine goes_ Tryd.func59 (by kernel_rfl) rfl #[.int .i64 a2, .int .i64 12] (by rfl) rfl rfl (by (try simp only [List.map_toArray, List.map_cons, List.map_nil]); first | done | rfl | (simp only [List.length_drop, List.length_take]; rfl)) ?_
                                    with_reducible refine (impl_octal.calls a2 12 t255 _ A25.out (Tabs.below HL.out (by repeat (first | (with_reducible first | exact HB.out | apply below_alloc | apply pw_below_drewN | apply below_drew1) | exact HB.out)))).mono ?_
                                    rintro e w52 ⟨rfl, hb⟩
                                    refine ⟨_, rfl, ?_⟩
                                    have n0_ := Aside0.mk (blk_below (g := gb245) (o := .cells #[.int .i64 a0_0, .string a0_1, .string a0_2, .int .i64 a0_3, .int .i64 a0_4, .int .i64 a0_5, .int .i64 a0_6, .string a0_7, .string a0_8, .string a0_9] 36 (0, 0)) (by (with_reducible repeat (first | refine blk_drewN ?_ _ | refine blk_drew ?_ | refine blk_alloc ?_ _)); exact BK245.out) hb)
                                    have n1_ := Aside0.mk (below_step (by repeat (first | (with_reducible first | exact HB.out | apply below_alloc | apply pw_below_drewN | apply below_drew1 | refine below_set ?_ GE245.out) | exact HB.out)) hb)
                                    clear BK245
                                    clear HB
                                    have BK245 := n0_
                                    have HB := n1_
                                    clear n0_ n1_
                                    (try clear hb)
                                    (try clear hb2)
                                    (try clear hk)
                                    (try clear hi)
                                    refine hK.out _ _ ⟨(blk_cell BK245.out 0).trans rfl, (blk_cell BK245.out 1).trans rfl, (blk_cell BK245.out 2).trans rfl, (blk_cell BK245.out 3).trans rfl, (blk_cell BK245.out 4).trans rfl, (blk_cell BK245.out 5).trans rfl, (blk_cell BK245.out 6).trans rfl, (blk_cell BK245.out 7).trans rfl, (blk_cell BK245.out 8).trans rfl, (blk_cell BK245.out 9).trans rfl⟩ (fun hHeld => ?_)
                                    clear hK K
                                    refine norm_ (a' := ?_) ?_ ?_
                                    rotate_left
                                    · show Act.put _ (some 45) _ = _
                                      simp only [Act.put, List.setIfInBounds_toArray, List.set_cons_zero, List.set_cons_succ, i64_w, i32_w]
                                      rfl
                                    refine pure_ (i := 16) (N := some 46) (v := ?_) (a' := ?_) #[true, true, true, true, true, true, true, true, true, true, true, true, true, true, true, true, true, true, true, false, false, false, false, true, false, true, true, false, false, false, true, true, false, false, true, true, false, false, false, false, false, false, true, false, false, false] rfl rfl (any_of HT_.out (by kernel_rfl)) (fun _ _ _ h => h) (Or.inl ⟨by rfl, ?_⟩) ?_ ?_
                                    rotate_left
                                    · intro w'
                                      go_simp
                                      with_reducible rfl
                                    rotate_left
                                    · simp only [Act.put, List.setIfInBounds_toArray, List.set_cons_zero, List.set_cons_succ, i64_w, i32_w]
                                      rfl
                                    refine one_ (i := 19) (N := some 49) #[true, true, true, true, true, true, true, true, true, true, true, true, true, true, true, true, true, true, true, true, false, false, false, true, false, true, true, false, false, false, true, true, false, false, true, true, false, false, false, false, false, false, true, false, false, false] rfl rfl (one_of HT_.out (by kernel_rfl)) (by decide) (fun K hK => ?_)
                                    refine goes_ Tryd.func59 (by kernel_rfl) rfl #[.int .i64 a0_6, .int .i64 12] (by rfl) rfl rfl (by (try simp only [List.map_toArray, List.map_cons, List.map_nil]); first | done | rfl | (simp only [List.length_drop, List.length_take]; rfl)) ?_
                                    with_reducible refine (impl_octal.calls a0_6 12 t256 _ A27.out (Tabs.below HL.out (by repeat (first | (with_reducible first | exact HB.out | apply below_alloc | apply pw_below_drewN | apply below_drew1) | exact HB.out)))).mono ?_
                                    rintro e w53 ⟨rfl, hb⟩
                                    refine ⟨_, rfl, ?_⟩
                                    have n0_ := Aside0.mk (blk_below (g := gb245) (o := .cells #[.int .i64 a0_0, .string a0_1, .string a0_2, .int .i64 a0_3, .int .i64 a0_4, .int .i64 a0_5, .int .i64 a0_6, .string a0_7, .string a0_8, .string a0_9] 36 (0, 0)) (by (with_reducible repeat (first | refine blk_drewN ?_ _ | refine blk_drew ?_ | refine blk_alloc ?_ _)); exact BK245.out) hb)
                                    have n1_ := Aside0.mk (below_step (by repeat (first | (with_reducible first | exact HB.out | apply below_alloc | apply pw_below_drewN | apply below_drew1 | refine below_set ?_ GE245.out) | exact HB.out)) hb)
                                    clear BK245
                                    clear HB
                                    have BK245 := n0_
                                    have HB := n1_
                                    clear n0_ n1_
                                    (try clear hb)
                                    (try clear hb2)
                                    (try clear hk)
                                    (try clear hi)
                                    refine hK.out _ _ ⟨(blk_cell BK245.out 0).trans rfl, (blk_cell BK245.out 1).trans rfl, (blk_cell BK245.out 2).trans rfl, (blk_cell BK245.out 3).trans rfl, (blk_cell BK245.out 4).trans rfl, (blk_cell BK245.out 5).trans rfl, (blk_cell BK245.out 6).trans rfl, (blk_cell BK245.out 7).trans rfl, (blk_cell BK245.out 8).trans rfl, (blk_cell BK245.out 9).trans rfl⟩ (fun hHeld => ?_)
                                    clear hK K
                                    refine norm_ (a' := ?_) ?_ ?_
                                    rotate_left
                                    · show Act.put _ (some 49) _ = _
                                      simp only [Act.put, List.setIfInBounds_toArray, List.set_cons_zero, List.set_cons_succ, i64_w, i32_w]
                                      rfl
                                    refine pure_ (i := 20) (N := some 50) (v := ?_) (a' := ?_) #[true, true, true, true, true, true, true, true, true, true, true, true, true, true, true, true, true, true, true, true, true, false, false, true, false, true, true, false, false, false, true, true, false, false, true, true, false, false, false, false, false, false, true, false, false, false] rfl rfl (any_of HT_.out (by kernel_rfl)) (fun _ _ _ h => h) (Or.inl ⟨by rfl, ?_⟩) ?_ ?_
                                    rotate_left
                                    · intro w'
                                      go_simp
                                      with_reducible rfl
                                    rotate_left
                                    · simp only [Act.put, List.setIfInBounds_toArray, List.set_cons_zero, List.set_cons_succ, i64_w, i32_w]
                                      rfl
                                    refine one_ (i := 21) (N := some 51) #[true, true, true, true, true, true, true, true, true, true, true, true, true, true, true, true, true, true, true, true, true, true, false, true, false, true, true, false, false, false, true, true, false, false, true, true, false, false, false, false, false, false, true, false, false, false] rfl rfl (one_of HT_.out (by kernel_rfl)) (by decide) (fun K hK => ?_)
                                    refine goes_ Tryd.func60 (by kernel_rfl) rfl #[.int .i64 8] (by rfl) rfl rfl (by (try simp only [List.map_toArray, List.map_cons, List.map_nil]); first | done | rfl | (simp only [List.length_drop, List.length_take]; rfl)) ?_
                                    with_reducible refine (impl_nuls.calls 8 t257 _ A29.out).mono ?_
                                    rintro e w54 ⟨rfl, hb⟩
                                    refine ⟨_, rfl, ?_⟩
                                    have n0_ := Aside0.mk (blk_below (g := gb245) (o := .cells #[.int .i64 a0_0, .string a0_1, .string a0_2, .int .i64 a0_3, .int .i64 a0_4, .int .i64 a0_5, .int .i64 a0_6, .string a0_7, .string a0_8, .string a0_9] 36 (0, 0)) (by (with_reducible repeat (first | refine blk_drewN ?_ _ | refine blk_drew ?_ | refine blk_alloc ?_ _)); exact BK245.out) hb)
                                    have n1_ := Aside0.mk (below_step (by repeat (first | (with_reducible first | exact HB.out | apply below_alloc | apply pw_below_drewN | apply below_drew1 | refine below_set ?_ GE245.out) | exact HB.out)) hb)
                                    clear BK245
                                    clear HB
                                    have BK245 := n0_
                                    have HB := n1_
                                    clear n0_ n1_
                                    (try clear hb)
                                    (try clear hb2)
                                    (try clear hk)
                                    (try clear hi)
                                    refine hK.out _ _ ⟨(blk_cell BK245.out 0).trans rfl, (blk_cell BK245.out 1).trans rfl, (blk_cell BK245.out 2).trans rfl, (blk_cell BK245.out 3).trans rfl, (blk_cell BK245.out 4).trans rfl, (blk_cell BK245.out 5).trans rfl, (blk_cell BK245.out 6).trans rfl, (blk_cell BK245.out 7).trans rfl, (blk_cell BK245.out 8).trans rfl, (blk_cell BK245.out 9).trans rfl⟩ (fun hHeld => ?_)
                                    clear hK K
                                    refine norm_ (a' := ?_) ?_ ?_
                                    rotate_left
                                    · show Act.put _ (some 51) _ = _
                                      simp only [Act.put, List.setIfInBounds_toArray, List.set_cons_zero, List.set_cons_succ, i64_w, i32_w]
                                      rfl
                                    refine pure_ (i := 22) (N := some 52) (v := ?_) (a' := ?_) #[true, true, true, true, true, true, true, true, true, true, true, true, true, true, true, true, true, true, true, true, true, true, true, true, false, true, true, false, false, false, true, true, false, false, true, true, false, false, false, false, false, false, true, false, false, false] rfl rfl (any_of HT_.out (by kernel_rfl)) (fun _ _ _ h => h) (Or.inl ⟨by rfl, ?_⟩) ?_ ?_
                                    rotate_left
                                    · intro w'
                                      go_simp
                                      with_reducible rfl
                                    rotate_left
                                    · simp only [Act.put, List.setIfInBounds_toArray, List.set_cons_zero, List.set_cons_succ, i64_w, i32_w]
                                      rfl
                                    refine pure_ (i := 24) (N := some 54) (v := ?_) (a' := ?_) #[true, true, true, true, true, true, true, true, true, true, true, true, true, true, true, true, true, true, true, true, true, true, true, true, true, true, true, false, false, false, true, true, false, false, true, true, false, false, false, false, false, false, true, false, false, false] rfl rfl (any_of HT_.out (by kernel_rfl)) (fun _ _ _ h => h) (Or.inl ⟨by rfl, ?_⟩) ?_ ?_
                                    rotate_left
                                    · intro w'
                                      go_simp
                                      with_reducible rfl
                                    rotate_left
                                    · simp only [Act.put, List.setIfInBounds_toArray, List.set_cons_zero, List.set_cons_succ, i64_w, i32_w]
                                      rfl
                                    refine one_ (i := 27) (N := some 57) #[true, true, true, true, true, true, true, true, true, true, true, true, true, true, true, true, true, true, true, true, true, true, true, true, true, true, true, true, false, false, true, true, false, false, true, true, false, false, false, false, false, false, true, false, false, false] rfl rfl (one_of HT_.out (by kernel_rfl)) (by decide) (fun K hK => ?_)
                                    refine goes_ Tryd.func58 (by kernel_rfl) rfl #[.string a0_2, .int .i64 100] (by rfl) rfl rfl (by (try simp only [List.map_toArray, List.map_cons, List.map_nil]); first | done | rfl | (simp only [List.length_drop, List.length_take]; rfl)) ?_
                                    with_reducible refine (impl_Fill.calls a0_2 100 t258 _ A32.out).mono ?_
                                    rintro e w55 ⟨rfl, hb⟩
                                    refine ⟨_, rfl, ?_⟩
                                    have n0_ := Aside0.mk (blk_below (g := gb245) (o := .cells #[.int .i64 a0_0, .string a0_1, .string a0_2, .int .i64 a0_3, .int .i64 a0_4, .int .i64 a0_5, .int .i64 a0_6, .string a0_7, .string a0_8, .string a0_9] 36 (0, 0)) (by (with_reducible repeat (first | refine blk_drewN ?_ _ | refine blk_drew ?_ | refine blk_alloc ?_ _)); exact BK245.out) hb)
                                    have n1_ := Aside0.mk (below_step (by repeat (first | (with_reducible first | exact HB.out | apply below_alloc | apply pw_below_drewN | apply below_drew1 | refine below_set ?_ GE245.out) | exact HB.out)) hb)
                                    clear BK245
                                    clear HB
                                    have BK245 := n0_
                                    have HB := n1_
                                    clear n0_ n1_
                                    (try clear hb)
                                    (try clear hb2)
                                    (try clear hk)
                                    (try clear hi)
                                    refine hK.out _ _ ⟨(blk_cell BK245.out 0).trans rfl, (blk_cell BK245.out 1).trans rfl, (blk_cell BK245.out 2).trans rfl, (blk_cell BK245.out 3).trans rfl, (blk_cell BK245.out 4).trans rfl, (blk_cell BK245.out 5).trans rfl, (blk_cell BK245.out 6).trans rfl, (blk_cell BK245.out 7).trans rfl, (blk_cell BK245.out 8).trans rfl, (blk_cell BK245.out 9).trans rfl⟩ (fun hHeld => ?_)
                                    clear hK K
                                    refine norm_ (a' := ?_) ?_ ?_
                                    rotate_left
                                    · show Act.put _ (some 57) _ = _
                                      simp only [Act.put, List.setIfInBounds_toArray, List.set_cons_zero, List.set_cons_succ, i64_w, i32_w]
                                      rfl
                                    refine pure_ (i := 28) (N := some 58) (v := ?_) (a' := ?_) #[true, true, true, true, true, true, true, true, true, true, true, true, true, true, true, true, true, true, true, true, true, true, true, true, true, true, true, true, true, false, true, true, false, false, true, true, false, false, false, false, false, false, true, false, false, false] rfl rfl (any_of HT_.out (by kernel_rfl)) (fun _ _ _ h => h) (Or.inl ⟨by rfl, ?_⟩) ?_ ?_
                                    rotate_left
                                    · intro w'
                                      go_simp
                                      with_reducible rfl
                                    rotate_left
                                    · simp only [Act.put, List.setIfInBounds_toArray, List.set_cons_zero, List.set_cons_succ, i64_w, i32_w]
                                      rfl
                                    refine pure_ (i := 29) (N := some 59) (v := ?_) (a' := ?_) #[true, true, true, true, true, true, true, true, true, true, true, true, true, true, true, true, true, true, true, true, true, true, true, true, true, true, true, true, true, true, true, true, false, false, true, true, false, false, false, false, false, false, true, false, false, false] rfl rfl (any_of HT_.out (by kernel_rfl)) (fun _ _ _ h => h) (Or.inl ⟨by rfl, ?_⟩) ?_ ?_
                                    rotate_left
                                    · intro w'
                                      go_simp
                                      with_reducible rfl
                                    rotate_left
                                    · simp only [Act.put, List.setIfInBounds_toArray, List.set_cons_zero, List.set_cons_succ, i64_w, i32_w]
                                      rfl
                                    refine one_ (i := 32) (N := some 62) #[true, true, true, true, true, true, true, true, true, true, true, true, true, true, true, true, true, true, true, true, true, true, true, true, true, true, true, true, true, true, true, true, true, false, true, true, false, false, false, false, false, false, true, false, false, false] rfl rfl (one_of HT_.out (by kernel_rfl)) (by decide) (fun K hK => ?_)
                                    refine goes_ Tryd.func58 (by kernel_rfl) rfl #[.string a0_7, .int .i64 32] (by rfl) rfl rfl (by (try simp only [List.map_toArray, List.map_cons, List.map_nil]); first | done | rfl | (simp only [List.length_drop, List.length_take]; rfl)) ?_
                                    with_reducible refine (impl_Fill.calls a0_7 32 t259 _ A35.out).mono ?_
                                    rintro e w56 ⟨rfl, hb⟩
                                    refine ⟨_, rfl, ?_⟩
                                    have n0_ := Aside0.mk (blk_below (g := gb245) (o := .cells #[.int .i64 a0_0, .string a0_1, .string a0_2, .int .i64 a0_3, .int .i64 a0_4, .int .i64 a0_5, .int .i64 a0_6, .string a0_7, .string a0_8, .string a0_9] 36 (0, 0)) (by (with_reducible repeat (first | refine blk_drewN ?_ _ | refine blk_drew ?_ | refine blk_alloc ?_ _)); exact BK245.out) hb)
                                    have n1_ := Aside0.mk (below_step (by repeat (first | (with_reducible first | exact HB.out | apply below_alloc | apply pw_below_drewN | apply below_drew1 | refine below_set ?_ GE245.out) | exact HB.out)) hb)
                                    clear BK245
                                    clear HB
                                    have BK245 := n0_
                                    have HB := n1_
                                    clear n0_ n1_
                                    (try clear hb)
                                    (try clear hb2)
                                    (try clear hk)
                                    (try clear hi)
                                    refine hK.out _ _ ⟨(blk_cell BK245.out 0).trans rfl, (blk_cell BK245.out 1).trans rfl, (blk_cell BK245.out 2).trans rfl, (blk_cell BK245.out 3).trans rfl, (blk_cell BK245.out 4).trans rfl, (blk_cell BK245.out 5).trans rfl, (blk_cell BK245.out 6).trans rfl, (blk_cell BK245.out 7).trans rfl, (blk_cell BK245.out 8).trans rfl, (blk_cell BK245.out 9).trans rfl⟩ (fun hHeld => ?_)
                                    clear hK K
                                    refine norm_ (a' := ?_) ?_ ?_
                                    rotate_left
                                    · show Act.put _ (some 62) _ = _
                                      simp only [Act.put, List.setIfInBounds_toArray, List.set_cons_zero, List.set_cons_succ, i64_w, i32_w]
                                      rfl
                                    refine pure_ (i := 33) (N := some 63) (v := ?_) (a' := ?_) #[true, true, true, true, true, true, true, true, true, true, true, true, true, true, true, true, true, true, true, true, true, true, true, true, true, true, true, true, true, true, true, true, true, true, true, true, false, false, false, false, false, false, true, false, false, false] rfl rfl (any_of HT_.out (by kernel_rfl)) (fun _ _ _ h => h) (Or.inl ⟨by rfl, ?_⟩) ?_ ?_
                                    rotate_left
                                    · intro w'
                                      go_simp
                                      with_reducible rfl
                                    rotate_left
                                    · simp only [Act.put, List.setIfInBounds_toArray, List.set_cons_zero, List.set_cons_succ, i64_w, i32_w]
                                      rfl
                                    refine one_ (i := 36) (N := some 66) #[true, true, true, true, true, true, true, true, true, true, true, true, true, true, true, true, true, true, true, true, true, true, true, true, true, true, true, true, true, true, true, true, true, true, true, true, true, false, false, false, false, false, true, false, false, false] rfl rfl (one_of HT_.out (by kernel_rfl)) (by decide) (fun K hK => ?_)
                                    refine goes_ Tryd.func58 (by kernel_rfl) rfl #[.string a0_8, .int .i64 32] (by rfl) rfl rfl (by (try simp only [List.map_toArray, List.map_cons, List.map_nil]); first | done | rfl | (simp only [List.length_drop, List.length_take]; rfl)) ?_
                                    with_reducible refine (impl_Fill.calls a0_8 32 t260 _ A37.out).mono ?_
                                    rintro e w57 ⟨rfl, hb⟩
                                    refine ⟨_, rfl, ?_⟩
                                    have n0_ := Aside0.mk (blk_below (g := gb245) (o := .cells #[.int .i64 a0_0, .string a0_1, .string a0_2, .int .i64 a0_3, .int .i64 a0_4, .int .i64 a0_5, .int .i64 a0_6, .string a0_7, .string a0_8, .string a0_9] 36 (0, 0)) (by (with_reducible repeat (first | refine blk_drewN ?_ _ | refine blk_drew ?_ | refine blk_alloc ?_ _)); exact BK245.out) hb)
                                    have n1_ := Aside0.mk (below_step (by repeat (first | (with_reducible first | exact HB.out | apply below_alloc | apply pw_below_drewN | apply below_drew1 | refine below_set ?_ GE245.out) | exact HB.out)) hb)
                                    clear BK245
                                    clear HB
                                    have BK245 := n0_
                                    have HB := n1_
                                    clear n0_ n1_
                                    (try clear hb)
                                    (try clear hb2)
                                    (try clear hk)
                                    (try clear hi)
                                    refine hK.out _ _ ⟨(blk_cell BK245.out 0).trans rfl, (blk_cell BK245.out 1).trans rfl, (blk_cell BK245.out 2).trans rfl, (blk_cell BK245.out 3).trans rfl, (blk_cell BK245.out 4).trans rfl, (blk_cell BK245.out 5).trans rfl, (blk_cell BK245.out 6).trans rfl, (blk_cell BK245.out 7).trans rfl, (blk_cell BK245.out 8).trans rfl, (blk_cell BK245.out 9).trans rfl⟩ (fun hHeld => ?_)
                                    clear hK K
                                    refine norm_ (a' := ?_) ?_ ?_
                                    rotate_left
                                    · show Act.put _ (some 66) _ = _
                                      simp only [Act.put, List.setIfInBounds_toArray, List.set_cons_zero, List.set_cons_succ, i64_w, i32_w]
                                      rfl
                                    refine pure_ (i := 37) (N := some 67) (v := ?_) (a' := ?_) #[true, true, true, true, true, true, true, true, true, true, true, true, true, true, true, true, true, true, true, true, true, true, true, true, true, true, true, true, true, true, true, true, true, true, true, true, true, true, false, false, false, false, true, false, false, false] rfl rfl (any_of HT_.out (by kernel_rfl)) (fun _ _ _ h => h) (Or.inl ⟨by rfl, ?_⟩) ?_ ?_
                                    rotate_left
                                    · intro w'
                                      go_simp
                                      with_reducible rfl
                                    rotate_left
                                    · simp only [Act.put, List.setIfInBounds_toArray, List.set_cons_zero, List.set_cons_succ, i64_w, i32_w]
                                      rfl
                                    refine one_ (i := 38) (N := some 68) #[true, true, true, true, true, true, true, true, true, true, true, true, true, true, true, true, true, true, true, true, true, true, true, true, true, true, true, true, true, true, true, true, true, true, true, true, true, true, true, false, false, false, true, false, false, false] rfl rfl (one_of HT_.out (by kernel_rfl)) (by decide) (fun K hK => ?_)
                                    refine goes_ Tryd.func59 (by kernel_rfl) rfl #[.int .i64 0, .int .i64 8] (by rfl) rfl rfl (by (try simp only [List.map_toArray, List.map_cons, List.map_nil]); first | done | rfl | (simp only [List.length_drop, List.length_take]; rfl)) ?_
                                    with_reducible refine (impl_octal.calls 0 8 t261 _ A39.out (Tabs.below HL.out (by repeat (first | (with_reducible first | exact HB.out | apply below_alloc | apply pw_below_drewN | apply below_drew1) | exact HB.out)))).mono ?_
                                    rintro e w58 ⟨rfl, hb⟩
                                    refine ⟨_, rfl, ?_⟩
                                    have n0_ := Aside0.mk (blk_below (g := gb245) (o := .cells #[.int .i64 a0_0, .string a0_1, .string a0_2, .int .i64 a0_3, .int .i64 a0_4, .int .i64 a0_5, .int .i64 a0_6, .string a0_7, .string a0_8, .string a0_9] 36 (0, 0)) (by (with_reducible repeat (first | refine blk_drewN ?_ _ | refine blk_drew ?_ | refine blk_alloc ?_ _)); exact BK245.out) hb)
                                    have n1_ := Aside0.mk (below_step (by repeat (first | (with_reducible first | exact HB.out | apply below_alloc | apply pw_below_drewN | apply below_drew1 | refine below_set ?_ GE245.out) | exact HB.out)) hb)
                                    clear BK245
                                    clear HB
                                    have BK245 := n0_
                                    have HB := n1_
                                    clear n0_ n1_
                                    (try clear hb)
                                    (try clear hb2)
                                    (try clear hk)
                                    (try clear hi)
                                    refine hK.out _ _ ⟨(blk_cell BK245.out 0).trans rfl, (blk_cell BK245.out 1).trans rfl, (blk_cell BK245.out 2).trans rfl, (blk_cell BK245.out 3).trans rfl, (blk_cell BK245.out 4).trans rfl, (blk_cell BK245.out 5).trans rfl, (blk_cell BK245.out 6).trans rfl, (blk_cell BK245.out 7).trans rfl, (blk_cell BK245.out 8).trans rfl, (blk_cell BK245.out 9).trans rfl⟩ (fun hHeld => ?_)
                                    clear hK K
                                    refine norm_ (a' := ?_) ?_ ?_
                                    rotate_left
                                    · show Act.put _ (some 68) _ = _
                                      simp only [Act.put, List.setIfInBounds_toArray, List.set_cons_zero, List.set_cons_succ, i64_w, i32_w]
                                      rfl
                                    refine pure_ (i := 39) (N := some 69) (v := ?_) (a' := ?_) #[true, true, true, true, true, true, true, true, true, true, true, true, true, true, true, true, true, true, true, true, true, true, true, true, true, true, true, true, true, true, true, true, true, true, true, true, true, true, true, true, false, false, true, false, false, false] rfl rfl (any_of HT_.out (by kernel_rfl)) (fun _ _ _ h => h) (Or.inl ⟨by rfl, ?_⟩) ?_ ?_
                                    rotate_left
                                    · intro w'
                                      go_simp
                                      with_reducible rfl
                                    rotate_left
                                    · simp only [Act.put, List.setIfInBounds_toArray, List.set_cons_zero, List.set_cons_succ, i64_w, i32_w]
                                      rfl
                                    refine one_ (i := 40) (N := some 70) #[true, true, true, true, true, true, true, true, true, true, true, true, true, true, true, true, true, true, true, true, true, true, true, true, true, true, true, true, true, true, true, true, true, true, true, true, true, true, true, true, true, false, true, false, false, false] rfl rfl (one_of HT_.out (by kernel_rfl)) (by decide) (fun K hK => ?_)
                                    refine goes_ Tryd.func59 (by kernel_rfl) rfl #[.int .i64 0, .int .i64 8] (by rfl) rfl rfl (by (try simp only [List.map_toArray, List.map_cons, List.map_nil]); first | done | rfl | (simp only [List.length_drop, List.length_take]; rfl)) ?_
                                    with_reducible refine (impl_octal.calls 0 8 t262 _ A41.out (Tabs.below HL.out (by repeat (first | (with_reducible first | exact HB.out | apply below_alloc | apply pw_below_drewN | apply below_drew1) | exact HB.out)))).mono ?_
                                    rintro e w59 ⟨rfl, hb⟩
                                    refine ⟨_, rfl, ?_⟩
                                    have n0_ := Aside0.mk (blk_below (g := gb245) (o := .cells #[.int .i64 a0_0, .string a0_1, .string a0_2, .int .i64 a0_3, .int .i64 a0_4, .int .i64 a0_5, .int .i64 a0_6, .string a0_7, .string a0_8, .string a0_9] 36 (0, 0)) (by (with_reducible repeat (first | refine blk_drewN ?_ _ | refine blk_drew ?_ | refine blk_alloc ?_ _)); exact BK245.out) hb)
                                    have n1_ := Aside0.mk (below_step (by repeat (first | (with_reducible first | exact HB.out | apply below_alloc | apply pw_below_drewN | apply below_drew1 | refine below_set ?_ GE245.out) | exact HB.out)) hb)
                                    clear BK245
                                    clear HB
                                    have BK245 := n0_
                                    have HB := n1_
                                    clear n0_ n1_
                                    (try clear hb)
                                    (try clear hb2)
                                    (try clear hk)
                                    (try clear hi)
                                    refine hK.out _ _ ⟨(blk_cell BK245.out 0).trans rfl, (blk_cell BK245.out 1).trans rfl, (blk_cell BK245.out 2).trans rfl, (blk_cell BK245.out 3).trans rfl, (blk_cell BK245.out 4).trans rfl, (blk_cell BK245.out 5).trans rfl, (blk_cell BK245.out 6).trans rfl, (blk_cell BK245.out 7).trans rfl, (blk_cell BK245.out 8).trans rfl, (blk_cell BK245.out 9).trans rfl⟩ (fun hHeld => ?_)
                                    clear hK K
                                    refine norm_ (a' := ?_) ?_ ?_
                                    rotate_left
                                    · show Act.put _ (some 70) _ = _
                                      simp only [Act.put, List.setIfInBounds_toArray, List.set_cons_zero, List.set_cons_succ, i64_w, i32_w]
                                      rfl
                                    refine pure_ (i := 41) (N := some 71) (v := ?_) (a' := ?_) #[true, true, true, true, true, true, true, true, true, true, true, true, true, true, true, true, true, true, true, true, true, true, true, true, true, true, true, true, true, true, true, true, true, true, true, true, true, true, true, true, true, true, true, false, false, false] rfl rfl (any_of HT_.out (by kernel_rfl)) (fun _ _ _ h => h) (Or.inl ⟨by rfl, ?_⟩) ?_ ?_
                                    rotate_left
                                    · intro w'
                                      go_simp
                                      with_reducible rfl
                                    rotate_left
                                    · simp only [Act.put, List.setIfInBounds_toArray, List.set_cons_zero, List.set_cons_succ, i64_w, i32_w]
                                      rfl
                                    refine pure_ (i := 43) (N := some 73) (v := ?_) (a' := ?_) #[true, true, true, true, true, true, true, true, true, true, true, true, true, true, true, true, true, true, true, true, true, true, true, true, true, true, true, true, true, true, true, true, true, true, true, true, true, true, true, true, true, true, true, true, false, false] rfl rfl (any_of HT_.out (by kernel_rfl)) (fun _ _ _ h => h) (Or.inl ⟨by rfl, ?_⟩) ?_ ?_
                                    rotate_left
                                    · intro w'
                                      go_simp
                                      with_reducible rfl
                                    rotate_left
                                    · simp only [Act.put, List.setIfInBounds_toArray, List.set_cons_zero, List.set_cons_succ, i64_w, i32_w]
                                      rfl
                                    refine one_ (i := 44) (N := some 74) #[true, true, true, true, true, true, true, true, true, true, true, true, true, true, true, true, true, true, true, true, true, true, true, true, true, true, true, true, true, true, true, true, true, true, true, true, true, true, true, true, true, true, true, true, true, false] rfl rfl (one_of HT_.out (by kernel_rfl)) (by decide) (fun K hK => ?_)
                                    refine goes_ Tryd.func57 (by kernel_rfl) rfl #[.string ((((((((((((((t251 ++ t252) ++ t253) ++ t254) ++ t255) ++ t256) ++ t257) ++ a1) ++ t258) ++ (⟨#[117, 115, 116, 97, 114, 0, 48, 48]⟩ : ByteArray)) ++ t259) ++ t260) ++ t261) ++ t262) ++ t248)] (by rfl) rfl rfl (by (try simp only [List.map_toArray, List.map_cons, List.map_nil]); first | done | rfl | (simp only [List.length_drop, List.length_take]; rfl)) ?_
                                    with_reducible refine (impl_summed.calls kj3 ((((((((((((((t251 ++ t252) ++ t253) ++ t254) ++ t255) ++ t256) ++ t257) ++ a1) ++ t258) ++ (⟨#[117, 115, 116, 97, 114, 0, 48, 48]⟩ : ByteArray)) ++ t259) ++ t260) ++ t261) ++ t262) ++ t248) t263 _ A44.out (Tabs.below HL.out (by repeat (first | (with_reducible first | exact HB.out | apply below_alloc | apply pw_below_drewN | apply below_drew1) | exact HB.out)))).mono ?_
                                    rintro e w60 ⟨rfl, hb⟩
                                    refine ⟨_, rfl, ?_⟩
                                    have n0_ := Aside0.mk (blk_below (g := gb245) (o := .cells #[.int .i64 a0_0, .string a0_1, .string a0_2, .int .i64 a0_3, .int .i64 a0_4, .int .i64 a0_5, .int .i64 a0_6, .string a0_7, .string a0_8, .string a0_9] 36 (0, 0)) (by (with_reducible repeat (first | refine blk_drewN ?_ _ | refine blk_drew ?_ | refine blk_alloc ?_ _)); exact BK245.out) hb)
                                    have n1_ := Aside0.mk (below_step (by repeat (first | (with_reducible first | exact HB.out | apply below_alloc | apply pw_below_drewN | apply below_drew1 | refine below_set ?_ GE245.out) | exact HB.out)) hb)
                                    clear BK245
                                    clear HB
                                    have BK245 := n0_
                                    have HB := n1_
                                    clear n0_ n1_
                                    (try clear hb)
                                    (try clear hb2)
                                    (try clear hk)
                                    (try clear hi)
                                    refine hK.out _ _ ⟨(blk_cell BK245.out 0).trans rfl, (blk_cell BK245.out 1).trans rfl, (blk_cell BK245.out 2).trans rfl, (blk_cell BK245.out 3).trans rfl, (blk_cell BK245.out 4).trans rfl, (blk_cell BK245.out 5).trans rfl, (blk_cell BK245.out 6).trans rfl, (blk_cell BK245.out 7).trans rfl, (blk_cell BK245.out 8).trans rfl, (blk_cell BK245.out 9).trans rfl⟩ (fun hHeld => ?_)
                                    clear hK K
                                    refine norm_ (a' := ?_) ?_ ?_
                                    rotate_left
                                    · show Act.put _ (some 74) _ = _
                                      simp only [Act.put, List.setIfInBounds_toArray, List.set_cons_zero, List.set_cons_succ, i64_w, i32_w]
                                      rfl
                                    refine pure_ (i := 45) (N := some 6) (v := ?_) (a' := ?_) #[true, true, true, true, true, true, true, true, true, true, true, true, true, true, true, true, true, true, true, true, true, true, true, true, true, true, true, true, true, true, true, true, true, true, true, true, true, true, true, true, true, true, true, true, true, true] rfl rfl (any_of HT_.out (by kernel_rfl)) (fun _ _ _ h => h) (Or.inl ⟨by rfl, ?_⟩) ?_ ?_
                                    rotate_left
                                    · intro w'
                                      go_simp
                                      with_reducible rfl
                                    rotate_left
                                    · simp only [Act.put, List.setIfInBounds_toArray, List.set_cons_zero, List.set_cons_succ, i64_w, i32_w]
                                      rfl
                                    refine done_ (done_of HT_.out (by kernel_rfl)) ?_
                                    try go_wp2
                                    go_ret
                                    exact ⟨by first | rfl | (simp [errW_none, errW_some] <;> rfl) | (simp [*, errW_none, errW_some] <;> rfl) | (simp only [decide_eq_true_eq] at *; simp [*, bt]; done), by repeat (first | (with_reducible first | exact HB.out | apply below_alloc | apply pw_below_drewN | apply below_drew1 | refine below_set ?_ GE245.out) | exact HB.out)⟩
                                  · rw [if_neg c43] at H
                                    exact absurd H (by simp)
                                · rw [if_neg c42] at H
                                  exact absurd H (by simp)
                              · rw [if_neg c40] at H
                                exact absurd H (by simp)
                            · rw [if_neg c38] at H
                              exact absurd H (by simp)
                          · rw [if_neg c36] at H
                            exact absurd H (by simp)
                        · rw [if_neg c34] at H
                          exact absurd H (by simp)
                      · rw [if_neg c33] at H
                        exact absurd H (by simp)
                    · rw [if_neg c31] at H
                      exact absurd H (by simp)
                  · rw [if_neg c30] at H
                    exact absurd H (by simp)
                · rw [if_neg c28] at H
                  exact absurd H (by simp)
              · rw [if_neg c26] at H
                exact absurd H (by simp)
            · rw [if_neg c24] at H
              exact absurd H (by simp)
          · rw [if_neg c22] at H
            exact absurd H (by simp)
        · rw [if_neg c20] at H
          exact absurd H (by simp)

end Go.Proofs.YtgmggpgcfonmgaaDoor.PFnExactPutHead
