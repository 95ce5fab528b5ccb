-- PRINTED for this claim by a program of this session's repo over the kit's printer, with contracts of our own among the functions.
import Derived.Test.YtfmhajlpaelmeaaPFnWordsx0
import Derived.Test.YtfmhajlpaelmeaaPFnWordsx1
namespace Go.Proofs.Ytfmhajlpaelmeaa.PFnWords
open Go.RowKit Go.Proofs.YtfmhajlpaelmeaaW.PrintWords Go.Proofs.YtfmhajlpaelmeaaW.PrintLast Go.Proofs.YtfmhajlpaelmeaaW.PrintMore
attribute [local go_sem] max2_int min2_int max_two min_two max_three min_three max_four min_four   -- for this text's walks alone
set_option linter.unusedVariables false
set_option linter.unusedSimpArgs false

/-! ### spec_l01Num: function 67 -/
def spec_l01Num.f (s0_0 : List Int) (s0_1 : Int) (s0_2 : Int) : Option (Int × Int × Int) := (spec_l01Below.f s0_0 s0_1 s0_2 100000).bind fun bt131 => ((spec_l01Below.f s0_0 bt131.2.1 bt131.2.2 1000).bind fun bt134 => ((spec_l01PickInt.f s0_0 bt134.2.1 bt134.2.2 (([0, 1, 7, 8, 255, 256, 4095, 65535, 65536, 2097151, 2097152, 4294967295, 4294967296, 9007199254740991, 9007199254740992, (-1), bt131.1, bt134.1] : List Int))).bind fun bt140 => (some (bt140.1, bt140.2.1, bt140.2.2))))
set_option maxHeartbeats 8000000 in
set_option maxRecDepth 100000 in
theorem spec_l01Num.calls (g : Nat) (s0_0 : List Int) (s0_1 : Int) (s0_2 : Int) (r1 : Int) (r2 : Int) (r3 : Int) (w0 w : World) (hI : IsS73 w0 w g s0_0 s0_1 s0_2) (hB : Below w0.heap.size w0 w) (h : spec_l01Num.f s0_0 s0_1 s0_2 = some (r1, r2, r3)) :
    Calls Try.prog 67 #[.pointer (some ⟨g, 0, none⟩)] w fun e w' => e = .returned (.int .i64 r1) ∧ IsS73 w0 w' g s0_0 r2 r3 ∧ Below w0.heap.size w0 w' ∧ KeepBut w w' g none := by
  have HI0 := Aside0.mk hI
  have HK := Aside0.mk (KeepBut.refl w g none)
  have HL := Aside0.mk hB.size
  clear hI
  have HW0 := Aside0.mk hB.size
  have HB := Aside0.mk hB
  clear hB
  have H : ((spec_l01Below.f s0_0 s0_1 s0_2 100000).bind fun bt131 => ((spec_l01Below.f s0_0 bt131.2.1 bt131.2.2 1000).bind fun bt134 => ((spec_l01PickInt.f s0_0 bt134.2.1 bt134.2.2 (([0, 1, 7, 8, 255, 256, 4095, 65535, 65536, 2097151, 2097152, 4294967295, 4294967296, 9007199254740991, 9007199254740992, (-1), bt131.1, bt134.1] : List Int))).bind fun bt140 => (some (bt140.1, bt140.2.1, bt140.2.2))))) = some (r1, r2, r3) := h
  clear h
  replace H := Option.bind_eq_some_iff.mp H
  obtain ⟨⟨t131, t132, t133⟩, A20, H⟩ := H
  replace H : ((spec_l01Below.f s0_0 t132 t133 1000).bind fun bt134 => ((spec_l01PickInt.f s0_0 bt134.2.1 bt134.2.2 (([0, 1, 7, 8, 255, 256, 4095, 65535, 65536, 2097151, 2097152, 4294967295, 4294967296, 9007199254740991, 9007199254740992, (-1), t131, bt134.1] : List Int))).bind fun bt140 => (some (bt140.1, bt140.2.1, bt140.2.2)))) = some (r1, r2, r3) := H
  have A2 := Aside0.mk A20
  clear A20
  replace H := Option.bind_eq_some_iff.mp H
  obtain ⟨⟨t134, t135, t136⟩, A30, H⟩ := H
  replace H : ((spec_l01PickInt.f s0_0 t135 t136 (([0, 1, 7, 8, 255, 256, 4095, 65535, 65536, 2097151, 2097152, 4294967295, 4294967296, 9007199254740991, 9007199254740992, (-1), t131, t134] : List Int))).bind fun bt140 => (some (bt140.1, bt140.2.1, bt140.2.2))) = some (r1, r2, r3) := H
  have A3 := Aside0.mk A30
  clear A30
  obtain ⟨y137, hy137⟩ : ∃ y_ : List Int, y_ = (([0, 1, 7, 8, 255, 256, 4095, 65535, 65536, 2097151, 2097152, 4294967295, 4294967296, 9007199254740991, 9007199254740992, (-1), t131, t134] : List Int)) := ⟨_, rfl⟩
  replace H : ((spec_l01PickInt.f s0_0 t135 t136 y137).bind fun bt140 => (some (bt140.1, bt140.2.1, bt140.2.2))) = some (r1, r2, r3) := by first | (rw [hy137]; with_reducible exact H) | (have H2_ := (Option.bind_some _ _).symm.trans H; rw [hy137]; with_reducible exact H2_) | (have H2_ := (Option.bind_some _ _).symm.trans H; with_reducible exact H2_) | with_reducible exact H | (rw [hy137]; exact H) | exact H
  have Ny137 := Aside0.mk hy137
  clear hy137
  replace H := Option.bind_eq_some_iff.mp H
  obtain ⟨⟨t140, t141, t142⟩, A40, H⟩ := H
  replace H : (some (t140, t141, t142)) = some (r1, r2, r3) := H
  have A4 := Aside0.mk A40
  clear A40
  simp only [Option.some.injEq, Prod.mk.injEq] at H
  obtain ⟨rfl, rfl, rfl⟩ := H
  go_enter Try.func67, Try.ntmps67
  go_wp2_with (first | ((with_reducible refine gate_callee (f := 73) rfl ?_); refine goesL_ (some 5) rfl rfl Try.func73 (by kernel_rfl) rfl #[.pointer (some ⟨g, 0, none⟩), .int .i64 100000] rfl (by (try simp only [List.map_toArray, List.map_cons, List.map_nil]); first | done | rfl | (simp only [List.length_drop, List.length_take]; rfl)) ?_; (with_reducible refine (spec_l01Below.calls g s0_0 s0_1 s0_2 100000 t131 t132 t133 w0 _ ?side1 ?side2 A2.out).mono ?_); (case side1 => repeat (first | (with_reducible first | exact HI0.out | apply IsS73.alloc | apply IsS73.drewN | apply IsS73.drew | apply IsS73.set_1 | apply IsS73.set_2) | exact HI0.out)); (case side2 => repeat (first | (with_reducible first | exact HB.out | apply below_alloc | apply pw_below_drewN | apply below_drew1 | refine below_set ?_ (IsS73.ge HI0.out)) | exact HB.out)); rintro e w5 ⟨rfl, hi, hb, hk⟩; refine ⟨_, rfl, ?_⟩; have n0_ := Aside0.mk (KeepBut.trans (by repeat (first | (with_reducible first | exact HK.out | apply KeepBut.set_ | apply keep_drewN | apply keep_drew | apply keep_alloc) | exact HK.out)) hk (.inl rfl)); have n1_ := Aside0.mk (hb); have n2_ := Aside0.mk (hi); clear HK; clear HB; clear HI0; have HK := n0_; have HB := n1_; have HI0 := n2_; clear n0_ n1_ n2_; (try clear hb); (try clear hb2); (try clear hk); (try clear hi)) | ((with_reducible refine gate_callee (f := 73) rfl ?_); refine goesL_ (some 7) rfl rfl Try.func73 (by kernel_rfl) rfl #[.pointer (some ⟨g, 0, none⟩), .int .i64 1000] rfl (by (try simp only [List.map_toArray, List.map_cons, List.map_nil]); first | done | rfl | (simp only [List.length_drop, List.length_take]; rfl)) ?_; (with_reducible refine (spec_l01Below.calls g s0_0 t132 t133 1000 t134 t135 t136 w0 _ ?side1 ?side2 A3.out).mono ?_); (case side1 => repeat (first | (with_reducible first | exact HI0.out | apply IsS73.alloc | apply IsS73.drewN | apply IsS73.drew | apply IsS73.set_1 | apply IsS73.set_2) | exact HI0.out)); (case side2 => repeat (first | (with_reducible first | exact HB.out | apply below_alloc | apply pw_below_drewN | apply below_drew1 | refine below_set ?_ (IsS73.ge HI0.out)) | exact HB.out)); rintro e w6 ⟨rfl, hi, hb, hk⟩; refine ⟨_, rfl, ?_⟩; have n0_ := Aside0.mk (KeepBut.trans (by repeat (first | (with_reducible first | exact HK.out | apply KeepBut.set_ | apply keep_drewN | apply keep_drew | apply keep_alloc) | exact HK.out)) hk (.inl rfl)); have n1_ := Aside0.mk (hb); have n2_ := Aside0.mk (hi); clear HK; clear HB; clear HI0; have HK := n0_; have HB := n1_; have HI0 := n2_; clear n0_ n1_ n2_; (try clear hb); (try clear hb2); (try clear hk); (try clear hi)) | ((with_reducible refine gate_dst (N := 8) rfl ?_); refine Kd.R_lit (Kd.int .i64) _ 3 ?hg (N := 8) ?hd (xs := ([0, 1, 7, 8, 255, 256, 4095, 65535, 65536, 2097151, 2097152, 4294967295, 4294967296, 9007199254740991, 9007199254740992, (-1), t131, t134] : List Int)) (inner := [.int .i64 0, .int .i64 1, .int .i64 7, .int .i64 8, .int .i64 255, .int .i64 256, .int .i64 4095, .int .i64 65535, .int .i64 65536, .int .i64 2097151, .int .i64 2097152, .int .i64 4294967295, .int .i64 4294967296, .int .i64 9007199254740991, .int .i64 9007199254740992, .int .i64 (-1), .int .i64 t131, .int .i64 t134]) (ok := fun _ => True) (okp := fun _ => True) ?hr ?hp (fun _ hk => hk) trivial (Below.refl _ _) (Nat.le_refl _) (by simp) ?_; (case hd => rfl); (case hg => rfl); (case hr => first | (go_simp; done) | (go_simp; rfl)); (case hp => exact (Reps.one (show Kd.M (Kd.int .i64) _ _ _ 0 [.int .i64 0] from rfl) (Reps.one (show Kd.M (Kd.int .i64) _ _ _ 1 [.int .i64 1] from rfl) (Reps.one (show Kd.M (Kd.int .i64) _ _ _ 7 [.int .i64 7] from rfl) (Reps.one (show Kd.M (Kd.int .i64) _ _ _ 8 [.int .i64 8] from rfl) (Reps.one (show Kd.M (Kd.int .i64) _ _ _ 255 [.int .i64 255] from rfl) (Reps.one (show Kd.M (Kd.int .i64) _ _ _ 256 [.int .i64 256] from rfl) (Reps.one (show Kd.M (Kd.int .i64) _ _ _ 4095 [.int .i64 4095] from rfl) (Reps.one (show Kd.M (Kd.int .i64) _ _ _ 65535 [.int .i64 65535] from rfl) (Reps.one (show Kd.M (Kd.int .i64) _ _ _ 65536 [.int .i64 65536] from rfl) (Reps.one (show Kd.M (Kd.int .i64) _ _ _ 2097151 [.int .i64 2097151] from rfl) (Reps.one (show Kd.M (Kd.int .i64) _ _ _ 2097152 [.int .i64 2097152] from rfl) (Reps.one (show Kd.M (Kd.int .i64) _ _ _ 4294967295 [.int .i64 4294967295] from rfl) (Reps.one (show Kd.M (Kd.int .i64) _ _ _ 4294967296 [.int .i64 4294967296] from rfl) (Reps.one (show Kd.M (Kd.int .i64) _ _ _ 9007199254740991 [.int .i64 9007199254740991] from rfl) (Reps.one (show Kd.M (Kd.int .i64) _ _ _ 9007199254740992 [.int .i64 9007199254740992] from rfl) (Reps.one (show Kd.M (Kd.int .i64) _ _ _ (-1) [.int .i64 (-1)] from rfl) (Reps.one (show Kd.M (Kd.int .i64) _ _ _ t131 [.int .i64 t131] from rfl) (Reps.one (show Kd.M (Kd.int .i64) _ _ _ t134 [.int .i64 t134] from rfl) (Reps.none _ _)))))))))))))))))))); intro v138 w7 ho8 hb hg_ hnew_; clear hg_ hnew_; (first | rw [← Ny137.out] at ho8 | (simp only [Int.reduceToNat] at ho8; rw [← Ny137.out] at ho8)); have n0_ := Aside0.mk (Kd.R_lower ho8 (keep_size (w := w) (g := g) (row := none) (by repeat (first | (with_reducible first | exact HK.out | apply KeepBut.set_ | apply keep_drewN | apply keep_drew | apply keep_alloc) | exact HK.out)))); have n1_ := Aside0.mk (IsS73.below (by repeat (first | (with_reducible first | exact HI0.out | apply IsS73.alloc | apply IsS73.drewN | apply IsS73.drew | apply IsS73.set_1 | apply IsS73.set_2) | exact HI0.out)) hb); have n2_ := Aside0.mk (KeepBut.trans (by repeat (first | (with_reducible first | exact HK.out | apply KeepBut.set_ | apply keep_drewN | apply keep_drew | apply keep_alloc) | exact HK.out)) (KeepBut.of_below hb g none) (.inl rfl)); have n3_ := Aside0.mk (below_step (by repeat (first | (with_reducible first | exact HB.out | apply below_alloc | apply pw_below_drewN | apply below_drew1 | refine below_set ?_ (IsS73.ge HI0.out)) | exact HB.out)) hb); clear HI0; clear HK; clear HB; have HO139 := n0_; have HI0 := n1_; have HK := n2_; have HB := n3_; clear n0_ n1_ n2_ n3_; clear hb ho8; obtain ⟨Ao9, co9, eo9⟩ := Kd.R_slice HO139.out; subst eo9) | ((with_reducible refine gate_callee (f := 69) rfl ?_); refine goesL_ (some 9) rfl rfl Try.func69 (by kernel_rfl) rfl #[.pointer (some ⟨g, 0, none⟩), .slice Ao9 y137.length co9] rfl (by (try simp only [List.map_toArray, List.map_cons, List.map_nil]); first | done | rfl | (simp only [List.length_drop, List.length_take]; rfl)) ?_; (with_reducible refine (spec_l01PickInt.calls g s0_0 t135 t136 _ _ y137 t140 t141 t142 w0 _ ?side1 ?side2 ?side3 ?side4 ?side5 A4.out).mono ?_); (case side1 => repeat (first | (with_reducible first | exact HI0.out | apply IsS73.alloc | apply IsS73.drewN | apply IsS73.drew | apply IsS73.set_1 | apply IsS73.set_2) | exact HI0.out)); (case side2 => repeat (first | (with_reducible first | exact HB.out | apply below_alloc | apply pw_below_drewN | apply below_drew1 | refine below_set ?_ (IsS73.ge HI0.out)) | exact HB.out)); (case side3 => repeat (first | exact (Kd.R_reads' HO139.out).2.2 | (with_reducible refine Kd.C_alloc ?_ _) | (with_reducible refine Kd.C_drewN ?_ _) | (with_reducible refine Kd.C_drew ?_))); (case side4 => exact (Kd.R_reads' HO139.out).2.1); (case side5 => exact far_slice (IsS73.own_ne HI0.out HO139.out (by decide))); rintro e w10 ⟨rfl, hi, hb, hk⟩; refine ⟨_, rfl, ?_⟩; have n0_ := Aside0.mk (Kd.R_mono (Kd.R_keep (IsS73.apart (show IsS73 w0 _ g s0_0 t135 t136 from by repeat (first | (with_reducible first | exact HI0.out | apply IsS73.alloc | apply IsS73.drewN | apply IsS73.drew | apply IsS73.set_1 | apply IsS73.set_2) | exact HI0.out)) (by (with_reducible repeat (first | apply Kd.R_alloc | apply Kd.R_drewN | apply Kd.R_drew)); exact HO139.out) (by decide)) hk (fun _ h => h.2)) (fun _ h => h.1)); have n1_ := Aside0.mk (KeepBut.trans (by repeat (first | (with_reducible first | exact HK.out | apply KeepBut.set_ | apply keep_drewN | apply keep_drew | apply keep_alloc) | exact HK.out)) hk (.inl rfl)); have n2_ := Aside0.mk (hb); have n3_ := Aside0.mk (hi); clear HO139; clear HK; clear HB; clear HI0; have HO139 := n0_; have HK := n1_; have HB := n2_; have HI0 := n3_; clear n0_ n1_ n2_ n3_; (try clear hb); (try clear hb2); (try clear hk); (try clear hi)))
  go_ret
  exact ⟨by first | rfl | (simp [errW_none, errW_some] <;> rfl) | (simp [*, errW_none, errW_some] <;> rfl), by repeat (first | (with_reducible first | exact HI0.out | apply IsS73.alloc | apply IsS73.drewN | apply IsS73.drew | apply IsS73.set_1 | apply IsS73.set_2) | exact HI0.out), by repeat (first | (with_reducible first | exact HB.out | apply below_alloc | apply pw_below_drewN | apply below_drew1 | refine below_set ?_ (IsS73.ge HI0.out)) | exact HB.out), by repeat (first | (with_reducible first | exact HK.out | apply KeepBut.set_ | apply keep_drewN | apply keep_drew | apply keep_alloc) | exact HK.out)⟩

/-! ### spec_l01Once: function 68 -/
def spec_l01Once.f (s0_0 : List Int) (s0_1 : Int) (s0_2 : Int) (a1 : Int) : Option (Bool × Int × Int) := (spec_l01Below.f s0_0 s0_1 s0_2 a1).bind fun bt143 => (some ((bt143.1 == 0), bt143.2.1, bt143.2.2))
set_option maxHeartbeats 8000000 in
set_option maxRecDepth 100000 in
theorem spec_l01Once.calls (g : Nat) (s0_0 : List Int) (s0_1 : Int) (s0_2 : Int) (a1 : Int) (r1 : Bool) (r2 : Int) (r3 : Int) (w0 w : World) (hI : IsS73 w0 w g s0_0 s0_1 s0_2) (hB : Below w0.heap.size w0 w) (h : spec_l01Once.f s0_0 s0_1 s0_2 a1 = some (r1, r2, r3)) :
    Calls Try.prog 68 #[.pointer (some ⟨g, 0, none⟩), .int .i64 a1] w fun e w' => e = .returned (.bool r1) ∧ IsS73 w0 w' g s0_0 r2 r3 ∧ Below w0.heap.size w0 w' ∧ KeepBut w w' g none := by
  have HI0 := Aside0.mk hI
  have HK := Aside0.mk (KeepBut.refl w g none)
  have HL := Aside0.mk hB.size
  clear hI
  have HW0 := Aside0.mk hB.size
  have HB := Aside0.mk hB
  clear hB
  have H : ((spec_l01Below.f s0_0 s0_1 s0_2 a1).bind fun bt143 => (some ((bt143.1 == 0), bt143.2.1, bt143.2.2))) = some (r1, r2, r3) := h
  clear h
  replace H := Option.bind_eq_some_iff.mp H
  obtain ⟨⟨t143, t144, t145⟩, A30, H⟩ := H
  replace H : (some ((t143 == 0), t144, t145)) = some (r1, r2, r3) := H
  have A3 := Aside0.mk A30
  clear A30
  simp only [Option.some.injEq, Prod.mk.injEq] at H
  obtain ⟨rfl, rfl, rfl⟩ := H
  go_enter Try.func68, Try.ntmps68
  go_wp2_with (first | ((with_reducible refine gate_callee (f := 73) rfl ?_); refine goesL_ (some 7) rfl rfl Try.func73 (by kernel_rfl) rfl #[.pointer (some ⟨g, 0, none⟩), .int .i64 a1] rfl (by (try simp only [List.map_toArray, List.map_cons, List.map_nil]); first | done | rfl | (simp only [List.length_drop, List.length_take]; rfl)) ?_; (with_reducible refine (spec_l01Below.calls g s0_0 s0_1 s0_2 a1 t143 t144 t145 w0 _ ?side1 ?side2 A3.out).mono ?_); (case side1 => repeat (first | (with_reducible first | exact HI0.out | apply IsS73.alloc | apply IsS73.drewN | apply IsS73.drew | apply IsS73.set_1 | apply IsS73.set_2) | exact HI0.out)); (case side2 => repeat (first | (with_reducible first | exact HB.out | apply below_alloc | apply pw_below_drewN | apply below_drew1 | refine below_set ?_ (IsS73.ge HI0.out)) | exact HB.out)); rintro e w4 ⟨rfl, hi, hb, hk⟩; refine ⟨_, rfl, ?_⟩; have n0_ := Aside0.mk (KeepBut.trans (by repeat (first | (with_reducible first | exact HK.out | apply KeepBut.set_ | apply keep_drewN | apply keep_drew | apply keep_alloc) | exact HK.out)) hk (.inl rfl)); have n1_ := Aside0.mk (hb); have n2_ := Aside0.mk (hi); clear HK; clear HB; clear HI0; have HK := n0_; have HB := n1_; have HI0 := n2_; clear n0_ n1_ n2_; (try clear hb); (try clear hb2); (try clear hk); (try clear hi)))
  go_ret
  exact ⟨by first | rfl | (simp [errW_none, errW_some] <;> rfl) | (simp [*, errW_none, errW_some] <;> rfl), by repeat (first | (with_reducible first | exact HI0.out | apply IsS73.alloc | apply IsS73.drewN | apply IsS73.drew | apply IsS73.set_1 | apply IsS73.set_2) | exact HI0.out), by repeat (first | (with_reducible first | exact HB.out | apply below_alloc | apply pw_below_drewN | apply below_drew1 | refine below_set ?_ (IsS73.ge HI0.out)) | exact HB.out), by repeat (first | (with_reducible first | exact HK.out | apply KeepBut.set_ | apply keep_drewN | apply keep_drew | apply keep_alloc) | exact HK.out)⟩

/-! ### spec_DrawPut16: function 36 -/
def spec_DrawPut16.f (k : Nat) (l0 : List Int) : Option (Int × Bool) := (spec_l01New.f k l0).bind fun bt146 => ((spec_l01Num.f bt146.1 bt146.2.1 bt146.2.2).bind fun bt150 => ((spec_l01Once.f bt146.1 bt150.2.1 bt150.2.2 2).bind fun bt153 => (some (bt150.1, bt153.1))))
theorem spec_DrawPut16.mono : ∀ a0 k, LeO (spec_DrawPut16.f k a0) (spec_DrawPut16.f (k + 1) a0) := by
  intro a0 k
  unfold spec_DrawPut16.f
  repeat' first
      | (with_reducible exact spec_l01New.mono _ _)
      | (with_reducible exact LeO.refl _)
      | (with_reducible exact LeO.none _)
      | (with_reducible refine LeO.ite ?_ ?_)
      | (with_reducible refine LeO.bind ?_ (fun _ => ?_))
      | exact spec_l01New.mono _ _
      | exact LeO.none _
      | refine LeO.ite ?_ ?_
      | refine LeO.bind ?_ (fun _ => ?_)
set_option maxHeartbeats 8000000 in
set_option maxRecDepth 100000 in
theorem spec_DrawPut16.calls (k : Nat) (A0 : Option Addr) (c0 : Nat) (l0 : List Int) (r1 : Int) (r2 : Bool) (w : World) (hr0 : Kd.C (Kd.int .u8) w A0 l0.length l0) (hc0 : l0.length ≤ c0) (h : spec_DrawPut16.f k l0 = some (r1, r2)) :
    Calls Try.prog 36 #[.slice A0 l0.length c0] w fun e w' => e = .returned (.tuple #[.int .i64 r1, .bool r2]) ∧ Below w.heap.size w w' := by
  have HR0 := Aside0.mk hr0
  have HC0 := Aside0.mk hc0
  clear hr0 hc0
  have HB := Aside0.mk (Below.refl w.heap.size w)
  have H : ((spec_l01New.f k l0).bind fun bt146 => ((spec_l01Num.f bt146.1 bt146.2.1 bt146.2.2).bind fun bt150 => ((spec_l01Once.f bt146.1 bt150.2.1 bt150.2.2 2).bind fun bt153 => (some (bt150.1, bt153.1))))) = some (r1, r2) := h
  clear h
  replace H := Option.bind_eq_some_iff.mp H
  obtain ⟨⟨t146, t147, t148⟩, A20, H⟩ := H
  replace H : ((spec_l01Num.f t146 t147 t148).bind fun bt150 => ((spec_l01Once.f t146 bt150.2.1 bt150.2.2 2).bind fun bt153 => (some (bt150.1, bt153.1)))) = some (r1, r2) := H
  have A2 := Aside0.mk A20
  clear A20
  replace H := Option.bind_eq_some_iff.mp H
  obtain ⟨⟨t150, t151, t152⟩, A30, H⟩ := H
  replace H : ((spec_l01Once.f t146 t151 t152 2).bind fun bt153 => (some (t150, bt153.1))) = some (r1, r2) := H
  have A3 := Aside0.mk A30
  clear A30
  replace H := Option.bind_eq_some_iff.mp H
  obtain ⟨⟨t153, t154, t155⟩, A40, H⟩ := H
  replace H : (some (t150, t153)) = some (r1, r2) := H
  have A4 := Aside0.mk A40
  clear A40
  simp only [Option.some.injEq, Prod.mk.injEq] at H
  obtain ⟨rfl, rfl⟩ := H
  go_enter Try.func36, Try.ntmps36
  go_wp2_with (first | ((with_reducible refine gate_callee (f := 66) rfl ?_); refine goesL_ (some 7) rfl rfl Try.func66 (by kernel_rfl) rfl #[.slice A0 l0.length c0] rfl (by (try simp only [List.map_toArray, List.map_cons, List.map_nil]); first | done | rfl | (simp only [List.length_drop, List.length_take]; rfl)) ?_; (with_reducible refine (spec_l01New.calls k _ _ l0 t146 t147 t148 w _ ?side1 ?side2 ?side3 A2.out).mono ?_); (case side1 => repeat (first | (with_reducible first | exact HB.out | apply below_alloc | apply pw_below_drewN | apply below_drew1) | exact HB.out)); (case side2 => exact HR0.out); (case side3 => exact HC0.out); rintro e w5 ⟨g149, rfl, hi, hb, hb2⟩; refine ⟨_, rfl, ?_⟩; have n0_ := Aside0.mk (hb); have n1_ := Aside0.mk (hi); clear HB; have HB := n0_; have HI149 := n1_; clear n0_ n1_; (try clear hb); (try clear hb2); (try clear hk); (try clear hi)) | ((with_reducible refine gate_callee (f := 67) rfl ?_); refine goesL_ (some 9) rfl rfl Try.func67 (by kernel_rfl) rfl #[.pointer (some ⟨g149, 0, none⟩)] rfl (by (try simp only [List.map_toArray, List.map_cons, List.map_nil]); first | done | rfl | (simp only [List.length_drop, List.length_take]; rfl)) ?_; (with_reducible refine (spec_l01Num.calls g149 t146 t147 t148 t150 t151 t152 w _ ?side1 ?side2 A3.out).mono ?_); (case side1 => repeat (first | (with_reducible first | exact HI149.out | apply IsS73.alloc | apply IsS73.drewN | apply IsS73.drew | apply IsS73.set_1 | apply IsS73.set_2) | exact HI149.out)); (case side2 => repeat (first | (with_reducible first | exact HB.out | apply below_alloc | apply pw_below_drewN | apply below_drew1 | refine below_set ?_ (IsS73.ge HI149.out)) | exact HB.out)); rintro e w6 ⟨rfl, hi, hb, hk⟩; refine ⟨_, rfl, ?_⟩; have n0_ := Aside0.mk (hb); have n1_ := Aside0.mk (hi); clear HB; clear HI149; have HB := n0_; have HI149 := n1_; clear n0_ n1_; (try clear hb); (try clear hb2); (try clear hk); (try clear hi)) | ((with_reducible refine gate_callee (f := 68) rfl ?_); refine goesL_ (some 12) rfl rfl Try.func68 (by kernel_rfl) rfl #[.pointer (some ⟨g149, 0, none⟩), .int .i64 2] rfl (by (try simp only [List.map_toArray, List.map_cons, List.map_nil]); first | done | rfl | (simp only [List.length_drop, List.length_take]; rfl)) ?_; (with_reducible refine (spec_l01Once.calls g149 t146 t151 t152 2 t153 t154 t155 w _ ?side1 ?side2 A4.out).mono ?_); (case side1 => repeat (first | (with_reducible first | exact HI149.out | apply IsS73.alloc | apply IsS73.drewN | apply IsS73.drew | apply IsS73.set_1 | apply IsS73.set_2) | exact HI149.out)); (case side2 => repeat (first | (with_reducible first | exact HB.out | apply below_alloc | apply pw_below_drewN | apply below_drew1 | refine below_set ?_ (IsS73.ge HI149.out)) | exact HB.out)); rintro e w7 ⟨rfl, hi, hb, hk⟩; refine ⟨_, rfl, ?_⟩; have n0_ := Aside0.mk (hb); have n1_ := Aside0.mk (hi); clear HB; clear HI149; have HB := n0_; have HI149 := n1_; clear n0_ n1_; (try clear hb); (try clear hb2); (try clear hk); (try clear hi)))
  go_ret2
  exact ⟨by first | rfl | (simp [errW_none, errW_some] <;> rfl) | (simp [*, errW_none, errW_some] <;> rfl), by repeat (first | (with_reducible first | exact HB.out | apply below_alloc | apply pw_below_drewN | apply below_drew1 | refine below_set ?_ (IsS73.ge HI149.out)) | exact HB.out)⟩

/-! ### spec_DrawPut32: function 37 -/
def spec_DrawPut32.f (k : Nat) (l0 : List Int) : Option (Int × Bool) := (spec_l01New.f k l0).bind fun bt156 => ((spec_l01Num.f bt156.1 bt156.2.1 bt156.2.2).bind fun bt160 => ((spec_l01Once.f bt156.1 bt160.2.1 bt160.2.2 2).bind fun bt163 => (some (bt160.1, bt163.1))))
theorem spec_DrawPut32.mono : ∀ a0 k, LeO (spec_DrawPut32.f k a0) (spec_DrawPut32.f (k + 1) a0) := by
  intro a0 k
  unfold spec_DrawPut32.f
  repeat' first
      | (with_reducible exact spec_l01New.mono _ _)
      | (with_reducible exact LeO.refl _)
      | (with_reducible exact LeO.none _)
      | (with_reducible refine LeO.ite ?_ ?_)
      | (with_reducible refine LeO.bind ?_ (fun _ => ?_))
      | exact spec_l01New.mono _ _
      | exact LeO.none _
      | refine LeO.ite ?_ ?_
      | refine LeO.bind ?_ (fun _ => ?_)
set_option maxHeartbeats 8000000 in
set_option maxRecDepth 100000 in
theorem spec_DrawPut32.calls (k : Nat) (A0 : Option Addr) (c0 : Nat) (l0 : List Int) (r1 : Int) (r2 : Bool) (w : World) (hr0 : Kd.C (Kd.int .u8) w A0 l0.length l0) (hc0 : l0.length ≤ c0) (h : spec_DrawPut32.f k l0 = some (r1, r2)) :
    Calls Try.prog 37 #[.slice A0 l0.length c0] w fun e w' => e = .returned (.tuple #[.int .i64 r1, .bool r2]) ∧ Below w.heap.size w w' := by
  have HR0 := Aside0.mk hr0
  have HC0 := Aside0.mk hc0
  clear hr0 hc0
  have HB := Aside0.mk (Below.refl w.heap.size w)
  have H : ((spec_l01New.f k l0).bind fun bt156 => ((spec_l01Num.f bt156.1 bt156.2.1 bt156.2.2).bind fun bt160 => ((spec_l01Once.f bt156.1 bt160.2.1 bt160.2.2 2).bind fun bt163 => (some (bt160.1, bt163.1))))) = some (r1, r2) := h
  clear h
  replace H := Option.bind_eq_some_iff.mp H
  obtain ⟨⟨t156, t157, t158⟩, A20, H⟩ := H
  replace H : ((spec_l01Num.f t156 t157 t158).bind fun bt160 => ((spec_l01Once.f t156 bt160.2.1 bt160.2.2 2).bind fun bt163 => (some (bt160.1, bt163.1)))) = some (r1, r2) := H
  have A2 := Aside0.mk A20
  clear A20
  replace H := Option.bind_eq_some_iff.mp H
  obtain ⟨⟨t160, t161, t162⟩, A30, H⟩ := H
  replace H : ((spec_l01Once.f t156 t161 t162 2).bind fun bt163 => (some (t160, bt163.1))) = some (r1, r2) := H
  have A3 := Aside0.mk A30
  clear A30
  replace H := Option.bind_eq_some_iff.mp H
  obtain ⟨⟨t163, t164, t165⟩, A40, H⟩ := H
  replace H : (some (t160, t163)) = some (r1, r2) := H
  have A4 := Aside0.mk A40
  clear A40
  simp only [Option.some.injEq, Prod.mk.injEq] at H
  obtain ⟨rfl, rfl⟩ := H
  go_enter Try.func37, Try.ntmps37
  go_wp2_with (first | ((with_reducible refine gate_callee (f := 66) rfl ?_); refine goesL_ (some 7) rfl rfl Try.func66 (by kernel_rfl) rfl #[.slice A0 l0.length c0] rfl (by (try simp only [List.map_toArray, List.map_cons, List.map_nil]); first | done | rfl | (simp only [List.length_drop, List.length_take]; rfl)) ?_; (with_reducible refine (spec_l01New.calls k _ _ l0 t156 t157 t158 w _ ?side1 ?side2 ?side3 A2.out).mono ?_); (case side1 => repeat (first | (with_reducible first | exact HB.out | apply below_alloc | apply pw_below_drewN | apply below_drew1) | exact HB.out)); (case side2 => exact HR0.out); (case side3 => exact HC0.out); rintro e w5 ⟨g159, rfl, hi, hb, hb2⟩; refine ⟨_, rfl, ?_⟩; have n0_ := Aside0.mk (hb); have n1_ := Aside0.mk (hi); clear HB; have HB := n0_; have HI159 := n1_; clear n0_ n1_; (try clear hb); (try clear hb2); (try clear hk); (try clear hi)) | ((with_reducible refine gate_callee (f := 67) rfl ?_); refine goesL_ (some 9) rfl rfl Try.func67 (by kernel_rfl) rfl #[.pointer (some ⟨g159, 0, none⟩)] rfl (by (try simp only [List.map_toArray, List.map_cons, List.map_nil]); first | done | rfl | (simp only [List.length_drop, List.length_take]; rfl)) ?_; (with_reducible refine (spec_l01Num.calls g159 t156 t157 t158 t160 t161 t162 w _ ?side1 ?side2 A3.out).mono ?_); (case side1 => repeat (first | (with_reducible first | exact HI159.out | apply IsS73.alloc | apply IsS73.drewN | apply IsS73.drew | apply IsS73.set_1 | apply IsS73.set_2) | exact HI159.out)); (case side2 => repeat (first | (with_reducible first | exact HB.out | apply below_alloc | apply pw_below_drewN | apply below_drew1 | refine below_set ?_ (IsS73.ge HI159.out)) | exact HB.out)); rintro e w6 ⟨rfl, hi, hb, hk⟩; refine ⟨_, rfl, ?_⟩; have n0_ := Aside0.mk (hb); have n1_ := Aside0.mk (hi); clear HB; clear HI159; have HB := n0_; have HI159 := n1_; clear n0_ n1_; (try clear hb); (try clear hb2); (try clear hk); (try clear hi)) | ((with_reducible refine gate_callee (f := 68) rfl ?_); refine goesL_ (some 12) rfl rfl Try.func68 (by kernel_rfl) rfl #[.pointer (some ⟨g159, 0, none⟩), .int .i64 2] rfl (by (try simp only [List.map_toArray, List.map_cons, List.map_nil]); first | done | rfl | (simp only [List.length_drop, List.length_take]; rfl)) ?_; (with_reducible refine (spec_l01Once.calls g159 t156 t161 t162 2 t163 t164 t165 w _ ?side1 ?side2 A4.out).mono ?_); (case side1 => repeat (first | (with_reducible first | exact HI159.out | apply IsS73.alloc | apply IsS73.drewN | apply IsS73.drew | apply IsS73.set_1 | apply IsS73.set_2) | exact HI159.out)); (case side2 => repeat (first | (with_reducible first | exact HB.out | apply below_alloc | apply pw_below_drewN | apply below_drew1 | refine below_set ?_ (IsS73.ge HI159.out)) | exact HB.out)); rintro e w7 ⟨rfl, hi, hb, hk⟩; refine ⟨_, rfl, ?_⟩; have n0_ := Aside0.mk (hb); have n1_ := Aside0.mk (hi); clear HB; clear HI159; have HB := n0_; have HI159 := n1_; clear n0_ n1_; (try clear hb); (try clear hb2); (try clear hk); (try clear hi)))
  go_ret2
  exact ⟨by first | rfl | (simp [errW_none, errW_some] <;> rfl) | (simp [*, errW_none, errW_some] <;> rfl), by repeat (first | (with_reducible first | exact HB.out | apply below_alloc | apply pw_below_drewN | apply below_drew1 | refine below_set ?_ (IsS73.ge HI159.out)) | exact HB.out)⟩

/-! ### spec_Put16: function 42 -/
def spec_Put16.f (a0 : Int) (a1 : Bool) : Option (ByteArray) := if a1 = true then (some (strOfNums (([(wrap64 (Int.tdiv (Go.bits .and .i64 a0 65535) 256)) % 256, (Int.tmod (Go.bits .and .i64 a0 65535) 256) % 256] : List Int)))) else (some (strOfNums (([(Int.tmod (Go.bits .and .i64 a0 65535) 256) % 256, (wrap64 (Int.tdiv (Go.bits .and .i64 a0 65535) 256)) % 256] : List Int))))
set_option maxHeartbeats 8000000 in
set_option maxRecDepth 100000 in
theorem spec_Put16.calls (a0 : Int) (a1 : Bool) (r : ByteArray) (w : World) (h : spec_Put16.f a0 a1 = some r) :
    Calls Try.prog 42 #[.int .i64 a0, .bool a1] w fun e w' => e = .returned (.string r) ∧ Below w.heap.size w w' := by
  have HB := Aside0.mk (Below.refl w.heap.size w)
  have H : (if a1 = true then (some (strOfNums (([(wrap64 (Int.tdiv (Go.bits .and .i64 a0 65535) 256)) % 256, (Int.tmod (Go.bits .and .i64 a0 65535) 256) % 256] : List Int)))) else (some (strOfNums (([(Int.tmod (Go.bits .and .i64 a0 65535) 256) % 256, (wrap64 (Int.tdiv (Go.bits .and .i64 a0 65535) 256)) % 256] : List Int))))) = some r := h
  clear h
  by_cases c3 : a1 = true
  · subst c3
    have H1 : (some (strOfNums (([(wrap64 (Int.tdiv (Go.bits .and .i64 a0 65535) 256)) % 256, (Int.tmod (Go.bits .and .i64 a0 65535) 256) % 256] : List Int)))) = some r := by rw [if_pos rfl] at H; exact H
    clear H
    have H := H1
    clear H1
    obtain ⟨y166, hy166⟩ : ∃ y_ : List Int, y_ = (([(wrap64 (Int.tdiv (Go.bits .and .i64 a0 65535) 256)) % 256, (Int.tmod (Go.bits .and .i64 a0 65535) 256) % 256] : List Int)) := ⟨_, rfl⟩
    replace H : (some (strOfNums y166)) = some r := by first | (rw [hy166]; with_reducible exact H) | (have H2_ := (Option.bind_some _ _).symm.trans H; rw [hy166]; with_reducible exact H2_) | (have H2_ := (Option.bind_some _ _).symm.trans H; with_reducible exact H2_) | with_reducible exact H | (rw [hy166]; exact H) | exact H
    have Ny166 := Aside0.mk hy166
    clear hy166
    obtain rfl := Option.some.inj H
    go_enter Try.func42, Try.ntmps42
    go_wp2_with (first | ((with_reducible refine gate_dst (N := 19) rfl ?_); refine Kd.R_lit (Kd.int .u8) _ 5 ?hg (N := 19) ?hd (xs := ([(wrap64 (Int.tdiv (Go.bits .and .i64 a0 65535) 256)) % 256, (Int.tmod (Go.bits .and .i64 a0 65535) 256) % 256] : List Int)) (inner := [.int .u8 ((wrap64 (Int.tdiv (Go.bits .and .i64 a0 65535) 256)) % 256), .int .u8 ((Int.tmod (Go.bits .and .i64 a0 65535) 256) % 256)]) (ok := fun _ => True) (okp := fun _ => True) ?hr ?hp (fun _ hk => hk) trivial (Below.refl _ _) (Nat.le_refl _) (by simp) ?_; (case hd => rfl); (case hg => rfl); (case hr => first | (go_simp; done) | (go_simp; rfl)); (case hp => exact (Reps.one (show Kd.M (Kd.int .u8) _ _ _ ((wrap64 (Int.tdiv (Go.bits .and .i64 a0 65535) 256)) % 256) [.int .u8 ((wrap64 (Int.tdiv (Go.bits .and .i64 a0 65535) 256)) % 256)] from rfl) (Reps.one (show Kd.M (Kd.int .u8) _ _ _ ((Int.tmod (Go.bits .and .i64 a0 65535) 256) % 256) [.int .u8 ((Int.tmod (Go.bits .and .i64 a0 65535) 256) % 256)] from rfl) (Reps.none _ _)))); intro v167 w4 ho5 hb hg_ hnew_; clear hg_ hnew_; (first | rw [← Ny166.out] at ho5 | (simp only [Int.reduceToNat] at ho5; rw [← Ny166.out] at ho5)); have n0_ := Aside0.mk (Kd.R_lower ho5 (below_size (by repeat (first | (with_reducible first | exact HB.out | apply below_alloc | apply pw_below_drewN | apply below_drew1) | exact HB.out)))); have n1_ := Aside0.mk (below_step (by repeat (first | (with_reducible first | exact HB.out | apply below_alloc | apply pw_below_drewN | apply below_drew1) | exact HB.out)) hb); clear HB; have HO168 := n0_; have HB := n1_; clear n0_ n1_; clear hb ho5; have hcv6 := own_string (P := Try.prog) Try.underlying40 Try.underlying5 Try.underlying9 (Kd.own_of_R HO168.out)))
    go_ret
    exact ⟨by first | rfl | (simp [errW_none, errW_some] <;> rfl) | (simp [*, errW_none, errW_some] <;> rfl), by repeat (first | (with_reducible first | exact HB.out | apply below_alloc | apply pw_below_drewN | apply below_drew1) | exact HB.out)⟩
  · replace c3 := Bool.eq_false_iff.mpr c3
    subst c3
    have H1 : (some (strOfNums (([(Int.tmod (Go.bits .and .i64 a0 65535) 256) % 256, (wrap64 (Int.tdiv (Go.bits .and .i64 a0 65535) 256)) % 256] : List Int)))) = some r := by rw [if_neg (show ¬ (false = true) by decide)] at H; exact H
    clear H
    have H := H1
    clear H1
    obtain ⟨y169, hy169⟩ : ∃ y_ : List Int, y_ = (([(Int.tmod (Go.bits .and .i64 a0 65535) 256) % 256, (wrap64 (Int.tdiv (Go.bits .and .i64 a0 65535) 256)) % 256] : List Int)) := ⟨_, rfl⟩
    replace H : (some (strOfNums y169)) = some r := by first | (rw [hy169]; with_reducible exact H) | (have H2_ := (Option.bind_some _ _).symm.trans H; rw [hy169]; with_reducible exact H2_) | (have H2_ := (Option.bind_some _ _).symm.trans H; with_reducible exact H2_) | with_reducible exact H | (rw [hy169]; exact H) | exact H
    have Ny169 := Aside0.mk hy169
    clear hy169
    obtain rfl := Option.some.inj H
    go_enter Try.func42, Try.ntmps42
    go_wp2_with (first | ((with_reducible refine gate_dst (N := 23) rfl ?_); refine Kd.R_lit (Kd.int .u8) _ 5 ?hg (N := 23) ?hd (xs := ([(Int.tmod (Go.bits .and .i64 a0 65535) 256) % 256, (wrap64 (Int.tdiv (Go.bits .and .i64 a0 65535) 256)) % 256] : List Int)) (inner := [.int .u8 ((Int.tmod (Go.bits .and .i64 a0 65535) 256) % 256), .int .u8 ((wrap64 (Int.tdiv (Go.bits .and .i64 a0 65535) 256)) % 256)]) (ok := fun _ => True) (okp := fun _ => True) ?hr ?hp (fun _ hk => hk) trivial (Below.refl _ _) (Nat.le_refl _) (by simp) ?_; (case hd => rfl); (case hg => rfl); (case hr => first | (go_simp; done) | (go_simp; rfl)); (case hp => exact (Reps.one (show Kd.M (Kd.int .u8) _ _ _ ((Int.tmod (Go.bits .and .i64 a0 65535) 256) % 256) [.int .u8 ((Int.tmod (Go.bits .and .i64 a0 65535) 256) % 256)] from rfl) (Reps.one (show Kd.M (Kd.int .u8) _ _ _ ((wrap64 (Int.tdiv (Go.bits .and .i64 a0 65535) 256)) % 256) [.int .u8 ((wrap64 (Int.tdiv (Go.bits .and .i64 a0 65535) 256)) % 256)] from rfl) (Reps.none _ _)))); intro v170 w7 ho8 hb hg_ hnew_; clear hg_ hnew_; (first | rw [← Ny169.out] at ho8 | (simp only [Int.reduceToNat] at ho8; rw [← Ny169.out] at ho8)); have n0_ := Aside0.mk (Kd.R_lower ho8 (below_size (by repeat (first | (with_reducible first | exact HB.out | apply below_alloc | apply pw_below_drewN | apply below_drew1) | exact HB.out)))); have n1_ := Aside0.mk (below_step (by repeat (first | (with_reducible first | exact HB.out | apply below_alloc | apply pw_below_drewN | apply below_drew1) | exact HB.out)) hb); clear HB; have HO171 := n0_; have HB := n1_; clear n0_ n1_; clear hb ho8; have hcv9 := own_string (P := Try.prog) Try.underlying40 Try.underlying5 Try.underlying9 (Kd.own_of_R HO171.out)))
    go_ret
    exact ⟨by first | rfl | (simp [errW_none, errW_some] <;> rfl) | (simp [*, errW_none, errW_some] <;> rfl), by repeat (first | (with_reducible first | exact HB.out | apply below_alloc | apply pw_below_drewN | apply below_drew1) | exact HB.out)⟩

/-! ### spec_DrawGet16: function 38 -/
def spec_DrawGet16.f (k : Nat) (l0 : List Int) : Option (ByteArray × Int × Bool) := (spec_l01New.f k l0).bind fun bt172 => ((spec_l01Num.f bt172.1 bt172.2.1 bt172.2.2).bind fun bt176 => ((spec_l01Once.f bt172.1 bt176.2.1 bt176.2.2 2).bind fun bt179 => ((spec_Put16.f bt176.1 bt179.1).bind fun t182 => (if t182.size + 2 ≤ 9223372036854775807 then ((spec_l01PickInt.f bt172.1 bt179.2.1 bt179.2.2 (([0, 1, 2, 3, (-1), 9223372036854775807] : List Int))).bind fun bt186 => ((spec_l01Once.f bt172.1 bt186.2.1 bt186.2.2 2).bind fun bt189 => (some (t182 ++ (⟨#[97, 98]⟩ : ByteArray), bt186.1, bt189.1)))) else (none)))))
theorem spec_DrawGet16.mono : ∀ a0 k, LeO (spec_DrawGet16.f k a0) (spec_DrawGet16.f (k + 1) a0) := by
  intro a0 k
  unfold spec_DrawGet16.f
  repeat' first
      | (with_reducible exact spec_l01New.mono _ _)
      | (with_reducible exact LeO.refl _)
      | (with_reducible exact LeO.none _)
      | (with_reducible refine LeO.ite ?_ ?_)
      | (with_reducible refine LeO.bind ?_ (fun _ => ?_))
      | exact spec_l01New.mono _ _
      | exact LeO.none _
      | refine LeO.ite ?_ ?_
      | refine LeO.bind ?_ (fun _ => ?_)
set_option maxHeartbeats 8000000 in
set_option maxRecDepth 100000 in
theorem spec_DrawGet16.calls (k : Nat) (A0 : Option Addr) (c0 : Nat) (l0 : List Int) (r1 : ByteArray) (r2 : Int) (r3 : Bool) (w : World) (hr0 : Kd.C (Kd.int .u8) w A0 l0.length l0) (hc0 : l0.length ≤ c0) (h : spec_DrawGet16.f k l0 = some (r1, r2, r3)) :
    Calls Try.prog 38 #[.slice A0 l0.length c0] w fun e w' => e = .returned (.tuple #[.string r1, .int .i64 r2, .bool r3]) ∧ Below w.heap.size w w' := by
  have HR0 := Aside0.mk hr0
  have HC0 := Aside0.mk hc0
  clear hr0 hc0
  have HB := Aside0.mk (Below.refl w.heap.size w)
  have H : ((spec_l01New.f k l0).bind fun bt172 => ((spec_l01Num.f bt172.1 bt172.2.1 bt172.2.2).bind fun bt176 => ((spec_l01Once.f bt172.1 bt176.2.1 bt176.2.2 2).bind fun bt179 => ((spec_Put16.f bt176.1 bt179.1).bind fun t182 => (if t182.size + 2 ≤ 9223372036854775807 then ((spec_l01PickInt.f bt172.1 bt179.2.1 bt179.2.2 (([0, 1, 2, 3, (-1), 9223372036854775807] : List Int))).bind fun bt186 => ((spec_l01Once.f bt172.1 bt186.2.1 bt186.2.2 2).bind fun bt189 => (some (t182 ++ (⟨#[97, 98]⟩ : ByteArray), bt186.1, bt189.1)))) else (none)))))) = some (r1, r2, r3) := h
  clear h
  replace H := Option.bind_eq_some_iff.mp H
  obtain ⟨⟨t172, t173, t174⟩, A20, H⟩ := H
  replace H : ((spec_l01Num.f t172 t173 t174).bind fun bt176 => ((spec_l01Once.f t172 bt176.2.1 bt176.2.2 2).bind fun bt179 => ((spec_Put16.f bt176.1 bt179.1).bind fun t182 => (if t182.size + 2 ≤ 9223372036854775807 then ((spec_l01PickInt.f t172 bt179.2.1 bt179.2.2 (([0, 1, 2, 3, (-1), 9223372036854775807] : List Int))).bind fun bt186 => ((spec_l01Once.f t172 bt186.2.1 bt186.2.2 2).bind fun bt189 => (some (t182 ++ (⟨#[97, 98]⟩ : ByteArray), bt186.1, bt189.1)))) else (none))))) = some (r1, r2, r3) := H
  have A2 := Aside0.mk A20
  clear A20
  replace H := Option.bind_eq_some_iff.mp H
  obtain ⟨⟨t176, t177, t178⟩, A30, H⟩ := H
  replace H : ((spec_l01Once.f t172 t177 t178 2).bind fun bt179 => ((spec_Put16.f t176 bt179.1).bind fun t182 => (if t182.size + 2 ≤ 9223372036854775807 then ((spec_l01PickInt.f t172 bt179.2.1 bt179.2.2 (([0, 1, 2, 3, (-1), 9223372036854775807] : List Int))).bind fun bt186 => ((spec_l01Once.f t172 bt186.2.1 bt186.2.2 2).bind fun bt189 => (some (t182 ++ (⟨#[97, 98]⟩ : ByteArray), bt186.1, bt189.1)))) else (none)))) = some (r1, r2, r3) := H
  have A3 := Aside0.mk A30
  clear A30
  replace H := Option.bind_eq_some_iff.mp H
  obtain ⟨⟨t179, t180, t181⟩, A40, H⟩ := H
  replace H : ((spec_Put16.f t176 t179).bind fun t182 => (if t182.size + 2 ≤ 9223372036854775807 then ((spec_l01PickInt.f t172 t180 t181 (([0, 1, 2, 3, (-1), 9223372036854775807] : List Int))).bind fun bt186 => ((spec_l01Once.f t172 bt186.2.1 bt186.2.2 2).bind fun bt189 => (some (t182 ++ (⟨#[97, 98]⟩ : ByteArray), bt186.1, bt189.1)))) else (none))) = some (r1, r2, r3) := H
  have A4 := Aside0.mk A40
  clear A40
  replace H := Option.bind_eq_some_iff.mp H
  obtain ⟨t182, A50, H⟩ := H
  replace H : (if t182.size + 2 ≤ 9223372036854775807 then ((spec_l01PickInt.f t172 t180 t181 (([0, 1, 2, 3, (-1), 9223372036854775807] : List Int))).bind fun bt186 => ((spec_l01Once.f t172 bt186.2.1 bt186.2.2 2).bind fun bt189 => (some (t182 ++ (⟨#[97, 98]⟩ : ByteArray), bt186.1, bt189.1)))) else (none)) = some (r1, r2, r3) := H
  have A5 := Aside0.mk A50
  clear A50
  by_cases c6 : t182.size + 2 ≤ 9223372036854775807
  · rw [if_pos c6] at H
    have c6b0 := eq_true c6
    have c6b1 : decide (t182.size + 2 ≤ 9223372036854775807) = true := decide_eq_true c6
    try have c6b2 : (9223372036854775807 < t182.size + 2) = False := eq_false (Nat.not_lt.2 c6)
    obtain ⟨y183, hy183⟩ : ∃ y_ : List Int, y_ = (([0, 1, 2, 3, (-1), 9223372036854775807] : List Int)) := ⟨_, rfl⟩
    replace H : ((spec_l01PickInt.f t172 t180 t181 y183).bind fun bt186 => ((spec_l01Once.f t172 bt186.2.1 bt186.2.2 2).bind fun bt189 => (some (t182 ++ (⟨#[97, 98]⟩ : ByteArray), bt186.1, bt189.1)))) = some (r1, r2, r3) := by first | (rw [hy183]; with_reducible exact H) | (have H2_ := (Option.bind_some _ _).symm.trans H; rw [hy183]; with_reducible exact H2_) | (have H2_ := (Option.bind_some _ _).symm.trans H; with_reducible exact H2_) | with_reducible exact H | (rw [hy183]; exact H) | exact H
    have Ny183 := Aside0.mk hy183
    clear hy183
    replace H := Option.bind_eq_some_iff.mp H
    obtain ⟨⟨t186, t187, t188⟩, A70, H⟩ := H
    replace H : ((spec_l01Once.f t172 t187 t188 2).bind fun bt189 => (some (t182 ++ (⟨#[97, 98]⟩ : ByteArray), t186, bt189.1))) = some (r1, r2, r3) := H
    have A7 := Aside0.mk A70
    clear A70
    replace H := Option.bind_eq_some_iff.mp H
    obtain ⟨⟨t189, t190, t191⟩, A80, H⟩ := H
    replace H : (some (t182 ++ (⟨#[97, 98]⟩ : ByteArray), t186, t189)) = some (r1, r2, r3) := H
    have A8 := Aside0.mk A80
    clear A80
    simp only [Option.some.injEq, Prod.mk.injEq] at H
    obtain ⟨rfl, rfl, rfl⟩ := H
    go_enter Try.func38, Try.ntmps38
    go_wp2_with (first | ((with_reducible refine gate_callee (f := 66) rfl ?_); refine goesL_ (some 8) rfl rfl Try.func66 (by kernel_rfl) rfl #[.slice A0 l0.length c0] rfl (by (try simp only [List.map_toArray, List.map_cons, List.map_nil]); first | done | rfl | (simp only [List.length_drop, List.length_take]; rfl)) ?_; (with_reducible refine (spec_l01New.calls k _ _ l0 t172 t173 t174 w _ ?side1 ?side2 ?side3 A2.out).mono ?_); (case side1 => repeat (first | (with_reducible first | exact HB.out | apply below_alloc | apply pw_below_drewN | apply below_drew1) | exact HB.out)); (case side2 => exact HR0.out); (case side3 => exact HC0.out); rintro e w9 ⟨g175, rfl, hi, hb, hb2⟩; refine ⟨_, rfl, ?_⟩; have n0_ := Aside0.mk (hb); have n1_ := Aside0.mk (hi); clear HB; have HB := n0_; have HI175 := n1_; clear n0_ n1_; (try clear hb); (try clear hb2); (try clear hk); (try clear hi)) | ((with_reducible refine gate_callee (f := 67) rfl ?_); refine goesL_ (some 10) rfl rfl Try.func67 (by kernel_rfl) rfl #[.pointer (some ⟨g175, 0, none⟩)] rfl (by (try simp only [List.map_toArray, List.map_cons, List.map_nil]); first | done | rfl | (simp only [List.length_drop, List.length_take]; rfl)) ?_; (with_reducible refine (spec_l01Num.calls g175 t172 t173 t174 t176 t177 t178 w _ ?side1 ?side2 A3.out).mono ?_); (case side1 => repeat (first | (with_reducible first | exact HI175.out | apply IsS73.alloc | apply IsS73.drewN | apply IsS73.drew | apply IsS73.set_1 | apply IsS73.set_2) | exact HI175.out)); (case side2 => repeat (first | (with_reducible first | exact HB.out | apply below_alloc | apply pw_below_drewN | apply below_drew1 | refine below_set ?_ (IsS73.ge HI175.out)) | exact HB.out)); rintro e w10 ⟨rfl, hi, hb, hk⟩; refine ⟨_, rfl, ?_⟩; have n0_ := Aside0.mk (hb); have n1_ := Aside0.mk (hi); clear HB; clear HI175; have HB := n0_; have HI175 := n1_; clear n0_ n1_; (try clear hb); (try clear hb2); (try clear hk); (try clear hi)) | ((with_reducible refine gate_callee (f := 68) rfl ?_); refine goesL_ (some 12) rfl rfl Try.func68 (by kernel_rfl) rfl #[.pointer (some ⟨g175, 0, none⟩), .int .i64 2] rfl (by (try simp only [List.map_toArray, List.map_cons, List.map_nil]); first | done | rfl | (simp only [List.length_drop, List.length_take]; rfl)) ?_; (with_reducible refine (spec_l01Once.calls g175 t172 t177 t178 2 t179 t180 t181 w _ ?side1 ?side2 A4.out).mono ?_); (case side1 => repeat (first | (with_reducible first | exact HI175.out | apply IsS73.alloc | apply IsS73.drewN | apply IsS73.drew | apply IsS73.set_1 | apply IsS73.set_2) | exact HI175.out)); (case side2 => repeat (first | (with_reducible first | exact HB.out | apply below_alloc | apply pw_below_drewN | apply below_drew1 | refine below_set ?_ (IsS73.ge HI175.out)) | exact HB.out)); rintro e w11 ⟨rfl, hi, hb, hk⟩; refine ⟨_, rfl, ?_⟩; have n0_ := Aside0.mk (hb); have n1_ := Aside0.mk (hi); clear HB; clear HI175; have HB := n0_; have HI175 := n1_; clear n0_ n1_; (try clear hb); (try clear hb2); (try clear hk); (try clear hi)) | ((with_reducible refine gate_callee (f := 42) rfl ?_); refine goesL_ (some 13) rfl rfl Try.func42 (by kernel_rfl) rfl #[.int .i64 t176, .bool t179] rfl (by (try simp only [List.map_toArray, List.map_cons, List.map_nil]); first | done | rfl | (simp only [List.length_drop, List.length_take]; rfl)) ?_; (with_reducible refine (spec_Put16.calls t176 t179 t182 _ A5.out).mono ?_); rintro e w12 ⟨rfl, hb⟩; refine ⟨_, rfl, ?_⟩; have n0_ := Aside0.mk (IsS73.below (by repeat (first | (with_reducible first | exact HI175.out | apply IsS73.alloc | apply IsS73.drewN | apply IsS73.drew | apply IsS73.set_1 | apply IsS73.set_2) | exact HI175.out)) hb); have n1_ := Aside0.mk (below_step (by repeat (first | (with_reducible first | exact HB.out | apply below_alloc | apply pw_below_drewN | apply below_drew1 | refine below_set ?_ (IsS73.ge HI175.out)) | exact HB.out)) hb); clear HI175; clear HB; have HI175 := n0_; have HB := n1_; clear n0_ n1_; (try clear hb); (try clear hb2); (try clear hk); (try clear hi)) | ((with_reducible refine gate_dst (N := 17) rfl ?_); refine Kd.R_lit (Kd.int .i64) _ 3 ?hg (N := 17) ?hd (xs := ([0, 1, 2, 3, (-1), 9223372036854775807] : List Int)) (inner := [.int .i64 0, .int .i64 1, .int .i64 2, .int .i64 3, .int .i64 (-1), .int .i64 9223372036854775807]) (ok := fun _ => True) (okp := fun _ => True) ?hr ?hp (fun _ hk => hk) trivial (Below.refl _ _) (Nat.le_refl _) (by simp) ?_; (case hd => rfl); (case hg => rfl); (case hr => first | (go_simp; done) | (go_simp; rfl)); (case hp => exact (Reps.one (show Kd.M (Kd.int .i64) _ _ _ 0 [.int .i64 0] from rfl) (Reps.one (show Kd.M (Kd.int .i64) _ _ _ 1 [.int .i64 1] from rfl) (Reps.one (show Kd.M (Kd.int .i64) _ _ _ 2 [.int .i64 2] from rfl) (Reps.one (show Kd.M (Kd.int .i64) _ _ _ 3 [.int .i64 3] from rfl) (Reps.one (show Kd.M (Kd.int .i64) _ _ _ (-1) [.int .i64 (-1)] from rfl) (Reps.one (show Kd.M (Kd.int .i64) _ _ _ 9223372036854775807 [.int .i64 9223372036854775807] from rfl) (Reps.none _ _)))))))); intro v184 w13 ho14 hb hg_ hnew_; clear hg_ hnew_; (first | rw [← Ny183.out] at ho14 | (simp only [Int.reduceToNat] at ho14; rw [← Ny183.out] at ho14)); have n0_ := Aside0.mk (Kd.R_lower ho14 (below_size (by repeat (first | (with_reducible first | exact HB.out | apply below_alloc | apply pw_below_drewN | apply below_drew1 | refine below_set ?_ (IsS73.ge HI175.out)) | exact HB.out)))); have n1_ := Aside0.mk (IsS73.below (by repeat (first | (with_reducible first | exact HI175.out | apply IsS73.alloc | apply IsS73.drewN | apply IsS73.drew | apply IsS73.set_1 | apply IsS73.set_2) | exact HI175.out)) hb); have n2_ := Aside0.mk (below_step (by repeat (first | (with_reducible first | exact HB.out | apply below_alloc | apply pw_below_drewN | apply below_drew1 | refine below_set ?_ (IsS73.ge HI175.out)) | exact HB.out)) hb); clear HI175; clear HB; have HO185 := n0_; have HI175 := n1_; have HB := n2_; clear n0_ n1_ n2_; clear hb ho14; obtain ⟨Ao15, co15, eo15⟩ := Kd.R_slice HO185.out; subst eo15) | ((with_reducible refine gate_callee (f := 69) rfl ?_); refine goesL_ (some 18) rfl rfl Try.func69 (by kernel_rfl) rfl #[.pointer (some ⟨g175, 0, none⟩), .slice Ao15 y183.length co15] rfl (by (try simp only [List.map_toArray, List.map_cons, List.map_nil]); first | done | rfl | (simp only [List.length_drop, List.length_take]; rfl)) ?_; (with_reducible refine (spec_l01PickInt.calls g175 t172 t180 t181 _ _ y183 t186 t187 t188 w _ ?side1 ?side2 ?side3 ?side4 ?side5 A7.out).mono ?_); (case side1 => repeat (first | (with_reducible first | exact HI175.out | apply IsS73.alloc | apply IsS73.drewN | apply IsS73.drew | apply IsS73.set_1 | apply IsS73.set_2) | exact HI175.out)); (case side2 => repeat (first | (with_reducible first | exact HB.out | apply below_alloc | apply pw_below_drewN | apply below_drew1 | refine below_set ?_ (IsS73.ge HI175.out)) | exact HB.out)); (case side3 => repeat (first | exact (Kd.R_reads' HO185.out).2.2 | (with_reducible refine Kd.C_alloc ?_ _) | (with_reducible refine Kd.C_drewN ?_ _) | (with_reducible refine Kd.C_drew ?_))); (case side4 => exact (Kd.R_reads' HO185.out).2.1); (case side5 => exact far_slice (IsS73.own_ne HI175.out HO185.out (by decide))); rintro e w16 ⟨rfl, hi, hb, hk⟩; refine ⟨_, rfl, ?_⟩; have n0_ := Aside0.mk (Kd.R_mono (Kd.R_keep (IsS73.apart (show IsS73 w _ g175 t172 t180 t181 from by repeat (first | (with_reducible first | exact HI175.out | apply IsS73.alloc | apply IsS73.drewN | apply IsS73.drew | apply IsS73.set_1 | apply IsS73.set_2) | exact HI175.out)) (by (with_reducible repeat (first | apply Kd.R_alloc | apply Kd.R_drewN | apply Kd.R_drew)); exact HO185.out) (by decide)) hk (fun _ h => h.2)) (fun _ h => h.1)); have n1_ := Aside0.mk (hb); have n2_ := Aside0.mk (hi); clear HO185; clear HB; clear HI175; have HO185 := n0_; have HB := n1_; have HI175 := n2_; clear n0_ n1_ n2_; (try clear hb); (try clear hb2); (try clear hk); (try clear hi)) | ((with_reducible refine gate_callee (f := 68) rfl ?_); refine goesL_ (some 20) rfl rfl Try.func68 (by kernel_rfl) rfl #[.pointer (some ⟨g175, 0, none⟩), .int .i64 2] rfl (by (try simp only [List.map_toArray, List.map_cons, List.map_nil]); first | done | rfl | (simp only [List.length_drop, List.length_take]; rfl)) ?_; (with_reducible refine (spec_l01Once.calls g175 t172 t187 t188 2 t189 t190 t191 w _ ?side1 ?side2 A8.out).mono ?_); (case side1 => repeat (first | (with_reducible first | exact HI175.out | apply IsS73.alloc | apply IsS73.drewN | apply IsS73.drew | apply IsS73.set_1 | apply IsS73.set_2) | exact HI175.out)); (case side2 => repeat (first | (with_reducible first | exact HB.out | apply below_alloc | apply pw_below_drewN | apply below_drew1 | refine below_set ?_ (IsS73.ge HI175.out)) | exact HB.out)); rintro e w17 ⟨rfl, hi, hb, hk⟩; refine ⟨_, rfl, ?_⟩; have n0_ := Aside0.mk (Kd.R_mono (Kd.R_keep (IsS73.apart (show IsS73 w _ g175 t172 t187 t188 from by repeat (first | (with_reducible first | exact HI175.out | apply IsS73.alloc | apply IsS73.drewN | apply IsS73.drew | apply IsS73.set_1 | apply IsS73.set_2) | exact HI175.out)) (by (with_reducible repeat (first | apply Kd.R_alloc | apply Kd.R_drewN | apply Kd.R_drew)); exact HO185.out) (by decide)) hk (fun _ h => h.2)) (fun _ h => h.1)); have n1_ := Aside0.mk (hb); have n2_ := Aside0.mk (hi); clear HO185; clear HB; clear HI175; have HO185 := n0_; have HB := n1_; have HI175 := n2_; clear n0_ n1_ n2_; (try clear hb); (try clear hb2); (try clear hk); (try clear hi)))
    go_ret3
    exact ⟨by first | rfl | (simp [errW_none, errW_some] <;> rfl) | (simp [*, errW_none, errW_some] <;> rfl), by repeat (first | (with_reducible first | exact HB.out | apply below_alloc | apply pw_below_drewN | apply below_drew1 | refine below_set ?_ (IsS73.ge HI175.out)) | exact HB.out)⟩
  · rw [if_neg c6] at H
    exact absurd H (by simp)

/-! ### spec_Put32: function 43 -/
def spec_Put32.f (a0 : Int) (a1 : Bool) : Option (ByteArray) := (spec_Put16.f (a0 / 65536) a1).bind fun t192 => ((spec_Put16.f a0 a1).bind fun t193 => (if t192.size + t193.size ≤ 9223372036854775807 then (some (t192 ++ t193)) else (none)))
set_option maxHeartbeats 8000000 in
set_option maxRecDepth 100000 in
theorem spec_Put32.calls (a0 : Int) (a1 : Bool) (r : ByteArray) (w : World) (h : spec_Put32.f a0 a1 = some r) :
    Calls Try.prog 43 #[.int .i64 a0, .bool a1] w fun e w' => e = .returned (.string r) ∧ Below w.heap.size w w' := by
  have HB := Aside0.mk (Below.refl w.heap.size w)
  have H : ((spec_Put16.f (a0 / 65536) a1).bind fun t192 => ((spec_Put16.f a0 a1).bind fun t193 => (if t192.size + t193.size ≤ 9223372036854775807 then (some (t192 ++ t193)) else (none)))) = some r := h
  clear h
  replace H := Option.bind_eq_some_iff.mp H
  obtain ⟨t192, A30, H⟩ := H
  replace H : ((spec_Put16.f a0 a1).bind fun t193 => (if t192.size + t193.size ≤ 9223372036854775807 then (some (t192 ++ t193)) else (none))) = some r := H
  have A3 := Aside0.mk A30
  clear A30
  replace H := Option.bind_eq_some_iff.mp H
  obtain ⟨t193, A40, H⟩ := H
  replace H : (if t192.size + t193.size ≤ 9223372036854775807 then (some (t192 ++ t193)) else (none)) = some r := H
  have A4 := Aside0.mk A40
  clear A40
  by_cases c5 : t192.size + t193.size ≤ 9223372036854775807
  · rw [if_pos c5] at H
    have c5b0 := eq_true c5
    have c5b1 : decide (t192.size + t193.size ≤ 9223372036854775807) = true := decide_eq_true c5
    try have c5b2 : (9223372036854775807 < t192.size + t193.size) = False := eq_false (Nat.not_lt.2 c5)
    obtain rfl := Option.some.inj H
    go_enter Try.func43, Try.ntmps43
    go_wp2_with (first | ((with_reducible refine gate_callee (f := 42) rfl ?_); refine goesL_ (some 8) rfl rfl Try.func42 (by kernel_rfl) rfl #[.int .i64 (a0 / 65536), .bool a1] rfl (by (try simp only [List.map_toArray, List.map_cons, List.map_nil]); first | done | rfl | (simp only [List.length_drop, List.length_take]; rfl)) ?_; (with_reducible refine (spec_Put16.calls (a0 / 65536) a1 t192 _ A3.out).mono ?_); rintro e w6 ⟨rfl, hb⟩; refine ⟨_, rfl, ?_⟩; have n0_ := Aside0.mk (below_step (by repeat (first | (with_reducible first | exact HB.out | apply below_alloc | apply pw_below_drewN | apply below_drew1) | exact HB.out)) hb); clear HB; have HB := n0_; clear n0_; (try clear hb); (try clear hb2); (try clear hk); (try clear hi)) | ((with_reducible refine gate_callee (f := 42) rfl ?_); refine goesL_ (some 11) rfl rfl Try.func42 (by kernel_rfl) rfl #[.int .i64 a0, .bool a1] rfl (by (try simp only [List.map_toArray, List.map_cons, List.map_nil]); first | done | rfl | (simp only [List.length_drop, List.length_take]; rfl)) ?_; (with_reducible refine (spec_Put16.calls a0 a1 t193 _ A4.out).mono ?_); rintro e w7 ⟨rfl, hb⟩; refine ⟨_, rfl, ?_⟩; have n0_ := Aside0.mk (below_step (by repeat (first | (with_reducible first | exact HB.out | apply below_alloc | apply pw_below_drewN | apply below_drew1) | exact HB.out)) hb); clear HB; have HB := n0_; clear n0_; (try clear hb); (try clear hb2); (try clear hk); (try clear hi)))
    go_ret
    exact ⟨by first | rfl | (simp [errW_none, errW_some] <;> rfl) | (simp [*, errW_none, errW_some] <;> rfl), by repeat (first | (with_reducible first | exact HB.out | apply below_alloc | apply pw_below_drewN | apply below_drew1) | exact HB.out)⟩
  · rw [if_neg c5] at H
    exact absurd H (by simp)

/-! ### spec_DrawGet32: function 39 -/
def spec_DrawGet32.f (k : Nat) (l0 : List Int) : Option (ByteArray × Int × Bool) := (spec_l01New.f k l0).bind fun bt194 => ((spec_l01Num.f bt194.1 bt194.2.1 bt194.2.2).bind fun bt198 => ((spec_l01Once.f bt194.1 bt198.2.1 bt198.2.2 2).bind fun bt201 => ((spec_Put32.f bt198.1 bt201.1).bind fun t204 => (if t204.size + 2 ≤ 9223372036854775807 then ((spec_l01PickInt.f bt194.1 bt201.2.1 bt201.2.2 (([0, 1, 2, 3, (-1), 9223372036854775807] : List Int))).bind fun bt208 => ((spec_l01Once.f bt194.1 bt208.2.1 bt208.2.2 2).bind fun bt211 => (some (t204 ++ (⟨#[97, 98]⟩ : ByteArray), bt208.1, bt211.1)))) else (none)))))
theorem spec_DrawGet32.mono : ∀ a0 k, LeO (spec_DrawGet32.f k a0) (spec_DrawGet32.f (k + 1) a0) := by
  intro a0 k
  unfold spec_DrawGet32.f
  repeat' first
      | (with_reducible exact spec_l01New.mono _ _)
      | (with_reducible exact LeO.refl _)
      | (with_reducible exact LeO.none _)
      | (with_reducible refine LeO.ite ?_ ?_)
      | (with_reducible refine LeO.bind ?_ (fun _ => ?_))
      | exact spec_l01New.mono _ _
      | exact LeO.none _
      | refine LeO.ite ?_ ?_
      | refine LeO.bind ?_ (fun _ => ?_)
set_option maxHeartbeats 8000000 in
set_option maxRecDepth 100000 in
theorem spec_DrawGet32.calls (k : Nat) (A0 : Option Addr) (c0 : Nat) (l0 : List Int) (r1 : ByteArray) (r2 : Int) (r3 : Bool) (w : World) (hr0 : Kd.C (Kd.int .u8) w A0 l0.length l0) (hc0 : l0.length ≤ c0) (h : spec_DrawGet32.f k l0 = some (r1, r2, r3)) :
    Calls Try.prog 39 #[.slice A0 l0.length c0] w fun e w' => e = .returned (.tuple #[.string r1, .int .i64 r2, .bool r3]) ∧ Below w.heap.size w w' := by
  have HR0 := Aside0.mk hr0
  have HC0 := Aside0.mk hc0
  clear hr0 hc0
  have HB := Aside0.mk (Below.refl w.heap.size w)
  have H : ((spec_l01New.f k l0).bind fun bt194 => ((spec_l01Num.f bt194.1 bt194.2.1 bt194.2.2).bind fun bt198 => ((spec_l01Once.f bt194.1 bt198.2.1 bt198.2.2 2).bind fun bt201 => ((spec_Put32.f bt198.1 bt201.1).bind fun t204 => (if t204.size + 2 ≤ 9223372036854775807 then ((spec_l01PickInt.f bt194.1 bt201.2.1 bt201.2.2 (([0, 1, 2, 3, (-1), 9223372036854775807] : List Int))).bind fun bt208 => ((spec_l01Once.f bt194.1 bt208.2.1 bt208.2.2 2).bind fun bt211 => (some (t204 ++ (⟨#[97, 98]⟩ : ByteArray), bt208.1, bt211.1)))) else (none)))))) = some (r1, r2, r3) := h
  clear h
  replace H := Option.bind_eq_some_iff.mp H
  obtain ⟨⟨t194, t195, t196⟩, A20, H⟩ := H
  replace H : ((spec_l01Num.f t194 t195 t196).bind fun bt198 => ((spec_l01Once.f t194 bt198.2.1 bt198.2.2 2).bind fun bt201 => ((spec_Put32.f bt198.1 bt201.1).bind fun t204 => (if t204.size + 2 ≤ 9223372036854775807 then ((spec_l01PickInt.f t194 bt201.2.1 bt201.2.2 (([0, 1, 2, 3, (-1), 9223372036854775807] : List Int))).bind fun bt208 => ((spec_l01Once.f t194 bt208.2.1 bt208.2.2 2).bind fun bt211 => (some (t204 ++ (⟨#[97, 98]⟩ : ByteArray), bt208.1, bt211.1)))) else (none))))) = some (r1, r2, r3) := H
  have A2 := Aside0.mk A20
  clear A20
  replace H := Option.bind_eq_some_iff.mp H
  obtain ⟨⟨t198, t199, t200⟩, A30, H⟩ := H
  replace H : ((spec_l01Once.f t194 t199 t200 2).bind fun bt201 => ((spec_Put32.f t198 bt201.1).bind fun t204 => (if t204.size + 2 ≤ 9223372036854775807 then ((spec_l01PickInt.f t194 bt201.2.1 bt201.2.2 (([0, 1, 2, 3, (-1), 9223372036854775807] : List Int))).bind fun bt208 => ((spec_l01Once.f t194 bt208.2.1 bt208.2.2 2).bind fun bt211 => (some (t204 ++ (⟨#[97, 98]⟩ : ByteArray), bt208.1, bt211.1)))) else (none)))) = some (r1, r2, r3) := H
  have A3 := Aside0.mk A30
  clear A30
  replace H := Option.bind_eq_some_iff.mp H
  obtain ⟨⟨t201, t202, t203⟩, A40, H⟩ := H
  replace H : ((spec_Put32.f t198 t201).bind fun t204 => (if t204.size + 2 ≤ 9223372036854775807 then ((spec_l01PickInt.f t194 t202 t203 (([0, 1, 2, 3, (-1), 9223372036854775807] : List Int))).bind fun bt208 => ((spec_l01Once.f t194 bt208.2.1 bt208.2.2 2).bind fun bt211 => (some (t204 ++ (⟨#[97, 98]⟩ : ByteArray), bt208.1, bt211.1)))) else (none))) = some (r1, r2, r3) := H
  have A4 := Aside0.mk A40
  clear A40
  replace H := Option.bind_eq_some_iff.mp H
  obtain ⟨t204, A50, H⟩ := H
  replace H : (if t204.size + 2 ≤ 9223372036854775807 then ((spec_l01PickInt.f t194 t202 t203 (([0, 1, 2, 3, (-1), 9223372036854775807] : List Int))).bind fun bt208 => ((spec_l01Once.f t194 bt208.2.1 bt208.2.2 2).bind fun bt211 => (some (t204 ++ (⟨#[97, 98]⟩ : ByteArray), bt208.1, bt211.1)))) else (none)) = some (r1, r2, r3) := H
  have A5 := Aside0.mk A50
  clear A50
  by_cases c6 : t204.size + 2 ≤ 9223372036854775807
  · rw [if_pos c6] at H
    have c6b0 := eq_true c6
    have c6b1 : decide (t204.size + 2 ≤ 9223372036854775807) = true := decide_eq_true c6
    try have c6b2 : (9223372036854775807 < t204.size + 2) = False := eq_false (Nat.not_lt.2 c6)
    obtain ⟨y205, hy205⟩ : ∃ y_ : List Int, y_ = (([0, 1, 2, 3, (-1), 9223372036854775807] : List Int)) := ⟨_, rfl⟩
    replace H : ((spec_l01PickInt.f t194 t202 t203 y205).bind fun bt208 => ((spec_l01Once.f t194 bt208.2.1 bt208.2.2 2).bind fun bt211 => (some (t204 ++ (⟨#[97, 98]⟩ : ByteArray), bt208.1, bt211.1)))) = some (r1, r2, r3) := by first | (rw [hy205]; with_reducible exact H) | (have H2_ := (Option.bind_some _ _).symm.trans H; rw [hy205]; with_reducible exact H2_) | (have H2_ := (Option.bind_some _ _).symm.trans H; with_reducible exact H2_) | with_reducible exact H | (rw [hy205]; exact H) | exact H
    have Ny205 := Aside0.mk hy205
    clear hy205
    replace H := Option.bind_eq_some_iff.mp H
    obtain ⟨⟨t208, t209, t210⟩, A70, H⟩ := H
    replace H : ((spec_l01Once.f t194 t209 t210 2).bind fun bt211 => (some (t204 ++ (⟨#[97, 98]⟩ : ByteArray), t208, bt211.1))) = some (r1, r2, r3) := H
    have A7 := Aside0.mk A70
    clear A70
    replace H := Option.bind_eq_some_iff.mp H
    obtain ⟨⟨t211, t212, t213⟩, A80, H⟩ := H
    replace H : (some (t204 ++ (⟨#[97, 98]⟩ : ByteArray), t208, t211)) = some (r1, r2, r3) := H
    have A8 := Aside0.mk A80
    clear A80
    simp only [Option.some.injEq, Prod.mk.injEq] at H
    obtain ⟨rfl, rfl, rfl⟩ := H
    go_enter Try.func39, Try.ntmps39
    go_wp2_with (first | ((with_reducible refine gate_callee (f := 66) rfl ?_); refine goesL_ (some 8) rfl rfl Try.func66 (by kernel_rfl) rfl #[.slice A0 l0.length c0] rfl (by (try simp only [List.map_toArray, List.map_cons, List.map_nil]); first | done | rfl | (simp only [List.length_drop, List.length_take]; rfl)) ?_; (with_reducible refine (spec_l01New.calls k _ _ l0 t194 t195 t196 w _ ?side1 ?side2 ?side3 A2.out).mono ?_); (case side1 => repeat (first | (with_reducible first | exact HB.out | apply below_alloc | apply pw_below_drewN | apply below_drew1) | exact HB.out)); (case side2 => exact HR0.out); (case side3 => exact HC0.out); rintro e w9 ⟨g197, rfl, hi, hb, hb2⟩; refine ⟨_, rfl, ?_⟩; have n0_ := Aside0.mk (hb); have n1_ := Aside0.mk (hi); clear HB; have HB := n0_; have HI197 := n1_; clear n0_ n1_; (try clear hb); (try clear hb2); (try clear hk); (try clear hi)) | ((with_reducible refine gate_callee (f := 67) rfl ?_); refine goesL_ (some 10) rfl rfl Try.func67 (by kernel_rfl) rfl #[.pointer (some ⟨g197, 0, none⟩)] rfl (by (try simp only [List.map_toArray, List.map_cons, List.map_nil]); first | done | rfl | (simp only [List.length_drop, List.length_take]; rfl)) ?_; (with_reducible refine (spec_l01Num.calls g197 t194 t195 t196 t198 t199 t200 w _ ?side1 ?side2 A3.out).mono ?_); (case side1 => repeat (first | (with_reducible first | exact HI197.out | apply IsS73.alloc | apply IsS73.drewN | apply IsS73.drew | apply IsS73.set_1 | apply IsS73.set_2) | exact HI197.out)); (case side2 => repeat (first | (with_reducible first | exact HB.out | apply below_alloc | apply pw_below_drewN | apply below_drew1 | refine below_set ?_ (IsS73.ge HI197.out)) | exact HB.out)); rintro e w10 ⟨rfl, hi, hb, hk⟩; refine ⟨_, rfl, ?_⟩; have n0_ := Aside0.mk (hb); have n1_ := Aside0.mk (hi); clear HB; clear HI197; have HB := n0_; have HI197 := n1_; clear n0_ n1_; (try clear hb); (try clear hb2); (try clear hk); (try clear hi)) | ((with_reducible refine gate_callee (f := 68) rfl ?_); refine goesL_ (some 12) rfl rfl Try.func68 (by kernel_rfl) rfl #[.pointer (some ⟨g197, 0, none⟩), .int .i64 2] rfl (by (try simp only [List.map_toArray, List.map_cons, List.map_nil]); first | done | rfl | (simp only [List.length_drop, List.length_take]; rfl)) ?_; (with_reducible refine (spec_l01Once.calls g197 t194 t199 t200 2 t201 t202 t203 w _ ?side1 ?side2 A4.out).mono ?_); (case side1 => repeat (first | (with_reducible first | exact HI197.out | apply IsS73.alloc | apply IsS73.drewN | apply IsS73.drew | apply IsS73.set_1 | apply IsS73.set_2) | exact HI197.out)); (case side2 => repeat (first | (with_reducible first | exact HB.out | apply below_alloc | apply pw_below_drewN | apply below_drew1 | refine below_set ?_ (IsS73.ge HI197.out)) | exact HB.out)); rintro e w11 ⟨rfl, hi, hb, hk⟩; refine ⟨_, rfl, ?_⟩; have n0_ := Aside0.mk (hb); have n1_ := Aside0.mk (hi); clear HB; clear HI197; have HB := n0_; have HI197 := n1_; clear n0_ n1_; (try clear hb); (try clear hb2); (try clear hk); (try clear hi)) | ((with_reducible refine gate_callee (f := 43) rfl ?_); refine goesL_ (some 13) rfl rfl Try.func43 (by kernel_rfl) rfl #[.int .i64 t198, .bool t201] rfl (by (try simp only [List.map_toArray, List.map_cons, List.map_nil]); first | done | rfl | (simp only [List.length_drop, List.length_take]; rfl)) ?_; (with_reducible refine (spec_Put32.calls t198 t201 t204 _ A5.out).mono ?_); rintro e w12 ⟨rfl, hb⟩; refine ⟨_, rfl, ?_⟩; have n0_ := Aside0.mk (IsS73.below (by repeat (first | (with_reducible first | exact HI197.out | apply IsS73.alloc | apply IsS73.drewN | apply IsS73.drew | apply IsS73.set_1 | apply IsS73.set_2) | exact HI197.out)) hb); have n1_ := Aside0.mk (below_step (by repeat (first | (with_reducible first | exact HB.out | apply below_alloc | apply pw_below_drewN | apply below_drew1 | refine below_set ?_ (IsS73.ge HI197.out)) | exact HB.out)) hb); clear HI197; clear HB; have HI197 := n0_; have HB := n1_; clear n0_ n1_; (try clear hb); (try clear hb2); (try clear hk); (try clear hi)) | ((with_reducible refine gate_dst (N := 17) rfl ?_); refine Kd.R_lit (Kd.int .i64) _ 3 ?hg (N := 17) ?hd (xs := ([0, 1, 2, 3, (-1), 9223372036854775807] : List Int)) (inner := [.int .i64 0, .int .i64 1, .int .i64 2, .int .i64 3, .int .i64 (-1), .int .i64 9223372036854775807]) (ok := fun _ => True) (okp := fun _ => True) ?hr ?hp (fun _ hk => hk) trivial (Below.refl _ _) (Nat.le_refl _) (by simp) ?_; (case hd => rfl); (case hg => rfl); (case hr => first | (go_simp; done) | (go_simp; rfl)); (case hp => exact (Reps.one (show Kd.M (Kd.int .i64) _ _ _ 0 [.int .i64 0] from rfl) (Reps.one (show Kd.M (Kd.int .i64) _ _ _ 1 [.int .i64 1] from rfl) (Reps.one (show Kd.M (Kd.int .i64) _ _ _ 2 [.int .i64 2] from rfl) (Reps.one (show Kd.M (Kd.int .i64) _ _ _ 3 [.int .i64 3] from rfl) (Reps.one (show Kd.M (Kd.int .i64) _ _ _ (-1) [.int .i64 (-1)] from rfl) (Reps.one (show Kd.M (Kd.int .i64) _ _ _ 9223372036854775807 [.int .i64 9223372036854775807] from rfl) (Reps.none _ _)))))))); intro v206 w13 ho14 hb hg_ hnew_; clear hg_ hnew_; (first | rw [← Ny205.out] at ho14 | (simp only [Int.reduceToNat] at ho14; rw [← Ny205.out] at ho14)); have n0_ := Aside0.mk (Kd.R_lower ho14 (below_size (by repeat (first | (with_reducible first | exact HB.out | apply below_alloc | apply pw_below_drewN | apply below_drew1 | refine below_set ?_ (IsS73.ge HI197.out)) | exact HB.out)))); have n1_ := Aside0.mk (IsS73.below (by repeat (first | (with_reducible first | exact HI197.out | apply IsS73.alloc | apply IsS73.drewN | apply IsS73.drew | apply IsS73.set_1 | apply IsS73.set_2) | exact HI197.out)) hb); have n2_ := Aside0.mk (below_step (by repeat (first | (with_reducible first | exact HB.out | apply below_alloc | apply pw_below_drewN | apply below_drew1 | refine below_set ?_ (IsS73.ge HI197.out)) | exact HB.out)) hb); clear HI197; clear HB; have HO207 := n0_; have HI197 := n1_; have HB := n2_; clear n0_ n1_ n2_; clear hb ho14; obtain ⟨Ao15, co15, eo15⟩ := Kd.R_slice HO207.out; subst eo15) | ((with_reducible refine gate_callee (f := 69) rfl ?_); refine goesL_ (some 18) rfl rfl Try.func69 (by kernel_rfl) rfl #[.pointer (some ⟨g197, 0, none⟩), .slice Ao15 y205.length co15] rfl (by (try simp only [List.map_toArray, List.map_cons, List.map_nil]); first | done | rfl | (simp only [List.length_drop, List.length_take]; rfl)) ?_; (with_reducible refine (spec_l01PickInt.calls g197 t194 t202 t203 _ _ y205 t208 t209 t210 w _ ?side1 ?side2 ?side3 ?side4 ?side5 A7.out).mono ?_); (case side1 => repeat (first | (with_reducible first | exact HI197.out | apply IsS73.alloc | apply IsS73.drewN | apply IsS73.drew | apply IsS73.set_1 | apply IsS73.set_2) | exact HI197.out)); (case side2 => repeat (first | (with_reducible first | exact HB.out | apply below_alloc | apply pw_below_drewN | apply below_drew1 | refine below_set ?_ (IsS73.ge HI197.out)) | exact HB.out)); (case side3 => repeat (first | exact (Kd.R_reads' HO207.out).2.2 | (with_reducible refine Kd.C_alloc ?_ _) | (with_reducible refine Kd.C_drewN ?_ _) | (with_reducible refine Kd.C_drew ?_))); (case side4 => exact (Kd.R_reads' HO207.out).2.1); (case side5 => exact far_slice (IsS73.own_ne HI197.out HO207.out (by decide))); rintro e w16 ⟨rfl, hi, hb, hk⟩; refine ⟨_, rfl, ?_⟩; have n0_ := Aside0.mk (Kd.R_mono (Kd.R_keep (IsS73.apart (show IsS73 w _ g197 t194 t202 t203 from by repeat (first | (with_reducible first | exact HI197.out | apply IsS73.alloc | apply IsS73.drewN | apply IsS73.drew | apply IsS73.set_1 | apply IsS73.set_2) | exact HI197.out)) (by (with_reducible repeat (first | apply Kd.R_alloc | apply Kd.R_drewN | apply Kd.R_drew)); exact HO207.out) (by decide)) hk (fun _ h => h.2)) (fun _ h => h.1)); have n1_ := Aside0.mk (hb); have n2_ := Aside0.mk (hi); clear HO207; clear HB; clear HI197; have HO207 := n0_; have HB := n1_; have HI197 := n2_; clear n0_ n1_ n2_; (try clear hb); (try clear hb2); (try clear hk); (try clear hi)) | ((with_reducible refine gate_callee (f := 68) rfl ?_); refine goesL_ (some 20) rfl rfl Try.func68 (by kernel_rfl) rfl #[.pointer (some ⟨g197, 0, none⟩), .int .i64 2] rfl (by (try simp only [List.map_toArray, List.map_cons, List.map_nil]); first | done | rfl | (simp only [List.length_drop, List.length_take]; rfl)) ?_; (with_reducible refine (spec_l01Once.calls g197 t194 t209 t210 2 t211 t212 t213 w _ ?side1 ?side2 A8.out).mono ?_); (case side1 => repeat (first | (with_reducible first | exact HI197.out | apply IsS73.alloc | apply IsS73.drewN | apply IsS73.drew | apply IsS73.set_1 | apply IsS73.set_2) | exact HI197.out)); (case side2 => repeat (first | (with_reducible first | exact HB.out | apply below_alloc | apply pw_below_drewN | apply below_drew1 | refine below_set ?_ (IsS73.ge HI197.out)) | exact HB.out)); rintro e w17 ⟨rfl, hi, hb, hk⟩; refine ⟨_, rfl, ?_⟩; have n0_ := Aside0.mk (Kd.R_mono (Kd.R_keep (IsS73.apart (show IsS73 w _ g197 t194 t209 t210 from by repeat (first | (with_reducible first | exact HI197.out | apply IsS73.alloc | apply IsS73.drewN | apply IsS73.drew | apply IsS73.set_1 | apply IsS73.set_2) | exact HI197.out)) (by (with_reducible repeat (first | apply Kd.R_alloc | apply Kd.R_drewN | apply Kd.R_drew)); exact HO207.out) (by decide)) hk (fun _ h => h.2)) (fun _ h => h.1)); have n1_ := Aside0.mk (hb); have n2_ := Aside0.mk (hi); clear HO207; clear HB; clear HI197; have HO207 := n0_; have HB := n1_; have HI197 := n2_; clear n0_ n1_ n2_; (try clear hb); (try clear hb2); (try clear hk); (try clear hi)))
    go_ret3
    exact ⟨by first | rfl | (simp [errW_none, errW_some] <;> rfl) | (simp [*, errW_none, errW_some] <;> rfl), by repeat (first | (with_reducible first | exact HB.out | apply below_alloc | apply pw_below_drewN | apply below_drew1 | refine below_set ?_ (IsS73.ge HI197.out)) | exact HB.out)⟩
  · rw [if_neg c6] at H
    exact absurd H (by simp)

/-! ### impl_Put16: function 40 -/
def impl_Put16.f (a0 : Int) (a1 : Bool) : Option (ByteArray) := if a1 = true then (some (strOfNums (([(a0 / 256) % 256, (a0) % 256] : List Int)))) else (some (strOfNums (([(a0) % 256, (a0 / 256) % 256] : List Int))))
set_option maxHeartbeats 8000000 in
set_option maxRecDepth 100000 in
theorem impl_Put16.calls (a0 : Int) (a1 : Bool) (r : ByteArray) (w : World) (h : impl_Put16.f a0 a1 = some r) :
    Calls Try.prog 40 #[.int .i64 a0, .bool a1] w fun e w' => e = .returned (.string r) ∧ Below w.heap.size w w' := by
  have HB := Aside0.mk (Below.refl w.heap.size w)
  have H : (if a1 = true then (some (strOfNums (([(a0 / 256) % 256, (a0) % 256] : List Int)))) else (some (strOfNums (([(a0) % 256, (a0 / 256) % 256] : List Int))))) = some r := h
  clear h
  by_cases c3 : a1 = true
  · subst c3
    have H1 : (some (strOfNums (([(a0 / 256) % 256, (a0) % 256] : List Int)))) = some r := by rw [if_pos rfl] at H; exact H
    clear H
    have H := H1
    clear H1
    obtain ⟨y214, hy214⟩ : ∃ y_ : List Int, y_ = (([(a0 / 256) % 256, (a0) % 256] : List Int)) := ⟨_, rfl⟩
    replace H : (some (strOfNums y214)) = some r := by first | (rw [hy214]; with_reducible exact H) | (have H2_ := (Option.bind_some _ _).symm.trans H; rw [hy214]; with_reducible exact H2_) | (have H2_ := (Option.bind_some _ _).symm.trans H; with_reducible exact H2_) | with_reducible exact H | (rw [hy214]; exact H) | exact H
    have Ny214 := Aside0.mk hy214
    clear hy214
    obtain rfl := Option.some.inj H
    go_enter Try.func40, Try.ntmps40
    go_wp2_with (first | ((with_reducible refine gate_dst (N := 11) rfl ?_); refine Kd.R_lit (Kd.int .u8) _ 5 ?hg (N := 11) ?hd (xs := ([(a0 / 256) % 256, (a0) % 256] : List Int)) (inner := [.int .u8 ((a0 / 256) % 256), .int .u8 ((a0) % 256)]) (ok := fun _ => True) (okp := fun _ => True) ?hr ?hp (fun _ hk => hk) trivial (Below.refl _ _) (Nat.le_refl _) (by simp) ?_; (case hd => rfl); (case hg => rfl); (case hr => first | (go_simp; done) | (go_simp; rfl)); (case hp => exact (Reps.one (show Kd.M (Kd.int .u8) _ _ _ ((a0 / 256) % 256) [.int .u8 ((a0 / 256) % 256)] from rfl) (Reps.one (show Kd.M (Kd.int .u8) _ _ _ ((a0) % 256) [.int .u8 ((a0) % 256)] from rfl) (Reps.none _ _)))); intro v215 w4 ho5 hb hg_ hnew_; clear hg_ hnew_; (first | rw [← Ny214.out] at ho5 | (simp only [Int.reduceToNat] at ho5; rw [← Ny214.out] at ho5)); have n0_ := Aside0.mk (Kd.R_lower ho5 (below_size (by repeat (first | (with_reducible first | exact HB.out | apply below_alloc | apply pw_below_drewN | apply below_drew1) | exact HB.out)))); have n1_ := Aside0.mk (below_step (by repeat (first | (with_reducible first | exact HB.out | apply below_alloc | apply pw_below_drewN | apply below_drew1) | exact HB.out)) hb); clear HB; have HO216 := n0_; have HB := n1_; clear n0_ n1_; clear hb ho5; have hcv6 := own_string (P := Try.prog) Try.underlying40 Try.underlying5 Try.underlying9 (Kd.own_of_R HO216.out)))
    go_ret
    exact ⟨by first | rfl | (simp [errW_none, errW_some] <;> rfl) | (simp [*, errW_none, errW_some] <;> rfl), by repeat (first | (with_reducible first | exact HB.out | apply below_alloc | apply pw_below_drewN | apply below_drew1) | exact HB.out)⟩
  · replace c3 := Bool.eq_false_iff.mpr c3
    subst c3
    have H1 : (some (strOfNums (([(a0) % 256, (a0 / 256) % 256] : List Int)))) = some r := by rw [if_neg (show ¬ (false = true) by decide)] at H; exact H
    clear H
    have H := H1
    clear H1
    obtain ⟨y217, hy217⟩ : ∃ y_ : List Int, y_ = (([(a0) % 256, (a0 / 256) % 256] : List Int)) := ⟨_, rfl⟩
    replace H : (some (strOfNums y217)) = some r := by first | (rw [hy217]; with_reducible exact H) | (have H2_ := (Option.bind_some _ _).symm.trans H; rw [hy217]; with_reducible exact H2_) | (have H2_ := (Option.bind_some _ _).symm.trans H; with_reducible exact H2_) | with_reducible exact H | (rw [hy217]; exact H) | exact H
    have Ny217 := Aside0.mk hy217
    clear hy217
    obtain rfl := Option.some.inj H
    go_enter Try.func40, Try.ntmps40
    go_wp2_with (first | ((with_reducible refine gate_dst (N := 18) rfl ?_); refine Kd.R_lit (Kd.int .u8) _ 5 ?hg (N := 18) ?hd (xs := ([(a0) % 256, (a0 / 256) % 256] : List Int)) (inner := [.int .u8 ((a0) % 256), .int .u8 ((a0 / 256) % 256)]) (ok := fun _ => True) (okp := fun _ => True) ?hr ?hp (fun _ hk => hk) trivial (Below.refl _ _) (Nat.le_refl _) (by simp) ?_; (case hd => rfl); (case hg => rfl); (case hr => first | (go_simp; done) | (go_simp; rfl)); (case hp => exact (Reps.one (show Kd.M (Kd.int .u8) _ _ _ ((a0) % 256) [.int .u8 ((a0) % 256)] from rfl) (Reps.one (show Kd.M (Kd.int .u8) _ _ _ ((a0 / 256) % 256) [.int .u8 ((a0 / 256) % 256)] from rfl) (Reps.none _ _)))); intro v218 w7 ho8 hb hg_ hnew_; clear hg_ hnew_; (first | rw [← Ny217.out] at ho8 | (simp only [Int.reduceToNat] at ho8; rw [← Ny217.out] at ho8)); have n0_ := Aside0.mk (Kd.R_lower ho8 (below_size (by repeat (first | (with_reducible first | exact HB.out | apply below_alloc | apply pw_below_drewN | apply below_drew1) | exact HB.out)))); have n1_ := Aside0.mk (below_step (by repeat (first | (with_reducible first | exact HB.out | apply below_alloc | apply pw_below_drewN | apply below_drew1) | exact HB.out)) hb); clear HB; have HO219 := n0_; have HB := n1_; clear n0_ n1_; clear hb ho8; have hcv9 := own_string (P := Try.prog) Try.underlying40 Try.underlying5 Try.underlying9 (Kd.own_of_R HO219.out)))
    go_ret
    exact ⟨by first | rfl | (simp [errW_none, errW_some] <;> rfl) | (simp [*, errW_none, errW_some] <;> rfl), by repeat (first | (with_reducible first | exact HB.out | apply below_alloc | apply pw_below_drewN | apply below_drew1) | exact HB.out)⟩

/-! ### impl_Put32: function 41 -/
def impl_Put32.f (a0 : Int) (a1 : Bool) : Option (ByteArray) := (impl_Put16.f (a0 / 65536) a1).bind fun t220 => ((impl_Put16.f a0 a1).bind fun t221 => (if t220.size + t221.size ≤ 9223372036854775807 then (some (t220 ++ t221)) else (none)))
set_option maxHeartbeats 8000000 in
set_option maxRecDepth 100000 in
theorem impl_Put32.calls (a0 : Int) (a1 : Bool) (r : ByteArray) (w : World) (h : impl_Put32.f a0 a1 = some r) :
    Calls Try.prog 41 #[.int .i64 a0, .bool a1] w fun e w' => e = .returned (.string r) ∧ Below w.heap.size w w' := by
  have HB := Aside0.mk (Below.refl w.heap.size w)
  have H : ((impl_Put16.f (a0 / 65536) a1).bind fun t220 => ((impl_Put16.f a0 a1).bind fun t221 => (if t220.size + t221.size ≤ 9223372036854775807 then (some (t220 ++ t221)) else (none)))) = some r := h
  clear h
  replace H := Option.bind_eq_some_iff.mp H
  obtain ⟨t220, A30, H⟩ := H
  replace H : ((impl_Put16.f a0 a1).bind fun t221 => (if t220.size + t221.size ≤ 9223372036854775807 then (some (t220 ++ t221)) else (none))) = some r := H
  have A3 := Aside0.mk A30
  clear A30
  replace H := Option.bind_eq_some_iff.mp H
  obtain ⟨t221, A40, H⟩ := H
  replace H : (if t220.size + t221.size ≤ 9223372036854775807 then (some (t220 ++ t221)) else (none)) = some r := H
  have A4 := Aside0.mk A40
  clear A40
  by_cases c5 : t220.size + t221.size ≤ 9223372036854775807
  · rw [if_pos c5] at H
    have c5b0 := eq_true c5
    have c5b1 : decide (t220.size + t221.size ≤ 9223372036854775807) = true := decide_eq_true c5
    try have c5b2 : (9223372036854775807 < t220.size + t221.size) = False := eq_false (Nat.not_lt.2 c5)
    obtain rfl := Option.some.inj H
    go_enter Try.func41, Try.ntmps41
    go_wp2_with (first | ((with_reducible refine gate_callee (f := 40) rfl ?_); refine goesL_ (some 8) rfl rfl Try.func40 (by kernel_rfl) rfl #[.int .i64 (a0 / 65536), .bool a1] rfl (by (try simp only [List.map_toArray, List.map_cons, List.map_nil]); first | done | rfl | (simp only [List.length_drop, List.length_take]; rfl)) ?_; (with_reducible refine (impl_Put16.calls (a0 / 65536) a1 t220 _ A3.out).mono ?_); rintro e w6 ⟨rfl, hb⟩; refine ⟨_, rfl, ?_⟩; have n0_ := Aside0.mk (below_step (by repeat (first | (with_reducible first | exact HB.out | apply below_alloc | apply pw_below_drewN | apply below_drew1) | exact HB.out)) hb); clear HB; have HB := n0_; clear n0_; (try clear hb); (try clear hb2); (try clear hk); (try clear hi)) | ((with_reducible refine gate_callee (f := 40) rfl ?_); refine goesL_ (some 11) rfl rfl Try.func40 (by kernel_rfl) rfl #[.int .i64 a0, .bool a1] rfl (by (try simp only [List.map_toArray, List.map_cons, List.map_nil]); first | done | rfl | (simp only [List.length_drop, List.length_take]; rfl)) ?_; (with_reducible refine (impl_Put16.calls a0 a1 t221 _ A4.out).mono ?_); rintro e w7 ⟨rfl, hb⟩; refine ⟨_, rfl, ?_⟩; have n0_ := Aside0.mk (below_step (by repeat (first | (with_reducible first | exact HB.out | apply below_alloc | apply pw_below_drewN | apply below_drew1) | exact HB.out)) hb); clear HB; have HB := n0_; clear n0_; (try clear hb); (try clear hb2); (try clear hk); (try clear hi)))
    go_ret
    exact ⟨by first | rfl | (simp [errW_none, errW_some] <;> rfl) | (simp [*, errW_none, errW_some] <;> rfl), by repeat (first | (with_reducible first | exact HB.out | apply below_alloc | apply pw_below_drewN | apply below_drew1) | exact HB.out)⟩
  · rw [if_neg c5] at H
    exact absurd H (by simp)

/-! ### laws_FnWords: function 12 -/
def laws_FnWords.j0 : Nat → Int → Bool → Int → Bool → ByteArray → ByteArray → Bool → Option (Bool)
  | 0, _, _, _, _, _, _, _ => none
  | k + 1, x3, x4, x5, x6, x13, x14, x78 => if x78 = true then (some false) else ((impl_Get16.f x13 0 x4).bind fun t241 => (if t241 = (Go.bits .and .i64 x3 65535) then ((impl_Get32.f x14 0 x6).bind fun t242 => (some (t242 == (Go.bits .and .i64 x5 4294967295)))) else (some false)))
def laws_FnWords.f (k : Nat) (l0 : List Int) : Option (Bool) := (laws_big.f l0).bind fun t222 => (if t222 = true then (some true) else ((spec_DrawPut16.f k l0).bind fun bt223 => ((spec_DrawPut32.f k l0).bind fun bt225 => ((spec_DrawGet16.f k l0).bind fun bt227 => ((spec_DrawGet32.f k l0).bind fun bt230 => ((impl_Put16.f bt223.1 bt223.2).bind fun t233 => ((impl_Put32.f bt225.1 bt225.2).bind fun t234 => ((spec_Put16.f bt223.1 bt223.2).bind fun t235 => (if t233.toList = t235.toList then ((spec_Put32.f bt225.1 bt225.2).bind fun t236 => (if t234.toList = t236.toList then ((impl_Get16.f bt227.1 bt227.2.1 bt227.2.2).bind fun t237 => ((spec_Get16.f k bt227.1 bt227.2.1 bt227.2.2).bind fun t238 => (if t237 = t238 then ((impl_Get32.f bt230.1 bt230.2.1 bt230.2.2).bind fun t239 => ((spec_Get32.f k bt230.1 bt230.2.1 bt230.2.2).bind fun t240 => (laws_FnWords.j0 k bt223.1 bt223.2 bt225.1 bt225.2 t233 t234 (t239 != t240)))) else (laws_FnWords.j0 k bt223.1 bt223.2 bt225.1 bt225.2 t233 t234 true)))) else (laws_FnWords.j0 k bt223.1 bt223.2 bt225.1 bt225.2 t233 t234 true))) else (laws_FnWords.j0 k bt223.1 bt223.2 bt225.1 bt225.2 t233 t234 true))))))))))
theorem laws_FnWords.mono_l : ∀ k, (∀ y0 y1 y2 y3 y4 y5 y6, LeO (laws_FnWords.j0 k y0 y1 y2 y3 y4 y5 y6) (laws_FnWords.j0 (k + 1) y0 y1 y2 y3 y4 y5 y6))
  | 0 => fun _ _ _ _ _ _ _ r h => by simp [laws_FnWords.j0] at h
  | k + 1 => by
    have ih0 := laws_FnWords.mono_l k
    · intro y0 y1 y2 y3 y4 y5 y6
      unfold laws_FnWords.j0
      repeat' first
      | (with_reducible exact ih0 _ _ _ _ _ _ _)
      | (with_reducible exact spec_DrawGet16.mono _ _)
      | (with_reducible exact spec_DrawGet32.mono _ _)
      | (with_reducible exact spec_DrawPut16.mono _ _)
      | (with_reducible exact spec_DrawPut32.mono _ _)
      | (with_reducible exact spec_Get16.mono _ _ _ _)
      | (with_reducible exact spec_Get32.mono _ _ _ _)
      | (with_reducible exact LeO.refl _)
      | (with_reducible exact LeO.none _)
      | (with_reducible refine LeO.ite ?_ ?_)
      | (with_reducible refine LeO.bind ?_ (fun _ => ?_))
      | exact ih0 _ _ _ _ _ _ _
      | exact spec_DrawGet16.mono _ _
      | exact spec_DrawGet32.mono _ _
      | exact spec_DrawPut16.mono _ _
      | exact spec_DrawPut32.mono _ _
      | exact spec_Get16.mono _ _ _ _
      | exact spec_Get32.mono _ _ _ _
      | exact LeO.none _
      | refine LeO.ite ?_ ?_
      | refine LeO.bind ?_ (fun _ => ?_)
theorem laws_FnWords.mono : ∀ a0 k, LeO (laws_FnWords.f k a0) (laws_FnWords.f (k + 1) a0) := by
  intro a0 k
  have ih0 := laws_FnWords.mono_l k
  unfold laws_FnWords.f
  repeat' first
      | (with_reducible exact ih0 _ _ _ _ _ _ _)
      | (with_reducible exact spec_DrawGet16.mono _ _)
      | (with_reducible exact spec_DrawGet32.mono _ _)
      | (with_reducible exact spec_DrawPut16.mono _ _)
      | (with_reducible exact spec_DrawPut32.mono _ _)
      | (with_reducible exact spec_Get16.mono _ _ _ _)
      | (with_reducible exact spec_Get32.mono _ _ _ _)
      | (with_reducible exact LeO.refl _)
      | (with_reducible exact LeO.none _)
      | (with_reducible refine LeO.ite ?_ ?_)
      | (with_reducible refine LeO.bind ?_ (fun _ => ?_))
      | exact ih0 _ _ _ _ _ _ _
      | exact spec_DrawGet16.mono _ _
      | exact spec_DrawGet32.mono _ _
      | exact spec_DrawPut16.mono _ _
      | exact spec_DrawPut32.mono _ _
      | exact spec_Get16.mono _ _ _ _
      | exact spec_Get32.mono _ _ _ _
      | exact LeO.none _
      | refine LeO.ite ?_ ?_
      | refine LeO.bind ?_ (fun _ => ?_)
set_option maxHeartbeats 8000000 in
set_option maxRecDepth 100000 in
theorem laws_FnWords.calls (k : Nat) (A0 : Option Addr) (c0 : Nat) (l0 : List Int) (r : Bool) (w : World) (hr0 : Kd.C (Kd.int .u8) w A0 l0.length l0) (hc0 : l0.length ≤ c0) (h : laws_FnWords.f k l0 = some r) :
    Calls Try.prog 12 #[.slice A0 l0.length c0] w fun e w' => e = .returned (.bool r) ∧ Below w.heap.size w w' := by
  have HR0 := Aside0.mk hr0
  have HC0 := Aside0.mk hc0
  clear hr0 hc0
  have HB := Aside0.mk (Below.refl w.heap.size w)
  have H : ((laws_big.f l0).bind fun t222 => (if t222 = true then (some true) else ((spec_DrawPut16.f k l0).bind fun bt223 => ((spec_DrawPut32.f k l0).bind fun bt225 => ((spec_DrawGet16.f k l0).bind fun bt227 => ((spec_DrawGet32.f k l0).bind fun bt230 => ((impl_Put16.f bt223.1 bt223.2).bind fun t233 => ((impl_Put32.f bt225.1 bt225.2).bind fun t234 => ((spec_Put16.f bt223.1 bt223.2).bind fun t235 => (if t233.toList = t235.toList then ((spec_Put32.f bt225.1 bt225.2).bind fun t236 => (if t234.toList = t236.toList then ((impl_Get16.f bt227.1 bt227.2.1 bt227.2.2).bind fun t237 => ((spec_Get16.f k bt227.1 bt227.2.1 bt227.2.2).bind fun t238 => (if t237 = t238 then ((impl_Get32.f bt230.1 bt230.2.1 bt230.2.2).bind fun t239 => ((spec_Get32.f k bt230.1 bt230.2.1 bt230.2.2).bind fun t240 => (laws_FnWords.j0 k bt223.1 bt223.2 bt225.1 bt225.2 t233 t234 (t239 != t240)))) else (laws_FnWords.j0 k bt223.1 bt223.2 bt225.1 bt225.2 t233 t234 true)))) else (laws_FnWords.j0 k bt223.1 bt223.2 bt225.1 bt225.2 t233 t234 true))) else (laws_FnWords.j0 k bt223.1 bt223.2 bt225.1 bt225.2 t233 t234 true))))))))))) = some r := h
  clear h
  replace H := Option.bind_eq_some_iff.mp H
  obtain ⟨t222, A20, H⟩ := H
  replace H : (if t222 = true then (some true) else ((spec_DrawPut16.f k l0).bind fun bt223 => ((spec_DrawPut32.f k l0).bind fun bt225 => ((spec_DrawGet16.f k l0).bind fun bt227 => ((spec_DrawGet32.f k l0).bind fun bt230 => ((impl_Put16.f bt223.1 bt223.2).bind fun t233 => ((impl_Put32.f bt225.1 bt225.2).bind fun t234 => ((spec_Put16.f bt223.1 bt223.2).bind fun t235 => (if t233.toList = t235.toList then ((spec_Put32.f bt225.1 bt225.2).bind fun t236 => (if t234.toList = t236.toList then ((impl_Get16.f bt227.1 bt227.2.1 bt227.2.2).bind fun t237 => ((spec_Get16.f k bt227.1 bt227.2.1 bt227.2.2).bind fun t238 => (if t237 = t238 then ((impl_Get32.f bt230.1 bt230.2.1 bt230.2.2).bind fun t239 => ((spec_Get32.f k bt230.1 bt230.2.1 bt230.2.2).bind fun t240 => (laws_FnWords.j0 k bt223.1 bt223.2 bt225.1 bt225.2 t233 t234 (t239 != t240)))) else (laws_FnWords.j0 k bt223.1 bt223.2 bt225.1 bt225.2 t233 t234 true)))) else (laws_FnWords.j0 k bt223.1 bt223.2 bt225.1 bt225.2 t233 t234 true))) else (laws_FnWords.j0 k bt223.1 bt223.2 bt225.1 bt225.2 t233 t234 true)))))))))) = some r := H
  have A2 := Aside0.mk A20
  clear A20
  by_cases c3 : t222 = true
  · subst c3
    have H1 : (some true) = some r := by rw [if_pos rfl] at H; exact H
    clear H
    have H := H1
    clear H1
    obtain rfl := Option.some.inj H
    go_enter Try.func12, Try.ntmps12
    go_wp2_with (first | ((with_reducible refine gate_callee (f := 35) rfl ?_); refine goesL_ (some 16) rfl rfl Try.func35 (by kernel_rfl) rfl #[.slice A0 l0.length c0] rfl (by (try simp only [List.map_toArray, List.map_cons, List.map_nil]); first | done | rfl | (simp only [List.length_drop, List.length_take]; rfl)) ?_; (with_reducible refine (laws_big.calls _ _ l0 true _ ?side1 ?side2 A2.out).mono ?_); (case side1 => repeat (first | exact HR0.out | (with_reducible refine Kd.C_alloc ?_ _) | (with_reducible refine Kd.C_drewN ?_ _) | (with_reducible refine Kd.C_drew ?_))); (case side2 => exact HC0.out); rintro e w' ⟨rfl, ⟨nd, rfl⟩⟩; refine ⟨_, rfl, ?_⟩))
    go_ret
    exact ⟨by first | rfl | (simp [errW_none, errW_some] <;> rfl) | (simp [*, errW_none, errW_some] <;> rfl), by repeat (first | (with_reducible first | exact HB.out | apply below_alloc | apply pw_below_drewN | apply below_drew1) | exact HB.out)⟩
  · replace c3 := Bool.eq_false_iff.mpr c3
    subst c3
    have H1 : ((spec_DrawPut16.f k l0).bind fun bt223 => ((spec_DrawPut32.f k l0).bind fun bt225 => ((spec_DrawGet16.f k l0).bind fun bt227 => ((spec_DrawGet32.f k l0).bind fun bt230 => ((impl_Put16.f bt223.1 bt223.2).bind fun t233 => ((impl_Put32.f bt225.1 bt225.2).bind fun t234 => ((spec_Put16.f bt223.1 bt223.2).bind fun t235 => (if t233.toList = t235.toList then ((spec_Put32.f bt225.1 bt225.2).bind fun t236 => (if t234.toList = t236.toList then ((impl_Get16.f bt227.1 bt227.2.1 bt227.2.2).bind fun t237 => ((spec_Get16.f k bt227.1 bt227.2.1 bt227.2.2).bind fun t238 => (if t237 = t238 then ((impl_Get32.f bt230.1 bt230.2.1 bt230.2.2).bind fun t239 => ((spec_Get32.f k bt230.1 bt230.2.1 bt230.2.2).bind fun t240 => (laws_FnWords.j0 k bt223.1 bt223.2 bt225.1 bt225.2 t233 t234 (t239 != t240)))) else (laws_FnWords.j0 k bt223.1 bt223.2 bt225.1 bt225.2 t233 t234 true)))) else (laws_FnWords.j0 k bt223.1 bt223.2 bt225.1 bt225.2 t233 t234 true))) else (laws_FnWords.j0 k bt223.1 bt223.2 bt225.1 bt225.2 t233 t234 true))))))))) = some r := by rw [if_neg (show ¬ (false = true) by decide)] at H; exact H
    clear H
    have H := H1
    clear H1
    replace H := Option.bind_eq_some_iff.mp H
    obtain ⟨⟨t223, t224⟩, A40, H⟩ := H
    replace H : ((spec_DrawPut32.f k l0).bind fun bt225 => ((spec_DrawGet16.f k l0).bind fun bt227 => ((spec_DrawGet32.f k l0).bind fun bt230 => ((impl_Put16.f t223 t224).bind fun t233 => ((impl_Put32.f bt225.1 bt225.2).bind fun t234 => ((spec_Put16.f t223 t224).bind fun t235 => (if t233.toList = t235.toList then ((spec_Put32.f bt225.1 bt225.2).bind fun t236 => (if t234.toList = t236.toList then ((impl_Get16.f bt227.1 bt227.2.1 bt227.2.2).bind fun t237 => ((spec_Get16.f k bt227.1 bt227.2.1 bt227.2.2).bind fun t238 => (if t237 = t238 then ((impl_Get32.f bt230.1 bt230.2.1 bt230.2.2).bind fun t239 => ((spec_Get32.f k bt230.1 bt230.2.1 bt230.2.2).bind fun t240 => (laws_FnWords.j0 k t223 t224 bt225.1 bt225.2 t233 t234 (t239 != t240)))) else (laws_FnWords.j0 k t223 t224 bt225.1 bt225.2 t233 t234 true)))) else (laws_FnWords.j0 k t223 t224 bt225.1 bt225.2 t233 t234 true))) else (laws_FnWords.j0 k t223 t224 bt225.1 bt225.2 t233 t234 true)))))))) = some r := H
    have A4 := Aside0.mk A40
    clear A40
    replace H := Option.bind_eq_some_iff.mp H
    obtain ⟨⟨t225, t226⟩, A50, H⟩ := H
    replace H : ((spec_DrawGet16.f k l0).bind fun bt227 => ((spec_DrawGet32.f k l0).bind fun bt230 => ((impl_Put16.f t223 t224).bind fun t233 => ((impl_Put32.f t225 t226).bind fun t234 => ((spec_Put16.f t223 t224).bind fun t235 => (if t233.toList = t235.toList then ((spec_Put32.f t225 t226).bind fun t236 => (if t234.toList = t236.toList then ((impl_Get16.f bt227.1 bt227.2.1 bt227.2.2).bind fun t237 => ((spec_Get16.f k bt227.1 bt227.2.1 bt227.2.2).bind fun t238 => (if t237 = t238 then ((impl_Get32.f bt230.1 bt230.2.1 bt230.2.2).bind fun t239 => ((spec_Get32.f k bt230.1 bt230.2.1 bt230.2.2).bind fun t240 => (laws_FnWords.j0 k t223 t224 t225 t226 t233 t234 (t239 != t240)))) else (laws_FnWords.j0 k t223 t224 t225 t226 t233 t234 true)))) else (laws_FnWords.j0 k t223 t224 t225 t226 t233 t234 true))) else (laws_FnWords.j0 k t223 t224 t225 t226 t233 t234 true))))))) = some r := H
    have A5 := Aside0.mk A50
    clear A50
    replace H := Option.bind_eq_some_iff.mp H
    obtain ⟨⟨t227, t228, t229⟩, A60, H⟩ := H
    replace H : ((spec_DrawGet32.f k l0).bind fun bt230 => ((impl_Put16.f t223 t224).bind fun t233 => ((impl_Put32.f t225 t226).bind fun t234 => ((spec_Put16.f t223 t224).bind fun t235 => (if t233.toList = t235.toList then ((spec_Put32.f t225 t226).bind fun t236 => (if t234.toList = t236.toList then ((impl_Get16.f t227 t228 t229).bind fun t237 => ((spec_Get16.f k t227 t228 t229).bind fun t238 => (if t237 = t238 then ((impl_Get32.f bt230.1 bt230.2.1 bt230.2.2).bind fun t239 => ((spec_Get32.f k bt230.1 bt230.2.1 bt230.2.2).bind fun t240 => (laws_FnWords.j0 k t223 t224 t225 t226 t233 t234 (t239 != t240)))) else (laws_FnWords.j0 k t223 t224 t225 t226 t233 t234 true)))) else (laws_FnWords.j0 k t223 t224 t225 t226 t233 t234 true))) else (laws_FnWords.j0 k t223 t224 t225 t226 t233 t234 true)))))) = some r := H
    have A6 := Aside0.mk A60
    clear A60
    replace H := Option.bind_eq_some_iff.mp H
    obtain ⟨⟨t230, t231, t232⟩, A70, H⟩ := H
    replace H : ((impl_Put16.f t223 t224).bind fun t233 => ((impl_Put32.f t225 t226).bind fun t234 => ((spec_Put16.f t223 t224).bind fun t235 => (if t233.toList = t235.toList then ((spec_Put32.f t225 t226).bind fun t236 => (if t234.toList = t236.toList then ((impl_Get16.f t227 t228 t229).bind fun t237 => ((spec_Get16.f k t227 t228 t229).bind fun t238 => (if t237 = t238 then ((impl_Get32.f t230 t231 t232).bind fun t239 => ((spec_Get32.f k t230 t231 t232).bind fun t240 => (laws_FnWords.j0 k t223 t224 t225 t226 t233 t234 (t239 != t240)))) else (laws_FnWords.j0 k t223 t224 t225 t226 t233 t234 true)))) else (laws_FnWords.j0 k t223 t224 t225 t226 t233 t234 true))) else (laws_FnWords.j0 k t223 t224 t225 t226 t233 t234 true))))) = some r := H
    have A7 := Aside0.mk A70
    clear A70
    replace H := Option.bind_eq_some_iff.mp H
    obtain ⟨t233, A80, H⟩ := H
    replace H : ((impl_Put32.f t225 t226).bind fun t234 => ((spec_Put16.f t223 t224).bind fun t235 => (if t233.toList = t235.toList then ((spec_Put32.f t225 t226).bind fun t236 => (if t234.toList = t236.toList then ((impl_Get16.f t227 t228 t229).bind fun t237 => ((spec_Get16.f k t227 t228 t229).bind fun t238 => (if t237 = t238 then ((impl_Get32.f t230 t231 t232).bind fun t239 => ((spec_Get32.f k t230 t231 t232).bind fun t240 => (laws_FnWords.j0 k t223 t224 t225 t226 t233 t234 (t239 != t240)))) else (laws_FnWords.j0 k t223 t224 t225 t226 t233 t234 true)))) else (laws_FnWords.j0 k t223 t224 t225 t226 t233 t234 true))) else (laws_FnWords.j0 k t223 t224 t225 t226 t233 t234 true)))) = some r := H
    have A8 := Aside0.mk A80
    clear A80
    replace H := Option.bind_eq_some_iff.mp H
    obtain ⟨t234, A90, H⟩ := H
    replace H : ((spec_Put16.f t223 t224).bind fun t235 => (if t233.toList = t235.toList then ((spec_Put32.f t225 t226).bind fun t236 => (if t234.toList = t236.toList then ((impl_Get16.f t227 t228 t229).bind fun t237 => ((spec_Get16.f k t227 t228 t229).bind fun t238 => (if t237 = t238 then ((impl_Get32.f t230 t231 t232).bind fun t239 => ((spec_Get32.f k t230 t231 t232).bind fun t240 => (laws_FnWords.j0 k t223 t224 t225 t226 t233 t234 (t239 != t240)))) else (laws_FnWords.j0 k t223 t224 t225 t226 t233 t234 true)))) else (laws_FnWords.j0 k t223 t224 t225 t226 t233 t234 true))) else (laws_FnWords.j0 k t223 t224 t225 t226 t233 t234 true))) = some r := H
    have A9 := Aside0.mk A90
    clear A90
    have HC10 := Aside0.mk H
    clear H
    go_enter Try.func12, Try.ntmps12
    go_upto_region 8 with (first | ((with_reducible refine gate_callee (f := 35) rfl ?_); refine goesL_ (some 16) rfl rfl Try.func35 (by kernel_rfl) rfl #[.slice A0 l0.length c0] rfl (by (try simp only [List.map_toArray, List.map_cons, List.map_nil]); first | done | rfl | (simp only [List.length_drop, List.length_take]; rfl)) ?_; (with_reducible refine (laws_big.calls _ _ l0 false _ ?side1 ?side2 A2.out).mono ?_); (case side1 => repeat (first | exact HR0.out | (with_reducible refine Kd.C_alloc ?_ _) | (with_reducible refine Kd.C_drewN ?_ _) | (with_reducible refine Kd.C_drew ?_))); (case side2 => exact HC0.out); rintro e w' ⟨rfl, ⟨nd, rfl⟩⟩; refine ⟨_, rfl, ?_⟩) | ((with_reducible refine gate_callee (f := 36) rfl ?_); refine goesL_ (some 19) rfl rfl Try.func36 (by kernel_rfl) rfl #[.slice A0 l0.length c0] rfl (by (try simp only [List.map_toArray, List.map_cons, List.map_nil]); first | done | rfl | (simp only [List.length_drop, List.length_take]; rfl)) ?_; (with_reducible refine (spec_DrawPut16.calls k _ _ l0 t223 t224 _ ?side1 ?side2 A4.out).mono ?_); (case side1 => repeat (first | exact HR0.out | (with_reducible refine Kd.C_alloc ?_ _) | (with_reducible refine Kd.C_drewN ?_ _) | (with_reducible refine Kd.C_drew ?_))); (case side2 => exact HC0.out); rintro e w11 ⟨rfl, hb⟩; refine ⟨_, rfl, ?_⟩; have n0_ := Aside0.mk (below_step (by repeat (first | (with_reducible first | exact HB.out | apply below_alloc | apply pw_below_drewN | apply below_drew1) | exact HB.out)) hb); clear HB; have HB := n0_; clear n0_; (try clear hb); (try clear hb2); (try clear hk); (try clear hi)) | ((with_reducible refine gate_callee (f := 37) rfl ?_); refine goesL_ (some 24) rfl rfl Try.func37 (by kernel_rfl) rfl #[.slice A0 l0.length c0] rfl (by (try simp only [List.map_toArray, List.map_cons, List.map_nil]); first | done | rfl | (simp only [List.length_drop, List.length_take]; rfl)) ?_; (with_reducible refine (spec_DrawPut32.calls k _ _ l0 t225 t226 _ ?side1 ?side2 A5.out).mono ?_); (case side1 => repeat (first | exact (Kd.C_below HR0.out HB.out) | (with_reducible refine Kd.C_alloc ?_ _) | (with_reducible refine Kd.C_drewN ?_ _) | (with_reducible refine Kd.C_drew ?_))); (case side2 => exact HC0.out); rintro e w12 ⟨rfl, hb⟩; refine ⟨_, rfl, ?_⟩; have n0_ := Aside0.mk (below_step (by repeat (first | (with_reducible first | exact HB.out | apply below_alloc | apply pw_below_drewN | apply below_drew1) | exact HB.out)) hb); clear HB; have HB := n0_; clear n0_; (try clear hb); (try clear hb2); (try clear hk); (try clear hi)) | ((with_reducible refine gate_callee (f := 38) rfl ?_); refine goesL_ (some 29) rfl rfl Try.func38 (by kernel_rfl) rfl #[.slice A0 l0.length c0] rfl (by (try simp only [List.map_toArray, List.map_cons, List.map_nil]); first | done | rfl | (simp only [List.length_drop, List.length_take]; rfl)) ?_; (with_reducible refine (spec_DrawGet16.calls k _ _ l0 t227 t228 t229 _ ?side1 ?side2 A6.out).mono ?_); (case side1 => repeat (first | exact (Kd.C_below HR0.out HB.out) | (with_reducible refine Kd.C_alloc ?_ _) | (with_reducible refine Kd.C_drewN ?_ _) | (with_reducible refine Kd.C_drew ?_))); (case side2 => exact HC0.out); rintro e w13 ⟨rfl, hb⟩; refine ⟨_, rfl, ?_⟩; have n0_ := Aside0.mk (below_step (by repeat (first | (with_reducible first | exact HB.out | apply below_alloc | apply pw_below_drewN | apply below_drew1) | exact HB.out)) hb); clear HB; have HB := n0_; clear n0_; (try clear hb); (try clear hb2); (try clear hk); (try clear hi)) | ((with_reducible refine gate_callee (f := 39) rfl ?_); refine goesL_ (some 35) rfl rfl Try.func39 (by kernel_rfl) rfl #[.slice A0 l0.length c0] rfl (by (try simp only [List.map_toArray, List.map_cons, List.map_nil]); first | done | rfl | (simp only [List.length_drop, List.length_take]; rfl)) ?_; (with_reducible refine (spec_DrawGet32.calls k _ _ l0 t230 t231 t232 _ ?side1 ?side2 A7.out).mono ?_); (case side1 => repeat (first | exact (Kd.C_below HR0.out HB.out) | (with_reducible refine Kd.C_alloc ?_ _) | (with_reducible refine Kd.C_drewN ?_ _) | (with_reducible refine Kd.C_drew ?_))); (case side2 => exact HC0.out); rintro e w14 ⟨rfl, hb⟩; refine ⟨_, rfl, ?_⟩; have n0_ := Aside0.mk (below_step (by repeat (first | (with_reducible first | exact HB.out | apply below_alloc | apply pw_below_drewN | apply below_drew1) | exact HB.out)) hb); clear HB; have HB := n0_; clear n0_; (try clear hb); (try clear hb2); (try clear hk); (try clear hi)) | ((with_reducible refine gate_callee (f := 40) rfl ?_); refine goesL_ (some 41) rfl rfl Try.func40 (by kernel_rfl) rfl #[.int .i64 t223, .bool t224] rfl (by (try simp only [List.map_toArray, List.map_cons, List.map_nil]); first | done | rfl | (simp only [List.length_drop, List.length_take]; rfl)) ?_; (with_reducible refine (impl_Put16.calls t223 t224 t233 _ A8.out).mono ?_); rintro e w15 ⟨rfl, hb⟩; refine ⟨_, rfl, ?_⟩; have n0_ := Aside0.mk (below_step (by repeat (first | (with_reducible first | exact HB.out | apply below_alloc | apply pw_below_drewN | apply below_drew1) | exact HB.out)) hb); clear HB; have HB := n0_; clear n0_; (try clear hb); (try clear hb2); (try clear hk); (try clear hi)) | ((with_reducible refine gate_callee (f := 41) rfl ?_); refine goesL_ (some 44) rfl rfl Try.func41 (by kernel_rfl) rfl #[.int .i64 t225, .bool t226] rfl (by (try simp only [List.map_toArray, List.map_cons, List.map_nil]); first | done | rfl | (simp only [List.length_drop, List.length_take]; rfl)) ?_; (with_reducible refine (impl_Put32.calls t225 t226 t234 _ A9.out).mono ?_); rintro e w16 ⟨rfl, hb⟩; refine ⟨_, rfl, ?_⟩; have n0_ := Aside0.mk (below_step (by repeat (first | (with_reducible first | exact HB.out | apply below_alloc | apply pw_below_drewN | apply below_drew1) | exact HB.out)) hb); clear HB; have HB := n0_; clear n0_; (try clear hb); (try clear hb2); (try clear hk); (try clear hi)))
    (try simp only [Act.put, List.setIfInBounds_toArray, List.set_cons_zero, List.set_cons_succ])
    go_cut [4, 6, 78] (fun v4 v6 v78 wc => ∃ (kq : Nat) (x4_9 : Bool) (x6_9 : Bool) (x78_9 : Bool), v4 = .bool x4_9 ∧ v6 = .bool x6_9 ∧ v78 = .bool x78_9 ∧ Aside0 (laws_FnWords.j0 kq t223 x4_9 t225 x6_9 t233 t234 x78_9 = some r) ∧ Aside0 (kq ≤ k) ∧ Aside0 (Below w.heap.size w wc))
    case first =>
      have H := HC10.out
      clear HC10
      replace H := Option.bind_eq_some_iff.mp H
      obtain ⟨t235, A170, H⟩ := H
      replace H : (if t233.toList = t235.toList then ((spec_Put32.f t225 t226).bind fun t236 => (if t234.toList = t236.toList then ((impl_Get16.f t227 t228 t229).bind fun t237 => ((spec_Get16.f k t227 t228 t229).bind fun t238 => (if t237 = t238 then ((impl_Get32.f t230 t231 t232).bind fun t239 => ((spec_Get32.f k t230 t231 t232).bind fun t240 => (laws_FnWords.j0 k t223 t224 t225 t226 t233 t234 (t239 != t240)))) else (laws_FnWords.j0 k t223 t224 t225 t226 t233 t234 true)))) else (laws_FnWords.j0 k t223 t224 t225 t226 t233 t234 true))) else (laws_FnWords.j0 k t223 t224 t225 t226 t233 t234 true)) = some r := H
      have A17 := Aside0.mk A170
      clear A170
      by_cases c18 : t233.toList = t235.toList
      · rw [if_pos c18] at H
        have c18b0 : (t233.toList == t235.toList) = true := beq_iff_eq.mpr c18
        have c18b1 : (t233.toList != t235.toList) = false := bne_eq_false_iff_eq.mpr c18
        clear c18
        (first | rw [c18b0] | (simp only [i64_w, i32_w]; rw [c18b0]) | skip)
        replace H := Option.bind_eq_some_iff.mp H
        obtain ⟨t236, A190, H⟩ := H
        replace H : (if t234.toList = t236.toList then ((impl_Get16.f t227 t228 t229).bind fun t237 => ((spec_Get16.f k t227 t228 t229).bind fun t238 => (if t237 = t238 then ((impl_Get32.f t230 t231 t232).bind fun t239 => ((spec_Get32.f k t230 t231 t232).bind fun t240 => (laws_FnWords.j0 k t223 t224 t225 t226 t233 t234 (t239 != t240)))) else (laws_FnWords.j0 k t223 t224 t225 t226 t233 t234 true)))) else (laws_FnWords.j0 k t223 t224 t225 t226 t233 t234 true)) = some r := H
        have A19 := Aside0.mk A190
        clear A190
        by_cases c20 : t234.toList = t236.toList
        · rw [if_pos c20] at H
          have c20b0 : (t234.toList == t236.toList) = true := beq_iff_eq.mpr c20
          have c20b1 : (t234.toList != t236.toList) = false := bne_eq_false_iff_eq.mpr c20
          clear c20
          replace H := Option.bind_eq_some_iff.mp H
          obtain ⟨t237, A210, H⟩ := H
          replace H : ((spec_Get16.f k t227 t228 t229).bind fun t238 => (if t237 = t238 then ((impl_Get32.f t230 t231 t232).bind fun t239 => ((spec_Get32.f k t230 t231 t232).bind fun t240 => (laws_FnWords.j0 k t223 t224 t225 t226 t233 t234 (t239 != t240)))) else (laws_FnWords.j0 k t223 t224 t225 t226 t233 t234 true))) = some r := H
          have A21 := Aside0.mk A210
          clear A210
          replace H := Option.bind_eq_some_iff.mp H
          obtain ⟨t238, A220, H⟩ := H
          replace H : (if t237 = t238 then ((impl_Get32.f t230 t231 t232).bind fun t239 => ((spec_Get32.f k t230 t231 t232).bind fun t240 => (laws_FnWords.j0 k t223 t224 t225 t226 t233 t234 (t239 != t240)))) else (laws_FnWords.j0 k t223 t224 t225 t226 t233 t234 true)) = some r := H
          have A22 := Aside0.mk A220
          clear A220
          by_cases c23 : t237 = t238
          · rw [if_pos c23] at H
            have c23b0 : (t237 == t238) = true := beq_iff_eq.mpr c23
            have c23b1 : (t237 != t238) = false := bne_eq_false_iff_eq.mpr c23
            clear c23
            replace H := Option.bind_eq_some_iff.mp H
            obtain ⟨t239, A240, H⟩ := H
            replace H : ((spec_Get32.f k t230 t231 t232).bind fun t240 => (laws_FnWords.j0 k t223 t224 t225 t226 t233 t234 (t239 != t240))) = some r := H
            have A24 := Aside0.mk A240
            clear A240
            replace H := Option.bind_eq_some_iff.mp H
            obtain ⟨t240, A250, H⟩ := H
            replace H : (laws_FnWords.j0 k t223 t224 t225 t226 t233 t234 (t239 != t240)) = some r := H
            have A25 := Aside0.mk A250
            clear A250
            have H' := Aside0.mk H
            clear H
            go_wp2_with (first | ((with_reducible refine gate_callee (f := 42) rfl ?_); refine goesL_ (some 48) rfl rfl Try.func42 (by kernel_rfl) rfl #[.int .i64 t223, .bool t224] rfl (by (try simp only [List.map_toArray, List.map_cons, List.map_nil]); first | done | rfl | (simp only [List.length_drop, List.length_take]; rfl)) ?_; (with_reducible refine (spec_Put16.calls t223 t224 t235 _ A17.out).mono ?_); rintro e w26 ⟨rfl, hb⟩; refine ⟨_, rfl, ?_⟩; have n0_ := Aside0.mk (below_step (by repeat (first | (with_reducible first | exact HB.out | apply below_alloc | apply pw_below_drewN | apply below_drew1) | exact HB.out)) hb); clear HB; have HB := n0_; clear n0_; (try clear hb); (try clear hb2); (try clear hk); (try clear hi)) | (go_at_call 43; (with_reducible refine (spec_Put32.calls t225 t226 t236 _ A19.out).mono ?_); rintro e w27 ⟨rfl, hb⟩; have n0_ := Aside0.mk (below_step (by repeat (first | (with_reducible first | exact HB.out | apply below_alloc | apply pw_below_drewN | apply below_drew1) | exact HB.out)) hb); clear HB; have HB := n0_; clear n0_; (try clear hb); (try clear hb2); (try clear hk); (try clear hi)) | (go_at_call 44; (with_reducible refine (impl_Get16.calls t227 t228 t229 t237 _ A21.out).mono ?_); rintro e w' ⟨rfl, ⟨nd, rfl⟩⟩) | (go_at_call 45; (with_reducible refine (spec_Get16.calls k t227 t228 t229 t238 _ A22.out).mono ?_); rintro e w' ⟨rfl, ⟨nd, rfl⟩⟩) | (go_at_call 26; (with_reducible refine (impl_Get32.calls t230 t231 t232 t239 _ A24.out).mono ?_); rintro e w' ⟨rfl, ⟨nd, rfl⟩⟩) | (go_at_call 25; (with_reducible refine (spec_Get32.calls k t230 t231 t232 t240 _ A25.out).mono ?_); rintro e w' ⟨rfl, ⟨nd, rfl⟩⟩))
            go_meet
            case rel => exact ⟨_, (t224), (t226), ((t239 != t240)), (by first | rfl | (simp; done) | (simp [*]; done)), (by first | rfl | (simp; done) | (simp [*]; done)), (by first | rfl | (simp; done) | (simp [*]; done)), H', ⟨by first | omega | exact Nat.le_refl _⟩, ⟨by repeat (first | (with_reducible first | exact HB.out | apply below_alloc | apply pw_below_drewN | apply below_drew1) | exact HB.out)⟩⟩
          · rw [if_neg c23] at H
            have c23b0 : (t237 == t238) = false := beq_eq_false_iff_ne.mpr c23
            have c23b1 : (t237 != t238) = true := bne_iff_ne.mpr c23
            have H' := Aside0.mk H
            clear H
            go_wp2_with (first | ((with_reducible refine gate_callee (f := 42) rfl ?_); refine goesL_ (some 48) rfl rfl Try.func42 (by kernel_rfl) rfl #[.int .i64 t223, .bool t224] rfl (by (try simp only [List.map_toArray, List.map_cons, List.map_nil]); first | done | rfl | (simp only [List.length_drop, List.length_take]; rfl)) ?_; (with_reducible refine (spec_Put16.calls t223 t224 t235 _ A17.out).mono ?_); rintro e w28 ⟨rfl, hb⟩; refine ⟨_, rfl, ?_⟩; have n0_ := Aside0.mk (below_step (by repeat (first | (with_reducible first | exact HB.out | apply below_alloc | apply pw_below_drewN | apply below_drew1) | exact HB.out)) hb); clear HB; have HB := n0_; clear n0_; (try clear hb); (try clear hb2); (try clear hk); (try clear hi)) | (go_at_call 43; (with_reducible refine (spec_Put32.calls t225 t226 t236 _ A19.out).mono ?_); rintro e w29 ⟨rfl, hb⟩; have n0_ := Aside0.mk (below_step (by repeat (first | (with_reducible first | exact HB.out | apply below_alloc | apply pw_below_drewN | apply below_drew1) | exact HB.out)) hb); clear HB; have HB := n0_; clear n0_; (try clear hb); (try clear hb2); (try clear hk); (try clear hi)) | (go_at_call 44; (with_reducible refine (impl_Get16.calls t227 t228 t229 t237 _ A21.out).mono ?_); rintro e w' ⟨rfl, ⟨nd, rfl⟩⟩) | (go_at_call 45; (with_reducible refine (spec_Get16.calls k t227 t228 t229 t238 _ A22.out).mono ?_); rintro e w' ⟨rfl, ⟨nd, rfl⟩⟩))
            go_meet
            case rel => exact ⟨_, (t224), (t226), (true), (by first | rfl | (simp; done) | (simp [*]; done)), (by first | rfl | (simp; done) | (simp [*]; done)), (by first | rfl | (simp; done) | (simp [*]; done)), H', ⟨by first | omega | exact Nat.le_refl _⟩, ⟨by repeat (first | (with_reducible first | exact HB.out | apply below_alloc | apply pw_below_drewN | apply below_drew1) | exact HB.out)⟩⟩
        · rw [if_neg c20] at H
          have c20b0 : (t234.toList == t236.toList) = false := beq_eq_false_iff_ne.mpr c20
          have c20b1 : (t234.toList != t236.toList) = true := bne_iff_ne.mpr c20
          have H' := Aside0.mk H
          clear H
          go_wp2_with (first | ((with_reducible refine gate_callee (f := 42) rfl ?_); refine goesL_ (some 48) rfl rfl Try.func42 (by kernel_rfl) rfl #[.int .i64 t223, .bool t224] rfl (by (try simp only [List.map_toArray, List.map_cons, List.map_nil]); first | done | rfl | (simp only [List.length_drop, List.length_take]; rfl)) ?_; (with_reducible refine (spec_Put16.calls t223 t224 t235 _ A17.out).mono ?_); rintro e w30 ⟨rfl, hb⟩; refine ⟨_, rfl, ?_⟩; have n0_ := Aside0.mk (below_step (by repeat (first | (with_reducible first | exact HB.out | apply below_alloc | apply pw_below_drewN | apply below_drew1) | exact HB.out)) hb); clear HB; have HB := n0_; clear n0_; (try clear hb); (try clear hb2); (try clear hk); (try clear hi)) | (go_at_call 43; (with_reducible refine (spec_Put32.calls t225 t226 t236 _ A19.out).mono ?_); rintro e w31 ⟨rfl, hb⟩; have n0_ := Aside0.mk (below_step (by repeat (first | (with_reducible first | exact HB.out | apply below_alloc | apply pw_below_drewN | apply below_drew1) | exact HB.out)) hb); clear HB; have HB := n0_; clear n0_; (try clear hb); (try clear hb2); (try clear hk); (try clear hi)))
          go_meet
          case rel => exact ⟨_, (t224), (t226), (true), (by first | rfl | (simp; done) | (simp [*]; done)), (by first | rfl | (simp; done) | (simp [*]; done)), (by first | rfl | (simp; done) | (simp [*]; done)), H', ⟨by first | omega | exact Nat.le_refl _⟩, ⟨by repeat (first | (with_reducible first | exact HB.out | apply below_alloc | apply pw_below_drewN | apply below_drew1) | exact HB.out)⟩⟩
      · rw [if_neg c18] at H
        have c18b0 : (t233.toList == t235.toList) = false := beq_eq_false_iff_ne.mpr c18
        have c18b1 : (t233.toList != t235.toList) = true := bne_iff_ne.mpr c18
        (first | rw [c18b0] | (simp only [i64_w, i32_w]; rw [c18b0]) | skip)
        have H' := Aside0.mk H
        clear H
        go_wp2_with (first | ((with_reducible refine gate_callee (f := 42) rfl ?_); refine goesL_ (some 48) rfl rfl Try.func42 (by kernel_rfl) rfl #[.int .i64 t223, .bool t224] rfl (by (try simp only [List.map_toArray, List.map_cons, List.map_nil]); first | done | rfl | (simp only [List.length_drop, List.length_take]; rfl)) ?_; (with_reducible refine (spec_Put16.calls t223 t224 t235 _ A17.out).mono ?_); rintro e w32 ⟨rfl, hb⟩; refine ⟨_, rfl, ?_⟩; have n0_ := Aside0.mk (below_step (by repeat (first | (with_reducible first | exact HB.out | apply below_alloc | apply pw_below_drewN | apply below_drew1) | exact HB.out)) hb); clear HB; have HB := n0_; clear n0_; (try clear hb); (try clear hb2); (try clear hk); (try clear hi)))
        go_meet
        case rel => exact ⟨_, (t224), (t226), (true), (by first | rfl | (simp; done) | (simp [*]; done)), (by first | rfl | (simp; done) | (simp [*]; done)), (by first | rfl | (simp; done) | (simp [*]; done)), H', ⟨by first | omega | exact Nat.le_refl _⟩, ⟨by repeat (first | (with_reducible first | exact HB.out | apply below_alloc | apply pw_below_drewN | apply below_drew1) | exact HB.out)⟩⟩
    case rest =>
      clear HC10
      try clear c1
      try clear c2
      try clear p2
      try clear c3
      try clear c4
      try clear c12
      try clear c18
      try clear c18b0
      try clear c18b1
      try clear c20
      try clear c20b0
      try clear c20b1
      try clear c23
      try clear c23b0
      try clear c23b1
      obtain ⟨kq, x4_9, x6_9, x78_9, rfl, rfl, rfl, HA, HJ9, HB⟩ := hcut
      cases kq with
      | zero => exact absurd HA.out (by simp [laws_FnWords.j0])
      | succ kj9 =>
        have H := HA.out
        clear HA
        simp only [laws_FnWords.j0] at H
        by_cases c33 : x78_9 = true
        · subst c33
          have H1 : (some false) = some r := by rw [if_pos rfl] at H; exact H
          clear H
          have H := H1
          clear H1
          obtain rfl := Option.some.inj H
          go_wp2
          go_ret
          exact ⟨by first | rfl | (simp [errW_none, errW_some] <;> rfl) | (simp [*, errW_none, errW_some] <;> rfl), by repeat (first | (with_reducible first | exact HB.out | apply below_alloc | apply pw_below_drewN | apply below_drew1) | exact HB.out)⟩
        · replace c33 := Bool.eq_false_iff.mpr c33
          subst c33
          have H1 : ((impl_Get16.f t233 0 x4_9).bind fun t241 => (if t241 = (Go.bits .and .i64 t223 65535) then ((impl_Get32.f t234 0 x6_9).bind fun t242 => (some (t242 == (Go.bits .and .i64 t225 4294967295)))) else (some false))) = some r := by rw [if_neg (show ¬ (false = true) by decide)] at H; exact H
          clear H
          have H := H1
          clear H1
          replace H := Option.bind_eq_some_iff.mp H
          obtain ⟨t241, A340, H⟩ := H
          replace H : (if t241 = (Go.bits .and .i64 t223 65535) then ((impl_Get32.f t234 0 x6_9).bind fun t242 => (some (t242 == (Go.bits .and .i64 t225 4294967295)))) else (some false)) = some r := H
          have A34 := Aside0.mk A340
          clear A340
          by_cases c35 : t241 = (Go.bits .and .i64 t223 65535)
          · rw [if_pos c35] at H
            have c35b0 : (t241 == (Go.bits .and .i64 t223 65535)) = true := beq_iff_eq.mpr c35
            have c35b1 : (t241 != (Go.bits .and .i64 t223 65535)) = false := bne_eq_false_iff_eq.mpr c35
            clear c35
            replace H := Option.bind_eq_some_iff.mp H
            obtain ⟨t242, A360, H⟩ := H
            replace H : (some (t242 == (Go.bits .and .i64 t225 4294967295))) = some r := H
            have A36 := Aside0.mk A360
            clear A360
            obtain rfl := Option.some.inj H
            go_wp2_with (first | ((with_reducible refine gate_callee (f := 44) rfl ?_); refine goesL_ (some 81) rfl rfl Try.func44 (by kernel_rfl) rfl #[.string t233, .int .i64 0, .bool x4_9] rfl (by (try simp only [List.map_toArray, List.map_cons, List.map_nil]); first | done | rfl | (simp only [List.length_drop, List.length_take]; rfl)) ?_; (with_reducible refine (impl_Get16.calls t233 0 x4_9 t241 _ A34.out).mono ?_); rintro e w' ⟨rfl, ⟨nd, rfl⟩⟩; refine ⟨_, rfl, ?_⟩) | (go_at_call 26; (with_reducible refine (impl_Get32.calls t234 0 x6_9 t242 _ A36.out).mono ?_); rintro e w' ⟨rfl, ⟨nd, rfl⟩⟩))
            go_ret
            exact ⟨by first | rfl | (simp [errW_none, errW_some] <;> rfl) | (simp [*, errW_none, errW_some] <;> rfl), by repeat (first | (with_reducible first | exact HB.out | apply below_alloc | apply pw_below_drewN | apply below_drew1) | exact HB.out)⟩
          · rw [if_neg c35] at H
            have c35b0 : (t241 == (Go.bits .and .i64 t223 65535)) = false := beq_eq_false_iff_ne.mpr c35
            have c35b1 : (t241 != (Go.bits .and .i64 t223 65535)) = true := bne_iff_ne.mpr c35
            obtain rfl := Option.some.inj H
            go_wp2_with (first | ((with_reducible refine gate_callee (f := 44) rfl ?_); refine goesL_ (some 81) rfl rfl Try.func44 (by kernel_rfl) rfl #[.string t233, .int .i64 0, .bool x4_9] rfl (by (try simp only [List.map_toArray, List.map_cons, List.map_nil]); first | done | rfl | (simp only [List.length_drop, List.length_take]; rfl)) ?_; (with_reducible refine (impl_Get16.calls t233 0 x4_9 t241 _ A34.out).mono ?_); rintro e w' ⟨rfl, ⟨nd, rfl⟩⟩; refine ⟨_, rfl, ?_⟩))
            go_ret
            exact ⟨by first | rfl | (simp [errW_none, errW_some] <;> rfl) | (simp [*, errW_none, errW_some] <;> rfl), by repeat (first | (with_reducible first | exact HB.out | apply below_alloc | apply pw_below_drewN | apply below_drew1) | exact HB.out)⟩

/-- THE ONE PURE STATEMENT of laws_FnWords: yours. -/
def laws_FnWords.Pure : Prop := ∀ (l0 : List Int), l0.length ≤ maxLen → l0.length * 1 ≤ 140737488351232 → (∀ x ∈ l0, (Lit.int .u8 x).wf = true) → ∃ k, laws_FnWords.f k l0 = some true
theorem laws_FnWords.walk (P : laws_FnWords.Pure) (a0 : Option Addr) (len0 cap0 : Nat) (z0 : List Int) (w : World) (w0 : (a0 = none ∧ len0 = 0 ∧ cap0 = 0 ∧ z0 = []) ∨ ∃ x, a0 = some x ∧ len0 ≤ cap0 ∧ cap0 ≤ maxLen ∧ z0.length = cap0 ∧ (∀ i, i < z0.length → w.cell? (x.add i) = some (.int .u8 (z0.getD i 0))) ∧ ∀ n ∈ z0, (Lit.int .u8 n).wf = true) (y0 : len0 * 1 ≤ 140737488351232) :
    Calls Try.prog 12 #[.slice a0 len0 cap0] w fun e w' => e = .returned (.bool true) ∧ Below w.heap.size w w' := by
  obtain ⟨l0, rfl, hr0, hm0, hw0, hc0⟩ := ReadsInt.ofRowC w0
  obtain ⟨k, h⟩ := P l0 hm0 y0 hw0
  refine (laws_FnWords.calls k _ _ l0 true w (Kd.C_of_reads (d := (0 : Int)) (h1 := fun _ => rfl) hr0) hc0 h).mono ?_
  rintro e w' ⟨rfl, hd⟩
  exact ⟨rfl, hd⟩

end Go.Proofs.Ytfmhajlpaelmeaa.PFnWords
