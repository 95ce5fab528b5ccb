/-
The row and the tied card of the law FnExactMerge: called with any arguments that can be read, the law returns true and its arguments read as before. Conditions: none beyond the row's own.
-/
import Derived.Test.YtgmggpgcfonmgaaDoorRows
import Derived.Test.YtgmggpgcfonmgaaDoorTie
import Derived.Test.YtgmggpgcfonmgaaDoorCards
import Derived.Test.YtgmggpgcfonmgaaDoorPFnExactMergex12
import Derived.Test.YtgmggpgcfonmgaaDoorPureFnExactMerge
import Derived.WalkKit
import Derived.ProofKit
import Derived.OpenShut
import Derived.ShutString
import Derived.ChangeOld
import Derived.Below
import Derived.SizedLaws
import Derived.Deep.Slices
import Derived.Lib.SmallJoins
import Derived.Carry
import Derived.Test.YtgmggpgcfonmgaaDoorWSized
import Derived.LaidMore
import Derived.Lay
import Derived.SevenTiedAt
import Derived.Stop.Joined
namespace Go.Proofs.YtgmggpgcfonmgaaDoor.fnExactMerge
open Go Go.ChangeShapes Go.WideShapes Go.ChangeAt Go.RowKit Go.Deep Go.Proofs.YtgmggpgcfonmgaaDoor.PFnExactMerge Go.Proofs.YtgmggpgcfonmgaaDoorW.PrintWords
open Go.ChangeMaps (open_string shut_string)
set_option linter.unusedVariables false
set_option linter.unusedSimpArgs false
theorem own : ownKnob Tryd.prog.godebug = none := by kernel_rfl
theorem laidOut : laidOutB Tryd.prog = true := by kernel_rfl
theorem cells3 : Tryd.prog.cellsOf 3 = 1 := by kernel_rfl
theorem cells9 : Tryd.prog.cellsOf 9 = 1 := by kernel_rfl
theorem cells33 : Tryd.prog.cellsOf 33 = 10 := by kernel_rfl
set_option maxRecDepth 50000 in
theorem open33 {H : Type} {enc : TypeId × Value → H} {w : World} {base : Nat} {spare : Nat → Bool} {held : Bool} {fuel : Nat} {cs : List Value} {x : DataW H × List MemPlace} (h : DataW.trod enc Tryd.prog w base spare held fuel 33 cs = some x) :
    ∃ (b0 : Int) (b1 : ByteArray) (b2 : ByteArray) (b3 : Int) (b4 : Int) (b5 : Int) (b6 : Int) (b7 : ByteArray) (b8 : ByteArray) (b9 : ByteArray), cs = [.int .i64 b0, .string b1, .string b2, .int .i64 b3, .int .i64 b4, .int .i64 b5, .int .i64 b6, .string b7, .string b8, .string b9] ∧ (Lit.int .i64 b0).wf = true ∧ b1.size ≤ 9223372036854775807 ∧ b2.size ≤ 9223372036854775807 ∧ (Lit.int .i64 b3).wf = true ∧ (Lit.int .i64 b4).wf = true ∧ (Lit.int .i64 b5).wf = true ∧ (Lit.int .i64 b6).wf = true ∧ b7.size ≤ 9223372036854775807 ∧ b8.size ≤ 9223372036854775807 ∧ b9.size ≤ 9223372036854775807 := by
  obtain ⟨xs, n, _, rfl, hlen, hxs, hf⟩ := DataW.trod_struct Tryd.underlying33 h
  rw [cells33] at hlen
  match cs, hlen, xs, hxs with
  | [c0, c1, c2, c3, c4, c5, c6, c7, c8, c9], _, [y0, y1, y2, y3, y4, y5, y6, y7, y8, y9], _ =>
    have g0 := hf 0 _ rfl
    simp only [cells3, List.drop_succ_cons, List.drop_zero, List.take_succ_cons, List.take_zero, List.getElem?_cons_succ, List.getElem?_cons_zero] at g0
    obtain ⟨b0, e0, _, w0⟩ := DataW.trod_int Tryd.underlying3 g0
    obtain rfl := (List.cons.inj e0).1
    have g1 := hf 1 _ rfl
    simp only [cells9, List.drop_succ_cons, List.drop_zero, List.take_succ_cons, List.take_zero, List.getElem?_cons_succ, List.getElem?_cons_zero] at g1
    obtain ⟨b1, e1, _, w1⟩ := DataW.trod_string Tryd.underlying9 g1
    obtain rfl := (List.cons.inj e1).1
    have g2 := hf 2 _ rfl
    simp only [cells9, List.drop_succ_cons, List.drop_zero, List.take_succ_cons, List.take_zero, List.getElem?_cons_succ, List.getElem?_cons_zero] at g2
    obtain ⟨b2, e2, _, w2⟩ := DataW.trod_string Tryd.underlying9 g2
    obtain rfl := (List.cons.inj e2).1
    have g3 := hf 3 _ rfl
    simp only [cells3, List.drop_succ_cons, List.drop_zero, List.take_succ_cons, List.take_zero, List.getElem?_cons_succ, List.getElem?_cons_zero] at g3
    obtain ⟨b3, e3, _, w3⟩ := DataW.trod_int Tryd.underlying3 g3
    obtain rfl := (List.cons.inj e3).1
    have g4 := hf 4 _ rfl
    simp only [cells3, List.drop_succ_cons, List.drop_zero, List.take_succ_cons, List.take_zero, List.getElem?_cons_succ, List.getElem?_cons_zero] at g4
    obtain ⟨b4, e4, _, w4⟩ := DataW.trod_int Tryd.underlying3 g4
    obtain rfl := (List.cons.inj e4).1
    have g5 := hf 5 _ rfl
    simp only [cells3, List.drop_succ_cons, List.drop_zero, List.take_succ_cons, List.take_zero, List.getElem?_cons_succ, List.getElem?_cons_zero] at g5
    obtain ⟨b5, e5, _, w5⟩ := DataW.trod_int Tryd.underlying3 g5
    obtain rfl := (List.cons.inj e5).1
    have g6 := hf 6 _ rfl
    simp only [cells3, List.drop_succ_cons, List.drop_zero, List.take_succ_cons, List.take_zero, List.getElem?_cons_succ, List.getElem?_cons_zero] at g6
    obtain ⟨b6, e6, _, w6⟩ := DataW.trod_int Tryd.underlying3 g6
    obtain rfl := (List.cons.inj e6).1
    have g7 := hf 7 _ rfl
    simp only [cells9, List.drop_succ_cons, List.drop_zero, List.take_succ_cons, List.take_zero, List.getElem?_cons_succ, List.getElem?_cons_zero] at g7
    obtain ⟨b7, e7, _, w7⟩ := DataW.trod_string Tryd.underlying9 g7
    obtain rfl := (List.cons.inj e7).1
    have g8 := hf 8 _ rfl
    simp only [cells9, List.drop_succ_cons, List.drop_zero, List.take_succ_cons, List.take_zero, List.getElem?_cons_succ, List.getElem?_cons_zero] at g8
    obtain ⟨b8, e8, _, w8⟩ := DataW.trod_string Tryd.underlying9 g8
    obtain rfl := (List.cons.inj e8).1
    have g9 := hf 9 _ rfl
    simp only [cells9, List.drop_succ_cons, List.drop_zero, List.take_succ_cons, List.take_zero, List.getElem?_cons_succ, List.getElem?_cons_zero] at g9
    obtain ⟨b9, e9, _, w9⟩ := DataW.trod_string Tryd.underlying9 g9
    obtain rfl := (List.cons.inj e9).1
    exact ⟨b0, b1, b2, b3, b4, b5, b6, b7, b8, b9, rfl, w0, w1, w2, w3, w4, w5, w6, w7, w8, w9⟩
theorem row22 {H : Type} {enc : TypeId × Value → H} {w : World} {base : Nat} {spare : Nat → Bool} {held : Bool} {A : Option Addr} {len cap : Nat} {d : DataW H} {p : List MemPlace} (h : DataW.Trod enc Tryd.prog w base spare held 22 (.slice A len cap) d p) :
    ∃ l : List S33, l.length = len ∧ len ≤ cap ∧ l.length ≤ 9223372036854775807 ∧ Kd.C k33 w A l.length l ∧ ∀ x ∈ l, Pure.Ok33 x := by
  obtain ⟨fuel, hf⟩ := h
  rcases open_slice Tryd.underlying22 hf with ⟨hcs, _⟩ | ⟨a, l1, c1, m, n, D, Pl, hcs, _, hl, hm, hmm, _, hx⟩
  · simp only [Value.cells, List.cons.injEq, Value.slice.injEq, and_true] at hcs
    obtain ⟨rfl, rfl, rfl⟩ := hcs
    exact ⟨[], rfl, Nat.le_refl _, Nat.zero_le _, Kd.C_nil _ _, fun x hx => by cases hx⟩
  · simp only [Value.cells, List.cons.injEq, Value.slice.injEq, and_true] at hcs
    obtain ⟨rfl, rfl, rfl⟩ := hcs
    have hlm : len ≤ m := by rw [hmm]; split <;> omega
    have key : ∀ i, i < len → ∃ x : S33, (∃ c, c.length = 10 ∧ (Kd.K k33 w x c) ∧ ∀ q u, c[q]? = some u → w.cell? (a.add (i * 10 + q)) = some u) ∧ Pure.Ok33 x := by
      intro i hi
      obtain ⟨cs', h1, h2⟩ := hx i (by omega)
      rw [cells33] at h1
      obtain ⟨b0, b1, b2, b3, b4, b5, b6, b7, b8, b9, rfl, w0, w1, w2, w3, w4, w5, w6, w7, w8, w9⟩ := open33 h2
      refine ⟨⟨b0, b1, b2, b3, b4, b5, b6, b7, b8, b9⟩, ⟨_, rfl, k33_mk w _, fun q u hu => ?_⟩, ⟨w0, w1, w2, w3, w4, w5, w6, w7, w8, w9⟩⟩
      obtain ⟨_, hn, h3⟩ := World.cells?_some h1
      have hq := h3 q (by have := (List.getElem?_eq_some_iff.1 hu).1; omega)
      rw [hu, Go.Deep.add_add] at hq
      exact hq
    obtain ⟨f, hF⟩ : ∃ f : Nat → S33, ∀ i, i < len → (∃ c, c.length = 10 ∧ (Kd.K k33 w (f i) c) ∧ ∀ q u, c[q]? = some u → w.cell? (a.add (i * 10 + q)) = some u) ∧ Pure.Ok33 (f i) := by
      haveI : Inhabited S33 := ⟨z33⟩
      exact choose_lt key
    have hll : ((List.range len).map f).length = len := by rw [List.length_map, List.length_range]
    refine ⟨(List.range len).map f, hll, hl, by rw [hll]; unfold maxLen at hm; omega, ⟨rfl, by rw [hll]; unfold maxLen at hm; omega, fun _ => ⟨a, rfl, fun j p hp => ?_⟩⟩, fun x hx => ?_⟩
    · rw [List.getElem?_map] at hp
      by_cases hj : j < len
      · rw [List.getElem?_range hj] at hp
        obtain rfl := Option.some.inj hp
        exact (hF j hj).1
      · rw [List.getElem?_eq_none (by rw [List.length_range]; omega)] at hp
        cases hp
    · obtain ⟨i, hi, rfl⟩ := List.mem_map.1 hx
      exact (hF i (List.mem_range.1 hi)).2
set_option maxRecDepth 100000 in
theorem lifted (os : Os) (started : os.Started) (H : Type) (enc : TypeId × Value → H) :
    ReturnsInHanded {} Tryd.checked os 4 .any (fun w args => (Rows.fnExactMergeSpec.pre enc Tryd.prog Tryd.f4 Rows.fnExactMergeRow.domain false w args ∧ laidMetH Tryd.prog (Rows.fnExactMergeRow.laid) w) ∧ sizedMet enc Tryd.prog Tryd.f4 (OpenSpec.ofChange Rows.fnExactMergeSpec) false w args) (Rows.fnExactMergeSpec.post enc Tryd.prog Tryd.f4 false true false false) := by
  refine returnsInHanded_of_change_and (C := Tryd.checked) (X := fun w _ => laidMetH Tryd.prog (Rows.fnExactMergeRow.laid) w) (fun _ _ _ hh h => h.of_heap hh) own started (by kernel_rfl) Tryd.func4
    (ChangeSpec.witness_shaped (enc := enc) (C := Tryd.checked) (os := os) (X := fun w _ => laidMetH Tryd.prog (Rows.fnExactMergeRow.laid) w) false (World.laidAll Tryd.prog os (Rows.fnExactMergeRow.laid)) #[(.slice none 0 0), (.slice none 0 0)] 8 (World.laidAll_os _ _ _)
      (World.shaped_of_ZipB (by kernel_rfl) (by kernel_rfl)) (by kernel_rfl) (by kernel_rfl) (by kernel_rfl)
      (by rw [MakeChecks.laidMetH_plain _ _ _ (by kernel_rfl)]; exact laidMet_laidAll _ (by kernel_rfl) (by kernel_rfl))) ?_
  intro W base args ds gs before hval0 hW hcnd hsz0 hLaid _
  have hsz : (DataW.weightsEach Tryd.prog (Tryd.f4.params.toList ++ Rows.fnExactMergeSpec.plain.varTypes Tryd.prog) (ds ++ gs)).all (· ≤ reachBytes) = true := hsz0
  have hval : ∀ (j : Nat) t v, Tryd.f4.params[j]? = some t → args[j]? = some v → Value.okWide Tryd.prog W .any base t v := hval0
  have hW' := hW
  obtain ⟨p, q, hA0, hV, rfl, hfz, hnd⟩ := hW
  have hA : DataW.TrodAll enc Tryd.prog W 0 (fun _ => true) true Tryd.f4.params.toList args.toList ds p := hA0
  rw [Tryd.params4] at hA hval hsz
  obtain ⟨v0, vs0, d0, ds0, p0, q0, hargs, rfl, rfl, h0, r0⟩ := trodAll_cons hA
  obtain ⟨v1, vs1, d1, ds1, p1, q1, rfl, rfl, rfl, h1, r1⟩ := trodAll_cons r0
  obtain ⟨rfl, rfl, rfl⟩ := trodAll_nil r1
  obtain rfl : args = #[v0, v1] := by cases args; simp_all
  obtain ⟨rfl, rfl⟩ := trodVars_none hV
  obtain ⟨A0, len0, cap0, rfl⟩ := okWide_slice Tryd.underlying22 (hval 0 22 v0 rfl rfl)
  have k0 := h0
  have lt0 : ∀ x ∈ p0, x.block < W.heap.size := by obtain ⟨m, hm⟩ := k0; exact DataW.trod_lt m _ _ _ hm
  obtain ⟨l0, hl0, hc0, hm0, hr0, ho0⟩ := row22 h0
  subst hl0
  obtain ⟨A1, len1, cap1, rfl⟩ := okWide_slice Tryd.underlying22 (hval 1 22 v1 rfl rfl)
  have k1 := h1
  have lt1 : ∀ x ∈ p1, x.block < W.heap.size := by obtain ⟨m, hm⟩ := k1; exact DataW.trod_lt m _ _ _ hm
  obtain ⟨l1, hl1, hc1, hm1, hr1, ho1⟩ := row22 h1
  subst hl1
  clear hA0 hval0 hsz0 hsz
  obtain ⟨k, hP⟩ := Pure.FnExactMerge l0 l1 hm0 ho0 hm1 ho1
  refine (PFnExactMerge.laws_FnExactMerge.calls k A0 cap0 l0 A1 cap1 l1 true W hr0 hc0 hr1 hc1 hP).mono fun e W' ⟨he, hd⟩ => ?_
  have bel := hd
  subst he
  exact ⟨_, rfl, _, _, _, [], _, [], hW', trodAll_mk1 (shut_bool Tryd.underlying4 _), (trodAll_cons_mk (Below.trod laidOut (by kernel_rfl) (of_decide_eq_true (by kernel_rfl)) k0 bel lt0) (trodAll_cons_mk (Below.trod laidOut (by kernel_rfl) (of_decide_eq_true (by kernel_rfl)) k1 bel lt1) trodAll_mk0)), rfl, bel.frame _, fun h => by cases h⟩
theorem over : Rows.fnExactMergeRow.holds Tryd.pinned (OpenSpec.ofChange Rows.fnExactMergeSpec) :=
  OpenClaim.holds_of_wide 4 Tryd.f4 rfl rfl rfl rfl rfl rfl rfl ⟨rfl, rfl, rfl, rfl, rfl⟩ rfl rfl rfl rfl rfl (by kernel_rfl) Tryd.func4 (by kernel_rfl)
    (of_decide_eq_true (by kernel_rfl)) (by unfold Func.isWrapper; first | (rw [if_pos (by decide +kernel)]; kernel_rfl) | (rw [if_neg (by decide +kernel)]; exact ⟨rfl, rfl⟩))
    (fun os started H enc _ => lifted os started H enc)
theorem proved : Rows.FnExactMergeCardSaid :=
  Claim7.holds_tied_plain_at .later [] [.data, .pinned] true (true, "6f7d6ee7c1ff737060f9ef6691add9a29f45202b7d91c3c6f32161658acfa44d") false over (fun _ h => by cases h) (by kernel_rfl) (fun _ h => by cases h) fnExactMerge_row_tie rfl ⟨rfl, rfl⟩ (by kernel_rfl) rfl
    (fun f fn hf hfn => by
      obtain rfl : f = 4 := Option.some.inj ((show Tryd.prog.funcNamed "loop.example/g00413/laws.FnExactMerge" = some 4 by kernel_rfl).symm.trans hf) |>.symm
      obtain rfl : fn = Tryd.f4 := (Option.some.inj (Tryd.func4.symm.trans hfn)).symm
      exact ⟨by kernel_rfl, fun j t ht => by
        rw [Tryd.params4] at ht
        have hm : t ∈ [22, 22] := by simpa using Array.mem_of_getElem? ht
        have hall : ([22, 22].all fun u => !Tryd.prog.wantsStandIn u) = true := by kernel_rfl
        exact (show Tryd.prog.wantsStandIn t = false by simpa using List.all_eq_true.1 hall t hm)⟩)
    (by kernel_rfl)
#print axioms proved
end Go.Proofs.YtgmggpgcfonmgaaDoor.fnExactMerge
namespace Go.Proofs.YtgmggpgcfonmgaaDoor
/-- The row, under a short name, for the claim. -/
theorem fnExactMerge_holds : Rows.FnExactMergeCardSaid := fnExactMerge.proved
end Go.Proofs.YtgmggpgcfonmgaaDoor
