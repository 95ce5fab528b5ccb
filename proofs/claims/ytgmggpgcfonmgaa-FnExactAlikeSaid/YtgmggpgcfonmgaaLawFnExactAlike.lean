/-
The row of the law FnExactAlike: called with any arguments that can be read, the law returns true and its arguments read as before. Conditions: none beyond the row's own.
-/
import Derived.Test.YtgmggpgcfonmgaaRows
import Derived.Test.YtgmggpgcfonmgaaPFnExactAlikex5
import Derived.Test.YtgmggpgcfonmgaaPureFnExactAlike
import Derived.WalkKit
import Derived.ProofKit
import Derived.OpenShut
import Derived.ShutString
import Derived.ChangeOld
import Derived.Below
import Derived.SizedLaws
import Derived.Deep.Slices
import Derived.Lib.SmallJoins
import Derived.Carry
import Derived.Test.YtgmggpgcfonmgaaWSized
namespace Go.Proofs.Ytgmggpgcfonmgaa.fnExactAlike
open Go Go.ChangeShapes Go.WideShapes Go.ChangeAt Go.RowKit Go.Deep Go.Proofs.Ytgmggpgcfonmgaa.PFnExactAlike Go.Proofs.YtgmggpgcfonmgaaW.PrintWords
open Go.ChangeMaps (open_string shut_string)
set_option linter.unusedVariables false
set_option linter.unusedSimpArgs false
theorem own : ownKnob Try.prog.godebug = none := by kernel_rfl
theorem laidOut : laidOutB Try.prog = true := by kernel_rfl
theorem cells3 : Try.prog.cellsOf 3 = 1 := by kernel_rfl
theorem cells9 : Try.prog.cellsOf 9 = 1 := by kernel_rfl
theorem cells37 : Try.prog.cellsOf 37 = 10 := by kernel_rfl
set_option maxRecDepth 50000 in
theorem open37 {H : Type} {enc : TypeId × Value → H} {w : World} {base : Nat} {spare : Nat → Bool} {held : Bool} {fuel : Nat} {cs : List Value} {x : DataW H × List MemPlace} (h : DataW.trod enc Try.prog w base spare held fuel 37 cs = some x) :
    ∃ (b0 : Int) (b1 : ByteArray) (b2 : ByteArray) (b3 : Int) (b4 : Int) (b5 : Int) (b6 : Int) (b7 : ByteArray) (b8 : ByteArray) (b9 : ByteArray), cs = [.int .i64 b0, .string b1, .string b2, .int .i64 b3, .int .i64 b4, .int .i64 b5, .int .i64 b6, .string b7, .string b8, .string b9] ∧ (Lit.int .i64 b0).wf = true ∧ b1.size ≤ 9223372036854775807 ∧ b2.size ≤ 9223372036854775807 ∧ (Lit.int .i64 b3).wf = true ∧ (Lit.int .i64 b4).wf = true ∧ (Lit.int .i64 b5).wf = true ∧ (Lit.int .i64 b6).wf = true ∧ b7.size ≤ 9223372036854775807 ∧ b8.size ≤ 9223372036854775807 ∧ b9.size ≤ 9223372036854775807 := by
  obtain ⟨xs, n, _, rfl, hlen, hxs, hf⟩ := DataW.trod_struct Try.underlying37 h
  rw [cells37] at hlen
  match cs, hlen, xs, hxs with
  | [c0, c1, c2, c3, c4, c5, c6, c7, c8, c9], _, [y0, y1, y2, y3, y4, y5, y6, y7, y8, y9], _ =>
    have g0 := hf 0 _ rfl
    simp only [cells3, List.drop_succ_cons, List.drop_zero, List.take_succ_cons, List.take_zero, List.getElem?_cons_succ, List.getElem?_cons_zero] at g0
    obtain ⟨b0, e0, _, w0⟩ := DataW.trod_int Try.underlying3 g0
    obtain rfl := (List.cons.inj e0).1
    have g1 := hf 1 _ rfl
    simp only [cells9, List.drop_succ_cons, List.drop_zero, List.take_succ_cons, List.take_zero, List.getElem?_cons_succ, List.getElem?_cons_zero] at g1
    obtain ⟨b1, e1, _, w1⟩ := DataW.trod_string Try.underlying9 g1
    obtain rfl := (List.cons.inj e1).1
    have g2 := hf 2 _ rfl
    simp only [cells9, List.drop_succ_cons, List.drop_zero, List.take_succ_cons, List.take_zero, List.getElem?_cons_succ, List.getElem?_cons_zero] at g2
    obtain ⟨b2, e2, _, w2⟩ := DataW.trod_string Try.underlying9 g2
    obtain rfl := (List.cons.inj e2).1
    have g3 := hf 3 _ rfl
    simp only [cells3, List.drop_succ_cons, List.drop_zero, List.take_succ_cons, List.take_zero, List.getElem?_cons_succ, List.getElem?_cons_zero] at g3
    obtain ⟨b3, e3, _, w3⟩ := DataW.trod_int Try.underlying3 g3
    obtain rfl := (List.cons.inj e3).1
    have g4 := hf 4 _ rfl
    simp only [cells3, List.drop_succ_cons, List.drop_zero, List.take_succ_cons, List.take_zero, List.getElem?_cons_succ, List.getElem?_cons_zero] at g4
    obtain ⟨b4, e4, _, w4⟩ := DataW.trod_int Try.underlying3 g4
    obtain rfl := (List.cons.inj e4).1
    have g5 := hf 5 _ rfl
    simp only [cells3, List.drop_succ_cons, List.drop_zero, List.take_succ_cons, List.take_zero, List.getElem?_cons_succ, List.getElem?_cons_zero] at g5
    obtain ⟨b5, e5, _, w5⟩ := DataW.trod_int Try.underlying3 g5
    obtain rfl := (List.cons.inj e5).1
    have g6 := hf 6 _ rfl
    simp only [cells3, List.drop_succ_cons, List.drop_zero, List.take_succ_cons, List.take_zero, List.getElem?_cons_succ, List.getElem?_cons_zero] at g6
    obtain ⟨b6, e6, _, w6⟩ := DataW.trod_int Try.underlying3 g6
    obtain rfl := (List.cons.inj e6).1
    have g7 := hf 7 _ rfl
    simp only [cells9, List.drop_succ_cons, List.drop_zero, List.take_succ_cons, List.take_zero, List.getElem?_cons_succ, List.getElem?_cons_zero] at g7
    obtain ⟨b7, e7, _, w7⟩ := DataW.trod_string Try.underlying9 g7
    obtain rfl := (List.cons.inj e7).1
    have g8 := hf 8 _ rfl
    simp only [cells9, List.drop_succ_cons, List.drop_zero, List.take_succ_cons, List.take_zero, List.getElem?_cons_succ, List.getElem?_cons_zero] at g8
    obtain ⟨b8, e8, _, w8⟩ := DataW.trod_string Try.underlying9 g8
    obtain rfl := (List.cons.inj e8).1
    have g9 := hf 9 _ rfl
    simp only [cells9, List.drop_succ_cons, List.drop_zero, List.take_succ_cons, List.take_zero, List.getElem?_cons_succ, List.getElem?_cons_zero] at g9
    obtain ⟨b9, e9, _, w9⟩ := DataW.trod_string Try.underlying9 g9
    obtain rfl := (List.cons.inj e9).1
    exact ⟨b0, b1, b2, b3, b4, b5, b6, b7, b8, b9, rfl, w0, w1, w2, w3, w4, w5, w6, w7, w8, w9⟩
theorem row22 {H : Type} {enc : TypeId × Value → H} {w : World} {base : Nat} {spare : Nat → Bool} {held : Bool} {A : Option Addr} {len cap : Nat} {d : DataW H} {p : List MemPlace} (h : DataW.Trod enc Try.prog w base spare held 22 (.slice A len cap) d p) :
    ∃ l : List S37, l.length = len ∧ len ≤ cap ∧ l.length ≤ 9223372036854775807 ∧ Kd.C k37 w A l.length l ∧ ∀ x ∈ l, Pure.Ok37 x := by
  obtain ⟨fuel, hf⟩ := h
  rcases open_slice Try.underlying22 hf with ⟨hcs, _⟩ | ⟨a, l1, c1, m, n, D, Pl, hcs, _, hl, hm, hmm, _, hx⟩
  · simp only [Value.cells, List.cons.injEq, Value.slice.injEq, and_true] at hcs
    obtain ⟨rfl, rfl, rfl⟩ := hcs
    exact ⟨[], rfl, Nat.le_refl _, Nat.zero_le _, Kd.C_nil _ _, fun x hx => by cases hx⟩
  · simp only [Value.cells, List.cons.injEq, Value.slice.injEq, and_true] at hcs
    obtain ⟨rfl, rfl, rfl⟩ := hcs
    have hlm : len ≤ m := by rw [hmm]; split <;> omega
    have key : ∀ i, i < len → ∃ x : S37, (∃ c, c.length = 10 ∧ (Kd.K k37 w x c) ∧ ∀ q u, c[q]? = some u → w.cell? (a.add (i * 10 + q)) = some u) ∧ Pure.Ok37 x := by
      intro i hi
      obtain ⟨cs', h1, h2⟩ := hx i (by omega)
      rw [cells37] at h1
      obtain ⟨b0, b1, b2, b3, b4, b5, b6, b7, b8, b9, rfl, w0, w1, w2, w3, w4, w5, w6, w7, w8, w9⟩ := open37 h2
      refine ⟨⟨b0, b1, b2, b3, b4, b5, b6, b7, b8, b9⟩, ⟨_, rfl, k37_mk w _, fun q u hu => ?_⟩, ⟨w0, w1, w2, w3, w4, w5, w6, w7, w8, w9⟩⟩
      obtain ⟨_, hn, h3⟩ := World.cells?_some h1
      have hq := h3 q (by have := (List.getElem?_eq_some_iff.1 hu).1; omega)
      rw [hu, Go.Deep.add_add] at hq
      exact hq
    obtain ⟨f, hF⟩ : ∃ f : Nat → S37, ∀ i, i < len → (∃ c, c.length = 10 ∧ (Kd.K k37 w (f i) c) ∧ ∀ q u, c[q]? = some u → w.cell? (a.add (i * 10 + q)) = some u) ∧ Pure.Ok37 (f i) := by
      haveI : Inhabited S37 := ⟨z37⟩
      exact choose_lt key
    have hll : ((List.range len).map f).length = len := by rw [List.length_map, List.length_range]
    refine ⟨(List.range len).map f, hll, hl, by rw [hll]; unfold maxLen at hm; omega, ⟨rfl, by rw [hll]; unfold maxLen at hm; omega, fun _ => ⟨a, rfl, fun j p hp => ?_⟩⟩, fun x hx => ?_⟩
    · rw [List.getElem?_map] at hp
      by_cases hj : j < len
      · rw [List.getElem?_range hj] at hp
        obtain rfl := Option.some.inj hp
        exact (hF j hj).1
      · rw [List.getElem?_eq_none (by rw [List.length_range]; omega)] at hp
        cases hp
    · obtain ⟨i, hi, rfl⟩ := List.mem_map.1 hx
      exact (hF i (List.mem_range.1 hi)).2
set_option maxRecDepth 100000 in
theorem lifted (os : Os) (started : os.Started) (H : Type) (enc : TypeId × Value → H) :
    ReturnsInHanded {} Try.checked os 3 .any (Rows.fnExactAlikeSpec.pre6 enc Try.prog Try.f3 Rows.fnExactAlikeRow.domain false) (Rows.fnExactAlikeSpec.post enc Try.prog Try.f3 false true false false) := by
  refine returnsInHanded_of_change_sized (C := Try.checked) own started (by kernel_rfl) Try.func3
    (ChangeSpec.witness6 (enc := enc) (C := Try.checked) false ⟨#[], #[(.slice none 0 0), (.string ByteArray.empty)], []⟩ 8 (by kernel_rfl) (by kernel_rfl) (by kernel_rfl) (by kernel_rfl)) ?_
  intro W base args ds gs before hval0 hW hcnd hsz0 _
  have hsz : (DataW.weightsEach Try.prog (Try.f3.params.toList ++ Rows.fnExactAlikeSpec.plain.varTypes Try.prog) (ds ++ gs)).all (· ≤ reachBytes) = true := hsz0
  have hval : ∀ (j : Nat) t v, Try.f3.params[j]? = some t → args[j]? = some v → Value.okWide Try.prog W .any base t v := hval0
  have hW' := hW
  obtain ⟨p, q, hA0, hV, rfl, hfz, hnd⟩ := hW
  have hA : DataW.TrodAll enc Try.prog W 0 (fun _ => true) true Try.f3.params.toList args.toList ds p := hA0
  rw [Try.params3] at hA hval hsz
  obtain ⟨v0, vs0, d0, ds0, p0, q0, hargs, rfl, rfl, h0, r0⟩ := trodAll_cons hA
  obtain ⟨v1, vs1, d1, ds1, p1, q1, rfl, rfl, rfl, h1, r1⟩ := trodAll_cons r0
  obtain ⟨rfl, rfl, rfl⟩ := trodAll_nil r1
  obtain rfl : args = #[v0, v1] := by cases args; simp_all
  obtain ⟨rfl, rfl⟩ := trodVars_none hV
  obtain ⟨A0, len0, cap0, rfl⟩ := okWide_slice Try.underlying22 (hval 0 22 v0 rfl rfl)
  have k0 := h0
  have lt0 : ∀ x ∈ p0, x.block < W.heap.size := by obtain ⟨m, hm⟩ := k0; exact DataW.trod_lt m _ _ _ hm
  obtain ⟨l0, hl0, hc0, hm0, hr0, ho0⟩ := row22 h0
  subst hl0
  obtain ⟨a1, rfl, rfl, rfl, y1⟩ := open_string Try.underlying9 (hval 1 9 v1 rfl rfl) h1
  have w1 : a1.size ≤ 140737488351232 := by
    have z := sized_string hsz (j := 1) (t := 9) rfl rfl
    rw [Array.length_toList] at z
    exact z
  clear hA0 hval0 hsz0 hsz
  obtain ⟨k, hP⟩ := Pure.FnExactAlike l0 a1 hm0 ho0 w1
  refine (PFnExactAlike.laws_FnExactAlike.calls k A0 cap0 l0 a1 true W hr0 hc0 hP).mono fun e W' ⟨he, hd⟩ => ?_
  have bel := hd
  subst he
  exact ⟨_, rfl, _, _, _, [], _, [], hW', trodAll_mk1 (shut_bool Try.underlying4 _), (trodAll_cons_mk (Below.trod laidOut (by kernel_rfl) (of_decide_eq_true (by kernel_rfl)) k0 bel lt0) (trodAll_cons_mk (shut_string Try.underlying9 y1) trodAll_mk0)), rfl, bel.frame _, fun h => by cases h⟩
theorem over : Rows.fnExactAlikeRow.holds Try.pinned (OpenSpec.ofChange Rows.fnExactAlikeSpec) :=
  OpenClaim.holds_of_wide 3 Try.f3 rfl rfl rfl rfl rfl rfl rfl ⟨rfl, rfl, rfl, rfl, rfl⟩ rfl rfl rfl rfl rfl (by kernel_rfl) Try.func3 (by kernel_rfl)
    (of_decide_eq_true (by kernel_rfl)) (by unfold Func.isWrapper; first | (rw [if_pos (by decide +kernel)]; kernel_rfl) | (rw [if_neg (by decide +kernel)]; exact ⟨rfl, rfl⟩))
    (fun os started H enc _ => lifted os started H enc)
theorem proved : Rows.FnExactAlikeSaid := over
#print axioms proved
end Go.Proofs.Ytgmggpgcfonmgaa.fnExactAlike
namespace Go.Proofs.Ytgmggpgcfonmgaa
/-- The row, under a short name, for the claim. -/
theorem fnExactAlike_holds : Rows.FnExactAlikeSaid := fnExactAlike.proved
end Go.Proofs.Ytgmggpgcfonmgaa
