/-
The row and the tied card of the law FnGlob: called with any arguments that can be read, the law returns true and its arguments read as before. Conditions: none beyond the row's own.
-/
import Derived.Test.YtdjepilhenijeaaDoorRows
import Derived.Test.YtdjepilhenijeaaDoorTie
import Derived.Test.YtdjepilhenijeaaDoorCards
import Derived.Test.YtdjepilhenijeaaDoorPFnGlobx10
import Derived.Test.YtdjepilhenijeaaDoorPureFnGlob
import Derived.WalkKit
import Derived.ProofKit
import Derived.OpenShut
import Derived.ShutString
import Derived.ChangeOld
import Derived.Below
import Derived.SizedLaws
import Derived.Deep.Slices
import Derived.Lib.SmallJoins
import Derived.Carry
import Derived.Test.YtdjepilhenijeaaDoorWSized
import Derived.LaidMore
import Derived.Lay
import Derived.SevenTiedAt
import Derived.Stop.Joined
namespace Go.Proofs.YtdjepilhenijeaaDoor.fnGlob
open Go Go.ChangeShapes Go.WideShapes Go.ChangeAt Go.RowKit Go.Deep Go.Proofs.YtdjepilhenijeaaDoor.PFnGlob Go.Proofs.YtdjepilhenijeaaDoorW.PrintWords
open Go.ChangeMaps (open_string shut_string)
set_option linter.unusedVariables false
set_option linter.unusedSimpArgs false
theorem own : ownKnob Tryd.prog.godebug = none := by kernel_rfl
theorem laidOut : laidOutB Tryd.prog = true := by kernel_rfl
theorem cells5 : Tryd.prog.cellsOf 5 = 1 := by kernel_rfl
theorem row22 {H : Type} {enc : TypeId × Value → H} {w : World} {base : Nat} {spare : Nat → Bool} {held : Bool} {A : Option Addr} {len cap : Nat} {d : DataW H} {p : List MemPlace} (h : DataW.Trod enc Tryd.prog w base spare held 22 (.slice A len cap) d p) :
    ∃ l : List Int, l.length = len ∧ len ≤ cap ∧ l.length ≤ 9223372036854775807 ∧ Kd.C (Kd.int .u8) w A l.length l ∧ ∀ x ∈ l, (Lit.int .u8 x).wf = true := by
  obtain ⟨fuel, hf⟩ := h
  rcases open_slice Tryd.underlying22 hf with ⟨hcs, _⟩ | ⟨a, l1, c1, m, n, D, Pl, hcs, _, hl, hm, hmm, _, hx⟩
  · simp only [Value.cells, List.cons.injEq, Value.slice.injEq, and_true] at hcs
    obtain ⟨rfl, rfl, rfl⟩ := hcs
    exact ⟨[], rfl, Nat.le_refl _, Nat.zero_le _, Kd.C_nil _ _, fun x hx => by cases hx⟩
  · simp only [Value.cells, List.cons.injEq, Value.slice.injEq, and_true] at hcs
    obtain ⟨rfl, rfl, rfl⟩ := hcs
    have hlm : len ≤ m := by rw [hmm]; split <;> omega
    have key : ∀ i, i < len → ∃ x : Int, (∃ c, c.length = 1 ∧ (Kd.K (Kd.int .u8) w x c) ∧ ∀ q u, c[q]? = some u → w.cell? (a.add (i * 1 + q)) = some u) ∧ (Lit.int .u8 x).wf = true := by
      intro i hi
      obtain ⟨cs', h1, h2⟩ := hx i (by omega)
      rw [cells5] at h1
      obtain ⟨b0, rfl, _, w0⟩ := DataW.trod_int Tryd.underlying5 h2
      refine ⟨b0, ⟨_, rfl, rfl, fun q u hu => ?_⟩, w0⟩
      obtain ⟨_, hn, h3⟩ := World.cells?_some h1
      have hq := h3 q (by have := (List.getElem?_eq_some_iff.1 hu).1; omega)
      rw [hu, Go.Deep.add_add] at hq
      exact hq
    obtain ⟨f, hF⟩ : ∃ f : Nat → Int, ∀ i, i < len → (∃ c, c.length = 1 ∧ (Kd.K (Kd.int .u8) w (f i) c) ∧ ∀ q u, c[q]? = some u → w.cell? (a.add (i * 1 + q)) = some u) ∧ (Lit.int .u8 (f i)).wf = true := by
      haveI : Inhabited Int := ⟨0⟩
      exact choose_lt key
    have hll : ((List.range len).map f).length = len := by rw [List.length_map, List.length_range]
    refine ⟨(List.range len).map f, hll, hl, by rw [hll]; unfold maxLen at hm; omega, ⟨rfl, by rw [hll]; unfold maxLen at hm; omega, fun _ => ⟨a, rfl, fun j p hp => ?_⟩⟩, fun x hx => ?_⟩
    · rw [List.getElem?_map] at hp
      by_cases hj : j < len
      · rw [List.getElem?_range hj] at hp
        obtain rfl := Option.some.inj hp
        exact (hF j hj).1
      · rw [List.getElem?_eq_none (by rw [List.length_range]; omega)] at hp
        cases hp
    · obtain ⟨i, hi, rfl⟩ := List.mem_map.1 hx
      exact (hF i (List.mem_range.1 hi)).2
set_option maxRecDepth 100000 in
theorem lifted (os : Os) (started : os.Started) (H : Type) (enc : TypeId × Value → H) :
    ReturnsInHanded {} Tryd.checked os 5 .any (fun w args => (Rows.fnGlobSpec.pre enc Tryd.prog Tryd.f5 Rows.fnGlobRow.domain false w args ∧ laidMetH Tryd.prog (Rows.fnGlobRow.laid) w) ∧ sizedMet enc Tryd.prog Tryd.f5 (OpenSpec.ofChange Rows.fnGlobSpec) false w args) (Rows.fnGlobSpec.post enc Tryd.prog Tryd.f5 false true false false) := by
  refine returnsInHanded_of_change_and (C := Tryd.checked) (X := fun w _ => laidMetH Tryd.prog (Rows.fnGlobRow.laid) w) (fun _ _ _ hh h => h.of_heap hh) own started (by kernel_rfl) Tryd.func5
    (ChangeSpec.witness_shaped (enc := enc) (C := Tryd.checked) (os := os) (X := fun w _ => laidMetH Tryd.prog (Rows.fnGlobRow.laid) w) false (World.laidAll Tryd.prog os (Rows.fnGlobRow.laid)) #[(.slice none 0 0)] 8 (World.laidAll_os _ _ _)
      (World.shaped_of_ZipB (by kernel_rfl) (by kernel_rfl)) (by kernel_rfl) (by kernel_rfl) (by kernel_rfl)
      (by rw [MakeChecks.laidMetH_plain _ _ _ (by kernel_rfl)]; exact laidMet_laidAll _ (by kernel_rfl) (by kernel_rfl))) ?_
  intro W base args ds gs before hval0 hW hcnd hsz0 hLaid _
  have hsz : (DataW.weightsEach Tryd.prog (Tryd.f5.params.toList ++ Rows.fnGlobSpec.plain.varTypes Tryd.prog) (ds ++ gs)).all (· ≤ reachBytes) = true := hsz0
  have hval : ∀ (j : Nat) t v, Tryd.f5.params[j]? = some t → args[j]? = some v → Value.okWide Tryd.prog W .any base t v := hval0
  have hW' := hW
  obtain ⟨p, q, hA0, hV, rfl, hfz, hnd⟩ := hW
  have hA : DataW.TrodAll enc Tryd.prog W 0 (fun _ => true) true Tryd.f5.params.toList args.toList ds p := hA0
  rw [Tryd.params5] at hA hval hsz
  obtain ⟨v0, vs0, d0, ds0, p0, q0, hargs, rfl, rfl, h0, r0⟩ := trodAll_cons hA
  obtain ⟨rfl, rfl, rfl⟩ := trodAll_nil r0
  obtain rfl : args = #[v0] := by cases args; simp_all
  obtain ⟨rfl, rfl⟩ := trodVars_none hV
  obtain ⟨A0, len0, cap0, rfl⟩ := okWide_slice Tryd.underlying22 (hval 0 22 v0 rfl rfl)
  have k0 := h0
  have lt0 : ∀ x ∈ p0, x.block < W.heap.size := by obtain ⟨m, hm⟩ := k0; exact DataW.trod_lt m _ _ _ hm
  obtain ⟨l0, hl0, hc0, hm0, hr0, ho0⟩ := row22 h0
  subst hl0
  clear hA0 hval0 hsz0 hsz
  obtain ⟨k, hP⟩ := Pure.FnGlob l0 hm0 ho0
  refine (PFnGlob.laws_FnGlob.calls k A0 cap0 l0 true W hr0 hc0 hP).mono fun e W' ⟨he, hd⟩ => ?_
  have bel := hd
  subst he
  exact ⟨_, rfl, _, _, _, [], _, [], hW', trodAll_mk1 (shut_bool Tryd.underlying4 _), (trodAll_cons_mk (Below.trod laidOut (by kernel_rfl) (of_decide_eq_true (by kernel_rfl)) k0 bel lt0) trodAll_mk0), rfl, bel.frame _, fun h => by cases h⟩
theorem over : Rows.fnGlobRow.holds Tryd.pinned (OpenSpec.ofChange Rows.fnGlobSpec) :=
  OpenClaim.holds_of_wide 5 Tryd.f5 rfl rfl rfl rfl rfl rfl rfl ⟨rfl, rfl, rfl, rfl, rfl⟩ rfl rfl rfl rfl rfl (by kernel_rfl) Tryd.func5 (by kernel_rfl)
    (of_decide_eq_true (by kernel_rfl)) (by unfold Func.isWrapper; first | (rw [if_pos (by decide +kernel)]; kernel_rfl) | (rw [if_neg (by decide +kernel)]; exact ⟨rfl, rfl⟩))
    (fun os started H enc _ => lifted os started H enc)
theorem proved : Rows.FnGlobCardSaid :=
  Claim7.holds_tied_plain_at .later [] [.data, .pinned] true (true, "6e8bfee30ad233f131b23335f3a951131defa7c6288ea4d6db6c8ed5b4811a2d") true over (fun _ h => by cases h) (by kernel_rfl) (fun _ h => by cases h) fnGlob_row_tie rfl ⟨rfl, rfl⟩ (by kernel_rfl) rfl
    (fun f fn hf hfn => by
      obtain rfl : f = 5 := Option.some.inj ((show Tryd.prog.funcNamed "loop.example/g00413/laws.FnGlob" = some 5 by kernel_rfl).symm.trans hf) |>.symm
      obtain rfl : fn = Tryd.f5 := (Option.some.inj (Tryd.func5.symm.trans hfn)).symm
      exact ⟨by kernel_rfl, fun j t ht => by
        rw [Tryd.params5] at ht
        have hm : t ∈ [22] := by simpa using Array.mem_of_getElem? ht
        have hall : ([22].all fun u => !Tryd.prog.wantsStandIn u) = true := by kernel_rfl
        exact (show Tryd.prog.wantsStandIn t = false by simpa using List.all_eq_true.1 hall t hm)⟩)
    (by kernel_rfl)
#print axioms proved
end Go.Proofs.YtdjepilhenijeaaDoor.fnGlob
namespace Go.Proofs.YtdjepilhenijeaaDoor
/-- The row, under a short name, for the claim. -/
theorem fnGlob_holds : Rows.FnGlobCardSaid := fnGlob.proved
end Go.Proofs.YtdjepilhenijeaaDoor
