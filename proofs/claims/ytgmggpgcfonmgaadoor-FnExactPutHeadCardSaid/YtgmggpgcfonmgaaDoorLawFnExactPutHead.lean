/-
The row and the tied card of the law FnExactPutHead: called with any arguments that can be read, the law returns true and its arguments read as before. Conditions: none beyond the row's own.
-/
import Derived.Test.YtgmggpgcfonmgaaDoorRows
import Derived.Test.YtgmggpgcfonmgaaDoorTie
import Derived.Test.YtgmggpgcfonmgaaDoorCards
import Derived.Test.YtgmggpgcfonmgaaDoorPFnExactPutHeadx12
import Derived.Test.YtgmggpgcfonmgaaDoorPureFnExactPutHead
import Derived.WalkKit
import Derived.ProofKit
import Derived.OpenShut
import Derived.ShutString
import Derived.ChangeOld
import Derived.Below
import Derived.SizedLaws
import Derived.Deep.Slices
import Derived.Lib.SmallJoins
import Derived.Carry
import Derived.LaidMore
import Derived.Lay
import Derived.SevenTiedAt
import Derived.Stop.Joined
import Derived.Lib.LaidTab
import Derived.Lib.LaidU8
import Derived.Lib.ItoaNum
namespace Go.Proofs.YtgmggpgcfonmgaaDoor.fnExactPutHead
open Go Go.ChangeShapes Go.WideShapes Go.ChangeAt Go.RowKit Go.Deep Go.Proofs.YtgmggpgcfonmgaaDoor.PFnExactPutHead Go.Proofs.YtgmggpgcfonmgaaDoorW.PrintWords
open Go.ChangeMaps (open_string shut_string)
set_option linter.unusedVariables false
set_option linter.unusedSimpArgs false
theorem own : ownKnob Tryd.prog.godebug = none := by kernel_rfl
theorem laidOut : laidOutB Tryd.prog = true := by kernel_rfl
theorem cells3 : Tryd.prog.cellsOf 3 = 1 := by kernel_rfl
theorem cells9 : Tryd.prog.cellsOf 9 = 1 := by kernel_rfl
theorem cells33 : Tryd.prog.cellsOf 33 = 10 := by kernel_rfl
set_option maxRecDepth 50000 in
theorem open33 {H : Type} {enc : TypeId × Value → H} {w : World} {base : Nat} {spare : Nat → Bool} {held : Bool} {fuel : Nat} {cs : List Value} {x : DataW H × List MemPlace} (h : DataW.trod enc Tryd.prog w base spare held fuel 33 cs = some x) :
    ∃ (b0 : Int) (b1 : ByteArray) (b2 : ByteArray) (b3 : Int) (b4 : Int) (b5 : Int) (b6 : Int) (b7 : ByteArray) (b8 : ByteArray) (b9 : ByteArray), cs = [.int .i64 b0, .string b1, .string b2, .int .i64 b3, .int .i64 b4, .int .i64 b5, .int .i64 b6, .string b7, .string b8, .string b9] ∧ (Lit.int .i64 b0).wf = true ∧ b1.size ≤ 9223372036854775807 ∧ b2.size ≤ 9223372036854775807 ∧ (Lit.int .i64 b3).wf = true ∧ (Lit.int .i64 b4).wf = true ∧ (Lit.int .i64 b5).wf = true ∧ (Lit.int .i64 b6).wf = true ∧ b7.size ≤ 9223372036854775807 ∧ b8.size ≤ 9223372036854775807 ∧ b9.size ≤ 9223372036854775807 := by
  obtain ⟨xs, n, _, rfl, hlen, hxs, hf⟩ := DataW.trod_struct Tryd.underlying33 h
  rw [cells33] at hlen
  match cs, hlen, xs, hxs with
  | [c0, c1, c2, c3, c4, c5, c6, c7, c8, c9], _, [y0, y1, y2, y3, y4, y5, y6, y7, y8, y9], _ =>
    have g0 := hf 0 _ rfl
    simp only [cells3, List.drop_succ_cons, List.drop_zero, List.take_succ_cons, List.take_zero, List.getElem?_cons_succ, List.getElem?_cons_zero] at g0
    obtain ⟨b0, e0, _, w0⟩ := DataW.trod_int Tryd.underlying3 g0
    obtain rfl := (List.cons.inj e0).1
    have g1 := hf 1 _ rfl
    simp only [cells9, List.drop_succ_cons, List.drop_zero, List.take_succ_cons, List.take_zero, List.getElem?_cons_succ, List.getElem?_cons_zero] at g1
    obtain ⟨b1, e1, _, w1⟩ := DataW.trod_string Tryd.underlying9 g1
    obtain rfl := (List.cons.inj e1).1
    have g2 := hf 2 _ rfl
    simp only [cells9, List.drop_succ_cons, List.drop_zero, List.take_succ_cons, List.take_zero, List.getElem?_cons_succ, List.getElem?_cons_zero] at g2
    obtain ⟨b2, e2, _, w2⟩ := DataW.trod_string Tryd.underlying9 g2
    obtain rfl := (List.cons.inj e2).1
    have g3 := hf 3 _ rfl
    simp only [cells3, List.drop_succ_cons, List.drop_zero, List.take_succ_cons, List.take_zero, List.getElem?_cons_succ, List.getElem?_cons_zero] at g3
    obtain ⟨b3, e3, _, w3⟩ := DataW.trod_int Tryd.underlying3 g3
    obtain rfl := (List.cons.inj e3).1
    have g4 := hf 4 _ rfl
    simp only [cells3, List.drop_succ_cons, List.drop_zero, List.take_succ_cons, List.take_zero, List.getElem?_cons_succ, List.getElem?_cons_zero] at g4
    obtain ⟨b4, e4, _, w4⟩ := DataW.trod_int Tryd.underlying3 g4
    obtain rfl := (List.cons.inj e4).1
    have g5 := hf 5 _ rfl
    simp only [cells3, List.drop_succ_cons, List.drop_zero, List.take_succ_cons, List.take_zero, List.getElem?_cons_succ, List.getElem?_cons_zero] at g5
    obtain ⟨b5, e5, _, w5⟩ := DataW.trod_int Tryd.underlying3 g5
    obtain rfl := (List.cons.inj e5).1
    have g6 := hf 6 _ rfl
    simp only [cells3, List.drop_succ_cons, List.drop_zero, List.take_succ_cons, List.take_zero, List.getElem?_cons_succ, List.getElem?_cons_zero] at g6
    obtain ⟨b6, e6, _, w6⟩ := DataW.trod_int Tryd.underlying3 g6
    obtain rfl := (List.cons.inj e6).1
    have g7 := hf 7 _ rfl
    simp only [cells9, List.drop_succ_cons, List.drop_zero, List.take_succ_cons, List.take_zero, List.getElem?_cons_succ, List.getElem?_cons_zero] at g7
    obtain ⟨b7, e7, _, w7⟩ := DataW.trod_string Tryd.underlying9 g7
    obtain rfl := (List.cons.inj e7).1
    have g8 := hf 8 _ rfl
    simp only [cells9, List.drop_succ_cons, List.drop_zero, List.take_succ_cons, List.take_zero, List.getElem?_cons_succ, List.getElem?_cons_zero] at g8
    obtain ⟨b8, e8, _, w8⟩ := DataW.trod_string Tryd.underlying9 g8
    obtain rfl := (List.cons.inj e8).1
    have g9 := hf 9 _ rfl
    simp only [cells9, List.drop_succ_cons, List.drop_zero, List.take_succ_cons, List.take_zero, List.getElem?_cons_succ, List.getElem?_cons_zero] at g9
    obtain ⟨b9, e9, _, w9⟩ := DataW.trod_string Tryd.underlying9 g9
    obtain rfl := (List.cons.inj e9).1
    exact ⟨b0, b1, b2, b3, b4, b5, b6, b7, b8, b9, rfl, w0, w1, w2, w3, w4, w5, w6, w7, w8, w9⟩
theorem tab_of {P : Program} {W : World} {name : String} {k : IntKind} {zs : List Int} {g : Nat} {t e : TypeId} {n : Nat} (hg : P.globalNamed name = some g) (hty : (P.globals[g]?).map (·.type) = some t) (ht : P.underlying t = some (.array n e)) (he : P.underlying e = some (.int k)) (hce : P.cellsOf e = 1) (hct : P.cellsOf t = n) (h : Lib.VarReads P W name (Lib.tabData k zs)) : Lib.TabIs P W name k zs := by
  obtain ⟨g', t', cs, fuel, p, hg', ht', hvar, hd⟩ := h
  obtain rfl := Option.some.inj (hg.symm.trans hg')
  obtain rfl := Option.some.inj (hty.symm.trans ht')
  unfold Lib.TabIs
  rw [hvar, ← Lib.cells_of_tab ht he hce hct hd]
theorem laid_facts {W : World} (h : laidMetH Tryd.prog (Rows.fnExactPutHeadRow.laid) W) : Tabs W := by
  rw [MakeChecks.laidMetH_plain _ _ _ (by kernel_rfl)] at h
  refine ⟨⟨?_, ?_⟩, ?_⟩
  · have m : ("internal/strconv.uint64pow10", Rows.laid_internal_strconv_uint64pow10) ∈ Rows.fnExactPutHeadRow.laid := by repeat (first | exact List.Mem.head _ | apply List.Mem.tail)
    have e : Rows.laid_internal_strconv_uint64pow10 (H := Unit) = Lib.tabData .u64 Lib.pow10Tab := by kernel_rfl
    rw [e] at m
    exact tab_of (g := 1) (t := 137) (e := 108) (n := 20) (by kernel_rfl) (by kernel_rfl) (by kernel_rfl) (by kernel_rfl) (by kernel_rfl) (by kernel_rfl) (Lib.laidMet.reads h m)
  · have m : ("math/bits.deBruijn64tab", Rows.laid_math_bits_deBruijn64tab) ∈ Rows.fnExactPutHeadRow.laid := by repeat (first | exact List.Mem.head _ | apply List.Mem.tail)
    have e : Rows.laid_math_bits_deBruijn64tab (H := Unit) = Lib.tabData .u8 (Lib.deBruijn64tab.map Int.ofNat) := by kernel_rfl
    rw [e] at m
    exact tab_of (g := 3) (t := 144) (e := 5) (n := 64) (by kernel_rfl) (by kernel_rfl) (by kernel_rfl) (by kernel_rfl) (by kernel_rfl) (by kernel_rfl) (Lib.laidMet.reads h m)
  · trivial
set_option maxRecDepth 100000 in
theorem lifted (os : Os) (started : os.Started) (H : Type) (enc : TypeId × Value → H) :
    ReturnsInHanded {} Tryd.checked os 6 .any (fun w args => (Rows.fnExactPutHeadSpec.pre enc Tryd.prog Tryd.f6 Rows.fnExactPutHeadRow.domain false w args ∧ laidMetH Tryd.prog (Rows.fnExactPutHeadRow.laid) w) ∧ sizedMet enc Tryd.prog Tryd.f6 (OpenSpec.ofChange Rows.fnExactPutHeadSpec) false w args) (Rows.fnExactPutHeadSpec.post enc Tryd.prog Tryd.f6 false true false false) := by
  refine returnsInHanded_of_change_and (C := Tryd.checked) (X := fun w _ => laidMetH Tryd.prog (Rows.fnExactPutHeadRow.laid) w) (fun _ _ _ hh h => h.of_heap hh) own started (by kernel_rfl) Tryd.func6
    (ChangeSpec.witness_shaped (enc := enc) (C := Tryd.checked) (os := os) (X := fun w _ => laidMetH Tryd.prog (Rows.fnExactPutHeadRow.laid) w) false (World.laidAll Tryd.prog os (Rows.fnExactPutHeadRow.laid)) #[(.agg #[(.int .i64 0), (.string ByteArray.empty), (.string ByteArray.empty), (.int .i64 0), (.int .i64 0), (.int .i64 0), (.int .i64 0), (.string ByteArray.empty), (.string ByteArray.empty), (.string ByteArray.empty)]), (.string ByteArray.empty), (.int .i64 0)] 8 (World.laidAll_os _ _ _)
      (World.shaped_of_ZipB (by kernel_rfl) (by kernel_rfl)) (by kernel_rfl) (by kernel_rfl) (by kernel_rfl)
      (by rw [MakeChecks.laidMetH_plain _ _ _ (by kernel_rfl)]; exact laidMet_laidAll _ (by kernel_rfl) (by kernel_rfl))) ?_
  intro W base args ds gs before hval0 hW hcnd hsz0 hLaid _
  have hsz : (DataW.weightsEach Tryd.prog (Tryd.f6.params.toList ++ Rows.fnExactPutHeadSpec.plain.varTypes Tryd.prog) (ds ++ gs)).all (· ≤ reachBytes) = true := hsz0
  have hval : ∀ (j : Nat) t v, Tryd.f6.params[j]? = some t → args[j]? = some v → Value.okWide Tryd.prog W .any base t v := hval0
  have hW' := hW
  obtain ⟨p, q, hA0, hV, rfl, hfz, hnd⟩ := hW
  have hA : DataW.TrodAll enc Tryd.prog W 0 (fun _ => true) true Tryd.f6.params.toList args.toList ds p := hA0
  rw [Tryd.params6] at hA hval hsz
  obtain ⟨v0, vs0, d0, ds0, p0, q0, hargs, rfl, rfl, h0, r0⟩ := trodAll_cons hA
  obtain ⟨v1, vs1, d1, ds1, p1, q1, rfl, rfl, rfl, h1, r1⟩ := trodAll_cons r0
  obtain ⟨v2, vs2, d2, ds2, p2, q2, rfl, rfl, rfl, h2, r2⟩ := trodAll_cons r1
  obtain ⟨rfl, rfl, rfl⟩ := trodAll_nil r2
  obtain rfl : args = #[v0, v1, v2] := by cases args; simp_all
  obtain ⟨rfl, rfl⟩ := trodVars_none hV
  obtain ⟨cs0, rfl, _⟩ := okWide_struct Tryd.underlying33 (hval 0 33 v0 rfl rfl)
  have k0 := h0
  have lt0 : ∀ x ∈ p0, x.block < W.heap.size := by obtain ⟨m, hm⟩ := k0; exact DataW.trod_lt m _ _ _ hm
  obtain ⟨fuel0, hf0⟩ := h0
  obtain ⟨b0_0, b0_1, b0_2, b0_3, b0_4, b0_5, b0_6, b0_7, b0_8, b0_9, e0, u0_0, u0_1, u0_2, u0_3, u0_4, u0_5, u0_6, u0_7, u0_8, u0_9⟩ := open33 hf0
  obtain rfl : cs0 = #[.int .i64 b0_0, .string b0_1, .string b0_2, .int .i64 b0_3, .int .i64 b0_4, .int .i64 b0_5, .int .i64 b0_6, .string b0_7, .string b0_8, .string b0_9] := by cases cs0; simp_all [Value.cells]
  obtain ⟨a1, rfl, rfl, rfl, y1⟩ := open_string Tryd.underlying9 (hval 1 9 v1 rfl rfl) h1
  have w1 : a1.size ≤ 140737488351232 := by
    have z := sized_string hsz (j := 1) (t := 9) rfl rfl
    rw [Array.length_toList] at z
    exact z
  obtain ⟨a2, rfl, rfl, rfl, w2⟩ := open_int Tryd.underlying3 (hval 2 3 v2 rfl rfl) h2
  clear hA0 hval0 hsz0 hsz
  obtain ⟨k, hP⟩ := Pure.FnExactPutHead b0_0 b0_1 b0_2 b0_3 b0_4 b0_5 b0_6 b0_7 b0_8 b0_9 a1 a2 u0_0 u0_1 u0_2 u0_3 u0_4 u0_5 u0_6 u0_7 u0_8 u0_9 w1 w2
  have hL := laid_facts hLaid
  refine (PFnExactPutHead.laws_FnExactPutHead.calls k b0_0 b0_1 b0_2 b0_3 b0_4 b0_5 b0_6 b0_7 b0_8 b0_9 a1 a2 true W hP hL).mono fun e W' ⟨he, hd⟩ => ?_
  have bel := hd
  subst he
  exact ⟨_, rfl, _, _, _, [], _, [], hW', trodAll_mk1 (shut_bool Tryd.underlying4 _), (trodAll_cons_mk (Below.trod laidOut (by kernel_rfl) (of_decide_eq_true (by kernel_rfl)) k0 bel lt0) (trodAll_cons_mk (shut_string Tryd.underlying9 y1) (trodAll_cons_mk (shut_int Tryd.underlying3 w2) trodAll_mk0))), rfl, bel.frame _, fun h => by cases h⟩
theorem over : Rows.fnExactPutHeadRow.holds Tryd.pinned (OpenSpec.ofChange Rows.fnExactPutHeadSpec) :=
  OpenClaim.holds_of_wide 6 Tryd.f6 rfl rfl rfl rfl rfl rfl rfl ⟨rfl, rfl, rfl, rfl, rfl⟩ rfl rfl rfl rfl rfl (by kernel_rfl) Tryd.func6 (by kernel_rfl)
    (of_decide_eq_true (by kernel_rfl)) (by unfold Func.isWrapper; first | (rw [if_pos (by decide +kernel)]; kernel_rfl) | (rw [if_neg (by decide +kernel)]; exact ⟨rfl, rfl⟩))
    (fun os started H enc _ => lifted os started H enc)
theorem proved : Rows.FnExactPutHeadCardSaid :=
  Claim7.holds_tied_plain_at .later [] [.data, .data, .data, .data, .pinned] true (true, "6f7d6ee7c1ff737060f9ef6691add9a29f45202b7d91c3c6f32161658acfa44d") false over (fun _ h => by cases h) (by kernel_rfl) (fun _ h => by cases h) fnExactPutHead_row_tie rfl ⟨rfl, rfl⟩ (by kernel_rfl) rfl
    (fun f fn hf hfn => by
      obtain rfl : f = 6 := Option.some.inj ((show Tryd.prog.funcNamed "loop.example/g00413/laws.FnExactPutHead" = some 6 by kernel_rfl).symm.trans hf) |>.symm
      obtain rfl : fn = Tryd.f6 := (Option.some.inj (Tryd.func6.symm.trans hfn)).symm
      exact ⟨by kernel_rfl, fun j t ht => by
        rw [Tryd.params6] at ht
        have hm : t ∈ [33, 9, 3] := by simpa using Array.mem_of_getElem? ht
        have hall : ([33, 9, 3].all fun u => !Tryd.prog.wantsStandIn u) = true := by kernel_rfl
        exact (show Tryd.prog.wantsStandIn t = false by simpa using List.all_eq_true.1 hall t hm)⟩)
    (by kernel_rfl)
#print axioms proved
end Go.Proofs.YtgmggpgcfonmgaaDoor.fnExactPutHead
namespace Go.Proofs.YtgmggpgcfonmgaaDoor
/-- The row, under a short name, for the claim. -/
theorem fnExactPutHead_holds : Rows.FnExactPutHeadCardSaid := fnExactPutHead.proved
end Go.Proofs.YtgmggpgcfonmgaaDoor
