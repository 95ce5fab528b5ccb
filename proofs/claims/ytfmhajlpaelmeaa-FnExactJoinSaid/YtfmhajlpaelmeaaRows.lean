/-
  No cell of these rows narrows 'for every input' (looked for: loops, veiled, ifaces, maps, wideKeys, modest, calm, conditions, laid).
  DERIVED. THE GIVEN ROWS OF THIS SEAT. 12 by the template 'for every input the law returns true; each argument reads behind the call as it read before'; 0 by the template 'total and deterministic' (their statements: YtfmhajlpaelmeaaTotals.lean).
  GIVEN WITH THE SEED: the statements are not yours to turn. If you find one false, say at which input.
  Laid BY PROGRAM, IN A SANDBOX (cutbox-rows.mjs): the forced cells as the released guide's own fill.sh prints them over the translation 2e3b506dfeb4e8ce… (all of the seat's roots in one cut). By AI agents, Wed Nov 11 2026. No macro, syntax, notation, axiom, sorry.
-/
import Derived.Test.YtfmhajlpaelmeaaChecked
import GoSem.Claim
import GoSem.ClaimJoined
import GoSem.ClaimMapViews
import Derived.JoinedTies
import Derived.KernelRfl
namespace Go.Proofs.Ytfmhajlpaelmeaa
/- THE CELL 'sum', in the pinned program and in every row, IS THE sha256 OF THE DUMP (.gsa) THAT YtfmhajlpaelmeaaProg.lean LOADS. Nothing in Lean hashes anything: it is a label: what it is worth is what the hold of that sum in a sandbox is worth. -/
noncomputable def Try.pinned : Pinned := { name := "ytfmhajlpaelmeaa", sum := "2e3b506dfeb4e8ce8f5d61c028eaa0da07bd8c06f13de73310dbc5eefb7f9c10", checked := Try.checked }
namespace Rows
def none {H : Type} : Left H := { results := [], args := [] }

/-- 'laws.FnExactBase': WHATEVER THE INPUT: true; the input reads as it did. -/
def fnExactBaseSpec : ChangeSpec := { name := "fnExactBase", fn := fun _ => fun
  | [d] => { results := [.lit (.bool true)], args := [d] }
  | _ => none }
def fnExactBaseRow : OpenClaim := { program := "ytfmhajlpaelmeaa", sum := "2e3b506dfeb4e8ce8f5d61c028eaa0da07bd8c06f13de73310dbc5eefb7f9c10", func := "loop.example/g00413/laws.FnExactBase", spec := "fnExactBase", apart := false }
def FnExactBaseSaid : Prop := fnExactBaseRow.holds Try.pinned (OpenSpec.ofChange fnExactBaseSpec)

/-- ITS FALSE NEIGHBOUR: 'it returns false'. Refute it at one input. -/
def fnExactBaseWrong : ChangeSpec := { name := "fnExactBase", fn := fun _ => fun
  | [d] => { results := [.lit (.bool false)], args := [d] }
  | _ => none }
def FnExactBaseWrongFalsely : Prop := fnExactBaseRow.holds Try.pinned (OpenSpec.ofChange fnExactBaseWrong)

/-- 'laws.FnExactHeadSum': WHATEVER THE INPUT: true; the input reads as it did. -/
def fnExactHeadSumSpec : ChangeSpec := { name := "fnExactHeadSum", fn := fun _ => fun
  | [d] => { results := [.lit (.bool true)], args := [d] }
  | _ => none }
def fnExactHeadSumRow : OpenClaim := { program := "ytfmhajlpaelmeaa", sum := "2e3b506dfeb4e8ce8f5d61c028eaa0da07bd8c06f13de73310dbc5eefb7f9c10", func := "loop.example/g00413/laws.FnExactHeadSum", spec := "fnExactHeadSum", apart := false }
def FnExactHeadSumSaid : Prop := fnExactHeadSumRow.holds Try.pinned (OpenSpec.ofChange fnExactHeadSumSpec)

/-- ITS FALSE NEIGHBOUR: 'it returns false'. Refute it at one input. -/
def fnExactHeadSumWrong : ChangeSpec := { name := "fnExactHeadSum", fn := fun _ => fun
  | [d] => { results := [.lit (.bool false)], args := [d] }
  | _ => none }
def FnExactHeadSumWrongFalsely : Prop := fnExactHeadSumRow.holds Try.pinned (OpenSpec.ofChange fnExactHeadSumWrong)

/-- 'laws.FnExactGetBig': WHATEVER THE INPUT: true; the input reads as it did. -/
def fnExactGetBigSpec : ChangeSpec := { name := "fnExactGetBig", fn := fun _ => fun
  | [d] => { results := [.lit (.bool true)], args := [d] }
  | _ => none }
def fnExactGetBigRow : OpenClaim := { program := "ytfmhajlpaelmeaa", sum := "2e3b506dfeb4e8ce8f5d61c028eaa0da07bd8c06f13de73310dbc5eefb7f9c10", func := "loop.example/g00413/laws.FnExactGetBig", spec := "fnExactGetBig", apart := false }
def FnExactGetBigSaid : Prop := fnExactGetBigRow.holds Try.pinned (OpenSpec.ofChange fnExactGetBigSpec)

/-- ITS FALSE NEIGHBOUR: 'it returns false'. Refute it at one input. -/
def fnExactGetBigWrong : ChangeSpec := { name := "fnExactGetBig", fn := fun _ => fun
  | [d] => { results := [.lit (.bool false)], args := [d] }
  | _ => none }
def FnExactGetBigWrongFalsely : Prop := fnExactGetBigRow.holds Try.pinned (OpenSpec.ofChange fnExactGetBigWrong)

/-- 'laws.FnExactDir': WHATEVER THE INPUT: true; the input reads as it did. -/
def fnExactDirSpec : ChangeSpec := { name := "fnExactDir", fn := fun _ => fun
  | [d] => { results := [.lit (.bool true)], args := [d] }
  | _ => none }
def fnExactDirRow : OpenClaim := { program := "ytfmhajlpaelmeaa", sum := "2e3b506dfeb4e8ce8f5d61c028eaa0da07bd8c06f13de73310dbc5eefb7f9c10", func := "loop.example/g00413/laws.FnExactDir", spec := "fnExactDir", apart := false }
def FnExactDirSaid : Prop := fnExactDirRow.holds Try.pinned (OpenSpec.ofChange fnExactDirSpec)

/-- ITS FALSE NEIGHBOUR: 'it returns false'. Refute it at one input. -/
def fnExactDirWrong : ChangeSpec := { name := "fnExactDir", fn := fun _ => fun
  | [d] => { results := [.lit (.bool false)], args := [d] }
  | _ => none }
def FnExactDirWrongFalsely : Prop := fnExactDirRow.holds Try.pinned (OpenSpec.ofChange fnExactDirWrong)

/-- 'laws.FnExactPutBig': WHATEVER THE INPUT: true; the input reads as it did. -/
def fnExactPutBigSpec : ChangeSpec := { name := "fnExactPutBig", fn := fun _ => fun
  | [d1, d2] => { results := [.lit (.bool true)], args := [d1, d2] }
  | _ => none }
def fnExactPutBigRow : OpenClaim := { program := "ytfmhajlpaelmeaa", sum := "2e3b506dfeb4e8ce8f5d61c028eaa0da07bd8c06f13de73310dbc5eefb7f9c10", func := "loop.example/g00413/laws.FnExactPutBig", spec := "fnExactPutBig", apart := false }
def FnExactPutBigSaid : Prop := fnExactPutBigRow.holds Try.pinned (OpenSpec.ofChange fnExactPutBigSpec)

/-- ITS FALSE NEIGHBOUR: 'it returns false'. Refute it at one input. -/
def fnExactPutBigWrong : ChangeSpec := { name := "fnExactPutBig", fn := fun _ => fun
  | [d1, d2] => { results := [.lit (.bool false)], args := [d1, d2] }
  | _ => none }
def FnExactPutBigWrongFalsely : Prop := fnExactPutBigRow.holds Try.pinned (OpenSpec.ofChange fnExactPutBigWrong)

/-- 'laws.FnExactGet32': WHATEVER THE INPUT: true; the input reads as it did. -/
def fnExactGet32Spec : ChangeSpec := { name := "fnExactGet32", fn := fun _ => fun
  | [d1, d2, d3] => { results := [.lit (.bool true)], args := [d1, d2, d3] }
  | _ => none }
def fnExactGet32Row : OpenClaim := { program := "ytfmhajlpaelmeaa", sum := "2e3b506dfeb4e8ce8f5d61c028eaa0da07bd8c06f13de73310dbc5eefb7f9c10", func := "loop.example/g00413/laws.FnExactGet32", spec := "fnExactGet32", apart := false }
def FnExactGet32Said : Prop := fnExactGet32Row.holds Try.pinned (OpenSpec.ofChange fnExactGet32Spec)

/-- ITS FALSE NEIGHBOUR: 'it returns false'. Refute it at one input. -/
def fnExactGet32Wrong : ChangeSpec := { name := "fnExactGet32", fn := fun _ => fun
  | [d1, d2, d3] => { results := [.lit (.bool false)], args := [d1, d2, d3] }
  | _ => none }
def FnExactGet32WrongFalsely : Prop := fnExactGet32Row.holds Try.pinned (OpenSpec.ofChange fnExactGet32Wrong)

/-- 'laws.FnExactKind': WHATEVER THE INPUT: true; the input reads as it did. -/
def fnExactKindSpec : ChangeSpec := { name := "fnExactKind", fn := fun _ => fun
  | [d] => { results := [.lit (.bool true)], args := [d] }
  | _ => none }
def fnExactKindRow : OpenClaim := { program := "ytfmhajlpaelmeaa", sum := "2e3b506dfeb4e8ce8f5d61c028eaa0da07bd8c06f13de73310dbc5eefb7f9c10", func := "loop.example/g00413/laws.FnExactKind", spec := "fnExactKind", apart := false }
def FnExactKindSaid : Prop := fnExactKindRow.holds Try.pinned (OpenSpec.ofChange fnExactKindSpec)

/-- ITS FALSE NEIGHBOUR: 'it returns false'. Refute it at one input. -/
def fnExactKindWrong : ChangeSpec := { name := "fnExactKind", fn := fun _ => fun
  | [d] => { results := [.lit (.bool false)], args := [d] }
  | _ => none }
def FnExactKindWrongFalsely : Prop := fnExactKindRow.holds Try.pinned (OpenSpec.ofChange fnExactKindWrong)

/-- 'laws.FnExactSameEntry': WHATEVER THE INPUT: true; the input reads as it did. -/
def fnExactSameEntrySpec : ChangeSpec := { name := "fnExactSameEntry", fn := fun _ => fun
  | [d1, d2] => { results := [.lit (.bool true)], args := [d1, d2] }
  | _ => none }
def fnExactSameEntryRow : OpenClaim := { program := "ytfmhajlpaelmeaa", sum := "2e3b506dfeb4e8ce8f5d61c028eaa0da07bd8c06f13de73310dbc5eefb7f9c10", func := "loop.example/g00413/laws.FnExactSameEntry", spec := "fnExactSameEntry", apart := false }
def FnExactSameEntrySaid : Prop := fnExactSameEntryRow.holds Try.pinned (OpenSpec.ofChange fnExactSameEntrySpec)

/-- ITS FALSE NEIGHBOUR: 'it returns false'. Refute it at one input. -/
def fnExactSameEntryWrong : ChangeSpec := { name := "fnExactSameEntry", fn := fun _ => fun
  | [d1, d2] => { results := [.lit (.bool false)], args := [d1, d2] }
  | _ => none }
def FnExactSameEntryWrongFalsely : Prop := fnExactSameEntryRow.holds Try.pinned (OpenSpec.ofChange fnExactSameEntryWrong)

/-- 'laws.FnExactGlob': WHATEVER THE INPUT: true; the input reads as it did. -/
def fnExactGlobSpec : ChangeSpec := { name := "fnExactGlob", fn := fun _ => fun
  | [d1, d2] => { results := [.lit (.bool true)], args := [d1, d2] }
  | _ => none }
def fnExactGlobRow : OpenClaim := { program := "ytfmhajlpaelmeaa", sum := "2e3b506dfeb4e8ce8f5d61c028eaa0da07bd8c06f13de73310dbc5eefb7f9c10", func := "loop.example/g00413/laws.FnExactGlob", spec := "fnExactGlob", apart := false }
def FnExactGlobSaid : Prop := fnExactGlobRow.holds Try.pinned (OpenSpec.ofChange fnExactGlobSpec)

/-- ITS FALSE NEIGHBOUR: 'it returns false'. Refute it at one input. -/
def fnExactGlobWrong : ChangeSpec := { name := "fnExactGlob", fn := fun _ => fun
  | [d1, d2] => { results := [.lit (.bool false)], args := [d1, d2] }
  | _ => none }
def FnExactGlobWrongFalsely : Prop := fnExactGlobRow.holds Try.pinned (OpenSpec.ofChange fnExactGlobWrong)

/-- 'laws.FnWords': WHATEVER THE INPUT: true; the input reads as it did. -/
def fnWordsSpec : ChangeSpec := { name := "fnWords", fn := fun _ => fun
  | [d] => { results := [.lit (.bool true)], args := [d] }
  | _ => none }
def fnWordsRow : OpenClaim := { program := "ytfmhajlpaelmeaa", sum := "2e3b506dfeb4e8ce8f5d61c028eaa0da07bd8c06f13de73310dbc5eefb7f9c10", func := "loop.example/g00413/laws.FnWords", spec := "fnWords", apart := false }
def FnWordsSaid : Prop := fnWordsRow.holds Try.pinned (OpenSpec.ofChange fnWordsSpec)

/-- ITS FALSE NEIGHBOUR: 'it returns false'. Refute it at one input. -/
def fnWordsWrong : ChangeSpec := { name := "fnWords", fn := fun _ => fun
  | [d] => { results := [.lit (.bool false)], args := [d] }
  | _ => none }
def FnWordsWrongFalsely : Prop := fnWordsRow.holds Try.pinned (OpenSpec.ofChange fnWordsWrong)

/-- 'laws.FnExactJoin': WHATEVER THE INPUT: true; the input reads as it did. -/
def fnExactJoinSpec : ChangeSpec := { name := "fnExactJoin", fn := fun _ => fun
  | [d] => { results := [.lit (.bool true)], args := [d] }
  | _ => none }
def fnExactJoinRow : OpenClaim := { program := "ytfmhajlpaelmeaa", sum := "2e3b506dfeb4e8ce8f5d61c028eaa0da07bd8c06f13de73310dbc5eefb7f9c10", func := "loop.example/g00413/laws.FnExactJoin", spec := "fnExactJoin", inPlace := ["internal/abi.NoEscape", "internal/bytealg.MakeNoZero"], apart := false }
def FnExactJoinSaid : Prop := fnExactJoinRow.holds Try.pinned (OpenSpec.ofChange fnExactJoinSpec)

/-- ITS FALSE NEIGHBOUR: 'it returns false'. Refute it at one input. -/
def fnExactJoinWrong : ChangeSpec := { name := "fnExactJoin", fn := fun _ => fun
  | [d] => { results := [.lit (.bool false)], args := [d] }
  | _ => none }
def FnExactJoinWrongFalsely : Prop := fnExactJoinRow.holds Try.pinned (OpenSpec.ofChange fnExactJoinWrong)

/-- 'laws.FnExactSize': WHATEVER THE INPUT: true; the input reads as it did. -/
def fnExactSizeSpec : ChangeSpec := { name := "fnExactSize", fn := fun _ => fun
  | [d] => { results := [.lit (.bool true)], args := [d] }
  | _ => none }
def fnExactSizeRow : OpenClaim := { program := "ytfmhajlpaelmeaa", sum := "2e3b506dfeb4e8ce8f5d61c028eaa0da07bd8c06f13de73310dbc5eefb7f9c10", func := "loop.example/g00413/laws.FnExactSize", spec := "fnExactSize", apart := false }
def FnExactSizeSaid : Prop := fnExactSizeRow.holds Try.pinned (OpenSpec.ofChange fnExactSizeSpec)

/-- ITS FALSE NEIGHBOUR: 'it returns false'. Refute it at one input. -/
def fnExactSizeWrong : ChangeSpec := { name := "fnExactSize", fn := fun _ => fun
  | [d] => { results := [.lit (.bool false)], args := [d] }
  | _ => none }
def FnExactSizeWrongFalsely : Prop := fnExactSizeRow.holds Try.pinned (OpenSpec.ofChange fnExactSizeWrong)

/- THE SECOND FORM. 'bulk': how many values and letters a reading holds, each counted each time it is reached (what is shared counts as often as it is met; a slice's spare places count too). A statement '..UptoSaid' is the law's where the arguments, and the package variables that the reading takes, are together of bulk at most 1048576: NARROWER than '..Said'. Prove '..Said' where nothing that the law and all that it calls make is longer than what came in: it says more and counts as full. Else prove '..UptoSaid'. A law counts once. -/
mutual
def uptoBulk {H : Type} : DataW H → Nat
  | .lit (.string bytes) => bytes.length + 1
  | .lit _ => 1
  | .nil => 1
  | .ptr d => uptoBulk d + 1
  | .slice elems spare => uptoBulkAll elems + uptoBulkAll spare + 1
  | .agg parts => uptoBulkAll parts + 1
  | .iface _ d => uptoBulk d + 1
  | .map entries => uptoBulkEntries entries + 1
  | .held _ => 1
def uptoBulkAll {H : Type} : List (DataW H) → Nat
  | [] => 0
  | d :: r => uptoBulk d + uptoBulkAll r
def uptoBulkEntries {H : Type} : List (Lit × DataW H) → Nat
  | [] => 0
  | x :: r => uptoBulkEntry x + uptoBulkEntries r
def uptoBulkEntry {H : Type} : Lit × DataW H → Nat
  | (.string bytes, d) => bytes.length + uptoBulk d + 1
  | (_, d) => uptoBulk d + 1
 end
def uptoSmall : (H : Type) → List (DataW H) → Bool := fun _ ds => decide (uptoBulkAll ds ≤ 1048576)
def OpenSpec.upto (s : _root_.Go.ChangeSpec) : _root_.Go.OpenSpec := { _root_.Go.OpenSpec.ofChange s with cond := some uptoSmall }

/-- 'laws.FnExactBase', WHERE WHAT IT READS IS OF BULK AT MOST 1048576: true; the input reads as it did. -/
def fnExactBaseUptoRow : OpenClaim := { program := "ytfmhajlpaelmeaa", sum := "2e3b506dfeb4e8ce8f5d61c028eaa0da07bd8c06f13de73310dbc5eefb7f9c10", func := "loop.example/g00413/laws.FnExactBase", spec := "fnExactBase", apart := false, narrowed := true }
def FnExactBaseUptoSaid : Prop := fnExactBaseUptoRow.holds Try.pinned (OpenSpec.upto fnExactBaseSpec)

/-- 'laws.FnExactHeadSum', WHERE WHAT IT READS IS OF BULK AT MOST 1048576: true; the input reads as it did. -/
def fnExactHeadSumUptoRow : OpenClaim := { program := "ytfmhajlpaelmeaa", sum := "2e3b506dfeb4e8ce8f5d61c028eaa0da07bd8c06f13de73310dbc5eefb7f9c10", func := "loop.example/g00413/laws.FnExactHeadSum", spec := "fnExactHeadSum", apart := false, narrowed := true }
def FnExactHeadSumUptoSaid : Prop := fnExactHeadSumUptoRow.holds Try.pinned (OpenSpec.upto fnExactHeadSumSpec)

/-- 'laws.FnExactGetBig', WHERE WHAT IT READS IS OF BULK AT MOST 1048576: true; the input reads as it did. -/
def fnExactGetBigUptoRow : OpenClaim := { program := "ytfmhajlpaelmeaa", sum := "2e3b506dfeb4e8ce8f5d61c028eaa0da07bd8c06f13de73310dbc5eefb7f9c10", func := "loop.example/g00413/laws.FnExactGetBig", spec := "fnExactGetBig", apart := false, narrowed := true }
def FnExactGetBigUptoSaid : Prop := fnExactGetBigUptoRow.holds Try.pinned (OpenSpec.upto fnExactGetBigSpec)

/-- 'laws.FnExactDir', WHERE WHAT IT READS IS OF BULK AT MOST 1048576: true; the input reads as it did. -/
def fnExactDirUptoRow : OpenClaim := { program := "ytfmhajlpaelmeaa", sum := "2e3b506dfeb4e8ce8f5d61c028eaa0da07bd8c06f13de73310dbc5eefb7f9c10", func := "loop.example/g00413/laws.FnExactDir", spec := "fnExactDir", apart := false, narrowed := true }
def FnExactDirUptoSaid : Prop := fnExactDirUptoRow.holds Try.pinned (OpenSpec.upto fnExactDirSpec)

/-- 'laws.FnExactPutBig', WHERE WHAT IT READS IS OF BULK AT MOST 1048576: true; the input reads as it did. -/
def fnExactPutBigUptoRow : OpenClaim := { program := "ytfmhajlpaelmeaa", sum := "2e3b506dfeb4e8ce8f5d61c028eaa0da07bd8c06f13de73310dbc5eefb7f9c10", func := "loop.example/g00413/laws.FnExactPutBig", spec := "fnExactPutBig", apart := false, narrowed := true }
def FnExactPutBigUptoSaid : Prop := fnExactPutBigUptoRow.holds Try.pinned (OpenSpec.upto fnExactPutBigSpec)

/-- 'laws.FnExactGet32', WHERE WHAT IT READS IS OF BULK AT MOST 1048576: true; the input reads as it did. -/
def fnExactGet32UptoRow : OpenClaim := { program := "ytfmhajlpaelmeaa", sum := "2e3b506dfeb4e8ce8f5d61c028eaa0da07bd8c06f13de73310dbc5eefb7f9c10", func := "loop.example/g00413/laws.FnExactGet32", spec := "fnExactGet32", apart := false, narrowed := true }
def FnExactGet32UptoSaid : Prop := fnExactGet32UptoRow.holds Try.pinned (OpenSpec.upto fnExactGet32Spec)

/-- 'laws.FnExactKind', WHERE WHAT IT READS IS OF BULK AT MOST 1048576: true; the input reads as it did. -/
def fnExactKindUptoRow : OpenClaim := { program := "ytfmhajlpaelmeaa", sum := "2e3b506dfeb4e8ce8f5d61c028eaa0da07bd8c06f13de73310dbc5eefb7f9c10", func := "loop.example/g00413/laws.FnExactKind", spec := "fnExactKind", apart := false, narrowed := true }
def FnExactKindUptoSaid : Prop := fnExactKindUptoRow.holds Try.pinned (OpenSpec.upto fnExactKindSpec)

/-- 'laws.FnExactSameEntry', WHERE WHAT IT READS IS OF BULK AT MOST 1048576: true; the input reads as it did. -/
def fnExactSameEntryUptoRow : OpenClaim := { program := "ytfmhajlpaelmeaa", sum := "2e3b506dfeb4e8ce8f5d61c028eaa0da07bd8c06f13de73310dbc5eefb7f9c10", func := "loop.example/g00413/laws.FnExactSameEntry", spec := "fnExactSameEntry", apart := false, narrowed := true }
def FnExactSameEntryUptoSaid : Prop := fnExactSameEntryUptoRow.holds Try.pinned (OpenSpec.upto fnExactSameEntrySpec)

/-- 'laws.FnExactGlob', WHERE WHAT IT READS IS OF BULK AT MOST 1048576: true; the input reads as it did. -/
def fnExactGlobUptoRow : OpenClaim := { program := "ytfmhajlpaelmeaa", sum := "2e3b506dfeb4e8ce8f5d61c028eaa0da07bd8c06f13de73310dbc5eefb7f9c10", func := "loop.example/g00413/laws.FnExactGlob", spec := "fnExactGlob", apart := false, narrowed := true }
def FnExactGlobUptoSaid : Prop := fnExactGlobUptoRow.holds Try.pinned (OpenSpec.upto fnExactGlobSpec)

/-- 'laws.FnWords', WHERE WHAT IT READS IS OF BULK AT MOST 1048576: true; the input reads as it did. -/
def fnWordsUptoRow : OpenClaim := { program := "ytfmhajlpaelmeaa", sum := "2e3b506dfeb4e8ce8f5d61c028eaa0da07bd8c06f13de73310dbc5eefb7f9c10", func := "loop.example/g00413/laws.FnWords", spec := "fnWords", apart := false, narrowed := true }
def FnWordsUptoSaid : Prop := fnWordsUptoRow.holds Try.pinned (OpenSpec.upto fnWordsSpec)

/-- 'laws.FnExactJoin', WHERE WHAT IT READS IS OF BULK AT MOST 1048576: true; the input reads as it did. -/
def fnExactJoinUptoRow : OpenClaim := { program := "ytfmhajlpaelmeaa", sum := "2e3b506dfeb4e8ce8f5d61c028eaa0da07bd8c06f13de73310dbc5eefb7f9c10", func := "loop.example/g00413/laws.FnExactJoin", spec := "fnExactJoin", inPlace := ["internal/abi.NoEscape", "internal/bytealg.MakeNoZero"], apart := false, narrowed := true }
def FnExactJoinUptoSaid : Prop := fnExactJoinUptoRow.holds Try.pinned (OpenSpec.upto fnExactJoinSpec)

/-- 'laws.FnExactSize', WHERE WHAT IT READS IS OF BULK AT MOST 1048576: true; the input reads as it did. -/
def fnExactSizeUptoRow : OpenClaim := { program := "ytfmhajlpaelmeaa", sum := "2e3b506dfeb4e8ce8f5d61c028eaa0da07bd8c06f13de73310dbc5eefb7f9c10", func := "loop.example/g00413/laws.FnExactSize", spec := "fnExactSize", apart := false, narrowed := true }
def FnExactSizeUptoSaid : Prop := fnExactSizeUptoRow.holds Try.pinned (OpenSpec.upto fnExactSizeSpec)

end Rows
end Go.Proofs.Ytfmhajlpaelmeaa
