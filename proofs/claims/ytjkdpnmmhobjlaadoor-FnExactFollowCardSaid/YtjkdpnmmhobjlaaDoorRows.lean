/-
  NARROWER THAN 'FOR EVERY INPUT', by the rows' own cells (each row's printed sentence says how): FnExactPathOk: laid · FnExactDepth: laid · FnExactUnder: laid · FnExactSwap: laid · FnExactParents: laid · FnExactEntryOk: laid · FnExactStrip: laid · FnExactClean: laid · FnExactUstarFits: laid · FnExactFollow: laid · FnExactListOk: laid.
  DERIVED. THE GIVEN ROWS OF THIS SEAT. 11 by the template 'for every input the law returns true; each argument reads behind the call as it read before'; 0 by the template 'total and deterministic' (their statements: YtjkdpnmmhobjlaaDoorTotals.lean).
  GIVEN WITH THE SEED: the statements are not yours to turn. If you find one false, say at which input.
  Laid BY PROGRAM, IN A SANDBOX (cutbox-rows.mjs): the forced cells as the released guide's own fill.sh prints them over the translation df952dec87300af6… (all of the seat's roots in one cut). By AI agents, Wed Nov 11 2026. No macro, syntax, notation, axiom, sorry.
-/
import Derived.Test.YtjkdpnmmhobjlaaDoorChecked
import GoSem.PinnedTables
import GoSem.Claim
import GoSem.ClaimJoined
import GoSem.ClaimMapViews
import Derived.JoinedTies
import Derived.KernelRfl
namespace Go.Proofs.YtjkdpnmmhobjlaaDoor
/- THE CELL 'sum', in the pinned program and in every row, IS THE sha256 OF THE DUMP (.gsa) THAT YtjkdpnmmhobjlaaDoorProg.lean LOADS. Nothing in Lean hashes anything: it is a label: what it is worth is what the hold of that sum in a sandbox is worth. -/
noncomputable def Tryd.pinned : Pinned := { name := "ytjkdpnmmhobjlaadoor", sum := "df952dec87300af6162728822af0079c71d00e9eac5bbd4caedf887e6e4b4f74", checked := Tryd.checked }
namespace Rows
def none {H : Type} : Left H := { results := [], args := [] }

/- WHAT THE LISTED PACKAGE-LEVEL VARIABLES READ AS WHEN THE CALL BEGINS. Each datum BY PROGRAM (the guide's laid-datum.mjs) off the statement by which the dump's own 'gosem.cut.vars' lays the variable. In a bare row this is a premise. The card (YtjkdpnmmhobjlaaDoorCards.lean) ties it to the program's text. -/
def laid_unicode_utf8_acceptRanges {H : Type} : DataW H := .agg [.agg [.lit (.int .u8 128), .lit (.int .u8 191)], .agg [.lit (.int .u8 160), .lit (.int .u8 191)], .agg [.lit (.int .u8 128), .lit (.int .u8 159)], .agg [.lit (.int .u8 144), .lit (.int .u8 191)], .agg [.lit (.int .u8 128), .lit (.int .u8 143)], .agg [.lit (.int .u8 0), .lit (.int .u8 0)], .agg [.lit (.int .u8 0), .lit (.int .u8 0)], .agg [.lit (.int .u8 0), .lit (.int .u8 0)], .agg [.lit (.int .u8 0), .lit (.int .u8 0)], .agg [.lit (.int .u8 0), .lit (.int .u8 0)], .agg [.lit (.int .u8 0), .lit (.int .u8 0)], .agg [.lit (.int .u8 0), .lit (.int .u8 0)], .agg [.lit (.int .u8 0), .lit (.int .u8 0)], .agg [.lit (.int .u8 0), .lit (.int .u8 0)], .agg [.lit (.int .u8 0), .lit (.int .u8 0)], .agg [.lit (.int .u8 0), .lit (.int .u8 0)]]
/-- One of Go's own tables, pinned by name: the form's constant. -/
def laid_unicode_utf8_first : DataW Unit := Go.Pinned.utf8First

/-- 'laws.FnExactPathOk': WHATEVER THE INPUT: true; the input reads as it did. -/
def fnExactPathOkSpec : ChangeSpec := { name := "fnExactPathOk", fn := fun _ => fun
  | [d] => { results := [.lit (.bool true)], args := [d] }
  | _ => none }
def fnExactPathOkRow : OpenClaim := { program := "ytjkdpnmmhobjlaadoor", sum := "df952dec87300af6162728822af0079c71d00e9eac5bbd4caedf887e6e4b4f74", func := "loop.example/g00413/laws.FnExactPathOk", spec := "fnExactPathOk", inPlace := ["internal/bytealg.CountString", "internal/bytealg.IndexByteString", "internal/bytealg.IndexString"], unfollowed := true, recurses := true, named := ["unicode/utf8.first", "unicode/utf8.acceptRanges", "internal/bytealg.MaxLen"], apart := false, laid := [("unicode/utf8.acceptRanges", laid_unicode_utf8_acceptRanges), ("unicode/utf8.first", laid_unicode_utf8_first)] }
def FnExactPathOkSaid : Prop := fnExactPathOkRow.holds Tryd.pinned (OpenSpec.ofChange fnExactPathOkSpec)

/-- ITS FALSE NEIGHBOUR: 'it returns false'. Refute it at one input. -/
def fnExactPathOkWrong : ChangeSpec := { name := "fnExactPathOk", fn := fun _ => fun
  | [d] => { results := [.lit (.bool false)], args := [d] }
  | _ => none }
def FnExactPathOkWrongFalsely : Prop := fnExactPathOkRow.holds Tryd.pinned (OpenSpec.ofChange fnExactPathOkWrong)

/-- 'laws.FnExactDepth': WHATEVER THE INPUT: true; the input reads as it did. -/
def fnExactDepthSpec : ChangeSpec := { name := "fnExactDepth", fn := fun _ => fun
  | [d] => { results := [.lit (.bool true)], args := [d] }
  | _ => none }
def fnExactDepthRow : OpenClaim := { program := "ytjkdpnmmhobjlaadoor", sum := "df952dec87300af6162728822af0079c71d00e9eac5bbd4caedf887e6e4b4f74", func := "loop.example/g00413/laws.FnExactDepth", spec := "fnExactDepth", inPlace := ["internal/bytealg.CountString", "internal/bytealg.IndexByteString", "internal/bytealg.IndexString"], unfollowed := true, recurses := true, named := ["unicode/utf8.first", "unicode/utf8.acceptRanges", "internal/bytealg.MaxLen"], apart := false, laid := [("unicode/utf8.acceptRanges", laid_unicode_utf8_acceptRanges), ("unicode/utf8.first", laid_unicode_utf8_first)] }
def FnExactDepthSaid : Prop := fnExactDepthRow.holds Tryd.pinned (OpenSpec.ofChange fnExactDepthSpec)

/-- ITS FALSE NEIGHBOUR: 'it returns false'. Refute it at one input. -/
def fnExactDepthWrong : ChangeSpec := { name := "fnExactDepth", fn := fun _ => fun
  | [d] => { results := [.lit (.bool false)], args := [d] }
  | _ => none }
def FnExactDepthWrongFalsely : Prop := fnExactDepthRow.holds Tryd.pinned (OpenSpec.ofChange fnExactDepthWrong)

/-- 'laws.FnExactUnder': WHATEVER THE INPUT: true; the input reads as it did. -/
def fnExactUnderSpec : ChangeSpec := { name := "fnExactUnder", fn := fun _ => fun
  | [d1, d2] => { results := [.lit (.bool true)], args := [d1, d2] }
  | _ => none }
def fnExactUnderRow : OpenClaim := { program := "ytjkdpnmmhobjlaadoor", sum := "df952dec87300af6162728822af0079c71d00e9eac5bbd4caedf887e6e4b4f74", func := "loop.example/g00413/laws.FnExactUnder", spec := "fnExactUnder", inPlace := ["internal/bytealg.CountString", "internal/bytealg.IndexByteString", "internal/bytealg.IndexString"], unfollowed := true, recurses := true, named := ["unicode/utf8.first", "unicode/utf8.acceptRanges", "internal/bytealg.MaxLen"], apart := false, laid := [("unicode/utf8.acceptRanges", laid_unicode_utf8_acceptRanges), ("unicode/utf8.first", laid_unicode_utf8_first)] }
def FnExactUnderSaid : Prop := fnExactUnderRow.holds Tryd.pinned (OpenSpec.ofChange fnExactUnderSpec)

/-- ITS FALSE NEIGHBOUR: 'it returns false'. Refute it at one input. -/
def fnExactUnderWrong : ChangeSpec := { name := "fnExactUnder", fn := fun _ => fun
  | [d1, d2] => { results := [.lit (.bool false)], args := [d1, d2] }
  | _ => none }
def FnExactUnderWrongFalsely : Prop := fnExactUnderRow.holds Tryd.pinned (OpenSpec.ofChange fnExactUnderWrong)

/-- 'laws.FnExactSwap': WHATEVER THE INPUT: true; the input reads as it did. -/
def fnExactSwapSpec : ChangeSpec := { name := "fnExactSwap", fn := fun _ => fun
  | [d1, d2, d3] => { results := [.lit (.bool true)], args := [d1, d2, d3] }
  | _ => none }
def fnExactSwapRow : OpenClaim := { program := "ytjkdpnmmhobjlaadoor", sum := "df952dec87300af6162728822af0079c71d00e9eac5bbd4caedf887e6e4b4f74", func := "loop.example/g00413/laws.FnExactSwap", spec := "fnExactSwap", inPlace := ["internal/bytealg.CountString", "internal/bytealg.IndexByteString", "internal/bytealg.IndexString"], unfollowed := true, recurses := true, named := ["unicode/utf8.first", "unicode/utf8.acceptRanges", "internal/bytealg.MaxLen"], apart := false, laid := [("unicode/utf8.acceptRanges", laid_unicode_utf8_acceptRanges), ("unicode/utf8.first", laid_unicode_utf8_first)] }
def FnExactSwapSaid : Prop := fnExactSwapRow.holds Tryd.pinned (OpenSpec.ofChange fnExactSwapSpec)

/-- ITS FALSE NEIGHBOUR: 'it returns false'. Refute it at one input. -/
def fnExactSwapWrong : ChangeSpec := { name := "fnExactSwap", fn := fun _ => fun
  | [d1, d2, d3] => { results := [.lit (.bool false)], args := [d1, d2, d3] }
  | _ => none }
def FnExactSwapWrongFalsely : Prop := fnExactSwapRow.holds Tryd.pinned (OpenSpec.ofChange fnExactSwapWrong)

/-- 'laws.FnExactParents': WHATEVER THE INPUT: true; the input reads as it did. -/
def fnExactParentsSpec : ChangeSpec := { name := "fnExactParents", fn := fun _ => fun
  | [d] => { results := [.lit (.bool true)], args := [d] }
  | _ => none }
def fnExactParentsRow : OpenClaim := { program := "ytjkdpnmmhobjlaadoor", sum := "df952dec87300af6162728822af0079c71d00e9eac5bbd4caedf887e6e4b4f74", func := "loop.example/g00413/laws.FnExactParents", spec := "fnExactParents", inPlace := ["internal/bytealg.CountString", "internal/bytealg.IndexByteString", "internal/bytealg.IndexString"], unfollowed := true, recurses := true, named := ["unicode/utf8.first", "unicode/utf8.acceptRanges", "internal/bytealg.MaxLen"], apart := false, laid := [("unicode/utf8.acceptRanges", laid_unicode_utf8_acceptRanges), ("unicode/utf8.first", laid_unicode_utf8_first)] }
def FnExactParentsSaid : Prop := fnExactParentsRow.holds Tryd.pinned (OpenSpec.ofChange fnExactParentsSpec)

/-- ITS FALSE NEIGHBOUR: 'it returns false'. Refute it at one input. -/
def fnExactParentsWrong : ChangeSpec := { name := "fnExactParents", fn := fun _ => fun
  | [d] => { results := [.lit (.bool false)], args := [d] }
  | _ => none }
def FnExactParentsWrongFalsely : Prop := fnExactParentsRow.holds Tryd.pinned (OpenSpec.ofChange fnExactParentsWrong)

/-- 'laws.FnExactEntryOk': WHATEVER THE INPUT: true; the input reads as it did. -/
def fnExactEntryOkSpec : ChangeSpec := { name := "fnExactEntryOk", fn := fun _ => fun
  | [d] => { results := [.lit (.bool true)], args := [d] }
  | _ => none }
def fnExactEntryOkRow : OpenClaim := { program := "ytjkdpnmmhobjlaadoor", sum := "df952dec87300af6162728822af0079c71d00e9eac5bbd4caedf887e6e4b4f74", func := "loop.example/g00413/laws.FnExactEntryOk", spec := "fnExactEntryOk", inPlace := ["internal/bytealg.CountString", "internal/bytealg.IndexByteString", "internal/bytealg.IndexString"], unfollowed := true, recurses := true, named := ["unicode/utf8.first", "unicode/utf8.acceptRanges", "internal/bytealg.MaxLen"], apart := false, laid := [("unicode/utf8.acceptRanges", laid_unicode_utf8_acceptRanges), ("unicode/utf8.first", laid_unicode_utf8_first)] }
def FnExactEntryOkSaid : Prop := fnExactEntryOkRow.holds Tryd.pinned (OpenSpec.ofChange fnExactEntryOkSpec)

/-- ITS FALSE NEIGHBOUR: 'it returns false'. Refute it at one input. -/
def fnExactEntryOkWrong : ChangeSpec := { name := "fnExactEntryOk", fn := fun _ => fun
  | [d] => { results := [.lit (.bool false)], args := [d] }
  | _ => none }
def FnExactEntryOkWrongFalsely : Prop := fnExactEntryOkRow.holds Tryd.pinned (OpenSpec.ofChange fnExactEntryOkWrong)

/-- 'laws.FnExactStrip': WHATEVER THE INPUT: true; the input reads as it did. -/
def fnExactStripSpec : ChangeSpec := { name := "fnExactStrip", fn := fun _ => fun
  | [d1, d2] => { results := [.lit (.bool true)], args := [d1, d2] }
  | _ => none }
def fnExactStripRow : OpenClaim := { program := "ytjkdpnmmhobjlaadoor", sum := "df952dec87300af6162728822af0079c71d00e9eac5bbd4caedf887e6e4b4f74", func := "loop.example/g00413/laws.FnExactStrip", spec := "fnExactStrip", inPlace := ["internal/bytealg.CountString", "internal/bytealg.IndexByteString", "internal/bytealg.IndexString", "internal/abi.NoEscape", "internal/bytealg.MakeNoZero"], unfollowed := true, recurses := true, named := ["unicode/utf8.first", "unicode/utf8.acceptRanges", "internal/bytealg.MaxLen"], apart := false, laid := [("unicode/utf8.acceptRanges", laid_unicode_utf8_acceptRanges), ("unicode/utf8.first", laid_unicode_utf8_first)] }
def FnExactStripSaid : Prop := fnExactStripRow.holds Tryd.pinned (OpenSpec.ofChange fnExactStripSpec)

/-- ITS FALSE NEIGHBOUR: 'it returns false'. Refute it at one input. -/
def fnExactStripWrong : ChangeSpec := { name := "fnExactStrip", fn := fun _ => fun
  | [d1, d2] => { results := [.lit (.bool false)], args := [d1, d2] }
  | _ => none }
def FnExactStripWrongFalsely : Prop := fnExactStripRow.holds Tryd.pinned (OpenSpec.ofChange fnExactStripWrong)

/-- 'laws.FnExactClean': WHATEVER THE INPUT: true; the input reads as it did. -/
def fnExactCleanSpec : ChangeSpec := { name := "fnExactClean", fn := fun _ => fun
  | [d] => { results := [.lit (.bool true)], args := [d] }
  | _ => none }
def fnExactCleanRow : OpenClaim := { program := "ytjkdpnmmhobjlaadoor", sum := "df952dec87300af6162728822af0079c71d00e9eac5bbd4caedf887e6e4b4f74", func := "loop.example/g00413/laws.FnExactClean", spec := "fnExactClean", inPlace := ["internal/bytealg.CountString", "internal/bytealg.IndexByteString", "internal/bytealg.IndexString", "internal/abi.NoEscape", "internal/bytealg.MakeNoZero"], unfollowed := true, recurses := true, named := ["unicode/utf8.first", "unicode/utf8.acceptRanges", "internal/bytealg.MaxLen"], apart := false, laid := [("unicode/utf8.acceptRanges", laid_unicode_utf8_acceptRanges), ("unicode/utf8.first", laid_unicode_utf8_first)] }
def FnExactCleanSaid : Prop := fnExactCleanRow.holds Tryd.pinned (OpenSpec.ofChange fnExactCleanSpec)

/-- ITS FALSE NEIGHBOUR: 'it returns false'. Refute it at one input. -/
def fnExactCleanWrong : ChangeSpec := { name := "fnExactClean", fn := fun _ => fun
  | [d] => { results := [.lit (.bool false)], args := [d] }
  | _ => none }
def FnExactCleanWrongFalsely : Prop := fnExactCleanRow.holds Tryd.pinned (OpenSpec.ofChange fnExactCleanWrong)

/-- 'laws.FnExactUstarFits': WHATEVER THE INPUT: true; the input reads as it did. -/
def fnExactUstarFitsSpec : ChangeSpec := { name := "fnExactUstarFits", fn := fun _ => fun
  | [d] => { results := [.lit (.bool true)], args := [d] }
  | _ => none }
def fnExactUstarFitsRow : OpenClaim := { program := "ytjkdpnmmhobjlaadoor", sum := "df952dec87300af6162728822af0079c71d00e9eac5bbd4caedf887e6e4b4f74", func := "loop.example/g00413/laws.FnExactUstarFits", spec := "fnExactUstarFits", inPlace := ["internal/bytealg.CountString", "internal/bytealg.IndexByteString", "internal/bytealg.IndexString"], unfollowed := true, recurses := true, named := ["unicode/utf8.first", "unicode/utf8.acceptRanges", "internal/bytealg.MaxLen"], apart := false, laid := [("unicode/utf8.acceptRanges", laid_unicode_utf8_acceptRanges), ("unicode/utf8.first", laid_unicode_utf8_first)] }
def FnExactUstarFitsSaid : Prop := fnExactUstarFitsRow.holds Tryd.pinned (OpenSpec.ofChange fnExactUstarFitsSpec)

/-- ITS FALSE NEIGHBOUR: 'it returns false'. Refute it at one input. -/
def fnExactUstarFitsWrong : ChangeSpec := { name := "fnExactUstarFits", fn := fun _ => fun
  | [d] => { results := [.lit (.bool false)], args := [d] }
  | _ => none }
def FnExactUstarFitsWrongFalsely : Prop := fnExactUstarFitsRow.holds Tryd.pinned (OpenSpec.ofChange fnExactUstarFitsWrong)

/-- 'laws.FnExactFollow': WHATEVER THE INPUT: true; the input reads as it did. -/
def fnExactFollowSpec : ChangeSpec := { name := "fnExactFollow", fn := fun _ => fun
  | [d1, d2] => { results := [.lit (.bool true)], args := [d1, d2] }
  | _ => none }
def fnExactFollowRow : OpenClaim := { program := "ytjkdpnmmhobjlaadoor", sum := "df952dec87300af6162728822af0079c71d00e9eac5bbd4caedf887e6e4b4f74", func := "loop.example/g00413/laws.FnExactFollow", spec := "fnExactFollow", inPlace := ["internal/bytealg.CountString", "internal/bytealg.IndexByteString", "internal/bytealg.IndexString", "internal/abi.NoEscape", "internal/bytealg.MakeNoZero"], unfollowed := true, recurses := true, named := ["unicode/utf8.first", "unicode/utf8.acceptRanges", "internal/bytealg.MaxLen"], apart := false, laid := [("unicode/utf8.acceptRanges", laid_unicode_utf8_acceptRanges), ("unicode/utf8.first", laid_unicode_utf8_first)] }
def FnExactFollowSaid : Prop := fnExactFollowRow.holds Tryd.pinned (OpenSpec.ofChange fnExactFollowSpec)

/-- ITS FALSE NEIGHBOUR: 'it returns false'. Refute it at one input. -/
def fnExactFollowWrong : ChangeSpec := { name := "fnExactFollow", fn := fun _ => fun
  | [d1, d2] => { results := [.lit (.bool false)], args := [d1, d2] }
  | _ => none }
def FnExactFollowWrongFalsely : Prop := fnExactFollowRow.holds Tryd.pinned (OpenSpec.ofChange fnExactFollowWrong)

/-- 'laws.FnExactListOk': WHATEVER THE INPUT: true; the input reads as it did. -/
def fnExactListOkSpec : ChangeSpec := { name := "fnExactListOk", fn := fun _ => fun
  | [d] => { results := [.lit (.bool true)], args := [d] }
  | _ => none }
def fnExactListOkRow : OpenClaim := { program := "ytjkdpnmmhobjlaadoor", sum := "df952dec87300af6162728822af0079c71d00e9eac5bbd4caedf887e6e4b4f74", func := "loop.example/g00413/laws.FnExactListOk", spec := "fnExactListOk", inPlace := ["internal/bytealg.CountString", "internal/bytealg.IndexByteString", "internal/bytealg.IndexString"], unfollowed := true, recurses := true, named := ["unicode/utf8.first", "unicode/utf8.acceptRanges", "internal/bytealg.MaxLen"], apart := false, laid := [("unicode/utf8.acceptRanges", laid_unicode_utf8_acceptRanges), ("unicode/utf8.first", laid_unicode_utf8_first)] }
def FnExactListOkSaid : Prop := fnExactListOkRow.holds Tryd.pinned (OpenSpec.ofChange fnExactListOkSpec)

/-- ITS FALSE NEIGHBOUR: 'it returns false'. Refute it at one input. -/
def fnExactListOkWrong : ChangeSpec := { name := "fnExactListOk", fn := fun _ => fun
  | [d] => { results := [.lit (.bool false)], args := [d] }
  | _ => none }
def FnExactListOkWrongFalsely : Prop := fnExactListOkRow.holds Tryd.pinned (OpenSpec.ofChange fnExactListOkWrong)

/- THE SECOND FORM. 'bulk': how many values and letters a reading holds, each counted each time it is reached (what is shared counts as often as it is met; a slice's spare places count too). A statement '..UptoSaid' is the law's where the arguments, and the package variables that the reading takes, are together of bulk at most 1048576: NARROWER than '..Said'. Prove '..Said' where nothing that the law and all that it calls make is longer than what came in: it says more and counts as full. Else prove '..UptoSaid'. A law counts once. -/
mutual
def uptoBulk {H : Type} : DataW H → Nat
  | .lit (.string bytes) => bytes.length + 1
  | .lit _ => 1
  | .nil => 1
  | .ptr d => uptoBulk d + 1
  | .slice elems spare => uptoBulkAll elems + uptoBulkAll spare + 1
  | .agg parts => uptoBulkAll parts + 1
  | .iface _ d => uptoBulk d + 1
  | .map entries => uptoBulkEntries entries + 1
  | .held _ => 1
def uptoBulkAll {H : Type} : List (DataW H) → Nat
  | [] => 0
  | d :: r => uptoBulk d + uptoBulkAll r
def uptoBulkEntries {H : Type} : List (Lit × DataW H) → Nat
  | [] => 0
  | x :: r => uptoBulkEntry x + uptoBulkEntries r
def uptoBulkEntry {H : Type} : Lit × DataW H → Nat
  | (.string bytes, d) => bytes.length + uptoBulk d + 1
  | (_, d) => uptoBulk d + 1
 end
def uptoSmall : (H : Type) → List (DataW H) → Bool := fun _ ds => decide (uptoBulkAll ds ≤ 1048576)
def OpenSpec.upto (s : _root_.Go.ChangeSpec) : _root_.Go.OpenSpec := { _root_.Go.OpenSpec.ofChange s with cond := some uptoSmall }

/-- 'laws.FnExactPathOk', WHERE WHAT IT READS IS OF BULK AT MOST 1048576: true; the input reads as it did. -/
def fnExactPathOkUptoRow : OpenClaim := { program := "ytjkdpnmmhobjlaadoor", sum := "df952dec87300af6162728822af0079c71d00e9eac5bbd4caedf887e6e4b4f74", func := "loop.example/g00413/laws.FnExactPathOk", spec := "fnExactPathOk", inPlace := ["internal/bytealg.CountString", "internal/bytealg.IndexByteString", "internal/bytealg.IndexString"], unfollowed := true, recurses := true, named := ["unicode/utf8.first", "unicode/utf8.acceptRanges", "internal/bytealg.MaxLen"], apart := false, laid := [("unicode/utf8.acceptRanges", laid_unicode_utf8_acceptRanges), ("unicode/utf8.first", laid_unicode_utf8_first)], narrowed := true }
def FnExactPathOkUptoSaid : Prop := fnExactPathOkUptoRow.holds Tryd.pinned (OpenSpec.upto fnExactPathOkSpec)

/-- 'laws.FnExactDepth', WHERE WHAT IT READS IS OF BULK AT MOST 1048576: true; the input reads as it did. -/
def fnExactDepthUptoRow : OpenClaim := { program := "ytjkdpnmmhobjlaadoor", sum := "df952dec87300af6162728822af0079c71d00e9eac5bbd4caedf887e6e4b4f74", func := "loop.example/g00413/laws.FnExactDepth", spec := "fnExactDepth", inPlace := ["internal/bytealg.CountString", "internal/bytealg.IndexByteString", "internal/bytealg.IndexString"], unfollowed := true, recurses := true, named := ["unicode/utf8.first", "unicode/utf8.acceptRanges", "internal/bytealg.MaxLen"], apart := false, laid := [("unicode/utf8.acceptRanges", laid_unicode_utf8_acceptRanges), ("unicode/utf8.first", laid_unicode_utf8_first)], narrowed := true }
def FnExactDepthUptoSaid : Prop := fnExactDepthUptoRow.holds Tryd.pinned (OpenSpec.upto fnExactDepthSpec)

/-- 'laws.FnExactUnder', WHERE WHAT IT READS IS OF BULK AT MOST 1048576: true; the input reads as it did. -/
def fnExactUnderUptoRow : OpenClaim := { program := "ytjkdpnmmhobjlaadoor", sum := "df952dec87300af6162728822af0079c71d00e9eac5bbd4caedf887e6e4b4f74", func := "loop.example/g00413/laws.FnExactUnder", spec := "fnExactUnder", inPlace := ["internal/bytealg.CountString", "internal/bytealg.IndexByteString", "internal/bytealg.IndexString"], unfollowed := true, recurses := true, named := ["unicode/utf8.first", "unicode/utf8.acceptRanges", "internal/bytealg.MaxLen"], apart := false, laid := [("unicode/utf8.acceptRanges", laid_unicode_utf8_acceptRanges), ("unicode/utf8.first", laid_unicode_utf8_first)], narrowed := true }
def FnExactUnderUptoSaid : Prop := fnExactUnderUptoRow.holds Tryd.pinned (OpenSpec.upto fnExactUnderSpec)

/-- 'laws.FnExactSwap', WHERE WHAT IT READS IS OF BULK AT MOST 1048576: true; the input reads as it did. -/
def fnExactSwapUptoRow : OpenClaim := { program := "ytjkdpnmmhobjlaadoor", sum := "df952dec87300af6162728822af0079c71d00e9eac5bbd4caedf887e6e4b4f74", func := "loop.example/g00413/laws.FnExactSwap", spec := "fnExactSwap", inPlace := ["internal/bytealg.CountString", "internal/bytealg.IndexByteString", "internal/bytealg.IndexString"], unfollowed := true, recurses := true, named := ["unicode/utf8.first", "unicode/utf8.acceptRanges", "internal/bytealg.MaxLen"], apart := false, laid := [("unicode/utf8.acceptRanges", laid_unicode_utf8_acceptRanges), ("unicode/utf8.first", laid_unicode_utf8_first)], narrowed := true }
def FnExactSwapUptoSaid : Prop := fnExactSwapUptoRow.holds Tryd.pinned (OpenSpec.upto fnExactSwapSpec)

/-- 'laws.FnExactParents', WHERE WHAT IT READS IS OF BULK AT MOST 1048576: true; the input reads as it did. -/
def fnExactParentsUptoRow : OpenClaim := { program := "ytjkdpnmmhobjlaadoor", sum := "df952dec87300af6162728822af0079c71d00e9eac5bbd4caedf887e6e4b4f74", func := "loop.example/g00413/laws.FnExactParents", spec := "fnExactParents", inPlace := ["internal/bytealg.CountString", "internal/bytealg.IndexByteString", "internal/bytealg.IndexString"], unfollowed := true, recurses := true, named := ["unicode/utf8.first", "unicode/utf8.acceptRanges", "internal/bytealg.MaxLen"], apart := false, laid := [("unicode/utf8.acceptRanges", laid_unicode_utf8_acceptRanges), ("unicode/utf8.first", laid_unicode_utf8_first)], narrowed := true }
def FnExactParentsUptoSaid : Prop := fnExactParentsUptoRow.holds Tryd.pinned (OpenSpec.upto fnExactParentsSpec)

/-- 'laws.FnExactEntryOk', WHERE WHAT IT READS IS OF BULK AT MOST 1048576: true; the input reads as it did. -/
def fnExactEntryOkUptoRow : OpenClaim := { program := "ytjkdpnmmhobjlaadoor", sum := "df952dec87300af6162728822af0079c71d00e9eac5bbd4caedf887e6e4b4f74", func := "loop.example/g00413/laws.FnExactEntryOk", spec := "fnExactEntryOk", inPlace := ["internal/bytealg.CountString", "internal/bytealg.IndexByteString", "internal/bytealg.IndexString"], unfollowed := true, recurses := true, named := ["unicode/utf8.first", "unicode/utf8.acceptRanges", "internal/bytealg.MaxLen"], apart := false, laid := [("unicode/utf8.acceptRanges", laid_unicode_utf8_acceptRanges), ("unicode/utf8.first", laid_unicode_utf8_first)], narrowed := true }
def FnExactEntryOkUptoSaid : Prop := fnExactEntryOkUptoRow.holds Tryd.pinned (OpenSpec.upto fnExactEntryOkSpec)

/-- 'laws.FnExactStrip', WHERE WHAT IT READS IS OF BULK AT MOST 1048576: true; the input reads as it did. -/
def fnExactStripUptoRow : OpenClaim := { program := "ytjkdpnmmhobjlaadoor", sum := "df952dec87300af6162728822af0079c71d00e9eac5bbd4caedf887e6e4b4f74", func := "loop.example/g00413/laws.FnExactStrip", spec := "fnExactStrip", inPlace := ["internal/bytealg.CountString", "internal/bytealg.IndexByteString", "internal/bytealg.IndexString", "internal/abi.NoEscape", "internal/bytealg.MakeNoZero"], unfollowed := true, recurses := true, named := ["unicode/utf8.first", "unicode/utf8.acceptRanges", "internal/bytealg.MaxLen"], apart := false, laid := [("unicode/utf8.acceptRanges", laid_unicode_utf8_acceptRanges), ("unicode/utf8.first", laid_unicode_utf8_first)], narrowed := true }
def FnExactStripUptoSaid : Prop := fnExactStripUptoRow.holds Tryd.pinned (OpenSpec.upto fnExactStripSpec)

/-- 'laws.FnExactClean', WHERE WHAT IT READS IS OF BULK AT MOST 1048576: true; the input reads as it did. -/
def fnExactCleanUptoRow : OpenClaim := { program := "ytjkdpnmmhobjlaadoor", sum := "df952dec87300af6162728822af0079c71d00e9eac5bbd4caedf887e6e4b4f74", func := "loop.example/g00413/laws.FnExactClean", spec := "fnExactClean", inPlace := ["internal/bytealg.CountString", "internal/bytealg.IndexByteString", "internal/bytealg.IndexString", "internal/abi.NoEscape", "internal/bytealg.MakeNoZero"], unfollowed := true, recurses := true, named := ["unicode/utf8.first", "unicode/utf8.acceptRanges", "internal/bytealg.MaxLen"], apart := false, laid := [("unicode/utf8.acceptRanges", laid_unicode_utf8_acceptRanges), ("unicode/utf8.first", laid_unicode_utf8_first)], narrowed := true }
def FnExactCleanUptoSaid : Prop := fnExactCleanUptoRow.holds Tryd.pinned (OpenSpec.upto fnExactCleanSpec)

/-- 'laws.FnExactUstarFits', WHERE WHAT IT READS IS OF BULK AT MOST 1048576: true; the input reads as it did. -/
def fnExactUstarFitsUptoRow : OpenClaim := { program := "ytjkdpnmmhobjlaadoor", sum := "df952dec87300af6162728822af0079c71d00e9eac5bbd4caedf887e6e4b4f74", func := "loop.example/g00413/laws.FnExactUstarFits", spec := "fnExactUstarFits", inPlace := ["internal/bytealg.CountString", "internal/bytealg.IndexByteString", "internal/bytealg.IndexString"], unfollowed := true, recurses := true, named := ["unicode/utf8.first", "unicode/utf8.acceptRanges", "internal/bytealg.MaxLen"], apart := false, laid := [("unicode/utf8.acceptRanges", laid_unicode_utf8_acceptRanges), ("unicode/utf8.first", laid_unicode_utf8_first)], narrowed := true }
def FnExactUstarFitsUptoSaid : Prop := fnExactUstarFitsUptoRow.holds Tryd.pinned (OpenSpec.upto fnExactUstarFitsSpec)

/-- 'laws.FnExactFollow', WHERE WHAT IT READS IS OF BULK AT MOST 1048576: true; the input reads as it did. -/
def fnExactFollowUptoRow : OpenClaim := { program := "ytjkdpnmmhobjlaadoor", sum := "df952dec87300af6162728822af0079c71d00e9eac5bbd4caedf887e6e4b4f74", func := "loop.example/g00413/laws.FnExactFollow", spec := "fnExactFollow", inPlace := ["internal/bytealg.CountString", "internal/bytealg.IndexByteString", "internal/bytealg.IndexString", "internal/abi.NoEscape", "internal/bytealg.MakeNoZero"], unfollowed := true, recurses := true, named := ["unicode/utf8.first", "unicode/utf8.acceptRanges", "internal/bytealg.MaxLen"], apart := false, laid := [("unicode/utf8.acceptRanges", laid_unicode_utf8_acceptRanges), ("unicode/utf8.first", laid_unicode_utf8_first)], narrowed := true }
def FnExactFollowUptoSaid : Prop := fnExactFollowUptoRow.holds Tryd.pinned (OpenSpec.upto fnExactFollowSpec)

/-- 'laws.FnExactListOk', WHERE WHAT IT READS IS OF BULK AT MOST 1048576: true; the input reads as it did. -/
def fnExactListOkUptoRow : OpenClaim := { program := "ytjkdpnmmhobjlaadoor", sum := "df952dec87300af6162728822af0079c71d00e9eac5bbd4caedf887e6e4b4f74", func := "loop.example/g00413/laws.FnExactListOk", spec := "fnExactListOk", inPlace := ["internal/bytealg.CountString", "internal/bytealg.IndexByteString", "internal/bytealg.IndexString"], unfollowed := true, recurses := true, named := ["unicode/utf8.first", "unicode/utf8.acceptRanges", "internal/bytealg.MaxLen"], apart := false, laid := [("unicode/utf8.acceptRanges", laid_unicode_utf8_acceptRanges), ("unicode/utf8.first", laid_unicode_utf8_first)], narrowed := true }
def FnExactListOkUptoSaid : Prop := fnExactListOkUptoRow.holds Tryd.pinned (OpenSpec.upto fnExactListOkSpec)

end Rows
end Go.Proofs.YtjkdpnmmhobjlaaDoor
