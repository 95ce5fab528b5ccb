/-
  No cell of these rows narrows 'for every input' (looked for: loops, veiled, ifaces, maps, wideKeys, modest, calm, conditions, laid).
  DERIVED. THE GIVEN ROWS OF THIS SEAT. 7 by the template 'for every input the law returns true; each argument reads behind the call as it read before'; 0 by the template 'total and deterministic' (their statements: YtlkaocaieoabaaaTotals.lean).
  GIVEN WITH THE SEED: the statements are not yours to turn. If you find one false, say at which input.
  Laid BY PROGRAM, IN A SANDBOX (cutbox-rows.mjs): the forced cells as the released guide's own fill.sh prints them over the translation 5381a3d068646ca7… (all of the seat's roots in one cut). By AI agents, Wed Nov 11 2026. No macro, syntax, notation, axiom, sorry.
-/
import Derived.Test.YtlkaocaieoabaaaChecked
import GoSem.Claim
import GoSem.ClaimJoined
import GoSem.ClaimMapViews
import Derived.JoinedTies
import Derived.KernelRfl
namespace Go.Proofs.Ytlkaocaieoabaaa
/- THE CELL 'sum', in the pinned program and in every row, IS THE sha256 OF THE DUMP (.gsa) THAT YtlkaocaieoabaaaProg.lean LOADS. Nothing in Lean hashes anything: it is a label: what it is worth is what the hold of that sum in a sandbox is worth. -/
noncomputable def Try.pinned : Pinned := { name := "ytlkaocaieoabaaa", sum := "5381a3d068646ca7eef53e18144a12647c0b9de73e5b6bfb63b6bcc77a647be1", checked := Try.checked }
namespace Rows
def none {H : Type} : Left H := { results := [], args := [] }

/-- 'laws.FnExactConstants': WHATEVER THE INPUT: true; the input reads as it did. -/
def fnExactConstantsSpec : ChangeSpec := { name := "fnExactConstants", fn := fun _ => fun
  | [] => { results := [.lit (.bool true)], args := [] }
  | _ => none }
def fnExactConstantsRow : OpenClaim := { program := "ytlkaocaieoabaaa", sum := "5381a3d068646ca7eef53e18144a12647c0b9de73e5b6bfb63b6bcc77a647be1", func := "loop.example/g00413/laws.FnExactConstants", spec := "fnExactConstants", apart := false }
def FnExactConstantsSaid : Prop := fnExactConstantsRow.holds Try.pinned (OpenSpec.ofChange fnExactConstantsSpec)

/-- ITS FALSE NEIGHBOUR: 'it returns false'. Refute it at one input. -/
def fnExactConstantsWrong : ChangeSpec := { name := "fnExactConstants", fn := fun _ => fun
  | [] => { results := [.lit (.bool false)], args := [] }
  | _ => none }
def FnExactConstantsWrongFalsely : Prop := fnExactConstantsRow.holds Try.pinned (OpenSpec.ofChange fnExactConstantsWrong)

/-- 'laws.FnExactPut16': WHATEVER THE INPUT: true; the input reads as it did. -/
def fnExactPut16Spec : ChangeSpec := { name := "fnExactPut16", fn := fun _ => fun
  | [d1, d2] => { results := [.lit (.bool true)], args := [d1, d2] }
  | _ => none }
def fnExactPut16Row : OpenClaim := { program := "ytlkaocaieoabaaa", sum := "5381a3d068646ca7eef53e18144a12647c0b9de73e5b6bfb63b6bcc77a647be1", func := "loop.example/g00413/laws.FnExactPut16", spec := "fnExactPut16", apart := false }
def FnExactPut16Said : Prop := fnExactPut16Row.holds Try.pinned (OpenSpec.ofChange fnExactPut16Spec)

/-- ITS FALSE NEIGHBOUR: 'it returns false'. Refute it at one input. -/
def fnExactPut16Wrong : ChangeSpec := { name := "fnExactPut16", fn := fun _ => fun
  | [d1, d2] => { results := [.lit (.bool false)], args := [d1, d2] }
  | _ => none }
def FnExactPut16WrongFalsely : Prop := fnExactPut16Row.holds Try.pinned (OpenSpec.ofChange fnExactPut16Wrong)

/-- 'laws.FnExactSumOf': WHATEVER THE INPUT: true; the input reads as it did. -/
def fnExactSumOfSpec : ChangeSpec := { name := "fnExactSumOf", fn := fun _ => fun
  | [d] => { results := [.lit (.bool true)], args := [d] }
  | _ => none }
def fnExactSumOfRow : OpenClaim := { program := "ytlkaocaieoabaaa", sum := "5381a3d068646ca7eef53e18144a12647c0b9de73e5b6bfb63b6bcc77a647be1", func := "loop.example/g00413/laws.FnExactSumOf", spec := "fnExactSumOf", apart := false }
def FnExactSumOfSaid : Prop := fnExactSumOfRow.holds Try.pinned (OpenSpec.ofChange fnExactSumOfSpec)

/-- ITS FALSE NEIGHBOUR: 'it returns false'. Refute it at one input. -/
def fnExactSumOfWrong : ChangeSpec := { name := "fnExactSumOf", fn := fun _ => fun
  | [d] => { results := [.lit (.bool false)], args := [d] }
  | _ => none }
def FnExactSumOfWrongFalsely : Prop := fnExactSumOfRow.holds Try.pinned (OpenSpec.ofChange fnExactSumOfWrong)

/-- 'laws.FnExactPad': WHATEVER THE INPUT: true; the input reads as it did. -/
def fnExactPadSpec : ChangeSpec := { name := "fnExactPad", fn := fun _ => fun
  | [d1, d2] => { results := [.lit (.bool true)], args := [d1, d2] }
  | _ => none }
def fnExactPadRow : OpenClaim := { program := "ytlkaocaieoabaaa", sum := "5381a3d068646ca7eef53e18144a12647c0b9de73e5b6bfb63b6bcc77a647be1", func := "loop.example/g00413/laws.FnExactPad", spec := "fnExactPad", apart := false }
def FnExactPadSaid : Prop := fnExactPadRow.holds Try.pinned (OpenSpec.ofChange fnExactPadSpec)

/-- ITS FALSE NEIGHBOUR: 'it returns false'. Refute it at one input. -/
def fnExactPadWrong : ChangeSpec := { name := "fnExactPad", fn := fun _ => fun
  | [d1, d2] => { results := [.lit (.bool false)], args := [d1, d2] }
  | _ => none }
def FnExactPadWrongFalsely : Prop := fnExactPadRow.holds Try.pinned (OpenSpec.ofChange fnExactPadWrong)

/-- 'laws.FnExactPut32': WHATEVER THE INPUT: true; the input reads as it did. -/
def fnExactPut32Spec : ChangeSpec := { name := "fnExactPut32", fn := fun _ => fun
  | [d1, d2] => { results := [.lit (.bool true)], args := [d1, d2] }
  | _ => none }
def fnExactPut32Row : OpenClaim := { program := "ytlkaocaieoabaaa", sum := "5381a3d068646ca7eef53e18144a12647c0b9de73e5b6bfb63b6bcc77a647be1", func := "loop.example/g00413/laws.FnExactPut32", spec := "fnExactPut32", apart := false }
def FnExactPut32Said : Prop := fnExactPut32Row.holds Try.pinned (OpenSpec.ofChange fnExactPut32Spec)

/-- ITS FALSE NEIGHBOUR: 'it returns false'. Refute it at one input. -/
def fnExactPut32Wrong : ChangeSpec := { name := "fnExactPut32", fn := fun _ => fun
  | [d1, d2] => { results := [.lit (.bool false)], args := [d1, d2] }
  | _ => none }
def FnExactPut32WrongFalsely : Prop := fnExactPut32Row.holds Try.pinned (OpenSpec.ofChange fnExactPut32Wrong)

/-- 'laws.FnExactFlag': WHATEVER THE INPUT: true; the input reads as it did. -/
def fnExactFlagSpec : ChangeSpec := { name := "fnExactFlag", fn := fun _ => fun
  | [d] => { results := [.lit (.bool true)], args := [d] }
  | _ => none }
def fnExactFlagRow : OpenClaim := { program := "ytlkaocaieoabaaa", sum := "5381a3d068646ca7eef53e18144a12647c0b9de73e5b6bfb63b6bcc77a647be1", func := "loop.example/g00413/laws.FnExactFlag", spec := "fnExactFlag", apart := false }
def FnExactFlagSaid : Prop := fnExactFlagRow.holds Try.pinned (OpenSpec.ofChange fnExactFlagSpec)

/-- ITS FALSE NEIGHBOUR: 'it returns false'. Refute it at one input. -/
def fnExactFlagWrong : ChangeSpec := { name := "fnExactFlag", fn := fun _ => fun
  | [d] => { results := [.lit (.bool false)], args := [d] }
  | _ => none }
def FnExactFlagWrongFalsely : Prop := fnExactFlagRow.holds Try.pinned (OpenSpec.ofChange fnExactFlagWrong)

/-- 'laws.FnExactGet16': WHATEVER THE INPUT: true; the input reads as it did. -/
def fnExactGet16Spec : ChangeSpec := { name := "fnExactGet16", fn := fun _ => fun
  | [d1, d2, d3] => { results := [.lit (.bool true)], args := [d1, d2, d3] }
  | _ => none }
def fnExactGet16Row : OpenClaim := { program := "ytlkaocaieoabaaa", sum := "5381a3d068646ca7eef53e18144a12647c0b9de73e5b6bfb63b6bcc77a647be1", func := "loop.example/g00413/laws.FnExactGet16", spec := "fnExactGet16", apart := false }
def FnExactGet16Said : Prop := fnExactGet16Row.holds Try.pinned (OpenSpec.ofChange fnExactGet16Spec)

/-- ITS FALSE NEIGHBOUR: 'it returns false'. Refute it at one input. -/
def fnExactGet16Wrong : ChangeSpec := { name := "fnExactGet16", fn := fun _ => fun
  | [d1, d2, d3] => { results := [.lit (.bool false)], args := [d1, d2, d3] }
  | _ => none }
def FnExactGet16WrongFalsely : Prop := fnExactGet16Row.holds Try.pinned (OpenSpec.ofChange fnExactGet16Wrong)

/- THE SECOND FORM. 'bulk': how many values and letters a reading holds, each counted each time it is reached (what is shared counts as often as it is met; a slice's spare places count too). A statement '..UptoSaid' is the law's where the arguments, and the package variables that the reading takes, are together of bulk at most 1048576: NARROWER than '..Said'. Prove '..Said' where nothing that the law and all that it calls make is longer than what came in: it says more and counts as full. Else prove '..UptoSaid'. A law counts once. -/
mutual
def uptoBulk {H : Type} : DataW H → Nat
  | .lit (.string bytes) => bytes.length + 1
  | .lit _ => 1
  | .nil => 1
  | .ptr d => uptoBulk d + 1
  | .slice elems spare => uptoBulkAll elems + uptoBulkAll spare + 1
  | .agg parts => uptoBulkAll parts + 1
  | .iface _ d => uptoBulk d + 1
  | .map entries => uptoBulkEntries entries + 1
  | .held _ => 1
def uptoBulkAll {H : Type} : List (DataW H) → Nat
  | [] => 0
  | d :: r => uptoBulk d + uptoBulkAll r
def uptoBulkEntries {H : Type} : List (Lit × DataW H) → Nat
  | [] => 0
  | x :: r => uptoBulkEntry x + uptoBulkEntries r
def uptoBulkEntry {H : Type} : Lit × DataW H → Nat
  | (.string bytes, d) => bytes.length + uptoBulk d + 1
  | (_, d) => uptoBulk d + 1
 end
def uptoSmall : (H : Type) → List (DataW H) → Bool := fun _ ds => decide (uptoBulkAll ds ≤ 1048576)
def OpenSpec.upto (s : _root_.Go.ChangeSpec) : _root_.Go.OpenSpec := { _root_.Go.OpenSpec.ofChange s with cond := some uptoSmall }

/-- 'laws.FnExactConstants', WHERE WHAT IT READS IS OF BULK AT MOST 1048576: true; the input reads as it did. -/
def fnExactConstantsUptoRow : OpenClaim := { program := "ytlkaocaieoabaaa", sum := "5381a3d068646ca7eef53e18144a12647c0b9de73e5b6bfb63b6bcc77a647be1", func := "loop.example/g00413/laws.FnExactConstants", spec := "fnExactConstants", apart := false, narrowed := true }
def FnExactConstantsUptoSaid : Prop := fnExactConstantsUptoRow.holds Try.pinned (OpenSpec.upto fnExactConstantsSpec)

/-- 'laws.FnExactPut16', WHERE WHAT IT READS IS OF BULK AT MOST 1048576: true; the input reads as it did. -/
def fnExactPut16UptoRow : OpenClaim := { program := "ytlkaocaieoabaaa", sum := "5381a3d068646ca7eef53e18144a12647c0b9de73e5b6bfb63b6bcc77a647be1", func := "loop.example/g00413/laws.FnExactPut16", spec := "fnExactPut16", apart := false, narrowed := true }
def FnExactPut16UptoSaid : Prop := fnExactPut16UptoRow.holds Try.pinned (OpenSpec.upto fnExactPut16Spec)

/-- 'laws.FnExactSumOf', WHERE WHAT IT READS IS OF BULK AT MOST 1048576: true; the input reads as it did. -/
def fnExactSumOfUptoRow : OpenClaim := { program := "ytlkaocaieoabaaa", sum := "5381a3d068646ca7eef53e18144a12647c0b9de73e5b6bfb63b6bcc77a647be1", func := "loop.example/g00413/laws.FnExactSumOf", spec := "fnExactSumOf", apart := false, narrowed := true }
def FnExactSumOfUptoSaid : Prop := fnExactSumOfUptoRow.holds Try.pinned (OpenSpec.upto fnExactSumOfSpec)

/-- 'laws.FnExactPad', WHERE WHAT IT READS IS OF BULK AT MOST 1048576: true; the input reads as it did. -/
def fnExactPadUptoRow : OpenClaim := { program := "ytlkaocaieoabaaa", sum := "5381a3d068646ca7eef53e18144a12647c0b9de73e5b6bfb63b6bcc77a647be1", func := "loop.example/g00413/laws.FnExactPad", spec := "fnExactPad", apart := false, narrowed := true }
def FnExactPadUptoSaid : Prop := fnExactPadUptoRow.holds Try.pinned (OpenSpec.upto fnExactPadSpec)

/-- 'laws.FnExactPut32', WHERE WHAT IT READS IS OF BULK AT MOST 1048576: true; the input reads as it did. -/
def fnExactPut32UptoRow : OpenClaim := { program := "ytlkaocaieoabaaa", sum := "5381a3d068646ca7eef53e18144a12647c0b9de73e5b6bfb63b6bcc77a647be1", func := "loop.example/g00413/laws.FnExactPut32", spec := "fnExactPut32", apart := false, narrowed := true }
def FnExactPut32UptoSaid : Prop := fnExactPut32UptoRow.holds Try.pinned (OpenSpec.upto fnExactPut32Spec)

/-- 'laws.FnExactFlag', WHERE WHAT IT READS IS OF BULK AT MOST 1048576: true; the input reads as it did. -/
def fnExactFlagUptoRow : OpenClaim := { program := "ytlkaocaieoabaaa", sum := "5381a3d068646ca7eef53e18144a12647c0b9de73e5b6bfb63b6bcc77a647be1", func := "loop.example/g00413/laws.FnExactFlag", spec := "fnExactFlag", apart := false, narrowed := true }
def FnExactFlagUptoSaid : Prop := fnExactFlagUptoRow.holds Try.pinned (OpenSpec.upto fnExactFlagSpec)

/-- 'laws.FnExactGet16', WHERE WHAT IT READS IS OF BULK AT MOST 1048576: true; the input reads as it did. -/
def fnExactGet16UptoRow : OpenClaim := { program := "ytlkaocaieoabaaa", sum := "5381a3d068646ca7eef53e18144a12647c0b9de73e5b6bfb63b6bcc77a647be1", func := "loop.example/g00413/laws.FnExactGet16", spec := "fnExactGet16", apart := false, narrowed := true }
def FnExactGet16UptoSaid : Prop := fnExactGet16UptoRow.holds Try.pinned (OpenSpec.upto fnExactGet16Spec)

end Rows
end Go.Proofs.Ytlkaocaieoabaaa
