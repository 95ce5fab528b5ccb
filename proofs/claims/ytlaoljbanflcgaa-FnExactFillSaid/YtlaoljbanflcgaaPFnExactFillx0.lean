-- PRINTED for this claim by a program of this session's repo over the kit's printer, with contracts of our own among the functions.
import Derived.Test.YtlaoljbanflcgaaProg
import Derived.Below
import Derived.Deep.Draws
import Derived.Deep.AppendLies
import Derived.Maps.AppendAt
import Derived.OwnWalk
import Derived.Laws.BytesArg
import Derived.Laws.MakeOwn
import Derived.Laws.OwnMore
import Derived.Deep.OwnRows
import Derived.Tactics
import Derived.Lib.ConvBytes
import Derived.Laws.Slices
import Derived.WalkKit
import Derived.KernelRfl
import Derived.RowKit3
import Derived.Deep.LoopGhost
import Derived.Deep.QuietTactic
import Derived.BigQuiet
import Derived.WideLaws
import Derived.Deep.DeepCutAuto
import Derived.Deep.CutBlock
import Derived.Deep.RegionHeld3
import Derived.Laws.Rows
import Derived.Lib.AppendStr
import Derived.ArgAppend
import Derived.Laws.IdiomCopy
import Derived.OrdersHeld
import Derived.Laws.BitsLemmas
import Derived.RowKit
import Derived.Test.YtlaoljbanflcgaaShelf
import Derived.Test.YtlaoljbanflcgaaWWords
import Derived.Test.YtlaoljbanflcgaaWLast
import Derived.Test.YtlaoljbanflcgaaWTab
import Derived.Test.YtlaoljbanflcgaaWFour
import Derived.Test.YtlaoljbanflcgaaWQPut
import Derived.Test.YtlaoljbanflcgaaWApart
import Derived.Test.YtlaoljbanflcgaaWArr
import Derived.Test.YtlaoljbanflcgaaWZeros
import Derived.Test.YtlaoljbanflcgaaWFoot
import Derived.Test.YtlaoljbanflcgaaWKept
import Derived.Test.YtlaoljbanflcgaaWShare
import Derived.Test.YtlaoljbanflcgaaWN
import Derived.Test.YtlaoljbanflcgaaWFootNe
import Derived.Test.YtlaoljbanflcgaaWAt
import Derived.Test.YtlaoljbanflcgaaWEqStruct
import Derived.Test.YtlaoljbanflcgaaWRepsOne
import Derived.Test.YtlaoljbanflcgaaWInv
import Derived.Test.YtlaoljbanflcgaaWInvWords
import Derived.Test.YtlaoljbanflcgaaWGuard
import Derived.Test.YtlaoljbanflcgaaWNEv
import Derived.Test.YtlaoljbanflcgaaWMore
namespace Go.Proofs.Ytlaoljbanflcgaa.PFnExactFill
open Go.RowKit Go.Proofs.YtlaoljbanflcgaaW.PrintWords Go.Proofs.YtlaoljbanflcgaaW.PrintLast Go.Proofs.YtlaoljbanflcgaaW.PrintMore
attribute [local go_sem] max2_int min2_int max_two min_two max_three min_three max_four min_four   -- for this text's walks alone
set_option linter.unusedVariables false
set_option linter.unusedSimpArgs false
theorem ownBlock_len (A_ : Option Addr) (n_ m_ c_ : Nat) : (Value.slice A_ n_ c_).ownBlock = (Value.slice A_ m_ c_).ownBlock := by cases A_ <;> rfl



def errW : Option Int → Value
  | none => .nilIface
  | some c => .iface 0 (.int .i64 c)
theorem errW_none : errW none = .nilIface := rfl
theorem errW_some (c : Int) : errW (some c) = .iface 0 (.int .i64 c) := rfl

theorem info5 : (Try.prog.info? 5).map (fun i => (i.zero, i.size, i.bytes)) = some (some (.int .u8 0), 1, 1) := by kernel_rfl
-- the values' own types

end Go.Proofs.Ytlaoljbanflcgaa.PFnExactFill
