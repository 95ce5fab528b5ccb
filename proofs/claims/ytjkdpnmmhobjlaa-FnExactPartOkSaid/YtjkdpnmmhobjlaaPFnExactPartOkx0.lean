-- PRINTED for this claim by a program of this session's repo over the kit's printer, with contracts of our own among the functions.
import Derived.Test.YtjkdpnmmhobjlaaProg
import Derived.Below
import Derived.Deep.Draws
import Derived.Deep.AppendLies
import Derived.Maps.AppendAt
import Derived.OwnWalk
import Derived.Laws.BytesArg
import Derived.Laws.MakeOwn
import Derived.Laws.OwnMore
import Derived.Deep.OwnRows
import Derived.Tactics
import Derived.Lib.ConvBytes
import Derived.Laws.Slices
import Derived.WalkKit
import Derived.KernelRfl
import Derived.RowKit3
import Derived.Deep.LoopGhost
import Derived.Deep.QuietTactic
import Derived.BigQuiet
import Derived.WideLaws
import Derived.Deep.DeepCutAuto
import Derived.Deep.CutBlock
import Derived.Deep.RegionHeld3
import Derived.Laws.Rows
import Derived.Lib.AppendStr
import Derived.ArgAppend
import Derived.Laws.IdiomCopy
import Derived.OrdersHeld
import Derived.Laws.BitsLemmas
import Derived.RowKit
import Derived.Laws.Strings
import Derived.Test.YtjkdpnmmhobjlaaWWords
import Derived.Test.YtjkdpnmmhobjlaaWLast
import Derived.Test.YtjkdpnmmhobjlaaWTab
import Derived.Test.YtjkdpnmmhobjlaaWFour
import Derived.Test.YtjkdpnmmhobjlaaWQPut
import Derived.Test.YtjkdpnmmhobjlaaWApart
import Derived.Test.YtjkdpnmmhobjlaaWArr
import Derived.Test.YtjkdpnmmhobjlaaWZeros
import Derived.Test.YtjkdpnmmhobjlaaWFoot
import Derived.Test.YtjkdpnmmhobjlaaWKept
import Derived.Test.YtjkdpnmmhobjlaaWShare
import Derived.Test.YtjkdpnmmhobjlaaWN
import Derived.Test.YtjkdpnmmhobjlaaWFootNe
import Derived.Test.YtjkdpnmmhobjlaaWAt
import Derived.Test.YtjkdpnmmhobjlaaWEqStruct
import Derived.Test.YtjkdpnmmhobjlaaWRepsOne
import Derived.Test.YtjkdpnmmhobjlaaWInv
import Derived.Test.YtjkdpnmmhobjlaaWInvWords
import Derived.Test.YtjkdpnmmhobjlaaWGuard
import Derived.Test.YtjkdpnmmhobjlaaWNEv
import Derived.Test.YtjkdpnmmhobjlaaWMore
namespace Go.Proofs.Ytjkdpnmmhobjlaa.PFnExactPartOk
open Go.RowKit Go.Proofs.YtjkdpnmmhobjlaaW.PrintWords Go.Proofs.YtjkdpnmmhobjlaaW.PrintLast Go.Proofs.YtjkdpnmmhobjlaaW.PrintMore
attribute [local go_sem] max2_int min2_int max_two min_two max_three min_three max_four min_four   -- for this text's walks alone
set_option linter.unusedVariables false
set_option linter.unusedSimpArgs false



def errW : Option Int → Value
  | none => .nilIface
  | some c => .iface 0 (.int .i64 c)
theorem errW_none : errW none = .nilIface := rfl
theorem errW_some (c : Int) : errW (some c) = .iface 0 (.int .i64 c) := rfl

-- the values' own types

end Go.Proofs.Ytjkdpnmmhobjlaa.PFnExactPartOk
