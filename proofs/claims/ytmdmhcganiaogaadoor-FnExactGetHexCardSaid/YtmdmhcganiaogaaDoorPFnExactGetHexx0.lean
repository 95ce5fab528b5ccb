-- PRINTED for this claim by a program of this session's repo over the kit's printer, with contracts of our own among the functions.
import Derived.Test.YtmdmhcganiaogaaDoorProg
import Derived.Below
import Derived.Deep.Draws
import Derived.Deep.AppendLies
import Derived.Maps.AppendAt
import Derived.OwnWalk
import Derived.Laws.BytesArg
import Derived.Laws.MakeOwn
import Derived.Laws.OwnMore
import Derived.Deep.OwnRows
import Derived.Tactics
import Derived.Lib.ConvBytes
import Derived.Laws.Slices
import Derived.WalkKit
import Derived.KernelRfl
import Derived.RowKit3
import Derived.Deep.LoopGhost
import Derived.Deep.QuietTactic
import Derived.BigQuiet
import Derived.WideLaws
import Derived.Deep.DeepCutAuto
import Derived.Deep.CutBlock
import Derived.Deep.RegionHeld3
import Derived.Laws.Rows
import Derived.Lib.AppendStr
import Derived.ArgAppend
import Derived.Laws.IdiomCopy
import Derived.OrdersHeld
import Derived.Laws.BitsLemmas
import Derived.RowKit
import Derived.BigCall
import Derived.BigGuard
import Derived.Laws.Closers25
import Derived.Laws.Closers25b
import Derived.Laws.Strings
import Derived.Laws.Strings3
import Derived.Lib.AtoiAllMem
import Derived.Lib.Bytealg
import Derived.Lib.ConvBytes
import Derived.Lib.Hide
import Derived.Lib.ItoaWalk
import Derived.Lib.Strings
import Derived.Lib.Walk
import Derived.Test.YtmdmhcganiaogaaDoorWWords
import Derived.Test.YtmdmhcganiaogaaDoorWLast
import Derived.Test.YtmdmhcganiaogaaDoorWTab
import Derived.Test.YtmdmhcganiaogaaDoorWFour
import Derived.Test.YtmdmhcganiaogaaDoorWQPut
import Derived.Test.YtmdmhcganiaogaaDoorWApart
import Derived.Test.YtmdmhcganiaogaaDoorWArr
import Derived.Test.YtmdmhcganiaogaaDoorWZeros
import Derived.Test.YtmdmhcganiaogaaDoorWFoot
import Derived.Test.YtmdmhcganiaogaaDoorWKept
import Derived.Test.YtmdmhcganiaogaaDoorWShare
import Derived.Test.YtmdmhcganiaogaaDoorWN
import Derived.Test.YtmdmhcganiaogaaDoorWFootNe
import Derived.Test.YtmdmhcganiaogaaDoorWAt
import Derived.Test.YtmdmhcganiaogaaDoorWEqStruct
import Derived.Test.YtmdmhcganiaogaaDoorWRepsOne
import Derived.Test.YtmdmhcganiaogaaDoorWInv
import Derived.Test.YtmdmhcganiaogaaDoorWInvWords
import Derived.Test.YtmdmhcganiaogaaDoorWGuard
import Derived.Test.YtmdmhcganiaogaaDoorWNEv
import Derived.Test.YtmdmhcganiaogaaDoorWMore
namespace Go.Proofs.YtmdmhcganiaogaaDoor.PFnExactGetHex
open Go.RowKit Go.Proofs.YtmdmhcganiaogaaDoorW.PrintWords Go.Proofs.YtmdmhcganiaogaaDoorW.PrintLast Go.Proofs.YtmdmhcganiaogaaDoorW.PrintMore
attribute [local go_sem] max2_int min2_int max_two min_two max_three min_three max_four min_four   -- for this text's walks alone
set_option linter.unusedVariables false
set_option linter.unusedSimpArgs false
theorem ne_add_ {a_ : Addr} {n_ g_ : Nat} (h_ : a_.block ≠ g_) : (a_.add n_).block ≠ g_ := by rw [add_block]; exact h_
theorem ownBlock_len (A_ : Option Addr) (n_ m_ c_ : Nat) : (Value.slice A_ n_ c_).ownBlock = (Value.slice A_ m_ c_).ownBlock := by cases A_ <;> rfl



def errW : Option Int → Value
  | none => .nilIface
  | some c => .iface 0 (.int .i64 c)
theorem errW_none : errW none = .nilIface := rfl
theorem errW_some (c : Int) : errW (some c) = .iface 0 (.int .i64 c) := rfl

-- the values' own types

end Go.Proofs.YtmdmhcganiaogaaDoor.PFnExactGetHex
