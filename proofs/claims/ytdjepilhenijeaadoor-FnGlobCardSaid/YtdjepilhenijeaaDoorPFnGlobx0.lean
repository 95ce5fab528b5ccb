-- PRINTED for this claim by a program of this session's repo over the kit's printer, with contracts of our own among the functions.
import Derived.Test.YtdjepilhenijeaaDoorProg
import Derived.Below
import Derived.Deep.Draws
import Derived.Deep.AppendLies
import Derived.Maps.AppendAt
import Derived.OwnWalk
import Derived.Laws.BytesArg
import Derived.Laws.MakeOwn
import Derived.Laws.OwnMore
import Derived.Deep.OwnRows
import Derived.Tactics
import Derived.Lib.ConvBytes
import Derived.Laws.Slices
import Derived.WalkKit
import Derived.KernelRfl
import Derived.RowKit3
import Derived.Deep.LoopGhost
import Derived.Deep.QuietTactic
import Derived.BigQuiet
import Derived.WideLaws
import Derived.Deep.DeepCutAuto
import Derived.Deep.CutBlock
import Derived.Deep.RegionHeld3
import Derived.Laws.Rows
import Derived.Lib.AppendStr
import Derived.ArgAppend
import Derived.Laws.IdiomCopy
import Derived.OrdersHeld
import Derived.Laws.BitsLemmas
import Derived.RowKit
import Derived.Laws.Strings
import Derived.Lib.Bytealg
import Derived.Test.YtdjepilhenijeaaDoorShelf
import Derived.Test.YtdjepilhenijeaaDoorWWords
import Derived.Test.YtdjepilhenijeaaDoorWLast
import Derived.Test.YtdjepilhenijeaaDoorWTab
import Derived.Test.YtdjepilhenijeaaDoorWFour
import Derived.Test.YtdjepilhenijeaaDoorWQPut
import Derived.Test.YtdjepilhenijeaaDoorWApart
import Derived.Test.YtdjepilhenijeaaDoorWArr
import Derived.Test.YtdjepilhenijeaaDoorWZeros
import Derived.Test.YtdjepilhenijeaaDoorWFoot
import Derived.Test.YtdjepilhenijeaaDoorWKept
import Derived.Test.YtdjepilhenijeaaDoorWShare
import Derived.Test.YtdjepilhenijeaaDoorWN
import Derived.Test.YtdjepilhenijeaaDoorWFootNe
import Derived.Test.YtdjepilhenijeaaDoorWAt
import Derived.Test.YtdjepilhenijeaaDoorWEqStruct
import Derived.Test.YtdjepilhenijeaaDoorWRepsOne
import Derived.Test.YtdjepilhenijeaaDoorWInv
import Derived.Test.YtdjepilhenijeaaDoorWInvWords
import Derived.Test.YtdjepilhenijeaaDoorWGuard
import Derived.Test.YtdjepilhenijeaaDoorWNEv
import Derived.Test.YtdjepilhenijeaaDoorWMore
namespace Go.Proofs.YtdjepilhenijeaaDoor.PFnGlob
open Go.RowKit Go.Proofs.YtdjepilhenijeaaDoorW.PrintWords Go.Proofs.YtdjepilhenijeaaDoorW.PrintLast Go.Proofs.YtdjepilhenijeaaDoorW.PrintMore
attribute [local go_sem] max2_int min2_int max_two min_two max_three min_three max_four min_four   -- for this text's walks alone
set_option linter.unusedVariables false
set_option linter.unusedSimpArgs false
theorem ne_add_ {a_ : Addr} {n_ g_ : Nat} (h_ : a_.block ≠ g_) : (a_.add n_).block ≠ g_ := by rw [add_block]; exact h_
theorem ownBlock_len (A_ : Option Addr) (n_ m_ c_ : Nat) : (Value.slice A_ n_ c_).ownBlock = (Value.slice A_ m_ c_).ownBlock := by cases A_ <;> rfl



def errW : Option Int → Value
  | none => .nilIface
  | some c => .iface 0 (.int .i64 c)
theorem errW_none : errW none = .nilIface := rfl
theorem errW_some (c : Int) : errW (some c) = .iface 0 (.int .i64 c) := rfl

theorem info3 : (Tryd.prog.info? 3).map (fun i => (i.zero, i.size, i.bytes)) = some (some (.int .i64 0), 1, 8) := by kernel_rfl
theorem info4 : (Tryd.prog.info? 4).map (fun i => (i.zero, i.size, i.bytes)) = some (some (.bool false), 1, 1) := by kernel_rfl
theorem info9 : (Tryd.prog.info? 9).map (fun i => (i.zero, i.size, i.bytes)) = some (some (.string ⟨#[]⟩), 1, 16) := by kernel_rfl
-- the values' own types
def rd_L4 (xs : List (List ByteArray)) (i : Int) : (List ByteArray) := xs.getD i.toNat ([] : List ByteArray)
theorem at_L4 {w : World} {A : Option Addr} {n : Nat} {xs : List (List ByteArray)} (h : Kd.C (Kd.slice 9 Kd.string) w A n xs) (i : Int) (h0 : 0 ≤ i) (h1 : i < n) : ∃ ad A0 c0, A = some ad ∧ w.cell? (ad.add i.toNat) = some (.slice A0 (rd_L4 xs i).length c0) ∧ (rd_L4 xs i).length ≤ c0 ∧ Kd.string.C w A0 (rd_L4 xs i).length (rd_L4 xs i) := by
  obtain ⟨ad, c, e, _, hK, hc0⟩ := Kd.C_get h ([] : List ByteArray) i h0 h1
  have hc : ∀ j u, c[j]? = some u → w.cell? (ad.add (i.toNat * 1 + j)) = some u := hc0
  obtain ⟨A0, c0, rfl, l0, g0⟩ := hK
  exact ⟨ad, A0, c0, e, by have hq := hc 0 _ rfl; rwa [Nat.mul_one, Nat.add_zero] at hq, l0, g0⟩

end Go.Proofs.YtdjepilhenijeaaDoor.PFnGlob
