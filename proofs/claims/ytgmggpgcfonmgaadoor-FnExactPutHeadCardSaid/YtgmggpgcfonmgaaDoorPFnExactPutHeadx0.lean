-- PRINTED for this claim by a program of this session's repo over the kit's printer, with contracts of our own among the functions.
import Derived.Test.YtgmggpgcfonmgaaDoorProg
import Derived.Below
import Derived.Deep.Draws
import Derived.Deep.AppendLies
import Derived.Maps.AppendAt
import Derived.OwnWalk
import Derived.Laws.BytesArg
import Derived.Laws.MakeOwn
import Derived.Laws.OwnMore
import Derived.Deep.OwnRows
import Derived.Tactics
import Derived.Lib.ConvBytes
import Derived.Laws.Slices
import Derived.WalkKit
import Derived.KernelRfl
import Derived.RowKit3
import Derived.Deep.LoopGhost
import Derived.Deep.QuietTactic
import Derived.BigQuiet
import Derived.WideLaws
import Derived.Deep.DeepCutAuto
import Derived.Deep.CutBlock
import Derived.Deep.RegionHeld3
import Derived.Laws.Rows
import Derived.Lib.AppendStr
import Derived.ArgAppend
import Derived.Laws.IdiomCopy
import Derived.OrdersHeld
import Derived.Laws.BitsLemmas
import Derived.RowKit
import Derived.BigCall
import Derived.BigGuard
import Derived.CellFam
import Derived.Laws.Bits64b
import Derived.Laws.Strings
import Derived.Lib.AppendIntMem
import Derived.Lib.Bytealg
import Derived.Lib.Hide
import Derived.Lib.ItoaWalk
import Derived.Lib.TrailingZeros
import Derived.Test.YtgmggpgcfonmgaaDoorShelf
import Derived.Test.YtgmggpgcfonmgaaDoorWWords
import Derived.Test.YtgmggpgcfonmgaaDoorWLast
import Derived.Test.YtgmggpgcfonmgaaDoorWTab
import Derived.Test.YtgmggpgcfonmgaaDoorWFour
import Derived.Test.YtgmggpgcfonmgaaDoorWQPut
import Derived.Test.YtgmggpgcfonmgaaDoorWApart
import Derived.Test.YtgmggpgcfonmgaaDoorWArr
import Derived.Test.YtgmggpgcfonmgaaDoorWZeros
import Derived.Test.YtgmggpgcfonmgaaDoorWFoot
import Derived.Test.YtgmggpgcfonmgaaDoorWKept
import Derived.Test.YtgmggpgcfonmgaaDoorWShare
import Derived.Test.YtgmggpgcfonmgaaDoorWN
import Derived.Test.YtgmggpgcfonmgaaDoorWFootNe
import Derived.Test.YtgmggpgcfonmgaaDoorWAt
import Derived.Test.YtgmggpgcfonmgaaDoorWEqStruct
import Derived.Test.YtgmggpgcfonmgaaDoorWRepsOne
import Derived.Test.YtgmggpgcfonmgaaDoorWInv
import Derived.Test.YtgmggpgcfonmgaaDoorWInvWords
import Derived.Test.YtgmggpgcfonmgaaDoorWGuard
import Derived.Test.YtgmggpgcfonmgaaDoorWNEv
import Derived.Test.YtgmggpgcfonmgaaDoorWMore
namespace Go.Proofs.YtgmggpgcfonmgaaDoor.PFnExactPutHead
open Go.RowKit Go.Proofs.YtgmggpgcfonmgaaDoorW.PrintWords Go.Proofs.YtgmggpgcfonmgaaDoorW.PrintLast Go.Proofs.YtgmggpgcfonmgaaDoorW.PrintMore
attribute [local go_sem] max2_int min2_int max_two min_two max_three min_three max_four min_four   -- for this text's walks alone
set_option linter.unusedVariables false
set_option linter.unusedSimpArgs false
def Tabs2 (w : World) : Prop := Lib.TabIs Tryd.prog w "internal/strconv.uint64pow10" .u64 Lib.pow10Tab ∧ Lib.TabIs Tryd.prog w "math/bits.deBruijn64tab" .u8 (Lib.deBruijn64tab.map Int.ofNat)
theorem Tabs2.below {w w1 : World} (h : Tabs2 w) (hb : Below w.heap.size w w1) : Tabs2 w1 := ⟨Lib.tabBelow_of_tabIs h.1 w1 hb, Lib.tabBelow_of_tabIs h.2 w1 hb⟩
def Tabs (w : World) : Prop := Tabs2 w ∧ True
theorem Tabs.below {w w1 : World} (h : Tabs w) (hb : Below w.heap.size w w1) : Tabs w1 := ⟨h.1.below hb, trivial⟩
theorem below_grow_ (w : World) (k : Nat) (os : Array Obj) : Below w.heap.size w (Go.Sort.grow (w.drewN k) os) := by
  have h := pw_below_drewN (Below.refl w.heap.size w) k
  refine h.trans ⟨rfl, rfl, rfl, by simp [Go.Sort.grow], fun i hi => ?_⟩
  have hs := h.size
  simp only [Go.Sort.grow]
  rw [Array.getElem?_append_left (by omega)]
theorem ne_add_ {a_ : Addr} {n_ g_ : Nat} (h_ : a_.block ≠ g_) : (a_.add n_).block ≠ g_ := by rw [add_block]; exact h_
theorem ownBlock_len (A_ : Option Addr) (n_ m_ c_ : Nat) : (Value.slice A_ n_ c_).ownBlock = (Value.slice A_ m_ c_).ownBlock := by cases A_ <;> rfl



def errW : Option Int → Value
  | none => .nilIface
  | some c => .iface 0 (.int .i64 c)
theorem errW_none : errW none = .nilIface := rfl
theorem errW_some (c : Int) : errW (some c) = .iface 0 (.int .i64 c) := rfl

theorem info5 : (Tryd.prog.info? 5).map (fun i => (i.zero, i.size, i.bytes)) = some (some (.int .u8 0), 1, 1) := by kernel_rfl
theorem info9 : (Tryd.prog.info? 9).map (fun i => (i.zero, i.size, i.bytes)) = some (some (.string ⟨#[]⟩), 1, 16) := by kernel_rfl
-- the values' own types
def rd_L3 (xs : List (List ByteArray)) (i : Int) : (List ByteArray) := xs.getD i.toNat ([] : List ByteArray)
theorem at_L3 {w : World} {A : Option Addr} {n : Nat} {xs : List (List ByteArray)} (h : Kd.C (Kd.slice 9 Kd.string) w A n xs) (i : Int) (h0 : 0 ≤ i) (h1 : i < n) : ∃ ad A0 c0, A = some ad ∧ w.cell? (ad.add i.toNat) = some (.slice A0 (rd_L3 xs i).length c0) ∧ (rd_L3 xs i).length ≤ c0 ∧ Kd.string.C w A0 (rd_L3 xs i).length (rd_L3 xs i) := by
  obtain ⟨ad, c, e, _, hK, hc0⟩ := Kd.C_get h ([] : List ByteArray) i h0 h1
  have hc : ∀ j u, c[j]? = some u → w.cell? (ad.add (i.toNat * 1 + j)) = some u := hc0
  obtain ⟨A0, c0, rfl, l0, g0⟩ := hK
  exact ⟨ad, A0, c0, e, by have hq := hc 0 _ rfl; rwa [Nat.mul_one, Nat.add_zero] at hq, l0, g0⟩

end Go.Proofs.YtgmggpgcfonmgaaDoor.PFnExactPutHead
