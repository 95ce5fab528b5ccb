-- PRINTED for this claim by a program of this session's repo over the kit's printer, with contracts of our own among the functions.
import Derived.Test.YtdjepilhenijeaaGreatDoorProg
import Derived.Below
import Derived.Deep.Draws
import Derived.Deep.AppendLies
import Derived.Maps.AppendAt
import Derived.OwnWalk
import Derived.Laws.BytesArg
import Derived.Laws.MakeOwn
import Derived.Laws.OwnMore
import Derived.Deep.OwnRows
import Derived.Tactics
import Derived.Lib.ConvBytes
import Derived.Laws.Slices
import Derived.WalkKit
import Derived.KernelRfl
import Derived.RowKit3
import Derived.Deep.LoopGhost
import Derived.Deep.QuietTactic
import Derived.BigQuiet
import Derived.WideLaws
import Derived.Deep.DeepCutAuto
import Derived.Deep.CutBlock
import Derived.Deep.RegionHeld3
import Derived.Laws.Rows
import Derived.Lib.AppendStr
import Derived.ArgAppend
import Derived.Laws.IdiomCopy
import Derived.OrdersHeld
import Derived.Laws.BitsLemmas
import Derived.RowKit
import Derived.BigCall
import Derived.BigGuard
import Derived.CellFam
import Derived.Laws.Bits64b
import Derived.Laws.Closers25
import Derived.Laws.Closers25b
import Derived.Laws.Strings
import Derived.Laws.Strings3
import Derived.Lib.AppendIntMem
import Derived.Lib.AtoiAllMem
import Derived.Lib.Bytealg
import Derived.Lib.ConvBytes
import Derived.Lib.Hide
import Derived.Lib.ItoaWalk
import Derived.Lib.Strings
import Derived.Lib.TrailingZeros
import Derived.Lib.Walk
import Derived.Shelf.Strings.Trim
import Derived.Test.YtdjepilhenijeaaGreatDoorShelf
import Derived.Test.YtdjepilhenijeaaGreatDoorWWords
import Derived.Test.YtdjepilhenijeaaGreatDoorWLast
import Derived.Test.YtdjepilhenijeaaGreatDoorWTab
import Derived.Test.YtdjepilhenijeaaGreatDoorWFour
import Derived.Test.YtdjepilhenijeaaGreatDoorWQPut
import Derived.Test.YtdjepilhenijeaaGreatDoorWApart
import Derived.Test.YtdjepilhenijeaaGreatDoorWArr
import Derived.Test.YtdjepilhenijeaaGreatDoorWZeros
import Derived.Test.YtdjepilhenijeaaGreatDoorWFoot
import Derived.Test.YtdjepilhenijeaaGreatDoorWKept
import Derived.Test.YtdjepilhenijeaaGreatDoorWShare
import Derived.Test.YtdjepilhenijeaaGreatDoorWN
import Derived.Test.YtdjepilhenijeaaGreatDoorWFootNe
import Derived.Test.YtdjepilhenijeaaGreatDoorWAt
import Derived.Test.YtdjepilhenijeaaGreatDoorWEqStruct
import Derived.Test.YtdjepilhenijeaaGreatDoorWRepsOne
import Derived.Test.YtdjepilhenijeaaGreatDoorWInv
import Derived.Test.YtdjepilhenijeaaGreatDoorWInvWords
import Derived.Test.YtdjepilhenijeaaGreatDoorWGuard
import Derived.Test.YtdjepilhenijeaaGreatDoorWNEv
import Derived.Test.YtdjepilhenijeaaGreatDoorWMore
namespace Go.Proofs.YtdjepilhenijeaaGreatDoor.PFnReads
open Go.RowKit Go.Proofs.YtdjepilhenijeaaGreatDoorW.PrintWords Go.Proofs.YtdjepilhenijeaaGreatDoorW.PrintLast Go.Proofs.YtdjepilhenijeaaGreatDoorW.PrintMore
attribute [local go_sem] max2_int min2_int max_two min_two max_three min_three max_four min_four   -- for this text's walks alone
set_option linter.unusedVariables false
set_option linter.unusedSimpArgs false
def Tabs2 (w : World) : Prop := Lib.TabIs Tryz.prog w "internal/strconv.uint64pow10" .u64 Lib.pow10Tab ∧ Lib.TabIs Tryz.prog w "math/bits.deBruijn64tab" .u8 (Lib.deBruijn64tab.map Int.ofNat)
theorem Tabs2.below {w w1 : World} (h : Tabs2 w) (hb : Below w.heap.size w w1) : Tabs2 w1 := ⟨Lib.tabBelow_of_tabIs h.1 w1 hb, Lib.tabBelow_of_tabIs h.2 w1 hb⟩
/-- A variable that holds an error. -/
def ErrAt (g : Nat) (w : World) : Prop := ∃ te pe, w.cell? ⟨g, 0, none⟩ = some (.iface te pe)
theorem ErrAt.below {g : Nat} {w w1 : World} (h : ErrAt g w) (hb : Below w.heap.size w w1) : ErrAt g w1 := by
  obtain ⟨te, pe, h⟩ := h
  have hg : g < w.heap.size := by
    rcases Nat.lt_or_ge g w.heap.size with h1 | h1
    · exact h1
    · exfalso
      unfold World.cell? at h
      simp [Array.getElem?_eq_none h1] at h
  exact ⟨te, pe, (hb.cell (p := ⟨g, 0, none⟩) hg).trans h⟩
def Tabs (w : World) : Prop := Tabs2 w ∧ (ErrAt 1 w ∧ ErrAt 2 w)
theorem Tabs.below {w w1 : World} (h : Tabs w) (hb : Below w.heap.size w w1) : Tabs w1 := ⟨h.1.below hb, h.2.1.below hb, h.2.2.below hb⟩
theorem below_grow_ (w : World) (k : Nat) (os : Array Obj) : Below w.heap.size w (Go.Sort.grow (w.drewN k) os) := by
  have h := pw_below_drewN (Below.refl w.heap.size w) k
  refine h.trans ⟨rfl, rfl, rfl, by simp [Go.Sort.grow], fun i hi => ?_⟩
  have hs := h.size
  simp only [Go.Sort.grow]
  rw [Array.getElem?_append_left (by omega)]
theorem ne_add_ {a_ : Addr} {n_ g_ : Nat} (h_ : a_.block ≠ g_) : (a_.add n_).block ≠ g_ := by rw [add_block]; exact h_
theorem ownBlock_len (A_ : Option Addr) (n_ m_ c_ : Nat) : (Value.slice A_ n_ c_).ownBlock = (Value.slice A_ m_ c_).ownBlock := by cases A_ <;> rfl



def errW : Option Int → Value
  | none => .nilIface
  | some c => .iface 0 (.int .i64 c)
theorem errW_none : errW none = .nilIface := rfl
theorem errW_some (c : Int) : errW (some c) = .iface 0 (.int .i64 c) := rfl

theorem info3 : (Tryz.prog.info? 3).map (fun i => (i.zero, i.size, i.bytes)) = some (some (.int .i64 0), 1, 8) := by kernel_rfl
theorem info5 : (Tryz.prog.info? 5).map (fun i => (i.zero, i.size, i.bytes)) = some (some (.int .u8 0), 1, 1) := by kernel_rfl
theorem info9 : (Tryz.prog.info? 9).map (fun i => (i.zero, i.size, i.bytes)) = some (some (.string ⟨#[]⟩), 1, 16) := by kernel_rfl
-- the values' own types

end Go.Proofs.YtdjepilhenijeaaGreatDoor.PFnReads
