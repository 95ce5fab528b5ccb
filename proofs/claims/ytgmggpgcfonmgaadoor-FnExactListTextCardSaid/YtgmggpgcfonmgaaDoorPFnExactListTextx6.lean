-- PRINTED for this claim by a program of this session's repo over the kit's printer, with contracts of our own among the functions.
import Derived.Test.YtgmggpgcfonmgaaDoorPFnExactListTextx0
import Derived.Test.YtgmggpgcfonmgaaDoorPFnExactListTextx4
import Derived.Test.YtgmggpgcfonmgaaDoorPFnExactListTextx5
namespace Go.Proofs.YtgmggpgcfonmgaaDoor.PFnExactListText
open Go.RowKit Go.Proofs.YtgmggpgcfonmgaaDoorW.PrintWords Go.Proofs.YtgmggpgcfonmgaaDoorW.PrintLast Go.Proofs.YtgmggpgcfonmgaaDoorW.PrintMore
attribute [local go_sem] max2_int min2_int max_two min_two max_three min_three max_four min_four   -- for this text's walks alone
set_option linter.unusedVariables false
set_option linter.unusedSimpArgs false

/-! ### spec_EntryText: function 20 -/
def spec_EntryText.f (k : Nat) (a0_0 : Int) (a0_1 : ByteArray) (a0_2 : ByteArray) (a0_3 : Int) (a0_4 : Int) (a0_5 : Int) (a0_6 : Int) (a0_7 : ByteArray) (a0_8 : ByteArray) (a0_9 : ByteArray) : Option (ByteArray) := (spec_EntryOk.f k a0_0 a0_1 a0_2 a0_3 a0_4 a0_5 a0_6 a0_7 a0_8 a0_9).bind fun t162 => (if t162 = true then ((spec_PutOct.f k a0_3 4).bind fun bt163 => ((some (([(⟨#[102]⟩ : ByteArray), (⟨#[100]⟩ : ByteArray), (⟨#[108]⟩ : ByteArray), (⟨#[104]⟩ : ByteArray)] : List ByteArray) : List ByteArray)).bind fun y165 => (if 0 ≤ a0_0 then (if a0_0 < (y165.length : Int) then (if (rdOf ByteArray.empty y165 a0_0).size + 1 ≤ 9223372036854775807 then (if ((rdOf ByteArray.empty y165 a0_0) ++ (⟨#[32]⟩ : ByteArray)).size + bt163.1.size ≤ 9223372036854775807 then (if (((rdOf ByteArray.empty y165 a0_0) ++ (⟨#[32]⟩ : ByteArray)) ++ bt163.1).size + 1 ≤ 9223372036854775807 then ((spec_DecText.f k a0_4).bind fun t169 => (if ((((rdOf ByteArray.empty y165 a0_0) ++ (⟨#[32]⟩ : ByteArray)) ++ bt163.1) ++ (⟨#[32]⟩ : ByteArray)).size + t169.size ≤ 9223372036854775807 then (if (((((rdOf ByteArray.empty y165 a0_0) ++ (⟨#[32]⟩ : ByteArray)) ++ bt163.1) ++ (⟨#[32]⟩ : ByteArray)) ++ t169).size + 1 ≤ 9223372036854775807 then ((spec_DecText.f k a0_5).bind fun t170 => (if ((((((rdOf ByteArray.empty y165 a0_0) ++ (⟨#[32]⟩ : ByteArray)) ++ bt163.1) ++ (⟨#[32]⟩ : ByteArray)) ++ t169) ++ (⟨#[32]⟩ : ByteArray)).size + t170.size ≤ 9223372036854775807 then (if (((((((rdOf ByteArray.empty y165 a0_0) ++ (⟨#[32]⟩ : ByteArray)) ++ bt163.1) ++ (⟨#[32]⟩ : ByteArray)) ++ t169) ++ (⟨#[32]⟩ : ByteArray)) ++ t170).size + 1 ≤ 9223372036854775807 then ((spec_DecText.f k a0_6).bind fun t171 => (if ((((((((rdOf ByteArray.empty y165 a0_0) ++ (⟨#[32]⟩ : ByteArray)) ++ bt163.1) ++ (⟨#[32]⟩ : ByteArray)) ++ t169) ++ (⟨#[32]⟩ : ByteArray)) ++ t170) ++ (⟨#[32]⟩ : ByteArray)).size + t171.size ≤ 9223372036854775807 then (if (((((((((rdOf ByteArray.empty y165 a0_0) ++ (⟨#[32]⟩ : ByteArray)) ++ bt163.1) ++ (⟨#[32]⟩ : ByteArray)) ++ t169) ++ (⟨#[32]⟩ : ByteArray)) ++ t170) ++ (⟨#[32]⟩ : ByteArray)) ++ t171).size + 1 ≤ 9223372036854775807 then ((spec_l03Or.f a0_7).bind fun t172 => (if ((((((((((rdOf ByteArray.empty y165 a0_0) ++ (⟨#[32]⟩ : ByteArray)) ++ bt163.1) ++ (⟨#[32]⟩ : ByteArray)) ++ t169) ++ (⟨#[32]⟩ : ByteArray)) ++ t170) ++ (⟨#[32]⟩ : ByteArray)) ++ t171) ++ (⟨#[32]⟩ : ByteArray)).size + t172.size ≤ 9223372036854775807 then (if (((((((((((rdOf ByteArray.empty y165 a0_0) ++ (⟨#[32]⟩ : ByteArray)) ++ bt163.1) ++ (⟨#[32]⟩ : ByteArray)) ++ t169) ++ (⟨#[32]⟩ : ByteArray)) ++ t170) ++ (⟨#[32]⟩ : ByteArray)) ++ t171) ++ (⟨#[32]⟩ : ByteArray)) ++ t172).size + 1 ≤ 9223372036854775807 then ((spec_l03Or.f a0_8).bind fun t173 => (if ((((((((((((rdOf ByteArray.empty y165 a0_0) ++ (⟨#[32]⟩ : ByteArray)) ++ bt163.1) ++ (⟨#[32]⟩ : ByteArray)) ++ t169) ++ (⟨#[32]⟩ : ByteArray)) ++ t170) ++ (⟨#[32]⟩ : ByteArray)) ++ t171) ++ (⟨#[32]⟩ : ByteArray)) ++ t172) ++ (⟨#[32]⟩ : ByteArray)).size + t173.size ≤ 9223372036854775807 then (if (((((((((((((rdOf ByteArray.empty y165 a0_0) ++ (⟨#[32]⟩ : ByteArray)) ++ bt163.1) ++ (⟨#[32]⟩ : ByteArray)) ++ t169) ++ (⟨#[32]⟩ : ByteArray)) ++ t170) ++ (⟨#[32]⟩ : ByteArray)) ++ t171) ++ (⟨#[32]⟩ : ByteArray)) ++ t172) ++ (⟨#[32]⟩ : ByteArray)) ++ t173).size + 1 ≤ 9223372036854775807 then ((spec_DecText.f k (a0_9.size : Int)).bind fun t174 => (if ((((((((((((((rdOf ByteArray.empty y165 a0_0) ++ (⟨#[32]⟩ : ByteArray)) ++ bt163.1) ++ (⟨#[32]⟩ : ByteArray)) ++ t169) ++ (⟨#[32]⟩ : ByteArray)) ++ t170) ++ (⟨#[32]⟩ : ByteArray)) ++ t171) ++ (⟨#[32]⟩ : ByteArray)) ++ t172) ++ (⟨#[32]⟩ : ByteArray)) ++ t173) ++ (⟨#[32]⟩ : ByteArray)).size + t174.size ≤ 9223372036854775807 then (if (((((((((((((((rdOf ByteArray.empty y165 a0_0) ++ (⟨#[32]⟩ : ByteArray)) ++ bt163.1) ++ (⟨#[32]⟩ : ByteArray)) ++ t169) ++ (⟨#[32]⟩ : ByteArray)) ++ t170) ++ (⟨#[32]⟩ : ByteArray)) ++ t171) ++ (⟨#[32]⟩ : ByteArray)) ++ t172) ++ (⟨#[32]⟩ : ByteArray)) ++ t173) ++ (⟨#[32]⟩ : ByteArray)) ++ t174).size + 1 ≤ 9223372036854775807 then (if ((((((((((((((((rdOf ByteArray.empty y165 a0_0) ++ (⟨#[32]⟩ : ByteArray)) ++ bt163.1) ++ (⟨#[32]⟩ : ByteArray)) ++ t169) ++ (⟨#[32]⟩ : ByteArray)) ++ t170) ++ (⟨#[32]⟩ : ByteArray)) ++ t171) ++ (⟨#[32]⟩ : ByteArray)) ++ t172) ++ (⟨#[32]⟩ : ByteArray)) ++ t173) ++ (⟨#[32]⟩ : ByteArray)) ++ t174) ++ (⟨#[32]⟩ : ByteArray)).size + a0_1.size ≤ 9223372036854775807 then (if a0_2.toList = ([] : List UInt8) then (some (((((((((((((((((rdOf ByteArray.empty y165 a0_0) ++ (⟨#[32]⟩ : ByteArray)) ++ bt163.1) ++ (⟨#[32]⟩ : ByteArray)) ++ t169) ++ (⟨#[32]⟩ : ByteArray)) ++ t170) ++ (⟨#[32]⟩ : ByteArray)) ++ t171) ++ (⟨#[32]⟩ : ByteArray)) ++ t172) ++ (⟨#[32]⟩ : ByteArray)) ++ t173) ++ (⟨#[32]⟩ : ByteArray)) ++ t174) ++ (⟨#[32]⟩ : ByteArray)) ++ a0_1)) else (if (((((((((((((((((rdOf ByteArray.empty y165 a0_0) ++ (⟨#[32]⟩ : ByteArray)) ++ bt163.1) ++ (⟨#[32]⟩ : ByteArray)) ++ t169) ++ (⟨#[32]⟩ : ByteArray)) ++ t170) ++ (⟨#[32]⟩ : ByteArray)) ++ t171) ++ (⟨#[32]⟩ : ByteArray)) ++ t172) ++ (⟨#[32]⟩ : ByteArray)) ++ t173) ++ (⟨#[32]⟩ : ByteArray)) ++ t174) ++ (⟨#[32]⟩ : ByteArray)) ++ a0_1).size + 4 ≤ 9223372036854775807 then (if ((((((((((((((((((rdOf ByteArray.empty y165 a0_0) ++ (⟨#[32]⟩ : ByteArray)) ++ bt163.1) ++ (⟨#[32]⟩ : ByteArray)) ++ t169) ++ (⟨#[32]⟩ : ByteArray)) ++ t170) ++ (⟨#[32]⟩ : ByteArray)) ++ t171) ++ (⟨#[32]⟩ : ByteArray)) ++ t172) ++ (⟨#[32]⟩ : ByteArray)) ++ t173) ++ (⟨#[32]⟩ : ByteArray)) ++ t174) ++ (⟨#[32]⟩ : ByteArray)) ++ a0_1) ++ (⟨#[32, 45, 62, 32]⟩ : ByteArray)).size + a0_2.size ≤ 9223372036854775807 then (some (((((((((((((((((((rdOf ByteArray.empty y165 a0_0) ++ (⟨#[32]⟩ : ByteArray)) ++ bt163.1) ++ (⟨#[32]⟩ : ByteArray)) ++ t169) ++ (⟨#[32]⟩ : ByteArray)) ++ t170) ++ (⟨#[32]⟩ : ByteArray)) ++ t171) ++ (⟨#[32]⟩ : ByteArray)) ++ t172) ++ (⟨#[32]⟩ : ByteArray)) ++ t173) ++ (⟨#[32]⟩ : ByteArray)) ++ t174) ++ (⟨#[32]⟩ : ByteArray)) ++ a0_1) ++ (⟨#[32, 45, 62, 32]⟩ : ByteArray)) ++ a0_2)) else (none)) else (none))) else (none)) else (none)) else (none))) else (none)) else (none))) else (none)) else (none))) else (none)) else (none))) else (none)) else (none))) else (none)) else (none))) else (none)) else (none)) else (none)) else (none)) else (none)))) else (some (⟨#[]⟩ : ByteArray)))
theorem spec_EntryText.mono : ∀ a0 a1 a2 a3 a4 a5 a6 a7 a8 a9 k, LeO (spec_EntryText.f k a0 a1 a2 a3 a4 a5 a6 a7 a8 a9) (spec_EntryText.f (k + 1) a0 a1 a2 a3 a4 a5 a6 a7 a8 a9) := by
  intro a0 a1 a2 a3 a4 a5 a6 a7 a8 a9 k
  unfold spec_EntryText.f
  repeat' first
      | (with_reducible exact spec_DecText.mono _ _)
      | (with_reducible exact spec_EntryOk.mono _ _ _ _ _ _ _ _ _ _ _)
      | (with_reducible exact spec_PutOct.mono _ _ _)
      | (with_reducible exact LeO.refl _)
      | (with_reducible exact LeO.none _)
      | (with_reducible refine LeO.ite ?_ ?_)
      | (with_reducible refine LeO.bind ?_ (fun _ => ?_))
      | exact spec_DecText.mono _ _
      | exact spec_EntryOk.mono _ _ _ _ _ _ _ _ _ _ _
      | exact spec_PutOct.mono _ _ _
      | exact LeO.none _
      | refine LeO.ite ?_ ?_
      | refine LeO.bind ?_ (fun _ => ?_)
def spec_EntryText.T4 : Bool × List (List Nat × List Nat) := (true, [([], []), ([], []), ([1], [1]), ([0, 2], [0, 2]), ([3], [3]), ([4], [4]), ([], []), ([5, 6], [5, 6]), ([7], [7]), ([], []), ([9], [9]), ([10], [10]), ([8, 11], [8, 11]), ([12], [12]), ([], []), ([14], [14]), ([15, 11], [15]), ([13, 16], [13, 16]), ([17], [17]), ([], []), ([19], [19]), ([20, 16], [20]), ([18, 21], [18, 21]), ([22], [22]), ([], []), ([24], [24]), ([25, 21], [25]), ([23, 26], [23, 26]), ([27], [27]), ([], []), ([29], [29]), ([30, 26], [30]), ([28, 31], [28, 31]), ([32], [32]), ([], []), ([34], [34]), ([35], [35]), ([36, 31], [36]), ([33, 37], [33, 37]), ([38], [38]), ([], []), ([40], [40]), ([39, 41], [39, 41]), ([42, 37, 0, 1, 2, 3, 4, 5, 6, 7, 8, 9, 10, 11, 12, 13, 14, 15, 16, 17, 18, 19, 20, 21, 22, 23, 24, 25, 26, 27, 28, 29, 30, 31, 32, 33, 34, 35, 36, 37, 38, 39, 40, 41, 42], [42])])
def spec_EntryText.B4 : List Nat := [0, 0, 2, 7, 15, 31, 0, 127, 255, 0, 512, 1536, 4095, 8191, 0, 16384, 52736, 131071, 262143, 0, 524288, 1691136, 4194303, 8388607, 0, 16777216, 54119936, 134217727, 268435455, 0, 536870912, 1731841536, 4294967295, 8589934591, 0, 17179869184, 51539607552, 124138409472, 274877906943, 549755813887, 0, 1099511627776, 4398046511103, 8796093022207]
theorem spec_EntryText.tab4 : rtab .any (opsOf Tryd.f20 4) = spec_EntryText.T4 := by kernel_rfl
theorem spec_EntryText.bits4 : waitsOk spec_EntryText.T4.2 spec_EntryText.B4 = true := by kernel_rfl
set_option maxHeartbeats 60000000 in
set_option maxRecDepth 100000 in
theorem spec_EntryText.calls (k : Nat) (a0_0 : Int) (a0_1 : ByteArray) (a0_2 : ByteArray) (a0_3 : Int) (a0_4 : Int) (a0_5 : Int) (a0_6 : Int) (a0_7 : ByteArray) (a0_8 : ByteArray) (a0_9 : ByteArray) (r : ByteArray) (w : World) (h : spec_EntryText.f k a0_0 a0_1 a0_2 a0_3 a0_4 a0_5 a0_6 a0_7 a0_8 a0_9 = some r) :
    Calls Tryd.prog 20 #[.agg #[.int .i64 a0_0, .string a0_1, .string a0_2, .int .i64 a0_3, .int .i64 a0_4, .int .i64 a0_5, .int .i64 a0_6, .string a0_7, .string a0_8, .string a0_9]] w fun e w' => e = .returned (.string r) ∧ Below w.heap.size w w' := by
  have hu36 := Tryd.underlying36
  have HB := Aside0.mk (Below.refl w.heap.size w)
  have H : ((spec_EntryOk.f k a0_0 a0_1 a0_2 a0_3 a0_4 a0_5 a0_6 a0_7 a0_8 a0_9).bind fun t162 => (if t162 = true then ((spec_PutOct.f k a0_3 4).bind fun bt163 => ((some (([(⟨#[102]⟩ : ByteArray), (⟨#[100]⟩ : ByteArray), (⟨#[108]⟩ : ByteArray), (⟨#[104]⟩ : ByteArray)] : List ByteArray) : List ByteArray)).bind fun y165 => (if 0 ≤ a0_0 then (if a0_0 < (y165.length : Int) then (if (rdOf ByteArray.empty y165 a0_0).size + 1 ≤ 9223372036854775807 then (if ((rdOf ByteArray.empty y165 a0_0) ++ (⟨#[32]⟩ : ByteArray)).size + bt163.1.size ≤ 9223372036854775807 then (if (((rdOf ByteArray.empty y165 a0_0) ++ (⟨#[32]⟩ : ByteArray)) ++ bt163.1).size + 1 ≤ 9223372036854775807 then ((spec_DecText.f k a0_4).bind fun t169 => (if ((((rdOf ByteArray.empty y165 a0_0) ++ (⟨#[32]⟩ : ByteArray)) ++ bt163.1) ++ (⟨#[32]⟩ : ByteArray)).size + t169.size ≤ 9223372036854775807 then (if (((((rdOf ByteArray.empty y165 a0_0) ++ (⟨#[32]⟩ : ByteArray)) ++ bt163.1) ++ (⟨#[32]⟩ : ByteArray)) ++ t169).size + 1 ≤ 9223372036854775807 then ((spec_DecText.f k a0_5).bind fun t170 => (if ((((((rdOf ByteArray.empty y165 a0_0) ++ (⟨#[32]⟩ : ByteArray)) ++ bt163.1) ++ (⟨#[32]⟩ : ByteArray)) ++ t169) ++ (⟨#[32]⟩ : ByteArray)).size + t170.size ≤ 9223372036854775807 then (if (((((((rdOf ByteArray.empty y165 a0_0) ++ (⟨#[32]⟩ : ByteArray)) ++ bt163.1) ++ (⟨#[32]⟩ : ByteArray)) ++ t169) ++ (⟨#[32]⟩ : ByteArray)) ++ t170).size + 1 ≤ 9223372036854775807 then ((spec_DecText.f k a0_6).bind fun t171 => (if ((((((((rdOf ByteArray.empty y165 a0_0) ++ (⟨#[32]⟩ : ByteArray)) ++ bt163.1) ++ (⟨#[32]⟩ : ByteArray)) ++ t169) ++ (⟨#[32]⟩ : ByteArray)) ++ t170) ++ (⟨#[32]⟩ : ByteArray)).size + t171.size ≤ 9223372036854775807 then (if (((((((((rdOf ByteArray.empty y165 a0_0) ++ (⟨#[32]⟩ : ByteArray)) ++ bt163.1) ++ (⟨#[32]⟩ : ByteArray)) ++ t169) ++ (⟨#[32]⟩ : ByteArray)) ++ t170) ++ (⟨#[32]⟩ : ByteArray)) ++ t171).size + 1 ≤ 9223372036854775807 then ((spec_l03Or.f a0_7).bind fun t172 => (if ((((((((((rdOf ByteArray.empty y165 a0_0) ++ (⟨#[32]⟩ : ByteArray)) ++ bt163.1) ++ (⟨#[32]⟩ : ByteArray)) ++ t169) ++ (⟨#[32]⟩ : ByteArray)) ++ t170) ++ (⟨#[32]⟩ : ByteArray)) ++ t171) ++ (⟨#[32]⟩ : ByteArray)).size + t172.size ≤ 9223372036854775807 then (if (((((((((((rdOf ByteArray.empty y165 a0_0) ++ (⟨#[32]⟩ : ByteArray)) ++ bt163.1) ++ (⟨#[32]⟩ : ByteArray)) ++ t169) ++ (⟨#[32]⟩ : ByteArray)) ++ t170) ++ (⟨#[32]⟩ : ByteArray)) ++ t171) ++ (⟨#[32]⟩ : ByteArray)) ++ t172).size + 1 ≤ 9223372036854775807 then ((spec_l03Or.f a0_8).bind fun t173 => (if ((((((((((((rdOf ByteArray.empty y165 a0_0) ++ (⟨#[32]⟩ : ByteArray)) ++ bt163.1) ++ (⟨#[32]⟩ : ByteArray)) ++ t169) ++ (⟨#[32]⟩ : ByteArray)) ++ t170) ++ (⟨#[32]⟩ : ByteArray)) ++ t171) ++ (⟨#[32]⟩ : ByteArray)) ++ t172) ++ (⟨#[32]⟩ : ByteArray)).size + t173.size ≤ 9223372036854775807 then (if (((((((((((((rdOf ByteArray.empty y165 a0_0) ++ (⟨#[32]⟩ : ByteArray)) ++ bt163.1) ++ (⟨#[32]⟩ : ByteArray)) ++ t169) ++ (⟨#[32]⟩ : ByteArray)) ++ t170) ++ (⟨#[32]⟩ : ByteArray)) ++ t171) ++ (⟨#[32]⟩ : ByteArray)) ++ t172) ++ (⟨#[32]⟩ : ByteArray)) ++ t173).size + 1 ≤ 9223372036854775807 then ((spec_DecText.f k (a0_9.size : Int)).bind fun t174 => (if ((((((((((((((rdOf ByteArray.empty y165 a0_0) ++ (⟨#[32]⟩ : ByteArray)) ++ bt163.1) ++ (⟨#[32]⟩ : ByteArray)) ++ t169) ++ (⟨#[32]⟩ : ByteArray)) ++ t170) ++ (⟨#[32]⟩ : ByteArray)) ++ t171) ++ (⟨#[32]⟩ : ByteArray)) ++ t172) ++ (⟨#[32]⟩ : ByteArray)) ++ t173) ++ (⟨#[32]⟩ : ByteArray)).size + t174.size ≤ 9223372036854775807 then (if (((((((((((((((rdOf ByteArray.empty y165 a0_0) ++ (⟨#[32]⟩ : ByteArray)) ++ bt163.1) ++ (⟨#[32]⟩ : ByteArray)) ++ t169) ++ (⟨#[32]⟩ : ByteArray)) ++ t170) ++ (⟨#[32]⟩ : ByteArray)) ++ t171) ++ (⟨#[32]⟩ : ByteArray)) ++ t172) ++ (⟨#[32]⟩ : ByteArray)) ++ t173) ++ (⟨#[32]⟩ : ByteArray)) ++ t174).size + 1 ≤ 9223372036854775807 then (if ((((((((((((((((rdOf ByteArray.empty y165 a0_0) ++ (⟨#[32]⟩ : ByteArray)) ++ bt163.1) ++ (⟨#[32]⟩ : ByteArray)) ++ t169) ++ (⟨#[32]⟩ : ByteArray)) ++ t170) ++ (⟨#[32]⟩ : ByteArray)) ++ t171) ++ (⟨#[32]⟩ : ByteArray)) ++ t172) ++ (⟨#[32]⟩ : ByteArray)) ++ t173) ++ (⟨#[32]⟩ : ByteArray)) ++ t174) ++ (⟨#[32]⟩ : ByteArray)).size + a0_1.size ≤ 9223372036854775807 then (if a0_2.toList = ([] : List UInt8) then (some (((((((((((((((((rdOf ByteArray.empty y165 a0_0) ++ (⟨#[32]⟩ : ByteArray)) ++ bt163.1) ++ (⟨#[32]⟩ : ByteArray)) ++ t169) ++ (⟨#[32]⟩ : ByteArray)) ++ t170) ++ (⟨#[32]⟩ : ByteArray)) ++ t171) ++ (⟨#[32]⟩ : ByteArray)) ++ t172) ++ (⟨#[32]⟩ : ByteArray)) ++ t173) ++ (⟨#[32]⟩ : ByteArray)) ++ t174) ++ (⟨#[32]⟩ : ByteArray)) ++ a0_1)) else (if (((((((((((((((((rdOf ByteArray.empty y165 a0_0) ++ (⟨#[32]⟩ : ByteArray)) ++ bt163.1) ++ (⟨#[32]⟩ : ByteArray)) ++ t169) ++ (⟨#[32]⟩ : ByteArray)) ++ t170) ++ (⟨#[32]⟩ : ByteArray)) ++ t171) ++ (⟨#[32]⟩ : ByteArray)) ++ t172) ++ (⟨#[32]⟩ : ByteArray)) ++ t173) ++ (⟨#[32]⟩ : ByteArray)) ++ t174) ++ (⟨#[32]⟩ : ByteArray)) ++ a0_1).size + 4 ≤ 9223372036854775807 then (if ((((((((((((((((((rdOf ByteArray.empty y165 a0_0) ++ (⟨#[32]⟩ : ByteArray)) ++ bt163.1) ++ (⟨#[32]⟩ : ByteArray)) ++ t169) ++ (⟨#[32]⟩ : ByteArray)) ++ t170) ++ (⟨#[32]⟩ : ByteArray)) ++ t171) ++ (⟨#[32]⟩ : ByteArray)) ++ t172) ++ (⟨#[32]⟩ : ByteArray)) ++ t173) ++ (⟨#[32]⟩ : ByteArray)) ++ t174) ++ (⟨#[32]⟩ : ByteArray)) ++ a0_1) ++ (⟨#[32, 45, 62, 32]⟩ : ByteArray)).size + a0_2.size ≤ 9223372036854775807 then (some (((((((((((((((((((rdOf ByteArray.empty y165 a0_0) ++ (⟨#[32]⟩ : ByteArray)) ++ bt163.1) ++ (⟨#[32]⟩ : ByteArray)) ++ t169) ++ (⟨#[32]⟩ : ByteArray)) ++ t170) ++ (⟨#[32]⟩ : ByteArray)) ++ t171) ++ (⟨#[32]⟩ : ByteArray)) ++ t172) ++ (⟨#[32]⟩ : ByteArray)) ++ t173) ++ (⟨#[32]⟩ : ByteArray)) ++ t174) ++ (⟨#[32]⟩ : ByteArray)) ++ a0_1) ++ (⟨#[32, 45, 62, 32]⟩ : ByteArray)) ++ a0_2)) else (none)) else (none))) else (none)) else (none)) else (none))) else (none)) else (none))) else (none)) else (none))) else (none)) else (none))) else (none)) else (none))) else (none)) else (none))) else (none)) else (none)) else (none)) else (none)) else (none)))) else (some (⟨#[]⟩ : ByteArray)))) = some r := h
  clear h
  replace H := Option.bind_eq_some_iff.mp H
  obtain ⟨t162, A20, H⟩ := H
  try dsimp only at H
  have A2 := Aside0.mk A20
  clear A20
  by_cases c3 : t162 = true
  {
  subst c3
  have H1 := H; rw [if_pos rfl] at H1
  clear H
  have H := H1
  clear H1
  replace H := Option.bind_eq_some_iff.mp H
  obtain ⟨⟨t163, t164⟩, A40, H⟩ := H
  try dsimp only at H
  have A4 := Aside0.mk A40
  clear A40
  obtain ⟨y165, hy165⟩ : ∃ y_ : List ByteArray, y_ = (([(⟨#[102]⟩ : ByteArray), (⟨#[100]⟩ : ByteArray), (⟨#[108]⟩ : ByteArray), (⟨#[104]⟩ : ByteArray)] : List ByteArray)) := ⟨_, rfl⟩
  replace H : (if 0 ≤ a0_0 then (if a0_0 < (y165.length : Int) then (if (rdOf ByteArray.empty y165 a0_0).size + 1 ≤ 9223372036854775807 then (if ((rdOf ByteArray.empty y165 a0_0) ++ (⟨#[32]⟩ : ByteArray)).size + t163.size ≤ 9223372036854775807 then (if (((rdOf ByteArray.empty y165 a0_0) ++ (⟨#[32]⟩ : ByteArray)) ++ t163).size + 1 ≤ 9223372036854775807 then ((spec_DecText.f k a0_4).bind fun t169 => (if ((((rdOf ByteArray.empty y165 a0_0) ++ (⟨#[32]⟩ : ByteArray)) ++ t163) ++ (⟨#[32]⟩ : ByteArray)).size + t169.size ≤ 9223372036854775807 then (if (((((rdOf ByteArray.empty y165 a0_0) ++ (⟨#[32]⟩ : ByteArray)) ++ t163) ++ (⟨#[32]⟩ : ByteArray)) ++ t169).size + 1 ≤ 9223372036854775807 then ((spec_DecText.f k a0_5).bind fun t170 => (if ((((((rdOf ByteArray.empty y165 a0_0) ++ (⟨#[32]⟩ : ByteArray)) ++ t163) ++ (⟨#[32]⟩ : ByteArray)) ++ t169) ++ (⟨#[32]⟩ : ByteArray)).size + t170.size ≤ 9223372036854775807 then (if (((((((rdOf ByteArray.empty y165 a0_0) ++ (⟨#[32]⟩ : ByteArray)) ++ t163) ++ (⟨#[32]⟩ : ByteArray)) ++ t169) ++ (⟨#[32]⟩ : ByteArray)) ++ t170).size + 1 ≤ 9223372036854775807 then ((spec_DecText.f k a0_6).bind fun t171 => (if ((((((((rdOf ByteArray.empty y165 a0_0) ++ (⟨#[32]⟩ : ByteArray)) ++ t163) ++ (⟨#[32]⟩ : ByteArray)) ++ t169) ++ (⟨#[32]⟩ : ByteArray)) ++ t170) ++ (⟨#[32]⟩ : ByteArray)).size + t171.size ≤ 9223372036854775807 then (if (((((((((rdOf ByteArray.empty y165 a0_0) ++ (⟨#[32]⟩ : ByteArray)) ++ t163) ++ (⟨#[32]⟩ : ByteArray)) ++ t169) ++ (⟨#[32]⟩ : ByteArray)) ++ t170) ++ (⟨#[32]⟩ : ByteArray)) ++ t171).size + 1 ≤ 9223372036854775807 then ((spec_l03Or.f a0_7).bind fun t172 => (if ((((((((((rdOf ByteArray.empty y165 a0_0) ++ (⟨#[32]⟩ : ByteArray)) ++ t163) ++ (⟨#[32]⟩ : ByteArray)) ++ t169) ++ (⟨#[32]⟩ : ByteArray)) ++ t170) ++ (⟨#[32]⟩ : ByteArray)) ++ t171) ++ (⟨#[32]⟩ : ByteArray)).size + t172.size ≤ 9223372036854775807 then (if (((((((((((rdOf ByteArray.empty y165 a0_0) ++ (⟨#[32]⟩ : ByteArray)) ++ t163) ++ (⟨#[32]⟩ : ByteArray)) ++ t169) ++ (⟨#[32]⟩ : ByteArray)) ++ t170) ++ (⟨#[32]⟩ : ByteArray)) ++ t171) ++ (⟨#[32]⟩ : ByteArray)) ++ t172).size + 1 ≤ 9223372036854775807 then ((spec_l03Or.f a0_8).bind fun t173 => (if ((((((((((((rdOf ByteArray.empty y165 a0_0) ++ (⟨#[32]⟩ : ByteArray)) ++ t163) ++ (⟨#[32]⟩ : ByteArray)) ++ t169) ++ (⟨#[32]⟩ : ByteArray)) ++ t170) ++ (⟨#[32]⟩ : ByteArray)) ++ t171) ++ (⟨#[32]⟩ : ByteArray)) ++ t172) ++ (⟨#[32]⟩ : ByteArray)).size + t173.size ≤ 9223372036854775807 then (if (((((((((((((rdOf ByteArray.empty y165 a0_0) ++ (⟨#[32]⟩ : ByteArray)) ++ t163) ++ (⟨#[32]⟩ : ByteArray)) ++ t169) ++ (⟨#[32]⟩ : ByteArray)) ++ t170) ++ (⟨#[32]⟩ : ByteArray)) ++ t171) ++ (⟨#[32]⟩ : ByteArray)) ++ t172) ++ (⟨#[32]⟩ : ByteArray)) ++ t173).size + 1 ≤ 9223372036854775807 then ((spec_DecText.f k (a0_9.size : Int)).bind fun t174 => (if ((((((((((((((rdOf ByteArray.empty y165 a0_0) ++ (⟨#[32]⟩ : ByteArray)) ++ t163) ++ (⟨#[32]⟩ : ByteArray)) ++ t169) ++ (⟨#[32]⟩ : ByteArray)) ++ t170) ++ (⟨#[32]⟩ : ByteArray)) ++ t171) ++ (⟨#[32]⟩ : ByteArray)) ++ t172) ++ (⟨#[32]⟩ : ByteArray)) ++ t173) ++ (⟨#[32]⟩ : ByteArray)).size + t174.size ≤ 9223372036854775807 then (if (((((((((((((((rdOf ByteArray.empty y165 a0_0) ++ (⟨#[32]⟩ : ByteArray)) ++ t163) ++ (⟨#[32]⟩ : ByteArray)) ++ t169) ++ (⟨#[32]⟩ : ByteArray)) ++ t170) ++ (⟨#[32]⟩ : ByteArray)) ++ t171) ++ (⟨#[32]⟩ : ByteArray)) ++ t172) ++ (⟨#[32]⟩ : ByteArray)) ++ t173) ++ (⟨#[32]⟩ : ByteArray)) ++ t174).size + 1 ≤ 9223372036854775807 then (if ((((((((((((((((rdOf ByteArray.empty y165 a0_0) ++ (⟨#[32]⟩ : ByteArray)) ++ t163) ++ (⟨#[32]⟩ : ByteArray)) ++ t169) ++ (⟨#[32]⟩ : ByteArray)) ++ t170) ++ (⟨#[32]⟩ : ByteArray)) ++ t171) ++ (⟨#[32]⟩ : ByteArray)) ++ t172) ++ (⟨#[32]⟩ : ByteArray)) ++ t173) ++ (⟨#[32]⟩ : ByteArray)) ++ t174) ++ (⟨#[32]⟩ : ByteArray)).size + a0_1.size ≤ 9223372036854775807 then (if a0_2.toList = ([] : List UInt8) then (some (((((((((((((((((rdOf ByteArray.empty y165 a0_0) ++ (⟨#[32]⟩ : ByteArray)) ++ t163) ++ (⟨#[32]⟩ : ByteArray)) ++ t169) ++ (⟨#[32]⟩ : ByteArray)) ++ t170) ++ (⟨#[32]⟩ : ByteArray)) ++ t171) ++ (⟨#[32]⟩ : ByteArray)) ++ t172) ++ (⟨#[32]⟩ : ByteArray)) ++ t173) ++ (⟨#[32]⟩ : ByteArray)) ++ t174) ++ (⟨#[32]⟩ : ByteArray)) ++ a0_1)) else (if (((((((((((((((((rdOf ByteArray.empty y165 a0_0) ++ (⟨#[32]⟩ : ByteArray)) ++ t163) ++ (⟨#[32]⟩ : ByteArray)) ++ t169) ++ (⟨#[32]⟩ : ByteArray)) ++ t170) ++ (⟨#[32]⟩ : ByteArray)) ++ t171) ++ (⟨#[32]⟩ : ByteArray)) ++ t172) ++ (⟨#[32]⟩ : ByteArray)) ++ t173) ++ (⟨#[32]⟩ : ByteArray)) ++ t174) ++ (⟨#[32]⟩ : ByteArray)) ++ a0_1).size + 4 ≤ 9223372036854775807 then (if ((((((((((((((((((rdOf ByteArray.empty y165 a0_0) ++ (⟨#[32]⟩ : ByteArray)) ++ t163) ++ (⟨#[32]⟩ : ByteArray)) ++ t169) ++ (⟨#[32]⟩ : ByteArray)) ++ t170) ++ (⟨#[32]⟩ : ByteArray)) ++ t171) ++ (⟨#[32]⟩ : ByteArray)) ++ t172) ++ (⟨#[32]⟩ : ByteArray)) ++ t173) ++ (⟨#[32]⟩ : ByteArray)) ++ t174) ++ (⟨#[32]⟩ : ByteArray)) ++ a0_1) ++ (⟨#[32, 45, 62, 32]⟩ : ByteArray)).size + a0_2.size ≤ 9223372036854775807 then (some (((((((((((((((((((rdOf ByteArray.empty y165 a0_0) ++ (⟨#[32]⟩ : ByteArray)) ++ t163) ++ (⟨#[32]⟩ : ByteArray)) ++ t169) ++ (⟨#[32]⟩ : ByteArray)) ++ t170) ++ (⟨#[32]⟩ : ByteArray)) ++ t171) ++ (⟨#[32]⟩ : ByteArray)) ++ t172) ++ (⟨#[32]⟩ : ByteArray)) ++ t173) ++ (⟨#[32]⟩ : ByteArray)) ++ t174) ++ (⟨#[32]⟩ : ByteArray)) ++ a0_1) ++ (⟨#[32, 45, 62, 32]⟩ : ByteArray)) ++ a0_2)) else (none)) else (none))) else (none)) else (none)) else (none))) else (none)) else (none))) else (none)) else (none))) else (none)) else (none))) else (none)) else (none))) else (none)) else (none))) else (none)) else (none)) else (none)) else (none)) else (none)) = some r := by first | (rw [hy165]; with_reducible exact H) | (have H2_ := (Option.bind_some _ _).symm.trans H; rw [hy165]; with_reducible exact H2_) | (have H2_ := (Option.bind_some _ _).symm.trans H; with_reducible exact H2_) | with_reducible exact H | (rw [hy165]; exact H) | exact H
  have Ny165 := Aside0.mk hy165
  clear hy165
  by_cases c5 : 0 ≤ a0_0
  case neg => rw [if_neg c5] at H; exact absurd H (by simp)
  rw [if_pos c5] at H
  have c5b0 : decide (0 ≤ a0_0) = true := decide_eq_true c5
  clear c5
  by_cases c6 : a0_0 < (y165.length : Int)
  case neg => rw [if_neg c6] at H; exact absurd H (by simp)
  rw [if_pos c6] at H
  have c6b0 : decide (a0_0 < (y165.length : Int)) = true := decide_eq_true c6
  clear c6
  by_cases c7 : (rdOf ByteArray.empty y165 a0_0).size + 1 ≤ 9223372036854775807
  case neg => rw [if_neg c7] at H; exact absurd H (by simp)
  rw [if_pos c7] at H
  have c7b0 := eq_true c7
  have c7b1 : decide ((rdOf ByteArray.empty y165 a0_0).size + 1 ≤ 9223372036854775807) = true := decide_eq_true c7
  try have c7b2 : (9223372036854775807 < (rdOf ByteArray.empty y165 a0_0).size + 1) = False := eq_false (Nat.not_lt.2 c7)
  by_cases c8 : ((rdOf ByteArray.empty y165 a0_0) ++ (⟨#[32]⟩ : ByteArray)).size + t163.size ≤ 9223372036854775807
  case neg => rw [if_neg c8] at H; exact absurd H (by simp)
  rw [if_pos c8] at H
  have c8b0 := eq_true c8
  have c8b1 : decide (((rdOf ByteArray.empty y165 a0_0) ++ (⟨#[32]⟩ : ByteArray)).size + t163.size ≤ 9223372036854775807) = true := decide_eq_true c8
  try (have c8b1z := c8b1; simp only [ByteArray.size_append, show (⟨#[32]⟩ : ByteArray).size = 1 from rfl] at c8b1z)
  try have c8b2 : (9223372036854775807 < ((rdOf ByteArray.empty y165 a0_0) ++ (⟨#[32]⟩ : ByteArray)).size + t163.size) = False := eq_false (Nat.not_lt.2 c8)
  try (have c8b2z := c8b2; simp only [ByteArray.size_append, show (⟨#[32]⟩ : ByteArray).size = 1 from rfl] at c8b2z)
  by_cases c9 : (((rdOf ByteArray.empty y165 a0_0) ++ (⟨#[32]⟩ : ByteArray)) ++ t163).size + 1 ≤ 9223372036854775807
  case neg => rw [if_neg c9] at H; exact absurd H (by simp)
  rw [if_pos c9] at H
  have c9b0 := eq_true c9
  have c9b1 : decide ((((rdOf ByteArray.empty y165 a0_0) ++ (⟨#[32]⟩ : ByteArray)) ++ t163).size + 1 ≤ 9223372036854775807) = true := decide_eq_true c9
  try (have c9b1z := c9b1; simp only [ByteArray.size_append, show (⟨#[32]⟩ : ByteArray).size = 1 from rfl] at c9b1z)
  try have c9b2 : (9223372036854775807 < (((rdOf ByteArray.empty y165 a0_0) ++ (⟨#[32]⟩ : ByteArray)) ++ t163).size + 1) = False := eq_false (Nat.not_lt.2 c9)
  try (have c9b2z := c9b2; simp only [ByteArray.size_append, show (⟨#[32]⟩ : ByteArray).size = 1 from rfl] at c9b2z)
  replace H := Option.bind_eq_some_iff.mp H
  obtain ⟨t169, A100, H⟩ := H
  try dsimp only at H
  have A10 := Aside0.mk A100
  clear A100
  by_cases c11 : ((((rdOf ByteArray.empty y165 a0_0) ++ (⟨#[32]⟩ : ByteArray)) ++ t163) ++ (⟨#[32]⟩ : ByteArray)).size + t169.size ≤ 9223372036854775807
  case neg => rw [if_neg c11] at H; exact absurd H (by simp)
  rw [if_pos c11] at H
  have c11b0 := eq_true c11
  have c11b1 : decide (((((rdOf ByteArray.empty y165 a0_0) ++ (⟨#[32]⟩ : ByteArray)) ++ t163) ++ (⟨#[32]⟩ : ByteArray)).size + t169.size ≤ 9223372036854775807) = true := decide_eq_true c11
  try (have c11b1z := c11b1; simp only [ByteArray.size_append, show (⟨#[32]⟩ : ByteArray).size = 1 from rfl] at c11b1z)
  try have c11b2 : (9223372036854775807 < ((((rdOf ByteArray.empty y165 a0_0) ++ (⟨#[32]⟩ : ByteArray)) ++ t163) ++ (⟨#[32]⟩ : ByteArray)).size + t169.size) = False := eq_false (Nat.not_lt.2 c11)
  try (have c11b2z := c11b2; simp only [ByteArray.size_append, show (⟨#[32]⟩ : ByteArray).size = 1 from rfl] at c11b2z)
  by_cases c12 : (((((rdOf ByteArray.empty y165 a0_0) ++ (⟨#[32]⟩ : ByteArray)) ++ t163) ++ (⟨#[32]⟩ : ByteArray)) ++ t169).size + 1 ≤ 9223372036854775807
  case neg => rw [if_neg c12] at H; exact absurd H (by simp)
  rw [if_pos c12] at H
  have c12b0 := eq_true c12
  have c12b1 : decide ((((((rdOf ByteArray.empty y165 a0_0) ++ (⟨#[32]⟩ : ByteArray)) ++ t163) ++ (⟨#[32]⟩ : ByteArray)) ++ t169).size + 1 ≤ 9223372036854775807) = true := decide_eq_true c12
  try (have c12b1z := c12b1; simp only [ByteArray.size_append, show (⟨#[32]⟩ : ByteArray).size = 1 from rfl] at c12b1z)
  try have c12b2 : (9223372036854775807 < (((((rdOf ByteArray.empty y165 a0_0) ++ (⟨#[32]⟩ : ByteArray)) ++ t163) ++ (⟨#[32]⟩ : ByteArray)) ++ t169).size + 1) = False := eq_false (Nat.not_lt.2 c12)
  try (have c12b2z := c12b2; simp only [ByteArray.size_append, show (⟨#[32]⟩ : ByteArray).size = 1 from rfl] at c12b2z)
  replace H := Option.bind_eq_some_iff.mp H
  obtain ⟨t170, A130, H⟩ := H
  try dsimp only at H
  have A13 := Aside0.mk A130
  clear A130
  by_cases c14 : ((((((rdOf ByteArray.empty y165 a0_0) ++ (⟨#[32]⟩ : ByteArray)) ++ t163) ++ (⟨#[32]⟩ : ByteArray)) ++ t169) ++ (⟨#[32]⟩ : ByteArray)).size + t170.size ≤ 9223372036854775807
  case neg => rw [if_neg c14] at H; exact absurd H (by simp)
  rw [if_pos c14] at H
  have c14b0 := eq_true c14
  have c14b1 : decide (((((((rdOf ByteArray.empty y165 a0_0) ++ (⟨#[32]⟩ : ByteArray)) ++ t163) ++ (⟨#[32]⟩ : ByteArray)) ++ t169) ++ (⟨#[32]⟩ : ByteArray)).size + t170.size ≤ 9223372036854775807) = true := decide_eq_true c14
  try (have c14b1z := c14b1; simp only [ByteArray.size_append, show (⟨#[32]⟩ : ByteArray).size = 1 from rfl] at c14b1z)
  try have c14b2 : (9223372036854775807 < ((((((rdOf ByteArray.empty y165 a0_0) ++ (⟨#[32]⟩ : ByteArray)) ++ t163) ++ (⟨#[32]⟩ : ByteArray)) ++ t169) ++ (⟨#[32]⟩ : ByteArray)).size + t170.size) = False := eq_false (Nat.not_lt.2 c14)
  try (have c14b2z := c14b2; simp only [ByteArray.size_append, show (⟨#[32]⟩ : ByteArray).size = 1 from rfl] at c14b2z)
  by_cases c15 : (((((((rdOf ByteArray.empty y165 a0_0) ++ (⟨#[32]⟩ : ByteArray)) ++ t163) ++ (⟨#[32]⟩ : ByteArray)) ++ t169) ++ (⟨#[32]⟩ : ByteArray)) ++ t170).size + 1 ≤ 9223372036854775807
  case neg => rw [if_neg c15] at H; exact absurd H (by simp)
  rw [if_pos c15] at H
  have c15b0 := eq_true c15
  have c15b1 : decide ((((((((rdOf ByteArray.empty y165 a0_0) ++ (⟨#[32]⟩ : ByteArray)) ++ t163) ++ (⟨#[32]⟩ : ByteArray)) ++ t169) ++ (⟨#[32]⟩ : ByteArray)) ++ t170).size + 1 ≤ 9223372036854775807) = true := decide_eq_true c15
  try (have c15b1z := c15b1; simp only [ByteArray.size_append, show (⟨#[32]⟩ : ByteArray).size = 1 from rfl] at c15b1z)
  try have c15b2 : (9223372036854775807 < (((((((rdOf ByteArray.empty y165 a0_0) ++ (⟨#[32]⟩ : ByteArray)) ++ t163) ++ (⟨#[32]⟩ : ByteArray)) ++ t169) ++ (⟨#[32]⟩ : ByteArray)) ++ t170).size + 1) = False := eq_false (Nat.not_lt.2 c15)
  try (have c15b2z := c15b2; simp only [ByteArray.size_append, show (⟨#[32]⟩ : ByteArray).size = 1 from rfl] at c15b2z)
  replace H := Option.bind_eq_some_iff.mp H
  obtain ⟨t171, A160, H⟩ := H
  try dsimp only at H
  have A16 := Aside0.mk A160
  clear A160
  by_cases c17 : ((((((((rdOf ByteArray.empty y165 a0_0) ++ (⟨#[32]⟩ : ByteArray)) ++ t163) ++ (⟨#[32]⟩ : ByteArray)) ++ t169) ++ (⟨#[32]⟩ : ByteArray)) ++ t170) ++ (⟨#[32]⟩ : ByteArray)).size + t171.size ≤ 9223372036854775807
  case neg => rw [if_neg c17] at H; exact absurd H (by simp)
  rw [if_pos c17] at H
  have c17b0 := eq_true c17
  have c17b1 : decide (((((((((rdOf ByteArray.empty y165 a0_0) ++ (⟨#[32]⟩ : ByteArray)) ++ t163) ++ (⟨#[32]⟩ : ByteArray)) ++ t169) ++ (⟨#[32]⟩ : ByteArray)) ++ t170) ++ (⟨#[32]⟩ : ByteArray)).size + t171.size ≤ 9223372036854775807) = true := decide_eq_true c17
  try (have c17b1z := c17b1; simp only [ByteArray.size_append, show (⟨#[32]⟩ : ByteArray).size = 1 from rfl] at c17b1z)
  try have c17b2 : (9223372036854775807 < ((((((((rdOf ByteArray.empty y165 a0_0) ++ (⟨#[32]⟩ : ByteArray)) ++ t163) ++ (⟨#[32]⟩ : ByteArray)) ++ t169) ++ (⟨#[32]⟩ : ByteArray)) ++ t170) ++ (⟨#[32]⟩ : ByteArray)).size + t171.size) = False := eq_false (Nat.not_lt.2 c17)
  try (have c17b2z := c17b2; simp only [ByteArray.size_append, show (⟨#[32]⟩ : ByteArray).size = 1 from rfl] at c17b2z)
  by_cases c18 : (((((((((rdOf ByteArray.empty y165 a0_0) ++ (⟨#[32]⟩ : ByteArray)) ++ t163) ++ (⟨#[32]⟩ : ByteArray)) ++ t169) ++ (⟨#[32]⟩ : ByteArray)) ++ t170) ++ (⟨#[32]⟩ : ByteArray)) ++ t171).size + 1 ≤ 9223372036854775807
  case neg => rw [if_neg c18] at H; exact absurd H (by simp)
  rw [if_pos c18] at H
  have c18b0 := eq_true c18
  have c18b1 : decide ((((((((((rdOf ByteArray.empty y165 a0_0) ++ (⟨#[32]⟩ : ByteArray)) ++ t163) ++ (⟨#[32]⟩ : ByteArray)) ++ t169) ++ (⟨#[32]⟩ : ByteArray)) ++ t170) ++ (⟨#[32]⟩ : ByteArray)) ++ t171).size + 1 ≤ 9223372036854775807) = true := decide_eq_true c18
  try (have c18b1z := c18b1; simp only [ByteArray.size_append, show (⟨#[32]⟩ : ByteArray).size = 1 from rfl] at c18b1z)
  try have c18b2 : (9223372036854775807 < (((((((((rdOf ByteArray.empty y165 a0_0) ++ (⟨#[32]⟩ : ByteArray)) ++ t163) ++ (⟨#[32]⟩ : ByteArray)) ++ t169) ++ (⟨#[32]⟩ : ByteArray)) ++ t170) ++ (⟨#[32]⟩ : ByteArray)) ++ t171).size + 1) = False := eq_false (Nat.not_lt.2 c18)
  try (have c18b2z := c18b2; simp only [ByteArray.size_append, show (⟨#[32]⟩ : ByteArray).size = 1 from rfl] at c18b2z)
  replace H := Option.bind_eq_some_iff.mp H
  obtain ⟨t172, A190, H⟩ := H
  try dsimp only at H
  have A19 := Aside0.mk A190
  clear A190
  by_cases c20 : ((((((((((rdOf ByteArray.empty y165 a0_0) ++ (⟨#[32]⟩ : ByteArray)) ++ t163) ++ (⟨#[32]⟩ : ByteArray)) ++ t169) ++ (⟨#[32]⟩ : ByteArray)) ++ t170) ++ (⟨#[32]⟩ : ByteArray)) ++ t171) ++ (⟨#[32]⟩ : ByteArray)).size + t172.size ≤ 9223372036854775807
  case neg => rw [if_neg c20] at H; exact absurd H (by simp)
  rw [if_pos c20] at H
  have c20b0 := eq_true c20
  have c20b1 : decide (((((((((((rdOf ByteArray.empty y165 a0_0) ++ (⟨#[32]⟩ : ByteArray)) ++ t163) ++ (⟨#[32]⟩ : ByteArray)) ++ t169) ++ (⟨#[32]⟩ : ByteArray)) ++ t170) ++ (⟨#[32]⟩ : ByteArray)) ++ t171) ++ (⟨#[32]⟩ : ByteArray)).size + t172.size ≤ 9223372036854775807) = true := decide_eq_true c20
  try (have c20b1z := c20b1; simp only [ByteArray.size_append, show (⟨#[32]⟩ : ByteArray).size = 1 from rfl] at c20b1z)
  try have c20b2 : (9223372036854775807 < ((((((((((rdOf ByteArray.empty y165 a0_0) ++ (⟨#[32]⟩ : ByteArray)) ++ t163) ++ (⟨#[32]⟩ : ByteArray)) ++ t169) ++ (⟨#[32]⟩ : ByteArray)) ++ t170) ++ (⟨#[32]⟩ : ByteArray)) ++ t171) ++ (⟨#[32]⟩ : ByteArray)).size + t172.size) = False := eq_false (Nat.not_lt.2 c20)
  try (have c20b2z := c20b2; simp only [ByteArray.size_append, show (⟨#[32]⟩ : ByteArray).size = 1 from rfl] at c20b2z)
  by_cases c21 : (((((((((((rdOf ByteArray.empty y165 a0_0) ++ (⟨#[32]⟩ : ByteArray)) ++ t163) ++ (⟨#[32]⟩ : ByteArray)) ++ t169) ++ (⟨#[32]⟩ : ByteArray)) ++ t170) ++ (⟨#[32]⟩ : ByteArray)) ++ t171) ++ (⟨#[32]⟩ : ByteArray)) ++ t172).size + 1 ≤ 9223372036854775807
  case neg => rw [if_neg c21] at H; exact absurd H (by simp)
  rw [if_pos c21] at H
  have c21b0 := eq_true c21
  have c21b1 : decide ((((((((((((rdOf ByteArray.empty y165 a0_0) ++ (⟨#[32]⟩ : ByteArray)) ++ t163) ++ (⟨#[32]⟩ : ByteArray)) ++ t169) ++ (⟨#[32]⟩ : ByteArray)) ++ t170) ++ (⟨#[32]⟩ : ByteArray)) ++ t171) ++ (⟨#[32]⟩ : ByteArray)) ++ t172).size + 1 ≤ 9223372036854775807) = true := decide_eq_true c21
  try (have c21b1z := c21b1; simp only [ByteArray.size_append, show (⟨#[32]⟩ : ByteArray).size = 1 from rfl] at c21b1z)
  try have c21b2 : (9223372036854775807 < (((((((((((rdOf ByteArray.empty y165 a0_0) ++ (⟨#[32]⟩ : ByteArray)) ++ t163) ++ (⟨#[32]⟩ : ByteArray)) ++ t169) ++ (⟨#[32]⟩ : ByteArray)) ++ t170) ++ (⟨#[32]⟩ : ByteArray)) ++ t171) ++ (⟨#[32]⟩ : ByteArray)) ++ t172).size + 1) = False := eq_false (Nat.not_lt.2 c21)
  try (have c21b2z := c21b2; simp only [ByteArray.size_append, show (⟨#[32]⟩ : ByteArray).size = 1 from rfl] at c21b2z)
  replace H := Option.bind_eq_some_iff.mp H
  obtain ⟨t173, A220, H⟩ := H
  try dsimp only at H
  have A22 := Aside0.mk A220
  clear A220
  by_cases c23 : ((((((((((((rdOf ByteArray.empty y165 a0_0) ++ (⟨#[32]⟩ : ByteArray)) ++ t163) ++ (⟨#[32]⟩ : ByteArray)) ++ t169) ++ (⟨#[32]⟩ : ByteArray)) ++ t170) ++ (⟨#[32]⟩ : ByteArray)) ++ t171) ++ (⟨#[32]⟩ : ByteArray)) ++ t172) ++ (⟨#[32]⟩ : ByteArray)).size + t173.size ≤ 9223372036854775807
  case neg => rw [if_neg c23] at H; exact absurd H (by simp)
  rw [if_pos c23] at H
  have c23b0 := eq_true c23
  have c23b1 : decide (((((((((((((rdOf ByteArray.empty y165 a0_0) ++ (⟨#[32]⟩ : ByteArray)) ++ t163) ++ (⟨#[32]⟩ : ByteArray)) ++ t169) ++ (⟨#[32]⟩ : ByteArray)) ++ t170) ++ (⟨#[32]⟩ : ByteArray)) ++ t171) ++ (⟨#[32]⟩ : ByteArray)) ++ t172) ++ (⟨#[32]⟩ : ByteArray)).size + t173.size ≤ 9223372036854775807) = true := decide_eq_true c23
  try (have c23b1z := c23b1; simp only [ByteArray.size_append, show (⟨#[32]⟩ : ByteArray).size = 1 from rfl] at c23b1z)
  try have c23b2 : (9223372036854775807 < ((((((((((((rdOf ByteArray.empty y165 a0_0) ++ (⟨#[32]⟩ : ByteArray)) ++ t163) ++ (⟨#[32]⟩ : ByteArray)) ++ t169) ++ (⟨#[32]⟩ : ByteArray)) ++ t170) ++ (⟨#[32]⟩ : ByteArray)) ++ t171) ++ (⟨#[32]⟩ : ByteArray)) ++ t172) ++ (⟨#[32]⟩ : ByteArray)).size + t173.size) = False := eq_false (Nat.not_lt.2 c23)
  try (have c23b2z := c23b2; simp only [ByteArray.size_append, show (⟨#[32]⟩ : ByteArray).size = 1 from rfl] at c23b2z)
  by_cases c24 : (((((((((((((rdOf ByteArray.empty y165 a0_0) ++ (⟨#[32]⟩ : ByteArray)) ++ t163) ++ (⟨#[32]⟩ : ByteArray)) ++ t169) ++ (⟨#[32]⟩ : ByteArray)) ++ t170) ++ (⟨#[32]⟩ : ByteArray)) ++ t171) ++ (⟨#[32]⟩ : ByteArray)) ++ t172) ++ (⟨#[32]⟩ : ByteArray)) ++ t173).size + 1 ≤ 9223372036854775807
  case neg => rw [if_neg c24] at H; exact absurd H (by simp)
  rw [if_pos c24] at H
  have c24b0 := eq_true c24
  have c24b1 : decide ((((((((((((((rdOf ByteArray.empty y165 a0_0) ++ (⟨#[32]⟩ : ByteArray)) ++ t163) ++ (⟨#[32]⟩ : ByteArray)) ++ t169) ++ (⟨#[32]⟩ : ByteArray)) ++ t170) ++ (⟨#[32]⟩ : ByteArray)) ++ t171) ++ (⟨#[32]⟩ : ByteArray)) ++ t172) ++ (⟨#[32]⟩ : ByteArray)) ++ t173).size + 1 ≤ 9223372036854775807) = true := decide_eq_true c24
  try (have c24b1z := c24b1; simp only [ByteArray.size_append, show (⟨#[32]⟩ : ByteArray).size = 1 from rfl] at c24b1z)
  try have c24b2 : (9223372036854775807 < (((((((((((((rdOf ByteArray.empty y165 a0_0) ++ (⟨#[32]⟩ : ByteArray)) ++ t163) ++ (⟨#[32]⟩ : ByteArray)) ++ t169) ++ (⟨#[32]⟩ : ByteArray)) ++ t170) ++ (⟨#[32]⟩ : ByteArray)) ++ t171) ++ (⟨#[32]⟩ : ByteArray)) ++ t172) ++ (⟨#[32]⟩ : ByteArray)) ++ t173).size + 1) = False := eq_false (Nat.not_lt.2 c24)
  try (have c24b2z := c24b2; simp only [ByteArray.size_append, show (⟨#[32]⟩ : ByteArray).size = 1 from rfl] at c24b2z)
  replace H := Option.bind_eq_some_iff.mp H
  obtain ⟨t174, A250, H⟩ := H
  try dsimp only at H
  have A25 := Aside0.mk A250
  clear A250
  by_cases c26 : ((((((((((((((rdOf ByteArray.empty y165 a0_0) ++ (⟨#[32]⟩ : ByteArray)) ++ t163) ++ (⟨#[32]⟩ : ByteArray)) ++ t169) ++ (⟨#[32]⟩ : ByteArray)) ++ t170) ++ (⟨#[32]⟩ : ByteArray)) ++ t171) ++ (⟨#[32]⟩ : ByteArray)) ++ t172) ++ (⟨#[32]⟩ : ByteArray)) ++ t173) ++ (⟨#[32]⟩ : ByteArray)).size + t174.size ≤ 9223372036854775807
  case neg => rw [if_neg c26] at H; exact absurd H (by simp)
  rw [if_pos c26] at H
  have c26b0 := eq_true c26
  have c26b1 : decide (((((((((((((((rdOf ByteArray.empty y165 a0_0) ++ (⟨#[32]⟩ : ByteArray)) ++ t163) ++ (⟨#[32]⟩ : ByteArray)) ++ t169) ++ (⟨#[32]⟩ : ByteArray)) ++ t170) ++ (⟨#[32]⟩ : ByteArray)) ++ t171) ++ (⟨#[32]⟩ : ByteArray)) ++ t172) ++ (⟨#[32]⟩ : ByteArray)) ++ t173) ++ (⟨#[32]⟩ : ByteArray)).size + t174.size ≤ 9223372036854775807) = true := decide_eq_true c26
  try (have c26b1z := c26b1; simp only [ByteArray.size_append, show (⟨#[32]⟩ : ByteArray).size = 1 from rfl] at c26b1z)
  try have c26b2 : (9223372036854775807 < ((((((((((((((rdOf ByteArray.empty y165 a0_0) ++ (⟨#[32]⟩ : ByteArray)) ++ t163) ++ (⟨#[32]⟩ : ByteArray)) ++ t169) ++ (⟨#[32]⟩ : ByteArray)) ++ t170) ++ (⟨#[32]⟩ : ByteArray)) ++ t171) ++ (⟨#[32]⟩ : ByteArray)) ++ t172) ++ (⟨#[32]⟩ : ByteArray)) ++ t173) ++ (⟨#[32]⟩ : ByteArray)).size + t174.size) = False := eq_false (Nat.not_lt.2 c26)
  try (have c26b2z := c26b2; simp only [ByteArray.size_append, show (⟨#[32]⟩ : ByteArray).size = 1 from rfl] at c26b2z)
  by_cases c27 : (((((((((((((((rdOf ByteArray.empty y165 a0_0) ++ (⟨#[32]⟩ : ByteArray)) ++ t163) ++ (⟨#[32]⟩ : ByteArray)) ++ t169) ++ (⟨#[32]⟩ : ByteArray)) ++ t170) ++ (⟨#[32]⟩ : ByteArray)) ++ t171) ++ (⟨#[32]⟩ : ByteArray)) ++ t172) ++ (⟨#[32]⟩ : ByteArray)) ++ t173) ++ (⟨#[32]⟩ : ByteArray)) ++ t174).size + 1 ≤ 9223372036854775807
  case neg => rw [if_neg c27] at H; exact absurd H (by simp)
  rw [if_pos c27] at H
  have c27b0 := eq_true c27
  have c27b1 : decide ((((((((((((((((rdOf ByteArray.empty y165 a0_0) ++ (⟨#[32]⟩ : ByteArray)) ++ t163) ++ (⟨#[32]⟩ : ByteArray)) ++ t169) ++ (⟨#[32]⟩ : ByteArray)) ++ t170) ++ (⟨#[32]⟩ : ByteArray)) ++ t171) ++ (⟨#[32]⟩ : ByteArray)) ++ t172) ++ (⟨#[32]⟩ : ByteArray)) ++ t173) ++ (⟨#[32]⟩ : ByteArray)) ++ t174).size + 1 ≤ 9223372036854775807) = true := decide_eq_true c27
  try (have c27b1z := c27b1; simp only [ByteArray.size_append, show (⟨#[32]⟩ : ByteArray).size = 1 from rfl] at c27b1z)
  try have c27b2 : (9223372036854775807 < (((((((((((((((rdOf ByteArray.empty y165 a0_0) ++ (⟨#[32]⟩ : ByteArray)) ++ t163) ++ (⟨#[32]⟩ : ByteArray)) ++ t169) ++ (⟨#[32]⟩ : ByteArray)) ++ t170) ++ (⟨#[32]⟩ : ByteArray)) ++ t171) ++ (⟨#[32]⟩ : ByteArray)) ++ t172) ++ (⟨#[32]⟩ : ByteArray)) ++ t173) ++ (⟨#[32]⟩ : ByteArray)) ++ t174).size + 1) = False := eq_false (Nat.not_lt.2 c27)
  try (have c27b2z := c27b2; simp only [ByteArray.size_append, show (⟨#[32]⟩ : ByteArray).size = 1 from rfl] at c27b2z)
  by_cases c28 : ((((((((((((((((rdOf ByteArray.empty y165 a0_0) ++ (⟨#[32]⟩ : ByteArray)) ++ t163) ++ (⟨#[32]⟩ : ByteArray)) ++ t169) ++ (⟨#[32]⟩ : ByteArray)) ++ t170) ++ (⟨#[32]⟩ : ByteArray)) ++ t171) ++ (⟨#[32]⟩ : ByteArray)) ++ t172) ++ (⟨#[32]⟩ : ByteArray)) ++ t173) ++ (⟨#[32]⟩ : ByteArray)) ++ t174) ++ (⟨#[32]⟩ : ByteArray)).size + a0_1.size ≤ 9223372036854775807
  case neg => rw [if_neg c28] at H; exact absurd H (by simp)
  rw [if_pos c28] at H
  have c28b0 := eq_true c28
  have c28b1 : decide (((((((((((((((((rdOf ByteArray.empty y165 a0_0) ++ (⟨#[32]⟩ : ByteArray)) ++ t163) ++ (⟨#[32]⟩ : ByteArray)) ++ t169) ++ (⟨#[32]⟩ : ByteArray)) ++ t170) ++ (⟨#[32]⟩ : ByteArray)) ++ t171) ++ (⟨#[32]⟩ : ByteArray)) ++ t172) ++ (⟨#[32]⟩ : ByteArray)) ++ t173) ++ (⟨#[32]⟩ : ByteArray)) ++ t174) ++ (⟨#[32]⟩ : ByteArray)).size + a0_1.size ≤ 9223372036854775807) = true := decide_eq_true c28
  try (have c28b1z := c28b1; simp only [ByteArray.size_append, show (⟨#[32]⟩ : ByteArray).size = 1 from rfl] at c28b1z)
  try have c28b2 : (9223372036854775807 < ((((((((((((((((rdOf ByteArray.empty y165 a0_0) ++ (⟨#[32]⟩ : ByteArray)) ++ t163) ++ (⟨#[32]⟩ : ByteArray)) ++ t169) ++ (⟨#[32]⟩ : ByteArray)) ++ t170) ++ (⟨#[32]⟩ : ByteArray)) ++ t171) ++ (⟨#[32]⟩ : ByteArray)) ++ t172) ++ (⟨#[32]⟩ : ByteArray)) ++ t173) ++ (⟨#[32]⟩ : ByteArray)) ++ t174) ++ (⟨#[32]⟩ : ByteArray)).size + a0_1.size) = False := eq_false (Nat.not_lt.2 c28)
  try (have c28b2z := c28b2; simp only [ByteArray.size_append, show (⟨#[32]⟩ : ByteArray).size = 1 from rfl] at c28b2z)
  have HX_ := Aside0.mk H
  clear H
  go_enter Tryd.func20, Tryd.ntmps20
  try go_wp2_with (first | ((with_reducible refine gate_dst (N := 1) rfl ?_); refine box_event ?hg (N := 1) ?hd (cs := #[.int .i64 a0_0, .string a0_1, .string a0_2, .int .i64 a0_3, .int .i64 a0_4, .int .i64 a0_5, .int .i64 a0_6, .string a0_7, .string a0_8, .string a0_9]) (t := 36) ?hr ?_; (case hd => rfl); (case hg => rfl); (case hr => first | (go_simp; done) | (go_simp; rfl)); intro gb161 hg w30 hbox hb; have n0_ := Aside0.mk (below_step (by repeat (first | (with_reducible first | exact HB.out | apply below_alloc | apply pw_below_drewN | apply below_drew1) | exact HB.out)) hb); have n1_ := Aside0.mk (hbox); have n2_ := Aside0.mk ((by rw [hg]; exact (below_size (by repeat (first | (with_reducible first | exact HB.out | apply below_alloc | apply pw_below_drewN | apply below_drew1) | exact HB.out))) : w.heap.size ≤ gb161)); have n3_ := Aside0.mk ((by rw [hg]; exact (below_size (by repeat (first | (with_reducible first | exact HB.out | apply below_alloc | apply pw_below_drewN | apply below_drew1) | exact HB.out))) : w.heap.size ≤ gb161)); clear HB; have HB := n0_; have BK161 := n1_; have GW161 := n2_; have GE161 := n3_; clear n0_ n1_ n2_ n3_; clear hb hbox hg; have hcz31_0 : w30.cell? ⟨gb161, 0, none⟩ = some (.int .i64 a0_0) := (blk_cell BK161.out 0).trans rfl; have hcz31_1 : w30.cell? ⟨gb161, 1, none⟩ = some (.string a0_1) := (blk_cell BK161.out 1).trans rfl; have hcz31_2 : w30.cell? ⟨gb161, 2, none⟩ = some (.string a0_2) := (blk_cell BK161.out 2).trans rfl; have hcz31_3 : w30.cell? ⟨gb161, 3, none⟩ = some (.int .i64 a0_3) := (blk_cell BK161.out 3).trans rfl; have hcz31_4 : w30.cell? ⟨gb161, 4, none⟩ = some (.int .i64 a0_4) := (blk_cell BK161.out 4).trans rfl; have hcz31_5 : w30.cell? ⟨gb161, 5, none⟩ = some (.int .i64 a0_5) := (blk_cell BK161.out 5).trans rfl; have hcz31_6 : w30.cell? ⟨gb161, 6, none⟩ = some (.int .i64 a0_6) := (blk_cell BK161.out 6).trans rfl; have hcz31_7 : w30.cell? ⟨gb161, 7, none⟩ = some (.string a0_7) := (blk_cell BK161.out 7).trans rfl; have hcz31_8 : w30.cell? ⟨gb161, 8, none⟩ = some (.string a0_8) := (blk_cell BK161.out 8).trans rfl; have hcz31_9 : w30.cell? ⟨gb161, 9, none⟩ = some (.string a0_9) := (blk_cell BK161.out 9).trans rfl; have hfz31_0 := blk_frozen BK161.out 0; have hfz31_1 := blk_frozen BK161.out 1; have hfz31_2 := blk_frozen BK161.out 2; have hfz31_3 := blk_frozen BK161.out 3; have hfz31_4 := blk_frozen BK161.out 4; have hfz31_5 := blk_frozen BK161.out 5; have hfz31_6 := blk_frozen BK161.out 6; have hfz31_7 := blk_frozen BK161.out 7; have hfz31_8 := blk_frozen BK161.out 8; have hfz31_9 := blk_frozen BK161.out 9) | ((with_reducible refine gate_callee (f := 34) rfl ?_); refine goesL_ (some 7) rfl rfl Tryd.func34 (by kernel_rfl) rfl #[.agg #[.int .i64 a0_0, .string a0_1, .string a0_2, .int .i64 a0_3, .int .i64 a0_4, .int .i64 a0_5, .int .i64 a0_6, .string a0_7, .string a0_8, .string a0_9]] rfl (by (try simp only [List.map_toArray, List.map_cons, List.map_nil]); first | done | rfl | (simp only [List.length_drop, List.length_take]; rfl)) ?_; (with_reducible refine (spec_EntryOk.calls k a0_0 a0_1 a0_2 a0_3 a0_4 a0_5 a0_6 a0_7 a0_8 a0_9 true _ A2.out).mono ?_); rintro e w32 ⟨rfl, hb⟩; refine ⟨_, rfl, ?_⟩; have n0_ := Aside0.mk (blk_below (g := gb161) (o := .cells #[.int .i64 a0_0, .string a0_1, .string a0_2, .int .i64 a0_3, .int .i64 a0_4, .int .i64 a0_5, .int .i64 a0_6, .string a0_7, .string a0_8, .string a0_9] 36 (0, 0)) (by (with_reducible repeat (first | refine blk_drewN ?_ _ | refine blk_drew ?_ | refine blk_alloc ?_ _)); exact BK161.out) hb); have n1_ := Aside0.mk (below_step (by repeat (first | (with_reducible first | exact HB.out | apply below_alloc | apply pw_below_drewN | apply below_drew1 | refine below_set ?_ GE161.out) | exact HB.out)) hb); clear BK161; clear HB; have BK161 := n0_; have HB := n1_; clear n0_ n1_; (try clear hb); (try clear hb2); (try clear hk); (try clear hi); have hcz33_0 : w32.cell? ⟨gb161, 0, none⟩ = some (.int .i64 a0_0) := (blk_cell BK161.out 0).trans rfl; have hcz33_1 : w32.cell? ⟨gb161, 1, none⟩ = some (.string a0_1) := (blk_cell BK161.out 1).trans rfl; have hcz33_2 : w32.cell? ⟨gb161, 2, none⟩ = some (.string a0_2) := (blk_cell BK161.out 2).trans rfl; have hcz33_3 : w32.cell? ⟨gb161, 3, none⟩ = some (.int .i64 a0_3) := (blk_cell BK161.out 3).trans rfl; have hcz33_4 : w32.cell? ⟨gb161, 4, none⟩ = some (.int .i64 a0_4) := (blk_cell BK161.out 4).trans rfl; have hcz33_5 : w32.cell? ⟨gb161, 5, none⟩ = some (.int .i64 a0_5) := (blk_cell BK161.out 5).trans rfl; have hcz33_6 : w32.cell? ⟨gb161, 6, none⟩ = some (.int .i64 a0_6) := (blk_cell BK161.out 6).trans rfl; have hcz33_7 : w32.cell? ⟨gb161, 7, none⟩ = some (.string a0_7) := (blk_cell BK161.out 7).trans rfl; have hcz33_8 : w32.cell? ⟨gb161, 8, none⟩ = some (.string a0_8) := (blk_cell BK161.out 8).trans rfl; have hcz33_9 : w32.cell? ⟨gb161, 9, none⟩ = some (.string a0_9) := (blk_cell BK161.out 9).trans rfl; have hfz33_0 := blk_frozen BK161.out 0; have hfz33_1 := blk_frozen BK161.out 1; have hfz33_2 := blk_frozen BK161.out 2; have hfz33_3 := blk_frozen BK161.out 3; have hfz33_4 := blk_frozen BK161.out 4; have hfz33_5 := blk_frozen BK161.out 5; have hfz33_6 := blk_frozen BK161.out 6; have hfz33_7 := blk_frozen BK161.out 7; have hfz33_8 := blk_frozen BK161.out 8; have hfz33_9 := blk_frozen BK161.out 9) | ((with_reducible refine gate_callee (f := 43) rfl ?_); refine goesL_ (some 12) rfl rfl Tryd.func43 (by kernel_rfl) rfl #[.int .i64 a0_3, .int .i64 4] rfl (by (try simp only [List.map_toArray, List.map_cons, List.map_nil]); first | done | rfl | (simp only [List.length_drop, List.length_take]; rfl)) ?_; (with_reducible refine (spec_PutOct.calls k a0_3 4 t163 t164 _ A4.out).mono ?_); rintro e w' ⟨rfl, ⟨nd, rfl⟩⟩; refine ⟨_, rfl, ?_⟩))
  have pi168 : (0 ≤ (a0_0 : Int)) = True := eq_true (of_decide_eq_true (by assumption))
  have qi168 : (a0_0 < (y165.length : Int)) = True := eq_true (of_decide_eq_true (by assumption))
  (repeat (rw [drewN_self w32]; generalize hq_ : World.drewN w32 _ = w32; have n0_ : Aside0 (w32.heap[gb161]? = some (.cells #[.int .i64 a0_0, .string a0_1, .string a0_2, .int .i64 a0_3, .int .i64 a0_4, .int .i64 a0_5, .int .i64 a0_6, .string a0_7, .string a0_8, .string a0_9] 36 (0, 0))) := ⟨by rw [← hq_]; exact (by (with_reducible repeat (first | refine blk_drewN ?_ _ | refine blk_drew ?_ | refine blk_alloc ?_ _)); exact BK161.out)⟩; have n1_ : Aside0 (Below w.heap.size w w32) := ⟨by rw [← hq_]; exact (by repeat (first | (with_reducible first | exact HB.out | apply below_alloc | apply pw_below_drewN | apply below_drew1 | refine below_set ?_ GE161.out) | exact HB.out))⟩; clear BK161 HB hq_; have BK161 := n0_; have HB := n1_; clear n0_ n1_))
  have n0_ := Aside0.mk (blk_drew BK161.out)
  have n1_ := Aside0.mk (below_drew1 HB.out)
  clear BK161
  clear HB
  have BK161 := n0_
  have HB := n1_
  clear n0_ n1_
  refine start_ (n := 44) (S := fun w' => w'.cell? ⟨gb161, 0, none⟩ = some (.int .i64 a0_0) ∧ w'.cell? ⟨gb161, 1, none⟩ = some (.string a0_1) ∧ w'.cell? ⟨gb161, 2, none⟩ = some (.string a0_2) ∧ w'.cell? ⟨gb161, 3, none⟩ = some (.int .i64 a0_3) ∧ w'.cell? ⟨gb161, 4, none⟩ = some (.int .i64 a0_4) ∧ w'.cell? ⟨gb161, 5, none⟩ = some (.int .i64 a0_5) ∧ w'.cell? ⟨gb161, 6, none⟩ = some (.int .i64 a0_6) ∧ w'.cell? ⟨gb161, 7, none⟩ = some (.string a0_7) ∧ w'.cell? ⟨gb161, 8, none⟩ = some (.string a0_8) ∧ w'.cell? ⟨gb161, 9, none⟩ = some (.string a0_9)) (ds := []) #[false, false, false, false, false, false, false, false, false, false, false, false, false, false, false, false, false, false, false, false, false, false, false, false, false, false, false, false, false, false, false, false, false, false, false, false, false, false, false, false, false, false, false, false] (by kernel_rfl) rfl rfl ⟨(blk_cell BK161.out 0).trans rfl, (blk_cell BK161.out 1).trans rfl, (blk_cell BK161.out 2).trans rfl, (blk_cell BK161.out 3).trans rfl, (blk_cell BK161.out 4).trans rfl, (blk_cell BK161.out 5).trans rfl, (blk_cell BK161.out 6).trans rfl, (blk_cell BK161.out 7).trans rfl, (blk_cell BK161.out 8).trans rfl, (blk_cell BK161.out 9).trans rfl⟩ (fun hHeld => ?_); refine with_tabW spec_EntryText.tab4 spec_EntryText.bits4 (fun HT_ HW_ => ?_)
  generalize w32.drew = w34 at BK161 HB hHeld ⊢
  refine pure_ (i := 1) (N := some 16) (v := ?_) (a' := ?_) #[false, true, false, false, false, false, false, false, false, false, false, false, false, false, false, false, false, false, false, false, false, false, false, false, false, false, false, false, false, false, false, false, false, false, false, false, false, false, false, false, false, false, false, false] rfl rfl (any_of HT_.out (by kernel_rfl)) (fun _ _ _ h => h) (Or.inl ⟨by rfl, ?_⟩) ?_ ?_
  rotate_left
  · intro w'
    go_simp
    with_reducible rfl
  rotate_left
  · simp only [Act.put, List.setIfInBounds_toArray, List.set_cons_zero, List.set_cons_succ, i64_w, i32_w]
    rfl
  refine pure_ (i := 6) (N := some 21) (v := ?_) (a' := ?_) #[false, true, false, false, false, false, true, false, false, false, false, false, false, false, false, false, false, false, false, false, false, false, false, false, false, false, false, false, false, false, false, false, false, false, false, false, false, false, false, false, false, false, false, false] rfl rfl (any_of HT_.out (by kernel_rfl)) (fun _ _ _ h => h) (Or.inl ⟨by rfl, ?_⟩) ?_ ?_
  rotate_left
  · intro w'
    go_simp
    with_reducible rfl
  rotate_left
  · simp only [Act.put, List.setIfInBounds_toArray, List.set_cons_zero, List.set_cons_succ, i64_w, i32_w]
    rfl
  refine pure_ (i := 9) (N := some 24) (v := ?_) (a' := ?_) #[false, true, false, false, false, false, true, false, false, true, false, false, false, false, false, false, false, false, false, false, false, false, false, false, false, false, false, false, false, false, false, false, false, false, false, false, false, false, false, false, false, false, false, false] rfl rfl (any_of HT_.out (by kernel_rfl)) (fun _ _ _ h => h) (Or.inl ⟨by rfl, ?_⟩) ?_ ?_
  rotate_left
  · intro w'
    go_simp
    with_reducible rfl
  rotate_left
  · simp only [Act.put, List.setIfInBounds_toArray, List.set_cons_zero, List.set_cons_succ, i64_w, i32_w]
    rfl
  refine pure_ (i := 14) (N := some 29) (v := ?_) (a' := ?_) #[false, true, false, false, false, false, true, false, false, true, false, false, false, false, true, false, false, false, false, false, false, false, false, false, false, false, false, false, false, false, false, false, false, false, false, false, false, false, false, false, false, false, false, false] rfl rfl (any_of HT_.out (by kernel_rfl)) (fun _ _ _ h => h) (Or.inl ⟨by rfl, ?_⟩) ?_ ?_
  rotate_left
  · intro w'
    go_simp
    with_reducible rfl
  rotate_left
  · simp only [Act.put, List.setIfInBounds_toArray, List.set_cons_zero, List.set_cons_succ, i64_w, i32_w]
    rfl
  refine pure_ (i := 19) (N := some 34) (v := ?_) (a' := ?_) #[false, true, false, false, false, false, true, false, false, true, false, false, false, false, true, false, false, false, false, true, false, false, false, false, false, false, false, false, false, false, false, false, false, false, false, false, false, false, false, false, false, false, false, false] rfl rfl (any_of HT_.out (by kernel_rfl)) (fun _ _ _ h => h) (Or.inl ⟨by rfl, ?_⟩) ?_ ?_
  rotate_left
  · intro w'
    go_simp
    with_reducible rfl
  rotate_left
  · simp only [Act.put, List.setIfInBounds_toArray, List.set_cons_zero, List.set_cons_succ, i64_w, i32_w]
    rfl
  refine pure_ (i := 24) (N := some 39) (v := ?_) (a' := ?_) #[false, true, false, false, false, false, true, false, false, true, false, false, false, false, true, false, false, false, false, true, false, false, false, false, true, false, false, false, false, false, false, false, false, false, false, false, false, false, false, false, false, false, false, false] rfl rfl (any_of HT_.out (by kernel_rfl)) (fun _ _ _ h => h) (Or.inl ⟨by rfl, ?_⟩) ?_ ?_
  rotate_left
  · intro w'
    go_simp
    with_reducible rfl
  rotate_left
  · simp only [Act.put, List.setIfInBounds_toArray, List.set_cons_zero, List.set_cons_succ, i64_w, i32_w]
    rfl
  refine pure_ (i := 29) (N := some 44) (v := ?_) (a' := ?_) #[false, true, false, false, false, false, true, false, false, true, false, false, false, false, true, false, false, false, false, true, false, false, false, false, true, false, false, false, false, true, false, false, false, false, false, false, false, false, false, false, false, false, false, false] rfl rfl (any_of HT_.out (by kernel_rfl)) (fun _ _ _ h => h) (Or.inl ⟨by rfl, ?_⟩) ?_ ?_
  rotate_left
  · intro w'
    go_simp
    with_reducible rfl
  rotate_left
  · simp only [Act.put, List.setIfInBounds_toArray, List.set_cons_zero, List.set_cons_succ, i64_w, i32_w]
    rfl
  refine pure_ (i := 34) (N := some 49) (v := ?_) (a' := ?_) #[false, true, false, false, false, false, true, false, false, true, false, false, false, false, true, false, false, false, false, true, false, false, false, false, true, false, false, false, false, true, false, false, false, false, true, false, false, false, false, false, false, false, false, false] rfl rfl (any_of HT_.out (by kernel_rfl)) (fun _ _ _ h => h) (Or.inl ⟨by rfl, ?_⟩) ?_ ?_
  rotate_left
  · intro w'
    go_simp
    with_reducible rfl
  rotate_left
  · simp only [Act.put, List.setIfInBounds_toArray, List.set_cons_zero, List.set_cons_succ, i64_w, i32_w]
    rfl
  refine pure_ (i := 40) (N := some 55) (v := ?_) (a' := ?_) #[false, true, false, false, false, false, true, false, false, true, false, false, false, false, true, false, false, false, false, true, false, false, false, false, true, false, false, false, false, true, false, false, false, false, true, false, false, false, false, false, true, false, false, false] rfl rfl (any_of HT_.out (by kernel_rfl)) (fun _ _ _ h => h) (Or.inl ⟨by rfl, ?_⟩) ?_ ?_
  rotate_left
  · intro w'
    go_simp
    with_reducible rfl
  rotate_left
  · simp only [Act.put, List.setIfInBounds_toArray, List.set_cons_zero, List.set_cons_succ, i64_w, i32_w]
    rfl
  refine take_ (i := 2) (N := some 17) (v := ?_) (a' := ?_) #[false, true, true, false, false, false, true, false, false, true, false, false, false, false, true, false, false, false, false, true, false, false, false, false, true, false, false, false, false, true, false, false, false, false, true, false, false, false, false, false, true, false, false, false] rfl rfl (take_ofW HT_.out HW_.out (by kernel_rfl)) (fun _ _ _ h => h) (Or.inl ⟨by rfl, ?_⟩) hHeld ?_ ?_
  rotate_left
  · rintro w' ⟨s0, s1, s2, s3, s4, s5, s6, s7, s8, s9⟩
    go_simp
    with_reducible rfl
  rotate_left
  · simp only [Act.put, List.setIfInBounds_toArray, List.set_cons_zero, List.set_cons_succ, i64_w, i32_w]
    rfl
  refine take_ (i := 10) (N := some 25) (v := ?_) (a' := ?_) #[false, true, true, false, false, false, true, false, false, true, true, false, false, false, true, false, false, false, false, true, false, false, false, false, true, false, false, false, false, true, false, false, false, false, true, false, false, false, false, false, true, false, false, false] rfl rfl (take_ofW HT_.out HW_.out (by kernel_rfl)) (fun _ _ _ h => h) (Or.inl ⟨by rfl, ?_⟩) hHeld ?_ ?_
  rotate_left
  · rintro w' ⟨s0, s1, s2, s3, s4, s5, s6, s7, s8, s9⟩
    go_simp
    with_reducible rfl
  rotate_left
  · simp only [Act.put, List.setIfInBounds_toArray, List.set_cons_zero, List.set_cons_succ, i64_w, i32_w]
    rfl
  refine take_ (i := 15) (N := some 30) (v := ?_) (a' := ?_) #[false, true, true, false, false, false, true, false, false, true, true, false, false, false, true, true, false, false, false, true, false, false, false, false, true, false, false, false, false, true, false, false, false, false, true, false, false, false, false, false, true, false, false, false] rfl rfl (take_ofW HT_.out HW_.out (by kernel_rfl)) (fun _ _ _ h => h) (Or.inl ⟨by rfl, ?_⟩) hHeld ?_ ?_
  rotate_left
  · rintro w' ⟨s0, s1, s2, s3, s4, s5, s6, s7, s8, s9⟩
    go_simp
    with_reducible rfl
  rotate_left
  · simp only [Act.put, List.setIfInBounds_toArray, List.set_cons_zero, List.set_cons_succ, i64_w, i32_w]
    rfl
  refine take_ (i := 20) (N := some 35) (v := ?_) (a' := ?_) #[false, true, true, false, false, false, true, false, false, true, true, false, false, false, true, true, false, false, false, true, true, false, false, false, true, false, false, false, false, true, false, false, false, false, true, false, false, false, false, false, true, false, false, false] rfl rfl (take_ofW HT_.out HW_.out (by kernel_rfl)) (fun _ _ _ h => h) (Or.inl ⟨by rfl, ?_⟩) hHeld ?_ ?_
  rotate_left
  · rintro w' ⟨s0, s1, s2, s3, s4, s5, s6, s7, s8, s9⟩
    go_simp
    with_reducible rfl
  rotate_left
  · simp only [Act.put, List.setIfInBounds_toArray, List.set_cons_zero, List.set_cons_succ, i64_w, i32_w]
    rfl
  refine take_ (i := 25) (N := some 40) (v := ?_) (a' := ?_) #[false, true, true, false, false, false, true, false, false, true, true, false, false, false, true, true, false, false, false, true, true, false, false, false, true, true, false, false, false, true, false, false, false, false, true, false, false, false, false, false, true, false, false, false] rfl rfl (take_ofW HT_.out HW_.out (by kernel_rfl)) (fun _ _ _ h => h) (Or.inl ⟨by rfl, ?_⟩) hHeld ?_ ?_
  rotate_left
  · rintro w' ⟨s0, s1, s2, s3, s4, s5, s6, s7, s8, s9⟩
    go_simp
    with_reducible rfl
  rotate_left
  · simp only [Act.put, List.setIfInBounds_toArray, List.set_cons_zero, List.set_cons_succ, i64_w, i32_w]
    rfl
  refine take_ (i := 30) (N := some 45) (v := ?_) (a' := ?_) #[false, true, true, false, false, false, true, false, false, true, true, false, false, false, true, true, false, false, false, true, true, false, false, false, true, true, false, false, false, true, true, false, false, false, true, false, false, false, false, false, true, false, false, false] rfl rfl (take_ofW HT_.out HW_.out (by kernel_rfl)) (fun _ _ _ h => h) (Or.inl ⟨by rfl, ?_⟩) hHeld ?_ ?_
  rotate_left
  · rintro w' ⟨s0, s1, s2, s3, s4, s5, s6, s7, s8, s9⟩
    go_simp
    with_reducible rfl
  rotate_left
  · simp only [Act.put, List.setIfInBounds_toArray, List.set_cons_zero, List.set_cons_succ, i64_w, i32_w]
    rfl
  refine take_ (i := 35) (N := some 50) (v := ?_) (a' := ?_) #[false, true, true, false, false, false, true, false, false, true, true, false, false, false, true, true, false, false, false, true, true, false, false, false, true, true, false, false, false, true, true, false, false, false, true, true, false, false, false, false, true, false, false, false] rfl rfl (take_ofW HT_.out HW_.out (by kernel_rfl)) (fun _ _ _ h => h) (Or.inl ⟨by rfl, ?_⟩) hHeld ?_ ?_
  rotate_left
  · rintro w' ⟨s0, s1, s2, s3, s4, s5, s6, s7, s8, s9⟩
    go_simp
    with_reducible rfl
  rotate_left
  · simp only [Act.put, List.setIfInBounds_toArray, List.set_cons_zero, List.set_cons_succ, i64_w, i32_w]
    rfl
  refine pure_ (i := 36) (N := some 51) (v := ?_) (a' := ?_) #[false, true, true, false, false, false, true, false, false, true, true, false, false, false, true, true, false, false, false, true, true, false, false, false, true, true, false, false, false, true, true, false, false, false, true, true, true, false, false, false, true, false, false, false] rfl rfl (any_of HT_.out (by kernel_rfl)) (fun _ _ _ h => h) (Or.inl ⟨by rfl, ?_⟩) ?_ ?_
  rotate_left
  · intro w'
    go_simp
    with_reducible rfl
  rotate_left
  · simp only [Act.put, List.setIfInBounds_toArray, List.set_cons_zero, List.set_cons_succ, i64_w, i32_w]
    rfl
  refine take_ (i := 41) (N := some 56) (v := ?_) (a' := ?_) #[false, true, true, false, false, false, true, false, false, true, true, false, false, false, true, true, false, false, false, true, true, false, false, false, true, true, false, false, false, true, true, false, false, false, true, true, true, false, false, false, true, true, false, false] rfl rfl (take_ofW HT_.out HW_.out (by kernel_rfl)) (fun _ _ _ h => h) (Or.inl ⟨by rfl, ?_⟩) hHeld ?_ ?_
  rotate_left
  · rintro w' ⟨s0, s1, s2, s3, s4, s5, s6, s7, s8, s9⟩
    go_simp
    with_reducible rfl
  rotate_left
  · simp only [Act.put, List.setIfInBounds_toArray, List.set_cons_zero, List.set_cons_succ, i64_w, i32_w]
    rfl
  refine join_ (σ := Value × Addr) 4 #[true, true, true, true, true, true, true, true, true, true, true, true, true, true, true, true, true, true, true, true, true, true, true, true, true, true, true, true, true, true, true, true, true, true, true, true, true, true, false, false, true, true, false, false] (fun s_ => [(15, s_.1), (19, .string (rdOf ByteArray.empty y165 a0_0)), (26, .string t169), (31, .string t170), (36, .string t171), (41, .string t172), (46, .string t173), (52, .string t174), (18, .pointer (some (s_.2.add (a0_0).toNat))), (20, .string ((rdOf ByteArray.empty y165 a0_0) ++ (⟨#[32]⟩ : ByteArray))), (22, .string (((rdOf ByteArray.empty y165 a0_0) ++ (⟨#[32]⟩ : ByteArray)) ++ t163)), (23, .string ((((rdOf ByteArray.empty y165 a0_0) ++ (⟨#[32]⟩ : ByteArray)) ++ t163) ++ (⟨#[32]⟩ : ByteArray))), (27, .string (((((rdOf ByteArray.empty y165 a0_0) ++ (⟨#[32]⟩ : ByteArray)) ++ t163) ++ (⟨#[32]⟩ : ByteArray)) ++ t169)), (28, .string ((((((rdOf ByteArray.empty y165 a0_0) ++ (⟨#[32]⟩ : ByteArray)) ++ t163) ++ (⟨#[32]⟩ : ByteArray)) ++ t169) ++ (⟨#[32]⟩ : ByteArray))), (32, .string (((((((rdOf ByteArray.empty y165 a0_0) ++ (⟨#[32]⟩ : ByteArray)) ++ t163) ++ (⟨#[32]⟩ : ByteArray)) ++ t169) ++ (⟨#[32]⟩ : ByteArray)) ++ t170)), (33, .string ((((((((rdOf ByteArray.empty y165 a0_0) ++ (⟨#[32]⟩ : ByteArray)) ++ t163) ++ (⟨#[32]⟩ : ByteArray)) ++ t169) ++ (⟨#[32]⟩ : ByteArray)) ++ t170) ++ (⟨#[32]⟩ : ByteArray))), (37, .string (((((((((rdOf ByteArray.empty y165 a0_0) ++ (⟨#[32]⟩ : ByteArray)) ++ t163) ++ (⟨#[32]⟩ : ByteArray)) ++ t169) ++ (⟨#[32]⟩ : ByteArray)) ++ t170) ++ (⟨#[32]⟩ : ByteArray)) ++ t171)), (38, .string ((((((((((rdOf ByteArray.empty y165 a0_0) ++ (⟨#[32]⟩ : ByteArray)) ++ t163) ++ (⟨#[32]⟩ : ByteArray)) ++ t169) ++ (⟨#[32]⟩ : ByteArray)) ++ t170) ++ (⟨#[32]⟩ : ByteArray)) ++ t171) ++ (⟨#[32]⟩ : ByteArray))), (42, .string (((((((((((rdOf ByteArray.empty y165 a0_0) ++ (⟨#[32]⟩ : ByteArray)) ++ t163) ++ (⟨#[32]⟩ : ByteArray)) ++ t169) ++ (⟨#[32]⟩ : ByteArray)) ++ t170) ++ (⟨#[32]⟩ : ByteArray)) ++ t171) ++ (⟨#[32]⟩ : ByteArray)) ++ t172)), (43, .string ((((((((((((rdOf ByteArray.empty y165 a0_0) ++ (⟨#[32]⟩ : ByteArray)) ++ t163) ++ (⟨#[32]⟩ : ByteArray)) ++ t169) ++ (⟨#[32]⟩ : ByteArray)) ++ t170) ++ (⟨#[32]⟩ : ByteArray)) ++ t171) ++ (⟨#[32]⟩ : ByteArray)) ++ t172) ++ (⟨#[32]⟩ : ByteArray))), (47, .string (((((((((((((rdOf ByteArray.empty y165 a0_0) ++ (⟨#[32]⟩ : ByteArray)) ++ t163) ++ (⟨#[32]⟩ : ByteArray)) ++ t169) ++ (⟨#[32]⟩ : ByteArray)) ++ t170) ++ (⟨#[32]⟩ : ByteArray)) ++ t171) ++ (⟨#[32]⟩ : ByteArray)) ++ t172) ++ (⟨#[32]⟩ : ByteArray)) ++ t173)), (48, .string ((((((((((((((rdOf ByteArray.empty y165 a0_0) ++ (⟨#[32]⟩ : ByteArray)) ++ t163) ++ (⟨#[32]⟩ : ByteArray)) ++ t169) ++ (⟨#[32]⟩ : ByteArray)) ++ t170) ++ (⟨#[32]⟩ : ByteArray)) ++ t171) ++ (⟨#[32]⟩ : ByteArray)) ++ t172) ++ (⟨#[32]⟩ : ByteArray)) ++ t173) ++ (⟨#[32]⟩ : ByteArray)))]) (fun s_ w' => (w'.cell? ⟨gb161, 0, none⟩ = some (.int .i64 a0_0) ∧ w'.cell? ⟨gb161, 1, none⟩ = some (.string a0_1) ∧ w'.cell? ⟨gb161, 2, none⟩ = some (.string a0_2) ∧ w'.cell? ⟨gb161, 3, none⟩ = some (.int .i64 a0_3) ∧ w'.cell? ⟨gb161, 4, none⟩ = some (.int .i64 a0_4) ∧ w'.cell? ⟨gb161, 5, none⟩ = some (.int .i64 a0_5) ∧ w'.cell? ⟨gb161, 6, none⟩ = some (.int .i64 a0_6) ∧ w'.cell? ⟨gb161, 7, none⟩ = some (.string a0_7) ∧ w'.cell? ⟨gb161, 8, none⟩ = some (.string a0_8) ∧ w'.cell? ⟨gb161, 9, none⟩ = some (.string a0_9)) ∧ (Kd.R Kd.string 9 w' w.heap.size (fun _ => True) s_.1 y165) ∧ (∃ c_, (s_.1 : Value) = .slice (some s_.2) y165.length c_) ∧ (w'.heap[gb161]? = some (.cells #[.int .i64 a0_0, .string a0_1, .string a0_2, .int .i64 a0_3, .int .i64 a0_4, .int .i64 a0_5, .int .i64 a0_6, .string a0_7, .string a0_8, .string a0_9] 36 (0, 0))) ∧ (Below w.heap.size w w')) ?_ ?_
  rotate_left
  {
  intro hJ0_4_11_16_21_26_31_37
  refine join_ (σ := Value × Addr) 5 #[true, true, true, true, true, true, true, true, true, true, true, true, true, true, true, true, true, true, true, true, true, true, true, true, true, true, true, true, true, true, true, true, true, true, true, true, true, false, false, false, true, true, false, false] (fun s_ => [(15, s_.1), (19, .string (rdOf ByteArray.empty y165 a0_0)), (26, .string t169), (31, .string t170), (36, .string t171), (41, .string t172), (46, .string t173), (18, .pointer (some (s_.2.add (a0_0).toNat))), (20, .string ((rdOf ByteArray.empty y165 a0_0) ++ (⟨#[32]⟩ : ByteArray))), (22, .string (((rdOf ByteArray.empty y165 a0_0) ++ (⟨#[32]⟩ : ByteArray)) ++ t163)), (23, .string ((((rdOf ByteArray.empty y165 a0_0) ++ (⟨#[32]⟩ : ByteArray)) ++ t163) ++ (⟨#[32]⟩ : ByteArray))), (27, .string (((((rdOf ByteArray.empty y165 a0_0) ++ (⟨#[32]⟩ : ByteArray)) ++ t163) ++ (⟨#[32]⟩ : ByteArray)) ++ t169)), (28, .string ((((((rdOf ByteArray.empty y165 a0_0) ++ (⟨#[32]⟩ : ByteArray)) ++ t163) ++ (⟨#[32]⟩ : ByteArray)) ++ t169) ++ (⟨#[32]⟩ : ByteArray))), (32, .string (((((((rdOf ByteArray.empty y165 a0_0) ++ (⟨#[32]⟩ : ByteArray)) ++ t163) ++ (⟨#[32]⟩ : ByteArray)) ++ t169) ++ (⟨#[32]⟩ : ByteArray)) ++ t170)), (33, .string ((((((((rdOf ByteArray.empty y165 a0_0) ++ (⟨#[32]⟩ : ByteArray)) ++ t163) ++ (⟨#[32]⟩ : ByteArray)) ++ t169) ++ (⟨#[32]⟩ : ByteArray)) ++ t170) ++ (⟨#[32]⟩ : ByteArray))), (37, .string (((((((((rdOf ByteArray.empty y165 a0_0) ++ (⟨#[32]⟩ : ByteArray)) ++ t163) ++ (⟨#[32]⟩ : ByteArray)) ++ t169) ++ (⟨#[32]⟩ : ByteArray)) ++ t170) ++ (⟨#[32]⟩ : ByteArray)) ++ t171)), (38, .string ((((((((((rdOf ByteArray.empty y165 a0_0) ++ (⟨#[32]⟩ : ByteArray)) ++ t163) ++ (⟨#[32]⟩ : ByteArray)) ++ t169) ++ (⟨#[32]⟩ : ByteArray)) ++ t170) ++ (⟨#[32]⟩ : ByteArray)) ++ t171) ++ (⟨#[32]⟩ : ByteArray))), (42, .string (((((((((((rdOf ByteArray.empty y165 a0_0) ++ (⟨#[32]⟩ : ByteArray)) ++ t163) ++ (⟨#[32]⟩ : ByteArray)) ++ t169) ++ (⟨#[32]⟩ : ByteArray)) ++ t170) ++ (⟨#[32]⟩ : ByteArray)) ++ t171) ++ (⟨#[32]⟩ : ByteArray)) ++ t172)), (43, .string ((((((((((((rdOf ByteArray.empty y165 a0_0) ++ (⟨#[32]⟩ : ByteArray)) ++ t163) ++ (⟨#[32]⟩ : ByteArray)) ++ t169) ++ (⟨#[32]⟩ : ByteArray)) ++ t170) ++ (⟨#[32]⟩ : ByteArray)) ++ t171) ++ (⟨#[32]⟩ : ByteArray)) ++ t172) ++ (⟨#[32]⟩ : ByteArray))), (47, .string (((((((((((((rdOf ByteArray.empty y165 a0_0) ++ (⟨#[32]⟩ : ByteArray)) ++ t163) ++ (⟨#[32]⟩ : ByteArray)) ++ t169) ++ (⟨#[32]⟩ : ByteArray)) ++ t170) ++ (⟨#[32]⟩ : ByteArray)) ++ t171) ++ (⟨#[32]⟩ : ByteArray)) ++ t172) ++ (⟨#[32]⟩ : ByteArray)) ++ t173)), (48, .string ((((((((((((((rdOf ByteArray.empty y165 a0_0) ++ (⟨#[32]⟩ : ByteArray)) ++ t163) ++ (⟨#[32]⟩ : ByteArray)) ++ t169) ++ (⟨#[32]⟩ : ByteArray)) ++ t170) ++ (⟨#[32]⟩ : ByteArray)) ++ t171) ++ (⟨#[32]⟩ : ByteArray)) ++ t172) ++ (⟨#[32]⟩ : ByteArray)) ++ t173) ++ (⟨#[32]⟩ : ByteArray)))]) (fun s_ w' => (w'.cell? ⟨gb161, 0, none⟩ = some (.int .i64 a0_0) ∧ w'.cell? ⟨gb161, 1, none⟩ = some (.string a0_1) ∧ w'.cell? ⟨gb161, 2, none⟩ = some (.string a0_2) ∧ w'.cell? ⟨gb161, 3, none⟩ = some (.int .i64 a0_3) ∧ w'.cell? ⟨gb161, 4, none⟩ = some (.int .i64 a0_4) ∧ w'.cell? ⟨gb161, 5, none⟩ = some (.int .i64 a0_5) ∧ w'.cell? ⟨gb161, 6, none⟩ = some (.int .i64 a0_6) ∧ w'.cell? ⟨gb161, 7, none⟩ = some (.string a0_7) ∧ w'.cell? ⟨gb161, 8, none⟩ = some (.string a0_8) ∧ w'.cell? ⟨gb161, 9, none⟩ = some (.string a0_9)) ∧ (Kd.R Kd.string 9 w' w.heap.size (fun _ => True) s_.1 y165) ∧ (∃ c_, (s_.1 : Value) = .slice (some s_.2) y165.length c_) ∧ (w'.heap[gb161]? = some (.cells #[.int .i64 a0_0, .string a0_1, .string a0_2, .int .i64 a0_3, .int .i64 a0_4, .int .i64 a0_5, .int .i64 a0_6, .string a0_7, .string a0_8, .string a0_9] 36 (0, 0))) ∧ (Below w.heap.size w w')) ?_ ?_
  rotate_left
  {
  intro hJ0_4_11_16_21_26_31
  refine join_ (σ := Value × Addr) 18 #[true, true, true, true, false, false, true, false, false, true, true, true, false, false, true, true, true, false, false, true, true, true, false, false, true, true, true, false, false, true, true, true, false, false, true, true, true, true, false, false, true, true, false, false] (fun s_ => [(15, s_.1), (26, .string t169), (31, .string t170), (36, .string t171), (41, .string t172), (46, .string t173), (52, .string t174), (18, .pointer (some (s_.2.add (a0_0).toNat)))]) (fun s_ w' => (w'.cell? ⟨gb161, 0, none⟩ = some (.int .i64 a0_0) ∧ w'.cell? ⟨gb161, 1, none⟩ = some (.string a0_1) ∧ w'.cell? ⟨gb161, 2, none⟩ = some (.string a0_2) ∧ w'.cell? ⟨gb161, 3, none⟩ = some (.int .i64 a0_3) ∧ w'.cell? ⟨gb161, 4, none⟩ = some (.int .i64 a0_4) ∧ w'.cell? ⟨gb161, 5, none⟩ = some (.int .i64 a0_5) ∧ w'.cell? ⟨gb161, 6, none⟩ = some (.int .i64 a0_6) ∧ w'.cell? ⟨gb161, 7, none⟩ = some (.string a0_7) ∧ w'.cell? ⟨gb161, 8, none⟩ = some (.string a0_8) ∧ w'.cell? ⟨gb161, 9, none⟩ = some (.string a0_9)) ∧ (Kd.R Kd.string 9 w' w.heap.size (fun _ => True) s_.1 y165) ∧ (∃ c_, (s_.1 : Value) = .slice (some s_.2) y165.length c_) ∧ (w'.heap[gb161]? = some (.cells #[.int .i64 a0_0, .string a0_1, .string a0_2, .int .i64 a0_3, .int .i64 a0_4, .int .i64 a0_5, .int .i64 a0_6, .string a0_7, .string a0_8, .string a0_9] 36 (0, 0))) ∧ (Below w.heap.size w w')) ?_ ?_
  rotate_left
  {
  intro hJ0_11_16_21_26_31_37
  refine join_ (σ := Value × Addr) 8 #[true, true, true, true, true, true, true, true, true, true, true, true, true, true, true, true, true, true, true, true, true, true, true, true, true, true, true, true, true, true, true, false, false, false, true, true, true, false, false, false, true, true, false, false] (fun s_ => [(15, s_.1), (19, .string (rdOf ByteArray.empty y165 a0_0)), (26, .string t169), (31, .string t170), (36, .string t171), (41, .string t172), (18, .pointer (some (s_.2.add (a0_0).toNat))), (20, .string ((rdOf ByteArray.empty y165 a0_0) ++ (⟨#[32]⟩ : ByteArray))), (22, .string (((rdOf ByteArray.empty y165 a0_0) ++ (⟨#[32]⟩ : ByteArray)) ++ t163)), (23, .string ((((rdOf ByteArray.empty y165 a0_0) ++ (⟨#[32]⟩ : ByteArray)) ++ t163) ++ (⟨#[32]⟩ : ByteArray))), (27, .string (((((rdOf ByteArray.empty y165 a0_0) ++ (⟨#[32]⟩ : ByteArray)) ++ t163) ++ (⟨#[32]⟩ : ByteArray)) ++ t169)), (28, .string ((((((rdOf ByteArray.empty y165 a0_0) ++ (⟨#[32]⟩ : ByteArray)) ++ t163) ++ (⟨#[32]⟩ : ByteArray)) ++ t169) ++ (⟨#[32]⟩ : ByteArray))), (32, .string (((((((rdOf ByteArray.empty y165 a0_0) ++ (⟨#[32]⟩ : ByteArray)) ++ t163) ++ (⟨#[32]⟩ : ByteArray)) ++ t169) ++ (⟨#[32]⟩ : ByteArray)) ++ t170)), (33, .string ((((((((rdOf ByteArray.empty y165 a0_0) ++ (⟨#[32]⟩ : ByteArray)) ++ t163) ++ (⟨#[32]⟩ : ByteArray)) ++ t169) ++ (⟨#[32]⟩ : ByteArray)) ++ t170) ++ (⟨#[32]⟩ : ByteArray))), (37, .string (((((((((rdOf ByteArray.empty y165 a0_0) ++ (⟨#[32]⟩ : ByteArray)) ++ t163) ++ (⟨#[32]⟩ : ByteArray)) ++ t169) ++ (⟨#[32]⟩ : ByteArray)) ++ t170) ++ (⟨#[32]⟩ : ByteArray)) ++ t171)), (38, .string ((((((((((rdOf ByteArray.empty y165 a0_0) ++ (⟨#[32]⟩ : ByteArray)) ++ t163) ++ (⟨#[32]⟩ : ByteArray)) ++ t169) ++ (⟨#[32]⟩ : ByteArray)) ++ t170) ++ (⟨#[32]⟩ : ByteArray)) ++ t171) ++ (⟨#[32]⟩ : ByteArray))), (42, .string (((((((((((rdOf ByteArray.empty y165 a0_0) ++ (⟨#[32]⟩ : ByteArray)) ++ t163) ++ (⟨#[32]⟩ : ByteArray)) ++ t169) ++ (⟨#[32]⟩ : ByteArray)) ++ t170) ++ (⟨#[32]⟩ : ByteArray)) ++ t171) ++ (⟨#[32]⟩ : ByteArray)) ++ t172)), (43, .string ((((((((((((rdOf ByteArray.empty y165 a0_0) ++ (⟨#[32]⟩ : ByteArray)) ++ t163) ++ (⟨#[32]⟩ : ByteArray)) ++ t169) ++ (⟨#[32]⟩ : ByteArray)) ++ t170) ++ (⟨#[32]⟩ : ByteArray)) ++ t171) ++ (⟨#[32]⟩ : ByteArray)) ++ t172) ++ (⟨#[32]⟩ : ByteArray)))]) (fun s_ w' => (w'.cell? ⟨gb161, 0, none⟩ = some (.int .i64 a0_0) ∧ w'.cell? ⟨gb161, 1, none⟩ = some (.string a0_1) ∧ w'.cell? ⟨gb161, 2, none⟩ = some (.string a0_2) ∧ w'.cell? ⟨gb161, 3, none⟩ = some (.int .i64 a0_3) ∧ w'.cell? ⟨gb161, 4, none⟩ = some (.int .i64 a0_4) ∧ w'.cell? ⟨gb161, 5, none⟩ = some (.int .i64 a0_5) ∧ w'.cell? ⟨gb161, 6, none⟩ = some (.int .i64 a0_6) ∧ w'.cell? ⟨gb161, 7, none⟩ = some (.string a0_7) ∧ w'.cell? ⟨gb161, 8, none⟩ = some (.string a0_8) ∧ w'.cell? ⟨gb161, 9, none⟩ = some (.string a0_9)) ∧ (Kd.R Kd.string 9 w' w.heap.size (fun _ => True) s_.1 y165) ∧ (∃ c_, (s_.1 : Value) = .slice (some s_.2) y165.length c_) ∧ (w'.heap[gb161]? = some (.cells #[.int .i64 a0_0, .string a0_1, .string a0_2, .int .i64 a0_3, .int .i64 a0_4, .int .i64 a0_5, .int .i64 a0_6, .string a0_7, .string a0_8, .string a0_9] 36 (0, 0))) ∧ (Below w.heap.size w w')) ?_ ?_
  rotate_left
  {
  intro hJ0_4_11_16_21_26
  refine join_ (σ := Value × Addr) 19 #[true, true, true, true, false, false, true, false, false, true, true, true, false, false, true, true, true, false, false, true, true, true, false, false, true, true, true, false, false, true, true, true, false, false, true, true, true, false, false, false, true, true, false, false] (fun s_ => [(15, s_.1), (26, .string t169), (31, .string t170), (36, .string t171), (41, .string t172), (46, .string t173), (18, .pointer (some (s_.2.add (a0_0).toNat)))]) (fun s_ w' => (w'.cell? ⟨gb161, 0, none⟩ = some (.int .i64 a0_0) ∧ w'.cell? ⟨gb161, 1, none⟩ = some (.string a0_1) ∧ w'.cell? ⟨gb161, 2, none⟩ = some (.string a0_2) ∧ w'.cell? ⟨gb161, 3, none⟩ = some (.int .i64 a0_3) ∧ w'.cell? ⟨gb161, 4, none⟩ = some (.int .i64 a0_4) ∧ w'.cell? ⟨gb161, 5, none⟩ = some (.int .i64 a0_5) ∧ w'.cell? ⟨gb161, 6, none⟩ = some (.int .i64 a0_6) ∧ w'.cell? ⟨gb161, 7, none⟩ = some (.string a0_7) ∧ w'.cell? ⟨gb161, 8, none⟩ = some (.string a0_8) ∧ w'.cell? ⟨gb161, 9, none⟩ = some (.string a0_9)) ∧ (Kd.R Kd.string 9 w' w.heap.size (fun _ => True) s_.1 y165) ∧ (∃ c_, (s_.1 : Value) = .slice (some s_.2) y165.length c_) ∧ (w'.heap[gb161]? = some (.cells #[.int .i64 a0_0, .string a0_1, .string a0_2, .int .i64 a0_3, .int .i64 a0_4, .int .i64 a0_5, .int .i64 a0_6, .string a0_7, .string a0_8, .string a0_9] 36 (0, 0))) ∧ (Below w.heap.size w w')) ?_ ?_
  rotate_left
  {
  intro hJ0_11_16_21_26_31
  refine join_ (σ := Unit) 20 #[false, true, true, false, false, false, true, false, false, true, true, true, false, false, true, true, true, false, false, true, true, true, false, false, true, true, true, false, false, true, true, true, false, false, true, true, true, true, false, false, true, true, false, false] (fun s_ => [(26, .string t169), (31, .string t170), (36, .string t171), (41, .string t172), (46, .string t173), (52, .string t174)]) (fun s_ w' => (w'.cell? ⟨gb161, 0, none⟩ = some (.int .i64 a0_0) ∧ w'.cell? ⟨gb161, 1, none⟩ = some (.string a0_1) ∧ w'.cell? ⟨gb161, 2, none⟩ = some (.string a0_2) ∧ w'.cell? ⟨gb161, 3, none⟩ = some (.int .i64 a0_3) ∧ w'.cell? ⟨gb161, 4, none⟩ = some (.int .i64 a0_4) ∧ w'.cell? ⟨gb161, 5, none⟩ = some (.int .i64 a0_5) ∧ w'.cell? ⟨gb161, 6, none⟩ = some (.int .i64 a0_6) ∧ w'.cell? ⟨gb161, 7, none⟩ = some (.string a0_7) ∧ w'.cell? ⟨gb161, 8, none⟩ = some (.string a0_8) ∧ w'.cell? ⟨gb161, 9, none⟩ = some (.string a0_9)) ∧ (w'.heap[gb161]? = some (.cells #[.int .i64 a0_0, .string a0_1, .string a0_2, .int .i64 a0_3, .int .i64 a0_4, .int .i64 a0_5, .int .i64 a0_6, .string a0_7, .string a0_8, .string a0_9] 36 (0, 0))) ∧ (Below w.heap.size w w')) ?_ ?_
  rotate_left
  {
  intro hJ11_16_21_26_31_37
  refine join_ (σ := Value × Addr) 11 #[true, true, true, true, true, true, true, true, true, true, true, true, true, true, true, true, true, true, true, true, true, true, true, true, true, true, false, false, false, true, true, false, false, false, true, true, true, false, false, false, true, true, false, false] (fun s_ => [(15, s_.1), (19, .string (rdOf ByteArray.empty y165 a0_0)), (26, .string t169), (31, .string t170), (36, .string t171), (18, .pointer (some (s_.2.add (a0_0).toNat))), (20, .string ((rdOf ByteArray.empty y165 a0_0) ++ (⟨#[32]⟩ : ByteArray))), (22, .string (((rdOf ByteArray.empty y165 a0_0) ++ (⟨#[32]⟩ : ByteArray)) ++ t163)), (23, .string ((((rdOf ByteArray.empty y165 a0_0) ++ (⟨#[32]⟩ : ByteArray)) ++ t163) ++ (⟨#[32]⟩ : ByteArray))), (27, .string (((((rdOf ByteArray.empty y165 a0_0) ++ (⟨#[32]⟩ : ByteArray)) ++ t163) ++ (⟨#[32]⟩ : ByteArray)) ++ t169)), (28, .string ((((((rdOf ByteArray.empty y165 a0_0) ++ (⟨#[32]⟩ : ByteArray)) ++ t163) ++ (⟨#[32]⟩ : ByteArray)) ++ t169) ++ (⟨#[32]⟩ : ByteArray))), (32, .string (((((((rdOf ByteArray.empty y165 a0_0) ++ (⟨#[32]⟩ : ByteArray)) ++ t163) ++ (⟨#[32]⟩ : ByteArray)) ++ t169) ++ (⟨#[32]⟩ : ByteArray)) ++ t170)), (33, .string ((((((((rdOf ByteArray.empty y165 a0_0) ++ (⟨#[32]⟩ : ByteArray)) ++ t163) ++ (⟨#[32]⟩ : ByteArray)) ++ t169) ++ (⟨#[32]⟩ : ByteArray)) ++ t170) ++ (⟨#[32]⟩ : ByteArray))), (37, .string (((((((((rdOf ByteArray.empty y165 a0_0) ++ (⟨#[32]⟩ : ByteArray)) ++ t163) ++ (⟨#[32]⟩ : ByteArray)) ++ t169) ++ (⟨#[32]⟩ : ByteArray)) ++ t170) ++ (⟨#[32]⟩ : ByteArray)) ++ t171)), (38, .string ((((((((((rdOf ByteArray.empty y165 a0_0) ++ (⟨#[32]⟩ : ByteArray)) ++ t163) ++ (⟨#[32]⟩ : ByteArray)) ++ t169) ++ (⟨#[32]⟩ : ByteArray)) ++ t170) ++ (⟨#[32]⟩ : ByteArray)) ++ t171) ++ (⟨#[32]⟩ : ByteArray)))]) (fun s_ w' => (w'.cell? ⟨gb161, 0, none⟩ = some (.int .i64 a0_0) ∧ w'.cell? ⟨gb161, 1, none⟩ = some (.string a0_1) ∧ w'.cell? ⟨gb161, 2, none⟩ = some (.string a0_2) ∧ w'.cell? ⟨gb161, 3, none⟩ = some (.int .i64 a0_3) ∧ w'.cell? ⟨gb161, 4, none⟩ = some (.int .i64 a0_4) ∧ w'.cell? ⟨gb161, 5, none⟩ = some (.int .i64 a0_5) ∧ w'.cell? ⟨gb161, 6, none⟩ = some (.int .i64 a0_6) ∧ w'.cell? ⟨gb161, 7, none⟩ = some (.string a0_7) ∧ w'.cell? ⟨gb161, 8, none⟩ = some (.string a0_8) ∧ w'.cell? ⟨gb161, 9, none⟩ = some (.string a0_9)) ∧ (Kd.R Kd.string 9 w' w.heap.size (fun _ => True) s_.1 y165) ∧ (∃ c_, (s_.1 : Value) = .slice (some s_.2) y165.length c_) ∧ (w'.heap[gb161]? = some (.cells #[.int .i64 a0_0, .string a0_1, .string a0_2, .int .i64 a0_3, .int .i64 a0_4, .int .i64 a0_5, .int .i64 a0_6, .string a0_7, .string a0_8, .string a0_9] 36 (0, 0))) ∧ (Below w.heap.size w w')) ?_ ?_
  rotate_left
  {
  intro hJ0_4_11_16_21
  refine join_ (σ := Value × Addr) 20 #[true, true, true, true, false, false, true, false, false, true, true, true, false, false, true, true, true, false, false, true, true, true, false, false, true, true, true, false, false, true, true, false, false, false, true, true, true, false, false, false, true, true, false, false] (fun s_ => [(15, s_.1), (26, .string t169), (31, .string t170), (36, .string t171), (41, .string t172), (18, .pointer (some (s_.2.add (a0_0).toNat)))]) (fun s_ w' => (w'.cell? ⟨gb161, 0, none⟩ = some (.int .i64 a0_0) ∧ w'.cell? ⟨gb161, 1, none⟩ = some (.string a0_1) ∧ w'.cell? ⟨gb161, 2, none⟩ = some (.string a0_2) ∧ w'.cell? ⟨gb161, 3, none⟩ = some (.int .i64 a0_3) ∧ w'.cell? ⟨gb161, 4, none⟩ = some (.int .i64 a0_4) ∧ w'.cell? ⟨gb161, 5, none⟩ = some (.int .i64 a0_5) ∧ w'.cell? ⟨gb161, 6, none⟩ = some (.int .i64 a0_6) ∧ w'.cell? ⟨gb161, 7, none⟩ = some (.string a0_7) ∧ w'.cell? ⟨gb161, 8, none⟩ = some (.string a0_8) ∧ w'.cell? ⟨gb161, 9, none⟩ = some (.string a0_9)) ∧ (Kd.R Kd.string 9 w' w.heap.size (fun _ => True) s_.1 y165) ∧ (∃ c_, (s_.1 : Value) = .slice (some s_.2) y165.length c_) ∧ (w'.heap[gb161]? = some (.cells #[.int .i64 a0_0, .string a0_1, .string a0_2, .int .i64 a0_3, .int .i64 a0_4, .int .i64 a0_5, .int .i64 a0_6, .string a0_7, .string a0_8, .string a0_9] 36 (0, 0))) ∧ (Below w.heap.size w w')) ?_ ?_
  rotate_left
  {
  intro hJ0_11_16_21_26
  refine join_ (σ := Unit) 21 #[false, true, true, false, false, false, true, false, false, true, true, true, false, false, true, true, true, false, false, true, true, true, false, false, true, true, true, false, false, true, true, true, false, false, true, true, true, false, false, false, true, true, false, false] (fun s_ => [(26, .string t169), (31, .string t170), (36, .string t171), (41, .string t172), (46, .string t173)]) (fun s_ w' => (w'.cell? ⟨gb161, 0, none⟩ = some (.int .i64 a0_0) ∧ w'.cell? ⟨gb161, 1, none⟩ = some (.string a0_1) ∧ w'.cell? ⟨gb161, 2, none⟩ = some (.string a0_2) ∧ w'.cell? ⟨gb161, 3, none⟩ = some (.int .i64 a0_3) ∧ w'.cell? ⟨gb161, 4, none⟩ = some (.int .i64 a0_4) ∧ w'.cell? ⟨gb161, 5, none⟩ = some (.int .i64 a0_5) ∧ w'.cell? ⟨gb161, 6, none⟩ = some (.int .i64 a0_6) ∧ w'.cell? ⟨gb161, 7, none⟩ = some (.string a0_7) ∧ w'.cell? ⟨gb161, 8, none⟩ = some (.string a0_8) ∧ w'.cell? ⟨gb161, 9, none⟩ = some (.string a0_9)) ∧ (w'.heap[gb161]? = some (.cells #[.int .i64 a0_0, .string a0_1, .string a0_2, .int .i64 a0_3, .int .i64 a0_4, .int .i64 a0_5, .int .i64 a0_6, .string a0_7, .string a0_8, .string a0_9] 36 (0, 0))) ∧ (Below w.heap.size w w')) ?_ ?_
  rotate_left
  {
  intro hJ11_16_21_26_31
  refine join_ (σ := Value × Addr) 14 #[true, true, true, true, true, true, true, true, true, true, true, true, true, true, true, true, true, true, true, true, true, false, false, false, true, true, false, false, false, true, true, false, false, false, true, true, true, false, false, false, true, true, false, false] (fun s_ => [(15, s_.1), (19, .string (rdOf ByteArray.empty y165 a0_0)), (26, .string t169), (31, .string t170), (18, .pointer (some (s_.2.add (a0_0).toNat))), (20, .string ((rdOf ByteArray.empty y165 a0_0) ++ (⟨#[32]⟩ : ByteArray))), (22, .string (((rdOf ByteArray.empty y165 a0_0) ++ (⟨#[32]⟩ : ByteArray)) ++ t163)), (23, .string ((((rdOf ByteArray.empty y165 a0_0) ++ (⟨#[32]⟩ : ByteArray)) ++ t163) ++ (⟨#[32]⟩ : ByteArray))), (27, .string (((((rdOf ByteArray.empty y165 a0_0) ++ (⟨#[32]⟩ : ByteArray)) ++ t163) ++ (⟨#[32]⟩ : ByteArray)) ++ t169)), (28, .string ((((((rdOf ByteArray.empty y165 a0_0) ++ (⟨#[32]⟩ : ByteArray)) ++ t163) ++ (⟨#[32]⟩ : ByteArray)) ++ t169) ++ (⟨#[32]⟩ : ByteArray))), (32, .string (((((((rdOf ByteArray.empty y165 a0_0) ++ (⟨#[32]⟩ : ByteArray)) ++ t163) ++ (⟨#[32]⟩ : ByteArray)) ++ t169) ++ (⟨#[32]⟩ : ByteArray)) ++ t170)), (33, .string ((((((((rdOf ByteArray.empty y165 a0_0) ++ (⟨#[32]⟩ : ByteArray)) ++ t163) ++ (⟨#[32]⟩ : ByteArray)) ++ t169) ++ (⟨#[32]⟩ : ByteArray)) ++ t170) ++ (⟨#[32]⟩ : ByteArray)))]) (fun s_ w' => (w'.cell? ⟨gb161, 0, none⟩ = some (.int .i64 a0_0) ∧ w'.cell? ⟨gb161, 1, none⟩ = some (.string a0_1) ∧ w'.cell? ⟨gb161, 2, none⟩ = some (.string a0_2) ∧ w'.cell? ⟨gb161, 3, none⟩ = some (.int .i64 a0_3) ∧ w'.cell? ⟨gb161, 4, none⟩ = some (.int .i64 a0_4) ∧ w'.cell? ⟨gb161, 5, none⟩ = some (.int .i64 a0_5) ∧ w'.cell? ⟨gb161, 6, none⟩ = some (.int .i64 a0_6) ∧ w'.cell? ⟨gb161, 7, none⟩ = some (.string a0_7) ∧ w'.cell? ⟨gb161, 8, none⟩ = some (.string a0_8) ∧ w'.cell? ⟨gb161, 9, none⟩ = some (.string a0_9)) ∧ (Kd.R Kd.string 9 w' w.heap.size (fun _ => True) s_.1 y165) ∧ (∃ c_, (s_.1 : Value) = .slice (some s_.2) y165.length c_) ∧ (w'.heap[gb161]? = some (.cells #[.int .i64 a0_0, .string a0_1, .string a0_2, .int .i64 a0_3, .int .i64 a0_4, .int .i64 a0_5, .int .i64 a0_6, .string a0_7, .string a0_8, .string a0_9] 36 (0, 0))) ∧ (Below w.heap.size w w')) ?_ ?_
  rotate_left
  {
  intro hJ0_4_11_16
  refine join_ (σ := Value × Addr) 21 #[true, true, true, true, false, false, true, false, false, true, true, true, false, false, true, true, true, false, false, true, true, true, false, false, true, true, false, false, false, true, true, false, false, false, true, true, true, false, false, false, true, true, false, false] (fun s_ => [(15, s_.1), (26, .string t169), (31, .string t170), (36, .string t171), (18, .pointer (some (s_.2.add (a0_0).toNat)))]) (fun s_ w' => (w'.cell? ⟨gb161, 0, none⟩ = some (.int .i64 a0_0) ∧ w'.cell? ⟨gb161, 1, none⟩ = some (.string a0_1) ∧ w'.cell? ⟨gb161, 2, none⟩ = some (.string a0_2) ∧ w'.cell? ⟨gb161, 3, none⟩ = some (.int .i64 a0_3) ∧ w'.cell? ⟨gb161, 4, none⟩ = some (.int .i64 a0_4) ∧ w'.cell? ⟨gb161, 5, none⟩ = some (.int .i64 a0_5) ∧ w'.cell? ⟨gb161, 6, none⟩ = some (.int .i64 a0_6) ∧ w'.cell? ⟨gb161, 7, none⟩ = some (.string a0_7) ∧ w'.cell? ⟨gb161, 8, none⟩ = some (.string a0_8) ∧ w'.cell? ⟨gb161, 9, none⟩ = some (.string a0_9)) ∧ (Kd.R Kd.string 9 w' w.heap.size (fun _ => True) s_.1 y165) ∧ (∃ c_, (s_.1 : Value) = .slice (some s_.2) y165.length c_) ∧ (w'.heap[gb161]? = some (.cells #[.int .i64 a0_0, .string a0_1, .string a0_2, .int .i64 a0_3, .int .i64 a0_4, .int .i64 a0_5, .int .i64 a0_6, .string a0_7, .string a0_8, .string a0_9] 36 (0, 0))) ∧ (Below w.heap.size w w')) ?_ ?_
  rotate_left
  {
  intro hJ0_11_16_21
  refine join_ (σ := Unit) 22 #[false, true, true, false, false, false, true, false, false, true, true, true, false, false, true, true, true, false, false, true, true, true, false, false, true, true, true, false, false, true, true, false, false, false, true, true, true, false, false, false, true, true, false, false] (fun s_ => [(26, .string t169), (31, .string t170), (36, .string t171), (41, .string t172)]) (fun s_ w' => (w'.cell? ⟨gb161, 0, none⟩ = some (.int .i64 a0_0) ∧ w'.cell? ⟨gb161, 1, none⟩ = some (.string a0_1) ∧ w'.cell? ⟨gb161, 2, none⟩ = some (.string a0_2) ∧ w'.cell? ⟨gb161, 3, none⟩ = some (.int .i64 a0_3) ∧ w'.cell? ⟨gb161, 4, none⟩ = some (.int .i64 a0_4) ∧ w'.cell? ⟨gb161, 5, none⟩ = some (.int .i64 a0_5) ∧ w'.cell? ⟨gb161, 6, none⟩ = some (.int .i64 a0_6) ∧ w'.cell? ⟨gb161, 7, none⟩ = some (.string a0_7) ∧ w'.cell? ⟨gb161, 8, none⟩ = some (.string a0_8) ∧ w'.cell? ⟨gb161, 9, none⟩ = some (.string a0_9)) ∧ (w'.heap[gb161]? = some (.cells #[.int .i64 a0_0, .string a0_1, .string a0_2, .int .i64 a0_3, .int .i64 a0_4, .int .i64 a0_5, .int .i64 a0_6, .string a0_7, .string a0_8, .string a0_9] 36 (0, 0))) ∧ (Below w.heap.size w w')) ?_ ?_
  rotate_left
  {
  intro hJ11_16_21_26
  refine join_ (σ := Value × Addr) 17 #[true, true, true, true, true, true, true, true, true, true, true, true, true, true, true, true, false, false, false, true, true, false, false, false, true, true, false, false, false, true, true, false, false, false, true, true, true, false, false, false, true, true, false, false] (fun s_ => [(15, s_.1), (19, .string (rdOf ByteArray.empty y165 a0_0)), (26, .string t169), (18, .pointer (some (s_.2.add (a0_0).toNat))), (20, .string ((rdOf ByteArray.empty y165 a0_0) ++ (⟨#[32]⟩ : ByteArray))), (22, .string (((rdOf ByteArray.empty y165 a0_0) ++ (⟨#[32]⟩ : ByteArray)) ++ t163)), (23, .string ((((rdOf ByteArray.empty y165 a0_0) ++ (⟨#[32]⟩ : ByteArray)) ++ t163) ++ (⟨#[32]⟩ : ByteArray))), (27, .string (((((rdOf ByteArray.empty y165 a0_0) ++ (⟨#[32]⟩ : ByteArray)) ++ t163) ++ (⟨#[32]⟩ : ByteArray)) ++ t169)), (28, .string ((((((rdOf ByteArray.empty y165 a0_0) ++ (⟨#[32]⟩ : ByteArray)) ++ t163) ++ (⟨#[32]⟩ : ByteArray)) ++ t169) ++ (⟨#[32]⟩ : ByteArray)))]) (fun s_ w' => (w'.cell? ⟨gb161, 0, none⟩ = some (.int .i64 a0_0) ∧ w'.cell? ⟨gb161, 1, none⟩ = some (.string a0_1) ∧ w'.cell? ⟨gb161, 2, none⟩ = some (.string a0_2) ∧ w'.cell? ⟨gb161, 3, none⟩ = some (.int .i64 a0_3) ∧ w'.cell? ⟨gb161, 4, none⟩ = some (.int .i64 a0_4) ∧ w'.cell? ⟨gb161, 5, none⟩ = some (.int .i64 a0_5) ∧ w'.cell? ⟨gb161, 6, none⟩ = some (.int .i64 a0_6) ∧ w'.cell? ⟨gb161, 7, none⟩ = some (.string a0_7) ∧ w'.cell? ⟨gb161, 8, none⟩ = some (.string a0_8) ∧ w'.cell? ⟨gb161, 9, none⟩ = some (.string a0_9)) ∧ (Kd.R Kd.string 9 w' w.heap.size (fun _ => True) s_.1 y165) ∧ (∃ c_, (s_.1 : Value) = .slice (some s_.2) y165.length c_) ∧ (w'.heap[gb161]? = some (.cells #[.int .i64 a0_0, .string a0_1, .string a0_2, .int .i64 a0_3, .int .i64 a0_4, .int .i64 a0_5, .int .i64 a0_6, .string a0_7, .string a0_8, .string a0_9] 36 (0, 0))) ∧ (Below w.heap.size w w')) ?_ ?_
  rotate_left
  {
  intro hJ0_4_11
  refine join_ (σ := Value × Addr) 22 #[true, true, true, true, false, false, true, false, false, true, true, true, false, false, true, true, true, false, false, true, true, false, false, false, true, true, false, false, false, true, true, false, false, false, true, true, true, false, false, false, true, true, false, false] (fun s_ => [(15, s_.1), (26, .string t169), (31, .string t170), (18, .pointer (some (s_.2.add (a0_0).toNat)))]) (fun s_ w' => (w'.cell? ⟨gb161, 0, none⟩ = some (.int .i64 a0_0) ∧ w'.cell? ⟨gb161, 1, none⟩ = some (.string a0_1) ∧ w'.cell? ⟨gb161, 2, none⟩ = some (.string a0_2) ∧ w'.cell? ⟨gb161, 3, none⟩ = some (.int .i64 a0_3) ∧ w'.cell? ⟨gb161, 4, none⟩ = some (.int .i64 a0_4) ∧ w'.cell? ⟨gb161, 5, none⟩ = some (.int .i64 a0_5) ∧ w'.cell? ⟨gb161, 6, none⟩ = some (.int .i64 a0_6) ∧ w'.cell? ⟨gb161, 7, none⟩ = some (.string a0_7) ∧ w'.cell? ⟨gb161, 8, none⟩ = some (.string a0_8) ∧ w'.cell? ⟨gb161, 9, none⟩ = some (.string a0_9)) ∧ (Kd.R Kd.string 9 w' w.heap.size (fun _ => True) s_.1 y165) ∧ (∃ c_, (s_.1 : Value) = .slice (some s_.2) y165.length c_) ∧ (w'.heap[gb161]? = some (.cells #[.int .i64 a0_0, .string a0_1, .string a0_2, .int .i64 a0_3, .int .i64 a0_4, .int .i64 a0_5, .int .i64 a0_6, .string a0_7, .string a0_8, .string a0_9] 36 (0, 0))) ∧ (Below w.heap.size w w')) ?_ ?_
  rotate_left
  {
  intro hJ0_11_16
  refine join_ (σ := Unit) 23 #[false, true, true, false, false, false, true, false, false, true, true, true, false, false, true, true, true, false, false, true, true, true, false, false, true, true, false, false, false, true, true, false, false, false, true, true, true, false, false, false, true, true, false, false] (fun s_ => [(26, .string t169), (31, .string t170), (36, .string t171)]) (fun s_ w' => (w'.cell? ⟨gb161, 0, none⟩ = some (.int .i64 a0_0) ∧ w'.cell? ⟨gb161, 1, none⟩ = some (.string a0_1) ∧ w'.cell? ⟨gb161, 2, none⟩ = some (.string a0_2) ∧ w'.cell? ⟨gb161, 3, none⟩ = some (.int .i64 a0_3) ∧ w'.cell? ⟨gb161, 4, none⟩ = some (.int .i64 a0_4) ∧ w'.cell? ⟨gb161, 5, none⟩ = some (.int .i64 a0_5) ∧ w'.cell? ⟨gb161, 6, none⟩ = some (.int .i64 a0_6) ∧ w'.cell? ⟨gb161, 7, none⟩ = some (.string a0_7) ∧ w'.cell? ⟨gb161, 8, none⟩ = some (.string a0_8) ∧ w'.cell? ⟨gb161, 9, none⟩ = some (.string a0_9)) ∧ (w'.heap[gb161]? = some (.cells #[.int .i64 a0_0, .string a0_1, .string a0_2, .int .i64 a0_3, .int .i64 a0_4, .int .i64 a0_5, .int .i64 a0_6, .string a0_7, .string a0_8, .string a0_9] 36 (0, 0))) ∧ (Below w.heap.size w w')) ?_ ?_
  rotate_left
  {
  intro hJ11_16_21
  refine join_ (σ := Value × Addr) 20 #[true, true, true, true, true, true, true, true, true, true, true, false, false, false, true, true, false, false, false, true, true, false, false, false, true, true, false, false, false, true, true, false, false, false, true, true, true, false, false, false, true, true, false, false] (fun s_ => [(15, s_.1), (19, .string (rdOf ByteArray.empty y165 a0_0)), (18, .pointer (some (s_.2.add (a0_0).toNat))), (20, .string ((rdOf ByteArray.empty y165 a0_0) ++ (⟨#[32]⟩ : ByteArray))), (22, .string (((rdOf ByteArray.empty y165 a0_0) ++ (⟨#[32]⟩ : ByteArray)) ++ t163)), (23, .string ((((rdOf ByteArray.empty y165 a0_0) ++ (⟨#[32]⟩ : ByteArray)) ++ t163) ++ (⟨#[32]⟩ : ByteArray)))]) (fun s_ w' => (w'.cell? ⟨gb161, 0, none⟩ = some (.int .i64 a0_0) ∧ w'.cell? ⟨gb161, 1, none⟩ = some (.string a0_1) ∧ w'.cell? ⟨gb161, 2, none⟩ = some (.string a0_2) ∧ w'.cell? ⟨gb161, 3, none⟩ = some (.int .i64 a0_3) ∧ w'.cell? ⟨gb161, 4, none⟩ = some (.int .i64 a0_4) ∧ w'.cell? ⟨gb161, 5, none⟩ = some (.int .i64 a0_5) ∧ w'.cell? ⟨gb161, 6, none⟩ = some (.int .i64 a0_6) ∧ w'.cell? ⟨gb161, 7, none⟩ = some (.string a0_7) ∧ w'.cell? ⟨gb161, 8, none⟩ = some (.string a0_8) ∧ w'.cell? ⟨gb161, 9, none⟩ = some (.string a0_9)) ∧ (Kd.R Kd.string 9 w' w.heap.size (fun _ => True) s_.1 y165) ∧ (∃ c_, (s_.1 : Value) = .slice (some s_.2) y165.length c_) ∧ (w'.heap[gb161]? = some (.cells #[.int .i64 a0_0, .string a0_1, .string a0_2, .int .i64 a0_3, .int .i64 a0_4, .int .i64 a0_5, .int .i64 a0_6, .string a0_7, .string a0_8, .string a0_9] 36 (0, 0))) ∧ (Below w.heap.size w w')) ?_ ?_
  rotate_left
  {
  intro hJ0_4
  refine join_ (σ := Value × Addr) 23 #[true, true, true, true, false, false, true, false, false, true, true, true, false, false, true, true, false, false, false, true, true, false, false, false, true, true, false, false, false, true, true, false, false, false, true, true, true, false, false, false, true, true, false, false] (fun s_ => [(15, s_.1), (26, .string t169), (18, .pointer (some (s_.2.add (a0_0).toNat)))]) (fun s_ w' => (w'.cell? ⟨gb161, 0, none⟩ = some (.int .i64 a0_0) ∧ w'.cell? ⟨gb161, 1, none⟩ = some (.string a0_1) ∧ w'.cell? ⟨gb161, 2, none⟩ = some (.string a0_2) ∧ w'.cell? ⟨gb161, 3, none⟩ = some (.int .i64 a0_3) ∧ w'.cell? ⟨gb161, 4, none⟩ = some (.int .i64 a0_4) ∧ w'.cell? ⟨gb161, 5, none⟩ = some (.int .i64 a0_5) ∧ w'.cell? ⟨gb161, 6, none⟩ = some (.int .i64 a0_6) ∧ w'.cell? ⟨gb161, 7, none⟩ = some (.string a0_7) ∧ w'.cell? ⟨gb161, 8, none⟩ = some (.string a0_8) ∧ w'.cell? ⟨gb161, 9, none⟩ = some (.string a0_9)) ∧ (Kd.R Kd.string 9 w' w.heap.size (fun _ => True) s_.1 y165) ∧ (∃ c_, (s_.1 : Value) = .slice (some s_.2) y165.length c_) ∧ (w'.heap[gb161]? = some (.cells #[.int .i64 a0_0, .string a0_1, .string a0_2, .int .i64 a0_3, .int .i64 a0_4, .int .i64 a0_5, .int .i64 a0_6, .string a0_7, .string a0_8, .string a0_9] 36 (0, 0))) ∧ (Below w.heap.size w w')) ?_ ?_
  rotate_left
  {
  intro hJ0_11
  refine join_ (σ := Unit) 24 #[false, true, true, false, false, false, true, false, false, true, true, true, false, false, true, true, true, false, false, true, true, false, false, false, true, true, false, false, false, true, true, false, false, false, true, true, true, false, false, false, true, true, false, false] (fun s_ => [(26, .string t169), (31, .string t170)]) (fun s_ w' => (w'.cell? ⟨gb161, 0, none⟩ = some (.int .i64 a0_0) ∧ w'.cell? ⟨gb161, 1, none⟩ = some (.string a0_1) ∧ w'.cell? ⟨gb161, 2, none⟩ = some (.string a0_2) ∧ w'.cell? ⟨gb161, 3, none⟩ = some (.int .i64 a0_3) ∧ w'.cell? ⟨gb161, 4, none⟩ = some (.int .i64 a0_4) ∧ w'.cell? ⟨gb161, 5, none⟩ = some (.int .i64 a0_5) ∧ w'.cell? ⟨gb161, 6, none⟩ = some (.int .i64 a0_6) ∧ w'.cell? ⟨gb161, 7, none⟩ = some (.string a0_7) ∧ w'.cell? ⟨gb161, 8, none⟩ = some (.string a0_8) ∧ w'.cell? ⟨gb161, 9, none⟩ = some (.string a0_9)) ∧ (w'.heap[gb161]? = some (.cells #[.int .i64 a0_0, .string a0_1, .string a0_2, .int .i64 a0_3, .int .i64 a0_4, .int .i64 a0_5, .int .i64 a0_6, .string a0_7, .string a0_8, .string a0_9] 36 (0, 0))) ∧ (Below w.heap.size w w')) ?_ ?_
  rotate_left
  {
  intro hJ11_16
  refine join_ (σ := Value × Addr) 24 #[true, true, true, true, false, false, true, false, false, true, true, false, false, false, true, true, false, false, false, true, true, false, false, false, true, true, false, false, false, true, true, false, false, false, true, true, true, false, false, false, true, true, false, false] (fun s_ => [(15, s_.1), (18, .pointer (some (s_.2.add (a0_0).toNat)))]) (fun s_ w' => (w'.cell? ⟨gb161, 0, none⟩ = some (.int .i64 a0_0) ∧ w'.cell? ⟨gb161, 1, none⟩ = some (.string a0_1) ∧ w'.cell? ⟨gb161, 2, none⟩ = some (.string a0_2) ∧ w'.cell? ⟨gb161, 3, none⟩ = some (.int .i64 a0_3) ∧ w'.cell? ⟨gb161, 4, none⟩ = some (.int .i64 a0_4) ∧ w'.cell? ⟨gb161, 5, none⟩ = some (.int .i64 a0_5) ∧ w'.cell? ⟨gb161, 6, none⟩ = some (.int .i64 a0_6) ∧ w'.cell? ⟨gb161, 7, none⟩ = some (.string a0_7) ∧ w'.cell? ⟨gb161, 8, none⟩ = some (.string a0_8) ∧ w'.cell? ⟨gb161, 9, none⟩ = some (.string a0_9)) ∧ (Kd.R Kd.string 9 w' w.heap.size (fun _ => True) s_.1 y165) ∧ (∃ c_, (s_.1 : Value) = .slice (some s_.2) y165.length c_) ∧ (w'.heap[gb161]? = some (.cells #[.int .i64 a0_0, .string a0_1, .string a0_2, .int .i64 a0_3, .int .i64 a0_4, .int .i64 a0_5, .int .i64 a0_6, .string a0_7, .string a0_8, .string a0_9] 36 (0, 0))) ∧ (Below w.heap.size w w')) ?_ ?_
  rotate_left
  {
  intro hJ0
  refine join_ (σ := Unit) 25 #[false, true, true, false, false, false, true, false, false, true, true, true, false, false, true, true, false, false, false, true, true, false, false, false, true, true, false, false, false, true, true, false, false, false, true, true, true, false, false, false, true, true, false, false] (fun s_ => [(26, .string t169)]) (fun s_ w' => (w'.cell? ⟨gb161, 0, none⟩ = some (.int .i64 a0_0) ∧ w'.cell? ⟨gb161, 1, none⟩ = some (.string a0_1) ∧ w'.cell? ⟨gb161, 2, none⟩ = some (.string a0_2) ∧ w'.cell? ⟨gb161, 3, none⟩ = some (.int .i64 a0_3) ∧ w'.cell? ⟨gb161, 4, none⟩ = some (.int .i64 a0_4) ∧ w'.cell? ⟨gb161, 5, none⟩ = some (.int .i64 a0_5) ∧ w'.cell? ⟨gb161, 6, none⟩ = some (.int .i64 a0_6) ∧ w'.cell? ⟨gb161, 7, none⟩ = some (.string a0_7) ∧ w'.cell? ⟨gb161, 8, none⟩ = some (.string a0_8) ∧ w'.cell? ⟨gb161, 9, none⟩ = some (.string a0_9)) ∧ (w'.heap[gb161]? = some (.cells #[.int .i64 a0_0, .string a0_1, .string a0_2, .int .i64 a0_3, .int .i64 a0_4, .int .i64 a0_5, .int .i64 a0_6, .string a0_7, .string a0_8, .string a0_9] 36 (0, 0))) ∧ (Below w.heap.size w w')) ?_ ?_
  rotate_left
  {
  intro hJ11
  refine two_ (i := 0) (j := 11) (Ni := some 15) (Nj := some 26) #[true, true, true, false, false, false, true, false, false, true, true, false, false, false, true, true, false, false, false, true, true, false, false, false, true, true, false, false, false, true, true, false, false, false, true, true, true, false, false, false, true, true, false, false] #[false, true, true, false, false, false, true, false, false, true, true, true, false, false, true, true, false, false, false, true, true, false, false, false, true, true, false, false, false, true, true, false, false, false, true, true, true, false, false, false, true, true, false, false] rfl rfl rfl rfl (two_of HT_.out (by kernel_rfl)) (by decide) (by decide) (fun K hK => ?_) (fun K hK => ?_)
  {
  skip
  refine Kd.R_lit_step Kd.string _ 9 ?hg (N := 15) ?hd (xs := ([(⟨#[102]⟩ : ByteArray), (⟨#[100]⟩ : ByteArray), (⟨#[108]⟩ : ByteArray), (⟨#[104]⟩ : ByteArray)] : List ByteArray)) (inner := [.string (⟨#[102]⟩ : ByteArray), .string (⟨#[100]⟩ : ByteArray), .string (⟨#[108]⟩ : ByteArray), .string (⟨#[104]⟩ : ByteArray)]) (ok := fun _ => True) (okp := fun _ => True) ?hr ?hp (fun _ hk => hk) trivial (Below.refl _ _) (Nat.le_refl _) (by simp) ?_; (case hd => rfl); (case hg => rfl); (case hr => first | (go_simp; done) | (go_simp; rfl)); (case hp => exact (Reps.one (show Kd.M Kd.string _ _ _ (⟨#[102]⟩ : ByteArray) [.string (⟨#[102]⟩ : ByteArray)] from rfl) (Reps.one (show Kd.M Kd.string _ _ _ (⟨#[100]⟩ : ByteArray) [.string (⟨#[100]⟩ : ByteArray)] from rfl) (Reps.one (show Kd.M Kd.string _ _ _ (⟨#[108]⟩ : ByteArray) [.string (⟨#[108]⟩ : ByteArray)] from rfl) (Reps.one (show Kd.M Kd.string _ _ _ (⟨#[104]⟩ : ByteArray) [.string (⟨#[104]⟩ : ByteArray)] from rfl) (Reps.none _ _))))))
  intro v166 w35 ho36 hb hg_ hnew_
  clear hg_ hnew_
  (first | rw [← Ny165.out] at ho36 | (simp only [Int.reduceToNat] at ho36; rw [← Ny165.out] at ho36))
  have n0_ := Aside0.mk (Kd.R_lower ho36 (below_size (by repeat (first | (with_reducible first | exact HB.out | apply below_alloc | apply pw_below_drewN | apply below_drew1 | refine below_set ?_ GE161.out) | exact HB.out))))
  have n1_ := Aside0.mk (blk_below (g := gb161) (o := .cells #[.int .i64 a0_0, .string a0_1, .string a0_2, .int .i64 a0_3, .int .i64 a0_4, .int .i64 a0_5, .int .i64 a0_6, .string a0_7, .string a0_8, .string a0_9] 36 (0, 0)) (by (with_reducible repeat (first | refine blk_drewN ?_ _ | refine blk_drew ?_ | refine blk_alloc ?_ _)); exact BK161.out) hb)
  have n2_ := Aside0.mk (below_step (by repeat (first | (with_reducible first | exact HB.out | apply below_alloc | apply pw_below_drewN | apply below_drew1 | refine below_set ?_ GE161.out) | exact HB.out)) hb)
  clear BK161
  clear HB
  have HO167 := n0_
  have BK161 := n1_
  have HB := n2_
  clear n0_ n1_ n2_
  clear hb ho36
  obtain ⟨Ao37, co37, eo37⟩ := Kd.R_slice HO167.out
  subst eo37
  obtain ⟨ado37, fo37, _⟩ := Kd.at_string (Kd.R_reads' HO167.out).2.2 0 (by decide) (by rw [Ny165.out]; simp)
  cases fo37
  refine hK.out _ _ ⟨(blk_cell BK161.out 0).trans rfl, (blk_cell BK161.out 1).trans rfl, (blk_cell BK161.out 2).trans rfl, (blk_cell BK161.out 3).trans rfl, (blk_cell BK161.out 4).trans rfl, (blk_cell BK161.out 5).trans rfl, (blk_cell BK161.out 6).trans rfl, (blk_cell BK161.out 7).trans rfl, (blk_cell BK161.out 8).trans rfl, (blk_cell BK161.out 9).trans rfl⟩ (fun hHeld => ?_)
  clear hK K
  refine norm_ (a' := ?_) ?_ ?_
  rotate_left
  · show Act.put _ (some 15) _ = _
    simp only [Act.put, List.setIfInBounds_toArray, List.set_cons_zero, List.set_cons_succ, i64_w, i32_w]
    rfl
  refine pure_ (i := 3) (N := some 18) (v := ?_) (a' := ?_) #[true, true, true, true, false, false, true, false, false, true, true, false, false, false, true, true, false, false, false, true, true, false, false, false, true, true, false, false, false, true, true, false, false, false, true, true, true, false, false, false, true, true, false, false] rfl rfl (any_of HT_.out (by kernel_rfl)) (fun _ _ _ h => h) (Or.inl ⟨by rfl, ?_⟩) ?_ ?_
  rotate_left
  · intro w'
    go_simp
    with_reducible rfl
  rotate_left
  · simp only [Act.put, List.setIfInBounds_toArray, List.set_cons_zero, List.set_cons_succ, i64_w, i32_w]
    rfl
  exact norm_ (by first | (simp only [putAll, Act.put, List.setIfInBounds_toArray, List.set_cons_zero, List.set_cons_succ]; done) | (simp only [putAll, Act.put, List.setIfInBounds_toArray, List.set_cons_zero, List.set_cons_succ]; rfl)) (hJ0 (.slice (some ado37) y165.length co37, ado37) _ ⟨hHeld, (by (with_reducible repeat (first | apply Kd.R_alloc | apply Kd.R_drewN | apply Kd.R_drew)); exact HO167.out), ⟨_, rfl⟩, (by (with_reducible repeat (first | refine blk_drewN ?_ _ | refine blk_drew ?_ | refine blk_alloc ?_ _)); exact BK161.out), (by repeat (first | (with_reducible first | exact HB.out | apply below_alloc | apply pw_below_drewN | apply below_drew1 | refine below_set ?_ GE161.out) | exact HB.out))⟩)
  }
  {
  skip
  refine goes_ Tryd.func44 (by kernel_rfl) rfl #[.int .i64 a0_4] (by rfl) rfl rfl (by (try simp only [List.map_toArray, List.map_cons, List.map_nil]); first | done | rfl | (simp only [List.length_drop, List.length_take]; rfl)) ?_
  with_reducible refine (spec_DecText.calls k a0_4 t169 _ A10.out).mono ?_
  rintro e w' ⟨rfl, ⟨nd, rfl⟩⟩
  refine ⟨_, rfl, ?_⟩
  refine hK.out _ _ ⟨(blk_cell BK161.out 0).trans rfl, (blk_cell BK161.out 1).trans rfl, (blk_cell BK161.out 2).trans rfl, (blk_cell BK161.out 3).trans rfl, (blk_cell BK161.out 4).trans rfl, (blk_cell BK161.out 5).trans rfl, (blk_cell BK161.out 6).trans rfl, (blk_cell BK161.out 7).trans rfl, (blk_cell BK161.out 8).trans rfl, (blk_cell BK161.out 9).trans rfl⟩ (fun hHeld => ?_)
  clear hK K
  refine norm_ (a' := ?_) ?_ ?_
  rotate_left
  · show Act.put _ (some 26) _ = _
    simp only [Act.put, List.setIfInBounds_toArray, List.set_cons_zero, List.set_cons_succ, i64_w, i32_w]
    rfl
  exact norm_ (by first | (simp only [putAll, Act.put, List.setIfInBounds_toArray, List.set_cons_zero, List.set_cons_succ]; done) | (simp only [putAll, Act.put, List.setIfInBounds_toArray, List.set_cons_zero, List.set_cons_succ]; rfl)) (hJ11 () _ ⟨hHeld, (by (with_reducible repeat (first | refine blk_drewN ?_ _ | refine blk_drew ?_ | refine blk_alloc ?_ _)); exact BK161.out), (by repeat (first | (with_reducible first | exact HB.out | apply below_alloc | apply pw_below_drewN | apply below_drew1 | refine below_set ?_ GE161.out) | exact HB.out))⟩)
  }
  }
  {
  skip
  rintro _ w35 ⟨hS_, h0_, h1_⟩
  have n0_ : Aside0 (w35.heap[gb161]? = some (.cells #[.int .i64 a0_0, .string a0_1, .string a0_2, .int .i64 a0_3, .int .i64 a0_4, .int .i64 a0_5, .int .i64 a0_6, .string a0_7, .string a0_8, .string a0_9] 36 (0, 0))) := ⟨h0_⟩
  have n1_ : Aside0 (Below w.heap.size w w35) := ⟨h1_⟩
  clear BK161
  clear HB
  clear h0_ h1_
  have BK161 := n0_
  have HB := n1_
  clear n0_ n1_
  have hHeld : w35.cell? ⟨gb161, 0, none⟩ = some (.int .i64 a0_0) ∧ w35.cell? ⟨gb161, 1, none⟩ = some (.string a0_1) ∧ w35.cell? ⟨gb161, 2, none⟩ = some (.string a0_2) ∧ w35.cell? ⟨gb161, 3, none⟩ = some (.int .i64 a0_3) ∧ w35.cell? ⟨gb161, 4, none⟩ = some (.int .i64 a0_4) ∧ w35.cell? ⟨gb161, 5, none⟩ = some (.int .i64 a0_5) ∧ w35.cell? ⟨gb161, 6, none⟩ = some (.int .i64 a0_6) ∧ w35.cell? ⟨gb161, 7, none⟩ = some (.string a0_7) ∧ w35.cell? ⟨gb161, 8, none⟩ = some (.string a0_8) ∧ w35.cell? ⟨gb161, 9, none⟩ = some (.string a0_9) := hS_
  refine norm_ (a' := ?_) ?_ ?_
  rotate_left
  · simp only [putAll, Act.put, List.setIfInBounds_toArray, List.set_cons_zero, List.set_cons_succ]
    rfl
  refine two_ (i := 0) (j := 16) (Ni := some 15) (Nj := some 31) #[true, true, true, false, false, false, true, false, false, true, true, true, false, false, true, true, false, false, false, true, true, false, false, false, true, true, false, false, false, true, true, false, false, false, true, true, true, false, false, false, true, true, false, false] #[false, true, true, false, false, false, true, false, false, true, true, true, false, false, true, true, true, false, false, true, true, false, false, false, true, true, false, false, false, true, true, false, false, false, true, true, true, false, false, false, true, true, false, false] rfl rfl rfl rfl (two_of HT_.out (by kernel_rfl)) (by decide) (by decide) (fun K hK => ?_) (fun K hK => ?_)
  {
  skip
  refine Kd.R_lit_step Kd.string _ 9 ?hg (N := 15) ?hd (xs := ([(⟨#[102]⟩ : ByteArray), (⟨#[100]⟩ : ByteArray), (⟨#[108]⟩ : ByteArray), (⟨#[104]⟩ : ByteArray)] : List ByteArray)) (inner := [.string (⟨#[102]⟩ : ByteArray), .string (⟨#[100]⟩ : ByteArray), .string (⟨#[108]⟩ : ByteArray), .string (⟨#[104]⟩ : ByteArray)]) (ok := fun _ => True) (okp := fun _ => True) ?hr ?hp (fun _ hk => hk) trivial (Below.refl _ _) (Nat.le_refl _) (by simp) ?_; (case hd => rfl); (case hg => rfl); (case hr => first | (go_simp; done) | (go_simp; rfl)); (case hp => exact (Reps.one (show Kd.M Kd.string _ _ _ (⟨#[102]⟩ : ByteArray) [.string (⟨#[102]⟩ : ByteArray)] from rfl) (Reps.one (show Kd.M Kd.string _ _ _ (⟨#[100]⟩ : ByteArray) [.string (⟨#[100]⟩ : ByteArray)] from rfl) (Reps.one (show Kd.M Kd.string _ _ _ (⟨#[108]⟩ : ByteArray) [.string (⟨#[108]⟩ : ByteArray)] from rfl) (Reps.one (show Kd.M Kd.string _ _ _ (⟨#[104]⟩ : ByteArray) [.string (⟨#[104]⟩ : ByteArray)] from rfl) (Reps.none _ _))))))
  intro v166 w36 ho37 hb hg_ hnew_
  clear hg_ hnew_
  (first | rw [← Ny165.out] at ho37 | (simp only [Int.reduceToNat] at ho37; rw [← Ny165.out] at ho37))
  have n0_ := Aside0.mk (Kd.R_lower ho37 (below_size (by repeat (first | (with_reducible first | exact HB.out | apply below_alloc | apply pw_below_drewN | apply below_drew1 | refine below_set ?_ GE161.out) | exact HB.out))))
  have n1_ := Aside0.mk (blk_below (g := gb161) (o := .cells #[.int .i64 a0_0, .string a0_1, .string a0_2, .int .i64 a0_3, .int .i64 a0_4, .int .i64 a0_5, .int .i64 a0_6, .string a0_7, .string a0_8, .string a0_9] 36 (0, 0)) (by (with_reducible repeat (first | refine blk_drewN ?_ _ | refine blk_drew ?_ | refine blk_alloc ?_ _)); exact BK161.out) hb)
  have n2_ := Aside0.mk (below_step (by repeat (first | (with_reducible first | exact HB.out | apply below_alloc | apply pw_below_drewN | apply below_drew1 | refine below_set ?_ GE161.out) | exact HB.out)) hb)
  clear BK161
  clear HB
  have HO167 := n0_
  have BK161 := n1_
  have HB := n2_
  clear n0_ n1_ n2_
  clear hb ho37
  obtain ⟨Ao38, co38, eo38⟩ := Kd.R_slice HO167.out
  subst eo38
  obtain ⟨ado38, fo38, _⟩ := Kd.at_string (Kd.R_reads' HO167.out).2.2 0 (by decide) (by rw [Ny165.out]; simp)
  cases fo38
  refine hK.out _ _ ⟨(blk_cell BK161.out 0).trans rfl, (blk_cell BK161.out 1).trans rfl, (blk_cell BK161.out 2).trans rfl, (blk_cell BK161.out 3).trans rfl, (blk_cell BK161.out 4).trans rfl, (blk_cell BK161.out 5).trans rfl, (blk_cell BK161.out 6).trans rfl, (blk_cell BK161.out 7).trans rfl, (blk_cell BK161.out 8).trans rfl, (blk_cell BK161.out 9).trans rfl⟩ (fun hHeld => ?_)
  clear hK K
  refine norm_ (a' := ?_) ?_ ?_
  rotate_left
  · show Act.put _ (some 15) _ = _
    simp only [Act.put, List.setIfInBounds_toArray, List.set_cons_zero, List.set_cons_succ, i64_w, i32_w]
    rfl
  refine pure_ (i := 3) (N := some 18) (v := ?_) (a' := ?_) #[true, true, true, true, false, false, true, false, false, true, true, true, false, false, true, true, false, false, false, true, true, false, false, false, true, true, false, false, false, true, true, false, false, false, true, true, true, false, false, false, true, true, false, false] rfl rfl (any_of HT_.out (by kernel_rfl)) (fun _ _ _ h => h) (Or.inl ⟨by rfl, ?_⟩) ?_ ?_
  rotate_left
  · intro w'
    go_simp
    with_reducible rfl
  rotate_left
  · simp only [Act.put, List.setIfInBounds_toArray, List.set_cons_zero, List.set_cons_succ, i64_w, i32_w]
    rfl
  exact norm_ (by first | (simp only [putAll, Act.put, List.setIfInBounds_toArray, List.set_cons_zero, List.set_cons_succ]; done) | (simp only [putAll, Act.put, List.setIfInBounds_toArray, List.set_cons_zero, List.set_cons_succ]; rfl)) (hJ0_11 (.slice (some ado38) y165.length co38, ado38) _ ⟨hHeld, (by (with_reducible repeat (first | apply Kd.R_alloc | apply Kd.R_drewN | apply Kd.R_drew)); exact HO167.out), ⟨_, rfl⟩, (by (with_reducible repeat (first | refine blk_drewN ?_ _ | refine blk_drew ?_ | refine blk_alloc ?_ _)); exact BK161.out), (by repeat (first | (with_reducible first | exact HB.out | apply below_alloc | apply pw_below_drewN | apply below_drew1 | refine below_set ?_ GE161.out) | exact HB.out))⟩)
  }
  {
  skip
  refine goes_ Tryd.func44 (by kernel_rfl) rfl #[.int .i64 a0_5] (by rfl) rfl rfl (by (try simp only [List.map_toArray, List.map_cons, List.map_nil]); first | done | rfl | (simp only [List.length_drop, List.length_take]; rfl)) ?_
  with_reducible refine (spec_DecText.calls k a0_5 t170 _ A13.out).mono ?_
  rintro e w' ⟨rfl, ⟨nd, rfl⟩⟩
  refine ⟨_, rfl, ?_⟩
  refine hK.out _ _ ⟨(blk_cell BK161.out 0).trans rfl, (blk_cell BK161.out 1).trans rfl, (blk_cell BK161.out 2).trans rfl, (blk_cell BK161.out 3).trans rfl, (blk_cell BK161.out 4).trans rfl, (blk_cell BK161.out 5).trans rfl, (blk_cell BK161.out 6).trans rfl, (blk_cell BK161.out 7).trans rfl, (blk_cell BK161.out 8).trans rfl, (blk_cell BK161.out 9).trans rfl⟩ (fun hHeld => ?_)
  clear hK K
  refine norm_ (a' := ?_) ?_ ?_
  rotate_left
  · show Act.put _ (some 31) _ = _
    simp only [Act.put, List.setIfInBounds_toArray, List.set_cons_zero, List.set_cons_succ, i64_w, i32_w]
    rfl
  exact norm_ (by first | (simp only [putAll, Act.put, List.setIfInBounds_toArray, List.set_cons_zero, List.set_cons_succ]; done) | (simp only [putAll, Act.put, List.setIfInBounds_toArray, List.set_cons_zero, List.set_cons_succ]; rfl)) (hJ11_16 () _ ⟨hHeld, (by (with_reducible repeat (first | refine blk_drewN ?_ _ | refine blk_drew ?_ | refine blk_alloc ?_ _)); exact BK161.out), (by repeat (first | (with_reducible first | exact HB.out | apply below_alloc | apply pw_below_drewN | apply below_drew1 | refine below_set ?_ GE161.out) | exact HB.out))⟩)
  }
  }
  }
  {
  skip
  rintro ⟨v166, adz_v166⟩ w38 ⟨hS_, h0_, h1_, h2_, h3_⟩
  have n0_ : Aside0 (Kd.R Kd.string 9 w38 w.heap.size (fun _ => True) v166 y165) := ⟨h0_⟩
  have n1_ : Aside0 (∃ c_, (v166 : Value) = .slice (some adz_v166) y165.length c_) := ⟨h1_⟩
  have n2_ : Aside0 (w38.heap[gb161]? = some (.cells #[.int .i64 a0_0, .string a0_1, .string a0_2, .int .i64 a0_3, .int .i64 a0_4, .int .i64 a0_5, .int .i64 a0_6, .string a0_7, .string a0_8, .string a0_9] 36 (0, 0))) := ⟨h2_⟩
  have n3_ : Aside0 (Below w.heap.size w w38) := ⟨h3_⟩
  clear BK161
  clear HB
  clear h0_ h1_ h2_ h3_
  have HO167 := n0_
  have HA_HO167 := n1_
  have BK161 := n2_
  have HB := n3_
  clear n0_ n1_ n2_ n3_
  have hHeld : w38.cell? ⟨gb161, 0, none⟩ = some (.int .i64 a0_0) ∧ w38.cell? ⟨gb161, 1, none⟩ = some (.string a0_1) ∧ w38.cell? ⟨gb161, 2, none⟩ = some (.string a0_2) ∧ w38.cell? ⟨gb161, 3, none⟩ = some (.int .i64 a0_3) ∧ w38.cell? ⟨gb161, 4, none⟩ = some (.int .i64 a0_4) ∧ w38.cell? ⟨gb161, 5, none⟩ = some (.int .i64 a0_5) ∧ w38.cell? ⟨gb161, 6, none⟩ = some (.int .i64 a0_6) ∧ w38.cell? ⟨gb161, 7, none⟩ = some (.string a0_7) ∧ w38.cell? ⟨gb161, 8, none⟩ = some (.string a0_8) ∧ w38.cell? ⟨gb161, 9, none⟩ = some (.string a0_9) := hS_
  obtain ⟨co39, eo39⟩ := HA_HO167.out
  clear HA_HO167
  subst eo39
  refine norm_ (a' := ?_) ?_ ?_
  rotate_left
  · simp only [putAll, Act.put, List.setIfInBounds_toArray, List.set_cons_zero, List.set_cons_succ]
    rfl
  refine two_ (i := 4) (j := 11) (Ni := some 19) (Nj := some 26) #[true, true, true, true, true, false, true, false, false, true, true, false, false, false, true, true, false, false, false, true, true, false, false, false, true, true, false, false, false, true, true, false, false, false, true, true, true, false, false, false, true, true, false, false] #[true, true, true, true, false, false, true, false, false, true, true, true, false, false, true, true, false, false, false, true, true, false, false, false, true, true, false, false, false, true, true, false, false, false, true, true, true, false, false, false, true, true, false, false] rfl rfl rfl rfl (two_of HT_.out (by kernel_rfl)) (by decide) (by decide) (fun K hK => ?_) (fun K hK => ?_)
  {
  skip
  (have p168 : 0 ≤ (a0_0 : Int) := of_decide_eq_true (by assumption); have q168 : a0_0 < (y165.length : Int) := of_decide_eq_true (by assumption); obtain ⟨ad168, e168, hx168_0⟩ := Kd.at_string (Kd.R_reads' HO167.out).2.2 a0_0 p168 q168; obtain rfl : adz_v166 = ad168 := (by injection e168))
  refine value_ (w1 := ?_) (v := ?_) (by rfl) rfl ?_ ?_
  rotate_left 2
  · go_simp
    constructor
    · rfl
    · rfl
  clear hx168_0
  refine hK.out _ _ ⟨(blk_cell BK161.out 0).trans rfl, (blk_cell BK161.out 1).trans rfl, (blk_cell BK161.out 2).trans rfl, (blk_cell BK161.out 3).trans rfl, (blk_cell BK161.out 4).trans rfl, (blk_cell BK161.out 5).trans rfl, (blk_cell BK161.out 6).trans rfl, (blk_cell BK161.out 7).trans rfl, (blk_cell BK161.out 8).trans rfl, (blk_cell BK161.out 9).trans rfl⟩ (fun hHeld => ?_)
  clear hK K
  refine norm_ (a' := ?_) ?_ ?_
  rotate_left
  · show Act.put _ (some 19) _ = _
    simp only [Act.put, List.setIfInBounds_toArray, List.set_cons_zero, List.set_cons_succ, i64_w, i32_w]
    rfl
  refine pure_ (i := 5) (N := some 20) (v := ?_) (a' := ?_) #[true, true, true, true, true, true, true, false, false, true, true, false, false, false, true, true, false, false, false, true, true, false, false, false, true, true, false, false, false, true, true, false, false, false, true, true, true, false, false, false, true, true, false, false] rfl rfl (any_of HT_.out (by kernel_rfl)) (fun _ _ _ h => h) (Or.inl ⟨by rfl, ?_⟩) ?_ ?_
  rotate_left
  · intro w'
    go_simp
    with_reducible rfl
  rotate_left
  · simp only [Act.put, List.setIfInBounds_toArray, List.set_cons_zero, List.set_cons_succ, i64_w, i32_w]
    rfl
  refine pure_ (i := 7) (N := some 22) (v := ?_) (a' := ?_) #[true, true, true, true, true, true, true, true, false, true, true, false, false, false, true, true, false, false, false, true, true, false, false, false, true, true, false, false, false, true, true, false, false, false, true, true, true, false, false, false, true, true, false, false] rfl rfl (any_of HT_.out (by kernel_rfl)) (fun _ _ _ h => h) (Or.inl ⟨by rfl, ?_⟩) ?_ ?_
  rotate_left
  · intro w'
    go_simp
    with_reducible rfl
  rotate_left
  · simp only [Act.put, List.setIfInBounds_toArray, List.set_cons_zero, List.set_cons_succ, i64_w, i32_w]
    rfl
  refine pure_ (i := 8) (N := some 23) (v := ?_) (a' := ?_) #[true, true, true, true, true, true, true, true, true, true, true, false, false, false, true, true, false, false, false, true, true, false, false, false, true, true, false, false, false, true, true, false, false, false, true, true, true, false, false, false, true, true, false, false] rfl rfl (any_of HT_.out (by kernel_rfl)) (fun _ _ _ h => h) (Or.inl ⟨by rfl, ?_⟩) ?_ ?_
  rotate_left
  · intro w'
    go_simp
    with_reducible rfl
  rotate_left
  · simp only [Act.put, List.setIfInBounds_toArray, List.set_cons_zero, List.set_cons_succ, i64_w, i32_w]
    rfl
  exact norm_ (by first | (simp only [putAll, Act.put, List.setIfInBounds_toArray, List.set_cons_zero, List.set_cons_succ]; done) | (simp only [putAll, Act.put, List.setIfInBounds_toArray, List.set_cons_zero, List.set_cons_succ]; rfl)) (hJ0_4 (.slice (some adz_v166) y165.length co39, adz_v166) _ ⟨hHeld, (by (with_reducible repeat (first | apply Kd.R_alloc | apply Kd.R_drewN | apply Kd.R_drew)); exact HO167.out), ⟨_, rfl⟩, (by (with_reducible repeat (first | refine blk_drewN ?_ _ | refine blk_drew ?_ | refine blk_alloc ?_ _)); exact BK161.out), (by repeat (first | (with_reducible first | exact HB.out | apply below_alloc | apply pw_below_drewN | apply below_drew1 | refine below_set ?_ GE161.out) | exact HB.out))⟩)
  }
  {
  skip
  refine goes_ Tryd.func44 (by kernel_rfl) rfl #[.int .i64 a0_4] (by rfl) rfl rfl (by (try simp only [List.map_toArray, List.map_cons, List.map_nil]); first | done | rfl | (simp only [List.length_drop, List.length_take]; rfl)) ?_
  with_reducible refine (spec_DecText.calls k a0_4 t169 _ A10.out).mono ?_
  rintro e w' ⟨rfl, ⟨nd, rfl⟩⟩
  refine ⟨_, rfl, ?_⟩
  refine hK.out _ _ ⟨(blk_cell BK161.out 0).trans rfl, (blk_cell BK161.out 1).trans rfl, (blk_cell BK161.out 2).trans rfl, (blk_cell BK161.out 3).trans rfl, (blk_cell BK161.out 4).trans rfl, (blk_cell BK161.out 5).trans rfl, (blk_cell BK161.out 6).trans rfl, (blk_cell BK161.out 7).trans rfl, (blk_cell BK161.out 8).trans rfl, (blk_cell BK161.out 9).trans rfl⟩ (fun hHeld => ?_)
  clear hK K
  refine norm_ (a' := ?_) ?_ ?_
  rotate_left
  · show Act.put _ (some 26) _ = _
    simp only [Act.put, List.setIfInBounds_toArray, List.set_cons_zero, List.set_cons_succ, i64_w, i32_w]
    rfl
  exact norm_ (by first | (simp only [putAll, Act.put, List.setIfInBounds_toArray, List.set_cons_zero, List.set_cons_succ]; done) | (simp only [putAll, Act.put, List.setIfInBounds_toArray, List.set_cons_zero, List.set_cons_succ]; rfl)) (hJ0_11 (.slice (some adz_v166) y165.length co39, adz_v166) _ ⟨hHeld, (by (with_reducible repeat (first | apply Kd.R_alloc | apply Kd.R_drewN | apply Kd.R_drew)); exact HO167.out), ⟨_, rfl⟩, (by (with_reducible repeat (first | refine blk_drewN ?_ _ | refine blk_drew ?_ | refine blk_alloc ?_ _)); exact BK161.out), (by repeat (first | (with_reducible first | exact HB.out | apply below_alloc | apply pw_below_drewN | apply below_drew1 | refine below_set ?_ GE161.out) | exact HB.out))⟩)
  }
  }
  }
  {
  skip
  rintro _ w35 ⟨hS_, h0_, h1_⟩
  have n0_ : Aside0 (w35.heap[gb161]? = some (.cells #[.int .i64 a0_0, .string a0_1, .string a0_2, .int .i64 a0_3, .int .i64 a0_4, .int .i64 a0_5, .int .i64 a0_6, .string a0_7, .string a0_8, .string a0_9] 36 (0, 0))) := ⟨h0_⟩
  have n1_ : Aside0 (Below w.heap.size w w35) := ⟨h1_⟩
  clear BK161
  clear HB
  clear h0_ h1_
  have BK161 := n0_
  have HB := n1_
  clear n0_ n1_
  have hHeld : w35.cell? ⟨gb161, 0, none⟩ = some (.int .i64 a0_0) ∧ w35.cell? ⟨gb161, 1, none⟩ = some (.string a0_1) ∧ w35.cell? ⟨gb161, 2, none⟩ = some (.string a0_2) ∧ w35.cell? ⟨gb161, 3, none⟩ = some (.int .i64 a0_3) ∧ w35.cell? ⟨gb161, 4, none⟩ = some (.int .i64 a0_4) ∧ w35.cell? ⟨gb161, 5, none⟩ = some (.int .i64 a0_5) ∧ w35.cell? ⟨gb161, 6, none⟩ = some (.int .i64 a0_6) ∧ w35.cell? ⟨gb161, 7, none⟩ = some (.string a0_7) ∧ w35.cell? ⟨gb161, 8, none⟩ = some (.string a0_8) ∧ w35.cell? ⟨gb161, 9, none⟩ = some (.string a0_9) := hS_
  refine norm_ (a' := ?_) ?_ ?_
  rotate_left
  · simp only [putAll, Act.put, List.setIfInBounds_toArray, List.set_cons_zero, List.set_cons_succ]
    rfl
  refine two_ (i := 0) (j := 21) (Ni := some 15) (Nj := some 36) #[true, true, true, false, false, false, true, false, false, true, true, true, false, false, true, true, true, false, false, true, true, false, false, false, true, true, false, false, false, true, true, false, false, false, true, true, true, false, false, false, true, true, false, false] #[false, true, true, false, false, false, true, false, false, true, true, true, false, false, true, true, true, false, false, true, true, true, false, false, true, true, false, false, false, true, true, false, false, false, true, true, true, false, false, false, true, true, false, false] rfl rfl rfl rfl (two_of HT_.out (by kernel_rfl)) (by decide) (by decide) (fun K hK => ?_) (fun K hK => ?_)
  {
  skip
  refine Kd.R_lit_step Kd.string _ 9 ?hg (N := 15) ?hd (xs := ([(⟨#[102]⟩ : ByteArray), (⟨#[100]⟩ : ByteArray), (⟨#[108]⟩ : ByteArray), (⟨#[104]⟩ : ByteArray)] : List ByteArray)) (inner := [.string (⟨#[102]⟩ : ByteArray), .string (⟨#[100]⟩ : ByteArray), .string (⟨#[108]⟩ : ByteArray), .string (⟨#[104]⟩ : ByteArray)]) (ok := fun _ => True) (okp := fun _ => True) ?hr ?hp (fun _ hk => hk) trivial (Below.refl _ _) (Nat.le_refl _) (by simp) ?_; (case hd => rfl); (case hg => rfl); (case hr => first | (go_simp; done) | (go_simp; rfl)); (case hp => exact (Reps.one (show Kd.M Kd.string _ _ _ (⟨#[102]⟩ : ByteArray) [.string (⟨#[102]⟩ : ByteArray)] from rfl) (Reps.one (show Kd.M Kd.string _ _ _ (⟨#[100]⟩ : ByteArray) [.string (⟨#[100]⟩ : ByteArray)] from rfl) (Reps.one (show Kd.M Kd.string _ _ _ (⟨#[108]⟩ : ByteArray) [.string (⟨#[108]⟩ : ByteArray)] from rfl) (Reps.one (show Kd.M Kd.string _ _ _ (⟨#[104]⟩ : ByteArray) [.string (⟨#[104]⟩ : ByteArray)] from rfl) (Reps.none _ _))))))
  intro v166 w36 ho37 hb hg_ hnew_
  clear hg_ hnew_
  (first | rw [← Ny165.out] at ho37 | (simp only [Int.reduceToNat] at ho37; rw [← Ny165.out] at ho37))
  have n0_ := Aside0.mk (Kd.R_lower ho37 (below_size (by repeat (first | (with_reducible first | exact HB.out | apply below_alloc | apply pw_below_drewN | apply below_drew1 | refine below_set ?_ GE161.out) | exact HB.out))))
  have n1_ := Aside0.mk (blk_below (g := gb161) (o := .cells #[.int .i64 a0_0, .string a0_1, .string a0_2, .int .i64 a0_3, .int .i64 a0_4, .int .i64 a0_5, .int .i64 a0_6, .string a0_7, .string a0_8, .string a0_9] 36 (0, 0)) (by (with_reducible repeat (first | refine blk_drewN ?_ _ | refine blk_drew ?_ | refine blk_alloc ?_ _)); exact BK161.out) hb)
  have n2_ := Aside0.mk (below_step (by repeat (first | (with_reducible first | exact HB.out | apply below_alloc | apply pw_below_drewN | apply below_drew1 | refine below_set ?_ GE161.out) | exact HB.out)) hb)
  clear BK161
  clear HB
  have HO167 := n0_
  have BK161 := n1_
  have HB := n2_
  clear n0_ n1_ n2_
  clear hb ho37
  obtain ⟨Ao38, co38, eo38⟩ := Kd.R_slice HO167.out
  subst eo38
  obtain ⟨ado38, fo38, _⟩ := Kd.at_string (Kd.R_reads' HO167.out).2.2 0 (by decide) (by rw [Ny165.out]; simp)
  cases fo38
  refine hK.out _ _ ⟨(blk_cell BK161.out 0).trans rfl, (blk_cell BK161.out 1).trans rfl, (blk_cell BK161.out 2).trans rfl, (blk_cell BK161.out 3).trans rfl, (blk_cell BK161.out 4).trans rfl, (blk_cell BK161.out 5).trans rfl, (blk_cell BK161.out 6).trans rfl, (blk_cell BK161.out 7).trans rfl, (blk_cell BK161.out 8).trans rfl, (blk_cell BK161.out 9).trans rfl⟩ (fun hHeld => ?_)
  clear hK K
  refine norm_ (a' := ?_) ?_ ?_
  rotate_left
  · show Act.put _ (some 15) _ = _
    simp only [Act.put, List.setIfInBounds_toArray, List.set_cons_zero, List.set_cons_succ, i64_w, i32_w]
    rfl
  refine pure_ (i := 3) (N := some 18) (v := ?_) (a' := ?_) #[true, true, true, true, false, false, true, false, false, true, true, true, false, false, true, true, true, false, false, true, true, false, false, false, true, true, false, false, false, true, true, false, false, false, true, true, true, false, false, false, true, true, false, false] rfl rfl (any_of HT_.out (by kernel_rfl)) (fun _ _ _ h => h) (Or.inl ⟨by rfl, ?_⟩) ?_ ?_
  rotate_left
  · intro w'
    go_simp
    with_reducible rfl
  rotate_left
  · simp only [Act.put, List.setIfInBounds_toArray, List.set_cons_zero, List.set_cons_succ, i64_w, i32_w]
    rfl
  exact norm_ (by first | (simp only [putAll, Act.put, List.setIfInBounds_toArray, List.set_cons_zero, List.set_cons_succ]; done) | (simp only [putAll, Act.put, List.setIfInBounds_toArray, List.set_cons_zero, List.set_cons_succ]; rfl)) (hJ0_11_16 (.slice (some ado38) y165.length co38, ado38) _ ⟨hHeld, (by (with_reducible repeat (first | apply Kd.R_alloc | apply Kd.R_drewN | apply Kd.R_drew)); exact HO167.out), ⟨_, rfl⟩, (by (with_reducible repeat (first | refine blk_drewN ?_ _ | refine blk_drew ?_ | refine blk_alloc ?_ _)); exact BK161.out), (by repeat (first | (with_reducible first | exact HB.out | apply below_alloc | apply pw_below_drewN | apply below_drew1 | refine below_set ?_ GE161.out) | exact HB.out))⟩)
  }
  {
  skip
  refine goes_ Tryd.func44 (by kernel_rfl) rfl #[.int .i64 a0_6] (by rfl) rfl rfl (by (try simp only [List.map_toArray, List.map_cons, List.map_nil]); first | done | rfl | (simp only [List.length_drop, List.length_take]; rfl)) ?_
  with_reducible refine (spec_DecText.calls k a0_6 t171 _ A16.out).mono ?_
  rintro e w' ⟨rfl, ⟨nd, rfl⟩⟩
  refine ⟨_, rfl, ?_⟩
  refine hK.out _ _ ⟨(blk_cell BK161.out 0).trans rfl, (blk_cell BK161.out 1).trans rfl, (blk_cell BK161.out 2).trans rfl, (blk_cell BK161.out 3).trans rfl, (blk_cell BK161.out 4).trans rfl, (blk_cell BK161.out 5).trans rfl, (blk_cell BK161.out 6).trans rfl, (blk_cell BK161.out 7).trans rfl, (blk_cell BK161.out 8).trans rfl, (blk_cell BK161.out 9).trans rfl⟩ (fun hHeld => ?_)
  clear hK K
  refine norm_ (a' := ?_) ?_ ?_
  rotate_left
  · show Act.put _ (some 36) _ = _
    simp only [Act.put, List.setIfInBounds_toArray, List.set_cons_zero, List.set_cons_succ, i64_w, i32_w]
    rfl
  exact norm_ (by first | (simp only [putAll, Act.put, List.setIfInBounds_toArray, List.set_cons_zero, List.set_cons_succ]; done) | (simp only [putAll, Act.put, List.setIfInBounds_toArray, List.set_cons_zero, List.set_cons_succ]; rfl)) (hJ11_16_21 () _ ⟨hHeld, (by (with_reducible repeat (first | refine blk_drewN ?_ _ | refine blk_drew ?_ | refine blk_alloc ?_ _)); exact BK161.out), (by repeat (first | (with_reducible first | exact HB.out | apply below_alloc | apply pw_below_drewN | apply below_drew1 | refine below_set ?_ GE161.out) | exact HB.out))⟩)
  }
  }
  }
  {
  skip
  rintro ⟨v166, adz_v166⟩ w38 ⟨hS_, h0_, h1_, h2_, h3_⟩
  have n0_ : Aside0 (Kd.R Kd.string 9 w38 w.heap.size (fun _ => True) v166 y165) := ⟨h0_⟩
  have n1_ : Aside0 (∃ c_, (v166 : Value) = .slice (some adz_v166) y165.length c_) := ⟨h1_⟩
  have n2_ : Aside0 (w38.heap[gb161]? = some (.cells #[.int .i64 a0_0, .string a0_1, .string a0_2, .int .i64 a0_3, .int .i64 a0_4, .int .i64 a0_5, .int .i64 a0_6, .string a0_7, .string a0_8, .string a0_9] 36 (0, 0))) := ⟨h2_⟩
  have n3_ : Aside0 (Below w.heap.size w w38) := ⟨h3_⟩
  clear BK161
  clear HB
  clear h0_ h1_ h2_ h3_
  have HO167 := n0_
  have HA_HO167 := n1_
  have BK161 := n2_
  have HB := n3_
  clear n0_ n1_ n2_ n3_
  have hHeld : w38.cell? ⟨gb161, 0, none⟩ = some (.int .i64 a0_0) ∧ w38.cell? ⟨gb161, 1, none⟩ = some (.string a0_1) ∧ w38.cell? ⟨gb161, 2, none⟩ = some (.string a0_2) ∧ w38.cell? ⟨gb161, 3, none⟩ = some (.int .i64 a0_3) ∧ w38.cell? ⟨gb161, 4, none⟩ = some (.int .i64 a0_4) ∧ w38.cell? ⟨gb161, 5, none⟩ = some (.int .i64 a0_5) ∧ w38.cell? ⟨gb161, 6, none⟩ = some (.int .i64 a0_6) ∧ w38.cell? ⟨gb161, 7, none⟩ = some (.string a0_7) ∧ w38.cell? ⟨gb161, 8, none⟩ = some (.string a0_8) ∧ w38.cell? ⟨gb161, 9, none⟩ = some (.string a0_9) := hS_
  obtain ⟨co39, eo39⟩ := HA_HO167.out
  clear HA_HO167
  subst eo39
  refine norm_ (a' := ?_) ?_ ?_
  rotate_left
  · simp only [putAll, Act.put, List.setIfInBounds_toArray, List.set_cons_zero, List.set_cons_succ]
    rfl
  refine two_ (i := 4) (j := 16) (Ni := some 19) (Nj := some 31) #[true, true, true, true, true, false, true, false, false, true, true, true, false, false, true, true, false, false, false, true, true, false, false, false, true, true, false, false, false, true, true, false, false, false, true, true, true, false, false, false, true, true, false, false] #[true, true, true, true, false, false, true, false, false, true, true, true, false, false, true, true, true, false, false, true, true, false, false, false, true, true, false, false, false, true, true, false, false, false, true, true, true, false, false, false, true, true, false, false] rfl rfl rfl rfl (two_of HT_.out (by kernel_rfl)) (by decide) (by decide) (fun K hK => ?_) (fun K hK => ?_)
  {
  skip
  (have p168 : 0 ≤ (a0_0 : Int) := of_decide_eq_true (by assumption); have q168 : a0_0 < (y165.length : Int) := of_decide_eq_true (by assumption); obtain ⟨ad168, e168, hx168_0⟩ := Kd.at_string (Kd.R_reads' HO167.out).2.2 a0_0 p168 q168; obtain rfl : adz_v166 = ad168 := (by injection e168))
  refine value_ (w1 := ?_) (v := ?_) (by rfl) rfl ?_ ?_
  rotate_left 2
  · go_simp
    constructor
    · rfl
    · rfl
  clear hx168_0
  refine hK.out _ _ ⟨(blk_cell BK161.out 0).trans rfl, (blk_cell BK161.out 1).trans rfl, (blk_cell BK161.out 2).trans rfl, (blk_cell BK161.out 3).trans rfl, (blk_cell BK161.out 4).trans rfl, (blk_cell BK161.out 5).trans rfl, (blk_cell BK161.out 6).trans rfl, (blk_cell BK161.out 7).trans rfl, (blk_cell BK161.out 8).trans rfl, (blk_cell BK161.out 9).trans rfl⟩ (fun hHeld => ?_)
  clear hK K
  refine norm_ (a' := ?_) ?_ ?_
  rotate_left
  · show Act.put _ (some 19) _ = _
    simp only [Act.put, List.setIfInBounds_toArray, List.set_cons_zero, List.set_cons_succ, i64_w, i32_w]
    rfl
  refine pure_ (i := 5) (N := some 20) (v := ?_) (a' := ?_) #[true, true, true, true, true, true, true, false, false, true, true, true, false, false, true, true, false, false, false, true, true, false, false, false, true, true, false, false, false, true, true, false, false, false, true, true, true, false, false, false, true, true, false, false] rfl rfl (any_of HT_.out (by kernel_rfl)) (fun _ _ _ h => h) (Or.inl ⟨by rfl, ?_⟩) ?_ ?_
  rotate_left
  · intro w'
    go_simp
    with_reducible rfl
  rotate_left
  · simp only [Act.put, List.setIfInBounds_toArray, List.set_cons_zero, List.set_cons_succ, i64_w, i32_w]
    rfl
  refine pure_ (i := 7) (N := some 22) (v := ?_) (a' := ?_) #[true, true, true, true, true, true, true, true, false, true, true, true, false, false, true, true, false, false, false, true, true, false, false, false, true, true, false, false, false, true, true, false, false, false, true, true, true, false, false, false, true, true, false, false] rfl rfl (any_of HT_.out (by kernel_rfl)) (fun _ _ _ h => h) (Or.inl ⟨by rfl, ?_⟩) ?_ ?_
  rotate_left
  · intro w'
    go_simp
    with_reducible rfl
  rotate_left
  · simp only [Act.put, List.setIfInBounds_toArray, List.set_cons_zero, List.set_cons_succ, i64_w, i32_w]
    rfl
  refine pure_ (i := 8) (N := some 23) (v := ?_) (a' := ?_) #[true, true, true, true, true, true, true, true, true, true, true, true, false, false, true, true, false, false, false, true, true, false, false, false, true, true, false, false, false, true, true, false, false, false, true, true, true, false, false, false, true, true, false, false] rfl rfl (any_of HT_.out (by kernel_rfl)) (fun _ _ _ h => h) (Or.inl ⟨by rfl, ?_⟩) ?_ ?_
  rotate_left
  · intro w'
    go_simp
    with_reducible rfl
  rotate_left
  · simp only [Act.put, List.setIfInBounds_toArray, List.set_cons_zero, List.set_cons_succ, i64_w, i32_w]
    rfl
  refine pure_ (i := 12) (N := some 27) (v := ?_) (a' := ?_) #[true, true, true, true, true, true, true, true, true, true, true, true, true, false, true, true, false, false, false, true, true, false, false, false, true, true, false, false, false, true, true, false, false, false, true, true, true, false, false, false, true, true, false, false] rfl rfl (any_of HT_.out (by kernel_rfl)) (fun _ _ _ h => h) (Or.inl ⟨by rfl, ?_⟩) ?_ ?_
  rotate_left
  · intro w'
    go_simp
    with_reducible rfl
  rotate_left
  · simp only [Act.put, List.setIfInBounds_toArray, List.set_cons_zero, List.set_cons_succ, i64_w, i32_w]
    rfl
  refine pure_ (i := 13) (N := some 28) (v := ?_) (a' := ?_) #[true, true, true, true, true, true, true, true, true, true, true, true, true, true, true, true, false, false, false, true, true, false, false, false, true, true, false, false, false, true, true, false, false, false, true, true, true, false, false, false, true, true, false, false] rfl rfl (any_of HT_.out (by kernel_rfl)) (fun _ _ _ h => h) (Or.inl ⟨by rfl, ?_⟩) ?_ ?_
  rotate_left
  · intro w'
    go_simp
    with_reducible rfl
  rotate_left
  · simp only [Act.put, List.setIfInBounds_toArray, List.set_cons_zero, List.set_cons_succ, i64_w, i32_w]
    rfl
  exact norm_ (by first | (simp only [putAll, Act.put, List.setIfInBounds_toArray, List.set_cons_zero, List.set_cons_succ]; done) | (simp only [putAll, Act.put, List.setIfInBounds_toArray, List.set_cons_zero, List.set_cons_succ]; rfl)) (hJ0_4_11 (.slice (some adz_v166) y165.length co39, adz_v166) _ ⟨hHeld, (by (with_reducible repeat (first | apply Kd.R_alloc | apply Kd.R_drewN | apply Kd.R_drew)); exact HO167.out), ⟨_, rfl⟩, (by (with_reducible repeat (first | refine blk_drewN ?_ _ | refine blk_drew ?_ | refine blk_alloc ?_ _)); exact BK161.out), (by repeat (first | (with_reducible first | exact HB.out | apply below_alloc | apply pw_below_drewN | apply below_drew1 | refine below_set ?_ GE161.out) | exact HB.out))⟩)
  }
  {
  skip
  refine goes_ Tryd.func44 (by kernel_rfl) rfl #[.int .i64 a0_5] (by rfl) rfl rfl (by (try simp only [List.map_toArray, List.map_cons, List.map_nil]); first | done | rfl | (simp only [List.length_drop, List.length_take]; rfl)) ?_
  with_reducible refine (spec_DecText.calls k a0_5 t170 _ A13.out).mono ?_
  rintro e w' ⟨rfl, ⟨nd, rfl⟩⟩
  refine ⟨_, rfl, ?_⟩
  refine hK.out _ _ ⟨(blk_cell BK161.out 0).trans rfl, (blk_cell BK161.out 1).trans rfl, (blk_cell BK161.out 2).trans rfl, (blk_cell BK161.out 3).trans rfl, (blk_cell BK161.out 4).trans rfl, (blk_cell BK161.out 5).trans rfl, (blk_cell BK161.out 6).trans rfl, (blk_cell BK161.out 7).trans rfl, (blk_cell BK161.out 8).trans rfl, (blk_cell BK161.out 9).trans rfl⟩ (fun hHeld => ?_)
  clear hK K
  refine norm_ (a' := ?_) ?_ ?_
  rotate_left
  · show Act.put _ (some 31) _ = _
    simp only [Act.put, List.setIfInBounds_toArray, List.set_cons_zero, List.set_cons_succ, i64_w, i32_w]
    rfl
  exact norm_ (by first | (simp only [putAll, Act.put, List.setIfInBounds_toArray, List.set_cons_zero, List.set_cons_succ]; done) | (simp only [putAll, Act.put, List.setIfInBounds_toArray, List.set_cons_zero, List.set_cons_succ]; rfl)) (hJ0_11_16 (.slice (some adz_v166) y165.length co39, adz_v166) _ ⟨hHeld, (by (with_reducible repeat (first | apply Kd.R_alloc | apply Kd.R_drewN | apply Kd.R_drew)); exact HO167.out), ⟨_, rfl⟩, (by (with_reducible repeat (first | refine blk_drewN ?_ _ | refine blk_drew ?_ | refine blk_alloc ?_ _)); exact BK161.out), (by repeat (first | (with_reducible first | exact HB.out | apply below_alloc | apply pw_below_drewN | apply below_drew1 | refine below_set ?_ GE161.out) | exact HB.out))⟩)
  }
  }
  }
  {
  skip
  rintro ⟨v166, adz_v166⟩ w38 ⟨hS_, h0_, h1_, h2_, h3_⟩
  have n0_ : Aside0 (Kd.R Kd.string 9 w38 w.heap.size (fun _ => True) v166 y165) := ⟨h0_⟩
  have n1_ : Aside0 (∃ c_, (v166 : Value) = .slice (some adz_v166) y165.length c_) := ⟨h1_⟩
  have n2_ : Aside0 (w38.heap[gb161]? = some (.cells #[.int .i64 a0_0, .string a0_1, .string a0_2, .int .i64 a0_3, .int .i64 a0_4, .int .i64 a0_5, .int .i64 a0_6, .string a0_7, .string a0_8, .string a0_9] 36 (0, 0))) := ⟨h2_⟩
  have n3_ : Aside0 (Below w.heap.size w w38) := ⟨h3_⟩
  clear BK161
  clear HB
  clear h0_ h1_ h2_ h3_
  have HO167 := n0_
  have HA_HO167 := n1_
  have BK161 := n2_
  have HB := n3_
  clear n0_ n1_ n2_ n3_
  have hHeld : w38.cell? ⟨gb161, 0, none⟩ = some (.int .i64 a0_0) ∧ w38.cell? ⟨gb161, 1, none⟩ = some (.string a0_1) ∧ w38.cell? ⟨gb161, 2, none⟩ = some (.string a0_2) ∧ w38.cell? ⟨gb161, 3, none⟩ = some (.int .i64 a0_3) ∧ w38.cell? ⟨gb161, 4, none⟩ = some (.int .i64 a0_4) ∧ w38.cell? ⟨gb161, 5, none⟩ = some (.int .i64 a0_5) ∧ w38.cell? ⟨gb161, 6, none⟩ = some (.int .i64 a0_6) ∧ w38.cell? ⟨gb161, 7, none⟩ = some (.string a0_7) ∧ w38.cell? ⟨gb161, 8, none⟩ = some (.string a0_8) ∧ w38.cell? ⟨gb161, 9, none⟩ = some (.string a0_9) := hS_
  obtain ⟨co39, eo39⟩ := HA_HO167.out
  clear HA_HO167
  subst eo39
  refine norm_ (a' := ?_) ?_ ?_
  rotate_left
  · simp only [putAll, Act.put, List.setIfInBounds_toArray, List.set_cons_zero, List.set_cons_succ]
    rfl
  refine one_ (i := 11) (N := some 26) #[true, true, true, true, true, true, true, true, true, true, true, true, false, false, true, true, false, false, false, true, true, false, false, false, true, true, false, false, false, true, true, false, false, false, true, true, true, false, false, false, true, true, false, false] rfl rfl (one_of HT_.out (by kernel_rfl)) (by decide) (fun K hK => ?_)
  refine goes_ Tryd.func44 (by kernel_rfl) rfl #[.int .i64 a0_4] (by rfl) rfl rfl (by (try simp only [List.map_toArray, List.map_cons, List.map_nil]); first | done | rfl | (simp only [List.length_drop, List.length_take]; rfl)) ?_
  with_reducible refine (spec_DecText.calls k a0_4 t169 _ A10.out).mono ?_
  rintro e w' ⟨rfl, ⟨nd, rfl⟩⟩
  refine ⟨_, rfl, ?_⟩
  refine hK.out _ _ ⟨(blk_cell BK161.out 0).trans rfl, (blk_cell BK161.out 1).trans rfl, (blk_cell BK161.out 2).trans rfl, (blk_cell BK161.out 3).trans rfl, (blk_cell BK161.out 4).trans rfl, (blk_cell BK161.out 5).trans rfl, (blk_cell BK161.out 6).trans rfl, (blk_cell BK161.out 7).trans rfl, (blk_cell BK161.out 8).trans rfl, (blk_cell BK161.out 9).trans rfl⟩ (fun hHeld => ?_)
  clear hK K
  refine norm_ (a' := ?_) ?_ ?_
  rotate_left
  · show Act.put _ (some 26) _ = _
    simp only [Act.put, List.setIfInBounds_toArray, List.set_cons_zero, List.set_cons_succ, i64_w, i32_w]
    rfl
  refine pure_ (i := 12) (N := some 27) (v := ?_) (a' := ?_) #[true, true, true, true, true, true, true, true, true, true, true, true, true, false, true, true, false, false, false, true, true, false, false, false, true, true, false, false, false, true, true, false, false, false, true, true, true, false, false, false, true, true, false, false] rfl rfl (any_of HT_.out (by kernel_rfl)) (fun _ _ _ h => h) (Or.inl ⟨by rfl, ?_⟩) ?_ ?_
  rotate_left
  · intro w'
    go_simp
    with_reducible rfl
  rotate_left
  · simp only [Act.put, List.setIfInBounds_toArray, List.set_cons_zero, List.set_cons_succ, i64_w, i32_w]
    rfl
  refine pure_ (i := 13) (N := some 28) (v := ?_) (a' := ?_) #[true, true, true, true, true, true, true, true, true, true, true, true, true, true, true, true, false, false, false, true, true, false, false, false, true, true, false, false, false, true, true, false, false, false, true, true, true, false, false, false, true, true, false, false] rfl rfl (any_of HT_.out (by kernel_rfl)) (fun _ _ _ h => h) (Or.inl ⟨by rfl, ?_⟩) ?_ ?_
  rotate_left
  · intro w'
    go_simp
    with_reducible rfl
  rotate_left
  · simp only [Act.put, List.setIfInBounds_toArray, List.set_cons_zero, List.set_cons_succ, i64_w, i32_w]
    rfl
  exact norm_ (by first | (simp only [putAll, Act.put, List.setIfInBounds_toArray, List.set_cons_zero, List.set_cons_succ]; done) | (simp only [putAll, Act.put, List.setIfInBounds_toArray, List.set_cons_zero, List.set_cons_succ]; rfl)) (hJ0_4_11 (.slice (some adz_v166) y165.length co39, adz_v166) _ ⟨hHeld, (by (with_reducible repeat (first | apply Kd.R_alloc | apply Kd.R_drewN | apply Kd.R_drew)); exact HO167.out), ⟨_, rfl⟩, (by (with_reducible repeat (first | refine blk_drewN ?_ _ | refine blk_drew ?_ | refine blk_alloc ?_ _)); exact BK161.out), (by repeat (first | (with_reducible first | exact HB.out | apply below_alloc | apply pw_below_drewN | apply below_drew1 | refine below_set ?_ GE161.out) | exact HB.out))⟩)
  }
  }
  {
  skip
  rintro _ w35 ⟨hS_, h0_, h1_⟩
  have n0_ : Aside0 (w35.heap[gb161]? = some (.cells #[.int .i64 a0_0, .string a0_1, .string a0_2, .int .i64 a0_3, .int .i64 a0_4, .int .i64 a0_5, .int .i64 a0_6, .string a0_7, .string a0_8, .string a0_9] 36 (0, 0))) := ⟨h0_⟩
  have n1_ : Aside0 (Below w.heap.size w w35) := ⟨h1_⟩
  clear BK161
  clear HB
  clear h0_ h1_
  have BK161 := n0_
  have HB := n1_
  clear n0_ n1_
  have hHeld : w35.cell? ⟨gb161, 0, none⟩ = some (.int .i64 a0_0) ∧ w35.cell? ⟨gb161, 1, none⟩ = some (.string a0_1) ∧ w35.cell? ⟨gb161, 2, none⟩ = some (.string a0_2) ∧ w35.cell? ⟨gb161, 3, none⟩ = some (.int .i64 a0_3) ∧ w35.cell? ⟨gb161, 4, none⟩ = some (.int .i64 a0_4) ∧ w35.cell? ⟨gb161, 5, none⟩ = some (.int .i64 a0_5) ∧ w35.cell? ⟨gb161, 6, none⟩ = some (.int .i64 a0_6) ∧ w35.cell? ⟨gb161, 7, none⟩ = some (.string a0_7) ∧ w35.cell? ⟨gb161, 8, none⟩ = some (.string a0_8) ∧ w35.cell? ⟨gb161, 9, none⟩ = some (.string a0_9) := hS_
  refine norm_ (a' := ?_) ?_ ?_
  rotate_left
  · simp only [putAll, Act.put, List.setIfInBounds_toArray, List.set_cons_zero, List.set_cons_succ]
    rfl
  refine two_ (i := 0) (j := 26) (Ni := some 15) (Nj := some 41) #[true, true, true, false, false, false, true, false, false, true, true, true, false, false, true, true, true, false, false, true, true, true, false, false, true, true, false, false, false, true, true, false, false, false, true, true, true, false, false, false, true, true, false, false] #[false, true, true, false, false, false, true, false, false, true, true, true, false, false, true, true, true, false, false, true, true, true, false, false, true, true, true, false, false, true, true, false, false, false, true, true, true, false, false, false, true, true, false, false] rfl rfl rfl rfl (two_of HT_.out (by kernel_rfl)) (by decide) (by decide) (fun K hK => ?_) (fun K hK => ?_)
  {
  skip
  refine Kd.R_lit_step Kd.string _ 9 ?hg (N := 15) ?hd (xs := ([(⟨#[102]⟩ : ByteArray), (⟨#[100]⟩ : ByteArray), (⟨#[108]⟩ : ByteArray), (⟨#[104]⟩ : ByteArray)] : List ByteArray)) (inner := [.string (⟨#[102]⟩ : ByteArray), .string (⟨#[100]⟩ : ByteArray), .string (⟨#[108]⟩ : ByteArray), .string (⟨#[104]⟩ : ByteArray)]) (ok := fun _ => True) (okp := fun _ => True) ?hr ?hp (fun _ hk => hk) trivial (Below.refl _ _) (Nat.le_refl _) (by simp) ?_; (case hd => rfl); (case hg => rfl); (case hr => first | (go_simp; done) | (go_simp; rfl)); (case hp => exact (Reps.one (show Kd.M Kd.string _ _ _ (⟨#[102]⟩ : ByteArray) [.string (⟨#[102]⟩ : ByteArray)] from rfl) (Reps.one (show Kd.M Kd.string _ _ _ (⟨#[100]⟩ : ByteArray) [.string (⟨#[100]⟩ : ByteArray)] from rfl) (Reps.one (show Kd.M Kd.string _ _ _ (⟨#[108]⟩ : ByteArray) [.string (⟨#[108]⟩ : ByteArray)] from rfl) (Reps.one (show Kd.M Kd.string _ _ _ (⟨#[104]⟩ : ByteArray) [.string (⟨#[104]⟩ : ByteArray)] from rfl) (Reps.none _ _))))))
  intro v166 w36 ho37 hb hg_ hnew_
  clear hg_ hnew_
  (first | rw [← Ny165.out] at ho37 | (simp only [Int.reduceToNat] at ho37; rw [← Ny165.out] at ho37))
  have n0_ := Aside0.mk (Kd.R_lower ho37 (below_size (by repeat (first | (with_reducible first | exact HB.out | apply below_alloc | apply pw_below_drewN | apply below_drew1 | refine below_set ?_ GE161.out) | exact HB.out))))
  have n1_ := Aside0.mk (blk_below (g := gb161) (o := .cells #[.int .i64 a0_0, .string a0_1, .string a0_2, .int .i64 a0_3, .int .i64 a0_4, .int .i64 a0_5, .int .i64 a0_6, .string a0_7, .string a0_8, .string a0_9] 36 (0, 0)) (by (with_reducible repeat (first | refine blk_drewN ?_ _ | refine blk_drew ?_ | refine blk_alloc ?_ _)); exact BK161.out) hb)
  have n2_ := Aside0.mk (below_step (by repeat (first | (with_reducible first | exact HB.out | apply below_alloc | apply pw_below_drewN | apply below_drew1 | refine below_set ?_ GE161.out) | exact HB.out)) hb)
  clear BK161
  clear HB
  have HO167 := n0_
  have BK161 := n1_
  have HB := n2_
  clear n0_ n1_ n2_
  clear hb ho37
  obtain ⟨Ao38, co38, eo38⟩ := Kd.R_slice HO167.out
  subst eo38
  obtain ⟨ado38, fo38, _⟩ := Kd.at_string (Kd.R_reads' HO167.out).2.2 0 (by decide) (by rw [Ny165.out]; simp)
  cases fo38
  refine hK.out _ _ ⟨(blk_cell BK161.out 0).trans rfl, (blk_cell BK161.out 1).trans rfl, (blk_cell BK161.out 2).trans rfl, (blk_cell BK161.out 3).trans rfl, (blk_cell BK161.out 4).trans rfl, (blk_cell BK161.out 5).trans rfl, (blk_cell BK161.out 6).trans rfl, (blk_cell BK161.out 7).trans rfl, (blk_cell BK161.out 8).trans rfl, (blk_cell BK161.out 9).trans rfl⟩ (fun hHeld => ?_)
  clear hK K
  refine norm_ (a' := ?_) ?_ ?_
  rotate_left
  · show Act.put _ (some 15) _ = _
    simp only [Act.put, List.setIfInBounds_toArray, List.set_cons_zero, List.set_cons_succ, i64_w, i32_w]
    rfl
  refine pure_ (i := 3) (N := some 18) (v := ?_) (a' := ?_) #[true, true, true, true, false, false, true, false, false, true, true, true, false, false, true, true, true, false, false, true, true, true, false, false, true, true, false, false, false, true, true, false, false, false, true, true, true, false, false, false, true, true, false, false] rfl rfl (any_of HT_.out (by kernel_rfl)) (fun _ _ _ h => h) (Or.inl ⟨by rfl, ?_⟩) ?_ ?_
  rotate_left
  · intro w'
    go_simp
    with_reducible rfl
  rotate_left
  · simp only [Act.put, List.setIfInBounds_toArray, List.set_cons_zero, List.set_cons_succ, i64_w, i32_w]
    rfl
  exact norm_ (by first | (simp only [putAll, Act.put, List.setIfInBounds_toArray, List.set_cons_zero, List.set_cons_succ]; done) | (simp only [putAll, Act.put, List.setIfInBounds_toArray, List.set_cons_zero, List.set_cons_succ]; rfl)) (hJ0_11_16_21 (.slice (some ado38) y165.length co38, ado38) _ ⟨hHeld, (by (with_reducible repeat (first | apply Kd.R_alloc | apply Kd.R_drewN | apply Kd.R_drew)); exact HO167.out), ⟨_, rfl⟩, (by (with_reducible repeat (first | refine blk_drewN ?_ _ | refine blk_drew ?_ | refine blk_alloc ?_ _)); exact BK161.out), (by repeat (first | (with_reducible first | exact HB.out | apply below_alloc | apply pw_below_drewN | apply below_drew1 | refine below_set ?_ GE161.out) | exact HB.out))⟩)
  }
  {
  skip
  refine goes_ Tryd.func45 (by kernel_rfl) rfl #[.string a0_7] (by rfl) rfl rfl (by (try simp only [List.map_toArray, List.map_cons, List.map_nil]); first | done | rfl | (simp only [List.length_drop, List.length_take]; rfl)) ?_
  with_reducible refine (spec_l03Or.calls a0_7 t172 _ A19.out).mono ?_
  rintro e w' ⟨rfl, ⟨nd, rfl⟩⟩
  refine ⟨_, rfl, ?_⟩
  refine hK.out _ _ ⟨(blk_cell BK161.out 0).trans rfl, (blk_cell BK161.out 1).trans rfl, (blk_cell BK161.out 2).trans rfl, (blk_cell BK161.out 3).trans rfl, (blk_cell BK161.out 4).trans rfl, (blk_cell BK161.out 5).trans rfl, (blk_cell BK161.out 6).trans rfl, (blk_cell BK161.out 7).trans rfl, (blk_cell BK161.out 8).trans rfl, (blk_cell BK161.out 9).trans rfl⟩ (fun hHeld => ?_)
  clear hK K
  refine norm_ (a' := ?_) ?_ ?_
  rotate_left
  · show Act.put _ (some 41) _ = _
    simp only [Act.put, List.setIfInBounds_toArray, List.set_cons_zero, List.set_cons_succ, i64_w, i32_w]
    rfl
  exact norm_ (by first | (simp only [putAll, Act.put, List.setIfInBounds_toArray, List.set_cons_zero, List.set_cons_succ]; done) | (simp only [putAll, Act.put, List.setIfInBounds_toArray, List.set_cons_zero, List.set_cons_succ]; rfl)) (hJ11_16_21_26 () _ ⟨hHeld, (by (with_reducible repeat (first | refine blk_drewN ?_ _ | refine blk_drew ?_ | refine blk_alloc ?_ _)); exact BK161.out), (by repeat (first | (with_reducible first | exact HB.out | apply below_alloc | apply pw_below_drewN | apply below_drew1 | refine below_set ?_ GE161.out) | exact HB.out))⟩)
  }
  }
  }
  {
  skip
  rintro ⟨v166, adz_v166⟩ w38 ⟨hS_, h0_, h1_, h2_, h3_⟩
  have n0_ : Aside0 (Kd.R Kd.string 9 w38 w.heap.size (fun _ => True) v166 y165) := ⟨h0_⟩
  have n1_ : Aside0 (∃ c_, (v166 : Value) = .slice (some adz_v166) y165.length c_) := ⟨h1_⟩
  have n2_ : Aside0 (w38.heap[gb161]? = some (.cells #[.int .i64 a0_0, .string a0_1, .string a0_2, .int .i64 a0_3, .int .i64 a0_4, .int .i64 a0_5, .int .i64 a0_6, .string a0_7, .string a0_8, .string a0_9] 36 (0, 0))) := ⟨h2_⟩
  have n3_ : Aside0 (Below w.heap.size w w38) := ⟨h3_⟩
  clear BK161
  clear HB
  clear h0_ h1_ h2_ h3_
  have HO167 := n0_
  have HA_HO167 := n1_
  have BK161 := n2_
  have HB := n3_
  clear n0_ n1_ n2_ n3_
  have hHeld : w38.cell? ⟨gb161, 0, none⟩ = some (.int .i64 a0_0) ∧ w38.cell? ⟨gb161, 1, none⟩ = some (.string a0_1) ∧ w38.cell? ⟨gb161, 2, none⟩ = some (.string a0_2) ∧ w38.cell? ⟨gb161, 3, none⟩ = some (.int .i64 a0_3) ∧ w38.cell? ⟨gb161, 4, none⟩ = some (.int .i64 a0_4) ∧ w38.cell? ⟨gb161, 5, none⟩ = some (.int .i64 a0_5) ∧ w38.cell? ⟨gb161, 6, none⟩ = some (.int .i64 a0_6) ∧ w38.cell? ⟨gb161, 7, none⟩ = some (.string a0_7) ∧ w38.cell? ⟨gb161, 8, none⟩ = some (.string a0_8) ∧ w38.cell? ⟨gb161, 9, none⟩ = some (.string a0_9) := hS_
  obtain ⟨co39, eo39⟩ := HA_HO167.out
  clear HA_HO167
  subst eo39
  refine norm_ (a' := ?_) ?_ ?_
  rotate_left
  · simp only [putAll, Act.put, List.setIfInBounds_toArray, List.set_cons_zero, List.set_cons_succ]
    rfl
  refine two_ (i := 4) (j := 21) (Ni := some 19) (Nj := some 36) #[true, true, true, true, true, false, true, false, false, true, true, true, false, false, true, true, true, false, false, true, true, false, false, false, true, true, false, false, false, true, true, false, false, false, true, true, true, false, false, false, true, true, false, false] #[true, true, true, true, false, false, true, false, false, true, true, true, false, false, true, true, true, false, false, true, true, true, false, false, true, true, false, false, false, true, true, false, false, false, true, true, true, false, false, false, true, true, false, false] rfl rfl rfl rfl (two_of HT_.out (by kernel_rfl)) (by decide) (by decide) (fun K hK => ?_) (fun K hK => ?_)
  {
  skip
  (have p168 : 0 ≤ (a0_0 : Int) := of_decide_eq_true (by assumption); have q168 : a0_0 < (y165.length : Int) := of_decide_eq_true (by assumption); obtain ⟨ad168, e168, hx168_0⟩ := Kd.at_string (Kd.R_reads' HO167.out).2.2 a0_0 p168 q168; obtain rfl : adz_v166 = ad168 := (by injection e168))
  refine value_ (w1 := ?_) (v := ?_) (by rfl) rfl ?_ ?_
  rotate_left 2
  · go_simp
    constructor
    · rfl
    · rfl
  clear hx168_0
  refine hK.out _ _ ⟨(blk_cell BK161.out 0).trans rfl, (blk_cell BK161.out 1).trans rfl, (blk_cell BK161.out 2).trans rfl, (blk_cell BK161.out 3).trans rfl, (blk_cell BK161.out 4).trans rfl, (blk_cell BK161.out 5).trans rfl, (blk_cell BK161.out 6).trans rfl, (blk_cell BK161.out 7).trans rfl, (blk_cell BK161.out 8).trans rfl, (blk_cell BK161.out 9).trans rfl⟩ (fun hHeld => ?_)
  clear hK K
  refine norm_ (a' := ?_) ?_ ?_
  rotate_left
  · show Act.put _ (some 19) _ = _
    simp only [Act.put, List.setIfInBounds_toArray, List.set_cons_zero, List.set_cons_succ, i64_w, i32_w]
    rfl
  refine pure_ (i := 5) (N := some 20) (v := ?_) (a' := ?_) #[true, true, true, true, true, true, true, false, false, true, true, true, false, false, true, true, true, false, false, true, true, false, false, false, true, true, false, false, false, true, true, false, false, false, true, true, true, false, false, false, true, true, false, false] rfl rfl (any_of HT_.out (by kernel_rfl)) (fun _ _ _ h => h) (Or.inl ⟨by rfl, ?_⟩) ?_ ?_
  rotate_left
  · intro w'
    go_simp
    with_reducible rfl
  rotate_left
  · simp only [Act.put, List.setIfInBounds_toArray, List.set_cons_zero, List.set_cons_succ, i64_w, i32_w]
    rfl
  refine pure_ (i := 7) (N := some 22) (v := ?_) (a' := ?_) #[true, true, true, true, true, true, true, true, false, true, true, true, false, false, true, true, true, false, false, true, true, false, false, false, true, true, false, false, false, true, true, false, false, false, true, true, true, false, false, false, true, true, false, false] rfl rfl (any_of HT_.out (by kernel_rfl)) (fun _ _ _ h => h) (Or.inl ⟨by rfl, ?_⟩) ?_ ?_
  rotate_left
  · intro w'
    go_simp
    with_reducible rfl
  rotate_left
  · simp only [Act.put, List.setIfInBounds_toArray, List.set_cons_zero, List.set_cons_succ, i64_w, i32_w]
    rfl
  refine pure_ (i := 8) (N := some 23) (v := ?_) (a' := ?_) #[true, true, true, true, true, true, true, true, true, true, true, true, false, false, true, true, true, false, false, true, true, false, false, false, true, true, false, false, false, true, true, false, false, false, true, true, true, false, false, false, true, true, false, false] rfl rfl (any_of HT_.out (by kernel_rfl)) (fun _ _ _ h => h) (Or.inl ⟨by rfl, ?_⟩) ?_ ?_
  rotate_left
  · intro w'
    go_simp
    with_reducible rfl
  rotate_left
  · simp only [Act.put, List.setIfInBounds_toArray, List.set_cons_zero, List.set_cons_succ, i64_w, i32_w]
    rfl
  refine pure_ (i := 12) (N := some 27) (v := ?_) (a' := ?_) #[true, true, true, true, true, true, true, true, true, true, true, true, true, false, true, true, true, false, false, true, true, false, false, false, true, true, false, false, false, true, true, false, false, false, true, true, true, false, false, false, true, true, false, false] rfl rfl (any_of HT_.out (by kernel_rfl)) (fun _ _ _ h => h) (Or.inl ⟨by rfl, ?_⟩) ?_ ?_
  rotate_left
  · intro w'
    go_simp
    with_reducible rfl
  rotate_left
  · simp only [Act.put, List.setIfInBounds_toArray, List.set_cons_zero, List.set_cons_succ, i64_w, i32_w]
    rfl
  refine pure_ (i := 13) (N := some 28) (v := ?_) (a' := ?_) #[true, true, true, true, true, true, true, true, true, true, true, true, true, true, true, true, true, false, false, true, true, false, false, false, true, true, false, false, false, true, true, false, false, false, true, true, true, false, false, false, true, true, false, false] rfl rfl (any_of HT_.out (by kernel_rfl)) (fun _ _ _ h => h) (Or.inl ⟨by rfl, ?_⟩) ?_ ?_
  rotate_left
  · intro w'
    go_simp
    with_reducible rfl
  rotate_left
  · simp only [Act.put, List.setIfInBounds_toArray, List.set_cons_zero, List.set_cons_succ, i64_w, i32_w]
    rfl
  refine pure_ (i := 17) (N := some 32) (v := ?_) (a' := ?_) #[true, true, true, true, true, true, true, true, true, true, true, true, true, true, true, true, true, true, false, true, true, false, false, false, true, true, false, false, false, true, true, false, false, false, true, true, true, false, false, false, true, true, false, false] rfl rfl (any_of HT_.out (by kernel_rfl)) (fun _ _ _ h => h) (Or.inl ⟨by rfl, ?_⟩) ?_ ?_
  rotate_left
  · intro w'
    go_simp
    with_reducible rfl
  rotate_left
  · simp only [Act.put, List.setIfInBounds_toArray, List.set_cons_zero, List.set_cons_succ, i64_w, i32_w]
    rfl
  refine pure_ (i := 18) (N := some 33) (v := ?_) (a' := ?_) #[true, true, true, true, true, true, true, true, true, true, true, true, true, true, true, true, true, true, true, true, true, false, false, false, true, true, false, false, false, true, true, false, false, false, true, true, true, false, false, false, true, true, false, false] rfl rfl (any_of HT_.out (by kernel_rfl)) (fun _ _ _ h => h) (Or.inl ⟨by rfl, ?_⟩) ?_ ?_
  rotate_left
  · intro w'
    go_simp
    with_reducible rfl
  rotate_left
  · simp only [Act.put, List.setIfInBounds_toArray, List.set_cons_zero, List.set_cons_succ, i64_w, i32_w]
    rfl
  exact norm_ (by first | (simp only [putAll, Act.put, List.setIfInBounds_toArray, List.set_cons_zero, List.set_cons_succ]; done) | (simp only [putAll, Act.put, List.setIfInBounds_toArray, List.set_cons_zero, List.set_cons_succ]; rfl)) (hJ0_4_11_16 (.slice (some adz_v166) y165.length co39, adz_v166) _ ⟨hHeld, (by (with_reducible repeat (first | apply Kd.R_alloc | apply Kd.R_drewN | apply Kd.R_drew)); exact HO167.out), ⟨_, rfl⟩, (by (with_reducible repeat (first | refine blk_drewN ?_ _ | refine blk_drew ?_ | refine blk_alloc ?_ _)); exact BK161.out), (by repeat (first | (with_reducible first | exact HB.out | apply below_alloc | apply pw_below_drewN | apply below_drew1 | refine below_set ?_ GE161.out) | exact HB.out))⟩)
  }
  {
  skip
  refine goes_ Tryd.func44 (by kernel_rfl) rfl #[.int .i64 a0_6] (by rfl) rfl rfl (by (try simp only [List.map_toArray, List.map_cons, List.map_nil]); first | done | rfl | (simp only [List.length_drop, List.length_take]; rfl)) ?_
  with_reducible refine (spec_DecText.calls k a0_6 t171 _ A16.out).mono ?_
  rintro e w' ⟨rfl, ⟨nd, rfl⟩⟩
  refine ⟨_, rfl, ?_⟩
  refine hK.out _ _ ⟨(blk_cell BK161.out 0).trans rfl, (blk_cell BK161.out 1).trans rfl, (blk_cell BK161.out 2).trans rfl, (blk_cell BK161.out 3).trans rfl, (blk_cell BK161.out 4).trans rfl, (blk_cell BK161.out 5).trans rfl, (blk_cell BK161.out 6).trans rfl, (blk_cell BK161.out 7).trans rfl, (blk_cell BK161.out 8).trans rfl, (blk_cell BK161.out 9).trans rfl⟩ (fun hHeld => ?_)
  clear hK K
  refine norm_ (a' := ?_) ?_ ?_
  rotate_left
  · show Act.put _ (some 36) _ = _
    simp only [Act.put, List.setIfInBounds_toArray, List.set_cons_zero, List.set_cons_succ, i64_w, i32_w]
    rfl
  exact norm_ (by first | (simp only [putAll, Act.put, List.setIfInBounds_toArray, List.set_cons_zero, List.set_cons_succ]; done) | (simp only [putAll, Act.put, List.setIfInBounds_toArray, List.set_cons_zero, List.set_cons_succ]; rfl)) (hJ0_11_16_21 (.slice (some adz_v166) y165.length co39, adz_v166) _ ⟨hHeld, (by (with_reducible repeat (first | apply Kd.R_alloc | apply Kd.R_drewN | apply Kd.R_drew)); exact HO167.out), ⟨_, rfl⟩, (by (with_reducible repeat (first | refine blk_drewN ?_ _ | refine blk_drew ?_ | refine blk_alloc ?_ _)); exact BK161.out), (by repeat (first | (with_reducible first | exact HB.out | apply below_alloc | apply pw_below_drewN | apply below_drew1 | refine below_set ?_ GE161.out) | exact HB.out))⟩)
  }
  }
  }
  {
  skip
  rintro ⟨v166, adz_v166⟩ w38 ⟨hS_, h0_, h1_, h2_, h3_⟩
  have n0_ : Aside0 (Kd.R Kd.string 9 w38 w.heap.size (fun _ => True) v166 y165) := ⟨h0_⟩
  have n1_ : Aside0 (∃ c_, (v166 : Value) = .slice (some adz_v166) y165.length c_) := ⟨h1_⟩
  have n2_ : Aside0 (w38.heap[gb161]? = some (.cells #[.int .i64 a0_0, .string a0_1, .string a0_2, .int .i64 a0_3, .int .i64 a0_4, .int .i64 a0_5, .int .i64 a0_6, .string a0_7, .string a0_8, .string a0_9] 36 (0, 0))) := ⟨h2_⟩
  have n3_ : Aside0 (Below w.heap.size w w38) := ⟨h3_⟩
  clear BK161
  clear HB
  clear h0_ h1_ h2_ h3_
  have HO167 := n0_
  have HA_HO167 := n1_
  have BK161 := n2_
  have HB := n3_
  clear n0_ n1_ n2_ n3_
  have hHeld : w38.cell? ⟨gb161, 0, none⟩ = some (.int .i64 a0_0) ∧ w38.cell? ⟨gb161, 1, none⟩ = some (.string a0_1) ∧ w38.cell? ⟨gb161, 2, none⟩ = some (.string a0_2) ∧ w38.cell? ⟨gb161, 3, none⟩ = some (.int .i64 a0_3) ∧ w38.cell? ⟨gb161, 4, none⟩ = some (.int .i64 a0_4) ∧ w38.cell? ⟨gb161, 5, none⟩ = some (.int .i64 a0_5) ∧ w38.cell? ⟨gb161, 6, none⟩ = some (.int .i64 a0_6) ∧ w38.cell? ⟨gb161, 7, none⟩ = some (.string a0_7) ∧ w38.cell? ⟨gb161, 8, none⟩ = some (.string a0_8) ∧ w38.cell? ⟨gb161, 9, none⟩ = some (.string a0_9) := hS_
  obtain ⟨co39, eo39⟩ := HA_HO167.out
  clear HA_HO167
  subst eo39
  refine norm_ (a' := ?_) ?_ ?_
  rotate_left
  · simp only [putAll, Act.put, List.setIfInBounds_toArray, List.set_cons_zero, List.set_cons_succ]
    rfl
  refine one_ (i := 16) (N := some 31) #[true, true, true, true, true, true, true, true, true, true, true, true, true, true, true, true, true, false, false, true, true, false, false, false, true, true, false, false, false, true, true, false, false, false, true, true, true, false, false, false, true, true, false, false] rfl rfl (one_of HT_.out (by kernel_rfl)) (by decide) (fun K hK => ?_)
  refine goes_ Tryd.func44 (by kernel_rfl) rfl #[.int .i64 a0_5] (by rfl) rfl rfl (by (try simp only [List.map_toArray, List.map_cons, List.map_nil]); first | done | rfl | (simp only [List.length_drop, List.length_take]; rfl)) ?_
  with_reducible refine (spec_DecText.calls k a0_5 t170 _ A13.out).mono ?_
  rintro e w' ⟨rfl, ⟨nd, rfl⟩⟩
  refine ⟨_, rfl, ?_⟩
  refine hK.out _ _ ⟨(blk_cell BK161.out 0).trans rfl, (blk_cell BK161.out 1).trans rfl, (blk_cell BK161.out 2).trans rfl, (blk_cell BK161.out 3).trans rfl, (blk_cell BK161.out 4).trans rfl, (blk_cell BK161.out 5).trans rfl, (blk_cell BK161.out 6).trans rfl, (blk_cell BK161.out 7).trans rfl, (blk_cell BK161.out 8).trans rfl, (blk_cell BK161.out 9).trans rfl⟩ (fun hHeld => ?_)
  clear hK K
  refine norm_ (a' := ?_) ?_ ?_
  rotate_left
  · show Act.put _ (some 31) _ = _
    simp only [Act.put, List.setIfInBounds_toArray, List.set_cons_zero, List.set_cons_succ, i64_w, i32_w]
    rfl
  refine pure_ (i := 17) (N := some 32) (v := ?_) (a' := ?_) #[true, true, true, true, true, true, true, true, true, true, true, true, true, true, true, true, true, true, false, true, true, false, false, false, true, true, false, false, false, true, true, false, false, false, true, true, true, false, false, false, true, true, false, false] rfl rfl (any_of HT_.out (by kernel_rfl)) (fun _ _ _ h => h) (Or.inl ⟨by rfl, ?_⟩) ?_ ?_
  rotate_left
  · intro w'
    go_simp
    with_reducible rfl
  rotate_left
  · simp only [Act.put, List.setIfInBounds_toArray, List.set_cons_zero, List.set_cons_succ, i64_w, i32_w]
    rfl
  refine pure_ (i := 18) (N := some 33) (v := ?_) (a' := ?_) #[true, true, true, true, true, true, true, true, true, true, true, true, true, true, true, true, true, true, true, true, true, false, false, false, true, true, false, false, false, true, true, false, false, false, true, true, true, false, false, false, true, true, false, false] rfl rfl (any_of HT_.out (by kernel_rfl)) (fun _ _ _ h => h) (Or.inl ⟨by rfl, ?_⟩) ?_ ?_
  rotate_left
  · intro w'
    go_simp
    with_reducible rfl
  rotate_left
  · simp only [Act.put, List.setIfInBounds_toArray, List.set_cons_zero, List.set_cons_succ, i64_w, i32_w]
    rfl
  exact norm_ (by first | (simp only [putAll, Act.put, List.setIfInBounds_toArray, List.set_cons_zero, List.set_cons_succ]; done) | (simp only [putAll, Act.put, List.setIfInBounds_toArray, List.set_cons_zero, List.set_cons_succ]; rfl)) (hJ0_4_11_16 (.slice (some adz_v166) y165.length co39, adz_v166) _ ⟨hHeld, (by (with_reducible repeat (first | apply Kd.R_alloc | apply Kd.R_drewN | apply Kd.R_drew)); exact HO167.out), ⟨_, rfl⟩, (by (with_reducible repeat (first | refine blk_drewN ?_ _ | refine blk_drew ?_ | refine blk_alloc ?_ _)); exact BK161.out), (by repeat (first | (with_reducible first | exact HB.out | apply below_alloc | apply pw_below_drewN | apply below_drew1 | refine below_set ?_ GE161.out) | exact HB.out))⟩)
  }
  }
  {
  skip
  rintro _ w35 ⟨hS_, h0_, h1_⟩
  have n0_ : Aside0 (w35.heap[gb161]? = some (.cells #[.int .i64 a0_0, .string a0_1, .string a0_2, .int .i64 a0_3, .int .i64 a0_4, .int .i64 a0_5, .int .i64 a0_6, .string a0_7, .string a0_8, .string a0_9] 36 (0, 0))) := ⟨h0_⟩
  have n1_ : Aside0 (Below w.heap.size w w35) := ⟨h1_⟩
  clear BK161
  clear HB
  clear h0_ h1_
  have BK161 := n0_
  have HB := n1_
  clear n0_ n1_
  have hHeld : w35.cell? ⟨gb161, 0, none⟩ = some (.int .i64 a0_0) ∧ w35.cell? ⟨gb161, 1, none⟩ = some (.string a0_1) ∧ w35.cell? ⟨gb161, 2, none⟩ = some (.string a0_2) ∧ w35.cell? ⟨gb161, 3, none⟩ = some (.int .i64 a0_3) ∧ w35.cell? ⟨gb161, 4, none⟩ = some (.int .i64 a0_4) ∧ w35.cell? ⟨gb161, 5, none⟩ = some (.int .i64 a0_5) ∧ w35.cell? ⟨gb161, 6, none⟩ = some (.int .i64 a0_6) ∧ w35.cell? ⟨gb161, 7, none⟩ = some (.string a0_7) ∧ w35.cell? ⟨gb161, 8, none⟩ = some (.string a0_8) ∧ w35.cell? ⟨gb161, 9, none⟩ = some (.string a0_9) := hS_
  refine norm_ (a' := ?_) ?_ ?_
  rotate_left
  · simp only [putAll, Act.put, List.setIfInBounds_toArray, List.set_cons_zero, List.set_cons_succ]
    rfl
  refine two_ (i := 0) (j := 31) (Ni := some 15) (Nj := some 46) #[true, true, true, false, false, false, true, false, false, true, true, true, false, false, true, true, true, false, false, true, true, true, false, false, true, true, true, false, false, true, true, false, false, false, true, true, true, false, false, false, true, true, false, false] #[false, true, true, false, false, false, true, false, false, true, true, true, false, false, true, true, true, false, false, true, true, true, false, false, true, true, true, false, false, true, true, true, false, false, true, true, true, false, false, false, true, true, false, false] rfl rfl rfl rfl (two_of HT_.out (by kernel_rfl)) (by decide) (by decide) (fun K hK => ?_) (fun K hK => ?_)
  {
  skip
  refine Kd.R_lit_step Kd.string _ 9 ?hg (N := 15) ?hd (xs := ([(⟨#[102]⟩ : ByteArray), (⟨#[100]⟩ : ByteArray), (⟨#[108]⟩ : ByteArray), (⟨#[104]⟩ : ByteArray)] : List ByteArray)) (inner := [.string (⟨#[102]⟩ : ByteArray), .string (⟨#[100]⟩ : ByteArray), .string (⟨#[108]⟩ : ByteArray), .string (⟨#[104]⟩ : ByteArray)]) (ok := fun _ => True) (okp := fun _ => True) ?hr ?hp (fun _ hk => hk) trivial (Below.refl _ _) (Nat.le_refl _) (by simp) ?_; (case hd => rfl); (case hg => rfl); (case hr => first | (go_simp; done) | (go_simp; rfl)); (case hp => exact (Reps.one (show Kd.M Kd.string _ _ _ (⟨#[102]⟩ : ByteArray) [.string (⟨#[102]⟩ : ByteArray)] from rfl) (Reps.one (show Kd.M Kd.string _ _ _ (⟨#[100]⟩ : ByteArray) [.string (⟨#[100]⟩ : ByteArray)] from rfl) (Reps.one (show Kd.M Kd.string _ _ _ (⟨#[108]⟩ : ByteArray) [.string (⟨#[108]⟩ : ByteArray)] from rfl) (Reps.one (show Kd.M Kd.string _ _ _ (⟨#[104]⟩ : ByteArray) [.string (⟨#[104]⟩ : ByteArray)] from rfl) (Reps.none _ _))))))
  intro v166 w36 ho37 hb hg_ hnew_
  clear hg_ hnew_
  (first | rw [← Ny165.out] at ho37 | (simp only [Int.reduceToNat] at ho37; rw [← Ny165.out] at ho37))
  have n0_ := Aside0.mk (Kd.R_lower ho37 (below_size (by repeat (first | (with_reducible first | exact HB.out | apply below_alloc | apply pw_below_drewN | apply below_drew1 | refine below_set ?_ GE161.out) | exact HB.out))))
  have n1_ := Aside0.mk (blk_below (g := gb161) (o := .cells #[.int .i64 a0_0, .string a0_1, .string a0_2, .int .i64 a0_3, .int .i64 a0_4, .int .i64 a0_5, .int .i64 a0_6, .string a0_7, .string a0_8, .string a0_9] 36 (0, 0)) (by (with_reducible repeat (first | refine blk_drewN ?_ _ | refine blk_drew ?_ | refine blk_alloc ?_ _)); exact BK161.out) hb)
  have n2_ := Aside0.mk (below_step (by repeat (first | (with_reducible first | exact HB.out | apply below_alloc | apply pw_below_drewN | apply below_drew1 | refine below_set ?_ GE161.out) | exact HB.out)) hb)
  clear BK161
  clear HB
  have HO167 := n0_
  have BK161 := n1_
  have HB := n2_
  clear n0_ n1_ n2_
  clear hb ho37
  obtain ⟨Ao38, co38, eo38⟩ := Kd.R_slice HO167.out
  subst eo38
  obtain ⟨ado38, fo38, _⟩ := Kd.at_string (Kd.R_reads' HO167.out).2.2 0 (by decide) (by rw [Ny165.out]; simp)
  cases fo38
  refine hK.out _ _ ⟨(blk_cell BK161.out 0).trans rfl, (blk_cell BK161.out 1).trans rfl, (blk_cell BK161.out 2).trans rfl, (blk_cell BK161.out 3).trans rfl, (blk_cell BK161.out 4).trans rfl, (blk_cell BK161.out 5).trans rfl, (blk_cell BK161.out 6).trans rfl, (blk_cell BK161.out 7).trans rfl, (blk_cell BK161.out 8).trans rfl, (blk_cell BK161.out 9).trans rfl⟩ (fun hHeld => ?_)
  clear hK K
  refine norm_ (a' := ?_) ?_ ?_
  rotate_left
  · show Act.put _ (some 15) _ = _
    simp only [Act.put, List.setIfInBounds_toArray, List.set_cons_zero, List.set_cons_succ, i64_w, i32_w]
    rfl
  refine pure_ (i := 3) (N := some 18) (v := ?_) (a' := ?_) #[true, true, true, true, false, false, true, false, false, true, true, true, false, false, true, true, true, false, false, true, true, true, false, false, true, true, true, false, false, true, true, false, false, false, true, true, true, false, false, false, true, true, false, false] rfl rfl (any_of HT_.out (by kernel_rfl)) (fun _ _ _ h => h) (Or.inl ⟨by rfl, ?_⟩) ?_ ?_
  rotate_left
  · intro w'
    go_simp
    with_reducible rfl
  rotate_left
  · simp only [Act.put, List.setIfInBounds_toArray, List.set_cons_zero, List.set_cons_succ, i64_w, i32_w]
    rfl
  exact norm_ (by first | (simp only [putAll, Act.put, List.setIfInBounds_toArray, List.set_cons_zero, List.set_cons_succ]; done) | (simp only [putAll, Act.put, List.setIfInBounds_toArray, List.set_cons_zero, List.set_cons_succ]; rfl)) (hJ0_11_16_21_26 (.slice (some ado38) y165.length co38, ado38) _ ⟨hHeld, (by (with_reducible repeat (first | apply Kd.R_alloc | apply Kd.R_drewN | apply Kd.R_drew)); exact HO167.out), ⟨_, rfl⟩, (by (with_reducible repeat (first | refine blk_drewN ?_ _ | refine blk_drew ?_ | refine blk_alloc ?_ _)); exact BK161.out), (by repeat (first | (with_reducible first | exact HB.out | apply below_alloc | apply pw_below_drewN | apply below_drew1 | refine below_set ?_ GE161.out) | exact HB.out))⟩)
  }
  {
  skip
  refine goes_ Tryd.func45 (by kernel_rfl) rfl #[.string a0_8] (by rfl) rfl rfl (by (try simp only [List.map_toArray, List.map_cons, List.map_nil]); first | done | rfl | (simp only [List.length_drop, List.length_take]; rfl)) ?_
  with_reducible refine (spec_l03Or.calls a0_8 t173 _ A22.out).mono ?_
  rintro e w' ⟨rfl, ⟨nd, rfl⟩⟩
  refine ⟨_, rfl, ?_⟩
  refine hK.out _ _ ⟨(blk_cell BK161.out 0).trans rfl, (blk_cell BK161.out 1).trans rfl, (blk_cell BK161.out 2).trans rfl, (blk_cell BK161.out 3).trans rfl, (blk_cell BK161.out 4).trans rfl, (blk_cell BK161.out 5).trans rfl, (blk_cell BK161.out 6).trans rfl, (blk_cell BK161.out 7).trans rfl, (blk_cell BK161.out 8).trans rfl, (blk_cell BK161.out 9).trans rfl⟩ (fun hHeld => ?_)
  clear hK K
  refine norm_ (a' := ?_) ?_ ?_
  rotate_left
  · show Act.put _ (some 46) _ = _
    simp only [Act.put, List.setIfInBounds_toArray, List.set_cons_zero, List.set_cons_succ, i64_w, i32_w]
    rfl
  exact norm_ (by first | (simp only [putAll, Act.put, List.setIfInBounds_toArray, List.set_cons_zero, List.set_cons_succ]; done) | (simp only [putAll, Act.put, List.setIfInBounds_toArray, List.set_cons_zero, List.set_cons_succ]; rfl)) (hJ11_16_21_26_31 () _ ⟨hHeld, (by (with_reducible repeat (first | refine blk_drewN ?_ _ | refine blk_drew ?_ | refine blk_alloc ?_ _)); exact BK161.out), (by repeat (first | (with_reducible first | exact HB.out | apply below_alloc | apply pw_below_drewN | apply below_drew1 | refine below_set ?_ GE161.out) | exact HB.out))⟩)
  }
  }
  }
  {
  skip
  rintro ⟨v166, adz_v166⟩ w38 ⟨hS_, h0_, h1_, h2_, h3_⟩
  have n0_ : Aside0 (Kd.R Kd.string 9 w38 w.heap.size (fun _ => True) v166 y165) := ⟨h0_⟩
  have n1_ : Aside0 (∃ c_, (v166 : Value) = .slice (some adz_v166) y165.length c_) := ⟨h1_⟩
  have n2_ : Aside0 (w38.heap[gb161]? = some (.cells #[.int .i64 a0_0, .string a0_1, .string a0_2, .int .i64 a0_3, .int .i64 a0_4, .int .i64 a0_5, .int .i64 a0_6, .string a0_7, .string a0_8, .string a0_9] 36 (0, 0))) := ⟨h2_⟩
  have n3_ : Aside0 (Below w.heap.size w w38) := ⟨h3_⟩
  clear BK161
  clear HB
  clear h0_ h1_ h2_ h3_
  have HO167 := n0_
  have HA_HO167 := n1_
  have BK161 := n2_
  have HB := n3_
  clear n0_ n1_ n2_ n3_
  have hHeld : w38.cell? ⟨gb161, 0, none⟩ = some (.int .i64 a0_0) ∧ w38.cell? ⟨gb161, 1, none⟩ = some (.string a0_1) ∧ w38.cell? ⟨gb161, 2, none⟩ = some (.string a0_2) ∧ w38.cell? ⟨gb161, 3, none⟩ = some (.int .i64 a0_3) ∧ w38.cell? ⟨gb161, 4, none⟩ = some (.int .i64 a0_4) ∧ w38.cell? ⟨gb161, 5, none⟩ = some (.int .i64 a0_5) ∧ w38.cell? ⟨gb161, 6, none⟩ = some (.int .i64 a0_6) ∧ w38.cell? ⟨gb161, 7, none⟩ = some (.string a0_7) ∧ w38.cell? ⟨gb161, 8, none⟩ = some (.string a0_8) ∧ w38.cell? ⟨gb161, 9, none⟩ = some (.string a0_9) := hS_
  obtain ⟨co39, eo39⟩ := HA_HO167.out
  clear HA_HO167
  subst eo39
  refine norm_ (a' := ?_) ?_ ?_
  rotate_left
  · simp only [putAll, Act.put, List.setIfInBounds_toArray, List.set_cons_zero, List.set_cons_succ]
    rfl
  refine two_ (i := 4) (j := 26) (Ni := some 19) (Nj := some 41) #[true, true, true, true, true, false, true, false, false, true, true, true, false, false, true, true, true, false, false, true, true, true, false, false, true, true, false, false, false, true, true, false, false, false, true, true, true, false, false, false, true, true, false, false] #[true, true, true, true, false, false, true, false, false, true, true, true, false, false, true, true, true, false, false, true, true, true, false, false, true, true, true, false, false, true, true, false, false, false, true, true, true, false, false, false, true, true, false, false] rfl rfl rfl rfl (two_of HT_.out (by kernel_rfl)) (by decide) (by decide) (fun K hK => ?_) (fun K hK => ?_)
  {
  skip
  (have p168 : 0 ≤ (a0_0 : Int) := of_decide_eq_true (by assumption); have q168 : a0_0 < (y165.length : Int) := of_decide_eq_true (by assumption); obtain ⟨ad168, e168, hx168_0⟩ := Kd.at_string (Kd.R_reads' HO167.out).2.2 a0_0 p168 q168; obtain rfl : adz_v166 = ad168 := (by injection e168))
  refine value_ (w1 := ?_) (v := ?_) (by rfl) rfl ?_ ?_
  rotate_left 2
  · go_simp
    constructor
    · rfl
    · rfl
  clear hx168_0
  refine hK.out _ _ ⟨(blk_cell BK161.out 0).trans rfl, (blk_cell BK161.out 1).trans rfl, (blk_cell BK161.out 2).trans rfl, (blk_cell BK161.out 3).trans rfl, (blk_cell BK161.out 4).trans rfl, (blk_cell BK161.out 5).trans rfl, (blk_cell BK161.out 6).trans rfl, (blk_cell BK161.out 7).trans rfl, (blk_cell BK161.out 8).trans rfl, (blk_cell BK161.out 9).trans rfl⟩ (fun hHeld => ?_)
  clear hK K
  refine norm_ (a' := ?_) ?_ ?_
  rotate_left
  · show Act.put _ (some 19) _ = _
    simp only [Act.put, List.setIfInBounds_toArray, List.set_cons_zero, List.set_cons_succ, i64_w, i32_w]
    rfl
  refine pure_ (i := 5) (N := some 20) (v := ?_) (a' := ?_) #[true, true, true, true, true, true, true, false, false, true, true, true, false, false, true, true, true, false, false, true, true, true, false, false, true, true, false, false, false, true, true, false, false, false, true, true, true, false, false, false, true, true, false, false] rfl rfl (any_of HT_.out (by kernel_rfl)) (fun _ _ _ h => h) (Or.inl ⟨by rfl, ?_⟩) ?_ ?_
  rotate_left
  · intro w'
    go_simp
    with_reducible rfl
  rotate_left
  · simp only [Act.put, List.setIfInBounds_toArray, List.set_cons_zero, List.set_cons_succ, i64_w, i32_w]
    rfl
  refine pure_ (i := 7) (N := some 22) (v := ?_) (a' := ?_) #[true, true, true, true, true, true, true, true, false, true, true, true, false, false, true, true, true, false, false, true, true, true, false, false, true, true, false, false, false, true, true, false, false, false, true, true, true, false, false, false, true, true, false, false] rfl rfl (any_of HT_.out (by kernel_rfl)) (fun _ _ _ h => h) (Or.inl ⟨by rfl, ?_⟩) ?_ ?_
  rotate_left
  · intro w'
    go_simp
    with_reducible rfl
  rotate_left
  · simp only [Act.put, List.setIfInBounds_toArray, List.set_cons_zero, List.set_cons_succ, i64_w, i32_w]
    rfl
  refine pure_ (i := 8) (N := some 23) (v := ?_) (a' := ?_) #[true, true, true, true, true, true, true, true, true, true, true, true, false, false, true, true, true, false, false, true, true, true, false, false, true, true, false, false, false, true, true, false, false, false, true, true, true, false, false, false, true, true, false, false] rfl rfl (any_of HT_.out (by kernel_rfl)) (fun _ _ _ h => h) (Or.inl ⟨by rfl, ?_⟩) ?_ ?_
  rotate_left
  · intro w'
    go_simp
    with_reducible rfl
  rotate_left
  · simp only [Act.put, List.setIfInBounds_toArray, List.set_cons_zero, List.set_cons_succ, i64_w, i32_w]
    rfl
  refine pure_ (i := 12) (N := some 27) (v := ?_) (a' := ?_) #[true, true, true, true, true, true, true, true, true, true, true, true, true, false, true, true, true, false, false, true, true, true, false, false, true, true, false, false, false, true, true, false, false, false, true, true, true, false, false, false, true, true, false, false] rfl rfl (any_of HT_.out (by kernel_rfl)) (fun _ _ _ h => h) (Or.inl ⟨by rfl, ?_⟩) ?_ ?_
  rotate_left
  · intro w'
    go_simp
    with_reducible rfl
  rotate_left
  · simp only [Act.put, List.setIfInBounds_toArray, List.set_cons_zero, List.set_cons_succ, i64_w, i32_w]
    rfl
  refine pure_ (i := 13) (N := some 28) (v := ?_) (a' := ?_) #[true, true, true, true, true, true, true, true, true, true, true, true, true, true, true, true, true, false, false, true, true, true, false, false, true, true, false, false, false, true, true, false, false, false, true, true, true, false, false, false, true, true, false, false] rfl rfl (any_of HT_.out (by kernel_rfl)) (fun _ _ _ h => h) (Or.inl ⟨by rfl, ?_⟩) ?_ ?_
  rotate_left
  · intro w'
    go_simp
    with_reducible rfl
  rotate_left
  · simp only [Act.put, List.setIfInBounds_toArray, List.set_cons_zero, List.set_cons_succ, i64_w, i32_w]
    rfl
  refine pure_ (i := 17) (N := some 32) (v := ?_) (a' := ?_) #[true, true, true, true, true, true, true, true, true, true, true, true, true, true, true, true, true, true, false, true, true, true, false, false, true, true, false, false, false, true, true, false, false, false, true, true, true, false, false, false, true, true, false, false] rfl rfl (any_of HT_.out (by kernel_rfl)) (fun _ _ _ h => h) (Or.inl ⟨by rfl, ?_⟩) ?_ ?_
  rotate_left
  · intro w'
    go_simp
    with_reducible rfl
  rotate_left
  · simp only [Act.put, List.setIfInBounds_toArray, List.set_cons_zero, List.set_cons_succ, i64_w, i32_w]
    rfl
  refine pure_ (i := 18) (N := some 33) (v := ?_) (a' := ?_) #[true, true, true, true, true, true, true, true, true, true, true, true, true, true, true, true, true, true, true, true, true, true, false, false, true, true, false, false, false, true, true, false, false, false, true, true, true, false, false, false, true, true, false, false] rfl rfl (any_of HT_.out (by kernel_rfl)) (fun _ _ _ h => h) (Or.inl ⟨by rfl, ?_⟩) ?_ ?_
  rotate_left
  · intro w'
    go_simp
    with_reducible rfl
  rotate_left
  · simp only [Act.put, List.setIfInBounds_toArray, List.set_cons_zero, List.set_cons_succ, i64_w, i32_w]
    rfl
  refine pure_ (i := 22) (N := some 37) (v := ?_) (a' := ?_) #[true, true, true, true, true, true, true, true, true, true, true, true, true, true, true, true, true, true, true, true, true, true, true, false, true, true, false, false, false, true, true, false, false, false, true, true, true, false, false, false, true, true, false, false] rfl rfl (any_of HT_.out (by kernel_rfl)) (fun _ _ _ h => h) (Or.inl ⟨by rfl, ?_⟩) ?_ ?_
  rotate_left
  · intro w'
    go_simp
    with_reducible rfl
  rotate_left
  · simp only [Act.put, List.setIfInBounds_toArray, List.set_cons_zero, List.set_cons_succ, i64_w, i32_w]
    rfl
  refine pure_ (i := 23) (N := some 38) (v := ?_) (a' := ?_) #[true, true, true, true, true, true, true, true, true, true, true, true, true, true, true, true, true, true, true, true, true, true, true, true, true, true, false, false, false, true, true, false, false, false, true, true, true, false, false, false, true, true, false, false] rfl rfl (any_of HT_.out (by kernel_rfl)) (fun _ _ _ h => h) (Or.inl ⟨by rfl, ?_⟩) ?_ ?_
  rotate_left
  · intro w'
    go_simp
    with_reducible rfl
  rotate_left
  · simp only [Act.put, List.setIfInBounds_toArray, List.set_cons_zero, List.set_cons_succ, i64_w, i32_w]
    rfl
  exact norm_ (by first | (simp only [putAll, Act.put, List.setIfInBounds_toArray, List.set_cons_zero, List.set_cons_succ]; done) | (simp only [putAll, Act.put, List.setIfInBounds_toArray, List.set_cons_zero, List.set_cons_succ]; rfl)) (hJ0_4_11_16_21 (.slice (some adz_v166) y165.length co39, adz_v166) _ ⟨hHeld, (by (with_reducible repeat (first | apply Kd.R_alloc | apply Kd.R_drewN | apply Kd.R_drew)); exact HO167.out), ⟨_, rfl⟩, (by (with_reducible repeat (first | refine blk_drewN ?_ _ | refine blk_drew ?_ | refine blk_alloc ?_ _)); exact BK161.out), (by repeat (first | (with_reducible first | exact HB.out | apply below_alloc | apply pw_below_drewN | apply below_drew1 | refine below_set ?_ GE161.out) | exact HB.out))⟩)
  }
  {
  skip
  refine goes_ Tryd.func45 (by kernel_rfl) rfl #[.string a0_7] (by rfl) rfl rfl (by (try simp only [List.map_toArray, List.map_cons, List.map_nil]); first | done | rfl | (simp only [List.length_drop, List.length_take]; rfl)) ?_
  with_reducible refine (spec_l03Or.calls a0_7 t172 _ A19.out).mono ?_
  rintro e w' ⟨rfl, ⟨nd, rfl⟩⟩
  refine ⟨_, rfl, ?_⟩
  refine hK.out _ _ ⟨(blk_cell BK161.out 0).trans rfl, (blk_cell BK161.out 1).trans rfl, (blk_cell BK161.out 2).trans rfl, (blk_cell BK161.out 3).trans rfl, (blk_cell BK161.out 4).trans rfl, (blk_cell BK161.out 5).trans rfl, (blk_cell BK161.out 6).trans rfl, (blk_cell BK161.out 7).trans rfl, (blk_cell BK161.out 8).trans rfl, (blk_cell BK161.out 9).trans rfl⟩ (fun hHeld => ?_)
  clear hK K
  refine norm_ (a' := ?_) ?_ ?_
  rotate_left
  · show Act.put _ (some 41) _ = _
    simp only [Act.put, List.setIfInBounds_toArray, List.set_cons_zero, List.set_cons_succ, i64_w, i32_w]
    rfl
  exact norm_ (by first | (simp only [putAll, Act.put, List.setIfInBounds_toArray, List.set_cons_zero, List.set_cons_succ]; done) | (simp only [putAll, Act.put, List.setIfInBounds_toArray, List.set_cons_zero, List.set_cons_succ]; rfl)) (hJ0_11_16_21_26 (.slice (some adz_v166) y165.length co39, adz_v166) _ ⟨hHeld, (by (with_reducible repeat (first | apply Kd.R_alloc | apply Kd.R_drewN | apply Kd.R_drew)); exact HO167.out), ⟨_, rfl⟩, (by (with_reducible repeat (first | refine blk_drewN ?_ _ | refine blk_drew ?_ | refine blk_alloc ?_ _)); exact BK161.out), (by repeat (first | (with_reducible first | exact HB.out | apply below_alloc | apply pw_below_drewN | apply below_drew1 | refine below_set ?_ GE161.out) | exact HB.out))⟩)
  }
  }
  }
  {
  skip
  rintro ⟨v166, adz_v166⟩ w38 ⟨hS_, h0_, h1_, h2_, h3_⟩
  have n0_ : Aside0 (Kd.R Kd.string 9 w38 w.heap.size (fun _ => True) v166 y165) := ⟨h0_⟩
  have n1_ : Aside0 (∃ c_, (v166 : Value) = .slice (some adz_v166) y165.length c_) := ⟨h1_⟩
  have n2_ : Aside0 (w38.heap[gb161]? = some (.cells #[.int .i64 a0_0, .string a0_1, .string a0_2, .int .i64 a0_3, .int .i64 a0_4, .int .i64 a0_5, .int .i64 a0_6, .string a0_7, .string a0_8, .string a0_9] 36 (0, 0))) := ⟨h2_⟩
  have n3_ : Aside0 (Below w.heap.size w w38) := ⟨h3_⟩
  clear BK161
  clear HB
  clear h0_ h1_ h2_ h3_
  have HO167 := n0_
  have HA_HO167 := n1_
  have BK161 := n2_
  have HB := n3_
  clear n0_ n1_ n2_ n3_
  have hHeld : w38.cell? ⟨gb161, 0, none⟩ = some (.int .i64 a0_0) ∧ w38.cell? ⟨gb161, 1, none⟩ = some (.string a0_1) ∧ w38.cell? ⟨gb161, 2, none⟩ = some (.string a0_2) ∧ w38.cell? ⟨gb161, 3, none⟩ = some (.int .i64 a0_3) ∧ w38.cell? ⟨gb161, 4, none⟩ = some (.int .i64 a0_4) ∧ w38.cell? ⟨gb161, 5, none⟩ = some (.int .i64 a0_5) ∧ w38.cell? ⟨gb161, 6, none⟩ = some (.int .i64 a0_6) ∧ w38.cell? ⟨gb161, 7, none⟩ = some (.string a0_7) ∧ w38.cell? ⟨gb161, 8, none⟩ = some (.string a0_8) ∧ w38.cell? ⟨gb161, 9, none⟩ = some (.string a0_9) := hS_
  obtain ⟨co39, eo39⟩ := HA_HO167.out
  clear HA_HO167
  subst eo39
  refine norm_ (a' := ?_) ?_ ?_
  rotate_left
  · simp only [putAll, Act.put, List.setIfInBounds_toArray, List.set_cons_zero, List.set_cons_succ]
    rfl
  refine one_ (i := 21) (N := some 36) #[true, true, true, true, true, true, true, true, true, true, true, true, true, true, true, true, true, true, true, true, true, true, false, false, true, true, false, false, false, true, true, false, false, false, true, true, true, false, false, false, true, true, false, false] rfl rfl (one_of HT_.out (by kernel_rfl)) (by decide) (fun K hK => ?_)
  refine goes_ Tryd.func44 (by kernel_rfl) rfl #[.int .i64 a0_6] (by rfl) rfl rfl (by (try simp only [List.map_toArray, List.map_cons, List.map_nil]); first | done | rfl | (simp only [List.length_drop, List.length_take]; rfl)) ?_
  with_reducible refine (spec_DecText.calls k a0_6 t171 _ A16.out).mono ?_
  rintro e w' ⟨rfl, ⟨nd, rfl⟩⟩
  refine ⟨_, rfl, ?_⟩
  refine hK.out _ _ ⟨(blk_cell BK161.out 0).trans rfl, (blk_cell BK161.out 1).trans rfl, (blk_cell BK161.out 2).trans rfl, (blk_cell BK161.out 3).trans rfl, (blk_cell BK161.out 4).trans rfl, (blk_cell BK161.out 5).trans rfl, (blk_cell BK161.out 6).trans rfl, (blk_cell BK161.out 7).trans rfl, (blk_cell BK161.out 8).trans rfl, (blk_cell BK161.out 9).trans rfl⟩ (fun hHeld => ?_)
  clear hK K
  refine norm_ (a' := ?_) ?_ ?_
  rotate_left
  · show Act.put _ (some 36) _ = _
    simp only [Act.put, List.setIfInBounds_toArray, List.set_cons_zero, List.set_cons_succ, i64_w, i32_w]
    rfl
  refine pure_ (i := 22) (N := some 37) (v := ?_) (a' := ?_) #[true, true, true, true, true, true, true, true, true, true, true, true, true, true, true, true, true, true, true, true, true, true, true, false, true, true, false, false, false, true, true, false, false, false, true, true, true, false, false, false, true, true, false, false] rfl rfl (any_of HT_.out (by kernel_rfl)) (fun _ _ _ h => h) (Or.inl ⟨by rfl, ?_⟩) ?_ ?_
  rotate_left
  · intro w'
    go_simp
    with_reducible rfl
  rotate_left
  · simp only [Act.put, List.setIfInBounds_toArray, List.set_cons_zero, List.set_cons_succ, i64_w, i32_w]
    rfl
  refine pure_ (i := 23) (N := some 38) (v := ?_) (a' := ?_) #[true, true, true, true, true, true, true, true, true, true, true, true, true, true, true, true, true, true, true, true, true, true, true, true, true, true, false, false, false, true, true, false, false, false, true, true, true, false, false, false, true, true, false, false] rfl rfl (any_of HT_.out (by kernel_rfl)) (fun _ _ _ h => h) (Or.inl ⟨by rfl, ?_⟩) ?_ ?_
  rotate_left
  · intro w'
    go_simp
    with_reducible rfl
  rotate_left
  · simp only [Act.put, List.setIfInBounds_toArray, List.set_cons_zero, List.set_cons_succ, i64_w, i32_w]
    rfl
  exact norm_ (by first | (simp only [putAll, Act.put, List.setIfInBounds_toArray, List.set_cons_zero, List.set_cons_succ]; done) | (simp only [putAll, Act.put, List.setIfInBounds_toArray, List.set_cons_zero, List.set_cons_succ]; rfl)) (hJ0_4_11_16_21 (.slice (some adz_v166) y165.length co39, adz_v166) _ ⟨hHeld, (by (with_reducible repeat (first | apply Kd.R_alloc | apply Kd.R_drewN | apply Kd.R_drew)); exact HO167.out), ⟨_, rfl⟩, (by (with_reducible repeat (first | refine blk_drewN ?_ _ | refine blk_drew ?_ | refine blk_alloc ?_ _)); exact BK161.out), (by repeat (first | (with_reducible first | exact HB.out | apply below_alloc | apply pw_below_drewN | apply below_drew1 | refine below_set ?_ GE161.out) | exact HB.out))⟩)
  }
  }
  {
  skip
  rintro _ w35 ⟨hS_, h0_, h1_⟩
  have n0_ : Aside0 (w35.heap[gb161]? = some (.cells #[.int .i64 a0_0, .string a0_1, .string a0_2, .int .i64 a0_3, .int .i64 a0_4, .int .i64 a0_5, .int .i64 a0_6, .string a0_7, .string a0_8, .string a0_9] 36 (0, 0))) := ⟨h0_⟩
  have n1_ : Aside0 (Below w.heap.size w w35) := ⟨h1_⟩
  clear BK161
  clear HB
  clear h0_ h1_
  have BK161 := n0_
  have HB := n1_
  clear n0_ n1_
  have hHeld : w35.cell? ⟨gb161, 0, none⟩ = some (.int .i64 a0_0) ∧ w35.cell? ⟨gb161, 1, none⟩ = some (.string a0_1) ∧ w35.cell? ⟨gb161, 2, none⟩ = some (.string a0_2) ∧ w35.cell? ⟨gb161, 3, none⟩ = some (.int .i64 a0_3) ∧ w35.cell? ⟨gb161, 4, none⟩ = some (.int .i64 a0_4) ∧ w35.cell? ⟨gb161, 5, none⟩ = some (.int .i64 a0_5) ∧ w35.cell? ⟨gb161, 6, none⟩ = some (.int .i64 a0_6) ∧ w35.cell? ⟨gb161, 7, none⟩ = some (.string a0_7) ∧ w35.cell? ⟨gb161, 8, none⟩ = some (.string a0_8) ∧ w35.cell? ⟨gb161, 9, none⟩ = some (.string a0_9) := hS_
  refine norm_ (a' := ?_) ?_ ?_
  rotate_left
  · simp only [putAll, Act.put, List.setIfInBounds_toArray, List.set_cons_zero, List.set_cons_succ]
    rfl
  refine two_ (i := 0) (j := 37) (Ni := some 15) (Nj := some 52) #[true, true, true, false, false, false, true, false, false, true, true, true, false, false, true, true, true, false, false, true, true, true, false, false, true, true, true, false, false, true, true, true, false, false, true, true, true, false, false, false, true, true, false, false] #[false, true, true, false, false, false, true, false, false, true, true, true, false, false, true, true, true, false, false, true, true, true, false, false, true, true, true, false, false, true, true, true, false, false, true, true, true, true, false, false, true, true, false, false] rfl rfl rfl rfl (two_of HT_.out (by kernel_rfl)) (by decide) (by decide) (fun K hK => ?_) (fun K hK => ?_)
  {
  skip
  refine Kd.R_lit_step Kd.string _ 9 ?hg (N := 15) ?hd (xs := ([(⟨#[102]⟩ : ByteArray), (⟨#[100]⟩ : ByteArray), (⟨#[108]⟩ : ByteArray), (⟨#[104]⟩ : ByteArray)] : List ByteArray)) (inner := [.string (⟨#[102]⟩ : ByteArray), .string (⟨#[100]⟩ : ByteArray), .string (⟨#[108]⟩ : ByteArray), .string (⟨#[104]⟩ : ByteArray)]) (ok := fun _ => True) (okp := fun _ => True) ?hr ?hp (fun _ hk => hk) trivial (Below.refl _ _) (Nat.le_refl _) (by simp) ?_; (case hd => rfl); (case hg => rfl); (case hr => first | (go_simp; done) | (go_simp; rfl)); (case hp => exact (Reps.one (show Kd.M Kd.string _ _ _ (⟨#[102]⟩ : ByteArray) [.string (⟨#[102]⟩ : ByteArray)] from rfl) (Reps.one (show Kd.M Kd.string _ _ _ (⟨#[100]⟩ : ByteArray) [.string (⟨#[100]⟩ : ByteArray)] from rfl) (Reps.one (show Kd.M Kd.string _ _ _ (⟨#[108]⟩ : ByteArray) [.string (⟨#[108]⟩ : ByteArray)] from rfl) (Reps.one (show Kd.M Kd.string _ _ _ (⟨#[104]⟩ : ByteArray) [.string (⟨#[104]⟩ : ByteArray)] from rfl) (Reps.none _ _))))))
  intro v166 w36 ho37 hb hg_ hnew_
  clear hg_ hnew_
  (first | rw [← Ny165.out] at ho37 | (simp only [Int.reduceToNat] at ho37; rw [← Ny165.out] at ho37))
  have n0_ := Aside0.mk (Kd.R_lower ho37 (below_size (by repeat (first | (with_reducible first | exact HB.out | apply below_alloc | apply pw_below_drewN | apply below_drew1 | refine below_set ?_ GE161.out) | exact HB.out))))
  have n1_ := Aside0.mk (blk_below (g := gb161) (o := .cells #[.int .i64 a0_0, .string a0_1, .string a0_2, .int .i64 a0_3, .int .i64 a0_4, .int .i64 a0_5, .int .i64 a0_6, .string a0_7, .string a0_8, .string a0_9] 36 (0, 0)) (by (with_reducible repeat (first | refine blk_drewN ?_ _ | refine blk_drew ?_ | refine blk_alloc ?_ _)); exact BK161.out) hb)
  have n2_ := Aside0.mk (below_step (by repeat (first | (with_reducible first | exact HB.out | apply below_alloc | apply pw_below_drewN | apply below_drew1 | refine below_set ?_ GE161.out) | exact HB.out)) hb)
  clear BK161
  clear HB
  have HO167 := n0_
  have BK161 := n1_
  have HB := n2_
  clear n0_ n1_ n2_
  clear hb ho37
  obtain ⟨Ao38, co38, eo38⟩ := Kd.R_slice HO167.out
  subst eo38
  obtain ⟨ado38, fo38, _⟩ := Kd.at_string (Kd.R_reads' HO167.out).2.2 0 (by decide) (by rw [Ny165.out]; simp)
  cases fo38
  refine hK.out _ _ ⟨(blk_cell BK161.out 0).trans rfl, (blk_cell BK161.out 1).trans rfl, (blk_cell BK161.out 2).trans rfl, (blk_cell BK161.out 3).trans rfl, (blk_cell BK161.out 4).trans rfl, (blk_cell BK161.out 5).trans rfl, (blk_cell BK161.out 6).trans rfl, (blk_cell BK161.out 7).trans rfl, (blk_cell BK161.out 8).trans rfl, (blk_cell BK161.out 9).trans rfl⟩ (fun hHeld => ?_)
  clear hK K
  refine norm_ (a' := ?_) ?_ ?_
  rotate_left
  · show Act.put _ (some 15) _ = _
    simp only [Act.put, List.setIfInBounds_toArray, List.set_cons_zero, List.set_cons_succ, i64_w, i32_w]
    rfl
  refine pure_ (i := 3) (N := some 18) (v := ?_) (a' := ?_) #[true, true, true, true, false, false, true, false, false, true, true, true, false, false, true, true, true, false, false, true, true, true, false, false, true, true, true, false, false, true, true, true, false, false, true, true, true, false, false, false, true, true, false, false] rfl rfl (any_of HT_.out (by kernel_rfl)) (fun _ _ _ h => h) (Or.inl ⟨by rfl, ?_⟩) ?_ ?_
  rotate_left
  · intro w'
    go_simp
    with_reducible rfl
  rotate_left
  · simp only [Act.put, List.setIfInBounds_toArray, List.set_cons_zero, List.set_cons_succ, i64_w, i32_w]
    rfl
  exact norm_ (by first | (simp only [putAll, Act.put, List.setIfInBounds_toArray, List.set_cons_zero, List.set_cons_succ]; done) | (simp only [putAll, Act.put, List.setIfInBounds_toArray, List.set_cons_zero, List.set_cons_succ]; rfl)) (hJ0_11_16_21_26_31 (.slice (some ado38) y165.length co38, ado38) _ ⟨hHeld, (by (with_reducible repeat (first | apply Kd.R_alloc | apply Kd.R_drewN | apply Kd.R_drew)); exact HO167.out), ⟨_, rfl⟩, (by (with_reducible repeat (first | refine blk_drewN ?_ _ | refine blk_drew ?_ | refine blk_alloc ?_ _)); exact BK161.out), (by repeat (first | (with_reducible first | exact HB.out | apply below_alloc | apply pw_below_drewN | apply below_drew1 | refine below_set ?_ GE161.out) | exact HB.out))⟩)
  }
  {
  skip
  refine goes_ Tryd.func44 (by kernel_rfl) rfl #[.int .i64 (a0_9.size : Int)] (by rfl) rfl rfl (by (try simp only [List.map_toArray, List.map_cons, List.map_nil]); first | done | rfl | (simp only [List.length_drop, List.length_take]; rfl)) ?_
  with_reducible refine (spec_DecText.calls k (a0_9.size : Int) t174 _ A25.out).mono ?_
  rintro e w' ⟨rfl, ⟨nd, rfl⟩⟩
  refine ⟨_, rfl, ?_⟩
  refine hK.out _ _ ⟨(blk_cell BK161.out 0).trans rfl, (blk_cell BK161.out 1).trans rfl, (blk_cell BK161.out 2).trans rfl, (blk_cell BK161.out 3).trans rfl, (blk_cell BK161.out 4).trans rfl, (blk_cell BK161.out 5).trans rfl, (blk_cell BK161.out 6).trans rfl, (blk_cell BK161.out 7).trans rfl, (blk_cell BK161.out 8).trans rfl, (blk_cell BK161.out 9).trans rfl⟩ (fun hHeld => ?_)
  clear hK K
  refine norm_ (a' := ?_) ?_ ?_
  rotate_left
  · show Act.put _ (some 52) _ = _
    simp only [Act.put, List.setIfInBounds_toArray, List.set_cons_zero, List.set_cons_succ, i64_w, i32_w]
    rfl
  exact norm_ (by first | (simp only [putAll, Act.put, List.setIfInBounds_toArray, List.set_cons_zero, List.set_cons_succ]; done) | (simp only [putAll, Act.put, List.setIfInBounds_toArray, List.set_cons_zero, List.set_cons_succ]; rfl)) (hJ11_16_21_26_31_37 () _ ⟨hHeld, (by (with_reducible repeat (first | refine blk_drewN ?_ _ | refine blk_drew ?_ | refine blk_alloc ?_ _)); exact BK161.out), (by repeat (first | (with_reducible first | exact HB.out | apply below_alloc | apply pw_below_drewN | apply below_drew1 | refine below_set ?_ GE161.out) | exact HB.out))⟩)
  }
  }
  }
  {
  skip
  rintro ⟨v166, adz_v166⟩ w38 ⟨hS_, h0_, h1_, h2_, h3_⟩
  have n0_ : Aside0 (Kd.R Kd.string 9 w38 w.heap.size (fun _ => True) v166 y165) := ⟨h0_⟩
  have n1_ : Aside0 (∃ c_, (v166 : Value) = .slice (some adz_v166) y165.length c_) := ⟨h1_⟩
  have n2_ : Aside0 (w38.heap[gb161]? = some (.cells #[.int .i64 a0_0, .string a0_1, .string a0_2, .int .i64 a0_3, .int .i64 a0_4, .int .i64 a0_5, .int .i64 a0_6, .string a0_7, .string a0_8, .string a0_9] 36 (0, 0))) := ⟨h2_⟩
  have n3_ : Aside0 (Below w.heap.size w w38) := ⟨h3_⟩
  clear BK161
  clear HB
  clear h0_ h1_ h2_ h3_
  have HO167 := n0_
  have HA_HO167 := n1_
  have BK161 := n2_
  have HB := n3_
  clear n0_ n1_ n2_ n3_
  have hHeld : w38.cell? ⟨gb161, 0, none⟩ = some (.int .i64 a0_0) ∧ w38.cell? ⟨gb161, 1, none⟩ = some (.string a0_1) ∧ w38.cell? ⟨gb161, 2, none⟩ = some (.string a0_2) ∧ w38.cell? ⟨gb161, 3, none⟩ = some (.int .i64 a0_3) ∧ w38.cell? ⟨gb161, 4, none⟩ = some (.int .i64 a0_4) ∧ w38.cell? ⟨gb161, 5, none⟩ = some (.int .i64 a0_5) ∧ w38.cell? ⟨gb161, 6, none⟩ = some (.int .i64 a0_6) ∧ w38.cell? ⟨gb161, 7, none⟩ = some (.string a0_7) ∧ w38.cell? ⟨gb161, 8, none⟩ = some (.string a0_8) ∧ w38.cell? ⟨gb161, 9, none⟩ = some (.string a0_9) := hS_
  obtain ⟨co39, eo39⟩ := HA_HO167.out
  clear HA_HO167
  subst eo39
  refine norm_ (a' := ?_) ?_ ?_
  rotate_left
  · simp only [putAll, Act.put, List.setIfInBounds_toArray, List.set_cons_zero, List.set_cons_succ]
    rfl
  refine two_ (i := 4) (j := 31) (Ni := some 19) (Nj := some 46) #[true, true, true, true, true, false, true, false, false, true, true, true, false, false, true, true, true, false, false, true, true, true, false, false, true, true, true, false, false, true, true, false, false, false, true, true, true, false, false, false, true, true, false, false] #[true, true, true, true, false, false, true, false, false, true, true, true, false, false, true, true, true, false, false, true, true, true, false, false, true, true, true, false, false, true, true, true, false, false, true, true, true, false, false, false, true, true, false, false] rfl rfl rfl rfl (two_of HT_.out (by kernel_rfl)) (by decide) (by decide) (fun K hK => ?_) (fun K hK => ?_)
  {
  skip
  (have p168 : 0 ≤ (a0_0 : Int) := of_decide_eq_true (by assumption); have q168 : a0_0 < (y165.length : Int) := of_decide_eq_true (by assumption); obtain ⟨ad168, e168, hx168_0⟩ := Kd.at_string (Kd.R_reads' HO167.out).2.2 a0_0 p168 q168; obtain rfl : adz_v166 = ad168 := (by injection e168))
  refine value_ (w1 := ?_) (v := ?_) (by rfl) rfl ?_ ?_
  rotate_left 2
  · go_simp
    constructor
    · rfl
    · rfl
  clear hx168_0
  refine hK.out _ _ ⟨(blk_cell BK161.out 0).trans rfl, (blk_cell BK161.out 1).trans rfl, (blk_cell BK161.out 2).trans rfl, (blk_cell BK161.out 3).trans rfl, (blk_cell BK161.out 4).trans rfl, (blk_cell BK161.out 5).trans rfl, (blk_cell BK161.out 6).trans rfl, (blk_cell BK161.out 7).trans rfl, (blk_cell BK161.out 8).trans rfl, (blk_cell BK161.out 9).trans rfl⟩ (fun hHeld => ?_)
  clear hK K
  refine norm_ (a' := ?_) ?_ ?_
  rotate_left
  · show Act.put _ (some 19) _ = _
    simp only [Act.put, List.setIfInBounds_toArray, List.set_cons_zero, List.set_cons_succ, i64_w, i32_w]
    rfl
  refine pure_ (i := 5) (N := some 20) (v := ?_) (a' := ?_) #[true, true, true, true, true, true, true, false, false, true, true, true, false, false, true, true, true, false, false, true, true, true, false, false, true, true, true, false, false, true, true, false, false, false, true, true, true, false, false, false, true, true, false, false] rfl rfl (any_of HT_.out (by kernel_rfl)) (fun _ _ _ h => h) (Or.inl ⟨by rfl, ?_⟩) ?_ ?_
  rotate_left
  · intro w'
    go_simp
    with_reducible rfl
  rotate_left
  · simp only [Act.put, List.setIfInBounds_toArray, List.set_cons_zero, List.set_cons_succ, i64_w, i32_w]
    rfl
  refine pure_ (i := 7) (N := some 22) (v := ?_) (a' := ?_) #[true, true, true, true, true, true, true, true, false, true, true, true, false, false, true, true, true, false, false, true, true, true, false, false, true, true, true, false, false, true, true, false, false, false, true, true, true, false, false, false, true, true, false, false] rfl rfl (any_of HT_.out (by kernel_rfl)) (fun _ _ _ h => h) (Or.inl ⟨by rfl, ?_⟩) ?_ ?_
  rotate_left
  · intro w'
    go_simp
    with_reducible rfl
  rotate_left
  · simp only [Act.put, List.setIfInBounds_toArray, List.set_cons_zero, List.set_cons_succ, i64_w, i32_w]
    rfl
  refine pure_ (i := 8) (N := some 23) (v := ?_) (a' := ?_) #[true, true, true, true, true, true, true, true, true, true, true, true, false, false, true, true, true, false, false, true, true, true, false, false, true, true, true, false, false, true, true, false, false, false, true, true, true, false, false, false, true, true, false, false] rfl rfl (any_of HT_.out (by kernel_rfl)) (fun _ _ _ h => h) (Or.inl ⟨by rfl, ?_⟩) ?_ ?_
  rotate_left
  · intro w'
    go_simp
    with_reducible rfl
  rotate_left
  · simp only [Act.put, List.setIfInBounds_toArray, List.set_cons_zero, List.set_cons_succ, i64_w, i32_w]
    rfl
  refine pure_ (i := 12) (N := some 27) (v := ?_) (a' := ?_) #[true, true, true, true, true, true, true, true, true, true, true, true, true, false, true, true, true, false, false, true, true, true, false, false, true, true, true, false, false, true, true, false, false, false, true, true, true, false, false, false, true, true, false, false] rfl rfl (any_of HT_.out (by kernel_rfl)) (fun _ _ _ h => h) (Or.inl ⟨by rfl, ?_⟩) ?_ ?_
  rotate_left
  · intro w'
    go_simp
    with_reducible rfl
  rotate_left
  · simp only [Act.put, List.setIfInBounds_toArray, List.set_cons_zero, List.set_cons_succ, i64_w, i32_w]
    rfl
  refine pure_ (i := 13) (N := some 28) (v := ?_) (a' := ?_) #[true, true, true, true, true, true, true, true, true, true, true, true, true, true, true, true, true, false, false, true, true, true, false, false, true, true, true, false, false, true, true, false, false, false, true, true, true, false, false, false, true, true, false, false] rfl rfl (any_of HT_.out (by kernel_rfl)) (fun _ _ _ h => h) (Or.inl ⟨by rfl, ?_⟩) ?_ ?_
  rotate_left
  · intro w'
    go_simp
    with_reducible rfl
  rotate_left
  · simp only [Act.put, List.setIfInBounds_toArray, List.set_cons_zero, List.set_cons_succ, i64_w, i32_w]
    rfl
  refine pure_ (i := 17) (N := some 32) (v := ?_) (a' := ?_) #[true, true, true, true, true, true, true, true, true, true, true, true, true, true, true, true, true, true, false, true, true, true, false, false, true, true, true, false, false, true, true, false, false, false, true, true, true, false, false, false, true, true, false, false] rfl rfl (any_of HT_.out (by kernel_rfl)) (fun _ _ _ h => h) (Or.inl ⟨by rfl, ?_⟩) ?_ ?_
  rotate_left
  · intro w'
    go_simp
    with_reducible rfl
  rotate_left
  · simp only [Act.put, List.setIfInBounds_toArray, List.set_cons_zero, List.set_cons_succ, i64_w, i32_w]
    rfl
  refine pure_ (i := 18) (N := some 33) (v := ?_) (a' := ?_) #[true, true, true, true, true, true, true, true, true, true, true, true, true, true, true, true, true, true, true, true, true, true, false, false, true, true, true, false, false, true, true, false, false, false, true, true, true, false, false, false, true, true, false, false] rfl rfl (any_of HT_.out (by kernel_rfl)) (fun _ _ _ h => h) (Or.inl ⟨by rfl, ?_⟩) ?_ ?_
  rotate_left
  · intro w'
    go_simp
    with_reducible rfl
  rotate_left
  · simp only [Act.put, List.setIfInBounds_toArray, List.set_cons_zero, List.set_cons_succ, i64_w, i32_w]
    rfl
  refine pure_ (i := 22) (N := some 37) (v := ?_) (a' := ?_) #[true, true, true, true, true, true, true, true, true, true, true, true, true, true, true, true, true, true, true, true, true, true, true, false, true, true, true, false, false, true, true, false, false, false, true, true, true, false, false, false, true, true, false, false] rfl rfl (any_of HT_.out (by kernel_rfl)) (fun _ _ _ h => h) (Or.inl ⟨by rfl, ?_⟩) ?_ ?_
  rotate_left
  · intro w'
    go_simp
    with_reducible rfl
  rotate_left
  · simp only [Act.put, List.setIfInBounds_toArray, List.set_cons_zero, List.set_cons_succ, i64_w, i32_w]
    rfl
  refine pure_ (i := 23) (N := some 38) (v := ?_) (a' := ?_) #[true, true, true, true, true, true, true, true, true, true, true, true, true, true, true, true, true, true, true, true, true, true, true, true, true, true, true, false, false, true, true, false, false, false, true, true, true, false, false, false, true, true, false, false] rfl rfl (any_of HT_.out (by kernel_rfl)) (fun _ _ _ h => h) (Or.inl ⟨by rfl, ?_⟩) ?_ ?_
  rotate_left
  · intro w'
    go_simp
    with_reducible rfl
  rotate_left
  · simp only [Act.put, List.setIfInBounds_toArray, List.set_cons_zero, List.set_cons_succ, i64_w, i32_w]
    rfl
  refine pure_ (i := 27) (N := some 42) (v := ?_) (a' := ?_) #[true, true, true, true, true, true, true, true, true, true, true, true, true, true, true, true, true, true, true, true, true, true, true, true, true, true, true, true, false, true, true, false, false, false, true, true, true, false, false, false, true, true, false, false] rfl rfl (any_of HT_.out (by kernel_rfl)) (fun _ _ _ h => h) (Or.inl ⟨by rfl, ?_⟩) ?_ ?_
  rotate_left
  · intro w'
    go_simp
    with_reducible rfl
  rotate_left
  · simp only [Act.put, List.setIfInBounds_toArray, List.set_cons_zero, List.set_cons_succ, i64_w, i32_w]
    rfl
  refine pure_ (i := 28) (N := some 43) (v := ?_) (a' := ?_) #[true, true, true, true, true, true, true, true, true, true, true, true, true, true, true, true, true, true, true, true, true, true, true, true, true, true, true, true, true, true, true, false, false, false, true, true, true, false, false, false, true, true, false, false] rfl rfl (any_of HT_.out (by kernel_rfl)) (fun _ _ _ h => h) (Or.inl ⟨by rfl, ?_⟩) ?_ ?_
  rotate_left
  · intro w'
    go_simp
    with_reducible rfl
  rotate_left
  · simp only [Act.put, List.setIfInBounds_toArray, List.set_cons_zero, List.set_cons_succ, i64_w, i32_w]
    rfl
  exact norm_ (by first | (simp only [putAll, Act.put, List.setIfInBounds_toArray, List.set_cons_zero, List.set_cons_succ]; done) | (simp only [putAll, Act.put, List.setIfInBounds_toArray, List.set_cons_zero, List.set_cons_succ]; rfl)) (hJ0_4_11_16_21_26 (.slice (some adz_v166) y165.length co39, adz_v166) _ ⟨hHeld, (by (with_reducible repeat (first | apply Kd.R_alloc | apply Kd.R_drewN | apply Kd.R_drew)); exact HO167.out), ⟨_, rfl⟩, (by (with_reducible repeat (first | refine blk_drewN ?_ _ | refine blk_drew ?_ | refine blk_alloc ?_ _)); exact BK161.out), (by repeat (first | (with_reducible first | exact HB.out | apply below_alloc | apply pw_below_drewN | apply below_drew1 | refine below_set ?_ GE161.out) | exact HB.out))⟩)
  }
  {
  skip
  refine goes_ Tryd.func45 (by kernel_rfl) rfl #[.string a0_8] (by rfl) rfl rfl (by (try simp only [List.map_toArray, List.map_cons, List.map_nil]); first | done | rfl | (simp only [List.length_drop, List.length_take]; rfl)) ?_
  with_reducible refine (spec_l03Or.calls a0_8 t173 _ A22.out).mono ?_
  rintro e w' ⟨rfl, ⟨nd, rfl⟩⟩
  refine ⟨_, rfl, ?_⟩
  refine hK.out _ _ ⟨(blk_cell BK161.out 0).trans rfl, (blk_cell BK161.out 1).trans rfl, (blk_cell BK161.out 2).trans rfl, (blk_cell BK161.out 3).trans rfl, (blk_cell BK161.out 4).trans rfl, (blk_cell BK161.out 5).trans rfl, (blk_cell BK161.out 6).trans rfl, (blk_cell BK161.out 7).trans rfl, (blk_cell BK161.out 8).trans rfl, (blk_cell BK161.out 9).trans rfl⟩ (fun hHeld => ?_)
  clear hK K
  refine norm_ (a' := ?_) ?_ ?_
  rotate_left
  · show Act.put _ (some 46) _ = _
    simp only [Act.put, List.setIfInBounds_toArray, List.set_cons_zero, List.set_cons_succ, i64_w, i32_w]
    rfl
  exact norm_ (by first | (simp only [putAll, Act.put, List.setIfInBounds_toArray, List.set_cons_zero, List.set_cons_succ]; done) | (simp only [putAll, Act.put, List.setIfInBounds_toArray, List.set_cons_zero, List.set_cons_succ]; rfl)) (hJ0_11_16_21_26_31 (.slice (some adz_v166) y165.length co39, adz_v166) _ ⟨hHeld, (by (with_reducible repeat (first | apply Kd.R_alloc | apply Kd.R_drewN | apply Kd.R_drew)); exact HO167.out), ⟨_, rfl⟩, (by (with_reducible repeat (first | refine blk_drewN ?_ _ | refine blk_drew ?_ | refine blk_alloc ?_ _)); exact BK161.out), (by repeat (first | (with_reducible first | exact HB.out | apply below_alloc | apply pw_below_drewN | apply below_drew1 | refine below_set ?_ GE161.out) | exact HB.out))⟩)
  }
  }
  }
  {
  skip
  rintro ⟨v166, adz_v166⟩ w38 ⟨hS_, h0_, h1_, h2_, h3_⟩
  have n0_ : Aside0 (Kd.R Kd.string 9 w38 w.heap.size (fun _ => True) v166 y165) := ⟨h0_⟩
  have n1_ : Aside0 (∃ c_, (v166 : Value) = .slice (some adz_v166) y165.length c_) := ⟨h1_⟩
  have n2_ : Aside0 (w38.heap[gb161]? = some (.cells #[.int .i64 a0_0, .string a0_1, .string a0_2, .int .i64 a0_3, .int .i64 a0_4, .int .i64 a0_5, .int .i64 a0_6, .string a0_7, .string a0_8, .string a0_9] 36 (0, 0))) := ⟨h2_⟩
  have n3_ : Aside0 (Below w.heap.size w w38) := ⟨h3_⟩
  clear BK161
  clear HB
  clear h0_ h1_ h2_ h3_
  have HO167 := n0_
  have HA_HO167 := n1_
  have BK161 := n2_
  have HB := n3_
  clear n0_ n1_ n2_ n3_
  have hHeld : w38.cell? ⟨gb161, 0, none⟩ = some (.int .i64 a0_0) ∧ w38.cell? ⟨gb161, 1, none⟩ = some (.string a0_1) ∧ w38.cell? ⟨gb161, 2, none⟩ = some (.string a0_2) ∧ w38.cell? ⟨gb161, 3, none⟩ = some (.int .i64 a0_3) ∧ w38.cell? ⟨gb161, 4, none⟩ = some (.int .i64 a0_4) ∧ w38.cell? ⟨gb161, 5, none⟩ = some (.int .i64 a0_5) ∧ w38.cell? ⟨gb161, 6, none⟩ = some (.int .i64 a0_6) ∧ w38.cell? ⟨gb161, 7, none⟩ = some (.string a0_7) ∧ w38.cell? ⟨gb161, 8, none⟩ = some (.string a0_8) ∧ w38.cell? ⟨gb161, 9, none⟩ = some (.string a0_9) := hS_
  obtain ⟨co39, eo39⟩ := HA_HO167.out
  clear HA_HO167
  subst eo39
  refine norm_ (a' := ?_) ?_ ?_
  rotate_left
  · simp only [putAll, Act.put, List.setIfInBounds_toArray, List.set_cons_zero, List.set_cons_succ]
    rfl
  refine one_ (i := 26) (N := some 41) #[true, true, true, true, true, true, true, true, true, true, true, true, true, true, true, true, true, true, true, true, true, true, true, true, true, true, true, false, false, true, true, false, false, false, true, true, true, false, false, false, true, true, false, false] rfl rfl (one_of HT_.out (by kernel_rfl)) (by decide) (fun K hK => ?_)
  refine goes_ Tryd.func45 (by kernel_rfl) rfl #[.string a0_7] (by rfl) rfl rfl (by (try simp only [List.map_toArray, List.map_cons, List.map_nil]); first | done | rfl | (simp only [List.length_drop, List.length_take]; rfl)) ?_
  with_reducible refine (spec_l03Or.calls a0_7 t172 _ A19.out).mono ?_
  rintro e w' ⟨rfl, ⟨nd, rfl⟩⟩
  refine ⟨_, rfl, ?_⟩
  refine hK.out _ _ ⟨(blk_cell BK161.out 0).trans rfl, (blk_cell BK161.out 1).trans rfl, (blk_cell BK161.out 2).trans rfl, (blk_cell BK161.out 3).trans rfl, (blk_cell BK161.out 4).trans rfl, (blk_cell BK161.out 5).trans rfl, (blk_cell BK161.out 6).trans rfl, (blk_cell BK161.out 7).trans rfl, (blk_cell BK161.out 8).trans rfl, (blk_cell BK161.out 9).trans rfl⟩ (fun hHeld => ?_)
  clear hK K
  refine norm_ (a' := ?_) ?_ ?_
  rotate_left
  · show Act.put _ (some 41) _ = _
    simp only [Act.put, List.setIfInBounds_toArray, List.set_cons_zero, List.set_cons_succ, i64_w, i32_w]
    rfl
  refine pure_ (i := 27) (N := some 42) (v := ?_) (a' := ?_) #[true, true, true, true, true, true, true, true, true, true, true, true, true, true, true, true, true, true, true, true, true, true, true, true, true, true, true, true, false, true, true, false, false, false, true, true, true, false, false, false, true, true, false, false] rfl rfl (any_of HT_.out (by kernel_rfl)) (fun _ _ _ h => h) (Or.inl ⟨by rfl, ?_⟩) ?_ ?_
  rotate_left
  · intro w'
    go_simp
    with_reducible rfl
  rotate_left
  · simp only [Act.put, List.setIfInBounds_toArray, List.set_cons_zero, List.set_cons_succ, i64_w, i32_w]
    rfl
  refine pure_ (i := 28) (N := some 43) (v := ?_) (a' := ?_) #[true, true, true, true, true, true, true, true, true, true, true, true, true, true, true, true, true, true, true, true, true, true, true, true, true, true, true, true, true, true, true, false, false, false, true, true, true, false, false, false, true, true, false, false] rfl rfl (any_of HT_.out (by kernel_rfl)) (fun _ _ _ h => h) (Or.inl ⟨by rfl, ?_⟩) ?_ ?_
  rotate_left
  · intro w'
    go_simp
    with_reducible rfl
  rotate_left
  · simp only [Act.put, List.setIfInBounds_toArray, List.set_cons_zero, List.set_cons_succ, i64_w, i32_w]
    rfl
  exact norm_ (by first | (simp only [putAll, Act.put, List.setIfInBounds_toArray, List.set_cons_zero, List.set_cons_succ]; done) | (simp only [putAll, Act.put, List.setIfInBounds_toArray, List.set_cons_zero, List.set_cons_succ]; rfl)) (hJ0_4_11_16_21_26 (.slice (some adz_v166) y165.length co39, adz_v166) _ ⟨hHeld, (by (with_reducible repeat (first | apply Kd.R_alloc | apply Kd.R_drewN | apply Kd.R_drew)); exact HO167.out), ⟨_, rfl⟩, (by (with_reducible repeat (first | refine blk_drewN ?_ _ | refine blk_drew ?_ | refine blk_alloc ?_ _)); exact BK161.out), (by repeat (first | (with_reducible first | exact HB.out | apply below_alloc | apply pw_below_drewN | apply below_drew1 | refine below_set ?_ GE161.out) | exact HB.out))⟩)
  }
  }
  {
  skip
  rintro _ w35 ⟨hS_, h0_, h1_⟩
  have n0_ : Aside0 (w35.heap[gb161]? = some (.cells #[.int .i64 a0_0, .string a0_1, .string a0_2, .int .i64 a0_3, .int .i64 a0_4, .int .i64 a0_5, .int .i64 a0_6, .string a0_7, .string a0_8, .string a0_9] 36 (0, 0))) := ⟨h0_⟩
  have n1_ : Aside0 (Below w.heap.size w w35) := ⟨h1_⟩
  clear BK161
  clear HB
  clear h0_ h1_
  have BK161 := n0_
  have HB := n1_
  clear n0_ n1_
  have hHeld : w35.cell? ⟨gb161, 0, none⟩ = some (.int .i64 a0_0) ∧ w35.cell? ⟨gb161, 1, none⟩ = some (.string a0_1) ∧ w35.cell? ⟨gb161, 2, none⟩ = some (.string a0_2) ∧ w35.cell? ⟨gb161, 3, none⟩ = some (.int .i64 a0_3) ∧ w35.cell? ⟨gb161, 4, none⟩ = some (.int .i64 a0_4) ∧ w35.cell? ⟨gb161, 5, none⟩ = some (.int .i64 a0_5) ∧ w35.cell? ⟨gb161, 6, none⟩ = some (.int .i64 a0_6) ∧ w35.cell? ⟨gb161, 7, none⟩ = some (.string a0_7) ∧ w35.cell? ⟨gb161, 8, none⟩ = some (.string a0_8) ∧ w35.cell? ⟨gb161, 9, none⟩ = some (.string a0_9) := hS_
  refine norm_ (a' := ?_) ?_ ?_
  rotate_left
  · simp only [putAll, Act.put, List.setIfInBounds_toArray, List.set_cons_zero, List.set_cons_succ]
    rfl
  refine one_ (i := 0) (N := some 15) #[true, true, true, false, false, false, true, false, false, true, true, true, false, false, true, true, true, false, false, true, true, true, false, false, true, true, true, false, false, true, true, true, false, false, true, true, true, true, false, false, true, true, false, false] rfl rfl (one_of HT_.out (by kernel_rfl)) (by decide) (fun K hK => ?_)
  refine Kd.R_lit_step Kd.string _ 9 ?hg (N := 15) ?hd (xs := ([(⟨#[102]⟩ : ByteArray), (⟨#[100]⟩ : ByteArray), (⟨#[108]⟩ : ByteArray), (⟨#[104]⟩ : ByteArray)] : List ByteArray)) (inner := [.string (⟨#[102]⟩ : ByteArray), .string (⟨#[100]⟩ : ByteArray), .string (⟨#[108]⟩ : ByteArray), .string (⟨#[104]⟩ : ByteArray)]) (ok := fun _ => True) (okp := fun _ => True) ?hr ?hp (fun _ hk => hk) trivial (Below.refl _ _) (Nat.le_refl _) (by simp) ?_; (case hd => rfl); (case hg => rfl); (case hr => first | (go_simp; done) | (go_simp; rfl)); (case hp => exact (Reps.one (show Kd.M Kd.string _ _ _ (⟨#[102]⟩ : ByteArray) [.string (⟨#[102]⟩ : ByteArray)] from rfl) (Reps.one (show Kd.M Kd.string _ _ _ (⟨#[100]⟩ : ByteArray) [.string (⟨#[100]⟩ : ByteArray)] from rfl) (Reps.one (show Kd.M Kd.string _ _ _ (⟨#[108]⟩ : ByteArray) [.string (⟨#[108]⟩ : ByteArray)] from rfl) (Reps.one (show Kd.M Kd.string _ _ _ (⟨#[104]⟩ : ByteArray) [.string (⟨#[104]⟩ : ByteArray)] from rfl) (Reps.none _ _))))))
  intro v166 w36 ho37 hb hg_ hnew_
  clear hg_ hnew_
  (first | rw [← Ny165.out] at ho37 | (simp only [Int.reduceToNat] at ho37; rw [← Ny165.out] at ho37))
  have n0_ := Aside0.mk (Kd.R_lower ho37 (below_size (by repeat (first | (with_reducible first | exact HB.out | apply below_alloc | apply pw_below_drewN | apply below_drew1 | refine below_set ?_ GE161.out) | exact HB.out))))
  have n1_ := Aside0.mk (blk_below (g := gb161) (o := .cells #[.int .i64 a0_0, .string a0_1, .string a0_2, .int .i64 a0_3, .int .i64 a0_4, .int .i64 a0_5, .int .i64 a0_6, .string a0_7, .string a0_8, .string a0_9] 36 (0, 0)) (by (with_reducible repeat (first | refine blk_drewN ?_ _ | refine blk_drew ?_ | refine blk_alloc ?_ _)); exact BK161.out) hb)
  have n2_ := Aside0.mk (below_step (by repeat (first | (with_reducible first | exact HB.out | apply below_alloc | apply pw_below_drewN | apply below_drew1 | refine below_set ?_ GE161.out) | exact HB.out)) hb)
  clear BK161
  clear HB
  have HO167 := n0_
  have BK161 := n1_
  have HB := n2_
  clear n0_ n1_ n2_
  clear hb ho37
  obtain ⟨Ao38, co38, eo38⟩ := Kd.R_slice HO167.out
  subst eo38
  obtain ⟨ado38, fo38, _⟩ := Kd.at_string (Kd.R_reads' HO167.out).2.2 0 (by decide) (by rw [Ny165.out]; simp)
  cases fo38
  refine hK.out _ _ ⟨(blk_cell BK161.out 0).trans rfl, (blk_cell BK161.out 1).trans rfl, (blk_cell BK161.out 2).trans rfl, (blk_cell BK161.out 3).trans rfl, (blk_cell BK161.out 4).trans rfl, (blk_cell BK161.out 5).trans rfl, (blk_cell BK161.out 6).trans rfl, (blk_cell BK161.out 7).trans rfl, (blk_cell BK161.out 8).trans rfl, (blk_cell BK161.out 9).trans rfl⟩ (fun hHeld => ?_)
  clear hK K
  refine norm_ (a' := ?_) ?_ ?_
  rotate_left
  · show Act.put _ (some 15) _ = _
    simp only [Act.put, List.setIfInBounds_toArray, List.set_cons_zero, List.set_cons_succ, i64_w, i32_w]
    rfl
  refine pure_ (i := 3) (N := some 18) (v := ?_) (a' := ?_) #[true, true, true, true, false, false, true, false, false, true, true, true, false, false, true, true, true, false, false, true, true, true, false, false, true, true, true, false, false, true, true, true, false, false, true, true, true, true, false, false, true, true, false, false] rfl rfl (any_of HT_.out (by kernel_rfl)) (fun _ _ _ h => h) (Or.inl ⟨by rfl, ?_⟩) ?_ ?_
  rotate_left
  · intro w'
    go_simp
    with_reducible rfl
  rotate_left
  · simp only [Act.put, List.setIfInBounds_toArray, List.set_cons_zero, List.set_cons_succ, i64_w, i32_w]
    rfl
  exact norm_ (by first | (simp only [putAll, Act.put, List.setIfInBounds_toArray, List.set_cons_zero, List.set_cons_succ]; done) | (simp only [putAll, Act.put, List.setIfInBounds_toArray, List.set_cons_zero, List.set_cons_succ]; rfl)) (hJ0_11_16_21_26_31_37 (.slice (some ado38) y165.length co38, ado38) _ ⟨hHeld, (by (with_reducible repeat (first | apply Kd.R_alloc | apply Kd.R_drewN | apply Kd.R_drew)); exact HO167.out), ⟨_, rfl⟩, (by (with_reducible repeat (first | refine blk_drewN ?_ _ | refine blk_drew ?_ | refine blk_alloc ?_ _)); exact BK161.out), (by repeat (first | (with_reducible first | exact HB.out | apply below_alloc | apply pw_below_drewN | apply below_drew1 | refine below_set ?_ GE161.out) | exact HB.out))⟩)
  }
  }
  {
  skip
  rintro ⟨v166, adz_v166⟩ w38 ⟨hS_, h0_, h1_, h2_, h3_⟩
  have n0_ : Aside0 (Kd.R Kd.string 9 w38 w.heap.size (fun _ => True) v166 y165) := ⟨h0_⟩
  have n1_ : Aside0 (∃ c_, (v166 : Value) = .slice (some adz_v166) y165.length c_) := ⟨h1_⟩
  have n2_ : Aside0 (w38.heap[gb161]? = some (.cells #[.int .i64 a0_0, .string a0_1, .string a0_2, .int .i64 a0_3, .int .i64 a0_4, .int .i64 a0_5, .int .i64 a0_6, .string a0_7, .string a0_8, .string a0_9] 36 (0, 0))) := ⟨h2_⟩
  have n3_ : Aside0 (Below w.heap.size w w38) := ⟨h3_⟩
  clear BK161
  clear HB
  clear h0_ h1_ h2_ h3_
  have HO167 := n0_
  have HA_HO167 := n1_
  have BK161 := n2_
  have HB := n3_
  clear n0_ n1_ n2_ n3_
  have hHeld : w38.cell? ⟨gb161, 0, none⟩ = some (.int .i64 a0_0) ∧ w38.cell? ⟨gb161, 1, none⟩ = some (.string a0_1) ∧ w38.cell? ⟨gb161, 2, none⟩ = some (.string a0_2) ∧ w38.cell? ⟨gb161, 3, none⟩ = some (.int .i64 a0_3) ∧ w38.cell? ⟨gb161, 4, none⟩ = some (.int .i64 a0_4) ∧ w38.cell? ⟨gb161, 5, none⟩ = some (.int .i64 a0_5) ∧ w38.cell? ⟨gb161, 6, none⟩ = some (.int .i64 a0_6) ∧ w38.cell? ⟨gb161, 7, none⟩ = some (.string a0_7) ∧ w38.cell? ⟨gb161, 8, none⟩ = some (.string a0_8) ∧ w38.cell? ⟨gb161, 9, none⟩ = some (.string a0_9) := hS_
  obtain ⟨co39, eo39⟩ := HA_HO167.out
  clear HA_HO167
  subst eo39
  refine norm_ (a' := ?_) ?_ ?_
  rotate_left
  · simp only [putAll, Act.put, List.setIfInBounds_toArray, List.set_cons_zero, List.set_cons_succ]
    rfl
  refine two_ (i := 4) (j := 37) (Ni := some 19) (Nj := some 52) #[true, true, true, true, true, false, true, false, false, true, true, true, false, false, true, true, true, false, false, true, true, true, false, false, true, true, true, false, false, true, true, true, false, false, true, true, true, false, false, false, true, true, false, false] #[true, true, true, true, false, false, true, false, false, true, true, true, false, false, true, true, true, false, false, true, true, true, false, false, true, true, true, false, false, true, true, true, false, false, true, true, true, true, false, false, true, true, false, false] rfl rfl rfl rfl (two_of HT_.out (by kernel_rfl)) (by decide) (by decide) (fun K hK => ?_) (fun K hK => ?_)
  {
  skip
  (have p168 : 0 ≤ (a0_0 : Int) := of_decide_eq_true (by assumption); have q168 : a0_0 < (y165.length : Int) := of_decide_eq_true (by assumption); obtain ⟨ad168, e168, hx168_0⟩ := Kd.at_string (Kd.R_reads' HO167.out).2.2 a0_0 p168 q168; obtain rfl : adz_v166 = ad168 := (by injection e168))
  refine value_ (w1 := ?_) (v := ?_) (by rfl) rfl ?_ ?_
  rotate_left 2
  · go_simp
    constructor
    · rfl
    · rfl
  clear hx168_0
  refine hK.out _ _ ⟨(blk_cell BK161.out 0).trans rfl, (blk_cell BK161.out 1).trans rfl, (blk_cell BK161.out 2).trans rfl, (blk_cell BK161.out 3).trans rfl, (blk_cell BK161.out 4).trans rfl, (blk_cell BK161.out 5).trans rfl, (blk_cell BK161.out 6).trans rfl, (blk_cell BK161.out 7).trans rfl, (blk_cell BK161.out 8).trans rfl, (blk_cell BK161.out 9).trans rfl⟩ (fun hHeld => ?_)
  clear hK K
  refine norm_ (a' := ?_) ?_ ?_
  rotate_left
  · show Act.put _ (some 19) _ = _
    simp only [Act.put, List.setIfInBounds_toArray, List.set_cons_zero, List.set_cons_succ, i64_w, i32_w]
    rfl
  refine pure_ (i := 5) (N := some 20) (v := ?_) (a' := ?_) #[true, true, true, true, true, true, true, false, false, true, true, true, false, false, true, true, true, false, false, true, true, true, false, false, true, true, true, false, false, true, true, true, false, false, true, true, true, false, false, false, true, true, false, false] rfl rfl (any_of HT_.out (by kernel_rfl)) (fun _ _ _ h => h) (Or.inl ⟨by rfl, ?_⟩) ?_ ?_
  rotate_left
  · intro w'
    go_simp
    with_reducible rfl
  rotate_left
  · simp only [Act.put, List.setIfInBounds_toArray, List.set_cons_zero, List.set_cons_succ, i64_w, i32_w]
    rfl
  refine pure_ (i := 7) (N := some 22) (v := ?_) (a' := ?_) #[true, true, true, true, true, true, true, true, false, true, true, true, false, false, true, true, true, false, false, true, true, true, false, false, true, true, true, false, false, true, true, true, false, false, true, true, true, false, false, false, true, true, false, false] rfl rfl (any_of HT_.out (by kernel_rfl)) (fun _ _ _ h => h) (Or.inl ⟨by rfl, ?_⟩) ?_ ?_
  rotate_left
  · intro w'
    go_simp
    with_reducible rfl
  rotate_left
  · simp only [Act.put, List.setIfInBounds_toArray, List.set_cons_zero, List.set_cons_succ, i64_w, i32_w]
    rfl
  refine pure_ (i := 8) (N := some 23) (v := ?_) (a' := ?_) #[true, true, true, true, true, true, true, true, true, true, true, true, false, false, true, true, true, false, false, true, true, true, false, false, true, true, true, false, false, true, true, true, false, false, true, true, true, false, false, false, true, true, false, false] rfl rfl (any_of HT_.out (by kernel_rfl)) (fun _ _ _ h => h) (Or.inl ⟨by rfl, ?_⟩) ?_ ?_
  rotate_left
  · intro w'
    go_simp
    with_reducible rfl
  rotate_left
  · simp only [Act.put, List.setIfInBounds_toArray, List.set_cons_zero, List.set_cons_succ, i64_w, i32_w]
    rfl
  refine pure_ (i := 12) (N := some 27) (v := ?_) (a' := ?_) #[true, true, true, true, true, true, true, true, true, true, true, true, true, false, true, true, true, false, false, true, true, true, false, false, true, true, true, false, false, true, true, true, false, false, true, true, true, false, false, false, true, true, false, false] rfl rfl (any_of HT_.out (by kernel_rfl)) (fun _ _ _ h => h) (Or.inl ⟨by rfl, ?_⟩) ?_ ?_
  rotate_left
  · intro w'
    go_simp
    with_reducible rfl
  rotate_left
  · simp only [Act.put, List.setIfInBounds_toArray, List.set_cons_zero, List.set_cons_succ, i64_w, i32_w]
    rfl
  refine pure_ (i := 13) (N := some 28) (v := ?_) (a' := ?_) #[true, true, true, true, true, true, true, true, true, true, true, true, true, true, true, true, true, false, false, true, true, true, false, false, true, true, true, false, false, true, true, true, false, false, true, true, true, false, false, false, true, true, false, false] rfl rfl (any_of HT_.out (by kernel_rfl)) (fun _ _ _ h => h) (Or.inl ⟨by rfl, ?_⟩) ?_ ?_
  rotate_left
  · intro w'
    go_simp
    with_reducible rfl
  rotate_left
  · simp only [Act.put, List.setIfInBounds_toArray, List.set_cons_zero, List.set_cons_succ, i64_w, i32_w]
    rfl
  refine pure_ (i := 17) (N := some 32) (v := ?_) (a' := ?_) #[true, true, true, true, true, true, true, true, true, true, true, true, true, true, true, true, true, true, false, true, true, true, false, false, true, true, true, false, false, true, true, true, false, false, true, true, true, false, false, false, true, true, false, false] rfl rfl (any_of HT_.out (by kernel_rfl)) (fun _ _ _ h => h) (Or.inl ⟨by rfl, ?_⟩) ?_ ?_
  rotate_left
  · intro w'
    go_simp
    with_reducible rfl
  rotate_left
  · simp only [Act.put, List.setIfInBounds_toArray, List.set_cons_zero, List.set_cons_succ, i64_w, i32_w]
    rfl
  refine pure_ (i := 18) (N := some 33) (v := ?_) (a' := ?_) #[true, true, true, true, true, true, true, true, true, true, true, true, true, true, true, true, true, true, true, true, true, true, false, false, true, true, true, false, false, true, true, true, false, false, true, true, true, false, false, false, true, true, false, false] rfl rfl (any_of HT_.out (by kernel_rfl)) (fun _ _ _ h => h) (Or.inl ⟨by rfl, ?_⟩) ?_ ?_
  rotate_left
  · intro w'
    go_simp
    with_reducible rfl
  rotate_left
  · simp only [Act.put, List.setIfInBounds_toArray, List.set_cons_zero, List.set_cons_succ, i64_w, i32_w]
    rfl
  refine pure_ (i := 22) (N := some 37) (v := ?_) (a' := ?_) #[true, true, true, true, true, true, true, true, true, true, true, true, true, true, true, true, true, true, true, true, true, true, true, false, true, true, true, false, false, true, true, true, false, false, true, true, true, false, false, false, true, true, false, false] rfl rfl (any_of HT_.out (by kernel_rfl)) (fun _ _ _ h => h) (Or.inl ⟨by rfl, ?_⟩) ?_ ?_
  rotate_left
  · intro w'
    go_simp
    with_reducible rfl
  rotate_left
  · simp only [Act.put, List.setIfInBounds_toArray, List.set_cons_zero, List.set_cons_succ, i64_w, i32_w]
    rfl
  refine pure_ (i := 23) (N := some 38) (v := ?_) (a' := ?_) #[true, true, true, true, true, true, true, true, true, true, true, true, true, true, true, true, true, true, true, true, true, true, true, true, true, true, true, false, false, true, true, true, false, false, true, true, true, false, false, false, true, true, false, false] rfl rfl (any_of HT_.out (by kernel_rfl)) (fun _ _ _ h => h) (Or.inl ⟨by rfl, ?_⟩) ?_ ?_
  rotate_left
  · intro w'
    go_simp
    with_reducible rfl
  rotate_left
  · simp only [Act.put, List.setIfInBounds_toArray, List.set_cons_zero, List.set_cons_succ, i64_w, i32_w]
    rfl
  refine pure_ (i := 27) (N := some 42) (v := ?_) (a' := ?_) #[true, true, true, true, true, true, true, true, true, true, true, true, true, true, true, true, true, true, true, true, true, true, true, true, true, true, true, true, false, true, true, true, false, false, true, true, true, false, false, false, true, true, false, false] rfl rfl (any_of HT_.out (by kernel_rfl)) (fun _ _ _ h => h) (Or.inl ⟨by rfl, ?_⟩) ?_ ?_
  rotate_left
  · intro w'
    go_simp
    with_reducible rfl
  rotate_left
  · simp only [Act.put, List.setIfInBounds_toArray, List.set_cons_zero, List.set_cons_succ, i64_w, i32_w]
    rfl
  refine pure_ (i := 28) (N := some 43) (v := ?_) (a' := ?_) #[true, true, true, true, true, true, true, true, true, true, true, true, true, true, true, true, true, true, true, true, true, true, true, true, true, true, true, true, true, true, true, true, false, false, true, true, true, false, false, false, true, true, false, false] rfl rfl (any_of HT_.out (by kernel_rfl)) (fun _ _ _ h => h) (Or.inl ⟨by rfl, ?_⟩) ?_ ?_
  rotate_left
  · intro w'
    go_simp
    with_reducible rfl
  rotate_left
  · simp only [Act.put, List.setIfInBounds_toArray, List.set_cons_zero, List.set_cons_succ, i64_w, i32_w]
    rfl
  refine pure_ (i := 32) (N := some 47) (v := ?_) (a' := ?_) #[true, true, true, true, true, true, true, true, true, true, true, true, true, true, true, true, true, true, true, true, true, true, true, true, true, true, true, true, true, true, true, true, true, false, true, true, true, false, false, false, true, true, false, false] rfl rfl (any_of HT_.out (by kernel_rfl)) (fun _ _ _ h => h) (Or.inl ⟨by rfl, ?_⟩) ?_ ?_
  rotate_left
  · intro w'
    go_simp
    with_reducible rfl
  rotate_left
  · simp only [Act.put, List.setIfInBounds_toArray, List.set_cons_zero, List.set_cons_succ, i64_w, i32_w]
    rfl
  refine pure_ (i := 33) (N := some 48) (v := ?_) (a' := ?_) #[true, true, true, true, true, true, true, true, true, true, true, true, true, true, true, true, true, true, true, true, true, true, true, true, true, true, true, true, true, true, true, true, true, true, true, true, true, false, false, false, true, true, false, false] rfl rfl (any_of HT_.out (by kernel_rfl)) (fun _ _ _ h => h) (Or.inl ⟨by rfl, ?_⟩) ?_ ?_
  rotate_left
  · intro w'
    go_simp
    with_reducible rfl
  rotate_left
  · simp only [Act.put, List.setIfInBounds_toArray, List.set_cons_zero, List.set_cons_succ, i64_w, i32_w]
    rfl
  exact norm_ (by first | (simp only [putAll, Act.put, List.setIfInBounds_toArray, List.set_cons_zero, List.set_cons_succ]; done) | (simp only [putAll, Act.put, List.setIfInBounds_toArray, List.set_cons_zero, List.set_cons_succ]; rfl)) (hJ0_4_11_16_21_26_31 (.slice (some adz_v166) y165.length co39, adz_v166) _ ⟨hHeld, (by (with_reducible repeat (first | apply Kd.R_alloc | apply Kd.R_drewN | apply Kd.R_drew)); exact HO167.out), ⟨_, rfl⟩, (by (with_reducible repeat (first | refine blk_drewN ?_ _ | refine blk_drew ?_ | refine blk_alloc ?_ _)); exact BK161.out), (by repeat (first | (with_reducible first | exact HB.out | apply below_alloc | apply pw_below_drewN | apply below_drew1 | refine below_set ?_ GE161.out) | exact HB.out))⟩)
  }
  {
  skip
  refine goes_ Tryd.func44 (by kernel_rfl) rfl #[.int .i64 (a0_9.size : Int)] (by rfl) rfl rfl (by (try simp only [List.map_toArray, List.map_cons, List.map_nil]); first | done | rfl | (simp only [List.length_drop, List.length_take]; rfl)) ?_
  with_reducible refine (spec_DecText.calls k (a0_9.size : Int) t174 _ A25.out).mono ?_
  rintro e w' ⟨rfl, ⟨nd, rfl⟩⟩
  refine ⟨_, rfl, ?_⟩
  refine hK.out _ _ ⟨(blk_cell BK161.out 0).trans rfl, (blk_cell BK161.out 1).trans rfl, (blk_cell BK161.out 2).trans rfl, (blk_cell BK161.out 3).trans rfl, (blk_cell BK161.out 4).trans rfl, (blk_cell BK161.out 5).trans rfl, (blk_cell BK161.out 6).trans rfl, (blk_cell BK161.out 7).trans rfl, (blk_cell BK161.out 8).trans rfl, (blk_cell BK161.out 9).trans rfl⟩ (fun hHeld => ?_)
  clear hK K
  refine norm_ (a' := ?_) ?_ ?_
  rotate_left
  · show Act.put _ (some 52) _ = _
    simp only [Act.put, List.setIfInBounds_toArray, List.set_cons_zero, List.set_cons_succ, i64_w, i32_w]
    rfl
  exact norm_ (by first | (simp only [putAll, Act.put, List.setIfInBounds_toArray, List.set_cons_zero, List.set_cons_succ]; done) | (simp only [putAll, Act.put, List.setIfInBounds_toArray, List.set_cons_zero, List.set_cons_succ]; rfl)) (hJ0_11_16_21_26_31_37 (.slice (some adz_v166) y165.length co39, adz_v166) _ ⟨hHeld, (by (with_reducible repeat (first | apply Kd.R_alloc | apply Kd.R_drewN | apply Kd.R_drew)); exact HO167.out), ⟨_, rfl⟩, (by (with_reducible repeat (first | refine blk_drewN ?_ _ | refine blk_drew ?_ | refine blk_alloc ?_ _)); exact BK161.out), (by repeat (first | (with_reducible first | exact HB.out | apply below_alloc | apply pw_below_drewN | apply below_drew1 | refine below_set ?_ GE161.out) | exact HB.out))⟩)
  }
  }
  }
  {
  skip
  rintro ⟨v166, adz_v166⟩ w38 ⟨hS_, h0_, h1_, h2_, h3_⟩
  have n0_ : Aside0 (Kd.R Kd.string 9 w38 w.heap.size (fun _ => True) v166 y165) := ⟨h0_⟩
  have n1_ : Aside0 (∃ c_, (v166 : Value) = .slice (some adz_v166) y165.length c_) := ⟨h1_⟩
  have n2_ : Aside0 (w38.heap[gb161]? = some (.cells #[.int .i64 a0_0, .string a0_1, .string a0_2, .int .i64 a0_3, .int .i64 a0_4, .int .i64 a0_5, .int .i64 a0_6, .string a0_7, .string a0_8, .string a0_9] 36 (0, 0))) := ⟨h2_⟩
  have n3_ : Aside0 (Below w.heap.size w w38) := ⟨h3_⟩
  clear BK161
  clear HB
  clear h0_ h1_ h2_ h3_
  have HO167 := n0_
  have HA_HO167 := n1_
  have BK161 := n2_
  have HB := n3_
  clear n0_ n1_ n2_ n3_
  have hHeld : w38.cell? ⟨gb161, 0, none⟩ = some (.int .i64 a0_0) ∧ w38.cell? ⟨gb161, 1, none⟩ = some (.string a0_1) ∧ w38.cell? ⟨gb161, 2, none⟩ = some (.string a0_2) ∧ w38.cell? ⟨gb161, 3, none⟩ = some (.int .i64 a0_3) ∧ w38.cell? ⟨gb161, 4, none⟩ = some (.int .i64 a0_4) ∧ w38.cell? ⟨gb161, 5, none⟩ = some (.int .i64 a0_5) ∧ w38.cell? ⟨gb161, 6, none⟩ = some (.int .i64 a0_6) ∧ w38.cell? ⟨gb161, 7, none⟩ = some (.string a0_7) ∧ w38.cell? ⟨gb161, 8, none⟩ = some (.string a0_8) ∧ w38.cell? ⟨gb161, 9, none⟩ = some (.string a0_9) := hS_
  obtain ⟨co39, eo39⟩ := HA_HO167.out
  clear HA_HO167
  subst eo39
  refine norm_ (a' := ?_) ?_ ?_
  rotate_left
  · simp only [putAll, Act.put, List.setIfInBounds_toArray, List.set_cons_zero, List.set_cons_succ]
    rfl
  refine one_ (i := 31) (N := some 46) #[true, true, true, true, true, true, true, true, true, true, true, true, true, true, true, true, true, true, true, true, true, true, true, true, true, true, true, true, true, true, true, true, false, false, true, true, true, false, false, false, true, true, false, false] rfl rfl (one_of HT_.out (by kernel_rfl)) (by decide) (fun K hK => ?_)
  refine goes_ Tryd.func45 (by kernel_rfl) rfl #[.string a0_8] (by rfl) rfl rfl (by (try simp only [List.map_toArray, List.map_cons, List.map_nil]); first | done | rfl | (simp only [List.length_drop, List.length_take]; rfl)) ?_
  with_reducible refine (spec_l03Or.calls a0_8 t173 _ A22.out).mono ?_
  rintro e w' ⟨rfl, ⟨nd, rfl⟩⟩
  refine ⟨_, rfl, ?_⟩
  refine hK.out _ _ ⟨(blk_cell BK161.out 0).trans rfl, (blk_cell BK161.out 1).trans rfl, (blk_cell BK161.out 2).trans rfl, (blk_cell BK161.out 3).trans rfl, (blk_cell BK161.out 4).trans rfl, (blk_cell BK161.out 5).trans rfl, (blk_cell BK161.out 6).trans rfl, (blk_cell BK161.out 7).trans rfl, (blk_cell BK161.out 8).trans rfl, (blk_cell BK161.out 9).trans rfl⟩ (fun hHeld => ?_)
  clear hK K
  refine norm_ (a' := ?_) ?_ ?_
  rotate_left
  · show Act.put _ (some 46) _ = _
    simp only [Act.put, List.setIfInBounds_toArray, List.set_cons_zero, List.set_cons_succ, i64_w, i32_w]
    rfl
  refine pure_ (i := 32) (N := some 47) (v := ?_) (a' := ?_) #[true, true, true, true, true, true, true, true, true, true, true, true, true, true, true, true, true, true, true, true, true, true, true, true, true, true, true, true, true, true, true, true, true, false, true, true, true, false, false, false, true, true, false, false] rfl rfl (any_of HT_.out (by kernel_rfl)) (fun _ _ _ h => h) (Or.inl ⟨by rfl, ?_⟩) ?_ ?_
  rotate_left
  · intro w'
    go_simp
    with_reducible rfl
  rotate_left
  · simp only [Act.put, List.setIfInBounds_toArray, List.set_cons_zero, List.set_cons_succ, i64_w, i32_w]
    rfl
  refine pure_ (i := 33) (N := some 48) (v := ?_) (a' := ?_) #[true, true, true, true, true, true, true, true, true, true, true, true, true, true, true, true, true, true, true, true, true, true, true, true, true, true, true, true, true, true, true, true, true, true, true, true, true, false, false, false, true, true, false, false] rfl rfl (any_of HT_.out (by kernel_rfl)) (fun _ _ _ h => h) (Or.inl ⟨by rfl, ?_⟩) ?_ ?_
  rotate_left
  · intro w'
    go_simp
    with_reducible rfl
  rotate_left
  · simp only [Act.put, List.setIfInBounds_toArray, List.set_cons_zero, List.set_cons_succ, i64_w, i32_w]
    rfl
  exact norm_ (by first | (simp only [putAll, Act.put, List.setIfInBounds_toArray, List.set_cons_zero, List.set_cons_succ]; done) | (simp only [putAll, Act.put, List.setIfInBounds_toArray, List.set_cons_zero, List.set_cons_succ]; rfl)) (hJ0_4_11_16_21_26_31 (.slice (some adz_v166) y165.length co39, adz_v166) _ ⟨hHeld, (by (with_reducible repeat (first | apply Kd.R_alloc | apply Kd.R_drewN | apply Kd.R_drew)); exact HO167.out), ⟨_, rfl⟩, (by (with_reducible repeat (first | refine blk_drewN ?_ _ | refine blk_drew ?_ | refine blk_alloc ?_ _)); exact BK161.out), (by repeat (first | (with_reducible first | exact HB.out | apply below_alloc | apply pw_below_drewN | apply below_drew1 | refine below_set ?_ GE161.out) | exact HB.out))⟩)
  }
  }
  {
  skip
  rintro ⟨v166, adz_v166⟩ w38 ⟨hS_, h0_, h1_, h2_, h3_⟩
  have n0_ : Aside0 (Kd.R Kd.string 9 w38 w.heap.size (fun _ => True) v166 y165) := ⟨h0_⟩
  have n1_ : Aside0 (∃ c_, (v166 : Value) = .slice (some adz_v166) y165.length c_) := ⟨h1_⟩
  have n2_ : Aside0 (w38.heap[gb161]? = some (.cells #[.int .i64 a0_0, .string a0_1, .string a0_2, .int .i64 a0_3, .int .i64 a0_4, .int .i64 a0_5, .int .i64 a0_6, .string a0_7, .string a0_8, .string a0_9] 36 (0, 0))) := ⟨h2_⟩
  have n3_ : Aside0 (Below w.heap.size w w38) := ⟨h3_⟩
  clear BK161
  clear HB
  clear h0_ h1_ h2_ h3_
  have HO167 := n0_
  have HA_HO167 := n1_
  have BK161 := n2_
  have HB := n3_
  clear n0_ n1_ n2_ n3_
  have hHeld : w38.cell? ⟨gb161, 0, none⟩ = some (.int .i64 a0_0) ∧ w38.cell? ⟨gb161, 1, none⟩ = some (.string a0_1) ∧ w38.cell? ⟨gb161, 2, none⟩ = some (.string a0_2) ∧ w38.cell? ⟨gb161, 3, none⟩ = some (.int .i64 a0_3) ∧ w38.cell? ⟨gb161, 4, none⟩ = some (.int .i64 a0_4) ∧ w38.cell? ⟨gb161, 5, none⟩ = some (.int .i64 a0_5) ∧ w38.cell? ⟨gb161, 6, none⟩ = some (.int .i64 a0_6) ∧ w38.cell? ⟨gb161, 7, none⟩ = some (.string a0_7) ∧ w38.cell? ⟨gb161, 8, none⟩ = some (.string a0_8) ∧ w38.cell? ⟨gb161, 9, none⟩ = some (.string a0_9) := hS_
  obtain ⟨co39, eo39⟩ := HA_HO167.out
  clear HA_HO167
  subst eo39
  refine norm_ (a' := ?_) ?_ ?_
  rotate_left
  · simp only [putAll, Act.put, List.setIfInBounds_toArray, List.set_cons_zero, List.set_cons_succ]
    rfl
  refine one_ (i := 4) (N := some 19) #[true, true, true, true, true, false, true, false, false, true, true, true, false, false, true, true, true, false, false, true, true, true, false, false, true, true, true, false, false, true, true, true, false, false, true, true, true, true, false, false, true, true, false, false] rfl rfl (one_of HT_.out (by kernel_rfl)) (by decide) (fun K hK => ?_)
  (have p168 : 0 ≤ (a0_0 : Int) := of_decide_eq_true (by assumption); have q168 : a0_0 < (y165.length : Int) := of_decide_eq_true (by assumption); obtain ⟨ad168, e168, hx168_0⟩ := Kd.at_string (Kd.R_reads' HO167.out).2.2 a0_0 p168 q168; obtain rfl : adz_v166 = ad168 := (by injection e168))
  refine value_ (w1 := ?_) (v := ?_) (by rfl) rfl ?_ ?_
  rotate_left 2
  · go_simp
    constructor
    · rfl
    · rfl
  clear hx168_0
  refine hK.out _ _ ⟨(blk_cell BK161.out 0).trans rfl, (blk_cell BK161.out 1).trans rfl, (blk_cell BK161.out 2).trans rfl, (blk_cell BK161.out 3).trans rfl, (blk_cell BK161.out 4).trans rfl, (blk_cell BK161.out 5).trans rfl, (blk_cell BK161.out 6).trans rfl, (blk_cell BK161.out 7).trans rfl, (blk_cell BK161.out 8).trans rfl, (blk_cell BK161.out 9).trans rfl⟩ (fun hHeld => ?_)
  clear hK K
  refine norm_ (a' := ?_) ?_ ?_
  rotate_left
  · show Act.put _ (some 19) _ = _
    simp only [Act.put, List.setIfInBounds_toArray, List.set_cons_zero, List.set_cons_succ, i64_w, i32_w]
    rfl
  refine pure_ (i := 5) (N := some 20) (v := ?_) (a' := ?_) #[true, true, true, true, true, true, true, false, false, true, true, true, false, false, true, true, true, false, false, true, true, true, false, false, true, true, true, false, false, true, true, true, false, false, true, true, true, true, false, false, true, true, false, false] rfl rfl (any_of HT_.out (by kernel_rfl)) (fun _ _ _ h => h) (Or.inl ⟨by rfl, ?_⟩) ?_ ?_
  rotate_left
  · intro w'
    go_simp
    with_reducible rfl
  rotate_left
  · simp only [Act.put, List.setIfInBounds_toArray, List.set_cons_zero, List.set_cons_succ, i64_w, i32_w]
    rfl
  refine pure_ (i := 7) (N := some 22) (v := ?_) (a' := ?_) #[true, true, true, true, true, true, true, true, false, true, true, true, false, false, true, true, true, false, false, true, true, true, false, false, true, true, true, false, false, true, true, true, false, false, true, true, true, true, false, false, true, true, false, false] rfl rfl (any_of HT_.out (by kernel_rfl)) (fun _ _ _ h => h) (Or.inl ⟨by rfl, ?_⟩) ?_ ?_
  rotate_left
  · intro w'
    go_simp
    with_reducible rfl
  rotate_left
  · simp only [Act.put, List.setIfInBounds_toArray, List.set_cons_zero, List.set_cons_succ, i64_w, i32_w]
    rfl
  refine pure_ (i := 8) (N := some 23) (v := ?_) (a' := ?_) #[true, true, true, true, true, true, true, true, true, true, true, true, false, false, true, true, true, false, false, true, true, true, false, false, true, true, true, false, false, true, true, true, false, false, true, true, true, true, false, false, true, true, false, false] rfl rfl (any_of HT_.out (by kernel_rfl)) (fun _ _ _ h => h) (Or.inl ⟨by rfl, ?_⟩) ?_ ?_
  rotate_left
  · intro w'
    go_simp
    with_reducible rfl
  rotate_left
  · simp only [Act.put, List.setIfInBounds_toArray, List.set_cons_zero, List.set_cons_succ, i64_w, i32_w]
    rfl
  refine pure_ (i := 12) (N := some 27) (v := ?_) (a' := ?_) #[true, true, true, true, true, true, true, true, true, true, true, true, true, false, true, true, true, false, false, true, true, true, false, false, true, true, true, false, false, true, true, true, false, false, true, true, true, true, false, false, true, true, false, false] rfl rfl (any_of HT_.out (by kernel_rfl)) (fun _ _ _ h => h) (Or.inl ⟨by rfl, ?_⟩) ?_ ?_
  rotate_left
  · intro w'
    go_simp
    with_reducible rfl
  rotate_left
  · simp only [Act.put, List.setIfInBounds_toArray, List.set_cons_zero, List.set_cons_succ, i64_w, i32_w]
    rfl
  refine pure_ (i := 13) (N := some 28) (v := ?_) (a' := ?_) #[true, true, true, true, true, true, true, true, true, true, true, true, true, true, true, true, true, false, false, true, true, true, false, false, true, true, true, false, false, true, true, true, false, false, true, true, true, true, false, false, true, true, false, false] rfl rfl (any_of HT_.out (by kernel_rfl)) (fun _ _ _ h => h) (Or.inl ⟨by rfl, ?_⟩) ?_ ?_
  rotate_left
  · intro w'
    go_simp
    with_reducible rfl
  rotate_left
  · simp only [Act.put, List.setIfInBounds_toArray, List.set_cons_zero, List.set_cons_succ, i64_w, i32_w]
    rfl
  refine pure_ (i := 17) (N := some 32) (v := ?_) (a' := ?_) #[true, true, true, true, true, true, true, true, true, true, true, true, true, true, true, true, true, true, false, true, true, true, false, false, true, true, true, false, false, true, true, true, false, false, true, true, true, true, false, false, true, true, false, false] rfl rfl (any_of HT_.out (by kernel_rfl)) (fun _ _ _ h => h) (Or.inl ⟨by rfl, ?_⟩) ?_ ?_
  rotate_left
  · intro w'
    go_simp
    with_reducible rfl
  rotate_left
  · simp only [Act.put, List.setIfInBounds_toArray, List.set_cons_zero, List.set_cons_succ, i64_w, i32_w]
    rfl
  refine pure_ (i := 18) (N := some 33) (v := ?_) (a' := ?_) #[true, true, true, true, true, true, true, true, true, true, true, true, true, true, true, true, true, true, true, true, true, true, false, false, true, true, true, false, false, true, true, true, false, false, true, true, true, true, false, false, true, true, false, false] rfl rfl (any_of HT_.out (by kernel_rfl)) (fun _ _ _ h => h) (Or.inl ⟨by rfl, ?_⟩) ?_ ?_
  rotate_left
  · intro w'
    go_simp
    with_reducible rfl
  rotate_left
  · simp only [Act.put, List.setIfInBounds_toArray, List.set_cons_zero, List.set_cons_succ, i64_w, i32_w]
    rfl
  refine pure_ (i := 22) (N := some 37) (v := ?_) (a' := ?_) #[true, true, true, true, true, true, true, true, true, true, true, true, true, true, true, true, true, true, true, true, true, true, true, false, true, true, true, false, false, true, true, true, false, false, true, true, true, true, false, false, true, true, false, false] rfl rfl (any_of HT_.out (by kernel_rfl)) (fun _ _ _ h => h) (Or.inl ⟨by rfl, ?_⟩) ?_ ?_
  rotate_left
  · intro w'
    go_simp
    with_reducible rfl
  rotate_left
  · simp only [Act.put, List.setIfInBounds_toArray, List.set_cons_zero, List.set_cons_succ, i64_w, i32_w]
    rfl
  refine pure_ (i := 23) (N := some 38) (v := ?_) (a' := ?_) #[true, true, true, true, true, true, true, true, true, true, true, true, true, true, true, true, true, true, true, true, true, true, true, true, true, true, true, false, false, true, true, true, false, false, true, true, true, true, false, false, true, true, false, false] rfl rfl (any_of HT_.out (by kernel_rfl)) (fun _ _ _ h => h) (Or.inl ⟨by rfl, ?_⟩) ?_ ?_
  rotate_left
  · intro w'
    go_simp
    with_reducible rfl
  rotate_left
  · simp only [Act.put, List.setIfInBounds_toArray, List.set_cons_zero, List.set_cons_succ, i64_w, i32_w]
    rfl
  refine pure_ (i := 27) (N := some 42) (v := ?_) (a' := ?_) #[true, true, true, true, true, true, true, true, true, true, true, true, true, true, true, true, true, true, true, true, true, true, true, true, true, true, true, true, false, true, true, true, false, false, true, true, true, true, false, false, true, true, false, false] rfl rfl (any_of HT_.out (by kernel_rfl)) (fun _ _ _ h => h) (Or.inl ⟨by rfl, ?_⟩) ?_ ?_
  rotate_left
  · intro w'
    go_simp
    with_reducible rfl
  rotate_left
  · simp only [Act.put, List.setIfInBounds_toArray, List.set_cons_zero, List.set_cons_succ, i64_w, i32_w]
    rfl
  refine pure_ (i := 28) (N := some 43) (v := ?_) (a' := ?_) #[true, true, true, true, true, true, true, true, true, true, true, true, true, true, true, true, true, true, true, true, true, true, true, true, true, true, true, true, true, true, true, true, false, false, true, true, true, true, false, false, true, true, false, false] rfl rfl (any_of HT_.out (by kernel_rfl)) (fun _ _ _ h => h) (Or.inl ⟨by rfl, ?_⟩) ?_ ?_
  rotate_left
  · intro w'
    go_simp
    with_reducible rfl
  rotate_left
  · simp only [Act.put, List.setIfInBounds_toArray, List.set_cons_zero, List.set_cons_succ, i64_w, i32_w]
    rfl
  refine pure_ (i := 32) (N := some 47) (v := ?_) (a' := ?_) #[true, true, true, true, true, true, true, true, true, true, true, true, true, true, true, true, true, true, true, true, true, true, true, true, true, true, true, true, true, true, true, true, true, false, true, true, true, true, false, false, true, true, false, false] rfl rfl (any_of HT_.out (by kernel_rfl)) (fun _ _ _ h => h) (Or.inl ⟨by rfl, ?_⟩) ?_ ?_
  rotate_left
  · intro w'
    go_simp
    with_reducible rfl
  rotate_left
  · simp only [Act.put, List.setIfInBounds_toArray, List.set_cons_zero, List.set_cons_succ, i64_w, i32_w]
    rfl
  refine pure_ (i := 33) (N := some 48) (v := ?_) (a' := ?_) #[true, true, true, true, true, true, true, true, true, true, true, true, true, true, true, true, true, true, true, true, true, true, true, true, true, true, true, true, true, true, true, true, true, true, true, true, true, true, false, false, true, true, false, false] rfl rfl (any_of HT_.out (by kernel_rfl)) (fun _ _ _ h => h) (Or.inl ⟨by rfl, ?_⟩) ?_ ?_
  rotate_left
  · intro w'
    go_simp
    with_reducible rfl
  rotate_left
  · simp only [Act.put, List.setIfInBounds_toArray, List.set_cons_zero, List.set_cons_succ, i64_w, i32_w]
    rfl
  exact norm_ (by first | (simp only [putAll, Act.put, List.setIfInBounds_toArray, List.set_cons_zero, List.set_cons_succ]; done) | (simp only [putAll, Act.put, List.setIfInBounds_toArray, List.set_cons_zero, List.set_cons_succ]; rfl)) (hJ0_4_11_16_21_26_31_37 (.slice (some adz_v166) y165.length co39, adz_v166) _ ⟨hHeld, (by (with_reducible repeat (first | apply Kd.R_alloc | apply Kd.R_drewN | apply Kd.R_drew)); exact HO167.out), ⟨_, rfl⟩, (by (with_reducible repeat (first | refine blk_drewN ?_ _ | refine blk_drew ?_ | refine blk_alloc ?_ _)); exact BK161.out), (by repeat (first | (with_reducible first | exact HB.out | apply below_alloc | apply pw_below_drewN | apply below_drew1 | refine below_set ?_ GE161.out) | exact HB.out))⟩)
  }
  }
  {
  skip
  rintro ⟨v166, adz_v166⟩ w38 ⟨hS_, h0_, h1_, h2_, h3_⟩
  have n0_ : Aside0 (Kd.R Kd.string 9 w38 w.heap.size (fun _ => True) v166 y165) := ⟨h0_⟩
  have n1_ : Aside0 (∃ c_, (v166 : Value) = .slice (some adz_v166) y165.length c_) := ⟨h1_⟩
  have n2_ : Aside0 (w38.heap[gb161]? = some (.cells #[.int .i64 a0_0, .string a0_1, .string a0_2, .int .i64 a0_3, .int .i64 a0_4, .int .i64 a0_5, .int .i64 a0_6, .string a0_7, .string a0_8, .string a0_9] 36 (0, 0))) := ⟨h2_⟩
  have n3_ : Aside0 (Below w.heap.size w w38) := ⟨h3_⟩
  clear BK161
  clear HB
  clear h0_ h1_ h2_ h3_
  have HO167 := n0_
  have HA_HO167 := n1_
  have BK161 := n2_
  have HB := n3_
  clear n0_ n1_ n2_ n3_
  have hHeld : w38.cell? ⟨gb161, 0, none⟩ = some (.int .i64 a0_0) ∧ w38.cell? ⟨gb161, 1, none⟩ = some (.string a0_1) ∧ w38.cell? ⟨gb161, 2, none⟩ = some (.string a0_2) ∧ w38.cell? ⟨gb161, 3, none⟩ = some (.int .i64 a0_3) ∧ w38.cell? ⟨gb161, 4, none⟩ = some (.int .i64 a0_4) ∧ w38.cell? ⟨gb161, 5, none⟩ = some (.int .i64 a0_5) ∧ w38.cell? ⟨gb161, 6, none⟩ = some (.int .i64 a0_6) ∧ w38.cell? ⟨gb161, 7, none⟩ = some (.string a0_7) ∧ w38.cell? ⟨gb161, 8, none⟩ = some (.string a0_8) ∧ w38.cell? ⟨gb161, 9, none⟩ = some (.string a0_9) := hS_
  obtain ⟨co39, eo39⟩ := HA_HO167.out
  clear HA_HO167
  subst eo39
  refine norm_ (a' := ?_) ?_ ?_
  rotate_left
  · simp only [putAll, Act.put, List.setIfInBounds_toArray, List.set_cons_zero, List.set_cons_succ]
    rfl
  refine one_ (i := 37) (N := some 52) #[true, true, true, true, true, true, true, true, true, true, true, true, true, true, true, true, true, true, true, true, true, true, true, true, true, true, true, true, true, true, true, true, true, true, true, true, true, true, false, false, true, true, false, false] rfl rfl (one_of HT_.out (by kernel_rfl)) (by decide) (fun K hK => ?_)
  refine goes_ Tryd.func44 (by kernel_rfl) rfl #[.int .i64 (a0_9.size : Int)] (by rfl) rfl rfl (by (try simp only [List.map_toArray, List.map_cons, List.map_nil]); first | done | rfl | (simp only [List.length_drop, List.length_take]; rfl)) ?_
  with_reducible refine (spec_DecText.calls k (a0_9.size : Int) t174 _ A25.out).mono ?_
  rintro e w' ⟨rfl, ⟨nd, rfl⟩⟩
  refine ⟨_, rfl, ?_⟩
  refine hK.out _ _ ⟨(blk_cell BK161.out 0).trans rfl, (blk_cell BK161.out 1).trans rfl, (blk_cell BK161.out 2).trans rfl, (blk_cell BK161.out 3).trans rfl, (blk_cell BK161.out 4).trans rfl, (blk_cell BK161.out 5).trans rfl, (blk_cell BK161.out 6).trans rfl, (blk_cell BK161.out 7).trans rfl, (blk_cell BK161.out 8).trans rfl, (blk_cell BK161.out 9).trans rfl⟩ (fun hHeld => ?_)
  clear hK K
  refine norm_ (a' := ?_) ?_ ?_
  rotate_left
  · show Act.put _ (some 52) _ = _
    simp only [Act.put, List.setIfInBounds_toArray, List.set_cons_zero, List.set_cons_succ, i64_w, i32_w]
    rfl
  exact norm_ (by first | (simp only [putAll, Act.put, List.setIfInBounds_toArray, List.set_cons_zero, List.set_cons_succ]; done) | (simp only [putAll, Act.put, List.setIfInBounds_toArray, List.set_cons_zero, List.set_cons_succ]; rfl)) (hJ0_4_11_16_21_26_31_37 (.slice (some adz_v166) y165.length co39, adz_v166) _ ⟨hHeld, (by (with_reducible repeat (first | apply Kd.R_alloc | apply Kd.R_drewN | apply Kd.R_drew)); exact HO167.out), ⟨_, rfl⟩, (by (with_reducible repeat (first | refine blk_drewN ?_ _ | refine blk_drew ?_ | refine blk_alloc ?_ _)); exact BK161.out), (by repeat (first | (with_reducible first | exact HB.out | apply below_alloc | apply pw_below_drewN | apply below_drew1 | refine below_set ?_ GE161.out) | exact HB.out))⟩)
  }
  }
  rintro ⟨v166, adz_v166⟩ w38 ⟨hS_, h0_, h1_, h2_, h3_⟩
  have n0_ : Aside0 (Kd.R Kd.string 9 w38 w.heap.size (fun _ => True) v166 y165) := ⟨h0_⟩
  have n1_ : Aside0 (∃ c_, (v166 : Value) = .slice (some adz_v166) y165.length c_) := ⟨h1_⟩
  have n2_ : Aside0 (w38.heap[gb161]? = some (.cells #[.int .i64 a0_0, .string a0_1, .string a0_2, .int .i64 a0_3, .int .i64 a0_4, .int .i64 a0_5, .int .i64 a0_6, .string a0_7, .string a0_8, .string a0_9] 36 (0, 0))) := ⟨h2_⟩
  have n3_ : Aside0 (Below w.heap.size w w38) := ⟨h3_⟩
  clear BK161
  clear HB
  clear h0_ h1_ h2_ h3_
  have HO167 := n0_
  have HA_HO167 := n1_
  have BK161 := n2_
  have HB := n3_
  clear n0_ n1_ n2_ n3_
  have hHeld : w38.cell? ⟨gb161, 0, none⟩ = some (.int .i64 a0_0) ∧ w38.cell? ⟨gb161, 1, none⟩ = some (.string a0_1) ∧ w38.cell? ⟨gb161, 2, none⟩ = some (.string a0_2) ∧ w38.cell? ⟨gb161, 3, none⟩ = some (.int .i64 a0_3) ∧ w38.cell? ⟨gb161, 4, none⟩ = some (.int .i64 a0_4) ∧ w38.cell? ⟨gb161, 5, none⟩ = some (.int .i64 a0_5) ∧ w38.cell? ⟨gb161, 6, none⟩ = some (.int .i64 a0_6) ∧ w38.cell? ⟨gb161, 7, none⟩ = some (.string a0_7) ∧ w38.cell? ⟨gb161, 8, none⟩ = some (.string a0_8) ∧ w38.cell? ⟨gb161, 9, none⟩ = some (.string a0_9) := hS_
  obtain ⟨co39, eo39⟩ := HA_HO167.out
  clear HA_HO167
  subst eo39
  refine norm_ (a' := ?_) ?_ ?_
  rotate_left
  · simp only [putAll, Act.put, List.setIfInBounds_toArray, List.set_cons_zero, List.set_cons_succ]
    rfl
  refine pure_ (i := 38) (N := some 53) (v := ?_) (a' := ?_) #[true, true, true, true, true, true, true, true, true, true, true, true, true, true, true, true, true, true, true, true, true, true, true, true, true, true, true, true, true, true, true, true, true, true, true, true, true, true, true, false, true, true, false, false] rfl rfl (any_of HT_.out (by kernel_rfl)) (fun _ _ _ h => h) (Or.inl ⟨by rfl, ?_⟩) ?_ ?_
  rotate_left
  · intro w'
    go_simp
    with_reducible rfl
  rotate_left
  · simp only [Act.put, List.setIfInBounds_toArray, List.set_cons_zero, List.set_cons_succ, i64_w, i32_w]
    rfl
  refine pure_ (i := 39) (N := some 54) (v := ?_) (a' := ?_) #[true, true, true, true, true, true, true, true, true, true, true, true, true, true, true, true, true, true, true, true, true, true, true, true, true, true, true, true, true, true, true, true, true, true, true, true, true, true, true, true, true, true, false, false] rfl rfl (any_of HT_.out (by kernel_rfl)) (fun _ _ _ h => h) (Or.inl ⟨by rfl, ?_⟩) ?_ ?_
  rotate_left
  · intro w'
    go_simp
    with_reducible rfl
  rotate_left
  · simp only [Act.put, List.setIfInBounds_toArray, List.set_cons_zero, List.set_cons_succ, i64_w, i32_w]
    rfl
  refine pure_ (i := 42) (N := some 57) (v := ?_) (a' := ?_) #[true, true, true, true, true, true, true, true, true, true, true, true, true, true, true, true, true, true, true, true, true, true, true, true, true, true, true, true, true, true, true, true, true, true, true, true, true, true, true, true, true, true, true, false] rfl rfl (any_of HT_.out (by kernel_rfl)) (fun _ _ _ h => h) (Or.inl ⟨by rfl, ?_⟩) ?_ ?_
  rotate_left
  · intro w'
    go_simp
    with_reducible rfl
  rotate_left
  · simp only [Act.put, List.setIfInBounds_toArray, List.set_cons_zero, List.set_cons_succ, i64_w, i32_w]
    rfl
  refine pure_ (i := 43) (N := some 5) (v := ?_) (a' := ?_) #[true, true, true, true, true, true, true, true, true, true, true, true, true, true, true, true, true, true, true, true, true, true, true, true, true, true, true, true, true, true, true, true, true, true, true, true, true, true, true, true, true, true, true, true] rfl rfl (any_of HT_.out (by kernel_rfl)) (fun _ _ _ h => h) (Or.inl ⟨by rfl, ?_⟩) ?_ ?_
  rotate_left
  · intro w'
    go_simp
    with_reducible rfl
  rotate_left
  · simp only [Act.put, List.setIfInBounds_toArray, List.set_cons_zero, List.set_cons_succ, i64_w, i32_w]
    rfl
  refine done_ (done_of HT_.out (by kernel_rfl)) ?_
  have hcz40_0 : w38.cell? ⟨gb161, 0, none⟩ = some (.int .i64 a0_0) := (blk_cell BK161.out 0).trans rfl
  have hcz40_1 : w38.cell? ⟨gb161, 1, none⟩ = some (.string a0_1) := (blk_cell BK161.out 1).trans rfl
  have hcz40_2 : w38.cell? ⟨gb161, 2, none⟩ = some (.string a0_2) := (blk_cell BK161.out 2).trans rfl
  have hcz40_3 : w38.cell? ⟨gb161, 3, none⟩ = some (.int .i64 a0_3) := (blk_cell BK161.out 3).trans rfl
  have hcz40_4 : w38.cell? ⟨gb161, 4, none⟩ = some (.int .i64 a0_4) := (blk_cell BK161.out 4).trans rfl
  have hcz40_5 : w38.cell? ⟨gb161, 5, none⟩ = some (.int .i64 a0_5) := (blk_cell BK161.out 5).trans rfl
  have hcz40_6 : w38.cell? ⟨gb161, 6, none⟩ = some (.int .i64 a0_6) := (blk_cell BK161.out 6).trans rfl
  have hcz40_7 : w38.cell? ⟨gb161, 7, none⟩ = some (.string a0_7) := (blk_cell BK161.out 7).trans rfl
  have hcz40_8 : w38.cell? ⟨gb161, 8, none⟩ = some (.string a0_8) := (blk_cell BK161.out 8).trans rfl
  have hcz40_9 : w38.cell? ⟨gb161, 9, none⟩ = some (.string a0_9) := (blk_cell BK161.out 9).trans rfl
  have hfz40_0 := blk_frozen BK161.out 0
  have hfz40_1 := blk_frozen BK161.out 1
  have hfz40_2 := blk_frozen BK161.out 2
  have hfz40_3 := blk_frozen BK161.out 3
  have hfz40_4 := blk_frozen BK161.out 4
  have hfz40_5 := blk_frozen BK161.out 5
  have hfz40_6 := blk_frozen BK161.out 6
  have hfz40_7 := blk_frozen BK161.out 7
  have hfz40_8 := blk_frozen BK161.out 8
  have hfz40_9 := blk_frozen BK161.out 9
  have H := HX_.out
  clear HX_
  by_cases c29 : a0_2.toList = ([] : List UInt8)
  · rw [if_pos c29] at H
    have c29b0 : (a0_2.toList == ([] : List UInt8)) = true := beq_iff_eq.mpr c29
    have c29b0i : (a0_2.toList).isEmpty = true := (by cases a0_2.toList <;> rfl : (a0_2.toList == ([] : List UInt8)) = (a0_2.toList).isEmpty).symm.trans c29b0
    have c29b1 : (a0_2.toList != ([] : List UInt8)) = false := bne_eq_false_iff_eq.mpr c29
    clear c29
    obtain rfl := Option.some.inj H
    try go_wp2
    go_ret
    exact ⟨by first | rfl | (simp [errW_none, errW_some] <;> rfl) | (simp [*, errW_none, errW_some] <;> rfl) | (simp only [decide_eq_true_eq] at *; simp [*, bt]; done), by repeat (first | (with_reducible first | exact HB.out | apply below_alloc | apply pw_below_drewN | apply below_drew1 | refine below_set ?_ GE161.out) | exact HB.out)⟩
  {
  rw [if_neg c29] at H
  have c29b0 : (a0_2.toList == ([] : List UInt8)) = false := beq_eq_false_iff_ne.mpr c29
  have c29b0i : (a0_2.toList).isEmpty = false := (by cases a0_2.toList <;> rfl : (a0_2.toList == ([] : List UInt8)) = (a0_2.toList).isEmpty).symm.trans c29b0
  have c29b1 : (a0_2.toList != ([] : List UInt8)) = true := bne_iff_ne.mpr c29
  by_cases c41 : (((((((((((((((((rdOf ByteArray.empty y165 a0_0) ++ (⟨#[32]⟩ : ByteArray)) ++ t163) ++ (⟨#[32]⟩ : ByteArray)) ++ t169) ++ (⟨#[32]⟩ : ByteArray)) ++ t170) ++ (⟨#[32]⟩ : ByteArray)) ++ t171) ++ (⟨#[32]⟩ : ByteArray)) ++ t172) ++ (⟨#[32]⟩ : ByteArray)) ++ t173) ++ (⟨#[32]⟩ : ByteArray)) ++ t174) ++ (⟨#[32]⟩ : ByteArray)) ++ a0_1).size + 4 ≤ 9223372036854775807
  case neg => rw [if_neg c41] at H; exact absurd H (by simp)
  rw [if_pos c41] at H
  have c41b0 := eq_true c41
  have c41b1 : decide ((((((((((((((((((rdOf ByteArray.empty y165 a0_0) ++ (⟨#[32]⟩ : ByteArray)) ++ t163) ++ (⟨#[32]⟩ : ByteArray)) ++ t169) ++ (⟨#[32]⟩ : ByteArray)) ++ t170) ++ (⟨#[32]⟩ : ByteArray)) ++ t171) ++ (⟨#[32]⟩ : ByteArray)) ++ t172) ++ (⟨#[32]⟩ : ByteArray)) ++ t173) ++ (⟨#[32]⟩ : ByteArray)) ++ t174) ++ (⟨#[32]⟩ : ByteArray)) ++ a0_1).size + 4 ≤ 9223372036854775807) = true := decide_eq_true c41
  try (have c41b1z := c41b1; simp only [ByteArray.size_append, show (⟨#[32]⟩ : ByteArray).size = 1 from rfl] at c41b1z)
  try have c41b2 : (9223372036854775807 < (((((((((((((((((rdOf ByteArray.empty y165 a0_0) ++ (⟨#[32]⟩ : ByteArray)) ++ t163) ++ (⟨#[32]⟩ : ByteArray)) ++ t169) ++ (⟨#[32]⟩ : ByteArray)) ++ t170) ++ (⟨#[32]⟩ : ByteArray)) ++ t171) ++ (⟨#[32]⟩ : ByteArray)) ++ t172) ++ (⟨#[32]⟩ : ByteArray)) ++ t173) ++ (⟨#[32]⟩ : ByteArray)) ++ t174) ++ (⟨#[32]⟩ : ByteArray)) ++ a0_1).size + 4) = False := eq_false (Nat.not_lt.2 c41)
  try (have c41b2z := c41b2; simp only [ByteArray.size_append, show (⟨#[32]⟩ : ByteArray).size = 1 from rfl] at c41b2z)
  by_cases c42 : ((((((((((((((((((rdOf ByteArray.empty y165 a0_0) ++ (⟨#[32]⟩ : ByteArray)) ++ t163) ++ (⟨#[32]⟩ : ByteArray)) ++ t169) ++ (⟨#[32]⟩ : ByteArray)) ++ t170) ++ (⟨#[32]⟩ : ByteArray)) ++ t171) ++ (⟨#[32]⟩ : ByteArray)) ++ t172) ++ (⟨#[32]⟩ : ByteArray)) ++ t173) ++ (⟨#[32]⟩ : ByteArray)) ++ t174) ++ (⟨#[32]⟩ : ByteArray)) ++ a0_1) ++ (⟨#[32, 45, 62, 32]⟩ : ByteArray)).size + a0_2.size ≤ 9223372036854775807
  case neg => rw [if_neg c42] at H; exact absurd H (by simp)
  rw [if_pos c42] at H
  have c42b0 := eq_true c42
  have c42b1 : decide (((((((((((((((((((rdOf ByteArray.empty y165 a0_0) ++ (⟨#[32]⟩ : ByteArray)) ++ t163) ++ (⟨#[32]⟩ : ByteArray)) ++ t169) ++ (⟨#[32]⟩ : ByteArray)) ++ t170) ++ (⟨#[32]⟩ : ByteArray)) ++ t171) ++ (⟨#[32]⟩ : ByteArray)) ++ t172) ++ (⟨#[32]⟩ : ByteArray)) ++ t173) ++ (⟨#[32]⟩ : ByteArray)) ++ t174) ++ (⟨#[32]⟩ : ByteArray)) ++ a0_1) ++ (⟨#[32, 45, 62, 32]⟩ : ByteArray)).size + a0_2.size ≤ 9223372036854775807) = true := decide_eq_true c42
  try (have c42b1z := c42b1; simp only [ByteArray.size_append, show (⟨#[32]⟩ : ByteArray).size = 1 from rfl, show (⟨#[32, 45, 62, 32]⟩ : ByteArray).size = 4 from rfl] at c42b1z)
  try have c42b2 : (9223372036854775807 < ((((((((((((((((((rdOf ByteArray.empty y165 a0_0) ++ (⟨#[32]⟩ : ByteArray)) ++ t163) ++ (⟨#[32]⟩ : ByteArray)) ++ t169) ++ (⟨#[32]⟩ : ByteArray)) ++ t170) ++ (⟨#[32]⟩ : ByteArray)) ++ t171) ++ (⟨#[32]⟩ : ByteArray)) ++ t172) ++ (⟨#[32]⟩ : ByteArray)) ++ t173) ++ (⟨#[32]⟩ : ByteArray)) ++ t174) ++ (⟨#[32]⟩ : ByteArray)) ++ a0_1) ++ (⟨#[32, 45, 62, 32]⟩ : ByteArray)).size + a0_2.size) = False := eq_false (Nat.not_lt.2 c42)
  try (have c42b2z := c42b2; simp only [ByteArray.size_append, show (⟨#[32]⟩ : ByteArray).size = 1 from rfl, show (⟨#[32, 45, 62, 32]⟩ : ByteArray).size = 4 from rfl] at c42b2z)
  obtain rfl := Option.some.inj H
  try go_wp2
  go_ret
  exact ⟨by first | rfl | (simp [errW_none, errW_some] <;> rfl) | (simp [*, errW_none, errW_some] <;> rfl) | (simp only [decide_eq_true_eq] at *; simp [*, bt]; done), by repeat (first | (with_reducible first | exact HB.out | apply below_alloc | apply pw_below_drewN | apply below_drew1 | refine below_set ?_ GE161.out) | exact HB.out)⟩
  }
  }
  · replace c3 := Bool.eq_false_iff.mpr c3
    subst c3
    have H1 : (some (⟨#[]⟩ : ByteArray)) = some r := by rw [if_neg (show ¬ (false = true) by decide)] at H; exact H
    clear H
    have H := H1
    clear H1
    obtain rfl := Option.some.inj H
    go_enter Tryd.func20, Tryd.ntmps20
    go_wp2_with (first | ((with_reducible refine gate_dst (N := 1) rfl ?_); refine box_event ?hg (N := 1) ?hd (cs := #[.int .i64 a0_0, .string a0_1, .string a0_2, .int .i64 a0_3, .int .i64 a0_4, .int .i64 a0_5, .int .i64 a0_6, .string a0_7, .string a0_8, .string a0_9]) (t := 36) ?hr ?_; (case hd => rfl); (case hg => rfl); (case hr => first | (go_simp; done) | (go_simp; rfl)); intro gb161 hg w54 hbox hb; have n0_ := Aside0.mk (below_step (by repeat (first | (with_reducible first | exact HB.out | apply below_alloc | apply pw_below_drewN | apply below_drew1) | exact HB.out)) hb); have n1_ := Aside0.mk (hbox); have n2_ := Aside0.mk ((by rw [hg]; exact (below_size (by repeat (first | (with_reducible first | exact HB.out | apply below_alloc | apply pw_below_drewN | apply below_drew1) | exact HB.out))) : w.heap.size ≤ gb161)); have n3_ := Aside0.mk ((by rw [hg]; exact (below_size (by repeat (first | (with_reducible first | exact HB.out | apply below_alloc | apply pw_below_drewN | apply below_drew1) | exact HB.out))) : w.heap.size ≤ gb161)); clear HB; have HB := n0_; have BK161 := n1_; have GW161 := n2_; have GE161 := n3_; clear n0_ n1_ n2_ n3_; clear hb hbox hg; have hcz55_0 : w54.cell? ⟨gb161, 0, none⟩ = some (.int .i64 a0_0) := (blk_cell BK161.out 0).trans rfl; have hcz55_1 : w54.cell? ⟨gb161, 1, none⟩ = some (.string a0_1) := (blk_cell BK161.out 1).trans rfl; have hcz55_2 : w54.cell? ⟨gb161, 2, none⟩ = some (.string a0_2) := (blk_cell BK161.out 2).trans rfl; have hcz55_3 : w54.cell? ⟨gb161, 3, none⟩ = some (.int .i64 a0_3) := (blk_cell BK161.out 3).trans rfl; have hcz55_4 : w54.cell? ⟨gb161, 4, none⟩ = some (.int .i64 a0_4) := (blk_cell BK161.out 4).trans rfl; have hcz55_5 : w54.cell? ⟨gb161, 5, none⟩ = some (.int .i64 a0_5) := (blk_cell BK161.out 5).trans rfl; have hcz55_6 : w54.cell? ⟨gb161, 6, none⟩ = some (.int .i64 a0_6) := (blk_cell BK161.out 6).trans rfl; have hcz55_7 : w54.cell? ⟨gb161, 7, none⟩ = some (.string a0_7) := (blk_cell BK161.out 7).trans rfl; have hcz55_8 : w54.cell? ⟨gb161, 8, none⟩ = some (.string a0_8) := (blk_cell BK161.out 8).trans rfl; have hcz55_9 : w54.cell? ⟨gb161, 9, none⟩ = some (.string a0_9) := (blk_cell BK161.out 9).trans rfl; have hfz55_0 := blk_frozen BK161.out 0; have hfz55_1 := blk_frozen BK161.out 1; have hfz55_2 := blk_frozen BK161.out 2; have hfz55_3 := blk_frozen BK161.out 3; have hfz55_4 := blk_frozen BK161.out 4; have hfz55_5 := blk_frozen BK161.out 5; have hfz55_6 := blk_frozen BK161.out 6; have hfz55_7 := blk_frozen BK161.out 7; have hfz55_8 := blk_frozen BK161.out 8; have hfz55_9 := blk_frozen BK161.out 9) | ((with_reducible refine gate_callee (f := 34) rfl ?_); refine goesL_ (some 7) rfl rfl Tryd.func34 (by kernel_rfl) rfl #[.agg #[.int .i64 a0_0, .string a0_1, .string a0_2, .int .i64 a0_3, .int .i64 a0_4, .int .i64 a0_5, .int .i64 a0_6, .string a0_7, .string a0_8, .string a0_9]] rfl (by (try simp only [List.map_toArray, List.map_cons, List.map_nil]); first | done | rfl | (simp only [List.length_drop, List.length_take]; rfl)) ?_; (with_reducible refine (spec_EntryOk.calls k a0_0 a0_1 a0_2 a0_3 a0_4 a0_5 a0_6 a0_7 a0_8 a0_9 false _ A2.out).mono ?_); rintro e w56 ⟨rfl, hb⟩; refine ⟨_, rfl, ?_⟩; have n0_ := Aside0.mk (blk_below (g := gb161) (o := .cells #[.int .i64 a0_0, .string a0_1, .string a0_2, .int .i64 a0_3, .int .i64 a0_4, .int .i64 a0_5, .int .i64 a0_6, .string a0_7, .string a0_8, .string a0_9] 36 (0, 0)) (by (with_reducible repeat (first | refine blk_drewN ?_ _ | refine blk_drew ?_ | refine blk_alloc ?_ _)); exact BK161.out) hb); have n1_ := Aside0.mk (below_step (by repeat (first | (with_reducible first | exact HB.out | apply below_alloc | apply pw_below_drewN | apply below_drew1 | refine below_set ?_ GE161.out) | exact HB.out)) hb); clear BK161; clear HB; have BK161 := n0_; have HB := n1_; clear n0_ n1_; (try clear hb); (try clear hb2); (try clear hk); (try clear hi)))
    go_ret
    exact ⟨by first | rfl | (simp [errW_none, errW_some] <;> rfl) | (simp [*, errW_none, errW_some] <;> rfl) | (simp only [decide_eq_true_eq] at *; simp [*, bt]; done), by repeat (first | (with_reducible first | exact HB.out | apply below_alloc | apply pw_below_drewN | apply below_drew1 | refine below_set ?_ GE161.out) | exact HB.out)⟩

end Go.Proofs.YtgmggpgcfonmgaaDoor.PFnExactListText
