-- PRINTED for this claim by a program of this session's repo over the kit's printer, with contracts of our own among the functions.
import Derived.Test.YtgmggpgcfonmgaaDoorPFnExactPutHeadx0
import Derived.Test.YtgmggpgcfonmgaaDoorPFnExactPutHeadx3
import Derived.Test.YtgmggpgcfonmgaaDoorPFnExactPutHeadx4
namespace Go.Proofs.YtgmggpgcfonmgaaDoor.PFnExactPutHead
open Go.RowKit Go.Proofs.YtgmggpgcfonmgaaDoorW.PrintWords Go.Proofs.YtgmggpgcfonmgaaDoorW.PrintLast Go.Proofs.YtgmggpgcfonmgaaDoorW.PrintMore
attribute [local go_sem] max2_int min2_int max_two min_two max_three min_three max_four min_four   -- for this text's walks alone
set_option linter.unusedVariables false
set_option linter.unusedSimpArgs false

/-! ### spec_l04Head: function 53 -/
def spec_l04Head.f (k : Nat) (a0_0 : Int) (a0_1 : ByteArray) (a0_2 : ByteArray) (a0_3 : Int) (a0_4 : Int) (a0_5 : Int) (a0_6 : Int) (a0_7 : ByteArray) (a0_8 : ByteArray) (a0_9 : ByteArray) (a1 : ByteArray) (a2 : ByteArray) (a3 : ByteArray) (a4 : Int) (a5 : ByteArray) : Option (ByteArray) := (spec_Fill.f k a1 100).bind fun t155 => ((spec_l04Oct.f k a0_3 8).bind fun t156 => (if t155.size + t156.size ≤ 9223372036854775807 then ((spec_l04Oct.f k a0_4 8).bind fun t157 => (if (t155 ++ t156).size + t157.size ≤ 9223372036854775807 then ((spec_l04Oct.f k a0_5 8).bind fun t158 => (if ((t155 ++ t156) ++ t157).size + t158.size ≤ 9223372036854775807 then ((spec_l04Oct.f k a4 12).bind fun t159 => (if (((t155 ++ t156) ++ t157) ++ t158).size + t159.size ≤ 9223372036854775807 then ((spec_l04Oct.f k a0_6 12).bind fun t160 => (if ((((t155 ++ t156) ++ t157) ++ t158) ++ t159).size + t160.size ≤ 9223372036854775807 then ((spec_Fill.f k a0_2 100).bind fun t161 => (if a3.size + t161.size ≤ 9223372036854775807 then (if (a3 ++ t161).size + a5.size ≤ 9223372036854775807 then ((spec_Fill.f k a0_7 32).bind fun t162 => (if ((a3 ++ t161) ++ a5).size + t162.size ≤ 9223372036854775807 then ((spec_Fill.f k a0_8 32).bind fun t163 => (if (((a3 ++ t161) ++ a5) ++ t162).size + t163.size ≤ 9223372036854775807 then ((spec_l04Oct.f k 0 8).bind fun t164 => (if ((((a3 ++ t161) ++ a5) ++ t162) ++ t163).size + t164.size ≤ 9223372036854775807 then ((spec_l04Oct.f k 0 8).bind fun t165 => (if (((((a3 ++ t161) ++ a5) ++ t162) ++ t163) ++ t164).size + t165.size ≤ 9223372036854775807 then ((spec_Fill.f k a2 155).bind fun t166 => (if ((((((a3 ++ t161) ++ a5) ++ t162) ++ t163) ++ t164) ++ t165).size + t166.size ≤ 9223372036854775807 then ((spec_l01Nuls.f k 12).bind fun t167 => (if (((((((a3 ++ t161) ++ a5) ++ t162) ++ t163) ++ t164) ++ t165) ++ t166).size + t167.size ≤ 9223372036854775807 then ((spec_SumOf.f k (((((t155 ++ t156) ++ t157) ++ t158) ++ t159) ++ t160)).bind fun t168 => ((spec_SumOf.f k ((((((((a3 ++ t161) ++ a5) ++ t162) ++ t163) ++ t164) ++ t165) ++ t166) ++ t167)).bind fun t169 => ((spec_PutOct.f k (wrap64 ((wrap64 (t168 + 256)) + t169)) 6).bind fun bt170 => (if (((((t155 ++ t156) ++ t157) ++ t158) ++ t159) ++ t160).size + bt170.1.size ≤ 9223372036854775807 then (if ((((((t155 ++ t156) ++ t157) ++ t158) ++ t159) ++ t160) ++ bt170.1).size + 2 ≤ 9223372036854775807 then (if (((((((t155 ++ t156) ++ t157) ++ t158) ++ t159) ++ t160) ++ bt170.1) ++ (⟨#[0, 32]⟩ : ByteArray)).size + ((((((((a3 ++ t161) ++ a5) ++ t162) ++ t163) ++ t164) ++ t165) ++ t166) ++ t167).size ≤ 9223372036854775807 then (some ((((((((t155 ++ t156) ++ t157) ++ t158) ++ t159) ++ t160) ++ bt170.1) ++ (⟨#[0, 32]⟩ : ByteArray)) ++ ((((((((a3 ++ t161) ++ a5) ++ t162) ++ t163) ++ t164) ++ t165) ++ t166) ++ t167))) else (none)) else (none)) else (none))))) else (none))) else (none))) else (none))) else (none))) else (none))) else (none))) else (none)) else (none))) else (none))) else (none))) else (none))) else (none))) else (none)))
theorem spec_l04Head.mono : ∀ a0 a1 a2 a3 a4 a5 a6 a7 a8 a9 a10 a11 a12 a13 a14 k, LeO (spec_l04Head.f k a0 a1 a2 a3 a4 a5 a6 a7 a8 a9 a10 a11 a12 a13 a14) (spec_l04Head.f (k + 1) a0 a1 a2 a3 a4 a5 a6 a7 a8 a9 a10 a11 a12 a13 a14) := by
  intro a0 a1 a2 a3 a4 a5 a6 a7 a8 a9 a10 a11 a12 a13 a14 k
  unfold spec_l04Head.f
  repeat' first
      | (with_reducible exact spec_Fill.mono _ _ _)
      | (with_reducible exact spec_PutOct.mono _ _ _)
      | (with_reducible exact spec_SumOf.mono _ _)
      | (with_reducible exact spec_l01Nuls.mono _ _)
      | (with_reducible exact spec_l04Oct.mono _ _ _)
      | (with_reducible exact LeO.refl _)
      | (with_reducible exact LeO.none _)
      | (with_reducible refine LeO.ite ?_ ?_)
      | (with_reducible refine LeO.bind ?_ (fun _ => ?_))
      | exact spec_Fill.mono _ _ _
      | exact spec_PutOct.mono _ _ _
      | exact spec_SumOf.mono _ _
      | exact spec_l01Nuls.mono _ _
      | exact spec_l04Oct.mono _ _ _
      | exact LeO.none _
      | refine LeO.ite ?_ ?_
      | refine LeO.bind ?_ (fun _ => ?_)
def spec_l04Head.T1 : Bool × List (List Nat × List Nat) := (true, [([], []), ([0], [0]), ([], []), ([2], [2]), ([3, 1], [3]), ([1, 4], [1, 4]), ([], []), ([6], [6]), ([7, 4], [7]), ([5, 8], [5, 8]), ([], []), ([10], [10]), ([11, 8], [11]), ([9, 12], [9, 12]), ([], []), ([14, 12], [14]), ([13, 15], [13, 15]), ([], []), ([17], [17]), ([18, 15], [18]), ([16, 19], [16, 19]), ([20, 19, 0, 1, 2, 3, 4, 5, 6, 7, 8, 9, 10, 11, 12, 13, 14, 15, 16, 17, 18, 19, 20], [20])])
def spec_l04Head.B1 : List Nat := [0, 1, 0, 4, 15, 31, 0, 64, 223, 511, 0, 1024, 3551, 8191, 0, 24031, 65535, 0, 131072, 450015, 1048575, 2097151]
theorem spec_l04Head.tab1 : rtab .any (opsOf Tryd.f53 1) = spec_l04Head.T1 := by kernel_rfl
theorem spec_l04Head.bits1 : waitsOk spec_l04Head.T1.2 spec_l04Head.B1 = true := by kernel_rfl
def spec_l04Head.T2 : Bool × List (List Nat × List Nat) := (true, [([], []), ([], []), ([1], [1]), ([2], [2]), ([0, 3], [0, 3]), ([], []), ([4, 5], [4, 5]), ([], []), ([7], [7]), ([8, 3], [8]), ([6, 9], [6, 9]), ([], []), ([11], [11]), ([12, 9], [12]), ([10, 13], [10, 13]), ([13], []), ([14, 15], [14, 15]), ([15], []), ([16, 17], [16, 17]), ([], []), ([19, 17], [19]), ([18, 20], [18, 20]), ([20], []), ([21, 22], [21, 22]), ([23, 22, 0, 1, 2, 3, 4, 5, 6, 7, 8, 9, 10, 11, 12, 13, 14, 15, 16, 17, 18, 19, 20, 21, 22, 23], [23])])
def spec_l04Head.B2 : List Nat := [0, 0, 2, 6, 15, 0, 63, 0, 128, 398, 1023, 0, 2048, 7054, 16383, 15246, 65535, 48014, 262143, 0, 703374, 2097151, 1751950, 8388607, 16777215]
theorem spec_l04Head.tab2 : rtab .any (opsOf Tryd.f53 2) = spec_l04Head.T2 := by kernel_rfl
theorem spec_l04Head.bits2 : waitsOk spec_l04Head.T2.2 spec_l04Head.B2 = true := by kernel_rfl
set_option maxHeartbeats 8000000 in
set_option maxRecDepth 100000 in
theorem spec_l04Head.calls (k : Nat) (a0_0 : Int) (a0_1 : ByteArray) (a0_2 : ByteArray) (a0_3 : Int) (a0_4 : Int) (a0_5 : Int) (a0_6 : Int) (a0_7 : ByteArray) (a0_8 : ByteArray) (a0_9 : ByteArray) (a1 : ByteArray) (a2 : ByteArray) (a3 : ByteArray) (a4 : Int) (a5 : ByteArray) (r : ByteArray) (w : World) (h : spec_l04Head.f k a0_0 a0_1 a0_2 a0_3 a0_4 a0_5 a0_6 a0_7 a0_8 a0_9 a1 a2 a3 a4 a5 = some r) :
    Calls Tryd.prog 53 #[.agg #[.int .i64 a0_0, .string a0_1, .string a0_2, .int .i64 a0_3, .int .i64 a0_4, .int .i64 a0_5, .int .i64 a0_6, .string a0_7, .string a0_8, .string a0_9], .string a1, .string a2, .string a3, .int .i64 a4, .string a5] w fun e w' => e = .returned (.string r) ∧ Below w.heap.size w w' := by
  have hu36 := Tryd.underlying36
  have HB := Aside0.mk (Below.refl w.heap.size w)
  have H : ((spec_Fill.f k a1 100).bind fun t155 => ((spec_l04Oct.f k a0_3 8).bind fun t156 => (if t155.size + t156.size ≤ 9223372036854775807 then ((spec_l04Oct.f k a0_4 8).bind fun t157 => (if (t155 ++ t156).size + t157.size ≤ 9223372036854775807 then ((spec_l04Oct.f k a0_5 8).bind fun t158 => (if ((t155 ++ t156) ++ t157).size + t158.size ≤ 9223372036854775807 then ((spec_l04Oct.f k a4 12).bind fun t159 => (if (((t155 ++ t156) ++ t157) ++ t158).size + t159.size ≤ 9223372036854775807 then ((spec_l04Oct.f k a0_6 12).bind fun t160 => (if ((((t155 ++ t156) ++ t157) ++ t158) ++ t159).size + t160.size ≤ 9223372036854775807 then ((spec_Fill.f k a0_2 100).bind fun t161 => (if a3.size + t161.size ≤ 9223372036854775807 then (if (a3 ++ t161).size + a5.size ≤ 9223372036854775807 then ((spec_Fill.f k a0_7 32).bind fun t162 => (if ((a3 ++ t161) ++ a5).size + t162.size ≤ 9223372036854775807 then ((spec_Fill.f k a0_8 32).bind fun t163 => (if (((a3 ++ t161) ++ a5) ++ t162).size + t163.size ≤ 9223372036854775807 then ((spec_l04Oct.f k 0 8).bind fun t164 => (if ((((a3 ++ t161) ++ a5) ++ t162) ++ t163).size + t164.size ≤ 9223372036854775807 then ((spec_l04Oct.f k 0 8).bind fun t165 => (if (((((a3 ++ t161) ++ a5) ++ t162) ++ t163) ++ t164).size + t165.size ≤ 9223372036854775807 then ((spec_Fill.f k a2 155).bind fun t166 => (if ((((((a3 ++ t161) ++ a5) ++ t162) ++ t163) ++ t164) ++ t165).size + t166.size ≤ 9223372036854775807 then ((spec_l01Nuls.f k 12).bind fun t167 => (if (((((((a3 ++ t161) ++ a5) ++ t162) ++ t163) ++ t164) ++ t165) ++ t166).size + t167.size ≤ 9223372036854775807 then ((spec_SumOf.f k (((((t155 ++ t156) ++ t157) ++ t158) ++ t159) ++ t160)).bind fun t168 => ((spec_SumOf.f k ((((((((a3 ++ t161) ++ a5) ++ t162) ++ t163) ++ t164) ++ t165) ++ t166) ++ t167)).bind fun t169 => ((spec_PutOct.f k (wrap64 ((wrap64 (t168 + 256)) + t169)) 6).bind fun bt170 => (if (((((t155 ++ t156) ++ t157) ++ t158) ++ t159) ++ t160).size + bt170.1.size ≤ 9223372036854775807 then (if ((((((t155 ++ t156) ++ t157) ++ t158) ++ t159) ++ t160) ++ bt170.1).size + 2 ≤ 9223372036854775807 then (if (((((((t155 ++ t156) ++ t157) ++ t158) ++ t159) ++ t160) ++ bt170.1) ++ (⟨#[0, 32]⟩ : ByteArray)).size + ((((((((a3 ++ t161) ++ a5) ++ t162) ++ t163) ++ t164) ++ t165) ++ t166) ++ t167).size ≤ 9223372036854775807 then (some ((((((((t155 ++ t156) ++ t157) ++ t158) ++ t159) ++ t160) ++ bt170.1) ++ (⟨#[0, 32]⟩ : ByteArray)) ++ ((((((((a3 ++ t161) ++ a5) ++ t162) ++ t163) ++ t164) ++ t165) ++ t166) ++ t167))) else (none)) else (none)) else (none))))) else (none))) else (none))) else (none))) else (none))) else (none))) else (none))) else (none)) else (none))) else (none))) else (none))) else (none))) else (none))) else (none)))) = some r := h
  clear h
  replace H := Option.bind_eq_some_iff.mp H
  obtain ⟨t155, A70, H⟩ := H
  replace H : ((spec_l04Oct.f k a0_3 8).bind fun t156 => (if t155.size + t156.size ≤ 9223372036854775807 then ((spec_l04Oct.f k a0_4 8).bind fun t157 => (if (t155 ++ t156).size + t157.size ≤ 9223372036854775807 then ((spec_l04Oct.f k a0_5 8).bind fun t158 => (if ((t155 ++ t156) ++ t157).size + t158.size ≤ 9223372036854775807 then ((spec_l04Oct.f k a4 12).bind fun t159 => (if (((t155 ++ t156) ++ t157) ++ t158).size + t159.size ≤ 9223372036854775807 then ((spec_l04Oct.f k a0_6 12).bind fun t160 => (if ((((t155 ++ t156) ++ t157) ++ t158) ++ t159).size + t160.size ≤ 9223372036854775807 then ((spec_Fill.f k a0_2 100).bind fun t161 => (if a3.size + t161.size ≤ 9223372036854775807 then (if (a3 ++ t161).size + a5.size ≤ 9223372036854775807 then ((spec_Fill.f k a0_7 32).bind fun t162 => (if ((a3 ++ t161) ++ a5).size + t162.size ≤ 9223372036854775807 then ((spec_Fill.f k a0_8 32).bind fun t163 => (if (((a3 ++ t161) ++ a5) ++ t162).size + t163.size ≤ 9223372036854775807 then ((spec_l04Oct.f k 0 8).bind fun t164 => (if ((((a3 ++ t161) ++ a5) ++ t162) ++ t163).size + t164.size ≤ 9223372036854775807 then ((spec_l04Oct.f k 0 8).bind fun t165 => (if (((((a3 ++ t161) ++ a5) ++ t162) ++ t163) ++ t164).size + t165.size ≤ 9223372036854775807 then ((spec_Fill.f k a2 155).bind fun t166 => (if ((((((a3 ++ t161) ++ a5) ++ t162) ++ t163) ++ t164) ++ t165).size + t166.size ≤ 9223372036854775807 then ((spec_l01Nuls.f k 12).bind fun t167 => (if (((((((a3 ++ t161) ++ a5) ++ t162) ++ t163) ++ t164) ++ t165) ++ t166).size + t167.size ≤ 9223372036854775807 then ((spec_SumOf.f k (((((t155 ++ t156) ++ t157) ++ t158) ++ t159) ++ t160)).bind fun t168 => ((spec_SumOf.f k ((((((((a3 ++ t161) ++ a5) ++ t162) ++ t163) ++ t164) ++ t165) ++ t166) ++ t167)).bind fun t169 => ((spec_PutOct.f k (wrap64 ((wrap64 (t168 + 256)) + t169)) 6).bind fun bt170 => (if (((((t155 ++ t156) ++ t157) ++ t158) ++ t159) ++ t160).size + bt170.1.size ≤ 9223372036854775807 then (if ((((((t155 ++ t156) ++ t157) ++ t158) ++ t159) ++ t160) ++ bt170.1).size + 2 ≤ 9223372036854775807 then (if (((((((t155 ++ t156) ++ t157) ++ t158) ++ t159) ++ t160) ++ bt170.1) ++ (⟨#[0, 32]⟩ : ByteArray)).size + ((((((((a3 ++ t161) ++ a5) ++ t162) ++ t163) ++ t164) ++ t165) ++ t166) ++ t167).size ≤ 9223372036854775807 then (some ((((((((t155 ++ t156) ++ t157) ++ t158) ++ t159) ++ t160) ++ bt170.1) ++ (⟨#[0, 32]⟩ : ByteArray)) ++ ((((((((a3 ++ t161) ++ a5) ++ t162) ++ t163) ++ t164) ++ t165) ++ t166) ++ t167))) else (none)) else (none)) else (none))))) else (none))) else (none))) else (none))) else (none))) else (none))) else (none))) else (none)) else (none))) else (none))) else (none))) else (none))) else (none))) else (none))) = some r := H
  have A7 := Aside0.mk A70
  clear A70
  replace H := Option.bind_eq_some_iff.mp H
  obtain ⟨t156, A80, H⟩ := H
  replace H : (if t155.size + t156.size ≤ 9223372036854775807 then ((spec_l04Oct.f k a0_4 8).bind fun t157 => (if (t155 ++ t156).size + t157.size ≤ 9223372036854775807 then ((spec_l04Oct.f k a0_5 8).bind fun t158 => (if ((t155 ++ t156) ++ t157).size + t158.size ≤ 9223372036854775807 then ((spec_l04Oct.f k a4 12).bind fun t159 => (if (((t155 ++ t156) ++ t157) ++ t158).size + t159.size ≤ 9223372036854775807 then ((spec_l04Oct.f k a0_6 12).bind fun t160 => (if ((((t155 ++ t156) ++ t157) ++ t158) ++ t159).size + t160.size ≤ 9223372036854775807 then ((spec_Fill.f k a0_2 100).bind fun t161 => (if a3.size + t161.size ≤ 9223372036854775807 then (if (a3 ++ t161).size + a5.size ≤ 9223372036854775807 then ((spec_Fill.f k a0_7 32).bind fun t162 => (if ((a3 ++ t161) ++ a5).size + t162.size ≤ 9223372036854775807 then ((spec_Fill.f k a0_8 32).bind fun t163 => (if (((a3 ++ t161) ++ a5) ++ t162).size + t163.size ≤ 9223372036854775807 then ((spec_l04Oct.f k 0 8).bind fun t164 => (if ((((a3 ++ t161) ++ a5) ++ t162) ++ t163).size + t164.size ≤ 9223372036854775807 then ((spec_l04Oct.f k 0 8).bind fun t165 => (if (((((a3 ++ t161) ++ a5) ++ t162) ++ t163) ++ t164).size + t165.size ≤ 9223372036854775807 then ((spec_Fill.f k a2 155).bind fun t166 => (if ((((((a3 ++ t161) ++ a5) ++ t162) ++ t163) ++ t164) ++ t165).size + t166.size ≤ 9223372036854775807 then ((spec_l01Nuls.f k 12).bind fun t167 => (if (((((((a3 ++ t161) ++ a5) ++ t162) ++ t163) ++ t164) ++ t165) ++ t166).size + t167.size ≤ 9223372036854775807 then ((spec_SumOf.f k (((((t155 ++ t156) ++ t157) ++ t158) ++ t159) ++ t160)).bind fun t168 => ((spec_SumOf.f k ((((((((a3 ++ t161) ++ a5) ++ t162) ++ t163) ++ t164) ++ t165) ++ t166) ++ t167)).bind fun t169 => ((spec_PutOct.f k (wrap64 ((wrap64 (t168 + 256)) + t169)) 6).bind fun bt170 => (if (((((t155 ++ t156) ++ t157) ++ t158) ++ t159) ++ t160).size + bt170.1.size ≤ 9223372036854775807 then (if ((((((t155 ++ t156) ++ t157) ++ t158) ++ t159) ++ t160) ++ bt170.1).size + 2 ≤ 9223372036854775807 then (if (((((((t155 ++ t156) ++ t157) ++ t158) ++ t159) ++ t160) ++ bt170.1) ++ (⟨#[0, 32]⟩ : ByteArray)).size + ((((((((a3 ++ t161) ++ a5) ++ t162) ++ t163) ++ t164) ++ t165) ++ t166) ++ t167).size ≤ 9223372036854775807 then (some ((((((((t155 ++ t156) ++ t157) ++ t158) ++ t159) ++ t160) ++ bt170.1) ++ (⟨#[0, 32]⟩ : ByteArray)) ++ ((((((((a3 ++ t161) ++ a5) ++ t162) ++ t163) ++ t164) ++ t165) ++ t166) ++ t167))) else (none)) else (none)) else (none))))) else (none))) else (none))) else (none))) else (none))) else (none))) else (none))) else (none)) else (none))) else (none))) else (none))) else (none))) else (none))) else (none)) = some r := H
  have A8 := Aside0.mk A80
  clear A80
  by_cases c9 : t155.size + t156.size ≤ 9223372036854775807
  · rw [if_pos c9] at H
    have c9b0 := eq_true c9
    have c9b1 : decide (t155.size + t156.size ≤ 9223372036854775807) = true := decide_eq_true c9
    try have c9b2 : (9223372036854775807 < t155.size + t156.size) = False := eq_false (Nat.not_lt.2 c9)
    replace H := Option.bind_eq_some_iff.mp H
    obtain ⟨t157, A100, H⟩ := H
    replace H : (if (t155 ++ t156).size + t157.size ≤ 9223372036854775807 then ((spec_l04Oct.f k a0_5 8).bind fun t158 => (if ((t155 ++ t156) ++ t157).size + t158.size ≤ 9223372036854775807 then ((spec_l04Oct.f k a4 12).bind fun t159 => (if (((t155 ++ t156) ++ t157) ++ t158).size + t159.size ≤ 9223372036854775807 then ((spec_l04Oct.f k a0_6 12).bind fun t160 => (if ((((t155 ++ t156) ++ t157) ++ t158) ++ t159).size + t160.size ≤ 9223372036854775807 then ((spec_Fill.f k a0_2 100).bind fun t161 => (if a3.size + t161.size ≤ 9223372036854775807 then (if (a3 ++ t161).size + a5.size ≤ 9223372036854775807 then ((spec_Fill.f k a0_7 32).bind fun t162 => (if ((a3 ++ t161) ++ a5).size + t162.size ≤ 9223372036854775807 then ((spec_Fill.f k a0_8 32).bind fun t163 => (if (((a3 ++ t161) ++ a5) ++ t162).size + t163.size ≤ 9223372036854775807 then ((spec_l04Oct.f k 0 8).bind fun t164 => (if ((((a3 ++ t161) ++ a5) ++ t162) ++ t163).size + t164.size ≤ 9223372036854775807 then ((spec_l04Oct.f k 0 8).bind fun t165 => (if (((((a3 ++ t161) ++ a5) ++ t162) ++ t163) ++ t164).size + t165.size ≤ 9223372036854775807 then ((spec_Fill.f k a2 155).bind fun t166 => (if ((((((a3 ++ t161) ++ a5) ++ t162) ++ t163) ++ t164) ++ t165).size + t166.size ≤ 9223372036854775807 then ((spec_l01Nuls.f k 12).bind fun t167 => (if (((((((a3 ++ t161) ++ a5) ++ t162) ++ t163) ++ t164) ++ t165) ++ t166).size + t167.size ≤ 9223372036854775807 then ((spec_SumOf.f k (((((t155 ++ t156) ++ t157) ++ t158) ++ t159) ++ t160)).bind fun t168 => ((spec_SumOf.f k ((((((((a3 ++ t161) ++ a5) ++ t162) ++ t163) ++ t164) ++ t165) ++ t166) ++ t167)).bind fun t169 => ((spec_PutOct.f k (wrap64 ((wrap64 (t168 + 256)) + t169)) 6).bind fun bt170 => (if (((((t155 ++ t156) ++ t157) ++ t158) ++ t159) ++ t160).size + bt170.1.size ≤ 9223372036854775807 then (if ((((((t155 ++ t156) ++ t157) ++ t158) ++ t159) ++ t160) ++ bt170.1).size + 2 ≤ 9223372036854775807 then (if (((((((t155 ++ t156) ++ t157) ++ t158) ++ t159) ++ t160) ++ bt170.1) ++ (⟨#[0, 32]⟩ : ByteArray)).size + ((((((((a3 ++ t161) ++ a5) ++ t162) ++ t163) ++ t164) ++ t165) ++ t166) ++ t167).size ≤ 9223372036854775807 then (some ((((((((t155 ++ t156) ++ t157) ++ t158) ++ t159) ++ t160) ++ bt170.1) ++ (⟨#[0, 32]⟩ : ByteArray)) ++ ((((((((a3 ++ t161) ++ a5) ++ t162) ++ t163) ++ t164) ++ t165) ++ t166) ++ t167))) else (none)) else (none)) else (none))))) else (none))) else (none))) else (none))) else (none))) else (none))) else (none))) else (none)) else (none))) else (none))) else (none))) else (none))) else (none)) = some r := H
    have A10 := Aside0.mk A100
    clear A100
    by_cases c11 : (t155 ++ t156).size + t157.size ≤ 9223372036854775807
    · rw [if_pos c11] at H
      have c11b0 := eq_true c11
      have c11b1 : decide ((t155 ++ t156).size + t157.size ≤ 9223372036854775807) = true := decide_eq_true c11
      try (have c11b1z := c11b1; simp only [ByteArray.size_append] at c11b1z)
      try have c11b2 : (9223372036854775807 < (t155 ++ t156).size + t157.size) = False := eq_false (Nat.not_lt.2 c11)
      try (have c11b2z := c11b2; simp only [ByteArray.size_append] at c11b2z)
      replace H := Option.bind_eq_some_iff.mp H
      obtain ⟨t158, A120, H⟩ := H
      replace H : (if ((t155 ++ t156) ++ t157).size + t158.size ≤ 9223372036854775807 then ((spec_l04Oct.f k a4 12).bind fun t159 => (if (((t155 ++ t156) ++ t157) ++ t158).size + t159.size ≤ 9223372036854775807 then ((spec_l04Oct.f k a0_6 12).bind fun t160 => (if ((((t155 ++ t156) ++ t157) ++ t158) ++ t159).size + t160.size ≤ 9223372036854775807 then ((spec_Fill.f k a0_2 100).bind fun t161 => (if a3.size + t161.size ≤ 9223372036854775807 then (if (a3 ++ t161).size + a5.size ≤ 9223372036854775807 then ((spec_Fill.f k a0_7 32).bind fun t162 => (if ((a3 ++ t161) ++ a5).size + t162.size ≤ 9223372036854775807 then ((spec_Fill.f k a0_8 32).bind fun t163 => (if (((a3 ++ t161) ++ a5) ++ t162).size + t163.size ≤ 9223372036854775807 then ((spec_l04Oct.f k 0 8).bind fun t164 => (if ((((a3 ++ t161) ++ a5) ++ t162) ++ t163).size + t164.size ≤ 9223372036854775807 then ((spec_l04Oct.f k 0 8).bind fun t165 => (if (((((a3 ++ t161) ++ a5) ++ t162) ++ t163) ++ t164).size + t165.size ≤ 9223372036854775807 then ((spec_Fill.f k a2 155).bind fun t166 => (if ((((((a3 ++ t161) ++ a5) ++ t162) ++ t163) ++ t164) ++ t165).size + t166.size ≤ 9223372036854775807 then ((spec_l01Nuls.f k 12).bind fun t167 => (if (((((((a3 ++ t161) ++ a5) ++ t162) ++ t163) ++ t164) ++ t165) ++ t166).size + t167.size ≤ 9223372036854775807 then ((spec_SumOf.f k (((((t155 ++ t156) ++ t157) ++ t158) ++ t159) ++ t160)).bind fun t168 => ((spec_SumOf.f k ((((((((a3 ++ t161) ++ a5) ++ t162) ++ t163) ++ t164) ++ t165) ++ t166) ++ t167)).bind fun t169 => ((spec_PutOct.f k (wrap64 ((wrap64 (t168 + 256)) + t169)) 6).bind fun bt170 => (if (((((t155 ++ t156) ++ t157) ++ t158) ++ t159) ++ t160).size + bt170.1.size ≤ 9223372036854775807 then (if ((((((t155 ++ t156) ++ t157) ++ t158) ++ t159) ++ t160) ++ bt170.1).size + 2 ≤ 9223372036854775807 then (if (((((((t155 ++ t156) ++ t157) ++ t158) ++ t159) ++ t160) ++ bt170.1) ++ (⟨#[0, 32]⟩ : ByteArray)).size + ((((((((a3 ++ t161) ++ a5) ++ t162) ++ t163) ++ t164) ++ t165) ++ t166) ++ t167).size ≤ 9223372036854775807 then (some ((((((((t155 ++ t156) ++ t157) ++ t158) ++ t159) ++ t160) ++ bt170.1) ++ (⟨#[0, 32]⟩ : ByteArray)) ++ ((((((((a3 ++ t161) ++ a5) ++ t162) ++ t163) ++ t164) ++ t165) ++ t166) ++ t167))) else (none)) else (none)) else (none))))) else (none))) else (none))) else (none))) else (none))) else (none))) else (none))) else (none)) else (none))) else (none))) else (none))) else (none)) = some r := H
      have A12 := Aside0.mk A120
      clear A120
      by_cases c13 : ((t155 ++ t156) ++ t157).size + t158.size ≤ 9223372036854775807
      · rw [if_pos c13] at H
        have c13b0 := eq_true c13
        have c13b1 : decide (((t155 ++ t156) ++ t157).size + t158.size ≤ 9223372036854775807) = true := decide_eq_true c13
        try (have c13b1z := c13b1; simp only [ByteArray.size_append] at c13b1z)
        try have c13b2 : (9223372036854775807 < ((t155 ++ t156) ++ t157).size + t158.size) = False := eq_false (Nat.not_lt.2 c13)
        try (have c13b2z := c13b2; simp only [ByteArray.size_append] at c13b2z)
        replace H := Option.bind_eq_some_iff.mp H
        obtain ⟨t159, A140, H⟩ := H
        replace H : (if (((t155 ++ t156) ++ t157) ++ t158).size + t159.size ≤ 9223372036854775807 then ((spec_l04Oct.f k a0_6 12).bind fun t160 => (if ((((t155 ++ t156) ++ t157) ++ t158) ++ t159).size + t160.size ≤ 9223372036854775807 then ((spec_Fill.f k a0_2 100).bind fun t161 => (if a3.size + t161.size ≤ 9223372036854775807 then (if (a3 ++ t161).size + a5.size ≤ 9223372036854775807 then ((spec_Fill.f k a0_7 32).bind fun t162 => (if ((a3 ++ t161) ++ a5).size + t162.size ≤ 9223372036854775807 then ((spec_Fill.f k a0_8 32).bind fun t163 => (if (((a3 ++ t161) ++ a5) ++ t162).size + t163.size ≤ 9223372036854775807 then ((spec_l04Oct.f k 0 8).bind fun t164 => (if ((((a3 ++ t161) ++ a5) ++ t162) ++ t163).size + t164.size ≤ 9223372036854775807 then ((spec_l04Oct.f k 0 8).bind fun t165 => (if (((((a3 ++ t161) ++ a5) ++ t162) ++ t163) ++ t164).size + t165.size ≤ 9223372036854775807 then ((spec_Fill.f k a2 155).bind fun t166 => (if ((((((a3 ++ t161) ++ a5) ++ t162) ++ t163) ++ t164) ++ t165).size + t166.size ≤ 9223372036854775807 then ((spec_l01Nuls.f k 12).bind fun t167 => (if (((((((a3 ++ t161) ++ a5) ++ t162) ++ t163) ++ t164) ++ t165) ++ t166).size + t167.size ≤ 9223372036854775807 then ((spec_SumOf.f k (((((t155 ++ t156) ++ t157) ++ t158) ++ t159) ++ t160)).bind fun t168 => ((spec_SumOf.f k ((((((((a3 ++ t161) ++ a5) ++ t162) ++ t163) ++ t164) ++ t165) ++ t166) ++ t167)).bind fun t169 => ((spec_PutOct.f k (wrap64 ((wrap64 (t168 + 256)) + t169)) 6).bind fun bt170 => (if (((((t155 ++ t156) ++ t157) ++ t158) ++ t159) ++ t160).size + bt170.1.size ≤ 9223372036854775807 then (if ((((((t155 ++ t156) ++ t157) ++ t158) ++ t159) ++ t160) ++ bt170.1).size + 2 ≤ 9223372036854775807 then (if (((((((t155 ++ t156) ++ t157) ++ t158) ++ t159) ++ t160) ++ bt170.1) ++ (⟨#[0, 32]⟩ : ByteArray)).size + ((((((((a3 ++ t161) ++ a5) ++ t162) ++ t163) ++ t164) ++ t165) ++ t166) ++ t167).size ≤ 9223372036854775807 then (some ((((((((t155 ++ t156) ++ t157) ++ t158) ++ t159) ++ t160) ++ bt170.1) ++ (⟨#[0, 32]⟩ : ByteArray)) ++ ((((((((a3 ++ t161) ++ a5) ++ t162) ++ t163) ++ t164) ++ t165) ++ t166) ++ t167))) else (none)) else (none)) else (none))))) else (none))) else (none))) else (none))) else (none))) else (none))) else (none))) else (none)) else (none))) else (none))) else (none)) = some r := H
        have A14 := Aside0.mk A140
        clear A140
        by_cases c15 : (((t155 ++ t156) ++ t157) ++ t158).size + t159.size ≤ 9223372036854775807
        · rw [if_pos c15] at H
          have c15b0 := eq_true c15
          have c15b1 : decide ((((t155 ++ t156) ++ t157) ++ t158).size + t159.size ≤ 9223372036854775807) = true := decide_eq_true c15
          try (have c15b1z := c15b1; simp only [ByteArray.size_append] at c15b1z)
          try have c15b2 : (9223372036854775807 < (((t155 ++ t156) ++ t157) ++ t158).size + t159.size) = False := eq_false (Nat.not_lt.2 c15)
          try (have c15b2z := c15b2; simp only [ByteArray.size_append] at c15b2z)
          replace H := Option.bind_eq_some_iff.mp H
          obtain ⟨t160, A160, H⟩ := H
          replace H : (if ((((t155 ++ t156) ++ t157) ++ t158) ++ t159).size + t160.size ≤ 9223372036854775807 then ((spec_Fill.f k a0_2 100).bind fun t161 => (if a3.size + t161.size ≤ 9223372036854775807 then (if (a3 ++ t161).size + a5.size ≤ 9223372036854775807 then ((spec_Fill.f k a0_7 32).bind fun t162 => (if ((a3 ++ t161) ++ a5).size + t162.size ≤ 9223372036854775807 then ((spec_Fill.f k a0_8 32).bind fun t163 => (if (((a3 ++ t161) ++ a5) ++ t162).size + t163.size ≤ 9223372036854775807 then ((spec_l04Oct.f k 0 8).bind fun t164 => (if ((((a3 ++ t161) ++ a5) ++ t162) ++ t163).size + t164.size ≤ 9223372036854775807 then ((spec_l04Oct.f k 0 8).bind fun t165 => (if (((((a3 ++ t161) ++ a5) ++ t162) ++ t163) ++ t164).size + t165.size ≤ 9223372036854775807 then ((spec_Fill.f k a2 155).bind fun t166 => (if ((((((a3 ++ t161) ++ a5) ++ t162) ++ t163) ++ t164) ++ t165).size + t166.size ≤ 9223372036854775807 then ((spec_l01Nuls.f k 12).bind fun t167 => (if (((((((a3 ++ t161) ++ a5) ++ t162) ++ t163) ++ t164) ++ t165) ++ t166).size + t167.size ≤ 9223372036854775807 then ((spec_SumOf.f k (((((t155 ++ t156) ++ t157) ++ t158) ++ t159) ++ t160)).bind fun t168 => ((spec_SumOf.f k ((((((((a3 ++ t161) ++ a5) ++ t162) ++ t163) ++ t164) ++ t165) ++ t166) ++ t167)).bind fun t169 => ((spec_PutOct.f k (wrap64 ((wrap64 (t168 + 256)) + t169)) 6).bind fun bt170 => (if (((((t155 ++ t156) ++ t157) ++ t158) ++ t159) ++ t160).size + bt170.1.size ≤ 9223372036854775807 then (if ((((((t155 ++ t156) ++ t157) ++ t158) ++ t159) ++ t160) ++ bt170.1).size + 2 ≤ 9223372036854775807 then (if (((((((t155 ++ t156) ++ t157) ++ t158) ++ t159) ++ t160) ++ bt170.1) ++ (⟨#[0, 32]⟩ : ByteArray)).size + ((((((((a3 ++ t161) ++ a5) ++ t162) ++ t163) ++ t164) ++ t165) ++ t166) ++ t167).size ≤ 9223372036854775807 then (some ((((((((t155 ++ t156) ++ t157) ++ t158) ++ t159) ++ t160) ++ bt170.1) ++ (⟨#[0, 32]⟩ : ByteArray)) ++ ((((((((a3 ++ t161) ++ a5) ++ t162) ++ t163) ++ t164) ++ t165) ++ t166) ++ t167))) else (none)) else (none)) else (none))))) else (none))) else (none))) else (none))) else (none))) else (none))) else (none))) else (none)) else (none))) else (none)) = some r := H
          have A16 := Aside0.mk A160
          clear A160
          by_cases c17 : ((((t155 ++ t156) ++ t157) ++ t158) ++ t159).size + t160.size ≤ 9223372036854775807
          · rw [if_pos c17] at H
            have c17b0 := eq_true c17
            have c17b1 : decide (((((t155 ++ t156) ++ t157) ++ t158) ++ t159).size + t160.size ≤ 9223372036854775807) = true := decide_eq_true c17
            try (have c17b1z := c17b1; simp only [ByteArray.size_append] at c17b1z)
            try have c17b2 : (9223372036854775807 < ((((t155 ++ t156) ++ t157) ++ t158) ++ t159).size + t160.size) = False := eq_false (Nat.not_lt.2 c17)
            try (have c17b2z := c17b2; simp only [ByteArray.size_append] at c17b2z)
            replace H := Option.bind_eq_some_iff.mp H
            obtain ⟨t161, A180, H⟩ := H
            replace H : (if a3.size + t161.size ≤ 9223372036854775807 then (if (a3 ++ t161).size + a5.size ≤ 9223372036854775807 then ((spec_Fill.f k a0_7 32).bind fun t162 => (if ((a3 ++ t161) ++ a5).size + t162.size ≤ 9223372036854775807 then ((spec_Fill.f k a0_8 32).bind fun t163 => (if (((a3 ++ t161) ++ a5) ++ t162).size + t163.size ≤ 9223372036854775807 then ((spec_l04Oct.f k 0 8).bind fun t164 => (if ((((a3 ++ t161) ++ a5) ++ t162) ++ t163).size + t164.size ≤ 9223372036854775807 then ((spec_l04Oct.f k 0 8).bind fun t165 => (if (((((a3 ++ t161) ++ a5) ++ t162) ++ t163) ++ t164).size + t165.size ≤ 9223372036854775807 then ((spec_Fill.f k a2 155).bind fun t166 => (if ((((((a3 ++ t161) ++ a5) ++ t162) ++ t163) ++ t164) ++ t165).size + t166.size ≤ 9223372036854775807 then ((spec_l01Nuls.f k 12).bind fun t167 => (if (((((((a3 ++ t161) ++ a5) ++ t162) ++ t163) ++ t164) ++ t165) ++ t166).size + t167.size ≤ 9223372036854775807 then ((spec_SumOf.f k (((((t155 ++ t156) ++ t157) ++ t158) ++ t159) ++ t160)).bind fun t168 => ((spec_SumOf.f k ((((((((a3 ++ t161) ++ a5) ++ t162) ++ t163) ++ t164) ++ t165) ++ t166) ++ t167)).bind fun t169 => ((spec_PutOct.f k (wrap64 ((wrap64 (t168 + 256)) + t169)) 6).bind fun bt170 => (if (((((t155 ++ t156) ++ t157) ++ t158) ++ t159) ++ t160).size + bt170.1.size ≤ 9223372036854775807 then (if ((((((t155 ++ t156) ++ t157) ++ t158) ++ t159) ++ t160) ++ bt170.1).size + 2 ≤ 9223372036854775807 then (if (((((((t155 ++ t156) ++ t157) ++ t158) ++ t159) ++ t160) ++ bt170.1) ++ (⟨#[0, 32]⟩ : ByteArray)).size + ((((((((a3 ++ t161) ++ a5) ++ t162) ++ t163) ++ t164) ++ t165) ++ t166) ++ t167).size ≤ 9223372036854775807 then (some ((((((((t155 ++ t156) ++ t157) ++ t158) ++ t159) ++ t160) ++ bt170.1) ++ (⟨#[0, 32]⟩ : ByteArray)) ++ ((((((((a3 ++ t161) ++ a5) ++ t162) ++ t163) ++ t164) ++ t165) ++ t166) ++ t167))) else (none)) else (none)) else (none))))) else (none))) else (none))) else (none))) else (none))) else (none))) else (none))) else (none)) else (none)) = some r := H
            have A18 := Aside0.mk A180
            clear A180
            by_cases c19 : a3.size + t161.size ≤ 9223372036854775807
            · rw [if_pos c19] at H
              have c19b0 := eq_true c19
              have c19b1 : decide (a3.size + t161.size ≤ 9223372036854775807) = true := decide_eq_true c19
              try have c19b2 : (9223372036854775807 < a3.size + t161.size) = False := eq_false (Nat.not_lt.2 c19)
              by_cases c20 : (a3 ++ t161).size + a5.size ≤ 9223372036854775807
              · rw [if_pos c20] at H
                have c20b0 := eq_true c20
                have c20b1 : decide ((a3 ++ t161).size + a5.size ≤ 9223372036854775807) = true := decide_eq_true c20
                try (have c20b1z := c20b1; simp only [ByteArray.size_append] at c20b1z)
                try have c20b2 : (9223372036854775807 < (a3 ++ t161).size + a5.size) = False := eq_false (Nat.not_lt.2 c20)
                try (have c20b2z := c20b2; simp only [ByteArray.size_append] at c20b2z)
                replace H := Option.bind_eq_some_iff.mp H
                obtain ⟨t162, A210, H⟩ := H
                replace H : (if ((a3 ++ t161) ++ a5).size + t162.size ≤ 9223372036854775807 then ((spec_Fill.f k a0_8 32).bind fun t163 => (if (((a3 ++ t161) ++ a5) ++ t162).size + t163.size ≤ 9223372036854775807 then ((spec_l04Oct.f k 0 8).bind fun t164 => (if ((((a3 ++ t161) ++ a5) ++ t162) ++ t163).size + t164.size ≤ 9223372036854775807 then ((spec_l04Oct.f k 0 8).bind fun t165 => (if (((((a3 ++ t161) ++ a5) ++ t162) ++ t163) ++ t164).size + t165.size ≤ 9223372036854775807 then ((spec_Fill.f k a2 155).bind fun t166 => (if ((((((a3 ++ t161) ++ a5) ++ t162) ++ t163) ++ t164) ++ t165).size + t166.size ≤ 9223372036854775807 then ((spec_l01Nuls.f k 12).bind fun t167 => (if (((((((a3 ++ t161) ++ a5) ++ t162) ++ t163) ++ t164) ++ t165) ++ t166).size + t167.size ≤ 9223372036854775807 then ((spec_SumOf.f k (((((t155 ++ t156) ++ t157) ++ t158) ++ t159) ++ t160)).bind fun t168 => ((spec_SumOf.f k ((((((((a3 ++ t161) ++ a5) ++ t162) ++ t163) ++ t164) ++ t165) ++ t166) ++ t167)).bind fun t169 => ((spec_PutOct.f k (wrap64 ((wrap64 (t168 + 256)) + t169)) 6).bind fun bt170 => (if (((((t155 ++ t156) ++ t157) ++ t158) ++ t159) ++ t160).size + bt170.1.size ≤ 9223372036854775807 then (if ((((((t155 ++ t156) ++ t157) ++ t158) ++ t159) ++ t160) ++ bt170.1).size + 2 ≤ 9223372036854775807 then (if (((((((t155 ++ t156) ++ t157) ++ t158) ++ t159) ++ t160) ++ bt170.1) ++ (⟨#[0, 32]⟩ : ByteArray)).size + ((((((((a3 ++ t161) ++ a5) ++ t162) ++ t163) ++ t164) ++ t165) ++ t166) ++ t167).size ≤ 9223372036854775807 then (some ((((((((t155 ++ t156) ++ t157) ++ t158) ++ t159) ++ t160) ++ bt170.1) ++ (⟨#[0, 32]⟩ : ByteArray)) ++ ((((((((a3 ++ t161) ++ a5) ++ t162) ++ t163) ++ t164) ++ t165) ++ t166) ++ t167))) else (none)) else (none)) else (none))))) else (none))) else (none))) else (none))) else (none))) else (none))) else (none)) = some r := H
                have A21 := Aside0.mk A210
                clear A210
                by_cases c22 : ((a3 ++ t161) ++ a5).size + t162.size ≤ 9223372036854775807
                · rw [if_pos c22] at H
                  have c22b0 := eq_true c22
                  have c22b1 : decide (((a3 ++ t161) ++ a5).size + t162.size ≤ 9223372036854775807) = true := decide_eq_true c22
                  try (have c22b1z := c22b1; simp only [ByteArray.size_append] at c22b1z)
                  try have c22b2 : (9223372036854775807 < ((a3 ++ t161) ++ a5).size + t162.size) = False := eq_false (Nat.not_lt.2 c22)
                  try (have c22b2z := c22b2; simp only [ByteArray.size_append] at c22b2z)
                  replace H := Option.bind_eq_some_iff.mp H
                  obtain ⟨t163, A230, H⟩ := H
                  replace H : (if (((a3 ++ t161) ++ a5) ++ t162).size + t163.size ≤ 9223372036854775807 then ((spec_l04Oct.f k 0 8).bind fun t164 => (if ((((a3 ++ t161) ++ a5) ++ t162) ++ t163).size + t164.size ≤ 9223372036854775807 then ((spec_l04Oct.f k 0 8).bind fun t165 => (if (((((a3 ++ t161) ++ a5) ++ t162) ++ t163) ++ t164).size + t165.size ≤ 9223372036854775807 then ((spec_Fill.f k a2 155).bind fun t166 => (if ((((((a3 ++ t161) ++ a5) ++ t162) ++ t163) ++ t164) ++ t165).size + t166.size ≤ 9223372036854775807 then ((spec_l01Nuls.f k 12).bind fun t167 => (if (((((((a3 ++ t161) ++ a5) ++ t162) ++ t163) ++ t164) ++ t165) ++ t166).size + t167.size ≤ 9223372036854775807 then ((spec_SumOf.f k (((((t155 ++ t156) ++ t157) ++ t158) ++ t159) ++ t160)).bind fun t168 => ((spec_SumOf.f k ((((((((a3 ++ t161) ++ a5) ++ t162) ++ t163) ++ t164) ++ t165) ++ t166) ++ t167)).bind fun t169 => ((spec_PutOct.f k (wrap64 ((wrap64 (t168 + 256)) + t169)) 6).bind fun bt170 => (if (((((t155 ++ t156) ++ t157) ++ t158) ++ t159) ++ t160).size + bt170.1.size ≤ 9223372036854775807 then (if ((((((t155 ++ t156) ++ t157) ++ t158) ++ t159) ++ t160) ++ bt170.1).size + 2 ≤ 9223372036854775807 then (if (((((((t155 ++ t156) ++ t157) ++ t158) ++ t159) ++ t160) ++ bt170.1) ++ (⟨#[0, 32]⟩ : ByteArray)).size + ((((((((a3 ++ t161) ++ a5) ++ t162) ++ t163) ++ t164) ++ t165) ++ t166) ++ t167).size ≤ 9223372036854775807 then (some ((((((((t155 ++ t156) ++ t157) ++ t158) ++ t159) ++ t160) ++ bt170.1) ++ (⟨#[0, 32]⟩ : ByteArray)) ++ ((((((((a3 ++ t161) ++ a5) ++ t162) ++ t163) ++ t164) ++ t165) ++ t166) ++ t167))) else (none)) else (none)) else (none))))) else (none))) else (none))) else (none))) else (none))) else (none)) = some r := H
                  have A23 := Aside0.mk A230
                  clear A230
                  by_cases c24 : (((a3 ++ t161) ++ a5) ++ t162).size + t163.size ≤ 9223372036854775807
                  · rw [if_pos c24] at H
                    have c24b0 := eq_true c24
                    have c24b1 : decide ((((a3 ++ t161) ++ a5) ++ t162).size + t163.size ≤ 9223372036854775807) = true := decide_eq_true c24
                    try (have c24b1z := c24b1; simp only [ByteArray.size_append] at c24b1z)
                    try have c24b2 : (9223372036854775807 < (((a3 ++ t161) ++ a5) ++ t162).size + t163.size) = False := eq_false (Nat.not_lt.2 c24)
                    try (have c24b2z := c24b2; simp only [ByteArray.size_append] at c24b2z)
                    replace H := Option.bind_eq_some_iff.mp H
                    obtain ⟨t164, A250, H⟩ := H
                    replace H : (if ((((a3 ++ t161) ++ a5) ++ t162) ++ t163).size + t164.size ≤ 9223372036854775807 then ((spec_l04Oct.f k 0 8).bind fun t165 => (if (((((a3 ++ t161) ++ a5) ++ t162) ++ t163) ++ t164).size + t165.size ≤ 9223372036854775807 then ((spec_Fill.f k a2 155).bind fun t166 => (if ((((((a3 ++ t161) ++ a5) ++ t162) ++ t163) ++ t164) ++ t165).size + t166.size ≤ 9223372036854775807 then ((spec_l01Nuls.f k 12).bind fun t167 => (if (((((((a3 ++ t161) ++ a5) ++ t162) ++ t163) ++ t164) ++ t165) ++ t166).size + t167.size ≤ 9223372036854775807 then ((spec_SumOf.f k (((((t155 ++ t156) ++ t157) ++ t158) ++ t159) ++ t160)).bind fun t168 => ((spec_SumOf.f k ((((((((a3 ++ t161) ++ a5) ++ t162) ++ t163) ++ t164) ++ t165) ++ t166) ++ t167)).bind fun t169 => ((spec_PutOct.f k (wrap64 ((wrap64 (t168 + 256)) + t169)) 6).bind fun bt170 => (if (((((t155 ++ t156) ++ t157) ++ t158) ++ t159) ++ t160).size + bt170.1.size ≤ 9223372036854775807 then (if ((((((t155 ++ t156) ++ t157) ++ t158) ++ t159) ++ t160) ++ bt170.1).size + 2 ≤ 9223372036854775807 then (if (((((((t155 ++ t156) ++ t157) ++ t158) ++ t159) ++ t160) ++ bt170.1) ++ (⟨#[0, 32]⟩ : ByteArray)).size + ((((((((a3 ++ t161) ++ a5) ++ t162) ++ t163) ++ t164) ++ t165) ++ t166) ++ t167).size ≤ 9223372036854775807 then (some ((((((((t155 ++ t156) ++ t157) ++ t158) ++ t159) ++ t160) ++ bt170.1) ++ (⟨#[0, 32]⟩ : ByteArray)) ++ ((((((((a3 ++ t161) ++ a5) ++ t162) ++ t163) ++ t164) ++ t165) ++ t166) ++ t167))) else (none)) else (none)) else (none))))) else (none))) else (none))) else (none))) else (none)) = some r := H
                    have A25 := Aside0.mk A250
                    clear A250
                    by_cases c26 : ((((a3 ++ t161) ++ a5) ++ t162) ++ t163).size + t164.size ≤ 9223372036854775807
                    · rw [if_pos c26] at H
                      have c26b0 := eq_true c26
                      have c26b1 : decide (((((a3 ++ t161) ++ a5) ++ t162) ++ t163).size + t164.size ≤ 9223372036854775807) = true := decide_eq_true c26
                      try (have c26b1z := c26b1; simp only [ByteArray.size_append] at c26b1z)
                      try have c26b2 : (9223372036854775807 < ((((a3 ++ t161) ++ a5) ++ t162) ++ t163).size + t164.size) = False := eq_false (Nat.not_lt.2 c26)
                      try (have c26b2z := c26b2; simp only [ByteArray.size_append] at c26b2z)
                      replace H := Option.bind_eq_some_iff.mp H
                      obtain ⟨t165, A270, H⟩ := H
                      replace H : (if (((((a3 ++ t161) ++ a5) ++ t162) ++ t163) ++ t164).size + t165.size ≤ 9223372036854775807 then ((spec_Fill.f k a2 155).bind fun t166 => (if ((((((a3 ++ t161) ++ a5) ++ t162) ++ t163) ++ t164) ++ t165).size + t166.size ≤ 9223372036854775807 then ((spec_l01Nuls.f k 12).bind fun t167 => (if (((((((a3 ++ t161) ++ a5) ++ t162) ++ t163) ++ t164) ++ t165) ++ t166).size + t167.size ≤ 9223372036854775807 then ((spec_SumOf.f k (((((t155 ++ t156) ++ t157) ++ t158) ++ t159) ++ t160)).bind fun t168 => ((spec_SumOf.f k ((((((((a3 ++ t161) ++ a5) ++ t162) ++ t163) ++ t164) ++ t165) ++ t166) ++ t167)).bind fun t169 => ((spec_PutOct.f k (wrap64 ((wrap64 (t168 + 256)) + t169)) 6).bind fun bt170 => (if (((((t155 ++ t156) ++ t157) ++ t158) ++ t159) ++ t160).size + bt170.1.size ≤ 9223372036854775807 then (if ((((((t155 ++ t156) ++ t157) ++ t158) ++ t159) ++ t160) ++ bt170.1).size + 2 ≤ 9223372036854775807 then (if (((((((t155 ++ t156) ++ t157) ++ t158) ++ t159) ++ t160) ++ bt170.1) ++ (⟨#[0, 32]⟩ : ByteArray)).size + ((((((((a3 ++ t161) ++ a5) ++ t162) ++ t163) ++ t164) ++ t165) ++ t166) ++ t167).size ≤ 9223372036854775807 then (some ((((((((t155 ++ t156) ++ t157) ++ t158) ++ t159) ++ t160) ++ bt170.1) ++ (⟨#[0, 32]⟩ : ByteArray)) ++ ((((((((a3 ++ t161) ++ a5) ++ t162) ++ t163) ++ t164) ++ t165) ++ t166) ++ t167))) else (none)) else (none)) else (none))))) else (none))) else (none))) else (none)) = some r := H
                      have A27 := Aside0.mk A270
                      clear A270
                      by_cases c28 : (((((a3 ++ t161) ++ a5) ++ t162) ++ t163) ++ t164).size + t165.size ≤ 9223372036854775807
                      · rw [if_pos c28] at H
                        have c28b0 := eq_true c28
                        have c28b1 : decide ((((((a3 ++ t161) ++ a5) ++ t162) ++ t163) ++ t164).size + t165.size ≤ 9223372036854775807) = true := decide_eq_true c28
                        try (have c28b1z := c28b1; simp only [ByteArray.size_append] at c28b1z)
                        try have c28b2 : (9223372036854775807 < (((((a3 ++ t161) ++ a5) ++ t162) ++ t163) ++ t164).size + t165.size) = False := eq_false (Nat.not_lt.2 c28)
                        try (have c28b2z := c28b2; simp only [ByteArray.size_append] at c28b2z)
                        replace H := Option.bind_eq_some_iff.mp H
                        obtain ⟨t166, A290, H⟩ := H
                        replace H : (if ((((((a3 ++ t161) ++ a5) ++ t162) ++ t163) ++ t164) ++ t165).size + t166.size ≤ 9223372036854775807 then ((spec_l01Nuls.f k 12).bind fun t167 => (if (((((((a3 ++ t161) ++ a5) ++ t162) ++ t163) ++ t164) ++ t165) ++ t166).size + t167.size ≤ 9223372036854775807 then ((spec_SumOf.f k (((((t155 ++ t156) ++ t157) ++ t158) ++ t159) ++ t160)).bind fun t168 => ((spec_SumOf.f k ((((((((a3 ++ t161) ++ a5) ++ t162) ++ t163) ++ t164) ++ t165) ++ t166) ++ t167)).bind fun t169 => ((spec_PutOct.f k (wrap64 ((wrap64 (t168 + 256)) + t169)) 6).bind fun bt170 => (if (((((t155 ++ t156) ++ t157) ++ t158) ++ t159) ++ t160).size + bt170.1.size ≤ 9223372036854775807 then (if ((((((t155 ++ t156) ++ t157) ++ t158) ++ t159) ++ t160) ++ bt170.1).size + 2 ≤ 9223372036854775807 then (if (((((((t155 ++ t156) ++ t157) ++ t158) ++ t159) ++ t160) ++ bt170.1) ++ (⟨#[0, 32]⟩ : ByteArray)).size + ((((((((a3 ++ t161) ++ a5) ++ t162) ++ t163) ++ t164) ++ t165) ++ t166) ++ t167).size ≤ 9223372036854775807 then (some ((((((((t155 ++ t156) ++ t157) ++ t158) ++ t159) ++ t160) ++ bt170.1) ++ (⟨#[0, 32]⟩ : ByteArray)) ++ ((((((((a3 ++ t161) ++ a5) ++ t162) ++ t163) ++ t164) ++ t165) ++ t166) ++ t167))) else (none)) else (none)) else (none))))) else (none))) else (none)) = some r := H
                        have A29 := Aside0.mk A290
                        clear A290
                        by_cases c30 : ((((((a3 ++ t161) ++ a5) ++ t162) ++ t163) ++ t164) ++ t165).size + t166.size ≤ 9223372036854775807
                        · rw [if_pos c30] at H
                          have c30b0 := eq_true c30
                          have c30b1 : decide (((((((a3 ++ t161) ++ a5) ++ t162) ++ t163) ++ t164) ++ t165).size + t166.size ≤ 9223372036854775807) = true := decide_eq_true c30
                          try (have c30b1z := c30b1; simp only [ByteArray.size_append] at c30b1z)
                          try have c30b2 : (9223372036854775807 < ((((((a3 ++ t161) ++ a5) ++ t162) ++ t163) ++ t164) ++ t165).size + t166.size) = False := eq_false (Nat.not_lt.2 c30)
                          try (have c30b2z := c30b2; simp only [ByteArray.size_append] at c30b2z)
                          replace H := Option.bind_eq_some_iff.mp H
                          obtain ⟨t167, A310, H⟩ := H
                          replace H : (if (((((((a3 ++ t161) ++ a5) ++ t162) ++ t163) ++ t164) ++ t165) ++ t166).size + t167.size ≤ 9223372036854775807 then ((spec_SumOf.f k (((((t155 ++ t156) ++ t157) ++ t158) ++ t159) ++ t160)).bind fun t168 => ((spec_SumOf.f k ((((((((a3 ++ t161) ++ a5) ++ t162) ++ t163) ++ t164) ++ t165) ++ t166) ++ t167)).bind fun t169 => ((spec_PutOct.f k (wrap64 ((wrap64 (t168 + 256)) + t169)) 6).bind fun bt170 => (if (((((t155 ++ t156) ++ t157) ++ t158) ++ t159) ++ t160).size + bt170.1.size ≤ 9223372036854775807 then (if ((((((t155 ++ t156) ++ t157) ++ t158) ++ t159) ++ t160) ++ bt170.1).size + 2 ≤ 9223372036854775807 then (if (((((((t155 ++ t156) ++ t157) ++ t158) ++ t159) ++ t160) ++ bt170.1) ++ (⟨#[0, 32]⟩ : ByteArray)).size + ((((((((a3 ++ t161) ++ a5) ++ t162) ++ t163) ++ t164) ++ t165) ++ t166) ++ t167).size ≤ 9223372036854775807 then (some ((((((((t155 ++ t156) ++ t157) ++ t158) ++ t159) ++ t160) ++ bt170.1) ++ (⟨#[0, 32]⟩ : ByteArray)) ++ ((((((((a3 ++ t161) ++ a5) ++ t162) ++ t163) ++ t164) ++ t165) ++ t166) ++ t167))) else (none)) else (none)) else (none))))) else (none)) = some r := H
                          have A31 := Aside0.mk A310
                          clear A310
                          by_cases c32 : (((((((a3 ++ t161) ++ a5) ++ t162) ++ t163) ++ t164) ++ t165) ++ t166).size + t167.size ≤ 9223372036854775807
                          · rw [if_pos c32] at H
                            have c32b0 := eq_true c32
                            have c32b1 : decide ((((((((a3 ++ t161) ++ a5) ++ t162) ++ t163) ++ t164) ++ t165) ++ t166).size + t167.size ≤ 9223372036854775807) = true := decide_eq_true c32
                            try (have c32b1z := c32b1; simp only [ByteArray.size_append] at c32b1z)
                            try have c32b2 : (9223372036854775807 < (((((((a3 ++ t161) ++ a5) ++ t162) ++ t163) ++ t164) ++ t165) ++ t166).size + t167.size) = False := eq_false (Nat.not_lt.2 c32)
                            try (have c32b2z := c32b2; simp only [ByteArray.size_append] at c32b2z)
                            replace H := Option.bind_eq_some_iff.mp H
                            obtain ⟨t168, A330, H⟩ := H
                            replace H : ((spec_SumOf.f k ((((((((a3 ++ t161) ++ a5) ++ t162) ++ t163) ++ t164) ++ t165) ++ t166) ++ t167)).bind fun t169 => ((spec_PutOct.f k (wrap64 ((wrap64 (t168 + 256)) + t169)) 6).bind fun bt170 => (if (((((t155 ++ t156) ++ t157) ++ t158) ++ t159) ++ t160).size + bt170.1.size ≤ 9223372036854775807 then (if ((((((t155 ++ t156) ++ t157) ++ t158) ++ t159) ++ t160) ++ bt170.1).size + 2 ≤ 9223372036854775807 then (if (((((((t155 ++ t156) ++ t157) ++ t158) ++ t159) ++ t160) ++ bt170.1) ++ (⟨#[0, 32]⟩ : ByteArray)).size + ((((((((a3 ++ t161) ++ a5) ++ t162) ++ t163) ++ t164) ++ t165) ++ t166) ++ t167).size ≤ 9223372036854775807 then (some ((((((((t155 ++ t156) ++ t157) ++ t158) ++ t159) ++ t160) ++ bt170.1) ++ (⟨#[0, 32]⟩ : ByteArray)) ++ ((((((((a3 ++ t161) ++ a5) ++ t162) ++ t163) ++ t164) ++ t165) ++ t166) ++ t167))) else (none)) else (none)) else (none)))) = some r := H
                            have A33 := Aside0.mk A330
                            clear A330
                            replace H := Option.bind_eq_some_iff.mp H
                            obtain ⟨t169, A340, H⟩ := H
                            replace H : ((spec_PutOct.f k (wrap64 ((wrap64 (t168 + 256)) + t169)) 6).bind fun bt170 => (if (((((t155 ++ t156) ++ t157) ++ t158) ++ t159) ++ t160).size + bt170.1.size ≤ 9223372036854775807 then (if ((((((t155 ++ t156) ++ t157) ++ t158) ++ t159) ++ t160) ++ bt170.1).size + 2 ≤ 9223372036854775807 then (if (((((((t155 ++ t156) ++ t157) ++ t158) ++ t159) ++ t160) ++ bt170.1) ++ (⟨#[0, 32]⟩ : ByteArray)).size + ((((((((a3 ++ t161) ++ a5) ++ t162) ++ t163) ++ t164) ++ t165) ++ t166) ++ t167).size ≤ 9223372036854775807 then (some ((((((((t155 ++ t156) ++ t157) ++ t158) ++ t159) ++ t160) ++ bt170.1) ++ (⟨#[0, 32]⟩ : ByteArray)) ++ ((((((((a3 ++ t161) ++ a5) ++ t162) ++ t163) ++ t164) ++ t165) ++ t166) ++ t167))) else (none)) else (none)) else (none))) = some r := H
                            have A34 := Aside0.mk A340
                            clear A340
                            replace H := Option.bind_eq_some_iff.mp H
                            obtain ⟨⟨t170, t171⟩, A350, H⟩ := H
                            replace H : (if (((((t155 ++ t156) ++ t157) ++ t158) ++ t159) ++ t160).size + t170.size ≤ 9223372036854775807 then (if ((((((t155 ++ t156) ++ t157) ++ t158) ++ t159) ++ t160) ++ t170).size + 2 ≤ 9223372036854775807 then (if (((((((t155 ++ t156) ++ t157) ++ t158) ++ t159) ++ t160) ++ t170) ++ (⟨#[0, 32]⟩ : ByteArray)).size + ((((((((a3 ++ t161) ++ a5) ++ t162) ++ t163) ++ t164) ++ t165) ++ t166) ++ t167).size ≤ 9223372036854775807 then (some ((((((((t155 ++ t156) ++ t157) ++ t158) ++ t159) ++ t160) ++ t170) ++ (⟨#[0, 32]⟩ : ByteArray)) ++ ((((((((a3 ++ t161) ++ a5) ++ t162) ++ t163) ++ t164) ++ t165) ++ t166) ++ t167))) else (none)) else (none)) else (none)) = some r := H
                            have A35 := Aside0.mk A350
                            clear A350
                            by_cases c36 : (((((t155 ++ t156) ++ t157) ++ t158) ++ t159) ++ t160).size + t170.size ≤ 9223372036854775807
                            · rw [if_pos c36] at H
                              have c36b0 := eq_true c36
                              have c36b1 : decide ((((((t155 ++ t156) ++ t157) ++ t158) ++ t159) ++ t160).size + t170.size ≤ 9223372036854775807) = true := decide_eq_true c36
                              try (have c36b1z := c36b1; simp only [ByteArray.size_append] at c36b1z)
                              try have c36b2 : (9223372036854775807 < (((((t155 ++ t156) ++ t157) ++ t158) ++ t159) ++ t160).size + t170.size) = False := eq_false (Nat.not_lt.2 c36)
                              try (have c36b2z := c36b2; simp only [ByteArray.size_append] at c36b2z)
                              by_cases c37 : ((((((t155 ++ t156) ++ t157) ++ t158) ++ t159) ++ t160) ++ t170).size + 2 ≤ 9223372036854775807
                              · rw [if_pos c37] at H
                                have c37b0 := eq_true c37
                                have c37b1 : decide (((((((t155 ++ t156) ++ t157) ++ t158) ++ t159) ++ t160) ++ t170).size + 2 ≤ 9223372036854775807) = true := decide_eq_true c37
                                try (have c37b1z := c37b1; simp only [ByteArray.size_append] at c37b1z)
                                try have c37b2 : (9223372036854775807 < ((((((t155 ++ t156) ++ t157) ++ t158) ++ t159) ++ t160) ++ t170).size + 2) = False := eq_false (Nat.not_lt.2 c37)
                                try (have c37b2z := c37b2; simp only [ByteArray.size_append] at c37b2z)
                                by_cases c38 : (((((((t155 ++ t156) ++ t157) ++ t158) ++ t159) ++ t160) ++ t170) ++ (⟨#[0, 32]⟩ : ByteArray)).size + ((((((((a3 ++ t161) ++ a5) ++ t162) ++ t163) ++ t164) ++ t165) ++ t166) ++ t167).size ≤ 9223372036854775807
                                · rw [if_pos c38] at H
                                  have c38b0 := eq_true c38
                                  have c38b1 : decide ((((((((t155 ++ t156) ++ t157) ++ t158) ++ t159) ++ t160) ++ t170) ++ (⟨#[0, 32]⟩ : ByteArray)).size + ((((((((a3 ++ t161) ++ a5) ++ t162) ++ t163) ++ t164) ++ t165) ++ t166) ++ t167).size ≤ 9223372036854775807) = true := decide_eq_true c38
                                  try (have c38b1z := c38b1; simp only [ByteArray.size_append, show (⟨#[0, 32]⟩ : ByteArray).size = 2 from rfl] at c38b1z)
                                  try have c38b2 : (9223372036854775807 < (((((((t155 ++ t156) ++ t157) ++ t158) ++ t159) ++ t160) ++ t170) ++ (⟨#[0, 32]⟩ : ByteArray)).size + ((((((((a3 ++ t161) ++ a5) ++ t162) ++ t163) ++ t164) ++ t165) ++ t166) ++ t167).size) = False := eq_false (Nat.not_lt.2 c38)
                                  try (have c38b2z := c38b2; simp only [ByteArray.size_append, show (⟨#[0, 32]⟩ : ByteArray).size = 2 from rfl] at c38b2z)
                                  obtain rfl := Option.some.inj H
                                  go_enter Tryd.func53, Tryd.ntmps53
                                  try go_wp2_with (first | ((with_reducible refine gate_dst (N := 6) rfl ?_); refine box_event ?hg (N := 6) ?hd (cs := #[.int .i64 a0_0, .string a0_1, .string a0_2, .int .i64 a0_3, .int .i64 a0_4, .int .i64 a0_5, .int .i64 a0_6, .string a0_7, .string a0_8, .string a0_9]) (t := 36) ?hr ?_; (case hd => rfl); (case hg => rfl); (case hr => first | (go_simp; done) | (go_simp; rfl)); intro gb154 hg w39 hbox hb; have n0_ := Aside0.mk (below_step (by repeat (first | (with_reducible first | exact HB.out | apply below_alloc | apply pw_below_drewN | apply below_drew1) | exact HB.out)) hb); have n1_ := Aside0.mk (hbox); have n2_ := Aside0.mk ((by rw [hg]; exact (below_size (by repeat (first | (with_reducible first | exact HB.out | apply below_alloc | apply pw_below_drewN | apply below_drew1) | exact HB.out))) : w.heap.size ≤ gb154)); have n3_ := Aside0.mk ((by rw [hg]; exact (below_size (by repeat (first | (with_reducible first | exact HB.out | apply below_alloc | apply pw_below_drewN | apply below_drew1) | exact HB.out))) : w.heap.size ≤ gb154)); clear HB; have HB := n0_; have BK154 := n1_; have GW154 := n2_; have GE154 := n3_; clear n0_ n1_ n2_ n3_; clear hb hbox hg))
                                  have n0_ := Aside0.mk (blk_drew BK154.out)
                                  have n1_ := Aside0.mk (below_drew1 HB.out)
                                  clear BK154
                                  clear HB
                                  have BK154 := n0_
                                  have HB := n1_
                                  clear n0_ n1_
                                  refine start_ (n := 22) (S := fun w' => w'.cell? ⟨gb154, 0, none⟩ = some (.int .i64 a0_0) ∧ w'.cell? ⟨gb154, 1, none⟩ = some (.string a0_1) ∧ w'.cell? ⟨gb154, 2, none⟩ = some (.string a0_2) ∧ w'.cell? ⟨gb154, 3, none⟩ = some (.int .i64 a0_3) ∧ w'.cell? ⟨gb154, 4, none⟩ = some (.int .i64 a0_4) ∧ w'.cell? ⟨gb154, 5, none⟩ = some (.int .i64 a0_5) ∧ w'.cell? ⟨gb154, 6, none⟩ = some (.int .i64 a0_6) ∧ w'.cell? ⟨gb154, 7, none⟩ = some (.string a0_7) ∧ w'.cell? ⟨gb154, 8, none⟩ = some (.string a0_8) ∧ w'.cell? ⟨gb154, 9, none⟩ = some (.string a0_9)) (ds := []) #[false, false, false, false, false, false, false, false, false, false, false, false, false, false, false, false, false, false, false, false, false, false] (by kernel_rfl) rfl rfl ⟨(blk_cell BK154.out 0).trans rfl, (blk_cell BK154.out 1).trans rfl, (blk_cell BK154.out 2).trans rfl, (blk_cell BK154.out 3).trans rfl, (blk_cell BK154.out 4).trans rfl, (blk_cell BK154.out 5).trans rfl, (blk_cell BK154.out 6).trans rfl, (blk_cell BK154.out 7).trans rfl, (blk_cell BK154.out 8).trans rfl, (blk_cell BK154.out 9).trans rfl⟩ (fun hHeld => ?_); refine with_tabW spec_l04Head.tab1 spec_l04Head.bits1 (fun HT_ HW_ => ?_)
                                  generalize w39.drew = w40 at BK154 HB hHeld ⊢
                                  refine pure_ (i := 0) (N := some 17) (v := ?_) (a' := ?_) #[true, false, false, false, false, false, false, false, false, false, false, false, false, false, false, false, false, false, false, false, false, false] rfl rfl (any_of HT_.out (by kernel_rfl)) (fun _ _ _ h => h) (Or.inl ⟨by rfl, ?_⟩) ?_ ?_
                                  rotate_left
                                  · intro w'
                                    go_simp
                                    with_reducible rfl
                                  rotate_left
                                  · simp only [Act.put, List.setIfInBounds_toArray, List.set_cons_zero, List.set_cons_succ, i64_w, i32_w]
                                    rfl
                                  refine pure_ (i := 2) (N := some 19) (v := ?_) (a' := ?_) #[true, false, true, false, false, false, false, false, false, false, false, false, false, false, false, false, false, false, false, false, false, false] rfl rfl (any_of HT_.out (by kernel_rfl)) (fun _ _ _ h => h) (Or.inl ⟨by rfl, ?_⟩) ?_ ?_
                                  rotate_left
                                  · intro w'
                                    go_simp
                                    with_reducible rfl
                                  rotate_left
                                  · simp only [Act.put, List.setIfInBounds_toArray, List.set_cons_zero, List.set_cons_succ, i64_w, i32_w]
                                    rfl
                                  refine pure_ (i := 6) (N := some 23) (v := ?_) (a' := ?_) #[true, false, true, false, false, false, true, false, false, false, false, false, false, false, false, false, false, false, false, false, false, false] rfl rfl (any_of HT_.out (by kernel_rfl)) (fun _ _ _ h => h) (Or.inl ⟨by rfl, ?_⟩) ?_ ?_
                                  rotate_left
                                  · intro w'
                                    go_simp
                                    with_reducible rfl
                                  rotate_left
                                  · simp only [Act.put, List.setIfInBounds_toArray, List.set_cons_zero, List.set_cons_succ, i64_w, i32_w]
                                    rfl
                                  refine pure_ (i := 10) (N := some 27) (v := ?_) (a' := ?_) #[true, false, true, false, false, false, true, false, false, false, true, false, false, false, false, false, false, false, false, false, false, false] rfl rfl (any_of HT_.out (by kernel_rfl)) (fun _ _ _ h => h) (Or.inl ⟨by rfl, ?_⟩) ?_ ?_
                                  rotate_left
                                  · intro w'
                                    go_simp
                                    with_reducible rfl
                                  rotate_left
                                  · simp only [Act.put, List.setIfInBounds_toArray, List.set_cons_zero, List.set_cons_succ, i64_w, i32_w]
                                    rfl
                                  refine pure_ (i := 14) (N := some 31) (v := ?_) (a' := ?_) #[true, false, true, false, false, false, true, false, false, false, true, false, false, false, true, false, false, false, false, false, false, false] rfl rfl (any_of HT_.out (by kernel_rfl)) (fun _ _ _ h => h) (Or.inl ⟨by rfl, ?_⟩) ?_ ?_
                                  rotate_left
                                  · intro w'
                                    go_simp
                                    with_reducible rfl
                                  rotate_left
                                  · simp only [Act.put, List.setIfInBounds_toArray, List.set_cons_zero, List.set_cons_succ, i64_w, i32_w]
                                    rfl
                                  refine pure_ (i := 17) (N := some 34) (v := ?_) (a' := ?_) #[true, false, true, false, false, false, true, false, false, false, true, false, false, false, true, false, false, true, false, false, false, false] rfl rfl (any_of HT_.out (by kernel_rfl)) (fun _ _ _ h => h) (Or.inl ⟨by rfl, ?_⟩) ?_ ?_
                                  rotate_left
                                  · intro w'
                                    go_simp
                                    with_reducible rfl
                                  rotate_left
                                  · simp only [Act.put, List.setIfInBounds_toArray, List.set_cons_zero, List.set_cons_succ, i64_w, i32_w]
                                    rfl
                                  refine take_ (i := 3) (N := some 20) (v := ?_) (a' := ?_) #[true, false, true, true, false, false, true, false, false, false, true, false, false, false, true, false, false, true, false, false, false, false] rfl rfl (take_ofW HT_.out HW_.out (by kernel_rfl)) (fun _ _ _ h => h) (Or.inl ⟨by rfl, ?_⟩) hHeld ?_ ?_
                                  rotate_left
                                  · rintro w' ⟨s0, s1, s2, s3, s4, s5, s6, s7, s8, s9⟩
                                    go_simp
                                    with_reducible rfl
                                  rotate_left
                                  · simp only [Act.put, List.setIfInBounds_toArray, List.set_cons_zero, List.set_cons_succ, i64_w, i32_w]
                                    rfl
                                  refine take_ (i := 7) (N := some 24) (v := ?_) (a' := ?_) #[true, false, true, true, false, false, true, true, false, false, true, false, false, false, true, false, false, true, false, false, false, false] rfl rfl (take_ofW HT_.out HW_.out (by kernel_rfl)) (fun _ _ _ h => h) (Or.inl ⟨by rfl, ?_⟩) hHeld ?_ ?_
                                  rotate_left
                                  · rintro w' ⟨s0, s1, s2, s3, s4, s5, s6, s7, s8, s9⟩
                                    go_simp
                                    with_reducible rfl
                                  rotate_left
                                  · simp only [Act.put, List.setIfInBounds_toArray, List.set_cons_zero, List.set_cons_succ, i64_w, i32_w]
                                    rfl
                                  refine take_ (i := 11) (N := some 28) (v := ?_) (a' := ?_) #[true, false, true, true, false, false, true, true, false, false, true, true, false, false, true, false, false, true, false, false, false, false] rfl rfl (take_ofW HT_.out HW_.out (by kernel_rfl)) (fun _ _ _ h => h) (Or.inl ⟨by rfl, ?_⟩) hHeld ?_ ?_
                                  rotate_left
                                  · rintro w' ⟨s0, s1, s2, s3, s4, s5, s6, s7, s8, s9⟩
                                    go_simp
                                    with_reducible rfl
                                  rotate_left
                                  · simp only [Act.put, List.setIfInBounds_toArray, List.set_cons_zero, List.set_cons_succ, i64_w, i32_w]
                                    rfl
                                  refine take_ (i := 18) (N := some 35) (v := ?_) (a' := ?_) #[true, false, true, true, false, false, true, true, false, false, true, true, false, false, true, false, false, true, true, false, false, false] rfl rfl (take_ofW HT_.out HW_.out (by kernel_rfl)) (fun _ _ _ h => h) (Or.inl ⟨by rfl, ?_⟩) hHeld ?_ ?_
                                  rotate_left
                                  · rintro w' ⟨s0, s1, s2, s3, s4, s5, s6, s7, s8, s9⟩
                                    go_simp
                                    with_reducible rfl
                                  rotate_left
                                  · simp only [Act.put, List.setIfInBounds_toArray, List.set_cons_zero, List.set_cons_succ, i64_w, i32_w]
                                    rfl
                                  refine one_ (i := 1) (N := some 18) #[true, true, true, true, false, false, true, true, false, false, true, true, false, false, true, false, false, true, true, false, false, false] rfl rfl (one_of HT_.out (by kernel_rfl)) (by decide) (fun K hK => ?_)
                                  refine goes_ Tryd.func84 (by kernel_rfl) rfl #[.string a1, .int .i64 100] (by rfl) rfl rfl (by (try simp only [List.map_toArray, List.map_cons, List.map_nil]); first | done | rfl | (simp only [List.length_drop, List.length_take]; rfl)) ?_
                                  with_reducible refine (spec_Fill.calls k a1 100 t155 _ A7.out).mono ?_
                                  rintro e w41 ⟨rfl, hb⟩
                                  refine ⟨_, rfl, ?_⟩
                                  have n0_ := Aside0.mk (blk_below (g := gb154) (o := .cells #[.int .i64 a0_0, .string a0_1, .string a0_2, .int .i64 a0_3, .int .i64 a0_4, .int .i64 a0_5, .int .i64 a0_6, .string a0_7, .string a0_8, .string a0_9] 36 (0, 0)) (by (with_reducible repeat (first | refine blk_drewN ?_ _ | refine blk_drew ?_ | refine blk_alloc ?_ _)); exact BK154.out) hb)
                                  have n1_ := Aside0.mk (below_step (by repeat (first | (with_reducible first | exact HB.out | apply below_alloc | apply pw_below_drewN | apply below_drew1 | refine below_set ?_ GE154.out) | exact HB.out)) hb)
                                  clear BK154
                                  clear HB
                                  have BK154 := n0_
                                  have HB := n1_
                                  clear n0_ n1_
                                  (try clear hb)
                                  (try clear hb2)
                                  (try clear hk)
                                  (try clear hi)
                                  refine hK.out _ _ ⟨(blk_cell BK154.out 0).trans rfl, (blk_cell BK154.out 1).trans rfl, (blk_cell BK154.out 2).trans rfl, (blk_cell BK154.out 3).trans rfl, (blk_cell BK154.out 4).trans rfl, (blk_cell BK154.out 5).trans rfl, (blk_cell BK154.out 6).trans rfl, (blk_cell BK154.out 7).trans rfl, (blk_cell BK154.out 8).trans rfl, (blk_cell BK154.out 9).trans rfl⟩ (fun hHeld => ?_)
                                  clear hK K
                                  refine norm_ (a' := ?_) ?_ ?_
                                  rotate_left
                                  · show Act.put _ (some 18) _ = _
                                    simp only [Act.put, List.setIfInBounds_toArray, List.set_cons_zero, List.set_cons_succ, i64_w, i32_w]
                                    rfl
                                  refine one_ (i := 4) (N := some 21) #[true, true, true, true, true, false, true, true, false, false, true, true, false, false, true, false, false, true, true, false, false, false] rfl rfl (one_of HT_.out (by kernel_rfl)) (by decide) (fun K hK => ?_)
                                  refine goes_ Tryd.func85 (by kernel_rfl) rfl #[.int .i64 a0_3, .int .i64 8] (by rfl) rfl rfl (by (try simp only [List.map_toArray, List.map_cons, List.map_nil]); first | done | rfl | (simp only [List.length_drop, List.length_take]; rfl)) ?_
                                  with_reducible refine (spec_l04Oct.calls k a0_3 8 t156 _ A8.out).mono ?_
                                  rintro e w' ⟨rfl, ⟨nd, rfl⟩⟩
                                  refine ⟨_, rfl, ?_⟩
                                  refine hK.out _ _ ⟨(blk_cell BK154.out 0).trans rfl, (blk_cell BK154.out 1).trans rfl, (blk_cell BK154.out 2).trans rfl, (blk_cell BK154.out 3).trans rfl, (blk_cell BK154.out 4).trans rfl, (blk_cell BK154.out 5).trans rfl, (blk_cell BK154.out 6).trans rfl, (blk_cell BK154.out 7).trans rfl, (blk_cell BK154.out 8).trans rfl, (blk_cell BK154.out 9).trans rfl⟩ (fun hHeld => ?_)
                                  clear hK K
                                  refine norm_ (a' := ?_) ?_ ?_
                                  rotate_left
                                  · show Act.put _ (some 21) _ = _
                                    simp only [Act.put, List.setIfInBounds_toArray, List.set_cons_zero, List.set_cons_succ, i64_w, i32_w]
                                    rfl
                                  refine pure_ (i := 5) (N := some 22) (v := ?_) (a' := ?_) #[true, true, true, true, true, true, true, true, false, false, true, true, false, false, true, false, false, true, true, false, false, false] rfl rfl (any_of HT_.out (by kernel_rfl)) (fun _ _ _ h => h) (Or.inl ⟨by rfl, ?_⟩) ?_ ?_
                                  rotate_left
                                  · intro w'
                                    go_simp
                                    with_reducible rfl
                                  rotate_left
                                  · simp only [Act.put, List.setIfInBounds_toArray, List.set_cons_zero, List.set_cons_succ, i64_w, i32_w]
                                    rfl
                                  refine one_ (i := 8) (N := some 25) #[true, true, true, true, true, true, true, true, true, false, true, true, false, false, true, false, false, true, true, false, false, false] rfl rfl (one_of HT_.out (by kernel_rfl)) (by decide) (fun K hK => ?_)
                                  refine goes_ Tryd.func85 (by kernel_rfl) rfl #[.int .i64 a0_4, .int .i64 8] (by rfl) rfl rfl (by (try simp only [List.map_toArray, List.map_cons, List.map_nil]); first | done | rfl | (simp only [List.length_drop, List.length_take]; rfl)) ?_
                                  with_reducible refine (spec_l04Oct.calls k a0_4 8 t157 _ A10.out).mono ?_
                                  rintro e w' ⟨rfl, ⟨nd, rfl⟩⟩
                                  refine ⟨_, rfl, ?_⟩
                                  refine hK.out _ _ ⟨(blk_cell BK154.out 0).trans rfl, (blk_cell BK154.out 1).trans rfl, (blk_cell BK154.out 2).trans rfl, (blk_cell BK154.out 3).trans rfl, (blk_cell BK154.out 4).trans rfl, (blk_cell BK154.out 5).trans rfl, (blk_cell BK154.out 6).trans rfl, (blk_cell BK154.out 7).trans rfl, (blk_cell BK154.out 8).trans rfl, (blk_cell BK154.out 9).trans rfl⟩ (fun hHeld => ?_)
                                  clear hK K
                                  refine norm_ (a' := ?_) ?_ ?_
                                  rotate_left
                                  · show Act.put _ (some 25) _ = _
                                    simp only [Act.put, List.setIfInBounds_toArray, List.set_cons_zero, List.set_cons_succ, i64_w, i32_w]
                                    rfl
                                  refine pure_ (i := 9) (N := some 26) (v := ?_) (a' := ?_) #[true, true, true, true, true, true, true, true, true, true, true, true, false, false, true, false, false, true, true, false, false, false] rfl rfl (any_of HT_.out (by kernel_rfl)) (fun _ _ _ h => h) (Or.inl ⟨by rfl, ?_⟩) ?_ ?_
                                  rotate_left
                                  · intro w'
                                    go_simp
                                    with_reducible rfl
                                  rotate_left
                                  · simp only [Act.put, List.setIfInBounds_toArray, List.set_cons_zero, List.set_cons_succ, i64_w, i32_w]
                                    rfl
                                  refine one_ (i := 12) (N := some 29) #[true, true, true, true, true, true, true, true, true, true, true, true, true, false, true, false, false, true, true, false, false, false] rfl rfl (one_of HT_.out (by kernel_rfl)) (by decide) (fun K hK => ?_)
                                  refine goes_ Tryd.func85 (by kernel_rfl) rfl #[.int .i64 a0_5, .int .i64 8] (by rfl) rfl rfl (by (try simp only [List.map_toArray, List.map_cons, List.map_nil]); first | done | rfl | (simp only [List.length_drop, List.length_take]; rfl)) ?_
                                  with_reducible refine (spec_l04Oct.calls k a0_5 8 t158 _ A12.out).mono ?_
                                  rintro e w' ⟨rfl, ⟨nd, rfl⟩⟩
                                  refine ⟨_, rfl, ?_⟩
                                  refine hK.out _ _ ⟨(blk_cell BK154.out 0).trans rfl, (blk_cell BK154.out 1).trans rfl, (blk_cell BK154.out 2).trans rfl, (blk_cell BK154.out 3).trans rfl, (blk_cell BK154.out 4).trans rfl, (blk_cell BK154.out 5).trans rfl, (blk_cell BK154.out 6).trans rfl, (blk_cell BK154.out 7).trans rfl, (blk_cell BK154.out 8).trans rfl, (blk_cell BK154.out 9).trans rfl⟩ (fun hHeld => ?_)
                                  clear hK K
                                  refine norm_ (a' := ?_) ?_ ?_
                                  rotate_left
                                  · show Act.put _ (some 29) _ = _
                                    simp only [Act.put, List.setIfInBounds_toArray, List.set_cons_zero, List.set_cons_succ, i64_w, i32_w]
                                    rfl
                                  refine pure_ (i := 13) (N := some 30) (v := ?_) (a' := ?_) #[true, true, true, true, true, true, true, true, true, true, true, true, true, true, true, false, false, true, true, false, false, false] rfl rfl (any_of HT_.out (by kernel_rfl)) (fun _ _ _ h => h) (Or.inl ⟨by rfl, ?_⟩) ?_ ?_
                                  rotate_left
                                  · intro w'
                                    go_simp
                                    with_reducible rfl
                                  rotate_left
                                  · simp only [Act.put, List.setIfInBounds_toArray, List.set_cons_zero, List.set_cons_succ, i64_w, i32_w]
                                    rfl
                                  refine one_ (i := 15) (N := some 32) #[true, true, true, true, true, true, true, true, true, true, true, true, true, true, true, true, false, true, true, false, false, false] rfl rfl (one_of HT_.out (by kernel_rfl)) (by decide) (fun K hK => ?_)
                                  refine goes_ Tryd.func85 (by kernel_rfl) rfl #[.int .i64 a4, .int .i64 12] (by rfl) rfl rfl (by (try simp only [List.map_toArray, List.map_cons, List.map_nil]); first | done | rfl | (simp only [List.length_drop, List.length_take]; rfl)) ?_
                                  with_reducible refine (spec_l04Oct.calls k a4 12 t159 _ A14.out).mono ?_
                                  rintro e w' ⟨rfl, ⟨nd, rfl⟩⟩
                                  refine ⟨_, rfl, ?_⟩
                                  refine hK.out _ _ ⟨(blk_cell BK154.out 0).trans rfl, (blk_cell BK154.out 1).trans rfl, (blk_cell BK154.out 2).trans rfl, (blk_cell BK154.out 3).trans rfl, (blk_cell BK154.out 4).trans rfl, (blk_cell BK154.out 5).trans rfl, (blk_cell BK154.out 6).trans rfl, (blk_cell BK154.out 7).trans rfl, (blk_cell BK154.out 8).trans rfl, (blk_cell BK154.out 9).trans rfl⟩ (fun hHeld => ?_)
                                  clear hK K
                                  refine norm_ (a' := ?_) ?_ ?_
                                  rotate_left
                                  · show Act.put _ (some 32) _ = _
                                    simp only [Act.put, List.setIfInBounds_toArray, List.set_cons_zero, List.set_cons_succ, i64_w, i32_w]
                                    rfl
                                  refine pure_ (i := 16) (N := some 33) (v := ?_) (a' := ?_) #[true, true, true, true, true, true, true, true, true, true, true, true, true, true, true, true, true, true, true, false, false, false] rfl rfl (any_of HT_.out (by kernel_rfl)) (fun _ _ _ h => h) (Or.inl ⟨by rfl, ?_⟩) ?_ ?_
                                  rotate_left
                                  · intro w'
                                    go_simp
                                    with_reducible rfl
                                  rotate_left
                                  · simp only [Act.put, List.setIfInBounds_toArray, List.set_cons_zero, List.set_cons_succ, i64_w, i32_w]
                                    rfl
                                  refine one_ (i := 19) (N := some 36) #[true, true, true, true, true, true, true, true, true, true, true, true, true, true, true, true, true, true, true, true, false, false] rfl rfl (one_of HT_.out (by kernel_rfl)) (by decide) (fun K hK => ?_)
                                  refine goes_ Tryd.func85 (by kernel_rfl) rfl #[.int .i64 a0_6, .int .i64 12] (by rfl) rfl rfl (by (try simp only [List.map_toArray, List.map_cons, List.map_nil]); first | done | rfl | (simp only [List.length_drop, List.length_take]; rfl)) ?_
                                  with_reducible refine (spec_l04Oct.calls k a0_6 12 t160 _ A16.out).mono ?_
                                  rintro e w' ⟨rfl, ⟨nd, rfl⟩⟩
                                  refine ⟨_, rfl, ?_⟩
                                  refine hK.out _ _ ⟨(blk_cell BK154.out 0).trans rfl, (blk_cell BK154.out 1).trans rfl, (blk_cell BK154.out 2).trans rfl, (blk_cell BK154.out 3).trans rfl, (blk_cell BK154.out 4).trans rfl, (blk_cell BK154.out 5).trans rfl, (blk_cell BK154.out 6).trans rfl, (blk_cell BK154.out 7).trans rfl, (blk_cell BK154.out 8).trans rfl, (blk_cell BK154.out 9).trans rfl⟩ (fun hHeld => ?_)
                                  clear hK K
                                  refine norm_ (a' := ?_) ?_ ?_
                                  rotate_left
                                  · show Act.put _ (some 36) _ = _
                                    simp only [Act.put, List.setIfInBounds_toArray, List.set_cons_zero, List.set_cons_succ, i64_w, i32_w]
                                    rfl
                                  refine pure_ (i := 20) (N := some 37) (v := ?_) (a' := ?_) #[true, true, true, true, true, true, true, true, true, true, true, true, true, true, true, true, true, true, true, true, true, false] rfl rfl (any_of HT_.out (by kernel_rfl)) (fun _ _ _ h => h) (Or.inl ⟨by rfl, ?_⟩) ?_ ?_
                                  rotate_left
                                  · intro w'
                                    go_simp
                                    with_reducible rfl
                                  rotate_left
                                  · simp only [Act.put, List.setIfInBounds_toArray, List.set_cons_zero, List.set_cons_succ, i64_w, i32_w]
                                    rfl
                                  refine pure_ (i := 21) (N := some 13) (v := ?_) (a' := ?_) #[true, true, true, true, true, true, true, true, true, true, true, true, true, true, true, true, true, true, true, true, true, true] rfl rfl (any_of HT_.out (by kernel_rfl)) (fun _ _ _ h => h) (Or.inl ⟨by rfl, ?_⟩) ?_ ?_
                                  rotate_left
                                  · intro w'
                                    go_simp
                                    with_reducible rfl
                                  rotate_left
                                  · simp only [Act.put, List.setIfInBounds_toArray, List.set_cons_zero, List.set_cons_succ, i64_w, i32_w]
                                    rfl
                                  refine done_ (done_of HT_.out (by kernel_rfl)) ?_
                                  try go_wp2
                                  (repeat (rw [drewN_self w41]; generalize hq_ : World.drewN w41 _ = w41; have n0_ : Aside0 (w41.heap[gb154]? = some (.cells #[.int .i64 a0_0, .string a0_1, .string a0_2, .int .i64 a0_3, .int .i64 a0_4, .int .i64 a0_5, .int .i64 a0_6, .string a0_7, .string a0_8, .string a0_9] 36 (0, 0))) := ⟨by rw [← hq_]; exact (by (with_reducible repeat (first | refine blk_drewN ?_ _ | refine blk_drew ?_ | refine blk_alloc ?_ _)); exact BK154.out)⟩; have n1_ : Aside0 (Below w.heap.size w w41) := ⟨by rw [← hq_]; exact (by repeat (first | (with_reducible first | exact HB.out | apply below_alloc | apply pw_below_drewN | apply below_drew1 | refine below_set ?_ GE154.out) | exact HB.out))⟩; clear BK154 HB hq_; have BK154 := n0_; have HB := n1_; clear n0_ n1_))
                                  have n0_ := Aside0.mk (blk_drew BK154.out)
                                  have n1_ := Aside0.mk (below_drew1 HB.out)
                                  clear BK154
                                  clear HB
                                  have BK154 := n0_
                                  have HB := n1_
                                  clear n0_ n1_
                                  refine start_ (n := 25) (S := fun w' => w'.cell? ⟨gb154, 0, none⟩ = some (.int .i64 a0_0) ∧ w'.cell? ⟨gb154, 1, none⟩ = some (.string a0_1) ∧ w'.cell? ⟨gb154, 2, none⟩ = some (.string a0_2) ∧ w'.cell? ⟨gb154, 3, none⟩ = some (.int .i64 a0_3) ∧ w'.cell? ⟨gb154, 4, none⟩ = some (.int .i64 a0_4) ∧ w'.cell? ⟨gb154, 5, none⟩ = some (.int .i64 a0_5) ∧ w'.cell? ⟨gb154, 6, none⟩ = some (.int .i64 a0_6) ∧ w'.cell? ⟨gb154, 7, none⟩ = some (.string a0_7) ∧ w'.cell? ⟨gb154, 8, none⟩ = some (.string a0_8) ∧ w'.cell? ⟨gb154, 9, none⟩ = some (.string a0_9)) (ds := []) #[false, false, false, false, false, false, false, false, false, false, false, false, false, false, false, false, false, false, false, false, false, false, false, false, false] (by kernel_rfl) rfl rfl ⟨(blk_cell BK154.out 0).trans rfl, (blk_cell BK154.out 1).trans rfl, (blk_cell BK154.out 2).trans rfl, (blk_cell BK154.out 3).trans rfl, (blk_cell BK154.out 4).trans rfl, (blk_cell BK154.out 5).trans rfl, (blk_cell BK154.out 6).trans rfl, (blk_cell BK154.out 7).trans rfl, (blk_cell BK154.out 8).trans rfl, (blk_cell BK154.out 9).trans rfl⟩ (fun hHeld => ?_); refine with_tabW spec_l04Head.tab2 spec_l04Head.bits2 (fun HT_ HW_ => ?_)
                                  generalize w41.drew = w42 at BK154 HB hHeld ⊢
                                  refine pure_ (i := 0) (N := some 38) (v := ?_) (a' := ?_) #[true, false, false, false, false, false, false, false, false, false, false, false, false, false, false, false, false, false, false, false, false, false, false, false, false] rfl rfl (any_of HT_.out (by kernel_rfl)) (fun _ _ _ h => h) (Or.inl ⟨by rfl, ?_⟩) ?_ ?_
                                  rotate_left
                                  · intro w'
                                    go_simp
                                    with_reducible rfl
                                  rotate_left
                                  · simp only [Act.put, List.setIfInBounds_toArray, List.set_cons_zero, List.set_cons_succ, i64_w, i32_w]
                                    rfl
                                  refine pure_ (i := 1) (N := some 39) (v := ?_) (a' := ?_) #[true, true, false, false, false, false, false, false, false, false, false, false, false, false, false, false, false, false, false, false, false, false, false, false, false] rfl rfl (any_of HT_.out (by kernel_rfl)) (fun _ _ _ h => h) (Or.inl ⟨by rfl, ?_⟩) ?_ ?_
                                  rotate_left
                                  · intro w'
                                    go_simp
                                    with_reducible rfl
                                  rotate_left
                                  · simp only [Act.put, List.setIfInBounds_toArray, List.set_cons_zero, List.set_cons_succ, i64_w, i32_w]
                                    rfl
                                  refine pure_ (i := 5) (N := some 43) (v := ?_) (a' := ?_) #[true, true, false, false, false, true, false, false, false, false, false, false, false, false, false, false, false, false, false, false, false, false, false, false, false] rfl rfl (any_of HT_.out (by kernel_rfl)) (fun _ _ _ h => h) (Or.inl ⟨by rfl, ?_⟩) ?_ ?_
                                  rotate_left
                                  · intro w'
                                    go_simp
                                    with_reducible rfl
                                  rotate_left
                                  · simp only [Act.put, List.setIfInBounds_toArray, List.set_cons_zero, List.set_cons_succ, i64_w, i32_w]
                                    rfl
                                  refine pure_ (i := 7) (N := some 45) (v := ?_) (a' := ?_) #[true, true, false, false, false, true, false, true, false, false, false, false, false, false, false, false, false, false, false, false, false, false, false, false, false] rfl rfl (any_of HT_.out (by kernel_rfl)) (fun _ _ _ h => h) (Or.inl ⟨by rfl, ?_⟩) ?_ ?_
                                  rotate_left
                                  · intro w'
                                    go_simp
                                    with_reducible rfl
                                  rotate_left
                                  · simp only [Act.put, List.setIfInBounds_toArray, List.set_cons_zero, List.set_cons_succ, i64_w, i32_w]
                                    rfl
                                  refine pure_ (i := 11) (N := some 49) (v := ?_) (a' := ?_) #[true, true, false, false, false, true, false, true, false, false, false, true, false, false, false, false, false, false, false, false, false, false, false, false, false] rfl rfl (any_of HT_.out (by kernel_rfl)) (fun _ _ _ h => h) (Or.inl ⟨by rfl, ?_⟩) ?_ ?_
                                  rotate_left
                                  · intro w'
                                    go_simp
                                    with_reducible rfl
                                  rotate_left
                                  · simp only [Act.put, List.setIfInBounds_toArray, List.set_cons_zero, List.set_cons_succ, i64_w, i32_w]
                                    rfl
                                  refine pure_ (i := 19) (N := some 57) (v := ?_) (a' := ?_) #[true, true, false, false, false, true, false, true, false, false, false, true, false, false, false, false, false, false, false, true, false, false, false, false, false] rfl rfl (any_of HT_.out (by kernel_rfl)) (fun _ _ _ h => h) (Or.inl ⟨by rfl, ?_⟩) ?_ ?_
                                  rotate_left
                                  · intro w'
                                    go_simp
                                    with_reducible rfl
                                  rotate_left
                                  · simp only [Act.put, List.setIfInBounds_toArray, List.set_cons_zero, List.set_cons_succ, i64_w, i32_w]
                                    rfl
                                  refine take_ (i := 2) (N := some 40) (v := ?_) (a' := ?_) #[true, true, true, false, false, true, false, true, false, false, false, true, false, false, false, false, false, false, false, true, false, false, false, false, false] rfl rfl (take_ofW HT_.out HW_.out (by kernel_rfl)) (fun _ _ _ h => h) (Or.inl ⟨by rfl, ?_⟩) hHeld ?_ ?_
                                  rotate_left
                                  · rintro w' ⟨s0, s1, s2, s3, s4, s5, s6, s7, s8, s9⟩
                                    go_simp
                                    with_reducible rfl
                                  rotate_left
                                  · simp only [Act.put, List.setIfInBounds_toArray, List.set_cons_zero, List.set_cons_succ, i64_w, i32_w]
                                    rfl
                                  refine take_ (i := 8) (N := some 46) (v := ?_) (a' := ?_) #[true, true, true, false, false, true, false, true, true, false, false, true, false, false, false, false, false, false, false, true, false, false, false, false, false] rfl rfl (take_ofW HT_.out HW_.out (by kernel_rfl)) (fun _ _ _ h => h) (Or.inl ⟨by rfl, ?_⟩) hHeld ?_ ?_
                                  rotate_left
                                  · rintro w' ⟨s0, s1, s2, s3, s4, s5, s6, s7, s8, s9⟩
                                    go_simp
                                    with_reducible rfl
                                  rotate_left
                                  · simp only [Act.put, List.setIfInBounds_toArray, List.set_cons_zero, List.set_cons_succ, i64_w, i32_w]
                                    rfl
                                  refine take_ (i := 12) (N := some 50) (v := ?_) (a' := ?_) #[true, true, true, false, false, true, false, true, true, false, false, true, true, false, false, false, false, false, false, true, false, false, false, false, false] rfl rfl (take_ofW HT_.out HW_.out (by kernel_rfl)) (fun _ _ _ h => h) (Or.inl ⟨by rfl, ?_⟩) hHeld ?_ ?_
                                  rotate_left
                                  · rintro w' ⟨s0, s1, s2, s3, s4, s5, s6, s7, s8, s9⟩
                                    go_simp
                                    with_reducible rfl
                                  rotate_left
                                  · simp only [Act.put, List.setIfInBounds_toArray, List.set_cons_zero, List.set_cons_succ, i64_w, i32_w]
                                    rfl
                                  refine one_ (i := 3) (N := some 41) #[true, true, true, true, false, true, false, true, true, false, false, true, true, false, false, false, false, false, false, true, false, false, false, false, false] rfl rfl (one_of HT_.out (by kernel_rfl)) (by decide) (fun K hK => ?_)
                                  refine goes_ Tryd.func84 (by kernel_rfl) rfl #[.string a0_2, .int .i64 100] (by rfl) rfl rfl (by (try simp only [List.map_toArray, List.map_cons, List.map_nil]); first | done | rfl | (simp only [List.length_drop, List.length_take]; rfl)) ?_
                                  with_reducible refine (spec_Fill.calls k a0_2 100 t161 _ A18.out).mono ?_
                                  rintro e w43 ⟨rfl, hb⟩
                                  refine ⟨_, rfl, ?_⟩
                                  have n0_ := Aside0.mk (blk_below (g := gb154) (o := .cells #[.int .i64 a0_0, .string a0_1, .string a0_2, .int .i64 a0_3, .int .i64 a0_4, .int .i64 a0_5, .int .i64 a0_6, .string a0_7, .string a0_8, .string a0_9] 36 (0, 0)) (by (with_reducible repeat (first | refine blk_drewN ?_ _ | refine blk_drew ?_ | refine blk_alloc ?_ _)); exact BK154.out) hb)
                                  have n1_ := Aside0.mk (below_step (by repeat (first | (with_reducible first | exact HB.out | apply below_alloc | apply pw_below_drewN | apply below_drew1 | refine below_set ?_ GE154.out) | exact HB.out)) hb)
                                  clear BK154
                                  clear HB
                                  have BK154 := n0_
                                  have HB := n1_
                                  clear n0_ n1_
                                  (try clear hb)
                                  (try clear hb2)
                                  (try clear hk)
                                  (try clear hi)
                                  refine hK.out _ _ ⟨(blk_cell BK154.out 0).trans rfl, (blk_cell BK154.out 1).trans rfl, (blk_cell BK154.out 2).trans rfl, (blk_cell BK154.out 3).trans rfl, (blk_cell BK154.out 4).trans rfl, (blk_cell BK154.out 5).trans rfl, (blk_cell BK154.out 6).trans rfl, (blk_cell BK154.out 7).trans rfl, (blk_cell BK154.out 8).trans rfl, (blk_cell BK154.out 9).trans rfl⟩ (fun hHeld => ?_)
                                  clear hK K
                                  refine norm_ (a' := ?_) ?_ ?_
                                  rotate_left
                                  · show Act.put _ (some 41) _ = _
                                    simp only [Act.put, List.setIfInBounds_toArray, List.set_cons_zero, List.set_cons_succ, i64_w, i32_w]
                                    rfl
                                  refine pure_ (i := 4) (N := some 42) (v := ?_) (a' := ?_) #[true, true, true, true, true, true, false, true, true, false, false, true, true, false, false, false, false, false, false, true, false, false, false, false, false] rfl rfl (any_of HT_.out (by kernel_rfl)) (fun _ _ _ h => h) (Or.inl ⟨by rfl, ?_⟩) ?_ ?_
                                  rotate_left
                                  · intro w'
                                    go_simp
                                    with_reducible rfl
                                  rotate_left
                                  · simp only [Act.put, List.setIfInBounds_toArray, List.set_cons_zero, List.set_cons_succ, i64_w, i32_w]
                                    rfl
                                  refine pure_ (i := 6) (N := some 44) (v := ?_) (a' := ?_) #[true, true, true, true, true, true, true, true, true, false, false, true, true, false, false, false, false, false, false, true, false, false, false, false, false] rfl rfl (any_of HT_.out (by kernel_rfl)) (fun _ _ _ h => h) (Or.inl ⟨by rfl, ?_⟩) ?_ ?_
                                  rotate_left
                                  · intro w'
                                    go_simp
                                    with_reducible rfl
                                  rotate_left
                                  · simp only [Act.put, List.setIfInBounds_toArray, List.set_cons_zero, List.set_cons_succ, i64_w, i32_w]
                                    rfl
                                  refine one_ (i := 9) (N := some 47) #[true, true, true, true, true, true, true, true, true, true, false, true, true, false, false, false, false, false, false, true, false, false, false, false, false] rfl rfl (one_of HT_.out (by kernel_rfl)) (by decide) (fun K hK => ?_)
                                  refine goes_ Tryd.func84 (by kernel_rfl) rfl #[.string a0_7, .int .i64 32] (by rfl) rfl rfl (by (try simp only [List.map_toArray, List.map_cons, List.map_nil]); first | done | rfl | (simp only [List.length_drop, List.length_take]; rfl)) ?_
                                  with_reducible refine (spec_Fill.calls k a0_7 32 t162 _ A21.out).mono ?_
                                  rintro e w44 ⟨rfl, hb⟩
                                  refine ⟨_, rfl, ?_⟩
                                  have n0_ := Aside0.mk (blk_below (g := gb154) (o := .cells #[.int .i64 a0_0, .string a0_1, .string a0_2, .int .i64 a0_3, .int .i64 a0_4, .int .i64 a0_5, .int .i64 a0_6, .string a0_7, .string a0_8, .string a0_9] 36 (0, 0)) (by (with_reducible repeat (first | refine blk_drewN ?_ _ | refine blk_drew ?_ | refine blk_alloc ?_ _)); exact BK154.out) hb)
                                  have n1_ := Aside0.mk (below_step (by repeat (first | (with_reducible first | exact HB.out | apply below_alloc | apply pw_below_drewN | apply below_drew1 | refine below_set ?_ GE154.out) | exact HB.out)) hb)
                                  clear BK154
                                  clear HB
                                  have BK154 := n0_
                                  have HB := n1_
                                  clear n0_ n1_
                                  (try clear hb)
                                  (try clear hb2)
                                  (try clear hk)
                                  (try clear hi)
                                  refine hK.out _ _ ⟨(blk_cell BK154.out 0).trans rfl, (blk_cell BK154.out 1).trans rfl, (blk_cell BK154.out 2).trans rfl, (blk_cell BK154.out 3).trans rfl, (blk_cell BK154.out 4).trans rfl, (blk_cell BK154.out 5).trans rfl, (blk_cell BK154.out 6).trans rfl, (blk_cell BK154.out 7).trans rfl, (blk_cell BK154.out 8).trans rfl, (blk_cell BK154.out 9).trans rfl⟩ (fun hHeld => ?_)
                                  clear hK K
                                  refine norm_ (a' := ?_) ?_ ?_
                                  rotate_left
                                  · show Act.put _ (some 47) _ = _
                                    simp only [Act.put, List.setIfInBounds_toArray, List.set_cons_zero, List.set_cons_succ, i64_w, i32_w]
                                    rfl
                                  refine pure_ (i := 10) (N := some 48) (v := ?_) (a' := ?_) #[true, true, true, true, true, true, true, true, true, true, true, true, true, false, false, false, false, false, false, true, false, false, false, false, false] rfl rfl (any_of HT_.out (by kernel_rfl)) (fun _ _ _ h => h) (Or.inl ⟨by rfl, ?_⟩) ?_ ?_
                                  rotate_left
                                  · intro w'
                                    go_simp
                                    with_reducible rfl
                                  rotate_left
                                  · simp only [Act.put, List.setIfInBounds_toArray, List.set_cons_zero, List.set_cons_succ, i64_w, i32_w]
                                    rfl
                                  refine one_ (i := 13) (N := some 51) #[true, true, true, true, true, true, true, true, true, true, true, true, true, true, false, false, false, false, false, true, false, false, false, false, false] rfl rfl (one_of HT_.out (by kernel_rfl)) (by decide) (fun K hK => ?_)
                                  refine goes_ Tryd.func84 (by kernel_rfl) rfl #[.string a0_8, .int .i64 32] (by rfl) rfl rfl (by (try simp only [List.map_toArray, List.map_cons, List.map_nil]); first | done | rfl | (simp only [List.length_drop, List.length_take]; rfl)) ?_
                                  with_reducible refine (spec_Fill.calls k a0_8 32 t163 _ A23.out).mono ?_
                                  rintro e w45 ⟨rfl, hb⟩
                                  refine ⟨_, rfl, ?_⟩
                                  have n0_ := Aside0.mk (blk_below (g := gb154) (o := .cells #[.int .i64 a0_0, .string a0_1, .string a0_2, .int .i64 a0_3, .int .i64 a0_4, .int .i64 a0_5, .int .i64 a0_6, .string a0_7, .string a0_8, .string a0_9] 36 (0, 0)) (by (with_reducible repeat (first | refine blk_drewN ?_ _ | refine blk_drew ?_ | refine blk_alloc ?_ _)); exact BK154.out) hb)
                                  have n1_ := Aside0.mk (below_step (by repeat (first | (with_reducible first | exact HB.out | apply below_alloc | apply pw_below_drewN | apply below_drew1 | refine below_set ?_ GE154.out) | exact HB.out)) hb)
                                  clear BK154
                                  clear HB
                                  have BK154 := n0_
                                  have HB := n1_
                                  clear n0_ n1_
                                  (try clear hb)
                                  (try clear hb2)
                                  (try clear hk)
                                  (try clear hi)
                                  refine hK.out _ _ ⟨(blk_cell BK154.out 0).trans rfl, (blk_cell BK154.out 1).trans rfl, (blk_cell BK154.out 2).trans rfl, (blk_cell BK154.out 3).trans rfl, (blk_cell BK154.out 4).trans rfl, (blk_cell BK154.out 5).trans rfl, (blk_cell BK154.out 6).trans rfl, (blk_cell BK154.out 7).trans rfl, (blk_cell BK154.out 8).trans rfl, (blk_cell BK154.out 9).trans rfl⟩ (fun hHeld => ?_)
                                  clear hK K
                                  refine norm_ (a' := ?_) ?_ ?_
                                  rotate_left
                                  · show Act.put _ (some 51) _ = _
                                    simp only [Act.put, List.setIfInBounds_toArray, List.set_cons_zero, List.set_cons_succ, i64_w, i32_w]
                                    rfl
                                  refine pure_ (i := 14) (N := some 52) (v := ?_) (a' := ?_) #[true, true, true, true, true, true, true, true, true, true, true, true, true, true, true, false, false, false, false, true, false, false, false, false, false] rfl rfl (any_of HT_.out (by kernel_rfl)) (fun _ _ _ h => h) (Or.inl ⟨by rfl, ?_⟩) ?_ ?_
                                  rotate_left
                                  · intro w'
                                    go_simp
                                    with_reducible rfl
                                  rotate_left
                                  · simp only [Act.put, List.setIfInBounds_toArray, List.set_cons_zero, List.set_cons_succ, i64_w, i32_w]
                                    rfl
                                  refine one_ (i := 15) (N := some 53) #[true, true, true, true, true, true, true, true, true, true, true, true, true, true, true, true, false, false, false, true, false, false, false, false, false] rfl rfl (one_of HT_.out (by kernel_rfl)) (by decide) (fun K hK => ?_)
                                  refine goes_ Tryd.func85 (by kernel_rfl) rfl #[.int .i64 0, .int .i64 8] (by rfl) rfl rfl (by (try simp only [List.map_toArray, List.map_cons, List.map_nil]); first | done | rfl | (simp only [List.length_drop, List.length_take]; rfl)) ?_
                                  with_reducible refine (spec_l04Oct.calls k 0 8 t164 _ A25.out).mono ?_
                                  rintro e w' ⟨rfl, ⟨nd, rfl⟩⟩
                                  refine ⟨_, rfl, ?_⟩
                                  refine hK.out _ _ ⟨(blk_cell BK154.out 0).trans rfl, (blk_cell BK154.out 1).trans rfl, (blk_cell BK154.out 2).trans rfl, (blk_cell BK154.out 3).trans rfl, (blk_cell BK154.out 4).trans rfl, (blk_cell BK154.out 5).trans rfl, (blk_cell BK154.out 6).trans rfl, (blk_cell BK154.out 7).trans rfl, (blk_cell BK154.out 8).trans rfl, (blk_cell BK154.out 9).trans rfl⟩ (fun hHeld => ?_)
                                  clear hK K
                                  refine norm_ (a' := ?_) ?_ ?_
                                  rotate_left
                                  · show Act.put _ (some 53) _ = _
                                    simp only [Act.put, List.setIfInBounds_toArray, List.set_cons_zero, List.set_cons_succ, i64_w, i32_w]
                                    rfl
                                  refine pure_ (i := 16) (N := some 54) (v := ?_) (a' := ?_) #[true, true, true, true, true, true, true, true, true, true, true, true, true, true, true, true, true, false, false, true, false, false, false, false, false] rfl rfl (any_of HT_.out (by kernel_rfl)) (fun _ _ _ h => h) (Or.inl ⟨by rfl, ?_⟩) ?_ ?_
                                  rotate_left
                                  · intro w'
                                    go_simp
                                    with_reducible rfl
                                  rotate_left
                                  · simp only [Act.put, List.setIfInBounds_toArray, List.set_cons_zero, List.set_cons_succ, i64_w, i32_w]
                                    rfl
                                  refine one_ (i := 17) (N := some 55) #[true, true, true, true, true, true, true, true, true, true, true, true, true, true, true, true, true, true, false, true, false, false, false, false, false] rfl rfl (one_of HT_.out (by kernel_rfl)) (by decide) (fun K hK => ?_)
                                  refine goes_ Tryd.func85 (by kernel_rfl) rfl #[.int .i64 0, .int .i64 8] (by rfl) rfl rfl (by (try simp only [List.map_toArray, List.map_cons, List.map_nil]); first | done | rfl | (simp only [List.length_drop, List.length_take]; rfl)) ?_
                                  with_reducible refine (spec_l04Oct.calls k 0 8 t165 _ A27.out).mono ?_
                                  rintro e w' ⟨rfl, ⟨nd, rfl⟩⟩
                                  refine ⟨_, rfl, ?_⟩
                                  refine hK.out _ _ ⟨(blk_cell BK154.out 0).trans rfl, (blk_cell BK154.out 1).trans rfl, (blk_cell BK154.out 2).trans rfl, (blk_cell BK154.out 3).trans rfl, (blk_cell BK154.out 4).trans rfl, (blk_cell BK154.out 5).trans rfl, (blk_cell BK154.out 6).trans rfl, (blk_cell BK154.out 7).trans rfl, (blk_cell BK154.out 8).trans rfl, (blk_cell BK154.out 9).trans rfl⟩ (fun hHeld => ?_)
                                  clear hK K
                                  refine norm_ (a' := ?_) ?_ ?_
                                  rotate_left
                                  · show Act.put _ (some 55) _ = _
                                    simp only [Act.put, List.setIfInBounds_toArray, List.set_cons_zero, List.set_cons_succ, i64_w, i32_w]
                                    rfl
                                  refine pure_ (i := 18) (N := some 56) (v := ?_) (a' := ?_) #[true, true, true, true, true, true, true, true, true, true, true, true, true, true, true, true, true, true, true, true, false, false, false, false, false] rfl rfl (any_of HT_.out (by kernel_rfl)) (fun _ _ _ h => h) (Or.inl ⟨by rfl, ?_⟩) ?_ ?_
                                  rotate_left
                                  · intro w'
                                    go_simp
                                    with_reducible rfl
                                  rotate_left
                                  · simp only [Act.put, List.setIfInBounds_toArray, List.set_cons_zero, List.set_cons_succ, i64_w, i32_w]
                                    rfl
                                  refine one_ (i := 20) (N := some 58) #[true, true, true, true, true, true, true, true, true, true, true, true, true, true, true, true, true, true, true, true, true, false, false, false, false] rfl rfl (one_of HT_.out (by kernel_rfl)) (by decide) (fun K hK => ?_)
                                  refine goes_ Tryd.func84 (by kernel_rfl) rfl #[.string a2, .int .i64 155] (by rfl) rfl rfl (by (try simp only [List.map_toArray, List.map_cons, List.map_nil]); first | done | rfl | (simp only [List.length_drop, List.length_take]; rfl)) ?_
                                  with_reducible refine (spec_Fill.calls k a2 155 t166 _ A29.out).mono ?_
                                  rintro e w46 ⟨rfl, hb⟩
                                  refine ⟨_, rfl, ?_⟩
                                  have n0_ := Aside0.mk (blk_below (g := gb154) (o := .cells #[.int .i64 a0_0, .string a0_1, .string a0_2, .int .i64 a0_3, .int .i64 a0_4, .int .i64 a0_5, .int .i64 a0_6, .string a0_7, .string a0_8, .string a0_9] 36 (0, 0)) (by (with_reducible repeat (first | refine blk_drewN ?_ _ | refine blk_drew ?_ | refine blk_alloc ?_ _)); exact BK154.out) hb)
                                  have n1_ := Aside0.mk (below_step (by repeat (first | (with_reducible first | exact HB.out | apply below_alloc | apply pw_below_drewN | apply below_drew1 | refine below_set ?_ GE154.out) | exact HB.out)) hb)
                                  clear BK154
                                  clear HB
                                  have BK154 := n0_
                                  have HB := n1_
                                  clear n0_ n1_
                                  (try clear hb)
                                  (try clear hb2)
                                  (try clear hk)
                                  (try clear hi)
                                  refine hK.out _ _ ⟨(blk_cell BK154.out 0).trans rfl, (blk_cell BK154.out 1).trans rfl, (blk_cell BK154.out 2).trans rfl, (blk_cell BK154.out 3).trans rfl, (blk_cell BK154.out 4).trans rfl, (blk_cell BK154.out 5).trans rfl, (blk_cell BK154.out 6).trans rfl, (blk_cell BK154.out 7).trans rfl, (blk_cell BK154.out 8).trans rfl, (blk_cell BK154.out 9).trans rfl⟩ (fun hHeld => ?_)
                                  clear hK K
                                  refine norm_ (a' := ?_) ?_ ?_
                                  rotate_left
                                  · show Act.put _ (some 58) _ = _
                                    simp only [Act.put, List.setIfInBounds_toArray, List.set_cons_zero, List.set_cons_succ, i64_w, i32_w]
                                    rfl
                                  refine pure_ (i := 21) (N := some 59) (v := ?_) (a' := ?_) #[true, true, true, true, true, true, true, true, true, true, true, true, true, true, true, true, true, true, true, true, true, true, false, false, false] rfl rfl (any_of HT_.out (by kernel_rfl)) (fun _ _ _ h => h) (Or.inl ⟨by rfl, ?_⟩) ?_ ?_
                                  rotate_left
                                  · intro w'
                                    go_simp
                                    with_reducible rfl
                                  rotate_left
                                  · simp only [Act.put, List.setIfInBounds_toArray, List.set_cons_zero, List.set_cons_succ, i64_w, i32_w]
                                    rfl
                                  refine one_ (i := 22) (N := some 60) #[true, true, true, true, true, true, true, true, true, true, true, true, true, true, true, true, true, true, true, true, true, true, true, false, false] rfl rfl (one_of HT_.out (by kernel_rfl)) (by decide) (fun K hK => ?_)
                                  refine goes_ Tryd.func86 (by kernel_rfl) rfl #[.int .i64 12] (by rfl) rfl rfl (by (try simp only [List.map_toArray, List.map_cons, List.map_nil]); first | done | rfl | (simp only [List.length_drop, List.length_take]; rfl)) ?_
                                  with_reducible refine (spec_l01Nuls.calls k 12 t167 _ A31.out).mono ?_
                                  rintro e w47 ⟨rfl, hb⟩
                                  refine ⟨_, rfl, ?_⟩
                                  have n0_ := Aside0.mk (blk_below (g := gb154) (o := .cells #[.int .i64 a0_0, .string a0_1, .string a0_2, .int .i64 a0_3, .int .i64 a0_4, .int .i64 a0_5, .int .i64 a0_6, .string a0_7, .string a0_8, .string a0_9] 36 (0, 0)) (by (with_reducible repeat (first | refine blk_drewN ?_ _ | refine blk_drew ?_ | refine blk_alloc ?_ _)); exact BK154.out) hb)
                                  have n1_ := Aside0.mk (below_step (by repeat (first | (with_reducible first | exact HB.out | apply below_alloc | apply pw_below_drewN | apply below_drew1 | refine below_set ?_ GE154.out) | exact HB.out)) hb)
                                  clear BK154
                                  clear HB
                                  have BK154 := n0_
                                  have HB := n1_
                                  clear n0_ n1_
                                  (try clear hb)
                                  (try clear hb2)
                                  (try clear hk)
                                  (try clear hi)
                                  refine hK.out _ _ ⟨(blk_cell BK154.out 0).trans rfl, (blk_cell BK154.out 1).trans rfl, (blk_cell BK154.out 2).trans rfl, (blk_cell BK154.out 3).trans rfl, (blk_cell BK154.out 4).trans rfl, (blk_cell BK154.out 5).trans rfl, (blk_cell BK154.out 6).trans rfl, (blk_cell BK154.out 7).trans rfl, (blk_cell BK154.out 8).trans rfl, (blk_cell BK154.out 9).trans rfl⟩ (fun hHeld => ?_)
                                  clear hK K
                                  refine norm_ (a' := ?_) ?_ ?_
                                  rotate_left
                                  · show Act.put _ (some 60) _ = _
                                    simp only [Act.put, List.setIfInBounds_toArray, List.set_cons_zero, List.set_cons_succ, i64_w, i32_w]
                                    rfl
                                  refine pure_ (i := 23) (N := some 61) (v := ?_) (a' := ?_) #[true, true, true, true, true, true, true, true, true, true, true, true, true, true, true, true, true, true, true, true, true, true, true, true, false] rfl rfl (any_of HT_.out (by kernel_rfl)) (fun _ _ _ h => h) (Or.inl ⟨by rfl, ?_⟩) ?_ ?_
                                  rotate_left
                                  · intro w'
                                    go_simp
                                    with_reducible rfl
                                  rotate_left
                                  · simp only [Act.put, List.setIfInBounds_toArray, List.set_cons_zero, List.set_cons_succ, i64_w, i32_w]
                                    rfl
                                  refine pure_ (i := 24) (N := some 14) (v := ?_) (a' := ?_) #[true, true, true, true, true, true, true, true, true, true, true, true, true, true, true, true, true, true, true, true, true, true, true, true, true] rfl rfl (any_of HT_.out (by kernel_rfl)) (fun _ _ _ h => h) (Or.inl ⟨by rfl, ?_⟩) ?_ ?_
                                  rotate_left
                                  · intro w'
                                    go_simp
                                    with_reducible rfl
                                  rotate_left
                                  · simp only [Act.put, List.setIfInBounds_toArray, List.set_cons_zero, List.set_cons_succ, i64_w, i32_w]
                                    rfl
                                  refine done_ (done_of HT_.out (by kernel_rfl)) ?_
                                  try go_wp2_with (first | ((with_reducible refine gate_callee (f := 87) rfl ?_); refine goesL_ (some 64) rfl rfl Tryd.func87 (by kernel_rfl) rfl #[.string (((((t155 ++ t156) ++ t157) ++ t158) ++ t159) ++ t160)] rfl (by (try simp only [List.map_toArray, List.map_cons, List.map_nil]); first | done | rfl | (simp only [List.length_drop, List.length_take]; rfl)) ?_; (with_reducible refine (spec_SumOf.calls k (((((t155 ++ t156) ++ t157) ++ t158) ++ t159) ++ t160) t168 _ A33.out).mono ?_); rintro e w' ⟨rfl, ⟨nd, rfl⟩⟩; refine ⟨_, rfl, ?_⟩) | ((with_reducible refine gate_callee (f := 87) rfl ?_); refine goesL_ (some 67) rfl rfl Tryd.func87 (by kernel_rfl) rfl #[.string ((((((((a3 ++ t161) ++ a5) ++ t162) ++ t163) ++ t164) ++ t165) ++ t166) ++ t167)] rfl (by (try simp only [List.map_toArray, List.map_cons, List.map_nil]); first | done | rfl | (simp only [List.length_drop, List.length_take]; rfl)) ?_; (with_reducible refine (spec_SumOf.calls k ((((((((a3 ++ t161) ++ a5) ++ t162) ++ t163) ++ t164) ++ t165) ++ t166) ++ t167) t169 _ A34.out).mono ?_); rintro e w' ⟨rfl, ⟨nd, rfl⟩⟩; refine ⟨_, rfl, ?_⟩) | ((with_reducible refine gate_callee (f := 43) rfl ?_); refine goesL_ (some 69) rfl rfl Tryd.func43 (by kernel_rfl) rfl #[.int .i64 (wrap64 ((wrap64 (t168 + 256)) + t169)), .int .i64 6] rfl (by (try simp only [List.map_toArray, List.map_cons, List.map_nil]); first | done | rfl | (simp only [List.length_drop, List.length_take]; rfl)) ?_; (with_reducible refine (spec_PutOct.calls k (wrap64 ((wrap64 (t168 + 256)) + t169)) 6 t170 t171 _ A35.out).mono ?_); rintro e w' ⟨rfl, ⟨nd, rfl⟩⟩; refine ⟨_, rfl, ?_⟩))
                                  go_ret
                                  exact ⟨by first | rfl | (simp [errW_none, errW_some] <;> rfl) | (simp [*, errW_none, errW_some] <;> rfl) | (simp only [decide_eq_true_eq] at *; simp [*, bt]; done), by repeat (first | (with_reducible first | exact HB.out | apply below_alloc | apply pw_below_drewN | apply below_drew1 | refine below_set ?_ GE154.out) | exact HB.out)⟩
                                · rw [if_neg c38] at H
                                  exact absurd H (by simp)
                              · rw [if_neg c37] at H
                                exact absurd H (by simp)
                            · rw [if_neg c36] at H
                              exact absurd H (by simp)
                          · rw [if_neg c32] at H
                            exact absurd H (by simp)
                        · rw [if_neg c30] at H
                          exact absurd H (by simp)
                      · rw [if_neg c28] at H
                        exact absurd H (by simp)
                    · rw [if_neg c26] at H
                      exact absurd H (by simp)
                  · rw [if_neg c24] at H
                    exact absurd H (by simp)
                · rw [if_neg c22] at H
                  exact absurd H (by simp)
              · rw [if_neg c20] at H
                exact absurd H (by simp)
            · rw [if_neg c19] at H
              exact absurd H (by simp)
          · rw [if_neg c17] at H
            exact absurd H (by simp)
        · rw [if_neg c15] at H
          exact absurd H (by simp)
      · rw [if_neg c13] at H
        exact absurd H (by simp)
    · rw [if_neg c11] at H
      exact absurd H (by simp)
  · rw [if_neg c9] at H
    exact absurd H (by simp)

end Go.Proofs.YtgmggpgcfonmgaaDoor.PFnExactPutHead
