/-
The pure statement of the law FnExactGet32 (numbers, byte strings and lists; no Go and no memory): the printed law's function answers true. Conditions: those of the printed statement (each string at most 2^47 - 4096 bytes, each number of its kind).
-/
import Derived.Test.YtfmhajlpaelmeaaPFnExactGet32x1
import Derived.Test.YtfmhajlpaelmeaaCore
namespace Go.Proofs.Ytfmhajlpaelmeaa.Pure
open Go.RowKit Go.Proofs.Ytfmhajlpaelmeaa.PFnExactGet32 Go.Proofs.YtfmhajlpaelmeaaW.PrintWords Go.Proofs.YtfmhajlpaelmeaaW.PrintLast Go.Proofs.Ytfmhajlpaelmeaa.Core

theorem within_eq (a b c : Int) : impl_within.f a b c = some (decide (b ≤ a ∧ a ≤ c)) := by
  unfold impl_within.f
  by_cases h : b ≤ a
  · rw [if_pos h]; simp [h]
  · rw [if_neg h]; simp [h]

/-- A word of two bytes, or -1. -/
def get16M (s : ByteArray) (i : Int) (high : Bool) : Int := if 0 ≤ i ∧ i + 2 ≤ (s.size : Int) then (if high = true then 256 * bt s i + bt s (i + 1) else 256 * bt s (i + 1) + bt s i) else -1
theorem get16M_range (s : ByteArray) (i : Int) (high : Bool) : -1 ≤ get16M s i high ∧ get16M s i high ≤ 65535 := by
  have ha := bt_range s i
  have hb := bt_range s (i + 1)
  unfold get16M
  split
  · split <;> omega
  · omega
theorem spec_get16 (s : ByteArray) (hs : s.size ≤ 140737488351232) (i : Int) (hi : -9223372036854775808 ≤ i ∧ i ≤ 9223372036854775807) (high : Bool) (k : Nat) (hk : 0 < k) : spec_Get16.f k s i high = some (get16M s i high) := by
  obtain ⟨k, rfl⟩ : ∃ m, k = m + 1 := ⟨k - 1, by omega⟩
  have ha := bt_range s i
  have hb := bt_range s (i + 1)
  unfold spec_Get16.f get16M
  rw [w64 (n := (s.size : Int) - 2) (by omega) (by omega)]
  by_cases h1 : i < 0
  · rw [if_pos h1, if_neg (show ¬ (0 ≤ i ∧ i + 2 ≤ (s.size : Int)) by omega)]
    simp only [spec_Get16.j0, if_true]
  · rw [if_neg h1]
    by_cases h2 : i > (s.size : Int) - 2
    · rw [decide_eq_true h2, if_neg (show ¬ (0 ≤ i ∧ i + 2 ≤ (s.size : Int)) by omega)]
      simp only [spec_Get16.j0, if_true]
    · rw [decide_eq_false h2, if_pos (show 0 ≤ i ∧ i + 2 ≤ (s.size : Int) by omega)]
      simp only [spec_Get16.j0, Bool.false_eq_true, if_false]
      have e1 : wrap64 (i + 1) = i + 1 := w64 (by omega) (by omega)
      have e2 : wrap64 (bt s i) = bt s i := w64 (by omega) (by omega)
      have e3 : wrap64 (bt s (i + 1)) = bt s (i + 1) := w64 (by omega) (by omega)
      have e4 : wrap64 (256 * bt s i) = 256 * bt s i := w64 (by omega) (by omega)
      have e5 : wrap64 (256 * bt s (i + 1)) = 256 * bt s (i + 1) := w64 (by omega) (by omega)
      have e6 : wrap64 (256 * bt s i + bt s (i + 1)) = 256 * bt s i + bt s (i + 1) := w64 (by omega) (by omega)
      have e7 : wrap64 (256 * bt s (i + 1) + bt s i) = 256 * bt s (i + 1) + bt s i := w64 (by omega) (by omega)
      rw [if_pos (show 0 ≤ i by omega), if_pos (show i < (s.size : Int) by omega), e1, if_pos (show 0 ≤ i + 1 by omega), if_pos (show i + 1 < (s.size : Int) by omega), e2, e3, e4, e5, e6, e7]
      cases high <;> rfl
theorem impl_get16 (s : ByteArray) (hs : s.size ≤ 140737488351232) (i : Int) (hi : -9223372036854775808 ≤ i ∧ i ≤ 9223372036854775807) (high : Bool) : impl_Get16.f s i high = some (get16M s i high) := by
  have ha := bt_range s i
  have hb := bt_range s (i + 1)
  have hh : impl_has.f s i 2 = some (decide (0 ≤ i ∧ i + 2 ≤ (s.size : Int))) := by
    unfold impl_has.f
    rw [within_eq]
    simp only [Option.bind_some]
    by_cases h : 0 ≤ i ∧ i ≤ (s.size : Int)
    · rw [if_pos (by simpa using h), w64 (by omega) (by omega)]
      congr 1
      rw [decide_eq_decide]
      omega
    · rw [if_neg (by simpa using h)]
      congr 1
      symm
      rw [decide_eq_false_iff_not]
      omega
  unfold impl_Get16.f get16M
  rw [hh]
  simp only [Option.bind_some]
  by_cases h : 0 ≤ i ∧ i + 2 ≤ (s.size : Int)
  · have e1 : wrap64 (i + 1) = i + 1 := w64 (by omega) (by omega)
    have e2 : wrap64 (bt s i) = bt s i := w64 (by omega) (by omega)
    have e3 : wrap64 (bt s (i + 1)) = bt s (i + 1) := w64 (by omega) (by omega)
    have e4 : wrap64 (bt s i * 256) = bt s i * 256 := w64 (by omega) (by omega)
    have e5 : wrap64 (bt s (i + 1) * 256) = bt s (i + 1) * 256 := w64 (by omega) (by omega)
    have e6 := bits_or_join 8 (bt s i * 256) (bt s (i + 1)) (by omega) (by omega) (by omega) (by omega) (by omega) (by omega)
    have e7 := bits_or_join 8 (bt s (i + 1) * 256) (bt s i) (by omega) (by omega) (by omega) (by omega) (by omega) (by omega)
    rw [e1, e2, e3, e4, e5, e6, e7, Int.mul_comm (bt s i), Int.mul_comm (bt s (i + 1))]
    have c1 : 0 ≤ i := h.1
    have c2 : i < (s.size : Int) := by omega
    have c3 : 0 ≤ i + 1 := by omega
    have c4 : i + 1 < (s.size : Int) := by omega
    simp only [decide_eq_true h, if_true, if_pos h, if_pos c1, if_pos c2, if_pos c3, if_pos c4]
    cases high <;> rfl
  · rw [if_neg (by simpa using h), if_neg h]

/-- A word of four bytes, or -1. -/
def get32M (s : ByteArray) (i : Int) (high : Bool) : Int := if 0 ≤ i ∧ i + 4 ≤ (s.size : Int) then 65536 * get16M s i high + get16M s (i + 2) high else -1
theorem get16M_in (s : ByteArray) (i : Int) (high : Bool) (h : 0 ≤ i ∧ i + 2 ≤ (s.size : Int)) : 0 ≤ get16M s i high ∧ get16M s i high ≤ 65535 := by
  have ha := bt_range s i
  have hb := bt_range s (i + 1)
  unfold get16M
  rw [if_pos h]
  split <;> omega
theorem spec_get32 (s : ByteArray) (hs : s.size ≤ 140737488351232) (i : Int) (hi : -9223372036854775808 ≤ i ∧ i ≤ 9223372036854775807) (high : Bool) (k : Nat) (hk : 1 < k) : spec_Get32.f k s i high = some (get32M s i high) := by
  obtain ⟨k, rfl⟩ : ∃ m, k = m + 1 := ⟨k - 1, by omega⟩
  unfold spec_Get32.f get32M
  rw [w64 (n := (s.size : Int) - 4) (by omega) (by omega)]
  by_cases h1 : i < 0
  · rw [if_pos h1, if_neg (show ¬ (0 ≤ i ∧ i + 4 ≤ (s.size : Int)) by omega)]
    simp only [spec_Get32.j0, if_true]
  · rw [if_neg h1]
    by_cases h2 : i > (s.size : Int) - 4
    · rw [decide_eq_true h2, if_neg (show ¬ (0 ≤ i ∧ i + 4 ≤ (s.size : Int)) by omega)]
      simp only [spec_Get32.j0, if_true]
    · rw [decide_eq_false h2, if_pos (show 0 ≤ i ∧ i + 4 ≤ (s.size : Int) by omega)]
      have r1 := get16M_in s i high (by omega)
      have r2 := get16M_in s (i + 2) high (by omega)
      simp only [spec_Get32.j0, Bool.false_eq_true, if_false]
      rw [w64 (n := i + 2) (by omega) (by omega), spec_get16 s hs i hi high k (by omega), spec_get16 s hs (i + 2) (by omega) high k (by omega)]
      simp only [Option.bind_some]
      rw [w64 (n := 65536 * get16M s i high) (by omega) (by omega), w64 (by omega) (by omega)]
theorem impl_get32 (s : ByteArray) (hs : s.size ≤ 140737488351232) (i : Int) (hi : -9223372036854775808 ≤ i ∧ i ≤ 9223372036854775807) (high : Bool) : impl_Get32.f s i high = some (get32M s i high) := by
  have hh : impl_has.f s i 4 = some (decide (0 ≤ i ∧ i + 4 ≤ (s.size : Int))) := by
    unfold impl_has.f
    rw [within_eq]
    simp only [Option.bind_some]
    by_cases h : 0 ≤ i ∧ i ≤ (s.size : Int)
    · rw [if_pos (by simpa using h), w64 (by omega) (by omega)]
      congr 1
      rw [decide_eq_decide]
      omega
    · rw [if_neg (by simpa using h)]
      congr 1
      symm
      rw [decide_eq_false_iff_not]
      omega
  unfold impl_Get32.f get32M
  rw [hh]
  simp only [Option.bind_some]
  by_cases h : 0 ≤ i ∧ i + 4 ≤ (s.size : Int)
  · have r1 := get16M_in s i high (by omega)
    have r2 := get16M_in s (i + 2) high (by omega)
    rw [if_pos (by simpa using h), if_pos h, w64 (n := i + 2) (by omega) (by omega), impl_get16 s hs i hi high, impl_get16 s hs (i + 2) (by omega) high]
    simp only [Option.bind_some]
    rw [w64 (n := get16M s i high * 65536) (by omega) (by omega), bits_or_join 16 (get16M s i high * 65536) (get16M s (i + 2) high) (by omega) (by omega) (by omega) (by omega) (by omega) (by omega), Int.mul_comm]
  · rw [if_neg (by simpa using h), if_neg h]

theorem FnExactGet32 : laws_FnExactGet32.Pure := by
  intro s i high hs hi
  refine ⟨2, ?_⟩
  have h := wf_i64 hi
  unfold laws_FnExactGet32.f
  rw [spec_get32 s hs i h high 2 (by decide), impl_get32 s hs i h high]
  simp

end Go.Proofs.Ytfmhajlpaelmeaa.Pure
