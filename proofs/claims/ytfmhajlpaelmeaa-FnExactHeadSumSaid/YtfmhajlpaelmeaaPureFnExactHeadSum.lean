/-
The pure statement of the law FnExactHeadSum (numbers, byte strings and lists; no Go and no memory): the printed law's function answers true. Conditions: those of the printed statement (each string at most 2^47 - 4096 bytes, each number of its kind).
-/
import Derived.Test.YtfmhajlpaelmeaaPFnExactHeadSumx1
import Derived.Test.YtfmhajlpaelmeaaCore
namespace Go.Proofs.Ytfmhajlpaelmeaa.Pure
open Go.RowKit Go.Proofs.Ytfmhajlpaelmeaa.PFnExactHeadSum Go.Proofs.YtfmhajlpaelmeaaW.PrintWords Go.Proofs.YtfmhajlpaelmeaaW.PrintLast Go.Proofs.Ytfmhajlpaelmeaa.Core

theorem spec_sum_loop (s : ByteArray) (hs : s.size ≤ 140737488351232) : ∀ (d k : Nat) (acc i : Int), 0 ≤ i → (s.size : Int) - i = d → d < k → 0 ≤ acc → acc ≤ 255 * i → spec_SumOf.l0 k s acc i = some (acc + sumB (s.toList.drop i.toNat)) := by
  intro d
  induction d with
  | zero =>
    intro k acc i h0 hd hk ha hb
    obtain ⟨k, rfl⟩ : ∃ m, k = m + 1 := ⟨k - 1, by omega⟩
    simp only [spec_SumOf.l0]
    rw [if_neg (by omega), List.drop_eq_nil_of_le (by rw [tl_length]; omega)]
    simp [sumB]
  | succ d ih =>
    intro k acc i h0 hd hk ha hb
    obtain ⟨k, rfl⟩ : ∃ m, k = m + 1 := ⟨k - 1, by omega⟩
    simp only [spec_SumOf.l0]
    obtain ⟨b, e, hbt⟩ := bt_step s i h0 (by omega)
    have hlt := b.toNat_lt
    rw [if_pos (by omega), if_pos h0, hbt, w64 (n := (b.toNat : Int)) (by omega) (by omega), w64 (by omega) (by omega), w64 (by omega) (by omega)]
    rw [ih k _ _ (by omega) (by omega) (by omega) (by omega) (by omega), e]
    simp only [sumB]
    congr 1
    omega
theorem impl_sum_loop (s : ByteArray) (hs : s.size ≤ 140737488351232) : ∀ (d k : Nat) (acc i : Int), 0 ≤ i → (s.size : Int) - i = d → d < k → 0 ≤ acc → acc ≤ 255 * i → impl_SumOf.l0 k s acc (s.size : Int) i = some (acc + sumB (s.toList.drop i.toNat)) := by
  intro d
  induction d with
  | zero =>
    intro k acc i h0 hd hk ha hb
    obtain ⟨k, rfl⟩ : ∃ m, k = m + 1 := ⟨k - 1, by omega⟩
    simp only [impl_SumOf.l0]
    rw [if_neg (by omega), List.drop_eq_nil_of_le (by rw [tl_length]; omega)]
    simp [sumB]
  | succ d ih =>
    intro k acc i h0 hd hk ha hb
    obtain ⟨k, rfl⟩ : ∃ m, k = m + 1 := ⟨k - 1, by omega⟩
    simp only [impl_SumOf.l0]
    obtain ⟨b, e, hbt⟩ := bt_step s i h0 (by omega)
    have hlt := b.toNat_lt
    rw [if_pos (by omega), if_pos h0, if_pos (by omega), hbt, w64 (n := (b.toNat : Int)) (by omega) (by omega), w64 (by omega) (by omega), w64 (by omega) (by omega)]
    rw [ih k _ _ (by omega) (by omega) (by omega) (by omega) (by omega), e]
    simp only [sumB]
    congr 1
    omega
theorem spec_sum (s : ByteArray) (hs : s.size ≤ 140737488351232) (k : Nat) (hk : s.size < k) : spec_SumOf.f k s = some (sumB s.toList) := by
  unfold spec_SumOf.f
  rw [spec_sum_loop s hs s.size k 0 0 (by omega) (by omega) hk (by omega) (by omega)]
  simp
theorem impl_sum (s : ByteArray) (hs : s.size ≤ 140737488351232) (k : Nat) (hk : s.size < k) : impl_SumOf.f k s = some (sumB s.toList) := by
  unfold impl_SumOf.f
  rw [impl_sum_loop s hs s.size k 0 0 (by omega) (by omega) hk (by omega) (by omega)]
  simp

/-- The sum of a header. -/
def headSumM (s : ByteArray) : Int := if (s.size : Int) < 512 then -1 else sumB (s.extract 0 148).toList + 256 + sumB (s.extract 156 512).toList
theorem head_parts (s : ByteArray) (h : ¬ (s.size : Int) < 512) : (s.extract 0 148).size = 148 ∧ (s.extract 156 512).size = 356 := by
  rw [ByteArray.size_extract, ByteArray.size_extract]
  omega
theorem spec_headSum (s : ByteArray) (hs : s.size ≤ 140737488351232) (k : Nat) (hk : 356 < k) : spec_HeadSum.f k s = some (headSumM s) := by
  unfold spec_HeadSum.f headSumM
  by_cases h : (s.size : Int) < 512
  · rw [if_pos h, if_pos h]
  · obtain ⟨e1, e2⟩ := head_parts s h
    have b1 := sumB_bounds (s.extract 0 148).toList
    have b2 := sumB_bounds (s.extract 156 512).toList
    rw [tl_length] at b1 b2
    rw [if_neg h, if_neg h, if_pos (by omega), if_pos (by omega), spec_sum _ (by omega) k (by omega)]
    simp only [Option.bind_some]
    rw [if_pos (by omega), if_pos (by omega), spec_sum _ (by omega) k (by omega)]
    simp only [Option.bind_some]
    rw [w64 (n := sumB (s.extract 0 148).toList + 256) (by omega) (by omega), w64 (by omega) (by omega)]
theorem impl_headSum (s : ByteArray) (hs : s.size ≤ 140737488351232) (k : Nat) (hk : 356 < k) : impl_HeadSum.f k s = some (headSumM s) := by
  unfold impl_HeadSum.f headSumM
  by_cases h : (s.size : Int) < 512
  · rw [if_pos h, if_pos h]
  · obtain ⟨e1, e2⟩ := head_parts s h
    have b1 := sumB_bounds (s.extract 0 148).toList
    have b2 := sumB_bounds (s.extract 156 512).toList
    rw [tl_length] at b1 b2
    rw [if_neg h, if_neg h, if_pos (by omega), if_pos (by omega), impl_sum _ (by omega) k (by omega)]
    simp only [Option.bind_some]
    rw [if_pos (by omega), if_pos (by omega), impl_sum _ (by omega) k (by omega)]
    simp only [Option.bind_some]
    rw [w64 (n := sumB (s.extract 0 148).toList + 256) (by omega) (by omega), w64 (by omega) (by omega)]

theorem FnExactHeadSum : laws_FnExactHeadSum.Pure := by
  intro s hs
  refine ⟨357, ?_⟩
  unfold laws_FnExactHeadSum.f
  rw [spec_headSum s hs _ (by omega), impl_headSum s hs _ (by omega)]
  simp

end Go.Proofs.Ytfmhajlpaelmeaa.Pure
