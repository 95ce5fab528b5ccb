/-
The pure statement of the law FnExactSumOf (numbers, byte strings and lists; no Go and no memory): the printed law's function answers true. Conditions: those of the printed statement (each string at most 2^47 - 4096 bytes, each number of its kind).
-/
import Derived.Test.YtlkaocaieoabaaaPFnExactSumOfx1
import Derived.Test.YtlkaocaieoabaaaCore
namespace Go.Proofs.Ytlkaocaieoabaaa.Pure
open Go.RowKit Go.Proofs.Ytlkaocaieoabaaa.PFnExactSumOf Go.Proofs.YtlkaocaieoabaaaW.PrintWords Go.Proofs.YtlkaocaieoabaaaW.PrintLast Go.Proofs.Ytlkaocaieoabaaa.Core

theorem spec_sum_loop (s : ByteArray) (hs : s.size ≤ 140737488351232) : ∀ (d k : Nat) (acc i : Int), 0 ≤ i → (s.size : Int) - i = d → d < k → 0 ≤ acc → acc ≤ 255 * i → spec_SumOf.l0 k s acc i = some (acc + sumB (s.toList.drop i.toNat)) := by
  intro d
  induction d with
  | zero =>
    intro k acc i h0 hd hk ha hb
    obtain ⟨k, rfl⟩ : ∃ m, k = m + 1 := ⟨k - 1, by omega⟩
    simp only [spec_SumOf.l0]
    rw [if_neg (by omega), List.drop_eq_nil_of_le (by rw [tl_length]; omega)]
    simp [sumB]
  | succ d ih =>
    intro k acc i h0 hd hk ha hb
    obtain ⟨k, rfl⟩ : ∃ m, k = m + 1 := ⟨k - 1, by omega⟩
    simp only [spec_SumOf.l0]
    obtain ⟨b, e, hbt⟩ := bt_step s i h0 (by omega)
    have hlt := b.toNat_lt
    rw [if_pos (by omega), if_pos h0, hbt, w64 (n := (b.toNat : Int)) (by omega) (by omega), w64 (by omega) (by omega), w64 (by omega) (by omega)]
    rw [ih k _ _ (by omega) (by omega) (by omega) (by omega) (by omega), e]
    simp only [sumB]
    congr 1
    omega
theorem impl_sum_loop (s : ByteArray) (hs : s.size ≤ 140737488351232) : ∀ (d k : Nat) (acc i : Int), 0 ≤ i → (s.size : Int) - i = d → d < k → 0 ≤ acc → acc ≤ 255 * i → impl_SumOf.l0 k s acc (s.size : Int) i = some (acc + sumB (s.toList.drop i.toNat)) := by
  intro d
  induction d with
  | zero =>
    intro k acc i h0 hd hk ha hb
    obtain ⟨k, rfl⟩ : ∃ m, k = m + 1 := ⟨k - 1, by omega⟩
    simp only [impl_SumOf.l0]
    rw [if_neg (by omega), List.drop_eq_nil_of_le (by rw [tl_length]; omega)]
    simp [sumB]
  | succ d ih =>
    intro k acc i h0 hd hk ha hb
    obtain ⟨k, rfl⟩ : ∃ m, k = m + 1 := ⟨k - 1, by omega⟩
    simp only [impl_SumOf.l0]
    obtain ⟨b, e, hbt⟩ := bt_step s i h0 (by omega)
    have hlt := b.toNat_lt
    rw [if_pos (by omega), if_pos h0, if_pos (by omega), hbt, w64 (n := (b.toNat : Int)) (by omega) (by omega), w64 (by omega) (by omega), w64 (by omega) (by omega)]
    rw [ih k _ _ (by omega) (by omega) (by omega) (by omega) (by omega), e]
    simp only [sumB]
    congr 1
    omega
theorem spec_sum (s : ByteArray) (hs : s.size ≤ 140737488351232) (k : Nat) (hk : s.size < k) : spec_SumOf.f k s = some (sumB s.toList) := by
  unfold spec_SumOf.f
  rw [spec_sum_loop s hs s.size k 0 0 (by omega) (by omega) hk (by omega) (by omega)]
  simp
theorem impl_sum (s : ByteArray) (hs : s.size ≤ 140737488351232) (k : Nat) (hk : s.size < k) : impl_SumOf.f k s = some (sumB s.toList) := by
  unfold impl_SumOf.f
  rw [impl_sum_loop s hs s.size k 0 0 (by omega) (by omega) hk (by omega) (by omega)]
  simp

theorem FnExactSumOf : laws_FnExactSumOf.Pure := by
  intro s hs
  refine ⟨s.size + 1, ?_⟩
  unfold laws_FnExactSumOf.f
  rw [spec_sum s hs _ (by omega), impl_sum s hs _ (by omega)]
  simp

end Go.Proofs.Ytlkaocaieoabaaa.Pure
