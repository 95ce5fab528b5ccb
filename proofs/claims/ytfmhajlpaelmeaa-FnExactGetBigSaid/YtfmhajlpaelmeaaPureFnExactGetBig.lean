/-
The pure statement of the law FnExactGetBig (numbers, byte strings and lists; no Go and no memory): the printed law's function answers true. Conditions: those of the printed statement (each string at most 2^47 - 4096 bytes, each number of its kind).
-/
import Derived.Test.YtfmhajlpaelmeaaPFnExactGetBigx1
import Derived.Test.YtfmhajlpaelmeaaCore
namespace Go.Proofs.Ytfmhajlpaelmeaa.Pure
open Go.RowKit Go.Proofs.Ytfmhajlpaelmeaa.PFnExactGetBig Go.Proofs.YtfmhajlpaelmeaaW.PrintWords Go.Proofs.YtfmhajlpaelmeaaW.PrintLast Go.Proofs.Ytfmhajlpaelmeaa.Core

theorem in_eq (a b c : Int) : spec_l01In.f a b c = some (decide (b ≤ a ∧ a ≤ c)) := by
  unfold spec_l01In.f
  by_cases h : b ≤ a
  · rw [if_pos h]; simp [h]
  · rw [if_neg h]; simp [h]

theorem within_eq (a b c : Int) : impl_within.f a b c = some (decide (b ≤ a ∧ a ≤ c)) := by
  unfold impl_within.f
  by_cases h : b ≤ a
  · rw [if_pos h]; simp [h]
  · rw [if_neg h]; simp [h]

/-- The number of bytes by 256, if it is at most MaxNum. -/
def bigFold : List UInt8 → Int → Option Int
  | [], n => some n
  | b :: l, n => if n * 256 + (b.toNat : Int) > 9007199254740991 then none else bigFold l (n * 256 + (b.toNat : Int))
theorem bigFold_bounds : ∀ (l : List UInt8) (n r : Int), 0 ≤ n → n ≤ 9007199254740991 → bigFold l n = some r → 0 ≤ r ∧ r ≤ 9007199254740991
  | [], n, r, h0, h1, h => by
    simp only [bigFold, Option.some.injEq] at h
    omega
  | b :: l, n, r, h0, h1, h => by
    have hb := b.toNat_lt
    unfold bigFold at h
    split at h
    · cases h
    · exact bigFold_bounds l _ r (by omega) (by omega) h
def pairOf : Option Int → Int × Bool
  | some r => (r, true)
  | none => (0, false)
theorem spec_big_loop (s : ByteArray) (hs : s.size ≤ 140737488351232) : ∀ (d k : Nat) (n i : Int), 0 ≤ i → (s.size : Int) - i = d → d < k → 0 ≤ n → n ≤ 9007199254740991 → spec_GetBig.l0 k s n i = some (pairOf (bigFold (s.toList.drop i.toNat) n)) := by
  intro d
  induction d with
  | zero =>
    intro k n i h0 hd hk ha hb
    obtain ⟨k, rfl⟩ : ∃ m, k = m + 1 := ⟨k - 1, by omega⟩
    simp only [spec_GetBig.l0]
    rw [if_neg (by omega), List.drop_eq_nil_of_le (by rw [tl_length]; omega)]
    rfl
  | succ d ih =>
    intro k n i h0 hd hk ha hb
    obtain ⟨k, rfl⟩ : ∃ m, k = m + 1 := ⟨k - 1, by omega⟩
    simp only [spec_GetBig.l0]
    obtain ⟨b, e, hbt⟩ := bt_step s i h0 (by omega)
    have hlt := b.toNat_lt
    have e1 : wrap64 (b.toNat : Int) = (b.toNat : Int) := w64 (by omega) (by omega)
    have e2 : wrap64 (9007199254740991 - (b.toNat : Int)) = 9007199254740991 - (b.toNat : Int) := w64 (by omega) (by omega)
    have e3 : Int.tdiv (9007199254740991 - (b.toNat : Int)) 256 = (9007199254740991 - (b.toNat : Int)) / 256 := Int.tdiv_eq_ediv_of_nonneg (by omega)
    have e4 : wrap64 ((9007199254740991 - (b.toNat : Int)) / 256) = (9007199254740991 - (b.toNat : Int)) / 256 := w64 (by omega) (by omega)
    have e5 : wrap64 (n * 256) = n * 256 := w64 (by omega) (by omega)
    have e6 : wrap64 (n * 256 + (b.toNat : Int)) = n * 256 + (b.toNat : Int) := w64 (by omega) (by omega)
    have e7 : wrap64 (i + 1) = i + 1 := w64 (by omega) (by omega)
    rw [if_pos (by omega), if_pos h0, hbt, e1, e2, e3, e4, e5, e6, e7, e]
    simp only [bigFold]
    by_cases h : n * 256 + (b.toNat : Int) > 9007199254740991
    · rw [if_pos (by omega), if_pos h]; rfl
    · rw [if_neg (by omega), if_neg h]
      exact ih k _ _ (by omega) (by omega) (by omega) (by omega) (by omega)
theorem impl_big_loop (s : ByteArray) (hs : s.size ≤ 140737488351232) : ∀ (d k : Nat) (n i : Int), 0 ≤ i → (s.size : Int) - i = d → d < k → 0 ≤ n → n ≤ 9007199254740991 → impl_GetBig.l0 k s n i = some (pairOf (bigFold (s.toList.drop i.toNat) n)) := by
  intro d
  induction d with
  | zero =>
    intro k n i h0 hd hk ha hb
    obtain ⟨k, rfl⟩ : ∃ m, k = m + 1 := ⟨k - 1, by omega⟩
    simp only [impl_GetBig.l0]
    rw [if_neg (by omega), List.drop_eq_nil_of_le (by rw [tl_length]; omega)]
    rfl
  | succ d ih =>
    intro k n i h0 hd hk ha hb
    obtain ⟨k, rfl⟩ : ∃ m, k = m + 1 := ⟨k - 1, by omega⟩
    simp only [impl_GetBig.l0]
    obtain ⟨b, e, hbt⟩ := bt_step s i h0 (by omega)
    have hlt := b.toNat_lt
    have e1 : wrap64 (b.toNat : Int) = (b.toNat : Int) := w64 (by omega) (by omega)
    have e5 : wrap64 (n * 256) = n * 256 := w64 (by omega) (by omega)
    have e6 := bits_or_join 8 (n * 256) (b.toNat : Int) (by omega) (by omega) (by omega) (by omega) (by omega) (by omega)
    have e7 : wrap64 (i + 1) = i + 1 := w64 (by omega) (by omega)
    rw [if_pos (by omega), if_pos h0, hbt, e1, e5, e6, e7, e]
    simp only [bigFold]
    by_cases h : n * 256 + (b.toNat : Int) > 9007199254740991
    · rw [if_pos h, if_pos h]; rfl
    · rw [if_neg h, if_neg h]
      exact ih k _ _ (by omega) (by omega) (by omega) (by omega) (by omega)
/-- The number behind a byte of 128. -/
def getBigM (s : ByteArray) : Option Int := if (2 ≤ s.size ∧ s.size ≤ 20) ∧ bt s 0 = 128 then bigFold (s.toList.drop 1) 0 else none
theorem spec_getBig (s : ByteArray) (k : Nat) (hk : 24 < k) : spec_GetBig.f k s = some (pairOf (getBigM s)) := by
  obtain ⟨k, rfl⟩ : ∃ m, k = m + 1 := ⟨k - 1, by omega⟩
  unfold spec_GetBig.f getBigM
  rw [in_eq]
  simp only [Option.bind_some]
  by_cases h : 2 ≤ (s.size : Int) ∧ (s.size : Int) ≤ 20
  · rw [if_pos (by simpa using h), if_pos (show 0 < (s.size : Int) by omega)]
    by_cases h1 : bt s 0 = 128
    · rw [if_pos ⟨⟨by omega, by omega⟩, h1⟩, h1]
      simp only [spec_GetBig.j0]
      rw [if_neg (by decide)]
      exact spec_big_loop s (by omega) (s.size - 1) k 0 1 (by omega) (by omega) (by omega) (by omega) (by omega)
    · rw [if_neg (fun h => h1 h.2), show ((bt s 0) != 128) = true from bne_iff_ne.2 h1]
      simp only [spec_GetBig.j0]
      rfl
  · rw [if_neg (by simpa using h), if_neg (fun h' => h ⟨by omega, by omega⟩)]
    simp only [spec_GetBig.j0]
    rfl
theorem impl_getBig (s : ByteArray) (k : Nat) (hk : 24 < k) : impl_GetBig.f k s = some (pairOf (getBigM s)) := by
  obtain ⟨k, rfl⟩ : ∃ m, k = m + 1 := ⟨k - 1, by omega⟩
  unfold impl_GetBig.f getBigM
  rw [within_eq]
  simp only [Option.bind_some]
  by_cases h : 2 ≤ (s.size : Int) ∧ (s.size : Int) ≤ 20
  · rw [if_pos (by simpa using h), if_pos (show 0 < (s.size : Int) by omega)]
    by_cases h1 : bt s 0 = 128
    · rw [if_pos ⟨⟨by omega, by omega⟩, h1⟩, h1]
      simp only [impl_GetBig.j0]
      rw [if_neg (by decide)]
      exact impl_big_loop s (by omega) (s.size - 1) k 0 1 (by omega) (by omega) (by omega) (by omega) (by omega)
    · rw [if_neg (fun h => h1 h.2), show ((bt s 0) != 128) = true from bne_iff_ne.2 h1]
      simp only [impl_GetBig.j0]
      rfl
  · rw [if_neg (by simpa using h), if_neg (fun h' => h ⟨by omega, by omega⟩)]
    simp only [impl_GetBig.j0]
    rfl

theorem FnExactGetBig : laws_FnExactGetBig.Pure := by
  intro s hs
  refine ⟨25, ?_⟩
  unfold laws_FnExactGetBig.f
  rw [spec_getBig s _ (by omega), impl_getBig s _ (by omega)]
  simp

end Go.Proofs.Ytfmhajlpaelmeaa.Pure
