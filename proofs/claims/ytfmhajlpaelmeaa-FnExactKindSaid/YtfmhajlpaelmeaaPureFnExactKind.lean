/-
The pure statement of the law FnExactKind (numbers, byte strings and lists; no Go and no memory): the printed law's function answers true. Conditions: those of the printed statement (each string at most 2^47 - 4096 bytes, each number of its kind).
-/
import Derived.Test.YtfmhajlpaelmeaaPFnExactKindx1
import Derived.Test.YtfmhajlpaelmeaaCore
namespace Go.Proofs.Ytfmhajlpaelmeaa.Pure
open Go.RowKit Go.Proofs.Ytfmhajlpaelmeaa.PFnExactKind Go.Proofs.YtfmhajlpaelmeaaW.PrintWords Go.Proofs.YtfmhajlpaelmeaaW.PrintLast Go.Proofs.Ytfmhajlpaelmeaa.Core

theorem in_eq (a b c : Int) : spec_l01In.f a b c = some (decide (b ≤ a ∧ a ≤ c)) := by
  unfold spec_l01In.f
  by_cases h : b ≤ a
  · rw [if_pos h]; simp [h]
  · rw [if_neg h]; simp [h]

theorem flag_eq (n : Int) : spec_Flag.f n = impl_Flag.f n := by
  unfold spec_Flag.f
  rw [in_eq]
  simp only [Option.bind_some]
  by_cases h : 0 ≤ n ∧ n ≤ 3
  · rw [if_pos (by simpa using h)]
    obtain rfl | rfl | rfl | rfl : n = 0 ∨ n = 1 ∨ n = 2 ∨ n = 3 := by omega
    all_goals rfl
  · rw [if_neg (by simpa using h)]
    unfold impl_Flag.f
    rw [if_neg (by omega), if_neg (by omega), if_neg (by omega), if_neg (by omega)]
theorem flag_some (n : Int) : ∃ s, impl_Flag.f n = some s := by
  unfold impl_Flag.f
  repeat' split
  all_goals exact ⟨_, rfl⟩

/-- The kind of a flag, or -1. -/
def kindM (s : ByteArray) : Int := if ([48] : List UInt8) = s.toList then 0 else if ([53] : List UInt8) = s.toList then 1 else if ([50] : List UInt8) = s.toList then 2 else if ([49] : List UInt8) = s.toList then 3 else -1
theorem flag_at : impl_Flag.f 0 = some (⟨#[48]⟩ : ByteArray) ∧ impl_Flag.f 1 = some (⟨#[53]⟩ : ByteArray) ∧ impl_Flag.f 2 = some (⟨#[50]⟩ : ByteArray) ∧ impl_Flag.f 3 = some (⟨#[49]⟩ : ByteArray) := ⟨rfl, rfl, rfl, rfl⟩
theorem one_byte (b : UInt8) : (⟨#[b]⟩ : ByteArray).toList = [b] := tl_mk [b]
theorem wrap_small : wrap64 (0 + 1) = 1 ∧ wrap64 (1 + 1) = 2 ∧ wrap64 (2 + 1) = 3 ∧ wrap64 (3 + 1) = 4 := ⟨w64 (by omega) (by omega), w64 (by omega) (by omega), w64 (by omega) (by omega), w64 (by omega) (by omega)⟩
theorem spec_kind (s : ByteArray) (k : Nat) (hk : 4 < k) : spec_Kind.f k s = some (kindM s) := by
  obtain ⟨k, rfl⟩ : ∃ m, k = m + 5 := ⟨k - 5, by omega⟩
  obtain ⟨f0, f1, f2, f3⟩ := flag_at
  obtain ⟨g1, g2, g3, g4⟩ := wrap_small
  unfold spec_Kind.f kindM
  simp only [spec_Kind.l0, flag_eq, f0, f1, f2, f3, g1, g2, g3, g4, one_byte, Option.bind_some]
  rw [if_pos (show (0 : Int) < 4 by decide), if_pos (show (1 : Int) < 4 by decide), if_pos (show (2 : Int) < 4 by decide), if_pos (show (3 : Int) < 4 by decide), if_neg (show ¬ (4 : Int) < 4 by decide)]
  repeat' split
  all_goals rfl
theorem impl_kind (s : ByteArray) (k : Nat) (hk : 4 < k) : impl_Kind.f k s = some (kindM s) := by
  obtain ⟨k, rfl⟩ : ∃ m, k = m + 5 := ⟨k - 5, by omega⟩
  obtain ⟨f0, f1, f2, f3⟩ := flag_at
  obtain ⟨g1, g2, g3, g4⟩ := wrap_small
  unfold impl_Kind.f kindM
  simp only [impl_Kind.l0, f0, f1, f2, f3, g1, g2, g3, g4, one_byte, Option.bind_some]
  rw [if_pos (show (0 : Int) ≤ 3 by decide), if_pos (show (1 : Int) ≤ 3 by decide), if_pos (show (2 : Int) ≤ 3 by decide), if_pos (show (3 : Int) ≤ 3 by decide), if_neg (show ¬ (4 : Int) ≤ 3 by decide)]
  repeat' split
  all_goals rfl

theorem FnExactKind : laws_FnExactKind.Pure := by
  intro s hs
  refine ⟨5, ?_⟩
  unfold laws_FnExactKind.f
  rw [spec_kind s _ (by omega), impl_kind s _ (by omega)]
  simp

end Go.Proofs.Ytfmhajlpaelmeaa.Pure
