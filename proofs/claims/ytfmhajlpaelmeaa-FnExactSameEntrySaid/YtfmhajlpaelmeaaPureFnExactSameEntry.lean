/-
The pure statement of the law FnExactSameEntry (numbers, byte strings and lists; no Go and no memory): the printed law's function answers true. Conditions: those of the printed statement (each string at most 2^47 - 4096 bytes, each number of its kind).
-/
import Derived.Test.YtfmhajlpaelmeaaPFnExactSameEntryx2
import Derived.Test.YtfmhajlpaelmeaaCore
namespace Go.Proofs.Ytfmhajlpaelmeaa.Pure
open Go.RowKit Go.Proofs.Ytfmhajlpaelmeaa.PFnExactSameEntry Go.Proofs.YtfmhajlpaelmeaaW.PrintWords Go.Proofs.YtfmhajlpaelmeaaW.PrintLast Go.Proofs.Ytfmhajlpaelmeaa.Core

theorem sz_plain (a0 : Int) (a1 a2 : ByteArray) (a3 a4 a5 a6 : Int) (a7 a8 a9 : ByteArray) (h : a1.size ≤ 9223372036854775807 ∧ a2.size ≤ 9223372036854775807 ∧ a7.size ≤ 9223372036854775807 ∧ a8.size ≤ 9223372036854775807 ∧ a9.size ≤ 9223372036854775807) (left : Int) (h0 : 0 ≤ left) (h1 : left ≤ 1048576) : ∃ r, laws_szEntry.f a0 a1 a2 a3 a4 a5 a6 a7 a8 a9 left = some r ∧ (r < 0 ∨ (0 ≤ r ∧ ((a1.size + a2.size + a7.size + a8.size + a9.size : Nat) : Int) = left - r)) := by
  obtain ⟨b1, b2, b7, b8, b9⟩ := h
  unfold laws_szEntry.f
  rw [w64 (n := left - (a1.size : Int)) (by omega) (by omega)]
  by_cases c1 : left - (a1.size : Int) < 0
  · rw [if_pos c1]; exact ⟨_, rfl, .inl (by omega)⟩
  rw [if_neg c1, w64 (n := left - (a1.size : Int) - (a2.size : Int)) (by omega) (by omega)]
  by_cases c2 : left - (a1.size : Int) - (a2.size : Int) < 0
  · rw [if_pos c2]; exact ⟨_, rfl, .inl (by omega)⟩
  rw [if_neg c2, w64 (n := left - (a1.size : Int) - (a2.size : Int) - (a7.size : Int)) (by omega) (by omega)]
  by_cases c3 : left - (a1.size : Int) - (a2.size : Int) - (a7.size : Int) < 0
  · rw [if_pos c3]; exact ⟨_, rfl, .inl (by omega)⟩
  rw [if_neg c3, w64 (n := left - (a1.size : Int) - (a2.size : Int) - (a7.size : Int) - (a8.size : Int)) (by omega) (by omega)]
  by_cases c4 : left - (a1.size : Int) - (a2.size : Int) - (a7.size : Int) - (a8.size : Int) < 0
  · rw [if_pos c4]; exact ⟨_, rfl, .inl (by omega)⟩
  rw [if_neg c4, w64 (n := left - (a1.size : Int) - (a2.size : Int) - (a7.size : Int) - (a8.size : Int) - (a9.size : Int)) (by omega) (by omega)]
  by_cases c5 : left - (a1.size : Int) - (a2.size : Int) - (a7.size : Int) - (a8.size : Int) - (a9.size : Int) < 0
  · rw [if_pos c5]; exact ⟨_, rfl, .inl (by omega)⟩
  rw [if_neg c5]
  exact ⟨_, rfl, .inr ⟨by omega, by omega⟩⟩

theorem FnExactSameEntry : ∀ (a0_0 : Int) (a0_1 : ByteArray) (a0_2 : ByteArray) (a0_3 : Int) (a0_4 : Int) (a0_5 : Int) (a0_6 : Int) (a0_7 : ByteArray) (a0_8 : ByteArray) (a0_9 : ByteArray) (a1_0 : Int) (a1_1 : ByteArray) (a1_2 : ByteArray) (a1_3 : Int) (a1_4 : Int) (a1_5 : Int) (a1_6 : Int) (a1_7 : ByteArray) (a1_8 : ByteArray) (a1_9 : ByteArray), (Lit.int .i64 a0_0).wf = true → a0_1.size ≤ 9223372036854775807 → a0_2.size ≤ 9223372036854775807 → (Lit.int .i64 a0_3).wf = true → (Lit.int .i64 a0_4).wf = true → (Lit.int .i64 a0_5).wf = true → (Lit.int .i64 a0_6).wf = true → a0_7.size ≤ 9223372036854775807 → a0_8.size ≤ 9223372036854775807 → a0_9.size ≤ 9223372036854775807 → (Lit.int .i64 a1_0).wf = true → a1_1.size ≤ 9223372036854775807 → a1_2.size ≤ 9223372036854775807 → (Lit.int .i64 a1_3).wf = true → (Lit.int .i64 a1_4).wf = true → (Lit.int .i64 a1_5).wf = true → (Lit.int .i64 a1_6).wf = true → a1_7.size ≤ 9223372036854775807 → a1_8.size ≤ 9223372036854775807 → a1_9.size ≤ 9223372036854775807 → laws_FnExactSameEntry.f a0_0 a0_1 a0_2 a0_3 a0_4 a0_5 a0_6 a0_7 a0_8 a0_9 a1_0 a1_1 a1_2 a1_3 a1_4 a1_5 a1_6 a1_7 a1_8 a1_9 = some true := by
  intro a0 a1 a2 a3 a4 a5 a6 a7 a8 a9 b0 b1 b2 b3 b4 b5 b6 b7 b8 b9 _ z1 z2 _ _ _ _ z7 z8 z9 _ y1 y2 _ _ _ _ y7 y8 y9
  unfold laws_FnExactSameEntry.f
  obtain ⟨r, hr, h⟩ := sz_plain a0 a1 a2 a3 a4 a5 a6 a7 a8 a9 ⟨z1, z2, z7, z8, z9⟩ 1048576 (by omega) (by omega)
  rw [hr]
  simp only [Option.bind_some]
  rcases h with h | ⟨h0, h1⟩
  · rw [if_pos h]
  · rw [if_neg (by omega)]
    obtain ⟨q, hq, h2⟩ := sz_plain b0 b1 b2 b3 b4 b5 b6 b7 b8 b9 ⟨y1, y2, y7, y8, y9⟩ r h0 (by omega)
    rw [hq]
    simp only [Option.bind_some]
    rcases h2 with h2 | ⟨h2, _⟩
    · rw [if_pos h2]
    · rw [if_neg (by omega)]
      simp [laws_toEntry.f, spec_SameEntry.f, impl_SameEntry.f]

end Go.Proofs.Ytfmhajlpaelmeaa.Pure
