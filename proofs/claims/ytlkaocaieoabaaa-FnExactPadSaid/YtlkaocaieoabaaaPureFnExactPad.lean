/-
The pure statement of the law FnExactPad (numbers, byte strings and lists; no Go and no memory): the printed law's function answers true. Conditions: those of the printed statement (each string at most 2^47 - 4096 bytes, each number of its kind).
-/
import Derived.Test.YtlkaocaieoabaaaPFnExactPadx1
import Derived.Test.YtlkaocaieoabaaaCore
namespace Go.Proofs.Ytlkaocaieoabaaa.Pure
open Go.RowKit Go.Proofs.Ytlkaocaieoabaaa.PFnExactPad Go.Proofs.YtlkaocaieoabaaaW.PrintWords Go.Proofs.YtlkaocaieoabaaaW.PrintLast Go.Proofs.Ytlkaocaieoabaaa.Core

theorem in_eq (a b c : Int) : spec_l01In.f a b c = some (decide (b ≤ a ∧ a ≤ c)) := by
  unfold spec_l01In.f
  by_cases h : b ≤ a
  · rw [if_pos h]; simp [h]
  · rw [if_neg h]; simp [h]

theorem within_eq (a b c : Int) : impl_within.f a b c = some (decide (b ≤ a ∧ a ≤ c)) := by
  unfold impl_within.f
  by_cases h : b ≤ a
  · rw [if_pos h]; simp [h]
  · rw [if_neg h]; simp [h]

/-- What lacks up to a multiple. -/
def padM (n unit : Int) : Int := if (0 ≤ n ∧ n ≤ 9007199254740991) ∧ (1 ≤ unit ∧ unit ≤ 512) then (unit - n % unit) % unit else 0
theorem spec_pad (n unit : Int) : spec_Pad.f n unit = some (padM n unit) := by
  unfold spec_Pad.f padM
  rw [in_eq, in_eq]
  simp only [Option.bind_some]
  by_cases h1 : 0 ≤ n ∧ n ≤ 9007199254740991
  · by_cases h2 : 1 ≤ unit ∧ unit ≤ 512
    · have e : Int.tmod n unit = n % unit := Int.tmod_eq_emod_of_nonneg h1.1
      have hp : 0 ≤ n % unit ∧ n % unit < unit := ⟨Int.emod_nonneg _ (by omega), Int.emod_lt_of_pos _ (by omega)⟩
      rw [if_pos (by simpa using h1), if_pos (by simpa using h2), if_neg (show ¬ unit = 0 by omega), if_pos (show (0 ≤ n ∧ n ≤ 9007199254740991) ∧ 1 ≤ unit ∧ unit ≤ 512 from ⟨h1, h2⟩), e]
      by_cases h3 : n % unit = 0
      · rw [if_pos h3, h3]; simp
      · rw [if_neg h3, w64 (by omega) (by omega), Int.emod_eq_of_lt (a := unit - n % unit) (by omega) (by omega)]
    · rw [if_pos (by simpa using h1), if_neg (by simpa using h2), if_neg (fun h => h2 h.2)]
  · rw [if_neg (by simpa using h1), if_neg (fun h => h1 h.1)]
theorem impl_pad (n unit : Int) : impl_Pad.f n unit = some (padM n unit) := by
  unfold impl_Pad.f padM
  rw [within_eq, within_eq]
  simp only [Option.bind_some]
  by_cases h1 : 0 ≤ n ∧ n ≤ 9007199254740991
  · by_cases h2 : 1 ≤ unit ∧ unit ≤ 512
    · have e : Int.tmod n unit = n % unit := Int.tmod_eq_emod_of_nonneg h1.1
      have hp : 0 ≤ n % unit ∧ n % unit < unit := ⟨Int.emod_nonneg _ (by omega), Int.emod_lt_of_pos _ (by omega)⟩
      rw [if_pos (by simpa using h1), if_pos (by simpa using h2), if_neg (show ¬ unit = 0 by omega), if_pos (show (0 ≤ n ∧ n ≤ 9007199254740991) ∧ 1 ≤ unit ∧ unit ≤ 512 from ⟨h1, h2⟩), e, w64 (by omega) (by omega), Int.tmod_eq_emod_of_nonneg (by omega)]
    · rw [if_pos (by simpa using h1), if_neg (by simpa using h2), if_neg (fun h => h2 h.2)]
  · rw [if_neg (by simpa using h1), if_neg (fun h => h1 h.1)]

theorem FnExactPad : laws_FnExactPad.Pure := by
  intro n unit _ _
  unfold laws_FnExactPad.f
  rw [spec_pad, impl_pad]
  simp

end Go.Proofs.Ytlkaocaieoabaaa.Pure
