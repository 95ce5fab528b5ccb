/-
The pure statement of the law FnExactFlag (numbers, byte strings and lists; no Go and no memory): the printed law's function answers true. Conditions: those of the printed statement (each string at most 2^47 - 4096 bytes, each number of its kind).
-/
import Derived.Test.YtlkaocaieoabaaaPFnExactFlagx1
import Derived.Test.YtlkaocaieoabaaaCore
namespace Go.Proofs.Ytlkaocaieoabaaa.Pure
open Go.RowKit Go.Proofs.Ytlkaocaieoabaaa.PFnExactFlag Go.Proofs.YtlkaocaieoabaaaW.PrintWords Go.Proofs.YtlkaocaieoabaaaW.PrintLast Go.Proofs.Ytlkaocaieoabaaa.Core

theorem in_eq (a b c : Int) : spec_l01In.f a b c = some (decide (b ≤ a ∧ a ≤ c)) := by
  unfold spec_l01In.f
  by_cases h : b ≤ a
  · rw [if_pos h]; simp [h]
  · rw [if_neg h]; simp [h]

theorem flag_eq (n : Int) : spec_Flag.f n = impl_Flag.f n := by
  unfold spec_Flag.f
  rw [in_eq]
  simp only [Option.bind_some]
  by_cases h : 0 ≤ n ∧ n ≤ 3
  · rw [if_pos (by simpa using h)]
    obtain rfl | rfl | rfl | rfl : n = 0 ∨ n = 1 ∨ n = 2 ∨ n = 3 := by omega
    all_goals rfl
  · rw [if_neg (by simpa using h)]
    unfold impl_Flag.f
    rw [if_neg (by omega), if_neg (by omega), if_neg (by omega), if_neg (by omega)]
theorem flag_some (n : Int) : ∃ s, impl_Flag.f n = some s := by
  unfold impl_Flag.f
  repeat' split
  all_goals exact ⟨_, rfl⟩

theorem FnExactFlag : laws_FnExactFlag.Pure := by
  intro n _
  unfold laws_FnExactFlag.f
  obtain ⟨s, hs⟩ := flag_some n
  rw [flag_eq, hs]
  simp

end Go.Proofs.Ytlkaocaieoabaaa.Pure
