/-
The pure statement of the law FnExactDir (numbers, byte strings and lists; no Go and no memory): the printed law's function answers true. Conditions: those of the printed statement (each string at most 2^47 - 4096 bytes, each number of its kind).
-/
import Derived.Test.YtfmhajlpaelmeaaPFnExactDirx1
import Derived.Test.YtfmhajlpaelmeaaCore
namespace Go.Proofs.Ytfmhajlpaelmeaa.Pure
open Go.RowKit Go.Proofs.Ytfmhajlpaelmeaa.PFnExactDir Go.Proofs.YtfmhajlpaelmeaaW.PrintWords Go.Proofs.YtfmhajlpaelmeaaW.PrintLast Go.Proofs.Ytfmhajlpaelmeaa.Core

theorem spec_last_loop (s : ByteArray) (hs : s.size ≤ 140737488351232) : ∀ (n k : Nat), n ≤ s.size → n < k → spec_l02Last.l0 k s ((n : Int) - 1) = some (lastTo s 47 n) := by
  intro n
  induction n with
  | zero =>
    intro k _ hk
    obtain ⟨k, rfl⟩ : ∃ m, k = m + 1 := ⟨k - 1, by omega⟩
    simp only [spec_l02Last.l0, lastTo]
    rw [if_neg (by omega)]
  | succ n ih =>
    intro k hn hk
    obtain ⟨k, rfl⟩ : ∃ m, k = m + 1 := ⟨k - 1, by omega⟩
    have e : ((n + 1 : Nat) : Int) - 1 = (n : Int) := by omega
    rw [e]
    simp only [spec_l02Last.l0, lastTo]
    rw [if_pos (show (n : Int) ≥ 0 by omega), if_pos (show 0 ≤ (n : Int) by omega), if_pos (show (n : Int) < (s.size : Int) by omega)]
    by_cases h : bt s (n : Int) = 47
    · rw [if_pos h, if_pos h]
    · rw [if_neg h, if_neg h, w64 (by omega) (by omega)]
      exact ih k (by omega) (by omega)
theorem lib_last_loop (s : ByteArray) (c : Int) (hs : s.size ≤ 140737488351232) : ∀ (n k : Nat), n ≤ s.size → n < k → bytealg_LastIndexByteString.l0 k s c ((n : Int) - 1) = some (lastTo s c n) := by
  intro n
  induction n with
  | zero =>
    intro k _ hk
    obtain ⟨k, rfl⟩ : ∃ m, k = m + 1 := ⟨k - 1, by omega⟩
    simp only [bytealg_LastIndexByteString.l0, lastTo]
    rw [if_neg (by omega)]
  | succ n ih =>
    intro k hn hk
    obtain ⟨k, rfl⟩ : ∃ m, k = m + 1 := ⟨k - 1, by omega⟩
    have e : ((n + 1 : Nat) : Int) - 1 = (n : Int) := by omega
    rw [e]
    simp only [bytealg_LastIndexByteString.l0, lastTo]
    rw [if_pos (show (n : Int) ≥ 0 by omega), if_pos (show 0 ≤ (n : Int) by omega), if_pos (show (n : Int) < (s.size : Int) by omega)]
    by_cases h : bt s (n : Int) = c
    · rw [if_pos h, if_pos h]
    · rw [if_neg h, if_neg h, w64 (by omega) (by omega)]
      exact ih k (by omega) (by omega)
theorem spec_last (s : ByteArray) (hs : s.size ≤ 140737488351232) (k : Nat) (hk : s.size < k) : spec_l02Last.f k s = some (lastTo s 47 s.size) := by
  unfold spec_l02Last.f
  rw [w64 (by omega) (by omega)]
  exact spec_last_loop s hs s.size k (Nat.le_refl _) hk
theorem lib_last (s : ByteArray) (c : Int) (hs : s.size ≤ 140737488351232) (k : Nat) (hk : s.size < k) : strings_LastIndexByte.f k s c = some (lastTo s c s.size) := by
  unfold strings_LastIndexByte.f bytealg_LastIndexByteString.f
  rw [w64 (by omega) (by omega), lib_last_loop s c hs s.size k (Nat.le_refl _) hk]
  rfl

/-- What is ahead of the last stroke. -/
def dirM (s : ByteArray) : ByteArray := s.extract 0 (lastTo s 47 s.size).toNat
theorem spec_dir (s : ByteArray) (hs : s.size ≤ 140737488351232) (k : Nat) (hk : s.size < k) : spec_Dir.f k s = some (dirM s) := by
  have h := lastTo_bounds s 47 s.size
  unfold spec_Dir.f dirM
  rw [spec_last s hs k hk]
  simp only [Option.bind_some]
  by_cases h0 : lastTo s 47 s.size < 0
  · rw [if_pos h0]
    congr 1
    apply tl_inj
    rw [tl_extract, show (lastTo s 47 s.size).toNat = 0 by omega, List.take_zero, List.drop_nil]
    exact tl_mk []
  · rw [if_neg h0, if_pos (by omega), if_pos (by omega)]
theorem impl_dir (s : ByteArray) (hs : s.size ≤ 140737488351232) (k : Nat) (hk : s.size < k) : impl_Dir.f k s = some (dirM s) := by
  have h := lastTo_bounds s 47 s.size
  unfold impl_Dir.f dirM
  rw [lib_last s 47 hs k hk]
  simp only [Option.bind_some]
  have h1 : (mx (lastTo s 47 s.size) 0).toNat = (lastTo s 47 s.size).toNat := by unfold mx; split <;> omega
  have h2 : 0 ≤ mx (lastTo s 47 s.size) 0 ∧ mx (lastTo s 47 s.size) 0 ≤ (s.size : Int) := by unfold mx; split <;> omega
  rw [if_pos h2.1, if_pos h2.2, h1]

theorem FnExactDir : laws_FnExactDir.Pure := by
  intro s hs
  refine ⟨s.size + 1, ?_⟩
  unfold laws_FnExactDir.f
  rw [spec_dir s hs _ (by omega), impl_dir s hs _ (by omega)]
  simp

end Go.Proofs.Ytfmhajlpaelmeaa.Pure
