/-
The pure statement of the law FnExactFill (numbers, byte strings and lists; no Go and no memory): the printed law's function answers true. Conditions: those of the printed statement (each string at most 2^47 - 4096 bytes, each number of its kind).
-/
import Derived.Test.YtlaoljbanflcgaaPFnExactFillx1
import Derived.Test.YtlaoljbanflcgaaCore
namespace Go.Proofs.Ytlaoljbanflcgaa.Pure
open Go.RowKit Go.Proofs.Ytlaoljbanflcgaa.PFnExactFill Go.Proofs.YtlaoljbanflcgaaW.PrintWords Go.Proofs.YtlaoljbanflcgaaW.PrintLast Go.Proofs.Ytlaoljbanflcgaa.Core
set_option linter.unusedVariables false
set_option linter.unusedSimpArgs false

theorem nuls_loop (n : Int) (h1 : n ≤ 1048576) : ∀ (d k : Nat) (out : List Int), (out.length : Int) + d = n → d < k → spec_l01Nuls.l0 k n out (out.length : Int) = some (strOfNums (out ++ List.replicate d 0)) := by
  intro d
  induction d with
  | zero =>
    intro k out ho hk
    obtain ⟨k, rfl⟩ : ∃ m, k = m + 1 := ⟨k - 1, by omega⟩
    unfold spec_l01Nuls.l0
    rw [if_neg (by omega)]
    simp
  | succ d ih =>
    intro k out ho hk
    obtain ⟨k, rfl⟩ : ∃ m, k = m + 1 := ⟨k - 1, by omega⟩
    unfold spec_l01Nuls.l0
    have e := ih k (out ++ [0]) (by simp only [List.length_append, List.length_cons, List.length_nil]; omega) (by omega)
    rw [show (((out ++ [(0 : Int)]).length : Nat) : Int) = (out.length : Int) + 1 by simp] at e
    rw [if_pos (by omega), if_pos (by omega), w64 (by omega) (by omega), e]
    simp [List.replicate_succ]
theorem spec_nuls (n : Int) (h0 : 0 ≤ n) (h1 : n ≤ 1048576) (k : Nat) (hk : 1048577 < k) : ∃ r, spec_l01Nuls.f k n = some r ∧ r.toList = List.replicate n.toNat 0 := by
  have e := nuls_loop n h1 n.toNat k [] (by simp only [List.length_nil]; omega) (by omega)
  refine ⟨_, e, ?_⟩
  rw [tl_nums]
  simp

theorem repeat_one (c : UInt8) : ∀ n : Nat, Lib.repeatL [c] n = List.replicate n c
  | 0 => rfl
  | n + 1 => by
    simp only [Lib.repeatL, repeat_one c n, List.replicate_succ]
    rfl
theorem lib_repeat (c : UInt8) (n : Int) (h0 : 0 ≤ n) (h1 : n ≤ 1048576) : ∃ r, strings_Repeat.f (⟨#[c]⟩ : ByteArray) n = some r ∧ r.toList = List.replicate n.toNat c := by
  have hs : (⟨#[c]⟩ : ByteArray).size = 1 := rfl
  unfold strings_Repeat.f
  rw [if_pos ⟨h0, by omega, by rw [hs]; omega⟩]
  refine ⟨_, rfl, ?_⟩
  rw [tl_mk]
  exact repeat_one c _

def fillM (l : List UInt8) (n : Int) : List UInt8 := if n > 1024 ∨ n ≤ (l.length : Int) then l else l ++ List.replicate (n - (l.length : Int)).toNat 0
theorem spec_fill (s : ByteArray) (n : Int) (hs : s.size ≤ 1048576) (k : Nat) (hk : 1048577 < k) : ∃ r, spec_Fill.f k s n = some r ∧ r.toList = fillM s.toList n := by
  unfold spec_Fill.f fillM
  rw [tl_length]
  by_cases h1 : n > 1024
  · rw [if_pos h1, if_pos (Or.inl h1)]
    exact ⟨_, rfl, rfl⟩
  · rw [if_neg h1]
    by_cases h2 : n ≤ (s.size : Int)
    · rw [if_pos h2, if_pos (Or.inr h2)]
      exact ⟨_, rfl, rfl⟩
    · rw [if_neg h2, if_neg (fun h => h.elim h1 h2), w64 (by omega) (by omega)]
      obtain ⟨r, e, l⟩ := spec_nuls (n - (s.size : Int)) (by omega) (by omega) k hk
      have hr : r.size ≤ 1024 := by rw [← tl_length, l, List.length_replicate]; omega
      rw [e]
      simp only [Option.bind_some]
      rw [if_pos (by omega)]
      exact ⟨_, rfl, by rw [tl_append, l]⟩
theorem impl_fill (s : ByteArray) (n : Int) (hs : s.size ≤ 1048576) : ∃ r, impl_Fill.f s n = some r ∧ r.toList = fillM s.toList n := by
  unfold impl_Fill.f fillM impl_nuls.f
  rw [tl_length]
  by_cases h2 : (s.size : Int) > n
  · rw [if_pos h2, if_pos (Or.inr (by omega))]
    exact ⟨_, rfl, rfl⟩
  · rw [if_neg h2]
    by_cases h1 : n > 1024
    · rw [if_pos h1, if_pos (Or.inl h1)]
      exact ⟨_, rfl, rfl⟩
    · rw [if_neg h1, w64 (by omega) (by omega)]
      obtain ⟨r, e, l⟩ := lib_repeat 0 (n - (s.size : Int)) (by omega) (by omega)
      have hr : r.size ≤ 1024 := by rw [← tl_length, l, List.length_replicate]; omega
      rw [e]
      simp only [Option.bind_some]
      rw [if_pos (by omega)]
      refine ⟨_, rfl, ?_⟩
      rw [tl_append, l]
      by_cases h3 : n ≤ (s.size : Int)
      · rw [if_pos (Or.inr h3), show (n - (s.size : Int)).toNat = 0 by omega]
        simp
      · rw [if_neg (fun h => h.elim h1 h3)]

theorem FnExactFill : laws_FnExactFill.Pure := by
  intro s n _ _
  unfold laws_FnExactFill.f
  by_cases h : (s.size : Int) > 1048576
  · exact ⟨0, by rw [if_pos h]⟩
  · obtain ⟨r1, e1, l1⟩ := spec_fill s n (by omega) 1048578 (by omega)
    obtain ⟨r2, e2, l2⟩ := impl_fill s n (by omega)
    refine ⟨1048578, ?_⟩
    rw [if_neg h, e1, e2]
    simp only [Option.bind_some]
    rw [l1, l2, if_pos rfl]

end Go.Proofs.Ytlaoljbanflcgaa.Pure
