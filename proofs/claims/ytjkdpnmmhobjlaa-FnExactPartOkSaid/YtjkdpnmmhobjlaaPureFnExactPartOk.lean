/-
The pure statement of the law FnExactPartOk (numbers, byte strings and lists; no Go and no memory): the printed law's function answers true. Conditions: those of the printed statement (each string at most 2^47 - 4096 bytes, each number of its kind).
-/
import Derived.Test.YtjkdpnmmhobjlaaPFnExactPartOkx1
import Derived.Test.YtjkdpnmmhobjlaaCore
namespace Go.Proofs.Ytjkdpnmmhobjlaa.Pure
open Go.RowKit Go.Proofs.Ytjkdpnmmhobjlaa.PFnExactPartOk Go.Proofs.YtjkdpnmmhobjlaaW.PrintWords Go.Proofs.YtjkdpnmmhobjlaaW.PrintLast Go.Proofs.Ytjkdpnmmhobjlaa.Core

theorem in_eq (a b c : Int) : spec_l01In.f a b c = some (decide (b ≤ a ∧ a ≤ c)) := by
  unfold spec_l01In.f
  by_cases h : b ≤ a
  · rw [if_pos h]; simp [h]
  · rw [if_neg h]; simp [h]

theorem within_eq (a b c : Int) : impl_within.f a b c = some (decide (b ≤ a ∧ a ≤ c)) := by
  unfold impl_within.f
  by_cases h : b ≤ a
  · rw [if_pos h]; simp [h]
  · rw [if_neg h]; simp [h]

theorem allB_list (p : Int → Bool) (s : ByteArray) : allB p s = s.toList.all (fun b => p (b.toNat : Int)) := rfl

/-- Is a text a component? -/
def partOkM (l : List UInt8) : Bool := decide (1 ≤ l.length ∧ l.length ≤ 60) && (l != [46]) && (l != [46, 46]) && l.all (fun b => pPart (b.toNat : Int))
theorem spec_part_loop (s : ByteArray) (hs : s.size ≤ 140737488351232) : ∀ (d k : Nat) (i : Int), 0 ≤ i → (s.size : Int) - i = d → d < k →
    spec_PartOk.l0 k s i = some ((s.toList.drop i.toNat).all (fun b => pPart (b.toNat : Int)) && (decide (1 ≤ s.toList.length ∧ s.toList.length ≤ 60) && (s.toList != [46]) && (s.toList != [46, 46]))) := by
  intro d
  induction d with
  | zero =>
    intro k i h0 hd hk
    obtain ⟨k, rfl⟩ : ∃ m, k = m + 1 := ⟨k - 1, by omega⟩
    simp only [spec_PartOk.l0]
    rw [if_neg (by omega), List.drop_eq_nil_of_le (by rw [tl_length]; omega), in_eq]
    simp only [Option.bind_some, List.all_nil, Bool.true_and, tl_length]
    by_cases h1 : 1 ≤ s.size ∧ s.size ≤ 60
    · rw [if_pos (by simpa using ⟨by omega, by omega⟩), decide_eq_true h1]
      by_cases h2 : s.toList = [46]
      · rw [if_pos h2]; simp [h2]
      · rw [if_neg h2]; simp [h2]
    · rw [if_neg (by simp; omega), decide_eq_false h1]
      simp
  | succ d ih =>
    intro k i h0 hd hk
    obtain ⟨k, rfl⟩ : ∃ m, k = m + 1 := ⟨k - 1, by omega⟩
    simp only [spec_PartOk.l0]
    obtain ⟨b, e, hbt⟩ := bt_step s i h0 (by omega)
    have hlt := b.toNat_lt
    rw [if_pos (by omega), if_pos h0, in_eq, hbt, w64 (n := (b.toNat : Int)) (by omega) (by omega), w64 (n := i + 1) (by omega) (by omega), ih k (i + 1) (by omega) (by omega) (by omega), e]
    simp only [Option.bind_some, List.all_cons]
    by_cases h1 : 33 ≤ (b.toNat : Int) ∧ (b.toNat : Int) ≤ 126
    · rw [if_pos (by simpa using h1)]
      by_cases h2 : (b.toNat : Int) = 47
      · rw [if_pos h2]; simp [pPart, h2]
      · have hp : pPart (b.toNat : Int) = true := by
          unfold pPart
          rw [decide_eq_true h1.1, decide_eq_true h1.2, bne_iff_ne.2 h2]
          rfl
        rw [if_neg h2, hp, Bool.true_and]
    · rw [if_neg (by simpa using h1)]
      have : pPart (b.toNat : Int) = false := by
        unfold pPart
        by_cases h3 : 33 ≤ (b.toNat : Int)
        · rw [decide_eq_false (show ¬ (b.toNat : Int) ≤ 126 by omega)]; simp
        · rw [decide_eq_false h3]; simp
      rw [this]
      simp
theorem spec_partOk (s : ByteArray) (hs : s.size ≤ 140737488351232) (k : Nat) (hk : s.size < k) : spec_PartOk.f k s = some (partOkM s.toList) := by
  unfold spec_PartOk.f partOkM
  rw [spec_part_loop s hs s.size k 0 (by omega) (by omega) hk, Bool.and_comm]
  rfl
theorem impl_partOk (s : ByteArray) (hs : s.size ≤ 140737488351232) : impl_PartOk.f s = some (partOkM s.toList) := by
  unfold impl_PartOk.f partOkM
  rw [within_eq]
  simp only [Option.bind_some, tl_length]
  by_cases h1 : 1 ≤ s.size ∧ s.size ≤ 60
  · rw [if_pos (by simpa using ⟨by omega, by omega⟩), decide_eq_true h1]
    by_cases h2 : s.toList = [46]
    · rw [if_pos h2]; simp [h2]
    · rw [if_neg h2]
      by_cases h3 : s.toList = [46, 46]
      · rw [if_pos h3]; simp [h3]
      · rw [if_neg h3]
        unfold impl_areBytes.f
        rw [if_pos (by omega)]
        simp [h2, h3, allB]
  · rw [if_neg (by simp; omega), decide_eq_false h1]
    simp

theorem FnExactPartOk : laws_FnExactPartOk.Pure := by
  intro s hs
  refine ⟨s.size + 1, ?_⟩
  unfold laws_FnExactPartOk.f
  rw [spec_partOk s hs _ (by omega), impl_partOk s hs]
  simp

end Go.Proofs.Ytjkdpnmmhobjlaa.Pure
