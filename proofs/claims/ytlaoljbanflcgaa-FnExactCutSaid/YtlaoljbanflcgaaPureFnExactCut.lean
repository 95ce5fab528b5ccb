/-
The pure statement of the law FnExactCut (numbers, byte strings and lists; no Go and no memory): the printed law's function answers true. Conditions: those of the printed statement (each string at most 2^47 - 4096 bytes, each number of its kind).
-/
import Derived.Test.YtlaoljbanflcgaaPFnExactCutx1
import Derived.Test.YtlaoljbanflcgaaCore
namespace Go.Proofs.Ytlaoljbanflcgaa.Pure
open Go.RowKit Go.Proofs.Ytlaoljbanflcgaa.PFnExactCut Go.Proofs.YtlaoljbanflcgaaW.PrintWords Go.Proofs.YtlaoljbanflcgaaW.PrintLast Go.Proofs.Ytlaoljbanflcgaa.Core

/-! ### A byte's first place, and the texts between its places -/
theorem bt_mid {s : ByteArray} {pre t : List UInt8} {b : UInt8} (h : s.toList = pre ++ b :: t) : bt s (pre.length : Int) = (b.toNat : Int) := by
  have hs : s.size = pre.length + (t.length + 1) := by rw [← tl_length, h]; simp
  rw [bt_get s pre.length (by omega)]
  congr 2
  simp [h]
theorem size_mid {s : ByteArray} {pre t : List UInt8} (h : s.toList = pre ++ t) : s.size = pre.length + t.length := by
  rw [← tl_length, h]; simp
theorem u8_eq {b : UInt8} {c : UInt8} : ((b.toNat : Int) = (c.toNat : Int)) ↔ b = c := by
  constructor
  · intro h
    exact UInt8.toNat_inj.1 (by omega)
  · rintro rfl
    rfl
theorem ext_mid {s : ByteArray} {pre p t : List UInt8} (h : s.toList = pre ++ (p ++ t)) : (s.extract pre.length (pre.length + p.length)).toList = p := by
  rw [tl_extract, h, ← List.append_assoc]
  rw [List.take_left' (by simp)]
  simp
theorem ext_end {s : ByteArray} {pre p : List UInt8} (h : s.toList = pre ++ p) : (s.extract pre.length s.size).toList = p := by
  rw [tl_extract, ← tl_length, h]
  rw [List.take_of_length_le (Nat.le_refl _)]
  simp
/-- A byte's first place: there is none, or the text falls in two there. -/
theorem index_span (c : UInt8) : ∀ l : List UInt8, (c ∉ l ∧ Lib.indexByte l c = -1) ∨ ∃ a b, l = a ++ c :: b ∧ c ∉ a ∧ Lib.indexByte l c = (a.length : Int)
  | [] => Or.inl ⟨by simp, rfl⟩
  | x :: l => by
    by_cases h : x = c
    · subst h
      exact Or.inr ⟨[], l, rfl, by simp, by simp [Lib.indexByte]⟩
    · rcases index_span c l with ⟨h1, h2⟩ | ⟨a, b, h1, h2, h3⟩
      · refine Or.inl ⟨?_, ?_⟩
        · simp only [List.mem_cons, not_or]
          exact ⟨fun e => h e.symm, h1⟩
        · simp [Lib.indexByte, h, h2]
      · refine Or.inr ⟨x :: a, b, by simp [h1], ?_, ?_⟩
        · simp only [List.mem_cons, not_or]
          exact ⟨fun e => h e.symm, h2⟩
        · simp only [Lib.indexByte]
          have h' : (x == c) = false := by simpa using h
          simp only [h', h3]
          simp
          try omega

theorem spec_cut_loop (s : ByteArray) (hs : s.size ≤ 1048576) : ∀ (t pre : List UInt8) (k : Nat), s.toList = pre ++ t → t.length < k → ∃ r, spec_Cut.l0 k s (pre.length : Int) = some r ∧ r.toList = pre ++ t.takeWhile (· != 0)
  | [], pre, k, h, hk => by
    obtain ⟨k, rfl⟩ : ∃ m, k = m + 1 := ⟨k - 1, by omega⟩
    have := size_mid h
    simp only [List.length_nil] at this
    unfold spec_Cut.l0
    rw [if_neg (by omega)]
    exact ⟨s, rfl, by simpa using h⟩
  | b :: t, pre, k, h, hk => by
    simp only [List.length_cons] at hk
    obtain ⟨k, rfl⟩ : ∃ m, k = m + 1 := ⟨k - 1, by omega⟩
    have := size_mid h
    simp only [List.length_cons] at this
    unfold spec_Cut.l0
    rw [if_pos (by omega), if_pos (by omega), bt_mid h]
    by_cases hb : b = 0
    · subst hb
      rw [if_pos (show (((0 : UInt8).toNat : Nat) : Int) = 0 from rfl), if_pos (by omega)]
      refine ⟨_, rfl, ?_⟩
      rw [tl_extract, h]
      simp
    · rw [if_neg (fun e : (b.toNat : Int) = 0 => hb (u8_eq.1 (show (b.toNat : Int) = ((0 : UInt8).toNat : Int) from e))), w64 (by omega) (by omega)]
      obtain ⟨r, h1, h2⟩ := spec_cut_loop s hs t (pre ++ [b]) k (by simp [h]) (by omega)
      refine ⟨r, ?_, ?_⟩
      · rw [← h1]
        simp
      · rw [h2, List.takeWhile_cons_of_pos (by simpa using hb)]
        simp
theorem take_none {c : UInt8} : ∀ {l : List UInt8}, c ∉ l → l.takeWhile (· != c) = l
  | [], _ => rfl
  | x :: l, h => by
    simp only [List.mem_cons, not_or] at h
    rw [List.takeWhile_cons_of_pos (by simpa using fun e => h.1 e.symm), take_none h.2]
theorem take_span {c : UInt8} {b : List UInt8} : ∀ {a : List UInt8}, c ∉ a → (a ++ c :: b).takeWhile (· != c) = a
  | [], _ => by simp
  | x :: a, h => by
    simp only [List.mem_cons, not_or] at h
    rw [List.cons_append, List.takeWhile_cons_of_pos (by simpa using fun e => h.1 e.symm), take_span h.2]
theorem spec_cut (s : ByteArray) (hs : s.size ≤ 1048576) (k : Nat) (hk : s.size < k) : ∃ r, spec_Cut.f k s = some r ∧ r.toList = s.toList.takeWhile (· != 0) :=
  spec_cut_loop s hs s.toList [] k rfl (by rw [tl_length]; exact hk)
theorem impl_cut (s : ByteArray) (hs : s.size ≤ 1048576) : ∃ r, impl_Cut.f s = some r ∧ r.toList = s.toList.takeWhile (· != 0) := by
  have e : stringslite_Index.f s (⟨#[0]⟩ : ByteArray) = some (Lib.indexByte s.toList 0) := by
    unfold stringslite_Index.f
    rw [if_pos (show (⟨#[0]⟩ : ByteArray).size = 1 from rfl), tl]
    rfl
  unfold impl_Cut.f strings_Cut.f stringslite_Cut.f
  rw [e]
  simp only [Option.bind_some]
  rcases index_span 0 s.toList with ⟨h1, h2⟩ | ⟨a, b, h1, h2, h3⟩
  · rw [h2, if_neg (by decide)]
    exact ⟨s, rfl, (take_none h1).symm⟩
  · have := size_mid h1
    simp only [List.length_cons] at this
    have e1 : ((⟨#[0]⟩ : ByteArray).size : Int) = 1 := rfl
    rw [h3, e1, w64 (by omega) (by omega), if_pos (by omega), if_pos (by omega), if_pos (by omega), if_pos (by omega), if_pos (by omega)]
    refine ⟨_, rfl, ?_⟩
    rw [tl_extract, h1, take_span h2]
    simp

theorem FnExactCut : laws_FnExactCut.Pure := by
  intro s _
  unfold laws_FnExactCut.f
  by_cases h : (s.size : Int) > 1048576
  · exact ⟨0, by rw [if_pos h]⟩
  · obtain ⟨r1, e1, l1⟩ := spec_cut s (by omega) (s.size + 1) (by omega)
    obtain ⟨r2, e2, l2⟩ := impl_cut s (by omega)
    refine ⟨s.size + 1, ?_⟩
    rw [if_neg h, e1, e2]
    simp only [Option.bind_some]
    rw [l1, l2, if_pos rfl]

end Go.Proofs.Ytlaoljbanflcgaa.Pure
