/-
The pure statement of the law FnExactWords (numbers, byte strings and lists; no Go and no memory): the printed law's function answers true. Conditions: those of the printed statement (each string at most 2^47 - 4096 bytes, each number of its kind).
-/
import Derived.Test.YtlaoljbanflcgaaDoorPFnExactWordsx2
import Derived.Test.YtlaoljbanflcgaaDoorCore
namespace Go.Proofs.YtlaoljbanflcgaaDoor.Pure
open Go.RowKit Go.Proofs.YtlaoljbanflcgaaDoor.PFnExactWords Go.Proofs.YtlaoljbanflcgaaDoorW.PrintWords Go.Proofs.YtlaoljbanflcgaaDoorW.PrintLast Go.Proofs.YtlaoljbanflcgaaDoor.Core

/-! ### A byte's first place, and the texts between its places -/
theorem bt_mid {s : ByteArray} {pre t : List UInt8} {b : UInt8} (h : s.toList = pre ++ b :: t) : bt s (pre.length : Int) = (b.toNat : Int) := by
  have hs : s.size = pre.length + (t.length + 1) := by rw [← tl_length, h]; simp
  rw [bt_get s pre.length (by omega)]
  congr 2
  simp [h]
theorem size_mid {s : ByteArray} {pre t : List UInt8} (h : s.toList = pre ++ t) : s.size = pre.length + t.length := by
  rw [← tl_length, h]; simp
theorem u8_eq {b : UInt8} {c : UInt8} : ((b.toNat : Int) = (c.toNat : Int)) ↔ b = c := by
  constructor
  · intro h
    exact UInt8.toNat_inj.1 (by omega)
  · rintro rfl
    rfl
theorem ext_mid {s : ByteArray} {pre p t : List UInt8} (h : s.toList = pre ++ (p ++ t)) : (s.extract pre.length (pre.length + p.length)).toList = p := by
  rw [tl_extract, h, ← List.append_assoc]
  rw [List.take_left' (by simp)]
  simp
theorem ext_end {s : ByteArray} {pre p : List UInt8} (h : s.toList = pre ++ p) : (s.extract pre.length s.size).toList = p := by
  rw [tl_extract, ← tl_length, h]
  rw [List.take_of_length_le (Nat.le_refl _)]
  simp
/-- A byte's first place: there is none, or the text falls in two there. -/
theorem index_span (c : UInt8) : ∀ l : List UInt8, (c ∉ l ∧ Lib.indexByte l c = -1) ∨ ∃ a b, l = a ++ c :: b ∧ c ∉ a ∧ Lib.indexByte l c = (a.length : Int)
  | [] => Or.inl ⟨by simp, rfl⟩
  | x :: l => by
    by_cases h : x = c
    · subst h
      exact Or.inr ⟨[], l, rfl, by simp, by simp [Lib.indexByte]⟩
    · rcases index_span c l with ⟨h1, h2⟩ | ⟨a, b, h1, h2, h3⟩
      · refine Or.inl ⟨?_, ?_⟩
        · simp only [List.mem_cons, not_or]
          exact ⟨fun e => h e.symm, h1⟩
        · simp [Lib.indexByte, h, h2]
      · refine Or.inr ⟨x :: a, b, by simp [h1], ?_, ?_⟩
        · simp only [List.mem_cons, not_or]
          exact ⟨fun e => h e.symm, h2⟩
        · simp only [Lib.indexByte]
          have h' : (x == c) = false := by simpa using h
          simp only [h', h3]
          simp
          try omega

/-- The texts between the places of a byte. -/
def splitA (c : UInt8) : List UInt8 → List UInt8 → List (List UInt8)
  | p, [] => [p]
  | p, b :: t => if b = c then p :: splitA c [] t else splitA c (p ++ [b]) t
theorem splitA_none (c : UInt8) : ∀ (t p : List UInt8), c ∉ t → splitA c p t = [p ++ t]
  | [], p, _ => by simp [splitA]
  | b :: t, p, h => by
    simp only [List.mem_cons, not_or] at h
    simp only [splitA]
    rw [if_neg (fun e => h.1 e.symm), splitA_none c t _ h.2]
    simp
theorem splitA_span (c : UInt8) (b : List UInt8) : ∀ (a p : List UInt8), c ∉ a → splitA c p (a ++ c :: b) = (p ++ a) :: splitA c [] b
  | [], p, _ => by simp [splitA]
  | x :: a, p, h => by
    simp only [List.mem_cons, not_or] at h
    simp only [List.cons_append, splitA]
    rw [if_neg (fun e => h.1 e.symm), splitA_span c b a _ h.2]
    simp
theorem splitA_length (c : UInt8) : ∀ (t p : List UInt8), (splitA c p t).length = t.count c + 1
  | [], p => by simp [splitA]
  | b :: t, p => by
    simp only [splitA]
    by_cases h : b = c
    · rw [if_pos h, List.length_cons, splitA_length c t, h, List.count_cons_self]
    · rw [if_neg h, splitA_length c t, List.count_cons_of_ne h]
theorem splitA_le (c : UInt8) (t p : List UInt8) : (splitA c p t).length ≤ t.length + 1 := by
  rw [splitA_length]
  have : t.count c ≤ t.length := List.count_le_length
  omega

theorem idx_one (s : ByteArray) (c : UInt8) : strings_Index.f s (⟨#[c]⟩ : ByteArray) = some (Lib.indexByte s.toList c) := by
  unfold strings_Index.f stringslite_Index.f
  rw [if_pos (show (⟨#[c]⟩ : ByteArray).size = 1 from rfl), tl]
  rfl
theorem take_set_map (a : List ByteArray) (i : Nat) (x : ByteArray) (h : i < a.length) : ((a.set i x).take (i + 1)).map ByteArray.toList = (a.take i).map ByteArray.toList ++ [x.toList] := by
  rw [List.take_set, List.take_add_one, List.getElem?_eq_getElem h]
  rw [List.set_append_right _ _ (by simp; omega)]
  simp only [List.length_take, Option.toList_some, List.map_append]
  rw [show i - min i a.length = 0 by omega]
  simp
theorem genSplit_loop (c : UInt8) (n : Int) (hn : n ≤ 1048576) : ∀ (d : Nat) (s : ByteArray) (a : List ByteArray) (i k : Nat), s.toList.count c = d → n = (i : Int) + d → (a.length : Int) = n + 1 → s.size ≤ 1048576 → d < k →
    ∃ r, strings_genSplit.l0 k s (⟨#[c]⟩ : ByteArray) 0 n a (i : Int) = some r ∧ r.map ByteArray.toList = (a.take i).map ByteArray.toList ++ splitA c [] s.toList := by
  intro d
  induction d with
  | zero =>
    intro s a i k hd hi ha hs hk
    obtain ⟨k, rfl⟩ : ∃ m, k = m + 1 := ⟨k - 1, by omega⟩
    unfold strings_genSplit.l0
    rw [if_neg (by omega), if_pos (by omega), if_pos (by omega), w64 (by omega) (by omega), if_pos (by omega), if_pos (by omega)]
    refine ⟨_, rfl, ?_⟩
    rw [splitA_none c _ _ (List.count_eq_zero.1 hd), show ((i : Int) + 1).toNat = i + 1 by omega, Int.toNat_natCast, take_set_map _ _ _ (by omega)]
    simp
  | succ d ih =>
    intro s a i k hd hi ha hs hk
    obtain ⟨k, rfl⟩ : ∃ m, k = m + 1 := ⟨k - 1, by omega⟩
    unfold strings_genSplit.l0
    rw [if_pos (by omega), idx_one]
    simp only [Option.bind_some]
    rcases index_span c s.toList with ⟨h1, h2⟩ | ⟨p, t, h1, h2, h3⟩
    · rw [List.count_eq_zero.2 h1] at hd
      omega
    · have hz := size_mid h1
      simp only [List.length_cons] at hz
      have e1 : ((⟨#[c]⟩ : ByteArray).size : Int) = 1 := rfl
      rw [h3, e1, w64 (n := (p.length : Int) + 0) (by omega) (by omega), w64 (n := (p.length : Int) + 1) (by omega) (by omega), w64 (n := (i : Int) + 1) (by omega) (by omega)]
      rw [if_neg (by omega), if_pos (by omega), if_pos (by omega), if_pos (by omega), if_pos (by omega), if_pos (by omega), if_pos (by omega)]
      have ht : (s.extract ((p.length : Int) + 1).toNat s.size).toList = t := by
        rw [show ((p.length : Int) + 1).toNat = (p ++ [c]).length by simp only [List.length_append, List.length_cons, List.length_nil]; omega]
        exact ext_end (by simp [h1])
      have hp : (s.extract 0 ((p.length : Int) + 0).toNat).toList = p := by
        rw [tl_extract, h1]
        simp
      obtain ⟨r, e, l⟩ := ih (s.extract ((p.length : Int) + 1).toNat s.size) (a.set i (s.extract 0 ((p.length : Int) + 0).toNat)) (i + 1) k (by
        rw [ht]
        rw [h1, List.count_append, List.count_cons_self, List.count_eq_zero.2 h2] at hd
        omega) (by omega) (by simp only [List.length_set]; omega) (by
        rw [ByteArray.size_extract]
        omega) (by omega)
      refine ⟨r, ?_, ?_⟩
      · rw [← e]
        congr 1
      · rw [l, take_set_map _ _ _ (by omega), ht, hp, h1, splitA_span c t p [] h2]
        simp
theorem count_one (c : UInt8) (s : ByteArray) : strings_Count.f s (⟨#[c]⟩ : ByteArray) = some ((s.toList.count c : Nat) : Int) := by
  unfold strings_Count.f
  rw [if_pos (show (⟨#[c]⟩ : ByteArray).size = 1 from rfl), tl]
  rfl
theorem genSplit_j (c : UInt8) (s : ByteArray) (hs : s.size ≤ 1048576) (k n : Nat) (hn : s.toList.count c = n) (hc : n ≤ s.size) (hk : s.size + 2 < k) : ∃ r, strings_genSplit.j0 k s (⟨#[c]⟩ : ByteArray) 0 ((n : Int) + 1) = some r ∧ r.map ByteArray.toList = splitA c [] s.toList := by
  obtain ⟨k, rfl⟩ : ∃ m, k = m + 1 := ⟨k - 1, by omega⟩
  have hm : mn ((n : Int) + 1) (wrap64 ((s.size : Int) + 1)) = (n : Int) + 1 := by
    rw [w64 (by omega) (by omega)]
    unfold mn
    omega
  have hr : (List.replicate ((n : Int) + 1).toNat (⟨#[]⟩ : ByteArray)).length = n + 1 := by
    rw [List.length_replicate]
    omega
  simp only [strings_genSplit.j0, hm]
  generalize List.replicate ((n : Int) + 1).toNat (⟨#[]⟩ : ByteArray) = a at *
  rw [if_pos (by omega), if_pos (by omega), w64 (by omega) (by omega)]
  obtain ⟨r, e1, l⟩ := genSplit_loop c ((n : Int) + 1 - 1) (by omega) n s a 0 k hn (by omega) (by omega) hs (by omega)
  refine ⟨r, ?_, by simpa using l⟩
  simpa using e1
theorem split_one (c : UInt8) (s : ByteArray) (hs : s.size ≤ 1048576) (k : Nat) (hk : s.size + 2 < k) : ∃ r, strings_Split.f k s (⟨#[c]⟩ : ByteArray) = some r ∧ r.map ByteArray.toList = splitA c [] s.toList := by
  have hc : s.toList.count c ≤ s.size := by rw [← tl_length]; exact List.count_le_length
  obtain ⟨r, e, l⟩ := genSplit_j c s hs k _ rfl hc hk
  refine ⟨r, ?_, l⟩
  have hne : ¬ (⟨#[c]⟩ : ByteArray).toList = [] := by
    rw [tl]
    exact List.cons_ne_nil _ _
  unfold strings_Split.f strings_genSplit.f
  rw [if_neg (show ¬ (-1 : Int) = 0 by decide), if_neg hne, if_pos (show (-1 : Int) < 0 by decide), count_one]
  simp only [Option.bind_some]
  rw [w64 (by omega) (by omega), e]
  simp only [Option.bind_some]

theorem spec_words_loop (s : ByteArray) (hs : s.size ≤ 1048576) : ∀ (t pre p : List UInt8) (out : List ByteArray) (k : Nat), s.toList = pre ++ (p ++ t) → out.length ≤ pre.length → t.length < k →
    ∃ r, spec_Words.l0 k s out (pre.length : Int) ((pre.length + p.length : Nat) : Int) = some r ∧ r.map ByteArray.toList = out.map ByteArray.toList ++ splitA 32 p t
  | [], pre, p, out, k, h, ho, hk => by
    obtain ⟨k, rfl⟩ : ∃ m, k = m + 1 := ⟨k - 1, by omega⟩
    have hz := size_mid h
    simp only [List.length_append, List.length_nil] at hz
    unfold spec_Words.l0
    rw [if_neg (by omega), if_pos (by omega), if_pos (by omega), if_pos (by omega)]
    refine ⟨_, rfl, ?_⟩
    rw [Int.toNat_natCast, List.map_append, List.map_cons, List.map_nil, ext_end (p := p) (by simpa using h)]
    rfl
  | b :: t, pre, p, out, k, h, ho, hk => by
    simp only [List.length_cons] at hk
    obtain ⟨k, rfl⟩ : ∃ m, k = m + 1 := ⟨k - 1, by omega⟩
    have hz := size_mid h
    simp only [List.length_append, List.length_cons] at hz
    have hb : bt s ((pre.length + p.length : Nat) : Int) = (b.toNat : Int) := by
      have := bt_mid (s := s) (pre := pre ++ p) (b := b) (t := t) (by simp [h])
      simpa using this
    unfold spec_Words.l0
    rw [if_pos (by omega), if_pos (by omega), hb, w64 (by omega) (by omega)]
    by_cases hc : b = 32
    · subst hc
      rw [if_pos (show (((32 : UInt8).toNat : Nat) : Int) = 32 from rfl), if_pos (by omega), if_pos (by omega), if_pos (by omega), if_pos (by omega)]
      obtain ⟨r, e, l⟩ := spec_words_loop s hs t (pre ++ p ++ [32]) [] (out ++ [s.extract ((pre.length : Nat) : Int).toNat ((pre.length + p.length : Nat) : Int).toNat]) k (by simp [h]) (by simp; omega) (by omega)
      have a1 : (((pre ++ p ++ [32]).length : Nat) : Int) = ((pre.length + p.length : Nat) : Int) + 1 := by
        simp only [List.length_append, List.length_cons, List.length_nil]
        omega
      have a2 : (((pre ++ p ++ [32]).length + ([] : List UInt8).length : Nat) : Int) = ((pre.length + p.length : Nat) : Int) + 1 := by
        simp only [List.length_append, List.length_cons, List.length_nil]
        omega
      rw [a1, a2] at e
      refine ⟨r, e, ?_⟩
      · rw [l]
        simp only [Int.toNat_natCast, List.map_append, List.map_cons, List.map_nil, splitA]
        rw [ext_mid h]
        simp
    · rw [if_neg (fun e : (b.toNat : Int) = 32 => hc (u8_eq.1 (show (b.toNat : Int) = ((32 : UInt8).toNat : Int) from e)))]
      obtain ⟨r, e, l⟩ := spec_words_loop s hs t pre (p ++ [b]) out k (by simp [h]) ho (by omega)
      refine ⟨r, ?_, ?_⟩
      · rw [← e]
        congr 1
        simp
        omega
      · rw [l]
        simp only [splitA]
        rw [if_neg hc]
theorem spec_words (s : ByteArray) (hs : s.size ≤ 1048576) (k : Nat) (hk : s.size < k) : ∃ r, spec_Words.f k s = some r ∧ r.map ByteArray.toList = splitA 32 [] s.toList := by
  obtain ⟨r, e, l⟩ := spec_words_loop s hs s.toList [] [] [] k rfl (by simp) (by rw [tl_length]; exact hk)
  exact ⟨r, e, by simpa using l⟩
theorem impl_words (s : ByteArray) (hs : s.size ≤ 1048576) (k : Nat) (hk : s.size + 2 < k) : ∃ r, impl_Words.f k s = some r ∧ r.map ByteArray.toList = splitA 32 [] s.toList := by
  obtain ⟨r, e, l⟩ := split_one 32 s hs k hk
  unfold impl_Words.f
  rw [e]
  exact ⟨r, rfl, l⟩

/-! ### Marks: a result of a list of texts is written over and read back -/
theorem mark_text_loop : ∀ (j : Nat) (k : Nat) (m : Int) (x : ByteArray), j ≤ 18 → 0 ≤ m → m < 10 ^ j → j < k → x.size + j ≤ 1000 → ∃ r, laws_markText.l0 k m x = some r
  | 0, k, m, x, hj, h0, h1, hk, hx => by
    obtain ⟨k, rfl⟩ : ∃ n, k = n + 1 := ⟨k - 1, by omega⟩
    unfold laws_markText.l0
    rw [if_neg (by omega), if_pos (by omega)]
    exact ⟨_, rfl⟩
  | j + 1, k, m, x, hj, h0, h1, hk, hx => by
    obtain ⟨k, rfl⟩ : ∃ n, k = n + 1 := ⟨k - 1, by omega⟩
    unfold laws_markText.l0
    by_cases hm : m > 0
    · rw [if_pos hm]
      simp only [Option.bind_some]
      have e1 : ∀ z : Int, (strOfNums [z]).size = 1 := fun z => by rw [strOfNums_size]; rfl
      rw [if_pos (by rw [e1]; omega)]
      have hd : Int.tdiv m 10 = m / 10 := Int.tdiv_eq_ediv_of_nonneg h0
      have hp : (10 : Int) ^ (j + 1) ≤ 1000000000000000000 := by
        have : (10 : Nat) ^ (j + 1) ≤ 10 ^ 18 := Nat.pow_le_pow_right (by decide) (by omega)
        have h2 : ((10 : Int) ^ (j + 1)) = ((10 ^ (j + 1) : Nat) : Int) := by simp
        omega
      rw [hd, w64 (by omega) (by omega)]
      rw [Int.pow_succ] at h1
      exact mark_text_loop j k _ _ (by omega) (by omega) (by omega) (by omega) (by rw [ByteArray.size_append, e1]; omega)
    · rw [if_neg hm, if_pos (by omega)]
      exact ⟨_, rfl⟩
theorem mark_text (k : Nat) (m : Int) (hk : 18 < k) (h1 : m < 1000000000000000000) : ∃ r, laws_markText.f k m = some r := by
  unfold laws_markText.f
  by_cases h : m ≤ 0
  · rw [if_pos h]
    exact ⟨_, rfl⟩
  · rw [if_neg h]
    exact mark_text_loop 18 k m _ (by decide) (by omega) (by omega) hk (by decide)
/-- The marks of a list's places, at the rounds that the loop has left there. -/
def marks : Nat → Int → Nat → List ByteArray
  | _, _, 0 => []
  | k, m, n + 1 => ((laws_markText.f k m).getD ByteArray.empty) :: marks (k - 1) (m + 1) n
theorem marks_length : ∀ (n k : Nat) (m : Int), (marks k m n).length = n
  | 0, _, _ => rfl
  | n + 1, k, m => by simp [marks, marks_length n]
theorem mark_loop : ∀ (t pre : List ByteArray) (k : Nat) (m : Int), 0 ≤ m → m + t.length < 1000000000000000000 → pre.length + t.length < 1000000000000000000 → t.length + 30 < k →
    laws_markStringS.l0 k (pre ++ t) m (pre.length : Int) = some (m + (t.length : Int), pre ++ marks (k - 1) m t.length)
  | [], pre, k, m, h0, h1, h2, hk => by
    obtain ⟨k, rfl⟩ : ∃ n, k = n + 1 := ⟨k - 1, by omega⟩
    unfold laws_markStringS.l0
    rw [if_neg (by simp)]
    simp [marks]
  | x :: t, pre, k, m, h0, h1, h2, hk => by
    simp only [List.length_cons] at h1 h2 hk
    obtain ⟨k, rfl⟩ : ∃ n, k = n + 1 := ⟨k - 1, by omega⟩
    unfold laws_markStringS.l0
    obtain ⟨r, hr⟩ := mark_text k m (by omega) (by omega)
    rw [if_pos (by simp; omega), hr]
    simp only [Option.bind_some]
    rw [if_pos (by omega), w64 (by omega) (by omega), w64 (by omega) (by omega)]
    have := mark_loop t (pre ++ [r]) k (m + 1) (by omega) (by omega) (by simp only [List.length_append, List.length_cons, List.length_nil]; omega) (by omega)
    simp only [List.length_append, List.length_cons, List.length_nil, List.append_assoc, List.singleton_append] at this
    have es : (pre ++ x :: t).set ((pre.length : Int)).toNat r = pre ++ r :: t := by
      rw [Int.toNat_natCast, List.set_append_right _ _ (Nat.le_refl _)]
      simp
    rw [es, show ((pre.length : Int) + 1) = ((pre.length + (0 + 1) : Nat) : Int) by omega, this]
    simp only [List.length_cons, marks]
    simp only [Nat.add_sub_cancel]
    rw [hr]
    simp only [Option.getD_some]
    rw [show m + 1 + (t.length : Int) = m + ((t.length + 1 : Nat) : Int) by omega]
theorem held_loop : ∀ (n : Nat) (pre : List ByteArray) (k : Nat) (m : Int), 0 ≤ m → m + n < 1000000000000000000 → pre.length + n < 1000000000000000000 → n + 30 < k →
    laws_heldStringS.l0 k (pre ++ marks (k - 1) m n) m (pre.length : Int) = some (m + (n : Int))
  | 0, pre, k, m, h0, h1, h2, hk => by
    obtain ⟨k, rfl⟩ : ∃ n, k = n + 1 := ⟨k - 1, by omega⟩
    unfold laws_heldStringS.l0
    rw [if_neg (by simp [marks])]
    simp
  | n + 1, pre, k, m, h0, h1, h2, hk => by
    obtain ⟨k, rfl⟩ : ∃ n, k = n + 1 := ⟨k - 1, by omega⟩
    unfold laws_heldStringS.l0
    obtain ⟨r, hr⟩ := mark_text k m (by omega) (by omega)
    simp only [Nat.add_sub_cancel, marks]
    rw [if_pos (by simp; omega), if_pos (by omega), hr]
    simp only [Option.bind_some, Option.getD_some]
    have er : rdOf ByteArray.empty (pre ++ r :: marks (k - 1) (m + 1) n) (pre.length : Int) = r := by
      unfold rdOf
      rw [Int.toNat_natCast, List.getD_eq_getElem?_getD, List.getElem?_append_right (Nat.le_refl _)]
      simp
    rw [er, if_pos rfl, w64 (by omega) (by omega), w64 (by omega) (by omega)]
    have := held_loop n (pre ++ [r]) k (m + 1) (by omega) (by omega) (by simp only [List.length_append, List.length_cons, List.length_nil]; omega) (by omega)
    simp only [List.length_append, List.length_cons, List.length_nil, List.append_assoc, List.singleton_append] at this
    rw [show ((pre.length : Int) + 1) = ((pre.length + (0 + 1) : Nat) : Int) by omega, this]
    congr 1
    omega
theorem mark_ok (k : Nat) (l : List ByteArray) (hl : l.length ≤ 1000000000000) (hk : l.length + 30 < k) : laws_markStringS.f k l 1 = some (1 + (l.length : Int), marks (k - 1) 1 l.length) := by
  unfold laws_markStringS.f
  have := mark_loop l [] k 1 (by decide) (by omega) (by simp; omega) hk
  simpa using this
theorem held_ok (k n : Nat) (hl : n ≤ 1000000000000) (hk : n + 30 < k) : laws_heldStringS.f k (marks (k - 1) 1 n) 1 = some (1 + (n : Int)) := by
  unfold laws_heldStringS.f
  have := held_loop n [] k 1 (by decide) (by omega) (by simp; omega) hk
  simpa using this

theorem eq_loop (l l' : List ByteArray) (h : l.map ByteArray.toList = l'.map ByteArray.toList) (hl : l.length ≤ 1000000000000) : ∀ (d i k : Nat), i + d = l.length → d < k → laws_eqStringS.l0 k l l' (i : Int) = some true := by
  have hlen : l.length = l'.length := by simpa using congrArg List.length h
  intro d
  induction d with
  | zero =>
    intro i k hi hk
    obtain ⟨k, rfl⟩ : ∃ m, k = m + 1 := ⟨k - 1, by omega⟩
    unfold laws_eqStringS.l0
    rw [if_neg (by omega)]
  | succ d ih =>
    intro i k hi hk
    obtain ⟨k, rfl⟩ : ∃ m, k = m + 1 := ⟨k - 1, by omega⟩
    unfold laws_eqStringS.l0
    have hg : (rdOf ByteArray.empty l (i : Int)).toList = (rdOf ByteArray.empty l' (i : Int)).toList := by
      unfold rdOf
      have := congrArg (fun z => z[i]?) h
      simp only [List.getElem?_map] at this
      rw [Int.toNat_natCast, List.getD_eq_getElem?_getD, List.getD_eq_getElem?_getD]
      rw [List.getElem?_eq_getElem (by omega), List.getElem?_eq_getElem (by omega)] at this ⊢
      simpa using this
    rw [if_pos (by omega), if_pos (by omega), if_pos (by omega), if_pos hg, w64 (by omega) (by omega)]
    exact ih (i + 1) k (by omega) (by omega)
theorem eq_ok (l l' : List ByteArray) (h : l.map ByteArray.toList = l'.map ByteArray.toList) (hl : l.length ≤ 1000000000000) (k : Nat) (hk : l.length < k) : laws_eqStringS.f k l l' = some true := by
  have hlen : l.length = l'.length := by simpa using congrArg List.length h
  unfold laws_eqStringS.f
  rw [if_pos (by omega)]
  exact eq_loop l l' h hl l.length 0 k (by omega) hk

theorem FnExactWords : laws_FnExactWords.Pure := by
  intro s _
  unfold laws_FnExactWords.f
  by_cases h : (s.size : Int) > 1048576
  · exact ⟨0, by rw [if_pos h]⟩
  · obtain ⟨r1, e1, l1⟩ := spec_words s (by omega) (s.size + 100) (by omega)
    obtain ⟨r2, e2, l2⟩ := impl_words s (by omega) (s.size + 100) (by omega)
    have hn : r2.length ≤ s.size + 1 := by
      have := congrArg List.length l2
      have h3 := splitA_le 32 s.toList []
      rw [tl_length] at h3
      rw [List.length_map] at this
      omega
    refine ⟨s.size + 100, ?_⟩
    rw [if_neg h, e1, e2]
    simp only [Option.bind_some]
    rw [eq_ok r2 r1 (by rw [l1, l2]) (by omega) _ (by omega), mark_ok _ r2 (by omega) (by omega)]
    simp only [Option.bind_some]
    rw [held_ok _ _ (by omega) (by omega)]
    simp only [Option.bind_some, if_true]
    have hq : ¬ 1 + (r2.length : Int) < 0 := by omega
    simp [hq]

end Go.Proofs.YtlaoljbanflcgaaDoor.Pure
