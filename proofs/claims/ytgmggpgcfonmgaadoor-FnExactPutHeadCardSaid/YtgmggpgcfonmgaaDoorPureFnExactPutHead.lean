/-
The pure statement of the law FnExactPutHead (numbers, byte strings and lists; no Go and no memory): the printed law's function answers true. Conditions: those of the printed statement (each string at most 2^47 - 4096 bytes, each number of its kind).
-/
import Derived.Test.YtgmggpgcfonmgaaDoorPFnExactPutHeadx12
import Derived.Test.YtgmggpgcfonmgaaDoorCore
namespace Go.Proofs.YtgmggpgcfonmgaaDoor.Pure
open Go.RowKit Go.Proofs.YtgmggpgcfonmgaaDoor.PFnExactPutHead Go.Proofs.YtgmggpgcfonmgaaDoorW.PrintWords Go.Proofs.YtgmggpgcfonmgaaDoorW.PrintLast Go.Proofs.YtgmggpgcfonmgaaDoor.Core
set_option linter.unusedVariables false
set_option linter.unusedSimpArgs false

theorem sz_plain (a0 : Int) (a1 a2 : ByteArray) (a3 a4 a5 a6 : Int) (a7 a8 a9 : ByteArray) (h : a1.size ≤ 9223372036854775807 ∧ a2.size ≤ 9223372036854775807 ∧ a7.size ≤ 9223372036854775807 ∧ a8.size ≤ 9223372036854775807 ∧ a9.size ≤ 9223372036854775807) (left : Int) (h0 : 0 ≤ left) (h1 : left ≤ 1048576) : ∃ r, laws_szEntry.f a0 a1 a2 a3 a4 a5 a6 a7 a8 a9 left = some r ∧ (r < 0 ∨ (0 ≤ r ∧ ((a1.size + a2.size + a7.size + a8.size + a9.size : Nat) : Int) = left - r)) := by
  obtain ⟨b1, b2, b7, b8, b9⟩ := h
  unfold laws_szEntry.f
  rw [w64 (n := left - (a1.size : Int)) (by omega) (by omega)]
  by_cases c1 : left - (a1.size : Int) < 0
  · rw [if_pos c1]; exact ⟨_, rfl, .inl (by omega)⟩
  rw [if_neg c1, w64 (n := left - (a1.size : Int) - (a2.size : Int)) (by omega) (by omega)]
  by_cases c2 : left - (a1.size : Int) - (a2.size : Int) < 0
  · rw [if_pos c2]; exact ⟨_, rfl, .inl (by omega)⟩
  rw [if_neg c2, w64 (n := left - (a1.size : Int) - (a2.size : Int) - (a7.size : Int)) (by omega) (by omega)]
  by_cases c3 : left - (a1.size : Int) - (a2.size : Int) - (a7.size : Int) < 0
  · rw [if_pos c3]; exact ⟨_, rfl, .inl (by omega)⟩
  rw [if_neg c3, w64 (n := left - (a1.size : Int) - (a2.size : Int) - (a7.size : Int) - (a8.size : Int)) (by omega) (by omega)]
  by_cases c4 : left - (a1.size : Int) - (a2.size : Int) - (a7.size : Int) - (a8.size : Int) < 0
  · rw [if_pos c4]; exact ⟨_, rfl, .inl (by omega)⟩
  rw [if_neg c4, w64 (n := left - (a1.size : Int) - (a2.size : Int) - (a7.size : Int) - (a8.size : Int) - (a9.size : Int)) (by omega) (by omega)]
  by_cases c5 : left - (a1.size : Int) - (a2.size : Int) - (a7.size : Int) - (a8.size : Int) - (a9.size : Int) < 0
  · rw [if_pos c5]; exact ⟨_, rfl, .inl (by omega)⟩
  rw [if_neg c5]
  exact ⟨_, rfl, .inr ⟨by omega, by omega⟩⟩

/-! ### A byte's first place, and the texts between its places -/
theorem bt_mid {s : ByteArray} {pre t : List UInt8} {b : UInt8} (h : s.toList = pre ++ b :: t) : bt s (pre.length : Int) = (b.toNat : Int) := by
  have hs : s.size = pre.length + (t.length + 1) := by rw [← tl_length, h]; simp
  rw [bt_get s pre.length (by omega)]
  congr 2
  simp [h]
theorem size_mid {s : ByteArray} {pre t : List UInt8} (h : s.toList = pre ++ t) : s.size = pre.length + t.length := by
  rw [← tl_length, h]; simp
theorem u8_eq {b : UInt8} {c : UInt8} : ((b.toNat : Int) = (c.toNat : Int)) ↔ b = c := by
  constructor
  · intro h
    exact UInt8.toNat_inj.1 (by omega)
  · rintro rfl
    rfl
theorem ext_mid {s : ByteArray} {pre p t : List UInt8} (h : s.toList = pre ++ (p ++ t)) : (s.extract pre.length (pre.length + p.length)).toList = p := by
  rw [tl_extract, h, ← List.append_assoc]
  rw [List.take_left' (by simp)]
  simp
theorem ext_end {s : ByteArray} {pre p : List UInt8} (h : s.toList = pre ++ p) : (s.extract pre.length s.size).toList = p := by
  rw [tl_extract, ← tl_length, h]
  rw [List.take_of_length_le (Nat.le_refl _)]
  simp
/-- A byte's first place: there is none, or the text falls in two there. -/
theorem index_span (c : UInt8) : ∀ l : List UInt8, (c ∉ l ∧ Lib.indexByte l c = -1) ∨ ∃ a b, l = a ++ c :: b ∧ c ∉ a ∧ Lib.indexByte l c = (a.length : Int)
  | [] => Or.inl ⟨by simp, rfl⟩
  | x :: l => by
    by_cases h : x = c
    · subst h
      exact Or.inr ⟨[], l, rfl, by simp, by simp [Lib.indexByte]⟩
    · rcases index_span c l with ⟨h1, h2⟩ | ⟨a, b, h1, h2, h3⟩
      · refine Or.inl ⟨?_, ?_⟩
        · simp only [List.mem_cons, not_or]
          exact ⟨fun e => h e.symm, h1⟩
        · simp [Lib.indexByte, h, h2]
      · refine Or.inr ⟨x :: a, b, by simp [h1], ?_, ?_⟩
        · simp only [List.mem_cons, not_or]
          exact ⟨fun e => h e.symm, h2⟩
        · simp only [Lib.indexByte]
          have h' : (x == c) = false := by simpa using h
          simp only [h', h3]
          simp
          try omega

/-- The texts between the places of a byte. -/
def splitA (c : UInt8) : List UInt8 → List UInt8 → List (List UInt8)
  | p, [] => [p]
  | p, b :: t => if b = c then p :: splitA c [] t else splitA c (p ++ [b]) t
theorem splitA_none (c : UInt8) : ∀ (t p : List UInt8), c ∉ t → splitA c p t = [p ++ t]
  | [], p, _ => by simp [splitA]
  | b :: t, p, h => by
    simp only [List.mem_cons, not_or] at h
    simp only [splitA]
    rw [if_neg (fun e => h.1 e.symm), splitA_none c t _ h.2]
    simp
theorem splitA_span (c : UInt8) (b : List UInt8) : ∀ (a p : List UInt8), c ∉ a → splitA c p (a ++ c :: b) = (p ++ a) :: splitA c [] b
  | [], p, _ => by simp [splitA]
  | x :: a, p, h => by
    simp only [List.mem_cons, not_or] at h
    simp only [List.cons_append, splitA]
    rw [if_neg (fun e => h.1 e.symm), splitA_span c b a _ h.2]
    simp
theorem splitA_length (c : UInt8) : ∀ (t p : List UInt8), (splitA c p t).length = t.count c + 1
  | [], p => by simp [splitA]
  | b :: t, p => by
    simp only [splitA]
    by_cases h : b = c
    · rw [if_pos h, List.length_cons, splitA_length c t, h, List.count_cons_self]
    · rw [if_neg h, splitA_length c t, List.count_cons_of_ne h]
theorem splitA_le (c : UInt8) (t p : List UInt8) : (splitA c p t).length ≤ t.length + 1 := by
  rw [splitA_length]
  have : t.count c ≤ t.length := List.count_le_length
  omega
theorem splitA_mem (c : UInt8) : ∀ (t p x : List UInt8), x ∈ splitA c p t → x.length ≤ p.length + t.length
  | [], p, x, h => by
    simp only [splitA, List.mem_singleton] at h
    subst h
    simp
  | b :: t, p, x, h => by
    simp only [splitA] at h
    by_cases hb : b = c
    · rw [if_pos hb] at h
      rcases List.mem_cons.1 h with h | h
      · subst h
        omega
      · have := splitA_mem c t [] x h
        simp only [List.length_nil, List.length_cons] at *
        omega
    · rw [if_neg hb] at h
      have := splitA_mem c t _ x h
      simp only [List.length_append, List.length_cons, List.length_nil] at *
      omega
def sumLen : List (List UInt8) → Nat
  | [] => 0
  | x :: l => x.length + sumLen l
theorem splitA_sum (c : UInt8) : ∀ (t p : List UInt8), sumLen (splitA c p t) + (splitA c p t).length = p.length + t.length + 1
  | [], p => by simp [splitA, sumLen]
  | b :: t, p => by
    simp only [splitA]
    by_cases h : b = c
    · rw [if_pos h]
      have := splitA_sum c t []
      simp only [sumLen, List.length_cons, List.length_nil] at *
      omega
    · rw [if_neg h]
      have := splitA_sum c t (p ++ [b])
      simp only [List.length_append, List.length_cons, List.length_nil] at *
      omega

theorem idx_one (s : ByteArray) (c : UInt8) : strings_Index.f s (⟨#[c]⟩ : ByteArray) = some (Lib.indexByte s.toList c) := by
  unfold strings_Index.f stringslite_Index.f
  rw [if_pos (show (⟨#[c]⟩ : ByteArray).size = 1 from rfl), tl]
  rfl
theorem take_set_map (a : List ByteArray) (i : Nat) (x : ByteArray) (h : i < a.length) : ((a.set i x).take (i + 1)).map ByteArray.toList = (a.take i).map ByteArray.toList ++ [x.toList] := by
  rw [List.take_set, List.take_add_one, List.getElem?_eq_getElem h]
  rw [List.set_append_right _ _ (by simp; omega)]
  simp only [List.length_take, Option.toList_some, List.map_append]
  rw [show i - min i a.length = 0 by omega]
  simp
theorem genSplit_loop (c : UInt8) (n : Int) (hn : n ≤ 4194304) : ∀ (d : Nat) (s : ByteArray) (a : List ByteArray) (i k : Nat), s.toList.count c = d → n = (i : Int) + d → (a.length : Int) = n + 1 → s.size ≤ 4194304 → d < k →
    ∃ r, strings_genSplit.l0 k s (⟨#[c]⟩ : ByteArray) 0 n a (i : Int) = some r ∧ r.map ByteArray.toList = (a.take i).map ByteArray.toList ++ splitA c [] s.toList := by
  intro d
  induction d with
  | zero =>
    intro s a i k hd hi ha hs hk
    obtain ⟨k, rfl⟩ : ∃ m, k = m + 1 := ⟨k - 1, by omega⟩
    unfold strings_genSplit.l0
    rw [if_neg (by omega), if_pos (by omega), if_pos (by omega), w64 (by omega) (by omega), if_pos (by omega), if_pos (by omega)]
    refine ⟨_, rfl, ?_⟩
    rw [splitA_none c _ _ (List.count_eq_zero.1 hd), show ((i : Int) + 1).toNat = i + 1 by omega, Int.toNat_natCast, take_set_map _ _ _ (by omega)]
    simp
  | succ d ih =>
    intro s a i k hd hi ha hs hk
    obtain ⟨k, rfl⟩ : ∃ m, k = m + 1 := ⟨k - 1, by omega⟩
    unfold strings_genSplit.l0
    rw [if_pos (by omega), idx_one]
    simp only [Option.bind_some]
    rcases index_span c s.toList with ⟨h1, h2⟩ | ⟨p, t, h1, h2, h3⟩
    · rw [List.count_eq_zero.2 h1] at hd
      omega
    · have hz := size_mid h1
      simp only [List.length_cons] at hz
      have e1 : ((⟨#[c]⟩ : ByteArray).size : Int) = 1 := rfl
      rw [h3, e1, w64 (n := (p.length : Int) + 0) (by omega) (by omega), w64 (n := (p.length : Int) + 1) (by omega) (by omega), w64 (n := (i : Int) + 1) (by omega) (by omega)]
      rw [if_neg (by omega), if_pos (by omega), if_pos (by omega), if_pos (by omega), if_pos (by omega), if_pos (by omega), if_pos (by omega)]
      have ht : (s.extract ((p.length : Int) + 1).toNat s.size).toList = t := by
        rw [show ((p.length : Int) + 1).toNat = (p ++ [c]).length by simp only [List.length_append, List.length_cons, List.length_nil]; omega]
        exact ext_end (by simp [h1])
      have hp : (s.extract 0 ((p.length : Int) + 0).toNat).toList = p := by
        rw [tl_extract, h1]
        simp
      obtain ⟨r, e, l⟩ := ih (s.extract ((p.length : Int) + 1).toNat s.size) (a.set i (s.extract 0 ((p.length : Int) + 0).toNat)) (i + 1) k (by
        rw [ht]
        rw [h1, List.count_append, List.count_cons_self, List.count_eq_zero.2 h2] at hd
        omega) (by omega) (by simp only [List.length_set]; omega) (by
        rw [ByteArray.size_extract]
        omega) (by omega)
      refine ⟨r, ?_, ?_⟩
      · rw [← e]
        congr 1
      · rw [l, take_set_map _ _ _ (by omega), ht, hp, h1, splitA_span c t p [] h2]
        simp
theorem count_one (c : UInt8) (s : ByteArray) : strings_Count.f s (⟨#[c]⟩ : ByteArray) = some ((s.toList.count c : Nat) : Int) := by
  unfold strings_Count.f
  rw [if_pos (show (⟨#[c]⟩ : ByteArray).size = 1 from rfl), tl]
  rfl
theorem genSplit_j (c : UInt8) (s : ByteArray) (hs : s.size ≤ 4194304) (k n : Nat) (hn : s.toList.count c = n) (hc : n ≤ s.size) (hk : s.size + 2 < k) : ∃ r, strings_genSplit.j0 k s (⟨#[c]⟩ : ByteArray) 0 ((n : Int) + 1) = some r ∧ r.map ByteArray.toList = splitA c [] s.toList := by
  obtain ⟨k, rfl⟩ : ∃ m, k = m + 1 := ⟨k - 1, by omega⟩
  have hm : mn ((n : Int) + 1) (wrap64 ((s.size : Int) + 1)) = (n : Int) + 1 := by
    rw [w64 (by omega) (by omega)]
    unfold mn
    omega
  have hr : (List.replicate ((n : Int) + 1).toNat (⟨#[]⟩ : ByteArray)).length = n + 1 := by
    rw [List.length_replicate]
    omega
  simp only [strings_genSplit.j0, hm]
  generalize List.replicate ((n : Int) + 1).toNat (⟨#[]⟩ : ByteArray) = a at *
  rw [if_pos (by omega), if_pos (by omega), w64 (by omega) (by omega)]
  obtain ⟨r, e1, l⟩ := genSplit_loop c ((n : Int) + 1 - 1) (by omega) n s a 0 k hn (by omega) (by omega) hs (by omega)
  refine ⟨r, ?_, by simpa using l⟩
  simpa using e1
theorem split_one (c : UInt8) (s : ByteArray) (hs : s.size ≤ 4194304) (k : Nat) (hk : s.size + 2 < k) : ∃ r, strings_Split.f k s (⟨#[c]⟩ : ByteArray) = some r ∧ r.map ByteArray.toList = splitA c [] s.toList := by
  have hc : s.toList.count c ≤ s.size := by rw [← tl_length]; exact List.count_le_length
  obtain ⟨r, e, l⟩ := genSplit_j c s hs k _ rfl hc hk
  refine ⟨r, ?_, l⟩
  have hne : ¬ (⟨#[c]⟩ : ByteArray).toList = [] := by
    rw [tl]
    exact List.cons_ne_nil _ _
  unfold strings_Split.f strings_genSplit.f
  rw [if_neg (show ¬ (-1 : Int) = 0 by decide), if_neg hne, if_pos (show (-1 : Int) < 0 by decide), count_one]
  simp only [Option.bind_some]
  rw [w64 (by omega) (by omega), e]
  simp only [Option.bind_some]

theorem spec_parts_loop (s : ByteArray) (hs : s.size ≤ 4194304) : ∀ (t pre p : List UInt8) (out : List ByteArray) (k : Nat), s.toList = pre ++ (p ++ t) → out.length ≤ pre.length → t.length < k →
    ∃ r, spec_Parts.l0 k s out (pre.length : Int) ((pre.length + p.length : Nat) : Int) = some r ∧ r.map ByteArray.toList = out.map ByteArray.toList ++ splitA 47 p t
  | [], pre, p, out, k, h, ho, hk => by
    obtain ⟨k, rfl⟩ : ∃ m, k = m + 1 := ⟨k - 1, by omega⟩
    have hz := size_mid h
    simp only [List.length_append, List.length_nil] at hz
    unfold spec_Parts.l0
    rw [if_neg (by omega), if_pos (by omega), if_pos (by omega), if_pos (by omega)]
    refine ⟨_, rfl, ?_⟩
    rw [Int.toNat_natCast, List.map_append, List.map_cons, List.map_nil, ext_end (p := p) (by simpa using h)]
    rfl
  | b :: t, pre, p, out, k, h, ho, hk => by
    simp only [List.length_cons] at hk
    obtain ⟨k, rfl⟩ : ∃ m, k = m + 1 := ⟨k - 1, by omega⟩
    have hz := size_mid h
    simp only [List.length_append, List.length_cons] at hz
    have hb : bt s ((pre.length + p.length : Nat) : Int) = (b.toNat : Int) := by
      have := bt_mid (s := s) (pre := pre ++ p) (b := b) (t := t) (by simp [h])
      simpa using this
    unfold spec_Parts.l0
    rw [if_pos (by omega), if_pos (by omega), hb, w64 (by omega) (by omega)]
    by_cases hc : b = 47
    · subst hc
      rw [if_pos (show (((47 : UInt8).toNat : Nat) : Int) = 47 from rfl), if_pos (by omega), if_pos (by omega), if_pos (by omega), if_pos (by omega)]
      obtain ⟨r, e, l⟩ := spec_parts_loop s hs t (pre ++ p ++ [47]) [] (out ++ [s.extract ((pre.length : Nat) : Int).toNat ((pre.length + p.length : Nat) : Int).toNat]) k (by simp [h]) (by simp; omega) (by omega)
      have a1 : (((pre ++ p ++ [47]).length : Nat) : Int) = ((pre.length + p.length : Nat) : Int) + 1 := by
        simp only [List.length_append, List.length_cons, List.length_nil]
        omega
      have a2 : (((pre ++ p ++ [47]).length + ([] : List UInt8).length : Nat) : Int) = ((pre.length + p.length : Nat) : Int) + 1 := by
        simp only [List.length_append, List.length_cons, List.length_nil]
        omega
      rw [a1, a2] at e
      refine ⟨r, e, ?_⟩
      · rw [l]
        simp only [Int.toNat_natCast, List.map_append, List.map_cons, List.map_nil, splitA]
        rw [ext_mid h]
        simp
    · rw [if_neg (fun e : (b.toNat : Int) = 47 => hc (u8_eq.1 (show (b.toNat : Int) = ((47 : UInt8).toNat : Int) from e)))]
      obtain ⟨r, e, l⟩ := spec_parts_loop s hs t pre (p ++ [b]) out k (by simp [h]) ho (by omega)
      refine ⟨r, ?_, ?_⟩
      · rw [← e]
        congr 1
        simp
        omega
      · rw [l]
        simp only [splitA]
        rw [if_neg hc]
theorem spec_parts (s : ByteArray) (hs : s.size ≤ 4194304) (k : Nat) (hk : s.size < k) : ∃ r, spec_Parts.f k s = some r ∧ r.map ByteArray.toList = splitA 47 [] s.toList := by
  obtain ⟨r, e, l⟩ := spec_parts_loop s hs s.toList [] [] [] k rfl (by simp) (by rw [tl_length]; exact hk)
  exact ⟨r, e, by simpa using l⟩
theorem impl_parts (s : ByteArray) (hs : s.size ≤ 4194304) (k : Nat) (hk : s.size + 2 < k) : ∃ r, impl_Parts.f k s = some r ∧ r.map ByteArray.toList = splitA 47 [] s.toList := by
  obtain ⟨r, e, l⟩ := split_one 47 s hs k hk
  unfold impl_Parts.f
  rw [e]
  exact ⟨r, rfl, l⟩

theorem in_eq (a b c : Int) : spec_l01In.f a b c = some (decide (b ≤ a ∧ a ≤ c)) := by
  unfold spec_l01In.f
  by_cases h : b ≤ a
  · rw [if_pos h]; simp [h]
  · rw [if_neg h]; simp [h]

theorem within_eq (a b c : Int) : impl_within.f a b c = some (decide (b ≤ a ∧ a ≤ c)) := by
  unfold impl_within.f
  by_cases h : b ≤ a
  · rw [if_pos h]; simp [h]
  · rw [if_neg h]; simp [h]

theorem allB_list (p : Int → Bool) (s : ByteArray) : allB p s = s.toList.all (fun b => p (b.toNat : Int)) := rfl

/-- Is a text a component? -/
def partOkM (l : List UInt8) : Bool := decide (1 ≤ l.length ∧ l.length ≤ 60) && (l != [46]) && (l != [46, 46]) && l.all (fun b => pPart (b.toNat : Int))
theorem spec_part_loop (s : ByteArray) (hs : s.size ≤ 140737488351232) : ∀ (d k : Nat) (i : Int), 0 ≤ i → (s.size : Int) - i = d → d < k →
    spec_PartOk.l0 k s i = some ((s.toList.drop i.toNat).all (fun b => pPart (b.toNat : Int)) && (decide (1 ≤ s.toList.length ∧ s.toList.length ≤ 60) && (s.toList != [46]) && (s.toList != [46, 46]))) := by
  intro d
  induction d with
  | zero =>
    intro k i h0 hd hk
    obtain ⟨k, rfl⟩ : ∃ m, k = m + 1 := ⟨k - 1, by omega⟩
    simp only [spec_PartOk.l0]
    rw [if_neg (by omega), List.drop_eq_nil_of_le (by rw [tl_length]; omega), in_eq]
    simp only [Option.bind_some, List.all_nil, Bool.true_and, tl_length]
    by_cases h1 : 1 ≤ s.size ∧ s.size ≤ 60
    · rw [if_pos (by simpa using ⟨by omega, by omega⟩), decide_eq_true h1]
      by_cases h2 : s.toList = [46]
      · rw [if_pos h2]; simp [h2]
      · rw [if_neg h2]; simp [h2]
    · rw [if_neg (by simp; omega), decide_eq_false h1]
      simp
  | succ d ih =>
    intro k i h0 hd hk
    obtain ⟨k, rfl⟩ : ∃ m, k = m + 1 := ⟨k - 1, by omega⟩
    simp only [spec_PartOk.l0]
    obtain ⟨b, e, hbt⟩ := bt_step s i h0 (by omega)
    have hlt := b.toNat_lt
    rw [if_pos (by omega), if_pos h0, in_eq, hbt, w64 (n := (b.toNat : Int)) (by omega) (by omega), w64 (n := i + 1) (by omega) (by omega), ih k (i + 1) (by omega) (by omega) (by omega), e]
    simp only [Option.bind_some, List.all_cons]
    by_cases h1 : 33 ≤ (b.toNat : Int) ∧ (b.toNat : Int) ≤ 126
    · rw [if_pos (by simpa using h1)]
      by_cases h2 : (b.toNat : Int) = 47
      · rw [if_pos h2]; simp [pPart, h2]
      · have hp : pPart (b.toNat : Int) = true := by
          unfold pPart
          rw [decide_eq_true h1.1, decide_eq_true h1.2, bne_iff_ne.2 h2]
          rfl
        rw [if_neg h2, hp, Bool.true_and]
    · rw [if_neg (by simpa using h1)]
      have : pPart (b.toNat : Int) = false := by
        unfold pPart
        by_cases h3 : 33 ≤ (b.toNat : Int)
        · rw [decide_eq_false (show ¬ (b.toNat : Int) ≤ 126 by omega)]; simp
        · rw [decide_eq_false h3]; simp
      rw [this]
      simp
theorem spec_partOk (s : ByteArray) (hs : s.size ≤ 140737488351232) (k : Nat) (hk : s.size < k) : spec_PartOk.f k s = some (partOkM s.toList) := by
  unfold spec_PartOk.f partOkM
  rw [spec_part_loop s hs s.size k 0 (by omega) (by omega) hk, Bool.and_comm]
  rfl
theorem impl_partOk (s : ByteArray) (hs : s.size ≤ 140737488351232) : impl_PartOk.f s = some (partOkM s.toList) := by
  unfold impl_PartOk.f partOkM
  rw [within_eq]
  simp only [Option.bind_some, tl_length]
  by_cases h1 : 1 ≤ s.size ∧ s.size ≤ 60
  · rw [if_pos (by simpa using ⟨by omega, by omega⟩), decide_eq_true h1]
    by_cases h2 : s.toList = [46]
    · rw [if_pos h2]; simp [h2]
    · rw [if_neg h2]
      by_cases h3 : s.toList = [46, 46]
      · rw [if_pos h3]; simp [h3]
      · rw [if_neg h3]
        unfold impl_areBytes.f
        rw [if_pos (by omega)]
        simp [h2, h3, allB]
  · rw [if_neg (by simp; omega), decide_eq_false h1]
    simp

/-- Is a text a path? -/
def pathOkM (l : List UInt8) : Bool := decide (l.length ≤ 200) && (splitA 47 [] l).all partOkM
theorem spec_path_loop (s : ByteArray) : ∀ (t pre : List ByteArray) (k : Nat), (∀ x ∈ t, x.size ≤ 4194304) → pre.length + t.length ≤ 100000000 → t.length + 4194310 < k →
    spec_PathOk.l0 k s (pre ++ t) (pre.length : Int) = some ((t.map ByteArray.toList).all partOkM && decide (s.toList.length ≤ 200))
  | [], pre, k, hx, hl, hk => by
    obtain ⟨k, rfl⟩ : ∃ m, k = m + 1 := ⟨k - 1, by omega⟩
    unfold spec_PathOk.l0
    rw [if_neg (by simp)]
    simp [tl_length]
    omega
  | x :: t, pre, k, hx, hl, hk => by
    simp only [List.length_cons] at hl hk
    obtain ⟨k, rfl⟩ : ∃ m, k = m + 1 := ⟨k - 1, by omega⟩
    have hs : x.size ≤ 4194304 := hx x (by simp)
    unfold spec_PathOk.l0
    have er : rdOf ByteArray.empty (pre ++ x :: t) (pre.length : Int) = x := by
      unfold rdOf
      rw [Int.toNat_natCast, List.getD_eq_getElem?_getD, List.getElem?_append_right (Nat.le_refl _)]
      simp
    rw [if_pos (by simp; omega), if_pos (by omega), er, spec_partOk x (by omega) k (by omega), w64 (by omega) (by omega)]
    simp only [Option.bind_some, List.map_cons, List.all_cons]
    have := spec_path_loop s t (pre ++ [x]) k (fun y hy => hx y (by simp [hy])) (by simp only [List.length_append, List.length_cons, List.length_nil]; omega) (by omega)
    simp only [List.length_append, List.length_cons, List.length_nil, List.append_assoc, List.singleton_append] at this
    by_cases hp : partOkM x.toList = true
    · rw [if_pos hp, show ((pre.length : Int) + 1) = ((pre.length + (0 + 1) : Nat) : Int) by omega, this, hp]
      simp
    · rw [if_neg hp]
      simp [Bool.eq_false_iff.2 hp]
theorem parts_sizes {s : ByteArray} {r : List ByteArray} (h : r.map ByteArray.toList = splitA 47 [] s.toList) : r.length ≤ s.size + 1 ∧ ∀ x ∈ r, x.size ≤ s.size := by
  constructor
  · have := congrArg List.length h
    have h3 := splitA_le 47 s.toList []
    rw [tl_length] at h3
    rw [List.length_map] at this
    omega
  · intro x hx
    have hm : x.toList ∈ splitA 47 [] s.toList := by
      rw [← h]
      exact List.mem_map_of_mem hx
    have := splitA_mem 47 _ _ _ hm
    rw [tl_length, tl_length] at this
    simpa using this
theorem spec_pathOk (s : ByteArray) (hs : s.size ≤ 4194304) (k : Nat) (hk : s.size + 4194400 < k) : spec_PathOk.f k s = some (pathOkM s.toList) := by
  obtain ⟨r, e, l⟩ := spec_parts s hs k (by omega)
  obtain ⟨h1, h2⟩ := parts_sizes l
  unfold spec_PathOk.f
  rw [e]
  simp only [Option.bind_some]
  have := spec_path_loop s r [] k (fun x hx => Nat.le_trans (h2 x hx) hs) (by simp; omega) (by omega)
  simp only [List.nil_append, List.length_nil] at this
  rw [show ((0 : Nat) : Int) = 0 from rfl] at this
  rw [this, l, Bool.and_comm]
  rfl
theorem all_parts : ∀ r : List ByteArray, (∀ x ∈ r, x.size ≤ 4194304) → allS impl_PartOk.f r = some ((r.map ByteArray.toList).all partOkM)
  | [], _ => rfl
  | x :: r, h => by
    have hx := h x (by simp)
    simp only [allS]
    rw [impl_partOk x (by omega)]
    simp only [Option.bind_some, List.map_cons, List.all_cons]
    by_cases hp : partOkM x.toList = true
    · rw [if_pos hp, all_parts r (fun y hy => h y (by simp [hy])), hp]
      simp
    · rw [if_neg hp]
      simp [Bool.eq_false_iff.2 hp]
theorem impl_pathOk (s : ByteArray) (hs : s.size ≤ 4194304) (k : Nat) (hk : s.size + 2 < k) : impl_PathOk.f k s = some (pathOkM s.toList) := by
  unfold impl_PathOk.f pathOkM
  rw [tl_length]
  by_cases h : s.size ≤ 200
  · rw [if_pos (by omega), decide_eq_true h]
    obtain ⟨r, e, l⟩ := impl_parts s hs k hk
    obtain ⟨h1, h2⟩ := parts_sizes l
    rw [e]
    simp only [Option.bind_some]
    unfold impl_areAll_string.f
    rw [if_pos rfl, all_parts r (fun x hx => Nat.le_trans (h2 x hx) hs), l]
    simp
  · rw [if_neg (by omega), decide_eq_false h]
    simp

def userM (l : List UInt8) : Bool := decide (l.length ≤ 20) && l.all (fun b => pUser (b.toNat : Int))
def signM (l : List UInt8) : Bool := l.all (fun b => pSign (b.toNat : Int))
theorem spec_who_loop (s : ByteArray) (hs : s.size ≤ 4194304) : ∀ (t pre : List UInt8) (k : Nat), s.toList = pre ++ t → t.length < k → spec_l03Who.l0 k s (pre.length : Int) = some (t.all (fun b => pUser (b.toNat : Int)) && decide (s.toList.length ≤ 20))
  | [], pre, k, h, hk => by
    obtain ⟨k, rfl⟩ : ∃ m, k = m + 1 := ⟨k - 1, by omega⟩
    have hz := size_mid h
    simp only [List.length_nil] at hz
    unfold spec_l03Who.l0
    rw [if_neg (by omega)]
    simp [tl_length]
    omega
  | b :: t, pre, k, h, hk => by
    simp only [List.length_cons] at hk
    obtain ⟨k, rfl⟩ : ∃ m, k = m + 1 := ⟨k - 1, by omega⟩
    have hz := size_mid h
    simp only [List.length_cons] at hz
    have hlt := b.toNat_lt
    have ih := spec_who_loop s hs t (pre ++ [b]) k (by simp [h]) (by omega)
    rw [show (((pre ++ [b]).length : Nat) : Int) = (pre.length : Int) + 1 by simp] at ih
    unfold spec_l03Who.l0
    rw [if_pos (by omega), if_pos (by omega), bt_mid h, w64 (n := (b.toNat : Int)) (by omega) (by omega), w64 (by omega) (by omega), ih, in_eq, in_eq]
    simp only [Option.bind_some, List.all_cons]
    unfold pUser
    by_cases h1 : 97 ≤ (b.toNat : Int) ∧ (b.toNat : Int) ≤ 122
    · simp [h1]
    · rw [if_neg (by simpa using h1)]
      by_cases h2 : 48 ≤ (b.toNat : Int) ∧ (b.toNat : Int) ≤ 57
      · simp [h2]
      · rw [if_neg (by simpa using h2)]
        by_cases h3 : (b.toNat : Int) = 95
        · rw [if_pos h3]; simp [h3]
        · rw [if_neg h3]
          have e1 : (decide (97 ≤ (b.toNat : Int)) && decide ((b.toNat : Int) ≤ 122)) = false := by
            rw [← Bool.decide_and]; exact decide_eq_false h1
          have e2 : (decide (48 ≤ (b.toNat : Int)) && decide ((b.toNat : Int) ≤ 57)) = false := by
            rw [← Bool.decide_and]; exact decide_eq_false h2
          rw [e1, e2]
          simp [h3]
theorem spec_who (s : ByteArray) (hs : s.size ≤ 4194304) (k : Nat) (hk : s.size < k) : spec_l03Who.f k s = some (userM s.toList) := by
  have := spec_who_loop s hs s.toList [] k rfl (by rw [tl_length]; exact hk)
  unfold spec_l03Who.f userM
  rw [show ((([] : List UInt8).length : Nat) : Int) = 0 from rfl] at this
  rw [this, Bool.and_comm]
theorem spec_sign_loop (s : ByteArray) (hs : s.size ≤ 4194304) : ∀ (t pre : List UInt8) (k : Nat), s.toList = pre ++ t → t.length < k → spec_l03Sign.l0 k s (pre.length : Int) = some (signM t)
  | [], pre, k, h, hk => by
    obtain ⟨k, rfl⟩ : ∃ m, k = m + 1 := ⟨k - 1, by omega⟩
    have hz := size_mid h
    simp only [List.length_nil] at hz
    unfold spec_l03Sign.l0
    rw [if_neg (by omega)]
    rfl
  | b :: t, pre, k, h, hk => by
    simp only [List.length_cons] at hk
    obtain ⟨k, rfl⟩ : ∃ m, k = m + 1 := ⟨k - 1, by omega⟩
    have hz := size_mid h
    simp only [List.length_cons] at hz
    have hlt := b.toNat_lt
    have ih := spec_sign_loop s hs t (pre ++ [b]) k (by simp [h]) (by omega)
    rw [show (((pre ++ [b]).length : Nat) : Int) = (pre.length : Int) + 1 by simp] at ih
    unfold spec_l03Sign.l0
    rw [if_pos (by omega), if_pos (by omega), bt_mid h, w64 (n := (b.toNat : Int)) (by omega) (by omega), w64 (by omega) (by omega), ih, in_eq]
    simp only [Option.bind_some, signM, List.all_cons, pSign]
    rw [Bool.decide_and]
    cases (decide (33 ≤ (b.toNat : Int)) && decide ((b.toNat : Int) ≤ 126)) <;> simp
theorem spec_sign (s : ByteArray) (hs : s.size ≤ 4194304) (k : Nat) (hk : s.size < k) : spec_l03Sign.f k s = some (signM s.toList) := by
  have := spec_sign_loop s hs s.toList [] k rfl (by rw [tl_length]; exact hk)
  exact this
theorem impl_user (s : ByteArray) (hs : s.size ≤ 4194304) : impl_isUser.f s = some (userM s.toList) := by
  unfold impl_isUser.f userM
  rw [tl_length]
  by_cases h : s.size ≤ 20
  · rw [if_pos (by omega)]
    unfold impl_areBytes.f
    rw [if_pos (by omega)]
    simp [h, allB]
  · rw [if_neg (by omega)]
    simp [h]
theorem impl_signs (s : ByteArray) (hs : s.size ≤ 4194304) : impl_areBytes.f s 74 = some (signM s.toList) := by
  unfold impl_areBytes.f
  rw [if_pos (by omega)]
  simp [allB, signM]
/-- What an entry's kind asks of its link and its body. -/
def kindOkM (kind : Int) (path link body : List UInt8) : Bool :=
  if kind = 0 then (link == []) && decide (body.length ≤ 3000)
  else if kind = 1 then (link == []) && (body == [])
  else if kind = 2 then decide (1 ≤ link.length ∧ link.length ≤ 150) && (signM link && (body == []))
  else if kind = 3 then pathOkM link && ((link != path) && (body == []))
  else false
def entryOkM (kind : Int) (path link : List UInt8) (mode uid gid time : Int) (user group body : List UInt8) : Bool :=
  (pathOkM path && (decide (0 ≤ mode ∧ mode ≤ 4095) && (decide (0 ≤ uid ∧ uid ≤ 4294967295) && (decide (0 ≤ gid ∧ gid ≤ 4294967295) && (decide (0 ≤ time ∧ time ≤ 99999999999) && (userM user && userM group)))))) && kindOkM kind path link body
theorem spec_entry_j (k : Nat) (hk : 8500000 < k) (x : Bool) (a0 : Int) (a1 a2 : ByteArray) (a3 a4 a5 a6 : Int) (a7 a8 a9 : ByteArray) (h2 : a2.size ≤ 1048576) : spec_EntryOk.j0 k x a0 a1 a2 a3 a4 a5 a6 a7 a8 a9 = some (!x && kindOkM a0 a1.toList a2.toList a9.toList) := by
  obtain ⟨k, rfl⟩ : ∃ m, k = m + 1 := ⟨k - 1, by omega⟩
  simp only [spec_EntryOk.j0]
  unfold kindOkM
  cases x with
  | true => simp
  | false =>
    rw [if_neg (by decide)]
    simp only [Bool.not_false, Bool.true_and]
    by_cases c0 : a0 = 0
    · rw [if_pos c0, if_pos c0, tl_length]
      by_cases c : a2.toList = []
      · rw [if_pos c, c]; simp; omega
      · rw [if_neg c]; simp [c]
    rw [if_neg c0, if_neg c0]
    by_cases c1 : a0 = 1
    · rw [if_pos c1, if_pos c1]
      by_cases c : a2.toList = []
      · rw [if_pos c, c]; rfl
      · rw [if_neg c]; simp [c]
    rw [if_neg c1, if_neg c1]
    by_cases c2 : a0 = 2
    · rw [if_pos c2, if_pos c2, in_eq, spec_sign a2 (by omega) _ (by omega), tl_length]
      simp only [Option.bind_some]
      by_cases c : 1 ≤ a2.size ∧ a2.size ≤ 150
      · rw [if_pos (by simpa using ⟨by omega, by omega⟩), decide_eq_true c]
        cases signM a2.toList <;> simp
      · rw [if_neg (by simp; omega), decide_eq_false c]
        simp
    rw [if_neg c2, if_neg c2]
    by_cases c3 : a0 = 3
    · rw [if_pos c3, if_pos c3, spec_pathOk a2 (by omega) _ (by omega)]
      simp only [Option.bind_some]
      cases pathOkM a2.toList with
      | false => simp
      | true =>
        rw [if_pos rfl]
        by_cases c : a2.toList = a1.toList
        · rw [if_pos c]; simp [c]
        · rw [if_neg c]; simp [c]
    rw [if_neg c3, if_neg c3]
theorem impl_entry_j (k : Nat) (hk : 8500000 < k) (x : Bool) (a0 : Int) (a1 a2 : ByteArray) (a3 a4 a5 a6 : Int) (a7 a8 a9 : ByteArray) (h2 : a2.size ≤ 1048576) : impl_EntryOk.j0 k x a0 a1 a2 a3 a4 a5 a6 a7 a8 a9 = some (!x && kindOkM a0 a1.toList a2.toList a9.toList) := by
  obtain ⟨k, rfl⟩ : ∃ m, k = m + 1 := ⟨k - 1, by omega⟩
  simp only [impl_EntryOk.j0]
  unfold kindOkM
  cases x with
  | true => simp
  | false =>
    rw [if_neg (by decide)]
    simp only [Bool.not_false, Bool.true_and]
    by_cases c0 : a0 = 0
    · rw [if_pos c0, if_pos c0, tl_length]
      by_cases c : a9.size ≤ 3000
      · rw [if_pos (by omega), decide_eq_true c]; simp
      · rw [if_neg (by omega), decide_eq_false c]; simp
    rw [if_neg c0, if_neg c0]
    by_cases c1 : a0 = 1
    · rw [if_pos c1, if_pos c1]
      by_cases c : a2.toList = []
      · rw [if_pos c, c]; rfl
      · rw [if_neg c]; simp [c]
    rw [if_neg c1, if_neg c1]
    by_cases c2 : a0 = 2
    · rw [if_pos c2, if_pos c2, within_eq, impl_signs a2 (by omega), tl_length]
      simp only [Option.bind_some]
      by_cases c : 1 ≤ a2.size ∧ a2.size ≤ 150
      · rw [if_pos (by simpa using ⟨by omega, by omega⟩), decide_eq_true c]
        cases signM a2.toList <;> simp
      · rw [if_neg (by simp; omega), decide_eq_false c]
        simp
    rw [if_neg c2, if_neg c2]
    by_cases c3 : a0 = 3
    · rw [if_pos c3, if_pos c3, impl_pathOk a2 (by omega) _ (by omega)]
      simp only [Option.bind_some]
      cases pathOkM a2.toList with
      | false => simp
      | true =>
        rw [if_pos rfl]
        by_cases c : a2.toList = a1.toList
        · rw [if_pos c]; simp [c]
        · rw [if_neg c]; simp [c]
    rw [if_neg c3, if_neg c3]
theorem spec_entryOk (k : Nat) (hk : 8500000 < k) (a0 : Int) (a1 a2 : ByteArray) (a3 a4 a5 a6 : Int) (a7 a8 a9 : ByteArray) (h1 : a1.size ≤ 1048576) (h2 : a2.size ≤ 1048576) (h7 : a7.size ≤ 1048576) (h8 : a8.size ≤ 1048576) :
    spec_EntryOk.f k a0 a1 a2 a3 a4 a5 a6 a7 a8 a9 = some (entryOkM a0 a1.toList a2.toList a3 a4 a5 a6 a7.toList a8.toList a9.toList) := by
  unfold spec_EntryOk.f entryOkM
  have J := fun x => spec_entry_j k hk x a0 a1 a2 a3 a4 a5 a6 a7 a8 a9 h2
  simp only [spec_pathOk a1 (by omega) k (by omega), in_eq, spec_who a7 (by omega) k (by omega), spec_who a8 (by omega) k (by omega), J, Option.bind_some]
  generalize kindOkM a0 a1.toList a2.toList a9.toList = z
  generalize pathOkM a1.toList = b1
  generalize decide (0 ≤ a3 ∧ a3 ≤ 4095) = b3
  generalize decide (0 ≤ a4 ∧ a4 ≤ 4294967295) = b4
  generalize decide (0 ≤ a5 ∧ a5 ≤ 4294967295) = b5
  generalize decide (0 ≤ a6 ∧ a6 ≤ 99999999999) = b6
  generalize userM a7.toList = b7
  generalize userM a8.toList = b8
  cases b1 <;> cases b3 <;> cases b4 <;> cases b5 <;> cases b6 <;> cases b7 <;> cases b8 <;> rfl
theorem impl_entryOk (k : Nat) (hk : 8500000 < k) (a0 : Int) (a1 a2 : ByteArray) (a3 a4 a5 a6 : Int) (a7 a8 a9 : ByteArray) (h1 : a1.size ≤ 1048576) (h2 : a2.size ≤ 1048576) (h7 : a7.size ≤ 1048576) (h8 : a8.size ≤ 1048576) :
    impl_EntryOk.f k a0 a1 a2 a3 a4 a5 a6 a7 a8 a9 = some (entryOkM a0 a1.toList a2.toList a3 a4 a5 a6 a7.toList a8.toList a9.toList) := by
  unfold impl_EntryOk.f entryOkM
  have J := fun x => impl_entry_j k hk x a0 a1 a2 a3 a4 a5 a6 a7 a8 a9 h2
  simp only [impl_pathOk a1 (by omega) k (by omega), within_eq, impl_user a7 (by omega), impl_user a8 (by omega), J, Option.bind_some]
  generalize kindOkM a0 a1.toList a2.toList a9.toList = z
  generalize pathOkM a1.toList = b1
  generalize decide (0 ≤ a3 ∧ a3 ≤ 4095) = b3
  generalize decide (0 ≤ a4 ∧ a4 ≤ 4294967295) = b4
  generalize decide (0 ≤ a5 ∧ a5 ≤ 4294967295) = b5
  generalize decide (0 ≤ a6 ∧ a6 ≤ 99999999999) = b6
  generalize userM a7.toList = b7
  generalize userM a8.toList = b8
  cases b1 <;> cases b3 <;> cases b4 <;> cases b5 <;> cases b6 <;> cases b7 <;> cases b8 <;> rfl

theorem split_tail (s : ByteArray) (hs : s.size ≤ 4194304) : ∀ (d i k k' : Nat), i + d = s.size → d ≤ 101 → 2 * d < k → d < k' → ∃ r, spec_Split.l0 k s (i : Int) = some r ∧ impl_Split.l0 k' s (i : Int) = some r := by
  intro d
  induction d with
  | zero =>
    intro i k k' hi hd hk hk'
    obtain ⟨k, rfl⟩ : ∃ m, k = m + 1 := ⟨k - 1, by omega⟩
    obtain ⟨k', rfl⟩ : ∃ m, k' = m + 1 := ⟨k' - 1, by omega⟩
    unfold spec_Split.l0 impl_Split.l0
    rw [if_neg (by omega), if_neg (by omega)]
    exact ⟨_, rfl, rfl⟩
  | succ d ih =>
    intro i k k' hi hd hk hk'
    obtain ⟨k, rfl⟩ : ∃ m, k = m + 2 := ⟨k - 2, by omega⟩
    obtain ⟨k', rfl⟩ : ∃ m, k' = m + 1 := ⟨k' - 1, by omega⟩
    obtain ⟨r, e1, e2⟩ := ih (i + 1) k k' (by omega) (by omega) (by omega) (by omega)
    rw [show ((i + 1 : Nat) : Int) = (i : Int) + 1 by omega] at e1 e2
    unfold spec_Split.l0 impl_Split.l0
    unfold spec_Split.j1
    rw [if_pos (show (i : Int) < (s.size : Int) by omega), if_pos (show 0 ≤ (i : Int) by omega), if_pos (show (i : Int) < (s.size : Int) by omega), if_pos (show 0 ≤ (i : Int) by omega)]
    rw [w64 (n := (i : Int) + 1) (by omega) (by omega), w64 (n := (s.size : Int) - (i : Int)) (by omega) (by omega), w64 (n := (s.size : Int) - (i : Int) - 1) (by omega) (by omega)]
    by_cases hb : bt s (i : Int) = 47
    · by_cases h5 : (i : Int) ≤ 155
      · simp only [hb, if_true]
        rw [if_pos (show (s.size : Int) - (i : Int) - 1 ≤ 100 by omega), if_neg (show ¬ (i : Int) > 155 by omega), decide_eq_true h5]
        simp only [if_true]
        rw [if_pos (show (i : Int) ≤ (s.size : Int) by omega), if_pos (show 0 ≤ (i : Int) + 1 by omega), if_pos (show (i : Int) + 1 ≤ (s.size : Int) by omega)]
        have q1 : (i : Int) < (s.size : Int) := by omega
        have q2 : 0 ≤ (i : Int) := by omega
        refine ⟨(s.extract 0 (i : Int).toNat, s.extract ((i : Int) + 1).toNat s.size, true), ?_, ?_⟩
        · first | rfl | simp only [q1, q2, if_true]
        · first | rfl | simp only [q1, q2, if_true]
      · simp only [hb, if_true]
        rw [if_pos (show (s.size : Int) - (i : Int) - 1 ≤ 100 by omega), if_pos (show (i : Int) > 155 by omega), decide_eq_false h5]
        simp only [Bool.false_eq_true, if_false]
        rw [if_pos (show 0 ≤ (i : Int) by omega), if_pos (show (i : Int) < (s.size : Int) by omega)]
        exact ⟨_, if_pos (by omega), rfl⟩
    · simp only [hb, if_false, Bool.false_eq_true]
      rw [if_pos (show 0 ≤ (i : Int) by omega), if_pos (show (i : Int) < (s.size : Int) by omega)]
      exact ⟨r, e1, e2⟩
theorem split_front (s : ByteArray) (hs : s.size ≤ 4194304) (r : ByteArray × ByteArray × Bool) : ∀ (d i k : Nat), i + d + 101 = s.size → 2 * d ≤ k → (∀ k2, k ≤ k2 + 2 * d → spec_Split.l0 k2 s ((i + d : Nat) : Int) = some r) → spec_Split.l0 k s (i : Int) = some r := by
  intro d
  induction d with
  | zero =>
    intro i k hi hk h
    exact h k (by omega)
  | succ d ih =>
    intro i k hi hk h
    obtain ⟨k, rfl⟩ : ∃ m, k = m + 2 := ⟨k - 2, by omega⟩
    have e := ih (i + 1) k (by omega) (by omega) (fun k2 hk2 => by rw [show i + 1 + d = i + (d + 1) by omega]; exact h k2 (by omega))
    rw [show ((i + 1 : Nat) : Int) = (i : Int) + 1 by omega] at e
    unfold spec_Split.l0
    unfold spec_Split.j1
    rw [if_pos (show (i : Int) < (s.size : Int) by omega), if_pos (show 0 ≤ (i : Int) by omega)]
    rw [w64 (n := (i : Int) + 1) (by omega) (by omega), w64 (n := (s.size : Int) - (i : Int)) (by omega) (by omega), w64 (n := (s.size : Int) - (i : Int) - 1) (by omega) (by omega)]
    have hn : ¬ (s.size : Int) - (i : Int) - 1 ≤ 100 := by omega
    by_cases hb : bt s (i : Int) = 47
    · simp only [hb, if_true, hn, if_false, Bool.false_eq_true]
      rw [if_pos (show 0 ≤ (i : Int) by omega), if_pos (show (i : Int) < (s.size : Int) by omega)]
      exact e
    · simp only [hb, if_false, Bool.false_eq_true]
      rw [if_pos (show 0 ≤ (i : Int) by omega), if_pos (show (i : Int) < (s.size : Int) by omega)]
      exact e
theorem split_same (s : ByteArray) (hs : s.size ≤ 1048576) (k : Nat) (hk : 8500000 < k) : ∃ r, spec_Split.f k s = some r ∧ impl_Split.f k s = some r := by
  unfold spec_Split.f impl_Split.f
  rw [spec_pathOk s (by omega) _ (by omega), impl_pathOk s (by omega) _ (by omega)]
  simp only [Option.bind_some]
  by_cases hp : pathOkM s.toList = true
  · rw [if_pos hp, if_pos hp]
    by_cases h1 : (s.size : Int) ≤ 100
    · rw [if_pos h1, if_pos h1]
      exact ⟨_, rfl, rfl⟩
    · rw [if_neg h1, if_neg h1, w64 (n := (s.size : Int) - 100) (by omega) (by omega), w64 (n := (s.size : Int) - 100 - 1) (by omega) (by omega)]
      obtain ⟨r, e1, e2⟩ := split_tail s (by omega) 101 (s.size - 101) 400 k (by omega) (by omega) (by omega) (by omega)
      have he : ((s.size - 101 : Nat) : Int) = (s.size : Int) - 100 - 1 := by omega
      refine ⟨r, ?_, by rw [← he]; exact e2⟩
      have := split_front s (by omega) r (s.size - 101) 0 k (by omega) (by omega) (fun k2 hk2 => by
        obtain ⟨r2, e3, e4⟩ := split_tail s (by omega) 101 (s.size - 101) k2 k (by omega) (by omega) (by omega) (by omega)
        rw [e2] at e4
        obtain rfl := Option.some.inj e4
        rw [Nat.zero_add]
        exact e3)
      exact this
  · rw [if_neg hp, if_neg hp]
    exact ⟨_, rfl, rfl⟩

/-! ### The digits of a number in a base -/
def hexD (d : Nat) : UInt8 := ([48, 49, 50, 51, 52, 53, 54, 55, 56, 57, 97, 98, 99, 100, 101, 102] : List UInt8).getD d 0
def digB (b : Nat) (u : Nat) : List UInt8 := if h : u = 0 ∨ b ≤ 1 then [] else digB b (u / b) ++ [hexD (u % b)]
termination_by u
decreasing_by exact Nat.div_lt_self (by omega) (by omega)
theorem digB_zero (b : Nat) : digB b 0 = [] := by rw [digB, dif_pos (Or.inl rfl)]
theorem digB_step (b u : Nat) (hb : 2 ≤ b) (h : 0 < u) : digB b u = digB b (u / b) ++ [hexD (u % b)] := by
  rw [digB, dif_neg (by omega)]
def numB (b u : Nat) : List UInt8 := if u = 0 then [48] else digB b u
theorem hexD_dec (d : Nat) (h : d < 10) : hexD d = UInt8.ofNat (48 + d) := by
  have : d = 0 ∨ d = 1 ∨ d = 2 ∨ d = 3 ∨ d = 4 ∨ d = 5 ∨ d = 6 ∨ d = 7 ∨ d = 8 ∨ d = 9 := by omega
  rcases this with rfl | rfl | rfl | rfl | rfl | rfl | rfl | rfl | rfl | rfl <;> rfl

theorem rev_ind {P : List UInt8 → Prop} (h0 : P []) (h1 : ∀ l c, P l → P (l ++ [c])) (l : List UInt8) : P l := by
  have h : ∀ m : List UInt8, P m.reverse := fun m => by
    induction m with
    | nil => exact h0
    | cons c m ih =>
      rw [List.reverse_cons]
      exact h1 _ _ ih
  have := h l.reverse
  rwa [List.reverse_reverse] at this

/-! ### Digits in a field of a width, and their value -/
def padB (b : Nat) : Nat → Nat → List UInt8
  | 0, _ => []
  | w + 1, n => padB b w (n / b) ++ [hexD (n % b)]
/-- What a byte is worth as a digit; -1 where it is none. -/
def dvI (c : UInt8) : Int := if 48 ≤ c.toNat ∧ c.toNat ≤ 57 then (c.toNat : Int) - 48 else if 97 ≤ c.toNat ∧ c.toNat ≤ 102 then (c.toNat : Int) - 87 else -1
def digOk (b : Nat) (c : UInt8) : Bool := decide (0 ≤ dvI c) && decide (dvI c < (b : Int))
def valM (b : Nat) : Nat → List UInt8 → Nat
  | acc, [] => acc
  | acc, c :: t => valM b (acc * b + (dvI c).toNat) t
theorem dv_hex (d : Nat) (h : d < 16) : dvI (hexD d) = (d : Int) := by
  have : d = 0 ∨ d = 1 ∨ d = 2 ∨ d = 3 ∨ d = 4 ∨ d = 5 ∨ d = 6 ∨ d = 7 ∨ d = 8 ∨ d = 9 ∨ d = 10 ∨ d = 11 ∨ d = 12 ∨ d = 13 ∨ d = 14 ∨ d = 15 := by omega
  rcases this with rfl | rfl | rfl | rfl | rfl | rfl | rfl | rfl | rfl | rfl | rfl | rfl | rfl | rfl | rfl | rfl <;> decide
theorem dv_lt (c : UInt8) : dvI c < 16 := by
  unfold dvI
  split
  · omega
  · split <;> omega
theorem hex_dv_fin : ∀ n : Fin 256, 0 ≤ dvI (UInt8.ofNat n.val) → hexD (dvI (UInt8.ofNat n.val)).toNat = UInt8.ofNat n.val := by decide +kernel
theorem hex_dv (c : UInt8) (h : 0 ≤ dvI c) : hexD (dvI c).toNat = c := by
  have := hex_dv_fin ⟨c.toNat, c.toNat_lt⟩
  simp only [UInt8.ofNat_toNat] at this
  exact this h
theorem padB_length (b : Nat) : ∀ w n, (padB b w n).length = w
  | 0, n => rfl
  | w + 1, n => by simp [padB, padB_length b w]
theorem valM_append (b : Nat) : ∀ (l1 l2 : List UInt8) (acc : Nat), valM b acc (l1 ++ l2) = valM b (valM b acc l1) l2
  | [], l2, acc => rfl
  | c :: l1, l2, acc => by simp only [List.cons_append, valM]; exact valM_append b l1 l2 _
theorem valM_padB (b : Nat) (hb : 2 ≤ b) (hb2 : b ≤ 16) : ∀ w n, n < b ^ w → valM b 0 (padB b w n) = n
  | 0, n, h => by
    have : n = 0 := by simpa using h
    subst this
    rfl
  | w + 1, n, h => by
    have hm : n % b < b := Nat.mod_lt _ (by omega)
    have hq : n / b < b ^ w := Nat.div_lt_of_lt_mul (by rw [Nat.mul_comm, ← Nat.pow_succ]; exact h)
    rw [padB, valM_append, valM_padB b hb hb2 w _ hq]
    simp only [valM]
    rw [dv_hex _ (by omega), Int.toNat_natCast, Nat.mul_comm]
    exact Nat.div_add_mod n b
theorem padB_ok (b : Nat) (hb : 2 ≤ b) (hb2 : b ≤ 16) : ∀ w n, ∀ c ∈ padB b w n, digOk b c = true
  | 0, n, c, h => by simp [padB] at h
  | w + 1, n, c, h => by
    rw [padB, List.mem_append, List.mem_singleton] at h
    rcases h with h | h
    · exact padB_ok b hb hb2 w _ c h
    · have hm : n % b < b := Nat.mod_lt _ (by omega)
      rw [h]
      unfold digOk
      rw [dv_hex _ (by omega), decide_eq_true (by omega), decide_eq_true (by omega)]
      rfl
theorem padB_valM (b : Nat) (hb : 2 ≤ b) : ∀ l : List UInt8, (∀ c ∈ l, digOk b c = true) → padB b l.length (valM b 0 l) = l ∧ valM b 0 l < b ^ l.length := by
  intro l
  induction l using rev_ind with
  | h0 => intro _; exact ⟨rfl, by simp [valM]⟩
  | h1 l c ih =>
    intro h
    obtain ⟨h1, h2⟩ := ih (fun x hx => h x (List.mem_append_left _ hx))
    have hc := h c (by simp)
    unfold digOk at hc
    simp only [Bool.and_eq_true, decide_eq_true_eq] at hc
    have hd : (dvI c).toNat < b := by omega
    have e1 : (valM b 0 l * b + (dvI c).toNat) / b = valM b 0 l := by
      rw [Nat.mul_comm, Nat.mul_add_div (by omega), Nat.div_eq_of_lt hd, Nat.add_zero]
    have e2 : (valM b 0 l * b + (dvI c).toNat) % b = (dvI c).toNat := by
      rw [Nat.mul_comm, Nat.mul_add_mod, Nat.mod_eq_of_lt hd]
    rw [valM_append]
    simp only [valM, List.length_append, List.length_cons, List.length_nil, padB, e1, e2]
    rw [h1, hex_dv c hc.1]
    refine ⟨rfl, ?_⟩
    rw [Nat.pow_succ]
    have : (valM b 0 l + 1) * b ≤ b ^ l.length * b := Nat.mul_le_mul_right _ h2
    rw [Nat.add_mul, Nat.one_mul] at this
    omega
theorem padB_zero (b : Nat) : ∀ w, padB b w 0 = List.replicate w 48
  | 0 => rfl
  | w + 1 => by
    rw [padB, Nat.zero_div, Nat.zero_mod, padB_zero b w, List.replicate_succ']
    rfl
theorem numB_less (b n : Nat) (hb : 2 ≤ b) (h : n < b) : numB b n = [hexD n] := by
  unfold numB
  by_cases h0 : n = 0
  · rw [if_pos h0, h0]
    rfl
  · rw [if_neg h0, digB_step b n hb (by omega), Nat.div_eq_of_lt h, digB_zero, Nat.mod_eq_of_lt h]
    rfl
theorem numB_more (b n : Nat) (hb : 2 ≤ b) (h : ¬ n < b) : numB b n = numB b (n / b) ++ [hexD (n % b)] := by
  have hq : 0 < n / b := Nat.div_pos (by omega) (by omega)
  unfold numB
  rw [if_neg (by omega), if_neg (by omega), digB_step b n hb (by omega)]
/-- The number with zeros ahead of it is the field. -/
theorem numB_pad (b : Nat) (hb : 2 ≤ b) : ∀ w n, (n < b ^ (w + 1) → (numB b n).length ≤ w + 1 ∧ List.replicate (w + 1 - (numB b n).length) 48 ++ numB b n = padB b (w + 1) n) ∧ (¬ n < b ^ (w + 1) → w + 1 < (numB b n).length)
  | 0, n => by
    rw [Nat.zero_add, Nat.pow_one]
    refine ⟨fun h => ?_, fun h => ?_⟩
    · rw [numB_less b n hb h]
      exact ⟨Nat.le_refl _, by simp [padB, Nat.mod_eq_of_lt h]⟩
    · rw [numB_more b n hb h, List.length_append]
      have : 0 < (numB b (n / b)).length := by
        by_cases c : n / b < b
        · rw [numB_less b _ hb c]; simp
        · rw [numB_more b _ hb c]; simp
      simp only [List.length_cons, List.length_nil]
      omega
  | w + 1, n => by
    obtain ⟨i1, i2⟩ := numB_pad b hb w (n / b)
    have hdiv : n / b < b ^ (w + 1) ↔ n < b ^ (w + 1 + 1) := by
      rw [Nat.div_lt_iff_lt_mul (by omega), ← Nat.pow_succ]
    by_cases c : n < b
    · have hlt : n < b ^ (w + 1 + 1) := Nat.lt_of_lt_of_le c (by
        have : b ^ 1 ≤ b ^ (w + 1 + 1) := Nat.pow_le_pow_right (by omega) (by omega)
        rwa [Nat.pow_one] at this)
      refine ⟨fun _ => ?_, fun h => absurd hlt h⟩
      rw [numB_less b n hb c, padB, Nat.div_eq_of_lt c, padB_zero, Nat.mod_eq_of_lt c]
      exact ⟨by simp, by simp⟩
    · rw [numB_more b n hb c]
      refine ⟨fun h => ?_, fun h => ?_⟩
      · obtain ⟨j1, j2⟩ := i1 (hdiv.2 h)
        rw [padB, ← j2, List.length_append]
        simp only [List.length_cons, List.length_nil]
        refine ⟨by omega, ?_⟩
        rw [show w + 1 + 1 - ((numB b (n / b)).length + (0 + 1)) = w + 1 - (numB b (n / b)).length by omega, List.append_assoc]
      · have := i2 (fun h2 => h (hdiv.1 h2))
        rw [List.length_append]
        simp only [List.length_cons, List.length_nil]
        omega
/-- A number in a field of so many bytes, zeros ahead of it. -/
def putB (b : Nat) (n w : Int) : List UInt8 × Bool := if ((0 ≤ n ∧ n ≤ 9007199254740991) ∧ (1 ≤ w ∧ w ≤ 20)) ∧ n.toNat < b ^ w.toNat then (padB b w.toNat n.toNat, true) else ([], false)
/-- The digits' value, of so many digits at most. -/
def getB (b lo hi : Nat) (l : List UInt8) : Int × Bool := if (lo ≤ l.length ∧ l.length ≤ hi) ∧ (∀ c ∈ l, digOk b c = true) ∧ valM b 0 l ≤ 9007199254740991 then ((valM b 0 l : Int), true) else (0, false)
theorem get_put (b : Nat) (hb : 2 ≤ b) (hb2 : b ≤ 16) (n w : Int) (lo hi : Nat) (h : (putB b n w).2 = true) (hlo : (lo : Int) ≤ w) (hhi : w ≤ (hi : Int)) : getB b lo hi (putB b n w).1 = (n, true) ∧ ((putB b n w).1.length : Int) = w := by
  unfold putB at h ⊢
  by_cases c : ((0 ≤ n ∧ n ≤ 9007199254740991) ∧ (1 ≤ w ∧ w ≤ 20)) ∧ n.toNat < b ^ w.toNat
  · rw [if_pos c]
    obtain ⟨⟨c1, c2⟩, c3⟩ := c
    have hv := valM_padB b hb hb2 w.toNat n.toNat c3
    have hl := padB_length b w.toNat n.toNat
    refine ⟨?_, by rw [hl]; omega⟩
    unfold getB
    rw [if_pos ⟨by rw [hl]; omega, padB_ok b hb hb2 _ _, by rw [hv]; omega⟩, hv]
    congr 1
    omega
  · rw [if_neg c] at h
    cases h
theorem put_get (b : Nat) (hb : 2 ≤ b) (l : List UInt8) (lo hi : Nat) (hlo : 1 ≤ lo) (hhi : hi ≤ 20) (h : (getB b lo hi l).2 = true) : putB b (getB b lo hi l).1 (l.length : Int) = (l, true) := by
  unfold getB at h ⊢
  by_cases c : (lo ≤ l.length ∧ l.length ≤ hi) ∧ (∀ c ∈ l, digOk b c = true) ∧ valM b 0 l ≤ 9007199254740991
  · rw [if_pos c]
    obtain ⟨c1, c2, c3⟩ := c
    obtain ⟨h1, h2⟩ := padB_valM b hb l c2
    unfold putB
    simp only [Int.toNat_natCast]
    rw [if_pos ⟨⟨by omega, by omega⟩, h2⟩, h1]
  · rw [if_neg c] at h
    cases h

theorem hex_at (d : Nat) (h : d < 16) : ((⟨#[48, 49, 50, 51, 52, 53, 54, 55, 56, 57, 97, 98, 99, 100, 101, 102]⟩ : ByteArray).extract d (d + 1)).toList = [hexD d] := by
  rw [tl_extract, tl]
  have : d = 0 ∨ d = 1 ∨ d = 2 ∨ d = 3 ∨ d = 4 ∨ d = 5 ∨ d = 6 ∨ d = 7 ∨ d = 8 ∨ d = 9 ∨ d = 10 ∨ d = 11 ∨ d = 12 ∨ d = 13 ∨ d = 14 ∨ d = 15 := by omega
  rcases this with rfl | rfl | rfl | rfl | rfl | rfl | rfl | rfl | rfl | rfl | rfl | rfl | rfl | rfl | rfl | rfl <;> rfl
theorem spec_digits_loop (b : Nat) (hb : 2 ≤ b) (hb2 : b ≤ 16) : ∀ (j u k : Nat) (acc : ByteArray), j ≤ 60 → u < 2 ^ j → u ≤ 9007199254740991 → j < k → acc.size + j ≤ 1000 →
    ∃ r, spec_l01Digits.l0 k (u : Int) (b : Int) acc = some r ∧ r.toList = digB b u ++ acc.toList := by
  intro j
  induction j with
  | zero =>
    intro u k acc hj hu hm hk ha
    obtain ⟨k, rfl⟩ : ∃ m, k = m + 1 := ⟨k - 1, by omega⟩
    obtain rfl : u = 0 := by simpa using hu
    unfold spec_l01Digits.l0
    rw [if_neg (by decide)]
    exact ⟨acc, rfl, by rw [digB_zero]; rfl⟩
  | succ j ih =>
    intro u k acc hj hu hm hk ha
    obtain ⟨k, rfl⟩ : ∃ m, k = m + 1 := ⟨k - 1, by omega⟩
    unfold spec_l01Digits.l0
    by_cases h0 : u = 0
    · subst h0
      rw [if_neg (by decide)]
      exact ⟨acc, rfl, by rw [digB_zero]; rfl⟩
    · have hmod : u % b < b := Nat.mod_lt _ (by omega)
      have hd := hex_at (u % b) (by omega)
      have hs : ((⟨#[48, 49, 50, 51, 52, 53, 54, 55, 56, 57, 97, 98, 99, 100, 101, 102]⟩ : ByteArray).extract (u % b) (u % b + 1)).size = 1 := by rw [← tl_length, hd]; rfl
      have hq : u / b < 2 ^ j := by
        rw [Nat.pow_succ] at hu
        exact Nat.div_lt_of_lt_mul (by
          have : 2 ^ j * 2 ≤ b * 2 ^ j := by rw [Nat.mul_comm]; exact Nat.mul_le_mul_right _ hb
          omega)
      have hq2 : u / b ≤ u := Nat.div_le_self _ _
      have t1 : Int.tmod (u : Int) (b : Int) = ((u % b : Nat) : Int) := by
        rw [Int.tmod_eq_emod_of_nonneg (by omega), Int.natCast_emod]
      have t2 : Int.tdiv (u : Int) (b : Int) = ((u / b : Nat) : Int) := by
        rw [Int.tdiv_eq_ediv_of_nonneg (by omega), Int.natCast_ediv]
      have hstep := digB_step b u hb (by omega)
      rw [t1, t2, hstep]
      clear t1 t2 hstep
      generalize u / b = q at *
      generalize u % b = m at *
      rw [w64 (n := (m : Int) + 1) (by omega) (by omega), w64 (n := (q : Int)) (by omega) (by omega)]
      rw [show ((m : Int) + 1).toNat = m + 1 by omega, Int.toNat_natCast]
      rw [if_pos (by omega), if_neg (by omega), if_pos (by omega), if_pos (by omega), if_pos (by omega), if_pos (by rw [hs]; omega)]
      obtain ⟨r, e, l⟩ := ih q k (((⟨#[48, 49, 50, 51, 52, 53, 54, 55, 56, 57, 97, 98, 99, 100, 101, 102]⟩ : ByteArray).extract m (m + 1)) ++ acc) (by omega) hq (by omega) (by omega) (by rw [ByteArray.size_append, hs]; omega)
      refine ⟨r, e, ?_⟩
      rw [l, tl_append, hd]
      simp
theorem spec_digits (b : Nat) (hb : 2 ≤ b) (hb2 : b ≤ 16) (n : Int) (h0 : 0 ≤ n) (h1 : n ≤ 9007199254740991) (k : Nat) (hk : 60 < k) : ∃ r, spec_l01Digits.f k n (b : Int) = some r ∧ r.toList = numB b n.toNat := by
  obtain ⟨u, rfl⟩ := Int.eq_ofNat_of_zero_le h0
  unfold spec_l01Digits.f numB
  rw [Int.toNat_natCast]
  by_cases hz : u = 0
  · rw [if_pos (by omega), if_pos hz]
    exact ⟨_, rfl, by rw [tl]⟩
  · rw [if_neg (by omega), if_neg hz]
    obtain ⟨r, e, l⟩ := spec_digits_loop b hb hb2 60 u k (⟨#[]⟩ : ByteArray) (by decide) (by omega) (by omega) hk (by decide)
    refine ⟨r, e, ?_⟩
    have hn : (⟨#[]⟩ : ByteArray).toList = [] := by rw [tl]
    rw [l, hn, List.append_nil]

theorem spec_ahead_loop (w : Int) (hw : w ≤ 20) : ∀ (d k : Nat) (s : ByteArray), (s.size : Int) + d = w → d < k → ∃ r, spec_l01Ahead.l0 k s w (⟨#[48]⟩ : ByteArray) = some r ∧ r.toList = List.replicate d 48 ++ s.toList := by
  intro d
  induction d with
  | zero =>
    intro k s hs hk
    obtain ⟨k, rfl⟩ : ∃ m, k = m + 1 := ⟨k - 1, by omega⟩
    have hn : ¬ (s.size : Int) < w := by omega
    simp only [spec_l01Ahead.l0]
    rw [if_neg hn]
    exact ⟨s, rfl, by simp⟩
  | succ d ih =>
    intro k s hs hk
    obtain ⟨k, rfl⟩ : ∃ m, k = m + 1 := ⟨k - 1, by omega⟩
    have e0 : (⟨#[48]⟩ : ByteArray).size = 1 := rfl
    have e1 : ((⟨#[48]⟩ : ByteArray) ++ s).size = s.size + 1 := by rw [ByteArray.size_append, e0]; omega
    have e2 : ((⟨#[48]⟩ : ByteArray) ++ s).toList = 48 :: s.toList := by rw [tl_append, tl (⟨#[48]⟩ : ByteArray)]; rfl
    have hp : (s.size : Int) < w := by omega
    have hq : (⟨#[48]⟩ : ByteArray).size + s.size ≤ 9223372036854775807 := by omega
    obtain ⟨r, e, l⟩ := ih k ((⟨#[48]⟩ : ByteArray) ++ s) (by omega) (by omega)
    simp only [spec_l01Ahead.l0]
    rw [if_pos hp, if_pos hq]
    refine ⟨r, e, ?_⟩
    rw [l, e2, List.replicate_succ']
    simp
theorem spec_ahead_long (w : Int) (s : ByteArray) (k : Nat) (hk : 0 < k) (h : w ≤ (s.size : Int)) : spec_l01Ahead.f k s w (⟨#[48]⟩ : ByteArray) = some s := by
  obtain ⟨k, rfl⟩ : ∃ m, k = m + 1 := ⟨k - 1, by omega⟩
  have hn : ¬ (s.size : Int) < w := by omega
  unfold spec_l01Ahead.f
  simp only [spec_l01Ahead.l0]
  rw [if_neg hn]
/-- A number's digits and zeros ahead of them. -/
theorem spec_field (b : Nat) (hb : 2 ≤ b) (hb2 : b ≤ 16) (n w : Int) (h0 : 0 ≤ n) (h1 : n ≤ 9007199254740991) (w0 : 1 ≤ w) (w1 : w ≤ 20) (k : Nat) (hk : 60 < k) :
    ∃ t r, spec_l01Digits.f k n (b : Int) = some t ∧ spec_l01Ahead.f k t w (⟨#[48]⟩ : ByteArray) = some r ∧ (n.toNat < b ^ w.toNat → r.toList = padB b w.toNat n.toNat) ∧ (¬ n.toNat < b ^ w.toNat → w < (r.size : Int)) := by
  obtain ⟨t, e, l⟩ := spec_digits b hb hb2 n h0 h1 k hk
  obtain ⟨j, hj⟩ : ∃ j : Nat, w.toNat = j + 1 := ⟨w.toNat - 1, by omega⟩
  obtain ⟨p1, p2⟩ := numB_pad b hb j n.toNat
  have hs : t.size = (numB b n.toNat).length := by rw [← l, tl_length]
  rw [hj]
  by_cases c : n.toNat < b ^ (j + 1)
  · obtain ⟨q1, q2⟩ := p1 c
    obtain ⟨r, e2, l2⟩ := spec_ahead_loop w w1 (j + 1 - (numB b n.toNat).length) k t (by omega) (by omega)
    refine ⟨t, r, e, e2, fun _ => ?_, fun h => absurd c h⟩
    rw [l2, l, q2]
  · have q := p2 c
    exact ⟨t, t, e, spec_ahead_long w t k (by omega) (by omega), fun h => absurd h c, fun _ => by omega⟩

theorem repeat_one (c : UInt8) : ∀ n : Nat, Lib.repeatL [c] n = List.replicate n c
  | 0 => rfl
  | n + 1 => by
    simp only [Lib.repeatL, repeat_one c n, List.replicate_succ]
    rfl
theorem lib_repeat (c : UInt8) (n : Int) (h0 : 0 ≤ n) (h1 : n ≤ 1048576) : ∃ r, strings_Repeat.f (⟨#[c]⟩ : ByteArray) n = some r ∧ r.toList = List.replicate n.toNat c := by
  have hs : (⟨#[c]⟩ : ByteArray).size = 1 := rfl
  unfold strings_Repeat.f
  rw [if_pos ⟨h0, by omega, by rw [hs]; omega⟩]
  refine ⟨_, rfl, ?_⟩
  rw [tl_mk]
  exact repeat_one c _

theorem dgt_hex (d : Nat) (h : d < 16) : dgt d = hexD d := by
  have : d = 0 ∨ d = 1 ∨ d = 2 ∨ d = 3 ∨ d = 4 ∨ d = 5 ∨ d = 6 ∨ d = 7 ∨ d = 8 ∨ d = 9 ∨ d = 10 ∨ d = 11 ∨ d = 12 ∨ d = 13 ∨ d = 14 ∨ d = 15 := by omega
  rcases this with rfl | rfl | rfl | rfl | rfl | rfl | rfl | rfl | rfl | rfl | rfl | rfl | rfl | rfl | rfl | rfl <;> decide
theorem fmt_num (b : Nat) (hb : 2 ≤ b) (hb2 : b ≤ 16) (u : Nat) : fmtL b u = numB b u := by
  induction u using Nat.strongRecOn with
  | _ u ih =>
    by_cases c : u < b
    · rw [fmtL_less b u c, numB_less b u hb c, dgt_hex u (by omega)]
    · have hm : u % b < b := Nat.mod_lt _ (by omega)
      rw [fmtL_more b u hb c, numB_more b u hb c, dgt_hex _ (by omega), ih (u / b) (Nat.div_lt_self (by omega) (by omega))]
theorem impl_inBase_b (b : Nat) (hb : b = 8 ∨ b = 16) (n : Int) (h0 : 0 ≤ n) (h1 : n ≤ 9007199254740991) : ∃ t, impl_inBase.f n (b : Int) = some t ∧ t.toList = numB b n.toNat := by
  have hn : ¬ ((b : Int) = 10 ∧ -9223372036854775808 ≤ n ∧ n ≤ 9223372036854775807) := by omega
  have hp : ((b : Int) = 8 ∨ (b : Int) = 16) ∧ 0 ≤ n ∧ n ≤ 9223372036854775807 := by omega
  unfold impl_inBase.f strconv_FormatInt.f
  rw [if_neg hn, if_pos hp]
  refine ⟨_, rfl, ?_⟩
  rw [tl_mk, Int.toNat_natCast, fmt_num b (by omega) (by omega)]
theorem impl_zeros_b (b : Nat) (hb : 2 ≤ b) (n w : Int) (w0 : 1 ≤ w) (w1 : w ≤ 20) (t : ByteArray) (l : t.toList = numB b n.toNat) (h : n.toNat < b ^ w.toNat) : ∃ r, impl_zeros.f t w = some r ∧ r.toList = padB b w.toNat n.toNat := by
  obtain ⟨j, hj⟩ : ∃ j : Nat, w.toNat = j + 1 := ⟨w.toNat - 1, by omega⟩
  rw [hj] at h ⊢
  obtain ⟨q1, q2⟩ := (numB_pad b hb j n.toNat).1 h
  have hs : t.size = (numB b n.toNat).length := by rw [← l, tl_length]
  obtain ⟨p, e2, l2⟩ := lib_repeat 48 (w - (t.size : Int)) (by omega) (by omega)
  have hp : p.size ≤ 20 := by rw [← tl_length, l2, List.length_replicate]; omega
  have hq : p.size + t.size ≤ 9223372036854775807 := by omega
  unfold impl_zeros.f
  rw [w64 (by omega) (by omega), e2]
  simp only [Option.bind_some]
  rw [if_pos hq]
  refine ⟨_, rfl, ?_⟩
  rw [tl_append, l2, l, ← q2]
  congr 2
  omega

theorem spec_putOct (n w : Int) (k : Nat) (hk : 100 < k) : ∃ r, spec_PutOct.f k n w = some r ∧ (r.1.toList, r.2) = putB 8 n w := by
  obtain ⟨k, rfl⟩ : ∃ m, k = m + 1 := ⟨k - 1, by omega⟩
  have hn : (⟨#[]⟩ : ByteArray).toList = [] := by rw [tl]
  have stay : spec_PutOct.j0 (k + 1) n w true = some ((⟨#[]⟩ : ByteArray), false) := by simp [spec_PutOct.j0]
  unfold spec_PutOct.f putB
  rw [in_eq, in_eq]
  simp only [Option.bind_some]
  by_cases h1 : 0 ≤ n ∧ n ≤ 9007199254740991
  · rw [if_pos (decide_eq_true h1)]
    by_cases h2 : 1 ≤ w ∧ w ≤ 20
    · rw [decide_eq_true h2]
      obtain ⟨t, r, e1, e2, p1, p2⟩ := spec_field 8 (by decide) (by decide) n w h1.1 h1.2 h2.1 h2.2 k (by omega)
      rw [show ((8 : Nat) : Int) = 8 from rfl] at e1
      simp only [spec_PutOct.j0]
      rw [if_neg (by decide), e1]
      simp only [Option.bind_some]
      rw [e2]
      simp only [Option.bind_some]
      by_cases c : n.toNat < 8 ^ w.toNat
      · have hr : (r.size : Int) = w := by rw [← tl_length, p1 c, padB_length]; omega
        have hg : ¬ (r.size : Int) > w := by omega
        rw [if_neg hg, if_pos ⟨⟨h1, h2⟩, c⟩]
        exact ⟨_, rfl, by rw [p1 c]⟩
      · have hg : (r.size : Int) > w := p2 c
        rw [if_pos hg, if_neg (fun h => c h.2)]
        exact ⟨_, rfl, by rw [hn]⟩
    · rw [decide_eq_false h2, if_neg (fun h => h2 h.1.2)]
      exact ⟨_, stay, by rw [hn]⟩
  · rw [if_neg (by simpa using h1), if_neg (fun h => h1 h.1.1)]
    exact ⟨_, stay, by rw [hn]⟩
theorem impl_putOct (n w : Int) : ∃ r, impl_PutOct.f n w = some r ∧ (r.1.toList, r.2) = putB 8 n w := by
  have hn : (⟨#[]⟩ : ByteArray).toList = [] := by rw [tl]
  unfold impl_PutOct.f impl_isField.f putB
  rw [within_eq, within_eq]
  simp only [Option.bind_some]
  by_cases h1 : 0 ≤ n ∧ n ≤ 9007199254740991
  · rw [if_pos (decide_eq_true h1)]
    by_cases h2 : 1 ≤ w ∧ w ≤ 20
    · rw [if_pos (decide_eq_true h2)]
      obtain ⟨t, e, l⟩ := impl_inBase_b 8 (Or.inl rfl) n h1.1 h1.2
      rw [show ((8 : Nat) : Int) = 8 from rfl] at e
      have hs : t.size = (numB 8 n.toNat).length := by rw [← l, tl_length]
      obtain ⟨j, hj⟩ : ∃ j : Nat, w.toNat = j + 1 := ⟨w.toNat - 1, by omega⟩
      obtain ⟨p1, p2⟩ := numB_pad 8 (by decide) j n.toNat
      rw [e]
      simp only [Option.bind_some]
      by_cases c : n.toNat < 8 ^ w.toNat
      · have hle : (t.size : Int) ≤ w := by
          have := (p1 (by rw [← hj]; exact c)).1
          omega
        obtain ⟨r, e2, l2⟩ := impl_zeros_b 8 (by decide) n w h2.1 h2.2 t l c
        rw [if_pos (decide_eq_true hle), e2, if_pos ⟨⟨h1, h2⟩, c⟩]
        exact ⟨_, rfl, by rw [l2]⟩
      · have hle : ¬ (t.size : Int) ≤ w := by
          have := p2 (by rw [← hj]; exact c)
          omega
        rw [if_neg (by simpa using hle), if_neg (fun h => c h.2)]
        exact ⟨_, rfl, by rw [hn]⟩
    · rw [if_neg (by simpa using h2), if_neg (fun h => h2 h.1.2)]
      exact ⟨_, rfl, by rw [hn]⟩
  · rw [if_neg (by simpa using h1), if_neg (fun h => h1 h.1.1)]
    exact ⟨_, rfl, by rw [hn]⟩

theorem nuls_loop (n : Int) (h1 : n ≤ 1048576) : ∀ (d k : Nat) (out : List Int), (out.length : Int) + d = n → d < k → spec_l01Nuls.l0 k n out (out.length : Int) = some (strOfNums (out ++ List.replicate d 0)) := by
  intro d
  induction d with
  | zero =>
    intro k out ho hk
    obtain ⟨k, rfl⟩ : ∃ m, k = m + 1 := ⟨k - 1, by omega⟩
    unfold spec_l01Nuls.l0
    rw [if_neg (by omega)]
    simp
  | succ d ih =>
    intro k out ho hk
    obtain ⟨k, rfl⟩ : ∃ m, k = m + 1 := ⟨k - 1, by omega⟩
    unfold spec_l01Nuls.l0
    have e := ih k (out ++ [0]) (by simp only [List.length_append, List.length_cons, List.length_nil]; omega) (by omega)
    rw [show (((out ++ [(0 : Int)]).length : Nat) : Int) = (out.length : Int) + 1 by simp] at e
    rw [if_pos (by omega), if_pos (by omega), w64 (by omega) (by omega), e]
    simp [List.replicate_succ]
theorem spec_nuls (n : Int) (h0 : 0 ≤ n) (h1 : n ≤ 1048576) (k : Nat) (hk : 1048577 < k) : ∃ r, spec_l01Nuls.f k n = some r ∧ r.toList = List.replicate n.toNat 0 := by
  have e := nuls_loop n h1 n.toNat k [] (by simp only [List.length_nil]; omega) (by omega)
  refine ⟨_, e, ?_⟩
  rw [tl_nums]
  simp

def fillM (l : List UInt8) (n : Int) : List UInt8 := if n > 1024 ∨ n ≤ (l.length : Int) then l else l ++ List.replicate (n - (l.length : Int)).toNat 0
theorem spec_fill (s : ByteArray) (n : Int) (hs : s.size ≤ 1048576) (k : Nat) (hk : 1048577 < k) : ∃ r, spec_Fill.f k s n = some r ∧ r.toList = fillM s.toList n := by
  unfold spec_Fill.f fillM
  rw [tl_length]
  by_cases h1 : n > 1024
  · rw [if_pos h1, if_pos (Or.inl h1)]
    exact ⟨_, rfl, rfl⟩
  · rw [if_neg h1]
    by_cases h2 : n ≤ (s.size : Int)
    · rw [if_pos h2, if_pos (Or.inr h2)]
      exact ⟨_, rfl, rfl⟩
    · rw [if_neg h2, if_neg (fun h => h.elim h1 h2), w64 (by omega) (by omega)]
      obtain ⟨r, e, l⟩ := spec_nuls (n - (s.size : Int)) (by omega) (by omega) k hk
      have hr : r.size ≤ 1024 := by rw [← tl_length, l, List.length_replicate]; omega
      rw [e]
      simp only [Option.bind_some]
      rw [if_pos (by omega)]
      exact ⟨_, rfl, by rw [tl_append, l]⟩
theorem impl_fill (s : ByteArray) (n : Int) (hs : s.size ≤ 1048576) : ∃ r, impl_Fill.f s n = some r ∧ r.toList = fillM s.toList n := by
  unfold impl_Fill.f fillM impl_nuls.f
  rw [tl_length]
  by_cases h2 : (s.size : Int) > n
  · rw [if_pos h2, if_pos (Or.inr (by omega))]
    exact ⟨_, rfl, rfl⟩
  · rw [if_neg h2]
    by_cases h1 : n > 1024
    · rw [if_pos h1, if_pos (Or.inl h1)]
      exact ⟨_, rfl, rfl⟩
    · rw [if_neg h1, w64 (by omega) (by omega)]
      obtain ⟨r, e, l⟩ := lib_repeat 0 (n - (s.size : Int)) (by omega) (by omega)
      have hr : r.size ≤ 1024 := by rw [← tl_length, l, List.length_replicate]; omega
      rw [e]
      simp only [Option.bind_some]
      rw [if_pos (by omega)]
      refine ⟨_, rfl, ?_⟩
      rw [tl_append, l]
      by_cases h3 : n ≤ (s.size : Int)
      · rw [if_pos (Or.inr h3), show (n - (s.size : Int)).toNat = 0 by omega]
        simp
      · rw [if_neg (fun h => h.elim h1 h3)]

theorem spec_sum_loop (s : ByteArray) (hs : s.size ≤ 140737488351232) : ∀ (d k : Nat) (acc i : Int), 0 ≤ i → (s.size : Int) - i = d → d < k → 0 ≤ acc → acc ≤ 255 * i → spec_SumOf.l0 k s acc i = some (acc + sumB (s.toList.drop i.toNat)) := by
  intro d
  induction d with
  | zero =>
    intro k acc i h0 hd hk ha hb
    obtain ⟨k, rfl⟩ : ∃ m, k = m + 1 := ⟨k - 1, by omega⟩
    simp only [spec_SumOf.l0]
    rw [if_neg (by omega), List.drop_eq_nil_of_le (by rw [tl_length]; omega)]
    simp [sumB]
  | succ d ih =>
    intro k acc i h0 hd hk ha hb
    obtain ⟨k, rfl⟩ : ∃ m, k = m + 1 := ⟨k - 1, by omega⟩
    simp only [spec_SumOf.l0]
    obtain ⟨b, e, hbt⟩ := bt_step s i h0 (by omega)
    have hlt := b.toNat_lt
    rw [if_pos (by omega), if_pos h0, hbt, w64 (n := (b.toNat : Int)) (by omega) (by omega), w64 (by omega) (by omega), w64 (by omega) (by omega)]
    rw [ih k _ _ (by omega) (by omega) (by omega) (by omega) (by omega), e]
    simp only [sumB]
    congr 1
    omega
theorem impl_sum_loop (s : ByteArray) (hs : s.size ≤ 140737488351232) : ∀ (d k : Nat) (acc i : Int), 0 ≤ i → (s.size : Int) - i = d → d < k → 0 ≤ acc → acc ≤ 255 * i → impl_SumOf.l0 k s acc (s.size : Int) i = some (acc + sumB (s.toList.drop i.toNat)) := by
  intro d
  induction d with
  | zero =>
    intro k acc i h0 hd hk ha hb
    obtain ⟨k, rfl⟩ : ∃ m, k = m + 1 := ⟨k - 1, by omega⟩
    simp only [impl_SumOf.l0]
    rw [if_neg (by omega), List.drop_eq_nil_of_le (by rw [tl_length]; omega)]
    simp [sumB]
  | succ d ih =>
    intro k acc i h0 hd hk ha hb
    obtain ⟨k, rfl⟩ : ∃ m, k = m + 1 := ⟨k - 1, by omega⟩
    simp only [impl_SumOf.l0]
    obtain ⟨b, e, hbt⟩ := bt_step s i h0 (by omega)
    have hlt := b.toNat_lt
    rw [if_pos (by omega), if_pos h0, if_pos (by omega), hbt, w64 (n := (b.toNat : Int)) (by omega) (by omega), w64 (by omega) (by omega), w64 (by omega) (by omega)]
    rw [ih k _ _ (by omega) (by omega) (by omega) (by omega) (by omega), e]
    simp only [sumB]
    congr 1
    omega
theorem spec_sum (s : ByteArray) (hs : s.size ≤ 140737488351232) (k : Nat) (hk : s.size < k) : spec_SumOf.f k s = some (sumB s.toList) := by
  unfold spec_SumOf.f
  rw [spec_sum_loop s hs s.size k 0 0 (by omega) (by omega) hk (by omega) (by omega)]
  simp
theorem impl_sum (s : ByteArray) (hs : s.size ≤ 140737488351232) (k : Nat) (hk : s.size < k) : impl_SumOf.f k s = some (sumB s.toList) := by
  unfold impl_SumOf.f
  rw [impl_sum_loop s hs s.size k 0 0 (by omega) (by omega) hk (by omega) (by omega)]
  simp

/-- The sum of a header. -/
def headSumM (s : ByteArray) : Int := if (s.size : Int) < 512 then -1 else sumB (s.extract 0 148).toList + 256 + sumB (s.extract 156 512).toList
theorem head_parts (s : ByteArray) (h : ¬ (s.size : Int) < 512) : (s.extract 0 148).size = 148 ∧ (s.extract 156 512).size = 356 := by
  rw [ByteArray.size_extract, ByteArray.size_extract]
  omega
theorem impl_headSum (s : ByteArray) (hs : s.size ≤ 140737488351232) (k : Nat) (hk : 356 < k) : impl_HeadSum.f k s = some (headSumM s) := by
  unfold impl_HeadSum.f headSumM
  by_cases h : (s.size : Int) < 512
  · rw [if_pos h, if_pos h]
  · obtain ⟨e1, e2⟩ := head_parts s h
    have b1 := sumB_bounds (s.extract 0 148).toList
    have b2 := sumB_bounds (s.extract 156 512).toList
    rw [tl_length] at b1 b2
    rw [if_neg h, if_neg h, if_pos (by omega), if_pos (by omega), impl_sum _ (by omega) k (by omega)]
    simp only [Option.bind_some]
    rw [if_pos (by omega), if_pos (by omega), impl_sum _ (by omega) k (by omega)]
    simp only [Option.bind_some]
    rw [w64 (n := sumB (s.extract 0 148).toList + 256) (by omega) (by omega), w64 (by omega) (by omega)]

/-- What a path is split into: each part fits its field. -/
theorem split_sizes (s : ByteArray) (hs : s.size ≤ 1048576) : ∀ (k : Nat) (i : Int) (r : ByteArray × ByteArray × Bool), 0 ≤ i → spec_Split.l0 k s i = some r → r.2.2 = true → r.1.size ≤ 155 ∧ r.2.1.size ≤ 100
  | 0, i, r, h0, h, hr => by
    unfold spec_Split.l0 at h
    cases h
  | 1, i, r, h0, h, hr => by
    unfold spec_Split.l0 spec_Split.j1 at h
    repeat' split at h
    all_goals first | (cases h; done) | (obtain rfl := Option.some.inj h; cases hr)
  | k + 2, i, r, h0, h, hr => by
    unfold spec_Split.l0 at h
    by_cases c1 : i < (s.size : Int)
    case neg =>
      rw [if_neg c1] at h
      obtain rfl := Option.some.inj h
      cases hr
    rw [if_pos c1, if_pos h0] at h
    have J : ∀ b : Bool, spec_Split.j1 (k + 1) s i b = some r → (b = true → i ≤ 155 ∧ (s.size : Int) - i - 1 ≤ 100) → r.1.size ≤ 155 ∧ r.2.1.size ≤ 100 := by
      intro b hb hi
      unfold spec_Split.j1 at hb
      cases b with
      | true =>
        obtain ⟨i1, i2⟩ := hi rfl
        rw [if_pos rfl, if_pos h0, if_pos (by omega), w64 (by omega) (by omega), if_pos (by omega), if_pos (by omega)] at hb
        obtain rfl := Option.some.inj hb
        simp only [ByteArray.size_extract]
        omega
      | false =>
        rw [if_neg (by decide), if_pos h0, if_pos c1, w64 (n := i + 1) (by omega) (by omega)] at hb
        have ih := split_sizes s hs k (i + 1) r (by omega)
        repeat' split at hb
        all_goals first | exact ih hb hr | (obtain rfl := Option.some.inj hb; cases hr)
    rw [w64 (n := (s.size : Int) - i) (by omega) (by omega), w64 (by omega) (by omega)] at h
    by_cases c2 : bt s i = 47
    · rw [if_pos c2] at h
      by_cases c3 : (s.size : Int) - i - 1 ≤ 100
      · rw [if_pos c3] at h
        exact J _ h (fun e => ⟨by simpa using e, c3⟩)
      · rw [if_neg c3] at h
        exact J _ h (fun e => by cases e)
    · rw [if_neg c2] at h
      exact J _ h (fun e => by cases e)
theorem split_size (s : ByteArray) (hs : s.size ≤ 1048576) (k : Nat) (hk : 8500000 < k) (r : ByteArray × ByteArray × Bool) (h : spec_Split.f k s = some r) (hr : r.2.2 = true) : r.1.size ≤ 155 ∧ r.2.1.size ≤ 100 := by
  unfold spec_Split.f at h
  rw [spec_pathOk s (by omega) k (by omega)] at h
  simp only [Option.bind_some] at h
  by_cases c : pathOkM s.toList = true
  · rw [if_pos c] at h
    by_cases c2 : (s.size : Int) ≤ 100
    · rw [if_pos c2] at h
      obtain rfl := Option.some.inj h
      exact ⟨Nat.zero_le _, by show s.size ≤ 100; omega⟩
    · rw [if_neg c2] at h
      exact split_sizes s hs k 0 r (by decide) h hr
  · rw [if_neg c] at h
    obtain rfl := Option.some.inj h
    cases hr
/-- An octal field: its digits and a NUL. -/
def octM (n w : Int) : List UInt8 := (putB 8 n (w - 1)).1 ++ [0]
theorem octM_len (n : Int) (w : Nat) (h0 : 0 ≤ n) (h1 : n ≤ 9007199254740991) (hw : 1 ≤ w ∧ w ≤ 20) (h : n.toNat < 8 ^ w) : (octM n (((w + 1 : Nat)) : Int)).length = w + 1 := by
  unfold octM putB
  rw [show (((w + 1 : Nat)) : Int) - 1 = (w : Int) by omega, if_pos ⟨⟨⟨h0, h1⟩, ⟨by omega, by omega⟩⟩, by simpa using h⟩]
  simp [padB_length]
theorem spec_oct (n : Int) (w : Int) (hw : 1 ≤ w ∧ w ≤ 20) (k : Nat) (hk : 100 < k) : ∃ r, spec_l04Oct.f k n w = some r ∧ r.toList = octM n w := by
  obtain ⟨r, e, l⟩ := spec_putOct n (w - 1) k hk
  have hl : r.1.size ≤ 20 := by
    have : r.1.toList = (putB 8 n (w - 1)).1 := by rw [← l]
    rw [← tl_length, this]
    unfold putB
    split
    · simp only [padB_length]; omega
    · simp
  unfold spec_l04Oct.f
  rw [w64 (by omega) (by omega), e]
  simp only [Option.bind_some]
  rw [if_pos (by omega)]
  refine ⟨_, rfl, ?_⟩
  rw [tl_append, show (⟨#[0]⟩ : ByteArray).toList = [0] by rw [tl]]
  unfold octM
  rw [← l]
theorem impl_oct (n : Int) (w : Int) (hw : 1 ≤ w ∧ w ≤ 20) : ∃ r, impl_octal.f n w = some r ∧ r.toList = octM n w := by
  obtain ⟨r, e, l⟩ := impl_putOct n (w - 1)
  have hl : r.1.size ≤ 20 := by
    have : r.1.toList = (putB 8 n (w - 1)).1 := by rw [← l]
    rw [← tl_length, this]
    unfold putB
    split
    · simp only [padB_length]; omega
    · simp
  unfold impl_octal.f
  rw [w64 (by omega) (by omega), e]
  simp only [Option.bind_some]
  rw [if_pos (by omega)]
  refine ⟨_, rfl, ?_⟩
  rw [tl_append, show (⟨#[0]⟩ : ByteArray).toList = [0] by rw [tl]]
  unfold octM
  rw [← l]
theorem extract_at (h : ByteArray) (X Y Z : List UInt8) (e : h.toList = X ++ Y ++ Z) : (h.extract 0 X.length).toList = X ∧ (h.extract (X.length + Y.length) h.size).toList = Z := by
  constructor
  · rw [tl_extract, e, List.append_assoc, List.take_left, List.drop_zero]
  · rw [tl_extract, ← tl_length, List.take_length, e, ← List.length_append, List.drop_left]
theorem summed_eq (k : Nat) (hk : 356 < k) (h0 : ByteArray) (hz : h0.size ≤ 1048576) (A B : List UInt8) (hA : A.length = 148) (hB : B.length = 356) (hs : fillM h0.toList 512 = A ++ List.replicate 8 0 ++ B) :
    ∃ r, impl_summed.f k h0 = some r ∧ r.toList = A ++ (putB 8 (sumB A + 256 + sumB B) 6).1 ++ [0, 32] ++ B := by
  obtain ⟨h, eh, lh⟩ := impl_fill h0 512 hz
  rw [hs] at lh
  have sz : h.size = 512 := by rw [← tl_length, lh]; simp [hA, hB]
  obtain ⟨x1, x2⟩ := extract_at h A (List.replicate 8 0) B lh
  rw [hA] at x1
  rw [hA, List.length_replicate] at x2
  obtain ⟨s1, s2⟩ := head_parts h (by omega)
  have s3 : (h.extract 156 h.size).size = 356 := by rw [sz]; exact s2
  have hm : headSumM h = sumB A + 256 + sumB B := by
    unfold headSumM
    rw [if_neg (by omega), x1, ← sz, x2]
  obtain ⟨d, ed, ld⟩ := impl_putOct (sumB A + 256 + sumB B) 6
  have hd : d.1.toList = (putB 8 (sumB A + 256 + sumB B) 6).1 := by rw [← ld]
  have sd : d.1.size ≤ 20 := by
    rw [← tl_length, hd]
    unfold putB
    split
    · simp [padB_length]
    · simp
  unfold impl_summed.f
  rw [eh]
  simp only [Option.bind_some]
  rw [impl_headSum h (by omega) k (by omega), hm]
  simp only [Option.bind_some]
  rw [ed]
  simp only [Option.bind_some, ByteArray.size_append, s1, s3, show (⟨#[0, 32]⟩ : ByteArray).size = 2 from rfl]
  repeat rw [if_pos (by omega)]
  refine ⟨_, rfl, ?_⟩
  rw [tl_append, tl_append, tl_append, x1, x2, hd, show (⟨#[0, 32]⟩ : ByteArray).toList = [0, 32] by rw [tl]]
theorem fillM_len (l : List UInt8) (n : Int) (h : n ≤ 1024) (h2 : (l.length : Int) ≤ n) : (fillM l n).length = n.toNat := by
  unfold fillM
  split
  · omega
  · simp; omega
def headA (name : List UInt8) (mode uid gid size time : Int) : List UInt8 := fillM name 100 ++ octM mode 8 ++ octM uid 8 ++ octM gid 8 ++ octM size 12 ++ octM time 12
def headB (pre flag link user group : List UInt8) : List UInt8 := flag ++ fillM link 100 ++ [117, 115, 116, 97, 114, 0, 48, 48] ++ fillM user 32 ++ fillM group 32 ++ octM 0 8 ++ octM 0 8 ++ fillM pre 155 ++ List.replicate 12 0
def headM (A B : List UInt8) : List UInt8 := A ++ (putB 8 (sumB A + 256 + sumB B) 6).1 ++ [0, 32] ++ B
def fitsB (b : Bool) (a0 : Int) (l1 l2 : List UInt8) (a3 a4 a5 a6 : Int) (l7 l8 l9 : List UInt8) : Bool :=
  entryOkM a0 l1 l2 a3 a4 a5 a6 l7 l8 l9 && (b && (decide ((l2.length : Int) ≤ 100) && (decide (a4 ≤ 2097151) && (decide (a5 ≤ 2097151) && decide (a6 ≤ 8589934591)))))
theorem fits_ite (x b : Bool) (n a4 a5 a6 : Int) : (if x = true then (if b = true then (if n ≤ 100 then (if a4 ≤ 2097151 then (if a5 ≤ 2097151 then (some (decide (a6 ≤ 8589934591))) else (some false)) else (some false)) else (some false)) else (some false)) else (some false) : Option Bool) =
    some (x && (b && (decide (n ≤ 100) && (decide (a4 ≤ 2097151) && (decide (a5 ≤ 2097151) && decide (a6 ≤ 8589934591)))))) := by
  repeat' split
  all_goals simp [*]
theorem impl_nuls (n : Int) (h0 : 0 ≤ n) (h1 : n ≤ 1024) : ∃ r, impl_nuls.f n = some r ∧ r.toList = List.replicate n.toNat 0 := by
  unfold impl_nuls.f
  obtain ⟨r, e, l⟩ := lib_repeat 0 n h0 (by omega)
  rw [e]
  exact ⟨r, rfl, l⟩
theorem sumB_le (l : List UInt8) : 0 ≤ sumB l ∧ sumB l ≤ 255 * (l.length : Int) := sumB_bounds l
theorem head_len (l1 : List UInt8) (a3 a4 a5 a6 n : Int) (h1 : l1.length ≤ 100) (h3 : 0 ≤ a3 ∧ a3 ≤ 4095) (h4 : 0 ≤ a4 ∧ a4 ≤ 2097151) (h5 : 0 ≤ a5 ∧ a5 ≤ 2097151) (h6 : 0 ≤ a6 ∧ a6 ≤ 8589934591) (hn : 0 ≤ n ∧ n ≤ 3000) : (headA l1 a3 a4 a5 n a6).length = 148 := by
  unfold headA
  have e1 := octM_len a3 7 (by omega) (by omega) (by decide) (by omega)
  have e2 := octM_len a4 7 (by omega) (by omega) (by decide) (by omega)
  have e3 := octM_len a5 7 (by omega) (by omega) (by decide) (by omega)
  have e4 := octM_len n 11 (by omega) (by omega) (by decide) (by omega)
  have e5 := octM_len a6 11 (by omega) (by omega) (by decide) (by omega)
  simp only [List.length_append, fillM_len l1 100 (by decide) (by omega), show ((8 : Int)) = (((7 + 1 : Nat)) : Int) from rfl, show ((12 : Int)) = (((11 + 1 : Nat)) : Int) from rfl, e1, e2, e3, e4, e5]
  rfl
theorem headB_len (pre flag link user group : List UInt8) (h0 : flag.length = 1) (h1 : link.length ≤ 100) (h2 : user.length ≤ 32) (h3 : group.length ≤ 32) (h4 : pre.length ≤ 155) : (headB pre flag link user group).length = 356 := by
  unfold headB
  have e1 := octM_len 0 7 (by omega) (by omega) (by decide) (by decide)
  simp only [List.length_append, fillM_len link 100 (by decide) (by omega), fillM_len user 32 (by decide) (by omega), fillM_len group 32 (by decide) (by omega), fillM_len pre 155 (by decide) (by omega), show ((8 : Int)) = (((7 + 1 : Nat)) : Int) from rfl, e1, h0, List.length_replicate, List.length_cons, List.length_nil]
  rfl
/-- The impl's head, filled to 512, is the first part, eight NULs, the second part. -/
theorem head_filled (A pre flag link user group : List UInt8) (hA : A.length = 148) (h0 : flag.length = 1) (h1 : link.length ≤ 100) (h2 : user.length ≤ 32) (h3 : group.length ≤ 32) (h4 : pre.length ≤ 155) :
    fillM (A ++ List.replicate 8 0 ++ flag ++ fillM link 100 ++ [117, 115, 116, 97, 114, 0, 48, 48] ++ fillM user 32 ++ fillM group 32 ++ octM 0 8 ++ octM 0 8 ++ pre) 512 = A ++ List.replicate 8 0 ++ headB pre flag link user group := by
  have e1 := octM_len 0 7 (by omega) (by omega) (by decide) (by decide)
  rw [show (((7 + 1 : Nat)) : Int) = 8 from rfl] at e1
  have hl : (A ++ List.replicate 8 0 ++ flag ++ fillM link 100 ++ [117, 115, 116, 97, 114, 0, 48, 48] ++ fillM user 32 ++ fillM group 32 ++ octM 0 8 ++ octM 0 8 ++ pre).length = 345 + pre.length := by
    simp only [List.length_append, fillM_len link 100 (by decide) (by omega), fillM_len user 32 (by decide) (by omega), fillM_len group 32 (by decide) (by omega), e1, h0, hA, List.length_replicate, List.length_cons, List.length_nil]
    omega
  have hp : fillM pre 155 ++ List.replicate 12 (0 : UInt8) = pre ++ List.replicate (167 - pre.length) 0 := by
    unfold fillM
    by_cases c : (155 : Int) > 1024 ∨ (155 : Int) ≤ (pre.length : Int)
    · rw [if_pos c, show 167 - pre.length = 12 by omega]
    · rw [if_neg c, List.append_assoc, List.replicate_append_replicate, show ((155 : Int) - (pre.length : Int)).toNat + 12 = 167 - pre.length by omega]
  unfold headB
  rw [List.append_assoc _ (fillM pre 155) (List.replicate 12 0), hp]
  generalize hX : A ++ List.replicate 8 0 ++ flag ++ fillM link 100 ++ [117, 115, 116, 97, 114, 0, 48, 48] ++ fillM user 32 ++ fillM group 32 ++ octM 0 8 ++ octM 0 8 ++ pre = X at hl ⊢
  unfold fillM at hX
  show fillM X 512 = _
  unfold fillM
  rw [if_neg (by omega), hl, show ((512 : Int) - ((345 + pre.length : Nat) : Int)).toNat = 167 - pre.length by omega, ← hX]
  simp only [List.append_assoc]
theorem putHead_main (k : Nat) (hk : 8500000 < k) (a0 : Int) (a1 a2 : ByteArray) (a3 a4 a5 a6 : Int) (a7 a8 a9 fl : ByteArray) (n : Int) (h1 : a1.size ≤ 1048576) (h2 : a2.size ≤ 100) (h7 : a7.size ≤ 20) (h8 : a8.size ≤ 20) (hf : fl.size = 1)
    (r3 : 0 ≤ a3 ∧ a3 ≤ 4095) (r4 : 0 ≤ a4 ∧ a4 ≤ 2097151) (r5 : 0 ≤ a5 ∧ a5 ≤ 2097151) (r6 : 0 ≤ a6 ∧ a6 ≤ 8589934591) (rn : 0 ≤ n ∧ n ≤ 3000) (p q : ByteArray) (b : Bool) (e1 : spec_Split.f k a1 = some (p, q, b)) (e2 : impl_Split.f k a1 = some (p, q, b)) (hp : p.size ≤ 155) (hq : q.size ≤ 100) :
    (∃ r, spec_PutHead.j0 (k + 1) fl n false a0 a1 a2 a3 a4 a5 a6 a7 a8 a9 = some r ∧ r.toList = headM (headA q.toList a3 a4 a5 n a6) (headB p.toList fl.toList a2.toList a7.toList a8.toList)) ∧
    (∃ r, impl_PutHead.j0 (k + 1) fl n false a0 a1 a2 a3 a4 a5 a6 a7 a8 a9 = some r ∧ r.toList = headM (headA q.toList a3 a4 a5 n a6) (headB p.toList fl.toList a2.toList a7.toList a8.toList)) := by
  have hA := head_len q.toList a3 a4 a5 a6 n (by rw [tl_length]; exact hq) r3 r4 r5 r6 rn
  have hB := headB_len p.toList fl.toList a2.toList a7.toList a8.toList (by rw [tl_length]; exact hf) (by rw [tl_length]; exact h2) (by rw [tl_length]; omega) (by rw [tl_length]; omega) (by rw [tl_length]; exact hp)
  have hmag : (⟨#[117, 115, 116, 97, 114, 0, 48, 48]⟩ : ByteArray).toList = [117, 115, 116, 97, 114, 0, 48, 48] := by rw [tl]
  have smag : (⟨#[117, 115, 116, 97, 114, 0, 48, 48]⟩ : ByteArray).size = 8 := rfl
  have ob : ∀ (x w : Int), w ≤ 20 → (octM x w).length ≤ 21 := fun x w hw => by
    unfold octM putB
    split
    · simp [padB_length]; omega
    · simp
  have fb : ∀ (l : List UInt8) (x : Int), x ≤ 1024 → (fillM l x).length ≤ l.length + 1024 := fun l x hx => by
    unfold fillM
    split
    · omega
    · simp; omega
  constructor
  · obtain ⟨t1, et1, lt1⟩ := spec_fill q 100 (by omega) k (by omega)
    have st1 : t1.size ≤ 2000 := by have := fb q.toList 100 (by decide); rw [← tl_length, lt1]; have := tl_length q; omega
    obtain ⟨t2, et2, lt2⟩ := spec_oct (a3) 8 (by decide) k (by omega)
    have st2 : t2.size ≤ 21 := by have := ob (a3) 8 (by decide); rw [← tl_length, lt2]; exact this
    obtain ⟨t3, et3, lt3⟩ := spec_oct (a4) 8 (by decide) k (by omega)
    have st3 : t3.size ≤ 21 := by have := ob (a4) 8 (by decide); rw [← tl_length, lt3]; exact this
    obtain ⟨t4, et4, lt4⟩ := spec_oct (a5) 8 (by decide) k (by omega)
    have st4 : t4.size ≤ 21 := by have := ob (a5) 8 (by decide); rw [← tl_length, lt4]; exact this
    obtain ⟨t5, et5, lt5⟩ := spec_oct (n) 12 (by decide) k (by omega)
    have st5 : t5.size ≤ 21 := by have := ob (n) 12 (by decide); rw [← tl_length, lt5]; exact this
    obtain ⟨t6, et6, lt6⟩ := spec_oct (a6) 12 (by decide) k (by omega)
    have st6 : t6.size ≤ 21 := by have := ob (a6) 12 (by decide); rw [← tl_length, lt6]; exact this
    obtain ⟨u1, eu1, lu1⟩ := spec_fill a2 100 (by omega) k (by omega)
    have su1 : u1.size ≤ 2000 := by have := fb a2.toList 100 (by decide); rw [← tl_length, lu1]; have := tl_length a2; omega
    obtain ⟨u2, eu2, lu2⟩ := spec_fill a7 32 (by omega) k (by omega)
    have su2 : u2.size ≤ 2000 := by have := fb a7.toList 32 (by decide); rw [← tl_length, lu2]; have := tl_length a7; omega
    obtain ⟨u3, eu3, lu3⟩ := spec_fill a8 32 (by omega) k (by omega)
    have su3 : u3.size ≤ 2000 := by have := fb a8.toList 32 (by decide); rw [← tl_length, lu3]; have := tl_length a8; omega
    obtain ⟨u4, eu4, lu4⟩ := spec_oct (0) 8 (by decide) k (by omega)
    have su4 : u4.size ≤ 21 := by have := ob (0) 8 (by decide); rw [← tl_length, lu4]; exact this
    obtain ⟨u5, eu5, lu5⟩ := spec_fill p 155 (by omega) k (by omega)
    have su5 : u5.size ≤ 2000 := by have := fb p.toList 155 (by decide); rw [← tl_length, lu5]; have := tl_length p; omega
    obtain ⟨u6, eu6, lu6⟩ := spec_nuls 12 (by decide) (by decide) k (by omega)
    have su6 : u6.size ≤ 12 := by rw [← tl_length, lu6]; simp
    have lA : (((((t1 ++ t2) ++ t3) ++ t4) ++ t5) ++ t6).toList = headA q.toList a3 a4 a5 n a6 := by simp only [tl_append, lt1, lt2, lt3, lt4, lt5, lt6]; rfl
    have lB : ((((((((fl ++ u1) ++ (⟨#[117, 115, 116, 97, 114, 0, 48, 48]⟩ : ByteArray)) ++ u2) ++ u3) ++ u4) ++ u4) ++ u5) ++ u6).toList = headB p.toList fl.toList a2.toList a7.toList a8.toList := by simp only [tl_append, lu1, lu2, lu3, lu4, lu5, lu6, hmag]; rfl
    have zA : (((((t1 ++ t2) ++ t3) ++ t4) ++ t5) ++ t6).size = 148 := by rw [← tl_length, lA]; exact hA
    have zB : ((((((((fl ++ u1) ++ (⟨#[117, 115, 116, 97, 114, 0, 48, 48]⟩ : ByteArray)) ++ u2) ++ u3) ++ u4) ++ u4) ++ u5) ++ u6).size = 356 := by rw [← tl_length, lB]; exact hB
    have qA := spec_sum _ (by rw [zA]; decide) k (by rw [zA]; omega : (((((t1 ++ t2) ++ t3) ++ t4) ++ t5) ++ t6).size < k)
    have qB := spec_sum _ (by rw [zB]; decide) k (by rw [zB]; omega : ((((((((fl ++ u1) ++ (⟨#[117, 115, 116, 97, 114, 0, 48, 48]⟩ : ByteArray)) ++ u2) ++ u3) ++ u4) ++ u4) ++ u5) ++ u6).size < k)
    rw [lA] at qA
    rw [lB] at qB
    have bA := sumB_le (headA q.toList a3 a4 a5 n a6)
    have bB := sumB_le (headB p.toList fl.toList a2.toList a7.toList a8.toList)
    rw [hA] at bA
    rw [hB] at bB
    obtain ⟨d, ed, ld⟩ := spec_putOct (sumB (headA q.toList a3 a4 a5 n a6) + 256 + sumB (headB p.toList fl.toList a2.toList a7.toList a8.toList)) 6 k (by omega)
    have hd : d.1.toList = (putB 8 (sumB (headA q.toList a3 a4 a5 n a6) + 256 + sumB (headB p.toList fl.toList a2.toList a7.toList a8.toList)) 6).1 := by rw [← ld]
    have sd : d.1.size ≤ 20 := by
      rw [← tl_length, hd]
      unfold putB
      split
      · simp [padB_length]
      · simp
    simp only [spec_PutHead.j0, Bool.false_eq_true, if_false]
    rw [e1]
    simp only [Option.bind_some]
    unfold spec_l04Head.f
    simp only [et1, et2, et3, et4, et5, et6, eu1, eu2, eu3, eu4, eu5, eu6, Option.bind_some]
    rw [qA, qB]
    simp only [Option.bind_some]
    rw [w64 (n := sumB (headA q.toList a3 a4 a5 n a6) + 256) (by omega) (by omega), w64 (by omega) (by omega), ed]
    clear qA qB bA bB ed ld hA hB et1 et2 et3 et4 et5 et6 eu1 eu2 eu3 eu4 eu5 eu6 e1 e2 ob fb
    simp only [Option.bind_some, zA, zB]
    simp only [ByteArray.size_append, smag, hf, show (⟨#[0, 32]⟩ : ByteArray).size = 2 from rfl] at zA zB ⊢
    repeat rw [if_pos (by omega)]
    refine ⟨_, rfl, ?_⟩
    rw [tl_append, tl_append, tl_append, lA, lB, hd, show (⟨#[0, 32]⟩ : ByteArray).toList = [0, 32] by rw [tl]]
    rfl
  · obtain ⟨t1, et1, lt1⟩ := impl_fill q 100 (by omega)
    have st1 : t1.size ≤ 2000 := by have := fb q.toList 100 (by decide); rw [← tl_length, lt1]; have := tl_length q; omega
    obtain ⟨t2, et2, lt2⟩ := impl_oct (a3) 8 (by decide)
    have st2 : t2.size ≤ 21 := by have := ob (a3) 8 (by decide); rw [← tl_length, lt2]; exact this
    obtain ⟨t3, et3, lt3⟩ := impl_oct (a4) 8 (by decide)
    have st3 : t3.size ≤ 21 := by have := ob (a4) 8 (by decide); rw [← tl_length, lt3]; exact this
    obtain ⟨t4, et4, lt4⟩ := impl_oct (a5) 8 (by decide)
    have st4 : t4.size ≤ 21 := by have := ob (a5) 8 (by decide); rw [← tl_length, lt4]; exact this
    obtain ⟨t5, et5, lt5⟩ := impl_oct (n) 12 (by decide)
    have st5 : t5.size ≤ 21 := by have := ob (n) 12 (by decide); rw [← tl_length, lt5]; exact this
    obtain ⟨t6, et6, lt6⟩ := impl_oct (a6) 12 (by decide)
    have st6 : t6.size ≤ 21 := by have := ob (a6) 12 (by decide); rw [← tl_length, lt6]; exact this
    obtain ⟨u1, eu1, lu1⟩ := impl_fill a2 100 (by omega)
    have su1 : u1.size ≤ 2000 := by have := fb a2.toList 100 (by decide); rw [← tl_length, lu1]; have := tl_length a2; omega
    obtain ⟨u2, eu2, lu2⟩ := impl_fill a7 32 (by omega)
    have su2 : u2.size ≤ 2000 := by have := fb a7.toList 32 (by decide); rw [← tl_length, lu2]; have := tl_length a7; omega
    obtain ⟨u3, eu3, lu3⟩ := impl_fill a8 32 (by omega)
    have su3 : u3.size ≤ 2000 := by have := fb a8.toList 32 (by decide); rw [← tl_length, lu3]; have := tl_length a8; omega
    obtain ⟨u4, eu4, lu4⟩ := impl_oct (0) 8 (by decide)
    have su4 : u4.size ≤ 21 := by have := ob (0) 8 (by decide); rw [← tl_length, lu4]; exact this
    obtain ⟨u6, eu6, lu6⟩ : ∃ r, impl_nuls.f 8 = some r ∧ r.toList = List.replicate 8 0 := impl_nuls 8 (by decide) (by decide)
    have su6 : u6.size ≤ 12 := by rw [← tl_length, lu6]; simp
    have lX : (((((((((((((t1 ++ t2) ++ t3) ++ t4) ++ t5) ++ t6) ++ u6) ++ fl) ++ u1) ++ (⟨#[117, 115, 116, 97, 114, 0, 48, 48]⟩ : ByteArray)) ++ u2) ++ u3) ++ u4) ++ u4 ++ p).toList = headA q.toList a3 a4 a5 n a6 ++ List.replicate 8 0 ++ fl.toList ++ fillM a2.toList 100 ++ [117, 115, 116, 97, 114, 0, 48, 48] ++ fillM a7.toList 32 ++ fillM a8.toList 32 ++ octM 0 8 ++ octM 0 8 ++ p.toList := by simp only [tl_append, lt1, lt2, lt3, lt4, lt5, lt6, lu1, lu2, lu3, lu4, lu6, hmag]; rfl
    have hF := head_filled (headA q.toList a3 a4 a5 n a6) p.toList fl.toList a2.toList a7.toList a8.toList hA (by rw [tl_length]; exact hf) (by rw [tl_length]; exact h2) (by rw [tl_length]; omega) (by rw [tl_length]; omega) (by rw [tl_length]; exact hp)
    rw [← lX] at hF
    obtain ⟨r, er, lr⟩ := summed_eq k (by omega) _ (by simp only [ByteArray.size_append, smag, hf]; omega) _ _ hA hB hF
    have lr' := lr
    simp only [impl_PutHead.j0, Bool.false_eq_true, if_false]
    rw [e2]
    simp only [et1, et2, et3, et4, et5, et6, eu1, eu2, eu3, eu4, eu6, er, Option.bind_some]
    clear hF lX er lr et1 et2 et3 et4 et5 et6 eu1 eu2 eu3 eu4 eu6 e1 e2 ob fb hA hB
    simp only [ByteArray.size_append, smag, hf]
    repeat rw [if_pos (by omega)]
    exact ⟨r, rfl, lr'⟩
theorem putHead_same (k : Nat) (hk : 8500010 < k) (a0 : Int) (a1 a2 : ByteArray) (a3 a4 a5 a6 : Int) (a7 a8 a9 fl : ByteArray) (n : Int) (h1 : a1.size ≤ 1048576) (h2 : a2.size ≤ 1048576) (h7 : a7.size ≤ 1048576) (h8 : a8.size ≤ 1048576) :
    ∃ r r', spec_PutHead.f k a0 a1 a2 a3 a4 a5 a6 a7 a8 a9 fl n = some r ∧ impl_PutHead.f k a0 a1 a2 a3 a4 a5 a6 a7 a8 a9 fl n = some r' ∧ r'.toList = r.toList := by
  obtain ⟨k, rfl⟩ : ∃ m, k = m + 1 := ⟨k - 1, by omega⟩
  obtain ⟨⟨p, q, b⟩, e1, e2⟩ := split_same a1 h1 k (by omega)
  have e1' := spec_Split.mono a1 k _ e1
  have e2' := impl_Split.mono a1 k _ e2
  have f1 : spec_UstarFits.f (k + 1) a0 a1 a2 a3 a4 a5 a6 a7 a8 a9 = some (fitsB b a0 a1.toList a2.toList a3 a4 a5 a6 a7.toList a8.toList a9.toList) := by
    unfold spec_UstarFits.f fitsB
    rw [e1']
    simp only [Option.bind_some]
    rw [spec_entryOk (k + 1) (by omega) a0 a1 a2 a3 a4 a5 a6 a7 a8 a9 h1 h2 h7 h8]
    simp only [Option.bind_some]
    rw [fits_ite, tl_length]
  have f2 : impl_UstarFits.f (k + 1) a0 a1 a2 a3 a4 a5 a6 a7 a8 a9 = some (fitsB b a0 a1.toList a2.toList a3 a4 a5 a6 a7.toList a8.toList a9.toList) := by
    unfold impl_UstarFits.f fitsB
    rw [e2']
    simp only [Option.bind_some]
    rw [impl_entryOk (k + 1) (by omega) a0 a1 a2 a3 a4 a5 a6 a7 a8 a9 h1 h2 h7 h8]
    simp only [Option.bind_some]
    rw [fits_ite, tl_length]
  have s1 : spec_PutHead.j0 (k + 1) fl n true a0 a1 a2 a3 a4 a5 a6 a7 a8 a9 = some (⟨#[]⟩ : ByteArray) := by simp [spec_PutHead.j0]
  have s2 : impl_PutHead.j0 (k + 1) fl n true a0 a1 a2 a3 a4 a5 a6 a7 a8 a9 = some (⟨#[]⟩ : ByteArray) := by simp [impl_PutHead.j0]
  unfold spec_PutHead.f impl_PutHead.f
  rw [f1, f2]
  simp only [Option.bind_some]
  cases c : fitsB b a0 a1.toList a2.toList a3 a4 a5 a6 a7.toList a8.toList a9.toList with
  | false =>
    rw [if_neg (by decide), if_neg (by decide), s1, s2]
    exact ⟨_, _, rfl, rfl, rfl⟩
  | true =>
    rw [if_pos rfl, if_pos rfl]
    by_cases cf : (fl.size : Int) = 1
    case neg =>
      rw [if_neg cf, if_neg cf, s1, s2]
      exact ⟨_, _, rfl, rfl, rfl⟩
    rw [if_pos cf, if_pos cf, in_eq, within_eq]
    simp only [Option.bind_some]
    by_cases cn : 0 ≤ n ∧ n ≤ 3000
    case neg =>
      rw [decide_eq_false cn]
      simp only [Bool.not_false]
      rw [s1, s2]
      exact ⟨_, _, rfl, rfl, rfl⟩
    rw [decide_eq_true cn]
    simp only [Bool.not_true]
    unfold fitsB entryOkM userM at c
    simp only [Bool.and_eq_true, decide_eq_true_eq] at c
    obtain ⟨⟨⟨_, c3, c4, c5, c6, ⟨c7, _⟩, c8, _⟩, _⟩, cb, cl, d4, d5, d6⟩ := c
    obtain ⟨hp, hq⟩ := split_size a1 h1 k (by omega) (p, q, b) e1 cb
    rw [tl_length] at cl c7 c8
    obtain ⟨⟨r, er, lr⟩, r', er', lr'⟩ := putHead_main k (by omega) a0 a1 a2 a3 a4 a5 a6 a7 a8 a9 fl n h1 (by omega) c7 c8 (by omega) c3 ⟨c4.1, d4⟩ ⟨c5.1, d5⟩ ⟨c6.1, d6⟩ cn p q b e1 e2 hp hq
    exact ⟨r, r', er, er', lr'.trans lr.symm⟩

theorem FnExactPutHead : ∀ (a0_0 : Int) (a0_1 : ByteArray) (a0_2 : ByteArray) (a0_3 : Int) (a0_4 : Int) (a0_5 : Int) (a0_6 : Int) (a0_7 : ByteArray) (a0_8 : ByteArray) (a0_9 : ByteArray) (a1 : ByteArray) (a2 : Int), (Lit.int .i64 a0_0).wf = true → a0_1.size ≤ 9223372036854775807 → a0_2.size ≤ 9223372036854775807 → (Lit.int .i64 a0_3).wf = true → (Lit.int .i64 a0_4).wf = true → (Lit.int .i64 a0_5).wf = true → (Lit.int .i64 a0_6).wf = true → a0_7.size ≤ 9223372036854775807 → a0_8.size ≤ 9223372036854775807 → a0_9.size ≤ 9223372036854775807 → a1.size ≤ 140737488351232 → (Lit.int .i64 a2).wf = true → ∃ k, laws_FnExactPutHead.f k a0_0 a0_1 a0_2 a0_3 a0_4 a0_5 a0_6 a0_7 a0_8 a0_9 a1 a2 = some true := by
  intro a0 a1 a2 a3 a4 a5 a6 a7 a8 a9 fl n _ z1 z2 _ _ _ _ z7 z8 z9 zf wn
  refine ⟨8500011, ?_⟩
  unfold laws_FnExactPutHead.f
  by_cases cz : (fl.size : Int) > 1048576
  · rw [if_pos cz]
  rw [if_neg cz]
  obtain ⟨r, hr, h⟩ := sz_plain a0 a1 a2 a3 a4 a5 a6 a7 a8 a9 ⟨z1, z2, z7, z8, z9⟩ 1048576 (by omega) (by omega)
  rw [hr]
  simp only [Option.bind_some]
  rcases h with h | ⟨h0, h1⟩
  · rw [if_pos h]
  · rw [if_neg (by omega)]
    simp only [laws_toEntry.f, Option.bind_some]
    obtain ⟨r, r', e1, e2, l⟩ := putHead_same 8500011 (by omega) a0 a1 a2 a3 a4 a5 a6 a7 a8 a9 fl n (by omega) (by omega) (by omega) (by omega)
    rw [e1, e2]
    simp only [Option.bind_some]
    rw [if_pos l]

end Go.Proofs.YtgmggpgcfonmgaaDoor.Pure
