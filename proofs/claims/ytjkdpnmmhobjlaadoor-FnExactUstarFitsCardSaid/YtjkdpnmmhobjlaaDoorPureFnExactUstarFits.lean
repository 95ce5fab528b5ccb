/-
The pure statement of the law FnExactUstarFits (numbers, byte strings and lists; no Go and no memory): the printed law's function answers true. Conditions: those of the printed statement (each string at most 2^47 - 4096 bytes, each number of its kind).
-/
import Derived.Test.YtjkdpnmmhobjlaaDoorPFnExactUstarFitsx6
import Derived.Test.YtjkdpnmmhobjlaaDoorCore
namespace Go.Proofs.YtjkdpnmmhobjlaaDoor.Pure
open Go.RowKit Go.Proofs.YtjkdpnmmhobjlaaDoor.PFnExactUstarFits Go.Proofs.YtjkdpnmmhobjlaaDoorW.PrintWords Go.Proofs.YtjkdpnmmhobjlaaDoorW.PrintLast Go.Proofs.YtjkdpnmmhobjlaaDoor.Core

theorem sz_plain (a0 : Int) (a1 a2 : ByteArray) (a3 a4 a5 a6 : Int) (a7 a8 a9 : ByteArray) (h : a1.size ≤ 9223372036854775807 ∧ a2.size ≤ 9223372036854775807 ∧ a7.size ≤ 9223372036854775807 ∧ a8.size ≤ 9223372036854775807 ∧ a9.size ≤ 9223372036854775807) (left : Int) (h0 : 0 ≤ left) (h1 : left ≤ 1048576) : ∃ r, laws_szEntry.f a0 a1 a2 a3 a4 a5 a6 a7 a8 a9 left = some r ∧ (r < 0 ∨ (0 ≤ r ∧ ((a1.size + a2.size + a7.size + a8.size + a9.size : Nat) : Int) = left - r)) := by
  obtain ⟨b1, b2, b7, b8, b9⟩ := h
  unfold laws_szEntry.f
  rw [w64 (n := left - (a1.size : Int)) (by omega) (by omega)]
  by_cases c1 : left - (a1.size : Int) < 0
  · rw [if_pos c1]; exact ⟨_, rfl, .inl (by omega)⟩
  rw [if_neg c1, w64 (n := left - (a1.size : Int) - (a2.size : Int)) (by omega) (by omega)]
  by_cases c2 : left - (a1.size : Int) - (a2.size : Int) < 0
  · rw [if_pos c2]; exact ⟨_, rfl, .inl (by omega)⟩
  rw [if_neg c2, w64 (n := left - (a1.size : Int) - (a2.size : Int) - (a7.size : Int)) (by omega) (by omega)]
  by_cases c3 : left - (a1.size : Int) - (a2.size : Int) - (a7.size : Int) < 0
  · rw [if_pos c3]; exact ⟨_, rfl, .inl (by omega)⟩
  rw [if_neg c3, w64 (n := left - (a1.size : Int) - (a2.size : Int) - (a7.size : Int) - (a8.size : Int)) (by omega) (by omega)]
  by_cases c4 : left - (a1.size : Int) - (a2.size : Int) - (a7.size : Int) - (a8.size : Int) < 0
  · rw [if_pos c4]; exact ⟨_, rfl, .inl (by omega)⟩
  rw [if_neg c4, w64 (n := left - (a1.size : Int) - (a2.size : Int) - (a7.size : Int) - (a8.size : Int) - (a9.size : Int)) (by omega) (by omega)]
  by_cases c5 : left - (a1.size : Int) - (a2.size : Int) - (a7.size : Int) - (a8.size : Int) - (a9.size : Int) < 0
  · rw [if_pos c5]; exact ⟨_, rfl, .inl (by omega)⟩
  rw [if_neg c5]
  exact ⟨_, rfl, .inr ⟨by omega, by omega⟩⟩

/-! ### A byte's first place, and the texts between its places -/
theorem bt_mid {s : ByteArray} {pre t : List UInt8} {b : UInt8} (h : s.toList = pre ++ b :: t) : bt s (pre.length : Int) = (b.toNat : Int) := by
  have hs : s.size = pre.length + (t.length + 1) := by rw [← tl_length, h]; simp
  rw [bt_get s pre.length (by omega)]
  congr 2
  simp [h]
theorem size_mid {s : ByteArray} {pre t : List UInt8} (h : s.toList = pre ++ t) : s.size = pre.length + t.length := by
  rw [← tl_length, h]; simp
theorem u8_eq {b : UInt8} {c : UInt8} : ((b.toNat : Int) = (c.toNat : Int)) ↔ b = c := by
  constructor
  · intro h
    exact UInt8.toNat_inj.1 (by omega)
  · rintro rfl
    rfl
theorem ext_mid {s : ByteArray} {pre p t : List UInt8} (h : s.toList = pre ++ (p ++ t)) : (s.extract pre.length (pre.length + p.length)).toList = p := by
  rw [tl_extract, h, ← List.append_assoc]
  rw [List.take_left' (by simp)]
  simp
theorem ext_end {s : ByteArray} {pre p : List UInt8} (h : s.toList = pre ++ p) : (s.extract pre.length s.size).toList = p := by
  rw [tl_extract, ← tl_length, h]
  rw [List.take_of_length_le (Nat.le_refl _)]
  simp
/-- A byte's first place: there is none, or the text falls in two there. -/
theorem index_span (c : UInt8) : ∀ l : List UInt8, (c ∉ l ∧ Lib.indexByte l c = -1) ∨ ∃ a b, l = a ++ c :: b ∧ c ∉ a ∧ Lib.indexByte l c = (a.length : Int)
  | [] => Or.inl ⟨by simp, rfl⟩
  | x :: l => by
    by_cases h : x = c
    · subst h
      exact Or.inr ⟨[], l, rfl, by simp, by simp [Lib.indexByte]⟩
    · rcases index_span c l with ⟨h1, h2⟩ | ⟨a, b, h1, h2, h3⟩
      · refine Or.inl ⟨?_, ?_⟩
        · simp only [List.mem_cons, not_or]
          exact ⟨fun e => h e.symm, h1⟩
        · simp [Lib.indexByte, h, h2]
      · refine Or.inr ⟨x :: a, b, by simp [h1], ?_, ?_⟩
        · simp only [List.mem_cons, not_or]
          exact ⟨fun e => h e.symm, h2⟩
        · simp only [Lib.indexByte]
          have h' : (x == c) = false := by simpa using h
          simp only [h', h3]
          simp
          try omega

/-- The texts between the places of a byte. -/
def splitA (c : UInt8) : List UInt8 → List UInt8 → List (List UInt8)
  | p, [] => [p]
  | p, b :: t => if b = c then p :: splitA c [] t else splitA c (p ++ [b]) t
theorem splitA_none (c : UInt8) : ∀ (t p : List UInt8), c ∉ t → splitA c p t = [p ++ t]
  | [], p, _ => by simp [splitA]
  | b :: t, p, h => by
    simp only [List.mem_cons, not_or] at h
    simp only [splitA]
    rw [if_neg (fun e => h.1 e.symm), splitA_none c t _ h.2]
    simp
theorem splitA_span (c : UInt8) (b : List UInt8) : ∀ (a p : List UInt8), c ∉ a → splitA c p (a ++ c :: b) = (p ++ a) :: splitA c [] b
  | [], p, _ => by simp [splitA]
  | x :: a, p, h => by
    simp only [List.mem_cons, not_or] at h
    simp only [List.cons_append, splitA]
    rw [if_neg (fun e => h.1 e.symm), splitA_span c b a _ h.2]
    simp
theorem splitA_length (c : UInt8) : ∀ (t p : List UInt8), (splitA c p t).length = t.count c + 1
  | [], p => by simp [splitA]
  | b :: t, p => by
    simp only [splitA]
    by_cases h : b = c
    · rw [if_pos h, List.length_cons, splitA_length c t, h, List.count_cons_self]
    · rw [if_neg h, splitA_length c t, List.count_cons_of_ne h]
theorem splitA_le (c : UInt8) (t p : List UInt8) : (splitA c p t).length ≤ t.length + 1 := by
  rw [splitA_length]
  have : t.count c ≤ t.length := List.count_le_length
  omega
theorem splitA_mem (c : UInt8) : ∀ (t p x : List UInt8), x ∈ splitA c p t → x.length ≤ p.length + t.length
  | [], p, x, h => by
    simp only [splitA, List.mem_singleton] at h
    subst h
    simp
  | b :: t, p, x, h => by
    simp only [splitA] at h
    by_cases hb : b = c
    · rw [if_pos hb] at h
      rcases List.mem_cons.1 h with h | h
      · subst h
        omega
      · have := splitA_mem c t [] x h
        simp only [List.length_nil, List.length_cons] at *
        omega
    · rw [if_neg hb] at h
      have := splitA_mem c t _ x h
      simp only [List.length_append, List.length_cons, List.length_nil] at *
      omega
def sumLen : List (List UInt8) → Nat
  | [] => 0
  | x :: l => x.length + sumLen l
theorem splitA_sum (c : UInt8) : ∀ (t p : List UInt8), sumLen (splitA c p t) + (splitA c p t).length = p.length + t.length + 1
  | [], p => by simp [splitA, sumLen]
  | b :: t, p => by
    simp only [splitA]
    by_cases h : b = c
    · rw [if_pos h]
      have := splitA_sum c t []
      simp only [sumLen, List.length_cons, List.length_nil] at *
      omega
    · rw [if_neg h]
      have := splitA_sum c t (p ++ [b])
      simp only [List.length_append, List.length_cons, List.length_nil] at *
      omega

theorem idx_one (s : ByteArray) (c : UInt8) : strings_Index.f s (⟨#[c]⟩ : ByteArray) = some (Lib.indexByte s.toList c) := by
  unfold strings_Index.f stringslite_Index.f
  rw [if_pos (show (⟨#[c]⟩ : ByteArray).size = 1 from rfl), tl]
  rfl
theorem take_set_map (a : List ByteArray) (i : Nat) (x : ByteArray) (h : i < a.length) : ((a.set i x).take (i + 1)).map ByteArray.toList = (a.take i).map ByteArray.toList ++ [x.toList] := by
  rw [List.take_set, List.take_add_one, List.getElem?_eq_getElem h]
  rw [List.set_append_right _ _ (by simp; omega)]
  simp only [List.length_take, Option.toList_some, List.map_append]
  rw [show i - min i a.length = 0 by omega]
  simp
theorem genSplit_loop (c : UInt8) (n : Int) (hn : n ≤ 4194304) : ∀ (d : Nat) (s : ByteArray) (a : List ByteArray) (i k : Nat), s.toList.count c = d → n = (i : Int) + d → (a.length : Int) = n + 1 → s.size ≤ 4194304 → d < k →
    ∃ r, strings_genSplit.l0 k s (⟨#[c]⟩ : ByteArray) 0 n a (i : Int) = some r ∧ r.map ByteArray.toList = (a.take i).map ByteArray.toList ++ splitA c [] s.toList := by
  intro d
  induction d with
  | zero =>
    intro s a i k hd hi ha hs hk
    obtain ⟨k, rfl⟩ : ∃ m, k = m + 1 := ⟨k - 1, by omega⟩
    unfold strings_genSplit.l0
    rw [if_neg (by omega), if_pos (by omega), if_pos (by omega), w64 (by omega) (by omega), if_pos (by omega), if_pos (by omega)]
    refine ⟨_, rfl, ?_⟩
    rw [splitA_none c _ _ (List.count_eq_zero.1 hd), show ((i : Int) + 1).toNat = i + 1 by omega, Int.toNat_natCast, take_set_map _ _ _ (by omega)]
    simp
  | succ d ih =>
    intro s a i k hd hi ha hs hk
    obtain ⟨k, rfl⟩ : ∃ m, k = m + 1 := ⟨k - 1, by omega⟩
    unfold strings_genSplit.l0
    rw [if_pos (by omega), idx_one]
    simp only [Option.bind_some]
    rcases index_span c s.toList with ⟨h1, h2⟩ | ⟨p, t, h1, h2, h3⟩
    · rw [List.count_eq_zero.2 h1] at hd
      omega
    · have hz := size_mid h1
      simp only [List.length_cons] at hz
      have e1 : ((⟨#[c]⟩ : ByteArray).size : Int) = 1 := rfl
      rw [h3, e1, w64 (n := (p.length : Int) + 0) (by omega) (by omega), w64 (n := (p.length : Int) + 1) (by omega) (by omega), w64 (n := (i : Int) + 1) (by omega) (by omega)]
      rw [if_neg (by omega), if_pos (by omega), if_pos (by omega), if_pos (by omega), if_pos (by omega), if_pos (by omega), if_pos (by omega)]
      have ht : (s.extract ((p.length : Int) + 1).toNat s.size).toList = t := by
        rw [show ((p.length : Int) + 1).toNat = (p ++ [c]).length by simp only [List.length_append, List.length_cons, List.length_nil]; omega]
        exact ext_end (by simp [h1])
      have hp : (s.extract 0 ((p.length : Int) + 0).toNat).toList = p := by
        rw [tl_extract, h1]
        simp
      obtain ⟨r, e, l⟩ := ih (s.extract ((p.length : Int) + 1).toNat s.size) (a.set i (s.extract 0 ((p.length : Int) + 0).toNat)) (i + 1) k (by
        rw [ht]
        rw [h1, List.count_append, List.count_cons_self, List.count_eq_zero.2 h2] at hd
        omega) (by omega) (by simp only [List.length_set]; omega) (by
        rw [ByteArray.size_extract]
        omega) (by omega)
      refine ⟨r, ?_, ?_⟩
      · rw [← e]
        congr 1
      · rw [l, take_set_map _ _ _ (by omega), ht, hp, h1, splitA_span c t p [] h2]
        simp
theorem count_one (c : UInt8) (s : ByteArray) : strings_Count.f s (⟨#[c]⟩ : ByteArray) = some ((s.toList.count c : Nat) : Int) := by
  unfold strings_Count.f
  rw [if_pos (show (⟨#[c]⟩ : ByteArray).size = 1 from rfl), tl]
  rfl
theorem genSplit_j (c : UInt8) (s : ByteArray) (hs : s.size ≤ 4194304) (k n : Nat) (hn : s.toList.count c = n) (hc : n ≤ s.size) (hk : s.size + 2 < k) : ∃ r, strings_genSplit.j0 k s (⟨#[c]⟩ : ByteArray) 0 ((n : Int) + 1) = some r ∧ r.map ByteArray.toList = splitA c [] s.toList := by
  obtain ⟨k, rfl⟩ : ∃ m, k = m + 1 := ⟨k - 1, by omega⟩
  have hm : mn ((n : Int) + 1) (wrap64 ((s.size : Int) + 1)) = (n : Int) + 1 := by
    rw [w64 (by omega) (by omega)]
    unfold mn
    omega
  have hr : (List.replicate ((n : Int) + 1).toNat (⟨#[]⟩ : ByteArray)).length = n + 1 := by
    rw [List.length_replicate]
    omega
  simp only [strings_genSplit.j0, hm]
  generalize List.replicate ((n : Int) + 1).toNat (⟨#[]⟩ : ByteArray) = a at *
  rw [if_pos (by omega), if_pos (by omega), w64 (by omega) (by omega)]
  obtain ⟨r, e1, l⟩ := genSplit_loop c ((n : Int) + 1 - 1) (by omega) n s a 0 k hn (by omega) (by omega) hs (by omega)
  refine ⟨r, ?_, by simpa using l⟩
  simpa using e1
theorem split_one (c : UInt8) (s : ByteArray) (hs : s.size ≤ 4194304) (k : Nat) (hk : s.size + 2 < k) : ∃ r, strings_Split.f k s (⟨#[c]⟩ : ByteArray) = some r ∧ r.map ByteArray.toList = splitA c [] s.toList := by
  have hc : s.toList.count c ≤ s.size := by rw [← tl_length]; exact List.count_le_length
  obtain ⟨r, e, l⟩ := genSplit_j c s hs k _ rfl hc hk
  refine ⟨r, ?_, l⟩
  have hne : ¬ (⟨#[c]⟩ : ByteArray).toList = [] := by
    rw [tl]
    exact List.cons_ne_nil _ _
  unfold strings_Split.f strings_genSplit.f
  rw [if_neg (show ¬ (-1 : Int) = 0 by decide), if_neg hne, if_pos (show (-1 : Int) < 0 by decide), count_one]
  simp only [Option.bind_some]
  rw [w64 (by omega) (by omega), e]
  simp only [Option.bind_some]

theorem spec_parts_loop (s : ByteArray) (hs : s.size ≤ 4194304) : ∀ (t pre p : List UInt8) (out : List ByteArray) (k : Nat), s.toList = pre ++ (p ++ t) → out.length ≤ pre.length → t.length < k →
    ∃ r, spec_Parts.l0 k s out (pre.length : Int) ((pre.length + p.length : Nat) : Int) = some r ∧ r.map ByteArray.toList = out.map ByteArray.toList ++ splitA 47 p t
  | [], pre, p, out, k, h, ho, hk => by
    obtain ⟨k, rfl⟩ : ∃ m, k = m + 1 := ⟨k - 1, by omega⟩
    have hz := size_mid h
    simp only [List.length_append, List.length_nil] at hz
    unfold spec_Parts.l0
    rw [if_neg (by omega), if_pos (by omega), if_pos (by omega), if_pos (by omega)]
    refine ⟨_, rfl, ?_⟩
    rw [Int.toNat_natCast, List.map_append, List.map_cons, List.map_nil, ext_end (p := p) (by simpa using h)]
    rfl
  | b :: t, pre, p, out, k, h, ho, hk => by
    simp only [List.length_cons] at hk
    obtain ⟨k, rfl⟩ : ∃ m, k = m + 1 := ⟨k - 1, by omega⟩
    have hz := size_mid h
    simp only [List.length_append, List.length_cons] at hz
    have hb : bt s ((pre.length + p.length : Nat) : Int) = (b.toNat : Int) := by
      have := bt_mid (s := s) (pre := pre ++ p) (b := b) (t := t) (by simp [h])
      simpa using this
    unfold spec_Parts.l0
    rw [if_pos (by omega), if_pos (by omega), hb, w64 (by omega) (by omega)]
    by_cases hc : b = 47
    · subst hc
      rw [if_pos (show (((47 : UInt8).toNat : Nat) : Int) = 47 from rfl), if_pos (by omega), if_pos (by omega), if_pos (by omega), if_pos (by omega)]
      obtain ⟨r, e, l⟩ := spec_parts_loop s hs t (pre ++ p ++ [47]) [] (out ++ [s.extract ((pre.length : Nat) : Int).toNat ((pre.length + p.length : Nat) : Int).toNat]) k (by simp [h]) (by simp; omega) (by omega)
      have a1 : (((pre ++ p ++ [47]).length : Nat) : Int) = ((pre.length + p.length : Nat) : Int) + 1 := by
        simp only [List.length_append, List.length_cons, List.length_nil]
        omega
      have a2 : (((pre ++ p ++ [47]).length + ([] : List UInt8).length : Nat) : Int) = ((pre.length + p.length : Nat) : Int) + 1 := by
        simp only [List.length_append, List.length_cons, List.length_nil]
        omega
      rw [a1, a2] at e
      refine ⟨r, e, ?_⟩
      · rw [l]
        simp only [Int.toNat_natCast, List.map_append, List.map_cons, List.map_nil, splitA]
        rw [ext_mid h]
        simp
    · rw [if_neg (fun e : (b.toNat : Int) = 47 => hc (u8_eq.1 (show (b.toNat : Int) = ((47 : UInt8).toNat : Int) from e)))]
      obtain ⟨r, e, l⟩ := spec_parts_loop s hs t pre (p ++ [b]) out k (by simp [h]) ho (by omega)
      refine ⟨r, ?_, ?_⟩
      · rw [← e]
        congr 1
        simp
        omega
      · rw [l]
        simp only [splitA]
        rw [if_neg hc]
theorem spec_parts (s : ByteArray) (hs : s.size ≤ 4194304) (k : Nat) (hk : s.size < k) : ∃ r, spec_Parts.f k s = some r ∧ r.map ByteArray.toList = splitA 47 [] s.toList := by
  obtain ⟨r, e, l⟩ := spec_parts_loop s hs s.toList [] [] [] k rfl (by simp) (by rw [tl_length]; exact hk)
  exact ⟨r, e, by simpa using l⟩
theorem impl_parts (s : ByteArray) (hs : s.size ≤ 4194304) (k : Nat) (hk : s.size + 2 < k) : ∃ r, impl_Parts.f k s = some r ∧ r.map ByteArray.toList = splitA 47 [] s.toList := by
  obtain ⟨r, e, l⟩ := split_one 47 s hs k hk
  unfold impl_Parts.f
  rw [e]
  exact ⟨r, rfl, l⟩

theorem in_eq (a b c : Int) : spec_l01In.f a b c = some (decide (b ≤ a ∧ a ≤ c)) := by
  unfold spec_l01In.f
  by_cases h : b ≤ a
  · rw [if_pos h]; simp [h]
  · rw [if_neg h]; simp [h]

theorem within_eq (a b c : Int) : impl_within.f a b c = some (decide (b ≤ a ∧ a ≤ c)) := by
  unfold impl_within.f
  by_cases h : b ≤ a
  · rw [if_pos h]; simp [h]
  · rw [if_neg h]; simp [h]

theorem allB_list (p : Int → Bool) (s : ByteArray) : allB p s = s.toList.all (fun b => p (b.toNat : Int)) := rfl

/-- Is a text a component? -/
def partOkM (l : List UInt8) : Bool := decide (1 ≤ l.length ∧ l.length ≤ 60) && (l != [46]) && (l != [46, 46]) && l.all (fun b => pPart (b.toNat : Int))
theorem spec_part_loop (s : ByteArray) (hs : s.size ≤ 140737488351232) : ∀ (d k : Nat) (i : Int), 0 ≤ i → (s.size : Int) - i = d → d < k →
    spec_PartOk.l0 k s i = some ((s.toList.drop i.toNat).all (fun b => pPart (b.toNat : Int)) && (decide (1 ≤ s.toList.length ∧ s.toList.length ≤ 60) && (s.toList != [46]) && (s.toList != [46, 46]))) := by
  intro d
  induction d with
  | zero =>
    intro k i h0 hd hk
    obtain ⟨k, rfl⟩ : ∃ m, k = m + 1 := ⟨k - 1, by omega⟩
    simp only [spec_PartOk.l0]
    rw [if_neg (by omega), List.drop_eq_nil_of_le (by rw [tl_length]; omega), in_eq]
    simp only [Option.bind_some, List.all_nil, Bool.true_and, tl_length]
    by_cases h1 : 1 ≤ s.size ∧ s.size ≤ 60
    · rw [if_pos (by simpa using ⟨by omega, by omega⟩), decide_eq_true h1]
      by_cases h2 : s.toList = [46]
      · rw [if_pos h2]; simp [h2]
      · rw [if_neg h2]; simp [h2]
    · rw [if_neg (by simp; omega), decide_eq_false h1]
      simp
  | succ d ih =>
    intro k i h0 hd hk
    obtain ⟨k, rfl⟩ : ∃ m, k = m + 1 := ⟨k - 1, by omega⟩
    simp only [spec_PartOk.l0]
    obtain ⟨b, e, hbt⟩ := bt_step s i h0 (by omega)
    have hlt := b.toNat_lt
    rw [if_pos (by omega), if_pos h0, in_eq, hbt, w64 (n := (b.toNat : Int)) (by omega) (by omega), w64 (n := i + 1) (by omega) (by omega), ih k (i + 1) (by omega) (by omega) (by omega), e]
    simp only [Option.bind_some, List.all_cons]
    by_cases h1 : 33 ≤ (b.toNat : Int) ∧ (b.toNat : Int) ≤ 126
    · rw [if_pos (by simpa using h1)]
      by_cases h2 : (b.toNat : Int) = 47
      · rw [if_pos h2]; simp [pPart, h2]
      · have hp : pPart (b.toNat : Int) = true := by
          unfold pPart
          rw [decide_eq_true h1.1, decide_eq_true h1.2, bne_iff_ne.2 h2]
          rfl
        rw [if_neg h2, hp, Bool.true_and]
    · rw [if_neg (by simpa using h1)]
      have : pPart (b.toNat : Int) = false := by
        unfold pPart
        by_cases h3 : 33 ≤ (b.toNat : Int)
        · rw [decide_eq_false (show ¬ (b.toNat : Int) ≤ 126 by omega)]; simp
        · rw [decide_eq_false h3]; simp
      rw [this]
      simp
theorem spec_partOk (s : ByteArray) (hs : s.size ≤ 140737488351232) (k : Nat) (hk : s.size < k) : spec_PartOk.f k s = some (partOkM s.toList) := by
  unfold spec_PartOk.f partOkM
  rw [spec_part_loop s hs s.size k 0 (by omega) (by omega) hk, Bool.and_comm]
  rfl
theorem impl_partOk (s : ByteArray) (hs : s.size ≤ 140737488351232) : impl_PartOk.f s = some (partOkM s.toList) := by
  unfold impl_PartOk.f partOkM
  rw [within_eq]
  simp only [Option.bind_some, tl_length]
  by_cases h1 : 1 ≤ s.size ∧ s.size ≤ 60
  · rw [if_pos (by simpa using ⟨by omega, by omega⟩), decide_eq_true h1]
    by_cases h2 : s.toList = [46]
    · rw [if_pos h2]; simp [h2]
    · rw [if_neg h2]
      by_cases h3 : s.toList = [46, 46]
      · rw [if_pos h3]; simp [h3]
      · rw [if_neg h3]
        unfold impl_areBytes.f
        rw [if_pos (by omega)]
        simp [h2, h3, allB]
  · rw [if_neg (by simp; omega), decide_eq_false h1]
    simp

/-- Is a text a path? -/
def pathOkM (l : List UInt8) : Bool := decide (l.length ≤ 200) && (splitA 47 [] l).all partOkM
theorem spec_path_loop (s : ByteArray) : ∀ (t pre : List ByteArray) (k : Nat), (∀ x ∈ t, x.size ≤ 4194304) → pre.length + t.length ≤ 100000000 → t.length + 4194310 < k →
    spec_PathOk.l0 k s (pre ++ t) (pre.length : Int) = some ((t.map ByteArray.toList).all partOkM && decide (s.toList.length ≤ 200))
  | [], pre, k, hx, hl, hk => by
    obtain ⟨k, rfl⟩ : ∃ m, k = m + 1 := ⟨k - 1, by omega⟩
    unfold spec_PathOk.l0
    rw [if_neg (by simp)]
    simp [tl_length]
    omega
  | x :: t, pre, k, hx, hl, hk => by
    simp only [List.length_cons] at hl hk
    obtain ⟨k, rfl⟩ : ∃ m, k = m + 1 := ⟨k - 1, by omega⟩
    have hs : x.size ≤ 4194304 := hx x (by simp)
    unfold spec_PathOk.l0
    have er : rdOf ByteArray.empty (pre ++ x :: t) (pre.length : Int) = x := by
      unfold rdOf
      rw [Int.toNat_natCast, List.getD_eq_getElem?_getD, List.getElem?_append_right (Nat.le_refl _)]
      simp
    rw [if_pos (by simp; omega), if_pos (by omega), er, spec_partOk x (by omega) k (by omega), w64 (by omega) (by omega)]
    simp only [Option.bind_some, List.map_cons, List.all_cons]
    have := spec_path_loop s t (pre ++ [x]) k (fun y hy => hx y (by simp [hy])) (by simp only [List.length_append, List.length_cons, List.length_nil]; omega) (by omega)
    simp only [List.length_append, List.length_cons, List.length_nil, List.append_assoc, List.singleton_append] at this
    by_cases hp : partOkM x.toList = true
    · rw [if_pos hp, show ((pre.length : Int) + 1) = ((pre.length + (0 + 1) : Nat) : Int) by omega, this, hp]
      simp
    · rw [if_neg hp]
      simp [Bool.eq_false_iff.2 hp]
theorem parts_sizes {s : ByteArray} {r : List ByteArray} (h : r.map ByteArray.toList = splitA 47 [] s.toList) : r.length ≤ s.size + 1 ∧ ∀ x ∈ r, x.size ≤ s.size := by
  constructor
  · have := congrArg List.length h
    have h3 := splitA_le 47 s.toList []
    rw [tl_length] at h3
    rw [List.length_map] at this
    omega
  · intro x hx
    have hm : x.toList ∈ splitA 47 [] s.toList := by
      rw [← h]
      exact List.mem_map_of_mem hx
    have := splitA_mem 47 _ _ _ hm
    rw [tl_length, tl_length] at this
    simpa using this
theorem spec_pathOk (s : ByteArray) (hs : s.size ≤ 4194304) (k : Nat) (hk : s.size + 4194400 < k) : spec_PathOk.f k s = some (pathOkM s.toList) := by
  obtain ⟨r, e, l⟩ := spec_parts s hs k (by omega)
  obtain ⟨h1, h2⟩ := parts_sizes l
  unfold spec_PathOk.f
  rw [e]
  simp only [Option.bind_some]
  have := spec_path_loop s r [] k (fun x hx => Nat.le_trans (h2 x hx) hs) (by simp; omega) (by omega)
  simp only [List.nil_append, List.length_nil] at this
  rw [show ((0 : Nat) : Int) = 0 from rfl] at this
  rw [this, l, Bool.and_comm]
  rfl
theorem all_parts : ∀ r : List ByteArray, (∀ x ∈ r, x.size ≤ 4194304) → allS impl_PartOk.f r = some ((r.map ByteArray.toList).all partOkM)
  | [], _ => rfl
  | x :: r, h => by
    have hx := h x (by simp)
    simp only [allS]
    rw [impl_partOk x (by omega)]
    simp only [Option.bind_some, List.map_cons, List.all_cons]
    by_cases hp : partOkM x.toList = true
    · rw [if_pos hp, all_parts r (fun y hy => h y (by simp [hy])), hp]
      simp
    · rw [if_neg hp]
      simp [Bool.eq_false_iff.2 hp]
theorem impl_pathOk (s : ByteArray) (hs : s.size ≤ 4194304) (k : Nat) (hk : s.size + 2 < k) : impl_PathOk.f k s = some (pathOkM s.toList) := by
  unfold impl_PathOk.f pathOkM
  rw [tl_length]
  by_cases h : s.size ≤ 200
  · rw [if_pos (by omega), decide_eq_true h]
    obtain ⟨r, e, l⟩ := impl_parts s hs k hk
    obtain ⟨h1, h2⟩ := parts_sizes l
    rw [e]
    simp only [Option.bind_some]
    unfold impl_areAll_string.f
    rw [if_pos rfl, all_parts r (fun x hx => Nat.le_trans (h2 x hx) hs), l]
    simp
  · rw [if_neg (by omega), decide_eq_false h]
    simp

def userM (l : List UInt8) : Bool := decide (l.length ≤ 20) && l.all (fun b => pUser (b.toNat : Int))
def signM (l : List UInt8) : Bool := l.all (fun b => pSign (b.toNat : Int))
theorem spec_who_loop (s : ByteArray) (hs : s.size ≤ 4194304) : ∀ (t pre : List UInt8) (k : Nat), s.toList = pre ++ t → t.length < k → spec_l03Who.l0 k s (pre.length : Int) = some (t.all (fun b => pUser (b.toNat : Int)) && decide (s.toList.length ≤ 20))
  | [], pre, k, h, hk => by
    obtain ⟨k, rfl⟩ : ∃ m, k = m + 1 := ⟨k - 1, by omega⟩
    have hz := size_mid h
    simp only [List.length_nil] at hz
    unfold spec_l03Who.l0
    rw [if_neg (by omega)]
    simp [tl_length]
    omega
  | b :: t, pre, k, h, hk => by
    simp only [List.length_cons] at hk
    obtain ⟨k, rfl⟩ : ∃ m, k = m + 1 := ⟨k - 1, by omega⟩
    have hz := size_mid h
    simp only [List.length_cons] at hz
    have hlt := b.toNat_lt
    have ih := spec_who_loop s hs t (pre ++ [b]) k (by simp [h]) (by omega)
    rw [show (((pre ++ [b]).length : Nat) : Int) = (pre.length : Int) + 1 by simp] at ih
    unfold spec_l03Who.l0
    rw [if_pos (by omega), if_pos (by omega), bt_mid h, w64 (n := (b.toNat : Int)) (by omega) (by omega), w64 (by omega) (by omega), ih, in_eq, in_eq]
    simp only [Option.bind_some, List.all_cons]
    unfold pUser
    by_cases h1 : 97 ≤ (b.toNat : Int) ∧ (b.toNat : Int) ≤ 122
    · simp [h1]
    · rw [if_neg (by simpa using h1)]
      by_cases h2 : 48 ≤ (b.toNat : Int) ∧ (b.toNat : Int) ≤ 57
      · simp [h2]
      · rw [if_neg (by simpa using h2)]
        by_cases h3 : (b.toNat : Int) = 95
        · rw [if_pos h3]; simp [h3]
        · rw [if_neg h3]
          have e1 : (decide (97 ≤ (b.toNat : Int)) && decide ((b.toNat : Int) ≤ 122)) = false := by
            rw [← Bool.decide_and]; exact decide_eq_false h1
          have e2 : (decide (48 ≤ (b.toNat : Int)) && decide ((b.toNat : Int) ≤ 57)) = false := by
            rw [← Bool.decide_and]; exact decide_eq_false h2
          rw [e1, e2]
          simp [h3]
theorem spec_who (s : ByteArray) (hs : s.size ≤ 4194304) (k : Nat) (hk : s.size < k) : spec_l03Who.f k s = some (userM s.toList) := by
  have := spec_who_loop s hs s.toList [] k rfl (by rw [tl_length]; exact hk)
  unfold spec_l03Who.f userM
  rw [show ((([] : List UInt8).length : Nat) : Int) = 0 from rfl] at this
  rw [this, Bool.and_comm]
theorem spec_sign_loop (s : ByteArray) (hs : s.size ≤ 4194304) : ∀ (t pre : List UInt8) (k : Nat), s.toList = pre ++ t → t.length < k → spec_l03Sign.l0 k s (pre.length : Int) = some (signM t)
  | [], pre, k, h, hk => by
    obtain ⟨k, rfl⟩ : ∃ m, k = m + 1 := ⟨k - 1, by omega⟩
    have hz := size_mid h
    simp only [List.length_nil] at hz
    unfold spec_l03Sign.l0
    rw [if_neg (by omega)]
    rfl
  | b :: t, pre, k, h, hk => by
    simp only [List.length_cons] at hk
    obtain ⟨k, rfl⟩ : ∃ m, k = m + 1 := ⟨k - 1, by omega⟩
    have hz := size_mid h
    simp only [List.length_cons] at hz
    have hlt := b.toNat_lt
    have ih := spec_sign_loop s hs t (pre ++ [b]) k (by simp [h]) (by omega)
    rw [show (((pre ++ [b]).length : Nat) : Int) = (pre.length : Int) + 1 by simp] at ih
    unfold spec_l03Sign.l0
    rw [if_pos (by omega), if_pos (by omega), bt_mid h, w64 (n := (b.toNat : Int)) (by omega) (by omega), w64 (by omega) (by omega), ih, in_eq]
    simp only [Option.bind_some, signM, List.all_cons, pSign]
    rw [Bool.decide_and]
    cases (decide (33 ≤ (b.toNat : Int)) && decide ((b.toNat : Int) ≤ 126)) <;> simp
theorem spec_sign (s : ByteArray) (hs : s.size ≤ 4194304) (k : Nat) (hk : s.size < k) : spec_l03Sign.f k s = some (signM s.toList) := by
  have := spec_sign_loop s hs s.toList [] k rfl (by rw [tl_length]; exact hk)
  exact this
theorem impl_user (s : ByteArray) (hs : s.size ≤ 4194304) : impl_isUser.f s = some (userM s.toList) := by
  unfold impl_isUser.f userM
  rw [tl_length]
  by_cases h : s.size ≤ 20
  · rw [if_pos (by omega)]
    unfold impl_areBytes.f
    rw [if_pos (by omega)]
    simp [h, allB]
  · rw [if_neg (by omega)]
    simp [h]
theorem impl_signs (s : ByteArray) (hs : s.size ≤ 4194304) : impl_areBytes.f s 57 = some (signM s.toList) := by
  unfold impl_areBytes.f
  rw [if_pos (by omega)]
  simp [allB, signM]
/-- What an entry's kind asks of its link and its body. -/
def kindOkM (kind : Int) (path link body : List UInt8) : Bool :=
  if kind = 0 then (link == []) && decide (body.length ≤ 3000)
  else if kind = 1 then (link == []) && (body == [])
  else if kind = 2 then decide (1 ≤ link.length ∧ link.length ≤ 150) && (signM link && (body == []))
  else if kind = 3 then pathOkM link && ((link != path) && (body == []))
  else false
def entryOkM (kind : Int) (path link : List UInt8) (mode uid gid time : Int) (user group body : List UInt8) : Bool :=
  (pathOkM path && (decide (0 ≤ mode ∧ mode ≤ 4095) && (decide (0 ≤ uid ∧ uid ≤ 4294967295) && (decide (0 ≤ gid ∧ gid ≤ 4294967295) && (decide (0 ≤ time ∧ time ≤ 99999999999) && (userM user && userM group)))))) && kindOkM kind path link body
theorem spec_entry_j (k : Nat) (hk : 8500000 < k) (x : Bool) (a0 : Int) (a1 a2 : ByteArray) (a3 a4 a5 a6 : Int) (a7 a8 a9 : ByteArray) (h2 : a2.size ≤ 1048576) : spec_EntryOk.j0 k x a0 a1 a2 a3 a4 a5 a6 a7 a8 a9 = some (!x && kindOkM a0 a1.toList a2.toList a9.toList) := by
  obtain ⟨k, rfl⟩ : ∃ m, k = m + 1 := ⟨k - 1, by omega⟩
  simp only [spec_EntryOk.j0]
  unfold kindOkM
  cases x with
  | true => simp
  | false =>
    rw [if_neg (by decide)]
    simp only [Bool.not_false, Bool.true_and]
    by_cases c0 : a0 = 0
    · rw [if_pos c0, if_pos c0, tl_length]
      by_cases c : a2.toList = []
      · rw [if_pos c, c]; simp; omega
      · rw [if_neg c]; simp [c]
    rw [if_neg c0, if_neg c0]
    by_cases c1 : a0 = 1
    · rw [if_pos c1, if_pos c1]
      by_cases c : a2.toList = []
      · rw [if_pos c, c]; rfl
      · rw [if_neg c]; simp [c]
    rw [if_neg c1, if_neg c1]
    by_cases c2 : a0 = 2
    · rw [if_pos c2, if_pos c2, in_eq, spec_sign a2 (by omega) _ (by omega), tl_length]
      simp only [Option.bind_some]
      by_cases c : 1 ≤ a2.size ∧ a2.size ≤ 150
      · rw [if_pos (by simpa using ⟨by omega, by omega⟩), decide_eq_true c]
        cases signM a2.toList <;> simp
      · rw [if_neg (by simp; omega), decide_eq_false c]
        simp
    rw [if_neg c2, if_neg c2]
    by_cases c3 : a0 = 3
    · rw [if_pos c3, if_pos c3, spec_pathOk a2 (by omega) _ (by omega)]
      simp only [Option.bind_some]
      cases pathOkM a2.toList with
      | false => simp
      | true =>
        rw [if_pos rfl]
        by_cases c : a2.toList = a1.toList
        · rw [if_pos c]; simp [c]
        · rw [if_neg c]; simp [c]
    rw [if_neg c3, if_neg c3]
theorem impl_entry_j (k : Nat) (hk : 8500000 < k) (x : Bool) (a0 : Int) (a1 a2 : ByteArray) (a3 a4 a5 a6 : Int) (a7 a8 a9 : ByteArray) (h2 : a2.size ≤ 1048576) : impl_EntryOk.j0 k x a0 a1 a2 a3 a4 a5 a6 a7 a8 a9 = some (!x && kindOkM a0 a1.toList a2.toList a9.toList) := by
  obtain ⟨k, rfl⟩ : ∃ m, k = m + 1 := ⟨k - 1, by omega⟩
  simp only [impl_EntryOk.j0]
  unfold kindOkM
  cases x with
  | true => simp
  | false =>
    rw [if_neg (by decide)]
    simp only [Bool.not_false, Bool.true_and]
    by_cases c0 : a0 = 0
    · rw [if_pos c0, if_pos c0, tl_length]
      by_cases c : a9.size ≤ 3000
      · rw [if_pos (by omega), decide_eq_true c]; simp
      · rw [if_neg (by omega), decide_eq_false c]; simp
    rw [if_neg c0, if_neg c0]
    by_cases c1 : a0 = 1
    · rw [if_pos c1, if_pos c1]
      by_cases c : a2.toList = []
      · rw [if_pos c, c]; rfl
      · rw [if_neg c]; simp [c]
    rw [if_neg c1, if_neg c1]
    by_cases c2 : a0 = 2
    · rw [if_pos c2, if_pos c2, within_eq, impl_signs a2 (by omega), tl_length]
      simp only [Option.bind_some]
      by_cases c : 1 ≤ a2.size ∧ a2.size ≤ 150
      · rw [if_pos (by simpa using ⟨by omega, by omega⟩), decide_eq_true c]
        cases signM a2.toList <;> simp
      · rw [if_neg (by simp; omega), decide_eq_false c]
        simp
    rw [if_neg c2, if_neg c2]
    by_cases c3 : a0 = 3
    · rw [if_pos c3, if_pos c3, impl_pathOk a2 (by omega) _ (by omega)]
      simp only [Option.bind_some]
      cases pathOkM a2.toList with
      | false => simp
      | true =>
        rw [if_pos rfl]
        by_cases c : a2.toList = a1.toList
        · rw [if_pos c]; simp [c]
        · rw [if_neg c]; simp [c]
    rw [if_neg c3, if_neg c3]
theorem spec_entryOk (k : Nat) (hk : 8500000 < k) (a0 : Int) (a1 a2 : ByteArray) (a3 a4 a5 a6 : Int) (a7 a8 a9 : ByteArray) (h1 : a1.size ≤ 1048576) (h2 : a2.size ≤ 1048576) (h7 : a7.size ≤ 1048576) (h8 : a8.size ≤ 1048576) :
    spec_EntryOk.f k a0 a1 a2 a3 a4 a5 a6 a7 a8 a9 = some (entryOkM a0 a1.toList a2.toList a3 a4 a5 a6 a7.toList a8.toList a9.toList) := by
  unfold spec_EntryOk.f entryOkM
  have J := fun x => spec_entry_j k hk x a0 a1 a2 a3 a4 a5 a6 a7 a8 a9 h2
  simp only [spec_pathOk a1 (by omega) k (by omega), in_eq, spec_who a7 (by omega) k (by omega), spec_who a8 (by omega) k (by omega), J, Option.bind_some]
  generalize kindOkM a0 a1.toList a2.toList a9.toList = z
  generalize pathOkM a1.toList = b1
  generalize decide (0 ≤ a3 ∧ a3 ≤ 4095) = b3
  generalize decide (0 ≤ a4 ∧ a4 ≤ 4294967295) = b4
  generalize decide (0 ≤ a5 ∧ a5 ≤ 4294967295) = b5
  generalize decide (0 ≤ a6 ∧ a6 ≤ 99999999999) = b6
  generalize userM a7.toList = b7
  generalize userM a8.toList = b8
  cases b1 <;> cases b3 <;> cases b4 <;> cases b5 <;> cases b6 <;> cases b7 <;> cases b8 <;> rfl
theorem impl_entryOk (k : Nat) (hk : 8500000 < k) (a0 : Int) (a1 a2 : ByteArray) (a3 a4 a5 a6 : Int) (a7 a8 a9 : ByteArray) (h1 : a1.size ≤ 1048576) (h2 : a2.size ≤ 1048576) (h7 : a7.size ≤ 1048576) (h8 : a8.size ≤ 1048576) :
    impl_EntryOk.f k a0 a1 a2 a3 a4 a5 a6 a7 a8 a9 = some (entryOkM a0 a1.toList a2.toList a3 a4 a5 a6 a7.toList a8.toList a9.toList) := by
  unfold impl_EntryOk.f entryOkM
  have J := fun x => impl_entry_j k hk x a0 a1 a2 a3 a4 a5 a6 a7 a8 a9 h2
  simp only [impl_pathOk a1 (by omega) k (by omega), within_eq, impl_user a7 (by omega), impl_user a8 (by omega), J, Option.bind_some]
  generalize kindOkM a0 a1.toList a2.toList a9.toList = z
  generalize pathOkM a1.toList = b1
  generalize decide (0 ≤ a3 ∧ a3 ≤ 4095) = b3
  generalize decide (0 ≤ a4 ∧ a4 ≤ 4294967295) = b4
  generalize decide (0 ≤ a5 ∧ a5 ≤ 4294967295) = b5
  generalize decide (0 ≤ a6 ∧ a6 ≤ 99999999999) = b6
  generalize userM a7.toList = b7
  generalize userM a8.toList = b8
  cases b1 <;> cases b3 <;> cases b4 <;> cases b5 <;> cases b6 <;> cases b7 <;> cases b8 <;> rfl

theorem split_tail (s : ByteArray) (hs : s.size ≤ 4194304) : ∀ (d i k k' : Nat), i + d = s.size → d ≤ 101 → 2 * d < k → d < k' → ∃ r, spec_Split.l0 k s (i : Int) = some r ∧ impl_Split.l0 k' s (i : Int) = some r := by
  intro d
  induction d with
  | zero =>
    intro i k k' hi hd hk hk'
    obtain ⟨k, rfl⟩ : ∃ m, k = m + 1 := ⟨k - 1, by omega⟩
    obtain ⟨k', rfl⟩ : ∃ m, k' = m + 1 := ⟨k' - 1, by omega⟩
    unfold spec_Split.l0 impl_Split.l0
    rw [if_neg (by omega), if_neg (by omega)]
    exact ⟨_, rfl, rfl⟩
  | succ d ih =>
    intro i k k' hi hd hk hk'
    obtain ⟨k, rfl⟩ : ∃ m, k = m + 2 := ⟨k - 2, by omega⟩
    obtain ⟨k', rfl⟩ : ∃ m, k' = m + 1 := ⟨k' - 1, by omega⟩
    obtain ⟨r, e1, e2⟩ := ih (i + 1) k k' (by omega) (by omega) (by omega) (by omega)
    rw [show ((i + 1 : Nat) : Int) = (i : Int) + 1 by omega] at e1 e2
    unfold spec_Split.l0 impl_Split.l0
    unfold spec_Split.j1
    rw [if_pos (show (i : Int) < (s.size : Int) by omega), if_pos (show 0 ≤ (i : Int) by omega), if_pos (show (i : Int) < (s.size : Int) by omega), if_pos (show 0 ≤ (i : Int) by omega)]
    rw [w64 (n := (i : Int) + 1) (by omega) (by omega), w64 (n := (s.size : Int) - (i : Int)) (by omega) (by omega), w64 (n := (s.size : Int) - (i : Int) - 1) (by omega) (by omega)]
    by_cases hb : bt s (i : Int) = 47
    · by_cases h5 : (i : Int) ≤ 155
      · simp only [hb, if_true]
        rw [if_pos (show (s.size : Int) - (i : Int) - 1 ≤ 100 by omega), if_neg (show ¬ (i : Int) > 155 by omega), decide_eq_true h5]
        simp only [if_true]
        rw [if_pos (show (i : Int) ≤ (s.size : Int) by omega), if_pos (show 0 ≤ (i : Int) + 1 by omega), if_pos (show (i : Int) + 1 ≤ (s.size : Int) by omega)]
        have q1 : (i : Int) < (s.size : Int) := by omega
        have q2 : 0 ≤ (i : Int) := by omega
        refine ⟨(s.extract 0 (i : Int).toNat, s.extract ((i : Int) + 1).toNat s.size, true), ?_, ?_⟩
        · first | rfl | simp only [q1, q2, if_true]
        · first | rfl | simp only [q1, q2, if_true]
      · simp only [hb, if_true]
        rw [if_pos (show (s.size : Int) - (i : Int) - 1 ≤ 100 by omega), if_pos (show (i : Int) > 155 by omega), decide_eq_false h5]
        simp only [Bool.false_eq_true, if_false]
        rw [if_pos (show 0 ≤ (i : Int) by omega), if_pos (show (i : Int) < (s.size : Int) by omega)]
        exact ⟨_, if_pos (by omega), rfl⟩
    · simp only [hb, if_false, Bool.false_eq_true]
      rw [if_pos (show 0 ≤ (i : Int) by omega), if_pos (show (i : Int) < (s.size : Int) by omega)]
      exact ⟨r, e1, e2⟩
theorem split_front (s : ByteArray) (hs : s.size ≤ 4194304) (r : ByteArray × ByteArray × Bool) : ∀ (d i k : Nat), i + d + 101 = s.size → 2 * d ≤ k → (∀ k2, k ≤ k2 + 2 * d → spec_Split.l0 k2 s ((i + d : Nat) : Int) = some r) → spec_Split.l0 k s (i : Int) = some r := by
  intro d
  induction d with
  | zero =>
    intro i k hi hk h
    exact h k (by omega)
  | succ d ih =>
    intro i k hi hk h
    obtain ⟨k, rfl⟩ : ∃ m, k = m + 2 := ⟨k - 2, by omega⟩
    have e := ih (i + 1) k (by omega) (by omega) (fun k2 hk2 => by rw [show i + 1 + d = i + (d + 1) by omega]; exact h k2 (by omega))
    rw [show ((i + 1 : Nat) : Int) = (i : Int) + 1 by omega] at e
    unfold spec_Split.l0
    unfold spec_Split.j1
    rw [if_pos (show (i : Int) < (s.size : Int) by omega), if_pos (show 0 ≤ (i : Int) by omega)]
    rw [w64 (n := (i : Int) + 1) (by omega) (by omega), w64 (n := (s.size : Int) - (i : Int)) (by omega) (by omega), w64 (n := (s.size : Int) - (i : Int) - 1) (by omega) (by omega)]
    have hn : ¬ (s.size : Int) - (i : Int) - 1 ≤ 100 := by omega
    by_cases hb : bt s (i : Int) = 47
    · simp only [hb, if_true, hn, if_false, Bool.false_eq_true]
      rw [if_pos (show 0 ≤ (i : Int) by omega), if_pos (show (i : Int) < (s.size : Int) by omega)]
      exact e
    · simp only [hb, if_false, Bool.false_eq_true]
      rw [if_pos (show 0 ≤ (i : Int) by omega), if_pos (show (i : Int) < (s.size : Int) by omega)]
      exact e
theorem split_same (s : ByteArray) (hs : s.size ≤ 1048576) (k : Nat) (hk : 8500000 < k) : ∃ r, spec_Split.f k s = some r ∧ impl_Split.f k s = some r := by
  unfold spec_Split.f impl_Split.f
  rw [spec_pathOk s (by omega) _ (by omega), impl_pathOk s (by omega) _ (by omega)]
  simp only [Option.bind_some]
  by_cases hp : pathOkM s.toList = true
  · rw [if_pos hp, if_pos hp]
    by_cases h1 : (s.size : Int) ≤ 100
    · rw [if_pos h1, if_pos h1]
      exact ⟨_, rfl, rfl⟩
    · rw [if_neg h1, if_neg h1, w64 (n := (s.size : Int) - 100) (by omega) (by omega), w64 (n := (s.size : Int) - 100 - 1) (by omega) (by omega)]
      obtain ⟨r, e1, e2⟩ := split_tail s (by omega) 101 (s.size - 101) 400 k (by omega) (by omega) (by omega) (by omega)
      have he : ((s.size - 101 : Nat) : Int) = (s.size : Int) - 100 - 1 := by omega
      refine ⟨r, ?_, by rw [← he]; exact e2⟩
      have := split_front s (by omega) r (s.size - 101) 0 k (by omega) (by omega) (fun k2 hk2 => by
        obtain ⟨r2, e3, e4⟩ := split_tail s (by omega) 101 (s.size - 101) k2 k (by omega) (by omega) (by omega) (by omega)
        rw [e2] at e4
        obtain rfl := Option.some.inj e4
        rw [Nat.zero_add]
        exact e3)
      exact this
  · rw [if_neg hp, if_neg hp]
    exact ⟨_, rfl, rfl⟩

theorem FnExactUstarFits : ∀ (a0_0 : Int) (a0_1 : ByteArray) (a0_2 : ByteArray) (a0_3 : Int) (a0_4 : Int) (a0_5 : Int) (a0_6 : Int) (a0_7 : ByteArray) (a0_8 : ByteArray) (a0_9 : ByteArray), (Lit.int .i64 a0_0).wf = true → a0_1.size ≤ 9223372036854775807 → a0_2.size ≤ 9223372036854775807 → (Lit.int .i64 a0_3).wf = true → (Lit.int .i64 a0_4).wf = true → (Lit.int .i64 a0_5).wf = true → (Lit.int .i64 a0_6).wf = true → a0_7.size ≤ 9223372036854775807 → a0_8.size ≤ 9223372036854775807 → a0_9.size ≤ 9223372036854775807 → ∃ k, laws_FnExactUstarFits.f k a0_0 a0_1 a0_2 a0_3 a0_4 a0_5 a0_6 a0_7 a0_8 a0_9 = some true := by
  intro a0 a1 a2 a3 a4 a5 a6 a7 a8 a9 _ z1 z2 _ _ _ _ z7 z8 z9
  refine ⟨8500001, ?_⟩
  unfold laws_FnExactUstarFits.f
  obtain ⟨r, hr, h⟩ := sz_plain a0 a1 a2 a3 a4 a5 a6 a7 a8 a9 ⟨z1, z2, z7, z8, z9⟩ 1048576 (by omega) (by omega)
  rw [hr]
  simp only [Option.bind_some]
  rcases h with h | ⟨h0, h1⟩
  · rw [if_pos h]
  · rw [if_neg (by omega)]
    simp only [laws_toEntry.f, Option.bind_some]
    obtain ⟨⟨p, q, b⟩, e1, e2⟩ := split_same a1 (by omega) 8500001 (by omega)
    unfold spec_UstarFits.f impl_UstarFits.f
    rw [e1, e2]
    simp only [Option.bind_some]
    rw [spec_entryOk _ (by omega) _ _ _ _ _ _ _ _ _ _ (by omega) (by omega) (by omega) (by omega), impl_entryOk _ (by omega) _ _ _ _ _ _ _ _ _ _ (by omega) (by omega) (by omega) (by omega)]
    simp only [Option.bind_some]
    obtain ⟨c, hc⟩ : ∃ c, (if entryOkM a0 a1.toList a2.toList a3 a4 a5 a6 a7.toList a8.toList a9.toList = true then (if b = true then (if (a2.size : Int) ≤ 100 then (if a4 ≤ 2097151 then (if a5 ≤ 2097151 then (some (decide (a6 ≤ 8589934591))) else (some false)) else (some false)) else (some false)) else (some false)) else (some false) : Option Bool) = some c := by
      repeat' split
      all_goals exact ⟨_, rfl⟩
    rw [hc]
    simp

end Go.Proofs.YtjkdpnmmhobjlaaDoor.Pure
