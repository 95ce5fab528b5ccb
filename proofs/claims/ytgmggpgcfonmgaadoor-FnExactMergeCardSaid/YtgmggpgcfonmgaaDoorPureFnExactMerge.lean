/-
The pure statement of the law FnExactMerge (numbers, byte strings and lists; no Go and no memory): the printed law's function answers true. Conditions: those of the printed statement (each string at most 2^47 - 4096 bytes, each number of its kind).
-/
import Derived.Test.YtgmggpgcfonmgaaDoorPFnExactMergex12
import Derived.Test.YtgmggpgcfonmgaaDoorCore
namespace Go.Proofs.YtgmggpgcfonmgaaDoor.Pure
open Go.RowKit Go.Proofs.YtgmggpgcfonmgaaDoor.PFnExactMerge Go.Proofs.YtgmggpgcfonmgaaDoorW.PrintWords Go.Proofs.YtgmggpgcfonmgaaDoorW.PrintLast Go.Proofs.YtgmggpgcfonmgaaDoor.Core
set_option linter.unusedVariables false
set_option linter.unusedSimpArgs false

theorem sz_plain (a0 : Int) (a1 a2 : ByteArray) (a3 a4 a5 a6 : Int) (a7 a8 a9 : ByteArray) (h : a1.size ≤ 9223372036854775807 ∧ a2.size ≤ 9223372036854775807 ∧ a7.size ≤ 9223372036854775807 ∧ a8.size ≤ 9223372036854775807 ∧ a9.size ≤ 9223372036854775807) (left : Int) (h0 : 0 ≤ left) (h1 : left ≤ 1048576) : ∃ r, laws_szEntry.f a0 a1 a2 a3 a4 a5 a6 a7 a8 a9 left = some r ∧ (r < 0 ∨ (0 ≤ r ∧ ((a1.size + a2.size + a7.size + a8.size + a9.size : Nat) : Int) = left - r)) := by
  obtain ⟨b1, b2, b7, b8, b9⟩ := h
  unfold laws_szEntry.f
  rw [w64 (n := left - (a1.size : Int)) (by omega) (by omega)]
  by_cases c1 : left - (a1.size : Int) < 0
  · rw [if_pos c1]; exact ⟨_, rfl, .inl (by omega)⟩
  rw [if_neg c1, w64 (n := left - (a1.size : Int) - (a2.size : Int)) (by omega) (by omega)]
  by_cases c2 : left - (a1.size : Int) - (a2.size : Int) < 0
  · rw [if_pos c2]; exact ⟨_, rfl, .inl (by omega)⟩
  rw [if_neg c2, w64 (n := left - (a1.size : Int) - (a2.size : Int) - (a7.size : Int)) (by omega) (by omega)]
  by_cases c3 : left - (a1.size : Int) - (a2.size : Int) - (a7.size : Int) < 0
  · rw [if_pos c3]; exact ⟨_, rfl, .inl (by omega)⟩
  rw [if_neg c3, w64 (n := left - (a1.size : Int) - (a2.size : Int) - (a7.size : Int) - (a8.size : Int)) (by omega) (by omega)]
  by_cases c4 : left - (a1.size : Int) - (a2.size : Int) - (a7.size : Int) - (a8.size : Int) < 0
  · rw [if_pos c4]; exact ⟨_, rfl, .inl (by omega)⟩
  rw [if_neg c4, w64 (n := left - (a1.size : Int) - (a2.size : Int) - (a7.size : Int) - (a8.size : Int) - (a9.size : Int)) (by omega) (by omega)]
  by_cases c5 : left - (a1.size : Int) - (a2.size : Int) - (a7.size : Int) - (a8.size : Int) - (a9.size : Int) < 0
  · rw [if_pos c5]; exact ⟨_, rfl, .inl (by omega)⟩
  rw [if_neg c5]
  exact ⟨_, rfl, .inr ⟨by omega, by omega⟩⟩

/-- An entry of the laws' as one of the program's. -/
def conv (x : S33) : S36 := ⟨x.f0, x.f1, x.f2, x.f3, x.f4, x.f5, x.f6, x.f7, x.f8, x.f9⟩
theorem conv_eq (x : S33) : laws_toEntry.f x.f0 x.f1 x.f2 x.f3 x.f4 x.f5 x.f6 x.f7 x.f8 x.f9 = some (x.f0, x.f1, x.f2, x.f3, x.f4, x.f5, x.f6, x.f7, x.f8, x.f9) := rfl
/-- What an entry's texts take. -/
def sizeE (x : S33) : Nat := x.f1.size + x.f2.size + x.f7.size + x.f8.size + x.f9.size
def Sz (x : S33) : Prop := x.f1.size ≤ 9223372036854775807 ∧ x.f2.size ≤ 9223372036854775807 ∧ x.f7.size ≤ 9223372036854775807 ∧ x.f8.size ≤ 9223372036854775807 ∧ x.f9.size ≤ 9223372036854775807
theorem sz_entry (x : S33) (h : Sz x) (left : Int) (h0 : 0 ≤ left) (h1 : left ≤ 1048576) : ∃ r, laws_szEntry.f x.f0 x.f1 x.f2 x.f3 x.f4 x.f5 x.f6 x.f7 x.f8 x.f9 left = some r ∧ (r < 0 ∨ (0 ≤ r ∧ (sizeE x : Int) = left - r)) :=
  sz_plain x.f0 x.f1 x.f2 x.f3 x.f4 x.f5 x.f6 x.f7 x.f8 x.f9 h left h0 h1

theorem rdL_drop (l : List S33) (i : Nat) (h : i < l.length) : l.drop i = rd_T33 l (i : Int) :: l.drop (i + 1) := by
  rw [List.drop_eq_getElem_cons h]
  unfold rd_T33
  rw [Int.toNat_natCast, List.getD_eq_getElem?_getD, List.getElem?_eq_getElem h]
  rfl
theorem rdI_drop (l : List S36) (i : Nat) (h : i < l.length) : l.drop i = rd_T36 l (i : Int) :: l.drop (i + 1) := by
  rw [List.drop_eq_getElem_cons h]
  unfold rd_T36
  rw [Int.toNat_natCast, List.getD_eq_getElem?_getD, List.getElem?_eq_getElem h]
  rfl
theorem rdL_get (l : List S33) (i : Nat) (h : i < l.length) : rd_T33 l (i : Int) = l[i] := by
  unfold rd_T33
  rw [Int.toNat_natCast, List.getD_eq_getElem?_getD, List.getElem?_eq_getElem h]
  rfl
theorem rdI_get (l : List S36) (i : Nat) (h : i < l.length) : rd_T36 l (i : Int) = l[i] := by
  unfold rd_T36
  rw [Int.toNat_natCast, List.getD_eq_getElem?_getD, List.getElem?_eq_getElem h]
  rfl
def sizeL : List S33 → Nat
  | [] => 0
  | x :: l => sizeE x + sizeL l
theorem szS_loop (l : List S33) (hl : l.length ≤ 1048576) (hs : ∀ x ∈ l, Sz x) : ∀ (d k i : Nat) (left : Int), l.length - i = d → i ≤ l.length → d < k → 0 ≤ left → left ≤ 1048576 →
    ∃ r, laws_szEntryS.l0 k l left (i : Int) = some r ∧ (r < 0 ∨ (0 ≤ r ∧ (sizeL (l.drop i) : Int) = left - r)) := by
  intro d
  induction d with
  | zero =>
    intro k i left hd hi hk h0 h1
    obtain ⟨k, rfl⟩ : ∃ m, k = m + 1 := ⟨k - 1, by omega⟩
    simp only [laws_szEntryS.l0]
    rw [if_neg (by omega), List.drop_eq_nil_of_le (by omega)]
    exact ⟨_, rfl, .inr ⟨h0, by simp [sizeL]⟩⟩
  | succ d ih =>
    intro k i left hd hi hk h0 h1
    obtain ⟨k, rfl⟩ : ∃ m, k = m + 1 := ⟨k - 1, by omega⟩
    simp only [laws_szEntryS.l0]
    rw [if_pos (by omega), if_pos (by omega)]
    have hm : rd_T33 l (i : Int) ∈ l := by rw [rdL_get l i (by omega)]; exact List.getElem_mem _
    obtain ⟨r, hr, h⟩ := sz_entry (rd_T33 l (i : Int)) (hs _ hm) left h0 h1
    rw [hr]
    simp only [Option.bind_some]
    rcases h with h | ⟨h2, h3⟩
    · rw [if_pos h]; exact ⟨_, rfl, .inl (by omega)⟩
    · rw [if_neg (by omega), w64 (by omega) (by omega)]
      obtain ⟨q, hq, h4⟩ := ih k (i + 1) r (by omega) (by omega) (by omega) h2 (by omega)
      refine ⟨q, hq, ?_⟩
      rw [rdL_drop l i (by omega), sizeL]
      rcases h4 with h4 | ⟨h4, h5⟩
      · exact .inl h4
      · exact .inr ⟨h4, by omega⟩
theorem szS (l : List S33) (hs : ∀ x ∈ l, Sz x) (hl : l.length ≤ 9223372036854775807) (left : Int) (h0 : 0 ≤ left) (h1 : left ≤ 1048576) (k : Nat) (hk : 1048576 < k) :
    ∃ r, laws_szEntryS.f k l left = some r ∧ (r < 0 ∨ (0 ≤ r ∧ ((l.length + sizeL l : Nat) : Int) = left - r)) := by
  unfold laws_szEntryS.f
  rw [w64 (n := left - (l.length : Int)) (by omega) (by omega)]
  by_cases c : left - (l.length : Int) < 0
  · rw [if_pos c]; exact ⟨_, rfl, .inl (by omega)⟩
  · rw [if_neg c]
    obtain ⟨r, hr, h⟩ := szS_loop l (by omega) hs l.length k 0 (left - (l.length : Int)) (by omega) (by omega) (by omega) (by omega) (by omega)
    refine ⟨r, hr, ?_⟩
    rw [List.drop_zero] at h
    rcases h with h | ⟨h2, h3⟩
    · exact .inl h
    · exact .inr ⟨h2, by omega⟩
theorem toS_loop (l : List S33) (hl : l.length ≤ 1048576) : ∀ (d k i : Nat) (xs : List S36), l.length - i = d → i ≤ l.length → d < k → xs.length = l.length →
    laws_toEntryS.l0 k l xs (i : Int) = some (xs.take i ++ (l.drop i).map conv) := by
  intro d
  induction d with
  | zero =>
    intro k i xs hd hi hk hx
    obtain ⟨k, rfl⟩ : ∃ m, k = m + 1 := ⟨k - 1, by omega⟩
    simp only [laws_toEntryS.l0]
    rw [if_neg (by omega), List.drop_eq_nil_of_le (by omega), List.take_of_length_le (by omega)]
    simp
  | succ d ih =>
    intro k i xs hd hi hk hx
    obtain ⟨k, rfl⟩ : ∃ m, k = m + 1 := ⟨k - 1, by omega⟩
    simp only [laws_toEntryS.l0]
    rw [if_pos (by omega), if_pos (by omega), conv_eq]
    simp only [Option.bind_some]
    have e : wrap64 ((i : Int) + 1) = ((i + 1 : Nat) : Int) := by rw [w64 (by omega) (by omega)]; omega
    rw [if_pos (by omega), e, Int.toNat_natCast, ih k (i + 1) _ (by omega) (by omega) (by omega) (by rw [List.length_set]; exact hx), rdL_drop l i (by omega), List.map_cons]
    rw [List.take_succ_eq_append_getElem (by rw [List.length_set]; omega), List.getElem_set_self, List.take_set_of_le (Nat.le_refl _), List.append_assoc]
    rfl
theorem toS (l : List S33) (hl : l.length ≤ 1048576) (k : Nat) (hk : 1048576 < k) : laws_toEntryS.f k l = some (l.map conv) := by
  unfold laws_toEntryS.f
  rw [if_pos (by omega), Int.toNat_natCast, if_pos (by omega)]
  have := toS_loop l hl l.length k 0 (List.replicate l.length z36) (by omega) (by omega) (by omega) (List.length_replicate ..)
  rw [show ((0 : Nat) : Int) = 0 from rfl] at this
  rw [this]
  simp

def Ok33 (x : S33) : Prop := (Lit.int .i64 x.f0).wf = true ∧ x.f1.size ≤ 9223372036854775807 ∧ x.f2.size ≤ 9223372036854775807 ∧ (Lit.int .i64 x.f3).wf = true ∧ (Lit.int .i64 x.f4).wf = true ∧ (Lit.int .i64 x.f5).wf = true ∧ (Lit.int .i64 x.f6).wf = true ∧ x.f7.size ≤ 9223372036854775807 ∧ x.f8.size ≤ 9223372036854775807 ∧ x.f9.size ≤ 9223372036854775807
theorem ok_sz {l : List S33} (h : ∀ x ∈ l, Ok33 x) : ∀ x ∈ l, Sz x := fun x hx => by
  obtain ⟨_, h1, h2, _, _, _, _, h7, h8, h9⟩ := h x hx
  exact ⟨h1, h2, h7, h8, h9⟩

theorem spec_find_loop (l : List S36) (p : ByteArray) (hl : l.length ≤ 1048576) : ∀ (d k i : Nat), i + d = l.length → d < k → spec_Find.l0 k l p (i : Int) = some (findI p (l.drop i) i) := by
  intro d
  induction d with
  | zero =>
    intro k i hi hk
    obtain ⟨k, rfl⟩ : ∃ m, k = m + 1 := ⟨k - 1, by omega⟩
    unfold spec_Find.l0
    rw [if_neg (by omega), List.drop_eq_nil_of_le (by omega)]
    rfl
  | succ d ih =>
    intro k i hi hk
    obtain ⟨k, rfl⟩ : ∃ m, k = m + 1 := ⟨k - 1, by omega⟩
    unfold spec_Find.l0
    have e := ih k (i + 1) (by omega) (by omega)
    rw [show ((i + 1 : Nat) : Int) = (i : Int) + 1 by omega] at e
    rw [if_pos (by omega), if_pos (by omega), w64 (by omega) (by omega), e, rdI_drop l i (by omega)]
    simp only [findI]
    split <;> rfl
theorem spec_find (l : List S36) (p : ByteArray) (hl : l.length ≤ 1048576) (k : Nat) (hk : l.length < k) : spec_Find.f k l p = some (findI p l 0) :=
  spec_find_loop l p hl l.length k 0 (by omega) hk
theorem findI_bounds (p : ByteArray) : ∀ (l : List S36) (k : Nat), findI p l k = -1 ∨ ((k : Int) ≤ findI p l k ∧ findI p l k < (k : Int) + l.length)
  | [], _ => Or.inl rfl
  | x :: l, k => by
    simp only [findI, List.length_cons]
    split
    · exact Or.inr ⟨by omega, by omega⟩
    · rcases findI_bounds p l (k + 1) with h | h
      · exact Or.inl h
      · exact Or.inr ⟨by omega, by omega⟩

/-! ### A byte's first place, and the texts between its places -/
theorem bt_mid {s : ByteArray} {pre t : List UInt8} {b : UInt8} (h : s.toList = pre ++ b :: t) : bt s (pre.length : Int) = (b.toNat : Int) := by
  have hs : s.size = pre.length + (t.length + 1) := by rw [← tl_length, h]; simp
  rw [bt_get s pre.length (by omega)]
  congr 2
  simp [h]
theorem size_mid {s : ByteArray} {pre t : List UInt8} (h : s.toList = pre ++ t) : s.size = pre.length + t.length := by
  rw [← tl_length, h]; simp
theorem u8_eq {b : UInt8} {c : UInt8} : ((b.toNat : Int) = (c.toNat : Int)) ↔ b = c := by
  constructor
  · intro h
    exact UInt8.toNat_inj.1 (by omega)
  · rintro rfl
    rfl
theorem ext_mid {s : ByteArray} {pre p t : List UInt8} (h : s.toList = pre ++ (p ++ t)) : (s.extract pre.length (pre.length + p.length)).toList = p := by
  rw [tl_extract, h, ← List.append_assoc]
  rw [List.take_left' (by simp)]
  simp
theorem ext_end {s : ByteArray} {pre p : List UInt8} (h : s.toList = pre ++ p) : (s.extract pre.length s.size).toList = p := by
  rw [tl_extract, ← tl_length, h]
  rw [List.take_of_length_le (Nat.le_refl _)]
  simp
/-- A byte's first place: there is none, or the text falls in two there. -/
theorem index_span (c : UInt8) : ∀ l : List UInt8, (c ∉ l ∧ Lib.indexByte l c = -1) ∨ ∃ a b, l = a ++ c :: b ∧ c ∉ a ∧ Lib.indexByte l c = (a.length : Int)
  | [] => Or.inl ⟨by simp, rfl⟩
  | x :: l => by
    by_cases h : x = c
    · subst h
      exact Or.inr ⟨[], l, rfl, by simp, by simp [Lib.indexByte]⟩
    · rcases index_span c l with ⟨h1, h2⟩ | ⟨a, b, h1, h2, h3⟩
      · refine Or.inl ⟨?_, ?_⟩
        · simp only [List.mem_cons, not_or]
          exact ⟨fun e => h e.symm, h1⟩
        · simp [Lib.indexByte, h, h2]
      · refine Or.inr ⟨x :: a, b, by simp [h1], ?_, ?_⟩
        · simp only [List.mem_cons, not_or]
          exact ⟨fun e => h e.symm, h2⟩
        · simp only [Lib.indexByte]
          have h' : (x == c) = false := by simpa using h
          simp only [h', h3]
          simp
          try omega

/-- The texts between the places of a byte. -/
def splitA (c : UInt8) : List UInt8 → List UInt8 → List (List UInt8)
  | p, [] => [p]
  | p, b :: t => if b = c then p :: splitA c [] t else splitA c (p ++ [b]) t
theorem splitA_none (c : UInt8) : ∀ (t p : List UInt8), c ∉ t → splitA c p t = [p ++ t]
  | [], p, _ => by simp [splitA]
  | b :: t, p, h => by
    simp only [List.mem_cons, not_or] at h
    simp only [splitA]
    rw [if_neg (fun e => h.1 e.symm), splitA_none c t _ h.2]
    simp
theorem splitA_span (c : UInt8) (b : List UInt8) : ∀ (a p : List UInt8), c ∉ a → splitA c p (a ++ c :: b) = (p ++ a) :: splitA c [] b
  | [], p, _ => by simp [splitA]
  | x :: a, p, h => by
    simp only [List.mem_cons, not_or] at h
    simp only [List.cons_append, splitA]
    rw [if_neg (fun e => h.1 e.symm), splitA_span c b a _ h.2]
    simp
theorem splitA_length (c : UInt8) : ∀ (t p : List UInt8), (splitA c p t).length = t.count c + 1
  | [], p => by simp [splitA]
  | b :: t, p => by
    simp only [splitA]
    by_cases h : b = c
    · rw [if_pos h, List.length_cons, splitA_length c t, h, List.count_cons_self]
    · rw [if_neg h, splitA_length c t, List.count_cons_of_ne h]
theorem splitA_le (c : UInt8) (t p : List UInt8) : (splitA c p t).length ≤ t.length + 1 := by
  rw [splitA_length]
  have : t.count c ≤ t.length := List.count_le_length
  omega
theorem splitA_mem (c : UInt8) : ∀ (t p x : List UInt8), x ∈ splitA c p t → x.length ≤ p.length + t.length
  | [], p, x, h => by
    simp only [splitA, List.mem_singleton] at h
    subst h
    simp
  | b :: t, p, x, h => by
    simp only [splitA] at h
    by_cases hb : b = c
    · rw [if_pos hb] at h
      rcases List.mem_cons.1 h with h | h
      · subst h
        omega
      · have := splitA_mem c t [] x h
        simp only [List.length_nil, List.length_cons] at *
        omega
    · rw [if_neg hb] at h
      have := splitA_mem c t _ x h
      simp only [List.length_append, List.length_cons, List.length_nil] at *
      omega
def sumLen : List (List UInt8) → Nat
  | [] => 0
  | x :: l => x.length + sumLen l
theorem splitA_sum (c : UInt8) : ∀ (t p : List UInt8), sumLen (splitA c p t) + (splitA c p t).length = p.length + t.length + 1
  | [], p => by simp [splitA, sumLen]
  | b :: t, p => by
    simp only [splitA]
    by_cases h : b = c
    · rw [if_pos h]
      have := splitA_sum c t []
      simp only [sumLen, List.length_cons, List.length_nil] at *
      omega
    · rw [if_neg h]
      have := splitA_sum c t (p ++ [b])
      simp only [List.length_append, List.length_cons, List.length_nil] at *
      omega

theorem idx_one (s : ByteArray) (c : UInt8) : strings_Index.f s (⟨#[c]⟩ : ByteArray) = some (Lib.indexByte s.toList c) := by
  unfold strings_Index.f stringslite_Index.f
  rw [if_pos (show (⟨#[c]⟩ : ByteArray).size = 1 from rfl), tl]
  rfl
theorem take_set_map (a : List ByteArray) (i : Nat) (x : ByteArray) (h : i < a.length) : ((a.set i x).take (i + 1)).map ByteArray.toList = (a.take i).map ByteArray.toList ++ [x.toList] := by
  rw [List.take_set, List.take_add_one, List.getElem?_eq_getElem h]
  rw [List.set_append_right _ _ (by simp; omega)]
  simp only [List.length_take, Option.toList_some, List.map_append]
  rw [show i - min i a.length = 0 by omega]
  simp
theorem genSplit_loop (c : UInt8) (n : Int) (hn : n ≤ 4194304) : ∀ (d : Nat) (s : ByteArray) (a : List ByteArray) (i k : Nat), s.toList.count c = d → n = (i : Int) + d → (a.length : Int) = n + 1 → s.size ≤ 4194304 → d < k →
    ∃ r, strings_genSplit.l0 k s (⟨#[c]⟩ : ByteArray) 0 n a (i : Int) = some r ∧ r.map ByteArray.toList = (a.take i).map ByteArray.toList ++ splitA c [] s.toList := by
  intro d
  induction d with
  | zero =>
    intro s a i k hd hi ha hs hk
    obtain ⟨k, rfl⟩ : ∃ m, k = m + 1 := ⟨k - 1, by omega⟩
    unfold strings_genSplit.l0
    rw [if_neg (by omega), if_pos (by omega), if_pos (by omega), w64 (by omega) (by omega), if_pos (by omega), if_pos (by omega)]
    refine ⟨_, rfl, ?_⟩
    rw [splitA_none c _ _ (List.count_eq_zero.1 hd), show ((i : Int) + 1).toNat = i + 1 by omega, Int.toNat_natCast, take_set_map _ _ _ (by omega)]
    simp
  | succ d ih =>
    intro s a i k hd hi ha hs hk
    obtain ⟨k, rfl⟩ : ∃ m, k = m + 1 := ⟨k - 1, by omega⟩
    unfold strings_genSplit.l0
    rw [if_pos (by omega), idx_one]
    simp only [Option.bind_some]
    rcases index_span c s.toList with ⟨h1, h2⟩ | ⟨p, t, h1, h2, h3⟩
    · rw [List.count_eq_zero.2 h1] at hd
      omega
    · have hz := size_mid h1
      simp only [List.length_cons] at hz
      have e1 : ((⟨#[c]⟩ : ByteArray).size : Int) = 1 := rfl
      rw [h3, e1, w64 (n := (p.length : Int) + 0) (by omega) (by omega), w64 (n := (p.length : Int) + 1) (by omega) (by omega), w64 (n := (i : Int) + 1) (by omega) (by omega)]
      rw [if_neg (by omega), if_pos (by omega), if_pos (by omega), if_pos (by omega), if_pos (by omega), if_pos (by omega), if_pos (by omega)]
      have ht : (s.extract ((p.length : Int) + 1).toNat s.size).toList = t := by
        rw [show ((p.length : Int) + 1).toNat = (p ++ [c]).length by simp only [List.length_append, List.length_cons, List.length_nil]; omega]
        exact ext_end (by simp [h1])
      have hp : (s.extract 0 ((p.length : Int) + 0).toNat).toList = p := by
        rw [tl_extract, h1]
        simp
      obtain ⟨r, e, l⟩ := ih (s.extract ((p.length : Int) + 1).toNat s.size) (a.set i (s.extract 0 ((p.length : Int) + 0).toNat)) (i + 1) k (by
        rw [ht]
        rw [h1, List.count_append, List.count_cons_self, List.count_eq_zero.2 h2] at hd
        omega) (by omega) (by simp only [List.length_set]; omega) (by
        rw [ByteArray.size_extract]
        omega) (by omega)
      refine ⟨r, ?_, ?_⟩
      · rw [← e]
        congr 1
      · rw [l, take_set_map _ _ _ (by omega), ht, hp, h1, splitA_span c t p [] h2]
        simp
theorem count_one (c : UInt8) (s : ByteArray) : strings_Count.f s (⟨#[c]⟩ : ByteArray) = some ((s.toList.count c : Nat) : Int) := by
  unfold strings_Count.f
  rw [if_pos (show (⟨#[c]⟩ : ByteArray).size = 1 from rfl), tl]
  rfl
theorem genSplit_j (c : UInt8) (s : ByteArray) (hs : s.size ≤ 4194304) (k n : Nat) (hn : s.toList.count c = n) (hc : n ≤ s.size) (hk : s.size + 2 < k) : ∃ r, strings_genSplit.j0 k s (⟨#[c]⟩ : ByteArray) 0 ((n : Int) + 1) = some r ∧ r.map ByteArray.toList = splitA c [] s.toList := by
  obtain ⟨k, rfl⟩ : ∃ m, k = m + 1 := ⟨k - 1, by omega⟩
  have hm : mn ((n : Int) + 1) (wrap64 ((s.size : Int) + 1)) = (n : Int) + 1 := by
    rw [w64 (by omega) (by omega)]
    unfold mn
    omega
  have hr : (List.replicate ((n : Int) + 1).toNat (⟨#[]⟩ : ByteArray)).length = n + 1 := by
    rw [List.length_replicate]
    omega
  simp only [strings_genSplit.j0, hm]
  generalize List.replicate ((n : Int) + 1).toNat (⟨#[]⟩ : ByteArray) = a at *
  rw [if_pos (by omega), if_pos (by omega), w64 (by omega) (by omega)]
  obtain ⟨r, e1, l⟩ := genSplit_loop c ((n : Int) + 1 - 1) (by omega) n s a 0 k hn (by omega) (by omega) hs (by omega)
  refine ⟨r, ?_, by simpa using l⟩
  simpa using e1
theorem split_one (c : UInt8) (s : ByteArray) (hs : s.size ≤ 4194304) (k : Nat) (hk : s.size + 2 < k) : ∃ r, strings_Split.f k s (⟨#[c]⟩ : ByteArray) = some r ∧ r.map ByteArray.toList = splitA c [] s.toList := by
  have hc : s.toList.count c ≤ s.size := by rw [← tl_length]; exact List.count_le_length
  obtain ⟨r, e, l⟩ := genSplit_j c s hs k _ rfl hc hk
  refine ⟨r, ?_, l⟩
  have hne : ¬ (⟨#[c]⟩ : ByteArray).toList = [] := by
    rw [tl]
    exact List.cons_ne_nil _ _
  unfold strings_Split.f strings_genSplit.f
  rw [if_neg (show ¬ (-1 : Int) = 0 by decide), if_neg hne, if_pos (show (-1 : Int) < 0 by decide), count_one]
  simp only [Option.bind_some]
  rw [w64 (by omega) (by omega), e]
  simp only [Option.bind_some]

theorem spec_parts_loop (s : ByteArray) (hs : s.size ≤ 4194304) : ∀ (t pre p : List UInt8) (out : List ByteArray) (k : Nat), s.toList = pre ++ (p ++ t) → out.length ≤ pre.length → t.length < k →
    ∃ r, spec_Parts.l0 k s out (pre.length : Int) ((pre.length + p.length : Nat) : Int) = some r ∧ r.map ByteArray.toList = out.map ByteArray.toList ++ splitA 47 p t
  | [], pre, p, out, k, h, ho, hk => by
    obtain ⟨k, rfl⟩ : ∃ m, k = m + 1 := ⟨k - 1, by omega⟩
    have hz := size_mid h
    simp only [List.length_append, List.length_nil] at hz
    unfold spec_Parts.l0
    rw [if_neg (by omega), if_pos (by omega), if_pos (by omega), if_pos (by omega)]
    refine ⟨_, rfl, ?_⟩
    rw [Int.toNat_natCast, List.map_append, List.map_cons, List.map_nil, ext_end (p := p) (by simpa using h)]
    rfl
  | b :: t, pre, p, out, k, h, ho, hk => by
    simp only [List.length_cons] at hk
    obtain ⟨k, rfl⟩ : ∃ m, k = m + 1 := ⟨k - 1, by omega⟩
    have hz := size_mid h
    simp only [List.length_append, List.length_cons] at hz
    have hb : bt s ((pre.length + p.length : Nat) : Int) = (b.toNat : Int) := by
      have := bt_mid (s := s) (pre := pre ++ p) (b := b) (t := t) (by simp [h])
      simpa using this
    unfold spec_Parts.l0
    rw [if_pos (by omega), if_pos (by omega), hb, w64 (by omega) (by omega)]
    by_cases hc : b = 47
    · subst hc
      rw [if_pos (show (((47 : UInt8).toNat : Nat) : Int) = 47 from rfl), if_pos (by omega), if_pos (by omega), if_pos (by omega), if_pos (by omega)]
      obtain ⟨r, e, l⟩ := spec_parts_loop s hs t (pre ++ p ++ [47]) [] (out ++ [s.extract ((pre.length : Nat) : Int).toNat ((pre.length + p.length : Nat) : Int).toNat]) k (by simp [h]) (by simp; omega) (by omega)
      have a1 : (((pre ++ p ++ [47]).length : Nat) : Int) = ((pre.length + p.length : Nat) : Int) + 1 := by
        simp only [List.length_append, List.length_cons, List.length_nil]
        omega
      have a2 : (((pre ++ p ++ [47]).length + ([] : List UInt8).length : Nat) : Int) = ((pre.length + p.length : Nat) : Int) + 1 := by
        simp only [List.length_append, List.length_cons, List.length_nil]
        omega
      rw [a1, a2] at e
      refine ⟨r, e, ?_⟩
      · rw [l]
        simp only [Int.toNat_natCast, List.map_append, List.map_cons, List.map_nil, splitA]
        rw [ext_mid h]
        simp
    · rw [if_neg (fun e : (b.toNat : Int) = 47 => hc (u8_eq.1 (show (b.toNat : Int) = ((47 : UInt8).toNat : Int) from e)))]
      obtain ⟨r, e, l⟩ := spec_parts_loop s hs t pre (p ++ [b]) out k (by simp [h]) ho (by omega)
      refine ⟨r, ?_, ?_⟩
      · rw [← e]
        congr 1
        simp
        omega
      · rw [l]
        simp only [splitA]
        rw [if_neg hc]
theorem spec_parts (s : ByteArray) (hs : s.size ≤ 4194304) (k : Nat) (hk : s.size < k) : ∃ r, spec_Parts.f k s = some r ∧ r.map ByteArray.toList = splitA 47 [] s.toList := by
  obtain ⟨r, e, l⟩ := spec_parts_loop s hs s.toList [] [] [] k rfl (by simp) (by rw [tl_length]; exact hk)
  exact ⟨r, e, by simpa using l⟩
theorem impl_parts (s : ByteArray) (hs : s.size ≤ 4194304) (k : Nat) (hk : s.size + 2 < k) : ∃ r, impl_Parts.f k s = some r ∧ r.map ByteArray.toList = splitA 47 [] s.toList := by
  obtain ⟨r, e, l⟩ := split_one 47 s hs k hk
  unfold impl_Parts.f
  rw [e]
  exact ⟨r, rfl, l⟩

theorem in_eq (a b c : Int) : spec_l01In.f a b c = some (decide (b ≤ a ∧ a ≤ c)) := by
  unfold spec_l01In.f
  by_cases h : b ≤ a
  · rw [if_pos h]; simp [h]
  · rw [if_neg h]; simp [h]

theorem within_eq (a b c : Int) : impl_within.f a b c = some (decide (b ≤ a ∧ a ≤ c)) := by
  unfold impl_within.f
  by_cases h : b ≤ a
  · rw [if_pos h]; simp [h]
  · rw [if_neg h]; simp [h]

theorem allB_list (p : Int → Bool) (s : ByteArray) : allB p s = s.toList.all (fun b => p (b.toNat : Int)) := rfl

/-- Is a text a component? -/
def partOkM (l : List UInt8) : Bool := decide (1 ≤ l.length ∧ l.length ≤ 60) && (l != [46]) && (l != [46, 46]) && l.all (fun b => pPart (b.toNat : Int))
theorem spec_part_loop (s : ByteArray) (hs : s.size ≤ 140737488351232) : ∀ (d k : Nat) (i : Int), 0 ≤ i → (s.size : Int) - i = d → d < k →
    spec_PartOk.l0 k s i = some ((s.toList.drop i.toNat).all (fun b => pPart (b.toNat : Int)) && (decide (1 ≤ s.toList.length ∧ s.toList.length ≤ 60) && (s.toList != [46]) && (s.toList != [46, 46]))) := by
  intro d
  induction d with
  | zero =>
    intro k i h0 hd hk
    obtain ⟨k, rfl⟩ : ∃ m, k = m + 1 := ⟨k - 1, by omega⟩
    simp only [spec_PartOk.l0]
    rw [if_neg (by omega), List.drop_eq_nil_of_le (by rw [tl_length]; omega), in_eq]
    simp only [Option.bind_some, List.all_nil, Bool.true_and, tl_length]
    by_cases h1 : 1 ≤ s.size ∧ s.size ≤ 60
    · rw [if_pos (by simpa using ⟨by omega, by omega⟩), decide_eq_true h1]
      by_cases h2 : s.toList = [46]
      · rw [if_pos h2]; simp [h2]
      · rw [if_neg h2]; simp [h2]
    · rw [if_neg (by simp; omega), decide_eq_false h1]
      simp
  | succ d ih =>
    intro k i h0 hd hk
    obtain ⟨k, rfl⟩ : ∃ m, k = m + 1 := ⟨k - 1, by omega⟩
    simp only [spec_PartOk.l0]
    obtain ⟨b, e, hbt⟩ := bt_step s i h0 (by omega)
    have hlt := b.toNat_lt
    rw [if_pos (by omega), if_pos h0, in_eq, hbt, w64 (n := (b.toNat : Int)) (by omega) (by omega), w64 (n := i + 1) (by omega) (by omega), ih k (i + 1) (by omega) (by omega) (by omega), e]
    simp only [Option.bind_some, List.all_cons]
    by_cases h1 : 33 ≤ (b.toNat : Int) ∧ (b.toNat : Int) ≤ 126
    · rw [if_pos (by simpa using h1)]
      by_cases h2 : (b.toNat : Int) = 47
      · rw [if_pos h2]; simp [pPart, h2]
      · have hp : pPart (b.toNat : Int) = true := by
          unfold pPart
          rw [decide_eq_true h1.1, decide_eq_true h1.2, bne_iff_ne.2 h2]
          rfl
        rw [if_neg h2, hp, Bool.true_and]
    · rw [if_neg (by simpa using h1)]
      have : pPart (b.toNat : Int) = false := by
        unfold pPart
        by_cases h3 : 33 ≤ (b.toNat : Int)
        · rw [decide_eq_false (show ¬ (b.toNat : Int) ≤ 126 by omega)]; simp
        · rw [decide_eq_false h3]; simp
      rw [this]
      simp
theorem spec_partOk (s : ByteArray) (hs : s.size ≤ 140737488351232) (k : Nat) (hk : s.size < k) : spec_PartOk.f k s = some (partOkM s.toList) := by
  unfold spec_PartOk.f partOkM
  rw [spec_part_loop s hs s.size k 0 (by omega) (by omega) hk, Bool.and_comm]
  rfl
theorem impl_partOk (s : ByteArray) (hs : s.size ≤ 140737488351232) : impl_PartOk.f s = some (partOkM s.toList) := by
  unfold impl_PartOk.f partOkM
  rw [within_eq]
  simp only [Option.bind_some, tl_length]
  by_cases h1 : 1 ≤ s.size ∧ s.size ≤ 60
  · rw [if_pos (by simpa using ⟨by omega, by omega⟩), decide_eq_true h1]
    by_cases h2 : s.toList = [46]
    · rw [if_pos h2]; simp [h2]
    · rw [if_neg h2]
      by_cases h3 : s.toList = [46, 46]
      · rw [if_pos h3]; simp [h3]
      · rw [if_neg h3]
        unfold impl_areBytes.f
        rw [if_pos (by omega)]
        simp [h2, h3, allB]
  · rw [if_neg (by simp; omega), decide_eq_false h1]
    simp

/-- Is a text a path? -/
def pathOkM (l : List UInt8) : Bool := decide (l.length ≤ 200) && (splitA 47 [] l).all partOkM
theorem spec_path_loop (s : ByteArray) : ∀ (t pre : List ByteArray) (k : Nat), (∀ x ∈ t, x.size ≤ 4194304) → pre.length + t.length ≤ 100000000 → t.length + 4194310 < k →
    spec_PathOk.l0 k s (pre ++ t) (pre.length : Int) = some ((t.map ByteArray.toList).all partOkM && decide (s.toList.length ≤ 200))
  | [], pre, k, hx, hl, hk => by
    obtain ⟨k, rfl⟩ : ∃ m, k = m + 1 := ⟨k - 1, by omega⟩
    unfold spec_PathOk.l0
    rw [if_neg (by simp)]
    simp [tl_length]
    omega
  | x :: t, pre, k, hx, hl, hk => by
    simp only [List.length_cons] at hl hk
    obtain ⟨k, rfl⟩ : ∃ m, k = m + 1 := ⟨k - 1, by omega⟩
    have hs : x.size ≤ 4194304 := hx x (by simp)
    unfold spec_PathOk.l0
    have er : rdOf ByteArray.empty (pre ++ x :: t) (pre.length : Int) = x := by
      unfold rdOf
      rw [Int.toNat_natCast, List.getD_eq_getElem?_getD, List.getElem?_append_right (Nat.le_refl _)]
      simp
    rw [if_pos (by simp; omega), if_pos (by omega), er, spec_partOk x (by omega) k (by omega), w64 (by omega) (by omega)]
    simp only [Option.bind_some, List.map_cons, List.all_cons]
    have := spec_path_loop s t (pre ++ [x]) k (fun y hy => hx y (by simp [hy])) (by simp only [List.length_append, List.length_cons, List.length_nil]; omega) (by omega)
    simp only [List.length_append, List.length_cons, List.length_nil, List.append_assoc, List.singleton_append] at this
    by_cases hp : partOkM x.toList = true
    · rw [if_pos hp, show ((pre.length : Int) + 1) = ((pre.length + (0 + 1) : Nat) : Int) by omega, this, hp]
      simp
    · rw [if_neg hp]
      simp [Bool.eq_false_iff.2 hp]
theorem parts_sizes {s : ByteArray} {r : List ByteArray} (h : r.map ByteArray.toList = splitA 47 [] s.toList) : r.length ≤ s.size + 1 ∧ ∀ x ∈ r, x.size ≤ s.size := by
  constructor
  · have := congrArg List.length h
    have h3 := splitA_le 47 s.toList []
    rw [tl_length] at h3
    rw [List.length_map] at this
    omega
  · intro x hx
    have hm : x.toList ∈ splitA 47 [] s.toList := by
      rw [← h]
      exact List.mem_map_of_mem hx
    have := splitA_mem 47 _ _ _ hm
    rw [tl_length, tl_length] at this
    simpa using this
theorem spec_pathOk (s : ByteArray) (hs : s.size ≤ 4194304) (k : Nat) (hk : s.size + 4194400 < k) : spec_PathOk.f k s = some (pathOkM s.toList) := by
  obtain ⟨r, e, l⟩ := spec_parts s hs k (by omega)
  obtain ⟨h1, h2⟩ := parts_sizes l
  unfold spec_PathOk.f
  rw [e]
  simp only [Option.bind_some]
  have := spec_path_loop s r [] k (fun x hx => Nat.le_trans (h2 x hx) hs) (by simp; omega) (by omega)
  simp only [List.nil_append, List.length_nil] at this
  rw [show ((0 : Nat) : Int) = 0 from rfl] at this
  rw [this, l, Bool.and_comm]
  rfl
theorem all_parts : ∀ r : List ByteArray, (∀ x ∈ r, x.size ≤ 4194304) → allS impl_PartOk.f r = some ((r.map ByteArray.toList).all partOkM)
  | [], _ => rfl
  | x :: r, h => by
    have hx := h x (by simp)
    simp only [allS]
    rw [impl_partOk x (by omega)]
    simp only [Option.bind_some, List.map_cons, List.all_cons]
    by_cases hp : partOkM x.toList = true
    · rw [if_pos hp, all_parts r (fun y hy => h y (by simp [hy])), hp]
      simp
    · rw [if_neg hp]
      simp [Bool.eq_false_iff.2 hp]
theorem impl_pathOk (s : ByteArray) (hs : s.size ≤ 4194304) (k : Nat) (hk : s.size + 2 < k) : impl_PathOk.f k s = some (pathOkM s.toList) := by
  unfold impl_PathOk.f pathOkM
  rw [tl_length]
  by_cases h : s.size ≤ 200
  · rw [if_pos (by omega), decide_eq_true h]
    obtain ⟨r, e, l⟩ := impl_parts s hs k hk
    obtain ⟨h1, h2⟩ := parts_sizes l
    rw [e]
    simp only [Option.bind_some]
    unfold impl_areAll_string.f
    rw [if_pos rfl, all_parts r (fun x hx => Nat.le_trans (h2 x hx) hs), l]
    simp
  · rw [if_neg (by omega), decide_eq_false h]
    simp

def userM (l : List UInt8) : Bool := decide (l.length ≤ 20) && l.all (fun b => pUser (b.toNat : Int))
def signM (l : List UInt8) : Bool := l.all (fun b => pSign (b.toNat : Int))
theorem spec_who_loop (s : ByteArray) (hs : s.size ≤ 4194304) : ∀ (t pre : List UInt8) (k : Nat), s.toList = pre ++ t → t.length < k → spec_l03Who.l0 k s (pre.length : Int) = some (t.all (fun b => pUser (b.toNat : Int)) && decide (s.toList.length ≤ 20))
  | [], pre, k, h, hk => by
    obtain ⟨k, rfl⟩ : ∃ m, k = m + 1 := ⟨k - 1, by omega⟩
    have hz := size_mid h
    simp only [List.length_nil] at hz
    unfold spec_l03Who.l0
    rw [if_neg (by omega)]
    simp [tl_length]
    omega
  | b :: t, pre, k, h, hk => by
    simp only [List.length_cons] at hk
    obtain ⟨k, rfl⟩ : ∃ m, k = m + 1 := ⟨k - 1, by omega⟩
    have hz := size_mid h
    simp only [List.length_cons] at hz
    have hlt := b.toNat_lt
    have ih := spec_who_loop s hs t (pre ++ [b]) k (by simp [h]) (by omega)
    rw [show (((pre ++ [b]).length : Nat) : Int) = (pre.length : Int) + 1 by simp] at ih
    unfold spec_l03Who.l0
    rw [if_pos (by omega), if_pos (by omega), bt_mid h, w64 (n := (b.toNat : Int)) (by omega) (by omega), w64 (by omega) (by omega), ih, in_eq, in_eq]
    simp only [Option.bind_some, List.all_cons]
    unfold pUser
    by_cases h1 : 97 ≤ (b.toNat : Int) ∧ (b.toNat : Int) ≤ 122
    · simp [h1]
    · rw [if_neg (by simpa using h1)]
      by_cases h2 : 48 ≤ (b.toNat : Int) ∧ (b.toNat : Int) ≤ 57
      · simp [h2]
      · rw [if_neg (by simpa using h2)]
        by_cases h3 : (b.toNat : Int) = 95
        · rw [if_pos h3]; simp [h3]
        · rw [if_neg h3]
          have e1 : (decide (97 ≤ (b.toNat : Int)) && decide ((b.toNat : Int) ≤ 122)) = false := by
            rw [← Bool.decide_and]; exact decide_eq_false h1
          have e2 : (decide (48 ≤ (b.toNat : Int)) && decide ((b.toNat : Int) ≤ 57)) = false := by
            rw [← Bool.decide_and]; exact decide_eq_false h2
          rw [e1, e2]
          simp [h3]
theorem spec_who (s : ByteArray) (hs : s.size ≤ 4194304) (k : Nat) (hk : s.size < k) : spec_l03Who.f k s = some (userM s.toList) := by
  have := spec_who_loop s hs s.toList [] k rfl (by rw [tl_length]; exact hk)
  unfold spec_l03Who.f userM
  rw [show ((([] : List UInt8).length : Nat) : Int) = 0 from rfl] at this
  rw [this, Bool.and_comm]
theorem spec_sign_loop (s : ByteArray) (hs : s.size ≤ 4194304) : ∀ (t pre : List UInt8) (k : Nat), s.toList = pre ++ t → t.length < k → spec_l03Sign.l0 k s (pre.length : Int) = some (signM t)
  | [], pre, k, h, hk => by
    obtain ⟨k, rfl⟩ : ∃ m, k = m + 1 := ⟨k - 1, by omega⟩
    have hz := size_mid h
    simp only [List.length_nil] at hz
    unfold spec_l03Sign.l0
    rw [if_neg (by omega)]
    rfl
  | b :: t, pre, k, h, hk => by
    simp only [List.length_cons] at hk
    obtain ⟨k, rfl⟩ : ∃ m, k = m + 1 := ⟨k - 1, by omega⟩
    have hz := size_mid h
    simp only [List.length_cons] at hz
    have hlt := b.toNat_lt
    have ih := spec_sign_loop s hs t (pre ++ [b]) k (by simp [h]) (by omega)
    rw [show (((pre ++ [b]).length : Nat) : Int) = (pre.length : Int) + 1 by simp] at ih
    unfold spec_l03Sign.l0
    rw [if_pos (by omega), if_pos (by omega), bt_mid h, w64 (n := (b.toNat : Int)) (by omega) (by omega), w64 (by omega) (by omega), ih, in_eq]
    simp only [Option.bind_some, signM, List.all_cons, pSign]
    rw [Bool.decide_and]
    cases (decide (33 ≤ (b.toNat : Int)) && decide ((b.toNat : Int) ≤ 126)) <;> simp
theorem spec_sign (s : ByteArray) (hs : s.size ≤ 4194304) (k : Nat) (hk : s.size < k) : spec_l03Sign.f k s = some (signM s.toList) := by
  have := spec_sign_loop s hs s.toList [] k rfl (by rw [tl_length]; exact hk)
  exact this
theorem impl_user (s : ByteArray) (hs : s.size ≤ 4194304) : impl_isUser.f s = some (userM s.toList) := by
  unfold impl_isUser.f userM
  rw [tl_length]
  by_cases h : s.size ≤ 20
  · rw [if_pos (by omega)]
    unfold impl_areBytes.f
    rw [if_pos (by omega)]
    simp [h, allB]
  · rw [if_neg (by omega)]
    simp [h]
theorem impl_signs (s : ByteArray) (hs : s.size ≤ 4194304) : impl_areBytes.f s 74 = some (signM s.toList) := by
  unfold impl_areBytes.f
  rw [if_pos (by omega)]
  simp [allB, signM]
/-- What an entry's kind asks of its link and its body. -/
def kindOkM (kind : Int) (path link body : List UInt8) : Bool :=
  if kind = 0 then (link == []) && decide (body.length ≤ 3000)
  else if kind = 1 then (link == []) && (body == [])
  else if kind = 2 then decide (1 ≤ link.length ∧ link.length ≤ 150) && (signM link && (body == []))
  else if kind = 3 then pathOkM link && ((link != path) && (body == []))
  else false
def entryOkM (kind : Int) (path link : List UInt8) (mode uid gid time : Int) (user group body : List UInt8) : Bool :=
  (pathOkM path && (decide (0 ≤ mode ∧ mode ≤ 4095) && (decide (0 ≤ uid ∧ uid ≤ 4294967295) && (decide (0 ≤ gid ∧ gid ≤ 4294967295) && (decide (0 ≤ time ∧ time ≤ 99999999999) && (userM user && userM group)))))) && kindOkM kind path link body
theorem spec_entry_j (k : Nat) (hk : 8500000 < k) (x : Bool) (a0 : Int) (a1 a2 : ByteArray) (a3 a4 a5 a6 : Int) (a7 a8 a9 : ByteArray) (h2 : a2.size ≤ 1048576) : spec_EntryOk.j0 k x a0 a1 a2 a3 a4 a5 a6 a7 a8 a9 = some (!x && kindOkM a0 a1.toList a2.toList a9.toList) := by
  obtain ⟨k, rfl⟩ : ∃ m, k = m + 1 := ⟨k - 1, by omega⟩
  simp only [spec_EntryOk.j0]
  unfold kindOkM
  cases x with
  | true => simp
  | false =>
    rw [if_neg (by decide)]
    simp only [Bool.not_false, Bool.true_and]
    by_cases c0 : a0 = 0
    · rw [if_pos c0, if_pos c0, tl_length]
      by_cases c : a2.toList = []
      · rw [if_pos c, c]; simp; omega
      · rw [if_neg c]; simp [c]
    rw [if_neg c0, if_neg c0]
    by_cases c1 : a0 = 1
    · rw [if_pos c1, if_pos c1]
      by_cases c : a2.toList = []
      · rw [if_pos c, c]; rfl
      · rw [if_neg c]; simp [c]
    rw [if_neg c1, if_neg c1]
    by_cases c2 : a0 = 2
    · rw [if_pos c2, if_pos c2, in_eq, spec_sign a2 (by omega) _ (by omega), tl_length]
      simp only [Option.bind_some]
      by_cases c : 1 ≤ a2.size ∧ a2.size ≤ 150
      · rw [if_pos (by simpa using ⟨by omega, by omega⟩), decide_eq_true c]
        cases signM a2.toList <;> simp
      · rw [if_neg (by simp; omega), decide_eq_false c]
        simp
    rw [if_neg c2, if_neg c2]
    by_cases c3 : a0 = 3
    · rw [if_pos c3, if_pos c3, spec_pathOk a2 (by omega) _ (by omega)]
      simp only [Option.bind_some]
      cases pathOkM a2.toList with
      | false => simp
      | true =>
        rw [if_pos rfl]
        by_cases c : a2.toList = a1.toList
        · rw [if_pos c]; simp [c]
        · rw [if_neg c]; simp [c]
    rw [if_neg c3, if_neg c3]
theorem impl_entry_j (k : Nat) (hk : 8500000 < k) (x : Bool) (a0 : Int) (a1 a2 : ByteArray) (a3 a4 a5 a6 : Int) (a7 a8 a9 : ByteArray) (h2 : a2.size ≤ 1048576) : impl_EntryOk.j0 k x a0 a1 a2 a3 a4 a5 a6 a7 a8 a9 = some (!x && kindOkM a0 a1.toList a2.toList a9.toList) := by
  obtain ⟨k, rfl⟩ : ∃ m, k = m + 1 := ⟨k - 1, by omega⟩
  simp only [impl_EntryOk.j0]
  unfold kindOkM
  cases x with
  | true => simp
  | false =>
    rw [if_neg (by decide)]
    simp only [Bool.not_false, Bool.true_and]
    by_cases c0 : a0 = 0
    · rw [if_pos c0, if_pos c0, tl_length]
      by_cases c : a9.size ≤ 3000
      · rw [if_pos (by omega), decide_eq_true c]; simp
      · rw [if_neg (by omega), decide_eq_false c]; simp
    rw [if_neg c0, if_neg c0]
    by_cases c1 : a0 = 1
    · rw [if_pos c1, if_pos c1]
      by_cases c : a2.toList = []
      · rw [if_pos c, c]; rfl
      · rw [if_neg c]; simp [c]
    rw [if_neg c1, if_neg c1]
    by_cases c2 : a0 = 2
    · rw [if_pos c2, if_pos c2, within_eq, impl_signs a2 (by omega), tl_length]
      simp only [Option.bind_some]
      by_cases c : 1 ≤ a2.size ∧ a2.size ≤ 150
      · rw [if_pos (by simpa using ⟨by omega, by omega⟩), decide_eq_true c]
        cases signM a2.toList <;> simp
      · rw [if_neg (by simp; omega), decide_eq_false c]
        simp
    rw [if_neg c2, if_neg c2]
    by_cases c3 : a0 = 3
    · rw [if_pos c3, if_pos c3, impl_pathOk a2 (by omega) _ (by omega)]
      simp only [Option.bind_some]
      cases pathOkM a2.toList with
      | false => simp
      | true =>
        rw [if_pos rfl]
        by_cases c : a2.toList = a1.toList
        · rw [if_pos c]; simp [c]
        · rw [if_neg c]; simp [c]
    rw [if_neg c3, if_neg c3]
theorem spec_entryOk (k : Nat) (hk : 8500000 < k) (a0 : Int) (a1 a2 : ByteArray) (a3 a4 a5 a6 : Int) (a7 a8 a9 : ByteArray) (h1 : a1.size ≤ 1048576) (h2 : a2.size ≤ 1048576) (h7 : a7.size ≤ 1048576) (h8 : a8.size ≤ 1048576) :
    spec_EntryOk.f k a0 a1 a2 a3 a4 a5 a6 a7 a8 a9 = some (entryOkM a0 a1.toList a2.toList a3 a4 a5 a6 a7.toList a8.toList a9.toList) := by
  unfold spec_EntryOk.f entryOkM
  have J := fun x => spec_entry_j k hk x a0 a1 a2 a3 a4 a5 a6 a7 a8 a9 h2
  simp only [spec_pathOk a1 (by omega) k (by omega), in_eq, spec_who a7 (by omega) k (by omega), spec_who a8 (by omega) k (by omega), J, Option.bind_some]
  generalize kindOkM a0 a1.toList a2.toList a9.toList = z
  generalize pathOkM a1.toList = b1
  generalize decide (0 ≤ a3 ∧ a3 ≤ 4095) = b3
  generalize decide (0 ≤ a4 ∧ a4 ≤ 4294967295) = b4
  generalize decide (0 ≤ a5 ∧ a5 ≤ 4294967295) = b5
  generalize decide (0 ≤ a6 ∧ a6 ≤ 99999999999) = b6
  generalize userM a7.toList = b7
  generalize userM a8.toList = b8
  cases b1 <;> cases b3 <;> cases b4 <;> cases b5 <;> cases b6 <;> cases b7 <;> cases b8 <;> rfl
theorem impl_entryOk (k : Nat) (hk : 8500000 < k) (a0 : Int) (a1 a2 : ByteArray) (a3 a4 a5 a6 : Int) (a7 a8 a9 : ByteArray) (h1 : a1.size ≤ 1048576) (h2 : a2.size ≤ 1048576) (h7 : a7.size ≤ 1048576) (h8 : a8.size ≤ 1048576) :
    impl_EntryOk.f k a0 a1 a2 a3 a4 a5 a6 a7 a8 a9 = some (entryOkM a0 a1.toList a2.toList a3 a4 a5 a6 a7.toList a8.toList a9.toList) := by
  unfold impl_EntryOk.f entryOkM
  have J := fun x => impl_entry_j k hk x a0 a1 a2 a3 a4 a5 a6 a7 a8 a9 h2
  simp only [impl_pathOk a1 (by omega) k (by omega), within_eq, impl_user a7 (by omega), impl_user a8 (by omega), J, Option.bind_some]
  generalize kindOkM a0 a1.toList a2.toList a9.toList = z
  generalize pathOkM a1.toList = b1
  generalize decide (0 ≤ a3 ∧ a3 ≤ 4095) = b3
  generalize decide (0 ≤ a4 ∧ a4 ≤ 4294967295) = b4
  generalize decide (0 ≤ a5 ∧ a5 ≤ 4294967295) = b5
  generalize decide (0 ≤ a6 ∧ a6 ≤ 99999999999) = b6
  generalize userM a7.toList = b7
  generalize userM a8.toList = b8
  cases b1 <;> cases b3 <;> cases b4 <;> cases b5 <;> cases b6 <;> cases b7 <;> cases b8 <;> rfl

def eOk (x : S36) : Bool := entryOkM x.f0 x.f1.toList x.f2.toList x.f3 x.f4 x.f5 x.f6 x.f7.toList x.f8.toList x.f9.toList
def Bnd (x : S36) : Prop := x.f1.size ≤ 1048576 ∧ x.f2.size ≤ 1048576 ∧ x.f7.size ≤ 1048576 ∧ x.f8.size ≤ 1048576
def stepOk (done : List S36) (x : S36) : Bool := eOk x && (seenI x.f1 done).isNone && (decide (x.f0 ≠ 3) || (seenI x.f2 done).any (fun y => decide (y.f0 = 0)))
def listGo : List S36 → List S36 → Bool
  | _, [] => true
  | done, x :: l => stepOk done x && listGo (done ++ [x]) l
def listOkM (l : List S36) : Bool := decide (l.length ≤ 30) && listGo [] l
theorem find_none (p : ByteArray) : ∀ (l : List S36) (k : Nat), seenI p l = none → findI p l k = -1
  | [], _, _ => rfl
  | x :: l, k, h => by
    unfold seenI at h
    rw [List.find?_cons] at h
    split at h
    · cases h
    · rename_i hx
      rw [findI, if_neg (by simpa using hx)]
      exact find_none p l (k + 1) h
theorem find_some (p : ByteArray) : ∀ (l : List S36) (k : Nat) (y : S36), seenI p l = some y → ∃ j : Nat, j < l.length ∧ findI p l k = ((k + j : Nat) : Int) ∧ l[j]? = some y
  | [], _, _, h => by cases h
  | x :: l, k, y, h => by
    unfold seenI at h
    rw [List.find?_cons] at h
    split at h
    · rename_i hx
      obtain rfl := Option.some.inj h
      exact ⟨0, by simp, by rw [findI, if_pos (by simpa using hx)]; rfl, rfl⟩
    · rename_i hx
      obtain ⟨j, h1, h2, h3⟩ := find_some p l (k + 1) y h
      exact ⟨j + 1, by simp only [List.length_cons]; omega, by rw [findI, if_neg (by simpa using hx), h2]; congr 1; omega, by simpa using h3⟩
theorem find_past (p : ByteArray) (x : S36) (r : List S36) (hx : x.f1.toList = p.toList) : ∀ (l : List S36) (k : Nat), seenI p l = none → findI p (l ++ x :: r) k = ((k + l.length : Nat) : Int)
  | [], k, _ => by
    rw [List.nil_append, findI, if_pos hx]
    rfl
  | y :: l, k, h => by
    unfold seenI at h
    rw [List.find?_cons] at h
    split at h
    · cases h
    · rename_i hy
      rw [List.cons_append, findI, if_neg (by simpa using hy), find_past p x r hx l (k + 1) h, List.length_cons]
      congr 1
      omega
theorem find_ahead (p : ByteArray) (r : List S36) : ∀ (l : List S36) (k : Nat) (y : S36), seenI p l = some y → findI p (l ++ r) k = findI p l k
  | [], _, _, h => by cases h
  | x :: l, k, y, h => by
    unfold seenI at h
    rw [List.find?_cons] at h
    rw [List.cons_append, findI, findI]
    split at h
    · rename_i hx
      rw [if_pos (by simpa using hx), if_pos (by simpa using hx)]
    · rename_i hx
      rw [if_neg (by simpa using hx), if_neg (by simpa using hx)]
      exact find_ahead p r l (k + 1) y h
theorem impl_listOk_go (k : Nat) (hk : 8500000 < k) : ∀ (l done : List S36), (∀ x ∈ l, Bnd x) → listOkI k done l = some (listGo done l)
  | [], _, _ => rfl
  | x :: l, done, hb => by
    obtain ⟨h1, h2, h7, h8⟩ := hb x (List.mem_cons_self ..)
    unfold listOkI listGo stepOk
    rw [impl_entryOk k hk x.f0 x.f1 x.f2 x.f3 x.f4 x.f5 x.f6 x.f7 x.f8 x.f9 h1 h2 h7 h8, impl_listOk_go k hk l (done ++ [x]) (fun y hy => hb y (List.mem_cons_of_mem _ hy))]
    simp only [Option.bind_some]
    show (if _ then _ else _) = some ((eOk x && _ && _) && _)
    unfold eOk
    generalize entryOkM x.f0 x.f1.toList x.f2.toList x.f3 x.f4 x.f5 x.f6 x.f7.toList x.f8.toList x.f9.toList = b1
    generalize (seenI x.f1 done).isNone = b2
    generalize (seenI x.f2 done).any (fun y => decide (y.f0 = 0)) = b3
    by_cases h3 : x.f0 = 3 <;> cases b1 <;> cases b2 <;> cases b3 <;> simp [h3]
theorem impl_listOk (k : Nat) (hk : 8500000 < k) (l : List S36) (hb : ∀ x ∈ l, Bnd x) : impl_ListOk.f k l = some (listOkM l) := by
  unfold impl_ListOk.f listOkM
  by_cases h : 30 < l.length
  · rw [if_pos h, decide_eq_false (by omega)]
    rfl
  · rw [if_neg h, if_pos (by
      rw [List.all_eq_true]
      intro x hx
      obtain ⟨h1, h2, _, _⟩ := hb x hx
      simp [h1, h2]), impl_listOk_go k hk l [] hb, decide_eq_true (by omega)]
    simp
theorem spec_listOk_loop (l : List S36) (hl : l.length ≤ 1048576) (hb : ∀ x ∈ l, Bnd x) : ∀ (rest done : List S36) (k : Nat), l = done ++ rest → 2 * rest.length + 10000000 < k → spec_ListOk.l0 k l (done.length : Int) = some (listGo done rest && decide ((l.length : Int) ≤ 30))
  | [], done, k, hd, hk => by
    obtain ⟨k, rfl⟩ : ∃ m, k = m + 1 := ⟨k - 1, by omega⟩
    have hz := congrArg List.length hd
    simp only [List.append_nil] at hz
    unfold spec_ListOk.l0
    rw [if_neg (by omega)]
    rfl
  | x :: rest, done, k, hd, hk => by
    simp only [List.length_cons] at hk
    obtain ⟨k, rfl⟩ : ∃ m, k = m + 2 := ⟨k - 2, by omega⟩
    have hz := congrArg List.length hd
    simp only [List.length_append, List.length_cons] at hz
    have hx : rd_T36 l (done.length : Int) = x := by
      rw [rdI_get l done.length (by omega)]
      simp [hd]
    obtain ⟨h1, h2, h7, h8⟩ := hb x (by rw [hd]; simp)
    have ih := spec_listOk_loop l hl hb rest (done ++ [x]) k (by rw [hd]; simp) (by omega)
    rw [List.length_append, List.length_singleton, show ((done.length + 1 : Nat) : Int) = (done.length : Int) + 1 by omega] at ih
    unfold spec_ListOk.l0
    rw [if_pos (by omega), if_pos (by omega), hx, spec_entryOk (k + 1) (by omega) x.f0 x.f1 x.f2 x.f3 x.f4 x.f5 x.f6 x.f7 x.f8 x.f9 h1 h2 h7 h8]
    simp only [Option.bind_some]
    rw [spec_find l x.f1 hl (k + 1) (by omega)]
    simp only [Option.bind_some]
    unfold listGo stepOk
    show (if eOk x = true then _ else _) = some (((eOk x && _) && _ && _) && _)
    cases eOk x with
    | false =>
      rw [if_neg (by decide)]
      unfold spec_ListOk.j1
      rw [if_pos rfl]
      simp
    | true =>
      rw [if_pos rfl]
      unfold spec_ListOk.j1
      cases hs : seenI x.f1 done with
      | some y =>
        obtain ⟨j, hj, ej, _⟩ := find_some x.f1 done 0 y hs
        have e : findI x.f1 l 0 = ((0 + j : Nat) : Int) := by rw [hd, find_ahead x.f1 (x :: rest) done 0 y hs, ej]
        rw [e, if_pos (by simp; omega)]
        simp
      | none =>
        have e : findI x.f1 l 0 = ((0 + done.length : Nat) : Int) := by rw [hd]; exact find_past x.f1 x rest rfl done 0 hs
        rw [e, if_neg (by simp)]
        by_cases c3 : x.f0 = 3
        · rw [if_pos c3, if_pos (by omega), if_pos (by omega), Int.toNat_natCast, show l.take done.length = done by rw [hd, List.take_left], spec_find done x.f2 (by omega) k (by omega)]
          simp only [Option.bind_some]
          cases hs2 : seenI x.f2 done with
          | none =>
            rw [find_none x.f2 done 0 hs2, if_pos (by decide)]
            simp [c3]
          | some y =>
            obtain ⟨j, hj, ej, ey⟩ := find_some x.f2 done 0 y hs2
            have hr : rd_T36 l (((0 + j : Nat)) : Int) = y := by
              rw [rdI_get l (0 + j) (by omega)]
              have : l[0 + j]? = some y := by rw [hd, Nat.zero_add, List.getElem?_append_left hj, ey]
              obtain ⟨_, h⟩ := List.getElem?_eq_some_iff.1 this
              exact h
            rw [ej, if_neg (by omega), if_pos (by omega), if_pos (by omega), hr]
            by_cases c0 : y.f0 = 0
            · rw [if_pos c0, w64 (by omega) (by omega), ih]
              simp [c3, c0]
            · rw [if_neg c0]
              simp [c3, c0]
        · rw [if_neg c3, w64 (by omega) (by omega), ih]
          simp [c3]
theorem spec_listOk (l : List S36) (hl : l.length ≤ 1048576) (hb : ∀ x ∈ l, Bnd x) (k : Nat) (hk : 13000000 < k) : spec_ListOk.f k l = some (listOkM l) := by
  have h := spec_listOk_loop l hl hb l [] k rfl (by omega)
  unfold spec_ListOk.f
  rw [show ((([] : List S36).length : Nat) : Int) = 0 from rfl] at h
  rw [h]
  unfold listOkM
  rw [Bool.and_comm]
  congr 2
  rw [Bool.eq_iff_iff]
  simp only [decide_eq_true_eq]
  omega
theorem sizeL_mem (l : List S33) : ∀ x ∈ l, sizeE x ≤ sizeL l := by
  induction l with
  | nil => intro x hx; cases hx
  | cons y l ih =>
    intro x hx
    simp only [sizeL]
    rcases List.mem_cons.1 hx with rfl | h
    · omega
    · have := ih x h; omega
theorem bnd_conv (l : List S33) (h : sizeL l ≤ 1048576) : ∀ x ∈ l.map conv, Bnd x := by
  intro x hx
  obtain ⟨y, hy, rfl⟩ := List.mem_map.1 hx
  have h1 := sizeL_mem l y hy
  unfold sizeE at h1
  unfold Bnd conv
  refine ⟨?_, ?_, ?_, ?_⟩ <;> simp only <;> omega

/-! ### Marks: a result of a list of texts is written over and read back -/
theorem mark_text_loop : ∀ (j : Nat) (k : Nat) (m : Int) (x : ByteArray), j ≤ 18 → 0 ≤ m → m < 10 ^ j → j < k → x.size + j ≤ 1000 → ∃ r, laws_markText.l0 k m x = some r
  | 0, k, m, x, hj, h0, h1, hk, hx => by
    obtain ⟨k, rfl⟩ : ∃ n, k = n + 1 := ⟨k - 1, by omega⟩
    unfold laws_markText.l0
    rw [if_neg (by omega), if_pos (by omega)]
    exact ⟨_, rfl⟩
  | j + 1, k, m, x, hj, h0, h1, hk, hx => by
    obtain ⟨k, rfl⟩ : ∃ n, k = n + 1 := ⟨k - 1, by omega⟩
    unfold laws_markText.l0
    by_cases hm : m > 0
    · rw [if_pos hm]
      simp only [Option.bind_some]
      have e1 : ∀ z : Int, (strOfNums [z]).size = 1 := fun z => by rw [strOfNums_size]; rfl
      rw [if_pos (by rw [e1]; omega)]
      have hd : Int.tdiv m 10 = m / 10 := Int.tdiv_eq_ediv_of_nonneg h0
      have hp : (10 : Int) ^ (j + 1) ≤ 1000000000000000000 := by
        have : (10 : Nat) ^ (j + 1) ≤ 10 ^ 18 := Nat.pow_le_pow_right (by decide) (by omega)
        have h2 : ((10 : Int) ^ (j + 1)) = ((10 ^ (j + 1) : Nat) : Int) := by simp
        omega
      rw [hd, w64 (by omega) (by omega)]
      rw [Int.pow_succ] at h1
      exact mark_text_loop j k _ _ (by omega) (by omega) (by omega) (by omega) (by rw [ByteArray.size_append, e1]; omega)
    · rw [if_neg hm, if_pos (by omega)]
      exact ⟨_, rfl⟩
theorem mark_text (k : Nat) (m : Int) (hk : 18 < k) (h1 : m < 1000000000000000000) : ∃ r, laws_markText.f k m = some r := by
  unfold laws_markText.f
  by_cases h : m ≤ 0
  · rw [if_pos h]
    exact ⟨_, rfl⟩
  · rw [if_neg h]
    exact mark_text_loop 18 k m _ (by decide) (by omega) (by omega) hk (by decide)

/-! ### Marks: a result of a list of entries is written over and read back -/
def mT (m : Int) : ByteArray := (laws_markText.f 100 m).getD ByteArray.empty
theorem mT_eq (k : Nat) (m : Int) (hk : 100 ≤ k) (h0 : 0 ≤ m) (h1 : m < 1000000000000000000) : laws_markText.f k m = some (mT m) := by
  obtain ⟨r, hr⟩ := mark_text 100 m (by decide) h1
  have h : mT m = r := by unfold mT; rw [hr]; rfl
  rw [h]
  exact at_rounds (g := fun k => laws_markText.f k m) (fun k => laws_markText.mono m k) hk hr
def markE (m : Int) : S36 := ⟨m, mT (m + 1), mT (m + 1 + 1), m + 1 + 1 + 1, m + 1 + 1 + 1 + 1, m + 1 + 1 + 1 + 1 + 1, m + 1 + 1 + 1 + 1 + 1 + 1, mT (m + 1 + 1 + 1 + 1 + 1 + 1 + 1), mT (m + 1 + 1 + 1 + 1 + 1 + 1 + 1 + 1), mT (m + 1 + 1 + 1 + 1 + 1 + 1 + 1 + 1 + 1)⟩
def marksE : Int → Nat → List S36
  | _, 0 => []
  | m, n + 1 => markE m :: marksE (m + 1 + 1 + 1 + 1 + 1 + 1 + 1 + 1 + 1 + 1) n
theorem set_mid (pre t : List S36) (x v : S36) : (pre ++ x :: t).set ((pre.length : Int)).toNat v = pre ++ v :: t := by
  rw [Int.toNat_natCast, List.set_append_right _ _ (Nat.le_refl _)]
  simp
theorem rd_mid (pre t : List S36) (x : S36) : rd_T36 (pre ++ x :: t) (pre.length : Int) = x := by
  rw [rdI_get _ _ (by simp)]
  simp
theorem wraps10 (m : Int) (h0 : 0 ≤ m) (h1 : m < 1000000000000000) : wrap64 (m + 1) = m + 1 ∧ wrap64 (m + 1 + 1) = m + 1 + 1 ∧ wrap64 (m + 1 + 1 + 1) = m + 1 + 1 + 1 ∧ wrap64 (m + 1 + 1 + 1 + 1) = m + 1 + 1 + 1 + 1 ∧ wrap64 (m + 1 + 1 + 1 + 1 + 1) = m + 1 + 1 + 1 + 1 + 1 ∧
    wrap64 (m + 1 + 1 + 1 + 1 + 1 + 1) = m + 1 + 1 + 1 + 1 + 1 + 1 ∧ wrap64 (m + 1 + 1 + 1 + 1 + 1 + 1 + 1) = m + 1 + 1 + 1 + 1 + 1 + 1 + 1 ∧ wrap64 (m + 1 + 1 + 1 + 1 + 1 + 1 + 1 + 1) = m + 1 + 1 + 1 + 1 + 1 + 1 + 1 + 1 ∧ wrap64 (m + 1 + 1 + 1 + 1 + 1 + 1 + 1 + 1 + 1) = m + 1 + 1 + 1 + 1 + 1 + 1 + 1 + 1 + 1 ∧
    wrap64 (m + 1 + 1 + 1 + 1 + 1 + 1 + 1 + 1 + 1 + 1) = m + 1 + 1 + 1 + 1 + 1 + 1 + 1 + 1 + 1 + 1 := by
  refine ⟨w64 ?_ ?_, w64 ?_ ?_, w64 ?_ ?_, w64 ?_ ?_, w64 ?_ ?_, w64 ?_ ?_, w64 ?_ ?_, w64 ?_ ?_, w64 ?_ ?_, w64 ?_ ?_⟩ <;> omega
theorem markE_loop : ∀ (t pre : List S36) (k : Nat) (m : Int), 0 ≤ m → m + 10 * t.length < 1000000000000000 → pre.length + t.length < 1000000000000000 → t.length + 110 < k →
    laws_markEntryS.l0 k (pre ++ t) m (pre.length : Int) = some (m + 10 * (t.length : Int), pre ++ marksE m t.length)
  | [], pre, k, m, h0, h1, h2, hk => by
    obtain ⟨k, rfl⟩ : ∃ n, k = n + 1 := ⟨k - 1, by omega⟩
    unfold laws_markEntryS.l0
    rw [if_neg (by simp)]
    simp [marksE]
  | x :: t, pre, k, m, h0, h1, h2, hk => by
    simp only [List.length_cons] at h1 h2 hk
    obtain ⟨k, rfl⟩ : ∃ n, k = n + 1 := ⟨k - 1, by omega⟩
    have g1 : (pre.length : Int) < ((pre ++ x :: t).length : Int) := by simp; omega
    have g2 : 0 ≤ (pre.length : Int) := by omega
    have ih := markE_loop t (pre ++ [markE m]) k (m + 1 + 1 + 1 + 1 + 1 + 1 + 1 + 1 + 1 + 1) (by omega) (by omega) (by simp only [List.length_append, List.length_singleton]; omega) (by omega)
    have e1 := mT_eq k (m + 1) (by omega) (by omega) (by omega)
    have e2 := mT_eq k (m + 1 + 1) (by omega) (by omega) (by omega)
    have e7 := mT_eq k (m + 1 + 1 + 1 + 1 + 1 + 1 + 1) (by omega) (by omega) (by omega)
    have e8 := mT_eq k (m + 1 + 1 + 1 + 1 + 1 + 1 + 1 + 1) (by omega) (by omega) (by omega)
    have e9 := mT_eq k (m + 1 + 1 + 1 + 1 + 1 + 1 + 1 + 1 + 1) (by omega) (by omega) (by omega)
    have wi : wrap64 ((pre.length : Int) + 1) = ((pre ++ [markE m]).length : Int) := by
      rw [w64 (by omega) (by omega)]
      simp
    have hm : m + 10 * ((x :: t).length : Int) = m + 1 + 1 + 1 + 1 + 1 + 1 + 1 + 1 + 1 + 1 + 10 * (t.length : Int) := by simp only [List.length_cons]; omega
    obtain ⟨w1, w2, w3, w4, w5, w6, w7, w8, w9, w10⟩ := wraps10 m h0 (by omega)
    unfold laws_markEntryS.l0
    rw [if_pos g1, if_pos g2]
    simp only [Option.bind_some, set_mid, rd_mid, w1, w2, w3, w4, w5, w6, w7, w8, w9, w10, e1, e2, e7, e8, e9]
    rw [wi, hm]
    clear w1 w2 w3 w4 w5 w6 w7 w8 w9 w10 e1 e2 e7 e8 e9 wi hm
    have e : pre ++ markE m :: t = pre ++ [markE m] ++ t := by simp
    show laws_markEntryS.l0 k (pre ++ markE m :: t) _ _ = _
    rw [e, ih]
    simp [marksE]
theorem heldE_loop : ∀ (n : Nat) (pre : List S36) (k : Nat) (m : Int), 0 ≤ m → m + 10 * n < 1000000000000000 → pre.length + n < 1000000000000000 → n + 110 < k →
    laws_heldEntryS.l0 k (pre ++ marksE m n) m (pre.length : Int) = some (m + 10 * (n : Int))
  | 0, pre, k, m, h0, h1, h2, hk => by
    obtain ⟨k, rfl⟩ : ∃ n, k = n + 1 := ⟨k - 1, by omega⟩
    unfold laws_heldEntryS.l0
    rw [if_neg (by simp [marksE])]
    simp
  | n + 1, pre, k, m, h0, h1, h2, hk => by
    obtain ⟨k, rfl⟩ : ∃ n, k = n + 1 := ⟨k - 1, by omega⟩
    have g1 : (pre.length : Int) < ((pre ++ markE m :: marksE (m + 1 + 1 + 1 + 1 + 1 + 1 + 1 + 1 + 1 + 1) n).length : Int) := by simp; omega
    have g2 : 0 ≤ (pre.length : Int) := by omega
    have ih := heldE_loop n (pre ++ [markE m]) k (m + 1 + 1 + 1 + 1 + 1 + 1 + 1 + 1 + 1 + 1) (by omega) (by omega) (by simp only [List.length_append, List.length_singleton]; omega) (by omega)
    have e1 := mT_eq k (m + 1) (by omega) (by omega) (by omega)
    have e2 := mT_eq k (m + 1 + 1) (by omega) (by omega) (by omega)
    have e7 := mT_eq k (m + 1 + 1 + 1 + 1 + 1 + 1 + 1) (by omega) (by omega) (by omega)
    have e8 := mT_eq k (m + 1 + 1 + 1 + 1 + 1 + 1 + 1 + 1) (by omega) (by omega) (by omega)
    have e9 := mT_eq k (m + 1 + 1 + 1 + 1 + 1 + 1 + 1 + 1 + 1) (by omega) (by omega) (by omega)
    have wi : wrap64 ((pre.length : Int) + 1) = ((pre ++ [markE m]).length : Int) := by
      rw [w64 (by omega) (by omega)]
      simp
    have hm : m + 10 * (((n + 1 : Nat)) : Int) = m + 1 + 1 + 1 + 1 + 1 + 1 + 1 + 1 + 1 + 1 + 10 * (n : Int) := by omega
    obtain ⟨w1, w2, w3, w4, w5, w6, w7, w8, w9, w10⟩ := wraps10 m h0 (by omega)
    show laws_heldEntryS.l0 (k + 1) (pre ++ markE m :: marksE (m + 1 + 1 + 1 + 1 + 1 + 1 + 1 + 1 + 1 + 1) n) m _ = _
    unfold laws_heldEntryS.l0
    rw [if_pos g1, if_pos g2]
    have f0 : (markE m).f0 = m := rfl
    have f1 : (markE m).f1 = mT (m + 1) := rfl
    have f2 : (markE m).f2 = mT (m + 1 + 1) := rfl
    have f3 : (markE m).f3 = m + 1 + 1 + 1 := rfl
    have f4 : (markE m).f4 = m + 1 + 1 + 1 + 1 := rfl
    have f5 : (markE m).f5 = m + 1 + 1 + 1 + 1 + 1 := rfl
    have f6 : (markE m).f6 = m + 1 + 1 + 1 + 1 + 1 + 1 := rfl
    have f7 : (markE m).f7 = mT (m + 1 + 1 + 1 + 1 + 1 + 1 + 1) := rfl
    have f8 : (markE m).f8 = mT (m + 1 + 1 + 1 + 1 + 1 + 1 + 1 + 1) := rfl
    have f9 : (markE m).f9 = mT (m + 1 + 1 + 1 + 1 + 1 + 1 + 1 + 1 + 1) := rfl
    simp only [Option.bind_some, rd_mid, f0, f1, f2, f3, f4, f5, f6, f7, f8, f9, w1, w2, w3, w4, w5, w6, w7, w8, w9, w10, e1, e2, e7, e8, e9, if_true]
    rw [wi, hm]
    clear w1 w2 w3 w4 w5 w6 w7 w8 w9 w10 e1 e2 e7 e8 e9 wi hm
    have e : pre ++ markE m :: marksE (m + 1 + 1 + 1 + 1 + 1 + 1 + 1 + 1 + 1 + 1) n = pre ++ [markE m] ++ marksE (m + 1 + 1 + 1 + 1 + 1 + 1 + 1 + 1 + 1 + 1) n := by simp
    rw [e, ih]
theorem markE_ok (k : Nat) (l : List S36) (m : Int) (h0 : 0 ≤ m) (h1 : m ≤ 100000000) (hl : l.length ≤ 4194304) (hk : 4194500 < k) : laws_markEntryS.f k l m = some (m + 10 * (l.length : Int), marksE m l.length) := by
  have h := markE_loop l [] k m h0 (by omega) (by simp only [List.length_nil]; omega) (by omega)
  exact h
theorem heldE_ok (k : Nat) (n : Nat) (hn : n ≤ 4194304) (hk : 4194500 < k) : laws_heldEntryS.f k (marksE 1 n) 1 = some (1 + 10 * (n : Int)) := by
  have h := heldE_loop n [] k 1 (by decide) (by omega) (by simp only [List.length_nil]; omega) (by omega)
  exact h

theorem tl_iff (s t : ByteArray) : s.toList = t.toList ↔ s = t := ⟨tl_inj, fun h => by rw [h]⟩
theorem eqE (a b : S36) : ∃ c : Bool, laws_eqEntry.f a.f0 a.f1 a.f2 a.f3 a.f4 a.f5 a.f6 a.f7 a.f8 a.f9 b.f0 b.f1 b.f2 b.f3 b.f4 b.f5 b.f6 b.f7 b.f8 b.f9 = some c ∧ (c = true ↔ a = b) := by
  obtain ⟨a0, a1, a2, a3, a4, a5, a6, a7, a8, a9⟩ := a
  obtain ⟨b0, b1, b2, b3, b4, b5, b6, b7, b8, b9⟩ := b
  unfold laws_eqEntry.f
  simp only [tl_iff, S36.mk.injEq]
  repeat' split
  all_goals first | exact ⟨true, rfl, by simp [*]⟩ | exact ⟨false, rfl, by simp [*]⟩
theorem eqS_loop (a b : List S36) (ha : a.length ≤ 9223372036854775806) (hab : a.length = b.length) : ∀ (d k i : Nat), a.length - i = d → i ≤ a.length → d < k → ∃ c : Bool, laws_eqEntryS.l0 k a b (i : Int) = some c ∧ (c = true ↔ a.drop i = b.drop i) := by
  intro d
  induction d with
  | zero =>
    intro k i hd hi hk
    obtain ⟨k, rfl⟩ : ∃ m, k = m + 1 := ⟨k - 1, by omega⟩
    simp only [laws_eqEntryS.l0]
    rw [if_neg (by omega), List.drop_eq_nil_of_le (by omega), List.drop_eq_nil_of_le (by omega)]
    exact ⟨true, rfl, by simp⟩
  | succ d ih =>
    intro k i hd hi hk
    obtain ⟨k, rfl⟩ : ∃ m, k = m + 1 := ⟨k - 1, by omega⟩
    simp only [laws_eqEntryS.l0]
    obtain ⟨c, hc, h⟩ := eqE (rd_T36 a (i : Int)) (rd_T36 b (i : Int))
    rw [if_pos (by omega), if_pos (by omega), if_pos (by omega), hc, rdI_drop a i (by omega), rdI_drop b i (by omega)]
    simp only [Option.bind_some, List.cons.injEq, ← h]
    have e : wrap64 ((i : Int) + 1) = ((i + 1 : Nat) : Int) := by rw [w64 (by omega) (by omega)]; omega
    cases c with
    | false => exact ⟨false, by rw [if_neg (by decide)], by simp⟩
    | true =>
      obtain ⟨q, hq, h2⟩ := ih k (i + 1) (by omega) (by omega) (by omega)
      exact ⟨q, by rw [if_pos rfl, e]; exact hq, by simp [h2]⟩
theorem eqS (a b : List S36) (ha : a.length ≤ 9223372036854775806) (k : Nat) (hk : a.length < k) : ∃ c : Bool, laws_eqEntryS.f k a b = some c ∧ (c = true ↔ a = b) := by
  unfold laws_eqEntryS.f
  by_cases h : (a.length : Int) = (b.length : Int)
  · obtain ⟨c, hc, h2⟩ := eqS_loop a b ha (by omega) a.length k 0 (by omega) (by omega) hk
    rw [if_pos h]
    exact ⟨c, hc, by simpa using h2⟩
  · rw [if_neg h]
    exact ⟨false, rfl, by simp; intro e; rw [e] at h; exact h rfl⟩
theorem eqS_same (a : List S36) (ha : a.length ≤ 9223372036854775806) (k : Nat) (hk : a.length < k) : laws_eqEntryS.f k a a = some true := by
  obtain ⟨c, hc, h⟩ := eqS a a ha k hk
  rw [hc, h.2 rfl]

def mergeM (a b : List S36) : List S36 := if listOkM (keepI b a ++ b) = true then keepI b a ++ b else a
theorem bnd_merge {a b : List S36} (ha : ∀ x ∈ a, Bnd x) (hb : ∀ x ∈ b, Bnd x) : ∀ x ∈ keepI b a ++ b, Bnd x := by
  intro x hx
  rcases List.mem_append.1 hx with h | h
  · exact ha x (List.mem_filter.1 h).1
  · exact hb x h
theorem keepI_len (a b : List S36) : (keepI b a).length ≤ a.length := List.length_filter_le _ _
theorem mergeM_len (a b : List S36) : (mergeM a b).length ≤ a.length + b.length := by
  unfold mergeM
  have := keepI_len a b
  split
  · rw [List.length_append]; omega
  · omega
theorem impl_merge (a b : List S36) (hl : a.length + b.length ≤ 1048576) (ha : ∀ x ∈ a, Bnd x) (hb : ∀ x ∈ b, Bnd x) (k : Nat) (hk : 8500000 < k) : impl_Merge.f k a b = some (mergeM a b) := by
  unfold impl_Merge.f
  rw [if_pos (by omega), impl_listOk k hk _ (bnd_merge ha hb)]
  rfl
theorem spec_merge_loop (a b : List S36) (hl : a.length + b.length ≤ 1048576) (ha : ∀ x ∈ a, Bnd x) (hb : ∀ x ∈ b, Bnd x) : ∀ (rest done : List S36) (k : Nat), a = done ++ rest → rest.length + 13000001 < k →
    spec_Merge.l0 k a b (keepI b done) (done.length : Int) = some (mergeM a b)
  | [], done, k, hd, hk => by
    obtain ⟨k, rfl⟩ : ∃ m, k = m + 1 := ⟨k - 1, by omega⟩
    have hz := congrArg List.length hd
    simp only [List.append_nil] at hz hd
    subst hd
    have hle := keepI_len a b
    unfold spec_Merge.l0
    rw [if_neg (by omega), if_pos (by omega)]
    simp only [Option.bind_some]
    rw [spec_listOk (keepI b a ++ b) (by rw [List.length_append]; omega) (bnd_merge ha hb) k (by omega)]
    simp only [Option.bind_some]
    unfold mergeM
    split
    · rfl
    · rw [if_pos (by simp only [List.length_nil]; omega)]
      rfl
  | x :: rest, done, k, hd, hk => by
    simp only [List.length_cons] at hk
    obtain ⟨k, rfl⟩ : ∃ m, k = m + 1 := ⟨k - 1, by omega⟩
    have hz := congrArg List.length hd
    simp only [List.length_append, List.length_cons] at hz
    have hx : rd_T36 a (done.length : Int) = x := by
      rw [rdI_get a done.length (by omega)]
      simp [hd]
    have hle := keepI_len done b
    have ih := spec_merge_loop a b hl ha hb rest (done ++ [x]) k (by rw [hd]; simp) (by omega)
    rw [List.length_append, List.length_singleton, show ((done.length + 1 : Nat) : Int) = (done.length : Int) + 1 by omega] at ih
    unfold spec_Merge.l0
    rw [if_pos (by omega), if_pos (by omega), hx, spec_find b x.f1 (by omega) k (by omega)]
    simp only [Option.bind_some]
    rw [w64 (by omega) (by omega)]
    by_cases c : findI x.f1 b 0 < 0
    · rw [if_pos c, if_pos (by omega)]
      have e : keepI b (done ++ [x]) = keepI b done ++ [x] := by
        unfold keepI
        rw [List.filter_append]
        simp [c]
      rw [e] at ih
      exact ih
    · rw [if_neg c]
      have e : keepI b (done ++ [x]) = keepI b done := by
        unfold keepI
        rw [List.filter_append]
        simp [c]
      rw [e] at ih
      exact ih
theorem spec_merge (a b : List S36) (hl : a.length + b.length ≤ 1048576) (ha : ∀ x ∈ a, Bnd x) (hb : ∀ x ∈ b, Bnd x) (k : Nat) (hk : 15000000 < k) : spec_Merge.f k a b = some (mergeM a b) :=
  spec_merge_loop a b hl ha hb a [] k rfl (by omega)

theorem FnExactMerge : ∀ (l0 : List S33) (l1 : List S33), l0.length ≤ 9223372036854775807 → (∀ x ∈ l0, Ok33 x) → l1.length ≤ 9223372036854775807 → (∀ x ∈ l1, Ok33 x) → ∃ k, laws_FnExactMerge.f k l0 l1 = some true := by
  intro a b ha oa hb ob
  obtain ⟨K, hK⟩ : ∃ K, K = 16000000 := ⟨_, rfl⟩
  refine ⟨K + 1, ?_⟩
  unfold laws_FnExactMerge.f
  obtain ⟨r, hr, h⟩ := szS a (ok_sz oa) ha 1048576 (by omega) (by omega) (K + 1) (by omega)
  rw [hr]
  simp only [Option.bind_some]
  rcases h with h | ⟨h0, h1⟩
  · rw [if_pos h]
  rw [if_neg (by omega)]
  obtain ⟨q, hq, h2⟩ := szS b (ok_sz ob) hb r h0 (by omega) (K + 1) (by omega)
  rw [hq]
  simp only [Option.bind_some]
  rcases h2 with h2 | ⟨h2, h3⟩
  · rw [if_pos h2]
  have ba := bnd_conv a (by omega)
  have bb := bnd_conv b (by omega)
  have la : (a.map conv).length = a.length := List.length_map _
  have lb : (b.map conv).length = b.length := List.length_map _
  have hm := mergeM_len (a.map conv) (b.map conv)
  have ta := fun k (hk : 1048576 < k) => toS a (by omega) k hk
  have tb := fun k (hk : 1048576 < k) => toS b (by omega) k hk
  have J : laws_FnExactMerge.j0 (K + 1) a b (mergeM (a.map conv) (b.map conv)) (mergeM (a.map conv) (b.map conv)) false = some true := by
    simp only [laws_FnExactMerge.j0, Bool.false_eq_true, if_false]
    rw [markE_ok K (mergeM (a.map conv) (b.map conv)) 1 (by decide) (by decide) (by omega) (by omega)]
    simp only [Option.bind_some]
    rw [heldE_ok K _ (by omega) (by omega)]
    simp only [Option.bind_some]
    rw [if_neg (by omega), if_pos trivial, ta K (by omega)]
    simp only [Option.bind_some]
    rw [tb K (by omega)]
    simp only [Option.bind_some]
    rw [impl_merge (a.map conv) (b.map conv) (by omega) ba bb K (by omega)]
    simp only [Option.bind_some]
    rw [eqS_same _ (by omega) _ (by omega)]
    simp only [Option.bind_some, if_true]
    rw [if_neg (by omega)]
  rw [if_neg (by omega), ta _ (by omega)]
  simp only [Option.bind_some]
  rw [tb _ (by omega)]
  simp only [Option.bind_some]
  rw [spec_merge (a.map conv) (b.map conv) (by omega) ba bb _ (by omega), impl_merge (a.map conv) (b.map conv) (by omega) ba bb _ (by omega)]
  simp only [Option.bind_some]
  rw [eqS_same _ (by omega) _ (by omega), eqS_same _ (by omega) _ (by omega), eqS_same _ (by omega) _ (by omega)]
  simp only [Option.bind_some, if_true, Bool.not_true]
  rw [markE_ok (K + 1) (a.map conv) 1 (by decide) (by decide) (by omega) (by omega)]
  simp only [Option.bind_some]
  rw [markE_ok (K + 1) (b.map conv) _ (by omega) (by omega) (by omega) (by omega)]
  simp only [Option.bind_some]
  rw [if_neg (by omega)]
  exact J

end Go.Proofs.YtgmggpgcfonmgaaDoor.Pure
