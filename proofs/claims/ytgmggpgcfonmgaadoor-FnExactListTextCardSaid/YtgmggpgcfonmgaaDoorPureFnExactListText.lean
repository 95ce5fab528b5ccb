/-
The pure statement of the law FnExactListText (numbers, byte strings and lists; no Go and no memory): the printed law's function answers true. Conditions: those of the printed statement (each string at most 2^47 - 4096 bytes, each number of its kind).
-/
import Derived.Test.YtgmggpgcfonmgaaDoorPFnExactListTextx12
import Derived.Test.YtgmggpgcfonmgaaDoorCore
namespace Go.Proofs.YtgmggpgcfonmgaaDoor.Pure
open Go.RowKit Go.Proofs.YtgmggpgcfonmgaaDoor.PFnExactListText Go.Proofs.YtgmggpgcfonmgaaDoorW.PrintWords Go.Proofs.YtgmggpgcfonmgaaDoorW.PrintLast Go.Proofs.YtgmggpgcfonmgaaDoor.Core
set_option linter.unusedVariables false
set_option linter.unusedSimpArgs false

theorem sz_plain (a0 : Int) (a1 a2 : ByteArray) (a3 a4 a5 a6 : Int) (a7 a8 a9 : ByteArray) (h : a1.size ≤ 9223372036854775807 ∧ a2.size ≤ 9223372036854775807 ∧ a7.size ≤ 9223372036854775807 ∧ a8.size ≤ 9223372036854775807 ∧ a9.size ≤ 9223372036854775807) (left : Int) (h0 : 0 ≤ left) (h1 : left ≤ 1048576) : ∃ r, laws_szEntry.f a0 a1 a2 a3 a4 a5 a6 a7 a8 a9 left = some r ∧ (r < 0 ∨ (0 ≤ r ∧ ((a1.size + a2.size + a7.size + a8.size + a9.size : Nat) : Int) = left - r)) := by
  obtain ⟨b1, b2, b7, b8, b9⟩ := h
  unfold laws_szEntry.f
  rw [w64 (n := left - (a1.size : Int)) (by omega) (by omega)]
  by_cases c1 : left - (a1.size : Int) < 0
  · rw [if_pos c1]; exact ⟨_, rfl, .inl (by omega)⟩
  rw [if_neg c1, w64 (n := left - (a1.size : Int) - (a2.size : Int)) (by omega) (by omega)]
  by_cases c2 : left - (a1.size : Int) - (a2.size : Int) < 0
  · rw [if_pos c2]; exact ⟨_, rfl, .inl (by omega)⟩
  rw [if_neg c2, w64 (n := left - (a1.size : Int) - (a2.size : Int) - (a7.size : Int)) (by omega) (by omega)]
  by_cases c3 : left - (a1.size : Int) - (a2.size : Int) - (a7.size : Int) < 0
  · rw [if_pos c3]; exact ⟨_, rfl, .inl (by omega)⟩
  rw [if_neg c3, w64 (n := left - (a1.size : Int) - (a2.size : Int) - (a7.size : Int) - (a8.size : Int)) (by omega) (by omega)]
  by_cases c4 : left - (a1.size : Int) - (a2.size : Int) - (a7.size : Int) - (a8.size : Int) < 0
  · rw [if_pos c4]; exact ⟨_, rfl, .inl (by omega)⟩
  rw [if_neg c4, w64 (n := left - (a1.size : Int) - (a2.size : Int) - (a7.size : Int) - (a8.size : Int) - (a9.size : Int)) (by omega) (by omega)]
  by_cases c5 : left - (a1.size : Int) - (a2.size : Int) - (a7.size : Int) - (a8.size : Int) - (a9.size : Int) < 0
  · rw [if_pos c5]; exact ⟨_, rfl, .inl (by omega)⟩
  rw [if_neg c5]
  exact ⟨_, rfl, .inr ⟨by omega, by omega⟩⟩

/-- An entry of the laws' as one of the program's. -/
def conv (x : S33) : S36 := ⟨x.f0, x.f1, x.f2, x.f3, x.f4, x.f5, x.f6, x.f7, x.f8, x.f9⟩
theorem conv_eq (x : S33) : laws_toEntry.f x.f0 x.f1 x.f2 x.f3 x.f4 x.f5 x.f6 x.f7 x.f8 x.f9 = some (x.f0, x.f1, x.f2, x.f3, x.f4, x.f5, x.f6, x.f7, x.f8, x.f9) := rfl
/-- What an entry's texts take. -/
def sizeE (x : S33) : Nat := x.f1.size + x.f2.size + x.f7.size + x.f8.size + x.f9.size
def Sz (x : S33) : Prop := x.f1.size ≤ 9223372036854775807 ∧ x.f2.size ≤ 9223372036854775807 ∧ x.f7.size ≤ 9223372036854775807 ∧ x.f8.size ≤ 9223372036854775807 ∧ x.f9.size ≤ 9223372036854775807
theorem sz_entry (x : S33) (h : Sz x) (left : Int) (h0 : 0 ≤ left) (h1 : left ≤ 1048576) : ∃ r, laws_szEntry.f x.f0 x.f1 x.f2 x.f3 x.f4 x.f5 x.f6 x.f7 x.f8 x.f9 left = some r ∧ (r < 0 ∨ (0 ≤ r ∧ (sizeE x : Int) = left - r)) :=
  sz_plain x.f0 x.f1 x.f2 x.f3 x.f4 x.f5 x.f6 x.f7 x.f8 x.f9 h left h0 h1

theorem rdL_drop (l : List S33) (i : Nat) (h : i < l.length) : l.drop i = rd_T33 l (i : Int) :: l.drop (i + 1) := by
  rw [List.drop_eq_getElem_cons h]
  unfold rd_T33
  rw [Int.toNat_natCast, List.getD_eq_getElem?_getD, List.getElem?_eq_getElem h]
  rfl
theorem rdI_drop (l : List S36) (i : Nat) (h : i < l.length) : l.drop i = rd_T36 l (i : Int) :: l.drop (i + 1) := by
  rw [List.drop_eq_getElem_cons h]
  unfold rd_T36
  rw [Int.toNat_natCast, List.getD_eq_getElem?_getD, List.getElem?_eq_getElem h]
  rfl
theorem rdL_get (l : List S33) (i : Nat) (h : i < l.length) : rd_T33 l (i : Int) = l[i] := by
  unfold rd_T33
  rw [Int.toNat_natCast, List.getD_eq_getElem?_getD, List.getElem?_eq_getElem h]
  rfl
theorem rdI_get (l : List S36) (i : Nat) (h : i < l.length) : rd_T36 l (i : Int) = l[i] := by
  unfold rd_T36
  rw [Int.toNat_natCast, List.getD_eq_getElem?_getD, List.getElem?_eq_getElem h]
  rfl
def sizeL : List S33 → Nat
  | [] => 0
  | x :: l => sizeE x + sizeL l
theorem szS_loop (l : List S33) (hl : l.length ≤ 1048576) (hs : ∀ x ∈ l, Sz x) : ∀ (d k i : Nat) (left : Int), l.length - i = d → i ≤ l.length → d < k → 0 ≤ left → left ≤ 1048576 →
    ∃ r, laws_szEntryS.l0 k l left (i : Int) = some r ∧ (r < 0 ∨ (0 ≤ r ∧ (sizeL (l.drop i) : Int) = left - r)) := by
  intro d
  induction d with
  | zero =>
    intro k i left hd hi hk h0 h1
    obtain ⟨k, rfl⟩ : ∃ m, k = m + 1 := ⟨k - 1, by omega⟩
    simp only [laws_szEntryS.l0]
    rw [if_neg (by omega), List.drop_eq_nil_of_le (by omega)]
    exact ⟨_, rfl, .inr ⟨h0, by simp [sizeL]⟩⟩
  | succ d ih =>
    intro k i left hd hi hk h0 h1
    obtain ⟨k, rfl⟩ : ∃ m, k = m + 1 := ⟨k - 1, by omega⟩
    simp only [laws_szEntryS.l0]
    rw [if_pos (by omega), if_pos (by omega)]
    have hm : rd_T33 l (i : Int) ∈ l := by rw [rdL_get l i (by omega)]; exact List.getElem_mem _
    obtain ⟨r, hr, h⟩ := sz_entry (rd_T33 l (i : Int)) (hs _ hm) left h0 h1
    rw [hr]
    simp only [Option.bind_some]
    rcases h with h | ⟨h2, h3⟩
    · rw [if_pos h]; exact ⟨_, rfl, .inl (by omega)⟩
    · rw [if_neg (by omega), w64 (by omega) (by omega)]
      obtain ⟨q, hq, h4⟩ := ih k (i + 1) r (by omega) (by omega) (by omega) h2 (by omega)
      refine ⟨q, hq, ?_⟩
      rw [rdL_drop l i (by omega), sizeL]
      rcases h4 with h4 | ⟨h4, h5⟩
      · exact .inl h4
      · exact .inr ⟨h4, by omega⟩
theorem szS (l : List S33) (hs : ∀ x ∈ l, Sz x) (hl : l.length ≤ 9223372036854775807) (left : Int) (h0 : 0 ≤ left) (h1 : left ≤ 1048576) (k : Nat) (hk : 1048576 < k) :
    ∃ r, laws_szEntryS.f k l left = some r ∧ (r < 0 ∨ (0 ≤ r ∧ ((l.length + sizeL l : Nat) : Int) = left - r)) := by
  unfold laws_szEntryS.f
  rw [w64 (n := left - (l.length : Int)) (by omega) (by omega)]
  by_cases c : left - (l.length : Int) < 0
  · rw [if_pos c]; exact ⟨_, rfl, .inl (by omega)⟩
  · rw [if_neg c]
    obtain ⟨r, hr, h⟩ := szS_loop l (by omega) hs l.length k 0 (left - (l.length : Int)) (by omega) (by omega) (by omega) (by omega) (by omega)
    refine ⟨r, hr, ?_⟩
    rw [List.drop_zero] at h
    rcases h with h | ⟨h2, h3⟩
    · exact .inl h
    · exact .inr ⟨h2, by omega⟩
theorem toS_loop (l : List S33) (hl : l.length ≤ 1048576) : ∀ (d k i : Nat) (xs : List S36), l.length - i = d → i ≤ l.length → d < k → xs.length = l.length →
    laws_toEntryS.l0 k l xs (i : Int) = some (xs.take i ++ (l.drop i).map conv) := by
  intro d
  induction d with
  | zero =>
    intro k i xs hd hi hk hx
    obtain ⟨k, rfl⟩ : ∃ m, k = m + 1 := ⟨k - 1, by omega⟩
    simp only [laws_toEntryS.l0]
    rw [if_neg (by omega), List.drop_eq_nil_of_le (by omega), List.take_of_length_le (by omega)]
    simp
  | succ d ih =>
    intro k i xs hd hi hk hx
    obtain ⟨k, rfl⟩ : ∃ m, k = m + 1 := ⟨k - 1, by omega⟩
    simp only [laws_toEntryS.l0]
    rw [if_pos (by omega), if_pos (by omega), conv_eq]
    simp only [Option.bind_some]
    have e : wrap64 ((i : Int) + 1) = ((i + 1 : Nat) : Int) := by rw [w64 (by omega) (by omega)]; omega
    rw [if_pos (by omega), e, Int.toNat_natCast, ih k (i + 1) _ (by omega) (by omega) (by omega) (by rw [List.length_set]; exact hx), rdL_drop l i (by omega), List.map_cons]
    rw [List.take_succ_eq_append_getElem (by rw [List.length_set]; omega), List.getElem_set_self, List.take_set_of_le (Nat.le_refl _), List.append_assoc]
    rfl
theorem toS (l : List S33) (hl : l.length ≤ 1048576) (k : Nat) (hk : 1048576 < k) : laws_toEntryS.f k l = some (l.map conv) := by
  unfold laws_toEntryS.f
  rw [if_pos (by omega), Int.toNat_natCast, if_pos (by omega)]
  have := toS_loop l hl l.length k 0 (List.replicate l.length z36) (by omega) (by omega) (by omega) (List.length_replicate ..)
  rw [show ((0 : Nat) : Int) = 0 from rfl] at this
  rw [this]
  simp

def Ok33 (x : S33) : Prop := (Lit.int .i64 x.f0).wf = true ∧ x.f1.size ≤ 9223372036854775807 ∧ x.f2.size ≤ 9223372036854775807 ∧ (Lit.int .i64 x.f3).wf = true ∧ (Lit.int .i64 x.f4).wf = true ∧ (Lit.int .i64 x.f5).wf = true ∧ (Lit.int .i64 x.f6).wf = true ∧ x.f7.size ≤ 9223372036854775807 ∧ x.f8.size ≤ 9223372036854775807 ∧ x.f9.size ≤ 9223372036854775807
theorem ok_sz {l : List S33} (h : ∀ x ∈ l, Ok33 x) : ∀ x ∈ l, Sz x := fun x hx => by
  obtain ⟨_, h1, h2, _, _, _, _, h7, h8, h9⟩ := h x hx
  exact ⟨h1, h2, h7, h8, h9⟩

theorem tl_iff (s t : ByteArray) : s.toList = t.toList ↔ s = t := ⟨tl_inj, fun h => by rw [h]⟩
theorem eqE (a b : S36) : ∃ c : Bool, laws_eqEntry.f a.f0 a.f1 a.f2 a.f3 a.f4 a.f5 a.f6 a.f7 a.f8 a.f9 b.f0 b.f1 b.f2 b.f3 b.f4 b.f5 b.f6 b.f7 b.f8 b.f9 = some c ∧ (c = true ↔ a = b) := by
  obtain ⟨a0, a1, a2, a3, a4, a5, a6, a7, a8, a9⟩ := a
  obtain ⟨b0, b1, b2, b3, b4, b5, b6, b7, b8, b9⟩ := b
  unfold laws_eqEntry.f
  simp only [tl_iff, S36.mk.injEq]
  repeat' split
  all_goals first | exact ⟨true, rfl, by simp [*]⟩ | exact ⟨false, rfl, by simp [*]⟩
theorem eqS_loop (a b : List S36) (ha : a.length ≤ 9223372036854775806) (hab : a.length = b.length) : ∀ (d k i : Nat), a.length - i = d → i ≤ a.length → d < k → ∃ c : Bool, laws_eqEntryS.l0 k a b (i : Int) = some c ∧ (c = true ↔ a.drop i = b.drop i) := by
  intro d
  induction d with
  | zero =>
    intro k i hd hi hk
    obtain ⟨k, rfl⟩ : ∃ m, k = m + 1 := ⟨k - 1, by omega⟩
    simp only [laws_eqEntryS.l0]
    rw [if_neg (by omega), List.drop_eq_nil_of_le (by omega), List.drop_eq_nil_of_le (by omega)]
    exact ⟨true, rfl, by simp⟩
  | succ d ih =>
    intro k i hd hi hk
    obtain ⟨k, rfl⟩ : ∃ m, k = m + 1 := ⟨k - 1, by omega⟩
    simp only [laws_eqEntryS.l0]
    obtain ⟨c, hc, h⟩ := eqE (rd_T36 a (i : Int)) (rd_T36 b (i : Int))
    rw [if_pos (by omega), if_pos (by omega), if_pos (by omega), hc, rdI_drop a i (by omega), rdI_drop b i (by omega)]
    simp only [Option.bind_some, List.cons.injEq, ← h]
    have e : wrap64 ((i : Int) + 1) = ((i + 1 : Nat) : Int) := by rw [w64 (by omega) (by omega)]; omega
    cases c with
    | false => exact ⟨false, by rw [if_neg (by decide)], by simp⟩
    | true =>
      obtain ⟨q, hq, h2⟩ := ih k (i + 1) (by omega) (by omega) (by omega)
      exact ⟨q, by rw [if_pos rfl, e]; exact hq, by simp [h2]⟩
theorem eqS (a b : List S36) (ha : a.length ≤ 9223372036854775806) (k : Nat) (hk : a.length < k) : ∃ c : Bool, laws_eqEntryS.f k a b = some c ∧ (c = true ↔ a = b) := by
  unfold laws_eqEntryS.f
  by_cases h : (a.length : Int) = (b.length : Int)
  · obtain ⟨c, hc, h2⟩ := eqS_loop a b ha (by omega) a.length k 0 (by omega) (by omega) hk
    rw [if_pos h]
    exact ⟨c, hc, by simpa using h2⟩
  · rw [if_neg h]
    exact ⟨false, rfl, by simp; intro e; rw [e] at h; exact h rfl⟩
theorem eqS_same (a : List S36) (ha : a.length ≤ 9223372036854775806) (k : Nat) (hk : a.length < k) : laws_eqEntryS.f k a a = some true := by
  obtain ⟨c, hc, h⟩ := eqS a a ha k hk
  rw [hc, h.2 rfl]

/-! ### A byte's first place, and the texts between its places -/
theorem bt_mid {s : ByteArray} {pre t : List UInt8} {b : UInt8} (h : s.toList = pre ++ b :: t) : bt s (pre.length : Int) = (b.toNat : Int) := by
  have hs : s.size = pre.length + (t.length + 1) := by rw [← tl_length, h]; simp
  rw [bt_get s pre.length (by omega)]
  congr 2
  simp [h]
theorem size_mid {s : ByteArray} {pre t : List UInt8} (h : s.toList = pre ++ t) : s.size = pre.length + t.length := by
  rw [← tl_length, h]; simp
theorem u8_eq {b : UInt8} {c : UInt8} : ((b.toNat : Int) = (c.toNat : Int)) ↔ b = c := by
  constructor
  · intro h
    exact UInt8.toNat_inj.1 (by omega)
  · rintro rfl
    rfl
theorem ext_mid {s : ByteArray} {pre p t : List UInt8} (h : s.toList = pre ++ (p ++ t)) : (s.extract pre.length (pre.length + p.length)).toList = p := by
  rw [tl_extract, h, ← List.append_assoc]
  rw [List.take_left' (by simp)]
  simp
theorem ext_end {s : ByteArray} {pre p : List UInt8} (h : s.toList = pre ++ p) : (s.extract pre.length s.size).toList = p := by
  rw [tl_extract, ← tl_length, h]
  rw [List.take_of_length_le (Nat.le_refl _)]
  simp
/-- A byte's first place: there is none, or the text falls in two there. -/
theorem index_span (c : UInt8) : ∀ l : List UInt8, (c ∉ l ∧ Lib.indexByte l c = -1) ∨ ∃ a b, l = a ++ c :: b ∧ c ∉ a ∧ Lib.indexByte l c = (a.length : Int)
  | [] => Or.inl ⟨by simp, rfl⟩
  | x :: l => by
    by_cases h : x = c
    · subst h
      exact Or.inr ⟨[], l, rfl, by simp, by simp [Lib.indexByte]⟩
    · rcases index_span c l with ⟨h1, h2⟩ | ⟨a, b, h1, h2, h3⟩
      · refine Or.inl ⟨?_, ?_⟩
        · simp only [List.mem_cons, not_or]
          exact ⟨fun e => h e.symm, h1⟩
        · simp [Lib.indexByte, h, h2]
      · refine Or.inr ⟨x :: a, b, by simp [h1], ?_, ?_⟩
        · simp only [List.mem_cons, not_or]
          exact ⟨fun e => h e.symm, h2⟩
        · simp only [Lib.indexByte]
          have h' : (x == c) = false := by simpa using h
          simp only [h', h3]
          simp
          try omega

/-- The texts between the places of a byte. -/
def splitA (c : UInt8) : List UInt8 → List UInt8 → List (List UInt8)
  | p, [] => [p]
  | p, b :: t => if b = c then p :: splitA c [] t else splitA c (p ++ [b]) t
theorem splitA_none (c : UInt8) : ∀ (t p : List UInt8), c ∉ t → splitA c p t = [p ++ t]
  | [], p, _ => by simp [splitA]
  | b :: t, p, h => by
    simp only [List.mem_cons, not_or] at h
    simp only [splitA]
    rw [if_neg (fun e => h.1 e.symm), splitA_none c t _ h.2]
    simp
theorem splitA_span (c : UInt8) (b : List UInt8) : ∀ (a p : List UInt8), c ∉ a → splitA c p (a ++ c :: b) = (p ++ a) :: splitA c [] b
  | [], p, _ => by simp [splitA]
  | x :: a, p, h => by
    simp only [List.mem_cons, not_or] at h
    simp only [List.cons_append, splitA]
    rw [if_neg (fun e => h.1 e.symm), splitA_span c b a _ h.2]
    simp
theorem splitA_length (c : UInt8) : ∀ (t p : List UInt8), (splitA c p t).length = t.count c + 1
  | [], p => by simp [splitA]
  | b :: t, p => by
    simp only [splitA]
    by_cases h : b = c
    · rw [if_pos h, List.length_cons, splitA_length c t, h, List.count_cons_self]
    · rw [if_neg h, splitA_length c t, List.count_cons_of_ne h]
theorem splitA_le (c : UInt8) (t p : List UInt8) : (splitA c p t).length ≤ t.length + 1 := by
  rw [splitA_length]
  have : t.count c ≤ t.length := List.count_le_length
  omega
theorem splitA_mem (c : UInt8) : ∀ (t p x : List UInt8), x ∈ splitA c p t → x.length ≤ p.length + t.length
  | [], p, x, h => by
    simp only [splitA, List.mem_singleton] at h
    subst h
    simp
  | b :: t, p, x, h => by
    simp only [splitA] at h
    by_cases hb : b = c
    · rw [if_pos hb] at h
      rcases List.mem_cons.1 h with h | h
      · subst h
        omega
      · have := splitA_mem c t [] x h
        simp only [List.length_nil, List.length_cons] at *
        omega
    · rw [if_neg hb] at h
      have := splitA_mem c t _ x h
      simp only [List.length_append, List.length_cons, List.length_nil] at *
      omega
def sumLen : List (List UInt8) → Nat
  | [] => 0
  | x :: l => x.length + sumLen l
theorem splitA_sum (c : UInt8) : ∀ (t p : List UInt8), sumLen (splitA c p t) + (splitA c p t).length = p.length + t.length + 1
  | [], p => by simp [splitA, sumLen]
  | b :: t, p => by
    simp only [splitA]
    by_cases h : b = c
    · rw [if_pos h]
      have := splitA_sum c t []
      simp only [sumLen, List.length_cons, List.length_nil] at *
      omega
    · rw [if_neg h]
      have := splitA_sum c t (p ++ [b])
      simp only [List.length_append, List.length_cons, List.length_nil] at *
      omega

theorem idx_one (s : ByteArray) (c : UInt8) : strings_Index.f s (⟨#[c]⟩ : ByteArray) = some (Lib.indexByte s.toList c) := by
  unfold strings_Index.f stringslite_Index.f
  rw [if_pos (show (⟨#[c]⟩ : ByteArray).size = 1 from rfl), tl]
  rfl
theorem take_set_map (a : List ByteArray) (i : Nat) (x : ByteArray) (h : i < a.length) : ((a.set i x).take (i + 1)).map ByteArray.toList = (a.take i).map ByteArray.toList ++ [x.toList] := by
  rw [List.take_set, List.take_add_one, List.getElem?_eq_getElem h]
  rw [List.set_append_right _ _ (by simp; omega)]
  simp only [List.length_take, Option.toList_some, List.map_append]
  rw [show i - min i a.length = 0 by omega]
  simp
theorem genSplit_loop (c : UInt8) (n : Int) (hn : n ≤ 4194304) : ∀ (d : Nat) (s : ByteArray) (a : List ByteArray) (i k : Nat), s.toList.count c = d → n = (i : Int) + d → (a.length : Int) = n + 1 → s.size ≤ 4194304 → d < k →
    ∃ r, strings_genSplit.l0 k s (⟨#[c]⟩ : ByteArray) 0 n a (i : Int) = some r ∧ r.map ByteArray.toList = (a.take i).map ByteArray.toList ++ splitA c [] s.toList := by
  intro d
  induction d with
  | zero =>
    intro s a i k hd hi ha hs hk
    obtain ⟨k, rfl⟩ : ∃ m, k = m + 1 := ⟨k - 1, by omega⟩
    unfold strings_genSplit.l0
    rw [if_neg (by omega), if_pos (by omega), if_pos (by omega), w64 (by omega) (by omega), if_pos (by omega), if_pos (by omega)]
    refine ⟨_, rfl, ?_⟩
    rw [splitA_none c _ _ (List.count_eq_zero.1 hd), show ((i : Int) + 1).toNat = i + 1 by omega, Int.toNat_natCast, take_set_map _ _ _ (by omega)]
    simp
  | succ d ih =>
    intro s a i k hd hi ha hs hk
    obtain ⟨k, rfl⟩ : ∃ m, k = m + 1 := ⟨k - 1, by omega⟩
    unfold strings_genSplit.l0
    rw [if_pos (by omega), idx_one]
    simp only [Option.bind_some]
    rcases index_span c s.toList with ⟨h1, h2⟩ | ⟨p, t, h1, h2, h3⟩
    · rw [List.count_eq_zero.2 h1] at hd
      omega
    · have hz := size_mid h1
      simp only [List.length_cons] at hz
      have e1 : ((⟨#[c]⟩ : ByteArray).size : Int) = 1 := rfl
      rw [h3, e1, w64 (n := (p.length : Int) + 0) (by omega) (by omega), w64 (n := (p.length : Int) + 1) (by omega) (by omega), w64 (n := (i : Int) + 1) (by omega) (by omega)]
      rw [if_neg (by omega), if_pos (by omega), if_pos (by omega), if_pos (by omega), if_pos (by omega), if_pos (by omega), if_pos (by omega)]
      have ht : (s.extract ((p.length : Int) + 1).toNat s.size).toList = t := by
        rw [show ((p.length : Int) + 1).toNat = (p ++ [c]).length by simp only [List.length_append, List.length_cons, List.length_nil]; omega]
        exact ext_end (by simp [h1])
      have hp : (s.extract 0 ((p.length : Int) + 0).toNat).toList = p := by
        rw [tl_extract, h1]
        simp
      obtain ⟨r, e, l⟩ := ih (s.extract ((p.length : Int) + 1).toNat s.size) (a.set i (s.extract 0 ((p.length : Int) + 0).toNat)) (i + 1) k (by
        rw [ht]
        rw [h1, List.count_append, List.count_cons_self, List.count_eq_zero.2 h2] at hd
        omega) (by omega) (by simp only [List.length_set]; omega) (by
        rw [ByteArray.size_extract]
        omega) (by omega)
      refine ⟨r, ?_, ?_⟩
      · rw [← e]
        congr 1
      · rw [l, take_set_map _ _ _ (by omega), ht, hp, h1, splitA_span c t p [] h2]
        simp
theorem count_one (c : UInt8) (s : ByteArray) : strings_Count.f s (⟨#[c]⟩ : ByteArray) = some ((s.toList.count c : Nat) : Int) := by
  unfold strings_Count.f
  rw [if_pos (show (⟨#[c]⟩ : ByteArray).size = 1 from rfl), tl]
  rfl
theorem genSplit_j (c : UInt8) (s : ByteArray) (hs : s.size ≤ 4194304) (k n : Nat) (hn : s.toList.count c = n) (hc : n ≤ s.size) (hk : s.size + 2 < k) : ∃ r, strings_genSplit.j0 k s (⟨#[c]⟩ : ByteArray) 0 ((n : Int) + 1) = some r ∧ r.map ByteArray.toList = splitA c [] s.toList := by
  obtain ⟨k, rfl⟩ : ∃ m, k = m + 1 := ⟨k - 1, by omega⟩
  have hm : mn ((n : Int) + 1) (wrap64 ((s.size : Int) + 1)) = (n : Int) + 1 := by
    rw [w64 (by omega) (by omega)]
    unfold mn
    omega
  have hr : (List.replicate ((n : Int) + 1).toNat (⟨#[]⟩ : ByteArray)).length = n + 1 := by
    rw [List.length_replicate]
    omega
  simp only [strings_genSplit.j0, hm]
  generalize List.replicate ((n : Int) + 1).toNat (⟨#[]⟩ : ByteArray) = a at *
  rw [if_pos (by omega), if_pos (by omega), w64 (by omega) (by omega)]
  obtain ⟨r, e1, l⟩ := genSplit_loop c ((n : Int) + 1 - 1) (by omega) n s a 0 k hn (by omega) (by omega) hs (by omega)
  refine ⟨r, ?_, by simpa using l⟩
  simpa using e1
theorem split_one (c : UInt8) (s : ByteArray) (hs : s.size ≤ 4194304) (k : Nat) (hk : s.size + 2 < k) : ∃ r, strings_Split.f k s (⟨#[c]⟩ : ByteArray) = some r ∧ r.map ByteArray.toList = splitA c [] s.toList := by
  have hc : s.toList.count c ≤ s.size := by rw [← tl_length]; exact List.count_le_length
  obtain ⟨r, e, l⟩ := genSplit_j c s hs k _ rfl hc hk
  refine ⟨r, ?_, l⟩
  have hne : ¬ (⟨#[c]⟩ : ByteArray).toList = [] := by
    rw [tl]
    exact List.cons_ne_nil _ _
  unfold strings_Split.f strings_genSplit.f
  rw [if_neg (show ¬ (-1 : Int) = 0 by decide), if_neg hne, if_pos (show (-1 : Int) < 0 by decide), count_one]
  simp only [Option.bind_some]
  rw [w64 (by omega) (by omega), e]
  simp only [Option.bind_some]

theorem spec_parts_loop (s : ByteArray) (hs : s.size ≤ 4194304) : ∀ (t pre p : List UInt8) (out : List ByteArray) (k : Nat), s.toList = pre ++ (p ++ t) → out.length ≤ pre.length → t.length < k →
    ∃ r, spec_Parts.l0 k s out (pre.length : Int) ((pre.length + p.length : Nat) : Int) = some r ∧ r.map ByteArray.toList = out.map ByteArray.toList ++ splitA 47 p t
  | [], pre, p, out, k, h, ho, hk => by
    obtain ⟨k, rfl⟩ : ∃ m, k = m + 1 := ⟨k - 1, by omega⟩
    have hz := size_mid h
    simp only [List.length_append, List.length_nil] at hz
    unfold spec_Parts.l0
    rw [if_neg (by omega), if_pos (by omega), if_pos (by omega), if_pos (by omega)]
    refine ⟨_, rfl, ?_⟩
    rw [Int.toNat_natCast, List.map_append, List.map_cons, List.map_nil, ext_end (p := p) (by simpa using h)]
    rfl
  | b :: t, pre, p, out, k, h, ho, hk => by
    simp only [List.length_cons] at hk
    obtain ⟨k, rfl⟩ : ∃ m, k = m + 1 := ⟨k - 1, by omega⟩
    have hz := size_mid h
    simp only [List.length_append, List.length_cons] at hz
    have hb : bt s ((pre.length + p.length : Nat) : Int) = (b.toNat : Int) := by
      have := bt_mid (s := s) (pre := pre ++ p) (b := b) (t := t) (by simp [h])
      simpa using this
    unfold spec_Parts.l0
    rw [if_pos (by omega), if_pos (by omega), hb, w64 (by omega) (by omega)]
    by_cases hc : b = 47
    · subst hc
      rw [if_pos (show (((47 : UInt8).toNat : Nat) : Int) = 47 from rfl), if_pos (by omega), if_pos (by omega), if_pos (by omega), if_pos (by omega)]
      obtain ⟨r, e, l⟩ := spec_parts_loop s hs t (pre ++ p ++ [47]) [] (out ++ [s.extract ((pre.length : Nat) : Int).toNat ((pre.length + p.length : Nat) : Int).toNat]) k (by simp [h]) (by simp; omega) (by omega)
      have a1 : (((pre ++ p ++ [47]).length : Nat) : Int) = ((pre.length + p.length : Nat) : Int) + 1 := by
        simp only [List.length_append, List.length_cons, List.length_nil]
        omega
      have a2 : (((pre ++ p ++ [47]).length + ([] : List UInt8).length : Nat) : Int) = ((pre.length + p.length : Nat) : Int) + 1 := by
        simp only [List.length_append, List.length_cons, List.length_nil]
        omega
      rw [a1, a2] at e
      refine ⟨r, e, ?_⟩
      · rw [l]
        simp only [Int.toNat_natCast, List.map_append, List.map_cons, List.map_nil, splitA]
        rw [ext_mid h]
        simp
    · rw [if_neg (fun e : (b.toNat : Int) = 47 => hc (u8_eq.1 (show (b.toNat : Int) = ((47 : UInt8).toNat : Int) from e)))]
      obtain ⟨r, e, l⟩ := spec_parts_loop s hs t pre (p ++ [b]) out k (by simp [h]) ho (by omega)
      refine ⟨r, ?_, ?_⟩
      · rw [← e]
        congr 1
        simp
        omega
      · rw [l]
        simp only [splitA]
        rw [if_neg hc]
theorem spec_parts (s : ByteArray) (hs : s.size ≤ 4194304) (k : Nat) (hk : s.size < k) : ∃ r, spec_Parts.f k s = some r ∧ r.map ByteArray.toList = splitA 47 [] s.toList := by
  obtain ⟨r, e, l⟩ := spec_parts_loop s hs s.toList [] [] [] k rfl (by simp) (by rw [tl_length]; exact hk)
  exact ⟨r, e, by simpa using l⟩
theorem impl_parts (s : ByteArray) (hs : s.size ≤ 4194304) (k : Nat) (hk : s.size + 2 < k) : ∃ r, impl_Parts.f k s = some r ∧ r.map ByteArray.toList = splitA 47 [] s.toList := by
  obtain ⟨r, e, l⟩ := split_one 47 s hs k hk
  unfold impl_Parts.f
  rw [e]
  exact ⟨r, rfl, l⟩

theorem in_eq (a b c : Int) : spec_l01In.f a b c = some (decide (b ≤ a ∧ a ≤ c)) := by
  unfold spec_l01In.f
  by_cases h : b ≤ a
  · rw [if_pos h]; simp [h]
  · rw [if_neg h]; simp [h]

theorem within_eq (a b c : Int) : impl_within.f a b c = some (decide (b ≤ a ∧ a ≤ c)) := by
  unfold impl_within.f
  by_cases h : b ≤ a
  · rw [if_pos h]; simp [h]
  · rw [if_neg h]; simp [h]

theorem allB_list (p : Int → Bool) (s : ByteArray) : allB p s = s.toList.all (fun b => p (b.toNat : Int)) := rfl

/-- Is a text a component? -/
def partOkM (l : List UInt8) : Bool := decide (1 ≤ l.length ∧ l.length ≤ 60) && (l != [46]) && (l != [46, 46]) && l.all (fun b => pPart (b.toNat : Int))
theorem spec_part_loop (s : ByteArray) (hs : s.size ≤ 140737488351232) : ∀ (d k : Nat) (i : Int), 0 ≤ i → (s.size : Int) - i = d → d < k →
    spec_PartOk.l0 k s i = some ((s.toList.drop i.toNat).all (fun b => pPart (b.toNat : Int)) && (decide (1 ≤ s.toList.length ∧ s.toList.length ≤ 60) && (s.toList != [46]) && (s.toList != [46, 46]))) := by
  intro d
  induction d with
  | zero =>
    intro k i h0 hd hk
    obtain ⟨k, rfl⟩ : ∃ m, k = m + 1 := ⟨k - 1, by omega⟩
    simp only [spec_PartOk.l0]
    rw [if_neg (by omega), List.drop_eq_nil_of_le (by rw [tl_length]; omega), in_eq]
    simp only [Option.bind_some, List.all_nil, Bool.true_and, tl_length]
    by_cases h1 : 1 ≤ s.size ∧ s.size ≤ 60
    · rw [if_pos (by simpa using ⟨by omega, by omega⟩), decide_eq_true h1]
      by_cases h2 : s.toList = [46]
      · rw [if_pos h2]; simp [h2]
      · rw [if_neg h2]; simp [h2]
    · rw [if_neg (by simp; omega), decide_eq_false h1]
      simp
  | succ d ih =>
    intro k i h0 hd hk
    obtain ⟨k, rfl⟩ : ∃ m, k = m + 1 := ⟨k - 1, by omega⟩
    simp only [spec_PartOk.l0]
    obtain ⟨b, e, hbt⟩ := bt_step s i h0 (by omega)
    have hlt := b.toNat_lt
    rw [if_pos (by omega), if_pos h0, in_eq, hbt, w64 (n := (b.toNat : Int)) (by omega) (by omega), w64 (n := i + 1) (by omega) (by omega), ih k (i + 1) (by omega) (by omega) (by omega), e]
    simp only [Option.bind_some, List.all_cons]
    by_cases h1 : 33 ≤ (b.toNat : Int) ∧ (b.toNat : Int) ≤ 126
    · rw [if_pos (by simpa using h1)]
      by_cases h2 : (b.toNat : Int) = 47
      · rw [if_pos h2]; simp [pPart, h2]
      · have hp : pPart (b.toNat : Int) = true := by
          unfold pPart
          rw [decide_eq_true h1.1, decide_eq_true h1.2, bne_iff_ne.2 h2]
          rfl
        rw [if_neg h2, hp, Bool.true_and]
    · rw [if_neg (by simpa using h1)]
      have : pPart (b.toNat : Int) = false := by
        unfold pPart
        by_cases h3 : 33 ≤ (b.toNat : Int)
        · rw [decide_eq_false (show ¬ (b.toNat : Int) ≤ 126 by omega)]; simp
        · rw [decide_eq_false h3]; simp
      rw [this]
      simp
theorem spec_partOk (s : ByteArray) (hs : s.size ≤ 140737488351232) (k : Nat) (hk : s.size < k) : spec_PartOk.f k s = some (partOkM s.toList) := by
  unfold spec_PartOk.f partOkM
  rw [spec_part_loop s hs s.size k 0 (by omega) (by omega) hk, Bool.and_comm]
  rfl
theorem impl_partOk (s : ByteArray) (hs : s.size ≤ 140737488351232) : impl_PartOk.f s = some (partOkM s.toList) := by
  unfold impl_PartOk.f partOkM
  rw [within_eq]
  simp only [Option.bind_some, tl_length]
  by_cases h1 : 1 ≤ s.size ∧ s.size ≤ 60
  · rw [if_pos (by simpa using ⟨by omega, by omega⟩), decide_eq_true h1]
    by_cases h2 : s.toList = [46]
    · rw [if_pos h2]; simp [h2]
    · rw [if_neg h2]
      by_cases h3 : s.toList = [46, 46]
      · rw [if_pos h3]; simp [h3]
      · rw [if_neg h3]
        unfold impl_areBytes.f
        rw [if_pos (by omega)]
        simp [h2, h3, allB]
  · rw [if_neg (by simp; omega), decide_eq_false h1]
    simp

/-- Is a text a path? -/
def pathOkM (l : List UInt8) : Bool := decide (l.length ≤ 200) && (splitA 47 [] l).all partOkM
theorem spec_path_loop (s : ByteArray) : ∀ (t pre : List ByteArray) (k : Nat), (∀ x ∈ t, x.size ≤ 4194304) → pre.length + t.length ≤ 100000000 → t.length + 4194310 < k →
    spec_PathOk.l0 k s (pre ++ t) (pre.length : Int) = some ((t.map ByteArray.toList).all partOkM && decide (s.toList.length ≤ 200))
  | [], pre, k, hx, hl, hk => by
    obtain ⟨k, rfl⟩ : ∃ m, k = m + 1 := ⟨k - 1, by omega⟩
    unfold spec_PathOk.l0
    rw [if_neg (by simp)]
    simp [tl_length]
    omega
  | x :: t, pre, k, hx, hl, hk => by
    simp only [List.length_cons] at hl hk
    obtain ⟨k, rfl⟩ : ∃ m, k = m + 1 := ⟨k - 1, by omega⟩
    have hs : x.size ≤ 4194304 := hx x (by simp)
    unfold spec_PathOk.l0
    have er : rdOf ByteArray.empty (pre ++ x :: t) (pre.length : Int) = x := by
      unfold rdOf
      rw [Int.toNat_natCast, List.getD_eq_getElem?_getD, List.getElem?_append_right (Nat.le_refl _)]
      simp
    rw [if_pos (by simp; omega), if_pos (by omega), er, spec_partOk x (by omega) k (by omega), w64 (by omega) (by omega)]
    simp only [Option.bind_some, List.map_cons, List.all_cons]
    have := spec_path_loop s t (pre ++ [x]) k (fun y hy => hx y (by simp [hy])) (by simp only [List.length_append, List.length_cons, List.length_nil]; omega) (by omega)
    simp only [List.length_append, List.length_cons, List.length_nil, List.append_assoc, List.singleton_append] at this
    by_cases hp : partOkM x.toList = true
    · rw [if_pos hp, show ((pre.length : Int) + 1) = ((pre.length + (0 + 1) : Nat) : Int) by omega, this, hp]
      simp
    · rw [if_neg hp]
      simp [Bool.eq_false_iff.2 hp]
theorem parts_sizes {s : ByteArray} {r : List ByteArray} (h : r.map ByteArray.toList = splitA 47 [] s.toList) : r.length ≤ s.size + 1 ∧ ∀ x ∈ r, x.size ≤ s.size := by
  constructor
  · have := congrArg List.length h
    have h3 := splitA_le 47 s.toList []
    rw [tl_length] at h3
    rw [List.length_map] at this
    omega
  · intro x hx
    have hm : x.toList ∈ splitA 47 [] s.toList := by
      rw [← h]
      exact List.mem_map_of_mem hx
    have := splitA_mem 47 _ _ _ hm
    rw [tl_length, tl_length] at this
    simpa using this
theorem spec_pathOk (s : ByteArray) (hs : s.size ≤ 4194304) (k : Nat) (hk : s.size + 4194400 < k) : spec_PathOk.f k s = some (pathOkM s.toList) := by
  obtain ⟨r, e, l⟩ := spec_parts s hs k (by omega)
  obtain ⟨h1, h2⟩ := parts_sizes l
  unfold spec_PathOk.f
  rw [e]
  simp only [Option.bind_some]
  have := spec_path_loop s r [] k (fun x hx => Nat.le_trans (h2 x hx) hs) (by simp; omega) (by omega)
  simp only [List.nil_append, List.length_nil] at this
  rw [show ((0 : Nat) : Int) = 0 from rfl] at this
  rw [this, l, Bool.and_comm]
  rfl
theorem all_parts : ∀ r : List ByteArray, (∀ x ∈ r, x.size ≤ 4194304) → allS impl_PartOk.f r = some ((r.map ByteArray.toList).all partOkM)
  | [], _ => rfl
  | x :: r, h => by
    have hx := h x (by simp)
    simp only [allS]
    rw [impl_partOk x (by omega)]
    simp only [Option.bind_some, List.map_cons, List.all_cons]
    by_cases hp : partOkM x.toList = true
    · rw [if_pos hp, all_parts r (fun y hy => h y (by simp [hy])), hp]
      simp
    · rw [if_neg hp]
      simp [Bool.eq_false_iff.2 hp]
theorem impl_pathOk (s : ByteArray) (hs : s.size ≤ 4194304) (k : Nat) (hk : s.size + 2 < k) : impl_PathOk.f k s = some (pathOkM s.toList) := by
  unfold impl_PathOk.f pathOkM
  rw [tl_length]
  by_cases h : s.size ≤ 200
  · rw [if_pos (by omega), decide_eq_true h]
    obtain ⟨r, e, l⟩ := impl_parts s hs k hk
    obtain ⟨h1, h2⟩ := parts_sizes l
    rw [e]
    simp only [Option.bind_some]
    unfold impl_areAll_string.f
    rw [if_pos rfl, all_parts r (fun x hx => Nat.le_trans (h2 x hx) hs), l]
    simp
  · rw [if_neg (by omega), decide_eq_false h]
    simp

def userM (l : List UInt8) : Bool := decide (l.length ≤ 20) && l.all (fun b => pUser (b.toNat : Int))
def signM (l : List UInt8) : Bool := l.all (fun b => pSign (b.toNat : Int))
theorem spec_who_loop (s : ByteArray) (hs : s.size ≤ 4194304) : ∀ (t pre : List UInt8) (k : Nat), s.toList = pre ++ t → t.length < k → spec_l03Who.l0 k s (pre.length : Int) = some (t.all (fun b => pUser (b.toNat : Int)) && decide (s.toList.length ≤ 20))
  | [], pre, k, h, hk => by
    obtain ⟨k, rfl⟩ : ∃ m, k = m + 1 := ⟨k - 1, by omega⟩
    have hz := size_mid h
    simp only [List.length_nil] at hz
    unfold spec_l03Who.l0
    rw [if_neg (by omega)]
    simp [tl_length]
    omega
  | b :: t, pre, k, h, hk => by
    simp only [List.length_cons] at hk
    obtain ⟨k, rfl⟩ : ∃ m, k = m + 1 := ⟨k - 1, by omega⟩
    have hz := size_mid h
    simp only [List.length_cons] at hz
    have hlt := b.toNat_lt
    have ih := spec_who_loop s hs t (pre ++ [b]) k (by simp [h]) (by omega)
    rw [show (((pre ++ [b]).length : Nat) : Int) = (pre.length : Int) + 1 by simp] at ih
    unfold spec_l03Who.l0
    rw [if_pos (by omega), if_pos (by omega), bt_mid h, w64 (n := (b.toNat : Int)) (by omega) (by omega), w64 (by omega) (by omega), ih, in_eq, in_eq]
    simp only [Option.bind_some, List.all_cons]
    unfold pUser
    by_cases h1 : 97 ≤ (b.toNat : Int) ∧ (b.toNat : Int) ≤ 122
    · simp [h1]
    · rw [if_neg (by simpa using h1)]
      by_cases h2 : 48 ≤ (b.toNat : Int) ∧ (b.toNat : Int) ≤ 57
      · simp [h2]
      · rw [if_neg (by simpa using h2)]
        by_cases h3 : (b.toNat : Int) = 95
        · rw [if_pos h3]; simp [h3]
        · rw [if_neg h3]
          have e1 : (decide (97 ≤ (b.toNat : Int)) && decide ((b.toNat : Int) ≤ 122)) = false := by
            rw [← Bool.decide_and]; exact decide_eq_false h1
          have e2 : (decide (48 ≤ (b.toNat : Int)) && decide ((b.toNat : Int) ≤ 57)) = false := by
            rw [← Bool.decide_and]; exact decide_eq_false h2
          rw [e1, e2]
          simp [h3]
theorem spec_who (s : ByteArray) (hs : s.size ≤ 4194304) (k : Nat) (hk : s.size < k) : spec_l03Who.f k s = some (userM s.toList) := by
  have := spec_who_loop s hs s.toList [] k rfl (by rw [tl_length]; exact hk)
  unfold spec_l03Who.f userM
  rw [show ((([] : List UInt8).length : Nat) : Int) = 0 from rfl] at this
  rw [this, Bool.and_comm]
theorem spec_sign_loop (s : ByteArray) (hs : s.size ≤ 4194304) : ∀ (t pre : List UInt8) (k : Nat), s.toList = pre ++ t → t.length < k → spec_l03Sign.l0 k s (pre.length : Int) = some (signM t)
  | [], pre, k, h, hk => by
    obtain ⟨k, rfl⟩ : ∃ m, k = m + 1 := ⟨k - 1, by omega⟩
    have hz := size_mid h
    simp only [List.length_nil] at hz
    unfold spec_l03Sign.l0
    rw [if_neg (by omega)]
    rfl
  | b :: t, pre, k, h, hk => by
    simp only [List.length_cons] at hk
    obtain ⟨k, rfl⟩ : ∃ m, k = m + 1 := ⟨k - 1, by omega⟩
    have hz := size_mid h
    simp only [List.length_cons] at hz
    have hlt := b.toNat_lt
    have ih := spec_sign_loop s hs t (pre ++ [b]) k (by simp [h]) (by omega)
    rw [show (((pre ++ [b]).length : Nat) : Int) = (pre.length : Int) + 1 by simp] at ih
    unfold spec_l03Sign.l0
    rw [if_pos (by omega), if_pos (by omega), bt_mid h, w64 (n := (b.toNat : Int)) (by omega) (by omega), w64 (by omega) (by omega), ih, in_eq]
    simp only [Option.bind_some, signM, List.all_cons, pSign]
    rw [Bool.decide_and]
    cases (decide (33 ≤ (b.toNat : Int)) && decide ((b.toNat : Int) ≤ 126)) <;> simp
theorem spec_sign (s : ByteArray) (hs : s.size ≤ 4194304) (k : Nat) (hk : s.size < k) : spec_l03Sign.f k s = some (signM s.toList) := by
  have := spec_sign_loop s hs s.toList [] k rfl (by rw [tl_length]; exact hk)
  exact this
theorem impl_user (s : ByteArray) (hs : s.size ≤ 4194304) : impl_isUser.f s = some (userM s.toList) := by
  unfold impl_isUser.f userM
  rw [tl_length]
  by_cases h : s.size ≤ 20
  · rw [if_pos (by omega)]
    unfold impl_areBytes.f
    rw [if_pos (by omega)]
    simp [h, allB]
  · rw [if_neg (by omega)]
    simp [h]
theorem impl_signs (s : ByteArray) (hs : s.size ≤ 4194304) : impl_areBytes.f s 74 = some (signM s.toList) := by
  unfold impl_areBytes.f
  rw [if_pos (by omega)]
  simp [allB, signM]
/-- What an entry's kind asks of its link and its body. -/
def kindOkM (kind : Int) (path link body : List UInt8) : Bool :=
  if kind = 0 then (link == []) && decide (body.length ≤ 3000)
  else if kind = 1 then (link == []) && (body == [])
  else if kind = 2 then decide (1 ≤ link.length ∧ link.length ≤ 150) && (signM link && (body == []))
  else if kind = 3 then pathOkM link && ((link != path) && (body == []))
  else false
def entryOkM (kind : Int) (path link : List UInt8) (mode uid gid time : Int) (user group body : List UInt8) : Bool :=
  (pathOkM path && (decide (0 ≤ mode ∧ mode ≤ 4095) && (decide (0 ≤ uid ∧ uid ≤ 4294967295) && (decide (0 ≤ gid ∧ gid ≤ 4294967295) && (decide (0 ≤ time ∧ time ≤ 99999999999) && (userM user && userM group)))))) && kindOkM kind path link body
theorem spec_entry_j (k : Nat) (hk : 8500000 < k) (x : Bool) (a0 : Int) (a1 a2 : ByteArray) (a3 a4 a5 a6 : Int) (a7 a8 a9 : ByteArray) (h2 : a2.size ≤ 1048576) : spec_EntryOk.j0 k x a0 a1 a2 a3 a4 a5 a6 a7 a8 a9 = some (!x && kindOkM a0 a1.toList a2.toList a9.toList) := by
  obtain ⟨k, rfl⟩ : ∃ m, k = m + 1 := ⟨k - 1, by omega⟩
  simp only [spec_EntryOk.j0]
  unfold kindOkM
  cases x with
  | true => simp
  | false =>
    rw [if_neg (by decide)]
    simp only [Bool.not_false, Bool.true_and]
    by_cases c0 : a0 = 0
    · rw [if_pos c0, if_pos c0, tl_length]
      by_cases c : a2.toList = []
      · rw [if_pos c, c]; simp; omega
      · rw [if_neg c]; simp [c]
    rw [if_neg c0, if_neg c0]
    by_cases c1 : a0 = 1
    · rw [if_pos c1, if_pos c1]
      by_cases c : a2.toList = []
      · rw [if_pos c, c]; rfl
      · rw [if_neg c]; simp [c]
    rw [if_neg c1, if_neg c1]
    by_cases c2 : a0 = 2
    · rw [if_pos c2, if_pos c2, in_eq, spec_sign a2 (by omega) _ (by omega), tl_length]
      simp only [Option.bind_some]
      by_cases c : 1 ≤ a2.size ∧ a2.size ≤ 150
      · rw [if_pos (by simpa using ⟨by omega, by omega⟩), decide_eq_true c]
        cases signM a2.toList <;> simp
      · rw [if_neg (by simp; omega), decide_eq_false c]
        simp
    rw [if_neg c2, if_neg c2]
    by_cases c3 : a0 = 3
    · rw [if_pos c3, if_pos c3, spec_pathOk a2 (by omega) _ (by omega)]
      simp only [Option.bind_some]
      cases pathOkM a2.toList with
      | false => simp
      | true =>
        rw [if_pos rfl]
        by_cases c : a2.toList = a1.toList
        · rw [if_pos c]; simp [c]
        · rw [if_neg c]; simp [c]
    rw [if_neg c3, if_neg c3]
theorem impl_entry_j (k : Nat) (hk : 8500000 < k) (x : Bool) (a0 : Int) (a1 a2 : ByteArray) (a3 a4 a5 a6 : Int) (a7 a8 a9 : ByteArray) (h2 : a2.size ≤ 1048576) : impl_EntryOk.j0 k x a0 a1 a2 a3 a4 a5 a6 a7 a8 a9 = some (!x && kindOkM a0 a1.toList a2.toList a9.toList) := by
  obtain ⟨k, rfl⟩ : ∃ m, k = m + 1 := ⟨k - 1, by omega⟩
  simp only [impl_EntryOk.j0]
  unfold kindOkM
  cases x with
  | true => simp
  | false =>
    rw [if_neg (by decide)]
    simp only [Bool.not_false, Bool.true_and]
    by_cases c0 : a0 = 0
    · rw [if_pos c0, if_pos c0, tl_length]
      by_cases c : a9.size ≤ 3000
      · rw [if_pos (by omega), decide_eq_true c]; simp
      · rw [if_neg (by omega), decide_eq_false c]; simp
    rw [if_neg c0, if_neg c0]
    by_cases c1 : a0 = 1
    · rw [if_pos c1, if_pos c1]
      by_cases c : a2.toList = []
      · rw [if_pos c, c]; rfl
      · rw [if_neg c]; simp [c]
    rw [if_neg c1, if_neg c1]
    by_cases c2 : a0 = 2
    · rw [if_pos c2, if_pos c2, within_eq, impl_signs a2 (by omega), tl_length]
      simp only [Option.bind_some]
      by_cases c : 1 ≤ a2.size ∧ a2.size ≤ 150
      · rw [if_pos (by simpa using ⟨by omega, by omega⟩), decide_eq_true c]
        cases signM a2.toList <;> simp
      · rw [if_neg (by simp; omega), decide_eq_false c]
        simp
    rw [if_neg c2, if_neg c2]
    by_cases c3 : a0 = 3
    · rw [if_pos c3, if_pos c3, impl_pathOk a2 (by omega) _ (by omega)]
      simp only [Option.bind_some]
      cases pathOkM a2.toList with
      | false => simp
      | true =>
        rw [if_pos rfl]
        by_cases c : a2.toList = a1.toList
        · rw [if_pos c]; simp [c]
        · rw [if_neg c]; simp [c]
    rw [if_neg c3, if_neg c3]
theorem spec_entryOk (k : Nat) (hk : 8500000 < k) (a0 : Int) (a1 a2 : ByteArray) (a3 a4 a5 a6 : Int) (a7 a8 a9 : ByteArray) (h1 : a1.size ≤ 1048576) (h2 : a2.size ≤ 1048576) (h7 : a7.size ≤ 1048576) (h8 : a8.size ≤ 1048576) :
    spec_EntryOk.f k a0 a1 a2 a3 a4 a5 a6 a7 a8 a9 = some (entryOkM a0 a1.toList a2.toList a3 a4 a5 a6 a7.toList a8.toList a9.toList) := by
  unfold spec_EntryOk.f entryOkM
  have J := fun x => spec_entry_j k hk x a0 a1 a2 a3 a4 a5 a6 a7 a8 a9 h2
  simp only [spec_pathOk a1 (by omega) k (by omega), in_eq, spec_who a7 (by omega) k (by omega), spec_who a8 (by omega) k (by omega), J, Option.bind_some]
  generalize kindOkM a0 a1.toList a2.toList a9.toList = z
  generalize pathOkM a1.toList = b1
  generalize decide (0 ≤ a3 ∧ a3 ≤ 4095) = b3
  generalize decide (0 ≤ a4 ∧ a4 ≤ 4294967295) = b4
  generalize decide (0 ≤ a5 ∧ a5 ≤ 4294967295) = b5
  generalize decide (0 ≤ a6 ∧ a6 ≤ 99999999999) = b6
  generalize userM a7.toList = b7
  generalize userM a8.toList = b8
  cases b1 <;> cases b3 <;> cases b4 <;> cases b5 <;> cases b6 <;> cases b7 <;> cases b8 <;> rfl
theorem impl_entryOk (k : Nat) (hk : 8500000 < k) (a0 : Int) (a1 a2 : ByteArray) (a3 a4 a5 a6 : Int) (a7 a8 a9 : ByteArray) (h1 : a1.size ≤ 1048576) (h2 : a2.size ≤ 1048576) (h7 : a7.size ≤ 1048576) (h8 : a8.size ≤ 1048576) :
    impl_EntryOk.f k a0 a1 a2 a3 a4 a5 a6 a7 a8 a9 = some (entryOkM a0 a1.toList a2.toList a3 a4 a5 a6 a7.toList a8.toList a9.toList) := by
  unfold impl_EntryOk.f entryOkM
  have J := fun x => impl_entry_j k hk x a0 a1 a2 a3 a4 a5 a6 a7 a8 a9 h2
  simp only [impl_pathOk a1 (by omega) k (by omega), within_eq, impl_user a7 (by omega), impl_user a8 (by omega), J, Option.bind_some]
  generalize kindOkM a0 a1.toList a2.toList a9.toList = z
  generalize pathOkM a1.toList = b1
  generalize decide (0 ≤ a3 ∧ a3 ≤ 4095) = b3
  generalize decide (0 ≤ a4 ∧ a4 ≤ 4294967295) = b4
  generalize decide (0 ≤ a5 ∧ a5 ≤ 4294967295) = b5
  generalize decide (0 ≤ a6 ∧ a6 ≤ 99999999999) = b6
  generalize userM a7.toList = b7
  generalize userM a8.toList = b8
  cases b1 <;> cases b3 <;> cases b4 <;> cases b5 <;> cases b6 <;> cases b7 <;> cases b8 <;> rfl

/-! ### The decimal text -/
def decZ (u : Nat) : List UInt8 := if u = 0 then [] else Lib.decDigits u
theorem decZ_step (u : Nat) (h : 0 < u) : decZ u = decZ (u / 10) ++ [UInt8.ofNat (48 + u % 10)] := by
  unfold decZ
  rw [if_neg (by omega), Lib.decDigits]
  by_cases c : u < 10
  · rw [dif_pos c, if_pos (by omega), Nat.mod_eq_of_lt c]
    rfl
  · rw [dif_neg c, if_neg (by omega)]
theorem digit_at (d : Nat) (h : d < 10) : ((⟨#[48, 49, 50, 51, 52, 53, 54, 55, 56, 57]⟩ : ByteArray).extract d (d + 1)).toList = [UInt8.ofNat (48 + d)] := by
  rw [tl_extract, tl]
  have : d = 0 ∨ d = 1 ∨ d = 2 ∨ d = 3 ∨ d = 4 ∨ d = 5 ∨ d = 6 ∨ d = 7 ∨ d = 8 ∨ d = 9 := by omega
  rcases this with rfl | rfl | rfl | rfl | rfl | rfl | rfl | rfl | rfl | rfl <;> rfl
theorem tmod_pos (u : Nat) : Int.tmod (u : Int) 10 = ((u % 10 : Nat) : Int) := by
  rw [Int.tmod_eq_emod_of_nonneg (by omega)]
  omega
theorem tdiv_pos (u : Nat) : Int.tdiv (u : Int) 10 = ((u / 10 : Nat) : Int) := by
  rw [Int.tdiv_eq_ediv_of_nonneg (by omega)]
  omega
theorem tmod_neg (u : Nat) : Int.tmod (-(u : Int)) 10 = -((u % 10 : Nat) : Int) := by
  rw [Int.neg_tmod, tmod_pos]
theorem tdiv_neg (u : Nat) : Int.tdiv (-(u : Int)) 10 = -((u / 10 : Nat) : Int) := by
  rw [Int.neg_tdiv, tdiv_pos]
def minusM (n : Int) : List UInt8 := if n < 0 then [45] else []
theorem spec_dec_loop (n : Int) : ∀ (j u k : Nat) (x : Int) (acc : ByteArray), j ≤ 19 → u < 10 ^ j → u ≤ 9223372036854775808 → (x = (u : Int) ∧ u ≤ 9223372036854775807 ∨ x = -(u : Int)) → j < k → acc.size + j ≤ 1000 →
    ∃ r, spec_DecText.l0 k n acc x = some r ∧ r.toList = minusM n ++ (decZ u ++ acc.toList) := by
  intro j
  induction j with
  | zero =>
    intro u k x acc hj hu hb hx hk ha
    obtain ⟨k, rfl⟩ : ∃ m, k = m + 1 := ⟨k - 1, by omega⟩
    have hu0 : u = 0 := by simpa using hu
    subst hu0
    have hx0 : x = 0 := by omega
    unfold spec_DecText.l0
    rw [if_pos hx0]
    by_cases hn : n < 0
    · rw [if_pos hn, if_pos (by omega)]
      refine ⟨_, rfl, ?_⟩
      rw [tl_append, tl]
      simp [minusM, hn, decZ]
    · rw [if_neg hn]
      exact ⟨_, rfl, by simp [minusM, hn, decZ]⟩
  | succ j ih =>
    intro u k x acc hj hu hb hx hk ha
    obtain ⟨k, rfl⟩ : ∃ m, k = m + 1 := ⟨k - 1, by omega⟩
    by_cases h0 : u = 0
    · have hx0 : x = 0 := by omega
      subst h0
      unfold spec_DecText.l0
      rw [if_pos hx0]
      by_cases hn : n < 0
      · rw [if_pos hn, if_pos (by omega)]
        refine ⟨_, rfl, ?_⟩
        rw [tl_append, tl]
        simp [minusM, hn, decZ]
      · rw [if_neg hn]
        exact ⟨_, rfl, by simp [minusM, hn, decZ]⟩
    · have hm : u % 10 < 10 := Nat.mod_lt _ (by decide)
      have hd := digit_at (u % 10) hm
      have hs : ((⟨#[48, 49, 50, 51, 52, 53, 54, 55, 56, 57]⟩ : ByteArray).extract (u % 10) (u % 10 + 1)).size = 1 := by rw [← tl_length, hd]; rfl
      have hq : u / 10 < 10 ^ j := by rw [Nat.pow_succ] at hu; omega
      have next : ∀ y : Int, (y = ((u / 10 : Nat) : Int) ∧ u / 10 ≤ 9223372036854775807 ∨ y = -((u / 10 : Nat) : Int)) → ∃ r, spec_DecText.l0 k n (((⟨#[48, 49, 50, 51, 52, 53, 54, 55, 56, 57]⟩ : ByteArray).extract (u % 10) (u % 10 + 1)) ++ acc) y = some r ∧ r.toList = minusM n ++ (decZ u ++ acc.toList) := by
        intro y hy
        obtain ⟨r, e, l⟩ := ih (u / 10) k y (((⟨#[48, 49, 50, 51, 52, 53, 54, 55, 56, 57]⟩ : ByteArray).extract (u % 10) (u % 10 + 1)) ++ acc) (by omega) hq (by omega) hy (by omega) (by rw [ByteArray.size_append, hs]; omega)
        refine ⟨r, e, ?_⟩
        rw [l, tl_append, hd, decZ_step u (by omega)]
        simp
      unfold spec_DecText.l0
      rw [if_neg (by omega)]
      rcases hx with ⟨hx, hb2⟩ | hx
      · have t1 : Int.tmod x 10 = ((u % 10 : Nat) : Int) := by rw [hx, tmod_pos]
        have t2 : Int.tdiv x 10 = ((u / 10 : Nat) : Int) := by rw [hx, tdiv_pos]
        rw [t1, t2, w64 (n := ((u % 10 : Nat) : Int) + 1) (by omega) (by omega), w64 (n := ((u / 10 : Nat) : Int)) (by omega) (by omega)]
        rw [show (((u % 10 : Nat) : Int) + 1).toNat = u % 10 + 1 by omega, Int.toNat_natCast]
        rw [if_neg (by omega), if_pos (by omega), if_pos (by omega), if_pos (by omega), if_pos (by rw [hs]; omega)]
        exact next _ (Or.inl ⟨rfl, by omega⟩)
      · have t1 : Int.tmod x 10 = -((u % 10 : Nat) : Int) := by rw [hx, tmod_neg]
        have t2 : Int.tdiv x 10 = -((u / 10 : Nat) : Int) := by rw [hx, tdiv_neg]
        rw [t1, t2, w64 (n := -((u / 10 : Nat) : Int)) (by omega) (by omega)]
        by_cases hz : u % 10 = 0
        · rw [hz] at hs next ⊢
          have e3 : wrap64 (-((0 : Nat) : Int) + 1) = 1 := by rw [w64 (by decide) (by decide)]; rfl
          have e1 : (-((0 : Nat) : Int)).toNat = 0 := rfl
          have e2 : (1 : Int).toNat = 0 + 1 := rfl
          rw [e3, if_neg (by decide), if_pos (by decide), if_pos (by decide), if_pos (by decide), e1, e2, if_pos (by rw [hs]; omega)]
          exact next _ (Or.inr rfl)
        · rw [if_pos (by omega), w64 (n := - -((u % 10 : Nat) : Int)) (by omega) (by omega), w64 (n := - -((u % 10 : Nat) : Int) + 1) (by omega) (by omega)]
          rw [show (- -((u % 10 : Nat) : Int) + 1).toNat = u % 10 + 1 by omega, show (- -((u % 10 : Nat) : Int)).toNat = u % 10 by omega]
          rw [if_pos (by omega), if_pos (by omega), if_pos (by omega), if_pos (by rw [hs]; omega)]
          exact next _ (Or.inr rfl)
theorem spec_dec (n : Int) (h0 : -9223372036854775808 ≤ n) (h1 : n ≤ 9223372036854775807) (k : Nat) (hk : 19 < k) : ∃ r, spec_DecText.f k n = some r ∧ r.toList = Lib.itoa n := by
  unfold spec_DecText.f Lib.itoa
  by_cases hz : n = 0
  · rw [if_pos hz, hz]
    refine ⟨_, rfl, ?_⟩
    rw [tl, if_neg (by decide), Lib.decDigits]
    rfl
  · rw [if_neg hz]
    obtain ⟨r, e, l⟩ := spec_dec_loop n 19 n.natAbs k n (⟨#[]⟩ : ByteArray) (by decide) (by omega) (by omega) (by omega) hk (by decide)
    refine ⟨r, e, ?_⟩
    have hn : (⟨#[]⟩ : ByteArray).toList = [] := by rw [tl]
    have hd : decZ n.natAbs = Lib.decDigits n.natAbs := by
      unfold decZ
      rw [if_neg (by omega)]
    rw [l, hn, List.append_nil, hd]
    unfold minusM
    by_cases c : n < 0
    · rw [if_pos c, if_pos c]
      rfl
    · rw [if_neg c, if_neg c, show n.natAbs = n.toNat by omega]
      rfl
theorem impl_dec (n : Int) (h0 : -9223372036854775808 ≤ n) (h1 : n ≤ 9223372036854775807) : ∃ r, impl_DecText.f n = some r ∧ r.toList = Lib.itoa n := by
  unfold impl_DecText.f strconv_Itoa.f
  rw [if_pos ⟨h0, h1⟩]
  exact ⟨_, rfl, tl_mk _⟩

/-! ### The digits of a number in a base -/
def hexD (d : Nat) : UInt8 := ([48, 49, 50, 51, 52, 53, 54, 55, 56, 57, 97, 98, 99, 100, 101, 102] : List UInt8).getD d 0
def digB (b : Nat) (u : Nat) : List UInt8 := if h : u = 0 ∨ b ≤ 1 then [] else digB b (u / b) ++ [hexD (u % b)]
termination_by u
decreasing_by exact Nat.div_lt_self (by omega) (by omega)
theorem digB_zero (b : Nat) : digB b 0 = [] := by rw [digB, dif_pos (Or.inl rfl)]
theorem digB_step (b u : Nat) (hb : 2 ≤ b) (h : 0 < u) : digB b u = digB b (u / b) ++ [hexD (u % b)] := by
  rw [digB, dif_neg (by omega)]
def numB (b u : Nat) : List UInt8 := if u = 0 then [48] else digB b u
theorem hexD_dec (d : Nat) (h : d < 10) : hexD d = UInt8.ofNat (48 + d) := by
  have : d = 0 ∨ d = 1 ∨ d = 2 ∨ d = 3 ∨ d = 4 ∨ d = 5 ∨ d = 6 ∨ d = 7 ∨ d = 8 ∨ d = 9 := by omega
  rcases this with rfl | rfl | rfl | rfl | rfl | rfl | rfl | rfl | rfl | rfl <;> rfl

theorem rev_ind {P : List UInt8 → Prop} (h0 : P []) (h1 : ∀ l c, P l → P (l ++ [c])) (l : List UInt8) : P l := by
  have h : ∀ m : List UInt8, P m.reverse := fun m => by
    induction m with
    | nil => exact h0
    | cons c m ih =>
      rw [List.reverse_cons]
      exact h1 _ _ ih
  have := h l.reverse
  rwa [List.reverse_reverse] at this

/-! ### Digits in a field of a width, and their value -/
def padB (b : Nat) : Nat → Nat → List UInt8
  | 0, _ => []
  | w + 1, n => padB b w (n / b) ++ [hexD (n % b)]
/-- What a byte is worth as a digit; -1 where it is none. -/
def dvI (c : UInt8) : Int := if 48 ≤ c.toNat ∧ c.toNat ≤ 57 then (c.toNat : Int) - 48 else if 97 ≤ c.toNat ∧ c.toNat ≤ 102 then (c.toNat : Int) - 87 else -1
def digOk (b : Nat) (c : UInt8) : Bool := decide (0 ≤ dvI c) && decide (dvI c < (b : Int))
def valM (b : Nat) : Nat → List UInt8 → Nat
  | acc, [] => acc
  | acc, c :: t => valM b (acc * b + (dvI c).toNat) t
theorem dv_hex (d : Nat) (h : d < 16) : dvI (hexD d) = (d : Int) := by
  have : d = 0 ∨ d = 1 ∨ d = 2 ∨ d = 3 ∨ d = 4 ∨ d = 5 ∨ d = 6 ∨ d = 7 ∨ d = 8 ∨ d = 9 ∨ d = 10 ∨ d = 11 ∨ d = 12 ∨ d = 13 ∨ d = 14 ∨ d = 15 := by omega
  rcases this with rfl | rfl | rfl | rfl | rfl | rfl | rfl | rfl | rfl | rfl | rfl | rfl | rfl | rfl | rfl | rfl <;> decide
theorem dv_lt (c : UInt8) : dvI c < 16 := by
  unfold dvI
  split
  · omega
  · split <;> omega
theorem hex_dv_fin : ∀ n : Fin 256, 0 ≤ dvI (UInt8.ofNat n.val) → hexD (dvI (UInt8.ofNat n.val)).toNat = UInt8.ofNat n.val := by decide +kernel
theorem hex_dv (c : UInt8) (h : 0 ≤ dvI c) : hexD (dvI c).toNat = c := by
  have := hex_dv_fin ⟨c.toNat, c.toNat_lt⟩
  simp only [UInt8.ofNat_toNat] at this
  exact this h
theorem padB_length (b : Nat) : ∀ w n, (padB b w n).length = w
  | 0, n => rfl
  | w + 1, n => by simp [padB, padB_length b w]
theorem valM_append (b : Nat) : ∀ (l1 l2 : List UInt8) (acc : Nat), valM b acc (l1 ++ l2) = valM b (valM b acc l1) l2
  | [], l2, acc => rfl
  | c :: l1, l2, acc => by simp only [List.cons_append, valM]; exact valM_append b l1 l2 _
theorem valM_padB (b : Nat) (hb : 2 ≤ b) (hb2 : b ≤ 16) : ∀ w n, n < b ^ w → valM b 0 (padB b w n) = n
  | 0, n, h => by
    have : n = 0 := by simpa using h
    subst this
    rfl
  | w + 1, n, h => by
    have hm : n % b < b := Nat.mod_lt _ (by omega)
    have hq : n / b < b ^ w := Nat.div_lt_of_lt_mul (by rw [Nat.mul_comm, ← Nat.pow_succ]; exact h)
    rw [padB, valM_append, valM_padB b hb hb2 w _ hq]
    simp only [valM]
    rw [dv_hex _ (by omega), Int.toNat_natCast, Nat.mul_comm]
    exact Nat.div_add_mod n b
theorem padB_ok (b : Nat) (hb : 2 ≤ b) (hb2 : b ≤ 16) : ∀ w n, ∀ c ∈ padB b w n, digOk b c = true
  | 0, n, c, h => by simp [padB] at h
  | w + 1, n, c, h => by
    rw [padB, List.mem_append, List.mem_singleton] at h
    rcases h with h | h
    · exact padB_ok b hb hb2 w _ c h
    · have hm : n % b < b := Nat.mod_lt _ (by omega)
      rw [h]
      unfold digOk
      rw [dv_hex _ (by omega), decide_eq_true (by omega), decide_eq_true (by omega)]
      rfl
theorem padB_valM (b : Nat) (hb : 2 ≤ b) : ∀ l : List UInt8, (∀ c ∈ l, digOk b c = true) → padB b l.length (valM b 0 l) = l ∧ valM b 0 l < b ^ l.length := by
  intro l
  induction l using rev_ind with
  | h0 => intro _; exact ⟨rfl, by simp [valM]⟩
  | h1 l c ih =>
    intro h
    obtain ⟨h1, h2⟩ := ih (fun x hx => h x (List.mem_append_left _ hx))
    have hc := h c (by simp)
    unfold digOk at hc
    simp only [Bool.and_eq_true, decide_eq_true_eq] at hc
    have hd : (dvI c).toNat < b := by omega
    have e1 : (valM b 0 l * b + (dvI c).toNat) / b = valM b 0 l := by
      rw [Nat.mul_comm, Nat.mul_add_div (by omega), Nat.div_eq_of_lt hd, Nat.add_zero]
    have e2 : (valM b 0 l * b + (dvI c).toNat) % b = (dvI c).toNat := by
      rw [Nat.mul_comm, Nat.mul_add_mod, Nat.mod_eq_of_lt hd]
    rw [valM_append]
    simp only [valM, List.length_append, List.length_cons, List.length_nil, padB, e1, e2]
    rw [h1, hex_dv c hc.1]
    refine ⟨rfl, ?_⟩
    rw [Nat.pow_succ]
    have : (valM b 0 l + 1) * b ≤ b ^ l.length * b := Nat.mul_le_mul_right _ h2
    rw [Nat.add_mul, Nat.one_mul] at this
    omega
theorem padB_zero (b : Nat) : ∀ w, padB b w 0 = List.replicate w 48
  | 0 => rfl
  | w + 1 => by
    rw [padB, Nat.zero_div, Nat.zero_mod, padB_zero b w, List.replicate_succ']
    rfl
theorem numB_less (b n : Nat) (hb : 2 ≤ b) (h : n < b) : numB b n = [hexD n] := by
  unfold numB
  by_cases h0 : n = 0
  · rw [if_pos h0, h0]
    rfl
  · rw [if_neg h0, digB_step b n hb (by omega), Nat.div_eq_of_lt h, digB_zero, Nat.mod_eq_of_lt h]
    rfl
theorem numB_more (b n : Nat) (hb : 2 ≤ b) (h : ¬ n < b) : numB b n = numB b (n / b) ++ [hexD (n % b)] := by
  have hq : 0 < n / b := Nat.div_pos (by omega) (by omega)
  unfold numB
  rw [if_neg (by omega), if_neg (by omega), digB_step b n hb (by omega)]
/-- The number with zeros ahead of it is the field. -/
theorem numB_pad (b : Nat) (hb : 2 ≤ b) : ∀ w n, (n < b ^ (w + 1) → (numB b n).length ≤ w + 1 ∧ List.replicate (w + 1 - (numB b n).length) 48 ++ numB b n = padB b (w + 1) n) ∧ (¬ n < b ^ (w + 1) → w + 1 < (numB b n).length)
  | 0, n => by
    rw [Nat.zero_add, Nat.pow_one]
    refine ⟨fun h => ?_, fun h => ?_⟩
    · rw [numB_less b n hb h]
      exact ⟨Nat.le_refl _, by simp [padB, Nat.mod_eq_of_lt h]⟩
    · rw [numB_more b n hb h, List.length_append]
      have : 0 < (numB b (n / b)).length := by
        by_cases c : n / b < b
        · rw [numB_less b _ hb c]; simp
        · rw [numB_more b _ hb c]; simp
      simp only [List.length_cons, List.length_nil]
      omega
  | w + 1, n => by
    obtain ⟨i1, i2⟩ := numB_pad b hb w (n / b)
    have hdiv : n / b < b ^ (w + 1) ↔ n < b ^ (w + 1 + 1) := by
      rw [Nat.div_lt_iff_lt_mul (by omega), ← Nat.pow_succ]
    by_cases c : n < b
    · have hlt : n < b ^ (w + 1 + 1) := Nat.lt_of_lt_of_le c (by
        have : b ^ 1 ≤ b ^ (w + 1 + 1) := Nat.pow_le_pow_right (by omega) (by omega)
        rwa [Nat.pow_one] at this)
      refine ⟨fun _ => ?_, fun h => absurd hlt h⟩
      rw [numB_less b n hb c, padB, Nat.div_eq_of_lt c, padB_zero, Nat.mod_eq_of_lt c]
      exact ⟨by simp, by simp⟩
    · rw [numB_more b n hb c]
      refine ⟨fun h => ?_, fun h => ?_⟩
      · obtain ⟨j1, j2⟩ := i1 (hdiv.2 h)
        rw [padB, ← j2, List.length_append]
        simp only [List.length_cons, List.length_nil]
        refine ⟨by omega, ?_⟩
        rw [show w + 1 + 1 - ((numB b (n / b)).length + (0 + 1)) = w + 1 - (numB b (n / b)).length by omega, List.append_assoc]
      · have := i2 (fun h2 => h (hdiv.1 h2))
        rw [List.length_append]
        simp only [List.length_cons, List.length_nil]
        omega
/-- A number in a field of so many bytes, zeros ahead of it. -/
def putB (b : Nat) (n w : Int) : List UInt8 × Bool := if ((0 ≤ n ∧ n ≤ 9007199254740991) ∧ (1 ≤ w ∧ w ≤ 20)) ∧ n.toNat < b ^ w.toNat then (padB b w.toNat n.toNat, true) else ([], false)
/-- The digits' value, of so many digits at most. -/
def getB (b lo hi : Nat) (l : List UInt8) : Int × Bool := if (lo ≤ l.length ∧ l.length ≤ hi) ∧ (∀ c ∈ l, digOk b c = true) ∧ valM b 0 l ≤ 9007199254740991 then ((valM b 0 l : Int), true) else (0, false)
theorem get_put (b : Nat) (hb : 2 ≤ b) (hb2 : b ≤ 16) (n w : Int) (lo hi : Nat) (h : (putB b n w).2 = true) (hlo : (lo : Int) ≤ w) (hhi : w ≤ (hi : Int)) : getB b lo hi (putB b n w).1 = (n, true) ∧ ((putB b n w).1.length : Int) = w := by
  unfold putB at h ⊢
  by_cases c : ((0 ≤ n ∧ n ≤ 9007199254740991) ∧ (1 ≤ w ∧ w ≤ 20)) ∧ n.toNat < b ^ w.toNat
  · rw [if_pos c]
    obtain ⟨⟨c1, c2⟩, c3⟩ := c
    have hv := valM_padB b hb hb2 w.toNat n.toNat c3
    have hl := padB_length b w.toNat n.toNat
    refine ⟨?_, by rw [hl]; omega⟩
    unfold getB
    rw [if_pos ⟨by rw [hl]; omega, padB_ok b hb hb2 _ _, by rw [hv]; omega⟩, hv]
    congr 1
    omega
  · rw [if_neg c] at h
    cases h
theorem put_get (b : Nat) (hb : 2 ≤ b) (l : List UInt8) (lo hi : Nat) (hlo : 1 ≤ lo) (hhi : hi ≤ 20) (h : (getB b lo hi l).2 = true) : putB b (getB b lo hi l).1 (l.length : Int) = (l, true) := by
  unfold getB at h ⊢
  by_cases c : (lo ≤ l.length ∧ l.length ≤ hi) ∧ (∀ c ∈ l, digOk b c = true) ∧ valM b 0 l ≤ 9007199254740991
  · rw [if_pos c]
    obtain ⟨c1, c2, c3⟩ := c
    obtain ⟨h1, h2⟩ := padB_valM b hb l c2
    unfold putB
    simp only [Int.toNat_natCast]
    rw [if_pos ⟨⟨by omega, by omega⟩, h2⟩, h1]
  · rw [if_neg c] at h
    cases h

theorem hex_at (d : Nat) (h : d < 16) : ((⟨#[48, 49, 50, 51, 52, 53, 54, 55, 56, 57, 97, 98, 99, 100, 101, 102]⟩ : ByteArray).extract d (d + 1)).toList = [hexD d] := by
  rw [tl_extract, tl]
  have : d = 0 ∨ d = 1 ∨ d = 2 ∨ d = 3 ∨ d = 4 ∨ d = 5 ∨ d = 6 ∨ d = 7 ∨ d = 8 ∨ d = 9 ∨ d = 10 ∨ d = 11 ∨ d = 12 ∨ d = 13 ∨ d = 14 ∨ d = 15 := by omega
  rcases this with rfl | rfl | rfl | rfl | rfl | rfl | rfl | rfl | rfl | rfl | rfl | rfl | rfl | rfl | rfl | rfl <;> rfl
theorem spec_digits_loop (b : Nat) (hb : 2 ≤ b) (hb2 : b ≤ 16) : ∀ (j u k : Nat) (acc : ByteArray), j ≤ 60 → u < 2 ^ j → u ≤ 9007199254740991 → j < k → acc.size + j ≤ 1000 →
    ∃ r, spec_l01Digits.l0 k (u : Int) (b : Int) acc = some r ∧ r.toList = digB b u ++ acc.toList := by
  intro j
  induction j with
  | zero =>
    intro u k acc hj hu hm hk ha
    obtain ⟨k, rfl⟩ : ∃ m, k = m + 1 := ⟨k - 1, by omega⟩
    obtain rfl : u = 0 := by simpa using hu
    unfold spec_l01Digits.l0
    rw [if_neg (by decide)]
    exact ⟨acc, rfl, by rw [digB_zero]; rfl⟩
  | succ j ih =>
    intro u k acc hj hu hm hk ha
    obtain ⟨k, rfl⟩ : ∃ m, k = m + 1 := ⟨k - 1, by omega⟩
    unfold spec_l01Digits.l0
    by_cases h0 : u = 0
    · subst h0
      rw [if_neg (by decide)]
      exact ⟨acc, rfl, by rw [digB_zero]; rfl⟩
    · have hmod : u % b < b := Nat.mod_lt _ (by omega)
      have hd := hex_at (u % b) (by omega)
      have hs : ((⟨#[48, 49, 50, 51, 52, 53, 54, 55, 56, 57, 97, 98, 99, 100, 101, 102]⟩ : ByteArray).extract (u % b) (u % b + 1)).size = 1 := by rw [← tl_length, hd]; rfl
      have hq : u / b < 2 ^ j := by
        rw [Nat.pow_succ] at hu
        exact Nat.div_lt_of_lt_mul (by
          have : 2 ^ j * 2 ≤ b * 2 ^ j := by rw [Nat.mul_comm]; exact Nat.mul_le_mul_right _ hb
          omega)
      have hq2 : u / b ≤ u := Nat.div_le_self _ _
      have t1 : Int.tmod (u : Int) (b : Int) = ((u % b : Nat) : Int) := by
        rw [Int.tmod_eq_emod_of_nonneg (by omega), Int.natCast_emod]
      have t2 : Int.tdiv (u : Int) (b : Int) = ((u / b : Nat) : Int) := by
        rw [Int.tdiv_eq_ediv_of_nonneg (by omega), Int.natCast_ediv]
      have hstep := digB_step b u hb (by omega)
      rw [t1, t2, hstep]
      clear t1 t2 hstep
      generalize u / b = q at *
      generalize u % b = m at *
      rw [w64 (n := (m : Int) + 1) (by omega) (by omega), w64 (n := (q : Int)) (by omega) (by omega)]
      rw [show ((m : Int) + 1).toNat = m + 1 by omega, Int.toNat_natCast]
      rw [if_pos (by omega), if_neg (by omega), if_pos (by omega), if_pos (by omega), if_pos (by omega), if_pos (by rw [hs]; omega)]
      obtain ⟨r, e, l⟩ := ih q k (((⟨#[48, 49, 50, 51, 52, 53, 54, 55, 56, 57, 97, 98, 99, 100, 101, 102]⟩ : ByteArray).extract m (m + 1)) ++ acc) (by omega) hq (by omega) (by omega) (by rw [ByteArray.size_append, hs]; omega)
      refine ⟨r, e, ?_⟩
      rw [l, tl_append, hd]
      simp
theorem spec_digits (b : Nat) (hb : 2 ≤ b) (hb2 : b ≤ 16) (n : Int) (h0 : 0 ≤ n) (h1 : n ≤ 9007199254740991) (k : Nat) (hk : 60 < k) : ∃ r, spec_l01Digits.f k n (b : Int) = some r ∧ r.toList = numB b n.toNat := by
  obtain ⟨u, rfl⟩ := Int.eq_ofNat_of_zero_le h0
  unfold spec_l01Digits.f numB
  rw [Int.toNat_natCast]
  by_cases hz : u = 0
  · rw [if_pos (by omega), if_pos hz]
    exact ⟨_, rfl, by rw [tl]⟩
  · rw [if_neg (by omega), if_neg hz]
    obtain ⟨r, e, l⟩ := spec_digits_loop b hb hb2 60 u k (⟨#[]⟩ : ByteArray) (by decide) (by omega) (by omega) hk (by decide)
    refine ⟨r, e, ?_⟩
    have hn : (⟨#[]⟩ : ByteArray).toList = [] := by rw [tl]
    rw [l, hn, List.append_nil]

theorem spec_ahead_loop (w : Int) (hw : w ≤ 20) : ∀ (d k : Nat) (s : ByteArray), (s.size : Int) + d = w → d < k → ∃ r, spec_l01Ahead.l0 k s w (⟨#[48]⟩ : ByteArray) = some r ∧ r.toList = List.replicate d 48 ++ s.toList := by
  intro d
  induction d with
  | zero =>
    intro k s hs hk
    obtain ⟨k, rfl⟩ : ∃ m, k = m + 1 := ⟨k - 1, by omega⟩
    have hn : ¬ (s.size : Int) < w := by omega
    simp only [spec_l01Ahead.l0]
    rw [if_neg hn]
    exact ⟨s, rfl, by simp⟩
  | succ d ih =>
    intro k s hs hk
    obtain ⟨k, rfl⟩ : ∃ m, k = m + 1 := ⟨k - 1, by omega⟩
    have e0 : (⟨#[48]⟩ : ByteArray).size = 1 := rfl
    have e1 : ((⟨#[48]⟩ : ByteArray) ++ s).size = s.size + 1 := by rw [ByteArray.size_append, e0]; omega
    have e2 : ((⟨#[48]⟩ : ByteArray) ++ s).toList = 48 :: s.toList := by rw [tl_append, tl (⟨#[48]⟩ : ByteArray)]; rfl
    have hp : (s.size : Int) < w := by omega
    have hq : (⟨#[48]⟩ : ByteArray).size + s.size ≤ 9223372036854775807 := by omega
    obtain ⟨r, e, l⟩ := ih k ((⟨#[48]⟩ : ByteArray) ++ s) (by omega) (by omega)
    simp only [spec_l01Ahead.l0]
    rw [if_pos hp, if_pos hq]
    refine ⟨r, e, ?_⟩
    rw [l, e2, List.replicate_succ']
    simp
theorem spec_ahead_long (w : Int) (s : ByteArray) (k : Nat) (hk : 0 < k) (h : w ≤ (s.size : Int)) : spec_l01Ahead.f k s w (⟨#[48]⟩ : ByteArray) = some s := by
  obtain ⟨k, rfl⟩ : ∃ m, k = m + 1 := ⟨k - 1, by omega⟩
  have hn : ¬ (s.size : Int) < w := by omega
  unfold spec_l01Ahead.f
  simp only [spec_l01Ahead.l0]
  rw [if_neg hn]
/-- A number's digits and zeros ahead of them. -/
theorem spec_field (b : Nat) (hb : 2 ≤ b) (hb2 : b ≤ 16) (n w : Int) (h0 : 0 ≤ n) (h1 : n ≤ 9007199254740991) (w0 : 1 ≤ w) (w1 : w ≤ 20) (k : Nat) (hk : 60 < k) :
    ∃ t r, spec_l01Digits.f k n (b : Int) = some t ∧ spec_l01Ahead.f k t w (⟨#[48]⟩ : ByteArray) = some r ∧ (n.toNat < b ^ w.toNat → r.toList = padB b w.toNat n.toNat) ∧ (¬ n.toNat < b ^ w.toNat → w < (r.size : Int)) := by
  obtain ⟨t, e, l⟩ := spec_digits b hb hb2 n h0 h1 k hk
  obtain ⟨j, hj⟩ : ∃ j : Nat, w.toNat = j + 1 := ⟨w.toNat - 1, by omega⟩
  obtain ⟨p1, p2⟩ := numB_pad b hb j n.toNat
  have hs : t.size = (numB b n.toNat).length := by rw [← l, tl_length]
  rw [hj]
  by_cases c : n.toNat < b ^ (j + 1)
  · obtain ⟨q1, q2⟩ := p1 c
    obtain ⟨r, e2, l2⟩ := spec_ahead_loop w w1 (j + 1 - (numB b n.toNat).length) k t (by omega) (by omega)
    refine ⟨t, r, e, e2, fun _ => ?_, fun h => absurd c h⟩
    rw [l2, l, q2]
  · have q := p2 c
    exact ⟨t, t, e, spec_ahead_long w t k (by omega) (by omega), fun h => absurd h c, fun _ => by omega⟩

theorem repeat_one (c : UInt8) : ∀ n : Nat, Lib.repeatL [c] n = List.replicate n c
  | 0 => rfl
  | n + 1 => by
    simp only [Lib.repeatL, repeat_one c n, List.replicate_succ]
    rfl
theorem lib_repeat (c : UInt8) (n : Int) (h0 : 0 ≤ n) (h1 : n ≤ 1048576) : ∃ r, strings_Repeat.f (⟨#[c]⟩ : ByteArray) n = some r ∧ r.toList = List.replicate n.toNat c := by
  have hs : (⟨#[c]⟩ : ByteArray).size = 1 := rfl
  unfold strings_Repeat.f
  rw [if_pos ⟨h0, by omega, by rw [hs]; omega⟩]
  refine ⟨_, rfl, ?_⟩
  rw [tl_mk]
  exact repeat_one c _

theorem dgt_hex (d : Nat) (h : d < 16) : dgt d = hexD d := by
  have : d = 0 ∨ d = 1 ∨ d = 2 ∨ d = 3 ∨ d = 4 ∨ d = 5 ∨ d = 6 ∨ d = 7 ∨ d = 8 ∨ d = 9 ∨ d = 10 ∨ d = 11 ∨ d = 12 ∨ d = 13 ∨ d = 14 ∨ d = 15 := by omega
  rcases this with rfl | rfl | rfl | rfl | rfl | rfl | rfl | rfl | rfl | rfl | rfl | rfl | rfl | rfl | rfl | rfl <;> decide
theorem fmt_num (b : Nat) (hb : 2 ≤ b) (hb2 : b ≤ 16) (u : Nat) : fmtL b u = numB b u := by
  induction u using Nat.strongRecOn with
  | _ u ih =>
    by_cases c : u < b
    · rw [fmtL_less b u c, numB_less b u hb c, dgt_hex u (by omega)]
    · have hm : u % b < b := Nat.mod_lt _ (by omega)
      rw [fmtL_more b u hb c, numB_more b u hb c, dgt_hex _ (by omega), ih (u / b) (Nat.div_lt_self (by omega) (by omega))]
theorem impl_inBase_b (b : Nat) (hb : b = 8 ∨ b = 16) (n : Int) (h0 : 0 ≤ n) (h1 : n ≤ 9007199254740991) : ∃ t, impl_inBase.f n (b : Int) = some t ∧ t.toList = numB b n.toNat := by
  have hn : ¬ ((b : Int) = 10 ∧ -9223372036854775808 ≤ n ∧ n ≤ 9223372036854775807) := by omega
  have hp : ((b : Int) = 8 ∨ (b : Int) = 16) ∧ 0 ≤ n ∧ n ≤ 9223372036854775807 := by omega
  unfold impl_inBase.f strconv_FormatInt.f
  rw [if_neg hn, if_pos hp]
  refine ⟨_, rfl, ?_⟩
  rw [tl_mk, Int.toNat_natCast, fmt_num b (by omega) (by omega)]
theorem impl_zeros_b (b : Nat) (hb : 2 ≤ b) (n w : Int) (w0 : 1 ≤ w) (w1 : w ≤ 20) (t : ByteArray) (l : t.toList = numB b n.toNat) (h : n.toNat < b ^ w.toNat) : ∃ r, impl_zeros.f t w = some r ∧ r.toList = padB b w.toNat n.toNat := by
  obtain ⟨j, hj⟩ : ∃ j : Nat, w.toNat = j + 1 := ⟨w.toNat - 1, by omega⟩
  rw [hj] at h ⊢
  obtain ⟨q1, q2⟩ := (numB_pad b hb j n.toNat).1 h
  have hs : t.size = (numB b n.toNat).length := by rw [← l, tl_length]
  obtain ⟨p, e2, l2⟩ := lib_repeat 48 (w - (t.size : Int)) (by omega) (by omega)
  have hp : p.size ≤ 20 := by rw [← tl_length, l2, List.length_replicate]; omega
  have hq : p.size + t.size ≤ 9223372036854775807 := by omega
  unfold impl_zeros.f
  rw [w64 (by omega) (by omega), e2]
  simp only [Option.bind_some]
  rw [if_pos hq]
  refine ⟨_, rfl, ?_⟩
  rw [tl_append, l2, l, ← q2]
  congr 2
  omega

theorem spec_putOct (n w : Int) (k : Nat) (hk : 100 < k) : ∃ r, spec_PutOct.f k n w = some r ∧ (r.1.toList, r.2) = putB 8 n w := by
  obtain ⟨k, rfl⟩ : ∃ m, k = m + 1 := ⟨k - 1, by omega⟩
  have hn : (⟨#[]⟩ : ByteArray).toList = [] := by rw [tl]
  have stay : spec_PutOct.j0 (k + 1) n w true = some ((⟨#[]⟩ : ByteArray), false) := by simp [spec_PutOct.j0]
  unfold spec_PutOct.f putB
  rw [in_eq, in_eq]
  simp only [Option.bind_some]
  by_cases h1 : 0 ≤ n ∧ n ≤ 9007199254740991
  · rw [if_pos (decide_eq_true h1)]
    by_cases h2 : 1 ≤ w ∧ w ≤ 20
    · rw [decide_eq_true h2]
      obtain ⟨t, r, e1, e2, p1, p2⟩ := spec_field 8 (by decide) (by decide) n w h1.1 h1.2 h2.1 h2.2 k (by omega)
      rw [show ((8 : Nat) : Int) = 8 from rfl] at e1
      simp only [spec_PutOct.j0]
      rw [if_neg (by decide), e1]
      simp only [Option.bind_some]
      rw [e2]
      simp only [Option.bind_some]
      by_cases c : n.toNat < 8 ^ w.toNat
      · have hr : (r.size : Int) = w := by rw [← tl_length, p1 c, padB_length]; omega
        have hg : ¬ (r.size : Int) > w := by omega
        rw [if_neg hg, if_pos ⟨⟨h1, h2⟩, c⟩]
        exact ⟨_, rfl, by rw [p1 c]⟩
      · have hg : (r.size : Int) > w := p2 c
        rw [if_pos hg, if_neg (fun h => c h.2)]
        exact ⟨_, rfl, by rw [hn]⟩
    · rw [decide_eq_false h2, if_neg (fun h => h2 h.1.2)]
      exact ⟨_, stay, by rw [hn]⟩
  · rw [if_neg (by simpa using h1), if_neg (fun h => h1 h.1.1)]
    exact ⟨_, stay, by rw [hn]⟩
theorem impl_putOct (n w : Int) : ∃ r, impl_PutOct.f n w = some r ∧ (r.1.toList, r.2) = putB 8 n w := by
  have hn : (⟨#[]⟩ : ByteArray).toList = [] := by rw [tl]
  unfold impl_PutOct.f impl_isField.f putB
  rw [within_eq, within_eq]
  simp only [Option.bind_some]
  by_cases h1 : 0 ≤ n ∧ n ≤ 9007199254740991
  · rw [if_pos (decide_eq_true h1)]
    by_cases h2 : 1 ≤ w ∧ w ≤ 20
    · rw [if_pos (decide_eq_true h2)]
      obtain ⟨t, e, l⟩ := impl_inBase_b 8 (Or.inl rfl) n h1.1 h1.2
      rw [show ((8 : Nat) : Int) = 8 from rfl] at e
      have hs : t.size = (numB 8 n.toNat).length := by rw [← l, tl_length]
      obtain ⟨j, hj⟩ : ∃ j : Nat, w.toNat = j + 1 := ⟨w.toNat - 1, by omega⟩
      obtain ⟨p1, p2⟩ := numB_pad 8 (by decide) j n.toNat
      rw [e]
      simp only [Option.bind_some]
      by_cases c : n.toNat < 8 ^ w.toNat
      · have hle : (t.size : Int) ≤ w := by
          have := (p1 (by rw [← hj]; exact c)).1
          omega
        obtain ⟨r, e2, l2⟩ := impl_zeros_b 8 (by decide) n w h2.1 h2.2 t l c
        rw [if_pos (decide_eq_true hle), e2, if_pos ⟨⟨h1, h2⟩, c⟩]
        exact ⟨_, rfl, by rw [l2]⟩
      · have hle : ¬ (t.size : Int) ≤ w := by
          have := p2 (by rw [← hj]; exact c)
          omega
        rw [if_neg (by simpa using hle), if_neg (fun h => c h.2)]
        exact ⟨_, rfl, by rw [hn]⟩
    · rw [if_neg (by simpa using h2), if_neg (fun h => h2 h.1.2)]
      exact ⟨_, rfl, by rw [hn]⟩
  · rw [if_neg (by simpa using h1), if_neg (fun h => h1 h.1.1)]
    exact ⟨_, rfl, by rw [hn]⟩

theorem lib_join2 (l : List ByteArray) (sep : ByteArray) (hl : l.length ≤ 8388608) (hs : (Lib.join (l.map ByteArray.toList) sep.toList).length ≤ 140737488355328) : ∃ r, strings_Join.f l sep = some r ∧ r.toList = Lib.join (l.map ByteArray.toList) sep.toList := by
  have e : l.map (fun x => x.data.toList) = l.map ByteArray.toList := List.map_congr_left fun x _ => (tl x).symm
  unfold strings_Join.f
  rw [e, ← tl sep, if_pos ⟨by omega, hs⟩]
  exact ⟨_, rfl, tl_mk _⟩

theorem digB_dec (u : Nat) (h : 0 < u) : digB 10 u = Lib.decDigits u := by
  induction u using Nat.strongRecOn with
  | _ u ih =>
    rw [digB_step 10 u (by decide) h, Lib.decDigits, hexD_dec _ (Nat.mod_lt _ (by decide))]
    by_cases c : u < 10
    · rw [dif_pos c, show u / 10 = 0 by omega, digB_zero, Nat.mod_eq_of_lt c]
      rfl
    · rw [dif_neg c, ih (u / 10) (by omega) (by omega)]
theorem numB_dec (n : Int) (h0 : 0 ≤ n) : numB 10 n.toNat = Lib.itoa n := by
  unfold numB Lib.itoa
  rw [if_neg (show ¬ n < 0 by omega)]
  by_cases hz : n.toNat = 0
  · rw [if_pos hz, hz, Lib.decDigits]
    rfl
  · rw [if_neg hz, digB_dec _ (by omega)]

def kindB (a0 : Int) : UInt8 := if a0 = 0 then 102 else if a0 = 1 then 100 else if a0 = 2 then 108 else 104
def orM (l : List UInt8) : List UInt8 := if l = [] then [45] else l
def lineM (a0 : Int) (l1 l2 : List UInt8) (a3 a4 a5 a6 : Int) (l7 l8 : List UInt8) (n9 : Nat) : List UInt8 :=
  Lib.join ([[kindB a0], (putB 8 a3 4).1, Lib.itoa a4, Lib.itoa a5, Lib.itoa a6, orM l7, orM l8, Lib.itoa (n9 : Int), l1] ++ (if l2 = [] then [] else [[45, 62], l2])) [32]
def textM (a0 : Int) (l1 l2 : List UInt8) (a3 a4 a5 a6 : Int) (l7 l8 l9 : List UInt8) : List UInt8 :=
  if entryOkM a0 l1 l2 a3 a4 a5 a6 l7 l8 l9 = true then lineM a0 l1 l2 a3 a4 a5 a6 l7 l8 l9.length else []
theorem kind_of_ok {a0 : Int} {l1 l2 : List UInt8} {a3 a4 a5 a6 : Int} {l7 l8 l9 : List UInt8} (h : entryOkM a0 l1 l2 a3 a4 a5 a6 l7 l8 l9 = true) : a0 = 0 ∨ a0 = 1 ∨ a0 = 2 ∨ a0 = 3 := by
  unfold entryOkM at h
  rw [Bool.and_eq_true] at h
  have h := h.2
  unfold kindOkM at h
  by_cases h0 : a0 = 0
  · exact .inl h0
  by_cases h1 : a0 = 1
  · exact .inr (.inl h1)
  by_cases h2 : a0 = 2
  · exact .inr (.inr (.inl h2))
  by_cases h3 : a0 = 3
  · exact .inr (.inr (.inr h3))
  rw [if_neg h0, if_neg h1, if_neg h2, if_neg h3] at h
  cases h
theorem ids_of_ok {a0 : Int} {l1 l2 : List UInt8} {a3 a4 a5 a6 : Int} {l7 l8 l9 : List UInt8} (h : entryOkM a0 l1 l2 a3 a4 a5 a6 l7 l8 l9 = true) : (0 ≤ a4 ∧ a4 ≤ 4294967295) ∧ (0 ≤ a5 ∧ a5 ≤ 4294967295) ∧ (0 ≤ a6 ∧ a6 ≤ 99999999999) := by
  unfold entryOkM at h
  simp only [Bool.and_eq_true, decide_eq_true_eq] at h
  exact ⟨h.1.2.2.1, h.1.2.2.2.1, h.1.2.2.2.2.1⟩
theorem itoa_le (n : Int) (h0 : 0 ≤ n) (h1 : n ≤ 9223372036854775807) : (Lib.itoa n).length ≤ 21 := by
  rw [← numB_dec n h0]
  have := ((numB_pad 10 (by decide) 19 n.toNat).1 (by
    have : (10 : Nat) ^ (19 + 1) = 100000000000000000000 := by decide
    omega)).1
  omega
theorem putB4_len (n : Int) : (putB 8 n 4).1.length ≤ 4 := by
  by_cases h : (putB 8 n 4).2 = true
  · have := (get_put 8 (by decide) (by decide) n 4 0 20 h (by decide) (by decide)).2
    omega
  · unfold putB at h ⊢
    split
    · rename_i c
      rw [if_pos c] at h
      exact absurd rfl h
    · simp
theorem orM_len (s : ByteArray) : ∃ r, (if s.toList = ([] : List UInt8) then some (⟨#[45]⟩ : ByteArray) else some s) = some r ∧ r.toList = orM s.toList ∧ r.size ≤ s.size + 1 := by
  unfold orM
  by_cases c : s.toList = []
  · rw [if_pos c, if_pos c]
    exact ⟨_, rfl, by rw [tl], by show 1 ≤ _; omega⟩
  · rw [if_neg c, if_neg c]
    exact ⟨_, rfl, rfl, by omega⟩
theorem spec_entryText (k : Nat) (hk : 8500000 < k) (a0 : Int) (a1 a2 : ByteArray) (a3 a4 a5 a6 : Int) (a7 a8 a9 : ByteArray) (h1 : a1.size ≤ 1048576) (h2 : a2.size ≤ 1048576) (h7 : a7.size ≤ 1048576) (h8 : a8.size ≤ 1048576) (h9 : a9.size ≤ 1048576)
    (w4 : (Lit.int .i64 a4).wf = true) (w5 : (Lit.int .i64 a5).wf = true) (w6 : (Lit.int .i64 a6).wf = true) :
    ∃ r, spec_EntryText.f k a0 a1 a2 a3 a4 a5 a6 a7 a8 a9 = some r ∧ r.toList = textM a0 a1.toList a2.toList a3 a4 a5 a6 a7.toList a8.toList a9.toList ∧ r.size ≤ 5000000 := by
  unfold spec_EntryText.f textM
  rw [spec_entryOk k hk a0 a1 a2 a3 a4 a5 a6 a7 a8 a9 h1 h2 h7 h8]
  simp only [Option.bind_some]
  cases hok : entryOkM a0 a1.toList a2.toList a3 a4 a5 a6 a7.toList a8.toList a9.toList with
  | false => exact ⟨⟨#[]⟩, by rw [if_neg (by decide)], by rw [if_neg (by decide), tl], Nat.zero_le _⟩
  | true =>
    have hkd := kind_of_ok hok
    obtain ⟨n4, n5, n6⟩ := ids_of_ok hok
    rw [if_pos rfl, if_pos rfl]
    clear hok
    obtain ⟨m, em, lm⟩ := spec_putOct a3 4 k (by omega)
    obtain ⟨u, eu, lu⟩ := spec_dec a4 (wf_i64 w4).1 (wf_i64 w4).2 k (by omega)
    obtain ⟨g, eg, lg⟩ := spec_dec a5 (wf_i64 w5).1 (wf_i64 w5).2 k (by omega)
    obtain ⟨t, et, lt⟩ := spec_dec a6 (wf_i64 w6).1 (wf_i64 w6).2 k (by omega)
    obtain ⟨b, eb, lb⟩ := spec_dec (a9.size : Int) (by omega) (by omega) k (by omega)
    obtain ⟨us, eus, lus, sus⟩ := orM_len a7
    obtain ⟨gr, egr, lgr, sgr⟩ := orM_len a8
    have sm : m.1.size ≤ 4 := by
      have := putB4_len a3
      rw [← lm] at this
      simpa [tl_length] using this
    have lm1 : m.1.toList = (putB 8 a3 4).1 := by rw [← lm]
    have su : u.size ≤ 21 := by rw [← tl_length, lu]; exact itoa_le a4 (by omega) (by omega)
    have sg : g.size ≤ 21 := by rw [← tl_length, lg]; exact itoa_le a5 (by omega) (by omega)
    have st : t.size ≤ 21 := by rw [← tl_length, lt]; exact itoa_le a6 (by omega) (by omega)
    have sb : b.size ≤ 21 := by rw [← tl_length, lb]; exact itoa_le _ (by omega) (by omega)
    rw [em]
    simp only [Option.bind_some]
    obtain ⟨y, hy, ly, sy⟩ : ∃ y, rdOf ByteArray.empty [(⟨#[102]⟩ : ByteArray), (⟨#[100]⟩ : ByteArray), (⟨#[108]⟩ : ByteArray), (⟨#[104]⟩ : ByteArray)] a0 = y ∧ y.toList = [kindB a0] ∧ y.size = 1 := by
      rcases hkd with rfl | rfl | rfl | rfl <;> exact ⟨_, rfl, by rw [tl]; rfl, rfl⟩
    rw [if_pos (by omega), if_pos (by simp only [List.length_cons, List.length_nil]; omega), hy]
    unfold spec_l03Or.f
    simp only [eu, eg, et, eb, eus, egr, Option.bind_some]
    have hsp : (⟨#[32]⟩ : ByteArray).size = 1 := rfl
    have har : (⟨#[32, 45, 62, 32]⟩ : ByteArray).size = 4 := rfl
    have lsp : (⟨#[32]⟩ : ByteArray).toList = [32] := by rw [tl]
    have lar : (⟨#[32, 45, 62, 32]⟩ : ByteArray).toList = [32, 45, 62, 32] := by rw [tl]
    have l9 : (a9.toList.length : Int) = (a9.size : Int) := by rw [tl_length]
    clear eu eg et eb eus egr lm em w4 w5 w6 hkd
    simp only [ByteArray.size_append, hsp, har]
    repeat rw [if_pos (by omega)]
    unfold lineM
    rw [l9]
    by_cases c : a2.toList = []
    · rw [if_pos c, if_pos c]
      refine ⟨_, rfl, ?_, ?_⟩
      · simp only [tl_append, ly, lm1, lu, lg, lt, lus, lgr, lb, lsp, Lib.join_cons, Lib.joinTail, List.map_cons, List.map_nil, List.flatten_cons, List.flatten_nil, List.append_assoc, List.cons_append, List.nil_append, List.append_nil]
      · simp only [ByteArray.size_append, hsp]
        omega
    · rw [if_neg c, if_neg c]
      repeat rw [if_pos (by omega)]
      refine ⟨_, rfl, ?_, ?_⟩
      · simp only [tl_append, ly, lm1, lu, lg, lt, lus, lgr, lb, lsp, lar, Lib.join_cons, Lib.joinTail, List.map_cons, List.map_nil, List.flatten_cons, List.flatten_nil, List.append_assoc, List.cons_append, List.nil_append, List.append_nil]
      · simp only [ByteArray.size_append, hsp, har]
        omega
theorem impl_entryText (k : Nat) (hk : 8500000 < k) (a0 : Int) (a1 a2 : ByteArray) (a3 a4 a5 a6 : Int) (a7 a8 a9 : ByteArray) (h1 : a1.size ≤ 1048576) (h2 : a2.size ≤ 1048576) (h7 : a7.size ≤ 1048576) (h8 : a8.size ≤ 1048576) (h9 : a9.size ≤ 1048576)
    (w4 : (Lit.int .i64 a4).wf = true) (w5 : (Lit.int .i64 a5).wf = true) (w6 : (Lit.int .i64 a6).wf = true) :
    ∃ r, impl_EntryText.f k a0 a1 a2 a3 a4 a5 a6 a7 a8 a9 = some r ∧ r.toList = textM a0 a1.toList a2.toList a3 a4 a5 a6 a7.toList a8.toList a9.toList := by
  unfold impl_EntryText.f textM
  rw [impl_entryOk k hk a0 a1 a2 a3 a4 a5 a6 a7 a8 a9 h1 h2 h7 h8]
  simp only [Option.bind_some]
  cases hok : entryOkM a0 a1.toList a2.toList a3 a4 a5 a6 a7.toList a8.toList a9.toList with
  | false => exact ⟨⟨#[]⟩, by rw [if_neg (by decide)], by rw [if_neg (by decide), tl]⟩
  | true =>
    have hkd := kind_of_ok hok
    obtain ⟨n4, n5, n6⟩ := ids_of_ok hok
    rw [if_pos rfl, if_pos rfl]
    clear hok
    obtain ⟨m, em, lm⟩ := impl_putOct a3 4
    obtain ⟨u, eu, lu⟩ := impl_dec a4 (wf_i64 w4).1 (wf_i64 w4).2
    obtain ⟨g, eg, lg⟩ := impl_dec a5 (wf_i64 w5).1 (wf_i64 w5).2
    obtain ⟨t, et, lt⟩ := impl_dec a6 (wf_i64 w6).1 (wf_i64 w6).2
    obtain ⟨b, eb, lb⟩ := impl_dec (a9.size : Int) (by omega) (by omega)
    obtain ⟨us, eus, lus, sus⟩ := orM_len a7
    obtain ⟨gr, egr, lgr, sgr⟩ := orM_len a8
    have sm : m.1.size ≤ 4 := by
      have := putB4_len a3
      rw [← lm] at this
      simpa [tl_length] using this
    have lm1 : m.1.toList = (putB 8 a3 4).1 := by rw [← lm]
    have su : u.size ≤ 21 := by rw [← tl_length, lu]; exact itoa_le a4 (by omega) (by omega)
    have sg : g.size ≤ 21 := by rw [← tl_length, lg]; exact itoa_le a5 (by omega) (by omega)
    have st : t.size ≤ 21 := by rw [← tl_length, lt]; exact itoa_le a6 (by omega) (by omega)
    have sb : b.size ≤ 21 := by rw [← tl_length, lb]; exact itoa_le _ (by omega) (by omega)
    rw [em]
    simp only [Option.bind_some]
    rw [w64 (n := a0 + 1) (by omega) (by omega), if_pos (by omega), if_pos (by omega), if_pos (by omega)]
    obtain ⟨y, hy, ly, sy⟩ : ∃ y, (⟨#[102, 100, 108, 104]⟩ : ByteArray).extract a0.toNat (a0 + 1).toNat = y ∧ y.toList = [kindB a0] ∧ y.size = 1 := by
      rcases hkd with rfl | rfl | rfl | rfl <;> exact ⟨_, rfl, by rw [tl]; rfl, rfl⟩
    rw [hy]
    unfold impl_orDash.f
    simp only [eu, eg, et, eb, eus, egr, Option.bind_some]
    have lsp : (⟨#[32]⟩ : ByteArray).toList = [32] := by rw [tl]
    have lar : (⟨#[45, 62]⟩ : ByteArray).toList = [45, 62] := by rw [tl]
    have l9 : (a9.toList.length : Int) = (a9.size : Int) := by rw [tl_length]
    clear eu eg et eb eus egr lm em w4 w5 w6 hkd hy
    have z := fun s : ByteArray => tl_length s
    unfold lineM
    rw [l9]
    by_cases c : a2.toList = []
    · rw [if_pos c, if_pos c]
      obtain ⟨r, er, lr⟩ := lib_join2 [y, m.1, u, g, t, us, gr, b, a1] (⟨#[32]⟩ : ByteArray) (by simp only [List.length_cons, List.length_nil]; omega) (by
        simp only [List.map_cons, List.map_nil, Lib.join_length, Lib.lens, List.sum_cons, List.sum_nil, lsp, List.length_cons, List.length_nil, z]
        omega)
      rw [er]
      refine ⟨r, rfl, ?_⟩
      rw [lr, lsp]
      simp only [List.map_cons, List.map_nil, ly, lm1, lu, lg, lt, lus, lgr, lb, List.append_nil]
    · rw [if_neg c, if_neg c, if_pos (by simp only [List.length_cons, List.length_nil]; omega)]
      obtain ⟨r, er, lr⟩ := lib_join2 ([y, m.1, u, g, t, us, gr, b, a1] ++ [(⟨#[45, 62]⟩ : ByteArray), a2]) (⟨#[32]⟩ : ByteArray) (by simp only [List.length_append, List.length_cons, List.length_nil]; omega) (by
        simp only [List.cons_append, List.nil_append, List.map_cons, List.map_nil, Lib.join_length, Lib.lens, List.sum_cons, List.sum_nil, lsp, lar, List.length_cons, List.length_nil, z]
        omega)
      rw [er]
      refine ⟨r, rfl, ?_⟩
      rw [lr, lsp]
      simp only [List.cons_append, List.nil_append, List.map_cons, List.map_nil, ly, lm1, lu, lg, lt, lus, lgr, lb, lar]

def Fit5 (x : S36) : Prop := x.f1.size ≤ 1048576 ∧ x.f2.size ≤ 1048576 ∧ x.f7.size ≤ 1048576 ∧ x.f8.size ≤ 1048576 ∧ x.f9.size ≤ 1048576 ∧ (Lit.int .i64 x.f4).wf = true ∧ (Lit.int .i64 x.f5).wf = true ∧ (Lit.int .i64 x.f6).wf = true
def textE (x : S36) : List UInt8 := textM x.f0 x.f1.toList x.f2.toList x.f3 x.f4 x.f5 x.f6 x.f7.toList x.f8.toList x.f9.toList
def textL : List S36 → List UInt8
  | [] => []
  | x :: l => textE x ++ 10 :: textL l
theorem spec_text (k : Nat) (hk : 8500000 < k) (x : S36) (h : Fit5 x) : ∃ r, spec_EntryText.f k x.f0 x.f1 x.f2 x.f3 x.f4 x.f5 x.f6 x.f7 x.f8 x.f9 = some r ∧ r.toList = textE x ∧ r.size ≤ 5000000 := by
  obtain ⟨h1, h2, h7, h8, h9, w4, w5, w6⟩ := h
  exact spec_entryText k hk x.f0 x.f1 x.f2 x.f3 x.f4 x.f5 x.f6 x.f7 x.f8 x.f9 h1 h2 h7 h8 h9 w4 w5 w6
theorem impl_text (k : Nat) (hk : 8500000 < k) (x : S36) (h : Fit5 x) : ∃ r, impl_EntryText.f k x.f0 x.f1 x.f2 x.f3 x.f4 x.f5 x.f6 x.f7 x.f8 x.f9 = some r ∧ r.toList = textE x ∧ r.size ≤ 5000000 := by
  obtain ⟨r1, e1, l1, s1⟩ := spec_text k hk x h
  obtain ⟨h1, h2, h7, h8, h9, w4, w5, w6⟩ := h
  obtain ⟨r2, e2, l2⟩ := impl_entryText k hk x.f0 x.f1 x.f2 x.f3 x.f4 x.f5 x.f6 x.f7 x.f8 x.f9 h1 h2 h7 h8 h9 w4 w5 w6
  exact ⟨r2, e2, l2, by (have h_ := l2.trans l1.symm; rw [← tl_length, h_, tl_length]; exact s1)⟩
theorem spec_listText_loop (l : List S36) (hl : l.length ≤ 1048576) (hf : ∀ x ∈ l, Fit5 x) : ∀ (rest done : List S36) (k : Nat) (out : ByteArray), l = done ++ rest → out.size ≤ 5000001 * done.length → rest.length + 8500000 < k →
    ∃ r, spec_ListText.l0 k l out (done.length : Int) = some r ∧ r.toList = out.toList ++ textL rest
  | [], done, k, out, hd, ho, hk => by
    obtain ⟨k, rfl⟩ : ∃ m, k = m + 1 := ⟨k - 1, by omega⟩
    have hz := congrArg List.length hd
    simp only [List.append_nil] at hz
    unfold spec_ListText.l0
    rw [if_neg (by omega)]
    exact ⟨out, rfl, by simp [textL]⟩
  | x :: rest, done, k, out, hd, ho, hk => by
    simp only [List.length_cons] at hk
    obtain ⟨k, rfl⟩ : ∃ m, k = m + 1 := ⟨k - 1, by omega⟩
    have hz := congrArg List.length hd
    simp only [List.length_append, List.length_cons] at hz
    have hx : rd_T36 l (done.length : Int) = x := by
      rw [rdI_get l done.length (by omega)]
      simp [hd]
    obtain ⟨t, et, lt, st⟩ := spec_text k (by omega) x (hf x (by rw [hd]; simp))
    have hsn : (⟨#[10]⟩ : ByteArray).size = 1 := rfl
    obtain ⟨r, er, lr⟩ := spec_listText_loop l hl hf rest (done ++ [x]) k ((out ++ t) ++ (⟨#[10]⟩ : ByteArray)) (by rw [hd]; simp) (by simp only [ByteArray.size_append, hsn, List.length_append, List.length_singleton]; omega) (by omega)
    rw [List.length_append, List.length_singleton, show ((done.length + 1 : Nat) : Int) = (done.length : Int) + 1 by omega] at er
    unfold spec_ListText.l0
    rw [if_pos (by omega), if_pos (by omega), hx, et]
    simp only [Option.bind_some]
    rw [if_pos (by omega), if_pos (by rw [ByteArray.size_append]; omega), w64 (by omega) (by omega), er]
    refine ⟨r, rfl, ?_⟩
    rw [lr, tl_append, tl_append, lt, show (⟨#[10]⟩ : ByteArray).toList = [10] by rw [tl]]
    simp [textL]
theorem impl_listText_loop (k : Nat) (hk : 8500000 < k) : ∀ (l : List S36) (acc : List UInt8) (n : Nat), (∀ x ∈ l, Fit5 x) → acc.length ≤ 5000001 * n → n + l.length ≤ 1048576 → listTextI k l acc = some (acc ++ textL l)
  | [], acc, n, _, _, _ => by simp [listTextI, textL]
  | x :: l, acc, n, hf, ha, hn => by
    simp only [List.length_cons] at hn
    obtain ⟨t, et, lt, st⟩ := impl_text k hk x (hf x (List.mem_cons_self ..))
    have ht : t.data.toList = textE x := by rw [← tl, lt]
    have hs : (textE x).length ≤ 5000000 := by rw [← lt, tl_length]; exact st
    unfold listTextI
    rw [et]
    simp only [Option.bind_some]
    rw [if_pos (by omega), ht, impl_listText_loop k hk l (acc ++ textE x ++ [10]) (n + 1) (fun y hy => hf y (List.mem_cons_of_mem _ hy)) (by simp only [List.length_append, List.length_singleton]; omega) (by omega)]
    simp [textL]
theorem listText_same (l : List S36) (hl : l.length ≤ 1048576) (hf : ∀ x ∈ l, Fit5 x) (k : Nat) (hk : 9600000 < k) : ∃ r r', spec_ListText.f k l = some r ∧ impl_ListText.f k l = some r' ∧ r'.toList = r.toList := by
  obtain ⟨r, er, lr⟩ := spec_listText_loop l hl hf l [] k (⟨#[]⟩ : ByteArray) rfl (Nat.zero_le _) (by omega)
  unfold spec_ListText.f impl_ListText.f
  rw [impl_listText_loop k (by omega) l [] 0 hf (Nat.zero_le _) (by omega)]
  refine ⟨r, _, er, rfl, ?_⟩
  rw [lr, tl_mk, show (⟨#[]⟩ : ByteArray).toList = [] by rw [tl]]

theorem sizeL_mem2 (l : List S33) : ∀ x ∈ l, sizeE x ≤ sizeL l := by
  induction l with
  | nil => intro x hx; cases hx
  | cons y l ih =>
    intro x hx
    simp only [sizeL]
    rcases List.mem_cons.1 hx with rfl | h
    · omega
    · have := ih x h; omega
theorem FnExactListText : ∀ (l0 : List S33), l0.length ≤ 9223372036854775807 → (∀ x ∈ l0, Ok33 x) → ∃ k, laws_FnExactListText.f k l0 = some true := by
  intro l hl ol
  refine ⟨9600001, ?_⟩
  unfold laws_FnExactListText.f
  obtain ⟨r, hr, h⟩ := szS l (ok_sz ol) hl 1048576 (by omega) (by omega) 9600001 (by omega)
  rw [hr]
  simp only [Option.bind_some]
  rcases h with h | ⟨h0, h1⟩
  · rw [if_pos h]
  · have hm : (l.map conv).length = l.length := List.length_map _
    have hf : ∀ x ∈ l.map conv, Fit5 x := by
      intro x hx
      obtain ⟨y, hy, rfl⟩ := List.mem_map.1 hx
      have h2 := sizeL_mem2 l y hy
      unfold sizeE at h2
      obtain ⟨_, _, _, _, w4, w5, w6, _, _, _⟩ := ol y hy
      refine ⟨?_, ?_, ?_, ?_, ?_, w4, w5, w6⟩ <;> simp only [conv] <;> omega
    rw [if_neg (by omega), toS l (by omega) _ (by omega)]
    simp only [Option.bind_some]
    obtain ⟨q, q', e1, e2, lq⟩ := listText_same (l.map conv) (by omega) hf 9600001 (by omega)
    rw [e1, e2]
    simp only [Option.bind_some]
    rw [if_pos lq, eqS_same _ (by omega) _ (by omega)]
    rfl

end Go.Proofs.YtgmggpgcfonmgaaDoor.Pure
