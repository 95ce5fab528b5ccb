/-
The pure statement of the law FnExactSameList (numbers, byte strings and lists; no Go and no memory): the printed law's function answers true. Conditions: those of the printed statement (each string at most 2^47 - 4096 bytes, each number of its kind).
-/
import Derived.Test.YtlaoljbanflcgaaPFnExactSameListx4
import Derived.Test.YtlaoljbanflcgaaCore
namespace Go.Proofs.Ytlaoljbanflcgaa.Pure
open Go.RowKit Go.Proofs.Ytlaoljbanflcgaa.PFnExactSameList Go.Proofs.YtlaoljbanflcgaaW.PrintWords Go.Proofs.YtlaoljbanflcgaaW.PrintLast Go.Proofs.Ytlaoljbanflcgaa.Core
set_option linter.unusedVariables false
set_option linter.unusedSimpArgs false

theorem sz_plain (a0 : Int) (a1 a2 : ByteArray) (a3 a4 a5 a6 : Int) (a7 a8 a9 : ByteArray) (h : a1.size ≤ 9223372036854775807 ∧ a2.size ≤ 9223372036854775807 ∧ a7.size ≤ 9223372036854775807 ∧ a8.size ≤ 9223372036854775807 ∧ a9.size ≤ 9223372036854775807) (left : Int) (h0 : 0 ≤ left) (h1 : left ≤ 1048576) : ∃ r, laws_szEntry.f a0 a1 a2 a3 a4 a5 a6 a7 a8 a9 left = some r ∧ (r < 0 ∨ (0 ≤ r ∧ ((a1.size + a2.size + a7.size + a8.size + a9.size : Nat) : Int) = left - r)) := by
  obtain ⟨b1, b2, b7, b8, b9⟩ := h
  unfold laws_szEntry.f
  rw [w64 (n := left - (a1.size : Int)) (by omega) (by omega)]
  by_cases c1 : left - (a1.size : Int) < 0
  · rw [if_pos c1]; exact ⟨_, rfl, .inl (by omega)⟩
  rw [if_neg c1, w64 (n := left - (a1.size : Int) - (a2.size : Int)) (by omega) (by omega)]
  by_cases c2 : left - (a1.size : Int) - (a2.size : Int) < 0
  · rw [if_pos c2]; exact ⟨_, rfl, .inl (by omega)⟩
  rw [if_neg c2, w64 (n := left - (a1.size : Int) - (a2.size : Int) - (a7.size : Int)) (by omega) (by omega)]
  by_cases c3 : left - (a1.size : Int) - (a2.size : Int) - (a7.size : Int) < 0
  · rw [if_pos c3]; exact ⟨_, rfl, .inl (by omega)⟩
  rw [if_neg c3, w64 (n := left - (a1.size : Int) - (a2.size : Int) - (a7.size : Int) - (a8.size : Int)) (by omega) (by omega)]
  by_cases c4 : left - (a1.size : Int) - (a2.size : Int) - (a7.size : Int) - (a8.size : Int) < 0
  · rw [if_pos c4]; exact ⟨_, rfl, .inl (by omega)⟩
  rw [if_neg c4, w64 (n := left - (a1.size : Int) - (a2.size : Int) - (a7.size : Int) - (a8.size : Int) - (a9.size : Int)) (by omega) (by omega)]
  by_cases c5 : left - (a1.size : Int) - (a2.size : Int) - (a7.size : Int) - (a8.size : Int) - (a9.size : Int) < 0
  · rw [if_pos c5]; exact ⟨_, rfl, .inl (by omega)⟩
  rw [if_neg c5]
  exact ⟨_, rfl, .inr ⟨by omega, by omega⟩⟩

/-- An entry of the laws' as one of the program's. -/
def conv (x : S47) : S48 := ⟨x.f0, x.f1, x.f2, x.f3, x.f4, x.f5, x.f6, x.f7, x.f8, x.f9⟩
theorem conv_eq (x : S47) : laws_toEntry.f x.f0 x.f1 x.f2 x.f3 x.f4 x.f5 x.f6 x.f7 x.f8 x.f9 = some (x.f0, x.f1, x.f2, x.f3, x.f4, x.f5, x.f6, x.f7, x.f8, x.f9) := rfl
/-- What an entry's texts take. -/
def sizeE (x : S47) : Nat := x.f1.size + x.f2.size + x.f7.size + x.f8.size + x.f9.size
def Sz (x : S47) : Prop := x.f1.size ≤ 9223372036854775807 ∧ x.f2.size ≤ 9223372036854775807 ∧ x.f7.size ≤ 9223372036854775807 ∧ x.f8.size ≤ 9223372036854775807 ∧ x.f9.size ≤ 9223372036854775807
theorem sz_entry (x : S47) (h : Sz x) (left : Int) (h0 : 0 ≤ left) (h1 : left ≤ 1048576) : ∃ r, laws_szEntry.f x.f0 x.f1 x.f2 x.f3 x.f4 x.f5 x.f6 x.f7 x.f8 x.f9 left = some r ∧ (r < 0 ∨ (0 ≤ r ∧ (sizeE x : Int) = left - r)) :=
  sz_plain x.f0 x.f1 x.f2 x.f3 x.f4 x.f5 x.f6 x.f7 x.f8 x.f9 h left h0 h1

theorem rdL_drop (l : List S47) (i : Nat) (h : i < l.length) : l.drop i = rd_T47 l (i : Int) :: l.drop (i + 1) := by
  rw [List.drop_eq_getElem_cons h]
  unfold rd_T47
  rw [Int.toNat_natCast, List.getD_eq_getElem?_getD, List.getElem?_eq_getElem h]
  rfl
theorem rdI_drop (l : List S48) (i : Nat) (h : i < l.length) : l.drop i = rd_T48 l (i : Int) :: l.drop (i + 1) := by
  rw [List.drop_eq_getElem_cons h]
  unfold rd_T48
  rw [Int.toNat_natCast, List.getD_eq_getElem?_getD, List.getElem?_eq_getElem h]
  rfl
theorem rdL_get (l : List S47) (i : Nat) (h : i < l.length) : rd_T47 l (i : Int) = l[i] := by
  unfold rd_T47
  rw [Int.toNat_natCast, List.getD_eq_getElem?_getD, List.getElem?_eq_getElem h]
  rfl
theorem rdI_get (l : List S48) (i : Nat) (h : i < l.length) : rd_T48 l (i : Int) = l[i] := by
  unfold rd_T48
  rw [Int.toNat_natCast, List.getD_eq_getElem?_getD, List.getElem?_eq_getElem h]
  rfl
def sizeL : List S47 → Nat
  | [] => 0
  | x :: l => sizeE x + sizeL l
theorem szS_loop (l : List S47) (hl : l.length ≤ 1048576) (hs : ∀ x ∈ l, Sz x) : ∀ (d k i : Nat) (left : Int), l.length - i = d → i ≤ l.length → d < k → 0 ≤ left → left ≤ 1048576 →
    ∃ r, laws_szEntryS.l0 k l left (i : Int) = some r ∧ (r < 0 ∨ (0 ≤ r ∧ (sizeL (l.drop i) : Int) = left - r)) := by
  intro d
  induction d with
  | zero =>
    intro k i left hd hi hk h0 h1
    obtain ⟨k, rfl⟩ : ∃ m, k = m + 1 := ⟨k - 1, by omega⟩
    simp only [laws_szEntryS.l0]
    rw [if_neg (by omega), List.drop_eq_nil_of_le (by omega)]
    exact ⟨_, rfl, .inr ⟨h0, by simp [sizeL]⟩⟩
  | succ d ih =>
    intro k i left hd hi hk h0 h1
    obtain ⟨k, rfl⟩ : ∃ m, k = m + 1 := ⟨k - 1, by omega⟩
    simp only [laws_szEntryS.l0]
    rw [if_pos (by omega), if_pos (by omega)]
    have hm : rd_T47 l (i : Int) ∈ l := by rw [rdL_get l i (by omega)]; exact List.getElem_mem _
    obtain ⟨r, hr, h⟩ := sz_entry (rd_T47 l (i : Int)) (hs _ hm) left h0 h1
    rw [hr]
    simp only [Option.bind_some]
    rcases h with h | ⟨h2, h3⟩
    · rw [if_pos h]; exact ⟨_, rfl, .inl (by omega)⟩
    · rw [if_neg (by omega), w64 (by omega) (by omega)]
      obtain ⟨q, hq, h4⟩ := ih k (i + 1) r (by omega) (by omega) (by omega) h2 (by omega)
      refine ⟨q, hq, ?_⟩
      rw [rdL_drop l i (by omega), sizeL]
      rcases h4 with h4 | ⟨h4, h5⟩
      · exact .inl h4
      · exact .inr ⟨h4, by omega⟩
theorem szS (l : List S47) (hs : ∀ x ∈ l, Sz x) (hl : l.length ≤ 9223372036854775807) (left : Int) (h0 : 0 ≤ left) (h1 : left ≤ 1048576) (k : Nat) (hk : 1048576 < k) :
    ∃ r, laws_szEntryS.f k l left = some r ∧ (r < 0 ∨ (0 ≤ r ∧ ((l.length + sizeL l : Nat) : Int) = left - r)) := by
  unfold laws_szEntryS.f
  rw [w64 (n := left - (l.length : Int)) (by omega) (by omega)]
  by_cases c : left - (l.length : Int) < 0
  · rw [if_pos c]; exact ⟨_, rfl, .inl (by omega)⟩
  · rw [if_neg c]
    obtain ⟨r, hr, h⟩ := szS_loop l (by omega) hs l.length k 0 (left - (l.length : Int)) (by omega) (by omega) (by omega) (by omega) (by omega)
    refine ⟨r, hr, ?_⟩
    rw [List.drop_zero] at h
    rcases h with h | ⟨h2, h3⟩
    · exact .inl h
    · exact .inr ⟨h2, by omega⟩
theorem toS_loop (l : List S47) (hl : l.length ≤ 1048576) : ∀ (d k i : Nat) (xs : List S48), l.length - i = d → i ≤ l.length → d < k → xs.length = l.length →
    laws_toEntryS.l0 k l xs (i : Int) = some (xs.take i ++ (l.drop i).map conv) := by
  intro d
  induction d with
  | zero =>
    intro k i xs hd hi hk hx
    obtain ⟨k, rfl⟩ : ∃ m, k = m + 1 := ⟨k - 1, by omega⟩
    simp only [laws_toEntryS.l0]
    rw [if_neg (by omega), List.drop_eq_nil_of_le (by omega), List.take_of_length_le (by omega)]
    simp
  | succ d ih =>
    intro k i xs hd hi hk hx
    obtain ⟨k, rfl⟩ : ∃ m, k = m + 1 := ⟨k - 1, by omega⟩
    simp only [laws_toEntryS.l0]
    rw [if_pos (by omega), if_pos (by omega), conv_eq]
    simp only [Option.bind_some]
    have e : wrap64 ((i : Int) + 1) = ((i + 1 : Nat) : Int) := by rw [w64 (by omega) (by omega)]; omega
    rw [if_pos (by omega), e, Int.toNat_natCast, ih k (i + 1) _ (by omega) (by omega) (by omega) (by rw [List.length_set]; exact hx), rdL_drop l i (by omega), List.map_cons]
    rw [List.take_succ_eq_append_getElem (by rw [List.length_set]; omega), List.getElem_set_self, List.take_set_of_le (Nat.le_refl _), List.append_assoc]
    rfl
theorem toS (l : List S47) (hl : l.length ≤ 1048576) (k : Nat) (hk : 1048576 < k) : laws_toEntryS.f k l = some (l.map conv) := by
  unfold laws_toEntryS.f
  rw [if_pos (by omega), Int.toNat_natCast, if_pos (by omega)]
  have := toS_loop l hl l.length k 0 (List.replicate l.length z48) (by omega) (by omega) (by omega) (List.length_replicate ..)
  rw [show ((0 : Nat) : Int) = 0 from rfl] at this
  rw [this]
  simp

def Ok47 (x : S47) : Prop := (Lit.int .i64 x.f0).wf = true ∧ x.f1.size ≤ 9223372036854775807 ∧ x.f2.size ≤ 9223372036854775807 ∧ (Lit.int .i64 x.f3).wf = true ∧ (Lit.int .i64 x.f4).wf = true ∧ (Lit.int .i64 x.f5).wf = true ∧ (Lit.int .i64 x.f6).wf = true ∧ x.f7.size ≤ 9223372036854775807 ∧ x.f8.size ≤ 9223372036854775807 ∧ x.f9.size ≤ 9223372036854775807
theorem ok_sz {l : List S47} (h : ∀ x ∈ l, Ok47 x) : ∀ x ∈ l, Sz x := fun x hx => by
  obtain ⟨_, h1, h2, _, _, _, _, h7, h8, h9⟩ := h x hx
  exact ⟨h1, h2, h7, h8, h9⟩

theorem tl_iff (s t : ByteArray) : s.toList = t.toList ↔ s = t := ⟨tl_inj, fun h => by rw [h]⟩
theorem eqE (a b : S48) : ∃ c : Bool, laws_eqEntry.f a.f0 a.f1 a.f2 a.f3 a.f4 a.f5 a.f6 a.f7 a.f8 a.f9 b.f0 b.f1 b.f2 b.f3 b.f4 b.f5 b.f6 b.f7 b.f8 b.f9 = some c ∧ (c = true ↔ a = b) := by
  obtain ⟨a0, a1, a2, a3, a4, a5, a6, a7, a8, a9⟩ := a
  obtain ⟨b0, b1, b2, b3, b4, b5, b6, b7, b8, b9⟩ := b
  unfold laws_eqEntry.f
  simp only [tl_iff, S48.mk.injEq]
  repeat' split
  all_goals first | exact ⟨true, rfl, by simp [*]⟩ | exact ⟨false, rfl, by simp [*]⟩
theorem eqS_loop (a b : List S48) (ha : a.length ≤ 9223372036854775806) (hab : a.length = b.length) : ∀ (d k i : Nat), a.length - i = d → i ≤ a.length → d < k → ∃ c : Bool, laws_eqEntryS.l0 k a b (i : Int) = some c ∧ (c = true ↔ a.drop i = b.drop i) := by
  intro d
  induction d with
  | zero =>
    intro k i hd hi hk
    obtain ⟨k, rfl⟩ : ∃ m, k = m + 1 := ⟨k - 1, by omega⟩
    simp only [laws_eqEntryS.l0]
    rw [if_neg (by omega), List.drop_eq_nil_of_le (by omega), List.drop_eq_nil_of_le (by omega)]
    exact ⟨true, rfl, by simp⟩
  | succ d ih =>
    intro k i hd hi hk
    obtain ⟨k, rfl⟩ : ∃ m, k = m + 1 := ⟨k - 1, by omega⟩
    simp only [laws_eqEntryS.l0]
    obtain ⟨c, hc, h⟩ := eqE (rd_T48 a (i : Int)) (rd_T48 b (i : Int))
    rw [if_pos (by omega), if_pos (by omega), if_pos (by omega), hc, rdI_drop a i (by omega), rdI_drop b i (by omega)]
    simp only [Option.bind_some, List.cons.injEq, ← h]
    have e : wrap64 ((i : Int) + 1) = ((i + 1 : Nat) : Int) := by rw [w64 (by omega) (by omega)]; omega
    cases c with
    | false => exact ⟨false, by rw [if_neg (by decide)], by simp⟩
    | true =>
      obtain ⟨q, hq, h2⟩ := ih k (i + 1) (by omega) (by omega) (by omega)
      exact ⟨q, by rw [if_pos rfl, e]; exact hq, by simp [h2]⟩
theorem eqS (a b : List S48) (ha : a.length ≤ 9223372036854775806) (k : Nat) (hk : a.length < k) : ∃ c : Bool, laws_eqEntryS.f k a b = some c ∧ (c = true ↔ a = b) := by
  unfold laws_eqEntryS.f
  by_cases h : (a.length : Int) = (b.length : Int)
  · obtain ⟨c, hc, h2⟩ := eqS_loop a b ha (by omega) a.length k 0 (by omega) (by omega) hk
    rw [if_pos h]
    exact ⟨c, hc, by simpa using h2⟩
  · rw [if_neg h]
    exact ⟨false, rfl, by simp; intro e; rw [e] at h; exact h rfl⟩
theorem eqS_same (a : List S48) (ha : a.length ≤ 9223372036854775806) (k : Nat) (hk : a.length < k) : laws_eqEntryS.f k a a = some true := by
  obtain ⟨c, hc, h⟩ := eqS a a ha k hk
  rw [hc, h.2 rfl]

theorem same_loop (a b : List S48) (ha : a.length ≤ 1048576) (hab : a.length = b.length) : ∀ (d k i : Nat), i + d = a.length → d < k → ∃ c : Bool, spec_SameList.l0 k a b (i : Int) = some c ∧ impl_Entry.l0 k a b (a.length : Int) (i : Int) = some c := by
  intro d
  induction d with
  | zero =>
    intro k i hi hk
    obtain ⟨k, rfl⟩ : ∃ m, k = m + 1 := ⟨k - 1, by omega⟩
    unfold spec_SameList.l0 impl_Entry.l0
    rw [if_neg (by omega), if_neg (by omega)]
    exact ⟨_, rfl, rfl⟩
  | succ d ih =>
    intro k i hi hk
    obtain ⟨k, rfl⟩ : ∃ m, k = m + 1 := ⟨k - 1, by omega⟩
    obtain ⟨c, e1, e2⟩ := ih k (i + 1) (by omega) (by omega)
    rw [show ((i + 1 : Nat) : Int) = (i : Int) + 1 by omega] at e1 e2
    have h1 : (i : Int) < (a.length : Int) := by omega
    have h2 : 0 ≤ (i : Int) := by omega
    have h3 : (i : Int) < (b.length : Int) := by omega
    unfold spec_SameList.l0 impl_Entry.l0
    simp only [h1, h2, h3, if_true]
    rw [w64 (by omega) (by omega), e1, e2]
    split
    · exact ⟨_, rfl, rfl⟩
    · exact ⟨_, rfl, rfl⟩
theorem same_list (a b : List S48) (ha : a.length ≤ 1048576) (k : Nat) (hk : a.length < k) : ∃ c : Bool, spec_SameList.f k a b = some c ∧ impl_SameList.f k a b = some c := by
  unfold spec_SameList.f impl_SameList.f impl_Entry.f
  by_cases h : (a.length : Int) = (b.length : Int)
  · obtain ⟨c, e1, e2⟩ := same_loop a b ha (by omega) a.length k 0 (by omega) hk
    rw [show ((0 : Nat) : Int) = 0 from rfl] at e1 e2
    rw [if_pos h, if_pos h, e1, e2]
    exact ⟨c, rfl, rfl⟩
  · rw [if_neg h, if_neg h]
    exact ⟨_, rfl, rfl⟩

theorem FnExactSameList : ∀ (l0 : List S47) (l1 : List S47), l0.length ≤ 9223372036854775807 → (∀ x ∈ l0, Ok47 x) → l1.length ≤ 9223372036854775807 → (∀ x ∈ l1, Ok47 x) → ∃ k, laws_FnExactSameList.f k l0 l1 = some true := by
  intro a b ha oa hb ob
  refine ⟨1048577, ?_⟩
  unfold laws_FnExactSameList.f
  obtain ⟨r, hr, h⟩ := szS a (ok_sz oa) ha 1048576 (by omega) (by omega) 1048577 (by omega)
  rw [hr]
  simp only [Option.bind_some]
  rcases h with h | ⟨h0, h1⟩
  · rw [if_pos h]
  · rw [if_neg (by omega)]
    obtain ⟨q, hq, h2⟩ := szS b (ok_sz ob) hb r h0 (by omega) 1048577 (by omega)
    rw [hq]
    simp only [Option.bind_some]
    rcases h2 with h2 | ⟨h2, h3⟩
    · rw [if_pos h2]
    · rw [if_neg (by omega), toS a (by omega) _ (by omega)]
      simp only [Option.bind_some]
      rw [toS b (by omega) _ (by omega)]
      simp only [Option.bind_some]
      obtain ⟨c, e1, e2⟩ := same_list (a.map conv) (b.map conv) (by rw [List.length_map]; omega) 1048577 (by rw [List.length_map]; omega)
      rw [e1, e2]
      simp only [Option.bind_some, bne_self_eq_false, Bool.false_eq_true, if_false]
      rw [eqS_same _ (by rw [List.length_map]; omega) _ (by rw [List.length_map]; omega), eqS_same _ (by rw [List.length_map]; omega) _ (by rw [List.length_map]; omega)]
      rfl

end Go.Proofs.Ytlaoljbanflcgaa.Pure
