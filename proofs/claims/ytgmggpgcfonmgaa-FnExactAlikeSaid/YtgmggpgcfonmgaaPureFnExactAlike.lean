/-
The pure statement of the law FnExactAlike (numbers, byte strings and lists; no Go and no memory): the printed law's function answers true. Conditions: those of the printed statement (each string at most 2^47 - 4096 bytes, each number of its kind).
-/
import Derived.Test.YtgmggpgcfonmgaaPFnExactAlikex5
import Derived.Test.YtgmggpgcfonmgaaCore
namespace Go.Proofs.Ytgmggpgcfonmgaa.Pure
open Go.RowKit Go.Proofs.Ytgmggpgcfonmgaa.PFnExactAlike Go.Proofs.YtgmggpgcfonmgaaW.PrintWords Go.Proofs.YtgmggpgcfonmgaaW.PrintLast Go.Proofs.Ytgmggpgcfonmgaa.Core
set_option linter.unusedVariables false
set_option linter.unusedSimpArgs false

theorem sz_plain (a0 : Int) (a1 a2 : ByteArray) (a3 a4 a5 a6 : Int) (a7 a8 a9 : ByteArray) (h : a1.size ≤ 9223372036854775807 ∧ a2.size ≤ 9223372036854775807 ∧ a7.size ≤ 9223372036854775807 ∧ a8.size ≤ 9223372036854775807 ∧ a9.size ≤ 9223372036854775807) (left : Int) (h0 : 0 ≤ left) (h1 : left ≤ 1048576) : ∃ r, laws_szEntry.f a0 a1 a2 a3 a4 a5 a6 a7 a8 a9 left = some r ∧ (r < 0 ∨ (0 ≤ r ∧ ((a1.size + a2.size + a7.size + a8.size + a9.size : Nat) : Int) = left - r)) := by
  obtain ⟨b1, b2, b7, b8, b9⟩ := h
  unfold laws_szEntry.f
  rw [w64 (n := left - (a1.size : Int)) (by omega) (by omega)]
  by_cases c1 : left - (a1.size : Int) < 0
  · rw [if_pos c1]; exact ⟨_, rfl, .inl (by omega)⟩
  rw [if_neg c1, w64 (n := left - (a1.size : Int) - (a2.size : Int)) (by omega) (by omega)]
  by_cases c2 : left - (a1.size : Int) - (a2.size : Int) < 0
  · rw [if_pos c2]; exact ⟨_, rfl, .inl (by omega)⟩
  rw [if_neg c2, w64 (n := left - (a1.size : Int) - (a2.size : Int) - (a7.size : Int)) (by omega) (by omega)]
  by_cases c3 : left - (a1.size : Int) - (a2.size : Int) - (a7.size : Int) < 0
  · rw [if_pos c3]; exact ⟨_, rfl, .inl (by omega)⟩
  rw [if_neg c3, w64 (n := left - (a1.size : Int) - (a2.size : Int) - (a7.size : Int) - (a8.size : Int)) (by omega) (by omega)]
  by_cases c4 : left - (a1.size : Int) - (a2.size : Int) - (a7.size : Int) - (a8.size : Int) < 0
  · rw [if_pos c4]; exact ⟨_, rfl, .inl (by omega)⟩
  rw [if_neg c4, w64 (n := left - (a1.size : Int) - (a2.size : Int) - (a7.size : Int) - (a8.size : Int) - (a9.size : Int)) (by omega) (by omega)]
  by_cases c5 : left - (a1.size : Int) - (a2.size : Int) - (a7.size : Int) - (a8.size : Int) - (a9.size : Int) < 0
  · rw [if_pos c5]; exact ⟨_, rfl, .inl (by omega)⟩
  rw [if_neg c5]
  exact ⟨_, rfl, .inr ⟨by omega, by omega⟩⟩

/-- An entry of the laws' as one of the program's. -/
def conv (x : S37) : S39 := ⟨x.f0, x.f1, x.f2, x.f3, x.f4, x.f5, x.f6, x.f7, x.f8, x.f9⟩
theorem conv_eq (x : S37) : laws_toEntry.f x.f0 x.f1 x.f2 x.f3 x.f4 x.f5 x.f6 x.f7 x.f8 x.f9 = some (x.f0, x.f1, x.f2, x.f3, x.f4, x.f5, x.f6, x.f7, x.f8, x.f9) := rfl
/-- What an entry's texts take. -/
def sizeE (x : S37) : Nat := x.f1.size + x.f2.size + x.f7.size + x.f8.size + x.f9.size
def Sz (x : S37) : Prop := x.f1.size ≤ 9223372036854775807 ∧ x.f2.size ≤ 9223372036854775807 ∧ x.f7.size ≤ 9223372036854775807 ∧ x.f8.size ≤ 9223372036854775807 ∧ x.f9.size ≤ 9223372036854775807
theorem sz_entry (x : S37) (h : Sz x) (left : Int) (h0 : 0 ≤ left) (h1 : left ≤ 1048576) : ∃ r, laws_szEntry.f x.f0 x.f1 x.f2 x.f3 x.f4 x.f5 x.f6 x.f7 x.f8 x.f9 left = some r ∧ (r < 0 ∨ (0 ≤ r ∧ (sizeE x : Int) = left - r)) :=
  sz_plain x.f0 x.f1 x.f2 x.f3 x.f4 x.f5 x.f6 x.f7 x.f8 x.f9 h left h0 h1

theorem rdL_drop (l : List S37) (i : Nat) (h : i < l.length) : l.drop i = rd_T37 l (i : Int) :: l.drop (i + 1) := by
  rw [List.drop_eq_getElem_cons h]
  unfold rd_T37
  rw [Int.toNat_natCast, List.getD_eq_getElem?_getD, List.getElem?_eq_getElem h]
  rfl
theorem rdI_drop (l : List S39) (i : Nat) (h : i < l.length) : l.drop i = rd_T39 l (i : Int) :: l.drop (i + 1) := by
  rw [List.drop_eq_getElem_cons h]
  unfold rd_T39
  rw [Int.toNat_natCast, List.getD_eq_getElem?_getD, List.getElem?_eq_getElem h]
  rfl
theorem rdL_get (l : List S37) (i : Nat) (h : i < l.length) : rd_T37 l (i : Int) = l[i] := by
  unfold rd_T37
  rw [Int.toNat_natCast, List.getD_eq_getElem?_getD, List.getElem?_eq_getElem h]
  rfl
theorem rdI_get (l : List S39) (i : Nat) (h : i < l.length) : rd_T39 l (i : Int) = l[i] := by
  unfold rd_T39
  rw [Int.toNat_natCast, List.getD_eq_getElem?_getD, List.getElem?_eq_getElem h]
  rfl
def sizeL : List S37 → Nat
  | [] => 0
  | x :: l => sizeE x + sizeL l
theorem szS_loop (l : List S37) (hl : l.length ≤ 1048576) (hs : ∀ x ∈ l, Sz x) : ∀ (d k i : Nat) (left : Int), l.length - i = d → i ≤ l.length → d < k → 0 ≤ left → left ≤ 1048576 →
    ∃ r, laws_szEntryS.l0 k l left (i : Int) = some r ∧ (r < 0 ∨ (0 ≤ r ∧ (sizeL (l.drop i) : Int) = left - r)) := by
  intro d
  induction d with
  | zero =>
    intro k i left hd hi hk h0 h1
    obtain ⟨k, rfl⟩ : ∃ m, k = m + 1 := ⟨k - 1, by omega⟩
    simp only [laws_szEntryS.l0]
    rw [if_neg (by omega), List.drop_eq_nil_of_le (by omega)]
    exact ⟨_, rfl, .inr ⟨h0, by simp [sizeL]⟩⟩
  | succ d ih =>
    intro k i left hd hi hk h0 h1
    obtain ⟨k, rfl⟩ : ∃ m, k = m + 1 := ⟨k - 1, by omega⟩
    simp only [laws_szEntryS.l0]
    rw [if_pos (by omega), if_pos (by omega)]
    have hm : rd_T37 l (i : Int) ∈ l := by rw [rdL_get l i (by omega)]; exact List.getElem_mem _
    obtain ⟨r, hr, h⟩ := sz_entry (rd_T37 l (i : Int)) (hs _ hm) left h0 h1
    rw [hr]
    simp only [Option.bind_some]
    rcases h with h | ⟨h2, h3⟩
    · rw [if_pos h]; exact ⟨_, rfl, .inl (by omega)⟩
    · rw [if_neg (by omega), w64 (by omega) (by omega)]
      obtain ⟨q, hq, h4⟩ := ih k (i + 1) r (by omega) (by omega) (by omega) h2 (by omega)
      refine ⟨q, hq, ?_⟩
      rw [rdL_drop l i (by omega), sizeL]
      rcases h4 with h4 | ⟨h4, h5⟩
      · exact .inl h4
      · exact .inr ⟨h4, by omega⟩
theorem szS (l : List S37) (hs : ∀ x ∈ l, Sz x) (hl : l.length ≤ 9223372036854775807) (left : Int) (h0 : 0 ≤ left) (h1 : left ≤ 1048576) (k : Nat) (hk : 1048576 < k) :
    ∃ r, laws_szEntryS.f k l left = some r ∧ (r < 0 ∨ (0 ≤ r ∧ ((l.length + sizeL l : Nat) : Int) = left - r)) := by
  unfold laws_szEntryS.f
  rw [w64 (n := left - (l.length : Int)) (by omega) (by omega)]
  by_cases c : left - (l.length : Int) < 0
  · rw [if_pos c]; exact ⟨_, rfl, .inl (by omega)⟩
  · rw [if_neg c]
    obtain ⟨r, hr, h⟩ := szS_loop l (by omega) hs l.length k 0 (left - (l.length : Int)) (by omega) (by omega) (by omega) (by omega) (by omega)
    refine ⟨r, hr, ?_⟩
    rw [List.drop_zero] at h
    rcases h with h | ⟨h2, h3⟩
    · exact .inl h
    · exact .inr ⟨h2, by omega⟩
theorem toS_loop (l : List S37) (hl : l.length ≤ 1048576) : ∀ (d k i : Nat) (xs : List S39), l.length - i = d → i ≤ l.length → d < k → xs.length = l.length →
    laws_toEntryS.l0 k l xs (i : Int) = some (xs.take i ++ (l.drop i).map conv) := by
  intro d
  induction d with
  | zero =>
    intro k i xs hd hi hk hx
    obtain ⟨k, rfl⟩ : ∃ m, k = m + 1 := ⟨k - 1, by omega⟩
    simp only [laws_toEntryS.l0]
    rw [if_neg (by omega), List.drop_eq_nil_of_le (by omega), List.take_of_length_le (by omega)]
    simp
  | succ d ih =>
    intro k i xs hd hi hk hx
    obtain ⟨k, rfl⟩ : ∃ m, k = m + 1 := ⟨k - 1, by omega⟩
    simp only [laws_toEntryS.l0]
    rw [if_pos (by omega), if_pos (by omega), conv_eq]
    simp only [Option.bind_some]
    have e : wrap64 ((i : Int) + 1) = ((i + 1 : Nat) : Int) := by rw [w64 (by omega) (by omega)]; omega
    rw [if_pos (by omega), e, Int.toNat_natCast, ih k (i + 1) _ (by omega) (by omega) (by omega) (by rw [List.length_set]; exact hx), rdL_drop l i (by omega), List.map_cons]
    rw [List.take_succ_eq_append_getElem (by rw [List.length_set]; omega), List.getElem_set_self, List.take_set_of_le (Nat.le_refl _), List.append_assoc]
    rfl
theorem toS (l : List S37) (hl : l.length ≤ 1048576) (k : Nat) (hk : 1048576 < k) : laws_toEntryS.f k l = some (l.map conv) := by
  unfold laws_toEntryS.f
  rw [if_pos (by omega), Int.toNat_natCast, if_pos (by omega)]
  have := toS_loop l hl l.length k 0 (List.replicate l.length z39) (by omega) (by omega) (by omega) (List.length_replicate ..)
  rw [show ((0 : Nat) : Int) = 0 from rfl] at this
  rw [this]
  simp

def Ok37 (x : S37) : Prop := (Lit.int .i64 x.f0).wf = true ∧ x.f1.size ≤ 9223372036854775807 ∧ x.f2.size ≤ 9223372036854775807 ∧ (Lit.int .i64 x.f3).wf = true ∧ (Lit.int .i64 x.f4).wf = true ∧ (Lit.int .i64 x.f5).wf = true ∧ (Lit.int .i64 x.f6).wf = true ∧ x.f7.size ≤ 9223372036854775807 ∧ x.f8.size ≤ 9223372036854775807 ∧ x.f9.size ≤ 9223372036854775807
theorem ok_sz {l : List S37} (h : ∀ x ∈ l, Ok37 x) : ∀ x ∈ l, Sz x := fun x hx => by
  obtain ⟨_, h1, h2, _, _, _, _, h7, h8, h9⟩ := h x hx
  exact ⟨h1, h2, h7, h8, h9⟩

theorem tl_iff (s t : ByteArray) : s.toList = t.toList ↔ s = t := ⟨tl_inj, fun h => by rw [h]⟩
theorem eqE (a b : S39) : ∃ c : Bool, laws_eqEntry.f a.f0 a.f1 a.f2 a.f3 a.f4 a.f5 a.f6 a.f7 a.f8 a.f9 b.f0 b.f1 b.f2 b.f3 b.f4 b.f5 b.f6 b.f7 b.f8 b.f9 = some c ∧ (c = true ↔ a = b) := by
  obtain ⟨a0, a1, a2, a3, a4, a5, a6, a7, a8, a9⟩ := a
  obtain ⟨b0, b1, b2, b3, b4, b5, b6, b7, b8, b9⟩ := b
  unfold laws_eqEntry.f
  simp only [tl_iff, S39.mk.injEq]
  repeat' split
  all_goals first | exact ⟨true, rfl, by simp [*]⟩ | exact ⟨false, rfl, by simp [*]⟩
theorem eqS_loop (a b : List S39) (ha : a.length ≤ 9223372036854775806) (hab : a.length = b.length) : ∀ (d k i : Nat), a.length - i = d → i ≤ a.length → d < k → ∃ c : Bool, laws_eqEntryS.l0 k a b (i : Int) = some c ∧ (c = true ↔ a.drop i = b.drop i) := by
  intro d
  induction d with
  | zero =>
    intro k i hd hi hk
    obtain ⟨k, rfl⟩ : ∃ m, k = m + 1 := ⟨k - 1, by omega⟩
    simp only [laws_eqEntryS.l0]
    rw [if_neg (by omega), List.drop_eq_nil_of_le (by omega), List.drop_eq_nil_of_le (by omega)]
    exact ⟨true, rfl, by simp⟩
  | succ d ih =>
    intro k i hd hi hk
    obtain ⟨k, rfl⟩ : ∃ m, k = m + 1 := ⟨k - 1, by omega⟩
    simp only [laws_eqEntryS.l0]
    obtain ⟨c, hc, h⟩ := eqE (rd_T39 a (i : Int)) (rd_T39 b (i : Int))
    rw [if_pos (by omega), if_pos (by omega), if_pos (by omega), hc, rdI_drop a i (by omega), rdI_drop b i (by omega)]
    simp only [Option.bind_some, List.cons.injEq, ← h]
    have e : wrap64 ((i : Int) + 1) = ((i + 1 : Nat) : Int) := by rw [w64 (by omega) (by omega)]; omega
    cases c with
    | false => exact ⟨false, by rw [if_neg (by decide)], by simp⟩
    | true =>
      obtain ⟨q, hq, h2⟩ := ih k (i + 1) (by omega) (by omega) (by omega)
      exact ⟨q, by rw [if_pos rfl, e]; exact hq, by simp [h2]⟩
theorem eqS (a b : List S39) (ha : a.length ≤ 9223372036854775806) (k : Nat) (hk : a.length < k) : ∃ c : Bool, laws_eqEntryS.f k a b = some c ∧ (c = true ↔ a = b) := by
  unfold laws_eqEntryS.f
  by_cases h : (a.length : Int) = (b.length : Int)
  · obtain ⟨c, hc, h2⟩ := eqS_loop a b ha (by omega) a.length k 0 (by omega) (by omega) hk
    rw [if_pos h]
    exact ⟨c, hc, by simpa using h2⟩
  · rw [if_neg h]
    exact ⟨false, rfl, by simp; intro e; rw [e] at h; exact h rfl⟩
theorem eqS_same (a : List S39) (ha : a.length ≤ 9223372036854775806) (k : Nat) (hk : a.length < k) : laws_eqEntryS.f k a a = some true := by
  obtain ⟨c, hc, h⟩ := eqS a a ha k hk
  rw [hc, h.2 rfl]

theorem spec_find_loop (l : List S39) (p : ByteArray) (hl : l.length ≤ 1048576) : ∀ (d k i : Nat), i + d = l.length → d < k → spec_Find.l0 k l p (i : Int) = some (findI p (l.drop i) i) := by
  intro d
  induction d with
  | zero =>
    intro k i hi hk
    obtain ⟨k, rfl⟩ : ∃ m, k = m + 1 := ⟨k - 1, by omega⟩
    unfold spec_Find.l0
    rw [if_neg (by omega), List.drop_eq_nil_of_le (by omega)]
    rfl
  | succ d ih =>
    intro k i hi hk
    obtain ⟨k, rfl⟩ : ∃ m, k = m + 1 := ⟨k - 1, by omega⟩
    unfold spec_Find.l0
    have e := ih k (i + 1) (by omega) (by omega)
    rw [show ((i + 1 : Nat) : Int) = (i : Int) + 1 by omega] at e
    rw [if_pos (by omega), if_pos (by omega), w64 (by omega) (by omega), e, rdI_drop l i (by omega)]
    simp only [findI]
    split <;> rfl
theorem spec_find (l : List S39) (p : ByteArray) (hl : l.length ≤ 1048576) (k : Nat) (hk : l.length < k) : spec_Find.f k l p = some (findI p l 0) :=
  spec_find_loop l p hl l.length k 0 (by omega) hk
theorem findI_bounds (p : ByteArray) : ∀ (l : List S39) (k : Nat), findI p l k = -1 ∨ ((k : Int) ≤ findI p l k ∧ findI p l k < (k : Int) + l.length)
  | [], _ => Or.inl rfl
  | x :: l, k => by
    simp only [findI, List.length_cons]
    split
    · exact Or.inr ⟨by omega, by omega⟩
    · rcases findI_bounds p l (k + 1) with h | h
      · exact Or.inl h
      · exact Or.inr ⟨by omega, by omega⟩

theorem file_same (l : List S39) (p : ByteArray) (hl : l.length ≤ 1048576) (k : Nat) (hk : l.length + 2 < k) : ∃ r, spec_l03File.f k l p = some r ∧ impl_fileOf.f k l p = some r ∧ (r < 0 ∨ (0 ≤ r ∧ r < (l.length : Int))) := by
  obtain ⟨k, rfl⟩ : ∃ m, k = m + 1 := ⟨k - 1, by omega⟩
  have J : ∀ (i : Int) (b : Bool), (i < 0 ∨ (0 ≤ i ∧ i < (l.length : Int))) → (b = true → 0 ≤ i) → ∃ r, spec_l03File.j0 (k + 1) l i b = some r ∧ impl_fileOf.j0 (k + 1) l i b = some r ∧ (r < 0 ∨ (0 ≤ r ∧ r < (l.length : Int))) := by
    intro i b hi hb
    simp only [spec_l03File.j0, impl_fileOf.j0, impl_Find.f]
    cases b with
    | true =>
      have h0 := hb rfl
      have h1 : i < (l.length : Int) := by omega
      rw [if_pos rfl, if_pos rfl, if_pos h0, if_pos h0, if_pos h1, if_pos h1, spec_find l _ hl k (by omega)]
      simp only [Option.bind_some]
      rcases findI_bounds (rd_T39 l i).f2 l 0 with h | h
      · rw [h]
        exact ⟨-1, by simp, by simp, Or.inl (by decide)⟩
      · have e1 : ¬ findI (rd_T39 l i).f2 l 0 < 0 := by omega
        have e2 : 0 ≤ findI (rd_T39 l i).f2 l 0 := by omega
        have e3 : findI (rd_T39 l i).f2 l 0 < (l.length : Int) := by omega
        simp only [e1, e2, e3, if_true, if_false]
        by_cases c : (rd_T39 l (findI (rd_T39 l i).f2 l 0)).f0 = 0
        · rw [if_pos c]
          exact ⟨_, rfl, rfl, Or.inr ⟨e2, e3⟩⟩
        · rw [if_neg c]
          exact ⟨_, rfl, rfl, Or.inl (by decide)⟩
    | false =>
      simp only [Bool.false_eq_true, if_false]
      by_cases h : i < 0
      · simp only [h, if_true]
        exact ⟨-1, rfl, rfl, Or.inl (by decide)⟩
      · have h0 : 0 ≤ i := by omega
        have h1 : i < (l.length : Int) := by omega
        simp only [h, h0, h1, if_true, if_false]
        by_cases c : (rd_T39 l i).f0 = 0
        · rw [if_pos c]
          exact ⟨_, rfl, rfl, Or.inr ⟨h0, h1⟩⟩
        · rw [if_neg c]
          exact ⟨_, rfl, rfl, Or.inl (by decide)⟩
  unfold spec_l03File.f impl_fileOf.f impl_Find.f
  rw [spec_find l p hl _ (by omega)]
  simp only [Option.bind_some]
  rcases findI_bounds p l 0 with h | h
  · rw [h]
    have hd : ¬ ((-1 : Int) ≥ 0) := by decide
    simp only [hd, if_false]
    exact J (-1) false (Or.inl (by decide)) (by simp)
  · have e2 : 0 ≤ findI p l 0 := by omega
    have e3 : findI p l 0 < (l.length : Int) := by omega
    rw [if_pos (show findI p l 0 ≥ 0 from e2), if_pos (show findI p l 0 ≥ 0 from e2), if_pos e2, if_pos e2, if_pos e3, if_pos e3]
    exact J _ _ (Or.inr ⟨e2, e3⟩) (fun _ => e2)

theorem alikeI_length (i : Int) (q : ByteArray) : ∀ (l : List S39) (k : Nat), (alikeI i q l k).length ≤ l.length
  | [], _ => Nat.le_refl _
  | x :: l, k => by
    have h := alikeI_length i q l (k + 1)
    unfold alikeI
    split <;> simp only [List.length_cons] <;> omega
theorem alike_loop (l : List S39) (hl : l.length ≤ 1048576) (f : Int) (h0 : 0 ≤ f) (h1 : f < (l.length : Int)) : ∀ (d i k : Nat) (out : List ByteArray), i + d = l.length → out.length ≤ i → 2 * d + 2 < k →
    spec_Alike.l0 k l out f (i : Int) = some (out ++ alikeI f (rd_T39 l f).f1 (l.drop i) i) := by
  intro d
  induction d with
  | zero =>
    intro i k out hi ho hk
    obtain ⟨k, rfl⟩ : ∃ m, k = m + 2 := ⟨k - 2, by omega⟩
    unfold spec_Alike.l0
    rw [if_neg (by omega), List.drop_eq_nil_of_le (by omega)]
    simp [spec_Alike.j1, alikeI]
  | succ d ih =>
    intro i k out hi ho hk
    obtain ⟨k, rfl⟩ : ∃ m, k = m + 2 := ⟨k - 2, by omega⟩
    have wi : wrap64 ((i : Int) + 1) = ((i + 1 : Nat) : Int) := by rw [w64 (by omega) (by omega)]; omega
    have g1 : (i : Int) < (l.length : Int) := by omega
    have g2 : 0 ≤ (i : Int) := by omega
    have g3 : out.length < 8796093022208 := by omega
    have g4 : decide (f ≥ 0) = true := decide_eq_true h0
    unfold spec_Alike.l0
    unfold spec_Alike.j1
    simp only [g1, g2, g3, g4, h0, h1, if_true, wi]
    have more := ih (i + 1) k (out ++ [(rd_T39 l (i : Int)).f1]) (by omega) (by simp; omega) (by omega)
    have same := ih (i + 1) k out (by omega) (by omega) (by omega)
    have E : ∀ c : Prop, [Decidable c] → (c ↔ ((i : Int) = f ∨ ((rd_T39 l (i : Int)).f0 = 3 ∧ (rd_T39 l (i : Int)).f2.toList = (rd_T39 l f).f1.toList))) → out ++ alikeI f (rd_T39 l f).f1 (l.drop i) i = if c then out ++ [(rd_T39 l (i : Int)).f1] ++ alikeI f (rd_T39 l f).f1 (l.drop (i + 1)) (i + 1) else out ++ alikeI f (rd_T39 l f).f1 (l.drop (i + 1)) (i + 1) := by
      intro c _ hc
      rw [rdI_drop l i (by omega)]
      simp only [alikeI, ← hc]
      by_cases h : c
      · rw [if_pos h, if_pos h, List.append_cons]
      · rw [if_neg h, if_neg h]
    by_cases c1 : (i : Int) = f
    · rw [if_pos c1, E True (by simp [c1]), if_pos trivial]
      exact more
    · rw [if_neg c1]
      by_cases c2 : (rd_T39 l (i : Int)).f0 = 3
      · rw [if_pos c2]
        by_cases c3 : (rd_T39 l (i : Int)).f2.toList = (rd_T39 l f).f1.toList
        · rw [if_pos c3, E True (by simp [c2, c3]), if_pos trivial]
          exact more
        · rw [if_neg c3, E False (by simp [c1, c3]), if_neg id]
          exact same
      · rw [if_neg c2, E False (by simp [c1, c2]), if_neg id]
        exact same
theorem alike_same (l : List S39) (p : ByteArray) (hl : l.length ≤ 1048576) (k : Nat) (hk : 2 * l.length + 10 < k) : ∃ r, spec_Alike.f k l p = some r ∧ impl_Alike.f k l p = some r ∧ r.length ≤ l.length := by
  obtain ⟨f, e1, e2, hf⟩ := file_same l p hl k (by omega)
  unfold spec_Alike.f impl_Alike.f
  rw [e1, e2]
  simp only [Option.bind_some]
  by_cases h : f < 0
  · rw [if_pos h]
    obtain ⟨k, rfl⟩ : ∃ m, k = m + 2 := ⟨k - 2, by omega⟩
    have g : decide (f ≥ 0) = false := decide_eq_false (by omega)
    refine ⟨[], ?_, rfl, by simp⟩
    unfold spec_Alike.l0
    rw [g]
    simp [spec_Alike.j1]
  · rw [if_neg h, if_pos ⟨by omega, by omega⟩]
    have := alike_loop l hl f (by omega) (by omega) l.length 0 k [] (by omega) (by simp) (by omega)
    rw [show ((0 : Nat) : Int) = 0 from rfl] at this
    exact ⟨_, this, by simp, by simpa using alikeI_length f _ l 0⟩

/-! ### Marks: a result of a list of texts is written over and read back -/
theorem mark_text_loop : ∀ (j : Nat) (k : Nat) (m : Int) (x : ByteArray), j ≤ 18 → 0 ≤ m → m < 10 ^ j → j < k → x.size + j ≤ 1000 → ∃ r, laws_markText.l0 k m x = some r
  | 0, k, m, x, hj, h0, h1, hk, hx => by
    obtain ⟨k, rfl⟩ : ∃ n, k = n + 1 := ⟨k - 1, by omega⟩
    unfold laws_markText.l0
    rw [if_neg (by omega), if_pos (by omega)]
    exact ⟨_, rfl⟩
  | j + 1, k, m, x, hj, h0, h1, hk, hx => by
    obtain ⟨k, rfl⟩ : ∃ n, k = n + 1 := ⟨k - 1, by omega⟩
    unfold laws_markText.l0
    by_cases hm : m > 0
    · rw [if_pos hm]
      simp only [Option.bind_some]
      have e1 : ∀ z : Int, (strOfNums [z]).size = 1 := fun z => by rw [strOfNums_size]; rfl
      rw [if_pos (by rw [e1]; omega)]
      have hd : Int.tdiv m 10 = m / 10 := Int.tdiv_eq_ediv_of_nonneg h0
      have hp : (10 : Int) ^ (j + 1) ≤ 1000000000000000000 := by
        have : (10 : Nat) ^ (j + 1) ≤ 10 ^ 18 := Nat.pow_le_pow_right (by decide) (by omega)
        have h2 : ((10 : Int) ^ (j + 1)) = ((10 ^ (j + 1) : Nat) : Int) := by simp
        omega
      rw [hd, w64 (by omega) (by omega)]
      rw [Int.pow_succ] at h1
      exact mark_text_loop j k _ _ (by omega) (by omega) (by omega) (by omega) (by rw [ByteArray.size_append, e1]; omega)
    · rw [if_neg hm, if_pos (by omega)]
      exact ⟨_, rfl⟩
theorem mark_text (k : Nat) (m : Int) (hk : 18 < k) (h1 : m < 1000000000000000000) : ∃ r, laws_markText.f k m = some r := by
  unfold laws_markText.f
  by_cases h : m ≤ 0
  · rw [if_pos h]
    exact ⟨_, rfl⟩
  · rw [if_neg h]
    exact mark_text_loop 18 k m _ (by decide) (by omega) (by omega) hk (by decide)

theorem marks_entry_loop : ∀ (d k : Nat) (l : List S39) (x : Int) (i : Nat), i + d = l.length → l.length ≤ 1048576 → 0 ≤ x → x + 10 * d < 1000000000000000 → d + 30 < k → ∃ m l', laws_markEntryS.l0 k l x (i : Int) = some (m, l') ∧ 0 ≤ m := by
  intro d
  induction d with
  | zero =>
    intro k l x i hi hl h0 h1 hk
    obtain ⟨k, rfl⟩ : ∃ m, k = m + 1 := ⟨k - 1, by omega⟩
    unfold laws_markEntryS.l0
    rw [if_neg (by omega)]
    exact ⟨x, l, rfl, h0⟩
  | succ d ih =>
    intro k l x i hi hl h0 h1 hk
    obtain ⟨k, rfl⟩ : ∃ m, k = m + 1 := ⟨k - 1, by omega⟩
    have g1 : (i : Int) < (l.length : Int) := by omega
    have g2 : 0 ≤ (i : Int) := by omega
    obtain ⟨r1, e1⟩ := mark_text k (x + 1) (by omega) (by omega)
    obtain ⟨r2, e2⟩ := mark_text k (x + 1 + 1) (by omega) (by omega)
    obtain ⟨r7, e7⟩ := mark_text k (x + 1 + 1 + 1 + 1 + 1 + 1 + 1) (by omega) (by omega)
    obtain ⟨r8, e8⟩ := mark_text k (x + 1 + 1 + 1 + 1 + 1 + 1 + 1 + 1) (by omega) (by omega)
    obtain ⟨r9, e9⟩ := mark_text k (x + 1 + 1 + 1 + 1 + 1 + 1 + 1 + 1 + 1) (by omega) (by omega)
    have w1 : wrap64 (x + 1) = x + 1 := w64 (by omega) (by omega)
    have w2 : wrap64 (x + 1 + 1) = x + 1 + 1 := w64 (by omega) (by omega)
    have w3 : wrap64 (x + 1 + 1 + 1) = x + 1 + 1 + 1 := w64 (by omega) (by omega)
    have w4 : wrap64 (x + 1 + 1 + 1 + 1) = x + 1 + 1 + 1 + 1 := w64 (by omega) (by omega)
    have w5 : wrap64 (x + 1 + 1 + 1 + 1 + 1) = x + 1 + 1 + 1 + 1 + 1 := w64 (by omega) (by omega)
    have w6 : wrap64 (x + 1 + 1 + 1 + 1 + 1 + 1) = x + 1 + 1 + 1 + 1 + 1 + 1 := w64 (by omega) (by omega)
    have w7 : wrap64 (x + 1 + 1 + 1 + 1 + 1 + 1 + 1) = x + 1 + 1 + 1 + 1 + 1 + 1 + 1 := w64 (by omega) (by omega)
    have w8 : wrap64 (x + 1 + 1 + 1 + 1 + 1 + 1 + 1 + 1) = x + 1 + 1 + 1 + 1 + 1 + 1 + 1 + 1 := w64 (by omega) (by omega)
    have w9 : wrap64 (x + 1 + 1 + 1 + 1 + 1 + 1 + 1 + 1 + 1) = x + 1 + 1 + 1 + 1 + 1 + 1 + 1 + 1 + 1 := w64 (by omega) (by omega)
    have w10 : wrap64 (x + 1 + 1 + 1 + 1 + 1 + 1 + 1 + 1 + 1 + 1) = x + 1 + 1 + 1 + 1 + 1 + 1 + 1 + 1 + 1 + 1 := w64 (by omega) (by omega)
    have wi : wrap64 ((i : Int) + 1) = ((i + 1 : Nat) : Int) := by rw [w64 (by omega) (by omega)]; omega
    unfold laws_markEntryS.l0
    rw [if_pos g1, if_pos g2]
    simp only [Option.bind_some, w1, w2, w3, w4, w5, w6, w7, w8, w9, w10, wi, e1, e2, e7, e8, e9]
    clear w1 w2 w3 w4 w5 w6 w7 w8 w9 w10 wi e1 e2 e7 e8 e9
    exact ih k _ _ (i + 1) (by simp only [List.length_set]; omega) (by simp only [List.length_set]; exact hl) (by omega) (by omega) (by omega)
theorem marks_entry (k : Nat) (l : List S39) (hl : l.length ≤ 1048576) (hk : l.length + 30 < k) : ∃ m l', laws_markEntryS.f k l 1 = some (m, l') ∧ 0 ≤ m :=
  marks_entry_loop l.length k l 1 0 (by omega) hl (by decide) (by omega) hk

/-- The marks of a list's places, at the rounds that the loop has left there. -/
def marks : Nat → Int → Nat → List ByteArray
  | _, _, 0 => []
  | k, m, n + 1 => ((laws_markText.f k m).getD ByteArray.empty) :: marks (k - 1) (m + 1) n
theorem marks_length : ∀ (n k : Nat) (m : Int), (marks k m n).length = n
  | 0, _, _ => rfl
  | n + 1, k, m => by simp [marks, marks_length n]
theorem mark_loop : ∀ (t pre : List ByteArray) (k : Nat) (m : Int), 0 ≤ m → m + t.length < 1000000000000000000 → pre.length + t.length < 1000000000000000000 → t.length + 30 < k →
    laws_markStringS.l0 k (pre ++ t) m (pre.length : Int) = some (m + (t.length : Int), pre ++ marks (k - 1) m t.length)
  | [], pre, k, m, h0, h1, h2, hk => by
    obtain ⟨k, rfl⟩ : ∃ n, k = n + 1 := ⟨k - 1, by omega⟩
    unfold laws_markStringS.l0
    rw [if_neg (by simp)]
    simp [marks]
  | x :: t, pre, k, m, h0, h1, h2, hk => by
    simp only [List.length_cons] at h1 h2 hk
    obtain ⟨k, rfl⟩ : ∃ n, k = n + 1 := ⟨k - 1, by omega⟩
    unfold laws_markStringS.l0
    obtain ⟨r, hr⟩ := mark_text k m (by omega) (by omega)
    rw [if_pos (by simp; omega), hr]
    simp only [Option.bind_some]
    rw [if_pos (by omega), w64 (by omega) (by omega), w64 (by omega) (by omega)]
    have := mark_loop t (pre ++ [r]) k (m + 1) (by omega) (by omega) (by simp only [List.length_append, List.length_cons, List.length_nil]; omega) (by omega)
    simp only [List.length_append, List.length_cons, List.length_nil, List.append_assoc, List.singleton_append] at this
    have es : (pre ++ x :: t).set ((pre.length : Int)).toNat r = pre ++ r :: t := by
      rw [Int.toNat_natCast, List.set_append_right _ _ (Nat.le_refl _)]
      simp
    rw [es, show ((pre.length : Int) + 1) = ((pre.length + (0 + 1) : Nat) : Int) by omega, this]
    simp only [List.length_cons, marks]
    simp only [Nat.add_sub_cancel]
    rw [hr]
    simp only [Option.getD_some]
    rw [show m + 1 + (t.length : Int) = m + ((t.length + 1 : Nat) : Int) by omega]
theorem held_loop : ∀ (n : Nat) (pre : List ByteArray) (k : Nat) (m : Int), 0 ≤ m → m + n < 1000000000000000000 → pre.length + n < 1000000000000000000 → n + 30 < k →
    laws_heldStringS.l0 k (pre ++ marks (k - 1) m n) m (pre.length : Int) = some (m + (n : Int))
  | 0, pre, k, m, h0, h1, h2, hk => by
    obtain ⟨k, rfl⟩ : ∃ n, k = n + 1 := ⟨k - 1, by omega⟩
    unfold laws_heldStringS.l0
    rw [if_neg (by simp [marks])]
    simp
  | n + 1, pre, k, m, h0, h1, h2, hk => by
    obtain ⟨k, rfl⟩ : ∃ n, k = n + 1 := ⟨k - 1, by omega⟩
    unfold laws_heldStringS.l0
    obtain ⟨r, hr⟩ := mark_text k m (by omega) (by omega)
    simp only [Nat.add_sub_cancel, marks]
    rw [if_pos (by simp; omega), if_pos (by omega), hr]
    simp only [Option.bind_some, Option.getD_some]
    have er : rdOf ByteArray.empty (pre ++ r :: marks (k - 1) (m + 1) n) (pre.length : Int) = r := by
      unfold rdOf
      rw [Int.toNat_natCast, List.getD_eq_getElem?_getD, List.getElem?_append_right (Nat.le_refl _)]
      simp
    rw [er, if_pos rfl, w64 (by omega) (by omega), w64 (by omega) (by omega)]
    have := held_loop n (pre ++ [r]) k (m + 1) (by omega) (by omega) (by simp only [List.length_append, List.length_cons, List.length_nil]; omega) (by omega)
    simp only [List.length_append, List.length_cons, List.length_nil, List.append_assoc, List.singleton_append] at this
    rw [show ((pre.length : Int) + 1) = ((pre.length + (0 + 1) : Nat) : Int) by omega, this]
    congr 1
    omega
theorem mark_ok (k : Nat) (l : List ByteArray) (hl : l.length ≤ 1000000000000) (hk : l.length + 30 < k) : laws_markStringS.f k l 1 = some (1 + (l.length : Int), marks (k - 1) 1 l.length) := by
  unfold laws_markStringS.f
  have := mark_loop l [] k 1 (by decide) (by omega) (by simp; omega) hk
  simpa using this
theorem held_ok (k n : Nat) (hl : n ≤ 1000000000000) (hk : n + 30 < k) : laws_heldStringS.f k (marks (k - 1) 1 n) 1 = some (1 + (n : Int)) := by
  unfold laws_heldStringS.f
  have := held_loop n [] k 1 (by decide) (by omega) (by simp; omega) hk
  simpa using this

theorem eq_loop (l l' : List ByteArray) (h : l.map ByteArray.toList = l'.map ByteArray.toList) (hl : l.length ≤ 1000000000000) : ∀ (d i k : Nat), i + d = l.length → d < k → laws_eqStringS.l0 k l l' (i : Int) = some true := by
  have hlen : l.length = l'.length := by simpa using congrArg List.length h
  intro d
  induction d with
  | zero =>
    intro i k hi hk
    obtain ⟨k, rfl⟩ : ∃ m, k = m + 1 := ⟨k - 1, by omega⟩
    unfold laws_eqStringS.l0
    rw [if_neg (by omega)]
  | succ d ih =>
    intro i k hi hk
    obtain ⟨k, rfl⟩ : ∃ m, k = m + 1 := ⟨k - 1, by omega⟩
    unfold laws_eqStringS.l0
    have hg : (rdOf ByteArray.empty l (i : Int)).toList = (rdOf ByteArray.empty l' (i : Int)).toList := by
      unfold rdOf
      have := congrArg (fun z => z[i]?) h
      simp only [List.getElem?_map] at this
      rw [Int.toNat_natCast, List.getD_eq_getElem?_getD, List.getD_eq_getElem?_getD]
      rw [List.getElem?_eq_getElem (by omega), List.getElem?_eq_getElem (by omega)] at this ⊢
      simpa using this
    rw [if_pos (by omega), if_pos (by omega), if_pos (by omega), if_pos hg, w64 (by omega) (by omega)]
    exact ih (i + 1) k (by omega) (by omega)
theorem eq_ok (l l' : List ByteArray) (h : l.map ByteArray.toList = l'.map ByteArray.toList) (hl : l.length ≤ 1000000000000) (k : Nat) (hk : l.length < k) : laws_eqStringS.f k l l' = some true := by
  have hlen : l.length = l'.length := by simpa using congrArg List.length h
  unfold laws_eqStringS.f
  rw [if_pos (by omega)]
  exact eq_loop l l' h hl l.length 0 k (by omega) hk

theorem FnExactAlike : ∀ (l0 : List S37) (a1 : ByteArray), l0.length ≤ 9223372036854775807 → (∀ x ∈ l0, Ok37 x) → a1.size ≤ 140737488351232 → ∃ k, laws_FnExactAlike.f k l0 a1 = some true := by
  intro l p hl ol hp
  unfold laws_FnExactAlike.f
  obtain ⟨K, hK⟩ : ∃ K, K = 3000000 := ⟨_, rfl⟩
  refine ⟨K + 1, ?_⟩
  by_cases c : (p.size : Int) > 1048576
  · rw [if_pos c]
  rw [if_neg c]
  obtain ⟨r, hr, h⟩ := szS l (ok_sz ol) hl 1048576 (by omega) (by omega) (K + 1) (by omega)
  rw [hr]
  simp only [Option.bind_some]
  rcases h with h | ⟨h0, h1⟩
  · rw [if_pos h]
  · have hm : (l.map conv).length = l.length := List.length_map _
    rw [if_neg (by omega), toS l (by omega) _ (by omega)]
    simp only [Option.bind_some]
    obtain ⟨q, e1, e2, hq⟩ := alike_same (l.map conv) p (by omega) (K + 1) (by omega)
    obtain ⟨q2, _, f2, _⟩ := alike_same (l.map conv) p (by omega) K (by omega)
    have hqq : q2 = q := Option.some.inj ((impl_Alike.mono _ _ K q2 f2).symm.trans e2)
    subst hqq
    obtain ⟨m, l', em, hm0⟩ := marks_entry (K + 1) (l.map conv) (by omega) (by omega)
    have J : laws_FnExactAlike.j0 (K + 1) l p q2 q2 false = some true := by
      simp only [laws_FnExactAlike.j0]
      rw [if_neg (by decide), mark_ok K q2 (by omega) (by omega)]
      simp only [Option.bind_some]
      rw [held_ok K _ (by omega) (by omega)]
      simp only [Option.bind_some]
      have hn : ¬ 1 + (q2.length : Int) < 0 := by omega
      simp only [hn, if_false, if_true]
      rw [toS l (by omega) _ (by omega)]
      simp only [Option.bind_some]
      rw [f2]
      simp only [Option.bind_some]
      rw [eq_ok q2 q2 rfl (by omega) _ (by omega)]
      simp
    rw [e1, e2]
    simp only [Option.bind_some]
    rw [eq_ok q2 q2 rfl (by omega) _ (by omega), eqS_same _ (by omega) _ (by omega), em]
    simp only [Option.bind_some, if_true, Bool.not_true]
    rw [if_neg (by omega)]
    exact J

end Go.Proofs.Ytgmggpgcfonmgaa.Pure
