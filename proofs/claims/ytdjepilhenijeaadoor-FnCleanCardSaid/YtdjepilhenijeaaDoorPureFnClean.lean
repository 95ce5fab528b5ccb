/-
The pure statement of the law FnClean (numbers, byte strings and lists; no Go and no memory): the printed law's function answers true. Conditions: those of the printed statement (each string at most 2^47 - 4096 bytes, each number of its kind).
-/
import Derived.Test.YtdjepilhenijeaaDoorPFnCleanx6
import Derived.Test.YtdjepilhenijeaaDoorCore
namespace Go.Proofs.YtdjepilhenijeaaDoor.Pure
open Go.RowKit Go.Proofs.YtdjepilhenijeaaDoor.PFnClean Go.Proofs.YtdjepilhenijeaaDoorW.PrintWords Go.Proofs.YtdjepilhenijeaaDoorW.PrintLast Go.Proofs.YtdjepilhenijeaaDoor.Core
set_option linter.unusedVariables false
set_option linter.unusedSimpArgs false

/-! ### A byte's first place, and the texts between its places -/
theorem bt_mid {s : ByteArray} {pre t : List UInt8} {b : UInt8} (h : s.toList = pre ++ b :: t) : bt s (pre.length : Int) = (b.toNat : Int) := by
  have hs : s.size = pre.length + (t.length + 1) := by rw [← tl_length, h]; simp
  rw [bt_get s pre.length (by omega)]
  congr 2
  simp [h]
theorem size_mid {s : ByteArray} {pre t : List UInt8} (h : s.toList = pre ++ t) : s.size = pre.length + t.length := by
  rw [← tl_length, h]; simp
theorem u8_eq {b : UInt8} {c : UInt8} : ((b.toNat : Int) = (c.toNat : Int)) ↔ b = c := by
  constructor
  · intro h
    exact UInt8.toNat_inj.1 (by omega)
  · rintro rfl
    rfl
theorem ext_mid {s : ByteArray} {pre p t : List UInt8} (h : s.toList = pre ++ (p ++ t)) : (s.extract pre.length (pre.length + p.length)).toList = p := by
  rw [tl_extract, h, ← List.append_assoc]
  rw [List.take_left' (by simp)]
  simp
theorem ext_end {s : ByteArray} {pre p : List UInt8} (h : s.toList = pre ++ p) : (s.extract pre.length s.size).toList = p := by
  rw [tl_extract, ← tl_length, h]
  rw [List.take_of_length_le (Nat.le_refl _)]
  simp
/-- A byte's first place: there is none, or the text falls in two there. -/
theorem index_span (c : UInt8) : ∀ l : List UInt8, (c ∉ l ∧ Lib.indexByte l c = -1) ∨ ∃ a b, l = a ++ c :: b ∧ c ∉ a ∧ Lib.indexByte l c = (a.length : Int)
  | [] => Or.inl ⟨by simp, rfl⟩
  | x :: l => by
    by_cases h : x = c
    · subst h
      exact Or.inr ⟨[], l, rfl, by simp, by simp [Lib.indexByte]⟩
    · rcases index_span c l with ⟨h1, h2⟩ | ⟨a, b, h1, h2, h3⟩
      · refine Or.inl ⟨?_, ?_⟩
        · simp only [List.mem_cons, not_or]
          exact ⟨fun e => h e.symm, h1⟩
        · simp [Lib.indexByte, h, h2]
      · refine Or.inr ⟨x :: a, b, by simp [h1], ?_, ?_⟩
        · simp only [List.mem_cons, not_or]
          exact ⟨fun e => h e.symm, h2⟩
        · simp only [Lib.indexByte]
          have h' : (x == c) = false := by simpa using h
          simp only [h', h3]
          simp
          try omega

/-- The texts between the places of a byte. -/
def splitA (c : UInt8) : List UInt8 → List UInt8 → List (List UInt8)
  | p, [] => [p]
  | p, b :: t => if b = c then p :: splitA c [] t else splitA c (p ++ [b]) t
theorem splitA_none (c : UInt8) : ∀ (t p : List UInt8), c ∉ t → splitA c p t = [p ++ t]
  | [], p, _ => by simp [splitA]
  | b :: t, p, h => by
    simp only [List.mem_cons, not_or] at h
    simp only [splitA]
    rw [if_neg (fun e => h.1 e.symm), splitA_none c t _ h.2]
    simp
theorem splitA_span (c : UInt8) (b : List UInt8) : ∀ (a p : List UInt8), c ∉ a → splitA c p (a ++ c :: b) = (p ++ a) :: splitA c [] b
  | [], p, _ => by simp [splitA]
  | x :: a, p, h => by
    simp only [List.mem_cons, not_or] at h
    simp only [List.cons_append, splitA]
    rw [if_neg (fun e => h.1 e.symm), splitA_span c b a _ h.2]
    simp
theorem splitA_length (c : UInt8) : ∀ (t p : List UInt8), (splitA c p t).length = t.count c + 1
  | [], p => by simp [splitA]
  | b :: t, p => by
    simp only [splitA]
    by_cases h : b = c
    · rw [if_pos h, List.length_cons, splitA_length c t, h, List.count_cons_self]
    · rw [if_neg h, splitA_length c t, List.count_cons_of_ne h]
theorem splitA_le (c : UInt8) (t p : List UInt8) : (splitA c p t).length ≤ t.length + 1 := by
  rw [splitA_length]
  have : t.count c ≤ t.length := List.count_le_length
  omega
theorem splitA_mem (c : UInt8) : ∀ (t p x : List UInt8), x ∈ splitA c p t → x.length ≤ p.length + t.length
  | [], p, x, h => by
    simp only [splitA, List.mem_singleton] at h
    subst h
    simp
  | b :: t, p, x, h => by
    simp only [splitA] at h
    by_cases hb : b = c
    · rw [if_pos hb] at h
      rcases List.mem_cons.1 h with h | h
      · subst h
        omega
      · have := splitA_mem c t [] x h
        simp only [List.length_nil, List.length_cons] at *
        omega
    · rw [if_neg hb] at h
      have := splitA_mem c t _ x h
      simp only [List.length_append, List.length_cons, List.length_nil] at *
      omega
def sumLen : List (List UInt8) → Nat
  | [] => 0
  | x :: l => x.length + sumLen l
theorem splitA_sum (c : UInt8) : ∀ (t p : List UInt8), sumLen (splitA c p t) + (splitA c p t).length = p.length + t.length + 1
  | [], p => by simp [splitA, sumLen]
  | b :: t, p => by
    simp only [splitA]
    by_cases h : b = c
    · rw [if_pos h]
      have := splitA_sum c t []
      simp only [sumLen, List.length_cons, List.length_nil] at *
      omega
    · rw [if_neg h]
      have := splitA_sum c t (p ++ [b])
      simp only [List.length_append, List.length_cons, List.length_nil] at *
      omega

theorem idx_one (s : ByteArray) (c : UInt8) : strings_Index.f s (⟨#[c]⟩ : ByteArray) = some (Lib.indexByte s.toList c) := by
  unfold strings_Index.f stringslite_Index.f
  rw [if_pos (show (⟨#[c]⟩ : ByteArray).size = 1 from rfl), tl]
  rfl
theorem take_set_map (a : List ByteArray) (i : Nat) (x : ByteArray) (h : i < a.length) : ((a.set i x).take (i + 1)).map ByteArray.toList = (a.take i).map ByteArray.toList ++ [x.toList] := by
  rw [List.take_set, List.take_add_one, List.getElem?_eq_getElem h]
  rw [List.set_append_right _ _ (by simp; omega)]
  simp only [List.length_take, Option.toList_some, List.map_append]
  rw [show i - min i a.length = 0 by omega]
  simp
theorem genSplit_loop (c : UInt8) (n : Int) (hn : n ≤ 4194304) : ∀ (d : Nat) (s : ByteArray) (a : List ByteArray) (i k : Nat), s.toList.count c = d → n = (i : Int) + d → (a.length : Int) = n + 1 → s.size ≤ 4194304 → d < k →
    ∃ r, strings_genSplit.l0 k s (⟨#[c]⟩ : ByteArray) 0 n a (i : Int) = some r ∧ r.map ByteArray.toList = (a.take i).map ByteArray.toList ++ splitA c [] s.toList := by
  intro d
  induction d with
  | zero =>
    intro s a i k hd hi ha hs hk
    obtain ⟨k, rfl⟩ : ∃ m, k = m + 1 := ⟨k - 1, by omega⟩
    unfold strings_genSplit.l0
    rw [if_neg (by omega), if_pos (by omega), if_pos (by omega), w64 (by omega) (by omega), if_pos (by omega), if_pos (by omega)]
    refine ⟨_, rfl, ?_⟩
    rw [splitA_none c _ _ (List.count_eq_zero.1 hd), show ((i : Int) + 1).toNat = i + 1 by omega, Int.toNat_natCast, take_set_map _ _ _ (by omega)]
    simp
  | succ d ih =>
    intro s a i k hd hi ha hs hk
    obtain ⟨k, rfl⟩ : ∃ m, k = m + 1 := ⟨k - 1, by omega⟩
    unfold strings_genSplit.l0
    rw [if_pos (by omega), idx_one]
    simp only [Option.bind_some]
    rcases index_span c s.toList with ⟨h1, h2⟩ | ⟨p, t, h1, h2, h3⟩
    · rw [List.count_eq_zero.2 h1] at hd
      omega
    · have hz := size_mid h1
      simp only [List.length_cons] at hz
      have e1 : ((⟨#[c]⟩ : ByteArray).size : Int) = 1 := rfl
      rw [h3, e1, w64 (n := (p.length : Int) + 0) (by omega) (by omega), w64 (n := (p.length : Int) + 1) (by omega) (by omega), w64 (n := (i : Int) + 1) (by omega) (by omega)]
      rw [if_neg (by omega), if_pos (by omega), if_pos (by omega), if_pos (by omega), if_pos (by omega), if_pos (by omega), if_pos (by omega)]
      have ht : (s.extract ((p.length : Int) + 1).toNat s.size).toList = t := by
        rw [show ((p.length : Int) + 1).toNat = (p ++ [c]).length by simp only [List.length_append, List.length_cons, List.length_nil]; omega]
        exact ext_end (by simp [h1])
      have hp : (s.extract 0 ((p.length : Int) + 0).toNat).toList = p := by
        rw [tl_extract, h1]
        simp
      obtain ⟨r, e, l⟩ := ih (s.extract ((p.length : Int) + 1).toNat s.size) (a.set i (s.extract 0 ((p.length : Int) + 0).toNat)) (i + 1) k (by
        rw [ht]
        rw [h1, List.count_append, List.count_cons_self, List.count_eq_zero.2 h2] at hd
        omega) (by omega) (by simp only [List.length_set]; omega) (by
        rw [ByteArray.size_extract]
        omega) (by omega)
      refine ⟨r, ?_, ?_⟩
      · rw [← e]
        congr 1
      · rw [l, take_set_map _ _ _ (by omega), ht, hp, h1, splitA_span c t p [] h2]
        simp
theorem count_one (c : UInt8) (s : ByteArray) : strings_Count.f s (⟨#[c]⟩ : ByteArray) = some ((s.toList.count c : Nat) : Int) := by
  unfold strings_Count.f
  rw [if_pos (show (⟨#[c]⟩ : ByteArray).size = 1 from rfl), tl]
  rfl
theorem genSplit_j (c : UInt8) (s : ByteArray) (hs : s.size ≤ 4194304) (k n : Nat) (hn : s.toList.count c = n) (hc : n ≤ s.size) (hk : s.size + 2 < k) : ∃ r, strings_genSplit.j0 k s (⟨#[c]⟩ : ByteArray) 0 ((n : Int) + 1) = some r ∧ r.map ByteArray.toList = splitA c [] s.toList := by
  obtain ⟨k, rfl⟩ : ∃ m, k = m + 1 := ⟨k - 1, by omega⟩
  have hm : mn ((n : Int) + 1) (wrap64 ((s.size : Int) + 1)) = (n : Int) + 1 := by
    rw [w64 (by omega) (by omega)]
    unfold mn
    omega
  have hr : (List.replicate ((n : Int) + 1).toNat (⟨#[]⟩ : ByteArray)).length = n + 1 := by
    rw [List.length_replicate]
    omega
  simp only [strings_genSplit.j0, hm]
  generalize List.replicate ((n : Int) + 1).toNat (⟨#[]⟩ : ByteArray) = a at *
  rw [if_pos (by omega), if_pos (by omega), w64 (by omega) (by omega)]
  obtain ⟨r, e1, l⟩ := genSplit_loop c ((n : Int) + 1 - 1) (by omega) n s a 0 k hn (by omega) (by omega) hs (by omega)
  refine ⟨r, ?_, by simpa using l⟩
  simpa using e1
theorem split_one (c : UInt8) (s : ByteArray) (hs : s.size ≤ 4194304) (k : Nat) (hk : s.size + 2 < k) : ∃ r, strings_Split.f k s (⟨#[c]⟩ : ByteArray) = some r ∧ r.map ByteArray.toList = splitA c [] s.toList := by
  have hc : s.toList.count c ≤ s.size := by rw [← tl_length]; exact List.count_le_length
  obtain ⟨r, e, l⟩ := genSplit_j c s hs k _ rfl hc hk
  refine ⟨r, ?_, l⟩
  have hne : ¬ (⟨#[c]⟩ : ByteArray).toList = [] := by
    rw [tl]
    exact List.cons_ne_nil _ _
  unfold strings_Split.f strings_genSplit.f
  rw [if_neg (show ¬ (-1 : Int) = 0 by decide), if_neg hne, if_pos (show (-1 : Int) < 0 by decide), count_one]
  simp only [Option.bind_some]
  rw [w64 (by omega) (by omega), e]
  simp only [Option.bind_some]

theorem spec_parts_loop (s : ByteArray) (hs : s.size ≤ 4194304) : ∀ (t pre p : List UInt8) (out : List ByteArray) (k : Nat), s.toList = pre ++ (p ++ t) → out.length ≤ pre.length → t.length < k →
    ∃ r, spec_Parts.l0 k s out (pre.length : Int) ((pre.length + p.length : Nat) : Int) = some r ∧ r.map ByteArray.toList = out.map ByteArray.toList ++ splitA 47 p t
  | [], pre, p, out, k, h, ho, hk => by
    obtain ⟨k, rfl⟩ : ∃ m, k = m + 1 := ⟨k - 1, by omega⟩
    have hz := size_mid h
    simp only [List.length_append, List.length_nil] at hz
    unfold spec_Parts.l0
    rw [if_neg (by omega), if_pos (by omega), if_pos (by omega), if_pos (by omega)]
    refine ⟨_, rfl, ?_⟩
    rw [Int.toNat_natCast, List.map_append, List.map_cons, List.map_nil, ext_end (p := p) (by simpa using h)]
    rfl
  | b :: t, pre, p, out, k, h, ho, hk => by
    simp only [List.length_cons] at hk
    obtain ⟨k, rfl⟩ : ∃ m, k = m + 1 := ⟨k - 1, by omega⟩
    have hz := size_mid h
    simp only [List.length_append, List.length_cons] at hz
    have hb : bt s ((pre.length + p.length : Nat) : Int) = (b.toNat : Int) := by
      have := bt_mid (s := s) (pre := pre ++ p) (b := b) (t := t) (by simp [h])
      simpa using this
    unfold spec_Parts.l0
    rw [if_pos (by omega), if_pos (by omega), hb, w64 (by omega) (by omega)]
    by_cases hc : b = 47
    · subst hc
      rw [if_pos (show (((47 : UInt8).toNat : Nat) : Int) = 47 from rfl), if_pos (by omega), if_pos (by omega), if_pos (by omega), if_pos (by omega)]
      obtain ⟨r, e, l⟩ := spec_parts_loop s hs t (pre ++ p ++ [47]) [] (out ++ [s.extract ((pre.length : Nat) : Int).toNat ((pre.length + p.length : Nat) : Int).toNat]) k (by simp [h]) (by simp; omega) (by omega)
      have a1 : (((pre ++ p ++ [47]).length : Nat) : Int) = ((pre.length + p.length : Nat) : Int) + 1 := by
        simp only [List.length_append, List.length_cons, List.length_nil]
        omega
      have a2 : (((pre ++ p ++ [47]).length + ([] : List UInt8).length : Nat) : Int) = ((pre.length + p.length : Nat) : Int) + 1 := by
        simp only [List.length_append, List.length_cons, List.length_nil]
        omega
      rw [a1, a2] at e
      refine ⟨r, e, ?_⟩
      · rw [l]
        simp only [Int.toNat_natCast, List.map_append, List.map_cons, List.map_nil, splitA]
        rw [ext_mid h]
        simp
    · rw [if_neg (fun e : (b.toNat : Int) = 47 => hc (u8_eq.1 (show (b.toNat : Int) = ((47 : UInt8).toNat : Int) from e)))]
      obtain ⟨r, e, l⟩ := spec_parts_loop s hs t pre (p ++ [b]) out k (by simp [h]) ho (by omega)
      refine ⟨r, ?_, ?_⟩
      · rw [← e]
        congr 1
        simp
        omega
      · rw [l]
        simp only [splitA]
        rw [if_neg hc]
theorem spec_parts (s : ByteArray) (hs : s.size ≤ 4194304) (k : Nat) (hk : s.size < k) : ∃ r, spec_Parts.f k s = some r ∧ r.map ByteArray.toList = splitA 47 [] s.toList := by
  obtain ⟨r, e, l⟩ := spec_parts_loop s hs s.toList [] [] [] k rfl (by simp) (by rw [tl_length]; exact hk)
  exact ⟨r, e, by simpa using l⟩
theorem impl_parts (s : ByteArray) (hs : s.size ≤ 4194304) (k : Nat) (hk : s.size + 2 < k) : ∃ r, impl_Parts.f k s = some r ∧ r.map ByteArray.toList = splitA 47 [] s.toList := by
  obtain ⟨r, e, l⟩ := split_one 47 s hs k hk
  unfold impl_Parts.f
  rw [e]
  exact ⟨r, rfl, l⟩

theorem in_eq (a b c : Int) : spec_l01In.f a b c = some (decide (b ≤ a ∧ a ≤ c)) := by
  unfold spec_l01In.f
  by_cases h : b ≤ a
  · rw [if_pos h]; simp [h]
  · rw [if_neg h]; simp [h]

theorem within_eq (a b c : Int) : impl_within.f a b c = some (decide (b ≤ a ∧ a ≤ c)) := by
  unfold impl_within.f
  by_cases h : b ≤ a
  · rw [if_pos h]; simp [h]
  · rw [if_neg h]; simp [h]

theorem allB_list (p : Int → Bool) (s : ByteArray) : allB p s = s.toList.all (fun b => p (b.toNat : Int)) := rfl

/-- Is a text a component? -/
def partOkM (l : List UInt8) : Bool := decide (1 ≤ l.length ∧ l.length ≤ 60) && (l != [46]) && (l != [46, 46]) && l.all (fun b => pPart (b.toNat : Int))
theorem spec_part_loop (s : ByteArray) (hs : s.size ≤ 140737488351232) : ∀ (d k : Nat) (i : Int), 0 ≤ i → (s.size : Int) - i = d → d < k →
    spec_PartOk.l0 k s i = some ((s.toList.drop i.toNat).all (fun b => pPart (b.toNat : Int)) && (decide (1 ≤ s.toList.length ∧ s.toList.length ≤ 60) && (s.toList != [46]) && (s.toList != [46, 46]))) := by
  intro d
  induction d with
  | zero =>
    intro k i h0 hd hk
    obtain ⟨k, rfl⟩ : ∃ m, k = m + 1 := ⟨k - 1, by omega⟩
    simp only [spec_PartOk.l0]
    rw [if_neg (by omega), List.drop_eq_nil_of_le (by rw [tl_length]; omega), in_eq]
    simp only [Option.bind_some, List.all_nil, Bool.true_and, tl_length]
    by_cases h1 : 1 ≤ s.size ∧ s.size ≤ 60
    · rw [if_pos (by simpa using ⟨by omega, by omega⟩), decide_eq_true h1]
      by_cases h2 : s.toList = [46]
      · rw [if_pos h2]; simp [h2]
      · rw [if_neg h2]; simp [h2]
    · rw [if_neg (by simp; omega), decide_eq_false h1]
      simp
  | succ d ih =>
    intro k i h0 hd hk
    obtain ⟨k, rfl⟩ : ∃ m, k = m + 1 := ⟨k - 1, by omega⟩
    simp only [spec_PartOk.l0]
    obtain ⟨b, e, hbt⟩ := bt_step s i h0 (by omega)
    have hlt := b.toNat_lt
    rw [if_pos (by omega), if_pos h0, in_eq, hbt, w64 (n := (b.toNat : Int)) (by omega) (by omega), w64 (n := i + 1) (by omega) (by omega), ih k (i + 1) (by omega) (by omega) (by omega), e]
    simp only [Option.bind_some, List.all_cons]
    by_cases h1 : 33 ≤ (b.toNat : Int) ∧ (b.toNat : Int) ≤ 126
    · rw [if_pos (by simpa using h1)]
      by_cases h2 : (b.toNat : Int) = 47
      · rw [if_pos h2]; simp [pPart, h2]
      · have hp : pPart (b.toNat : Int) = true := by
          unfold pPart
          rw [decide_eq_true h1.1, decide_eq_true h1.2, bne_iff_ne.2 h2]
          rfl
        rw [if_neg h2, hp, Bool.true_and]
    · rw [if_neg (by simpa using h1)]
      have : pPart (b.toNat : Int) = false := by
        unfold pPart
        by_cases h3 : 33 ≤ (b.toNat : Int)
        · rw [decide_eq_false (show ¬ (b.toNat : Int) ≤ 126 by omega)]; simp
        · rw [decide_eq_false h3]; simp
      rw [this]
      simp
theorem spec_partOk (s : ByteArray) (hs : s.size ≤ 140737488351232) (k : Nat) (hk : s.size < k) : spec_PartOk.f k s = some (partOkM s.toList) := by
  unfold spec_PartOk.f partOkM
  rw [spec_part_loop s hs s.size k 0 (by omega) (by omega) hk, Bool.and_comm]
  rfl
theorem impl_partOk (s : ByteArray) (hs : s.size ≤ 140737488351232) : impl_PartOk.f s = some (partOkM s.toList) := by
  unfold impl_PartOk.f partOkM
  rw [within_eq]
  simp only [Option.bind_some, tl_length]
  by_cases h1 : 1 ≤ s.size ∧ s.size ≤ 60
  · rw [if_pos (by simpa using ⟨by omega, by omega⟩), decide_eq_true h1]
    by_cases h2 : s.toList = [46]
    · rw [if_pos h2]; simp [h2]
    · rw [if_neg h2]
      by_cases h3 : s.toList = [46, 46]
      · rw [if_pos h3]; simp [h3]
      · rw [if_neg h3]
        unfold impl_areBytes.f
        rw [if_pos (by omega)]
        simp [h2, h3, allB]
  · rw [if_neg (by simp; omega), decide_eq_false h1]
    simp

/-- Is a text a path? -/
def pathOkM (l : List UInt8) : Bool := decide (l.length ≤ 200) && (splitA 47 [] l).all partOkM
theorem spec_path_loop (s : ByteArray) : ∀ (t pre : List ByteArray) (k : Nat), (∀ x ∈ t, x.size ≤ 4194304) → pre.length + t.length ≤ 100000000 → t.length + 4194310 < k →
    spec_PathOk.l0 k s (pre ++ t) (pre.length : Int) = some ((t.map ByteArray.toList).all partOkM && decide (s.toList.length ≤ 200))
  | [], pre, k, hx, hl, hk => by
    obtain ⟨k, rfl⟩ : ∃ m, k = m + 1 := ⟨k - 1, by omega⟩
    unfold spec_PathOk.l0
    rw [if_neg (by simp)]
    simp [tl_length]
    omega
  | x :: t, pre, k, hx, hl, hk => by
    simp only [List.length_cons] at hl hk
    obtain ⟨k, rfl⟩ : ∃ m, k = m + 1 := ⟨k - 1, by omega⟩
    have hs : x.size ≤ 4194304 := hx x (by simp)
    unfold spec_PathOk.l0
    have er : rdOf ByteArray.empty (pre ++ x :: t) (pre.length : Int) = x := by
      unfold rdOf
      rw [Int.toNat_natCast, List.getD_eq_getElem?_getD, List.getElem?_append_right (Nat.le_refl _)]
      simp
    rw [if_pos (by simp; omega), if_pos (by omega), er, spec_partOk x (by omega) k (by omega), w64 (by omega) (by omega)]
    simp only [Option.bind_some, List.map_cons, List.all_cons]
    have := spec_path_loop s t (pre ++ [x]) k (fun y hy => hx y (by simp [hy])) (by simp only [List.length_append, List.length_cons, List.length_nil]; omega) (by omega)
    simp only [List.length_append, List.length_cons, List.length_nil, List.append_assoc, List.singleton_append] at this
    by_cases hp : partOkM x.toList = true
    · rw [if_pos hp, show ((pre.length : Int) + 1) = ((pre.length + (0 + 1) : Nat) : Int) by omega, this, hp]
      simp
    · rw [if_neg hp]
      simp [Bool.eq_false_iff.2 hp]
theorem parts_sizes {s : ByteArray} {r : List ByteArray} (h : r.map ByteArray.toList = splitA 47 [] s.toList) : r.length ≤ s.size + 1 ∧ ∀ x ∈ r, x.size ≤ s.size := by
  constructor
  · have := congrArg List.length h
    have h3 := splitA_le 47 s.toList []
    rw [tl_length] at h3
    rw [List.length_map] at this
    omega
  · intro x hx
    have hm : x.toList ∈ splitA 47 [] s.toList := by
      rw [← h]
      exact List.mem_map_of_mem hx
    have := splitA_mem 47 _ _ _ hm
    rw [tl_length, tl_length] at this
    simpa using this
theorem spec_pathOk (s : ByteArray) (hs : s.size ≤ 4194304) (k : Nat) (hk : s.size + 4194400 < k) : spec_PathOk.f k s = some (pathOkM s.toList) := by
  obtain ⟨r, e, l⟩ := spec_parts s hs k (by omega)
  obtain ⟨h1, h2⟩ := parts_sizes l
  unfold spec_PathOk.f
  rw [e]
  simp only [Option.bind_some]
  have := spec_path_loop s r [] k (fun x hx => Nat.le_trans (h2 x hx) hs) (by simp; omega) (by omega)
  simp only [List.nil_append, List.length_nil] at this
  rw [show ((0 : Nat) : Int) = 0 from rfl] at this
  rw [this, l, Bool.and_comm]
  rfl
theorem all_parts : ∀ r : List ByteArray, (∀ x ∈ r, x.size ≤ 4194304) → allS impl_PartOk.f r = some ((r.map ByteArray.toList).all partOkM)
  | [], _ => rfl
  | x :: r, h => by
    have hx := h x (by simp)
    simp only [allS]
    rw [impl_partOk x (by omega)]
    simp only [Option.bind_some, List.map_cons, List.all_cons]
    by_cases hp : partOkM x.toList = true
    · rw [if_pos hp, all_parts r (fun y hy => h y (by simp [hy])), hp]
      simp
    · rw [if_neg hp]
      simp [Bool.eq_false_iff.2 hp]
theorem impl_pathOk (s : ByteArray) (hs : s.size ≤ 4194304) (k : Nat) (hk : s.size + 2 < k) : impl_PathOk.f k s = some (pathOkM s.toList) := by
  unfold impl_PathOk.f pathOkM
  rw [tl_length]
  by_cases h : s.size ≤ 200
  · rw [if_pos (by omega), decide_eq_true h]
    obtain ⟨r, e, l⟩ := impl_parts s hs k hk
    obtain ⟨h1, h2⟩ := parts_sizes l
    rw [e]
    simp only [Option.bind_some]
    unfold impl_areAll_string.f
    rw [if_pos rfl, all_parts r (fun x hx => Nat.le_trans (h2 x hx) hs), l]
    simp
  · rw [if_neg (by omega), decide_eq_false h]
    simp

/-! ### Lists of texts: sized, copied -/
def sizeStr (l : List ByteArray) : Nat := (l.map ByteArray.size).sum
theorem sizeStr_cons (x : ByteArray) (l : List ByteArray) : sizeStr (x :: l) = x.size + sizeStr l := rfl
theorem rd_mid (pre t : List ByteArray) (x : ByteArray) : rdOf ByteArray.empty (pre ++ x :: t) (pre.length : Int) = x := by
  unfold rdOf
  rw [Int.toNat_natCast, List.getD_eq_getElem?_getD, List.getElem?_append_right (Nat.le_refl _)]
  simp

def joinM (l : List ByteArray) : List UInt8 := Lib.join (l.map ByteArray.toList) [47]
theorem joinTail_cons (sep : List UInt8) (x : List UInt8) (r : List (List UInt8)) : Lib.joinTail sep (x :: r) = sep ++ x ++ Lib.joinTail sep r := by
  simp [Lib.joinTail]
theorem joinTail_len : ∀ l : List ByteArray, (Lib.joinTail [47] (l.map ByteArray.toList)).length = sizeStr l + l.length
  | [] => rfl
  | x :: l => by
    rw [List.map_cons, joinTail_cons, sizeStr_cons]
    simp only [List.length_append, List.length_cons, List.length_nil, joinTail_len l, tl_length]
    omega
theorem joinM_len (l : List ByteArray) : (joinM l).length ≤ sizeStr l + l.length := by
  unfold joinM
  cases l with
  | nil => simp [Lib.join_nil]
  | cons x l =>
    rw [List.map_cons, Lib.join_cons, List.length_append, joinTail_len, tl_length, sizeStr_cons, List.length_cons]
    omega
theorem spec_join_loop : ∀ (t pre : List ByteArray) (out : ByteArray) (k : Nat), 0 < pre.length → pre.length + t.length ≤ 1000000000000 → out.size + sizeStr t + t.length ≤ 1000000000000 → t.length < k →
    ∃ r, spec_Join.l0 k (pre ++ t) out (pre.length : Int) = some r ∧ r.toList = out.toList ++ Lib.joinTail [47] (t.map ByteArray.toList)
  | [], pre, out, k, h0, hl, hs, hk => by
    obtain ⟨k, rfl⟩ : ∃ m, k = m + 1 := ⟨k - 1, by omega⟩
    unfold spec_Join.l0
    rw [if_neg (by simp)]
    exact ⟨out, rfl, by simp [Lib.joinTail]⟩
  | x :: t, pre, out, k, h0, hl, hs, hk => by
    simp only [List.length_cons, sizeStr_cons] at hl hk hs
    obtain ⟨k, rfl⟩ : ∃ m, k = m + 1 := ⟨k - 1, by omega⟩
    have e1 : (out ++ (⟨#[47]⟩ : ByteArray)).size = out.size + 1 := by rw [ByteArray.size_append]; rfl
    unfold spec_Join.l0
    rw [if_pos (by simp; omega), if_pos (by omega), if_pos (by omega), if_pos (by omega), rd_mid, if_pos (by omega), w64 (by omega) (by omega)]
    have ih := spec_join_loop t (pre ++ [x]) ((out ++ (⟨#[47]⟩ : ByteArray)) ++ x) k (by simp) (by simp only [List.length_append, List.length_cons, List.length_nil]; omega) (by rw [ByteArray.size_append]; omega) (by omega)
    simp only [List.length_append, List.length_cons, List.length_nil, List.append_assoc, List.singleton_append] at ih
    obtain ⟨r, e, l⟩ := ih
    rw [show ((pre.length : Int) + 1) = ((pre.length + (0 + 1) : Nat) : Int) by omega]
    refine ⟨r, e, ?_⟩
    rw [l, tl_append, tl_append, List.map_cons, joinTail_cons]
    have : (⟨#[47]⟩ : ByteArray).toList = [47] := by rw [tl]
    rw [this]
    simp
theorem spec_join (l : List ByteArray) (hl : l.length ≤ 8388608) (hs : sizeStr l ≤ 8388608) (k : Nat) (hk : l.length < k) : ∃ r, spec_Join.f k l = some r ∧ r.toList = joinM l := by
  unfold spec_Join.f joinM
  cases l with
  | nil =>
    obtain ⟨k, rfl⟩ : ∃ m, k = m + 1 := ⟨k - 1, by omega⟩
    unfold spec_Join.l0
    rw [if_neg (by simp)]
    exact ⟨_, rfl, by rw [tl]; rfl⟩
  | cons x t =>
    simp only [List.length_cons, sizeStr_cons] at hl hk hs
    obtain ⟨k, rfl⟩ : ∃ m, k = m + 1 := ⟨k - 1, by omega⟩
    unfold spec_Join.l0
    have er : rdOf ByteArray.empty (x :: t) 0 = x := rfl
    have e0 : (⟨#[]⟩ : ByteArray).size = 0 := rfl
    rw [if_pos (by simp only [List.length_cons]; omega), if_neg (by decide), if_pos (by decide), er, if_pos (by omega), w64 (by decide) (by decide)]
    obtain ⟨r, e, l⟩ := spec_join_loop t [x] ((⟨#[]⟩ : ByteArray) ++ x) k (by simp) (by simp; omega) (by rw [ByteArray.size_append]; omega) (by omega)
    refine ⟨r, e, ?_⟩
    rw [l, tl_append, List.map_cons, Lib.join_cons]
    have : (⟨#[]⟩ : ByteArray).toList = [] := by rw [tl]
    rw [this]
    simp
theorem lib_join (l : List ByteArray) (sep : ByteArray) (hl : l.length ≤ 8388608) (hs : (Lib.join (l.map ByteArray.toList) sep.toList).length ≤ 140737488355328) : ∃ r, strings_Join.f l sep = some r ∧ r.toList = Lib.join (l.map ByteArray.toList) sep.toList := by
  have e : l.map (fun x => x.data.toList) = l.map ByteArray.toList := List.map_congr_left fun x _ => (tl x).symm
  unfold strings_Join.f
  rw [e, ← tl sep, if_pos ⟨by omega, hs⟩]
  exact ⟨_, rfl, tl_mk _⟩
theorem impl_join (l : List ByteArray) (hl : l.length ≤ 8388608) (hs : sizeStr l ≤ 8388608) : ∃ r, impl_Join.f l = some r ∧ r.toList = joinM l := by
  have h47 : (⟨#[47]⟩ : ByteArray).toList = [47] := by rw [tl]
  have := joinM_len l
  obtain ⟨r, e, h⟩ := lib_join l (⟨#[47]⟩ : ByteArray) hl (by rw [h47]; unfold joinM at this; omega)
  unfold impl_Join.f
  rw [e]
  exact ⟨r, rfl, by rw [h, h47]; rfl⟩

theorem sizeStr_sum : ∀ l : List ByteArray, sizeStr l = sumLen (l.map ByteArray.toList)
  | [] => rfl
  | x :: l => by
    rw [sizeStr_cons, sizeStr_sum l]
    simp [sumLen, tl_length]
theorem sizeStr_drop : ∀ (n : Nat) (l : List ByteArray), sizeStr (l.drop n) ≤ sizeStr l
  | 0, l => Nat.le_refl _
  | n + 1, [] => Nat.le_refl _
  | n + 1, x :: l => by
    have := sizeStr_drop n l
    rw [sizeStr_cons, List.drop_succ_cons]
    omega
theorem sizeStr_append (a b : List ByteArray) : sizeStr (a ++ b) = sizeStr a + sizeStr b := by
  induction a with
  | nil => simp [sizeStr]
  | cons x a ih => rw [List.cons_append, sizeStr_cons, sizeStr_cons, ih]; omega
theorem sizeStr_take (n : Nat) (l : List ByteArray) : sizeStr (l.take n) ≤ sizeStr l := by
  have h := sizeStr_append (l.take n) (l.drop n)
  rw [List.take_append_drop] at h
  omega
theorem parts_sum {s : ByteArray} {r : List ByteArray} (h : r.map ByteArray.toList = splitA 47 [] s.toList) : sizeStr r + r.length = s.size + 1 := by
  have h1 := splitA_sum 47 s.toList []
  have h2 : r.length = (splitA 47 [] s.toList).length := by rw [← h, List.length_map]
  rw [← h, ← sizeStr_sum, h, ← h2, tl_length] at h1
  simpa using h1

/-- The parts that a text with strokes means; none where it leads out. -/
def cleanM : List (List UInt8) → List (List UInt8) → Option (List (List UInt8))
  | out, [] => some out
  | out, x :: t => if x = [] ∨ x = [46] then cleanM out t else if x = [46, 46] then (if out = [] then none else cleanM (out.take (out.length - 1)) t) else cleanM (out ++ [x]) t
def resM : Option (List (List UInt8)) → List UInt8 × Bool
  | none => ([], false)
  | some o => if pathOkM (Lib.join o [47]) = true then (Lib.join o [47], true) else ([], false)
theorem empty_list : (⟨#[]⟩ : ByteArray).toList = [] := by rw [tl]
theorem spec_clean_loop : ∀ (t pre out : List ByteArray) (k : Nat), pre.length + t.length ≤ 1000000000 → sizeStr out + out.length + sizeStr t + t.length ≤ 4194304 → 2 * t.length + 8500000 < k →
    ∃ r, spec_Clean.l0 k (pre ++ t) out (pre.length : Int) = some r ∧ (r.1.toList, r.2) = resM (cleanM (out.map ByteArray.toList) (t.map ByteArray.toList))
  | [], pre, out, k, hl, hs, hk => by
    simp only [List.length_nil] at hs hk
    obtain ⟨k, rfl⟩ : ∃ m, k = m + 1 := ⟨k - 1, by omega⟩
    unfold spec_Clean.l0
    rw [if_neg (by simp)]
    obtain ⟨q, e, l⟩ := spec_join out (by omega) (by omega) k (by omega)
    have hq : q.size ≤ 4194304 := by
      have := joinM_len out
      rw [← l, tl_length] at this
      omega
    rw [e]
    simp only [Option.bind_some]
    rw [spec_pathOk q hq k (by omega), l]
    simp only [Option.bind_some, List.map_nil, cleanM, resM]
    unfold joinM at l ⊢
    by_cases hp : pathOkM (Lib.join (out.map ByteArray.toList) [47]) = true
    · rw [if_pos hp, if_pos hp]
      exact ⟨_, rfl, by rw [l]⟩
    · rw [if_neg hp, if_neg hp]
      exact ⟨_, rfl, by rw [empty_list]⟩
  | x :: t, pre, out, k, hl, hs, hk => by
    simp only [List.length_cons, sizeStr_cons] at hl hk hs
    obtain ⟨k, rfl⟩ : ∃ m, k = m + 2 := ⟨k - 2, by omega⟩
    have next : ∀ out2 : List ByteArray, sizeStr out2 + out2.length + sizeStr t + t.length ≤ 4194304 → ∃ r, spec_Clean.l0 k (pre ++ x :: t) out2 ((pre.length : Int) + 1) = some r ∧ (r.1.toList, r.2) = resM (cleanM (out2.map ByteArray.toList) (t.map ByteArray.toList)) := by
      intro out2 h2
      have ih := spec_clean_loop t (pre ++ [x]) out2 k (by simp only [List.length_append, List.length_cons, List.length_nil]; omega) h2 (by omega)
      simp only [List.length_append, List.length_cons, List.length_nil, List.append_assoc, List.singleton_append] at ih
      rw [show ((pre.length : Int) + 1) = ((pre.length + (0 + 1) : Nat) : Int) by omega]
      exact ih
    have hlt : (pre.length : Int) < ((pre ++ x :: t).length : Int) := by simp; omega
    simp only [List.map_cons, cleanM]
    unfold spec_Clean.l0
    rw [if_pos hlt, if_pos (by omega), rd_mid]
    by_cases h1 : x.toList = []
    · rw [if_pos h1, if_pos (Or.inl h1)]
      unfold spec_Clean.j1
      rw [if_pos rfl, w64 (by omega) (by omega)]
      exact next out (by omega)
    rw [if_neg h1]
    by_cases h2 : x.toList = [46]
    · rw [if_pos (Or.inr h2), beq_iff_eq.2 h2]
      unfold spec_Clean.j1
      rw [if_pos rfl, w64 (by omega) (by omega)]
      exact next out (by omega)
    rw [if_neg (fun h => h.elim h1 h2), beq_eq_false_iff_ne.2 h2]
    unfold spec_Clean.j1
    rw [if_neg (by decide), if_pos (by omega), if_pos hlt, rd_mid, w64 (n := (pre.length : Int) + 1) (by omega) (by omega)]
    by_cases h3 : x.toList = [46, 46]
    · rw [if_pos h3, if_pos h3]
      by_cases h4 : out = []
      · subst h4
        rw [if_pos (show (([] : List ByteArray).length : Int) = 0 from rfl), if_pos (show List.map ByteArray.toList [] = [] from rfl)]
        exact ⟨_, rfl, by rw [empty_list]; rfl⟩
      · have h5 : 0 < out.length := List.length_pos_iff.2 h4
        rw [if_neg (by omega), if_neg (fun h => h4 (List.map_eq_nil_iff.1 h)), w64 (by omega) (by omega), if_pos (by omega), if_pos (by omega)]
        have := next (out.take ((out.length : Int) - 1).toNat) (by
          have := sizeStr_take ((out.length : Int) - 1).toNat out
          rw [List.length_take]
          omega)
        rw [List.map_take] at this
        rw [List.length_map]
        rw [show ((out.length : Int) - 1).toNat = out.length - 1 by omega] at this ⊢
        exact this
    · rw [if_neg h3, if_neg h3, if_pos (by omega)]
      have := next (out ++ [x]) (by
        rw [sizeStr_append, List.length_append]
        simp only [sizeStr_cons, List.length_cons, List.length_nil]
        simp only [sizeStr, List.map_nil, List.sum_nil] at *
        omega)
      rw [List.map_append] at this
      exact this
theorem impl_clean_loop (xs : List ByteArray) : ∀ (t pre out : List ByteArray) (k : Nat), xs = pre ++ t → pre.length + t.length ≤ 1000000000 → sizeStr out + out.length + sizeStr t + t.length ≤ 4194304 → 2 * t.length + 8500000 < k →
    ∃ r, impl_Clean.l0 k out xs (xs.length : Int) (pre.length : Int) = some r ∧ (r.1.toList, r.2) = resM (cleanM (out.map ByteArray.toList) (t.map ByteArray.toList))
  | [], pre, out, k, hx, hl, hs, hk => by
    simp only [List.length_nil] at hs hk
    obtain ⟨k, rfl⟩ : ∃ m, k = m + 1 := ⟨k - 1, by omega⟩
    unfold impl_Clean.l0
    rw [if_neg (by simp [hx])]
    obtain ⟨q, e, l⟩ := impl_join out (by omega) (by omega)
    have hq : q.size ≤ 4194304 := by
      have := joinM_len out
      rw [← l, tl_length] at this
      omega
    rw [e]
    simp only [Option.bind_some]
    rw [impl_pathOk q hq k (by omega), l]
    simp only [Option.bind_some, List.map_nil, cleanM, resM]
    unfold joinM at l ⊢
    by_cases hp : pathOkM (Lib.join (out.map ByteArray.toList) [47]) = true
    · rw [if_pos hp, if_pos hp]
      exact ⟨_, rfl, by rw [l]⟩
    · rw [if_neg hp, if_neg hp]
      exact ⟨_, rfl, by rw [empty_list]⟩
  | x :: t, pre, out, k, hx, hl, hs, hk => by
    simp only [List.length_cons, sizeStr_cons] at hl hk hs
    obtain ⟨k, rfl⟩ : ∃ m, k = m + 2 := ⟨k - 2, by omega⟩
    have next : ∀ out2 : List ByteArray, sizeStr out2 + out2.length + sizeStr t + t.length ≤ 4194304 → ∃ r, impl_Clean.l0 k out2 xs (xs.length : Int) ((pre.length : Int) + 1) = some r ∧ (r.1.toList, r.2) = resM (cleanM (out2.map ByteArray.toList) (t.map ByteArray.toList)) := by
      intro out2 h2
      have ih := impl_clean_loop xs t (pre ++ [x]) out2 k (by simp [hx]) (by simp only [List.length_append, List.length_cons, List.length_nil]; omega) h2 (by omega)
      simp only [List.length_append, List.length_cons, List.length_nil] at ih
      rw [show ((pre.length : Int) + 1) = ((pre.length + (0 + 1) : Nat) : Int) by omega]
      exact ih
    have hlt : (pre.length : Int) < (xs.length : Int) := by rw [hx]; simp; omega
    have er : rdOf ByteArray.empty xs (pre.length : Int) = x := by rw [hx]; exact rd_mid pre t x
    simp only [List.map_cons, cleanM]
    unfold impl_Clean.l0
    rw [if_pos hlt, if_pos (by omega), if_pos hlt, er]
    by_cases h1 : x.toList = []
    · rw [if_pos h1, if_pos (Or.inl h1), beq_iff_eq.2 h1]
      unfold impl_Clean.j1
      rw [if_pos rfl, w64 (by omega) (by omega)]
      exact next out (by omega)
    rw [if_neg h1]
    by_cases h2 : x.toList = [46]
    · rw [if_pos (Or.inr h2), beq_iff_eq.2 h2]
      unfold impl_Clean.j1
      rw [if_pos rfl, w64 (by omega) (by omega)]
      exact next out (by omega)
    rw [if_neg (fun h => h.elim h1 h2), beq_eq_false_iff_ne.2 h2]
    unfold impl_Clean.j1
    rw [if_neg (by decide), w64 (n := (pre.length : Int) + 1) (by omega) (by omega)]
    by_cases h3 : x.toList = [46, 46]
    · rw [if_pos h3, if_pos h3]
      by_cases h4 : out = []
      · subst h4
        rw [if_pos (show (([] : List ByteArray).length : Int) = 0 from rfl), if_pos (show List.map ByteArray.toList [] = [] from rfl)]
        exact ⟨_, rfl, by rw [empty_list]; rfl⟩
      · have h5 : 0 < out.length := List.length_pos_iff.2 h4
        rw [if_neg (by omega), if_neg (fun h => h4 (List.map_eq_nil_iff.1 h)), w64 (by omega) (by omega), if_pos (by omega), if_pos (by omega)]
        have := next (out.take ((out.length : Int) - 1).toNat) (by
          have := sizeStr_take ((out.length : Int) - 1).toNat out
          rw [List.length_take]
          omega)
        rw [List.map_take] at this
        rw [List.length_map]
        rw [show ((out.length : Int) - 1).toNat = out.length - 1 by omega] at this ⊢
        exact this
    · rw [if_neg h3, if_neg h3, if_pos (by omega)]
      have := next (out ++ [x]) (by
        rw [sizeStr_append, List.length_append]
        simp only [sizeStr_cons, List.length_cons, List.length_nil]
        simp only [sizeStr, List.map_nil, List.sum_nil] at *
        omega)
      rw [List.map_append] at this
      exact this
theorem spec_clean (s : ByteArray) (hs : s.size ≤ 2097160) (k : Nat) (hk : 14000000 < k) : ∃ r, spec_Clean.f k s = some r ∧ (r.1.toList, r.2) = resM (cleanM [] (splitA 47 [] s.toList)) := by
  obtain ⟨r, e, l⟩ := spec_parts s (by omega) k (by omega)
  have hz := parts_sum l
  unfold spec_Clean.f
  rw [e]
  simp only [Option.bind_some]
  obtain ⟨q, e2, l2⟩ := spec_clean_loop r [] [] k (by simp; omega) (by simp only [sizeStr, List.map_nil, List.sum_nil, List.length_nil] at *; omega) (by omega)
  refine ⟨q, e2, ?_⟩
  rw [l2, l]
  rfl
theorem impl_clean (s : ByteArray) (hs : s.size ≤ 2097160) (k : Nat) (hk : 14000000 < k) : ∃ r, impl_Clean.f k s = some r ∧ (r.1.toList, r.2) = resM (cleanM [] (splitA 47 [] s.toList)) := by
  obtain ⟨r, e, l⟩ := impl_parts s (by omega) k (by omega)
  have hz := parts_sum l
  unfold impl_Clean.f
  rw [e]
  simp only [Option.bind_some]
  obtain ⟨q, e2, l2⟩ := impl_clean_loop r r [] [] k rfl (by simp; omega) (by simp only [sizeStr, List.map_nil, List.sum_nil, List.length_nil] at *; omega) (by omega)
  refine ⟨q, e2, ?_⟩
  rw [l2, l]
  rfl

theorem join_more (p : List UInt8) (X : List (List UInt8)) (h : X ≠ []) : Lib.join (p :: X) [47] = p ++ ([47] ++ Lib.join X [47]) := by
  cases X with
  | nil => exact absurd rfl h
  | cons y ys =>
    rw [Lib.join_cons, Lib.join_cons, joinTail_cons]
    simp
theorem splitA_ne (c : UInt8) (t p : List UInt8) : splitA c p t ≠ [] := fun h => by
  have := splitA_length c t p
  rw [h] at this
  simp at this
theorem join_split : ∀ t p : List UInt8, Lib.join (splitA 47 p t) [47] = p ++ t
  | [], p => by simp [splitA, Lib.join_one]
  | b :: t, p => by
    simp only [splitA]
    by_cases h : b = 47
    · rw [if_pos h, join_more _ _ (splitA_ne 47 t []), join_split t []]
      simp [h]
    · rw [if_neg h, join_split t (p ++ [b])]
      simp
theorem clean_ok : ∀ (xs out : List (List UInt8)), (∀ x ∈ xs, partOkM x = true) → cleanM out xs = some (out ++ xs)
  | [], out, _ => by simp [cleanM]
  | x :: xs, out, h => by
    have hx := h x (by simp)
    unfold partOkM at hx
    simp only [Bool.and_eq_true, decide_eq_true_eq, bne_iff_ne, ne_eq] at hx
    have h1 : x ≠ [] := fun e => by
      have := hx.1.1.1.1
      rw [e] at this
      simp at this
    simp only [cleanM]
    rw [if_neg (fun e => e.elim h1 hx.1.1.2), if_neg hx.1.2, clean_ok xs _ (fun y hy => h y (by simp [hy]))]
    simp
theorem clean_path (l : List UInt8) (h : pathOkM l = true) : resM (cleanM [] (splitA 47 [] l)) = (l, true) := by
  have hp := h
  unfold pathOkM at h
  simp only [Bool.and_eq_true, List.all_eq_true] at h
  rw [clean_ok _ [] h.2]
  simp only [List.nil_append, resM]
  rw [join_split l [], List.nil_append, if_pos hp]
theorem res_ok (m : Option (List (List UInt8))) (h : (resM m).2 = true) : pathOkM (resM m).1 = true := by
  cases m with
  | none => simp [resM] at h
  | some o =>
    simp only [resM] at h ⊢
    by_cases c : pathOkM (Lib.join o [47]) = true
    · rw [if_pos c]
      exact c
    · rw [if_neg c] at h
      cases h

theorem has_prefix (a p : ByteArray) : strings_HasPrefix.f a p = some (a.toList.take p.toList.length == p.toList) := by
  unfold strings_HasPrefix.f stringslite_HasPrefix.f
  by_cases h : p.size ≤ a.size
  · rw [if_pos (by omega), if_pos (by omega), if_pos (by omega), tl_extract, List.drop_zero, Int.toNat_natCast, tl_length]
    rfl
  · rw [if_neg (by omega)]
    simp only [Option.bind_some]
    congr 1
    symm
    rw [beq_eq_false_iff_ne]
    intro e
    have := congrArg List.length e
    simp only [List.length_take, tl_length] at this
    omega

def followM (a b : List UInt8) : List UInt8 × Bool := resM (cleanM [] (splitA 47 [] (if a = [] ∨ b.take 1 = [47] then b else a ++ [47] ++ b)))
theorem follow_text (a b : ByteArray) : ((a ++ (⟨#[47]⟩ : ByteArray)) ++ b).toList = a.toList ++ [47] ++ b.toList ∧ ((a ++ (⟨#[47]⟩ : ByteArray)) ++ b).size = a.size + 1 + b.size := by
  have h47 : (⟨#[47]⟩ : ByteArray).toList = [47] := by rw [tl]
  constructor
  · rw [tl_append, tl_append, h47]
  · rw [ByteArray.size_append, ByteArray.size_append]
    rfl
theorem head_stroke (b : ByteArray) : ((b.size : Int) > 0 ∧ bt b 0 = 47) ↔ b.toList.take 1 = [47] := by
  by_cases h : b.size = 0
  · have : b.toList = [] := List.length_eq_zero_iff.1 (by rw [tl_length]; exact h)
    rw [this]
    simp [h]
  · obtain ⟨x, hx, hb⟩ := bt_step b 0 (by decide) (by omega)
    have e : b.toList = x :: b.toList.drop 1 := by simpa using hx
    rw [e, hb]
    simp only [List.take_succ_cons, List.take_zero, List.cons.injEq, and_true]
    constructor
    · rintro ⟨_, h2⟩
      exact (u8_eq (c := 47)).1 h2
    · rintro rfl
      exact ⟨by omega, rfl⟩
theorem spec_follow_j (a b : ByteArray) (ha : a.size ≤ 1048576) (hb : b.size ≤ 1048576) (k : Nat) (hk : 14000002 < k) (x : Bool) : ∃ r, spec_Follow.j0 k a b x = some r ∧ (r.1.toList, r.2) = resM (cleanM [] (splitA 47 [] (if x = true then b.toList else a.toList ++ [47] ++ b.toList))) := by
  obtain ⟨k, rfl⟩ : ∃ m, k = m + 1 := ⟨k - 1, by omega⟩
  simp only [spec_Follow.j0]
  cases x with
  | true =>
    obtain ⟨r, e, l⟩ := spec_clean b (by omega) k (by omega)
    rw [if_pos rfl, if_pos rfl, e]
    exact ⟨_, rfl, l⟩
  | false =>
    have ht := follow_text a b
    have h1 : (⟨#[47]⟩ : ByteArray).size = 1 := rfl
    obtain ⟨r, e, l⟩ := spec_clean ((a ++ (⟨#[47]⟩ : ByteArray)) ++ b) (by omega) k (by omega)
    simp only [Bool.false_eq_true, if_false]
    rw [if_pos (show a.size + 1 ≤ 9223372036854775807 by omega), if_pos (show (a ++ (⟨#[47]⟩ : ByteArray)).size + b.size ≤ 9223372036854775807 by rw [ByteArray.size_append, h1]; omega), e]
    exact ⟨_, rfl, by rw [← ht.1]; exact l⟩
theorem impl_follow_j (a b : ByteArray) (ha : a.size ≤ 1048576) (hb : b.size ≤ 1048576) (k : Nat) (hk : 14000002 < k) (x : Bool) : ∃ r, impl_Follow.j0 k a b x = some r ∧ (r.1.toList, r.2) = resM (cleanM [] (splitA 47 [] (if x = true then b.toList else a.toList ++ [47] ++ b.toList))) := by
  obtain ⟨k, rfl⟩ : ∃ m, k = m + 1 := ⟨k - 1, by omega⟩
  simp only [impl_Follow.j0]
  cases x with
  | true =>
    obtain ⟨r, e, l⟩ := impl_clean b (by omega) k (by omega)
    rw [if_pos rfl, if_pos rfl, e]
    exact ⟨_, rfl, l⟩
  | false =>
    have ht := follow_text a b
    have h1 : (⟨#[47]⟩ : ByteArray).size = 1 := rfl
    obtain ⟨r, e, l⟩ := impl_clean ((a ++ (⟨#[47]⟩ : ByteArray)) ++ b) (by omega) k (by omega)
    simp only [Bool.false_eq_true, if_false]
    rw [if_pos (show a.size + 1 ≤ 9223372036854775807 by omega), if_pos (show (a ++ (⟨#[47]⟩ : ByteArray)).size + b.size ≤ 9223372036854775807 by rw [ByteArray.size_append, h1]; omega), e]
    exact ⟨_, rfl, by rw [← ht.1]; exact l⟩
theorem spec_follow (a b : ByteArray) (ha : a.size ≤ 1048576) (hb : b.size ≤ 1048576) (k : Nat) (hk : 14000002 < k) : ∃ r, spec_Follow.f k a b = some r ∧ (r.1.toList, r.2) = followM a.toList b.toList := by
  have hh := head_stroke b
  unfold spec_Follow.f followM
  by_cases h0 : (b.size : Int) > 0
  · rw [if_pos h0, if_pos (by omega)]
    by_cases h1 : bt b 0 = 47
    · rw [if_pos h1]
      obtain ⟨r, e, l⟩ := spec_follow_j a b ha hb k hk true
      refine ⟨r, e, ?_⟩
      rw [l, if_pos rfl, if_pos (Or.inr (hh.1 ⟨h0, h1⟩))]
    · rw [if_neg h1]
      have h2 : ¬ b.toList.take 1 = [47] := fun h => h1 (hh.2 h).2
      obtain ⟨r, e, l⟩ := spec_follow_j a b ha hb k hk (a.toList == [])
      refine ⟨r, e, ?_⟩
      rw [l]
      by_cases h3 : a.toList = []
      · rw [if_pos (by simpa using h3), if_pos (Or.inl h3)]
      · rw [if_neg (by simpa using h3), if_neg (fun h => h.elim h3 h2)]
  · rw [if_neg h0]
    have h2 : ¬ b.toList.take 1 = [47] := fun h => h0 (hh.2 h).1
    obtain ⟨r, e, l⟩ := spec_follow_j a b ha hb k hk (a.toList == [])
    refine ⟨r, e, ?_⟩
    rw [l]
    by_cases h3 : a.toList = []
    · rw [if_pos (by simpa using h3), if_pos (Or.inl h3)]
    · rw [if_neg (by simpa using h3), if_neg (fun h => h.elim h3 h2)]
theorem impl_follow (a b : ByteArray) (ha : a.size ≤ 1048576) (hb : b.size ≤ 1048576) (k : Nat) (hk : 14000002 < k) : ∃ r, impl_Follow.f k a b = some r ∧ (r.1.toList, r.2) = followM a.toList b.toList := by
  unfold impl_Follow.f followM
  by_cases h3 : a.toList = []
  · rw [if_pos h3, if_pos (Or.inl h3)]
    obtain ⟨r, e, l⟩ := impl_follow_j a b ha hb k hk true
    exact ⟨r, e, by rw [l, if_pos rfl]⟩
  · rw [if_neg h3, has_prefix]
    simp only [Option.bind_some]
    have h47 : (⟨#[47]⟩ : ByteArray).toList = [47] := by rw [tl]
    rw [h47, show ([47] : List UInt8).length = 1 from rfl]
    obtain ⟨r, e, l⟩ := impl_follow_j a b ha hb k hk (b.toList.take 1 == [47])
    refine ⟨r, e, ?_⟩
    rw [l]
    by_cases h2 : b.toList.take 1 = [47]
    · rw [if_pos (beq_iff_eq.2 h2), if_pos (Or.inr h2)]
    · rw [if_neg (fun h => h2 (beq_iff_eq.1 h)), if_neg (fun h => h.elim h3 h2)]

/-- A cursor's place is one of its bytes, or behind them. -/
def St (b : List Int) (i : Int) : Prop := 0 ≤ i ∧ i ≤ (b.length : Int)
theorem byte_ok (b : List Int) (hb : b.length ≤ 140737488351232) (i h : Int) (hi : St b i) : ∃ x i' h', spec_l01Byte.f b i h = some (x, i', h') ∧ (0 ≤ x ∧ x ≤ 255) ∧ St b i' := by
  unfold St at hi
  have m : ∀ z : Int, Go.bits .and .i64 z 255 = z % 256 := fun z => bits_and_mask z 8 (by decide)
  unfold spec_l01Byte.f
  by_cases h1 : i < (b.length : Int)
  · rw [if_pos h1, if_pos hi.1, w64 (n := i + 1) (by omega) (by omega)]
    refine ⟨_, _, _, rfl, ?_, ⟨by omega, by omega⟩⟩
    rw [m]
    omega
  · rw [if_neg h1]
    refine ⟨_, _, _, rfl, ?_, hi⟩
    rw [m]
    omega
theorem below_ok (b : List Int) (hb : b.length ≤ 140737488351232) (i h n : Int) (hn : n ≤ 9223372036854775807) (hi : St b i) : ∃ x i' h', spec_l01Below.f b i h n = some (x, i', h') ∧ (0 ≤ x ∧ (0 < n → x < n)) ∧ St b i' := by
  unfold spec_l01Below.f
  by_cases h0 : n ≤ 0
  · rw [if_pos h0]
    exact ⟨_, _, _, rfl, ⟨by omega, by omega⟩, hi⟩
  · rw [if_neg h0]
    obtain ⟨x1, i1, h1, e1, b1, s1⟩ := byte_ok b hb i h hi
    rw [e1]
    simp only [Option.bind_some]
    by_cases h2 : n ≤ 256
    · rw [if_pos h2, if_neg (by omega)]
      refine ⟨_, _, _, rfl, ?_, s1⟩
      rw [Int.tmod_eq_emod_of_nonneg b1.1]
      exact ⟨Int.emod_nonneg _ (by omega), fun _ => Int.emod_lt_of_pos _ (by omega)⟩
    · rw [if_neg h2]
      obtain ⟨x2, i2, h2', e2, b2, s2⟩ := byte_ok b hb i1 h1 s1
      obtain ⟨x3, i3, h3, e3, b3, s3⟩ := byte_ok b hb i2 h2' s2
      obtain ⟨x4, i4, h4, e4, b4, s4⟩ := byte_ok b hb i3 h3 s3
      rw [e2]
      simp only [Option.bind_some]
      rw [e3]
      simp only [Option.bind_some]
      rw [e4]
      simp only [Option.bind_some]
      rw [if_neg (by omega)]
      refine ⟨_, _, _, rfl, ?_, s4⟩
      have w1 : wrap64 (x1 * 16777216) = x1 * 16777216 := w64 (by omega) (by omega)
      have w2 : wrap64 (x2 * 65536) = x2 * 65536 := w64 (by omega) (by omega)
      have w3 : wrap64 (x3 * 256) = x3 * 256 := w64 (by omega) (by omega)
      have w4 : wrap64 (x1 * 16777216 + x2 * 65536) = x1 * 16777216 + x2 * 65536 := w64 (by omega) (by omega)
      have w5 : wrap64 (x1 * 16777216 + x2 * 65536 + x3 * 256) = x1 * 16777216 + x2 * 65536 + x3 * 256 := w64 (by omega) (by omega)
      have w6 : wrap64 (x1 * 16777216 + x2 * 65536 + x3 * 256 + x4) = x1 * 16777216 + x2 * 65536 + x3 * 256 + x4 := w64 (by omega) (by omega)
      rw [w1, w2, w3, w4, w5, w6, Int.tmod_eq_emod_of_nonneg (by omega)]
      exact ⟨Int.emod_nonneg _ (by omega), fun _ => Int.emod_lt_of_pos _ (by omega)⟩
theorem once_ok (b : List Int) (hb : b.length ≤ 140737488351232) (i h n : Int) (hn : n ≤ 9223372036854775807) (hi : St b i) : ∃ (x : Bool) (i' h' : Int), spec_l01Once.f b i h n = some (x, i', h') ∧ St b i' := by
  obtain ⟨x, i', h', e, _, s⟩ := below_ok b hb i h n hn hi
  unfold spec_l01Once.f
  rw [e]
  exact ⟨_, _, _, rfl, s⟩
theorem rd_mem (l : List Int) (j : Int) (h0 : 0 ≤ j) (h1 : j < (l.length : Int)) : rd l j ∈ l := by
  unfold rd
  rw [List.getD_eq_getElem?_getD, List.getElem?_eq_getElem (by omega)]
  exact List.getElem_mem _
theorem pickInt_ok (b : List Int) (hb : b.length ≤ 140737488351232) (i h : Int) (l : List Int) (hl : 0 < l.length) (hl2 : l.length ≤ 9223372036854775807) (hi : St b i) : ∃ x i' h', spec_l01PickInt.f b i h l = some (x, i', h') ∧ x ∈ l ∧ St b i' := by
  obtain ⟨x, i', h', e, r, s⟩ := below_ok b hb i h (l.length : Int) (by omega) hi
  unfold spec_l01PickInt.f
  rw [e]
  simp only [Option.bind_some]
  have := r.2 (by omega)
  rw [if_pos r.1, if_pos this]
  exact ⟨_, _, _, rfl, rd_mem l x r.1 this, s⟩
theorem new_loop (b : List Int) (_hb : b.length ≤ 140737488351232) : ∀ (d k : Nat) (i h : Int), 0 ≤ i → (b.length : Int) - i ≤ d → d < k → ∃ h', spec_l01New.l0 k b h i = some (b, 0, h') := by
  intro d
  induction d with
  | zero =>
    intro k i h h0 hd hk
    obtain ⟨k, rfl⟩ : ∃ m, k = m + 1 := ⟨k - 1, by omega⟩
    simp only [spec_l01New.l0]
    rw [if_neg (by omega)]
    exact ⟨_, rfl⟩
  | succ d ih =>
    intro k i h h0 hd hk
    obtain ⟨k, rfl⟩ : ∃ m, k = m + 1 := ⟨k - 1, by omega⟩
    simp only [spec_l01New.l0]
    by_cases h1 : i < (b.length : Int)
    · rw [if_pos h1]
      by_cases h2 : i < 4000
      · rw [if_pos h2, if_pos h0, w64 (n := i + 1) (by omega) (by omega)]
        exact ih k (i + 1) _ (by omega) (by omega) (by omega)
      · rw [if_neg h2]
        exact ⟨_, rfl⟩
    · rw [if_neg h1]
      exact ⟨_, rfl⟩
theorem new_ok (b : List Int) (hb : b.length ≤ 140737488351232) (k : Nat) (hk : b.length < k) : ∃ h', spec_l01New.f k b = some (b, 0, h') := by
  unfold spec_l01New.f
  exact new_loop b hb b.length k 0 _ (by omega) (by omega) hk
theorem st0 (b : List Int) : St b 0 := ⟨by omega, by omega⟩

/-! ### Draws of texts: they come to an end, and are short -/
theorem s47 : (⟨#[47]⟩ : ByteArray).size = 1 := rfl
theorem s120 : (⟨#[120]⟩ : ByteArray).size = 1 := rfl
theorem rdB_mem (l : List ByteArray) (j : Int) (h0 : 0 ≤ j) (h1 : j < (l.length : Int)) : rdOf ByteArray.empty l j ∈ l := by
  unfold rdOf
  rw [List.getD_eq_getElem?_getD, List.getElem?_eq_getElem (by omega)]
  exact List.getElem_mem _
theorem pick_ok (b : List Int) (hb : b.length ≤ 140737488351232) (i h : Int) (l : List ByteArray) (B : Nat) (hl : 0 < l.length) (hl2 : l.length ≤ 9223372036854775807) (hB : ∀ x ∈ l, x.size ≤ B) (hi : St b i) : ∃ x i' h', spec_l01Pick.f b i h l = some (x, i', h') ∧ x.size ≤ B ∧ St b i' := by
  obtain ⟨x, i', h', e, r, s⟩ := below_ok b hb i h (l.length : Int) (by omega) hi
  unfold spec_l01Pick.f
  rw [e]
  simp only [Option.bind_some]
  have := r.2 (by omega)
  rw [if_pos r.1, if_pos this]
  exact ⟨_, _, _, rfl, hB _ (rdB_mem l x r.1 this), s⟩
theorem long_loop (b : List Int) (n i h : Int) (hn : n ≤ 61) : ∀ (d k : Nat) (out : ByteArray) (j : Int), 0 ≤ j → n - j ≤ (d : Int) → out.size + d ≤ 1000 → d < k → ∃ r, spec_l02Long.l0 k n out j b i h = some (r, i, h) ∧ r.size ≤ out.size + d := by
  intro d
  induction d with
  | zero =>
    intro k out j h0 hd hs hk
    obtain ⟨k, rfl⟩ : ∃ m, k = m + 1 := ⟨k - 1, by omega⟩
    unfold spec_l02Long.l0
    rw [if_neg (by omega)]
    exact ⟨out, rfl, by omega⟩
  | succ d ih =>
    intro k out j h0 hd hs hk
    obtain ⟨k, rfl⟩ : ∃ m, k = m + 1 := ⟨k - 1, by omega⟩
    unfold spec_l02Long.l0
    by_cases c : j < n
    · rw [if_pos c, if_pos (by omega), w64 (by omega) (by omega)]
      obtain ⟨r, e, l⟩ := ih k (out ++ (⟨#[120]⟩ : ByteArray)) (j + 1) (by omega) (by omega) (by rw [ByteArray.size_append, s120]; omega) (by omega)
      refine ⟨r, e, ?_⟩
      rw [ByteArray.size_append, s120] at l
      omega
    · rw [if_neg c]
      exact ⟨out, rfl, by omega⟩
theorem long_ok (b : List Int) (hb : b.length ≤ 140737488351232) (i h : Int) (hi : St b i) (k : Nat) (hk : 100 < k) : ∃ x i' h', spec_l02Long.f k b i h = some (x, i', h') ∧ x.size ≤ 61 ∧ St b i' := by
  obtain ⟨n, i', h', e, hm, s⟩ := pickInt_ok b hb i h [60, 61, 40, 59] (by decide) (by decide) hi
  unfold spec_l02Long.f
  rw [e]
  simp only [Option.bind_some]
  have hn : 0 ≤ n ∧ n ≤ 61 := by
    simp only [List.mem_cons, List.not_mem_nil, or_false] at hm
    omega
  obtain ⟨r, e2, l⟩ := long_loop b n i' h' hn.2 61 k (⟨#[]⟩ : ByteArray) 0 (by decide) (by omega) (by decide) (by omega)
  have hz : (⟨#[]⟩ : ByteArray).size = 0 := rfl
  exact ⟨r, i', h', e2, by omega, s⟩
def deepL : List Int := [37, 60, 58, 40]
theorem deep_rd (j : Nat) (h : j < 4) : rd deepL (j : Int) ≤ 60 := by
  have : j = 0 ∨ j = 1 ∨ j = 2 ∨ j = 3 := by omega
  rcases this with rfl | rfl | rfl | rfl <;> decide
theorem deep_l1 (b : List Int) (j : Nat) (hj : j < 4) (i h : Int) (B K : Nat) (next : ∀ (k : Nat) (out : ByteArray), K < k → out.size ≤ B + 61 → ∃ x i' h', spec_l02Deep.l0 k out deepL ((j + 1 : Nat) : Int) b i h = some (x, i', h') ∧ x.size ≤ 300 ∧ St b i') (hB : B ≤ 250) :
    ∀ (d k : Nat) (out : ByteArray) (x6 : Int), 0 ≤ x6 → rd deepL (j : Int) - x6 ≤ (d : Int) → out.size + d ≤ B + 60 → K + d + 1 < k → ∃ x i' h', spec_l02Deep.l1 k out deepL (j : Int) x6 b i h = some (x, i', h') ∧ x.size ≤ 300 ∧ St b i' := by
  have hlen : (deepL.length : Int) = 4 := rfl
  have wj : wrap64 ((j : Int) + 1) = ((j + 1 : Nat) : Int) := by rw [w64 (by omega) (by omega)]; omega
  have hrd := deep_rd j hj
  intro d
  induction d with
  | zero =>
    intro k out x6 h0 hd hs hk
    obtain ⟨k, rfl⟩ : ∃ m, k = m + 1 := ⟨k - 1, by omega⟩
    unfold spec_l02Deep.l1
    rw [if_pos (by omega), if_pos (by omega), if_neg (by omega), if_pos (by omega), wj]
    exact next k _ (by omega) (by rw [ByteArray.size_append, s47]; omega)
  | succ d ih =>
    intro k out x6 h0 hd hs hk
    obtain ⟨k, rfl⟩ : ∃ m, k = m + 1 := ⟨k - 1, by omega⟩
    unfold spec_l02Deep.l1
    rw [if_pos (by omega), if_pos (by omega)]
    by_cases c : x6 < rd deepL (j : Int)
    · rw [if_pos c, if_pos (by omega), w64 (by omega) (by omega)]
      exact ih k _ (x6 + 1) (by omega) (by omega) (by rw [ByteArray.size_append, s120]; omega) (by omega)
    · rw [if_neg c, if_pos (by omega), wj]
      exact next k _ (by omega) (by rw [ByteArray.size_append, s47]; omega)
theorem deep_l0 (b : List Int) (hb : b.length ≤ 140737488351232) (i h : Int) (hi : St b i) : ∀ (m j k : Nat) (out : ByteArray), j + m = 4 → out.size ≤ 61 * j → 70 * m + 5 < k → ∃ x i' h', spec_l02Deep.l0 k out deepL (j : Int) b i h = some (x, i', h') ∧ x.size ≤ 300 ∧ St b i' := by
  intro m
  induction m with
  | zero =>
    intro j k out hj hs hk
    obtain ⟨k, rfl⟩ : ∃ m, k = m + 1 := ⟨k - 1, by omega⟩
    unfold spec_l02Deep.l0
    rw [if_neg (by omega)]
    obtain ⟨x, i', h', e, hx, s⟩ := pick_ok b hb i h [(⟨#[97]⟩ : ByteArray), (⟨#[98]⟩ : ByteArray), (⟨#[120]⟩ : ByteArray), (⟨#[120, 46, 116, 120, 116]⟩ : ByteArray), (⟨#[121]⟩ : ByteArray)] 5 (by simp) (by simp) (by
      intro x hx
      simp only [List.mem_cons, List.not_mem_nil, or_false] at hx
      rcases hx with rfl | rfl | rfl | rfl | rfl <;> decide) hi
    rw [e]
    simp only [Option.bind_some]
    rw [if_pos (by omega)]
    exact ⟨_, _, _, rfl, by rw [ByteArray.size_append]; omega, s⟩
  | succ m ih =>
    intro j k out hj hs hk
    obtain ⟨k, rfl⟩ : ∃ m, k = m + 1 := ⟨k - 1, by omega⟩
    unfold spec_l02Deep.l0
    rw [if_pos (by omega)]
    have hrd := deep_rd j (by omega)
    exact deep_l1 b j (by omega) i h (61 * j) (70 * m + 5) (fun k2 out2 hk2 ho2 => ih (j + 1) k2 out2 (by omega) (by omega) hk2) (by omega) 60 k out 0 (by decide) (by omega) (by omega) (by omega)
theorem deep_ok (b : List Int) (hb : b.length ≤ 140737488351232) (i h : Int) (hi : St b i) (k : Nat) (hk : 300 < k) : ∃ x i' h', spec_l02Deep.f k b i h = some (x, i', h') ∧ x.size ≤ 300 ∧ St b i' :=
  deep_l0 b hb i h hi 4 0 k (⟨#[]⟩ : ByteArray) (by decide) (by decide) (by omega)
theorem path_end (b : List Int) (hb : b.length ≤ 140737488351232) (n : Int) (i h : Int) (hi : St b i) (k : Nat) (hk : 400 < k) (x3 : ByteArray) (hx : x3.size ≤ 30) (j : Int) (hj : ¬ j < n) : ∃ x i' h', spec_l02Path.l0 (k + 1) x3 n j b i h = some (x, i', h') ∧ x.size ≤ 300 ∧ St b i' := by
  unfold spec_l02Path.l0
  rw [if_neg hj]
  obtain ⟨m, i1, h1, e1, _, s1⟩ := below_ok b hb i h 16 (by decide) hi
  rw [e1]
  simp only [Option.bind_some]
  by_cases c0 : m = 0
  · rw [if_pos c0, if_pos (by omega)]
    obtain ⟨a, i2, h2, e2, l2, s2⟩ := long_ok b hb i1 h1 s1 k (by omega)
    rw [e2]
    simp only [Option.bind_some]
    obtain ⟨c, i3, h3, e3, l3, s3⟩ := long_ok b hb i2 h2 s2 k (by omega)
    rw [if_pos (by simp only [ByteArray.size_append, s47]; omega), if_pos (by simp only [ByteArray.size_append, s47]; omega), e3]
    simp only [Option.bind_some]
    rw [if_pos (by simp only [ByteArray.size_append, s47]; omega)]
    exact ⟨_, _, _, rfl, by simp only [ByteArray.size_append, s47]; omega, s3⟩
  rw [if_neg c0]
  by_cases c1 : m = 1
  · rw [if_pos c1, if_pos (by omega)]
    obtain ⟨a, i2, h2, e2, l2, s2⟩ := long_ok b hb i1 h1 s1 k (by omega)
    rw [e2]
    simp only [Option.bind_some]
    rw [if_pos (by simp only [ByteArray.size_append, s47]; omega)]
    exact ⟨_, _, _, rfl, by simp only [ByteArray.size_append, s47]; omega, s2⟩
  rw [if_neg c1]
  by_cases c2 : m = 2
  · rw [if_pos c2]
    obtain ⟨a, i2, h2, e2, l2, s2⟩ := long_ok b hb i1 h1 s1 k (by omega)
    rw [e2]
    simp only [Option.bind_some]
    obtain ⟨c, i3, h3, e3, l3, s3⟩ := long_ok b hb i2 h2 s2 k (by omega)
    rw [if_pos (by omega), e3]
    simp only [Option.bind_some]
    obtain ⟨d, i4, h4, e4, l4, s4⟩ := long_ok b hb i3 h3 s3 k (by omega)
    rw [if_pos (by simp only [ByteArray.size_append, s47]; omega), if_pos (by simp only [ByteArray.size_append, s47]; omega), e4]
    simp only [Option.bind_some]
    rw [if_pos (by simp only [ByteArray.size_append, s47]; omega), if_pos (by simp only [ByteArray.size_append, s47]; omega), if_pos (by simp only [ByteArray.size_append, s47]; omega)]
    exact ⟨_, _, _, rfl, by simp only [ByteArray.size_append, s47]; omega, s4⟩
  rw [if_neg c2]
  obtain ⟨a, i2, h2, e2, l2, s2⟩ := deep_ok b hb i1 h1 s1 k (by omega)
  by_cases c3 : m = 3
  · rw [if_pos c3, e2]
    exact ⟨_, _, _, rfl, l2, s2⟩
  rw [if_neg c3]
  by_cases c4 : m = 4
  · rw [if_pos c4, e2]
    exact ⟨_, _, _, rfl, l2, s2⟩
  rw [if_neg c4]
  exact ⟨_, _, _, rfl, by omega, s1⟩
theorem path_loop (b : List Int) (hb : b.length ≤ 140737488351232) (n : Int) (hn : n ≤ 4) : ∀ (d k : Nat) (i h : Int) (x3 : ByteArray) (j : Int), St b i → 0 ≤ j → n - j ≤ (d : Int) → x3.size + 5 * d ≤ 30 → 401 + d < k → ∃ x i' h', spec_l02Path.l0 k x3 n j b i h = some (x, i', h') ∧ x.size ≤ 300 ∧ St b i' := by
  intro d
  induction d with
  | zero =>
    intro k i h x3 j hi h0 hd hs hk
    obtain ⟨k, rfl⟩ : ∃ m, k = m + 1 := ⟨k - 1, by omega⟩
    exact path_end b hb n i h hi k (by omega) x3 (by omega) j (by omega)
  | succ d ih =>
    intro k i h x3 j hi h0 hd hs hk
    obtain ⟨k, rfl⟩ : ∃ m, k = m + 1 := ⟨k - 1, by omega⟩
    by_cases c : j < n
    · unfold spec_l02Path.l0
      obtain ⟨x, i1, h1, e1, l1, s1⟩ := pick_ok b hb i h [(⟨#[97]⟩ : ByteArray), (⟨#[98]⟩ : ByteArray), (⟨#[99]⟩ : ByteArray), (⟨#[100, 46, 103, 111]⟩ : ByteArray), (⟨#[101]⟩ : ByteArray)] 4 (by simp) (by simp) (by
        intro x hx
        simp only [List.mem_cons, List.not_mem_nil, or_false] at hx
        rcases hx with rfl | rfl | rfl | rfl | rfl <;> decide) hi
      rw [if_pos c, if_pos (by omega), e1]
      simp only [Option.bind_some]
      rw [if_pos (by simp only [ByteArray.size_append, s47]; omega), w64 (by omega) (by omega)]
      exact ih k i1 h1 _ (j + 1) s1 (by omega) (by omega) (by simp only [ByteArray.size_append, s47]; omega) (by omega)
    · exact path_end b hb n i h hi k (by omega) x3 (by omega) j c
theorem path_ok (b : List Int) (hb : b.length ≤ 140737488351232) (i h : Int) (hi : St b i) (k : Nat) (hk : 500 < k) : ∃ x i' h', spec_l02Path.f k b i h = some (x, i', h') ∧ x.size ≤ 300 ∧ St b i' := by
  unfold spec_l02Path.f
  obtain ⟨x, i1, h1, e1, l1, s1⟩ := pick_ok b hb i h [(⟨#[97]⟩ : ByteArray), (⟨#[98]⟩ : ByteArray), (⟨#[115, 114, 99]⟩ : ByteArray), (⟨#[120, 46, 116, 120, 116]⟩ : ByteArray), (⟨#[108, 105, 98]⟩ : ByteArray)] 5 (by simp) (by simp) (by
    intro x hx
    simp only [List.mem_cons, List.not_mem_nil, or_false] at hx
    rcases hx with rfl | rfl | rfl | rfl | rfl <;> decide) hi
  rw [e1]
  simp only [Option.bind_some]
  obtain ⟨n, i2, h2, e2, l2, s2⟩ := below_ok b hb i1 h1 4 (by decide) s1
  rw [e2]
  simp only [Option.bind_some]
  exact path_loop b hb n (by have := l2.2 (by decide); omega) 4 k i2 h2 x 0 s2 (by decide) (by have := l2.2 (by decide); omega) (by omega) (by omega)

theorem odd_loop (b : List Int) (hb : b.length ≤ 140737488351232) (n : Int) (hn : n ≤ 6) : ∀ (d k : Nat) (i h : Int) (x3 : ByteArray) (j : Int), St b i → 0 ≤ j → n - j ≤ (d : Int) → x3.size + 3 * d ≤ 100 → d < k → ∃ x i' h', spec_l02Odd.l0 k x3 n j b i h = some (x, i', h') ∧ x.size ≤ 300 ∧ St b i' := by
  intro d
  induction d with
  | zero =>
    intro k i h x3 j hi h0 hd hs hk
    obtain ⟨k, rfl⟩ : ∃ m, k = m + 1 := ⟨k - 1, by omega⟩
    unfold spec_l02Odd.l0
    rw [if_neg (by omega)]
    exact ⟨_, _, _, rfl, by omega, hi⟩
  | succ d ih =>
    intro k i h x3 j hi h0 hd hs hk
    obtain ⟨k, rfl⟩ : ∃ m, k = m + 1 := ⟨k - 1, by omega⟩
    unfold spec_l02Odd.l0
    by_cases c : j < n
    · obtain ⟨x, i1, h1, e1, l1, s1⟩ := pick_ok b hb i h [(⟨#[97]⟩ : ByteArray), (⟨#[47]⟩ : ByteArray), (⟨#[46, 46]⟩ : ByteArray), (⟨#[46]⟩ : ByteArray), (⟨#[47]⟩ : ByteArray), (⟨#[98, 47]⟩ : ByteArray), (⟨#[46, 46, 47]⟩ : ByteArray), (⟨#[32]⟩ : ByteArray), (⟨#[0]⟩ : ByteArray), (⟨#[99]⟩ : ByteArray)] 3 (by simp) (by simp) (by
        intro x hx
        simp only [List.mem_cons, List.not_mem_nil, or_false] at hx
        rcases hx with rfl | rfl | rfl | rfl | rfl | rfl | rfl | rfl | rfl | rfl <;> decide) hi
      rw [if_pos c, e1]
      simp only [Option.bind_some]
      rw [if_pos (by omega), w64 (by omega) (by omega)]
      exact ih k i1 h1 _ (j + 1) s1 (by omega) (by omega) (by rw [ByteArray.size_append]; omega) (by omega)
    · rw [if_neg c]
      exact ⟨_, _, _, rfl, by omega, hi⟩
theorem odd_ok (b : List Int) (hb : b.length ≤ 140737488351232) (i h : Int) (hi : St b i) (k : Nat) (hk : 10 < k) : ∃ x i' h', spec_l02Odd.f k b i h = some (x, i', h') ∧ x.size ≤ 300 ∧ St b i' := by
  unfold spec_l02Odd.f
  obtain ⟨n, i2, h2, e2, l2, s2⟩ := below_ok b hb i h 6 (by decide) hi
  rw [e2]
  simp only [Option.bind_some]
  exact odd_loop b hb n (by have := l2.2 (by decide); omega) 6 k i2 h2 _ 0 s2 (by decide) (by have := l2.2 (by decide); omega) (by decide) (by omega)
theorem any_ok (b : List Int) (hb : b.length ≤ 140737488351232) (i h : Int) (hi : St b i) (k : Nat) (hk : 500 < k) : ∃ x i' h', spec_l02Any.f k b i h = some (x, i', h') ∧ x.size ≤ 300 ∧ St b i' := by
  unfold spec_l02Any.f
  obtain ⟨c, i1, h1, e1, s1⟩ := once_ok b hb i h 4 (by decide) hi
  rw [e1]
  simp only [Option.bind_some]
  cases c with
  | true =>
    obtain ⟨x, i2, h2, e2, l2, s2⟩ := odd_ok b hb i1 h1 s1 k (by omega)
    rw [if_pos rfl, e2]
    exact ⟨_, _, _, rfl, l2, s2⟩
  | false =>
    obtain ⟨x, i2, h2, e2, l2, s2⟩ := path_ok b hb i1 h1 s1 k hk
    rw [if_neg (by decide), e2]
    exact ⟨_, _, _, rfl, l2, s2⟩

theorem spec_last_loop (s : ByteArray) (hs : s.size ≤ 140737488351232) : ∀ (n k : Nat), n ≤ s.size → n < k → spec_l02Last.l0 k s ((n : Int) - 1) = some (lastTo s 47 n) := by
  intro n
  induction n with
  | zero =>
    intro k _ hk
    obtain ⟨k, rfl⟩ : ∃ m, k = m + 1 := ⟨k - 1, by omega⟩
    simp only [spec_l02Last.l0, lastTo]
    rw [if_neg (by omega)]
  | succ n ih =>
    intro k hn hk
    obtain ⟨k, rfl⟩ : ∃ m, k = m + 1 := ⟨k - 1, by omega⟩
    have e : ((n + 1 : Nat) : Int) - 1 = (n : Int) := by omega
    rw [e]
    simp only [spec_l02Last.l0, lastTo]
    rw [if_pos (show (n : Int) ≥ 0 by omega), if_pos (show 0 ≤ (n : Int) by omega), if_pos (show (n : Int) < (s.size : Int) by omega)]
    by_cases h : bt s (n : Int) = 47
    · rw [if_pos h, if_pos h]
    · rw [if_neg h, if_neg h, w64 (by omega) (by omega)]
      exact ih k (by omega) (by omega)

theorem drawClean_ok (b : List Int) (hb : b.length ≤ 140737488351232) (k : Nat) (hk : b.length + 500 < k) : ∃ x, spec_DrawClean.f k b = some x ∧ x.size ≤ 400 := by
  obtain ⟨h0, e0⟩ := new_ok b hb k (by omega)
  unfold spec_DrawClean.f
  rw [e0]
  simp only [Option.bind_some]
  obtain ⟨x, i1, h1, e1, l1, s1⟩ := any_ok b hb 0 h0 (st0 b) k (by omega)
  rw [e1]
  simp only [Option.bind_some]
  obtain ⟨y, i2, h2, e2, l2, s2⟩ := pick_ok b hb i1 h1 [(⟨#[]⟩ : ByteArray), (⟨#[47, 46, 46]⟩ : ByteArray), (⟨#[47, 46, 47]⟩ : ByteArray), (⟨#[47, 46, 46, 47, 98]⟩ : ByteArray)] 5 (by simp) (by simp) (by
    intro x hx
    simp only [List.mem_cons, List.not_mem_nil, or_false] at hx
    rcases hx with rfl | rfl | rfl | rfl <;> decide) s1
  rw [e2]
  simp only [Option.bind_some]
  rw [if_pos (by omega)]
  exact ⟨_, rfl, by rw [ByteArray.size_append]; omega⟩
theorem dir_size (s : ByteArray) (hs : s.size ≤ 140737488351232) (k : Nat) (hk : s.size < k) : ∃ r, spec_Dir.f k s = some r ∧ r.size ≤ s.size := by
  unfold spec_Dir.f spec_l02Last.f
  rw [w64 (by omega) (by omega), spec_last_loop s hs s.size k (by omega) hk]
  simp only [Option.bind_some]
  have hbd := lastTo_bounds s 47 s.size
  by_cases c : lastTo s 47 s.size < 0
  · rw [if_pos c]
    exact ⟨_, rfl, Nat.zero_le _⟩
  · rw [if_neg c, if_pos (by omega), if_pos (by omega)]
    exact ⟨_, rfl, by rw [ByteArray.size_extract]; omega⟩
theorem drawFollow_ok (b : List Int) (hb : b.length ≤ 140737488351232) (k : Nat) (hk : b.length + 900 < k) : ∃ x y, spec_DrawFollow.f k b = some (x, y) ∧ x.size ≤ 400 ∧ y.size ≤ 400 := by
  obtain ⟨h0, e0⟩ := new_ok b hb k (by omega)
  unfold spec_DrawFollow.f
  rw [e0]
  simp only [Option.bind_some]
  obtain ⟨x, i1, h1, e1, l1, s1⟩ := path_ok b hb 0 h0 (st0 b) k (by omega)
  rw [e1]
  simp only [Option.bind_some]
  obtain ⟨d, ed, ld⟩ := dir_size x (by omega) k (by omega)
  rw [ed]
  simp only [Option.bind_some]
  obtain ⟨y, i2, h2, e2, l2, s2⟩ := pick_ok b hb i1 h1 [(⟨#[]⟩ : ByteArray), (⟨#[47]⟩ : ByteArray), (⟨#[46, 46, 47]⟩ : ByteArray), (⟨#[46, 47]⟩ : ByteArray), (⟨#[46, 46, 47, 46, 46, 47]⟩ : ByteArray)] 6 (by simp) (by simp) (by
    intro x hx
    simp only [List.mem_cons, List.not_mem_nil, or_false] at hx
    rcases hx with rfl | rfl | rfl | rfl | rfl <;> decide) s1
  rw [e2]
  simp only [Option.bind_some]
  obtain ⟨z, i3, h3, e3, l3, s3⟩ := any_ok b hb i2 h2 s2 k (by omega)
  rw [e3]
  simp only [Option.bind_some]
  rw [if_pos (by omega)]
  exact ⟨_, _, rfl, by omega, by rw [ByteArray.size_append]; omega⟩

theorem cleanJ (K : Nat) (hK : 30000000 < K) (s : ByteArray) (hs : s.size ≤ 1000) (r : ByteArray × Bool) (hr : (r.1.toList, r.2) = resM (cleanM [] (splitA 47 [] s.toList))) (hz : r.1.size ≤ 1000) : laws_FnClean.j0 (K + 1) s r.1 r.2 false = some true := by
  obtain ⟨q, e, l⟩ := impl_clean r.1 (by omega) K (by omega)
  have again : r.2 = true → q.2 = true ∧ q.1.toList = r.1.toList := by
    intro h
    have h1 : (resM (cleanM [] (splitA 47 [] s.toList))).2 = true := by rw [← hr]; exact h
    have h2 := res_ok _ h1
    rw [← hr] at h2
    rw [clean_path _ h2] at l
    exact ⟨(Prod.mk.inj l).2, (Prod.mk.inj l).1⟩
  simp only [laws_FnClean.j0]
  rw [if_neg (by decide), spec_pathOk s (by omega) K (by omega), e]
  simp only [Option.bind_some]
  by_cases hp : pathOkM s.toList = true
  · rw [clean_path _ hp] at hr
    have h1 := (Prod.mk.inj hr).1
    have h2 : r.2 = true := (Prod.mk.inj hr).2
    obtain ⟨g1, g2⟩ := again h2
    simp [hp, h2, h1, g1, g2]
  · by_cases h2 : r.2 = true
    · obtain ⟨g1, g2⟩ := again h2
      simp [hp, h2, g1, g2]
    · simp [hp, h2]
theorem res_size (m : Option (List (List UInt8))) : (resM m).1.length ≤ 200 := by
  cases m with
  | none => simp [resM]
  | some o =>
    simp only [resM]
    by_cases c : pathOkM (Lib.join o [47]) = true
    · rw [if_pos c]
      unfold pathOkM at c
      simp only [Bool.and_eq_true, decide_eq_true_eq] at c
      exact c.1
    · rw [if_neg c]
      simp
theorem clean_core (K : Nat) (hK : 30000000 < K) (s d l : ByteArray) (hs : s.size ≤ 1000) (hd : d.size ≤ 1000) (hl : l.size ≤ 1000) (r1 r2 f1 f2 : ByteArray × Bool)
    (l1 : (r1.1.toList, r1.2) = resM (cleanM [] (splitA 47 [] s.toList))) (l2 : (r2.1.toList, r2.2) = resM (cleanM [] (splitA 47 [] s.toList)))
    (m : Option (List (List UInt8))) (l3 : (f1.1.toList, f1.2) = resM m) (l4 : (f2.1.toList, f2.2) = resM m) :
    (if r1.1.toList = r2.1.toList then (if (r1.2 != r2.2) = true then (laws_FnClean.j0 (K + 1) s r1.1 r1.2 true) else (if f1.1.toList = f2.1.toList then (if (f1.2 != f2.2) = true then (laws_FnClean.j0 (K + 1) s r1.1 r1.2 true) else (if r1.2 = true then ((impl_PathOk.f (K + 1) r1.1).bind fun t339 => (if t339 = true then (if f1.2 = true then ((impl_PathOk.f (K + 1) f1.1).bind fun t340 => (laws_FnClean.j0 (K + 1) s r1.1 r1.2 (!t340))) else (laws_FnClean.j0 (K + 1) s r1.1 r1.2 false)) else (laws_FnClean.j0 (K + 1) s r1.1 r1.2 true))) else (if f1.2 = true then ((impl_PathOk.f (K + 1) f1.1).bind fun t341 => (laws_FnClean.j0 (K + 1) s r1.1 r1.2 (!t341))) else (laws_FnClean.j0 (K + 1) s r1.1 r1.2 false)))) else (laws_FnClean.j0 (K + 1) s r1.1 r1.2 true))) else (laws_FnClean.j0 (K + 1) s r1.1 r1.2 true) : Option Bool) = some true := by
  have z1 : r1.1.size ≤ 200 := by
    have := res_size (cleanM [] (splitA 47 [] s.toList))
    rw [← l1, tl_length] at this
    exact this
  have z2 : f1.1.size ≤ 200 := by
    have := res_size m
    rw [← l3, tl_length] at this
    exact this
  have J := cleanJ K (by omega) s (by omega) r1 l1 (by omega)
  have o1 : r1.2 = true → pathOkM r1.1.toList = true := fun h => by
    have := res_ok (cleanM [] (splitA 47 [] s.toList)) (by rw [← l1]; exact h)
    rw [← l1] at this
    exact this
  have o2 : f1.2 = true → pathOkM f1.1.toList = true := fun h => by
    have := res_ok m (by rw [← l3]; exact h)
    rw [← l3] at this
    exact this
  have a1 := Prod.mk.inj (l1.trans l2.symm)
  have a2 := Prod.mk.inj (l3.trans l4.symm)
  have n1 : (r1.2 != r2.2) = false := by rw [a1.2]; simp
  have n2 : (f1.2 != f2.2) = false := by rw [a2.2]; simp
  have g1 := impl_pathOk r1.1 (by omega) (K + 1) (by omega)
  have g2 := impl_pathOk f1.1 (by omega) (K + 1) (by omega)
  rw [if_pos a1.1, n1, if_neg Bool.false_ne_true, if_pos a2.1, n2, if_neg Bool.false_ne_true, g1, g2]
  simp only [Option.bind_some]
  by_cases c1 : r1.2 = true
  · rw [if_pos c1, if_pos (o1 c1)]
    by_cases c2 : f1.2 = true
    · rw [if_pos c2, o2 c2, Bool.not_true]
      exact J
    · rw [if_neg c2]
      exact J
  · rw [if_neg c1]
    by_cases c2 : f1.2 = true
    · rw [if_pos c2, o2 c2, Bool.not_true]
      exact J
    · rw [if_neg c2]
      exact J
theorem bind_of {α β : Type} {x : Option α} {a : α} (h : x = some a) (f : α → Option β) : x.bind f = f a := by rw [h]; rfl
theorem FnClean : ∀ (l0 : List Int), l0.length ≤ 9223372036854775807 → (∀ x ∈ l0, (Lit.int .u8 x).wf = true) → ∃ k, laws_FnClean.f k l0 = some true := by
  intro b _ _
  by_cases hb : (b.length : Int) > 1048576
  · refine ⟨0, ?_⟩
    unfold laws_FnClean.f laws_big.f
    simp only [Option.bind_some]
    rw [if_pos (decide_eq_true hb)]
  obtain ⟨K, hK⟩ : ∃ K, 30000000 < K := ⟨_, Nat.lt_succ_self 30000000⟩
  refine ⟨K + 1, ?_⟩
  obtain ⟨s, es, hs⟩ := drawClean_ok b (by omega) (K + 1) (by omega)
  obtain ⟨d, l, ed, hd, hl⟩ := drawFollow_ok b (by omega) (K + 1) (by omega)
  obtain ⟨r1, e1, l1⟩ := impl_clean s (by omega) (K + 1) (by omega)
  obtain ⟨r2, e2, l2⟩ := spec_clean s (by omega) (K + 1) (by omega)
  obtain ⟨f1, e3, l3⟩ := impl_follow d l (by omega) (by omega) (K + 1) (by omega)
  obtain ⟨f2, e4, l4⟩ := spec_follow d l (by omega) (by omega) (K + 1) (by omega)
  have hbig : laws_big.f b = some false := by
    unfold laws_big.f
    rw [decide_eq_false hb]
  unfold followM at l3 l4
  have e3' : impl_Follow.f (K + 1) (d, l).1 (d, l).2 = some f1 := e3
  have e4' : spec_Follow.f (K + 1) (d, l).1 (d, l).2 = some f2 := e4
  unfold laws_FnClean.f
  rw [bind_of hbig, if_neg Bool.false_ne_true, bind_of es, bind_of e1, bind_of e2, bind_of ed, bind_of e3', bind_of e4']
  exact clean_core K hK s d l (by omega) (by omega) (by omega) r1 r2 f1 f2 l1 l2 _ l3 l4

end Go.Proofs.YtdjepilhenijeaaDoor.Pure
