/-
The pure statement of the law FnExactFollow (numbers, byte strings and lists; no Go and no memory): the printed law's function answers true. Conditions: those of the printed statement (each string at most 2^47 - 4096 bytes, each number of its kind).
-/
import Derived.Test.YtjkdpnmmhobjlaaDoorPFnExactFollowx4
import Derived.Test.YtjkdpnmmhobjlaaDoorCore
namespace Go.Proofs.YtjkdpnmmhobjlaaDoor.Pure
open Go.RowKit Go.Proofs.YtjkdpnmmhobjlaaDoor.PFnExactFollow Go.Proofs.YtjkdpnmmhobjlaaDoorW.PrintWords Go.Proofs.YtjkdpnmmhobjlaaDoorW.PrintLast Go.Proofs.YtjkdpnmmhobjlaaDoor.Core
set_option linter.unusedVariables false
set_option linter.unusedSimpArgs false

/-! ### A byte's first place, and the texts between its places -/
theorem bt_mid {s : ByteArray} {pre t : List UInt8} {b : UInt8} (h : s.toList = pre ++ b :: t) : bt s (pre.length : Int) = (b.toNat : Int) := by
  have hs : s.size = pre.length + (t.length + 1) := by rw [← tl_length, h]; simp
  rw [bt_get s pre.length (by omega)]
  congr 2
  simp [h]
theorem size_mid {s : ByteArray} {pre t : List UInt8} (h : s.toList = pre ++ t) : s.size = pre.length + t.length := by
  rw [← tl_length, h]; simp
theorem u8_eq {b : UInt8} {c : UInt8} : ((b.toNat : Int) = (c.toNat : Int)) ↔ b = c := by
  constructor
  · intro h
    exact UInt8.toNat_inj.1 (by omega)
  · rintro rfl
    rfl
theorem ext_mid {s : ByteArray} {pre p t : List UInt8} (h : s.toList = pre ++ (p ++ t)) : (s.extract pre.length (pre.length + p.length)).toList = p := by
  rw [tl_extract, h, ← List.append_assoc]
  rw [List.take_left' (by simp)]
  simp
theorem ext_end {s : ByteArray} {pre p : List UInt8} (h : s.toList = pre ++ p) : (s.extract pre.length s.size).toList = p := by
  rw [tl_extract, ← tl_length, h]
  rw [List.take_of_length_le (Nat.le_refl _)]
  simp
/-- A byte's first place: there is none, or the text falls in two there. -/
theorem index_span (c : UInt8) : ∀ l : List UInt8, (c ∉ l ∧ Lib.indexByte l c = -1) ∨ ∃ a b, l = a ++ c :: b ∧ c ∉ a ∧ Lib.indexByte l c = (a.length : Int)
  | [] => Or.inl ⟨by simp, rfl⟩
  | x :: l => by
    by_cases h : x = c
    · subst h
      exact Or.inr ⟨[], l, rfl, by simp, by simp [Lib.indexByte]⟩
    · rcases index_span c l with ⟨h1, h2⟩ | ⟨a, b, h1, h2, h3⟩
      · refine Or.inl ⟨?_, ?_⟩
        · simp only [List.mem_cons, not_or]
          exact ⟨fun e => h e.symm, h1⟩
        · simp [Lib.indexByte, h, h2]
      · refine Or.inr ⟨x :: a, b, by simp [h1], ?_, ?_⟩
        · simp only [List.mem_cons, not_or]
          exact ⟨fun e => h e.symm, h2⟩
        · simp only [Lib.indexByte]
          have h' : (x == c) = false := by simpa using h
          simp only [h', h3]
          simp
          try omega

/-- The texts between the places of a byte. -/
def splitA (c : UInt8) : List UInt8 → List UInt8 → List (List UInt8)
  | p, [] => [p]
  | p, b :: t => if b = c then p :: splitA c [] t else splitA c (p ++ [b]) t
theorem splitA_none (c : UInt8) : ∀ (t p : List UInt8), c ∉ t → splitA c p t = [p ++ t]
  | [], p, _ => by simp [splitA]
  | b :: t, p, h => by
    simp only [List.mem_cons, not_or] at h
    simp only [splitA]
    rw [if_neg (fun e => h.1 e.symm), splitA_none c t _ h.2]
    simp
theorem splitA_span (c : UInt8) (b : List UInt8) : ∀ (a p : List UInt8), c ∉ a → splitA c p (a ++ c :: b) = (p ++ a) :: splitA c [] b
  | [], p, _ => by simp [splitA]
  | x :: a, p, h => by
    simp only [List.mem_cons, not_or] at h
    simp only [List.cons_append, splitA]
    rw [if_neg (fun e => h.1 e.symm), splitA_span c b a _ h.2]
    simp
theorem splitA_length (c : UInt8) : ∀ (t p : List UInt8), (splitA c p t).length = t.count c + 1
  | [], p => by simp [splitA]
  | b :: t, p => by
    simp only [splitA]
    by_cases h : b = c
    · rw [if_pos h, List.length_cons, splitA_length c t, h, List.count_cons_self]
    · rw [if_neg h, splitA_length c t, List.count_cons_of_ne h]
theorem splitA_le (c : UInt8) (t p : List UInt8) : (splitA c p t).length ≤ t.length + 1 := by
  rw [splitA_length]
  have : t.count c ≤ t.length := List.count_le_length
  omega
theorem splitA_mem (c : UInt8) : ∀ (t p x : List UInt8), x ∈ splitA c p t → x.length ≤ p.length + t.length
  | [], p, x, h => by
    simp only [splitA, List.mem_singleton] at h
    subst h
    simp
  | b :: t, p, x, h => by
    simp only [splitA] at h
    by_cases hb : b = c
    · rw [if_pos hb] at h
      rcases List.mem_cons.1 h with h | h
      · subst h
        omega
      · have := splitA_mem c t [] x h
        simp only [List.length_nil, List.length_cons] at *
        omega
    · rw [if_neg hb] at h
      have := splitA_mem c t _ x h
      simp only [List.length_append, List.length_cons, List.length_nil] at *
      omega
def sumLen : List (List UInt8) → Nat
  | [] => 0
  | x :: l => x.length + sumLen l
theorem splitA_sum (c : UInt8) : ∀ (t p : List UInt8), sumLen (splitA c p t) + (splitA c p t).length = p.length + t.length + 1
  | [], p => by simp [splitA, sumLen]
  | b :: t, p => by
    simp only [splitA]
    by_cases h : b = c
    · rw [if_pos h]
      have := splitA_sum c t []
      simp only [sumLen, List.length_cons, List.length_nil] at *
      omega
    · rw [if_neg h]
      have := splitA_sum c t (p ++ [b])
      simp only [List.length_append, List.length_cons, List.length_nil] at *
      omega

theorem idx_one (s : ByteArray) (c : UInt8) : strings_Index.f s (⟨#[c]⟩ : ByteArray) = some (Lib.indexByte s.toList c) := by
  unfold strings_Index.f stringslite_Index.f
  rw [if_pos (show (⟨#[c]⟩ : ByteArray).size = 1 from rfl), tl]
  rfl
theorem take_set_map (a : List ByteArray) (i : Nat) (x : ByteArray) (h : i < a.length) : ((a.set i x).take (i + 1)).map ByteArray.toList = (a.take i).map ByteArray.toList ++ [x.toList] := by
  rw [List.take_set, List.take_add_one, List.getElem?_eq_getElem h]
  rw [List.set_append_right _ _ (by simp; omega)]
  simp only [List.length_take, Option.toList_some, List.map_append]
  rw [show i - min i a.length = 0 by omega]
  simp
theorem genSplit_loop (c : UInt8) (n : Int) (hn : n ≤ 4194304) : ∀ (d : Nat) (s : ByteArray) (a : List ByteArray) (i k : Nat), s.toList.count c = d → n = (i : Int) + d → (a.length : Int) = n + 1 → s.size ≤ 4194304 → d < k →
    ∃ r, strings_genSplit.l0 k s (⟨#[c]⟩ : ByteArray) 0 n a (i : Int) = some r ∧ r.map ByteArray.toList = (a.take i).map ByteArray.toList ++ splitA c [] s.toList := by
  intro d
  induction d with
  | zero =>
    intro s a i k hd hi ha hs hk
    obtain ⟨k, rfl⟩ : ∃ m, k = m + 1 := ⟨k - 1, by omega⟩
    unfold strings_genSplit.l0
    rw [if_neg (by omega), if_pos (by omega), if_pos (by omega), w64 (by omega) (by omega), if_pos (by omega), if_pos (by omega)]
    refine ⟨_, rfl, ?_⟩
    rw [splitA_none c _ _ (List.count_eq_zero.1 hd), show ((i : Int) + 1).toNat = i + 1 by omega, Int.toNat_natCast, take_set_map _ _ _ (by omega)]
    simp
  | succ d ih =>
    intro s a i k hd hi ha hs hk
    obtain ⟨k, rfl⟩ : ∃ m, k = m + 1 := ⟨k - 1, by omega⟩
    unfold strings_genSplit.l0
    rw [if_pos (by omega), idx_one]
    simp only [Option.bind_some]
    rcases index_span c s.toList with ⟨h1, h2⟩ | ⟨p, t, h1, h2, h3⟩
    · rw [List.count_eq_zero.2 h1] at hd
      omega
    · have hz := size_mid h1
      simp only [List.length_cons] at hz
      have e1 : ((⟨#[c]⟩ : ByteArray).size : Int) = 1 := rfl
      rw [h3, e1, w64 (n := (p.length : Int) + 0) (by omega) (by omega), w64 (n := (p.length : Int) + 1) (by omega) (by omega), w64 (n := (i : Int) + 1) (by omega) (by omega)]
      rw [if_neg (by omega), if_pos (by omega), if_pos (by omega), if_pos (by omega), if_pos (by omega), if_pos (by omega), if_pos (by omega)]
      have ht : (s.extract ((p.length : Int) + 1).toNat s.size).toList = t := by
        rw [show ((p.length : Int) + 1).toNat = (p ++ [c]).length by simp only [List.length_append, List.length_cons, List.length_nil]; omega]
        exact ext_end (by simp [h1])
      have hp : (s.extract 0 ((p.length : Int) + 0).toNat).toList = p := by
        rw [tl_extract, h1]
        simp
      obtain ⟨r, e, l⟩ := ih (s.extract ((p.length : Int) + 1).toNat s.size) (a.set i (s.extract 0 ((p.length : Int) + 0).toNat)) (i + 1) k (by
        rw [ht]
        rw [h1, List.count_append, List.count_cons_self, List.count_eq_zero.2 h2] at hd
        omega) (by omega) (by simp only [List.length_set]; omega) (by
        rw [ByteArray.size_extract]
        omega) (by omega)
      refine ⟨r, ?_, ?_⟩
      · rw [← e]
        congr 1
      · rw [l, take_set_map _ _ _ (by omega), ht, hp, h1, splitA_span c t p [] h2]
        simp
theorem count_one (c : UInt8) (s : ByteArray) : strings_Count.f s (⟨#[c]⟩ : ByteArray) = some ((s.toList.count c : Nat) : Int) := by
  unfold strings_Count.f
  rw [if_pos (show (⟨#[c]⟩ : ByteArray).size = 1 from rfl), tl]
  rfl
theorem genSplit_j (c : UInt8) (s : ByteArray) (hs : s.size ≤ 4194304) (k n : Nat) (hn : s.toList.count c = n) (hc : n ≤ s.size) (hk : s.size + 2 < k) : ∃ r, strings_genSplit.j0 k s (⟨#[c]⟩ : ByteArray) 0 ((n : Int) + 1) = some r ∧ r.map ByteArray.toList = splitA c [] s.toList := by
  obtain ⟨k, rfl⟩ : ∃ m, k = m + 1 := ⟨k - 1, by omega⟩
  have hm : mn ((n : Int) + 1) (wrap64 ((s.size : Int) + 1)) = (n : Int) + 1 := by
    rw [w64 (by omega) (by omega)]
    unfold mn
    omega
  have hr : (List.replicate ((n : Int) + 1).toNat (⟨#[]⟩ : ByteArray)).length = n + 1 := by
    rw [List.length_replicate]
    omega
  simp only [strings_genSplit.j0, hm]
  generalize List.replicate ((n : Int) + 1).toNat (⟨#[]⟩ : ByteArray) = a at *
  rw [if_pos (by omega), if_pos (by omega), w64 (by omega) (by omega)]
  obtain ⟨r, e1, l⟩ := genSplit_loop c ((n : Int) + 1 - 1) (by omega) n s a 0 k hn (by omega) (by omega) hs (by omega)
  refine ⟨r, ?_, by simpa using l⟩
  simpa using e1
theorem split_one (c : UInt8) (s : ByteArray) (hs : s.size ≤ 4194304) (k : Nat) (hk : s.size + 2 < k) : ∃ r, strings_Split.f k s (⟨#[c]⟩ : ByteArray) = some r ∧ r.map ByteArray.toList = splitA c [] s.toList := by
  have hc : s.toList.count c ≤ s.size := by rw [← tl_length]; exact List.count_le_length
  obtain ⟨r, e, l⟩ := genSplit_j c s hs k _ rfl hc hk
  refine ⟨r, ?_, l⟩
  have hne : ¬ (⟨#[c]⟩ : ByteArray).toList = [] := by
    rw [tl]
    exact List.cons_ne_nil _ _
  unfold strings_Split.f strings_genSplit.f
  rw [if_neg (show ¬ (-1 : Int) = 0 by decide), if_neg hne, if_pos (show (-1 : Int) < 0 by decide), count_one]
  simp only [Option.bind_some]
  rw [w64 (by omega) (by omega), e]
  simp only [Option.bind_some]

theorem spec_parts_loop (s : ByteArray) (hs : s.size ≤ 4194304) : ∀ (t pre p : List UInt8) (out : List ByteArray) (k : Nat), s.toList = pre ++ (p ++ t) → out.length ≤ pre.length → t.length < k →
    ∃ r, spec_Parts.l0 k s out (pre.length : Int) ((pre.length + p.length : Nat) : Int) = some r ∧ r.map ByteArray.toList = out.map ByteArray.toList ++ splitA 47 p t
  | [], pre, p, out, k, h, ho, hk => by
    obtain ⟨k, rfl⟩ : ∃ m, k = m + 1 := ⟨k - 1, by omega⟩
    have hz := size_mid h
    simp only [List.length_append, List.length_nil] at hz
    unfold spec_Parts.l0
    rw [if_neg (by omega), if_pos (by omega), if_pos (by omega), if_pos (by omega)]
    refine ⟨_, rfl, ?_⟩
    rw [Int.toNat_natCast, List.map_append, List.map_cons, List.map_nil, ext_end (p := p) (by simpa using h)]
    rfl
  | b :: t, pre, p, out, k, h, ho, hk => by
    simp only [List.length_cons] at hk
    obtain ⟨k, rfl⟩ : ∃ m, k = m + 1 := ⟨k - 1, by omega⟩
    have hz := size_mid h
    simp only [List.length_append, List.length_cons] at hz
    have hb : bt s ((pre.length + p.length : Nat) : Int) = (b.toNat : Int) := by
      have := bt_mid (s := s) (pre := pre ++ p) (b := b) (t := t) (by simp [h])
      simpa using this
    unfold spec_Parts.l0
    rw [if_pos (by omega), if_pos (by omega), hb, w64 (by omega) (by omega)]
    by_cases hc : b = 47
    · subst hc
      rw [if_pos (show (((47 : UInt8).toNat : Nat) : Int) = 47 from rfl), if_pos (by omega), if_pos (by omega), if_pos (by omega), if_pos (by omega)]
      obtain ⟨r, e, l⟩ := spec_parts_loop s hs t (pre ++ p ++ [47]) [] (out ++ [s.extract ((pre.length : Nat) : Int).toNat ((pre.length + p.length : Nat) : Int).toNat]) k (by simp [h]) (by simp; omega) (by omega)
      have a1 : (((pre ++ p ++ [47]).length : Nat) : Int) = ((pre.length + p.length : Nat) : Int) + 1 := by
        simp only [List.length_append, List.length_cons, List.length_nil]
        omega
      have a2 : (((pre ++ p ++ [47]).length + ([] : List UInt8).length : Nat) : Int) = ((pre.length + p.length : Nat) : Int) + 1 := by
        simp only [List.length_append, List.length_cons, List.length_nil]
        omega
      rw [a1, a2] at e
      refine ⟨r, e, ?_⟩
      · rw [l]
        simp only [Int.toNat_natCast, List.map_append, List.map_cons, List.map_nil, splitA]
        rw [ext_mid h]
        simp
    · rw [if_neg (fun e : (b.toNat : Int) = 47 => hc (u8_eq.1 (show (b.toNat : Int) = ((47 : UInt8).toNat : Int) from e)))]
      obtain ⟨r, e, l⟩ := spec_parts_loop s hs t pre (p ++ [b]) out k (by simp [h]) ho (by omega)
      refine ⟨r, ?_, ?_⟩
      · rw [← e]
        congr 1
        simp
        omega
      · rw [l]
        simp only [splitA]
        rw [if_neg hc]
theorem spec_parts (s : ByteArray) (hs : s.size ≤ 4194304) (k : Nat) (hk : s.size < k) : ∃ r, spec_Parts.f k s = some r ∧ r.map ByteArray.toList = splitA 47 [] s.toList := by
  obtain ⟨r, e, l⟩ := spec_parts_loop s hs s.toList [] [] [] k rfl (by simp) (by rw [tl_length]; exact hk)
  exact ⟨r, e, by simpa using l⟩
theorem impl_parts (s : ByteArray) (hs : s.size ≤ 4194304) (k : Nat) (hk : s.size + 2 < k) : ∃ r, impl_Parts.f k s = some r ∧ r.map ByteArray.toList = splitA 47 [] s.toList := by
  obtain ⟨r, e, l⟩ := split_one 47 s hs k hk
  unfold impl_Parts.f
  rw [e]
  exact ⟨r, rfl, l⟩

theorem in_eq (a b c : Int) : spec_l01In.f a b c = some (decide (b ≤ a ∧ a ≤ c)) := by
  unfold spec_l01In.f
  by_cases h : b ≤ a
  · rw [if_pos h]; simp [h]
  · rw [if_neg h]; simp [h]

theorem within_eq (a b c : Int) : impl_within.f a b c = some (decide (b ≤ a ∧ a ≤ c)) := by
  unfold impl_within.f
  by_cases h : b ≤ a
  · rw [if_pos h]; simp [h]
  · rw [if_neg h]; simp [h]

theorem allB_list (p : Int → Bool) (s : ByteArray) : allB p s = s.toList.all (fun b => p (b.toNat : Int)) := rfl

/-- Is a text a component? -/
def partOkM (l : List UInt8) : Bool := decide (1 ≤ l.length ∧ l.length ≤ 60) && (l != [46]) && (l != [46, 46]) && l.all (fun b => pPart (b.toNat : Int))
theorem spec_part_loop (s : ByteArray) (hs : s.size ≤ 140737488351232) : ∀ (d k : Nat) (i : Int), 0 ≤ i → (s.size : Int) - i = d → d < k →
    spec_PartOk.l0 k s i = some ((s.toList.drop i.toNat).all (fun b => pPart (b.toNat : Int)) && (decide (1 ≤ s.toList.length ∧ s.toList.length ≤ 60) && (s.toList != [46]) && (s.toList != [46, 46]))) := by
  intro d
  induction d with
  | zero =>
    intro k i h0 hd hk
    obtain ⟨k, rfl⟩ : ∃ m, k = m + 1 := ⟨k - 1, by omega⟩
    simp only [spec_PartOk.l0]
    rw [if_neg (by omega), List.drop_eq_nil_of_le (by rw [tl_length]; omega), in_eq]
    simp only [Option.bind_some, List.all_nil, Bool.true_and, tl_length]
    by_cases h1 : 1 ≤ s.size ∧ s.size ≤ 60
    · rw [if_pos (by simpa using ⟨by omega, by omega⟩), decide_eq_true h1]
      by_cases h2 : s.toList = [46]
      · rw [if_pos h2]; simp [h2]
      · rw [if_neg h2]; simp [h2]
    · rw [if_neg (by simp; omega), decide_eq_false h1]
      simp
  | succ d ih =>
    intro k i h0 hd hk
    obtain ⟨k, rfl⟩ : ∃ m, k = m + 1 := ⟨k - 1, by omega⟩
    simp only [spec_PartOk.l0]
    obtain ⟨b, e, hbt⟩ := bt_step s i h0 (by omega)
    have hlt := b.toNat_lt
    rw [if_pos (by omega), if_pos h0, in_eq, hbt, w64 (n := (b.toNat : Int)) (by omega) (by omega), w64 (n := i + 1) (by omega) (by omega), ih k (i + 1) (by omega) (by omega) (by omega), e]
    simp only [Option.bind_some, List.all_cons]
    by_cases h1 : 33 ≤ (b.toNat : Int) ∧ (b.toNat : Int) ≤ 126
    · rw [if_pos (by simpa using h1)]
      by_cases h2 : (b.toNat : Int) = 47
      · rw [if_pos h2]; simp [pPart, h2]
      · have hp : pPart (b.toNat : Int) = true := by
          unfold pPart
          rw [decide_eq_true h1.1, decide_eq_true h1.2, bne_iff_ne.2 h2]
          rfl
        rw [if_neg h2, hp, Bool.true_and]
    · rw [if_neg (by simpa using h1)]
      have : pPart (b.toNat : Int) = false := by
        unfold pPart
        by_cases h3 : 33 ≤ (b.toNat : Int)
        · rw [decide_eq_false (show ¬ (b.toNat : Int) ≤ 126 by omega)]; simp
        · rw [decide_eq_false h3]; simp
      rw [this]
      simp
theorem spec_partOk (s : ByteArray) (hs : s.size ≤ 140737488351232) (k : Nat) (hk : s.size < k) : spec_PartOk.f k s = some (partOkM s.toList) := by
  unfold spec_PartOk.f partOkM
  rw [spec_part_loop s hs s.size k 0 (by omega) (by omega) hk, Bool.and_comm]
  rfl
theorem impl_partOk (s : ByteArray) (hs : s.size ≤ 140737488351232) : impl_PartOk.f s = some (partOkM s.toList) := by
  unfold impl_PartOk.f partOkM
  rw [within_eq]
  simp only [Option.bind_some, tl_length]
  by_cases h1 : 1 ≤ s.size ∧ s.size ≤ 60
  · rw [if_pos (by simpa using ⟨by omega, by omega⟩), decide_eq_true h1]
    by_cases h2 : s.toList = [46]
    · rw [if_pos h2]; simp [h2]
    · rw [if_neg h2]
      by_cases h3 : s.toList = [46, 46]
      · rw [if_pos h3]; simp [h3]
      · rw [if_neg h3]
        unfold impl_areBytes.f
        rw [if_pos (by omega)]
        simp [h2, h3, allB]
  · rw [if_neg (by simp; omega), decide_eq_false h1]
    simp

/-- Is a text a path? -/
def pathOkM (l : List UInt8) : Bool := decide (l.length ≤ 200) && (splitA 47 [] l).all partOkM
theorem spec_path_loop (s : ByteArray) : ∀ (t pre : List ByteArray) (k : Nat), (∀ x ∈ t, x.size ≤ 4194304) → pre.length + t.length ≤ 100000000 → t.length + 4194310 < k →
    spec_PathOk.l0 k s (pre ++ t) (pre.length : Int) = some ((t.map ByteArray.toList).all partOkM && decide (s.toList.length ≤ 200))
  | [], pre, k, hx, hl, hk => by
    obtain ⟨k, rfl⟩ : ∃ m, k = m + 1 := ⟨k - 1, by omega⟩
    unfold spec_PathOk.l0
    rw [if_neg (by simp)]
    simp [tl_length]
    omega
  | x :: t, pre, k, hx, hl, hk => by
    simp only [List.length_cons] at hl hk
    obtain ⟨k, rfl⟩ : ∃ m, k = m + 1 := ⟨k - 1, by omega⟩
    have hs : x.size ≤ 4194304 := hx x (by simp)
    unfold spec_PathOk.l0
    have er : rdOf ByteArray.empty (pre ++ x :: t) (pre.length : Int) = x := by
      unfold rdOf
      rw [Int.toNat_natCast, List.getD_eq_getElem?_getD, List.getElem?_append_right (Nat.le_refl _)]
      simp
    rw [if_pos (by simp; omega), if_pos (by omega), er, spec_partOk x (by omega) k (by omega), w64 (by omega) (by omega)]
    simp only [Option.bind_some, List.map_cons, List.all_cons]
    have := spec_path_loop s t (pre ++ [x]) k (fun y hy => hx y (by simp [hy])) (by simp only [List.length_append, List.length_cons, List.length_nil]; omega) (by omega)
    simp only [List.length_append, List.length_cons, List.length_nil, List.append_assoc, List.singleton_append] at this
    by_cases hp : partOkM x.toList = true
    · rw [if_pos hp, show ((pre.length : Int) + 1) = ((pre.length + (0 + 1) : Nat) : Int) by omega, this, hp]
      simp
    · rw [if_neg hp]
      simp [Bool.eq_false_iff.2 hp]
theorem parts_sizes {s : ByteArray} {r : List ByteArray} (h : r.map ByteArray.toList = splitA 47 [] s.toList) : r.length ≤ s.size + 1 ∧ ∀ x ∈ r, x.size ≤ s.size := by
  constructor
  · have := congrArg List.length h
    have h3 := splitA_le 47 s.toList []
    rw [tl_length] at h3
    rw [List.length_map] at this
    omega
  · intro x hx
    have hm : x.toList ∈ splitA 47 [] s.toList := by
      rw [← h]
      exact List.mem_map_of_mem hx
    have := splitA_mem 47 _ _ _ hm
    rw [tl_length, tl_length] at this
    simpa using this
theorem spec_pathOk (s : ByteArray) (hs : s.size ≤ 4194304) (k : Nat) (hk : s.size + 4194400 < k) : spec_PathOk.f k s = some (pathOkM s.toList) := by
  obtain ⟨r, e, l⟩ := spec_parts s hs k (by omega)
  obtain ⟨h1, h2⟩ := parts_sizes l
  unfold spec_PathOk.f
  rw [e]
  simp only [Option.bind_some]
  have := spec_path_loop s r [] k (fun x hx => Nat.le_trans (h2 x hx) hs) (by simp; omega) (by omega)
  simp only [List.nil_append, List.length_nil] at this
  rw [show ((0 : Nat) : Int) = 0 from rfl] at this
  rw [this, l, Bool.and_comm]
  rfl
theorem all_parts : ∀ r : List ByteArray, (∀ x ∈ r, x.size ≤ 4194304) → allS impl_PartOk.f r = some ((r.map ByteArray.toList).all partOkM)
  | [], _ => rfl
  | x :: r, h => by
    have hx := h x (by simp)
    simp only [allS]
    rw [impl_partOk x (by omega)]
    simp only [Option.bind_some, List.map_cons, List.all_cons]
    by_cases hp : partOkM x.toList = true
    · rw [if_pos hp, all_parts r (fun y hy => h y (by simp [hy])), hp]
      simp
    · rw [if_neg hp]
      simp [Bool.eq_false_iff.2 hp]
theorem impl_pathOk (s : ByteArray) (hs : s.size ≤ 4194304) (k : Nat) (hk : s.size + 2 < k) : impl_PathOk.f k s = some (pathOkM s.toList) := by
  unfold impl_PathOk.f pathOkM
  rw [tl_length]
  by_cases h : s.size ≤ 200
  · rw [if_pos (by omega), decide_eq_true h]
    obtain ⟨r, e, l⟩ := impl_parts s hs k hk
    obtain ⟨h1, h2⟩ := parts_sizes l
    rw [e]
    simp only [Option.bind_some]
    unfold impl_areAll_string.f
    rw [if_pos rfl, all_parts r (fun x hx => Nat.le_trans (h2 x hx) hs), l]
    simp
  · rw [if_neg (by omega), decide_eq_false h]
    simp

/-! ### Lists of texts: sized, copied -/
def sizeStr (l : List ByteArray) : Nat := (l.map ByteArray.size).sum
theorem sizeStr_cons (x : ByteArray) (l : List ByteArray) : sizeStr (x :: l) = x.size + sizeStr l := rfl
theorem rd_mid (pre t : List ByteArray) (x : ByteArray) : rdOf ByteArray.empty (pre ++ x :: t) (pre.length : Int) = x := by
  unfold rdOf
  rw [Int.toNat_natCast, List.getD_eq_getElem?_getD, List.getElem?_append_right (Nat.le_refl _)]
  simp

def joinM (l : List ByteArray) : List UInt8 := Lib.join (l.map ByteArray.toList) [47]
theorem joinTail_cons (sep : List UInt8) (x : List UInt8) (r : List (List UInt8)) : Lib.joinTail sep (x :: r) = sep ++ x ++ Lib.joinTail sep r := by
  simp [Lib.joinTail]
theorem joinTail_len : ∀ l : List ByteArray, (Lib.joinTail [47] (l.map ByteArray.toList)).length = sizeStr l + l.length
  | [] => rfl
  | x :: l => by
    rw [List.map_cons, joinTail_cons, sizeStr_cons]
    simp only [List.length_append, List.length_cons, List.length_nil, joinTail_len l, tl_length]
    omega
theorem joinM_len (l : List ByteArray) : (joinM l).length ≤ sizeStr l + l.length := by
  unfold joinM
  cases l with
  | nil => simp [Lib.join_nil]
  | cons x l =>
    rw [List.map_cons, Lib.join_cons, List.length_append, joinTail_len, tl_length, sizeStr_cons, List.length_cons]
    omega
theorem spec_join_loop : ∀ (t pre : List ByteArray) (out : ByteArray) (k : Nat), 0 < pre.length → pre.length + t.length ≤ 1000000000000 → out.size + sizeStr t + t.length ≤ 1000000000000 → t.length < k →
    ∃ r, spec_Join.l0 k (pre ++ t) out (pre.length : Int) = some r ∧ r.toList = out.toList ++ Lib.joinTail [47] (t.map ByteArray.toList)
  | [], pre, out, k, h0, hl, hs, hk => by
    obtain ⟨k, rfl⟩ : ∃ m, k = m + 1 := ⟨k - 1, by omega⟩
    unfold spec_Join.l0
    rw [if_neg (by simp)]
    exact ⟨out, rfl, by simp [Lib.joinTail]⟩
  | x :: t, pre, out, k, h0, hl, hs, hk => by
    simp only [List.length_cons, sizeStr_cons] at hl hk hs
    obtain ⟨k, rfl⟩ : ∃ m, k = m + 1 := ⟨k - 1, by omega⟩
    have e1 : (out ++ (⟨#[47]⟩ : ByteArray)).size = out.size + 1 := by rw [ByteArray.size_append]; rfl
    unfold spec_Join.l0
    rw [if_pos (by simp; omega), if_pos (by omega), if_pos (by omega), if_pos (by omega), rd_mid, if_pos (by omega), w64 (by omega) (by omega)]
    have ih := spec_join_loop t (pre ++ [x]) ((out ++ (⟨#[47]⟩ : ByteArray)) ++ x) k (by simp) (by simp only [List.length_append, List.length_cons, List.length_nil]; omega) (by rw [ByteArray.size_append]; omega) (by omega)
    simp only [List.length_append, List.length_cons, List.length_nil, List.append_assoc, List.singleton_append] at ih
    obtain ⟨r, e, l⟩ := ih
    rw [show ((pre.length : Int) + 1) = ((pre.length + (0 + 1) : Nat) : Int) by omega]
    refine ⟨r, e, ?_⟩
    rw [l, tl_append, tl_append, List.map_cons, joinTail_cons]
    have : (⟨#[47]⟩ : ByteArray).toList = [47] := by rw [tl]
    rw [this]
    simp
theorem spec_join (l : List ByteArray) (hl : l.length ≤ 8388608) (hs : sizeStr l ≤ 8388608) (k : Nat) (hk : l.length < k) : ∃ r, spec_Join.f k l = some r ∧ r.toList = joinM l := by
  unfold spec_Join.f joinM
  cases l with
  | nil =>
    obtain ⟨k, rfl⟩ : ∃ m, k = m + 1 := ⟨k - 1, by omega⟩
    unfold spec_Join.l0
    rw [if_neg (by simp)]
    exact ⟨_, rfl, by rw [tl]; rfl⟩
  | cons x t =>
    simp only [List.length_cons, sizeStr_cons] at hl hk hs
    obtain ⟨k, rfl⟩ : ∃ m, k = m + 1 := ⟨k - 1, by omega⟩
    unfold spec_Join.l0
    have er : rdOf ByteArray.empty (x :: t) 0 = x := rfl
    have e0 : (⟨#[]⟩ : ByteArray).size = 0 := rfl
    rw [if_pos (by simp only [List.length_cons]; omega), if_neg (by decide), if_pos (by decide), er, if_pos (by omega), w64 (by decide) (by decide)]
    obtain ⟨r, e, l⟩ := spec_join_loop t [x] ((⟨#[]⟩ : ByteArray) ++ x) k (by simp) (by simp; omega) (by rw [ByteArray.size_append]; omega) (by omega)
    refine ⟨r, e, ?_⟩
    rw [l, tl_append, List.map_cons, Lib.join_cons]
    have : (⟨#[]⟩ : ByteArray).toList = [] := by rw [tl]
    rw [this]
    simp
theorem lib_join (l : List ByteArray) (sep : ByteArray) (hl : l.length ≤ 8388608) (hs : (Lib.join (l.map ByteArray.toList) sep.toList).length ≤ 140737488355328) : ∃ r, strings_Join.f l sep = some r ∧ r.toList = Lib.join (l.map ByteArray.toList) sep.toList := by
  have e : l.map (fun x => x.data.toList) = l.map ByteArray.toList := List.map_congr_left fun x _ => (tl x).symm
  unfold strings_Join.f
  rw [e, ← tl sep, if_pos ⟨by omega, hs⟩]
  exact ⟨_, rfl, tl_mk _⟩
theorem impl_join (l : List ByteArray) (hl : l.length ≤ 8388608) (hs : sizeStr l ≤ 8388608) : ∃ r, impl_Join.f l = some r ∧ r.toList = joinM l := by
  have h47 : (⟨#[47]⟩ : ByteArray).toList = [47] := by rw [tl]
  have := joinM_len l
  obtain ⟨r, e, h⟩ := lib_join l (⟨#[47]⟩ : ByteArray) hl (by rw [h47]; unfold joinM at this; omega)
  unfold impl_Join.f
  rw [e]
  exact ⟨r, rfl, by rw [h, h47]; rfl⟩

theorem sizeStr_sum : ∀ l : List ByteArray, sizeStr l = sumLen (l.map ByteArray.toList)
  | [] => rfl
  | x :: l => by
    rw [sizeStr_cons, sizeStr_sum l]
    simp [sumLen, tl_length]
theorem sizeStr_drop : ∀ (n : Nat) (l : List ByteArray), sizeStr (l.drop n) ≤ sizeStr l
  | 0, l => Nat.le_refl _
  | n + 1, [] => Nat.le_refl _
  | n + 1, x :: l => by
    have := sizeStr_drop n l
    rw [sizeStr_cons, List.drop_succ_cons]
    omega
theorem sizeStr_append (a b : List ByteArray) : sizeStr (a ++ b) = sizeStr a + sizeStr b := by
  induction a with
  | nil => simp [sizeStr]
  | cons x a ih => rw [List.cons_append, sizeStr_cons, sizeStr_cons, ih]; omega
theorem sizeStr_take (n : Nat) (l : List ByteArray) : sizeStr (l.take n) ≤ sizeStr l := by
  have h := sizeStr_append (l.take n) (l.drop n)
  rw [List.take_append_drop] at h
  omega
theorem parts_sum {s : ByteArray} {r : List ByteArray} (h : r.map ByteArray.toList = splitA 47 [] s.toList) : sizeStr r + r.length = s.size + 1 := by
  have h1 := splitA_sum 47 s.toList []
  have h2 : r.length = (splitA 47 [] s.toList).length := by rw [← h, List.length_map]
  rw [← h, ← sizeStr_sum, h, ← h2, tl_length] at h1
  simpa using h1

/-- The parts that a text with strokes means; none where it leads out. -/
def cleanM : List (List UInt8) → List (List UInt8) → Option (List (List UInt8))
  | out, [] => some out
  | out, x :: t => if x = [] ∨ x = [46] then cleanM out t else if x = [46, 46] then (if out = [] then none else cleanM (out.take (out.length - 1)) t) else cleanM (out ++ [x]) t
def resM : Option (List (List UInt8)) → List UInt8 × Bool
  | none => ([], false)
  | some o => if pathOkM (Lib.join o [47]) = true then (Lib.join o [47], true) else ([], false)
theorem empty_list : (⟨#[]⟩ : ByteArray).toList = [] := by rw [tl]
theorem spec_clean_loop : ∀ (t pre out : List ByteArray) (k : Nat), pre.length + t.length ≤ 1000000000 → sizeStr out + out.length + sizeStr t + t.length ≤ 4194304 → 2 * t.length + 8500000 < k →
    ∃ r, spec_Clean.l0 k (pre ++ t) out (pre.length : Int) = some r ∧ (r.1.toList, r.2) = resM (cleanM (out.map ByteArray.toList) (t.map ByteArray.toList))
  | [], pre, out, k, hl, hs, hk => by
    simp only [List.length_nil] at hs hk
    obtain ⟨k, rfl⟩ : ∃ m, k = m + 1 := ⟨k - 1, by omega⟩
    unfold spec_Clean.l0
    rw [if_neg (by simp)]
    obtain ⟨q, e, l⟩ := spec_join out (by omega) (by omega) k (by omega)
    have hq : q.size ≤ 4194304 := by
      have := joinM_len out
      rw [← l, tl_length] at this
      omega
    rw [e]
    simp only [Option.bind_some]
    rw [spec_pathOk q hq k (by omega), l]
    simp only [Option.bind_some, List.map_nil, cleanM, resM]
    unfold joinM at l ⊢
    by_cases hp : pathOkM (Lib.join (out.map ByteArray.toList) [47]) = true
    · rw [if_pos hp, if_pos hp]
      exact ⟨_, rfl, by rw [l]⟩
    · rw [if_neg hp, if_neg hp]
      exact ⟨_, rfl, by rw [empty_list]⟩
  | x :: t, pre, out, k, hl, hs, hk => by
    simp only [List.length_cons, sizeStr_cons] at hl hk hs
    obtain ⟨k, rfl⟩ : ∃ m, k = m + 2 := ⟨k - 2, by omega⟩
    have next : ∀ out2 : List ByteArray, sizeStr out2 + out2.length + sizeStr t + t.length ≤ 4194304 → ∃ r, spec_Clean.l0 k (pre ++ x :: t) out2 ((pre.length : Int) + 1) = some r ∧ (r.1.toList, r.2) = resM (cleanM (out2.map ByteArray.toList) (t.map ByteArray.toList)) := by
      intro out2 h2
      have ih := spec_clean_loop t (pre ++ [x]) out2 k (by simp only [List.length_append, List.length_cons, List.length_nil]; omega) h2 (by omega)
      simp only [List.length_append, List.length_cons, List.length_nil, List.append_assoc, List.singleton_append] at ih
      rw [show ((pre.length : Int) + 1) = ((pre.length + (0 + 1) : Nat) : Int) by omega]
      exact ih
    have hlt : (pre.length : Int) < ((pre ++ x :: t).length : Int) := by simp; omega
    simp only [List.map_cons, cleanM]
    unfold spec_Clean.l0
    rw [if_pos hlt, if_pos (by omega), rd_mid]
    by_cases h1 : x.toList = []
    · rw [if_pos h1, if_pos (Or.inl h1)]
      unfold spec_Clean.j1
      rw [if_pos rfl, w64 (by omega) (by omega)]
      exact next out (by omega)
    rw [if_neg h1]
    by_cases h2 : x.toList = [46]
    · rw [if_pos (Or.inr h2), beq_iff_eq.2 h2]
      unfold spec_Clean.j1
      rw [if_pos rfl, w64 (by omega) (by omega)]
      exact next out (by omega)
    rw [if_neg (fun h => h.elim h1 h2), beq_eq_false_iff_ne.2 h2]
    unfold spec_Clean.j1
    rw [if_neg (by decide), if_pos (by omega), if_pos hlt, rd_mid, w64 (n := (pre.length : Int) + 1) (by omega) (by omega)]
    by_cases h3 : x.toList = [46, 46]
    · rw [if_pos h3, if_pos h3]
      by_cases h4 : out = []
      · subst h4
        rw [if_pos (show (([] : List ByteArray).length : Int) = 0 from rfl), if_pos (show List.map ByteArray.toList [] = [] from rfl)]
        exact ⟨_, rfl, by rw [empty_list]; rfl⟩
      · have h5 : 0 < out.length := List.length_pos_iff.2 h4
        rw [if_neg (by omega), if_neg (fun h => h4 (List.map_eq_nil_iff.1 h)), w64 (by omega) (by omega), if_pos (by omega), if_pos (by omega)]
        have := next (out.take ((out.length : Int) - 1).toNat) (by
          have := sizeStr_take ((out.length : Int) - 1).toNat out
          rw [List.length_take]
          omega)
        rw [List.map_take] at this
        rw [List.length_map]
        rw [show ((out.length : Int) - 1).toNat = out.length - 1 by omega] at this ⊢
        exact this
    · rw [if_neg h3, if_neg h3, if_pos (by omega)]
      have := next (out ++ [x]) (by
        rw [sizeStr_append, List.length_append]
        simp only [sizeStr_cons, List.length_cons, List.length_nil]
        simp only [sizeStr, List.map_nil, List.sum_nil] at *
        omega)
      rw [List.map_append] at this
      exact this
theorem impl_clean_loop (xs : List ByteArray) : ∀ (t pre out : List ByteArray) (k : Nat), xs = pre ++ t → pre.length + t.length ≤ 1000000000 → sizeStr out + out.length + sizeStr t + t.length ≤ 4194304 → 2 * t.length + 8500000 < k →
    ∃ r, impl_Clean.l0 k out xs (xs.length : Int) (pre.length : Int) = some r ∧ (r.1.toList, r.2) = resM (cleanM (out.map ByteArray.toList) (t.map ByteArray.toList))
  | [], pre, out, k, hx, hl, hs, hk => by
    simp only [List.length_nil] at hs hk
    obtain ⟨k, rfl⟩ : ∃ m, k = m + 1 := ⟨k - 1, by omega⟩
    unfold impl_Clean.l0
    rw [if_neg (by simp [hx])]
    obtain ⟨q, e, l⟩ := impl_join out (by omega) (by omega)
    have hq : q.size ≤ 4194304 := by
      have := joinM_len out
      rw [← l, tl_length] at this
      omega
    rw [e]
    simp only [Option.bind_some]
    rw [impl_pathOk q hq k (by omega), l]
    simp only [Option.bind_some, List.map_nil, cleanM, resM]
    unfold joinM at l ⊢
    by_cases hp : pathOkM (Lib.join (out.map ByteArray.toList) [47]) = true
    · rw [if_pos hp, if_pos hp]
      exact ⟨_, rfl, by rw [l]⟩
    · rw [if_neg hp, if_neg hp]
      exact ⟨_, rfl, by rw [empty_list]⟩
  | x :: t, pre, out, k, hx, hl, hs, hk => by
    simp only [List.length_cons, sizeStr_cons] at hl hk hs
    obtain ⟨k, rfl⟩ : ∃ m, k = m + 2 := ⟨k - 2, by omega⟩
    have next : ∀ out2 : List ByteArray, sizeStr out2 + out2.length + sizeStr t + t.length ≤ 4194304 → ∃ r, impl_Clean.l0 k out2 xs (xs.length : Int) ((pre.length : Int) + 1) = some r ∧ (r.1.toList, r.2) = resM (cleanM (out2.map ByteArray.toList) (t.map ByteArray.toList)) := by
      intro out2 h2
      have ih := impl_clean_loop xs t (pre ++ [x]) out2 k (by simp [hx]) (by simp only [List.length_append, List.length_cons, List.length_nil]; omega) h2 (by omega)
      simp only [List.length_append, List.length_cons, List.length_nil] at ih
      rw [show ((pre.length : Int) + 1) = ((pre.length + (0 + 1) : Nat) : Int) by omega]
      exact ih
    have hlt : (pre.length : Int) < (xs.length : Int) := by rw [hx]; simp; omega
    have er : rdOf ByteArray.empty xs (pre.length : Int) = x := by rw [hx]; exact rd_mid pre t x
    simp only [List.map_cons, cleanM]
    unfold impl_Clean.l0
    rw [if_pos hlt, if_pos (by omega), if_pos hlt, er]
    by_cases h1 : x.toList = []
    · rw [if_pos h1, if_pos (Or.inl h1), beq_iff_eq.2 h1]
      unfold impl_Clean.j1
      rw [if_pos rfl, w64 (by omega) (by omega)]
      exact next out (by omega)
    rw [if_neg h1]
    by_cases h2 : x.toList = [46]
    · rw [if_pos (Or.inr h2), beq_iff_eq.2 h2]
      unfold impl_Clean.j1
      rw [if_pos rfl, w64 (by omega) (by omega)]
      exact next out (by omega)
    rw [if_neg (fun h => h.elim h1 h2), beq_eq_false_iff_ne.2 h2]
    unfold impl_Clean.j1
    rw [if_neg (by decide), w64 (n := (pre.length : Int) + 1) (by omega) (by omega)]
    by_cases h3 : x.toList = [46, 46]
    · rw [if_pos h3, if_pos h3]
      by_cases h4 : out = []
      · subst h4
        rw [if_pos (show (([] : List ByteArray).length : Int) = 0 from rfl), if_pos (show List.map ByteArray.toList [] = [] from rfl)]
        exact ⟨_, rfl, by rw [empty_list]; rfl⟩
      · have h5 : 0 < out.length := List.length_pos_iff.2 h4
        rw [if_neg (by omega), if_neg (fun h => h4 (List.map_eq_nil_iff.1 h)), w64 (by omega) (by omega), if_pos (by omega), if_pos (by omega)]
        have := next (out.take ((out.length : Int) - 1).toNat) (by
          have := sizeStr_take ((out.length : Int) - 1).toNat out
          rw [List.length_take]
          omega)
        rw [List.map_take] at this
        rw [List.length_map]
        rw [show ((out.length : Int) - 1).toNat = out.length - 1 by omega] at this ⊢
        exact this
    · rw [if_neg h3, if_neg h3, if_pos (by omega)]
      have := next (out ++ [x]) (by
        rw [sizeStr_append, List.length_append]
        simp only [sizeStr_cons, List.length_cons, List.length_nil]
        simp only [sizeStr, List.map_nil, List.sum_nil] at *
        omega)
      rw [List.map_append] at this
      exact this
theorem spec_clean (s : ByteArray) (hs : s.size ≤ 2097160) (k : Nat) (hk : 14000000 < k) : ∃ r, spec_Clean.f k s = some r ∧ (r.1.toList, r.2) = resM (cleanM [] (splitA 47 [] s.toList)) := by
  obtain ⟨r, e, l⟩ := spec_parts s (by omega) k (by omega)
  have hz := parts_sum l
  unfold spec_Clean.f
  rw [e]
  simp only [Option.bind_some]
  obtain ⟨q, e2, l2⟩ := spec_clean_loop r [] [] k (by simp; omega) (by simp only [sizeStr, List.map_nil, List.sum_nil, List.length_nil] at *; omega) (by omega)
  refine ⟨q, e2, ?_⟩
  rw [l2, l]
  rfl
theorem impl_clean (s : ByteArray) (hs : s.size ≤ 2097160) (k : Nat) (hk : 14000000 < k) : ∃ r, impl_Clean.f k s = some r ∧ (r.1.toList, r.2) = resM (cleanM [] (splitA 47 [] s.toList)) := by
  obtain ⟨r, e, l⟩ := impl_parts s (by omega) k (by omega)
  have hz := parts_sum l
  unfold impl_Clean.f
  rw [e]
  simp only [Option.bind_some]
  obtain ⟨q, e2, l2⟩ := impl_clean_loop r r [] [] k rfl (by simp; omega) (by simp only [sizeStr, List.map_nil, List.sum_nil, List.length_nil] at *; omega) (by omega)
  refine ⟨q, e2, ?_⟩
  rw [l2, l]
  rfl

theorem has_prefix (a p : ByteArray) : strings_HasPrefix.f a p = some (a.toList.take p.toList.length == p.toList) := by
  unfold strings_HasPrefix.f stringslite_HasPrefix.f
  by_cases h : p.size ≤ a.size
  · rw [if_pos (by omega), if_pos (by omega), if_pos (by omega), tl_extract, List.drop_zero, Int.toNat_natCast, tl_length]
    rfl
  · rw [if_neg (by omega)]
    simp only [Option.bind_some]
    congr 1
    symm
    rw [beq_eq_false_iff_ne]
    intro e
    have := congrArg List.length e
    simp only [List.length_take, tl_length] at this
    omega

def followM (a b : List UInt8) : List UInt8 × Bool := resM (cleanM [] (splitA 47 [] (if a = [] ∨ b.take 1 = [47] then b else a ++ [47] ++ b)))
theorem follow_text (a b : ByteArray) : ((a ++ (⟨#[47]⟩ : ByteArray)) ++ b).toList = a.toList ++ [47] ++ b.toList ∧ ((a ++ (⟨#[47]⟩ : ByteArray)) ++ b).size = a.size + 1 + b.size := by
  have h47 : (⟨#[47]⟩ : ByteArray).toList = [47] := by rw [tl]
  constructor
  · rw [tl_append, tl_append, h47]
  · rw [ByteArray.size_append, ByteArray.size_append]
    rfl
theorem head_stroke (b : ByteArray) : ((b.size : Int) > 0 ∧ bt b 0 = 47) ↔ b.toList.take 1 = [47] := by
  by_cases h : b.size = 0
  · have : b.toList = [] := List.length_eq_zero_iff.1 (by rw [tl_length]; exact h)
    rw [this]
    simp [h]
  · obtain ⟨x, hx, hb⟩ := bt_step b 0 (by decide) (by omega)
    have e : b.toList = x :: b.toList.drop 1 := by simpa using hx
    rw [e, hb]
    simp only [List.take_succ_cons, List.take_zero, List.cons.injEq, and_true]
    constructor
    · rintro ⟨_, h2⟩
      exact (u8_eq (c := 47)).1 h2
    · rintro rfl
      exact ⟨by omega, rfl⟩
theorem spec_follow_j (a b : ByteArray) (ha : a.size ≤ 1048576) (hb : b.size ≤ 1048576) (k : Nat) (hk : 14000002 < k) (x : Bool) : ∃ r, spec_Follow.j0 k a b x = some r ∧ (r.1.toList, r.2) = resM (cleanM [] (splitA 47 [] (if x = true then b.toList else a.toList ++ [47] ++ b.toList))) := by
  obtain ⟨k, rfl⟩ : ∃ m, k = m + 1 := ⟨k - 1, by omega⟩
  simp only [spec_Follow.j0]
  cases x with
  | true =>
    obtain ⟨r, e, l⟩ := spec_clean b (by omega) k (by omega)
    rw [if_pos rfl, if_pos rfl, e]
    exact ⟨_, rfl, l⟩
  | false =>
    have ht := follow_text a b
    have h1 : (⟨#[47]⟩ : ByteArray).size = 1 := rfl
    obtain ⟨r, e, l⟩ := spec_clean ((a ++ (⟨#[47]⟩ : ByteArray)) ++ b) (by omega) k (by omega)
    simp only [Bool.false_eq_true, if_false]
    rw [if_pos (show a.size + 1 ≤ 9223372036854775807 by omega), if_pos (show (a ++ (⟨#[47]⟩ : ByteArray)).size + b.size ≤ 9223372036854775807 by rw [ByteArray.size_append, h1]; omega), e]
    exact ⟨_, rfl, by rw [← ht.1]; exact l⟩
theorem impl_follow_j (a b : ByteArray) (ha : a.size ≤ 1048576) (hb : b.size ≤ 1048576) (k : Nat) (hk : 14000002 < k) (x : Bool) : ∃ r, impl_Follow.j0 k a b x = some r ∧ (r.1.toList, r.2) = resM (cleanM [] (splitA 47 [] (if x = true then b.toList else a.toList ++ [47] ++ b.toList))) := by
  obtain ⟨k, rfl⟩ : ∃ m, k = m + 1 := ⟨k - 1, by omega⟩
  simp only [impl_Follow.j0]
  cases x with
  | true =>
    obtain ⟨r, e, l⟩ := impl_clean b (by omega) k (by omega)
    rw [if_pos rfl, if_pos rfl, e]
    exact ⟨_, rfl, l⟩
  | false =>
    have ht := follow_text a b
    have h1 : (⟨#[47]⟩ : ByteArray).size = 1 := rfl
    obtain ⟨r, e, l⟩ := impl_clean ((a ++ (⟨#[47]⟩ : ByteArray)) ++ b) (by omega) k (by omega)
    simp only [Bool.false_eq_true, if_false]
    rw [if_pos (show a.size + 1 ≤ 9223372036854775807 by omega), if_pos (show (a ++ (⟨#[47]⟩ : ByteArray)).size + b.size ≤ 9223372036854775807 by rw [ByteArray.size_append, h1]; omega), e]
    exact ⟨_, rfl, by rw [← ht.1]; exact l⟩
theorem spec_follow (a b : ByteArray) (ha : a.size ≤ 1048576) (hb : b.size ≤ 1048576) (k : Nat) (hk : 14000002 < k) : ∃ r, spec_Follow.f k a b = some r ∧ (r.1.toList, r.2) = followM a.toList b.toList := by
  have hh := head_stroke b
  unfold spec_Follow.f followM
  by_cases h0 : (b.size : Int) > 0
  · rw [if_pos h0, if_pos (by omega)]
    by_cases h1 : bt b 0 = 47
    · rw [if_pos h1]
      obtain ⟨r, e, l⟩ := spec_follow_j a b ha hb k hk true
      refine ⟨r, e, ?_⟩
      rw [l, if_pos rfl, if_pos (Or.inr (hh.1 ⟨h0, h1⟩))]
    · rw [if_neg h1]
      have h2 : ¬ b.toList.take 1 = [47] := fun h => h1 (hh.2 h).2
      obtain ⟨r, e, l⟩ := spec_follow_j a b ha hb k hk (a.toList == [])
      refine ⟨r, e, ?_⟩
      rw [l]
      by_cases h3 : a.toList = []
      · rw [if_pos (by simpa using h3), if_pos (Or.inl h3)]
      · rw [if_neg (by simpa using h3), if_neg (fun h => h.elim h3 h2)]
  · rw [if_neg h0]
    have h2 : ¬ b.toList.take 1 = [47] := fun h => h0 (hh.2 h).1
    obtain ⟨r, e, l⟩ := spec_follow_j a b ha hb k hk (a.toList == [])
    refine ⟨r, e, ?_⟩
    rw [l]
    by_cases h3 : a.toList = []
    · rw [if_pos (by simpa using h3), if_pos (Or.inl h3)]
    · rw [if_neg (by simpa using h3), if_neg (fun h => h.elim h3 h2)]
theorem impl_follow (a b : ByteArray) (ha : a.size ≤ 1048576) (hb : b.size ≤ 1048576) (k : Nat) (hk : 14000002 < k) : ∃ r, impl_Follow.f k a b = some r ∧ (r.1.toList, r.2) = followM a.toList b.toList := by
  unfold impl_Follow.f followM
  by_cases h3 : a.toList = []
  · rw [if_pos h3, if_pos (Or.inl h3)]
    obtain ⟨r, e, l⟩ := impl_follow_j a b ha hb k hk true
    exact ⟨r, e, by rw [l, if_pos rfl]⟩
  · rw [if_neg h3, has_prefix]
    simp only [Option.bind_some]
    have h47 : (⟨#[47]⟩ : ByteArray).toList = [47] := by rw [tl]
    rw [h47, show ([47] : List UInt8).length = 1 from rfl]
    obtain ⟨r, e, l⟩ := impl_follow_j a b ha hb k hk (b.toList.take 1 == [47])
    refine ⟨r, e, ?_⟩
    rw [l]
    by_cases h2 : b.toList.take 1 = [47]
    · rw [if_pos (beq_iff_eq.2 h2), if_pos (Or.inr h2)]
    · rw [if_neg (fun h => h2 (beq_iff_eq.1 h)), if_neg (fun h => h.elim h3 h2)]

theorem FnExactFollow : laws_FnExactFollow.Pure := by
  intro a b _ _
  unfold laws_FnExactFollow.f
  by_cases h : (a.size : Int) > 1048576
  · exact ⟨0, by rw [if_pos h]⟩
  by_cases h2 : (b.size : Int) > 1048576
  · exact ⟨0, by rw [if_neg h, if_pos h2]⟩
  obtain ⟨r1, e1, l1⟩ := spec_follow a b (by omega) (by omega) 14000003 (by omega)
  obtain ⟨r2, e2, l2⟩ := impl_follow a b (by omega) (by omega) 14000003 (by omega)
  have hh : (r2.1.toList, r2.2) = (r1.1.toList, r1.2) := l2.trans l1.symm
  refine ⟨14000003, ?_⟩
  rw [if_neg h, if_neg h2, e1, e2]
  simp only [Option.bind_some]
  rw [if_pos (Prod.mk.inj hh).1, (Prod.mk.inj hh).2]
  simp

end Go.Proofs.YtjkdpnmmhobjlaaDoor.Pure
