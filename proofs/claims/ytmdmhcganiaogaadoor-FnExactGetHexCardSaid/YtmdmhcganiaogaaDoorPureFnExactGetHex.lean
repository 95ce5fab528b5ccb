/-
The pure statement of the law FnExactGetHex (numbers, byte strings and lists; no Go and no memory): the printed law's function answers true. Conditions: those of the printed statement (each string at most 2^47 - 4096 bytes, each number of its kind).
-/
import Derived.Test.YtmdmhcganiaogaaDoorPFnExactGetHexx2
import Derived.Test.YtmdmhcganiaogaaDoorCore
namespace Go.Proofs.YtmdmhcganiaogaaDoor.Pure
open Go.RowKit Go.Proofs.YtmdmhcganiaogaaDoor.PFnExactGetHex Go.Proofs.YtmdmhcganiaogaaDoorW.PrintWords Go.Proofs.YtmdmhcganiaogaaDoorW.PrintLast Go.Proofs.YtmdmhcganiaogaaDoor.Core
set_option linter.unusedVariables false
set_option linter.unusedSimpArgs false

/-! ### The digits of a number in a base -/
def hexD (d : Nat) : UInt8 := ([48, 49, 50, 51, 52, 53, 54, 55, 56, 57, 97, 98, 99, 100, 101, 102] : List UInt8).getD d 0
def digB (b : Nat) (u : Nat) : List UInt8 := if h : u = 0 ∨ b ≤ 1 then [] else digB b (u / b) ++ [hexD (u % b)]
termination_by u
decreasing_by exact Nat.div_lt_self (by omega) (by omega)
theorem digB_zero (b : Nat) : digB b 0 = [] := by rw [digB, dif_pos (Or.inl rfl)]
theorem digB_step (b u : Nat) (hb : 2 ≤ b) (h : 0 < u) : digB b u = digB b (u / b) ++ [hexD (u % b)] := by
  rw [digB, dif_neg (by omega)]
def numB (b u : Nat) : List UInt8 := if u = 0 then [48] else digB b u
theorem hexD_dec (d : Nat) (h : d < 10) : hexD d = UInt8.ofNat (48 + d) := by
  have : d = 0 ∨ d = 1 ∨ d = 2 ∨ d = 3 ∨ d = 4 ∨ d = 5 ∨ d = 6 ∨ d = 7 ∨ d = 8 ∨ d = 9 := by omega
  rcases this with rfl | rfl | rfl | rfl | rfl | rfl | rfl | rfl | rfl | rfl <;> rfl

theorem rev_ind {P : List UInt8 → Prop} (h0 : P []) (h1 : ∀ l c, P l → P (l ++ [c])) (l : List UInt8) : P l := by
  have h : ∀ m : List UInt8, P m.reverse := fun m => by
    induction m with
    | nil => exact h0
    | cons c m ih =>
      rw [List.reverse_cons]
      exact h1 _ _ ih
  have := h l.reverse
  rwa [List.reverse_reverse] at this

/-! ### Digits in a field of a width, and their value -/
def padB (b : Nat) : Nat → Nat → List UInt8
  | 0, _ => []
  | w + 1, n => padB b w (n / b) ++ [hexD (n % b)]
/-- What a byte is worth as a digit; -1 where it is none. -/
def dvI (c : UInt8) : Int := if 48 ≤ c.toNat ∧ c.toNat ≤ 57 then (c.toNat : Int) - 48 else if 97 ≤ c.toNat ∧ c.toNat ≤ 102 then (c.toNat : Int) - 87 else -1
def digOk (b : Nat) (c : UInt8) : Bool := decide (0 ≤ dvI c) && decide (dvI c < (b : Int))
def valM (b : Nat) : Nat → List UInt8 → Nat
  | acc, [] => acc
  | acc, c :: t => valM b (acc * b + (dvI c).toNat) t
theorem dv_hex (d : Nat) (h : d < 16) : dvI (hexD d) = (d : Int) := by
  have : d = 0 ∨ d = 1 ∨ d = 2 ∨ d = 3 ∨ d = 4 ∨ d = 5 ∨ d = 6 ∨ d = 7 ∨ d = 8 ∨ d = 9 ∨ d = 10 ∨ d = 11 ∨ d = 12 ∨ d = 13 ∨ d = 14 ∨ d = 15 := by omega
  rcases this with rfl | rfl | rfl | rfl | rfl | rfl | rfl | rfl | rfl | rfl | rfl | rfl | rfl | rfl | rfl | rfl <;> decide
theorem dv_lt (c : UInt8) : dvI c < 16 := by
  unfold dvI
  split
  · omega
  · split <;> omega
theorem hex_dv_fin : ∀ n : Fin 256, 0 ≤ dvI (UInt8.ofNat n.val) → hexD (dvI (UInt8.ofNat n.val)).toNat = UInt8.ofNat n.val := by decide +kernel
theorem hex_dv (c : UInt8) (h : 0 ≤ dvI c) : hexD (dvI c).toNat = c := by
  have := hex_dv_fin ⟨c.toNat, c.toNat_lt⟩
  simp only [UInt8.ofNat_toNat] at this
  exact this h
theorem padB_length (b : Nat) : ∀ w n, (padB b w n).length = w
  | 0, n => rfl
  | w + 1, n => by simp [padB, padB_length b w]
theorem valM_append (b : Nat) : ∀ (l1 l2 : List UInt8) (acc : Nat), valM b acc (l1 ++ l2) = valM b (valM b acc l1) l2
  | [], l2, acc => rfl
  | c :: l1, l2, acc => by simp only [List.cons_append, valM]; exact valM_append b l1 l2 _
theorem valM_padB (b : Nat) (hb : 2 ≤ b) (hb2 : b ≤ 16) : ∀ w n, n < b ^ w → valM b 0 (padB b w n) = n
  | 0, n, h => by
    have : n = 0 := by simpa using h
    subst this
    rfl
  | w + 1, n, h => by
    have hm : n % b < b := Nat.mod_lt _ (by omega)
    have hq : n / b < b ^ w := Nat.div_lt_of_lt_mul (by rw [Nat.mul_comm, ← Nat.pow_succ]; exact h)
    rw [padB, valM_append, valM_padB b hb hb2 w _ hq]
    simp only [valM]
    rw [dv_hex _ (by omega), Int.toNat_natCast, Nat.mul_comm]
    exact Nat.div_add_mod n b
theorem padB_ok (b : Nat) (hb : 2 ≤ b) (hb2 : b ≤ 16) : ∀ w n, ∀ c ∈ padB b w n, digOk b c = true
  | 0, n, c, h => by simp [padB] at h
  | w + 1, n, c, h => by
    rw [padB, List.mem_append, List.mem_singleton] at h
    rcases h with h | h
    · exact padB_ok b hb hb2 w _ c h
    · have hm : n % b < b := Nat.mod_lt _ (by omega)
      rw [h]
      unfold digOk
      rw [dv_hex _ (by omega), decide_eq_true (by omega), decide_eq_true (by omega)]
      rfl
theorem padB_valM (b : Nat) (hb : 2 ≤ b) : ∀ l : List UInt8, (∀ c ∈ l, digOk b c = true) → padB b l.length (valM b 0 l) = l ∧ valM b 0 l < b ^ l.length := by
  intro l
  induction l using rev_ind with
  | h0 => intro _; exact ⟨rfl, by simp [valM]⟩
  | h1 l c ih =>
    intro h
    obtain ⟨h1, h2⟩ := ih (fun x hx => h x (List.mem_append_left _ hx))
    have hc := h c (by simp)
    unfold digOk at hc
    simp only [Bool.and_eq_true, decide_eq_true_eq] at hc
    have hd : (dvI c).toNat < b := by omega
    have e1 : (valM b 0 l * b + (dvI c).toNat) / b = valM b 0 l := by
      rw [Nat.mul_comm, Nat.mul_add_div (by omega), Nat.div_eq_of_lt hd, Nat.add_zero]
    have e2 : (valM b 0 l * b + (dvI c).toNat) % b = (dvI c).toNat := by
      rw [Nat.mul_comm, Nat.mul_add_mod, Nat.mod_eq_of_lt hd]
    rw [valM_append]
    simp only [valM, List.length_append, List.length_cons, List.length_nil, padB, e1, e2]
    rw [h1, hex_dv c hc.1]
    refine ⟨rfl, ?_⟩
    rw [Nat.pow_succ]
    have : (valM b 0 l + 1) * b ≤ b ^ l.length * b := Nat.mul_le_mul_right _ h2
    rw [Nat.add_mul, Nat.one_mul] at this
    omega
theorem padB_zero (b : Nat) : ∀ w, padB b w 0 = List.replicate w 48
  | 0 => rfl
  | w + 1 => by
    rw [padB, Nat.zero_div, Nat.zero_mod, padB_zero b w, List.replicate_succ']
    rfl
theorem numB_less (b n : Nat) (hb : 2 ≤ b) (h : n < b) : numB b n = [hexD n] := by
  unfold numB
  by_cases h0 : n = 0
  · rw [if_pos h0, h0]
    rfl
  · rw [if_neg h0, digB_step b n hb (by omega), Nat.div_eq_of_lt h, digB_zero, Nat.mod_eq_of_lt h]
    rfl
theorem numB_more (b n : Nat) (hb : 2 ≤ b) (h : ¬ n < b) : numB b n = numB b (n / b) ++ [hexD (n % b)] := by
  have hq : 0 < n / b := Nat.div_pos (by omega) (by omega)
  unfold numB
  rw [if_neg (by omega), if_neg (by omega), digB_step b n hb (by omega)]
/-- The number with zeros ahead of it is the field. -/
theorem numB_pad (b : Nat) (hb : 2 ≤ b) : ∀ w n, (n < b ^ (w + 1) → (numB b n).length ≤ w + 1 ∧ List.replicate (w + 1 - (numB b n).length) 48 ++ numB b n = padB b (w + 1) n) ∧ (¬ n < b ^ (w + 1) → w + 1 < (numB b n).length)
  | 0, n => by
    rw [Nat.zero_add, Nat.pow_one]
    refine ⟨fun h => ?_, fun h => ?_⟩
    · rw [numB_less b n hb h]
      exact ⟨Nat.le_refl _, by simp [padB, Nat.mod_eq_of_lt h]⟩
    · rw [numB_more b n hb h, List.length_append]
      have : 0 < (numB b (n / b)).length := by
        by_cases c : n / b < b
        · rw [numB_less b _ hb c]; simp
        · rw [numB_more b _ hb c]; simp
      simp only [List.length_cons, List.length_nil]
      omega
  | w + 1, n => by
    obtain ⟨i1, i2⟩ := numB_pad b hb w (n / b)
    have hdiv : n / b < b ^ (w + 1) ↔ n < b ^ (w + 1 + 1) := by
      rw [Nat.div_lt_iff_lt_mul (by omega), ← Nat.pow_succ]
    by_cases c : n < b
    · have hlt : n < b ^ (w + 1 + 1) := Nat.lt_of_lt_of_le c (by
        have : b ^ 1 ≤ b ^ (w + 1 + 1) := Nat.pow_le_pow_right (by omega) (by omega)
        rwa [Nat.pow_one] at this)
      refine ⟨fun _ => ?_, fun h => absurd hlt h⟩
      rw [numB_less b n hb c, padB, Nat.div_eq_of_lt c, padB_zero, Nat.mod_eq_of_lt c]
      exact ⟨by simp, by simp⟩
    · rw [numB_more b n hb c]
      refine ⟨fun h => ?_, fun h => ?_⟩
      · obtain ⟨j1, j2⟩ := i1 (hdiv.2 h)
        rw [padB, ← j2, List.length_append]
        simp only [List.length_cons, List.length_nil]
        refine ⟨by omega, ?_⟩
        rw [show w + 1 + 1 - ((numB b (n / b)).length + (0 + 1)) = w + 1 - (numB b (n / b)).length by omega, List.append_assoc]
      · have := i2 (fun h2 => h (hdiv.1 h2))
        rw [List.length_append]
        simp only [List.length_cons, List.length_nil]
        omega
/-- A number in a field of so many bytes, zeros ahead of it. -/
def putB (b : Nat) (n w : Int) : List UInt8 × Bool := if ((0 ≤ n ∧ n ≤ 9007199254740991) ∧ (1 ≤ w ∧ w ≤ 20)) ∧ n.toNat < b ^ w.toNat then (padB b w.toNat n.toNat, true) else ([], false)
/-- The digits' value, of so many digits at most. -/
def getB (b lo hi : Nat) (l : List UInt8) : Int × Bool := if (lo ≤ l.length ∧ l.length ≤ hi) ∧ (∀ c ∈ l, digOk b c = true) ∧ valM b 0 l ≤ 9007199254740991 then ((valM b 0 l : Int), true) else (0, false)
theorem get_put (b : Nat) (hb : 2 ≤ b) (hb2 : b ≤ 16) (n w : Int) (lo hi : Nat) (h : (putB b n w).2 = true) (hlo : (lo : Int) ≤ w) (hhi : w ≤ (hi : Int)) : getB b lo hi (putB b n w).1 = (n, true) ∧ ((putB b n w).1.length : Int) = w := by
  unfold putB at h ⊢
  by_cases c : ((0 ≤ n ∧ n ≤ 9007199254740991) ∧ (1 ≤ w ∧ w ≤ 20)) ∧ n.toNat < b ^ w.toNat
  · rw [if_pos c]
    obtain ⟨⟨c1, c2⟩, c3⟩ := c
    have hv := valM_padB b hb hb2 w.toNat n.toNat c3
    have hl := padB_length b w.toNat n.toNat
    refine ⟨?_, by rw [hl]; omega⟩
    unfold getB
    rw [if_pos ⟨by rw [hl]; omega, padB_ok b hb hb2 _ _, by rw [hv]; omega⟩, hv]
    congr 1
    omega
  · rw [if_neg c] at h
    cases h
theorem put_get (b : Nat) (hb : 2 ≤ b) (l : List UInt8) (lo hi : Nat) (hlo : 1 ≤ lo) (hhi : hi ≤ 20) (h : (getB b lo hi l).2 = true) : putB b (getB b lo hi l).1 (l.length : Int) = (l, true) := by
  unfold getB at h ⊢
  by_cases c : (lo ≤ l.length ∧ l.length ≤ hi) ∧ (∀ c ∈ l, digOk b c = true) ∧ valM b 0 l ≤ 9007199254740991
  · rw [if_pos c]
    obtain ⟨c1, c2, c3⟩ := c
    obtain ⟨h1, h2⟩ := padB_valM b hb l c2
    unfold putB
    simp only [Int.toNat_natCast]
    rw [if_pos ⟨⟨by omega, by omega⟩, h2⟩, h1]
  · rw [if_neg c] at h
    cases h

theorem allB_list (p : Int → Bool) (s : ByteArray) : allB p s = s.toList.all (fun b => p (b.toNat : Int)) := rfl

theorem pdig_fin8 : ∀ n : Fin 256, pDig 8 ((UInt8.ofNat n.val).toNat : Int) = digOk 8 (UInt8.ofNat n.val) := by decide +kernel
theorem pdig_fin16 : ∀ n : Fin 256, pDig 16 ((UInt8.ofNat n.val).toNat : Int) = digOk 16 (UInt8.ofNat n.val) := by decide +kernel
theorem dval_fin : ∀ n : Fin 256, digOk 16 (UInt8.ofNat n.val) = true → dval (UInt8.ofNat n.val) = (dvI (UInt8.ofNat n.val)).toNat := by decide +kernel
theorem pdig_eq (b : Nat) (hb : b = 8 ∨ b = 16) (c : UInt8) : pDig b (c.toNat : Int) = digOk b c := by
  rcases hb with rfl | rfl
  · have := pdig_fin8 ⟨c.toNat, c.toNat_lt⟩
    simpa only [UInt8.ofNat_toNat] using this
  · have := pdig_fin16 ⟨c.toNat, c.toNat_lt⟩
    simpa only [UInt8.ofNat_toNat] using this
theorem dval_eq (c : UInt8) (h : digOk 16 c = true) : dval c = (dvI c).toNat := by
  have := dval_fin ⟨c.toNat, c.toNat_lt⟩
  simp only [UInt8.ofNat_toNat] at this
  exact this h
theorem ok_16 (b : Nat) (hb : b ≤ 16) (c : UInt8) (h : digOk b c = true) : digOk 16 c = true := by
  unfold digOk at h ⊢
  simp only [Bool.and_eq_true, decide_eq_true_eq] at h ⊢
  omega
theorem valL_eq (b : Nat) (hb : b ≤ 16) : ∀ (l : List UInt8) (acc : Nat), (∀ c ∈ l, digOk b c = true) → valL b acc l = valM b acc l
  | [], acc, _ => rfl
  | c :: l, acc, h => by
    simp only [valL, valM]
    rw [dval_eq c (ok_16 b hb c (h c (by simp))), valL_eq b hb l _ (fun x hx => h x (by simp [hx]))]
theorem digs_all (b : Nat) (hb : b = 8 ∨ b = 16) (s : ByteArray) : allB (pDig b) s = true ↔ ∀ c ∈ s.toList, digOk b c = true := by
  unfold allB
  rw [List.all_eq_true]
  exact ⟨fun h c hc => by rw [← pdig_eq b hb]; exact h c hc, fun h c hc => by rw [pdig_eq b hb]; exact h c hc⟩

theorem impl_getHex (s : ByteArray) (hs : s.size ≤ 1099511627776) : impl_GetHex.f s = some (getB 16 8 8 s.toList) := by
  unfold impl_GetHex.f getB
  rw [if_pos (show s.size ≤ 140737488355328 by omega), ← tl s, tl_length]
  by_cases h1 : s.size = 8
  · rw [if_pos h1]
    by_cases h2 : allB (pDig 16) s = true
    · have h3 := (digs_all 16 (Or.inr rfl) s).1 h2
      have h4 := (padB_valM 16 (by decide) s.toList h3).2
      rw [tl_length, h1] at h4
      have h5 : (16 : Nat) ^ 8 = 4294967296 := by decide
      rw [if_pos h2, valL_eq 16 (by decide) s.toList 0 h3, if_pos ⟨by omega, h3, by omega⟩]
    · rw [if_neg h2, if_neg (fun h => h2 ((digs_all 16 (Or.inr rfl) s).2 h.2.1))]
  · rw [if_neg h1, if_neg (fun h => h1 (by omega))]

theorem in_eq (a b c : Int) : spec_l01In.f a b c = some (decide (b ≤ a ∧ a ≤ c)) := by
  unfold spec_l01In.f
  by_cases h : b ≤ a
  · rw [if_pos h]; simp [h]
  · rw [if_neg h]; simp [h]

/-! ### A byte's first place, and the texts between its places -/
theorem bt_mid {s : ByteArray} {pre t : List UInt8} {b : UInt8} (h : s.toList = pre ++ b :: t) : bt s (pre.length : Int) = (b.toNat : Int) := by
  have hs : s.size = pre.length + (t.length + 1) := by rw [← tl_length, h]; simp
  rw [bt_get s pre.length (by omega)]
  congr 2
  simp [h]
theorem size_mid {s : ByteArray} {pre t : List UInt8} (h : s.toList = pre ++ t) : s.size = pre.length + t.length := by
  rw [← tl_length, h]; simp
theorem u8_eq {b : UInt8} {c : UInt8} : ((b.toNat : Int) = (c.toNat : Int)) ↔ b = c := by
  constructor
  · intro h
    exact UInt8.toNat_inj.1 (by omega)
  · rintro rfl
    rfl
theorem ext_mid {s : ByteArray} {pre p t : List UInt8} (h : s.toList = pre ++ (p ++ t)) : (s.extract pre.length (pre.length + p.length)).toList = p := by
  rw [tl_extract, h, ← List.append_assoc]
  rw [List.take_left' (by simp)]
  simp
theorem ext_end {s : ByteArray} {pre p : List UInt8} (h : s.toList = pre ++ p) : (s.extract pre.length s.size).toList = p := by
  rw [tl_extract, ← tl_length, h]
  rw [List.take_of_length_le (Nat.le_refl _)]
  simp
/-- A byte's first place: there is none, or the text falls in two there. -/
theorem index_span (c : UInt8) : ∀ l : List UInt8, (c ∉ l ∧ Lib.indexByte l c = -1) ∨ ∃ a b, l = a ++ c :: b ∧ c ∉ a ∧ Lib.indexByte l c = (a.length : Int)
  | [] => Or.inl ⟨by simp, rfl⟩
  | x :: l => by
    by_cases h : x = c
    · subst h
      exact Or.inr ⟨[], l, rfl, by simp, by simp [Lib.indexByte]⟩
    · rcases index_span c l with ⟨h1, h2⟩ | ⟨a, b, h1, h2, h3⟩
      · refine Or.inl ⟨?_, ?_⟩
        · simp only [List.mem_cons, not_or]
          exact ⟨fun e => h e.symm, h1⟩
        · simp [Lib.indexByte, h, h2]
      · refine Or.inr ⟨x :: a, b, by simp [h1], ?_, ?_⟩
        · simp only [List.mem_cons, not_or]
          exact ⟨fun e => h e.symm, h2⟩
        · simp only [Lib.indexByte]
          have h' : (x == c) = false := by simpa using h
          simp only [h', h3]
          simp
          try omega

theorem valM_ge (b : Nat) (hb : 1 ≤ b) : ∀ (t : List UInt8) (acc : Nat), acc ≤ valM b acc t
  | [], acc => Nat.le_refl _
  | c :: t, acc => by
    simp only [valM]
    have h1 := valM_ge b hb t (acc * b + (dvI c).toNat)
    have h2 : acc * 1 ≤ acc * b := Nat.mul_le_mul_left _ hb
    omega
/-- The value of digits, or -1. -/
def valR (b acc : Nat) (l : List UInt8) : Int := if (∀ c ∈ l, digOk b c = true) ∧ valM b acc l ≤ 9007199254740991 then (valM b acc l : Int) else -1
theorem valR_bad (b acc : Nat) (c : UInt8) (t : List UInt8) (h : digOk b c = false) : valR b acc (c :: t) = -1 := by
  unfold valR
  rw [if_neg]
  intro h2
  have := h2.1 c (by simp)
  rw [h] at this
  cases this
theorem valR_over (b acc : Nat) (hb : 1 ≤ b) (c : UInt8) (t : List UInt8) (h : 9007199254740991 < acc * b + (dvI c).toNat) : valR b acc (c :: t) = -1 := by
  unfold valR
  rw [if_neg]
  intro h2
  have h3 := h2.2
  simp only [valM] at h3
  have := valM_ge b hb t (acc * b + (dvI c).toNat)
  omega
theorem valR_step (b acc : Nat) (c : UInt8) (t : List UInt8) (h : digOk b c = true) : valR b acc (c :: t) = valR b (acc * b + (dvI c).toNat) t := by
  unfold valR
  simp only [valM, List.mem_cons, forall_eq_or_imp, h, true_and]
theorem value_tail (s : ByteArray) (b : Nat) (hb : 2 ≤ b) (hb2 : b ≤ 16) (k acc D : Nat) (i : Int) (c : UInt8) (t : List UInt8) (hD : dvI c = (D : Int)) (hacc : acc ≤ 9007199254740991)
    (ih : acc * b + D ≤ 9007199254740991 → spec_l01Value.l0 k s (b : Int) ((acc * b + D : Nat) : Int) (wrap64 (i + 1)) = some (valR b (acc * b + D) t)) :
    (if (D : Int) < 0 then some (-1) else (if (D : Int) ≥ (b : Int) then some (-1) else (if (b : Int) = 0 then none else (if (acc : Int) > (wrap64 (Int.tdiv (wrap64 (9007199254740991 - (D : Int))) (b : Int))) then some (-1) else (spec_l01Value.l0 k s (b : Int) (wrap64 ((wrap64 ((acc : Int) * (b : Int))) + (D : Int))) (wrap64 (i + 1)))))) : Option Int) = some (valR b acc (c :: t)) := by
  have hlt : D < 16 := by
    have := dv_lt c
    omega
  have h1 : ¬ (D : Int) < 0 := by omega
  rw [if_neg h1]
  by_cases h2 : (D : Int) ≥ (b : Int)
  · rw [if_pos h2, valR_bad]
    unfold digOk
    rw [hD, decide_eq_false (show ¬ (D : Int) < (b : Int) by omega), Bool.and_false]
  · have hok : digOk b c = true := by
      unfold digOk
      rw [hD, decide_eq_true (by omega), decide_eq_true (by omega)]
      rfl
    have h3 : ¬ (b : Int) = 0 := by omega
    obtain ⟨R, hR⟩ : ∃ R : Nat, R + D = 9007199254740991 := ⟨9007199254740991 - D, by omega⟩
    have e1 : wrap64 (9007199254740991 - (D : Int)) = (R : Int) := by rw [w64 (by omega) (by omega)]; omega
    have e2 : Int.tdiv (R : Int) (b : Int) = ((R / b : Nat) : Int) := by
      rw [Int.tdiv_eq_ediv_of_nonneg (by omega), Int.natCast_ediv]
    have hle : R / b ≤ R := Nat.div_le_self _ _
    have hdiv : R / b < acc ↔ R < acc * b := Nat.div_lt_iff_lt_mul (by omega)
    have hdv : (dvI c).toNat = D := by omega
    have hov : 9007199254740991 < acc * b + D → valR b acc (c :: t) = -1 := fun h => valR_over b acc (by omega) c t (by rw [hdv]; exact h)
    have hst : valR b acc (c :: t) = valR b (acc * b + D) t := by rw [valR_step b acc c t hok, hdv]
    have e3 : (acc : Int) * (b : Int) = ((acc * b : Nat) : Int) := (Int.natCast_mul acc b).symm
    rw [if_neg h2, if_neg h3, e1, e2, e3]
    clear e1 e2 e3
    generalize R / b = Q at hle hdiv ⊢
    generalize acc * b = P at hdiv hov hst ih ⊢
    have e5 : wrap64 (Q : Int) = (Q : Int) := w64 (by clear hov hst ih; omega) (by clear hov hst ih; omega)
    rw [e5]
    clear e5
    by_cases h4 : (acc : Int) > (Q : Int)
    · have h6 : Q < acc := by clear hov hst ih; omega
      have h5 := hdiv.1 h6
      have h7 : 9007199254740991 < P + D := by clear hov hst ih; omega
      rw [if_pos h4, hov h7]
    · have h5 : ¬ R < P := fun h => h4 (by have := hdiv.2 h; clear hov hst ih; omega)
      have e6 : wrap64 (P : Int) = (P : Int) := w64 (by clear hov hst ih; omega) (by clear hov hst ih; omega)
      have e4 : wrap64 ((P : Int) + (D : Int)) = ((P + D : Nat) : Int) := by
        clear e6
        rw [w64 (by clear hov hst ih; omega) (by clear hov hst ih; omega)]
        clear hov hst ih
        omega
      have h7 : P + D ≤ 9007199254740991 := by clear hov hst ih e4 e6; omega
      rw [if_neg h4, e6, e4, hst]
      exact ih h7
theorem spec_value_loop (s : ByteArray) (hs : s.size ≤ 1099511627776) (b : Nat) (hb : 2 ≤ b) (hb2 : b ≤ 16) : ∀ (t pre : List UInt8) (acc k : Nat), s.toList = pre ++ t → acc ≤ 9007199254740991 → t.length < k → spec_l01Value.l0 k s (b : Int) (acc : Int) (pre.length : Int) = some (valR b acc t)
  | [], pre, acc, k, h, ha, hk => by
    obtain ⟨k, rfl⟩ : ∃ m, k = m + 1 := ⟨k - 1, by omega⟩
    have hz := size_mid h
    simp only [List.length_nil] at hz
    have hn : ¬ (pre.length : Int) < (s.size : Int) := by omega
    simp only [spec_l01Value.l0]
    rw [if_neg hn]
    unfold valR
    rw [if_pos ⟨fun c hc => by simp at hc, ha⟩]
    rfl
  | c :: t, pre, acc, k, h, ha, hk => by
    simp only [List.length_cons] at hk
    obtain ⟨k, rfl⟩ : ∃ m, k = m + 1 := ⟨k - 1, by omega⟩
    have hz := size_mid h
    simp only [List.length_cons] at hz
    have hlt : (pre.length : Int) < (s.size : Int) := by omega
    have h0 : 0 ≤ (pre.length : Int) := by omega
    have hc := c.toNat_lt
    have ew : wrap64 (c.toNat : Int) = (c.toNat : Int) := w64 (by omega) (by omega)
    have ih : ∀ D : Nat, acc * b + D ≤ 9007199254740991 → spec_l01Value.l0 k s (b : Int) ((acc * b + D : Nat) : Int) (wrap64 ((pre.length : Int) + 1)) = some (valR b (acc * b + D) t) := fun D hD => by
      have := spec_value_loop s hs b hb hb2 t (pre ++ [c]) (acc * b + D) k (by simp [h]) hD (by omega)
      rw [w64 (by omega) (by omega)]
      rw [List.length_append] at this
      exact this
    simp only [spec_l01Value.l0]
    rw [if_pos hlt, if_pos h0, bt_mid h, ew, in_eq, in_eq]
    simp only [Option.bind_some]
    by_cases h1 : 48 ≤ (c.toNat : Int) ∧ (c.toNat : Int) ≤ 57
    · have e1 : wrap64 ((c.toNat : Int) - 48) = ((c.toNat - 48 : Nat) : Int) := by rw [w64 (by omega) (by omega)]; omega
      rw [if_pos (decide_eq_true h1), e1]
      exact value_tail s b hb hb2 k acc _ _ c t (by unfold dvI; rw [if_pos (by omega)]; omega) ha (ih _)
    · rw [if_neg (by simpa using h1)]
      by_cases h2 : 97 ≤ (c.toNat : Int) ∧ (c.toNat : Int) ≤ 102
      · have e1 : wrap64 ((c.toNat : Int) - 87) = ((c.toNat - 87 : Nat) : Int) := by rw [w64 (by omega) (by omega)]; omega
        rw [if_pos (decide_eq_true h2), e1]
        exact value_tail s b hb hb2 k acc _ _ c t (by unfold dvI; rw [if_neg (by omega), if_pos (by omega)]; omega) ha (ih _)
      · rw [if_neg (by simpa using h2), if_pos (by decide), valR_bad]
        unfold digOk dvI
        rw [if_neg (by omega), if_neg (by omega)]
        rfl
theorem spec_value (s : ByteArray) (hs : s.size ≤ 1099511627776) (b : Nat) (hb : 2 ≤ b) (hb2 : b ≤ 16) (k : Nat) (hk : s.size < k) : spec_l01Value.f k s (b : Int) = some (valR b 0 s.toList) := by
  unfold spec_l01Value.f
  exact spec_value_loop s hs b hb hb2 s.toList [] 0 k rfl (by decide) (by rw [tl_length]; exact hk)
theorem valR_neg (b : Nat) (l : List UInt8) : valR b 0 l < 0 ↔ ¬ ((∀ c ∈ l, digOk b c = true) ∧ valM b 0 l ≤ 9007199254740991) := by
  unfold valR
  by_cases c : (∀ c ∈ l, digOk b c = true) ∧ valM b 0 l ≤ 9007199254740991
  · rw [if_pos c]
    exact ⟨fun h => by omega, fun h => absurd c h⟩
  · rw [if_neg c]
    exact ⟨fun _ => c, fun _ => by decide⟩

theorem spec_getHex (s : ByteArray) (hs : s.size ≤ 1099511627776) (k : Nat) (hk : s.size < k) : spec_GetHex.f k s = some (getB 16 8 8 s.toList) := by
  have hv := spec_value s hs 16 (by decide) (by decide) k hk
  rw [show ((16 : Nat) : Int) = 16 from rfl] at hv
  unfold spec_GetHex.f getB
  rw [hv]
  simp only [Option.bind_some, tl_length]
  by_cases h1 : (s.size : Int) = 8
  · rw [if_pos h1]
    by_cases h2 : (∀ c ∈ s.toList, digOk 16 c = true) ∧ valM 16 0 s.toList ≤ 9007199254740991
    · have h3 : ¬ valR 16 0 s.toList < 0 := fun h => (valR_neg 16 s.toList).1 h h2
      rw [if_neg h3, if_pos ⟨by omega, h2⟩]
      unfold valR
      rw [if_pos h2]
    · have h3 : valR 16 0 s.toList < 0 := (valR_neg 16 s.toList).2 h2
      rw [if_pos h3, if_neg (fun h => h2 h.2)]
  · rw [if_neg h1, if_neg (fun h => h1 (by omega))]

theorem FnExactGetHex : laws_FnExactGetHex.Pure := by
  intro s _
  unfold laws_FnExactGetHex.f
  by_cases h : (s.size : Int) > 1048576
  · exact ⟨0, by rw [if_pos h]⟩
  · refine ⟨s.size + 1, ?_⟩
    rw [if_neg h, spec_getHex s (by omega) _ (by omega), impl_getHex s (by omega)]
    simp

end Go.Proofs.YtmdmhcganiaogaaDoor.Pure
