/-
The pure statement of the law FnExactGetDec (numbers, byte strings and lists; no Go and no memory): the printed law's function answers true. Conditions: those of the printed statement (each string at most 2^47 - 4096 bytes, each number of its kind).
-/
import Derived.Test.YtmdmhcganiaogaaDoorPFnExactGetDecx2
import Derived.Test.YtmdmhcganiaogaaDoorCore
namespace Go.Proofs.YtmdmhcganiaogaaDoor.Pure
open Go.RowKit Go.Proofs.YtmdmhcganiaogaaDoor.PFnExactGetDec Go.Proofs.YtmdmhcganiaogaaDoorW.PrintWords Go.Proofs.YtmdmhcganiaogaaDoorW.PrintLast Go.Proofs.YtmdmhcganiaogaaDoor.Core
set_option linter.unusedVariables false
set_option linter.unusedSimpArgs false

/-! ### The digits of a number in a base -/
def hexD (d : Nat) : UInt8 := ([48, 49, 50, 51, 52, 53, 54, 55, 56, 57, 97, 98, 99, 100, 101, 102] : List UInt8).getD d 0
def digB (b : Nat) (u : Nat) : List UInt8 := if h : u = 0 ∨ b ≤ 1 then [] else digB b (u / b) ++ [hexD (u % b)]
termination_by u
decreasing_by exact Nat.div_lt_self (by omega) (by omega)
theorem digB_zero (b : Nat) : digB b 0 = [] := by rw [digB, dif_pos (Or.inl rfl)]
theorem digB_step (b u : Nat) (hb : 2 ≤ b) (h : 0 < u) : digB b u = digB b (u / b) ++ [hexD (u % b)] := by
  rw [digB, dif_neg (by omega)]
def numB (b u : Nat) : List UInt8 := if u = 0 then [48] else digB b u
theorem hexD_dec (d : Nat) (h : d < 10) : hexD d = UInt8.ofNat (48 + d) := by
  have : d = 0 ∨ d = 1 ∨ d = 2 ∨ d = 3 ∨ d = 4 ∨ d = 5 ∨ d = 6 ∨ d = 7 ∨ d = 8 ∨ d = 9 := by omega
  rcases this with rfl | rfl | rfl | rfl | rfl | rfl | rfl | rfl | rfl | rfl <;> rfl

theorem rev_ind {P : List UInt8 → Prop} (h0 : P []) (h1 : ∀ l c, P l → P (l ++ [c])) (l : List UInt8) : P l := by
  have h : ∀ m : List UInt8, P m.reverse := fun m => by
    induction m with
    | nil => exact h0
    | cons c m ih =>
      rw [List.reverse_cons]
      exact h1 _ _ ih
  have := h l.reverse
  rwa [List.reverse_reverse] at this

/-! ### Digits in a field of a width, and their value -/
def padB (b : Nat) : Nat → Nat → List UInt8
  | 0, _ => []
  | w + 1, n => padB b w (n / b) ++ [hexD (n % b)]
/-- What a byte is worth as a digit; -1 where it is none. -/
def dvI (c : UInt8) : Int := if 48 ≤ c.toNat ∧ c.toNat ≤ 57 then (c.toNat : Int) - 48 else if 97 ≤ c.toNat ∧ c.toNat ≤ 102 then (c.toNat : Int) - 87 else -1
def digOk (b : Nat) (c : UInt8) : Bool := decide (0 ≤ dvI c) && decide (dvI c < (b : Int))
def valM (b : Nat) : Nat → List UInt8 → Nat
  | acc, [] => acc
  | acc, c :: t => valM b (acc * b + (dvI c).toNat) t
theorem dv_hex (d : Nat) (h : d < 16) : dvI (hexD d) = (d : Int) := by
  have : d = 0 ∨ d = 1 ∨ d = 2 ∨ d = 3 ∨ d = 4 ∨ d = 5 ∨ d = 6 ∨ d = 7 ∨ d = 8 ∨ d = 9 ∨ d = 10 ∨ d = 11 ∨ d = 12 ∨ d = 13 ∨ d = 14 ∨ d = 15 := by omega
  rcases this with rfl | rfl | rfl | rfl | rfl | rfl | rfl | rfl | rfl | rfl | rfl | rfl | rfl | rfl | rfl | rfl <;> decide
theorem dv_lt (c : UInt8) : dvI c < 16 := by
  unfold dvI
  split
  · omega
  · split <;> omega
theorem hex_dv_fin : ∀ n : Fin 256, 0 ≤ dvI (UInt8.ofNat n.val) → hexD (dvI (UInt8.ofNat n.val)).toNat = UInt8.ofNat n.val := by decide +kernel
theorem hex_dv (c : UInt8) (h : 0 ≤ dvI c) : hexD (dvI c).toNat = c := by
  have := hex_dv_fin ⟨c.toNat, c.toNat_lt⟩
  simp only [UInt8.ofNat_toNat] at this
  exact this h
theorem padB_length (b : Nat) : ∀ w n, (padB b w n).length = w
  | 0, n => rfl
  | w + 1, n => by simp [padB, padB_length b w]
theorem valM_append (b : Nat) : ∀ (l1 l2 : List UInt8) (acc : Nat), valM b acc (l1 ++ l2) = valM b (valM b acc l1) l2
  | [], l2, acc => rfl
  | c :: l1, l2, acc => by simp only [List.cons_append, valM]; exact valM_append b l1 l2 _
theorem valM_padB (b : Nat) (hb : 2 ≤ b) (hb2 : b ≤ 16) : ∀ w n, n < b ^ w → valM b 0 (padB b w n) = n
  | 0, n, h => by
    have : n = 0 := by simpa using h
    subst this
    rfl
  | w + 1, n, h => by
    have hm : n % b < b := Nat.mod_lt _ (by omega)
    have hq : n / b < b ^ w := Nat.div_lt_of_lt_mul (by rw [Nat.mul_comm, ← Nat.pow_succ]; exact h)
    rw [padB, valM_append, valM_padB b hb hb2 w _ hq]
    simp only [valM]
    rw [dv_hex _ (by omega), Int.toNat_natCast, Nat.mul_comm]
    exact Nat.div_add_mod n b
theorem padB_ok (b : Nat) (hb : 2 ≤ b) (hb2 : b ≤ 16) : ∀ w n, ∀ c ∈ padB b w n, digOk b c = true
  | 0, n, c, h => by simp [padB] at h
  | w + 1, n, c, h => by
    rw [padB, List.mem_append, List.mem_singleton] at h
    rcases h with h | h
    · exact padB_ok b hb hb2 w _ c h
    · have hm : n % b < b := Nat.mod_lt _ (by omega)
      rw [h]
      unfold digOk
      rw [dv_hex _ (by omega), decide_eq_true (by omega), decide_eq_true (by omega)]
      rfl
theorem padB_valM (b : Nat) (hb : 2 ≤ b) : ∀ l : List UInt8, (∀ c ∈ l, digOk b c = true) → padB b l.length (valM b 0 l) = l ∧ valM b 0 l < b ^ l.length := by
  intro l
  induction l using rev_ind with
  | h0 => intro _; exact ⟨rfl, by simp [valM]⟩
  | h1 l c ih =>
    intro h
    obtain ⟨h1, h2⟩ := ih (fun x hx => h x (List.mem_append_left _ hx))
    have hc := h c (by simp)
    unfold digOk at hc
    simp only [Bool.and_eq_true, decide_eq_true_eq] at hc
    have hd : (dvI c).toNat < b := by omega
    have e1 : (valM b 0 l * b + (dvI c).toNat) / b = valM b 0 l := by
      rw [Nat.mul_comm, Nat.mul_add_div (by omega), Nat.div_eq_of_lt hd, Nat.add_zero]
    have e2 : (valM b 0 l * b + (dvI c).toNat) % b = (dvI c).toNat := by
      rw [Nat.mul_comm, Nat.mul_add_mod, Nat.mod_eq_of_lt hd]
    rw [valM_append]
    simp only [valM, List.length_append, List.length_cons, List.length_nil, padB, e1, e2]
    rw [h1, hex_dv c hc.1]
    refine ⟨rfl, ?_⟩
    rw [Nat.pow_succ]
    have : (valM b 0 l + 1) * b ≤ b ^ l.length * b := Nat.mul_le_mul_right _ h2
    rw [Nat.add_mul, Nat.one_mul] at this
    omega
theorem padB_zero (b : Nat) : ∀ w, padB b w 0 = List.replicate w 48
  | 0 => rfl
  | w + 1 => by
    rw [padB, Nat.zero_div, Nat.zero_mod, padB_zero b w, List.replicate_succ']
    rfl
theorem numB_less (b n : Nat) (hb : 2 ≤ b) (h : n < b) : numB b n = [hexD n] := by
  unfold numB
  by_cases h0 : n = 0
  · rw [if_pos h0, h0]
    rfl
  · rw [if_neg h0, digB_step b n hb (by omega), Nat.div_eq_of_lt h, digB_zero, Nat.mod_eq_of_lt h]
    rfl
theorem numB_more (b n : Nat) (hb : 2 ≤ b) (h : ¬ n < b) : numB b n = numB b (n / b) ++ [hexD (n % b)] := by
  have hq : 0 < n / b := Nat.div_pos (by omega) (by omega)
  unfold numB
  rw [if_neg (by omega), if_neg (by omega), digB_step b n hb (by omega)]
/-- The number with zeros ahead of it is the field. -/
theorem numB_pad (b : Nat) (hb : 2 ≤ b) : ∀ w n, (n < b ^ (w + 1) → (numB b n).length ≤ w + 1 ∧ List.replicate (w + 1 - (numB b n).length) 48 ++ numB b n = padB b (w + 1) n) ∧ (¬ n < b ^ (w + 1) → w + 1 < (numB b n).length)
  | 0, n => by
    rw [Nat.zero_add, Nat.pow_one]
    refine ⟨fun h => ?_, fun h => ?_⟩
    · rw [numB_less b n hb h]
      exact ⟨Nat.le_refl _, by simp [padB, Nat.mod_eq_of_lt h]⟩
    · rw [numB_more b n hb h, List.length_append]
      have : 0 < (numB b (n / b)).length := by
        by_cases c : n / b < b
        · rw [numB_less b _ hb c]; simp
        · rw [numB_more b _ hb c]; simp
      simp only [List.length_cons, List.length_nil]
      omega
  | w + 1, n => by
    obtain ⟨i1, i2⟩ := numB_pad b hb w (n / b)
    have hdiv : n / b < b ^ (w + 1) ↔ n < b ^ (w + 1 + 1) := by
      rw [Nat.div_lt_iff_lt_mul (by omega), ← Nat.pow_succ]
    by_cases c : n < b
    · have hlt : n < b ^ (w + 1 + 1) := Nat.lt_of_lt_of_le c (by
        have : b ^ 1 ≤ b ^ (w + 1 + 1) := Nat.pow_le_pow_right (by omega) (by omega)
        rwa [Nat.pow_one] at this)
      refine ⟨fun _ => ?_, fun h => absurd hlt h⟩
      rw [numB_less b n hb c, padB, Nat.div_eq_of_lt c, padB_zero, Nat.mod_eq_of_lt c]
      exact ⟨by simp, by simp⟩
    · rw [numB_more b n hb c]
      refine ⟨fun h => ?_, fun h => ?_⟩
      · obtain ⟨j1, j2⟩ := i1 (hdiv.2 h)
        rw [padB, ← j2, List.length_append]
        simp only [List.length_cons, List.length_nil]
        refine ⟨by omega, ?_⟩
        rw [show w + 1 + 1 - ((numB b (n / b)).length + (0 + 1)) = w + 1 - (numB b (n / b)).length by omega, List.append_assoc]
      · have := i2 (fun h2 => h (hdiv.1 h2))
        rw [List.length_append]
        simp only [List.length_cons, List.length_nil]
        omega
/-- A number in a field of so many bytes, zeros ahead of it. -/
def putB (b : Nat) (n w : Int) : List UInt8 × Bool := if ((0 ≤ n ∧ n ≤ 9007199254740991) ∧ (1 ≤ w ∧ w ≤ 20)) ∧ n.toNat < b ^ w.toNat then (padB b w.toNat n.toNat, true) else ([], false)
/-- The digits' value, of so many digits at most. -/
def getB (b lo hi : Nat) (l : List UInt8) : Int × Bool := if (lo ≤ l.length ∧ l.length ≤ hi) ∧ (∀ c ∈ l, digOk b c = true) ∧ valM b 0 l ≤ 9007199254740991 then ((valM b 0 l : Int), true) else (0, false)
theorem get_put (b : Nat) (hb : 2 ≤ b) (hb2 : b ≤ 16) (n w : Int) (lo hi : Nat) (h : (putB b n w).2 = true) (hlo : (lo : Int) ≤ w) (hhi : w ≤ (hi : Int)) : getB b lo hi (putB b n w).1 = (n, true) ∧ ((putB b n w).1.length : Int) = w := by
  unfold putB at h ⊢
  by_cases c : ((0 ≤ n ∧ n ≤ 9007199254740991) ∧ (1 ≤ w ∧ w ≤ 20)) ∧ n.toNat < b ^ w.toNat
  · rw [if_pos c]
    obtain ⟨⟨c1, c2⟩, c3⟩ := c
    have hv := valM_padB b hb hb2 w.toNat n.toNat c3
    have hl := padB_length b w.toNat n.toNat
    refine ⟨?_, by rw [hl]; omega⟩
    unfold getB
    rw [if_pos ⟨by rw [hl]; omega, padB_ok b hb hb2 _ _, by rw [hv]; omega⟩, hv]
    congr 1
    omega
  · rw [if_neg c] at h
    cases h
theorem put_get (b : Nat) (hb : 2 ≤ b) (l : List UInt8) (lo hi : Nat) (hlo : 1 ≤ lo) (hhi : hi ≤ 20) (h : (getB b lo hi l).2 = true) : putB b (getB b lo hi l).1 (l.length : Int) = (l, true) := by
  unfold getB at h ⊢
  by_cases c : (lo ≤ l.length ∧ l.length ≤ hi) ∧ (∀ c ∈ l, digOk b c = true) ∧ valM b 0 l ≤ 9007199254740991
  · rw [if_pos c]
    obtain ⟨c1, c2, c3⟩ := c
    obtain ⟨h1, h2⟩ := padB_valM b hb l c2
    unfold putB
    simp only [Int.toNat_natCast]
    rw [if_pos ⟨⟨by omega, by omega⟩, h2⟩, h1]
  · rw [if_neg c] at h
    cases h

theorem digB_dec (u : Nat) (h : 0 < u) : digB 10 u = Lib.decDigits u := by
  induction u using Nat.strongRecOn with
  | _ u ih =>
    rw [digB_step 10 u (by decide) h, Lib.decDigits, hexD_dec _ (Nat.mod_lt _ (by decide))]
    by_cases c : u < 10
    · rw [dif_pos c, show u / 10 = 0 by omega, digB_zero, Nat.mod_eq_of_lt c]
      rfl
    · rw [dif_neg c, ih (u / 10) (by omega) (by omega)]
theorem numB_dec (n : Int) (h0 : 0 ≤ n) : numB 10 n.toNat = Lib.itoa n := by
  unfold numB Lib.itoa
  rw [if_neg (show ¬ n < 0 by omega)]
  by_cases hz : n.toNat = 0
  · rw [if_pos hz, hz, Lib.decDigits]
    rfl
  · rw [if_neg hz, digB_dec _ (by omega)]

/-! ### Decimal texts read back -/
theorem numB_ok (b : Nat) (hb : 2 ≤ b) (hb2 : b ≤ 16) (u : Nat) : (∀ c ∈ numB b u, digOk b c = true) ∧ valM b 0 (numB b u) = u := by
  have one : ∀ d, d < b → digOk b (hexD d) = true := fun d h => by
    unfold digOk
    rw [dv_hex d (by omega), decide_eq_true (by omega), decide_eq_true (by omega)]
    rfl
  induction u using Nat.strongRecOn with
  | _ u ih =>
    by_cases c : u < b
    · rw [numB_less b u hb c]
      refine ⟨fun x hx => ?_, ?_⟩
      · rw [List.mem_singleton] at hx
        rw [hx]
        exact one u c
      · simp only [valM]
        rw [dv_hex u (by omega)]
        omega
    · have hm : u % b < b := Nat.mod_lt _ (by omega)
      obtain ⟨h1, h2⟩ := ih (u / b) (Nat.div_lt_self (by omega) (by omega))
      rw [numB_more b u hb c]
      refine ⟨fun x hx => ?_, ?_⟩
      · rw [List.mem_append, List.mem_singleton] at hx
        rcases hx with hx | hx
        · exact h1 x hx
        · rw [hx]
          exact one _ hm
      · rw [valM_append, h2]
        simp only [valM]
        rw [dv_hex _ (by omega), Int.toNat_natCast, Nat.mul_comm]
        exact Nat.div_add_mod u b
theorem numB_last (b : Nat) (hb : 2 ≤ b) (u : Nat) : ∃ p d, numB b u = p ++ [hexD d] ∧ d < b := by
  by_cases c : u < b
  · exact ⟨[], u, numB_less b u hb c, c⟩
  · exact ⟨_, _, numB_more b u hb c, Nat.mod_lt _ (by omega)⟩
theorem dec_digit (c : UInt8) (h : digOk 10 c = true) : 48 ≤ c.toNat ∧ c.toNat ≤ 57 ∧ (dvI c).toNat = c.toNat - 48 := by
  unfold digOk dvI at h
  unfold dvI
  simp only [Bool.and_eq_true, decide_eq_true_eq] at h
  by_cases c1 : 48 ≤ c.toNat ∧ c.toNat ≤ 57
  · rw [if_pos c1]
    omega
  · rw [if_neg c1] at h
    by_cases c2 : 97 ≤ c.toNat ∧ c.toNat ≤ 102
    · rw [if_pos c2] at h
      omega
    · rw [if_neg c2] at h
      omega
theorem valM_ge' (b : Nat) (hb : 1 ≤ b) : ∀ (t : List UInt8) (acc : Nat), acc ≤ valM b acc t
  | [], acc => Nat.le_refl _
  | c :: t, acc => by
    simp only [valM]
    have h1 := valM_ge' b hb t (acc * b + (dvI c).toNat)
    have h2 : acc * 1 ≤ acc * b := Nat.mul_le_mul_left _ hb
    omega
theorem parse_ok : ∀ (l : List UInt8) (acc : Nat), (∀ c ∈ l, digOk 10 c = true) → valM 10 acc l ≤ 9007199254740991 → Lib.parseUint10 acc l = .ok (valM 10 acc l)
  | [], acc, _, _ => rfl
  | c :: l, acc, h, hv => by
    obtain ⟨h1, h2, h3⟩ := dec_digit c (h c (by simp))
    simp only [valM, h3] at hv ⊢
    have hge := valM_ge' 10 (by decide) l (acc * 10 + (c.toNat - 48))
    simp only [Lib.parseUint10]
    rw [if_pos ⟨h1, h2⟩, if_neg (by omega), if_neg (by omega)]
    exact parse_ok l _ (fun x hx => h x (by simp [hx])) hv
theorem atoi_num (u : Nat) (hu : u ≤ 9007199254740991) : Lib.atoiAll (numB 10 u) = .ok (u : Int) := by
  obtain ⟨h1, h2⟩ := numB_ok 10 (by decide) (by decide) u
  have hp := parse_ok (numB 10 u) 0 h1 (by rw [h2]; exact hu)
  rw [h2] at hp
  obtain ⟨c, r, e⟩ : ∃ c r, numB 10 u = c :: r := by
    cases hq : numB 10 u with
    | nil =>
      obtain ⟨p, d, e, _⟩ := numB_last 10 (by decide) u
      rw [e] at hq
      simp at hq
    | cons c r => exact ⟨c, r, rfl⟩
  have hc := dec_digit c (h1 c (by rw [e]; simp))
  rw [e] at hp ⊢
  have hm : Lib.parseMag (c :: r) = .ok u := by
    unfold Lib.parseMag
    rw [if_neg (by simp)]
    exact hp
  have n1 : ¬ (c.toNat = 43 ∨ c.toNat = 45) := by omega
  have n2 : ¬ c.toNat = 45 := by omega
  have n3 : ¬ 9223372036854775808 ≤ u := by omega
  unfold Lib.atoiAll
  simp only [if_neg n1, hm]
  simp [n2, n3]
theorem atoi_itoa (n : Int) (h0 : 0 ≤ n) (h1 : n ≤ 9007199254740991) : Lib.atoiAll (Lib.itoa n) = .ok n := by
  rw [← numB_dec n h0, atoi_num n.toNat (by omega)]
  congr 1
  omega
theorem itoa_digits (n : Int) (h0 : 0 ≤ n) : (∀ c ∈ Lib.itoa n, digOk 10 c = true) ∧ (valM 10 0 (Lib.itoa n) : Int) = n := by
  obtain ⟨h1, h2⟩ := numB_ok 10 (by decide) (by decide) n.toNat
  rw [← numB_dec n h0]
  refine ⟨h1, ?_⟩
  rw [h2]
  omega
theorem trim_itoa (n : Int) (h0 : 0 ≤ n) (z : Nat) : Lib.trimRightB (Lib.itoa n ++ List.replicate z 32) 32 = Lib.itoa n := by
  obtain ⟨p, d, e, hd⟩ := numB_last 10 (by decide) n.toNat
  have hne : (hexD d == 32) = false := by
    have h1 : hexD d = UInt8.ofNat (48 + d) := hexD_dec d hd
    rw [beq_eq_false_iff_ne, h1]
    intro h2
    have := congrArg UInt8.toNat h2
    rw [UInt8.toNat_ofNat'] at this
    have h3 : (32 : UInt8).toNat = 32 := rfl
    omega
  have hdrop : ∀ (z : Nat) (l : List UInt8), (List.replicate z (32 : UInt8) ++ l).dropWhile (· == 32) = l.dropWhile (· == 32) := by
    intro z l
    induction z with
    | zero => rfl
    | succ z ih => rw [List.replicate_succ, List.cons_append, List.dropWhile_cons, if_pos (by decide), ih]
  rw [← numB_dec n h0]
  unfold Lib.trimRightB
  rw [List.reverse_append, List.reverse_replicate, hdrop, e, List.reverse_append, List.reverse_singleton, List.singleton_append, List.dropWhile_cons, if_neg (by rw [hne]; simp)]
  simp
def isDec (c : UInt8) : Bool := decide (48 ≤ c.toNat ∧ c.toNat ≤ 57)
theorem lead_itoa (n : Int) (h0 : 0 ≤ n) (z : Nat) : (Lib.itoa n ++ List.replicate z 32).takeWhile isDec = Lib.itoa n := by
  have h1 := (itoa_digits n h0).1
  rw [List.takeWhile_append_of_pos (fun c hc => by
    have := dec_digit c (h1 c hc)
    unfold isDec
    exact decide_eq_true ⟨this.1, this.2.1⟩)]
  have : (List.replicate z (32 : UInt8)).takeWhile isDec = [] := by
    cases z with
    | zero => rfl
    | succ z => rw [List.replicate_succ, List.takeWhile_cons, if_neg (by decide)]
  rw [this, List.append_nil]

theorem within_eq (a b c : Int) : impl_within.f a b c = some (decide (b ≤ a ∧ a ≤ c)) := by
  unfold impl_within.f
  by_cases h : b ≤ a
  · rw [if_pos h]; simp [h]
  · rw [if_neg h]; simp [h]

theorem in_eq (a b c : Int) : spec_l01In.f a b c = some (decide (b ≤ a ∧ a ≤ c)) := by
  unfold spec_l01In.f
  by_cases h : b ≤ a
  · rw [if_pos h]; simp [h]
  · rw [if_neg h]; simp [h]

theorem hex_at (d : Nat) (h : d < 16) : ((⟨#[48, 49, 50, 51, 52, 53, 54, 55, 56, 57, 97, 98, 99, 100, 101, 102]⟩ : ByteArray).extract d (d + 1)).toList = [hexD d] := by
  rw [tl_extract, tl]
  have : d = 0 ∨ d = 1 ∨ d = 2 ∨ d = 3 ∨ d = 4 ∨ d = 5 ∨ d = 6 ∨ d = 7 ∨ d = 8 ∨ d = 9 ∨ d = 10 ∨ d = 11 ∨ d = 12 ∨ d = 13 ∨ d = 14 ∨ d = 15 := by omega
  rcases this with rfl | rfl | rfl | rfl | rfl | rfl | rfl | rfl | rfl | rfl | rfl | rfl | rfl | rfl | rfl | rfl <;> rfl
theorem spec_digits_loop (b : Nat) (hb : 2 ≤ b) (hb2 : b ≤ 16) : ∀ (j u k : Nat) (acc : ByteArray), j ≤ 60 → u < 2 ^ j → u ≤ 9007199254740991 → j < k → acc.size + j ≤ 1000 →
    ∃ r, spec_l01Digits.l0 k (u : Int) (b : Int) acc = some r ∧ r.toList = digB b u ++ acc.toList := by
  intro j
  induction j with
  | zero =>
    intro u k acc hj hu hm hk ha
    obtain ⟨k, rfl⟩ : ∃ m, k = m + 1 := ⟨k - 1, by omega⟩
    obtain rfl : u = 0 := by simpa using hu
    unfold spec_l01Digits.l0
    rw [if_neg (by decide)]
    exact ⟨acc, rfl, by rw [digB_zero]; rfl⟩
  | succ j ih =>
    intro u k acc hj hu hm hk ha
    obtain ⟨k, rfl⟩ : ∃ m, k = m + 1 := ⟨k - 1, by omega⟩
    unfold spec_l01Digits.l0
    by_cases h0 : u = 0
    · subst h0
      rw [if_neg (by decide)]
      exact ⟨acc, rfl, by rw [digB_zero]; rfl⟩
    · have hmod : u % b < b := Nat.mod_lt _ (by omega)
      have hd := hex_at (u % b) (by omega)
      have hs : ((⟨#[48, 49, 50, 51, 52, 53, 54, 55, 56, 57, 97, 98, 99, 100, 101, 102]⟩ : ByteArray).extract (u % b) (u % b + 1)).size = 1 := by rw [← tl_length, hd]; rfl
      have hq : u / b < 2 ^ j := by
        rw [Nat.pow_succ] at hu
        exact Nat.div_lt_of_lt_mul (by
          have : 2 ^ j * 2 ≤ b * 2 ^ j := by rw [Nat.mul_comm]; exact Nat.mul_le_mul_right _ hb
          omega)
      have hq2 : u / b ≤ u := Nat.div_le_self _ _
      have t1 : Int.tmod (u : Int) (b : Int) = ((u % b : Nat) : Int) := by
        rw [Int.tmod_eq_emod_of_nonneg (by omega), Int.natCast_emod]
      have t2 : Int.tdiv (u : Int) (b : Int) = ((u / b : Nat) : Int) := by
        rw [Int.tdiv_eq_ediv_of_nonneg (by omega), Int.natCast_ediv]
      have hstep := digB_step b u hb (by omega)
      rw [t1, t2, hstep]
      clear t1 t2 hstep
      generalize u / b = q at *
      generalize u % b = m at *
      rw [w64 (n := (m : Int) + 1) (by omega) (by omega), w64 (n := (q : Int)) (by omega) (by omega)]
      rw [show ((m : Int) + 1).toNat = m + 1 by omega, Int.toNat_natCast]
      rw [if_pos (by omega), if_neg (by omega), if_pos (by omega), if_pos (by omega), if_pos (by omega), if_pos (by rw [hs]; omega)]
      obtain ⟨r, e, l⟩ := ih q k (((⟨#[48, 49, 50, 51, 52, 53, 54, 55, 56, 57, 97, 98, 99, 100, 101, 102]⟩ : ByteArray).extract m (m + 1)) ++ acc) (by omega) hq (by omega) (by omega) (by rw [ByteArray.size_append, hs]; omega)
      refine ⟨r, e, ?_⟩
      rw [l, tl_append, hd]
      simp
theorem spec_digits (b : Nat) (hb : 2 ≤ b) (hb2 : b ≤ 16) (n : Int) (h0 : 0 ≤ n) (h1 : n ≤ 9007199254740991) (k : Nat) (hk : 60 < k) : ∃ r, spec_l01Digits.f k n (b : Int) = some r ∧ r.toList = numB b n.toNat := by
  obtain ⟨u, rfl⟩ := Int.eq_ofNat_of_zero_le h0
  unfold spec_l01Digits.f numB
  rw [Int.toNat_natCast]
  by_cases hz : u = 0
  · rw [if_pos (by omega), if_pos hz]
    exact ⟨_, rfl, by rw [tl]⟩
  · rw [if_neg (by omega), if_neg hz]
    obtain ⟨r, e, l⟩ := spec_digits_loop b hb hb2 60 u k (⟨#[]⟩ : ByteArray) (by decide) (by omega) (by omega) hk (by decide)
    refine ⟨r, e, ?_⟩
    have hn : (⟨#[]⟩ : ByteArray).toList = [] := by rw [tl]
    rw [l, hn, List.append_nil]

theorem repeat_one (c : UInt8) : ∀ n : Nat, Lib.repeatL [c] n = List.replicate n c
  | 0 => rfl
  | n + 1 => by
    simp only [Lib.repeatL, repeat_one c n, List.replicate_succ]
    rfl
theorem lib_repeat (c : UInt8) (n : Int) (h0 : 0 ≤ n) (h1 : n ≤ 1048576) : ∃ r, strings_Repeat.f (⟨#[c]⟩ : ByteArray) n = some r ∧ r.toList = List.replicate n.toNat c := by
  have hs : (⟨#[c]⟩ : ByteArray).size = 1 := rfl
  unfold strings_Repeat.f
  rw [if_pos ⟨h0, by omega, by rw [hs]; omega⟩]
  refine ⟨_, rfl, ?_⟩
  rw [tl_mk]
  exact repeat_one c _

/-- A number in a field of so many bytes, filled with spaces. -/
def putDecM (n w : Int) : List UInt8 × Bool :=
  if ((0 ≤ n ∧ n ≤ 9007199254740991) ∧ (1 ≤ w ∧ w ≤ 20)) ∧ ((Lib.itoa n).length : Int) ≤ w then (Lib.itoa n ++ List.replicate (w - ((Lib.itoa n).length : Int)).toNat 32, true) else ([], false)
theorem spec_pad_loop (w : Int) (hw : w ≤ 20) : ∀ (d k : Nat) (s : ByteArray), (s.size : Int) + d = w → d < k → ∃ r, spec_PutDec.l0 k w s = some (r, true) ∧ r.toList = s.toList ++ List.replicate d 32 := by
  intro d
  induction d with
  | zero =>
    intro k s hs hk
    obtain ⟨k, rfl⟩ : ∃ m, k = m + 1 := ⟨k - 1, by omega⟩
    unfold spec_PutDec.l0
    rw [if_neg (by omega)]
    exact ⟨s, rfl, by simp⟩
  | succ d ih =>
    intro k s hs hk
    obtain ⟨k, rfl⟩ : ∃ m, k = m + 1 := ⟨k - 1, by omega⟩
    have e1 : (s ++ (⟨#[32]⟩ : ByteArray)).size = s.size + 1 := by rw [ByteArray.size_append]; rfl
    have e2 : (s ++ (⟨#[32]⟩ : ByteArray)).toList = s.toList ++ [32] := by rw [tl_append, tl (⟨#[32]⟩ : ByteArray)]
    obtain ⟨r, e, l⟩ := ih k (s ++ (⟨#[32]⟩ : ByteArray)) (by omega) (by omega)
    unfold spec_PutDec.l0
    rw [if_pos (by omega), if_pos (by omega)]
    refine ⟨r, e, ?_⟩
    rw [l, e2, List.replicate_succ]
    simp
theorem spec_putDec (n w : Int) (k : Nat) (hk : 100 < k) : ∃ r, spec_PutDec.f k n w = some r ∧ (r.1.toList, r.2) = putDecM n w := by
  obtain ⟨k, rfl⟩ : ∃ m, k = m + 1 := ⟨k - 1, by omega⟩
  have hn : (⟨#[]⟩ : ByteArray).toList = [] := by rw [tl]
  have stay : spec_PutDec.j0 (k + 1) n w true = some ((⟨#[]⟩ : ByteArray), false) := by simp [spec_PutDec.j0]
  unfold spec_PutDec.f putDecM
  rw [in_eq, in_eq]
  simp only [Option.bind_some]
  by_cases h1 : 0 ≤ n ∧ n ≤ 9007199254740991
  · rw [if_pos (decide_eq_true h1)]
    by_cases h2 : 1 ≤ w ∧ w ≤ 20
    · rw [decide_eq_true h2]
      simp only [spec_PutDec.j0]
      obtain ⟨t, e, l⟩ := spec_digits 10 (by decide) (by decide) n h1.1 h1.2 k (by omega)
      rw [numB_dec n h1.1] at l
      have hs : t.size = (Lib.itoa n).length := by rw [← l, tl_length]
      rw [show ((10 : Nat) : Int) = 10 from rfl] at e
      rw [if_neg (by decide), e]
      simp only [Option.bind_some]
      by_cases h3 : (t.size : Int) > w
      · rw [if_pos h3, if_neg (fun h => by have := h.2; omega)]
        exact ⟨_, rfl, by rw [hn]⟩
      · rw [if_neg h3, if_pos ⟨⟨h1, h2⟩, by omega⟩]
        obtain ⟨r, e2, l2⟩ := spec_pad_loop w h2.2 (w - (t.size : Int)).toNat k t (by omega) (by omega)
        refine ⟨_, e2, ?_⟩
        rw [l2, l, hs]
    · rw [decide_eq_false h2, if_neg (fun h => h2 h.1.2)]
      exact ⟨_, stay, by rw [hn]⟩
  · rw [if_neg (by simpa using h1), if_neg (fun h => h1 h.1.1)]
    exact ⟨_, stay, by rw [hn]⟩
theorem base10 (n : Int) (h0 : 0 ≤ n) (h1 : n ≤ 9007199254740991) : ∃ t, impl_inBase.f n 10 = some t ∧ t.toList = Lib.itoa n := by
  unfold impl_inBase.f strconv_FormatInt.f
  rw [if_pos ⟨rfl, by omega, by omega⟩]
  exact ⟨_, rfl, tl_mk _⟩
theorem impl_putDec (n w : Int) : ∃ r, impl_PutDec.f n w = some r ∧ (r.1.toList, r.2) = putDecM n w := by
  have hn : (⟨#[]⟩ : ByteArray).toList = [] := by rw [tl]
  unfold impl_PutDec.f impl_isField.f putDecM
  rw [within_eq, within_eq]
  simp only [Option.bind_some]
  by_cases h1 : 0 ≤ n ∧ n ≤ 9007199254740991
  · rw [if_pos (decide_eq_true h1)]
    by_cases h2 : 1 ≤ w ∧ w ≤ 20
    · rw [if_pos (decide_eq_true h2)]
      obtain ⟨t, e, l⟩ := base10 n h1.1 h1.2
      have hs : t.size = (Lib.itoa n).length := by rw [← l, tl_length]
      rw [e]
      simp only [Option.bind_some]
      by_cases h3 : (t.size : Int) ≤ w
      · rw [if_pos (decide_eq_true h3), if_pos ⟨⟨h1, h2⟩, by omega⟩]
        unfold impl_spaces.f
        have hm : mx (wrap64 (w - (t.size : Int))) 0 = w - (t.size : Int) := by
          rw [w64 (by omega) (by omega)]
          unfold mx
          omega
        obtain ⟨p, e2, l2⟩ := lib_repeat 32 (w - (t.size : Int)) (by omega) (by omega)
        have hp : p.size ≤ 20 := by rw [← tl_length, l2, List.length_replicate]; omega
        rw [hm, e2]
        simp only [Option.bind_some]
        rw [if_pos (by omega)]
        refine ⟨_, rfl, ?_⟩
        show ((t ++ p).toList, true) = _
        rw [tl_append, l, l2, hs]
      · rw [if_neg (by simpa using h3), if_neg (fun h => by have := h.2; omega)]
        exact ⟨_, rfl, by rw [hn]⟩
    · rw [if_neg (by simpa using h2), if_neg (fun h => h2 h.1.2)]
      exact ⟨_, rfl, by rw [hn]⟩
  · rw [if_neg (by simpa using h1), if_neg (fun h => h1 h.1.1)]
    exact ⟨_, rfl, by rw [hn]⟩

/-- Of which number the text is the field, if of any. -/
def GD (s : ByteArray) (r : Int × Bool) : Prop := (∀ n, putDecM n (s.size : Int) = (s.toList, true) → r = (n, true)) ∧ ((∀ n, putDecM n (s.size : Int) ≠ (s.toList, true)) → r = (0, false))
theorem GD_one {s : ByteArray} {r r' : Int × Bool} (h : GD s r) (h' : GD s r') : r = r' := by
  by_cases c : ∃ n, putDecM n (s.size : Int) = (s.toList, true)
  · obtain ⟨n, hn⟩ := c
    rw [h.1 n hn, h'.1 n hn]
  · have hc : ∀ n, putDecM n (s.size : Int) ≠ (s.toList, true) := fun n hn => c ⟨n, hn⟩
    rw [h.2 hc, h'.2 hc]
theorem putDec_says {n : Int} {s : ByteArray} (h : putDecM n (s.size : Int) = (s.toList, true)) : 0 ≤ n ∧ n ≤ 9007199254740991 ∧ ∃ z, s.toList = Lib.itoa n ++ List.replicate z 32 := by
  unfold putDecM at h
  by_cases c : ((0 ≤ n ∧ n ≤ 9007199254740991) ∧ (1 ≤ (s.size : Int) ∧ (s.size : Int) ≤ 20)) ∧ ((Lib.itoa n).length : Int) ≤ (s.size : Int)
  · rw [if_pos c] at h
    exact ⟨c.1.1.1, c.1.1.2, _, (Prod.mk.inj h).1.symm⟩
  · rw [if_neg c] at h
    cases (Prod.mk.inj h).2
theorem GD_of {s : ByteArray} {v : Int} (hv : ∀ n, putDecM n (s.size : Int) = (s.toList, true) → v = n) (r : List UInt8 × Bool) (hr : r = putDecM v (s.size : Int)) : (r.2 = true → r.1 = s.toList → GD s (v, true)) ∧ (¬ (r.2 = true ∧ r.1 = s.toList) → GD s (0, false)) := by
  refine ⟨fun h1 h2 => ⟨fun n hn => by rw [hv n hn], fun hc => ?_⟩, fun h => ⟨fun n hn => ?_, fun _ => rfl⟩⟩
  · exfalso
    apply hc v
    rw [← hr, ← h1, ← h2]
  · exfalso
    apply h
    rw [hr, hv n hn, hn]
    exact ⟨rfl, rfl⟩

theorem impl_getDec (s : ByteArray) (hs : s.size ≤ 1048576) : ∃ r, impl_GetDec.f s = some r ∧ GD s r := by
  unfold impl_GetDec.f
  rw [if_pos (show s.size ≤ 140737488351232 by omega), ← tl s]
  have hok : ∀ n, putDecM n (s.size : Int) = (s.toList, true) → Lib.atoiAll (Lib.trimRightB s.toList 32) = .ok n := by
    intro n hn
    obtain ⟨n0, n1, z, hz⟩ := putDec_says hn
    rw [hz, trim_itoa n n0 z, atoi_itoa n n0 n1]
  rcases hq : Lib.atoiAll (Lib.trimRightB s.toList 32) with v | _ | _
  · obtain ⟨q, e2, l2⟩ := impl_putDec v (s.size : Int)
    have hv : ∀ n, putDecM n (s.size : Int) = (s.toList, true) → v = n := by
      intro n hn
      have := hok n hn
      rw [hq] at this
      injection this
    obtain ⟨g1, g2⟩ := GD_of hv (q.1.toList, q.2) l2
    simp only
    rw [e2]
    simp only [Option.bind_some]
    by_cases c1 : q.2 = true
    · rw [if_pos c1]
      by_cases c2 : q.1.toList = s.toList
      · rw [if_pos c2]
        exact ⟨_, rfl, g1 c1 c2⟩
      · rw [if_neg c2]
        exact ⟨_, rfl, g2 (fun h => c2 h.2)⟩
    · rw [if_neg c1]
      exact ⟨_, rfl, g2 (fun h => c1 h.1)⟩
  · refine ⟨_, rfl, fun n hn => ?_, fun _ => rfl⟩
    have := hok n hn
    rw [hq] at this
    cases this
  · refine ⟨_, rfl, fun n hn => ?_, fun _ => rfl⟩
    have := hok n hn
    rw [hq] at this
    cases this

/-! ### A byte's first place, and the texts between its places -/
theorem bt_mid {s : ByteArray} {pre t : List UInt8} {b : UInt8} (h : s.toList = pre ++ b :: t) : bt s (pre.length : Int) = (b.toNat : Int) := by
  have hs : s.size = pre.length + (t.length + 1) := by rw [← tl_length, h]; simp
  rw [bt_get s pre.length (by omega)]
  congr 2
  simp [h]
theorem size_mid {s : ByteArray} {pre t : List UInt8} (h : s.toList = pre ++ t) : s.size = pre.length + t.length := by
  rw [← tl_length, h]; simp
theorem u8_eq {b : UInt8} {c : UInt8} : ((b.toNat : Int) = (c.toNat : Int)) ↔ b = c := by
  constructor
  · intro h
    exact UInt8.toNat_inj.1 (by omega)
  · rintro rfl
    rfl
theorem ext_mid {s : ByteArray} {pre p t : List UInt8} (h : s.toList = pre ++ (p ++ t)) : (s.extract pre.length (pre.length + p.length)).toList = p := by
  rw [tl_extract, h, ← List.append_assoc]
  rw [List.take_left' (by simp)]
  simp
theorem ext_end {s : ByteArray} {pre p : List UInt8} (h : s.toList = pre ++ p) : (s.extract pre.length s.size).toList = p := by
  rw [tl_extract, ← tl_length, h]
  rw [List.take_of_length_le (Nat.le_refl _)]
  simp
/-- A byte's first place: there is none, or the text falls in two there. -/
theorem index_span (c : UInt8) : ∀ l : List UInt8, (c ∉ l ∧ Lib.indexByte l c = -1) ∨ ∃ a b, l = a ++ c :: b ∧ c ∉ a ∧ Lib.indexByte l c = (a.length : Int)
  | [] => Or.inl ⟨by simp, rfl⟩
  | x :: l => by
    by_cases h : x = c
    · subst h
      exact Or.inr ⟨[], l, rfl, by simp, by simp [Lib.indexByte]⟩
    · rcases index_span c l with ⟨h1, h2⟩ | ⟨a, b, h1, h2, h3⟩
      · refine Or.inl ⟨?_, ?_⟩
        · simp only [List.mem_cons, not_or]
          exact ⟨fun e => h e.symm, h1⟩
        · simp [Lib.indexByte, h, h2]
      · refine Or.inr ⟨x :: a, b, by simp [h1], ?_, ?_⟩
        · simp only [List.mem_cons, not_or]
          exact ⟨fun e => h e.symm, h2⟩
        · simp only [Lib.indexByte]
          have h' : (x == c) = false := by simpa using h
          simp only [h', h3]
          simp
          try omega

theorem valM_ge (b : Nat) (hb : 1 ≤ b) : ∀ (t : List UInt8) (acc : Nat), acc ≤ valM b acc t
  | [], acc => Nat.le_refl _
  | c :: t, acc => by
    simp only [valM]
    have h1 := valM_ge b hb t (acc * b + (dvI c).toNat)
    have h2 : acc * 1 ≤ acc * b := Nat.mul_le_mul_left _ hb
    omega
/-- The value of digits, or -1. -/
def valR (b acc : Nat) (l : List UInt8) : Int := if (∀ c ∈ l, digOk b c = true) ∧ valM b acc l ≤ 9007199254740991 then (valM b acc l : Int) else -1
theorem valR_bad (b acc : Nat) (c : UInt8) (t : List UInt8) (h : digOk b c = false) : valR b acc (c :: t) = -1 := by
  unfold valR
  rw [if_neg]
  intro h2
  have := h2.1 c (by simp)
  rw [h] at this
  cases this
theorem valR_over (b acc : Nat) (hb : 1 ≤ b) (c : UInt8) (t : List UInt8) (h : 9007199254740991 < acc * b + (dvI c).toNat) : valR b acc (c :: t) = -1 := by
  unfold valR
  rw [if_neg]
  intro h2
  have h3 := h2.2
  simp only [valM] at h3
  have := valM_ge b hb t (acc * b + (dvI c).toNat)
  omega
theorem valR_step (b acc : Nat) (c : UInt8) (t : List UInt8) (h : digOk b c = true) : valR b acc (c :: t) = valR b (acc * b + (dvI c).toNat) t := by
  unfold valR
  simp only [valM, List.mem_cons, forall_eq_or_imp, h, true_and]
theorem value_tail (s : ByteArray) (b : Nat) (hb : 2 ≤ b) (hb2 : b ≤ 16) (k acc D : Nat) (i : Int) (c : UInt8) (t : List UInt8) (hD : dvI c = (D : Int)) (hacc : acc ≤ 9007199254740991)
    (ih : acc * b + D ≤ 9007199254740991 → spec_l01Value.l0 k s (b : Int) ((acc * b + D : Nat) : Int) (wrap64 (i + 1)) = some (valR b (acc * b + D) t)) :
    (if (D : Int) < 0 then some (-1) else (if (D : Int) ≥ (b : Int) then some (-1) else (if (b : Int) = 0 then none else (if (acc : Int) > (wrap64 (Int.tdiv (wrap64 (9007199254740991 - (D : Int))) (b : Int))) then some (-1) else (spec_l01Value.l0 k s (b : Int) (wrap64 ((wrap64 ((acc : Int) * (b : Int))) + (D : Int))) (wrap64 (i + 1)))))) : Option Int) = some (valR b acc (c :: t)) := by
  have hlt : D < 16 := by
    have := dv_lt c
    omega
  have h1 : ¬ (D : Int) < 0 := by omega
  rw [if_neg h1]
  by_cases h2 : (D : Int) ≥ (b : Int)
  · rw [if_pos h2, valR_bad]
    unfold digOk
    rw [hD, decide_eq_false (show ¬ (D : Int) < (b : Int) by omega), Bool.and_false]
  · have hok : digOk b c = true := by
      unfold digOk
      rw [hD, decide_eq_true (by omega), decide_eq_true (by omega)]
      rfl
    have h3 : ¬ (b : Int) = 0 := by omega
    obtain ⟨R, hR⟩ : ∃ R : Nat, R + D = 9007199254740991 := ⟨9007199254740991 - D, by omega⟩
    have e1 : wrap64 (9007199254740991 - (D : Int)) = (R : Int) := by rw [w64 (by omega) (by omega)]; omega
    have e2 : Int.tdiv (R : Int) (b : Int) = ((R / b : Nat) : Int) := by
      rw [Int.tdiv_eq_ediv_of_nonneg (by omega), Int.natCast_ediv]
    have hle : R / b ≤ R := Nat.div_le_self _ _
    have hdiv : R / b < acc ↔ R < acc * b := Nat.div_lt_iff_lt_mul (by omega)
    have hdv : (dvI c).toNat = D := by omega
    have hov : 9007199254740991 < acc * b + D → valR b acc (c :: t) = -1 := fun h => valR_over b acc (by omega) c t (by rw [hdv]; exact h)
    have hst : valR b acc (c :: t) = valR b (acc * b + D) t := by rw [valR_step b acc c t hok, hdv]
    have e3 : (acc : Int) * (b : Int) = ((acc * b : Nat) : Int) := (Int.natCast_mul acc b).symm
    rw [if_neg h2, if_neg h3, e1, e2, e3]
    clear e1 e2 e3
    generalize R / b = Q at hle hdiv ⊢
    generalize acc * b = P at hdiv hov hst ih ⊢
    have e5 : wrap64 (Q : Int) = (Q : Int) := w64 (by clear hov hst ih; omega) (by clear hov hst ih; omega)
    rw [e5]
    clear e5
    by_cases h4 : (acc : Int) > (Q : Int)
    · have h6 : Q < acc := by clear hov hst ih; omega
      have h5 := hdiv.1 h6
      have h7 : 9007199254740991 < P + D := by clear hov hst ih; omega
      rw [if_pos h4, hov h7]
    · have h5 : ¬ R < P := fun h => h4 (by have := hdiv.2 h; clear hov hst ih; omega)
      have e6 : wrap64 (P : Int) = (P : Int) := w64 (by clear hov hst ih; omega) (by clear hov hst ih; omega)
      have e4 : wrap64 ((P : Int) + (D : Int)) = ((P + D : Nat) : Int) := by
        clear e6
        rw [w64 (by clear hov hst ih; omega) (by clear hov hst ih; omega)]
        clear hov hst ih
        omega
      have h7 : P + D ≤ 9007199254740991 := by clear hov hst ih e4 e6; omega
      rw [if_neg h4, e6, e4, hst]
      exact ih h7
theorem spec_value_loop (s : ByteArray) (hs : s.size ≤ 1099511627776) (b : Nat) (hb : 2 ≤ b) (hb2 : b ≤ 16) : ∀ (t pre : List UInt8) (acc k : Nat), s.toList = pre ++ t → acc ≤ 9007199254740991 → t.length < k → spec_l01Value.l0 k s (b : Int) (acc : Int) (pre.length : Int) = some (valR b acc t)
  | [], pre, acc, k, h, ha, hk => by
    obtain ⟨k, rfl⟩ : ∃ m, k = m + 1 := ⟨k - 1, by omega⟩
    have hz := size_mid h
    simp only [List.length_nil] at hz
    have hn : ¬ (pre.length : Int) < (s.size : Int) := by omega
    simp only [spec_l01Value.l0]
    rw [if_neg hn]
    unfold valR
    rw [if_pos ⟨fun c hc => by simp at hc, ha⟩]
    rfl
  | c :: t, pre, acc, k, h, ha, hk => by
    simp only [List.length_cons] at hk
    obtain ⟨k, rfl⟩ : ∃ m, k = m + 1 := ⟨k - 1, by omega⟩
    have hz := size_mid h
    simp only [List.length_cons] at hz
    have hlt : (pre.length : Int) < (s.size : Int) := by omega
    have h0 : 0 ≤ (pre.length : Int) := by omega
    have hc := c.toNat_lt
    have ew : wrap64 (c.toNat : Int) = (c.toNat : Int) := w64 (by omega) (by omega)
    have ih : ∀ D : Nat, acc * b + D ≤ 9007199254740991 → spec_l01Value.l0 k s (b : Int) ((acc * b + D : Nat) : Int) (wrap64 ((pre.length : Int) + 1)) = some (valR b (acc * b + D) t) := fun D hD => by
      have := spec_value_loop s hs b hb hb2 t (pre ++ [c]) (acc * b + D) k (by simp [h]) hD (by omega)
      rw [w64 (by omega) (by omega)]
      rw [List.length_append] at this
      exact this
    simp only [spec_l01Value.l0]
    rw [if_pos hlt, if_pos h0, bt_mid h, ew, in_eq, in_eq]
    simp only [Option.bind_some]
    by_cases h1 : 48 ≤ (c.toNat : Int) ∧ (c.toNat : Int) ≤ 57
    · have e1 : wrap64 ((c.toNat : Int) - 48) = ((c.toNat - 48 : Nat) : Int) := by rw [w64 (by omega) (by omega)]; omega
      rw [if_pos (decide_eq_true h1), e1]
      exact value_tail s b hb hb2 k acc _ _ c t (by unfold dvI; rw [if_pos (by omega)]; omega) ha (ih _)
    · rw [if_neg (by simpa using h1)]
      by_cases h2 : 97 ≤ (c.toNat : Int) ∧ (c.toNat : Int) ≤ 102
      · have e1 : wrap64 ((c.toNat : Int) - 87) = ((c.toNat - 87 : Nat) : Int) := by rw [w64 (by omega) (by omega)]; omega
        rw [if_pos (decide_eq_true h2), e1]
        exact value_tail s b hb hb2 k acc _ _ c t (by unfold dvI; rw [if_neg (by omega), if_pos (by omega)]; omega) ha (ih _)
      · rw [if_neg (by simpa using h2), if_pos (by decide), valR_bad]
        unfold digOk dvI
        rw [if_neg (by omega), if_neg (by omega)]
        rfl
theorem spec_value (s : ByteArray) (hs : s.size ≤ 1099511627776) (b : Nat) (hb : 2 ≤ b) (hb2 : b ≤ 16) (k : Nat) (hk : s.size < k) : spec_l01Value.f k s (b : Int) = some (valR b 0 s.toList) := by
  unfold spec_l01Value.f
  exact spec_value_loop s hs b hb hb2 s.toList [] 0 k rfl (by decide) (by rw [tl_length]; exact hk)
theorem valR_neg (b : Nat) (l : List UInt8) : valR b 0 l < 0 ↔ ¬ ((∀ c ∈ l, digOk b c = true) ∧ valM b 0 l ≤ 9007199254740991) := by
  unfold valR
  by_cases c : (∀ c ∈ l, digOk b c = true) ∧ valM b 0 l ≤ 9007199254740991
  · rw [if_pos c]
    exact ⟨fun h => by omega, fun h => absurd c h⟩
  · rw [if_neg c]
    exact ⟨fun _ => c, fun _ => by decide⟩

theorem spec_lead_loop (s : ByteArray) (hs : s.size ≤ 1099511627776) : ∀ (t pre : List UInt8) (k : Nat), s.toList = pre ++ t → t.length < k → ∃ k2, k ≤ k2 + t.length + 1 ∧ spec_GetDec.l0 k s (pre.length : Int) = spec_GetDec.j1 k2 s ((pre.length + (t.takeWhile isDec).length : Nat) : Int)
  | [], pre, k, h, hk => by
    obtain ⟨k, rfl⟩ : ∃ m, k = m + 1 := ⟨k - 1, by omega⟩
    have hz := size_mid h
    simp only [List.length_nil] at hz
    have hn : ¬ (pre.length : Int) < (s.size : Int) := by omega
    refine ⟨k, by simp, ?_⟩
    simp only [spec_GetDec.l0]
    rw [if_neg hn]
    rfl
  | c :: t, pre, k, h, hk => by
    simp only [List.length_cons] at hk
    obtain ⟨k, rfl⟩ : ∃ m, k = m + 1 := ⟨k - 1, by omega⟩
    have hz := size_mid h
    simp only [List.length_cons] at hz
    have hlt : (pre.length : Int) < (s.size : Int) := by omega
    have h0 : 0 ≤ (pre.length : Int) := by omega
    have hc := c.toNat_lt
    have ew : wrap64 (c.toNat : Int) = (c.toNat : Int) := w64 (by omega) (by omega)
    have ew2 : wrap64 ((pre.length : Int) + 1) = (((pre ++ [c]).length : Nat) : Int) := by
      rw [List.length_append, w64 (by omega) (by omega)]
      rfl
    simp only [spec_GetDec.l0]
    rw [if_pos hlt, if_pos h0, bt_mid h, ew, in_eq]
    simp only [Option.bind_some]
    by_cases h1 : 48 ≤ (c.toNat : Int) ∧ (c.toNat : Int) ≤ 57
    · obtain ⟨k2, hk2, e⟩ := spec_lead_loop s hs t (pre ++ [c]) k (by simp [h]) (by omega)
      refine ⟨k2, by simp only [List.length_cons]; omega, ?_⟩
      have hd : isDec c = true := decide_eq_true (by omega)
      rw [if_pos (decide_eq_true h1), ew2, e, List.takeWhile_cons, if_pos hd]
      congr 1
      simp only [List.length_append, List.length_cons, List.length_nil]
      omega
    · have hd : ¬ isDec c = true := fun h => h1 (by have := of_decide_eq_true h; omega)
      refine ⟨k, by simp only [List.length_cons]; omega, ?_⟩
      rw [if_neg (by simpa using h1), List.takeWhile_cons, if_neg hd]
      rfl
theorem spec_getDec (s : ByteArray) (hs : s.size ≤ 1048576) (k : Nat) (hk : 2 * s.size + 200 < k) : ∃ r, spec_GetDec.f k s = some r ∧ GD s r := by
  obtain ⟨k2, hk2, e⟩ := spec_lead_loop s (by omega) s.toList [] k rfl (by rw [tl_length]; omega)
  rw [tl_length] at hk2
  obtain ⟨k2, rfl⟩ : ∃ m, k2 = m + 1 := ⟨k2 - 1, by omega⟩
  simp only [List.length_nil, Nat.zero_add] at e
  have hle : (s.toList.takeWhile isDec).length ≤ s.size := by
    rw [← tl_length]
    exact (List.takeWhile_sublist _).length_le
  have hex : (s.extract 0 (s.toList.takeWhile isDec).length).toList = s.toList.takeWhile isDec := by
    rw [tl_extract, List.drop_zero]
    have h1 := List.takeWhile_append_dropWhile (p := isDec) (l := s.toList)
    generalize s.toList.takeWhile isDec = a at *
    rw [← h1, List.take_left' rfl]
  have hval := spec_value (s.extract 0 (s.toList.takeWhile isDec).length) (by rw [ByteArray.size_extract]; omega) 10 (by decide) (by decide) k2 (by rw [ByteArray.size_extract]; omega)
  rw [hex, show ((10 : Nat) : Int) = 10 from rfl] at hval
  obtain ⟨q, e2, l2⟩ := spec_putDec (valR 10 0 (s.toList.takeWhile isDec)) (s.size : Int) k2 (by omega)
  have hv : ∀ n, putDecM n (s.size : Int) = (s.toList, true) → valR 10 0 (s.toList.takeWhile isDec) = n := by
    intro n hn
    obtain ⟨n0, n1, z, hz⟩ := putDec_says hn
    obtain ⟨d1, d2⟩ := itoa_digits n n0
    rw [hz, lead_itoa n n0 z]
    unfold valR
    rw [if_pos ⟨d1, by omega⟩]
    exact d2
  obtain ⟨g1, g2⟩ := GD_of hv (q.1.toList, q.2) l2
  have hp : ((s.toList.takeWhile isDec).length : Int) ≤ (s.size : Int) := by omega
  have h0 : 0 ≤ ((s.toList.takeWhile isDec).length : Int) := by omega
  unfold spec_GetDec.f
  have e' : spec_GetDec.l0 k s 0 = spec_GetDec.j1 (k2 + 1) s ((s.toList.takeWhile isDec).length : Int) := e
  rw [e']
  simp only [spec_GetDec.j1]
  rw [if_pos h0, if_pos hp, Int.toNat_natCast, hval]
  simp only [Option.bind_some]
  rw [e2]
  simp only [Option.bind_some]
  by_cases c1 : q.2 = true
  · rw [if_pos c1]
    by_cases c2 : q.1.toList = s.toList
    · rw [if_pos c2]
      exact ⟨_, rfl, g1 c1 c2⟩
    · rw [if_neg c2]
      exact ⟨_, rfl, g2 (fun h => c2 h.2)⟩
  · rw [if_neg c1]
    exact ⟨_, rfl, g2 (fun h => c1 h.1)⟩

theorem FnExactGetDec : laws_FnExactGetDec.Pure := by
  intro s _
  unfold laws_FnExactGetDec.f
  by_cases h : (s.size : Int) > 1048576
  · exact ⟨0, by rw [if_pos h]⟩
  · obtain ⟨r1, e1, g1⟩ := spec_getDec s (by omega) (2 * s.size + 201) (by omega)
    obtain ⟨r2, e2, g2⟩ := impl_getDec s (by omega)
    refine ⟨2 * s.size + 201, ?_⟩
    rw [if_neg h, e1, e2, GD_one g1 g2]
    simp

end Go.Proofs.YtmdmhcganiaogaaDoor.Pure
