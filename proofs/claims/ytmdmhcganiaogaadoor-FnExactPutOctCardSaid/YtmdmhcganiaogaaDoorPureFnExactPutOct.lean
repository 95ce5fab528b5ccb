/-
The pure statement of the law FnExactPutOct (numbers, byte strings and lists; no Go and no memory): the printed law's function answers true. Conditions: those of the printed statement (each string at most 2^47 - 4096 bytes, each number of its kind).
-/
import Derived.Test.YtmdmhcganiaogaaDoorPFnExactPutOctx2
import Derived.Test.YtmdmhcganiaogaaDoorCore
namespace Go.Proofs.YtmdmhcganiaogaaDoor.Pure
open Go.RowKit Go.Proofs.YtmdmhcganiaogaaDoor.PFnExactPutOct Go.Proofs.YtmdmhcganiaogaaDoorW.PrintWords Go.Proofs.YtmdmhcganiaogaaDoorW.PrintLast Go.Proofs.YtmdmhcganiaogaaDoor.Core
set_option linter.unusedVariables false
set_option linter.unusedSimpArgs false

/-! ### The digits of a number in a base -/
def hexD (d : Nat) : UInt8 := ([48, 49, 50, 51, 52, 53, 54, 55, 56, 57, 97, 98, 99, 100, 101, 102] : List UInt8).getD d 0
def digB (b : Nat) (u : Nat) : List UInt8 := if h : u = 0 ∨ b ≤ 1 then [] else digB b (u / b) ++ [hexD (u % b)]
termination_by u
decreasing_by exact Nat.div_lt_self (by omega) (by omega)
theorem digB_zero (b : Nat) : digB b 0 = [] := by rw [digB, dif_pos (Or.inl rfl)]
theorem digB_step (b u : Nat) (hb : 2 ≤ b) (h : 0 < u) : digB b u = digB b (u / b) ++ [hexD (u % b)] := by
  rw [digB, dif_neg (by omega)]
def numB (b u : Nat) : List UInt8 := if u = 0 then [48] else digB b u
theorem hexD_dec (d : Nat) (h : d < 10) : hexD d = UInt8.ofNat (48 + d) := by
  have : d = 0 ∨ d = 1 ∨ d = 2 ∨ d = 3 ∨ d = 4 ∨ d = 5 ∨ d = 6 ∨ d = 7 ∨ d = 8 ∨ d = 9 := by omega
  rcases this with rfl | rfl | rfl | rfl | rfl | rfl | rfl | rfl | rfl | rfl <;> rfl

theorem rev_ind {P : List UInt8 → Prop} (h0 : P []) (h1 : ∀ l c, P l → P (l ++ [c])) (l : List UInt8) : P l := by
  have h : ∀ m : List UInt8, P m.reverse := fun m => by
    induction m with
    | nil => exact h0
    | cons c m ih =>
      rw [List.reverse_cons]
      exact h1 _ _ ih
  have := h l.reverse
  rwa [List.reverse_reverse] at this

/-! ### Digits in a field of a width, and their value -/
def padB (b : Nat) : Nat → Nat → List UInt8
  | 0, _ => []
  | w + 1, n => padB b w (n / b) ++ [hexD (n % b)]
/-- What a byte is worth as a digit; -1 where it is none. -/
def dvI (c : UInt8) : Int := if 48 ≤ c.toNat ∧ c.toNat ≤ 57 then (c.toNat : Int) - 48 else if 97 ≤ c.toNat ∧ c.toNat ≤ 102 then (c.toNat : Int) - 87 else -1
def digOk (b : Nat) (c : UInt8) : Bool := decide (0 ≤ dvI c) && decide (dvI c < (b : Int))
def valM (b : Nat) : Nat → List UInt8 → Nat
  | acc, [] => acc
  | acc, c :: t => valM b (acc * b + (dvI c).toNat) t
theorem dv_hex (d : Nat) (h : d < 16) : dvI (hexD d) = (d : Int) := by
  have : d = 0 ∨ d = 1 ∨ d = 2 ∨ d = 3 ∨ d = 4 ∨ d = 5 ∨ d = 6 ∨ d = 7 ∨ d = 8 ∨ d = 9 ∨ d = 10 ∨ d = 11 ∨ d = 12 ∨ d = 13 ∨ d = 14 ∨ d = 15 := by omega
  rcases this with rfl | rfl | rfl | rfl | rfl | rfl | rfl | rfl | rfl | rfl | rfl | rfl | rfl | rfl | rfl | rfl <;> decide
theorem dv_lt (c : UInt8) : dvI c < 16 := by
  unfold dvI
  split
  · omega
  · split <;> omega
theorem hex_dv_fin : ∀ n : Fin 256, 0 ≤ dvI (UInt8.ofNat n.val) → hexD (dvI (UInt8.ofNat n.val)).toNat = UInt8.ofNat n.val := by decide +kernel
theorem hex_dv (c : UInt8) (h : 0 ≤ dvI c) : hexD (dvI c).toNat = c := by
  have := hex_dv_fin ⟨c.toNat, c.toNat_lt⟩
  simp only [UInt8.ofNat_toNat] at this
  exact this h
theorem padB_length (b : Nat) : ∀ w n, (padB b w n).length = w
  | 0, n => rfl
  | w + 1, n => by simp [padB, padB_length b w]
theorem valM_append (b : Nat) : ∀ (l1 l2 : List UInt8) (acc : Nat), valM b acc (l1 ++ l2) = valM b (valM b acc l1) l2
  | [], l2, acc => rfl
  | c :: l1, l2, acc => by simp only [List.cons_append, valM]; exact valM_append b l1 l2 _
theorem valM_padB (b : Nat) (hb : 2 ≤ b) (hb2 : b ≤ 16) : ∀ w n, n < b ^ w → valM b 0 (padB b w n) = n
  | 0, n, h => by
    have : n = 0 := by simpa using h
    subst this
    rfl
  | w + 1, n, h => by
    have hm : n % b < b := Nat.mod_lt _ (by omega)
    have hq : n / b < b ^ w := Nat.div_lt_of_lt_mul (by rw [Nat.mul_comm, ← Nat.pow_succ]; exact h)
    rw [padB, valM_append, valM_padB b hb hb2 w _ hq]
    simp only [valM]
    rw [dv_hex _ (by omega), Int.toNat_natCast, Nat.mul_comm]
    exact Nat.div_add_mod n b
theorem padB_ok (b : Nat) (hb : 2 ≤ b) (hb2 : b ≤ 16) : ∀ w n, ∀ c ∈ padB b w n, digOk b c = true
  | 0, n, c, h => by simp [padB] at h
  | w + 1, n, c, h => by
    rw [padB, List.mem_append, List.mem_singleton] at h
    rcases h with h | h
    · exact padB_ok b hb hb2 w _ c h
    · have hm : n % b < b := Nat.mod_lt _ (by omega)
      rw [h]
      unfold digOk
      rw [dv_hex _ (by omega), decide_eq_true (by omega), decide_eq_true (by omega)]
      rfl
theorem padB_valM (b : Nat) (hb : 2 ≤ b) : ∀ l : List UInt8, (∀ c ∈ l, digOk b c = true) → padB b l.length (valM b 0 l) = l ∧ valM b 0 l < b ^ l.length := by
  intro l
  induction l using rev_ind with
  | h0 => intro _; exact ⟨rfl, by simp [valM]⟩
  | h1 l c ih =>
    intro h
    obtain ⟨h1, h2⟩ := ih (fun x hx => h x (List.mem_append_left _ hx))
    have hc := h c (by simp)
    unfold digOk at hc
    simp only [Bool.and_eq_true, decide_eq_true_eq] at hc
    have hd : (dvI c).toNat < b := by omega
    have e1 : (valM b 0 l * b + (dvI c).toNat) / b = valM b 0 l := by
      rw [Nat.mul_comm, Nat.mul_add_div (by omega), Nat.div_eq_of_lt hd, Nat.add_zero]
    have e2 : (valM b 0 l * b + (dvI c).toNat) % b = (dvI c).toNat := by
      rw [Nat.mul_comm, Nat.mul_add_mod, Nat.mod_eq_of_lt hd]
    rw [valM_append]
    simp only [valM, List.length_append, List.length_cons, List.length_nil, padB, e1, e2]
    rw [h1, hex_dv c hc.1]
    refine ⟨rfl, ?_⟩
    rw [Nat.pow_succ]
    have : (valM b 0 l + 1) * b ≤ b ^ l.length * b := Nat.mul_le_mul_right _ h2
    rw [Nat.add_mul, Nat.one_mul] at this
    omega
theorem padB_zero (b : Nat) : ∀ w, padB b w 0 = List.replicate w 48
  | 0 => rfl
  | w + 1 => by
    rw [padB, Nat.zero_div, Nat.zero_mod, padB_zero b w, List.replicate_succ']
    rfl
theorem numB_less (b n : Nat) (hb : 2 ≤ b) (h : n < b) : numB b n = [hexD n] := by
  unfold numB
  by_cases h0 : n = 0
  · rw [if_pos h0, h0]
    rfl
  · rw [if_neg h0, digB_step b n hb (by omega), Nat.div_eq_of_lt h, digB_zero, Nat.mod_eq_of_lt h]
    rfl
theorem numB_more (b n : Nat) (hb : 2 ≤ b) (h : ¬ n < b) : numB b n = numB b (n / b) ++ [hexD (n % b)] := by
  have hq : 0 < n / b := Nat.div_pos (by omega) (by omega)
  unfold numB
  rw [if_neg (by omega), if_neg (by omega), digB_step b n hb (by omega)]
/-- The number with zeros ahead of it is the field. -/
theorem numB_pad (b : Nat) (hb : 2 ≤ b) : ∀ w n, (n < b ^ (w + 1) → (numB b n).length ≤ w + 1 ∧ List.replicate (w + 1 - (numB b n).length) 48 ++ numB b n = padB b (w + 1) n) ∧ (¬ n < b ^ (w + 1) → w + 1 < (numB b n).length)
  | 0, n => by
    rw [Nat.zero_add, Nat.pow_one]
    refine ⟨fun h => ?_, fun h => ?_⟩
    · rw [numB_less b n hb h]
      exact ⟨Nat.le_refl _, by simp [padB, Nat.mod_eq_of_lt h]⟩
    · rw [numB_more b n hb h, List.length_append]
      have : 0 < (numB b (n / b)).length := by
        by_cases c : n / b < b
        · rw [numB_less b _ hb c]; simp
        · rw [numB_more b _ hb c]; simp
      simp only [List.length_cons, List.length_nil]
      omega
  | w + 1, n => by
    obtain ⟨i1, i2⟩ := numB_pad b hb w (n / b)
    have hdiv : n / b < b ^ (w + 1) ↔ n < b ^ (w + 1 + 1) := by
      rw [Nat.div_lt_iff_lt_mul (by omega), ← Nat.pow_succ]
    by_cases c : n < b
    · have hlt : n < b ^ (w + 1 + 1) := Nat.lt_of_lt_of_le c (by
        have : b ^ 1 ≤ b ^ (w + 1 + 1) := Nat.pow_le_pow_right (by omega) (by omega)
        rwa [Nat.pow_one] at this)
      refine ⟨fun _ => ?_, fun h => absurd hlt h⟩
      rw [numB_less b n hb c, padB, Nat.div_eq_of_lt c, padB_zero, Nat.mod_eq_of_lt c]
      exact ⟨by simp, by simp⟩
    · rw [numB_more b n hb c]
      refine ⟨fun h => ?_, fun h => ?_⟩
      · obtain ⟨j1, j2⟩ := i1 (hdiv.2 h)
        rw [padB, ← j2, List.length_append]
        simp only [List.length_cons, List.length_nil]
        refine ⟨by omega, ?_⟩
        rw [show w + 1 + 1 - ((numB b (n / b)).length + (0 + 1)) = w + 1 - (numB b (n / b)).length by omega, List.append_assoc]
      · have := i2 (fun h2 => h (hdiv.1 h2))
        rw [List.length_append]
        simp only [List.length_cons, List.length_nil]
        omega
/-- A number in a field of so many bytes, zeros ahead of it. -/
def putB (b : Nat) (n w : Int) : List UInt8 × Bool := if ((0 ≤ n ∧ n ≤ 9007199254740991) ∧ (1 ≤ w ∧ w ≤ 20)) ∧ n.toNat < b ^ w.toNat then (padB b w.toNat n.toNat, true) else ([], false)
/-- The digits' value, of so many digits at most. -/
def getB (b lo hi : Nat) (l : List UInt8) : Int × Bool := if (lo ≤ l.length ∧ l.length ≤ hi) ∧ (∀ c ∈ l, digOk b c = true) ∧ valM b 0 l ≤ 9007199254740991 then ((valM b 0 l : Int), true) else (0, false)
theorem get_put (b : Nat) (hb : 2 ≤ b) (hb2 : b ≤ 16) (n w : Int) (lo hi : Nat) (h : (putB b n w).2 = true) (hlo : (lo : Int) ≤ w) (hhi : w ≤ (hi : Int)) : getB b lo hi (putB b n w).1 = (n, true) ∧ ((putB b n w).1.length : Int) = w := by
  unfold putB at h ⊢
  by_cases c : ((0 ≤ n ∧ n ≤ 9007199254740991) ∧ (1 ≤ w ∧ w ≤ 20)) ∧ n.toNat < b ^ w.toNat
  · rw [if_pos c]
    obtain ⟨⟨c1, c2⟩, c3⟩ := c
    have hv := valM_padB b hb hb2 w.toNat n.toNat c3
    have hl := padB_length b w.toNat n.toNat
    refine ⟨?_, by rw [hl]; omega⟩
    unfold getB
    rw [if_pos ⟨by rw [hl]; omega, padB_ok b hb hb2 _ _, by rw [hv]; omega⟩, hv]
    congr 1
    omega
  · rw [if_neg c] at h
    cases h
theorem put_get (b : Nat) (hb : 2 ≤ b) (l : List UInt8) (lo hi : Nat) (hlo : 1 ≤ lo) (hhi : hi ≤ 20) (h : (getB b lo hi l).2 = true) : putB b (getB b lo hi l).1 (l.length : Int) = (l, true) := by
  unfold getB at h ⊢
  by_cases c : (lo ≤ l.length ∧ l.length ≤ hi) ∧ (∀ c ∈ l, digOk b c = true) ∧ valM b 0 l ≤ 9007199254740991
  · rw [if_pos c]
    obtain ⟨c1, c2, c3⟩ := c
    obtain ⟨h1, h2⟩ := padB_valM b hb l c2
    unfold putB
    simp only [Int.toNat_natCast]
    rw [if_pos ⟨⟨by omega, by omega⟩, h2⟩, h1]
  · rw [if_neg c] at h
    cases h

theorem within_eq (a b c : Int) : impl_within.f a b c = some (decide (b ≤ a ∧ a ≤ c)) := by
  unfold impl_within.f
  by_cases h : b ≤ a
  · rw [if_pos h]; simp [h]
  · rw [if_neg h]; simp [h]

theorem in_eq (a b c : Int) : spec_l01In.f a b c = some (decide (b ≤ a ∧ a ≤ c)) := by
  unfold spec_l01In.f
  by_cases h : b ≤ a
  · rw [if_pos h]; simp [h]
  · rw [if_neg h]; simp [h]

theorem hex_at (d : Nat) (h : d < 16) : ((⟨#[48, 49, 50, 51, 52, 53, 54, 55, 56, 57, 97, 98, 99, 100, 101, 102]⟩ : ByteArray).extract d (d + 1)).toList = [hexD d] := by
  rw [tl_extract, tl]
  have : d = 0 ∨ d = 1 ∨ d = 2 ∨ d = 3 ∨ d = 4 ∨ d = 5 ∨ d = 6 ∨ d = 7 ∨ d = 8 ∨ d = 9 ∨ d = 10 ∨ d = 11 ∨ d = 12 ∨ d = 13 ∨ d = 14 ∨ d = 15 := by omega
  rcases this with rfl | rfl | rfl | rfl | rfl | rfl | rfl | rfl | rfl | rfl | rfl | rfl | rfl | rfl | rfl | rfl <;> rfl
theorem spec_digits_loop (b : Nat) (hb : 2 ≤ b) (hb2 : b ≤ 16) : ∀ (j u k : Nat) (acc : ByteArray), j ≤ 60 → u < 2 ^ j → u ≤ 9007199254740991 → j < k → acc.size + j ≤ 1000 →
    ∃ r, spec_l01Digits.l0 k (u : Int) (b : Int) acc = some r ∧ r.toList = digB b u ++ acc.toList := by
  intro j
  induction j with
  | zero =>
    intro u k acc hj hu hm hk ha
    obtain ⟨k, rfl⟩ : ∃ m, k = m + 1 := ⟨k - 1, by omega⟩
    obtain rfl : u = 0 := by simpa using hu
    unfold spec_l01Digits.l0
    rw [if_neg (by decide)]
    exact ⟨acc, rfl, by rw [digB_zero]; rfl⟩
  | succ j ih =>
    intro u k acc hj hu hm hk ha
    obtain ⟨k, rfl⟩ : ∃ m, k = m + 1 := ⟨k - 1, by omega⟩
    unfold spec_l01Digits.l0
    by_cases h0 : u = 0
    · subst h0
      rw [if_neg (by decide)]
      exact ⟨acc, rfl, by rw [digB_zero]; rfl⟩
    · have hmod : u % b < b := Nat.mod_lt _ (by omega)
      have hd := hex_at (u % b) (by omega)
      have hs : ((⟨#[48, 49, 50, 51, 52, 53, 54, 55, 56, 57, 97, 98, 99, 100, 101, 102]⟩ : ByteArray).extract (u % b) (u % b + 1)).size = 1 := by rw [← tl_length, hd]; rfl
      have hq : u / b < 2 ^ j := by
        rw [Nat.pow_succ] at hu
        exact Nat.div_lt_of_lt_mul (by
          have : 2 ^ j * 2 ≤ b * 2 ^ j := by rw [Nat.mul_comm]; exact Nat.mul_le_mul_right _ hb
          omega)
      have hq2 : u / b ≤ u := Nat.div_le_self _ _
      have t1 : Int.tmod (u : Int) (b : Int) = ((u % b : Nat) : Int) := by
        rw [Int.tmod_eq_emod_of_nonneg (by omega), Int.natCast_emod]
      have t2 : Int.tdiv (u : Int) (b : Int) = ((u / b : Nat) : Int) := by
        rw [Int.tdiv_eq_ediv_of_nonneg (by omega), Int.natCast_ediv]
      have hstep := digB_step b u hb (by omega)
      rw [t1, t2, hstep]
      clear t1 t2 hstep
      generalize u / b = q at *
      generalize u % b = m at *
      rw [w64 (n := (m : Int) + 1) (by omega) (by omega), w64 (n := (q : Int)) (by omega) (by omega)]
      rw [show ((m : Int) + 1).toNat = m + 1 by omega, Int.toNat_natCast]
      rw [if_pos (by omega), if_neg (by omega), if_pos (by omega), if_pos (by omega), if_pos (by omega), if_pos (by rw [hs]; omega)]
      obtain ⟨r, e, l⟩ := ih q k (((⟨#[48, 49, 50, 51, 52, 53, 54, 55, 56, 57, 97, 98, 99, 100, 101, 102]⟩ : ByteArray).extract m (m + 1)) ++ acc) (by omega) hq (by omega) (by omega) (by rw [ByteArray.size_append, hs]; omega)
      refine ⟨r, e, ?_⟩
      rw [l, tl_append, hd]
      simp
theorem spec_digits (b : Nat) (hb : 2 ≤ b) (hb2 : b ≤ 16) (n : Int) (h0 : 0 ≤ n) (h1 : n ≤ 9007199254740991) (k : Nat) (hk : 60 < k) : ∃ r, spec_l01Digits.f k n (b : Int) = some r ∧ r.toList = numB b n.toNat := by
  obtain ⟨u, rfl⟩ := Int.eq_ofNat_of_zero_le h0
  unfold spec_l01Digits.f numB
  rw [Int.toNat_natCast]
  by_cases hz : u = 0
  · rw [if_pos (by omega), if_pos hz]
    exact ⟨_, rfl, by rw [tl]⟩
  · rw [if_neg (by omega), if_neg hz]
    obtain ⟨r, e, l⟩ := spec_digits_loop b hb hb2 60 u k (⟨#[]⟩ : ByteArray) (by decide) (by omega) (by omega) hk (by decide)
    refine ⟨r, e, ?_⟩
    have hn : (⟨#[]⟩ : ByteArray).toList = [] := by rw [tl]
    rw [l, hn, List.append_nil]

theorem spec_ahead_loop (w : Int) (hw : w ≤ 20) : ∀ (d k : Nat) (s : ByteArray), (s.size : Int) + d = w → d < k → ∃ r, spec_l01Ahead.l0 k s w (⟨#[48]⟩ : ByteArray) = some r ∧ r.toList = List.replicate d 48 ++ s.toList := by
  intro d
  induction d with
  | zero =>
    intro k s hs hk
    obtain ⟨k, rfl⟩ : ∃ m, k = m + 1 := ⟨k - 1, by omega⟩
    have hn : ¬ (s.size : Int) < w := by omega
    simp only [spec_l01Ahead.l0]
    rw [if_neg hn]
    exact ⟨s, rfl, by simp⟩
  | succ d ih =>
    intro k s hs hk
    obtain ⟨k, rfl⟩ : ∃ m, k = m + 1 := ⟨k - 1, by omega⟩
    have e0 : (⟨#[48]⟩ : ByteArray).size = 1 := rfl
    have e1 : ((⟨#[48]⟩ : ByteArray) ++ s).size = s.size + 1 := by rw [ByteArray.size_append, e0]; omega
    have e2 : ((⟨#[48]⟩ : ByteArray) ++ s).toList = 48 :: s.toList := by rw [tl_append, tl (⟨#[48]⟩ : ByteArray)]; rfl
    have hp : (s.size : Int) < w := by omega
    have hq : (⟨#[48]⟩ : ByteArray).size + s.size ≤ 9223372036854775807 := by omega
    obtain ⟨r, e, l⟩ := ih k ((⟨#[48]⟩ : ByteArray) ++ s) (by omega) (by omega)
    simp only [spec_l01Ahead.l0]
    rw [if_pos hp, if_pos hq]
    refine ⟨r, e, ?_⟩
    rw [l, e2, List.replicate_succ']
    simp
theorem spec_ahead_long (w : Int) (s : ByteArray) (k : Nat) (hk : 0 < k) (h : w ≤ (s.size : Int)) : spec_l01Ahead.f k s w (⟨#[48]⟩ : ByteArray) = some s := by
  obtain ⟨k, rfl⟩ : ∃ m, k = m + 1 := ⟨k - 1, by omega⟩
  have hn : ¬ (s.size : Int) < w := by omega
  unfold spec_l01Ahead.f
  simp only [spec_l01Ahead.l0]
  rw [if_neg hn]
/-- A number's digits and zeros ahead of them. -/
theorem spec_field (b : Nat) (hb : 2 ≤ b) (hb2 : b ≤ 16) (n w : Int) (h0 : 0 ≤ n) (h1 : n ≤ 9007199254740991) (w0 : 1 ≤ w) (w1 : w ≤ 20) (k : Nat) (hk : 60 < k) :
    ∃ t r, spec_l01Digits.f k n (b : Int) = some t ∧ spec_l01Ahead.f k t w (⟨#[48]⟩ : ByteArray) = some r ∧ (n.toNat < b ^ w.toNat → r.toList = padB b w.toNat n.toNat) ∧ (¬ n.toNat < b ^ w.toNat → w < (r.size : Int)) := by
  obtain ⟨t, e, l⟩ := spec_digits b hb hb2 n h0 h1 k hk
  obtain ⟨j, hj⟩ : ∃ j : Nat, w.toNat = j + 1 := ⟨w.toNat - 1, by omega⟩
  obtain ⟨p1, p2⟩ := numB_pad b hb j n.toNat
  have hs : t.size = (numB b n.toNat).length := by rw [← l, tl_length]
  rw [hj]
  by_cases c : n.toNat < b ^ (j + 1)
  · obtain ⟨q1, q2⟩ := p1 c
    obtain ⟨r, e2, l2⟩ := spec_ahead_loop w w1 (j + 1 - (numB b n.toNat).length) k t (by omega) (by omega)
    refine ⟨t, r, e, e2, fun _ => ?_, fun h => absurd c h⟩
    rw [l2, l, q2]
  · have q := p2 c
    exact ⟨t, t, e, spec_ahead_long w t k (by omega) (by omega), fun h => absurd h c, fun _ => by omega⟩

theorem repeat_one (c : UInt8) : ∀ n : Nat, Lib.repeatL [c] n = List.replicate n c
  | 0 => rfl
  | n + 1 => by
    simp only [Lib.repeatL, repeat_one c n, List.replicate_succ]
    rfl
theorem lib_repeat (c : UInt8) (n : Int) (h0 : 0 ≤ n) (h1 : n ≤ 1048576) : ∃ r, strings_Repeat.f (⟨#[c]⟩ : ByteArray) n = some r ∧ r.toList = List.replicate n.toNat c := by
  have hs : (⟨#[c]⟩ : ByteArray).size = 1 := rfl
  unfold strings_Repeat.f
  rw [if_pos ⟨h0, by omega, by rw [hs]; omega⟩]
  refine ⟨_, rfl, ?_⟩
  rw [tl_mk]
  exact repeat_one c _

theorem dgt_hex (d : Nat) (h : d < 16) : dgt d = hexD d := by
  have : d = 0 ∨ d = 1 ∨ d = 2 ∨ d = 3 ∨ d = 4 ∨ d = 5 ∨ d = 6 ∨ d = 7 ∨ d = 8 ∨ d = 9 ∨ d = 10 ∨ d = 11 ∨ d = 12 ∨ d = 13 ∨ d = 14 ∨ d = 15 := by omega
  rcases this with rfl | rfl | rfl | rfl | rfl | rfl | rfl | rfl | rfl | rfl | rfl | rfl | rfl | rfl | rfl | rfl <;> decide
theorem fmt_num (b : Nat) (hb : 2 ≤ b) (hb2 : b ≤ 16) (u : Nat) : fmtL b u = numB b u := by
  induction u using Nat.strongRecOn with
  | _ u ih =>
    by_cases c : u < b
    · rw [fmtL_less b u c, numB_less b u hb c, dgt_hex u (by omega)]
    · have hm : u % b < b := Nat.mod_lt _ (by omega)
      rw [fmtL_more b u hb c, numB_more b u hb c, dgt_hex _ (by omega), ih (u / b) (Nat.div_lt_self (by omega) (by omega))]
theorem impl_inBase_b (b : Nat) (hb : b = 8 ∨ b = 16) (n : Int) (h0 : 0 ≤ n) (h1 : n ≤ 9007199254740991) : ∃ t, impl_inBase.f n (b : Int) = some t ∧ t.toList = numB b n.toNat := by
  have hn : ¬ ((b : Int) = 10 ∧ -9223372036854775808 ≤ n ∧ n ≤ 9223372036854775807) := by omega
  have hp : ((b : Int) = 8 ∨ (b : Int) = 16) ∧ 0 ≤ n ∧ n ≤ 9223372036854775807 := by omega
  unfold impl_inBase.f strconv_FormatInt.f
  rw [if_neg hn, if_pos hp]
  refine ⟨_, rfl, ?_⟩
  rw [tl_mk, Int.toNat_natCast, fmt_num b (by omega) (by omega)]
theorem impl_zeros_b (b : Nat) (hb : 2 ≤ b) (n w : Int) (w0 : 1 ≤ w) (w1 : w ≤ 20) (t : ByteArray) (l : t.toList = numB b n.toNat) (h : n.toNat < b ^ w.toNat) : ∃ r, impl_zeros.f t w = some r ∧ r.toList = padB b w.toNat n.toNat := by
  obtain ⟨j, hj⟩ : ∃ j : Nat, w.toNat = j + 1 := ⟨w.toNat - 1, by omega⟩
  rw [hj] at h ⊢
  obtain ⟨q1, q2⟩ := (numB_pad b hb j n.toNat).1 h
  have hs : t.size = (numB b n.toNat).length := by rw [← l, tl_length]
  obtain ⟨p, e2, l2⟩ := lib_repeat 48 (w - (t.size : Int)) (by omega) (by omega)
  have hp : p.size ≤ 20 := by rw [← tl_length, l2, List.length_replicate]; omega
  have hq : p.size + t.size ≤ 9223372036854775807 := by omega
  unfold impl_zeros.f
  rw [w64 (by omega) (by omega), e2]
  simp only [Option.bind_some]
  rw [if_pos hq]
  refine ⟨_, rfl, ?_⟩
  rw [tl_append, l2, l, ← q2]
  congr 2
  omega

theorem spec_putOct (n w : Int) (k : Nat) (hk : 100 < k) : ∃ r, spec_PutOct.f k n w = some r ∧ (r.1.toList, r.2) = putB 8 n w := by
  obtain ⟨k, rfl⟩ : ∃ m, k = m + 1 := ⟨k - 1, by omega⟩
  have hn : (⟨#[]⟩ : ByteArray).toList = [] := by rw [tl]
  have stay : spec_PutOct.j0 (k + 1) n w true = some ((⟨#[]⟩ : ByteArray), false) := by simp [spec_PutOct.j0]
  unfold spec_PutOct.f putB
  rw [in_eq, in_eq]
  simp only [Option.bind_some]
  by_cases h1 : 0 ≤ n ∧ n ≤ 9007199254740991
  · rw [if_pos (decide_eq_true h1)]
    by_cases h2 : 1 ≤ w ∧ w ≤ 20
    · rw [decide_eq_true h2]
      obtain ⟨t, r, e1, e2, p1, p2⟩ := spec_field 8 (by decide) (by decide) n w h1.1 h1.2 h2.1 h2.2 k (by omega)
      rw [show ((8 : Nat) : Int) = 8 from rfl] at e1
      simp only [spec_PutOct.j0]
      rw [if_neg (by decide), e1]
      simp only [Option.bind_some]
      rw [e2]
      simp only [Option.bind_some]
      by_cases c : n.toNat < 8 ^ w.toNat
      · have hr : (r.size : Int) = w := by rw [← tl_length, p1 c, padB_length]; omega
        have hg : ¬ (r.size : Int) > w := by omega
        rw [if_neg hg, if_pos ⟨⟨h1, h2⟩, c⟩]
        exact ⟨_, rfl, by rw [p1 c]⟩
      · have hg : (r.size : Int) > w := p2 c
        rw [if_pos hg, if_neg (fun h => c h.2)]
        exact ⟨_, rfl, by rw [hn]⟩
    · rw [decide_eq_false h2, if_neg (fun h => h2 h.1.2)]
      exact ⟨_, stay, by rw [hn]⟩
  · rw [if_neg (by simpa using h1), if_neg (fun h => h1 h.1.1)]
    exact ⟨_, stay, by rw [hn]⟩
theorem impl_putOct (n w : Int) : ∃ r, impl_PutOct.f n w = some r ∧ (r.1.toList, r.2) = putB 8 n w := by
  have hn : (⟨#[]⟩ : ByteArray).toList = [] := by rw [tl]
  unfold impl_PutOct.f impl_isField.f putB
  rw [within_eq, within_eq]
  simp only [Option.bind_some]
  by_cases h1 : 0 ≤ n ∧ n ≤ 9007199254740991
  · rw [if_pos (decide_eq_true h1)]
    by_cases h2 : 1 ≤ w ∧ w ≤ 20
    · rw [if_pos (decide_eq_true h2)]
      obtain ⟨t, e, l⟩ := impl_inBase_b 8 (Or.inl rfl) n h1.1 h1.2
      rw [show ((8 : Nat) : Int) = 8 from rfl] at e
      have hs : t.size = (numB 8 n.toNat).length := by rw [← l, tl_length]
      obtain ⟨j, hj⟩ : ∃ j : Nat, w.toNat = j + 1 := ⟨w.toNat - 1, by omega⟩
      obtain ⟨p1, p2⟩ := numB_pad 8 (by decide) j n.toNat
      rw [e]
      simp only [Option.bind_some]
      by_cases c : n.toNat < 8 ^ w.toNat
      · have hle : (t.size : Int) ≤ w := by
          have := (p1 (by rw [← hj]; exact c)).1
          omega
        obtain ⟨r, e2, l2⟩ := impl_zeros_b 8 (by decide) n w h2.1 h2.2 t l c
        rw [if_pos (decide_eq_true hle), e2, if_pos ⟨⟨h1, h2⟩, c⟩]
        exact ⟨_, rfl, by rw [l2]⟩
      · have hle : ¬ (t.size : Int) ≤ w := by
          have := p2 (by rw [← hj]; exact c)
          omega
        rw [if_neg (by simpa using hle), if_neg (fun h => c h.2)]
        exact ⟨_, rfl, by rw [hn]⟩
    · rw [if_neg (by simpa using h2), if_neg (fun h => h2 h.1.2)]
      exact ⟨_, rfl, by rw [hn]⟩
  · rw [if_neg (by simpa using h1), if_neg (fun h => h1 h.1.1)]
    exact ⟨_, rfl, by rw [hn]⟩

theorem FnExactPutOct : laws_FnExactPutOct.Pure := by
  intro n w _ _
  obtain ⟨r1, e1, l1⟩ := spec_putOct n w 101 (by decide)
  obtain ⟨r2, e2, l2⟩ := impl_putOct n w
  have hh : (r2.1.toList, r2.2) = (r1.1.toList, r1.2) := l2.trans l1.symm
  refine ⟨101, ?_⟩
  unfold laws_FnExactPutOct.f
  rw [e1, e2]
  simp only [Option.bind_some]
  rw [if_pos (Prod.mk.inj hh).1, (Prod.mk.inj hh).2]
  simp

end Go.Proofs.YtmdmhcganiaogaaDoor.Pure
