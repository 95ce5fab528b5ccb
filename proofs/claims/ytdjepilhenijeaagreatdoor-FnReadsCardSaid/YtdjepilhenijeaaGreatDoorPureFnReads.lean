/-
The pure statement of the law FnReads (numbers, byte strings and lists; no Go and no memory): the printed law's function answers true. Conditions: those of the printed statement (each string at most 2^47 - 4096 bytes, each number of its kind).
-/
import Derived.Test.YtdjepilhenijeaaGreatDoorPFnReadsx7
import Derived.Test.YtdjepilhenijeaaGreatDoorCore
namespace Go.Proofs.YtdjepilhenijeaaGreatDoor.Pure
open Go.RowKit Go.Proofs.YtdjepilhenijeaaGreatDoor.PFnReads Go.Proofs.YtdjepilhenijeaaGreatDoorW.PrintWords Go.Proofs.YtdjepilhenijeaaGreatDoorW.PrintLast Go.Proofs.YtdjepilhenijeaaGreatDoor.Core
set_option linter.unusedVariables false
set_option linter.unusedSimpArgs false

/-- A cursor's place is one of its bytes, or behind them. -/
def St (b : List Int) (i : Int) : Prop := 0 ≤ i ∧ i ≤ (b.length : Int)
theorem byte_ok (b : List Int) (hb : b.length ≤ 140737488351232) (i h : Int) (hi : St b i) : ∃ x i' h', spec_l01Byte.f b i h = some (x, i', h') ∧ (0 ≤ x ∧ x ≤ 255) ∧ St b i' := by
  unfold St at hi
  have m : ∀ z : Int, Go.bits .and .i64 z 255 = z % 256 := fun z => bits_and_mask z 8 (by decide)
  unfold spec_l01Byte.f
  by_cases h1 : i < (b.length : Int)
  · rw [if_pos h1, if_pos hi.1, w64 (n := i + 1) (by omega) (by omega)]
    refine ⟨_, _, _, rfl, ?_, ⟨by omega, by omega⟩⟩
    rw [m]
    omega
  · rw [if_neg h1]
    refine ⟨_, _, _, rfl, ?_, hi⟩
    rw [m]
    omega
theorem below_ok (b : List Int) (hb : b.length ≤ 140737488351232) (i h n : Int) (hn : n ≤ 9223372036854775807) (hi : St b i) : ∃ x i' h', spec_l01Below.f b i h n = some (x, i', h') ∧ (0 ≤ x ∧ (0 < n → x < n)) ∧ St b i' := by
  unfold spec_l01Below.f
  by_cases h0 : n ≤ 0
  · rw [if_pos h0]
    exact ⟨_, _, _, rfl, ⟨by omega, by omega⟩, hi⟩
  · rw [if_neg h0]
    obtain ⟨x1, i1, h1, e1, b1, s1⟩ := byte_ok b hb i h hi
    rw [e1]
    simp only [Option.bind_some]
    by_cases h2 : n ≤ 256
    · rw [if_pos h2, if_neg (by omega)]
      refine ⟨_, _, _, rfl, ?_, s1⟩
      rw [Int.tmod_eq_emod_of_nonneg b1.1]
      exact ⟨Int.emod_nonneg _ (by omega), fun _ => Int.emod_lt_of_pos _ (by omega)⟩
    · rw [if_neg h2]
      obtain ⟨x2, i2, h2', e2, b2, s2⟩ := byte_ok b hb i1 h1 s1
      obtain ⟨x3, i3, h3, e3, b3, s3⟩ := byte_ok b hb i2 h2' s2
      obtain ⟨x4, i4, h4, e4, b4, s4⟩ := byte_ok b hb i3 h3 s3
      rw [e2]
      simp only [Option.bind_some]
      rw [e3]
      simp only [Option.bind_some]
      rw [e4]
      simp only [Option.bind_some]
      rw [if_neg (by omega)]
      refine ⟨_, _, _, rfl, ?_, s4⟩
      have w1 : wrap64 (x1 * 16777216) = x1 * 16777216 := w64 (by omega) (by omega)
      have w2 : wrap64 (x2 * 65536) = x2 * 65536 := w64 (by omega) (by omega)
      have w3 : wrap64 (x3 * 256) = x3 * 256 := w64 (by omega) (by omega)
      have w4 : wrap64 (x1 * 16777216 + x2 * 65536) = x1 * 16777216 + x2 * 65536 := w64 (by omega) (by omega)
      have w5 : wrap64 (x1 * 16777216 + x2 * 65536 + x3 * 256) = x1 * 16777216 + x2 * 65536 + x3 * 256 := w64 (by omega) (by omega)
      have w6 : wrap64 (x1 * 16777216 + x2 * 65536 + x3 * 256 + x4) = x1 * 16777216 + x2 * 65536 + x3 * 256 + x4 := w64 (by omega) (by omega)
      rw [w1, w2, w3, w4, w5, w6, Int.tmod_eq_emod_of_nonneg (by omega)]
      exact ⟨Int.emod_nonneg _ (by omega), fun _ => Int.emod_lt_of_pos _ (by omega)⟩
theorem rd_mem (l : List Int) (j : Int) (h0 : 0 ≤ j) (h1 : j < (l.length : Int)) : rd l j ∈ l := by
  unfold rd
  rw [List.getD_eq_getElem?_getD, List.getElem?_eq_getElem (by omega)]
  exact List.getElem_mem _
theorem pickInt_ok (b : List Int) (hb : b.length ≤ 140737488351232) (i h : Int) (l : List Int) (hl : 0 < l.length) (hl2 : l.length ≤ 9223372036854775807) (hi : St b i) : ∃ x i' h', spec_l01PickInt.f b i h l = some (x, i', h') ∧ x ∈ l ∧ St b i' := by
  obtain ⟨x, i', h', e, r, s⟩ := below_ok b hb i h (l.length : Int) (by omega) hi
  unfold spec_l01PickInt.f
  rw [e]
  simp only [Option.bind_some]
  have := r.2 (by omega)
  rw [if_pos r.1, if_pos this]
  exact ⟨_, _, _, rfl, rd_mem l x r.1 this, s⟩
theorem new_loop (b : List Int) (_hb : b.length ≤ 140737488351232) : ∀ (d k : Nat) (i h : Int), 0 ≤ i → (b.length : Int) - i ≤ d → d < k → ∃ h', spec_l01New.l0 k b h i = some (b, 0, h') := by
  intro d
  induction d with
  | zero =>
    intro k i h h0 hd hk
    obtain ⟨k, rfl⟩ : ∃ m, k = m + 1 := ⟨k - 1, by omega⟩
    simp only [spec_l01New.l0]
    rw [if_neg (by omega)]
    exact ⟨_, rfl⟩
  | succ d ih =>
    intro k i h h0 hd hk
    obtain ⟨k, rfl⟩ : ∃ m, k = m + 1 := ⟨k - 1, by omega⟩
    simp only [spec_l01New.l0]
    by_cases h1 : i < (b.length : Int)
    · rw [if_pos h1]
      by_cases h2 : i < 4000
      · rw [if_pos h2, if_pos h0, w64 (n := i + 1) (by omega) (by omega)]
        exact ih k (i + 1) _ (by omega) (by omega) (by omega)
      · rw [if_neg h2]
        exact ⟨_, rfl⟩
    · rw [if_neg h1]
      exact ⟨_, rfl⟩
theorem new_ok (b : List Int) (hb : b.length ≤ 140737488351232) (k : Nat) (hk : b.length < k) : ∃ h', spec_l01New.f k b = some (b, 0, h') := by
  unfold spec_l01New.f
  exact new_loop b hb b.length k 0 _ (by omega) (by omega) hk
theorem st0 (b : List Int) : St b 0 := ⟨by omega, by omega⟩

theorem rdB_mem (l : List ByteArray) (j : Int) (h0 : 0 ≤ j) (h1 : j < (l.length : Int)) : rdOf ByteArray.empty l j ∈ l := by
  unfold rdOf
  rw [List.getD_eq_getElem?_getD, List.getElem?_eq_getElem (by omega)]
  exact List.getElem_mem _
theorem pick_ok (b : List Int) (hb : b.length ≤ 140737488351232) (i h : Int) (l : List ByteArray) (B : Nat) (hl : 0 < l.length) (hl2 : l.length ≤ 9223372036854775807) (hB : ∀ x ∈ l, x.size ≤ B) (hi : St b i) : ∃ x i' h', spec_l01Pick.f b i h l = some (x, i', h') ∧ x.size ≤ B ∧ St b i' := by
  obtain ⟨x, i', h', e, r, s⟩ := below_ok b hb i h (l.length : Int) (by omega) hi
  unfold spec_l01Pick.f
  rw [e]
  simp only [Option.bind_some]
  have := r.2 (by omega)
  rw [if_pos r.1, if_pos this]
  exact ⟨_, _, _, rfl, hB _ (rdB_mem l x r.1 this), s⟩

theorem num_ok (b : List Int) (hb : b.length ≤ 140737488351232) (i h : Int) (hi : St b i) : ∃ x i' h', spec_l01Num.f b i h = some (x, i', h') ∧ (-1 ≤ x ∧ x ≤ 9007199254740992) ∧ St b i' := by
  unfold spec_l01Num.f
  obtain ⟨x1, i1, h1, e1, r1, s1⟩ := below_ok b hb i h 100000 (by omega) hi
  rw [e1]
  simp only [Option.bind_some]
  obtain ⟨x2, i2, h2, e2, r2, s2⟩ := below_ok b hb i1 h1 1000 (by omega) s1
  rw [e2]
  simp only [Option.bind_some]
  obtain ⟨x3, i3, h3, e3, r3, s3⟩ := pickInt_ok b hb i2 h2 [0, 1, 7, 8, 255, 256, 4095, 65535, 65536, 2097151, 2097152, 4294967295, 4294967296, 9007199254740991, 9007199254740992, (-1), x1, x2] (by simp) (by simp) s2
  rw [e3]
  refine ⟨_, _, _, rfl, ?_, s3⟩
  have a1 := r1.2 (by omega)
  have a2 := r2.2 (by omega)
  simp only [List.mem_cons, List.not_mem_nil, or_false] at r3
  omega

theorem wide_ok (b : List Int) (hb : b.length ≤ 140737488351232) (i h : Int) (hi : St b i) : ∃ x i' h', spec_l01Wide.f b i h = some (x, i', h') ∧ (-1 ≤ x ∧ x ≤ 21) ∧ St b i' := by
  obtain ⟨x, i', h', e, hm, s⟩ := pickInt_ok b hb i h [1, 6, 7, 8, 10, 11, 12, 20, 21, 0, (-1), 2] (by decide) (by decide) hi
  unfold spec_l01Wide.f
  rw [e]
  refine ⟨_, _, _, rfl, ?_, s⟩
  simp only [List.mem_cons, List.not_mem_nil, or_false] at hm
  omega
theorem bind_of {α β : Type} {x : Option α} {a : α} (h : x = some a) (f : α → Option β) : x.bind f = f a := by rw [h]; rfl
theorem numWide (b : List Int) (hb : b.length ≤ 140737488351232) (k : Nat) (hk : b.length < k) : ∃ h0 n i1 h1 w i2 h2, spec_l01New.f k b = some (b, 0, h0) ∧ spec_l01Num.f b 0 h0 = some (n, i1, h1) ∧ spec_l01Wide.f b i1 h1 = some (w, i2, h2) ∧ (-1 ≤ n ∧ n ≤ 9007199254740992) ∧ (-1 ≤ w ∧ w ≤ 21) ∧ St b i1 ∧ St b i2 := by
  obtain ⟨h0, e0⟩ := new_ok b hb k hk
  obtain ⟨n, i1, h1, e1, r1, s1⟩ := num_ok b hb 0 h0 (st0 b)
  obtain ⟨w, i2, h2, e2, r2, s2⟩ := wide_ok b hb i1 h1 s1
  exact ⟨h0, n, i1, h1, w, i2, h2, e0, e1, e2, r1, r2, s1, s2⟩

theorem bent_ok (b : List Int) (hb : b.length ≤ 140737488351232) (i h : Int) (s : ByteArray) (hs : s.size ≤ 1000) (hi : St b i) : ∃ x i' h', spec_l01Bent.f b i h s = some (x, i', h') ∧ x.size ≤ 1010 ∧ St b i' := by
  have ew : wrap64 ((s.size : Int) + 1) = (s.size : Int) + 1 := w64 (by omega) (by omega)
  obtain ⟨m, i1, h1, e1, r1, s1⟩ := below_ok b hb i h ((s.size : Int) + 1) (by omega) hi
  obtain ⟨q, i2, h2, e2, r2, s2⟩ := below_ok b hb i1 h1 8 (by decide) s1
  have m1 := r1.2 (by omega)
  have p0 : 0 ≤ m := r1.1
  have p1 : m ≤ (s.size : Int) := by omega
  have z1 : (s.extract 0 m.toNat).size ≤ 1000 := by rw [ByteArray.size_extract]; omega
  have z2 : (s.extract m.toNat s.size).size ≤ 1000 := by rw [ByteArray.size_extract]; omega
  have z3 : (s.extract 0 m.toNat).size + (s.extract m.toNat s.size).size ≤ 1000 := by rw [ByteArray.size_extract, ByteArray.size_extract]; omega
  unfold spec_l01Bent.f
  rw [ew, bind_of e1, bind_of e2]
  by_cases c0 : q = 0
  · rw [if_pos c0, if_pos p0, if_pos p1]
    exact ⟨s.extract 0 m.toNat, _, _, rfl, by omega, s2⟩
  rw [if_neg c0]
  by_cases c1 : q = 1
  · obtain ⟨x, i3, h3, e3, l3, s3⟩ := pick_ok b hb i2 h2 [(⟨#[48]⟩ : ByteArray), (⟨#[32]⟩ : ByteArray), (⟨#[0]⟩ : ByteArray), (⟨#[56]⟩ : ByteArray), (⟨#[120]⟩ : ByteArray), (⟨#[255]⟩ : ByteArray)] 1 (by simp) (by simp) (by
      intro x hx
      simp only [List.mem_cons, List.not_mem_nil, or_false] at hx
      rcases hx with rfl | rfl | rfl | rfl | rfl | rfl <;> decide) s2
    have y1 : (s.extract 0 m.toNat).size + x.size ≤ 9223372036854775807 := by omega
    have y2 : ((s.extract 0 m.toNat) ++ x).size + (s.extract m.toNat s.size).size ≤ 9223372036854775807 := by rw [ByteArray.size_append]; omega
    rw [if_pos c1, if_pos p0, if_pos p1, bind_of e3, if_pos y1, if_pos y2]
    exact ⟨((s.extract 0 m.toNat) ++ x) ++ (s.extract m.toNat s.size), _, _, rfl, by rw [ByteArray.size_append, ByteArray.size_append]; omega, s3⟩
  rw [if_neg c1]
  by_cases c2 : q = 2
  · rw [if_pos c2]
    by_cases c3 : m < (s.size : Int)
    · obtain ⟨x, i3, h3, e3, l3, s3⟩ := pick_ok b hb i2 h2 [(⟨#[48]⟩ : ByteArray), (⟨#[32]⟩ : ByteArray), (⟨#[0]⟩ : ByteArray), (⟨#[57]⟩ : ByteArray), (⟨#[103]⟩ : ByteArray)] 1 (by simp) (by simp) (by
        intro x hx
        simp only [List.mem_cons, List.not_mem_nil, or_false] at hx
        rcases hx with rfl | rfl | rfl | rfl | rfl <;> decide) s2
      have ew2 : wrap64 (m + 1) = m + 1 := w64 (by omega) (by omega)
      have z4 : (s.extract (m + 1).toNat s.size).size ≤ 1000 := by rw [ByteArray.size_extract]; omega
      have z5 : (s.extract 0 m.toNat).size + (s.extract (m + 1).toNat s.size).size ≤ 1000 := by rw [ByteArray.size_extract, ByteArray.size_extract]; omega
      have y1 : (s.extract 0 m.toNat).size + x.size ≤ 9223372036854775807 := by omega
      have y3 : 0 ≤ m + 1 := by omega
      have y4 : m + 1 ≤ (s.size : Int) := by omega
      have y2 : ((s.extract 0 m.toNat) ++ x).size + (s.extract (m + 1).toNat s.size).size ≤ 9223372036854775807 := by rw [ByteArray.size_append]; omega
      rw [if_pos c3, if_pos p0, if_pos p1, bind_of e3, ew2, if_pos y1, if_pos y3, if_pos y4, if_pos y2]
      exact ⟨((s.extract 0 m.toNat) ++ x) ++ (s.extract (m + 1).toNat s.size), _, _, rfl, by rw [ByteArray.size_append, ByteArray.size_append]; omega, s3⟩
    · rw [if_neg c3]
      exact ⟨_, _, _, rfl, by omega, s2⟩
  · rw [if_neg c2]
    exact ⟨_, _, _, rfl, by omega, s2⟩

/-! ### The digits of a number in a base -/
def hexD (d : Nat) : UInt8 := ([48, 49, 50, 51, 52, 53, 54, 55, 56, 57, 97, 98, 99, 100, 101, 102] : List UInt8).getD d 0
def digB (b : Nat) (u : Nat) : List UInt8 := if h : u = 0 ∨ b ≤ 1 then [] else digB b (u / b) ++ [hexD (u % b)]
termination_by u
decreasing_by exact Nat.div_lt_self (by omega) (by omega)
theorem digB_zero (b : Nat) : digB b 0 = [] := by rw [digB, dif_pos (Or.inl rfl)]
theorem digB_step (b u : Nat) (hb : 2 ≤ b) (h : 0 < u) : digB b u = digB b (u / b) ++ [hexD (u % b)] := by
  rw [digB, dif_neg (by omega)]
def numB (b u : Nat) : List UInt8 := if u = 0 then [48] else digB b u
theorem hexD_dec (d : Nat) (h : d < 10) : hexD d = UInt8.ofNat (48 + d) := by
  have : d = 0 ∨ d = 1 ∨ d = 2 ∨ d = 3 ∨ d = 4 ∨ d = 5 ∨ d = 6 ∨ d = 7 ∨ d = 8 ∨ d = 9 := by omega
  rcases this with rfl | rfl | rfl | rfl | rfl | rfl | rfl | rfl | rfl | rfl <;> rfl

theorem rev_ind {P : List UInt8 → Prop} (h0 : P []) (h1 : ∀ l c, P l → P (l ++ [c])) (l : List UInt8) : P l := by
  have h : ∀ m : List UInt8, P m.reverse := fun m => by
    induction m with
    | nil => exact h0
    | cons c m ih =>
      rw [List.reverse_cons]
      exact h1 _ _ ih
  have := h l.reverse
  rwa [List.reverse_reverse] at this

/-! ### Digits in a field of a width, and their value -/
def padB (b : Nat) : Nat → Nat → List UInt8
  | 0, _ => []
  | w + 1, n => padB b w (n / b) ++ [hexD (n % b)]
/-- What a byte is worth as a digit; -1 where it is none. -/
def dvI (c : UInt8) : Int := if 48 ≤ c.toNat ∧ c.toNat ≤ 57 then (c.toNat : Int) - 48 else if 97 ≤ c.toNat ∧ c.toNat ≤ 102 then (c.toNat : Int) - 87 else -1
def digOk (b : Nat) (c : UInt8) : Bool := decide (0 ≤ dvI c) && decide (dvI c < (b : Int))
def valM (b : Nat) : Nat → List UInt8 → Nat
  | acc, [] => acc
  | acc, c :: t => valM b (acc * b + (dvI c).toNat) t
theorem dv_hex (d : Nat) (h : d < 16) : dvI (hexD d) = (d : Int) := by
  have : d = 0 ∨ d = 1 ∨ d = 2 ∨ d = 3 ∨ d = 4 ∨ d = 5 ∨ d = 6 ∨ d = 7 ∨ d = 8 ∨ d = 9 ∨ d = 10 ∨ d = 11 ∨ d = 12 ∨ d = 13 ∨ d = 14 ∨ d = 15 := by omega
  rcases this with rfl | rfl | rfl | rfl | rfl | rfl | rfl | rfl | rfl | rfl | rfl | rfl | rfl | rfl | rfl | rfl <;> decide
theorem dv_lt (c : UInt8) : dvI c < 16 := by
  unfold dvI
  split
  · omega
  · split <;> omega
theorem hex_dv_fin : ∀ n : Fin 256, 0 ≤ dvI (UInt8.ofNat n.val) → hexD (dvI (UInt8.ofNat n.val)).toNat = UInt8.ofNat n.val := by decide +kernel
theorem hex_dv (c : UInt8) (h : 0 ≤ dvI c) : hexD (dvI c).toNat = c := by
  have := hex_dv_fin ⟨c.toNat, c.toNat_lt⟩
  simp only [UInt8.ofNat_toNat] at this
  exact this h
theorem padB_length (b : Nat) : ∀ w n, (padB b w n).length = w
  | 0, n => rfl
  | w + 1, n => by simp [padB, padB_length b w]
theorem valM_append (b : Nat) : ∀ (l1 l2 : List UInt8) (acc : Nat), valM b acc (l1 ++ l2) = valM b (valM b acc l1) l2
  | [], l2, acc => rfl
  | c :: l1, l2, acc => by simp only [List.cons_append, valM]; exact valM_append b l1 l2 _
theorem valM_padB (b : Nat) (hb : 2 ≤ b) (hb2 : b ≤ 16) : ∀ w n, n < b ^ w → valM b 0 (padB b w n) = n
  | 0, n, h => by
    have : n = 0 := by simpa using h
    subst this
    rfl
  | w + 1, n, h => by
    have hm : n % b < b := Nat.mod_lt _ (by omega)
    have hq : n / b < b ^ w := Nat.div_lt_of_lt_mul (by rw [Nat.mul_comm, ← Nat.pow_succ]; exact h)
    rw [padB, valM_append, valM_padB b hb hb2 w _ hq]
    simp only [valM]
    rw [dv_hex _ (by omega), Int.toNat_natCast, Nat.mul_comm]
    exact Nat.div_add_mod n b
theorem padB_ok (b : Nat) (hb : 2 ≤ b) (hb2 : b ≤ 16) : ∀ w n, ∀ c ∈ padB b w n, digOk b c = true
  | 0, n, c, h => by simp [padB] at h
  | w + 1, n, c, h => by
    rw [padB, List.mem_append, List.mem_singleton] at h
    rcases h with h | h
    · exact padB_ok b hb hb2 w _ c h
    · have hm : n % b < b := Nat.mod_lt _ (by omega)
      rw [h]
      unfold digOk
      rw [dv_hex _ (by omega), decide_eq_true (by omega), decide_eq_true (by omega)]
      rfl
theorem padB_valM (b : Nat) (hb : 2 ≤ b) : ∀ l : List UInt8, (∀ c ∈ l, digOk b c = true) → padB b l.length (valM b 0 l) = l ∧ valM b 0 l < b ^ l.length := by
  intro l
  induction l using rev_ind with
  | h0 => intro _; exact ⟨rfl, by simp [valM]⟩
  | h1 l c ih =>
    intro h
    obtain ⟨h1, h2⟩ := ih (fun x hx => h x (List.mem_append_left _ hx))
    have hc := h c (by simp)
    unfold digOk at hc
    simp only [Bool.and_eq_true, decide_eq_true_eq] at hc
    have hd : (dvI c).toNat < b := by omega
    have e1 : (valM b 0 l * b + (dvI c).toNat) / b = valM b 0 l := by
      rw [Nat.mul_comm, Nat.mul_add_div (by omega), Nat.div_eq_of_lt hd, Nat.add_zero]
    have e2 : (valM b 0 l * b + (dvI c).toNat) % b = (dvI c).toNat := by
      rw [Nat.mul_comm, Nat.mul_add_mod, Nat.mod_eq_of_lt hd]
    rw [valM_append]
    simp only [valM, List.length_append, List.length_cons, List.length_nil, padB, e1, e2]
    rw [h1, hex_dv c hc.1]
    refine ⟨rfl, ?_⟩
    rw [Nat.pow_succ]
    have : (valM b 0 l + 1) * b ≤ b ^ l.length * b := Nat.mul_le_mul_right _ h2
    rw [Nat.add_mul, Nat.one_mul] at this
    omega
theorem padB_zero (b : Nat) : ∀ w, padB b w 0 = List.replicate w 48
  | 0 => rfl
  | w + 1 => by
    rw [padB, Nat.zero_div, Nat.zero_mod, padB_zero b w, List.replicate_succ']
    rfl
theorem numB_less (b n : Nat) (hb : 2 ≤ b) (h : n < b) : numB b n = [hexD n] := by
  unfold numB
  by_cases h0 : n = 0
  · rw [if_pos h0, h0]
    rfl
  · rw [if_neg h0, digB_step b n hb (by omega), Nat.div_eq_of_lt h, digB_zero, Nat.mod_eq_of_lt h]
    rfl
theorem numB_more (b n : Nat) (hb : 2 ≤ b) (h : ¬ n < b) : numB b n = numB b (n / b) ++ [hexD (n % b)] := by
  have hq : 0 < n / b := Nat.div_pos (by omega) (by omega)
  unfold numB
  rw [if_neg (by omega), if_neg (by omega), digB_step b n hb (by omega)]
/-- The number with zeros ahead of it is the field. -/
theorem numB_pad (b : Nat) (hb : 2 ≤ b) : ∀ w n, (n < b ^ (w + 1) → (numB b n).length ≤ w + 1 ∧ List.replicate (w + 1 - (numB b n).length) 48 ++ numB b n = padB b (w + 1) n) ∧ (¬ n < b ^ (w + 1) → w + 1 < (numB b n).length)
  | 0, n => by
    rw [Nat.zero_add, Nat.pow_one]
    refine ⟨fun h => ?_, fun h => ?_⟩
    · rw [numB_less b n hb h]
      exact ⟨Nat.le_refl _, by simp [padB, Nat.mod_eq_of_lt h]⟩
    · rw [numB_more b n hb h, List.length_append]
      have : 0 < (numB b (n / b)).length := by
        by_cases c : n / b < b
        · rw [numB_less b _ hb c]; simp
        · rw [numB_more b _ hb c]; simp
      simp only [List.length_cons, List.length_nil]
      omega
  | w + 1, n => by
    obtain ⟨i1, i2⟩ := numB_pad b hb w (n / b)
    have hdiv : n / b < b ^ (w + 1) ↔ n < b ^ (w + 1 + 1) := by
      rw [Nat.div_lt_iff_lt_mul (by omega), ← Nat.pow_succ]
    by_cases c : n < b
    · have hlt : n < b ^ (w + 1 + 1) := Nat.lt_of_lt_of_le c (by
        have : b ^ 1 ≤ b ^ (w + 1 + 1) := Nat.pow_le_pow_right (by omega) (by omega)
        rwa [Nat.pow_one] at this)
      refine ⟨fun _ => ?_, fun h => absurd hlt h⟩
      rw [numB_less b n hb c, padB, Nat.div_eq_of_lt c, padB_zero, Nat.mod_eq_of_lt c]
      exact ⟨by simp, by simp⟩
    · rw [numB_more b n hb c]
      refine ⟨fun h => ?_, fun h => ?_⟩
      · obtain ⟨j1, j2⟩ := i1 (hdiv.2 h)
        rw [padB, ← j2, List.length_append]
        simp only [List.length_cons, List.length_nil]
        refine ⟨by omega, ?_⟩
        rw [show w + 1 + 1 - ((numB b (n / b)).length + (0 + 1)) = w + 1 - (numB b (n / b)).length by omega, List.append_assoc]
      · have := i2 (fun h2 => h (hdiv.1 h2))
        rw [List.length_append]
        simp only [List.length_cons, List.length_nil]
        omega
/-- A number in a field of so many bytes, zeros ahead of it. -/
def putB (b : Nat) (n w : Int) : List UInt8 × Bool := if ((0 ≤ n ∧ n ≤ 9007199254740991) ∧ (1 ≤ w ∧ w ≤ 20)) ∧ n.toNat < b ^ w.toNat then (padB b w.toNat n.toNat, true) else ([], false)
/-- The digits' value, of so many digits at most. -/
def getB (b lo hi : Nat) (l : List UInt8) : Int × Bool := if (lo ≤ l.length ∧ l.length ≤ hi) ∧ (∀ c ∈ l, digOk b c = true) ∧ valM b 0 l ≤ 9007199254740991 then ((valM b 0 l : Int), true) else (0, false)
theorem get_put (b : Nat) (hb : 2 ≤ b) (hb2 : b ≤ 16) (n w : Int) (lo hi : Nat) (h : (putB b n w).2 = true) (hlo : (lo : Int) ≤ w) (hhi : w ≤ (hi : Int)) : getB b lo hi (putB b n w).1 = (n, true) ∧ ((putB b n w).1.length : Int) = w := by
  unfold putB at h ⊢
  by_cases c : ((0 ≤ n ∧ n ≤ 9007199254740991) ∧ (1 ≤ w ∧ w ≤ 20)) ∧ n.toNat < b ^ w.toNat
  · rw [if_pos c]
    obtain ⟨⟨c1, c2⟩, c3⟩ := c
    have hv := valM_padB b hb hb2 w.toNat n.toNat c3
    have hl := padB_length b w.toNat n.toNat
    refine ⟨?_, by rw [hl]; omega⟩
    unfold getB
    rw [if_pos ⟨by rw [hl]; omega, padB_ok b hb hb2 _ _, by rw [hv]; omega⟩, hv]
    congr 1
    omega
  · rw [if_neg c] at h
    cases h
theorem put_get (b : Nat) (hb : 2 ≤ b) (l : List UInt8) (lo hi : Nat) (hlo : 1 ≤ lo) (hhi : hi ≤ 20) (h : (getB b lo hi l).2 = true) : putB b (getB b lo hi l).1 (l.length : Int) = (l, true) := by
  unfold getB at h ⊢
  by_cases c : (lo ≤ l.length ∧ l.length ≤ hi) ∧ (∀ c ∈ l, digOk b c = true) ∧ valM b 0 l ≤ 9007199254740991
  · rw [if_pos c]
    obtain ⟨c1, c2, c3⟩ := c
    obtain ⟨h1, h2⟩ := padB_valM b hb l c2
    unfold putB
    simp only [Int.toNat_natCast]
    rw [if_pos ⟨⟨by omega, by omega⟩, h2⟩, h1]
  · rw [if_neg c] at h
    cases h

theorem within_eq (a b c : Int) : impl_within.f a b c = some (decide (b ≤ a ∧ a ≤ c)) := by
  unfold impl_within.f
  by_cases h : b ≤ a
  · rw [if_pos h]; simp [h]
  · rw [if_neg h]; simp [h]

theorem in_eq (a b c : Int) : spec_l01In.f a b c = some (decide (b ≤ a ∧ a ≤ c)) := by
  unfold spec_l01In.f
  by_cases h : b ≤ a
  · rw [if_pos h]; simp [h]
  · rw [if_neg h]; simp [h]

theorem hex_at (d : Nat) (h : d < 16) : ((⟨#[48, 49, 50, 51, 52, 53, 54, 55, 56, 57, 97, 98, 99, 100, 101, 102]⟩ : ByteArray).extract d (d + 1)).toList = [hexD d] := by
  rw [tl_extract, tl]
  have : d = 0 ∨ d = 1 ∨ d = 2 ∨ d = 3 ∨ d = 4 ∨ d = 5 ∨ d = 6 ∨ d = 7 ∨ d = 8 ∨ d = 9 ∨ d = 10 ∨ d = 11 ∨ d = 12 ∨ d = 13 ∨ d = 14 ∨ d = 15 := by omega
  rcases this with rfl | rfl | rfl | rfl | rfl | rfl | rfl | rfl | rfl | rfl | rfl | rfl | rfl | rfl | rfl | rfl <;> rfl
theorem spec_digits_loop (b : Nat) (hb : 2 ≤ b) (hb2 : b ≤ 16) : ∀ (j u k : Nat) (acc : ByteArray), j ≤ 60 → u < 2 ^ j → u ≤ 9007199254740991 → j < k → acc.size + j ≤ 1000 →
    ∃ r, spec_l01Digits.l0 k (u : Int) (b : Int) acc = some r ∧ r.toList = digB b u ++ acc.toList := by
  intro j
  induction j with
  | zero =>
    intro u k acc hj hu hm hk ha
    obtain ⟨k, rfl⟩ : ∃ m, k = m + 1 := ⟨k - 1, by omega⟩
    obtain rfl : u = 0 := by simpa using hu
    unfold spec_l01Digits.l0
    rw [if_neg (by decide)]
    exact ⟨acc, rfl, by rw [digB_zero]; rfl⟩
  | succ j ih =>
    intro u k acc hj hu hm hk ha
    obtain ⟨k, rfl⟩ : ∃ m, k = m + 1 := ⟨k - 1, by omega⟩
    unfold spec_l01Digits.l0
    by_cases h0 : u = 0
    · subst h0
      rw [if_neg (by decide)]
      exact ⟨acc, rfl, by rw [digB_zero]; rfl⟩
    · have hmod : u % b < b := Nat.mod_lt _ (by omega)
      have hd := hex_at (u % b) (by omega)
      have hs : ((⟨#[48, 49, 50, 51, 52, 53, 54, 55, 56, 57, 97, 98, 99, 100, 101, 102]⟩ : ByteArray).extract (u % b) (u % b + 1)).size = 1 := by rw [← tl_length, hd]; rfl
      have hq : u / b < 2 ^ j := by
        rw [Nat.pow_succ] at hu
        exact Nat.div_lt_of_lt_mul (by
          have : 2 ^ j * 2 ≤ b * 2 ^ j := by rw [Nat.mul_comm]; exact Nat.mul_le_mul_right _ hb
          omega)
      have hq2 : u / b ≤ u := Nat.div_le_self _ _
      have t1 : Int.tmod (u : Int) (b : Int) = ((u % b : Nat) : Int) := by
        rw [Int.tmod_eq_emod_of_nonneg (by omega), Int.natCast_emod]
      have t2 : Int.tdiv (u : Int) (b : Int) = ((u / b : Nat) : Int) := by
        rw [Int.tdiv_eq_ediv_of_nonneg (by omega), Int.natCast_ediv]
      have hstep := digB_step b u hb (by omega)
      rw [t1, t2, hstep]
      clear t1 t2 hstep
      generalize u / b = q at *
      generalize u % b = m at *
      rw [w64 (n := (m : Int) + 1) (by omega) (by omega), w64 (n := (q : Int)) (by omega) (by omega)]
      rw [show ((m : Int) + 1).toNat = m + 1 by omega, Int.toNat_natCast]
      rw [if_pos (by omega), if_neg (by omega), if_pos (by omega), if_pos (by omega), if_pos (by omega), if_pos (by rw [hs]; omega)]
      obtain ⟨r, e, l⟩ := ih q k (((⟨#[48, 49, 50, 51, 52, 53, 54, 55, 56, 57, 97, 98, 99, 100, 101, 102]⟩ : ByteArray).extract m (m + 1)) ++ acc) (by omega) hq (by omega) (by omega) (by rw [ByteArray.size_append, hs]; omega)
      refine ⟨r, e, ?_⟩
      rw [l, tl_append, hd]
      simp
theorem spec_digits (b : Nat) (hb : 2 ≤ b) (hb2 : b ≤ 16) (n : Int) (h0 : 0 ≤ n) (h1 : n ≤ 9007199254740991) (k : Nat) (hk : 60 < k) : ∃ r, spec_l01Digits.f k n (b : Int) = some r ∧ r.toList = numB b n.toNat := by
  obtain ⟨u, rfl⟩ := Int.eq_ofNat_of_zero_le h0
  unfold spec_l01Digits.f numB
  rw [Int.toNat_natCast]
  by_cases hz : u = 0
  · rw [if_pos (by omega), if_pos hz]
    exact ⟨_, rfl, by rw [tl]⟩
  · rw [if_neg (by omega), if_neg hz]
    obtain ⟨r, e, l⟩ := spec_digits_loop b hb hb2 60 u k (⟨#[]⟩ : ByteArray) (by decide) (by omega) (by omega) hk (by decide)
    refine ⟨r, e, ?_⟩
    have hn : (⟨#[]⟩ : ByteArray).toList = [] := by rw [tl]
    rw [l, hn, List.append_nil]

theorem spec_ahead_loop (w : Int) (hw : w ≤ 20) : ∀ (d k : Nat) (s : ByteArray), (s.size : Int) + d = w → d < k → ∃ r, spec_l01Ahead.l0 k s w (⟨#[48]⟩ : ByteArray) = some r ∧ r.toList = List.replicate d 48 ++ s.toList := by
  intro d
  induction d with
  | zero =>
    intro k s hs hk
    obtain ⟨k, rfl⟩ : ∃ m, k = m + 1 := ⟨k - 1, by omega⟩
    have hn : ¬ (s.size : Int) < w := by omega
    simp only [spec_l01Ahead.l0]
    rw [if_neg hn]
    exact ⟨s, rfl, by simp⟩
  | succ d ih =>
    intro k s hs hk
    obtain ⟨k, rfl⟩ : ∃ m, k = m + 1 := ⟨k - 1, by omega⟩
    have e0 : (⟨#[48]⟩ : ByteArray).size = 1 := rfl
    have e1 : ((⟨#[48]⟩ : ByteArray) ++ s).size = s.size + 1 := by rw [ByteArray.size_append, e0]; omega
    have e2 : ((⟨#[48]⟩ : ByteArray) ++ s).toList = 48 :: s.toList := by rw [tl_append, tl (⟨#[48]⟩ : ByteArray)]; rfl
    have hp : (s.size : Int) < w := by omega
    have hq : (⟨#[48]⟩ : ByteArray).size + s.size ≤ 9223372036854775807 := by omega
    obtain ⟨r, e, l⟩ := ih k ((⟨#[48]⟩ : ByteArray) ++ s) (by omega) (by omega)
    simp only [spec_l01Ahead.l0]
    rw [if_pos hp, if_pos hq]
    refine ⟨r, e, ?_⟩
    rw [l, e2, List.replicate_succ']
    simp
theorem spec_ahead_long (w : Int) (s : ByteArray) (k : Nat) (hk : 0 < k) (h : w ≤ (s.size : Int)) : spec_l01Ahead.f k s w (⟨#[48]⟩ : ByteArray) = some s := by
  obtain ⟨k, rfl⟩ : ∃ m, k = m + 1 := ⟨k - 1, by omega⟩
  have hn : ¬ (s.size : Int) < w := by omega
  unfold spec_l01Ahead.f
  simp only [spec_l01Ahead.l0]
  rw [if_neg hn]
/-- A number's digits and zeros ahead of them. -/
theorem spec_field (b : Nat) (hb : 2 ≤ b) (hb2 : b ≤ 16) (n w : Int) (h0 : 0 ≤ n) (h1 : n ≤ 9007199254740991) (w0 : 1 ≤ w) (w1 : w ≤ 20) (k : Nat) (hk : 60 < k) :
    ∃ t r, spec_l01Digits.f k n (b : Int) = some t ∧ spec_l01Ahead.f k t w (⟨#[48]⟩ : ByteArray) = some r ∧ (n.toNat < b ^ w.toNat → r.toList = padB b w.toNat n.toNat) ∧ (¬ n.toNat < b ^ w.toNat → w < (r.size : Int)) := by
  obtain ⟨t, e, l⟩ := spec_digits b hb hb2 n h0 h1 k hk
  obtain ⟨j, hj⟩ : ∃ j : Nat, w.toNat = j + 1 := ⟨w.toNat - 1, by omega⟩
  obtain ⟨p1, p2⟩ := numB_pad b hb j n.toNat
  have hs : t.size = (numB b n.toNat).length := by rw [← l, tl_length]
  rw [hj]
  by_cases c : n.toNat < b ^ (j + 1)
  · obtain ⟨q1, q2⟩ := p1 c
    obtain ⟨r, e2, l2⟩ := spec_ahead_loop w w1 (j + 1 - (numB b n.toNat).length) k t (by omega) (by omega)
    refine ⟨t, r, e, e2, fun _ => ?_, fun h => absurd c h⟩
    rw [l2, l, q2]
  · have q := p2 c
    exact ⟨t, t, e, spec_ahead_long w t k (by omega) (by omega), fun h => absurd h c, fun _ => by omega⟩

theorem repeat_one (c : UInt8) : ∀ n : Nat, Lib.repeatL [c] n = List.replicate n c
  | 0 => rfl
  | n + 1 => by
    simp only [Lib.repeatL, repeat_one c n, List.replicate_succ]
    rfl
theorem lib_repeat (c : UInt8) (n : Int) (h0 : 0 ≤ n) (h1 : n ≤ 1048576) : ∃ r, strings_Repeat.f (⟨#[c]⟩ : ByteArray) n = some r ∧ r.toList = List.replicate n.toNat c := by
  have hs : (⟨#[c]⟩ : ByteArray).size = 1 := rfl
  unfold strings_Repeat.f
  rw [if_pos ⟨h0, by omega, by rw [hs]; omega⟩]
  refine ⟨_, rfl, ?_⟩
  rw [tl_mk]
  exact repeat_one c _

theorem dgt_hex (d : Nat) (h : d < 16) : dgt d = hexD d := by
  have : d = 0 ∨ d = 1 ∨ d = 2 ∨ d = 3 ∨ d = 4 ∨ d = 5 ∨ d = 6 ∨ d = 7 ∨ d = 8 ∨ d = 9 ∨ d = 10 ∨ d = 11 ∨ d = 12 ∨ d = 13 ∨ d = 14 ∨ d = 15 := by omega
  rcases this with rfl | rfl | rfl | rfl | rfl | rfl | rfl | rfl | rfl | rfl | rfl | rfl | rfl | rfl | rfl | rfl <;> decide
theorem fmt_num (b : Nat) (hb : 2 ≤ b) (hb2 : b ≤ 16) (u : Nat) : fmtL b u = numB b u := by
  induction u using Nat.strongRecOn with
  | _ u ih =>
    by_cases c : u < b
    · rw [fmtL_less b u c, numB_less b u hb c, dgt_hex u (by omega)]
    · have hm : u % b < b := Nat.mod_lt _ (by omega)
      rw [fmtL_more b u hb c, numB_more b u hb c, dgt_hex _ (by omega), ih (u / b) (Nat.div_lt_self (by omega) (by omega))]
theorem impl_inBase_b (b : Nat) (hb : b = 8 ∨ b = 16) (n : Int) (h0 : 0 ≤ n) (h1 : n ≤ 9007199254740991) : ∃ t, impl_inBase.f n (b : Int) = some t ∧ t.toList = numB b n.toNat := by
  have hn : ¬ ((b : Int) = 10 ∧ -9223372036854775808 ≤ n ∧ n ≤ 9223372036854775807) := by omega
  have hp : ((b : Int) = 8 ∨ (b : Int) = 16) ∧ 0 ≤ n ∧ n ≤ 9223372036854775807 := by omega
  unfold impl_inBase.f strconv_FormatInt.f
  rw [if_neg hn, if_pos hp]
  refine ⟨_, rfl, ?_⟩
  rw [tl_mk, Int.toNat_natCast, fmt_num b (by omega) (by omega)]
theorem impl_zeros_b (b : Nat) (hb : 2 ≤ b) (n w : Int) (w0 : 1 ≤ w) (w1 : w ≤ 20) (t : ByteArray) (l : t.toList = numB b n.toNat) (h : n.toNat < b ^ w.toNat) : ∃ r, impl_zeros.f t w = some r ∧ r.toList = padB b w.toNat n.toNat := by
  obtain ⟨j, hj⟩ : ∃ j : Nat, w.toNat = j + 1 := ⟨w.toNat - 1, by omega⟩
  rw [hj] at h ⊢
  obtain ⟨q1, q2⟩ := (numB_pad b hb j n.toNat).1 h
  have hs : t.size = (numB b n.toNat).length := by rw [← l, tl_length]
  obtain ⟨p, e2, l2⟩ := lib_repeat 48 (w - (t.size : Int)) (by omega) (by omega)
  have hp : p.size ≤ 20 := by rw [← tl_length, l2, List.length_replicate]; omega
  have hq : p.size + t.size ≤ 9223372036854775807 := by omega
  unfold impl_zeros.f
  rw [w64 (by omega) (by omega), e2]
  simp only [Option.bind_some]
  rw [if_pos hq]
  refine ⟨_, rfl, ?_⟩
  rw [tl_append, l2, l, ← q2]
  congr 2
  omega

theorem spec_putOct (n w : Int) (k : Nat) (hk : 100 < k) : ∃ r, spec_PutOct.f k n w = some r ∧ (r.1.toList, r.2) = putB 8 n w := by
  obtain ⟨k, rfl⟩ : ∃ m, k = m + 1 := ⟨k - 1, by omega⟩
  have hn : (⟨#[]⟩ : ByteArray).toList = [] := by rw [tl]
  have stay : spec_PutOct.j0 (k + 1) n w true = some ((⟨#[]⟩ : ByteArray), false) := by simp [spec_PutOct.j0]
  unfold spec_PutOct.f putB
  rw [in_eq, in_eq]
  simp only [Option.bind_some]
  by_cases h1 : 0 ≤ n ∧ n ≤ 9007199254740991
  · rw [if_pos (decide_eq_true h1)]
    by_cases h2 : 1 ≤ w ∧ w ≤ 20
    · rw [decide_eq_true h2]
      obtain ⟨t, r, e1, e2, p1, p2⟩ := spec_field 8 (by decide) (by decide) n w h1.1 h1.2 h2.1 h2.2 k (by omega)
      rw [show ((8 : Nat) : Int) = 8 from rfl] at e1
      simp only [spec_PutOct.j0]
      rw [if_neg (by decide), e1]
      simp only [Option.bind_some]
      rw [e2]
      simp only [Option.bind_some]
      by_cases c : n.toNat < 8 ^ w.toNat
      · have hr : (r.size : Int) = w := by rw [← tl_length, p1 c, padB_length]; omega
        have hg : ¬ (r.size : Int) > w := by omega
        rw [if_neg hg, if_pos ⟨⟨h1, h2⟩, c⟩]
        exact ⟨_, rfl, by rw [p1 c]⟩
      · have hg : (r.size : Int) > w := p2 c
        rw [if_pos hg, if_neg (fun h => c h.2)]
        exact ⟨_, rfl, by rw [hn]⟩
    · rw [decide_eq_false h2, if_neg (fun h => h2 h.1.2)]
      exact ⟨_, stay, by rw [hn]⟩
  · rw [if_neg (by simpa using h1), if_neg (fun h => h1 h.1.1)]
    exact ⟨_, stay, by rw [hn]⟩
theorem impl_putOct (n w : Int) : ∃ r, impl_PutOct.f n w = some r ∧ (r.1.toList, r.2) = putB 8 n w := by
  have hn : (⟨#[]⟩ : ByteArray).toList = [] := by rw [tl]
  unfold impl_PutOct.f impl_isField.f putB
  rw [within_eq, within_eq]
  simp only [Option.bind_some]
  by_cases h1 : 0 ≤ n ∧ n ≤ 9007199254740991
  · rw [if_pos (decide_eq_true h1)]
    by_cases h2 : 1 ≤ w ∧ w ≤ 20
    · rw [if_pos (decide_eq_true h2)]
      obtain ⟨t, e, l⟩ := impl_inBase_b 8 (Or.inl rfl) n h1.1 h1.2
      rw [show ((8 : Nat) : Int) = 8 from rfl] at e
      have hs : t.size = (numB 8 n.toNat).length := by rw [← l, tl_length]
      obtain ⟨j, hj⟩ : ∃ j : Nat, w.toNat = j + 1 := ⟨w.toNat - 1, by omega⟩
      obtain ⟨p1, p2⟩ := numB_pad 8 (by decide) j n.toNat
      rw [e]
      simp only [Option.bind_some]
      by_cases c : n.toNat < 8 ^ w.toNat
      · have hle : (t.size : Int) ≤ w := by
          have := (p1 (by rw [← hj]; exact c)).1
          omega
        obtain ⟨r, e2, l2⟩ := impl_zeros_b 8 (by decide) n w h2.1 h2.2 t l c
        rw [if_pos (decide_eq_true hle), e2, if_pos ⟨⟨h1, h2⟩, c⟩]
        exact ⟨_, rfl, by rw [l2]⟩
      · have hle : ¬ (t.size : Int) ≤ w := by
          have := p2 (by rw [← hj]; exact c)
          omega
        rw [if_neg (by simpa using hle), if_neg (fun h => c h.2)]
        exact ⟨_, rfl, by rw [hn]⟩
    · rw [if_neg (by simpa using h2), if_neg (fun h => h2 h.1.2)]
      exact ⟨_, rfl, by rw [hn]⟩
  · rw [if_neg (by simpa using h1), if_neg (fun h => h1 h.1.1)]
    exact ⟨_, rfl, by rw [hn]⟩

theorem hex_fits (n : Int) (h0 : 0 ≤ n) (h1 : n ≤ 4294967295) : n.toNat < 16 ^ (8 : Int).toNat := by
  have : (16 : Nat) ^ (8 : Int).toNat = 4294967296 := by decide
  omega
theorem spec_putHex (n : Int) (k : Nat) (hk : 100 < k) : ∃ r, spec_PutHex.f k n = some r ∧ (r.1.toList, r.2) = if 0 ≤ n ∧ n ≤ 4294967295 then putB 16 n 8 else ([], false) := by
  have hn : (⟨#[]⟩ : ByteArray).toList = [] := by rw [tl]
  unfold spec_PutHex.f
  rw [in_eq]
  simp only [Option.bind_some]
  by_cases h1 : 0 ≤ n ∧ n ≤ 4294967295
  · rw [if_pos (decide_eq_true h1), if_pos h1]
    obtain ⟨t, r, e1, e2, p1, p2⟩ := spec_field 16 (by decide) (by decide) n 8 h1.1 (by omega) (by decide) (by decide) k (by omega)
    rw [show ((16 : Nat) : Int) = 16 from rfl] at e1
    rw [e1]
    simp only [Option.bind_some]
    rw [e2]
    simp only [Option.bind_some]
    refine ⟨_, rfl, ?_⟩
    unfold putB
    rw [if_pos ⟨⟨by omega, by decide⟩, hex_fits n h1.1 h1.2⟩]
    show (r.toList, true) = _
    rw [p1 (hex_fits n h1.1 h1.2)]
  · rw [if_neg (by simpa using h1), if_neg h1]
    exact ⟨_, rfl, by rw [hn]⟩
theorem impl_putHex (n : Int) : ∃ r, impl_PutHex.f n = some r ∧ (r.1.toList, r.2) = if 0 ≤ n ∧ n ≤ 4294967295 then putB 16 n 8 else ([], false) := by
  have hn : (⟨#[]⟩ : ByteArray).toList = [] := by rw [tl]
  unfold impl_PutHex.f
  rw [within_eq]
  simp only [Option.bind_some]
  by_cases h1 : 0 ≤ n ∧ n ≤ 4294967295
  · rw [if_pos (decide_eq_true h1), if_pos h1]
    obtain ⟨t, e, l⟩ := impl_inBase_b 16 (Or.inr rfl) n h1.1 (by omega)
    rw [show ((16 : Nat) : Int) = 16 from rfl] at e
    obtain ⟨r, e2, l2⟩ := impl_zeros_b 16 (by decide) n 8 (by decide) (by decide) t l (hex_fits n h1.1 h1.2)
    rw [e]
    simp only [Option.bind_some]
    rw [e2]
    simp only [Option.bind_some]
    refine ⟨_, rfl, ?_⟩
    unfold putB
    rw [if_pos ⟨⟨by omega, by decide⟩, hex_fits n h1.1 h1.2⟩]
    show (r.toList, true) = _
    rw [l2]
  · rw [if_neg (by simpa using h1), if_neg h1]
    exact ⟨_, rfl, by rw [hn]⟩

theorem digB_dec (u : Nat) (h : 0 < u) : digB 10 u = Lib.decDigits u := by
  induction u using Nat.strongRecOn with
  | _ u ih =>
    rw [digB_step 10 u (by decide) h, Lib.decDigits, hexD_dec _ (Nat.mod_lt _ (by decide))]
    by_cases c : u < 10
    · rw [dif_pos c, show u / 10 = 0 by omega, digB_zero, Nat.mod_eq_of_lt c]
      rfl
    · rw [dif_neg c, ih (u / 10) (by omega) (by omega)]
theorem numB_dec (n : Int) (h0 : 0 ≤ n) : numB 10 n.toNat = Lib.itoa n := by
  unfold numB Lib.itoa
  rw [if_neg (show ¬ n < 0 by omega)]
  by_cases hz : n.toNat = 0
  · rw [if_pos hz, hz, Lib.decDigits]
    rfl
  · rw [if_neg hz, digB_dec _ (by omega)]

/-- A number in a field of so many bytes, filled with spaces. -/
def putDecM (n w : Int) : List UInt8 × Bool :=
  if ((0 ≤ n ∧ n ≤ 9007199254740991) ∧ (1 ≤ w ∧ w ≤ 20)) ∧ ((Lib.itoa n).length : Int) ≤ w then (Lib.itoa n ++ List.replicate (w - ((Lib.itoa n).length : Int)).toNat 32, true) else ([], false)
theorem spec_pad_loop (w : Int) (hw : w ≤ 20) : ∀ (d k : Nat) (s : ByteArray), (s.size : Int) + d = w → d < k → ∃ r, spec_PutDec.l0 k w s = some (r, true) ∧ r.toList = s.toList ++ List.replicate d 32 := by
  intro d
  induction d with
  | zero =>
    intro k s hs hk
    obtain ⟨k, rfl⟩ : ∃ m, k = m + 1 := ⟨k - 1, by omega⟩
    unfold spec_PutDec.l0
    rw [if_neg (by omega)]
    exact ⟨s, rfl, by simp⟩
  | succ d ih =>
    intro k s hs hk
    obtain ⟨k, rfl⟩ : ∃ m, k = m + 1 := ⟨k - 1, by omega⟩
    have e1 : (s ++ (⟨#[32]⟩ : ByteArray)).size = s.size + 1 := by rw [ByteArray.size_append]; rfl
    have e2 : (s ++ (⟨#[32]⟩ : ByteArray)).toList = s.toList ++ [32] := by rw [tl_append, tl (⟨#[32]⟩ : ByteArray)]
    obtain ⟨r, e, l⟩ := ih k (s ++ (⟨#[32]⟩ : ByteArray)) (by omega) (by omega)
    unfold spec_PutDec.l0
    rw [if_pos (by omega), if_pos (by omega)]
    refine ⟨r, e, ?_⟩
    rw [l, e2, List.replicate_succ]
    simp
theorem spec_putDec (n w : Int) (k : Nat) (hk : 100 < k) : ∃ r, spec_PutDec.f k n w = some r ∧ (r.1.toList, r.2) = putDecM n w := by
  obtain ⟨k, rfl⟩ : ∃ m, k = m + 1 := ⟨k - 1, by omega⟩
  have hn : (⟨#[]⟩ : ByteArray).toList = [] := by rw [tl]
  have stay : spec_PutDec.j0 (k + 1) n w true = some ((⟨#[]⟩ : ByteArray), false) := by simp [spec_PutDec.j0]
  unfold spec_PutDec.f putDecM
  rw [in_eq, in_eq]
  simp only [Option.bind_some]
  by_cases h1 : 0 ≤ n ∧ n ≤ 9007199254740991
  · rw [if_pos (decide_eq_true h1)]
    by_cases h2 : 1 ≤ w ∧ w ≤ 20
    · rw [decide_eq_true h2]
      simp only [spec_PutDec.j0]
      obtain ⟨t, e, l⟩ := spec_digits 10 (by decide) (by decide) n h1.1 h1.2 k (by omega)
      rw [numB_dec n h1.1] at l
      have hs : t.size = (Lib.itoa n).length := by rw [← l, tl_length]
      rw [show ((10 : Nat) : Int) = 10 from rfl] at e
      rw [if_neg (by decide), e]
      simp only [Option.bind_some]
      by_cases h3 : (t.size : Int) > w
      · rw [if_pos h3, if_neg (fun h => by have := h.2; omega)]
        exact ⟨_, rfl, by rw [hn]⟩
      · rw [if_neg h3, if_pos ⟨⟨h1, h2⟩, by omega⟩]
        obtain ⟨r, e2, l2⟩ := spec_pad_loop w h2.2 (w - (t.size : Int)).toNat k t (by omega) (by omega)
        refine ⟨_, e2, ?_⟩
        rw [l2, l, hs]
    · rw [decide_eq_false h2, if_neg (fun h => h2 h.1.2)]
      exact ⟨_, stay, by rw [hn]⟩
  · rw [if_neg (by simpa using h1), if_neg (fun h => h1 h.1.1)]
    exact ⟨_, stay, by rw [hn]⟩
theorem base10 (n : Int) (h0 : 0 ≤ n) (h1 : n ≤ 9007199254740991) : ∃ t, impl_inBase.f n 10 = some t ∧ t.toList = Lib.itoa n := by
  unfold impl_inBase.f strconv_FormatInt.f
  rw [if_pos ⟨rfl, by omega, by omega⟩]
  exact ⟨_, rfl, tl_mk _⟩
theorem impl_putDec (n w : Int) : ∃ r, impl_PutDec.f n w = some r ∧ (r.1.toList, r.2) = putDecM n w := by
  have hn : (⟨#[]⟩ : ByteArray).toList = [] := by rw [tl]
  unfold impl_PutDec.f impl_isField.f putDecM
  rw [within_eq, within_eq]
  simp only [Option.bind_some]
  by_cases h1 : 0 ≤ n ∧ n ≤ 9007199254740991
  · rw [if_pos (decide_eq_true h1)]
    by_cases h2 : 1 ≤ w ∧ w ≤ 20
    · rw [if_pos (decide_eq_true h2)]
      obtain ⟨t, e, l⟩ := base10 n h1.1 h1.2
      have hs : t.size = (Lib.itoa n).length := by rw [← l, tl_length]
      rw [e]
      simp only [Option.bind_some]
      by_cases h3 : (t.size : Int) ≤ w
      · rw [if_pos (decide_eq_true h3), if_pos ⟨⟨h1, h2⟩, by omega⟩]
        unfold impl_spaces.f
        have hm : mx (wrap64 (w - (t.size : Int))) 0 = w - (t.size : Int) := by
          rw [w64 (by omega) (by omega)]
          unfold mx
          omega
        obtain ⟨p, e2, l2⟩ := lib_repeat 32 (w - (t.size : Int)) (by omega) (by omega)
        have hp : p.size ≤ 20 := by rw [← tl_length, l2, List.length_replicate]; omega
        rw [hm, e2]
        simp only [Option.bind_some]
        rw [if_pos (by omega)]
        refine ⟨_, rfl, ?_⟩
        show ((t ++ p).toList, true) = _
        rw [tl_append, l, l2, hs]
      · rw [if_neg (by simpa using h3), if_neg (fun h => by have := h.2; omega)]
        exact ⟨_, rfl, by rw [hn]⟩
    · rw [if_neg (by simpa using h2), if_neg (fun h => h2 h.1.2)]
      exact ⟨_, rfl, by rw [hn]⟩
  · rw [if_neg (by simpa using h1), if_neg (fun h => h1 h.1.1)]
    exact ⟨_, rfl, by rw [hn]⟩

theorem putB_size (b : Nat) (n w : Int) : (putB b n w).1.length ≤ 20 := by
  unfold putB
  split
  · rename_i h
    rw [padB_length]
    omega
  · simp
theorem putH_size (n : Int) : (if 0 ≤ n ∧ n ≤ 4294967295 then putB 16 n 8 else ([], false) : List UInt8 × Bool).1.length ≤ 20 := by
  split
  · exact putB_size 16 n 8
  · simp
theorem putD_size (n w : Int) : (putDecM n w).1.length ≤ 20 := by
  unfold putDecM
  split
  · rename_i h
    rw [List.length_append, List.length_replicate]
    omega
  · simp
theorem size_of {r : ByteArray × Bool} {m : List UInt8 × Bool} (h : (r.1.toList, r.2) = m) (hm : m.1.length ≤ 20) : r.1.size ≤ 20 := by
  rw [← tl_length, show r.1.toList = m.1 by rw [← h]]
  exact hm

theorem allB_list (p : Int → Bool) (s : ByteArray) : allB p s = s.toList.all (fun b => p (b.toNat : Int)) := rfl

theorem pdig_fin8 : ∀ n : Fin 256, pDig 8 ((UInt8.ofNat n.val).toNat : Int) = digOk 8 (UInt8.ofNat n.val) := by decide +kernel
theorem pdig_fin16 : ∀ n : Fin 256, pDig 16 ((UInt8.ofNat n.val).toNat : Int) = digOk 16 (UInt8.ofNat n.val) := by decide +kernel
theorem dval_fin : ∀ n : Fin 256, digOk 16 (UInt8.ofNat n.val) = true → dval (UInt8.ofNat n.val) = (dvI (UInt8.ofNat n.val)).toNat := by decide +kernel
theorem pdig_eq (b : Nat) (hb : b = 8 ∨ b = 16) (c : UInt8) : pDig b (c.toNat : Int) = digOk b c := by
  rcases hb with rfl | rfl
  · have := pdig_fin8 ⟨c.toNat, c.toNat_lt⟩
    simpa only [UInt8.ofNat_toNat] using this
  · have := pdig_fin16 ⟨c.toNat, c.toNat_lt⟩
    simpa only [UInt8.ofNat_toNat] using this
theorem dval_eq (c : UInt8) (h : digOk 16 c = true) : dval c = (dvI c).toNat := by
  have := dval_fin ⟨c.toNat, c.toNat_lt⟩
  simp only [UInt8.ofNat_toNat] at this
  exact this h
theorem ok_16 (b : Nat) (hb : b ≤ 16) (c : UInt8) (h : digOk b c = true) : digOk 16 c = true := by
  unfold digOk at h ⊢
  simp only [Bool.and_eq_true, decide_eq_true_eq] at h ⊢
  omega
theorem valL_eq (b : Nat) (hb : b ≤ 16) : ∀ (l : List UInt8) (acc : Nat), (∀ c ∈ l, digOk b c = true) → valL b acc l = valM b acc l
  | [], acc, _ => rfl
  | c :: l, acc, h => by
    simp only [valL, valM]
    rw [dval_eq c (ok_16 b hb c (h c (by simp))), valL_eq b hb l _ (fun x hx => h x (by simp [hx]))]
theorem digs_all (b : Nat) (hb : b = 8 ∨ b = 16) (s : ByteArray) : allB (pDig b) s = true ↔ ∀ c ∈ s.toList, digOk b c = true := by
  unfold allB
  rw [List.all_eq_true]
  exact ⟨fun h c hc => by rw [← pdig_eq b hb]; exact h c hc, fun h c hc => by rw [pdig_eq b hb]; exact h c hc⟩

theorem impl_getOct (s : ByteArray) (hs : s.size ≤ 1099511627776) : impl_GetOct.f s = some (getB 8 1 20 s.toList) := by
  unfold impl_GetOct.f getB
  rw [if_pos (show s.size ≤ 140737488355328 by omega), ← tl s, tl_length]
  by_cases h1 : 1 ≤ s.size ∧ s.size ≤ 20
  · rw [if_pos h1]
    by_cases h2 : allB (pDig 8) s = true
    · have h3 := (digs_all 8 (Or.inl rfl) s).1 h2
      rw [if_pos h2, valL_eq 8 (by decide) s.toList 0 h3]
      by_cases h4 : valM 8 0 s.toList ≤ 9007199254740991
      · rw [if_pos h4, if_pos ⟨h1, h3, h4⟩]
      · rw [if_neg h4, if_neg (fun h => h4 h.2.2)]
    · rw [if_neg h2, if_neg (fun h => h2 ((digs_all 8 (Or.inl rfl) s).2 h.2.1))]
  · rw [if_neg h1, if_neg (fun h => h1 h.1)]

/-! ### A byte's first place, and the texts between its places -/
theorem bt_mid {s : ByteArray} {pre t : List UInt8} {b : UInt8} (h : s.toList = pre ++ b :: t) : bt s (pre.length : Int) = (b.toNat : Int) := by
  have hs : s.size = pre.length + (t.length + 1) := by rw [← tl_length, h]; simp
  rw [bt_get s pre.length (by omega)]
  congr 2
  simp [h]
theorem size_mid {s : ByteArray} {pre t : List UInt8} (h : s.toList = pre ++ t) : s.size = pre.length + t.length := by
  rw [← tl_length, h]; simp
theorem u8_eq {b : UInt8} {c : UInt8} : ((b.toNat : Int) = (c.toNat : Int)) ↔ b = c := by
  constructor
  · intro h
    exact UInt8.toNat_inj.1 (by omega)
  · rintro rfl
    rfl
theorem ext_mid {s : ByteArray} {pre p t : List UInt8} (h : s.toList = pre ++ (p ++ t)) : (s.extract pre.length (pre.length + p.length)).toList = p := by
  rw [tl_extract, h, ← List.append_assoc]
  rw [List.take_left' (by simp)]
  simp
theorem ext_end {s : ByteArray} {pre p : List UInt8} (h : s.toList = pre ++ p) : (s.extract pre.length s.size).toList = p := by
  rw [tl_extract, ← tl_length, h]
  rw [List.take_of_length_le (Nat.le_refl _)]
  simp
/-- A byte's first place: there is none, or the text falls in two there. -/
theorem index_span (c : UInt8) : ∀ l : List UInt8, (c ∉ l ∧ Lib.indexByte l c = -1) ∨ ∃ a b, l = a ++ c :: b ∧ c ∉ a ∧ Lib.indexByte l c = (a.length : Int)
  | [] => Or.inl ⟨by simp, rfl⟩
  | x :: l => by
    by_cases h : x = c
    · subst h
      exact Or.inr ⟨[], l, rfl, by simp, by simp [Lib.indexByte]⟩
    · rcases index_span c l with ⟨h1, h2⟩ | ⟨a, b, h1, h2, h3⟩
      · refine Or.inl ⟨?_, ?_⟩
        · simp only [List.mem_cons, not_or]
          exact ⟨fun e => h e.symm, h1⟩
        · simp [Lib.indexByte, h, h2]
      · refine Or.inr ⟨x :: a, b, by simp [h1], ?_, ?_⟩
        · simp only [List.mem_cons, not_or]
          exact ⟨fun e => h e.symm, h2⟩
        · simp only [Lib.indexByte]
          have h' : (x == c) = false := by simpa using h
          simp only [h', h3]
          simp
          try omega

theorem valM_ge (b : Nat) (hb : 1 ≤ b) : ∀ (t : List UInt8) (acc : Nat), acc ≤ valM b acc t
  | [], acc => Nat.le_refl _
  | c :: t, acc => by
    simp only [valM]
    have h1 := valM_ge b hb t (acc * b + (dvI c).toNat)
    have h2 : acc * 1 ≤ acc * b := Nat.mul_le_mul_left _ hb
    omega
/-- The value of digits, or -1. -/
def valR (b acc : Nat) (l : List UInt8) : Int := if (∀ c ∈ l, digOk b c = true) ∧ valM b acc l ≤ 9007199254740991 then (valM b acc l : Int) else -1
theorem valR_bad (b acc : Nat) (c : UInt8) (t : List UInt8) (h : digOk b c = false) : valR b acc (c :: t) = -1 := by
  unfold valR
  rw [if_neg]
  intro h2
  have := h2.1 c (by simp)
  rw [h] at this
  cases this
theorem valR_over (b acc : Nat) (hb : 1 ≤ b) (c : UInt8) (t : List UInt8) (h : 9007199254740991 < acc * b + (dvI c).toNat) : valR b acc (c :: t) = -1 := by
  unfold valR
  rw [if_neg]
  intro h2
  have h3 := h2.2
  simp only [valM] at h3
  have := valM_ge b hb t (acc * b + (dvI c).toNat)
  omega
theorem valR_step (b acc : Nat) (c : UInt8) (t : List UInt8) (h : digOk b c = true) : valR b acc (c :: t) = valR b (acc * b + (dvI c).toNat) t := by
  unfold valR
  simp only [valM, List.mem_cons, forall_eq_or_imp, h, true_and]
theorem value_tail (s : ByteArray) (b : Nat) (hb : 2 ≤ b) (hb2 : b ≤ 16) (k acc D : Nat) (i : Int) (c : UInt8) (t : List UInt8) (hD : dvI c = (D : Int)) (hacc : acc ≤ 9007199254740991)
    (ih : acc * b + D ≤ 9007199254740991 → spec_l01Value.l0 k s (b : Int) ((acc * b + D : Nat) : Int) (wrap64 (i + 1)) = some (valR b (acc * b + D) t)) :
    (if (D : Int) < 0 then some (-1) else (if (D : Int) ≥ (b : Int) then some (-1) else (if (b : Int) = 0 then none else (if (acc : Int) > (wrap64 (Int.tdiv (wrap64 (9007199254740991 - (D : Int))) (b : Int))) then some (-1) else (spec_l01Value.l0 k s (b : Int) (wrap64 ((wrap64 ((acc : Int) * (b : Int))) + (D : Int))) (wrap64 (i + 1)))))) : Option Int) = some (valR b acc (c :: t)) := by
  have hlt : D < 16 := by
    have := dv_lt c
    omega
  have h1 : ¬ (D : Int) < 0 := by omega
  rw [if_neg h1]
  by_cases h2 : (D : Int) ≥ (b : Int)
  · rw [if_pos h2, valR_bad]
    unfold digOk
    rw [hD, decide_eq_false (show ¬ (D : Int) < (b : Int) by omega), Bool.and_false]
  · have hok : digOk b c = true := by
      unfold digOk
      rw [hD, decide_eq_true (by omega), decide_eq_true (by omega)]
      rfl
    have h3 : ¬ (b : Int) = 0 := by omega
    obtain ⟨R, hR⟩ : ∃ R : Nat, R + D = 9007199254740991 := ⟨9007199254740991 - D, by omega⟩
    have e1 : wrap64 (9007199254740991 - (D : Int)) = (R : Int) := by rw [w64 (by omega) (by omega)]; omega
    have e2 : Int.tdiv (R : Int) (b : Int) = ((R / b : Nat) : Int) := by
      rw [Int.tdiv_eq_ediv_of_nonneg (by omega), Int.natCast_ediv]
    have hle : R / b ≤ R := Nat.div_le_self _ _
    have hdiv : R / b < acc ↔ R < acc * b := Nat.div_lt_iff_lt_mul (by omega)
    have hdv : (dvI c).toNat = D := by omega
    have hov : 9007199254740991 < acc * b + D → valR b acc (c :: t) = -1 := fun h => valR_over b acc (by omega) c t (by rw [hdv]; exact h)
    have hst : valR b acc (c :: t) = valR b (acc * b + D) t := by rw [valR_step b acc c t hok, hdv]
    have e3 : (acc : Int) * (b : Int) = ((acc * b : Nat) : Int) := (Int.natCast_mul acc b).symm
    rw [if_neg h2, if_neg h3, e1, e2, e3]
    clear e1 e2 e3
    generalize R / b = Q at hle hdiv ⊢
    generalize acc * b = P at hdiv hov hst ih ⊢
    have e5 : wrap64 (Q : Int) = (Q : Int) := w64 (by clear hov hst ih; omega) (by clear hov hst ih; omega)
    rw [e5]
    clear e5
    by_cases h4 : (acc : Int) > (Q : Int)
    · have h6 : Q < acc := by clear hov hst ih; omega
      have h5 := hdiv.1 h6
      have h7 : 9007199254740991 < P + D := by clear hov hst ih; omega
      rw [if_pos h4, hov h7]
    · have h5 : ¬ R < P := fun h => h4 (by have := hdiv.2 h; clear hov hst ih; omega)
      have e6 : wrap64 (P : Int) = (P : Int) := w64 (by clear hov hst ih; omega) (by clear hov hst ih; omega)
      have e4 : wrap64 ((P : Int) + (D : Int)) = ((P + D : Nat) : Int) := by
        clear e6
        rw [w64 (by clear hov hst ih; omega) (by clear hov hst ih; omega)]
        clear hov hst ih
        omega
      have h7 : P + D ≤ 9007199254740991 := by clear hov hst ih e4 e6; omega
      rw [if_neg h4, e6, e4, hst]
      exact ih h7
theorem spec_value_loop (s : ByteArray) (hs : s.size ≤ 1099511627776) (b : Nat) (hb : 2 ≤ b) (hb2 : b ≤ 16) : ∀ (t pre : List UInt8) (acc k : Nat), s.toList = pre ++ t → acc ≤ 9007199254740991 → t.length < k → spec_l01Value.l0 k s (b : Int) (acc : Int) (pre.length : Int) = some (valR b acc t)
  | [], pre, acc, k, h, ha, hk => by
    obtain ⟨k, rfl⟩ : ∃ m, k = m + 1 := ⟨k - 1, by omega⟩
    have hz := size_mid h
    simp only [List.length_nil] at hz
    have hn : ¬ (pre.length : Int) < (s.size : Int) := by omega
    simp only [spec_l01Value.l0]
    rw [if_neg hn]
    unfold valR
    rw [if_pos ⟨fun c hc => by simp at hc, ha⟩]
    rfl
  | c :: t, pre, acc, k, h, ha, hk => by
    simp only [List.length_cons] at hk
    obtain ⟨k, rfl⟩ : ∃ m, k = m + 1 := ⟨k - 1, by omega⟩
    have hz := size_mid h
    simp only [List.length_cons] at hz
    have hlt : (pre.length : Int) < (s.size : Int) := by omega
    have h0 : 0 ≤ (pre.length : Int) := by omega
    have hc := c.toNat_lt
    have ew : wrap64 (c.toNat : Int) = (c.toNat : Int) := w64 (by omega) (by omega)
    have ih : ∀ D : Nat, acc * b + D ≤ 9007199254740991 → spec_l01Value.l0 k s (b : Int) ((acc * b + D : Nat) : Int) (wrap64 ((pre.length : Int) + 1)) = some (valR b (acc * b + D) t) := fun D hD => by
      have := spec_value_loop s hs b hb hb2 t (pre ++ [c]) (acc * b + D) k (by simp [h]) hD (by omega)
      rw [w64 (by omega) (by omega)]
      rw [List.length_append] at this
      exact this
    simp only [spec_l01Value.l0]
    rw [if_pos hlt, if_pos h0, bt_mid h, ew, in_eq, in_eq]
    simp only [Option.bind_some]
    by_cases h1 : 48 ≤ (c.toNat : Int) ∧ (c.toNat : Int) ≤ 57
    · have e1 : wrap64 ((c.toNat : Int) - 48) = ((c.toNat - 48 : Nat) : Int) := by rw [w64 (by omega) (by omega)]; omega
      rw [if_pos (decide_eq_true h1), e1]
      exact value_tail s b hb hb2 k acc _ _ c t (by unfold dvI; rw [if_pos (by omega)]; omega) ha (ih _)
    · rw [if_neg (by simpa using h1)]
      by_cases h2 : 97 ≤ (c.toNat : Int) ∧ (c.toNat : Int) ≤ 102
      · have e1 : wrap64 ((c.toNat : Int) - 87) = ((c.toNat - 87 : Nat) : Int) := by rw [w64 (by omega) (by omega)]; omega
        rw [if_pos (decide_eq_true h2), e1]
        exact value_tail s b hb hb2 k acc _ _ c t (by unfold dvI; rw [if_neg (by omega), if_pos (by omega)]; omega) ha (ih _)
      · rw [if_neg (by simpa using h2), if_pos (by decide), valR_bad]
        unfold digOk dvI
        rw [if_neg (by omega), if_neg (by omega)]
        rfl
theorem spec_value (s : ByteArray) (hs : s.size ≤ 1099511627776) (b : Nat) (hb : 2 ≤ b) (hb2 : b ≤ 16) (k : Nat) (hk : s.size < k) : spec_l01Value.f k s (b : Int) = some (valR b 0 s.toList) := by
  unfold spec_l01Value.f
  exact spec_value_loop s hs b hb hb2 s.toList [] 0 k rfl (by decide) (by rw [tl_length]; exact hk)
theorem valR_neg (b : Nat) (l : List UInt8) : valR b 0 l < 0 ↔ ¬ ((∀ c ∈ l, digOk b c = true) ∧ valM b 0 l ≤ 9007199254740991) := by
  unfold valR
  by_cases c : (∀ c ∈ l, digOk b c = true) ∧ valM b 0 l ≤ 9007199254740991
  · rw [if_pos c]
    exact ⟨fun h => by omega, fun h => absurd c h⟩
  · rw [if_neg c]
    exact ⟨fun _ => c, fun _ => by decide⟩

theorem spec_getOct (s : ByteArray) (hs : s.size ≤ 1099511627776) (k : Nat) (hk : s.size < k) : spec_GetOct.f k s = some (getB 8 1 20 s.toList) := by
  have hv := spec_value s hs 8 (by decide) (by decide) k hk
  rw [show ((8 : Nat) : Int) = 8 from rfl] at hv
  unfold spec_GetOct.f getB
  rw [in_eq]
  simp only [Option.bind_some, tl_length]
  by_cases h1 : 1 ≤ (s.size : Int) ∧ (s.size : Int) ≤ 20
  · rw [if_pos (decide_eq_true h1), hv]
    simp only [Option.bind_some]
    by_cases h2 : (∀ c ∈ s.toList, digOk 8 c = true) ∧ valM 8 0 s.toList ≤ 9007199254740991
    · have h3 : ¬ valR 8 0 s.toList < 0 := fun h => (valR_neg 8 s.toList).1 h h2
      rw [if_neg h3, if_pos ⟨by omega, h2⟩]
      unfold valR
      rw [if_pos h2]
    · have h3 : valR 8 0 s.toList < 0 := (valR_neg 8 s.toList).2 h2
      rw [if_pos h3, if_neg (fun h => h2 h.2)]
  · rw [if_neg (by simpa using h1), if_neg (fun h => h1 (by omega))]

theorem impl_getHex (s : ByteArray) (hs : s.size ≤ 1099511627776) : impl_GetHex.f s = some (getB 16 8 8 s.toList) := by
  unfold impl_GetHex.f getB
  rw [if_pos (show s.size ≤ 140737488355328 by omega), ← tl s, tl_length]
  by_cases h1 : s.size = 8
  · rw [if_pos h1]
    by_cases h2 : allB (pDig 16) s = true
    · have h3 := (digs_all 16 (Or.inr rfl) s).1 h2
      have h4 := (padB_valM 16 (by decide) s.toList h3).2
      rw [tl_length, h1] at h4
      have h5 : (16 : Nat) ^ 8 = 4294967296 := by decide
      rw [if_pos h2, valL_eq 16 (by decide) s.toList 0 h3, if_pos ⟨by omega, h3, by omega⟩]
    · rw [if_neg h2, if_neg (fun h => h2 ((digs_all 16 (Or.inr rfl) s).2 h.2.1))]
  · rw [if_neg h1, if_neg (fun h => h1 (by omega))]

theorem spec_getHex (s : ByteArray) (hs : s.size ≤ 1099511627776) (k : Nat) (hk : s.size < k) : spec_GetHex.f k s = some (getB 16 8 8 s.toList) := by
  have hv := spec_value s hs 16 (by decide) (by decide) k hk
  rw [show ((16 : Nat) : Int) = 16 from rfl] at hv
  unfold spec_GetHex.f getB
  rw [hv]
  simp only [Option.bind_some, tl_length]
  by_cases h1 : (s.size : Int) = 8
  · rw [if_pos h1]
    by_cases h2 : (∀ c ∈ s.toList, digOk 16 c = true) ∧ valM 16 0 s.toList ≤ 9007199254740991
    · have h3 : ¬ valR 16 0 s.toList < 0 := fun h => (valR_neg 16 s.toList).1 h h2
      rw [if_neg h3, if_pos ⟨by omega, h2⟩]
      unfold valR
      rw [if_pos h2]
    · have h3 : valR 16 0 s.toList < 0 := (valR_neg 16 s.toList).2 h2
      rw [if_pos h3, if_neg (fun h => h2 h.2)]
  · rw [if_neg h1, if_neg (fun h => h1 (by omega))]

/-! ### Decimal texts read back -/
theorem numB_ok (b : Nat) (hb : 2 ≤ b) (hb2 : b ≤ 16) (u : Nat) : (∀ c ∈ numB b u, digOk b c = true) ∧ valM b 0 (numB b u) = u := by
  have one : ∀ d, d < b → digOk b (hexD d) = true := fun d h => by
    unfold digOk
    rw [dv_hex d (by omega), decide_eq_true (by omega), decide_eq_true (by omega)]
    rfl
  induction u using Nat.strongRecOn with
  | _ u ih =>
    by_cases c : u < b
    · rw [numB_less b u hb c]
      refine ⟨fun x hx => ?_, ?_⟩
      · rw [List.mem_singleton] at hx
        rw [hx]
        exact one u c
      · simp only [valM]
        rw [dv_hex u (by omega)]
        omega
    · have hm : u % b < b := Nat.mod_lt _ (by omega)
      obtain ⟨h1, h2⟩ := ih (u / b) (Nat.div_lt_self (by omega) (by omega))
      rw [numB_more b u hb c]
      refine ⟨fun x hx => ?_, ?_⟩
      · rw [List.mem_append, List.mem_singleton] at hx
        rcases hx with hx | hx
        · exact h1 x hx
        · rw [hx]
          exact one _ hm
      · rw [valM_append, h2]
        simp only [valM]
        rw [dv_hex _ (by omega), Int.toNat_natCast, Nat.mul_comm]
        exact Nat.div_add_mod u b
theorem numB_last (b : Nat) (hb : 2 ≤ b) (u : Nat) : ∃ p d, numB b u = p ++ [hexD d] ∧ d < b := by
  by_cases c : u < b
  · exact ⟨[], u, numB_less b u hb c, c⟩
  · exact ⟨_, _, numB_more b u hb c, Nat.mod_lt _ (by omega)⟩
theorem dec_digit (c : UInt8) (h : digOk 10 c = true) : 48 ≤ c.toNat ∧ c.toNat ≤ 57 ∧ (dvI c).toNat = c.toNat - 48 := by
  unfold digOk dvI at h
  unfold dvI
  simp only [Bool.and_eq_true, decide_eq_true_eq] at h
  by_cases c1 : 48 ≤ c.toNat ∧ c.toNat ≤ 57
  · rw [if_pos c1]
    omega
  · rw [if_neg c1] at h
    by_cases c2 : 97 ≤ c.toNat ∧ c.toNat ≤ 102
    · rw [if_pos c2] at h
      omega
    · rw [if_neg c2] at h
      omega
theorem valM_ge' (b : Nat) (hb : 1 ≤ b) : ∀ (t : List UInt8) (acc : Nat), acc ≤ valM b acc t
  | [], acc => Nat.le_refl _
  | c :: t, acc => by
    simp only [valM]
    have h1 := valM_ge' b hb t (acc * b + (dvI c).toNat)
    have h2 : acc * 1 ≤ acc * b := Nat.mul_le_mul_left _ hb
    omega
theorem parse_ok : ∀ (l : List UInt8) (acc : Nat), (∀ c ∈ l, digOk 10 c = true) → valM 10 acc l ≤ 9007199254740991 → Lib.parseUint10 acc l = .ok (valM 10 acc l)
  | [], acc, _, _ => rfl
  | c :: l, acc, h, hv => by
    obtain ⟨h1, h2, h3⟩ := dec_digit c (h c (by simp))
    simp only [valM, h3] at hv ⊢
    have hge := valM_ge' 10 (by decide) l (acc * 10 + (c.toNat - 48))
    simp only [Lib.parseUint10]
    rw [if_pos ⟨h1, h2⟩, if_neg (by omega), if_neg (by omega)]
    exact parse_ok l _ (fun x hx => h x (by simp [hx])) hv
theorem atoi_num (u : Nat) (hu : u ≤ 9007199254740991) : Lib.atoiAll (numB 10 u) = .ok (u : Int) := by
  obtain ⟨h1, h2⟩ := numB_ok 10 (by decide) (by decide) u
  have hp := parse_ok (numB 10 u) 0 h1 (by rw [h2]; exact hu)
  rw [h2] at hp
  obtain ⟨c, r, e⟩ : ∃ c r, numB 10 u = c :: r := by
    cases hq : numB 10 u with
    | nil =>
      obtain ⟨p, d, e, _⟩ := numB_last 10 (by decide) u
      rw [e] at hq
      simp at hq
    | cons c r => exact ⟨c, r, rfl⟩
  have hc := dec_digit c (h1 c (by rw [e]; simp))
  rw [e] at hp ⊢
  have hm : Lib.parseMag (c :: r) = .ok u := by
    unfold Lib.parseMag
    rw [if_neg (by simp)]
    exact hp
  have n1 : ¬ (c.toNat = 43 ∨ c.toNat = 45) := by omega
  have n2 : ¬ c.toNat = 45 := by omega
  have n3 : ¬ 9223372036854775808 ≤ u := by omega
  unfold Lib.atoiAll
  simp only [if_neg n1, hm]
  simp [n2, n3]
theorem atoi_itoa (n : Int) (h0 : 0 ≤ n) (h1 : n ≤ 9007199254740991) : Lib.atoiAll (Lib.itoa n) = .ok n := by
  rw [← numB_dec n h0, atoi_num n.toNat (by omega)]
  congr 1
  omega
theorem itoa_digits (n : Int) (h0 : 0 ≤ n) : (∀ c ∈ Lib.itoa n, digOk 10 c = true) ∧ (valM 10 0 (Lib.itoa n) : Int) = n := by
  obtain ⟨h1, h2⟩ := numB_ok 10 (by decide) (by decide) n.toNat
  rw [← numB_dec n h0]
  refine ⟨h1, ?_⟩
  rw [h2]
  omega
theorem trim_itoa (n : Int) (h0 : 0 ≤ n) (z : Nat) : Lib.trimRightB (Lib.itoa n ++ List.replicate z 32) 32 = Lib.itoa n := by
  obtain ⟨p, d, e, hd⟩ := numB_last 10 (by decide) n.toNat
  have hne : (hexD d == 32) = false := by
    have h1 : hexD d = UInt8.ofNat (48 + d) := hexD_dec d hd
    rw [beq_eq_false_iff_ne, h1]
    intro h2
    have := congrArg UInt8.toNat h2
    rw [UInt8.toNat_ofNat'] at this
    have h3 : (32 : UInt8).toNat = 32 := rfl
    omega
  have hdrop : ∀ (z : Nat) (l : List UInt8), (List.replicate z (32 : UInt8) ++ l).dropWhile (· == 32) = l.dropWhile (· == 32) := by
    intro z l
    induction z with
    | zero => rfl
    | succ z ih => rw [List.replicate_succ, List.cons_append, List.dropWhile_cons, if_pos (by decide), ih]
  rw [← numB_dec n h0]
  unfold Lib.trimRightB
  rw [List.reverse_append, List.reverse_replicate, hdrop, e, List.reverse_append, List.reverse_singleton, List.singleton_append, List.dropWhile_cons, if_neg (by rw [hne]; simp)]
  simp
def isDec (c : UInt8) : Bool := decide (48 ≤ c.toNat ∧ c.toNat ≤ 57)
theorem lead_itoa (n : Int) (h0 : 0 ≤ n) (z : Nat) : (Lib.itoa n ++ List.replicate z 32).takeWhile isDec = Lib.itoa n := by
  have h1 := (itoa_digits n h0).1
  rw [List.takeWhile_append_of_pos (fun c hc => by
    have := dec_digit c (h1 c hc)
    unfold isDec
    exact decide_eq_true ⟨this.1, this.2.1⟩)]
  have : (List.replicate z (32 : UInt8)).takeWhile isDec = [] := by
    cases z with
    | zero => rfl
    | succ z => rw [List.replicate_succ, List.takeWhile_cons, if_neg (by decide)]
  rw [this, List.append_nil]

/-- Of which number the text is the field, if of any. -/
def GD (s : ByteArray) (r : Int × Bool) : Prop := (∀ n, putDecM n (s.size : Int) = (s.toList, true) → r = (n, true)) ∧ ((∀ n, putDecM n (s.size : Int) ≠ (s.toList, true)) → r = (0, false))
theorem GD_one {s : ByteArray} {r r' : Int × Bool} (h : GD s r) (h' : GD s r') : r = r' := by
  by_cases c : ∃ n, putDecM n (s.size : Int) = (s.toList, true)
  · obtain ⟨n, hn⟩ := c
    rw [h.1 n hn, h'.1 n hn]
  · have hc : ∀ n, putDecM n (s.size : Int) ≠ (s.toList, true) := fun n hn => c ⟨n, hn⟩
    rw [h.2 hc, h'.2 hc]
theorem putDec_says {n : Int} {s : ByteArray} (h : putDecM n (s.size : Int) = (s.toList, true)) : 0 ≤ n ∧ n ≤ 9007199254740991 ∧ ∃ z, s.toList = Lib.itoa n ++ List.replicate z 32 := by
  unfold putDecM at h
  by_cases c : ((0 ≤ n ∧ n ≤ 9007199254740991) ∧ (1 ≤ (s.size : Int) ∧ (s.size : Int) ≤ 20)) ∧ ((Lib.itoa n).length : Int) ≤ (s.size : Int)
  · rw [if_pos c] at h
    exact ⟨c.1.1.1, c.1.1.2, _, (Prod.mk.inj h).1.symm⟩
  · rw [if_neg c] at h
    cases (Prod.mk.inj h).2
theorem GD_of {s : ByteArray} {v : Int} (hv : ∀ n, putDecM n (s.size : Int) = (s.toList, true) → v = n) (r : List UInt8 × Bool) (hr : r = putDecM v (s.size : Int)) : (r.2 = true → r.1 = s.toList → GD s (v, true)) ∧ (¬ (r.2 = true ∧ r.1 = s.toList) → GD s (0, false)) := by
  refine ⟨fun h1 h2 => ⟨fun n hn => by rw [hv n hn], fun hc => ?_⟩, fun h => ⟨fun n hn => ?_, fun _ => rfl⟩⟩
  · exfalso
    apply hc v
    rw [← hr, ← h1, ← h2]
  · exfalso
    apply h
    rw [hr, hv n hn, hn]
    exact ⟨rfl, rfl⟩

theorem impl_getDec (s : ByteArray) (hs : s.size ≤ 1048576) : ∃ r, impl_GetDec.f s = some r ∧ GD s r := by
  unfold impl_GetDec.f
  rw [if_pos (show s.size ≤ 140737488351232 by omega), ← tl s]
  have hok : ∀ n, putDecM n (s.size : Int) = (s.toList, true) → Lib.atoiAll (Lib.trimRightB s.toList 32) = .ok n := by
    intro n hn
    obtain ⟨n0, n1, z, hz⟩ := putDec_says hn
    rw [hz, trim_itoa n n0 z, atoi_itoa n n0 n1]
  rcases hq : Lib.atoiAll (Lib.trimRightB s.toList 32) with v | _ | _
  · obtain ⟨q, e2, l2⟩ := impl_putDec v (s.size : Int)
    have hv : ∀ n, putDecM n (s.size : Int) = (s.toList, true) → v = n := by
      intro n hn
      have := hok n hn
      rw [hq] at this
      injection this
    obtain ⟨g1, g2⟩ := GD_of hv (q.1.toList, q.2) l2
    simp only
    rw [e2]
    simp only [Option.bind_some]
    by_cases c1 : q.2 = true
    · rw [if_pos c1]
      by_cases c2 : q.1.toList = s.toList
      · rw [if_pos c2]
        exact ⟨_, rfl, g1 c1 c2⟩
      · rw [if_neg c2]
        exact ⟨_, rfl, g2 (fun h => c2 h.2)⟩
    · rw [if_neg c1]
      exact ⟨_, rfl, g2 (fun h => c1 h.1)⟩
  · refine ⟨_, rfl, fun n hn => ?_, fun _ => rfl⟩
    have := hok n hn
    rw [hq] at this
    cases this
  · refine ⟨_, rfl, fun n hn => ?_, fun _ => rfl⟩
    have := hok n hn
    rw [hq] at this
    cases this

theorem spec_lead_loop (s : ByteArray) (hs : s.size ≤ 1099511627776) : ∀ (t pre : List UInt8) (k : Nat), s.toList = pre ++ t → t.length < k → ∃ k2, k ≤ k2 + t.length + 1 ∧ spec_GetDec.l0 k s (pre.length : Int) = spec_GetDec.j1 k2 s ((pre.length + (t.takeWhile isDec).length : Nat) : Int)
  | [], pre, k, h, hk => by
    obtain ⟨k, rfl⟩ : ∃ m, k = m + 1 := ⟨k - 1, by omega⟩
    have hz := size_mid h
    simp only [List.length_nil] at hz
    have hn : ¬ (pre.length : Int) < (s.size : Int) := by omega
    refine ⟨k, by simp, ?_⟩
    simp only [spec_GetDec.l0]
    rw [if_neg hn]
    rfl
  | c :: t, pre, k, h, hk => by
    simp only [List.length_cons] at hk
    obtain ⟨k, rfl⟩ : ∃ m, k = m + 1 := ⟨k - 1, by omega⟩
    have hz := size_mid h
    simp only [List.length_cons] at hz
    have hlt : (pre.length : Int) < (s.size : Int) := by omega
    have h0 : 0 ≤ (pre.length : Int) := by omega
    have hc := c.toNat_lt
    have ew : wrap64 (c.toNat : Int) = (c.toNat : Int) := w64 (by omega) (by omega)
    have ew2 : wrap64 ((pre.length : Int) + 1) = (((pre ++ [c]).length : Nat) : Int) := by
      rw [List.length_append, w64 (by omega) (by omega)]
      rfl
    simp only [spec_GetDec.l0]
    rw [if_pos hlt, if_pos h0, bt_mid h, ew, in_eq]
    simp only [Option.bind_some]
    by_cases h1 : 48 ≤ (c.toNat : Int) ∧ (c.toNat : Int) ≤ 57
    · obtain ⟨k2, hk2, e⟩ := spec_lead_loop s hs t (pre ++ [c]) k (by simp [h]) (by omega)
      refine ⟨k2, by simp only [List.length_cons]; omega, ?_⟩
      have hd : isDec c = true := decide_eq_true (by omega)
      rw [if_pos (decide_eq_true h1), ew2, e, List.takeWhile_cons, if_pos hd]
      congr 1
      simp only [List.length_append, List.length_cons, List.length_nil]
      omega
    · have hd : ¬ isDec c = true := fun h => h1 (by have := of_decide_eq_true h; omega)
      refine ⟨k, by simp only [List.length_cons]; omega, ?_⟩
      rw [if_neg (by simpa using h1), List.takeWhile_cons, if_neg hd]
      rfl
theorem spec_getDec (s : ByteArray) (hs : s.size ≤ 1048576) (k : Nat) (hk : 2 * s.size + 200 < k) : ∃ r, spec_GetDec.f k s = some r ∧ GD s r := by
  obtain ⟨k2, hk2, e⟩ := spec_lead_loop s (by omega) s.toList [] k rfl (by rw [tl_length]; omega)
  rw [tl_length] at hk2
  obtain ⟨k2, rfl⟩ : ∃ m, k2 = m + 1 := ⟨k2 - 1, by omega⟩
  simp only [List.length_nil, Nat.zero_add] at e
  have hle : (s.toList.takeWhile isDec).length ≤ s.size := by
    rw [← tl_length]
    exact (List.takeWhile_sublist _).length_le
  have hex : (s.extract 0 (s.toList.takeWhile isDec).length).toList = s.toList.takeWhile isDec := by
    rw [tl_extract, List.drop_zero]
    have h1 := List.takeWhile_append_dropWhile (p := isDec) (l := s.toList)
    generalize s.toList.takeWhile isDec = a at *
    rw [← h1, List.take_left' rfl]
  have hval := spec_value (s.extract 0 (s.toList.takeWhile isDec).length) (by rw [ByteArray.size_extract]; omega) 10 (by decide) (by decide) k2 (by rw [ByteArray.size_extract]; omega)
  rw [hex, show ((10 : Nat) : Int) = 10 from rfl] at hval
  obtain ⟨q, e2, l2⟩ := spec_putDec (valR 10 0 (s.toList.takeWhile isDec)) (s.size : Int) k2 (by omega)
  have hv : ∀ n, putDecM n (s.size : Int) = (s.toList, true) → valR 10 0 (s.toList.takeWhile isDec) = n := by
    intro n hn
    obtain ⟨n0, n1, z, hz⟩ := putDec_says hn
    obtain ⟨d1, d2⟩ := itoa_digits n n0
    rw [hz, lead_itoa n n0 z]
    unfold valR
    rw [if_pos ⟨d1, by omega⟩]
    exact d2
  obtain ⟨g1, g2⟩ := GD_of hv (q.1.toList, q.2) l2
  have hp : ((s.toList.takeWhile isDec).length : Int) ≤ (s.size : Int) := by omega
  have h0 : 0 ≤ ((s.toList.takeWhile isDec).length : Int) := by omega
  unfold spec_GetDec.f
  have e' : spec_GetDec.l0 k s 0 = spec_GetDec.j1 (k2 + 1) s ((s.toList.takeWhile isDec).length : Int) := e
  rw [e']
  simp only [spec_GetDec.j1]
  rw [if_pos h0, if_pos hp, Int.toNat_natCast, hval]
  simp only [Option.bind_some]
  rw [e2]
  simp only [Option.bind_some]
  by_cases c1 : q.2 = true
  · rw [if_pos c1]
    by_cases c2 : q.1.toList = s.toList
    · rw [if_pos c2]
      exact ⟨_, rfl, g1 c1 c2⟩
    · rw [if_neg c2]
      exact ⟨_, rfl, g2 (fun h => c2 h.2)⟩
  · rw [if_neg c1]
    exact ⟨_, rfl, g2 (fun h => c1 h.1)⟩

/-- The number of bytes by 256, if it is at most MaxNum. -/
def bigFold : List UInt8 → Int → Option Int
  | [], n => some n
  | b :: l, n => if n * 256 + (b.toNat : Int) > 9007199254740991 then none else bigFold l (n * 256 + (b.toNat : Int))
theorem bigFold_bounds : ∀ (l : List UInt8) (n r : Int), 0 ≤ n → n ≤ 9007199254740991 → bigFold l n = some r → 0 ≤ r ∧ r ≤ 9007199254740991
  | [], n, r, h0, h1, h => by
    simp only [bigFold, Option.some.injEq] at h
    omega
  | b :: l, n, r, h0, h1, h => by
    have hb := b.toNat_lt
    unfold bigFold at h
    split at h
    · cases h
    · exact bigFold_bounds l _ r (by omega) (by omega) h
def pairOf : Option Int → Int × Bool
  | some r => (r, true)
  | none => (0, false)
/-- The number behind a byte of 128. -/
def getBigM (s : ByteArray) : Option Int := if (2 ≤ s.size ∧ s.size ≤ 20) ∧ bt s 0 = 128 then bigFold (s.toList.drop 1) 0 else none

theorem impl_big_loop (s : ByteArray) (hs : s.size ≤ 140737488351232) : ∀ (d k : Nat) (n i : Int), 0 ≤ i → (s.size : Int) - i = d → d < k → 0 ≤ n → n ≤ 9007199254740991 → impl_GetBig.l0 k s n i = some (pairOf (bigFold (s.toList.drop i.toNat) n)) := by
  intro d
  induction d with
  | zero =>
    intro k n i h0 hd hk ha hb
    obtain ⟨k, rfl⟩ : ∃ m, k = m + 1 := ⟨k - 1, by omega⟩
    simp only [impl_GetBig.l0]
    rw [if_neg (by omega), List.drop_eq_nil_of_le (by rw [tl_length]; omega)]
    rfl
  | succ d ih =>
    intro k n i h0 hd hk ha hb
    obtain ⟨k, rfl⟩ : ∃ m, k = m + 1 := ⟨k - 1, by omega⟩
    simp only [impl_GetBig.l0]
    obtain ⟨b, e, hbt⟩ := bt_step s i h0 (by omega)
    have hlt := b.toNat_lt
    have e1 : wrap64 (b.toNat : Int) = (b.toNat : Int) := w64 (by omega) (by omega)
    have e5 : wrap64 (n * 256) = n * 256 := w64 (by omega) (by omega)
    have e6 := bits_or_join 8 (n * 256) (b.toNat : Int) (by omega) (by omega) (by omega) (by omega) (by omega) (by omega)
    have e7 : wrap64 (i + 1) = i + 1 := w64 (by omega) (by omega)
    rw [if_pos (by omega), if_pos h0, hbt, e1, e5, e6, e7, e]
    simp only [bigFold]
    by_cases h : n * 256 + (b.toNat : Int) > 9007199254740991
    · rw [if_pos h, if_pos h]; rfl
    · rw [if_neg h, if_neg h]
      exact ih k _ _ (by omega) (by omega) (by omega) (by omega) (by omega)
theorem impl_getBig (s : ByteArray) (k : Nat) (hk : 24 < k) : impl_GetBig.f k s = some (pairOf (getBigM s)) := by
  obtain ⟨k, rfl⟩ : ∃ m, k = m + 1 := ⟨k - 1, by omega⟩
  unfold impl_GetBig.f getBigM
  rw [within_eq]
  simp only [Option.bind_some]
  by_cases h : 2 ≤ (s.size : Int) ∧ (s.size : Int) ≤ 20
  · rw [if_pos (by simpa using h), if_pos (show 0 < (s.size : Int) by omega)]
    by_cases h1 : bt s 0 = 128
    · rw [if_pos ⟨⟨by omega, by omega⟩, h1⟩, h1]
      simp only [impl_GetBig.j0]
      rw [if_neg (by decide)]
      exact impl_big_loop s (by omega) (s.size - 1) k 0 1 (by omega) (by omega) (by omega) (by omega) (by omega)
    · rw [if_neg (fun h => h1 h.2), show ((bt s 0) != 128) = true from bne_iff_ne.2 h1]
      simp only [impl_GetBig.j0]
      rfl
  · rw [if_neg (by simpa using h), if_neg (fun h' => h ⟨by omega, by omega⟩)]
    simp only [impl_GetBig.j0]
    rfl

theorem spec_big_loop (s : ByteArray) (hs : s.size ≤ 140737488351232) : ∀ (d k : Nat) (n i : Int), 0 ≤ i → (s.size : Int) - i = d → d < k → 0 ≤ n → n ≤ 9007199254740991 → spec_GetBig.l0 k s n i = some (pairOf (bigFold (s.toList.drop i.toNat) n)) := by
  intro d
  induction d with
  | zero =>
    intro k n i h0 hd hk ha hb
    obtain ⟨k, rfl⟩ : ∃ m, k = m + 1 := ⟨k - 1, by omega⟩
    simp only [spec_GetBig.l0]
    rw [if_neg (by omega), List.drop_eq_nil_of_le (by rw [tl_length]; omega)]
    rfl
  | succ d ih =>
    intro k n i h0 hd hk ha hb
    obtain ⟨k, rfl⟩ : ∃ m, k = m + 1 := ⟨k - 1, by omega⟩
    simp only [spec_GetBig.l0]
    obtain ⟨b, e, hbt⟩ := bt_step s i h0 (by omega)
    have hlt := b.toNat_lt
    have e1 : wrap64 (b.toNat : Int) = (b.toNat : Int) := w64 (by omega) (by omega)
    have e2 : wrap64 (9007199254740991 - (b.toNat : Int)) = 9007199254740991 - (b.toNat : Int) := w64 (by omega) (by omega)
    have e3 : Int.tdiv (9007199254740991 - (b.toNat : Int)) 256 = (9007199254740991 - (b.toNat : Int)) / 256 := Int.tdiv_eq_ediv_of_nonneg (by omega)
    have e4 : wrap64 ((9007199254740991 - (b.toNat : Int)) / 256) = (9007199254740991 - (b.toNat : Int)) / 256 := w64 (by omega) (by omega)
    have e5 : wrap64 (n * 256) = n * 256 := w64 (by omega) (by omega)
    have e6 : wrap64 (n * 256 + (b.toNat : Int)) = n * 256 + (b.toNat : Int) := w64 (by omega) (by omega)
    have e7 : wrap64 (i + 1) = i + 1 := w64 (by omega) (by omega)
    rw [if_pos (by omega), if_pos h0, hbt, e1, e2, e3, e4, e5, e6, e7, e]
    simp only [bigFold]
    by_cases h : n * 256 + (b.toNat : Int) > 9007199254740991
    · rw [if_pos (by omega), if_pos h]; rfl
    · rw [if_neg (by omega), if_neg h]
      exact ih k _ _ (by omega) (by omega) (by omega) (by omega) (by omega)
theorem spec_getBig (s : ByteArray) (k : Nat) (hk : 24 < k) : spec_GetBig.f k s = some (pairOf (getBigM s)) := by
  obtain ⟨k, rfl⟩ : ∃ m, k = m + 1 := ⟨k - 1, by omega⟩
  unfold spec_GetBig.f getBigM
  rw [in_eq]
  simp only [Option.bind_some]
  by_cases h : 2 ≤ (s.size : Int) ∧ (s.size : Int) ≤ 20
  · rw [if_pos (by simpa using h), if_pos (show 0 < (s.size : Int) by omega)]
    by_cases h1 : bt s 0 = 128
    · rw [if_pos ⟨⟨by omega, by omega⟩, h1⟩, h1]
      simp only [spec_GetBig.j0]
      rw [if_neg (by decide)]
      exact spec_big_loop s (by omega) (s.size - 1) k 0 1 (by omega) (by omega) (by omega) (by omega) (by omega)
    · rw [if_neg (fun h => h1 h.2), show ((bt s 0) != 128) = true from bne_iff_ne.2 h1]
      simp only [spec_GetBig.j0]
      rfl
  · rw [if_neg (by simpa using h), if_neg (fun h' => h ⟨by omega, by omega⟩)]
    simp only [spec_GetBig.j0]
    rfl

/-- So many digits by 256, the greatest first. -/
def beI : Nat → Int → List Int → List Int
  | 0, _, acc => acc
  | j + 1, n, acc => beI j (n / 256) (n % 256 :: acc)
theorem beI_length : ∀ (j : Nat) (n : Int) (acc : List Int), (beI j n acc).length = j + acc.length
  | 0, _, acc => by simp [beI]
  | j + 1, n, acc => by
    rw [beI, beI_length j]
    simp only [List.length_cons]
    omega
theorem tl_cons (b : UInt8) (xs : List Int) : ((⟨#[b]⟩ : ByteArray) ++ strOfNums xs).toList = b :: (strOfNums xs).toList := by
  rw [tl_append]
  rw [show (⟨#[b]⟩ : ByteArray).toList = [b] from tl_mk [b]]
  rfl
/-- What is put, or nothing. -/
def putBigM (n w : Int) : ByteArray × Bool := if (0 ≤ n ∧ n ≤ 9007199254740991) ∧ (2 ≤ w ∧ w ≤ 20) ∧ n / 256 ^ (w - 1).toNat = 0 then (strOfNums (128 :: beI (w - 1).toNat n []), true) else ((⟨#[]⟩ : ByteArray), false)
theorem spec_putBig_loop (w : Int) (hw : w ≤ 20) : ∀ (j k : Nat) (m i : Int) (acc : List Int), w - i = j → 0 ≤ i → j < k → acc.length + j ≤ 100 → 0 ≤ m → m ≤ 9007199254740991 →
    spec_PutBig.l0 k w acc m i = (if m / 256 ^ j > 0 then (some ((⟨#[]⟩ : ByteArray), false)) else (some ((⟨#[128]⟩ : ByteArray) ++ strOfNums (beI j m acc), true))) := by
  intro j
  induction j with
  | zero =>
    intro k m i acc h0 hi hk hl hm hm2
    obtain ⟨k, rfl⟩ : ∃ q, k = q + 1 := ⟨k - 1, by omega⟩
    simp only [spec_PutBig.l0]
    rw [if_neg (by omega), Int.pow_zero, Int.ediv_one]
    by_cases h : m > 0
    · rw [if_pos h, if_pos h]
    · rw [if_neg h, if_neg h, if_pos (by rw [strOfNums_size]; omega)]
      rfl
  | succ j ih =>
    intro k m i acc h0 hi hk hl hm hm2
    obtain ⟨k, rfl⟩ : ∃ q, k = q + 1 := ⟨k - 1, by omega⟩
    simp only [spec_PutBig.l0]
    have e1 : Int.tmod m 256 = m % 256 := Int.tmod_eq_emod_of_nonneg hm
    have e2 : Int.tdiv m 256 = m / 256 := Int.tdiv_eq_ediv_of_nonneg hm
    have e3 : wrap64 (m / 256) = m / 256 := w64 (by omega) (by omega)
    have e4 : wrap64 (i + 1) = i + 1 := w64 (by omega) (by omega)
    have e5 : m % 256 % 256 = m % 256 := by omega
    have e6 : m / 256 / 256 ^ j = m / 256 ^ (j + 1) := by
      rw [Int.ediv_ediv_of_nonneg (by omega : (0 : Int) ≤ 256), Int.pow_succ, Int.mul_comm]
    rw [if_pos (by omega), e1, e2, e3, e4, e5]
    simp only [Option.bind_some, List.length_cons, List.length_nil]
    rw [if_pos (by omega), ih k (m / 256) (i + 1) _ (by omega) (by omega) (by omega) (by simp only [List.length_append, List.length_cons, List.length_nil]; omega) (by omega) (by omega), e6]
    rfl
theorem spec_putBig (n w : Int) (k : Nat) (hk : 30 < k) : ∃ r, spec_PutBig.f k n w = some r ∧ r.1.toList = (putBigM n w).1.toList ∧ r.2 = (putBigM n w).2 := by
  obtain ⟨k, rfl⟩ : ∃ q, k = q + 1 := ⟨k - 1, by omega⟩
  unfold spec_PutBig.f putBigM
  rw [in_eq, in_eq]
  simp only [Option.bind_some]
  by_cases h1 : 0 ≤ n ∧ n ≤ 9007199254740991
  · by_cases h2 : 2 ≤ w ∧ w ≤ 20
    · rw [if_pos (by simpa using h1), decide_eq_true h2]
      simp only [spec_PutBig.j0, Bool.not_true, Bool.false_eq_true, if_false]
      obtain ⟨j, hj⟩ : ∃ j : Nat, w - 1 = j := ⟨(w - 1).toNat, by omega⟩
      have hj2 : (w - 1).toNat = j := by omega
      rw [spec_putBig_loop w h2.2 j k n 1 [] (by omega) (by omega) (by omega) (by simp only [List.length_nil]; omega) h1.1 h1.2, hj2]
      by_cases h3 : n / 256 ^ j > 0
      · rw [if_pos h3, if_neg (fun h => by omega)]
        exact ⟨_, rfl, rfl, rfl⟩
      · have h4 : 0 ≤ n / 256 ^ j := Int.ediv_nonneg h1.1 (Int.pow_nonneg (by omega))
        rw [if_neg h3, if_pos ⟨h1, h2, by omega⟩]
        exact ⟨_, rfl, by rw [tl_cons, tl_nums, tl_nums]; rfl, rfl⟩
    · rw [if_pos (by simpa using h1), decide_eq_false h2, if_neg (fun h => h2 h.2.1)]
      simp only [spec_PutBig.j0, Bool.not_false, if_true]
      exact ⟨_, rfl, rfl, rfl⟩
  · rw [if_neg (by simpa using h1), if_neg (fun h => h1 h.1)]
    simp only [spec_PutBig.j0, if_true]
    exact ⟨_, rfl, rfl, rfl⟩
theorem impl_putBig_loop : ∀ (i k : Nat) (n : Int) (xs : List Int), i < xs.length → xs.length ≤ 100 → i < k →
    impl_PutBig.l0 k n xs (i : Int) = some (strOfNums (xs.take 1 ++ beI i n (xs.drop (i + 1))), true) := by
  intro i
  induction i with
  | zero =>
    intro k n xs hi hl hk
    obtain ⟨k, rfl⟩ : ∃ q, k = q + 1 := ⟨k - 1, by omega⟩
    simp only [impl_PutBig.l0]
    rw [if_neg (by omega)]
    simp only [beI]
    rw [List.take_append_drop]
  | succ i ih =>
    intro k n xs hi hl hk
    obtain ⟨k, rfl⟩ : ∃ q, k = q + 1 := ⟨k - 1, by omega⟩
    simp only [impl_PutBig.l0]
    have e1 : ((i + 1 : Nat) : Int).toNat = i + 1 := rfl
    have e2 : wrap64 (((i + 1 : Nat) : Int) - 1) = (i : Int) := by rw [w64 (by omega) (by omega)]; omega
    rw [if_pos (by omega), if_pos (by omega), if_pos (by omega), e1, e2, ih k (n / 256) (xs.set (i + 1) (n % 256)) (by rw [List.length_set]; omega) (by rw [List.length_set]; omega) (by omega)]
    have e3 : (xs.set (i + 1) (n % 256)).take 1 = xs.take 1 := by
      rw [List.take_set_of_le (by omega)]
    have e4 : (xs.set (i + 1) (n % 256)).drop (i + 1) = n % 256 :: xs.drop (i + 1 + 1) := by
      rw [List.drop_eq_getElem_cons (by rw [List.length_set]; omega), List.getElem_set_self, List.drop_set_of_lt (by omega)]
    rw [e3, e4]
    rfl
theorem shr_pow (n : Int) (e : Nat) (he : e ≤ 64) : shr .i64 n (e : Int) = n / 2 ^ e := by
  unfold shr
  rw [Int.toNat_natCast, Nat.min_eq_left (show e ≤ IntKind.i64.bits from he)]
theorem impl_putBig (n w : Int) (k : Nat) (hk : 30 < k) : impl_PutBig.f k n w = some (putBigM n w) := by
  obtain ⟨k, rfl⟩ : ∃ q, k = q + 1 := ⟨k - 1, by omega⟩
  unfold impl_PutBig.f putBigM
  rw [within_eq, within_eq]
  simp only [Option.bind_some]
  by_cases h1 : 0 ≤ n ∧ n ≤ 9007199254740991
  · by_cases h2 : 2 ≤ w ∧ w ≤ 20
    · rw [if_pos (by simpa using h1), if_pos (by simpa using h2)]
      obtain ⟨j, hj⟩ : ∃ j : Nat, w - 1 = j := ⟨(w - 1).toNat, by omega⟩
      have hj2 : (w - 1).toNat = j := by omega
      have hw : w = ((j + 1 : Nat) : Int) := by omega
      have e1 : wrap64 (w - 1) = (j : Int) := by rw [w64 (by omega) (by omega)]; omega
      have e2 : wrap64 (8 * (j : Int)) = ((8 * j : Nat) : Int) := by rw [w64 (by omega) (by omega)]; omega
      have run : impl_PutBig.j0 (k + 1) n w false = some (strOfNums (128 :: beI j n []), true) := by
        simp only [impl_PutBig.j0, Bool.false_eq_true, if_false]
        have e3 : w.toNat = j + 1 := by omega
        rw [if_pos (by omega), e3, if_pos (by omega)]
        simp only [Option.bind_some, List.length_replicate]
        rw [if_pos (by omega), e1, impl_putBig_loop j k n _ (by rw [List.length_set, List.length_replicate]; omega) (by rw [List.length_set, List.length_replicate]; omega) (by omega)]
        have e4 : (List.set (List.replicate (j + 1) (0 : Int)) (Int.toNat 0) 128).take 1 = [128] := by
          rw [List.replicate_succ]
          rfl
        have e5 : (List.set (List.replicate (j + 1) (0 : Int)) (Int.toNat 0) 128).drop (j + 1) = [] := by
          apply List.drop_eq_nil_of_le
          rw [List.length_set, List.length_replicate]
          omega
        rw [e4, e5]
        rfl
      have e6 : (2 : Int) ^ (8 * j) = 256 ^ j := by
        rw [Int.pow_mul]
        rfl
      by_cases h3 : w < 8
      · rw [if_pos h3, e1, e2, if_pos (by omega), shr_pow n (8 * j) (by omega), e6, hj2]
        by_cases h4 : n / 256 ^ j = 0
        · rw [show ((n / 256 ^ j) != 0) = false from bne_eq_false_iff_eq.2 h4, run, if_pos ⟨h1, h2, h4⟩]
        · rw [show ((n / 256 ^ j) != 0) = true from bne_iff_ne.2 h4, if_neg (fun h => h4 h.2.2)]
          simp only [impl_PutBig.j0, if_true]
      · rw [if_neg h3, run, hj2]
        have h5 : (256 : Int) ^ 7 ≤ 256 ^ j := by
          obtain ⟨q, rfl⟩ : ∃ q, j = 7 + q := ⟨j - 7, by omega⟩
          rw [Int.pow_add]
          have : (0 : Int) < 256 ^ q := Int.pow_pos (by omega)
          have := Int.mul_le_mul_of_nonneg_left (show (1 : Int) ≤ 256 ^ q by omega) (show (0 : Int) ≤ 256 ^ 7 by decide)
          rw [Int.mul_one] at this
          exact this
        have h6 : n / 256 ^ j = 0 := Int.ediv_eq_zero_of_lt h1.1 (Int.lt_of_lt_of_le (by omega) h5)
        rw [if_pos ⟨h1, h2, h6⟩]
    · rw [if_pos (by simpa using h1), if_neg (by simpa using h2), if_neg (fun h => h2 h.2.1)]
      simp only [impl_PutBig.j0, if_true]
  · rw [if_neg (by simpa using h1), if_neg (fun h => h1 h.1)]
    simp only [impl_PutBig.j0, if_true]

/-! ### Numbers by 256 -/
def padC : Nat → Nat → List UInt8
  | 0, _ => []
  | w + 1, n => padC w (n / 256) ++ [UInt8.ofNat (n % 256)]
def valC : Nat → List UInt8 → Nat
  | acc, [] => acc
  | acc, c :: t => valC (acc * 256 + c.toNat) t
theorem padC_length : ∀ w n, (padC w n).length = w
  | 0, n => rfl
  | w + 1, n => by simp [padC, padC_length w]
theorem valC_append : ∀ (l1 l2 : List UInt8) (acc : Nat), valC acc (l1 ++ l2) = valC (valC acc l1) l2
  | [], l2, acc => rfl
  | c :: l1, l2, acc => by simp only [List.cons_append, valC]; exact valC_append l1 l2 _
theorem valC_padC : ∀ w n, n < 256 ^ w → valC 0 (padC w n) = n
  | 0, n, h => by
    have : n = 0 := by simpa using h
    subst this
    rfl
  | w + 1, n, h => by
    have hq : n / 256 < 256 ^ w := Nat.div_lt_of_lt_mul (by rw [Nat.mul_comm, ← Nat.pow_succ]; exact h)
    rw [padC, valC_append, valC_padC w _ hq]
    simp only [valC]
    rw [UInt8.toNat_ofNat']
    omega
theorem padC_valC : ∀ l : List UInt8, padC l.length (valC 0 l) = l ∧ valC 0 l < 256 ^ l.length := by
  intro l
  induction l using rev_ind with
  | h0 => exact ⟨rfl, by simp [valC]⟩
  | h1 l c ih =>
    obtain ⟨h1, h2⟩ := ih
    have hc := c.toNat_lt
    have e1 : (valC 0 l * 256 + c.toNat) / 256 = valC 0 l := by omega
    have e2 : (valC 0 l * 256 + c.toNat) % 256 = c.toNat := by omega
    rw [valC_append]
    simp only [valC, List.length_append, List.length_cons, List.length_nil, padC, e1, e2]
    rw [h1, UInt8.ofNat_toNat]
    refine ⟨rfl, ?_⟩
    rw [Nat.pow_succ]
    omega
theorem valC_ge : ∀ (t : List UInt8) (acc : Nat), acc ≤ valC acc t
  | [], acc => Nat.le_refl _
  | c :: t, acc => by
    simp only [valC]
    have h1 := valC_ge t (acc * 256 + c.toNat)
    omega
theorem bigFold_val : ∀ (l : List UInt8) (n : Nat), n ≤ 9007199254740991 → bigFold l (n : Int) = if valC n l ≤ 9007199254740991 then some ((valC n l : Nat) : Int) else none
  | [], n, h => by
    rw [if_pos (show valC n [] ≤ 9007199254740991 from h)]
    rfl
  | b :: l, n, h => by
    have e : valC n (b :: l) = valC (n * 256 + b.toNat) l := rfl
    rw [bigFold]
    by_cases c : (n : Int) * 256 + (b.toNat : Int) > 9007199254740991
    · have := valC_ge l (n * 256 + b.toNat)
      rw [if_pos c, if_neg (by rw [e]; omega)]
    · have ih := bigFold_val l (n * 256 + b.toNat) (by omega)
      rw [if_neg c, show (n : Int) * 256 + (b.toNat : Int) = ((n * 256 + b.toNat : Nat) : Int) by omega, ih]
      rfl
theorem beI_map : ∀ (j : Nat) (n : Int) (acc : List Int), 0 ≤ n → (beI j n acc).map (fun z => UInt8.ofNat z.toNat) = padC j n.toNat ++ acc.map (fun z => UInt8.ofNat z.toNat)
  | 0, n, acc, _ => by simp [beI, padC]
  | j + 1, n, acc, h => by
    rw [beI, beI_map j (n / 256) _ (by omega), padC, List.map_cons]
    rw [show (n / 256).toNat = n.toNat / 256 by omega, show (n % 256).toNat = n.toNat % 256 by omega]
    simp
theorem putBig_text (n : Int) (h0 : 0 ≤ n) (j : Nat) : (strOfNums (128 :: beI j n [])).toList = 128 :: padC j n.toNat := by
  rw [tl_nums, List.map_cons, beI_map j n [] h0]
  simp
theorem lt_of_div_zero (n : Int) (h0 : 0 ≤ n) (j : Nat) : n / 256 ^ j = 0 ↔ n.toNat < 256 ^ j := by
  obtain ⟨u, rfl⟩ := Int.eq_ofNat_of_zero_le h0
  rw [Int.toNat_natCast, show ((256 : Int) ^ j) = ((256 ^ j : Nat) : Int) by simp, ← Int.natCast_ediv]
  have hp : 0 < 256 ^ j := Nat.pow_pos (by decide)
  constructor
  · intro h
    have h1 : u / 256 ^ j = 0 := by omega
    exact (Nat.div_eq_zero_iff_lt hp).1 h1
  · intro h
    rw [Nat.div_eq_of_lt h]
    rfl
theorem big_get (n w : Int) (h : (putBigM n w).2 = true) : getBigM (putBigM n w).1 = some n ∧ ((putBigM n w).1.size : Int) = w := by
  unfold putBigM at h ⊢
  by_cases c : (0 ≤ n ∧ n ≤ 9007199254740991) ∧ (2 ≤ w ∧ w ≤ 20) ∧ n / 256 ^ (w - 1).toNat = 0
  · rw [if_pos c]
    obtain ⟨c1, c2, c3⟩ := c
    have hlt := (lt_of_div_zero n c1.1 _).1 c3
    have ht := putBig_text n c1.1 (w - 1).toNat
    have hsz : (strOfNums (128 :: beI (w - 1).toNat n [])).size = (w - 1).toNat + 1 := by
      rw [← tl_length, ht, List.length_cons, padC_length]
    refine ⟨?_, by rw [hsz]; omega⟩
    have hb : bt (strOfNums (128 :: beI (w - 1).toNat n [])) 0 = 128 := by
      have := bt_mid (s := strOfNums (128 :: beI (w - 1).toNat n [])) (pre := []) (b := 128) (t := padC (w - 1).toNat n.toNat) ht
      simpa using this
    unfold getBigM
    rw [if_pos ⟨by rw [hsz]; omega, hb⟩, ht, List.drop_succ_cons, List.drop_zero]
    have := bigFold_val (padC (w - 1).toNat n.toNat) 0 (by decide)
    rw [valC_padC _ _ hlt, if_pos (by omega)] at this
    rw [show ((0 : Nat) : Int) = 0 from rfl] at this
    rw [this]
    congr 1
    omega
  · rw [if_neg c] at h
    cases h
theorem big_put (s : ByteArray) (n : Int) (h : getBigM s = some n) : (putBigM n (s.size : Int)).1.toList = s.toList ∧ (putBigM n (s.size : Int)).2 = true := by
  unfold getBigM at h
  by_cases c : (2 ≤ s.size ∧ s.size ≤ 20) ∧ bt s 0 = 128
  · rw [if_pos c] at h
    obtain ⟨c1, c2⟩ := c
    have hv := bigFold_val (s.toList.drop 1) 0 (by decide)
    rw [show ((0 : Nat) : Int) = 0 from rfl, h] at hv
    by_cases c3 : valC 0 (s.toList.drop 1) ≤ 9007199254740991
    · rw [if_pos c3] at hv
      have hn : n = ((valC 0 (s.toList.drop 1) : Nat) : Int) := Option.some.inj hv
      obtain ⟨p1, p2⟩ := padC_valC (s.toList.drop 1)
      have hl : (s.toList.drop 1).length = ((s.size : Int) - 1).toNat := by rw [List.length_drop, tl_length]; omega
      rw [hl] at p1 p2
      have hn2 : n.toNat = valC 0 (s.toList.drop 1) := by omega
      have h0 : 0 ≤ n := by omega
      have ht := putBig_text n h0 ((s.size : Int) - 1).toNat
      rw [hn2, p1] at ht
      obtain ⟨x, hx, hbx⟩ := bt_step s 0 (by decide) (by omega)
      have e : s.toList = x :: s.toList.drop 1 := by simpa using hx
      have hx2 : x = 128 := u8_eq.1 (by rw [← hbx, c2]; rfl)
      unfold putBigM
      rw [if_pos ⟨by omega, by omega, (lt_of_div_zero n h0 _).2 (by rw [hn2]; exact p2)⟩]
      refine ⟨?_, rfl⟩
      show (strOfNums (128 :: beI ((s.size : Int) - 1).toNat n [])).toList = _
      rw [ht]
      rw [hx2] at e
      exact e.symm
    · rw [if_neg c3] at hv
      cases hv
  · rw [if_neg c] at h
    cases h

theorem reads_j2 (K : Nat) (hK : 1000 < K) (d : ByteArray) (x : Int) (dec : Bool) (g : ByteArray) (y : Int) (wide : Bool) (hd : GD d (x, dec)) (hg : (y, wide) = pairOf (getBigM g)) : laws_FnReads.j2 (K + 1) d x dec g y wide false = some true := by
  have big : ((impl_PutBig.f K y (g.size : Int)).bind fun bt304 => (if wide = true then (some (bt304.1.toList == g.toList)) else (some true)) : Option Bool) = some true := by
    rw [bind_of (impl_putBig y (g.size : Int) K (by omega))]
    cases hw : wide with
    | false => rw [if_neg Bool.false_ne_true]
    | true =>
      rw [hw] at hg
      cases hq : getBigM g with
      | none =>
        rw [hq] at hg
        cases (Prod.mk.inj hg).2
      | some z =>
        rw [hq] at hg
        have hz : y = z := (Prod.mk.inj hg).1
        rw [if_pos rfl, hz, (big_put g z hq).1]
        simp
  obtain ⟨r, e1, l1⟩ := impl_putDec x (d.size : Int)
  simp only [laws_FnReads.j2]
  rw [if_neg Bool.false_ne_true, bind_of e1]
  cases hc : dec with
  | false =>
    rw [if_neg Bool.false_ne_true]
    exact big
  | true =>
    rw [hc] at hd
    have h5 : putDecM x (d.size : Int) = (d.toList, true) := by
      by_cases c : ∃ n, putDecM n (d.size : Int) = (d.toList, true)
      · obtain ⟨n, hn⟩ := c
        have := (Prod.mk.inj (hd.1 n hn)).1
        rw [this]
        exact hn
      · have := hd.2 (fun n hn => c ⟨n, hn⟩)
        cases (Prod.mk.inj this).2
    rw [h5] at l1
    rw [if_pos rfl, if_pos (Prod.mk.inj l1).1]
    exact big
theorem FnReads : ∀ (l0 : List Int), l0.length ≤ 9223372036854775807 → (∀ x ∈ l0, (Lit.int .u8 x).wf = true) → ∃ k, laws_FnReads.f k l0 = some true := by
  intro b _ _
  by_cases hb : (b.length : Int) > 1048576
  · refine ⟨0, ?_⟩
    unfold laws_FnReads.f laws_big.f
    simp only [Option.bind_some]
    rw [if_pos (decide_eq_true hb)]
  obtain ⟨K, hK⟩ : ∃ K, 2000000 < K := ⟨_, Nat.lt_succ_self 2000000⟩
  refine ⟨K + 3, ?_⟩
  have hbig : laws_big.f b = some false := by
    unfold laws_big.f
    rw [decide_eq_false hb]
  obtain ⟨h0, n, i1, h1, w, i2, h2, e0, e1, e2, rn, rw_, s1, s2⟩ := numWide b (by omega) (K + 3) (by omega)
  obtain ⟨o2, f2, m2⟩ := spec_putOct n w (K + 3) (by omega)
  obtain ⟨x2, f4, m4⟩ := spec_putHex n (K + 3) (by omega)
  obtain ⟨c2, f6, m6⟩ := spec_putDec n w (K + 3) (by omega)
  obtain ⟨g2, f8, m8, m9⟩ := spec_putBig n w (K + 3) (by omega)
  have z1 := size_of m2 (putB_size 8 n w)
  have z2 := size_of m4 (putH_size n)
  have z3 := size_of m6 (putD_size n w)
  have z4 : g2.1.size ≤ 20 := by
    rw [← tl_length, m8, tl_length]
    unfold putBigM
    split
    · rename_i h
      rw [strOfNums_size, List.length_cons, beI_length]
      simp only [List.length_nil]
      omega
    · decide
  obtain ⟨o, i3, h3, b1, y1, _⟩ := bent_ok b (by omega) i2 h2 o2.1 (by omega) s2
  obtain ⟨h, i4, h4, b2, y2, _⟩ := bent_ok b (by omega) i1 h1 x2.1 (by omega) s1
  obtain ⟨d, i5, h5, b3, y3, _⟩ := bent_ok b (by omega) i2 h2 c2.1 (by omega) s2
  obtain ⟨g, i6, h6, b4, y4, _⟩ := bent_ok b (by omega) i2 h2 g2.1 (by omega) s2
  have d1 : spec_DrawGetOct.f (K + 3) b = some o := by unfold spec_DrawGetOct.f; rw [bind_of e0, bind_of e1, bind_of e2, bind_of f2, bind_of b1]
  have d2 : spec_DrawGetHex.f (K + 3) b = some h := by unfold spec_DrawGetHex.f; rw [bind_of e0, bind_of e1, bind_of f4, bind_of b2]
  have d3 : spec_DrawGetDec.f (K + 3) b = some d := by unfold spec_DrawGetDec.f; rw [bind_of e0, bind_of e1, bind_of e2, bind_of f6, bind_of b3]
  have d4 : spec_DrawGetBig.f (K + 3) b = some g := by unfold spec_DrawGetBig.f; rw [bind_of e0, bind_of e1, bind_of e2, bind_of f8, bind_of b4]
  have q1 := impl_getOct o (by omega)
  have q2 := spec_getOct o (by omega) (K + 3) (by omega)
  have q3 := impl_getHex h (by omega)
  have q4 := spec_getHex h (by omega) (K + 3) (by omega)
  obtain ⟨r5, q5, g5⟩ := impl_getDec d (by omega)
  obtain ⟨r6, q6, g6⟩ := spec_getDec d (by omega) (K + 3) (by omega)
  have q7 := impl_getBig g (K + 3) (by omega)
  have q8 := spec_getBig g (K + 3) (by omega)
  have e56 := GD_one g5 g6
  have ne : ∀ b : Bool, (b != b) = false := fun b => by cases b <;> rfl
  have J2 := reads_j2 K (by omega) d r5.1 r5.2 g (pairOf (getBigM g)).1 (pairOf (getBigM g)).2 g5 rfl
  have J1 : laws_FnReads.j1 (K + 2) h (getB 16 8 8 h.toList).1 (getB 16 8 8 h.toList).2 d r5.1 r5.2 g (pairOf (getBigM g)).1 (pairOf (getBigM g)).2 false = some true := by
    obtain ⟨r, e1, l1⟩ := impl_putHex (getB 16 8 8 h.toList).1
    simp only [laws_FnReads.j1]
    rw [if_neg Bool.false_ne_true, bind_of e1]
    by_cases hx : (getB 16 8 8 h.toList).2 = true
    · have hp := put_get 16 (by decide) h.toList 8 8 (by decide) (by decide) hx
      have hc : (8 ≤ h.toList.length ∧ h.toList.length ≤ 8) ∧ (∀ c ∈ h.toList, digOk 16 c = true) ∧ valM 16 0 h.toList ≤ 9007199254740991 := by
        by_cases c : (8 ≤ h.toList.length ∧ h.toList.length ≤ 8) ∧ (∀ c ∈ h.toList, digOk 16 c = true) ∧ valM 16 0 h.toList ≤ 9007199254740991
        · exact c
        · unfold getB at hx
          rw [if_neg c] at hx
          cases hx
      have hlen : h.toList.length = 8 := by omega
      have hlt := (padB_valM 16 (by decide) h.toList hc.2.1).2
      have hpow : (16 : Nat) ^ 8 = 4294967296 := by decide
      rw [hlen] at hlt hp
      have hr : 0 ≤ (getB 16 8 8 h.toList).1 ∧ (getB 16 8 8 h.toList).1 ≤ 4294967295 := by
        unfold getB
        rw [if_pos hc]
        show 0 ≤ ((valM 16 0 h.toList : Nat) : Int) ∧ ((valM 16 0 h.toList : Nat) : Int) ≤ 4294967295
        omega
      rw [if_pos hr] at l1
      have hp' : putB 16 (getB 16 8 8 h.toList).1 8 = (h.toList, true) := hp
      rw [hp'] at l1
      have q3 : (r.1.toList != h.toList) = false := by rw [(Prod.mk.inj l1).1]; simp
      rw [if_pos hx, q3]
      exact J2
    · rw [if_neg hx]
      exact J2
  have J0 : laws_FnReads.j0 (K + 3) o (getB 8 1 20 o.toList).1 (getB 8 1 20 o.toList).2 h (getB 16 8 8 h.toList).1 (getB 16 8 8 h.toList).2 d r5.1 r5.2 g (pairOf (getBigM g)).1 (pairOf (getBigM g)).2 false = some true := by
    obtain ⟨r, e1, l1⟩ := impl_putOct (getB 8 1 20 o.toList).1 (o.size : Int)
    simp only [laws_FnReads.j0]
    rw [if_neg Bool.false_ne_true, bind_of e1]
    by_cases hx : (getB 8 1 20 o.toList).2 = true
    · have hp := put_get 8 (by decide) o.toList 1 20 (by decide) (by decide) hx
      rw [tl_length] at hp
      rw [hp] at l1
      have q3 : (r.1.toList != o.toList) = false := by rw [(Prod.mk.inj l1).1]; simp
      rw [if_pos hx, q3]
      exact J1
    · rw [if_neg hx]
      exact J1
  unfold laws_FnReads.f
  rw [bind_of hbig, if_neg Bool.false_ne_true, bind_of d1, bind_of q1, bind_of q2, bind_of d2, bind_of q3, bind_of q4, bind_of d3, bind_of q5, bind_of q6, bind_of d4, bind_of q7, bind_of q8]
  rw [if_pos rfl, ne, if_neg Bool.false_ne_true, if_pos rfl, ne, if_neg Bool.false_ne_true, e56, if_pos rfl, ne, if_neg Bool.false_ne_true, if_pos rfl, ne, ← e56]
  exact J0

end Go.Proofs.YtdjepilhenijeaaGreatDoor.Pure
