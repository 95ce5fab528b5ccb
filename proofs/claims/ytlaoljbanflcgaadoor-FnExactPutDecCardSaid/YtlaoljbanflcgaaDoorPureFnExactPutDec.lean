/-
The pure statement of the law FnExactPutDec (numbers, byte strings and lists; no Go and no memory): the printed law's function answers true. Conditions: those of the printed statement (each string at most 2^47 - 4096 bytes, each number of its kind).
-/
import Derived.Test.YtlaoljbanflcgaaDoorPFnExactPutDecx1
import Derived.Test.YtlaoljbanflcgaaDoorCore
namespace Go.Proofs.YtlaoljbanflcgaaDoor.Pure
open Go.RowKit Go.Proofs.YtlaoljbanflcgaaDoor.PFnExactPutDec Go.Proofs.YtlaoljbanflcgaaDoorW.PrintWords Go.Proofs.YtlaoljbanflcgaaDoorW.PrintLast Go.Proofs.YtlaoljbanflcgaaDoor.Core
set_option linter.unusedVariables false
set_option linter.unusedSimpArgs false

theorem within_eq (a b c : Int) : impl_within.f a b c = some (decide (b ≤ a ∧ a ≤ c)) := by
  unfold impl_within.f
  by_cases h : b ≤ a
  · rw [if_pos h]; simp [h]
  · rw [if_neg h]; simp [h]

theorem in_eq (a b c : Int) : spec_l01In.f a b c = some (decide (b ≤ a ∧ a ≤ c)) := by
  unfold spec_l01In.f
  by_cases h : b ≤ a
  · rw [if_pos h]; simp [h]
  · rw [if_neg h]; simp [h]

/-! ### The digits of a number in a base -/
def hexD (d : Nat) : UInt8 := ([48, 49, 50, 51, 52, 53, 54, 55, 56, 57, 97, 98, 99, 100, 101, 102] : List UInt8).getD d 0
def digB (b : Nat) (u : Nat) : List UInt8 := if h : u = 0 ∨ b ≤ 1 then [] else digB b (u / b) ++ [hexD (u % b)]
termination_by u
decreasing_by exact Nat.div_lt_self (by omega) (by omega)
theorem digB_zero (b : Nat) : digB b 0 = [] := by rw [digB, dif_pos (Or.inl rfl)]
theorem digB_step (b u : Nat) (hb : 2 ≤ b) (h : 0 < u) : digB b u = digB b (u / b) ++ [hexD (u % b)] := by
  rw [digB, dif_neg (by omega)]
theorem hex_at (d : Nat) (h : d < 16) : ((⟨#[48, 49, 50, 51, 52, 53, 54, 55, 56, 57, 97, 98, 99, 100, 101, 102]⟩ : ByteArray).extract d (d + 1)).toList = [hexD d] := by
  rw [tl_extract, tl]
  have : d = 0 ∨ d = 1 ∨ d = 2 ∨ d = 3 ∨ d = 4 ∨ d = 5 ∨ d = 6 ∨ d = 7 ∨ d = 8 ∨ d = 9 ∨ d = 10 ∨ d = 11 ∨ d = 12 ∨ d = 13 ∨ d = 14 ∨ d = 15 := by omega
  rcases this with rfl | rfl | rfl | rfl | rfl | rfl | rfl | rfl | rfl | rfl | rfl | rfl | rfl | rfl | rfl | rfl <;> rfl
theorem spec_digits_loop (b : Nat) (hb : 2 ≤ b) (hb2 : b ≤ 16) : ∀ (j u k : Nat) (acc : ByteArray), j ≤ 60 → u < 2 ^ j → u ≤ 9007199254740991 → j < k → acc.size + j ≤ 1000 →
    ∃ r, spec_l01Digits.l0 k (u : Int) (b : Int) acc = some r ∧ r.toList = digB b u ++ acc.toList := by
  intro j
  induction j with
  | zero =>
    intro u k acc hj hu hm hk ha
    obtain ⟨k, rfl⟩ : ∃ m, k = m + 1 := ⟨k - 1, by omega⟩
    obtain rfl : u = 0 := by simpa using hu
    unfold spec_l01Digits.l0
    rw [if_neg (by decide)]
    exact ⟨acc, rfl, by rw [digB_zero]; rfl⟩
  | succ j ih =>
    intro u k acc hj hu hm hk ha
    obtain ⟨k, rfl⟩ : ∃ m, k = m + 1 := ⟨k - 1, by omega⟩
    unfold spec_l01Digits.l0
    by_cases h0 : u = 0
    · subst h0
      rw [if_neg (by decide)]
      exact ⟨acc, rfl, by rw [digB_zero]; rfl⟩
    · have hmod : u % b < b := Nat.mod_lt _ (by omega)
      have hd := hex_at (u % b) (by omega)
      have hs : ((⟨#[48, 49, 50, 51, 52, 53, 54, 55, 56, 57, 97, 98, 99, 100, 101, 102]⟩ : ByteArray).extract (u % b) (u % b + 1)).size = 1 := by rw [← tl_length, hd]; rfl
      have hq : u / b < 2 ^ j := by
        rw [Nat.pow_succ] at hu
        exact Nat.div_lt_of_lt_mul (by
          have : 2 ^ j * 2 ≤ b * 2 ^ j := by rw [Nat.mul_comm]; exact Nat.mul_le_mul_right _ hb
          omega)
      have hq2 : u / b ≤ u := Nat.div_le_self _ _
      have t1 : Int.tmod (u : Int) (b : Int) = ((u % b : Nat) : Int) := by
        rw [Int.tmod_eq_emod_of_nonneg (by omega), Int.natCast_emod]
      have t2 : Int.tdiv (u : Int) (b : Int) = ((u / b : Nat) : Int) := by
        rw [Int.tdiv_eq_ediv_of_nonneg (by omega), Int.natCast_ediv]
      have hstep := digB_step b u hb (by omega)
      rw [t1, t2, hstep]
      clear t1 t2 hstep
      generalize u / b = q at *
      generalize u % b = m at *
      rw [w64 (n := (m : Int) + 1) (by omega) (by omega), w64 (n := (q : Int)) (by omega) (by omega)]
      rw [show ((m : Int) + 1).toNat = m + 1 by omega, Int.toNat_natCast]
      rw [if_pos (by omega), if_neg (by omega), if_pos (by omega), if_pos (by omega), if_pos (by omega), if_pos (by rw [hs]; omega)]
      obtain ⟨r, e, l⟩ := ih q k (((⟨#[48, 49, 50, 51, 52, 53, 54, 55, 56, 57, 97, 98, 99, 100, 101, 102]⟩ : ByteArray).extract m (m + 1)) ++ acc) (by omega) hq (by omega) (by omega) (by rw [ByteArray.size_append, hs]; omega)
      refine ⟨r, e, ?_⟩
      rw [l, tl_append, hd]
      simp
def numB (b u : Nat) : List UInt8 := if u = 0 then [48] else digB b u
theorem spec_digits (b : Nat) (hb : 2 ≤ b) (hb2 : b ≤ 16) (n : Int) (h0 : 0 ≤ n) (h1 : n ≤ 9007199254740991) (k : Nat) (hk : 60 < k) : ∃ r, spec_l01Digits.f k n (b : Int) = some r ∧ r.toList = numB b n.toNat := by
  obtain ⟨u, rfl⟩ := Int.eq_ofNat_of_zero_le h0
  unfold spec_l01Digits.f numB
  rw [Int.toNat_natCast]
  by_cases hz : u = 0
  · rw [if_pos (by omega), if_pos hz]
    exact ⟨_, rfl, by rw [tl]⟩
  · rw [if_neg (by omega), if_neg hz]
    obtain ⟨r, e, l⟩ := spec_digits_loop b hb hb2 60 u k (⟨#[]⟩ : ByteArray) (by decide) (by omega) (by omega) hk (by decide)
    refine ⟨r, e, ?_⟩
    have hn : (⟨#[]⟩ : ByteArray).toList = [] := by rw [tl]
    rw [l, hn, List.append_nil]
theorem hexD_dec (d : Nat) (h : d < 10) : hexD d = UInt8.ofNat (48 + d) := by
  have : d = 0 ∨ d = 1 ∨ d = 2 ∨ d = 3 ∨ d = 4 ∨ d = 5 ∨ d = 6 ∨ d = 7 ∨ d = 8 ∨ d = 9 := by omega
  rcases this with rfl | rfl | rfl | rfl | rfl | rfl | rfl | rfl | rfl | rfl <;> rfl

theorem digB_dec (u : Nat) (h : 0 < u) : digB 10 u = Lib.decDigits u := by
  induction u using Nat.strongRecOn with
  | _ u ih =>
    rw [digB_step 10 u (by decide) h, Lib.decDigits, hexD_dec _ (Nat.mod_lt _ (by decide))]
    by_cases c : u < 10
    · rw [dif_pos c, show u / 10 = 0 by omega, digB_zero, Nat.mod_eq_of_lt c]
      rfl
    · rw [dif_neg c, ih (u / 10) (by omega) (by omega)]
theorem numB_dec (n : Int) (h0 : 0 ≤ n) : numB 10 n.toNat = Lib.itoa n := by
  unfold numB Lib.itoa
  rw [if_neg (show ¬ n < 0 by omega)]
  by_cases hz : n.toNat = 0
  · rw [if_pos hz, hz, Lib.decDigits]
    rfl
  · rw [if_neg hz, digB_dec _ (by omega)]

theorem repeat_one (c : UInt8) : ∀ n : Nat, Lib.repeatL [c] n = List.replicate n c
  | 0 => rfl
  | n + 1 => by
    simp only [Lib.repeatL, repeat_one c n, List.replicate_succ]
    rfl
theorem lib_repeat (c : UInt8) (n : Int) (h0 : 0 ≤ n) (h1 : n ≤ 1048576) : ∃ r, strings_Repeat.f (⟨#[c]⟩ : ByteArray) n = some r ∧ r.toList = List.replicate n.toNat c := by
  have hs : (⟨#[c]⟩ : ByteArray).size = 1 := rfl
  unfold strings_Repeat.f
  rw [if_pos ⟨h0, by omega, by rw [hs]; omega⟩]
  refine ⟨_, rfl, ?_⟩
  rw [tl_mk]
  exact repeat_one c _

/-- A number in a field of so many bytes, filled with spaces. -/
def putDecM (n w : Int) : List UInt8 × Bool :=
  if ((0 ≤ n ∧ n ≤ 9007199254740991) ∧ (1 ≤ w ∧ w ≤ 20)) ∧ ((Lib.itoa n).length : Int) ≤ w then (Lib.itoa n ++ List.replicate (w - ((Lib.itoa n).length : Int)).toNat 32, true) else ([], false)
theorem spec_pad_loop (w : Int) (hw : w ≤ 20) : ∀ (d k : Nat) (s : ByteArray), (s.size : Int) + d = w → d < k → ∃ r, spec_PutDec.l0 k w s = some (r, true) ∧ r.toList = s.toList ++ List.replicate d 32 := by
  intro d
  induction d with
  | zero =>
    intro k s hs hk
    obtain ⟨k, rfl⟩ : ∃ m, k = m + 1 := ⟨k - 1, by omega⟩
    unfold spec_PutDec.l0
    rw [if_neg (by omega)]
    exact ⟨s, rfl, by simp⟩
  | succ d ih =>
    intro k s hs hk
    obtain ⟨k, rfl⟩ : ∃ m, k = m + 1 := ⟨k - 1, by omega⟩
    have e1 : (s ++ (⟨#[32]⟩ : ByteArray)).size = s.size + 1 := by rw [ByteArray.size_append]; rfl
    have e2 : (s ++ (⟨#[32]⟩ : ByteArray)).toList = s.toList ++ [32] := by rw [tl_append, tl (⟨#[32]⟩ : ByteArray)]
    obtain ⟨r, e, l⟩ := ih k (s ++ (⟨#[32]⟩ : ByteArray)) (by omega) (by omega)
    unfold spec_PutDec.l0
    rw [if_pos (by omega), if_pos (by omega)]
    refine ⟨r, e, ?_⟩
    rw [l, e2, List.replicate_succ]
    simp
theorem spec_putDec (n w : Int) (k : Nat) (hk : 100 < k) : ∃ r, spec_PutDec.f k n w = some r ∧ (r.1.toList, r.2) = putDecM n w := by
  obtain ⟨k, rfl⟩ : ∃ m, k = m + 1 := ⟨k - 1, by omega⟩
  have hn : (⟨#[]⟩ : ByteArray).toList = [] := by rw [tl]
  have stay : spec_PutDec.j0 (k + 1) n w true = some ((⟨#[]⟩ : ByteArray), false) := by simp [spec_PutDec.j0]
  unfold spec_PutDec.f putDecM
  rw [in_eq, in_eq]
  simp only [Option.bind_some]
  by_cases h1 : 0 ≤ n ∧ n ≤ 9007199254740991
  · rw [if_pos (decide_eq_true h1)]
    by_cases h2 : 1 ≤ w ∧ w ≤ 20
    · rw [decide_eq_true h2]
      simp only [spec_PutDec.j0]
      obtain ⟨t, e, l⟩ := spec_digits 10 (by decide) (by decide) n h1.1 h1.2 k (by omega)
      rw [numB_dec n h1.1] at l
      have hs : t.size = (Lib.itoa n).length := by rw [← l, tl_length]
      rw [show ((10 : Nat) : Int) = 10 from rfl] at e
      rw [if_neg (by decide), e]
      simp only [Option.bind_some]
      by_cases h3 : (t.size : Int) > w
      · rw [if_pos h3, if_neg (fun h => by have := h.2; omega)]
        exact ⟨_, rfl, by rw [hn]⟩
      · rw [if_neg h3, if_pos ⟨⟨h1, h2⟩, by omega⟩]
        obtain ⟨r, e2, l2⟩ := spec_pad_loop w h2.2 (w - (t.size : Int)).toNat k t (by omega) (by omega)
        refine ⟨_, e2, ?_⟩
        rw [l2, l, hs]
    · rw [decide_eq_false h2, if_neg (fun h => h2 h.1.2)]
      exact ⟨_, stay, by rw [hn]⟩
  · rw [if_neg (by simpa using h1), if_neg (fun h => h1 h.1.1)]
    exact ⟨_, stay, by rw [hn]⟩
theorem base10 (n : Int) (h0 : 0 ≤ n) (h1 : n ≤ 9007199254740991) : ∃ t, impl_inBase.f n 10 = some t ∧ t.toList = Lib.itoa n := by
  unfold impl_inBase.f strconv_FormatInt.f
  rw [if_pos ⟨rfl, by omega, by omega⟩]
  exact ⟨_, rfl, tl_mk _⟩
theorem impl_putDec (n w : Int) : ∃ r, impl_PutDec.f n w = some r ∧ (r.1.toList, r.2) = putDecM n w := by
  have hn : (⟨#[]⟩ : ByteArray).toList = [] := by rw [tl]
  unfold impl_PutDec.f impl_isField.f putDecM
  rw [within_eq, within_eq]
  simp only [Option.bind_some]
  by_cases h1 : 0 ≤ n ∧ n ≤ 9007199254740991
  · rw [if_pos (decide_eq_true h1)]
    by_cases h2 : 1 ≤ w ∧ w ≤ 20
    · rw [if_pos (decide_eq_true h2)]
      obtain ⟨t, e, l⟩ := base10 n h1.1 h1.2
      have hs : t.size = (Lib.itoa n).length := by rw [← l, tl_length]
      rw [e]
      simp only [Option.bind_some]
      by_cases h3 : (t.size : Int) ≤ w
      · rw [if_pos (decide_eq_true h3), if_pos ⟨⟨h1, h2⟩, by omega⟩]
        unfold impl_spaces.f
        have hm : mx (wrap64 (w - (t.size : Int))) 0 = w - (t.size : Int) := by
          rw [w64 (by omega) (by omega)]
          unfold mx
          omega
        obtain ⟨p, e2, l2⟩ := lib_repeat 32 (w - (t.size : Int)) (by omega) (by omega)
        have hp : p.size ≤ 20 := by rw [← tl_length, l2, List.length_replicate]; omega
        rw [hm, e2]
        simp only [Option.bind_some]
        rw [if_pos (by omega)]
        refine ⟨_, rfl, ?_⟩
        show ((t ++ p).toList, true) = _
        rw [tl_append, l, l2, hs]
      · rw [if_neg (by simpa using h3), if_neg (fun h => by have := h.2; omega)]
        exact ⟨_, rfl, by rw [hn]⟩
    · rw [if_neg (by simpa using h2), if_neg (fun h => h2 h.1.2)]
      exact ⟨_, rfl, by rw [hn]⟩
  · rw [if_neg (by simpa using h1), if_neg (fun h => h1 h.1.1)]
    exact ⟨_, rfl, by rw [hn]⟩

theorem FnExactPutDec : laws_FnExactPutDec.Pure := by
  intro n w _ _
  obtain ⟨r1, e1, l1⟩ := spec_putDec n w 101 (by decide)
  obtain ⟨r2, e2, l2⟩ := impl_putDec n w
  have hh : (r2.1.toList, r2.2) = (r1.1.toList, r1.2) := l2.trans l1.symm
  refine ⟨101, ?_⟩
  unfold laws_FnExactPutDec.f
  rw [e1, e2]
  simp only [Option.bind_some]
  rw [if_pos (Prod.mk.inj hh).1, (Prod.mk.inj hh).2]
  simp

end Go.Proofs.YtlaoljbanflcgaaDoor.Pure
