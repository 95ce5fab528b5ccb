/-
The pure statement of the law FnWords (numbers, byte strings and lists; no Go and no memory): the printed law's function answers true. Conditions: those of the printed statement (each string at most 2^47 - 4096 bytes, each number of its kind).
-/
import Derived.Test.YtfmhajlpaelmeaaPFnWordsx2
import Derived.Test.YtfmhajlpaelmeaaCore
namespace Go.Proofs.Ytfmhajlpaelmeaa.Pure
open Go.RowKit Go.Proofs.Ytfmhajlpaelmeaa.PFnWords Go.Proofs.YtfmhajlpaelmeaaW.PrintWords Go.Proofs.YtfmhajlpaelmeaaW.PrintLast Go.Proofs.Ytfmhajlpaelmeaa.Core

/-- A cursor's place is one of its bytes, or behind them. -/
def St (b : List Int) (i : Int) : Prop := 0 ≤ i ∧ i ≤ (b.length : Int)
theorem byte_ok (b : List Int) (hb : b.length ≤ 140737488351232) (i h : Int) (hi : St b i) : ∃ x i' h', spec_l01Byte.f b i h = some (x, i', h') ∧ (0 ≤ x ∧ x ≤ 255) ∧ St b i' := by
  unfold St at hi
  have m : ∀ z : Int, Go.bits .and .i64 z 255 = z % 256 := fun z => bits_and_mask z 8 (by decide)
  unfold spec_l01Byte.f
  by_cases h1 : i < (b.length : Int)
  · rw [if_pos h1, if_pos hi.1, w64 (n := i + 1) (by omega) (by omega)]
    refine ⟨_, _, _, rfl, ?_, ⟨by omega, by omega⟩⟩
    rw [m]
    omega
  · rw [if_neg h1]
    refine ⟨_, _, _, rfl, ?_, hi⟩
    rw [m]
    omega
theorem below_ok (b : List Int) (hb : b.length ≤ 140737488351232) (i h n : Int) (hn : n ≤ 9223372036854775807) (hi : St b i) : ∃ x i' h', spec_l01Below.f b i h n = some (x, i', h') ∧ (0 ≤ x ∧ (0 < n → x < n)) ∧ St b i' := by
  unfold spec_l01Below.f
  by_cases h0 : n ≤ 0
  · rw [if_pos h0]
    exact ⟨_, _, _, rfl, ⟨by omega, by omega⟩, hi⟩
  · rw [if_neg h0]
    obtain ⟨x1, i1, h1, e1, b1, s1⟩ := byte_ok b hb i h hi
    rw [e1]
    simp only [Option.bind_some]
    by_cases h2 : n ≤ 256
    · rw [if_pos h2, if_neg (by omega)]
      refine ⟨_, _, _, rfl, ?_, s1⟩
      rw [Int.tmod_eq_emod_of_nonneg b1.1]
      exact ⟨Int.emod_nonneg _ (by omega), fun _ => Int.emod_lt_of_pos _ (by omega)⟩
    · rw [if_neg h2]
      obtain ⟨x2, i2, h2', e2, b2, s2⟩ := byte_ok b hb i1 h1 s1
      obtain ⟨x3, i3, h3, e3, b3, s3⟩ := byte_ok b hb i2 h2' s2
      obtain ⟨x4, i4, h4, e4, b4, s4⟩ := byte_ok b hb i3 h3 s3
      rw [e2]
      simp only [Option.bind_some]
      rw [e3]
      simp only [Option.bind_some]
      rw [e4]
      simp only [Option.bind_some]
      rw [if_neg (by omega)]
      refine ⟨_, _, _, rfl, ?_, s4⟩
      have w1 : wrap64 (x1 * 16777216) = x1 * 16777216 := w64 (by omega) (by omega)
      have w2 : wrap64 (x2 * 65536) = x2 * 65536 := w64 (by omega) (by omega)
      have w3 : wrap64 (x3 * 256) = x3 * 256 := w64 (by omega) (by omega)
      have w4 : wrap64 (x1 * 16777216 + x2 * 65536) = x1 * 16777216 + x2 * 65536 := w64 (by omega) (by omega)
      have w5 : wrap64 (x1 * 16777216 + x2 * 65536 + x3 * 256) = x1 * 16777216 + x2 * 65536 + x3 * 256 := w64 (by omega) (by omega)
      have w6 : wrap64 (x1 * 16777216 + x2 * 65536 + x3 * 256 + x4) = x1 * 16777216 + x2 * 65536 + x3 * 256 + x4 := w64 (by omega) (by omega)
      rw [w1, w2, w3, w4, w5, w6, Int.tmod_eq_emod_of_nonneg (by omega)]
      exact ⟨Int.emod_nonneg _ (by omega), fun _ => Int.emod_lt_of_pos _ (by omega)⟩
theorem once_ok (b : List Int) (hb : b.length ≤ 140737488351232) (i h n : Int) (hn : n ≤ 9223372036854775807) (hi : St b i) : ∃ (x : Bool) (i' h' : Int), spec_l01Once.f b i h n = some (x, i', h') ∧ St b i' := by
  obtain ⟨x, i', h', e, _, s⟩ := below_ok b hb i h n hn hi
  unfold spec_l01Once.f
  rw [e]
  exact ⟨_, _, _, rfl, s⟩
theorem rd_mem (l : List Int) (j : Int) (h0 : 0 ≤ j) (h1 : j < (l.length : Int)) : rd l j ∈ l := by
  unfold rd
  rw [List.getD_eq_getElem?_getD, List.getElem?_eq_getElem (by omega)]
  exact List.getElem_mem _
theorem pickInt_ok (b : List Int) (hb : b.length ≤ 140737488351232) (i h : Int) (l : List Int) (hl : 0 < l.length) (hl2 : l.length ≤ 9223372036854775807) (hi : St b i) : ∃ x i' h', spec_l01PickInt.f b i h l = some (x, i', h') ∧ x ∈ l ∧ St b i' := by
  obtain ⟨x, i', h', e, r, s⟩ := below_ok b hb i h (l.length : Int) (by omega) hi
  unfold spec_l01PickInt.f
  rw [e]
  simp only [Option.bind_some]
  have := r.2 (by omega)
  rw [if_pos r.1, if_pos this]
  exact ⟨_, _, _, rfl, rd_mem l x r.1 this, s⟩
theorem new_loop (b : List Int) (_hb : b.length ≤ 140737488351232) : ∀ (d k : Nat) (i h : Int), 0 ≤ i → (b.length : Int) - i ≤ d → d < k → ∃ h', spec_l01New.l0 k b h i = some (b, 0, h') := by
  intro d
  induction d with
  | zero =>
    intro k i h h0 hd hk
    obtain ⟨k, rfl⟩ : ∃ m, k = m + 1 := ⟨k - 1, by omega⟩
    simp only [spec_l01New.l0]
    rw [if_neg (by omega)]
    exact ⟨_, rfl⟩
  | succ d ih =>
    intro k i h h0 hd hk
    obtain ⟨k, rfl⟩ : ∃ m, k = m + 1 := ⟨k - 1, by omega⟩
    simp only [spec_l01New.l0]
    by_cases h1 : i < (b.length : Int)
    · rw [if_pos h1]
      by_cases h2 : i < 4000
      · rw [if_pos h2, if_pos h0, w64 (n := i + 1) (by omega) (by omega)]
        exact ih k (i + 1) _ (by omega) (by omega) (by omega)
      · rw [if_neg h2]
        exact ⟨_, rfl⟩
    · rw [if_neg h1]
      exact ⟨_, rfl⟩
theorem new_ok (b : List Int) (hb : b.length ≤ 140737488351232) (k : Nat) (hk : b.length < k) : ∃ h', spec_l01New.f k b = some (b, 0, h') := by
  unfold spec_l01New.f
  exact new_loop b hb b.length k 0 _ (by omega) (by omega) hk
theorem st0 (b : List Int) : St b 0 := ⟨by omega, by omega⟩

theorem num_ok (b : List Int) (hb : b.length ≤ 140737488351232) (i h : Int) (hi : St b i) : ∃ x i' h', spec_l01Num.f b i h = some (x, i', h') ∧ (-1 ≤ x ∧ x ≤ 9007199254740992) ∧ St b i' := by
  unfold spec_l01Num.f
  obtain ⟨x1, i1, h1, e1, r1, s1⟩ := below_ok b hb i h 100000 (by omega) hi
  rw [e1]
  simp only [Option.bind_some]
  obtain ⟨x2, i2, h2, e2, r2, s2⟩ := below_ok b hb i1 h1 1000 (by omega) s1
  rw [e2]
  simp only [Option.bind_some]
  obtain ⟨x3, i3, h3, e3, r3, s3⟩ := pickInt_ok b hb i2 h2 [0, 1, 7, 8, 255, 256, 4095, 65535, 65536, 2097151, 2097152, 4294967295, 4294967296, 9007199254740991, 9007199254740992, (-1), x1, x2] (by simp) (by simp) s2
  rw [e3]
  refine ⟨_, _, _, rfl, ?_, s3⟩
  have a1 := r1.2 (by omega)
  have a2 := r2.2 (by omega)
  simp only [List.mem_cons, List.not_mem_nil, or_false] at r3
  omega

theorem put16_eq (n : Int) (high : Bool) : spec_Put16.f n high = impl_Put16.f n high := by
  unfold spec_Put16.f impl_Put16.f
  have e : Go.bits .and .i64 n 65535 = n % 65536 := bits_and_mask n 16 (by decide)
  have h1 : 0 ≤ n % 65536 := by omega
  have h2 : Int.tdiv (n % 65536) 256 = (n % 65536) / 256 := Int.tdiv_eq_ediv_of_nonneg h1
  have h3 : Int.tmod (n % 65536) 256 = (n % 65536) % 256 := Int.tmod_eq_emod_of_nonneg h1
  have h4 : wrap64 ((n % 65536) / 256) = (n % 65536) / 256 := w64 (by omega) (by omega)
  rw [e, h2, h3, h4]
  have h5 : ((n % 65536) / 256) % 256 = (n / 256) % 256 := by omega
  have h6 : ((n % 65536) % 256) % 256 = n % 256 := by omega
  rw [h5, h6]
theorem put16_some (n : Int) (high : Bool) : ∃ s, impl_Put16.f n high = some s ∧ s.size = 2 := by
  unfold impl_Put16.f
  cases high
  · exact ⟨_, rfl, strOfNums_size _⟩
  · exact ⟨_, rfl, strOfNums_size _⟩

theorem put32_eq (n : Int) (high : Bool) : spec_Put32.f n high = impl_Put32.f n high := by
  unfold spec_Put32.f impl_Put32.f
  rw [put16_eq, put16_eq]
theorem put32_some (n : Int) (high : Bool) : ∃ s, impl_Put32.f n high = some s ∧ s.size = 4 := by
  unfold impl_Put32.f
  obtain ⟨s, hs, h2⟩ := put16_some (n / 65536) high
  obtain ⟨t, ht, h3⟩ := put16_some n high
  rw [hs, ht]
  simp only [Option.bind_some]
  rw [if_pos (by omega)]
  exact ⟨_, rfl, by rw [ByteArray.size_append]; omega⟩

theorem within_eq (a b c : Int) : impl_within.f a b c = some (decide (b ≤ a ∧ a ≤ c)) := by
  unfold impl_within.f
  by_cases h : b ≤ a
  · rw [if_pos h]; simp [h]
  · rw [if_neg h]; simp [h]

/-- A word of two bytes, or -1. -/
def get16M (s : ByteArray) (i : Int) (high : Bool) : Int := if 0 ≤ i ∧ i + 2 ≤ (s.size : Int) then (if high = true then 256 * bt s i + bt s (i + 1) else 256 * bt s (i + 1) + bt s i) else -1
theorem get16M_range (s : ByteArray) (i : Int) (high : Bool) : -1 ≤ get16M s i high ∧ get16M s i high ≤ 65535 := by
  have ha := bt_range s i
  have hb := bt_range s (i + 1)
  unfold get16M
  split
  · split <;> omega
  · omega
theorem spec_get16 (s : ByteArray) (hs : s.size ≤ 140737488351232) (i : Int) (hi : -9223372036854775808 ≤ i ∧ i ≤ 9223372036854775807) (high : Bool) (k : Nat) (hk : 0 < k) : spec_Get16.f k s i high = some (get16M s i high) := by
  obtain ⟨k, rfl⟩ : ∃ m, k = m + 1 := ⟨k - 1, by omega⟩
  have ha := bt_range s i
  have hb := bt_range s (i + 1)
  unfold spec_Get16.f get16M
  rw [w64 (n := (s.size : Int) - 2) (by omega) (by omega)]
  by_cases h1 : i < 0
  · rw [if_pos h1, if_neg (show ¬ (0 ≤ i ∧ i + 2 ≤ (s.size : Int)) by omega)]
    simp only [spec_Get16.j0, if_true]
  · rw [if_neg h1]
    by_cases h2 : i > (s.size : Int) - 2
    · rw [decide_eq_true h2, if_neg (show ¬ (0 ≤ i ∧ i + 2 ≤ (s.size : Int)) by omega)]
      simp only [spec_Get16.j0, if_true]
    · rw [decide_eq_false h2, if_pos (show 0 ≤ i ∧ i + 2 ≤ (s.size : Int) by omega)]
      simp only [spec_Get16.j0, Bool.false_eq_true, if_false]
      have e1 : wrap64 (i + 1) = i + 1 := w64 (by omega) (by omega)
      have e2 : wrap64 (bt s i) = bt s i := w64 (by omega) (by omega)
      have e3 : wrap64 (bt s (i + 1)) = bt s (i + 1) := w64 (by omega) (by omega)
      have e4 : wrap64 (256 * bt s i) = 256 * bt s i := w64 (by omega) (by omega)
      have e5 : wrap64 (256 * bt s (i + 1)) = 256 * bt s (i + 1) := w64 (by omega) (by omega)
      have e6 : wrap64 (256 * bt s i + bt s (i + 1)) = 256 * bt s i + bt s (i + 1) := w64 (by omega) (by omega)
      have e7 : wrap64 (256 * bt s (i + 1) + bt s i) = 256 * bt s (i + 1) + bt s i := w64 (by omega) (by omega)
      rw [if_pos (show 0 ≤ i by omega), if_pos (show i < (s.size : Int) by omega), e1, if_pos (show 0 ≤ i + 1 by omega), if_pos (show i + 1 < (s.size : Int) by omega), e2, e3, e4, e5, e6, e7]
      cases high <;> rfl
theorem impl_get16 (s : ByteArray) (hs : s.size ≤ 140737488351232) (i : Int) (hi : -9223372036854775808 ≤ i ∧ i ≤ 9223372036854775807) (high : Bool) : impl_Get16.f s i high = some (get16M s i high) := by
  have ha := bt_range s i
  have hb := bt_range s (i + 1)
  have hh : impl_has.f s i 2 = some (decide (0 ≤ i ∧ i + 2 ≤ (s.size : Int))) := by
    unfold impl_has.f
    rw [within_eq]
    simp only [Option.bind_some]
    by_cases h : 0 ≤ i ∧ i ≤ (s.size : Int)
    · rw [if_pos (by simpa using h), w64 (by omega) (by omega)]
      congr 1
      rw [decide_eq_decide]
      omega
    · rw [if_neg (by simpa using h)]
      congr 1
      symm
      rw [decide_eq_false_iff_not]
      omega
  unfold impl_Get16.f get16M
  rw [hh]
  simp only [Option.bind_some]
  by_cases h : 0 ≤ i ∧ i + 2 ≤ (s.size : Int)
  · have e1 : wrap64 (i + 1) = i + 1 := w64 (by omega) (by omega)
    have e2 : wrap64 (bt s i) = bt s i := w64 (by omega) (by omega)
    have e3 : wrap64 (bt s (i + 1)) = bt s (i + 1) := w64 (by omega) (by omega)
    have e4 : wrap64 (bt s i * 256) = bt s i * 256 := w64 (by omega) (by omega)
    have e5 : wrap64 (bt s (i + 1) * 256) = bt s (i + 1) * 256 := w64 (by omega) (by omega)
    have e6 := bits_or_join 8 (bt s i * 256) (bt s (i + 1)) (by omega) (by omega) (by omega) (by omega) (by omega) (by omega)
    have e7 := bits_or_join 8 (bt s (i + 1) * 256) (bt s i) (by omega) (by omega) (by omega) (by omega) (by omega) (by omega)
    rw [e1, e2, e3, e4, e5, e6, e7, Int.mul_comm (bt s i), Int.mul_comm (bt s (i + 1))]
    have c1 : 0 ≤ i := h.1
    have c2 : i < (s.size : Int) := by omega
    have c3 : 0 ≤ i + 1 := by omega
    have c4 : i + 1 < (s.size : Int) := by omega
    simp only [decide_eq_true h, if_true, if_pos h, if_pos c1, if_pos c2, if_pos c3, if_pos c4]
    cases high <;> rfl
  · rw [if_neg (by simpa using h), if_neg h]

/-- A word of four bytes, or -1. -/
def get32M (s : ByteArray) (i : Int) (high : Bool) : Int := if 0 ≤ i ∧ i + 4 ≤ (s.size : Int) then 65536 * get16M s i high + get16M s (i + 2) high else -1
theorem get16M_in (s : ByteArray) (i : Int) (high : Bool) (h : 0 ≤ i ∧ i + 2 ≤ (s.size : Int)) : 0 ≤ get16M s i high ∧ get16M s i high ≤ 65535 := by
  have ha := bt_range s i
  have hb := bt_range s (i + 1)
  unfold get16M
  rw [if_pos h]
  split <;> omega
theorem spec_get32 (s : ByteArray) (hs : s.size ≤ 140737488351232) (i : Int) (hi : -9223372036854775808 ≤ i ∧ i ≤ 9223372036854775807) (high : Bool) (k : Nat) (hk : 1 < k) : spec_Get32.f k s i high = some (get32M s i high) := by
  obtain ⟨k, rfl⟩ : ∃ m, k = m + 1 := ⟨k - 1, by omega⟩
  unfold spec_Get32.f get32M
  rw [w64 (n := (s.size : Int) - 4) (by omega) (by omega)]
  by_cases h1 : i < 0
  · rw [if_pos h1, if_neg (show ¬ (0 ≤ i ∧ i + 4 ≤ (s.size : Int)) by omega)]
    simp only [spec_Get32.j0, if_true]
  · rw [if_neg h1]
    by_cases h2 : i > (s.size : Int) - 4
    · rw [decide_eq_true h2, if_neg (show ¬ (0 ≤ i ∧ i + 4 ≤ (s.size : Int)) by omega)]
      simp only [spec_Get32.j0, if_true]
    · rw [decide_eq_false h2, if_pos (show 0 ≤ i ∧ i + 4 ≤ (s.size : Int) by omega)]
      have r1 := get16M_in s i high (by omega)
      have r2 := get16M_in s (i + 2) high (by omega)
      simp only [spec_Get32.j0, Bool.false_eq_true, if_false]
      rw [w64 (n := i + 2) (by omega) (by omega), spec_get16 s hs i hi high k (by omega), spec_get16 s hs (i + 2) (by omega) high k (by omega)]
      simp only [Option.bind_some]
      rw [w64 (n := 65536 * get16M s i high) (by omega) (by omega), w64 (by omega) (by omega)]
theorem impl_get32 (s : ByteArray) (hs : s.size ≤ 140737488351232) (i : Int) (hi : -9223372036854775808 ≤ i ∧ i ≤ 9223372036854775807) (high : Bool) : impl_Get32.f s i high = some (get32M s i high) := by
  have hh : impl_has.f s i 4 = some (decide (0 ≤ i ∧ i + 4 ≤ (s.size : Int))) := by
    unfold impl_has.f
    rw [within_eq]
    simp only [Option.bind_some]
    by_cases h : 0 ≤ i ∧ i ≤ (s.size : Int)
    · rw [if_pos (by simpa using h), w64 (by omega) (by omega)]
      congr 1
      rw [decide_eq_decide]
      omega
    · rw [if_neg (by simpa using h)]
      congr 1
      symm
      rw [decide_eq_false_iff_not]
      omega
  unfold impl_Get32.f get32M
  rw [hh]
  simp only [Option.bind_some]
  by_cases h : 0 ≤ i ∧ i + 4 ≤ (s.size : Int)
  · have r1 := get16M_in s i high (by omega)
    have r2 := get16M_in s (i + 2) high (by omega)
    rw [if_pos (by simpa using h), if_pos h, w64 (n := i + 2) (by omega) (by omega), impl_get16 s hs i hi high, impl_get16 s hs (i + 2) (by omega) high]
    simp only [Option.bind_some]
    rw [w64 (n := get16M s i high * 65536) (by omega) (by omega), bits_or_join 16 (get16M s i high * 65536) (get16M s (i + 2) high) (by omega) (by omega) (by omega) (by omega) (by omega) (by omega), Int.mul_comm]
  · rw [if_neg (by simpa using h), if_neg h]

theorem put16_back (n : Int) (high : Bool) (s : ByteArray) (h : impl_Put16.f n high = some s) : get16M s 0 high = n % 65536 := by
  have hs : s.size = 2 := by
    obtain ⟨t, ht, h2⟩ := put16_some n high
    rw [h] at ht
    obtain rfl := Option.some.inj ht
    exact h2
  unfold impl_Put16.f at h
  unfold get16M
  rw [if_pos (by omega)]
  cases high with
  | true =>
    obtain rfl := Option.some.inj h
    have e0 := bt_nums [n / 256 % 256, n % 256] 0 (by simp) (by simp only [List.getElem_cons_zero]; omega)
    have e1 := bt_nums [n / 256 % 256, n % 256] 1 (by simp) (by simp only [List.getElem_cons_succ, List.getElem_cons_zero]; omega)
    simp only [List.getElem_cons_zero, List.getElem_cons_succ] at e0 e1
    rw [if_pos rfl]
    rw [show (0 : Int) + 1 = ((1 : Nat) : Int) from rfl, e1, show (0 : Int) = ((0 : Nat) : Int) from rfl, e0]
    omega
  | false =>
    obtain rfl := Option.some.inj h
    have e0 := bt_nums [n % 256, n / 256 % 256] 0 (by simp) (by simp only [List.getElem_cons_zero]; omega)
    have e1 := bt_nums [n % 256, n / 256 % 256] 1 (by simp) (by simp only [List.getElem_cons_succ, List.getElem_cons_zero]; omega)
    simp only [List.getElem_cons_zero, List.getElem_cons_succ] at e0 e1
    rw [if_neg (by decide)]
    rw [show (0 : Int) + 1 = ((1 : Nat) : Int) from rfl, e1, show (0 : Int) = ((0 : Nat) : Int) from rfl, e0]
    omega
theorem get16_left (s t : ByteArray) (high : Bool) (hs : s.size = 2) : get16M (s ++ t) 0 high = get16M s 0 high := by
  have e0 := bt_append_left s t 0 (by omega)
  have e1 := bt_append_left s t 1 (by omega)
  unfold get16M
  have c1 : (0 : Int) ≤ 0 ∧ (0 : Int) + 2 ≤ ((s ++ t).size : Int) := by rw [ByteArray.size_append]; omega
  have c2 : (0 : Int) ≤ 0 ∧ (0 : Int) + 2 ≤ (s.size : Int) := by omega
  rw [if_pos c1, if_pos c2]
  rw [show (0 : Int) + 1 = ((1 : Nat) : Int) from rfl, e1, show (0 : Int) = ((0 : Nat) : Int) from rfl, e0]
theorem get16_right (s t : ByteArray) (high : Bool) (hs : s.size = 2) (ht : t.size = 2) : get16M (s ++ t) 2 high = get16M t 0 high := by
  have e0 := bt_append_right s t 0 (by omega)
  have e1 := bt_append_right s t 1 (by omega)
  rw [hs] at e0 e1
  unfold get16M
  have c1 : (0 : Int) ≤ 2 ∧ (2 : Int) + 2 ≤ ((s ++ t).size : Int) := by rw [ByteArray.size_append]; omega
  have c2 : (0 : Int) ≤ 0 ∧ (0 : Int) + 2 ≤ (t.size : Int) := by omega
  rw [if_pos c1, if_pos c2]
  rw [show (2 : Int) + 1 = ((2 + 1 : Nat) : Int) from rfl, e1, show (2 : Int) = ((2 + 0 : Nat) : Int) from rfl, e0]
  rfl
theorem put32_back (n : Int) (high : Bool) (s : ByteArray) (h : impl_Put32.f n high = some s) : get32M s 0 high = n % 4294967296 := by
  unfold impl_Put32.f at h
  obtain ⟨a, ha, sa⟩ := put16_some (n / 65536) high
  obtain ⟨b, hb, sb⟩ := put16_some n high
  rw [ha, hb] at h
  simp only [Option.bind_some] at h
  rw [if_pos (by omega)] at h
  obtain rfl := Option.some.inj h
  have e1 := put16_back _ _ _ ha
  have e2 := put16_back _ _ _ hb
  unfold get32M
  rw [if_pos (by rw [ByteArray.size_append]; omega), get16_left a b high sa, show (0 : Int) + 2 = 2 from rfl, get16_right a b high sa sb, e1, e2]
  omega

theorem drawPut16_ok (b : List Int) (hb : b.length ≤ 140737488351232) (k : Nat) (hk : b.length < k) : ∃ n high, spec_DrawPut16.f k b = some (n, high) := by
  unfold spec_DrawPut16.f
  obtain ⟨h0, e0⟩ := new_ok b hb k hk
  rw [e0]
  simp only [Option.bind_some]
  obtain ⟨x1, i1, h1, e1, _, s1⟩ := num_ok b hb 0 h0 (st0 b)
  rw [e1]
  simp only [Option.bind_some]
  obtain ⟨x2, i2, h2, e2, s2⟩ := once_ok b hb i1 h1 2 (by omega) s1
  rw [e2]
  exact ⟨_, _, rfl⟩
theorem drawPut32_ok (b : List Int) (hb : b.length ≤ 140737488351232) (k : Nat) (hk : b.length < k) : ∃ n high, spec_DrawPut32.f k b = some (n, high) := by
  unfold spec_DrawPut32.f
  obtain ⟨h0, e0⟩ := new_ok b hb k hk
  rw [e0]
  simp only [Option.bind_some]
  obtain ⟨x1, i1, h1, e1, _, s1⟩ := num_ok b hb 0 h0 (st0 b)
  rw [e1]
  simp only [Option.bind_some]
  obtain ⟨x2, i2, h2, e2, s2⟩ := once_ok b hb i1 h1 2 (by omega) s1
  rw [e2]
  exact ⟨_, _, rfl⟩
theorem drawGet16_ok (b : List Int) (hb : b.length ≤ 140737488351232) (k : Nat) (hk : b.length < k) : ∃ s i high, spec_DrawGet16.f k b = some (s, i, high) ∧ s.size = 4 ∧ (-9223372036854775808 ≤ i ∧ i ≤ 9223372036854775807) := by
  unfold spec_DrawGet16.f
  obtain ⟨h0, e0⟩ := new_ok b hb k hk
  rw [e0]
  simp only [Option.bind_some]
  obtain ⟨x1, i1, h1, e1, _, s1⟩ := num_ok b hb 0 h0 (st0 b)
  rw [e1]
  simp only [Option.bind_some]
  obtain ⟨x2, i2, h2, e2, s2⟩ := once_ok b hb i1 h1 2 (by omega) s1
  rw [e2]
  simp only [Option.bind_some]
  obtain ⟨t, et, ht⟩ := put16_some x1 x2
  rw [put16_eq, et]
  simp only [Option.bind_some]
  rw [if_pos (by omega)]
  obtain ⟨x3, i3, h3, e3, m3, s3⟩ := pickInt_ok b hb i2 h2 [0, 1, 2, 3, (-1), 9223372036854775807] (by decide) (by decide) s2
  rw [e3]
  simp only [Option.bind_some]
  obtain ⟨x4, i4, h4, e4, s4⟩ := once_ok b hb i3 h3 2 (by omega) s3
  rw [e4]
  refine ⟨_, _, _, rfl, by rw [ByteArray.size_append, ht]; rfl, ?_⟩
  simp only [List.mem_cons, List.not_mem_nil, or_false] at m3
  omega
theorem drawGet32_ok (b : List Int) (hb : b.length ≤ 140737488351232) (k : Nat) (hk : b.length < k) : ∃ s i high, spec_DrawGet32.f k b = some (s, i, high) ∧ s.size = 6 ∧ (-9223372036854775808 ≤ i ∧ i ≤ 9223372036854775807) := by
  unfold spec_DrawGet32.f
  obtain ⟨h0, e0⟩ := new_ok b hb k hk
  rw [e0]
  simp only [Option.bind_some]
  obtain ⟨x1, i1, h1, e1, _, s1⟩ := num_ok b hb 0 h0 (st0 b)
  rw [e1]
  simp only [Option.bind_some]
  obtain ⟨x2, i2, h2, e2, s2⟩ := once_ok b hb i1 h1 2 (by omega) s1
  rw [e2]
  simp only [Option.bind_some]
  obtain ⟨t, et, ht⟩ := put32_some x1 x2
  rw [put32_eq, et]
  simp only [Option.bind_some]
  rw [if_pos (by omega)]
  obtain ⟨x3, i3, h3, e3, m3, s3⟩ := pickInt_ok b hb i2 h2 [0, 1, 2, 3, (-1), 9223372036854775807] (by decide) (by decide) s2
  rw [e3]
  simp only [Option.bind_some]
  obtain ⟨x4, i4, h4, e4, s4⟩ := once_ok b hb i3 h3 2 (by omega) s3
  rw [e4]
  refine ⟨_, _, _, rfl, by rw [ByteArray.size_append, ht]; rfl, ?_⟩
  simp only [List.mem_cons, List.not_mem_nil, or_false] at m3
  omega
theorem FnWords : laws_FnWords.Pure := by
  intro b _ hb _
  have hb : b.length ≤ 140737488351232 := by omega
  refine ⟨b.length + 3, ?_⟩
  unfold laws_FnWords.f laws_big.f
  simp only [Option.bind_some]
  by_cases hbig : (b.length : Int) > 1048576
  · rw [if_pos (by simpa using hbig)]
  · rw [if_neg (by simpa using hbig)]
    obtain ⟨n, high, e1⟩ := drawPut16_ok b hb (b.length + 3) (by omega)
    obtain ⟨m, order, e2⟩ := drawPut32_ok b hb (b.length + 3) (by omega)
    obtain ⟨s, i, h, e3, z3, r3⟩ := drawGet16_ok b hb (b.length + 3) (by omega)
    obtain ⟨t, j, g, e4, z4, r4⟩ := drawGet32_ok b hb (b.length + 3) (by omega)
    obtain ⟨p, ep, sp⟩ := put16_some n high
    obtain ⟨q, eq, sq⟩ := put32_some m order
    rw [e1]
    simp only [Option.bind_some]
    rw [e2]
    simp only [Option.bind_some]
    rw [e3]
    simp only [Option.bind_some]
    rw [e4]
    simp only [Option.bind_some]
    rw [put16_eq, put32_eq, ep, eq]
    simp only [Option.bind_some, if_true]
    rw [impl_get16 s (by omega) i r3 h, spec_get16 s (by omega) i r3 h _ (by omega)]
    simp only [Option.bind_some, if_true]
    rw [impl_get32 t (by omega) j r4 g, spec_get32 t (by omega) j r4 g _ (by omega)]
    simp only [Option.bind_some]
    rw [show (get32M t j g != get32M t j g) = false by simp]
    simp only [laws_FnWords.j0, Bool.false_eq_true, if_false]
    rw [impl_get16 p (by omega) 0 (by omega) high, impl_get32 q (by omega) 0 (by omega) order]
    simp only [Option.bind_some]
    have a1 : Go.bits .and .i64 n 65535 = n % 65536 := bits_and_mask n 16 (by decide)
    have a2 : Go.bits .and .i64 m 4294967295 = m % 4294967296 := bits_and_mask m 32 (by decide)
    rw [a1, a2, put16_back n high p ep, put32_back m order q eq, if_pos rfl]
    simp

end Go.Proofs.Ytfmhajlpaelmeaa.Pure
