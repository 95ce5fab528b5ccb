/-
The pure statement of the law FnExactPutBig (numbers, byte strings and lists; no Go and no memory): the printed law's function answers true. Conditions: those of the printed statement (each string at most 2^47 - 4096 bytes, each number of its kind).
-/
import Derived.Test.YtfmhajlpaelmeaaPFnExactPutBigx1
import Derived.Test.YtfmhajlpaelmeaaCore
namespace Go.Proofs.Ytfmhajlpaelmeaa.Pure
open Go.RowKit Go.Proofs.Ytfmhajlpaelmeaa.PFnExactPutBig Go.Proofs.YtfmhajlpaelmeaaW.PrintWords Go.Proofs.YtfmhajlpaelmeaaW.PrintLast Go.Proofs.Ytfmhajlpaelmeaa.Core

theorem in_eq (a b c : Int) : spec_l01In.f a b c = some (decide (b ≤ a ∧ a ≤ c)) := by
  unfold spec_l01In.f
  by_cases h : b ≤ a
  · rw [if_pos h]; simp [h]
  · rw [if_neg h]; simp [h]

theorem within_eq (a b c : Int) : impl_within.f a b c = some (decide (b ≤ a ∧ a ≤ c)) := by
  unfold impl_within.f
  by_cases h : b ≤ a
  · rw [if_pos h]; simp [h]
  · rw [if_neg h]; simp [h]

/-- So many digits by 256, the greatest first. -/
def beI : Nat → Int → List Int → List Int
  | 0, _, acc => acc
  | j + 1, n, acc => beI j (n / 256) (n % 256 :: acc)
theorem beI_length : ∀ (j : Nat) (n : Int) (acc : List Int), (beI j n acc).length = j + acc.length
  | 0, _, acc => by simp [beI]
  | j + 1, n, acc => by
    rw [beI, beI_length j]
    simp only [List.length_cons]
    omega
theorem tl_cons (b : UInt8) (xs : List Int) : ((⟨#[b]⟩ : ByteArray) ++ strOfNums xs).toList = b :: (strOfNums xs).toList := by
  rw [tl_append]
  rw [show (⟨#[b]⟩ : ByteArray).toList = [b] from tl_mk [b]]
  rfl
/-- What is put, or nothing. -/
def putBigM (n w : Int) : ByteArray × Bool := if (0 ≤ n ∧ n ≤ 9007199254740991) ∧ (2 ≤ w ∧ w ≤ 20) ∧ n / 256 ^ (w - 1).toNat = 0 then (strOfNums (128 :: beI (w - 1).toNat n []), true) else ((⟨#[]⟩ : ByteArray), false)
theorem spec_putBig_loop (w : Int) (hw : w ≤ 20) : ∀ (j k : Nat) (m i : Int) (acc : List Int), w - i = j → 0 ≤ i → j < k → acc.length + j ≤ 100 → 0 ≤ m → m ≤ 9007199254740991 →
    spec_PutBig.l0 k w acc m i = (if m / 256 ^ j > 0 then (some ((⟨#[]⟩ : ByteArray), false)) else (some ((⟨#[128]⟩ : ByteArray) ++ strOfNums (beI j m acc), true))) := by
  intro j
  induction j with
  | zero =>
    intro k m i acc h0 hi hk hl hm hm2
    obtain ⟨k, rfl⟩ : ∃ q, k = q + 1 := ⟨k - 1, by omega⟩
    simp only [spec_PutBig.l0]
    rw [if_neg (by omega), Int.pow_zero, Int.ediv_one]
    by_cases h : m > 0
    · rw [if_pos h, if_pos h]
    · rw [if_neg h, if_neg h, if_pos (by rw [strOfNums_size]; omega)]
      rfl
  | succ j ih =>
    intro k m i acc h0 hi hk hl hm hm2
    obtain ⟨k, rfl⟩ : ∃ q, k = q + 1 := ⟨k - 1, by omega⟩
    simp only [spec_PutBig.l0]
    have e1 : Int.tmod m 256 = m % 256 := Int.tmod_eq_emod_of_nonneg hm
    have e2 : Int.tdiv m 256 = m / 256 := Int.tdiv_eq_ediv_of_nonneg hm
    have e3 : wrap64 (m / 256) = m / 256 := w64 (by omega) (by omega)
    have e4 : wrap64 (i + 1) = i + 1 := w64 (by omega) (by omega)
    have e5 : m % 256 % 256 = m % 256 := by omega
    have e6 : m / 256 / 256 ^ j = m / 256 ^ (j + 1) := by
      rw [Int.ediv_ediv_of_nonneg (by omega : (0 : Int) ≤ 256), Int.pow_succ, Int.mul_comm]
    rw [if_pos (by omega), e1, e2, e3, e4, e5]
    simp only [Option.bind_some, List.length_cons, List.length_nil]
    rw [if_pos (by omega), ih k (m / 256) (i + 1) _ (by omega) (by omega) (by omega) (by simp only [List.length_append, List.length_cons, List.length_nil]; omega) (by omega) (by omega), e6]
    rfl
theorem spec_putBig (n w : Int) (k : Nat) (hk : 30 < k) : ∃ r, spec_PutBig.f k n w = some r ∧ r.1.toList = (putBigM n w).1.toList ∧ r.2 = (putBigM n w).2 := by
  obtain ⟨k, rfl⟩ : ∃ q, k = q + 1 := ⟨k - 1, by omega⟩
  unfold spec_PutBig.f putBigM
  rw [in_eq, in_eq]
  simp only [Option.bind_some]
  by_cases h1 : 0 ≤ n ∧ n ≤ 9007199254740991
  · by_cases h2 : 2 ≤ w ∧ w ≤ 20
    · rw [if_pos (by simpa using h1), decide_eq_true h2]
      simp only [spec_PutBig.j0, Bool.not_true, Bool.false_eq_true, if_false]
      obtain ⟨j, hj⟩ : ∃ j : Nat, w - 1 = j := ⟨(w - 1).toNat, by omega⟩
      have hj2 : (w - 1).toNat = j := by omega
      rw [spec_putBig_loop w h2.2 j k n 1 [] (by omega) (by omega) (by omega) (by simp only [List.length_nil]; omega) h1.1 h1.2, hj2]
      by_cases h3 : n / 256 ^ j > 0
      · rw [if_pos h3, if_neg (fun h => by omega)]
        exact ⟨_, rfl, rfl, rfl⟩
      · have h4 : 0 ≤ n / 256 ^ j := Int.ediv_nonneg h1.1 (Int.pow_nonneg (by omega))
        rw [if_neg h3, if_pos ⟨h1, h2, by omega⟩]
        exact ⟨_, rfl, by rw [tl_cons, tl_nums, tl_nums]; rfl, rfl⟩
    · rw [if_pos (by simpa using h1), decide_eq_false h2, if_neg (fun h => h2 h.2.1)]
      simp only [spec_PutBig.j0, Bool.not_false, if_true]
      exact ⟨_, rfl, rfl, rfl⟩
  · rw [if_neg (by simpa using h1), if_neg (fun h => h1 h.1)]
    simp only [spec_PutBig.j0, if_true]
    exact ⟨_, rfl, rfl, rfl⟩
theorem impl_putBig_loop : ∀ (i k : Nat) (n : Int) (xs : List Int), i < xs.length → xs.length ≤ 100 → i < k →
    impl_PutBig.l0 k n xs (i : Int) = some (strOfNums (xs.take 1 ++ beI i n (xs.drop (i + 1))), true) := by
  intro i
  induction i with
  | zero =>
    intro k n xs hi hl hk
    obtain ⟨k, rfl⟩ : ∃ q, k = q + 1 := ⟨k - 1, by omega⟩
    simp only [impl_PutBig.l0]
    rw [if_neg (by omega)]
    simp only [beI]
    rw [List.take_append_drop]
  | succ i ih =>
    intro k n xs hi hl hk
    obtain ⟨k, rfl⟩ : ∃ q, k = q + 1 := ⟨k - 1, by omega⟩
    simp only [impl_PutBig.l0]
    have e1 : ((i + 1 : Nat) : Int).toNat = i + 1 := rfl
    have e2 : wrap64 (((i + 1 : Nat) : Int) - 1) = (i : Int) := by rw [w64 (by omega) (by omega)]; omega
    rw [if_pos (by omega), if_pos (by omega), if_pos (by omega), e1, e2, ih k (n / 256) (xs.set (i + 1) (n % 256)) (by rw [List.length_set]; omega) (by rw [List.length_set]; omega) (by omega)]
    have e3 : (xs.set (i + 1) (n % 256)).take 1 = xs.take 1 := by
      rw [List.take_set_of_le (by omega)]
    have e4 : (xs.set (i + 1) (n % 256)).drop (i + 1) = n % 256 :: xs.drop (i + 1 + 1) := by
      rw [List.drop_eq_getElem_cons (by rw [List.length_set]; omega), List.getElem_set_self, List.drop_set_of_lt (by omega)]
    rw [e3, e4]
    rfl
theorem shr_pow (n : Int) (e : Nat) (he : e ≤ 64) : shr .i64 n (e : Int) = n / 2 ^ e := by
  unfold shr
  rw [Int.toNat_natCast, Nat.min_eq_left (show e ≤ IntKind.i64.bits from he)]
theorem impl_putBig (n w : Int) (k : Nat) (hk : 30 < k) : impl_PutBig.f k n w = some (putBigM n w) := by
  obtain ⟨k, rfl⟩ : ∃ q, k = q + 1 := ⟨k - 1, by omega⟩
  unfold impl_PutBig.f putBigM
  rw [within_eq, within_eq]
  simp only [Option.bind_some]
  by_cases h1 : 0 ≤ n ∧ n ≤ 9007199254740991
  · by_cases h2 : 2 ≤ w ∧ w ≤ 20
    · rw [if_pos (by simpa using h1), if_pos (by simpa using h2)]
      obtain ⟨j, hj⟩ : ∃ j : Nat, w - 1 = j := ⟨(w - 1).toNat, by omega⟩
      have hj2 : (w - 1).toNat = j := by omega
      have hw : w = ((j + 1 : Nat) : Int) := by omega
      have e1 : wrap64 (w - 1) = (j : Int) := by rw [w64 (by omega) (by omega)]; omega
      have e2 : wrap64 (8 * (j : Int)) = ((8 * j : Nat) : Int) := by rw [w64 (by omega) (by omega)]; omega
      have run : impl_PutBig.j0 (k + 1) n w false = some (strOfNums (128 :: beI j n []), true) := by
        simp only [impl_PutBig.j0, Bool.false_eq_true, if_false]
        have e3 : w.toNat = j + 1 := by omega
        rw [if_pos (by omega), e3, if_pos (by omega)]
        simp only [Option.bind_some, List.length_replicate]
        rw [if_pos (by omega), e1, impl_putBig_loop j k n _ (by rw [List.length_set, List.length_replicate]; omega) (by rw [List.length_set, List.length_replicate]; omega) (by omega)]
        have e4 : (List.set (List.replicate (j + 1) (0 : Int)) (Int.toNat 0) 128).take 1 = [128] := by
          rw [List.replicate_succ]
          rfl
        have e5 : (List.set (List.replicate (j + 1) (0 : Int)) (Int.toNat 0) 128).drop (j + 1) = [] := by
          apply List.drop_eq_nil_of_le
          rw [List.length_set, List.length_replicate]
          omega
        rw [e4, e5]
        rfl
      have e6 : (2 : Int) ^ (8 * j) = 256 ^ j := by
        rw [Int.pow_mul]
        rfl
      by_cases h3 : w < 8
      · rw [if_pos h3, e1, e2, if_pos (by omega), shr_pow n (8 * j) (by omega), e6, hj2]
        by_cases h4 : n / 256 ^ j = 0
        · rw [show ((n / 256 ^ j) != 0) = false from bne_eq_false_iff_eq.2 h4, run, if_pos ⟨h1, h2, h4⟩]
        · rw [show ((n / 256 ^ j) != 0) = true from bne_iff_ne.2 h4, if_neg (fun h => h4 h.2.2)]
          simp only [impl_PutBig.j0, if_true]
      · rw [if_neg h3, run, hj2]
        have h5 : (256 : Int) ^ 7 ≤ 256 ^ j := by
          obtain ⟨q, rfl⟩ : ∃ q, j = 7 + q := ⟨j - 7, by omega⟩
          rw [Int.pow_add]
          have : (0 : Int) < 256 ^ q := Int.pow_pos (by omega)
          have := Int.mul_le_mul_of_nonneg_left (show (1 : Int) ≤ 256 ^ q by omega) (show (0 : Int) ≤ 256 ^ 7 by decide)
          rw [Int.mul_one] at this
          exact this
        have h6 : n / 256 ^ j = 0 := Int.ediv_eq_zero_of_lt h1.1 (Int.lt_of_lt_of_le (by omega) h5)
        rw [if_pos ⟨h1, h2, h6⟩]
    · rw [if_pos (by simpa using h1), if_neg (by simpa using h2), if_neg (fun h => h2 h.2.1)]
      simp only [impl_PutBig.j0, if_true]
  · rw [if_neg (by simpa using h1), if_neg (fun h => h1 h.1)]
    simp only [impl_PutBig.j0, if_true]

theorem FnExactPutBig : laws_FnExactPutBig.Pure := by
  intro n w _ _
  refine ⟨31, ?_⟩
  unfold laws_FnExactPutBig.f
  obtain ⟨r, hr, e1, e2⟩ := spec_putBig n w 31 (by omega)
  rw [hr, impl_putBig n w 31 (by omega)]
  simp only [Option.bind_some]
  rw [if_pos e1.symm, e2]
  simp

end Go.Proofs.Ytfmhajlpaelmeaa.Pure
