/-
Plain lemmas on byte strings, whole numbers and lists that the laws' pure proofs share: no Go and no memory in it. Conditions: each lemma's own hypotheses.
-/
import Derived.Test.YtgmggpgcfonmgaaDoorWWords
import Derived.Test.YtgmggpgcfonmgaaDoorWLast
import Derived.Laws.BitsLemmas
import Derived.Laws.Strings
import Derived.IntWalk
namespace Go.Proofs.YtgmggpgcfonmgaaDoor.Core
open Go.RowKit Go.Proofs.YtgmggpgcfonmgaaDoorW.PrintWords

/-! ### Whole numbers -/
theorem w64 {n : Int} (h0 : -9223372036854775808 ≤ n) (h1 : n ≤ 9223372036854775807) : wrap64 n = n := by
  unfold wrap64
  omega

theorem wf_i64 {a : Int} (h : (Lit.int .i64 a).wf = true) : -9223372036854775808 ≤ a ∧ a ≤ 9223372036854775807 := by
  simp [Lit.wf, IntKind.min, IntKind.max, IntKind.signed, IntKind.bits] at h
  omega

theorem bits_and_mask (x : Int) (i : Nat) (hi : i < 63) : Go.bits .and .i64 x ((2 : Int) ^ i - 1) = x % (2 : Int) ^ i := by
  have hpos : 0 < 2 ^ i := Nat.two_pow_pos i
  have hlt : (2 : Nat) ^ i < 2 ^ 63 := Nat.pow_lt_pow_right (by decide) hi
  have hc : ((2 : Int) ^ i - 1) = ((2 ^ i - 1 : Nat) : Int) := by
    rw [Int.natCast_sub hpos]; simp
  have e : (BitVec.ofInt 64 x &&& BitVec.ofInt 64 ((2 ^ i - 1 : Nat) : Int)).toNat = (x % (2 : Int) ^ 64).toNat % 2 ^ i := by
    rw [BitVec.toNat_and, BitVec.toNat_ofInt, BitVec.ofInt_natCast, BitVec.toNat_ofNat]
    rw [Nat.mod_eq_of_lt (show 2 ^ i - 1 < 2 ^ 64 by omega), Nat.and_two_pow_sub_one_eq_mod]
    rfl
  have h2 : ((2 : Int) ^ i) = ((2 ^ i : Nat) : Int) := by simp
  have hd : ((2 : Int) ^ i) ∣ (2 : Int) ^ 64 := ⟨(2 : Int) ^ (64 - i), by rw [← Int.pow_add]; congr 1; omega⟩
  have hv : (((x % (2 : Int) ^ 64).toNat % 2 ^ i : Nat) : Int) = x % (2 : Int) ^ i := by
    rw [Int.natCast_emod, Int.toNat_of_nonneg (Int.emod_nonneg _ (by decide)), ← h2]
    exact Int.emod_emod_of_dvd x hd
  show IntKind.i64.wrap ((BitVec.ofInt 64 x &&& BitVec.ofInt 64 ((2 : Int) ^ i - 1)).toNat : Int) = _
  rw [hc, e, hv]
  have hb : 0 ≤ x % (2 : Int) ^ i ∧ x % (2 : Int) ^ i < (2 : Int) ^ i := ⟨Int.emod_nonneg _ (by omega), Int.emod_lt_of_pos _ (by omega)⟩
  exact IntWalk.i64_in _ (by omega)

theorem wraps_i64 (j : Nat) (hj : j ≤ 63) (n : Int) (h0 : 0 ≤ n) (h1 : n < 2 ^ j) : IntKind.i64.wrap n = n := by
  have hlt : (2 : Nat) ^ j ≤ 2 ^ 63 := Nat.pow_le_pow_right (by decide) hj
  have h2 : ((2 : Int) ^ j) = ((2 ^ j : Nat) : Int) := by simp
  exact IntWalk.i64_in _ (by omega)

/-- 'x | y' of a multiple of 2^i and a number below 2^i. -/
theorem bits_or_join (i : Nat) (x y : Int) (hx0 : 0 ≤ x) (hx : x % 2 ^ i = 0) (hx1 : x < 2 ^ 63) (hy0 : 0 ≤ y) (hy : y < 2 ^ i) (hy1 : y < 2 ^ 63) : Go.bits .or .i64 x y = x + y :=
  bits_join .i64 63 (by decide) (wraps_i64 63 (by decide)) i x y hx0 hx hx1 hy0 hy hy1

/-! ### Byte strings as lists -/
theorem tl (s : ByteArray) : s.toList = s.data.toList := ByteArray.toList_eq s
theorem tl_length (s : ByteArray) : s.toList.length = s.size := by rw [tl, Array.length_toList]; rfl
theorem tl_inj {s t : ByteArray} (h : s.toList = t.toList) : s = t := by
  rw [tl, tl] at h
  cases s; cases t
  simp only [ByteArray.mk.injEq]
  exact Array.toList_inj.1 h
theorem tl_append (s t : ByteArray) : (s ++ t).toList = s.toList ++ t.toList := by
  rw [tl, tl, tl, ByteArray.data_append, Array.toList_append]
theorem tl_extract (s : ByteArray) (i j : Nat) : (s.extract i j).toList = (s.toList.take j).drop i := by
  rw [tl, tl, ByteArray.data_extract, Array.toList_extract, List.extract_eq_take_drop, List.drop_take]
theorem tl_mk (l : List UInt8) : (⟨l.toArray⟩ : ByteArray).toList = l := ByteArray.toList_mk l
theorem tl_nums (xs : List Int) : (strOfNums xs).toList = xs.map fun n => UInt8.ofNat n.toNat := by rw [tl]; rfl

theorem bt_get (s : ByteArray) (i : Nat) (h : i < s.size) : bt s (i : Int) = ((s.toList[i]'(by rw [tl_length]; exact h)).toNat : Int) := by
  have h1 : (i : Int).toNat = i := rfl
  unfold bt
  rw [dif_pos (by rw [h1]; exact h)]
  simp only [tl, h1]
  rfl

/-- One byte on. -/
theorem bt_step (s : ByteArray) (i : Int) (h0 : 0 ≤ i) (h : i < (s.size : Int)) : ∃ b : UInt8, s.toList.drop i.toNat = b :: s.toList.drop (i + 1).toNat ∧ bt s i = (b.toNat : Int) := by
  obtain ⟨n, rfl⟩ := Int.eq_ofNat_of_zero_le h0
  have hn : n < s.size := by omega
  refine ⟨s.toList[n]'(by rw [tl_length]; exact hn), ?_, bt_get s n hn⟩
  have h1 : ((n : Int) + 1).toNat = n + 1 := rfl
  rw [h1]
  exact List.drop_eq_getElem_cons (by rw [tl_length]; exact hn)

/-! ### The sum of bytes -/
def sumB : List UInt8 → Int
  | [] => 0
  | b :: l => (b.toNat : Int) + sumB l
theorem sumB_bounds : ∀ l : List UInt8, 0 ≤ sumB l ∧ sumB l ≤ 255 * (l.length : Int)
  | [] => by simp [sumB]
  | b :: l => by
    have h := sumB_bounds l
    have hb := b.toNat_lt
    simp only [sumB, List.length_cons]
    omega
theorem sumB_append : ∀ a b : List UInt8, sumB (a ++ b) = sumB a + sumB b
  | [], b => by simp [sumB]
  | x :: a, b => by
    have h := sumB_append a b
    simp only [sumB, List.cons_append, h]
    omega
theorem sumB_zeros : ∀ n : Nat, sumB (List.replicate n 0) = 0
  | 0 => rfl
  | n + 1 => by
    have h := sumB_zeros n
    simp only [List.replicate_succ, sumB, h]
    rfl

/-! ### The last place of a byte below a bound -/
def lastTo (s : ByteArray) (c : Int) : Nat → Int
  | 0 => -1
  | n + 1 => if bt s (n : Int) = c then (n : Int) else lastTo s c n
theorem lastTo_bounds (s : ByteArray) (c : Int) : ∀ n : Nat, -1 ≤ lastTo s c n ∧ lastTo s c n < (n : Int)
  | 0 => by simp [lastTo]
  | n + 1 => by
    have h := lastTo_bounds s c n
    unfold lastTo
    split <;> omega

/-- A byte of a text that was written out of numbers. -/
theorem bt_nums (xs : List Int) (i : Nat) (h : i < xs.length) (h0 : 0 ≤ xs[i] ∧ xs[i] ≤ 255) : bt (strOfNums xs) (i : Int) = xs[i] := by
  rw [bt_get _ i (by rw [strOfNums_size]; exact h)]
  simp only [tl_nums, List.getElem_map]
  rw [UInt8.toNat_ofNat']
  omega
theorem bt_append_left (s t : ByteArray) (i : Nat) (h : i < s.size) : bt (s ++ t) (i : Int) = bt s (i : Int) := by
  rw [bt_get _ i (by rw [ByteArray.size_append]; omega), bt_get _ i h]
  simp only [tl_append]
  rw [List.getElem_append_left (by rw [tl_length]; exact h)]
theorem bt_append_right (s t : ByteArray) (i : Nat) (h : i < t.size) : bt (s ++ t) ((s.size + i : Nat) : Int) = bt t (i : Int) := by
  rw [bt_get _ (s.size + i) (by rw [ByteArray.size_append]; omega), bt_get _ i h]
  simp only [tl_append]
  rw [List.getElem_append_right (by rw [tl_length]; omega)]
  simp only [tl_length, Nat.add_sub_cancel_left]

end Go.Proofs.YtgmggpgcfonmgaaDoor.Core
