/-
The pure statement of the law FnExactDecText (numbers, byte strings and lists; no Go and no memory): the printed law's function answers true. Conditions: those of the printed statement (each string at most 2^47 - 4096 bytes, each number of its kind).
-/
import Derived.Test.YtlaoljbanflcgaaDoorPFnExactDecTextx1
import Derived.Test.YtlaoljbanflcgaaDoorCore
namespace Go.Proofs.YtlaoljbanflcgaaDoor.Pure
open Go.RowKit Go.Proofs.YtlaoljbanflcgaaDoor.PFnExactDecText Go.Proofs.YtlaoljbanflcgaaDoorW.PrintWords Go.Proofs.YtlaoljbanflcgaaDoorW.PrintLast Go.Proofs.YtlaoljbanflcgaaDoor.Core
set_option linter.unusedVariables false
set_option linter.unusedSimpArgs false

/-! ### The decimal text -/
def decZ (u : Nat) : List UInt8 := if u = 0 then [] else Lib.decDigits u
theorem decZ_step (u : Nat) (h : 0 < u) : decZ u = decZ (u / 10) ++ [UInt8.ofNat (48 + u % 10)] := by
  unfold decZ
  rw [if_neg (by omega), Lib.decDigits]
  by_cases c : u < 10
  · rw [dif_pos c, if_pos (by omega), Nat.mod_eq_of_lt c]
    rfl
  · rw [dif_neg c, if_neg (by omega)]
theorem digit_at (d : Nat) (h : d < 10) : ((⟨#[48, 49, 50, 51, 52, 53, 54, 55, 56, 57]⟩ : ByteArray).extract d (d + 1)).toList = [UInt8.ofNat (48 + d)] := by
  rw [tl_extract, tl]
  have : d = 0 ∨ d = 1 ∨ d = 2 ∨ d = 3 ∨ d = 4 ∨ d = 5 ∨ d = 6 ∨ d = 7 ∨ d = 8 ∨ d = 9 := by omega
  rcases this with rfl | rfl | rfl | rfl | rfl | rfl | rfl | rfl | rfl | rfl <;> rfl
theorem tmod_pos (u : Nat) : Int.tmod (u : Int) 10 = ((u % 10 : Nat) : Int) := by
  rw [Int.tmod_eq_emod_of_nonneg (by omega)]
  omega
theorem tdiv_pos (u : Nat) : Int.tdiv (u : Int) 10 = ((u / 10 : Nat) : Int) := by
  rw [Int.tdiv_eq_ediv_of_nonneg (by omega)]
  omega
theorem tmod_neg (u : Nat) : Int.tmod (-(u : Int)) 10 = -((u % 10 : Nat) : Int) := by
  rw [Int.neg_tmod, tmod_pos]
theorem tdiv_neg (u : Nat) : Int.tdiv (-(u : Int)) 10 = -((u / 10 : Nat) : Int) := by
  rw [Int.neg_tdiv, tdiv_pos]
def signM (n : Int) : List UInt8 := if n < 0 then [45] else []
theorem spec_dec_loop (n : Int) : ∀ (j u k : Nat) (x : Int) (acc : ByteArray), j ≤ 19 → u < 10 ^ j → u ≤ 9223372036854775808 → (x = (u : Int) ∧ u ≤ 9223372036854775807 ∨ x = -(u : Int)) → j < k → acc.size + j ≤ 1000 →
    ∃ r, spec_DecText.l0 k n acc x = some r ∧ r.toList = signM n ++ (decZ u ++ acc.toList) := by
  intro j
  induction j with
  | zero =>
    intro u k x acc hj hu hb hx hk ha
    obtain ⟨k, rfl⟩ : ∃ m, k = m + 1 := ⟨k - 1, by omega⟩
    have hu0 : u = 0 := by simpa using hu
    subst hu0
    have hx0 : x = 0 := by omega
    unfold spec_DecText.l0
    rw [if_pos hx0]
    by_cases hn : n < 0
    · rw [if_pos hn, if_pos (by omega)]
      refine ⟨_, rfl, ?_⟩
      rw [tl_append, tl]
      simp [signM, hn, decZ]
    · rw [if_neg hn]
      exact ⟨_, rfl, by simp [signM, hn, decZ]⟩
  | succ j ih =>
    intro u k x acc hj hu hb hx hk ha
    obtain ⟨k, rfl⟩ : ∃ m, k = m + 1 := ⟨k - 1, by omega⟩
    by_cases h0 : u = 0
    · have hx0 : x = 0 := by omega
      subst h0
      unfold spec_DecText.l0
      rw [if_pos hx0]
      by_cases hn : n < 0
      · rw [if_pos hn, if_pos (by omega)]
        refine ⟨_, rfl, ?_⟩
        rw [tl_append, tl]
        simp [signM, hn, decZ]
      · rw [if_neg hn]
        exact ⟨_, rfl, by simp [signM, hn, decZ]⟩
    · have hm : u % 10 < 10 := Nat.mod_lt _ (by decide)
      have hd := digit_at (u % 10) hm
      have hs : ((⟨#[48, 49, 50, 51, 52, 53, 54, 55, 56, 57]⟩ : ByteArray).extract (u % 10) (u % 10 + 1)).size = 1 := by rw [← tl_length, hd]; rfl
      have hq : u / 10 < 10 ^ j := by rw [Nat.pow_succ] at hu; omega
      have next : ∀ y : Int, (y = ((u / 10 : Nat) : Int) ∧ u / 10 ≤ 9223372036854775807 ∨ y = -((u / 10 : Nat) : Int)) → ∃ r, spec_DecText.l0 k n (((⟨#[48, 49, 50, 51, 52, 53, 54, 55, 56, 57]⟩ : ByteArray).extract (u % 10) (u % 10 + 1)) ++ acc) y = some r ∧ r.toList = signM n ++ (decZ u ++ acc.toList) := by
        intro y hy
        obtain ⟨r, e, l⟩ := ih (u / 10) k y (((⟨#[48, 49, 50, 51, 52, 53, 54, 55, 56, 57]⟩ : ByteArray).extract (u % 10) (u % 10 + 1)) ++ acc) (by omega) hq (by omega) hy (by omega) (by rw [ByteArray.size_append, hs]; omega)
        refine ⟨r, e, ?_⟩
        rw [l, tl_append, hd, decZ_step u (by omega)]
        simp
      unfold spec_DecText.l0
      rw [if_neg (by omega)]
      rcases hx with ⟨hx, hb2⟩ | hx
      · have t1 : Int.tmod x 10 = ((u % 10 : Nat) : Int) := by rw [hx, tmod_pos]
        have t2 : Int.tdiv x 10 = ((u / 10 : Nat) : Int) := by rw [hx, tdiv_pos]
        rw [t1, t2, w64 (n := ((u % 10 : Nat) : Int) + 1) (by omega) (by omega), w64 (n := ((u / 10 : Nat) : Int)) (by omega) (by omega)]
        rw [show (((u % 10 : Nat) : Int) + 1).toNat = u % 10 + 1 by omega, Int.toNat_natCast]
        rw [if_neg (by omega), if_pos (by omega), if_pos (by omega), if_pos (by omega), if_pos (by rw [hs]; omega)]
        exact next _ (Or.inl ⟨rfl, by omega⟩)
      · have t1 : Int.tmod x 10 = -((u % 10 : Nat) : Int) := by rw [hx, tmod_neg]
        have t2 : Int.tdiv x 10 = -((u / 10 : Nat) : Int) := by rw [hx, tdiv_neg]
        rw [t1, t2, w64 (n := -((u / 10 : Nat) : Int)) (by omega) (by omega)]
        by_cases hz : u % 10 = 0
        · rw [hz] at hs next ⊢
          have e3 : wrap64 (-((0 : Nat) : Int) + 1) = 1 := by rw [w64 (by decide) (by decide)]; rfl
          have e1 : (-((0 : Nat) : Int)).toNat = 0 := rfl
          have e2 : (1 : Int).toNat = 0 + 1 := rfl
          rw [e3, if_neg (by decide), if_pos (by decide), if_pos (by decide), if_pos (by decide), e1, e2, if_pos (by rw [hs]; omega)]
          exact next _ (Or.inr rfl)
        · rw [if_pos (by omega), w64 (n := - -((u % 10 : Nat) : Int)) (by omega) (by omega), w64 (n := - -((u % 10 : Nat) : Int) + 1) (by omega) (by omega)]
          rw [show (- -((u % 10 : Nat) : Int) + 1).toNat = u % 10 + 1 by omega, show (- -((u % 10 : Nat) : Int)).toNat = u % 10 by omega]
          rw [if_pos (by omega), if_pos (by omega), if_pos (by omega), if_pos (by rw [hs]; omega)]
          exact next _ (Or.inr rfl)
theorem spec_dec (n : Int) (h0 : -9223372036854775808 ≤ n) (h1 : n ≤ 9223372036854775807) (k : Nat) (hk : 19 < k) : ∃ r, spec_DecText.f k n = some r ∧ r.toList = Lib.itoa n := by
  unfold spec_DecText.f Lib.itoa
  by_cases hz : n = 0
  · rw [if_pos hz, hz]
    refine ⟨_, rfl, ?_⟩
    rw [tl, if_neg (by decide), Lib.decDigits]
    rfl
  · rw [if_neg hz]
    obtain ⟨r, e, l⟩ := spec_dec_loop n 19 n.natAbs k n (⟨#[]⟩ : ByteArray) (by decide) (by omega) (by omega) (by omega) hk (by decide)
    refine ⟨r, e, ?_⟩
    have hn : (⟨#[]⟩ : ByteArray).toList = [] := by rw [tl]
    have hd : decZ n.natAbs = Lib.decDigits n.natAbs := by
      unfold decZ
      rw [if_neg (by omega)]
    rw [l, hn, List.append_nil, hd]
    unfold signM
    by_cases c : n < 0
    · rw [if_pos c, if_pos c]
      rfl
    · rw [if_neg c, if_neg c, show n.natAbs = n.toNat by omega]
      rfl
theorem impl_dec (n : Int) (h0 : -9223372036854775808 ≤ n) (h1 : n ≤ 9223372036854775807) : ∃ r, impl_DecText.f n = some r ∧ r.toList = Lib.itoa n := by
  unfold impl_DecText.f strconv_Itoa.f
  rw [if_pos ⟨h0, h1⟩]
  exact ⟨_, rfl, tl_mk _⟩

theorem FnExactDecText : laws_FnExactDecText.Pure := by
  intro n hn
  obtain ⟨h0, h1⟩ := wf_i64 hn
  obtain ⟨r1, e1, l1⟩ := spec_dec n h0 h1 20 (by decide)
  obtain ⟨r2, e2, l2⟩ := impl_dec n h0 h1
  refine ⟨20, ?_⟩
  unfold laws_FnExactDecText.f
  rw [e1, e2]
  simp only [Option.bind_some]
  rw [l1, l2, if_pos rfl]

end Go.Proofs.YtlaoljbanflcgaaDoor.Pure
