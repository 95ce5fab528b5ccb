/-
The pure statement of the law FnExactGlob (numbers, byte strings and lists; no Go and no memory): the printed law's function answers true. Conditions: those of the printed statement (each string at most 2^47 - 4096 bytes, each number of its kind).
-/
import Derived.Test.YtfmhajlpaelmeaaPFnExactGlobx4
import Derived.Test.YtfmhajlpaelmeaaCore
namespace Go.Proofs.Ytfmhajlpaelmeaa.Pure
open Go.RowKit Go.Proofs.Ytfmhajlpaelmeaa.PFnExactGlob Go.Proofs.YtfmhajlpaelmeaaW.PrintWords Go.Proofs.YtfmhajlpaelmeaaW.PrintLast Go.Proofs.Ytfmhajlpaelmeaa.Core

/-- One byte of a pattern on: which beginnings of the text fit. -/
def nextB (s : ByteArray) (p : Int) (wide : Bool) (c : Nat → Bool) : Nat → Bool
  | 0 => if p = 42 then c 0 else false
  | k + 1 => if p = 42 then c (k + 1) || (nextB s p wide c k && (wide || (bt s (k : Int) != 47))) else if p = 63 then c k && (bt s (k : Int) != 47) else c k && (bt s (k : Int) == p)
/-- Does a byte of a pattern, with the one behind it, mean anything? -/
def wideAt (p : ByteArray) (i : Nat) : Bool := (bt p (i : Int) == 42) && decide (i + 1 < p.size) && (bt p ((i + 1 : Nat) : Int) == 42)
/-- The pattern from byte i on. -/
def globFrom (p s : ByteArray) : Nat → Nat → (Nat → Bool) → Bool
  | 0, _, c => c s.size
  | m + 1, i, c => if i < p.size then globFrom p s m (if wideAt p i = true then i + 2 else i + 1) (nextB s (bt p (i : Int)) (wideAt p i) c) else c s.size
def globM (p s : ByteArray) : Bool := decide (p.size ≤ 50 ∧ s.size ≤ 300) && globFrom p s (p.size + 1) 0 (fun j => j == 0)
/-- A row of bools tells the same. -/
structure Row (xs : List Bool) (n : Nat) (c : Nat → Bool) : Prop where
  len : xs.length = n + 1
  get : ∀ j : Nat, j ≤ n → rdOf false xs (j : Int) = c j
theorem rdOf_set (xs : List Bool) (i j : Nat) (v : Bool) (hi : i < xs.length) : rdOf false (xs.set i v) (j : Int) = if j = i then v else rdOf false xs (j : Int) := by
  unfold rdOf
  rw [Int.toNat_natCast, List.getD_eq_getElem?_getD, List.getD_eq_getElem?_getD, List.getElem?_set]
  by_cases h : i = j
  · rw [if_pos h, if_pos h.symm, if_pos hi]; rfl
  · rw [if_neg h, if_neg (fun e => h e.symm)]
theorem rdOf_false (n j : Nat) : rdOf false (List.replicate n false) (j : Int) = false := by
  unfold rdOf
  rw [Int.toNat_natCast, List.getD_eq_getElem?_getD, List.getElem?_replicate]
  split <;> rfl
theorem row_first (n : Nat) : Row ((List.replicate (n + 1) false).set (Int.toNat 0) true) n (fun j => j == 0) := by
  refine ⟨by rw [List.length_set, List.length_replicate], fun j _ => ?_⟩
  rw [show Int.toNat 0 = 0 from rfl, rdOf_set _ 0 j true (by rw [List.length_replicate]; omega), rdOf_false]
  by_cases h : j = 0 <;> simp [h]
/-- One more place of the new row. -/
theorem set_next {x7 : List Bool} {n j : Nat} {f : Nat → Bool} (hl : x7.length = n + 1) (hj : j ≤ n) (h : ∀ q, q < j → rdOf false x7 (q : Int) = f q) (v : Bool) (hv : v = f j) :
    (x7.set j v).length = n + 1 ∧ ∀ q, q < j + 1 → rdOf false (x7.set j v) (q : Int) = f q := by
  refine ⟨by rw [List.length_set]; exact hl, fun q hq => ?_⟩
  rw [rdOf_set _ _ _ _ (by omega)]
  by_cases e : q = j
  · rw [if_pos e, hv, e]
  · rw [if_neg e]; exact h q (by omega)

theorem spec_glob_row (p s : ByteArray) (hp : p.size ≤ 50) (hs : s.size ≤ 300) (i : Nat) (hi : i < p.size) (wide : Bool) (hw : wide = wideAt p i) (x5 : List Bool) (c : Nat → Bool) (R : Row x5 s.size c) :
    ∀ (d k j : Nat) (x7 : List Bool), s.size + 1 - j = d → j ≤ s.size + 1 → d < k → x7.length = s.size + 1 → (∀ q, q < j → rdOf false x7 (q : Int) = nextB s (bt p (i : Int)) wide c q) →
    ∃ y, Row y s.size (nextB s (bt p (i : Int)) wide c) ∧ spec_l02Glob.l1 k p s x5 (i : Int) x7 wide (j : Int) = spec_l02Glob.l0 (k - d - 1) p s y (((if wideAt p i = true then i + 2 else i + 1 : Nat)) : Int) := by
  intro d
  induction d with
  | zero =>
    intro k j x7 hd hj hk hl h
    obtain ⟨k, rfl⟩ : ∃ m, k = m + 1 := ⟨k - 1, by omega⟩
    refine ⟨x7, ⟨hl, fun q hq => h q (by omega)⟩, ?_⟩
    simp only [spec_l02Glob.l1]
    rw [if_neg (by omega), w64 (n := (i : Int) + 1) (by omega) (by omega), w64 (n := (i : Int) + 1 + 1) (by omega) (by omega), ← hw]
    cases wide with
    | true => rw [if_pos rfl, if_pos rfl]; congr 1
    | false => rw [if_neg (by decide), if_neg (by decide)]; congr 1
  | succ d ih =>
    intro k j x7 hd hj hk hl h
    obtain ⟨k, rfl⟩ : ∃ m, k = m + 1 := ⟨k - 1, by omega⟩
    have hjn : j ≤ s.size := by omega
    have step : ∀ v : Bool, v = nextB s (bt p (i : Int)) wide c j → ∃ y, Row y s.size (nextB s (bt p (i : Int)) wide c) ∧ spec_l02Glob.l1 k p s x5 (i : Int) (x7.set j v) wide ((j + 1 : Nat) : Int) = spec_l02Glob.l0 (k + 1 - (d + 1) - 1) p s y (((if wideAt p i = true then i + 2 else i + 1 : Nat)) : Int) := by
      intro v hv
      obtain ⟨hl2, h2⟩ := set_next hl hjn h v hv
      obtain ⟨y, hy, e⟩ := ih k (j + 1) (x7.set j v) (by omega) (by omega) (by omega) hl2 h2
      exact ⟨y, hy, by rw [e]; congr 1; omega⟩
    simp only [spec_l02Glob.l1]
    have e1 : wrap64 ((j : Int) + 1) = ((j + 1 : Nat) : Int) := by rw [w64 (by omega) (by omega)]; omega
    have e2 : (j : Int).toNat = j := rfl
    rw [if_pos (show (j : Int) ≤ (s.size : Int) by omega), if_pos (show 0 ≤ (i : Int) by omega), if_pos (show (i : Int) < (p.size : Int) by omega), e1, e2]
    have hx7 : (j : Int) < (x7.length : Int) := by omega
    have hx5 : (j : Int) < (x5.length : Int) := by rw [R.len]; omega
    have h0 : 0 ≤ (j : Int) := by omega
    by_cases c1 : bt p (i : Int) = 42
    · rw [if_pos c1, if_pos h0, if_pos hx5, R.get j hjn]
      cases hc : c j with
      | true =>
        rw [if_pos rfl, if_pos hx7]
        apply step
        cases j with
        | zero => simp [nextB, c1, hc]
        | succ j => simp [nextB, c1, hc]
      | false =>
        rw [if_neg (by decide)]
        cases j with
        | zero =>
          rw [if_neg (by decide), if_pos hx7]
          apply step
          simp [nextB, c1, hc]
        | succ j =>
          have e3 : wrap64 (((j + 1 : Nat) : Int) - 1) = (j : Int) := by rw [w64 (by omega) (by omega)]; omega
          rw [if_pos (show ((j + 1 : Nat) : Int) > 0 by omega), e3, if_pos (show 0 ≤ (j : Int) by omega), if_pos (show (j : Int) < (x7.length : Int) by omega), h j (by omega)]
          cases hn : nextB s (bt p (i : Int)) wide c j with
          | true =>
            rw [if_pos rfl]
            by_cases hwd : wide = true
            · rw [if_pos hwd, if_pos hx7]
              apply step
              rw [nextB, if_pos c1, hc, hn, hwd]
              rfl
            · rw [if_neg hwd, if_pos (show (j : Int) < (s.size : Int) by omega), if_pos hx7]
              apply step
              rw [nextB, if_pos c1, hc, hn, Bool.eq_false_iff.2 hwd]
              simp
          | false =>
            rw [if_neg (by decide), if_pos hx7]
            apply step
            rw [nextB, if_pos c1, hc, hn]
            rfl
    · rw [if_neg c1]
      by_cases c2 : bt p (i : Int) = 63
      · rw [if_pos c2]
        cases j with
        | zero =>
          rw [if_neg (by decide), if_pos h0, if_pos hx7]
          apply step
          simp [nextB, c1]
        | succ j =>
          have e3 : wrap64 (((j + 1 : Nat) : Int) - 1) = (j : Int) := by rw [w64 (by omega) (by omega)]; omega
          rw [if_pos (show ((j + 1 : Nat) : Int) > 0 by omega), e3, if_pos (show 0 ≤ (j : Int) by omega), if_pos (show (j : Int) < (x5.length : Int) by omega), R.get j (by omega)]
          cases hc : c j with
          | true =>
            rw [if_pos rfl, if_pos (show (j : Int) < (s.size : Int) by omega), if_pos h0, if_pos hx7]
            apply step
            rw [nextB, if_neg c1, if_pos c2, hc]
            rfl
          | false =>
            rw [if_neg (by decide), if_pos h0, if_pos hx7]
            apply step
            rw [nextB, if_neg c1, if_pos c2, hc]
            rfl
      · rw [if_neg c2]
        cases j with
        | zero =>
          rw [if_neg (by decide), if_pos h0, if_pos hx7]
          apply step
          simp [nextB, c1]
        | succ j =>
          have e3 : wrap64 (((j + 1 : Nat) : Int) - 1) = (j : Int) := by rw [w64 (by omega) (by omega)]; omega
          rw [if_pos (show ((j + 1 : Nat) : Int) > 0 by omega), e3, if_pos (show 0 ≤ (j : Int) by omega), if_pos (show (j : Int) < (x5.length : Int) by omega), R.get j (by omega)]
          cases hc : c j with
          | true =>
            rw [if_pos rfl, if_pos (show (j : Int) < (s.size : Int) by omega), if_pos h0, if_pos hx7]
            apply step
            rw [nextB, if_neg c1, if_neg c2, hc]
            rfl
          | false =>
            rw [if_neg (by decide), if_pos h0, if_pos hx7]
            apply step
            rw [nextB, if_neg c1, if_neg c2, hc]
            rfl
set_option maxRecDepth 100000 in
theorem spec_glob_loop (p s : ByteArray) (hp : p.size ≤ 50) (hs : s.size ≤ 300) : ∀ (m k i : Nat) (x5 : List Bool) (c : Nat → Bool), p.size - i < m → i ≤ p.size + 1 → m * 400 < k → Row x5 s.size c →
    spec_l02Glob.l0 k p s x5 (i : Int) = some (globFrom p s m i c) := by
  intro m
  induction m with
  | zero => intro k i x5 c h1 _ _ _; omega
  | succ m ih =>
    intro k i x5 c h1 hi hk R
    obtain ⟨k, rfl⟩ : ∃ q, k = q + 1 := ⟨k - 1, by omega⟩
    simp only [spec_l02Glob.l0, globFrom]
    by_cases h : i < p.size
    · have e1 : wrap64 ((s.size : Int) + 1) = ((s.size + 1 : Nat) : Int) := by rw [w64 (by omega) (by omega)]; omega
      have e2 : wrap64 ((i : Int) + 1) = ((i + 1 : Nat) : Int) := by rw [w64 (by omega) (by omega)]; omega
      have e3 : (((s.size + 1 : Nat) : Int)).toNat = s.size + 1 := rfl
      rw [if_pos (show (i : Int) < (p.size : Int) by omega), if_pos h, e1, if_pos (by omega), e3, if_pos (by omega)]
      simp only [Option.bind_some]
      rw [if_pos (show 0 ≤ (i : Int) by omega), e2]
      have go : ∀ wide : Bool, wide = wideAt p i → spec_l02Glob.j1 k p s x5 (i : Int) (List.replicate (s.size + 1) false) wide = some (globFrom p s m (if wideAt p i = true then i + 2 else i + 1) (nextB s (bt p (i : Int)) (wideAt p i) c)) := by
        intro wide hw
        obtain ⟨k, rfl⟩ : ∃ q, k = q + 1 := ⟨k - 1, by omega⟩
        simp only [spec_l02Glob.j1]
        obtain ⟨y, hy, e⟩ := spec_glob_row p s hp hs i h wide hw x5 c R (s.size + 1) k 0 (List.replicate (s.size + 1) false) (by omega) (by omega) (by omega) (by rw [List.length_replicate]) (fun q hq => by omega)
        rw [show ((0 : Nat) : Int) = 0 from rfl] at e
        rw [e, ← hw]
        have hA : p.size - (if wide = true then i + 2 else i + 1) < m := by split <;> omega
        have hB : (if wide = true then i + 2 else i + 1) ≤ p.size + 1 := by split <;> omega
        have hC : m * 400 < k - (s.size + 1) - 1 := by omega
        exact ih (k - (s.size + 1) - 1) (if wide = true then i + 2 else i + 1) y (nextB s (bt p (i : Int)) wide c) hA hB hC hy
      by_cases c1 : bt p (i : Int) = 42
      · rw [if_pos c1]
        by_cases c2 : i + 1 < p.size
        · rw [if_pos (show ((i + 1 : Nat) : Int) < (p.size : Int) by omega), if_pos (by omega)]
          apply go
          simp [wideAt, c1, c2]
        · rw [if_neg (show ¬ ((i + 1 : Nat) : Int) < (p.size : Int) by omega)]
          apply go
          simp [wideAt, c2]
      · rw [if_neg c1]
        apply go
        simp [wideAt, c1]
    · rw [if_neg (show ¬ (i : Int) < (p.size : Int) by omega), if_neg h, if_pos (by omega), if_pos (by rw [R.len]; omega), R.get s.size (Nat.le_refl _)]
theorem spec_glob (p s : ByteArray) (k : Nat) (hk : 30000 < k) : spec_Glob.f k p s = some (globM p s) := by
  unfold spec_Glob.f globM
  by_cases h1 : p.size ≤ 50
  · rw [if_pos (show (p.size : Int) ≤ 50 by omega)]
    by_cases h2 : s.size ≤ 300
    · rw [if_pos (show (s.size : Int) ≤ 300 by omega), decide_eq_true ⟨h1, h2⟩, Bool.true_and]
      unfold spec_l02Glob.f
      have e1 : wrap64 ((s.size : Int) + 1) = ((s.size + 1 : Nat) : Int) := by rw [w64 (by omega) (by omega)]; omega
      have e3 : (((s.size + 1 : Nat) : Int)).toNat = s.size + 1 := rfl
      rw [e1, if_pos (by omega), e3, if_pos (by omega)]
      simp only [Option.bind_some, List.length_replicate]
      rw [if_pos (by omega)]
      have := spec_glob_loop p s h1 h2 (p.size + 1) k 0 _ _ (by omega) (by omega) (by omega) (row_first s.size)
      rw [show ((0 : Nat) : Int) = 0 from rfl] at this
      rw [this]
      rfl
    · rw [if_neg (show ¬ (s.size : Int) ≤ 300 by omega), decide_eq_false (fun h => h2 h.2)]
      rfl
  · rw [if_neg (show ¬ (p.size : Int) ≤ 50 by omega), decide_eq_false (fun h => h1 h.1)]
    rfl

theorem impl_glob_row (p s : ByteArray) (_hp : p.size ≤ 50) (hs : s.size ≤ 300) (x6 : Int) (star wide : Bool) (b : Int) (hst : star = (b == 42)) (hw : wide = true → b = 42) (hx6 : -1 ≤ x6 ∧ x6 < 100) (hb : star = false → 0 ≤ x6 ∧ x6 < (p.size : Int) ∧ bt p x6 = b) (x5 : List Bool) (c : Nat → Bool) (R : Row x5 s.size c) :
    ∀ (d k j : Nat) (x7 : List Bool), s.size - j = d → j ≤ s.size → d < k → x7.length = s.size + 1 → (∀ q, q < j + 1 → rdOf false x7 (q : Int) = nextB s b wide c q) →
    ∃ y, Row y s.size (nextB s b wide c) ∧ impl_Glob.l1 k p s x5 x6 star wide x7 (s.size : Int) (j : Int) = impl_Glob.l0 (k - d - 1) p s y (x6 + 1) := by
  intro d
  induction d with
  | zero =>
    intro k j x7 hd hj hk hl h
    obtain ⟨k, rfl⟩ : ∃ m, k = m + 1 := ⟨k - 1, by omega⟩
    refine ⟨x7, ⟨hl, fun q hq => h q (by omega)⟩, ?_⟩
    simp only [impl_Glob.l1]
    rw [if_neg (by omega), w64 (n := x6 + 1) (by omega) (by omega)]
    congr 1
  | succ d ih =>
    intro k j x7 hd hj hk hl h
    obtain ⟨k, rfl⟩ : ∃ m, k = m + 1 := ⟨k - 1, by omega⟩
    have hjn : j + 1 ≤ s.size := by omega
    have step : ∀ v : Bool, v = nextB s b wide c (j + 1) → ∃ y, Row y s.size (nextB s b wide c) ∧ impl_Glob.l1 k p s x5 x6 star wide (x7.set (j + 1) v) (s.size : Int) ((j + 1 : Nat) : Int) = impl_Glob.l0 (k + 1 - (d + 1) - 1) p s y (x6 + 1) := by
      intro v hv
      obtain ⟨hl2, h2⟩ := set_next hl hjn h v hv
      obtain ⟨y, hy, e⟩ := ih k (j + 1) (x7.set (j + 1) v) (by omega) (by omega) (by omega) hl2 h2
      exact ⟨y, hy, by rw [e]; congr 1; omega⟩
    simp only [impl_Glob.l1]
    have e1 : wrap64 ((j : Int) + 1) = ((j + 1 : Nat) : Int) := by rw [w64 (by omega) (by omega)]; omega
    have e2 : (((j + 1 : Nat) : Int)).toNat = j + 1 := rfl
    have hx7 : ((j + 1 : Nat) : Int) < (x7.length : Int) := by omega
    have hx5 : ((j + 1 : Nat) : Int) < (x5.length : Int) := by rw [R.len]; omega
    have hx5' : (j : Int) < (x5.length : Int) := by omega
    have hx7' : (j : Int) < (x7.length : Int) := by omega
    have h0 : 0 ≤ (j : Int) := by omega
    have h1 : 0 ≤ ((j + 1 : Nat) : Int) := by omega
    have hjs : (j : Int) < (s.size : Int) := by omega
    rw [if_pos hjs, e1, e2]
    cases hwd : wide with
    | true =>
      have c1 := hw hwd
      subst hwd
      rw [if_pos rfl, if_pos h1, if_pos hx5, R.get (j + 1) hjn]
      cases hc : c (j + 1) with
      | true =>
        rw [if_pos rfl, if_pos hx7]
        apply step
        rw [nextB, if_pos c1, hc]
        rfl
      | false =>
        rw [if_neg (by decide), if_pos h0, if_pos hx7', if_pos hx7, h j (by omega)]
        apply step
        rw [nextB, if_pos c1, hc]
        simp
    | false =>
      subst hwd
      rw [if_neg (by decide)]
      by_cases hs1 : star = true
      · have c1 : b = 42 := by rw [hs1] at hst; exact beq_iff_eq.1 hst.symm
        rw [if_pos hs1, if_pos h1, if_pos hx5, R.get (j + 1) hjn]
        cases hc : c (j + 1) with
        | true =>
          rw [if_pos rfl, if_pos hx7]
          apply step
          rw [nextB, if_pos c1, hc]
          rfl
        | false =>
          rw [if_neg (by decide), if_pos h0, if_pos hx7', h j (by omega)]
          cases hn : nextB s b false c j with
          | true =>
            rw [if_pos rfl, if_pos hjs, if_pos hx7]
            apply step
            rw [nextB, if_pos c1, hc, hn]
            simp
          | false =>
            rw [if_neg (by decide), if_pos hx7]
            apply step
            rw [nextB, if_pos c1, hc, hn]
            rfl
      · have hsf : star = false := Bool.eq_false_iff.2 hs1
        obtain ⟨q0, q1, q2⟩ := hb hsf
        have c1 : ¬ b = 42 := by rw [hsf] at hst; exact beq_eq_false_iff_ne.1 hst.symm
        rw [if_neg hs1, if_pos q0, if_pos q1, q2]
        by_cases c2 : b = 63
        · rw [if_pos c2, if_pos h0, if_pos hx5', R.get j (by omega)]
          cases hc : c j with
          | true =>
            rw [if_pos rfl, if_pos hjs, if_pos h1, if_pos hx7]
            apply step
            rw [nextB, if_neg c1, if_pos c2, hc]
            rfl
          | false =>
            rw [if_neg (by decide), if_pos h1, if_pos hx7]
            apply step
            rw [nextB, if_neg c1, if_pos c2, hc]
            rfl
        · rw [if_neg c2, if_pos h0, if_pos hx5', R.get j (by omega)]
          cases hc : c j with
          | true =>
            rw [if_pos rfl, if_pos hjs, if_pos h1, if_pos hx7]
            apply step
            rw [nextB, if_neg c1, if_neg c2, hc]
            rfl
          | false =>
            rw [if_neg (by decide), if_pos h1, if_pos hx7]
            apply step
            rw [nextB, if_neg c1, if_neg c2, hc]
            rfl
set_option maxRecDepth 100000 in
theorem impl_glob_loop (p s : ByteArray) (hp : p.size ≤ 50) (hs : s.size ≤ 300) : ∀ (m k i : Nat) (x5 : List Bool) (c : Nat → Bool), p.size - i < m → i ≤ p.size + 1 → m * 400 < k → Row x5 s.size c →
    impl_Glob.l0 k p s x5 (i : Int) = some (globFrom p s m i c) := by
  intro m
  induction m with
  | zero => intro k i x5 c h1 _ _ _; omega
  | succ m ih =>
    intro k i x5 c h1 hi hk R
    obtain ⟨k, rfl⟩ : ∃ q, k = q + 4 := ⟨k - 4, by omega⟩
    simp only [impl_Glob.l0, globFrom]
    by_cases h : i < p.size
    · have e1 : wrap64 ((s.size : Int) + 1) = ((s.size + 1 : Nat) : Int) := by rw [w64 (by omega) (by omega)]; omega
      have e2 : wrap64 ((i : Int) + 1) = ((i + 1 : Nat) : Int) := by rw [w64 (by omega) (by omega)]; omega
      have e3 : (((s.size + 1 : Nat) : Int)).toNat = s.size + 1 := rfl
      rw [if_pos (show (i : Int) < (p.size : Int) by omega), if_pos h, if_pos (show 0 ≤ (i : Int) by omega), e2]
      have go : ∀ wide : Bool, wide = wideAt p i → impl_Glob.j2 (k + 3) p s x5 (i : Int) (bt p (i : Int) == 42) wide = some (globFrom p s m (if wideAt p i = true then i + 2 else i + 1) (nextB s (bt p (i : Int)) (wideAt p i) c)) := by
        intro wide hw
        have hw42 : wide = true → bt p (i : Int) = 42 := by
          intro h3
          rw [h3] at hw
          unfold wideAt at hw
          simp at hw
          exact hw.1.1
        have run : ∀ x6 : Int, (-1 ≤ x6 ∧ x6 < 100) → ((bt p (i : Int) == 42) = false → 0 ≤ x6 ∧ x6 < (p.size : Int) ∧ bt p x6 = bt p (i : Int)) → ∃ y, Row y s.size (nextB s (bt p (i : Int)) wide c) ∧ impl_Glob.j3 (k + 2) p s x5 x6 (bt p (i : Int) == 42) wide = impl_Glob.l0 (k - s.size - 1) p s y (x6 + 1) := by
          intro x6 hx6 hb
          simp only [impl_Glob.j3]
          rw [e1, if_pos (by omega), e3, if_pos (by omega)]
          simp only [Option.bind_some, List.length_replicate]
          have l5 : (0 : Int) < (x5.length : Int) := by rw [R.len]; omega
          have first : ∀ v : Bool, v = nextB s (bt p (i : Int)) wide c 0 → ∃ y, Row y s.size (nextB s (bt p (i : Int)) wide c) ∧ impl_Glob.j4 (k + 1) p s x5 x6 (bt p (i : Int) == 42) wide ((List.replicate (s.size + 1) false).set (Int.toNat 0) v) = impl_Glob.l0 (k - s.size - 1) p s y (x6 + 1) := by
            intro v hv
            simp only [impl_Glob.j4]
            obtain ⟨hl2, h2⟩ := set_next (n := s.size) (j := 0) (f := nextB s (bt p (i : Int)) wide c) (x7 := List.replicate (s.size + 1) false) (by rw [List.length_replicate]) (by omega) (fun q hq => by omega) v hv
            exact impl_glob_row p s hp hs x6 _ wide _ rfl hw42 hx6 hb x5 c R s.size k 0 _ (by omega) (by omega) (by omega) hl2 h2
          by_cases c1 : bt p (i : Int) = 42
          · rw [if_pos (beq_iff_eq.2 c1), if_pos l5, if_pos (by omega)]
            apply first
            have := R.get 0 (by omega)
            rw [show ((0 : Nat) : Int) = 0 from rfl] at this
            rw [nextB, if_pos c1, this]
          · rw [if_neg (fun h => c1 (beq_iff_eq.1 h)), if_pos (by omega)]
            apply first
            rw [nextB, if_neg c1]
        simp only [impl_Glob.j2]
        by_cases hwd : wide = true
        · rw [if_pos hwd, e2]
          obtain ⟨y, hy, e⟩ := run ((i + 1 : Nat) : Int) (by omega) (fun hf => absurd (hw42 hwd) (beq_eq_false_iff_ne.1 hf))
          have hw2 : wideAt p i = true := hw ▸ hwd
          have hi2 : i + 1 < p.size := by
            have := hw2
            unfold wideAt at this
            simp at this
            exact this.1.2
          rw [e, if_pos hw2, ← hw]
          have hC : m * 400 < k - s.size - 1 := by omega
          have := ih (k - s.size - 1) (i + 2) y (nextB s (bt p (i : Int)) wide c) (by omega) (by omega) hC hy
          rw [show ((i + 2 : Nat) : Int) = ((i + 1 : Nat) : Int) + 1 by omega] at this
          exact this
        · rw [if_neg hwd]
          obtain ⟨y, hy, e⟩ := run (i : Int) (by omega) (fun _ => ⟨by omega, by omega, rfl⟩)
          have hw2 : ¬ wideAt p i = true := hw ▸ hwd
          rw [e, if_neg hw2, ← hw]
          have hC : m * 400 < k - s.size - 1 := by omega
          have := ih (k - s.size - 1) (i + 1) y (nextB s (bt p (i : Int)) wide c) (by omega) (by omega) hC hy
          rw [show ((i + 1 : Nat) : Int) = (i : Int) + 1 by omega] at this
          exact this
      by_cases c1 : bt p (i : Int) = 42
      · rw [if_pos c1]
        by_cases c2 : i + 1 < p.size
        · rw [if_pos (show ((i + 1 : Nat) : Int) < (p.size : Int) by omega), if_pos (by omega)]
          apply go
          simp [wideAt, c1, c2]
        · rw [if_neg (show ¬ ((i + 1 : Nat) : Int) < (p.size : Int) by omega)]
          apply go
          simp [wideAt, c2]
      · rw [if_neg c1]
        apply go
        simp [wideAt, c1]
    · rw [if_neg (show ¬ (i : Int) < (p.size : Int) by omega), if_neg h, if_pos (by omega), if_pos (by rw [R.len]; omega), R.get s.size (Nat.le_refl _)]
theorem impl_glob (p s : ByteArray) (k : Nat) (hk : 30000 < k) : impl_Glob.f k p s = some (globM p s) := by
  obtain ⟨k, rfl⟩ : ∃ q, k = q + 1 := ⟨k - 1, by omega⟩
  unfold impl_Glob.f globM
  by_cases h1 : p.size ≤ 50
  · rw [if_neg (show ¬ (p.size : Int) > 50 by omega)]
    by_cases h2 : s.size ≤ 300
    · rw [decide_eq_false (show ¬ (s.size : Int) > 300 by omega), decide_eq_true ⟨h1, h2⟩, Bool.true_and]
      simp only [impl_Glob.j0, Bool.false_eq_true, if_false]
      have e1 : wrap64 ((s.size : Int) + 1) = ((s.size + 1 : Nat) : Int) := by rw [w64 (by omega) (by omega)]; omega
      have e3 : (((s.size + 1 : Nat) : Int)).toNat = s.size + 1 := rfl
      rw [e1, if_pos (by omega), e3, if_pos (by omega)]
      simp only [Option.bind_some, List.length_replicate]
      rw [if_pos (by omega)]
      have := impl_glob_loop p s h1 h2 (p.size + 1) k 0 _ _ (by omega) (by omega) (by omega) (row_first s.size)
      rw [show ((0 : Nat) : Int) = 0 from rfl] at this
      exact this
    · rw [decide_eq_true (show (s.size : Int) > 300 by omega), decide_eq_false (fun h => h2 h.2)]
      simp only [impl_Glob.j0, if_true]
      rfl
  · rw [if_pos (show (p.size : Int) > 50 by omega), decide_eq_false (fun h => h1 h.1)]
    simp only [impl_Glob.j0, if_true]
    rfl

theorem FnExactGlob : laws_FnExactGlob.Pure := by
  intro p s _ _
  refine ⟨30001, ?_⟩
  unfold laws_FnExactGlob.f
  rw [spec_glob p s 30001 (by omega), impl_glob p s 30001 (by omega)]
  simp

end Go.Proofs.Ytfmhajlpaelmeaa.Pure
