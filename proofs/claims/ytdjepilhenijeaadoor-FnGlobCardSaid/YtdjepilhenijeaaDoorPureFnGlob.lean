/-
The pure statement of the law FnGlob (numbers, byte strings and lists; no Go and no memory): the printed law's function answers true. Conditions: those of the printed statement (each string at most 2^47 - 4096 bytes, each number of its kind).
-/
import Derived.Test.YtdjepilhenijeaaDoorPFnGlobx10
import Derived.Test.YtdjepilhenijeaaDoorCore
namespace Go.Proofs.YtdjepilhenijeaaDoor.Pure
open Go.RowKit Go.Proofs.YtdjepilhenijeaaDoor.PFnGlob Go.Proofs.YtdjepilhenijeaaDoorW.PrintWords Go.Proofs.YtdjepilhenijeaaDoorW.PrintLast Go.Proofs.YtdjepilhenijeaaDoor.Core
set_option linter.unusedVariables false
set_option linter.unusedSimpArgs false

/-- One byte of a pattern on: which beginnings of the text fit. -/
def nextB (s : ByteArray) (p : Int) (wide : Bool) (c : Nat → Bool) : Nat → Bool
  | 0 => if p = 42 then c 0 else false
  | k + 1 => if p = 42 then c (k + 1) || (nextB s p wide c k && (wide || (bt s (k : Int) != 47))) else if p = 63 then c k && (bt s (k : Int) != 47) else c k && (bt s (k : Int) == p)
/-- Does a byte of a pattern, with the one behind it, mean anything? -/
def wideAt (p : ByteArray) (i : Nat) : Bool := (bt p (i : Int) == 42) && decide (i + 1 < p.size) && (bt p ((i + 1 : Nat) : Int) == 42)
/-- The pattern from byte i on. -/
def globFrom (p s : ByteArray) : Nat → Nat → (Nat → Bool) → Bool
  | 0, _, c => c s.size
  | m + 1, i, c => if i < p.size then globFrom p s m (if wideAt p i = true then i + 2 else i + 1) (nextB s (bt p (i : Int)) (wideAt p i) c) else c s.size
def globM (p s : ByteArray) : Bool := decide (p.size ≤ 50 ∧ s.size ≤ 300) && globFrom p s (p.size + 1) 0 (fun j => j == 0)
/-- A row of bools tells the same. -/
structure Row (xs : List Bool) (n : Nat) (c : Nat → Bool) : Prop where
  len : xs.length = n + 1
  get : ∀ j : Nat, j ≤ n → rdOf false xs (j : Int) = c j
theorem rdOf_set (xs : List Bool) (i j : Nat) (v : Bool) (hi : i < xs.length) : rdOf false (xs.set i v) (j : Int) = if j = i then v else rdOf false xs (j : Int) := by
  unfold rdOf
  rw [Int.toNat_natCast, List.getD_eq_getElem?_getD, List.getD_eq_getElem?_getD, List.getElem?_set]
  by_cases h : i = j
  · rw [if_pos h, if_pos h.symm, if_pos hi]; rfl
  · rw [if_neg h, if_neg (fun e => h e.symm)]
theorem rdOf_false (n j : Nat) : rdOf false (List.replicate n false) (j : Int) = false := by
  unfold rdOf
  rw [Int.toNat_natCast, List.getD_eq_getElem?_getD, List.getElem?_replicate]
  split <;> rfl
theorem row_first (n : Nat) : Row ((List.replicate (n + 1) false).set (Int.toNat 0) true) n (fun j => j == 0) := by
  refine ⟨by rw [List.length_set, List.length_replicate], fun j _ => ?_⟩
  rw [show Int.toNat 0 = 0 from rfl, rdOf_set _ 0 j true (by rw [List.length_replicate]; omega), rdOf_false]
  by_cases h : j = 0 <;> simp [h]
/-- One more place of the new row. -/
theorem set_next {x7 : List Bool} {n j : Nat} {f : Nat → Bool} (hl : x7.length = n + 1) (hj : j ≤ n) (h : ∀ q, q < j → rdOf false x7 (q : Int) = f q) (v : Bool) (hv : v = f j) :
    (x7.set j v).length = n + 1 ∧ ∀ q, q < j + 1 → rdOf false (x7.set j v) (q : Int) = f q := by
  refine ⟨by rw [List.length_set]; exact hl, fun q hq => ?_⟩
  rw [rdOf_set _ _ _ _ (by omega)]
  by_cases e : q = j
  · rw [if_pos e, hv, e]
  · rw [if_neg e]; exact h q (by omega)

theorem impl_glob_row (p s : ByteArray) (_hp : p.size ≤ 50) (hs : s.size ≤ 300) (x6 : Int) (star wide : Bool) (b : Int) (hst : star = (b == 42)) (hw : wide = true → b = 42) (hx6 : -1 ≤ x6 ∧ x6 < 100) (hb : star = false → 0 ≤ x6 ∧ x6 < (p.size : Int) ∧ bt p x6 = b) (x5 : List Bool) (c : Nat → Bool) (R : Row x5 s.size c) :
    ∀ (d k j : Nat) (x7 : List Bool), s.size - j = d → j ≤ s.size → d < k → x7.length = s.size + 1 → (∀ q, q < j + 1 → rdOf false x7 (q : Int) = nextB s b wide c q) →
    ∃ y, Row y s.size (nextB s b wide c) ∧ impl_Glob.l1 k p s x5 x6 star wide x7 (s.size : Int) (j : Int) = impl_Glob.l0 (k - d - 1) p s y (x6 + 1) := by
  intro d
  induction d with
  | zero =>
    intro k j x7 hd hj hk hl h
    obtain ⟨k, rfl⟩ : ∃ m, k = m + 1 := ⟨k - 1, by omega⟩
    refine ⟨x7, ⟨hl, fun q hq => h q (by omega)⟩, ?_⟩
    simp only [impl_Glob.l1]
    rw [if_neg (by omega), w64 (n := x6 + 1) (by omega) (by omega)]
    congr 1
  | succ d ih =>
    intro k j x7 hd hj hk hl h
    obtain ⟨k, rfl⟩ : ∃ m, k = m + 1 := ⟨k - 1, by omega⟩
    have hjn : j + 1 ≤ s.size := by omega
    have step : ∀ v : Bool, v = nextB s b wide c (j + 1) → ∃ y, Row y s.size (nextB s b wide c) ∧ impl_Glob.l1 k p s x5 x6 star wide (x7.set (j + 1) v) (s.size : Int) ((j + 1 : Nat) : Int) = impl_Glob.l0 (k + 1 - (d + 1) - 1) p s y (x6 + 1) := by
      intro v hv
      obtain ⟨hl2, h2⟩ := set_next hl hjn h v hv
      obtain ⟨y, hy, e⟩ := ih k (j + 1) (x7.set (j + 1) v) (by omega) (by omega) (by omega) hl2 h2
      exact ⟨y, hy, by rw [e]; congr 1; omega⟩
    simp only [impl_Glob.l1]
    have e1 : wrap64 ((j : Int) + 1) = ((j + 1 : Nat) : Int) := by rw [w64 (by omega) (by omega)]; omega
    have e2 : (((j + 1 : Nat) : Int)).toNat = j + 1 := rfl
    have hx7 : ((j + 1 : Nat) : Int) < (x7.length : Int) := by omega
    have hx5 : ((j + 1 : Nat) : Int) < (x5.length : Int) := by rw [R.len]; omega
    have hx5' : (j : Int) < (x5.length : Int) := by omega
    have hx7' : (j : Int) < (x7.length : Int) := by omega
    have h0 : 0 ≤ (j : Int) := by omega
    have h1 : 0 ≤ ((j + 1 : Nat) : Int) := by omega
    have hjs : (j : Int) < (s.size : Int) := by omega
    rw [if_pos hjs, e1, e2]
    cases hwd : wide with
    | true =>
      have c1 := hw hwd
      subst hwd
      rw [if_pos rfl, if_pos h1, if_pos hx5, R.get (j + 1) hjn]
      cases hc : c (j + 1) with
      | true =>
        rw [if_pos rfl, if_pos hx7]
        apply step
        rw [nextB, if_pos c1, hc]
        rfl
      | false =>
        rw [if_neg (by decide), if_pos h0, if_pos hx7', if_pos hx7, h j (by omega)]
        apply step
        rw [nextB, if_pos c1, hc]
        simp
    | false =>
      subst hwd
      rw [if_neg (by decide)]
      by_cases hs1 : star = true
      · have c1 : b = 42 := by rw [hs1] at hst; exact beq_iff_eq.1 hst.symm
        rw [if_pos hs1, if_pos h1, if_pos hx5, R.get (j + 1) hjn]
        cases hc : c (j + 1) with
        | true =>
          rw [if_pos rfl, if_pos hx7]
          apply step
          rw [nextB, if_pos c1, hc]
          rfl
        | false =>
          rw [if_neg (by decide), if_pos h0, if_pos hx7', h j (by omega)]
          cases hn : nextB s b false c j with
          | true =>
            rw [if_pos rfl, if_pos hjs, if_pos hx7]
            apply step
            rw [nextB, if_pos c1, hc, hn]
            simp
          | false =>
            rw [if_neg (by decide), if_pos hx7]
            apply step
            rw [nextB, if_pos c1, hc, hn]
            rfl
      · have hsf : star = false := Bool.eq_false_iff.2 hs1
        obtain ⟨q0, q1, q2⟩ := hb hsf
        have c1 : ¬ b = 42 := by rw [hsf] at hst; exact beq_eq_false_iff_ne.1 hst.symm
        rw [if_neg hs1, if_pos q0, if_pos q1, q2]
        by_cases c2 : b = 63
        · rw [if_pos c2, if_pos h0, if_pos hx5', R.get j (by omega)]
          cases hc : c j with
          | true =>
            rw [if_pos rfl, if_pos hjs, if_pos h1, if_pos hx7]
            apply step
            rw [nextB, if_neg c1, if_pos c2, hc]
            rfl
          | false =>
            rw [if_neg (by decide), if_pos h1, if_pos hx7]
            apply step
            rw [nextB, if_neg c1, if_pos c2, hc]
            rfl
        · rw [if_neg c2, if_pos h0, if_pos hx5', R.get j (by omega)]
          cases hc : c j with
          | true =>
            rw [if_pos rfl, if_pos hjs, if_pos h1, if_pos hx7]
            apply step
            rw [nextB, if_neg c1, if_neg c2, hc]
            rfl
          | false =>
            rw [if_neg (by decide), if_pos h1, if_pos hx7]
            apply step
            rw [nextB, if_neg c1, if_neg c2, hc]
            rfl
set_option maxRecDepth 100000 in
theorem impl_glob_loop (p s : ByteArray) (hp : p.size ≤ 50) (hs : s.size ≤ 300) : ∀ (m k i : Nat) (x5 : List Bool) (c : Nat → Bool), p.size - i < m → i ≤ p.size + 1 → m * 400 < k → Row x5 s.size c →
    impl_Glob.l0 k p s x5 (i : Int) = some (globFrom p s m i c) := by
  intro m
  induction m with
  | zero => intro k i x5 c h1 _ _ _; omega
  | succ m ih =>
    intro k i x5 c h1 hi hk R
    obtain ⟨k, rfl⟩ : ∃ q, k = q + 4 := ⟨k - 4, by omega⟩
    simp only [impl_Glob.l0, globFrom]
    by_cases h : i < p.size
    · have e1 : wrap64 ((s.size : Int) + 1) = ((s.size + 1 : Nat) : Int) := by rw [w64 (by omega) (by omega)]; omega
      have e2 : wrap64 ((i : Int) + 1) = ((i + 1 : Nat) : Int) := by rw [w64 (by omega) (by omega)]; omega
      have e3 : (((s.size + 1 : Nat) : Int)).toNat = s.size + 1 := rfl
      rw [if_pos (show (i : Int) < (p.size : Int) by omega), if_pos h, if_pos (show 0 ≤ (i : Int) by omega), e2]
      have go : ∀ wide : Bool, wide = wideAt p i → impl_Glob.j2 (k + 3) p s x5 (i : Int) (bt p (i : Int) == 42) wide = some (globFrom p s m (if wideAt p i = true then i + 2 else i + 1) (nextB s (bt p (i : Int)) (wideAt p i) c)) := by
        intro wide hw
        have hw42 : wide = true → bt p (i : Int) = 42 := by
          intro h3
          rw [h3] at hw
          unfold wideAt at hw
          simp at hw
          exact hw.1.1
        have run : ∀ x6 : Int, (-1 ≤ x6 ∧ x6 < 100) → ((bt p (i : Int) == 42) = false → 0 ≤ x6 ∧ x6 < (p.size : Int) ∧ bt p x6 = bt p (i : Int)) → ∃ y, Row y s.size (nextB s (bt p (i : Int)) wide c) ∧ impl_Glob.j3 (k + 2) p s x5 x6 (bt p (i : Int) == 42) wide = impl_Glob.l0 (k - s.size - 1) p s y (x6 + 1) := by
          intro x6 hx6 hb
          simp only [impl_Glob.j3]
          rw [e1, if_pos (by omega), e3, if_pos (by omega)]
          simp only [Option.bind_some, List.length_replicate]
          have l5 : (0 : Int) < (x5.length : Int) := by rw [R.len]; omega
          have first : ∀ v : Bool, v = nextB s (bt p (i : Int)) wide c 0 → ∃ y, Row y s.size (nextB s (bt p (i : Int)) wide c) ∧ impl_Glob.j4 (k + 1) p s x5 x6 (bt p (i : Int) == 42) wide ((List.replicate (s.size + 1) false).set (Int.toNat 0) v) = impl_Glob.l0 (k - s.size - 1) p s y (x6 + 1) := by
            intro v hv
            simp only [impl_Glob.j4]
            obtain ⟨hl2, h2⟩ := set_next (n := s.size) (j := 0) (f := nextB s (bt p (i : Int)) wide c) (x7 := List.replicate (s.size + 1) false) (by rw [List.length_replicate]) (by omega) (fun q hq => by omega) v hv
            exact impl_glob_row p s hp hs x6 _ wide _ rfl hw42 hx6 hb x5 c R s.size k 0 _ (by omega) (by omega) (by omega) hl2 h2
          by_cases c1 : bt p (i : Int) = 42
          · rw [if_pos (beq_iff_eq.2 c1), if_pos l5, if_pos (by omega)]
            apply first
            have := R.get 0 (by omega)
            rw [show ((0 : Nat) : Int) = 0 from rfl] at this
            rw [nextB, if_pos c1, this]
          · rw [if_neg (fun h => c1 (beq_iff_eq.1 h)), if_pos (by omega)]
            apply first
            rw [nextB, if_neg c1]
        simp only [impl_Glob.j2]
        by_cases hwd : wide = true
        · rw [if_pos hwd, e2]
          obtain ⟨y, hy, e⟩ := run ((i + 1 : Nat) : Int) (by omega) (fun hf => absurd (hw42 hwd) (beq_eq_false_iff_ne.1 hf))
          have hw2 : wideAt p i = true := hw ▸ hwd
          have hi2 : i + 1 < p.size := by
            have := hw2
            unfold wideAt at this
            simp at this
            exact this.1.2
          rw [e, if_pos hw2, ← hw]
          have hC : m * 400 < k - s.size - 1 := by omega
          have := ih (k - s.size - 1) (i + 2) y (nextB s (bt p (i : Int)) wide c) (by omega) (by omega) hC hy
          rw [show ((i + 2 : Nat) : Int) = ((i + 1 : Nat) : Int) + 1 by omega] at this
          exact this
        · rw [if_neg hwd]
          obtain ⟨y, hy, e⟩ := run (i : Int) (by omega) (fun _ => ⟨by omega, by omega, rfl⟩)
          have hw2 : ¬ wideAt p i = true := hw ▸ hwd
          rw [e, if_neg hw2, ← hw]
          have hC : m * 400 < k - s.size - 1 := by omega
          have := ih (k - s.size - 1) (i + 1) y (nextB s (bt p (i : Int)) wide c) (by omega) (by omega) hC hy
          rw [show ((i + 1 : Nat) : Int) = (i : Int) + 1 by omega] at this
          exact this
      by_cases c1 : bt p (i : Int) = 42
      · rw [if_pos c1]
        by_cases c2 : i + 1 < p.size
        · rw [if_pos (show ((i + 1 : Nat) : Int) < (p.size : Int) by omega), if_pos (by omega)]
          apply go
          simp [wideAt, c1, c2]
        · rw [if_neg (show ¬ ((i + 1 : Nat) : Int) < (p.size : Int) by omega)]
          apply go
          simp [wideAt, c2]
      · rw [if_neg c1]
        apply go
        simp [wideAt, c1]
    · rw [if_neg (show ¬ (i : Int) < (p.size : Int) by omega), if_neg h, if_pos (by omega), if_pos (by rw [R.len]; omega), R.get s.size (Nat.le_refl _)]
theorem impl_glob (p s : ByteArray) (k : Nat) (hk : 30000 < k) : impl_Glob.f k p s = some (globM p s) := by
  obtain ⟨k, rfl⟩ : ∃ q, k = q + 1 := ⟨k - 1, by omega⟩
  unfold impl_Glob.f globM
  by_cases h1 : p.size ≤ 50
  · rw [if_neg (show ¬ (p.size : Int) > 50 by omega)]
    by_cases h2 : s.size ≤ 300
    · rw [decide_eq_false (show ¬ (s.size : Int) > 300 by omega), decide_eq_true ⟨h1, h2⟩, Bool.true_and]
      simp only [impl_Glob.j0, Bool.false_eq_true, if_false]
      have e1 : wrap64 ((s.size : Int) + 1) = ((s.size + 1 : Nat) : Int) := by rw [w64 (by omega) (by omega)]; omega
      have e3 : (((s.size + 1 : Nat) : Int)).toNat = s.size + 1 := rfl
      rw [e1, if_pos (by omega), e3, if_pos (by omega)]
      simp only [Option.bind_some, List.length_replicate]
      rw [if_pos (by omega)]
      have := impl_glob_loop p s h1 h2 (p.size + 1) k 0 _ _ (by omega) (by omega) (by omega) (row_first s.size)
      rw [show ((0 : Nat) : Int) = 0 from rfl] at this
      exact this
    · rw [decide_eq_true (show (s.size : Int) > 300 by omega), decide_eq_false (fun h => h2 h.2)]
      simp only [impl_Glob.j0, if_true]
      rfl
  · rw [if_pos (show (p.size : Int) > 50 by omega), decide_eq_false (fun h => h1 h.1)]
    simp only [impl_Glob.j0, if_true]
    rfl

theorem spec_glob_row (p s : ByteArray) (hp : p.size ≤ 50) (hs : s.size ≤ 300) (i : Nat) (hi : i < p.size) (wide : Bool) (hw : wide = wideAt p i) (x5 : List Bool) (c : Nat → Bool) (R : Row x5 s.size c) :
    ∀ (d k j : Nat) (x7 : List Bool), s.size + 1 - j = d → j ≤ s.size + 1 → d < k → x7.length = s.size + 1 → (∀ q, q < j → rdOf false x7 (q : Int) = nextB s (bt p (i : Int)) wide c q) →
    ∃ y, Row y s.size (nextB s (bt p (i : Int)) wide c) ∧ spec_l02Glob.l1 k p s x5 (i : Int) x7 wide (j : Int) = spec_l02Glob.l0 (k - d - 1) p s y (((if wideAt p i = true then i + 2 else i + 1 : Nat)) : Int) := by
  intro d
  induction d with
  | zero =>
    intro k j x7 hd hj hk hl h
    obtain ⟨k, rfl⟩ : ∃ m, k = m + 1 := ⟨k - 1, by omega⟩
    refine ⟨x7, ⟨hl, fun q hq => h q (by omega)⟩, ?_⟩
    simp only [spec_l02Glob.l1]
    rw [if_neg (by omega), w64 (n := (i : Int) + 1) (by omega) (by omega), w64 (n := (i : Int) + 1 + 1) (by omega) (by omega), ← hw]
    cases wide with
    | true => rw [if_pos rfl, if_pos rfl]; congr 1
    | false => rw [if_neg (by decide), if_neg (by decide)]; congr 1
  | succ d ih =>
    intro k j x7 hd hj hk hl h
    obtain ⟨k, rfl⟩ : ∃ m, k = m + 1 := ⟨k - 1, by omega⟩
    have hjn : j ≤ s.size := by omega
    have step : ∀ v : Bool, v = nextB s (bt p (i : Int)) wide c j → ∃ y, Row y s.size (nextB s (bt p (i : Int)) wide c) ∧ spec_l02Glob.l1 k p s x5 (i : Int) (x7.set j v) wide ((j + 1 : Nat) : Int) = spec_l02Glob.l0 (k + 1 - (d + 1) - 1) p s y (((if wideAt p i = true then i + 2 else i + 1 : Nat)) : Int) := by
      intro v hv
      obtain ⟨hl2, h2⟩ := set_next hl hjn h v hv
      obtain ⟨y, hy, e⟩ := ih k (j + 1) (x7.set j v) (by omega) (by omega) (by omega) hl2 h2
      exact ⟨y, hy, by rw [e]; congr 1; omega⟩
    simp only [spec_l02Glob.l1]
    have e1 : wrap64 ((j : Int) + 1) = ((j + 1 : Nat) : Int) := by rw [w64 (by omega) (by omega)]; omega
    have e2 : (j : Int).toNat = j := rfl
    rw [if_pos (show (j : Int) ≤ (s.size : Int) by omega), if_pos (show 0 ≤ (i : Int) by omega), if_pos (show (i : Int) < (p.size : Int) by omega), e1, e2]
    have hx7 : (j : Int) < (x7.length : Int) := by omega
    have hx5 : (j : Int) < (x5.length : Int) := by rw [R.len]; omega
    have h0 : 0 ≤ (j : Int) := by omega
    by_cases c1 : bt p (i : Int) = 42
    · rw [if_pos c1, if_pos h0, if_pos hx5, R.get j hjn]
      cases hc : c j with
      | true =>
        rw [if_pos rfl, if_pos hx7]
        apply step
        cases j with
        | zero => simp [nextB, c1, hc]
        | succ j => simp [nextB, c1, hc]
      | false =>
        rw [if_neg (by decide)]
        cases j with
        | zero =>
          rw [if_neg (by decide), if_pos hx7]
          apply step
          simp [nextB, c1, hc]
        | succ j =>
          have e3 : wrap64 (((j + 1 : Nat) : Int) - 1) = (j : Int) := by rw [w64 (by omega) (by omega)]; omega
          rw [if_pos (show ((j + 1 : Nat) : Int) > 0 by omega), e3, if_pos (show 0 ≤ (j : Int) by omega), if_pos (show (j : Int) < (x7.length : Int) by omega), h j (by omega)]
          cases hn : nextB s (bt p (i : Int)) wide c j with
          | true =>
            rw [if_pos rfl]
            by_cases hwd : wide = true
            · rw [if_pos hwd, if_pos hx7]
              apply step
              rw [nextB, if_pos c1, hc, hn, hwd]
              rfl
            · rw [if_neg hwd, if_pos (show (j : Int) < (s.size : Int) by omega), if_pos hx7]
              apply step
              rw [nextB, if_pos c1, hc, hn, Bool.eq_false_iff.2 hwd]
              simp
          | false =>
            rw [if_neg (by decide), if_pos hx7]
            apply step
            rw [nextB, if_pos c1, hc, hn]
            rfl
    · rw [if_neg c1]
      by_cases c2 : bt p (i : Int) = 63
      · rw [if_pos c2]
        cases j with
        | zero =>
          rw [if_neg (by decide), if_pos h0, if_pos hx7]
          apply step
          simp [nextB, c1]
        | succ j =>
          have e3 : wrap64 (((j + 1 : Nat) : Int) - 1) = (j : Int) := by rw [w64 (by omega) (by omega)]; omega
          rw [if_pos (show ((j + 1 : Nat) : Int) > 0 by omega), e3, if_pos (show 0 ≤ (j : Int) by omega), if_pos (show (j : Int) < (x5.length : Int) by omega), R.get j (by omega)]
          cases hc : c j with
          | true =>
            rw [if_pos rfl, if_pos (show (j : Int) < (s.size : Int) by omega), if_pos h0, if_pos hx7]
            apply step
            rw [nextB, if_neg c1, if_pos c2, hc]
            rfl
          | false =>
            rw [if_neg (by decide), if_pos h0, if_pos hx7]
            apply step
            rw [nextB, if_neg c1, if_pos c2, hc]
            rfl
      · rw [if_neg c2]
        cases j with
        | zero =>
          rw [if_neg (by decide), if_pos h0, if_pos hx7]
          apply step
          simp [nextB, c1]
        | succ j =>
          have e3 : wrap64 (((j + 1 : Nat) : Int) - 1) = (j : Int) := by rw [w64 (by omega) (by omega)]; omega
          rw [if_pos (show ((j + 1 : Nat) : Int) > 0 by omega), e3, if_pos (show 0 ≤ (j : Int) by omega), if_pos (show (j : Int) < (x5.length : Int) by omega), R.get j (by omega)]
          cases hc : c j with
          | true =>
            rw [if_pos rfl, if_pos (show (j : Int) < (s.size : Int) by omega), if_pos h0, if_pos hx7]
            apply step
            rw [nextB, if_neg c1, if_neg c2, hc]
            rfl
          | false =>
            rw [if_neg (by decide), if_pos h0, if_pos hx7]
            apply step
            rw [nextB, if_neg c1, if_neg c2, hc]
            rfl
set_option maxRecDepth 100000 in
theorem spec_glob_loop (p s : ByteArray) (hp : p.size ≤ 50) (hs : s.size ≤ 300) : ∀ (m k i : Nat) (x5 : List Bool) (c : Nat → Bool), p.size - i < m → i ≤ p.size + 1 → m * 400 < k → Row x5 s.size c →
    spec_l02Glob.l0 k p s x5 (i : Int) = some (globFrom p s m i c) := by
  intro m
  induction m with
  | zero => intro k i x5 c h1 _ _ _; omega
  | succ m ih =>
    intro k i x5 c h1 hi hk R
    obtain ⟨k, rfl⟩ : ∃ q, k = q + 1 := ⟨k - 1, by omega⟩
    simp only [spec_l02Glob.l0, globFrom]
    by_cases h : i < p.size
    · have e1 : wrap64 ((s.size : Int) + 1) = ((s.size + 1 : Nat) : Int) := by rw [w64 (by omega) (by omega)]; omega
      have e2 : wrap64 ((i : Int) + 1) = ((i + 1 : Nat) : Int) := by rw [w64 (by omega) (by omega)]; omega
      have e3 : (((s.size + 1 : Nat) : Int)).toNat = s.size + 1 := rfl
      rw [if_pos (show (i : Int) < (p.size : Int) by omega), if_pos h, e1, if_pos (by omega), e3, if_pos (by omega)]
      simp only [Option.bind_some]
      rw [if_pos (show 0 ≤ (i : Int) by omega), e2]
      have go : ∀ wide : Bool, wide = wideAt p i → spec_l02Glob.j1 k p s x5 (i : Int) (List.replicate (s.size + 1) false) wide = some (globFrom p s m (if wideAt p i = true then i + 2 else i + 1) (nextB s (bt p (i : Int)) (wideAt p i) c)) := by
        intro wide hw
        obtain ⟨k, rfl⟩ : ∃ q, k = q + 1 := ⟨k - 1, by omega⟩
        simp only [spec_l02Glob.j1]
        obtain ⟨y, hy, e⟩ := spec_glob_row p s hp hs i h wide hw x5 c R (s.size + 1) k 0 (List.replicate (s.size + 1) false) (by omega) (by omega) (by omega) (by rw [List.length_replicate]) (fun q hq => by omega)
        rw [show ((0 : Nat) : Int) = 0 from rfl] at e
        rw [e, ← hw]
        have hA : p.size - (if wide = true then i + 2 else i + 1) < m := by split <;> omega
        have hB : (if wide = true then i + 2 else i + 1) ≤ p.size + 1 := by split <;> omega
        have hC : m * 400 < k - (s.size + 1) - 1 := by omega
        exact ih (k - (s.size + 1) - 1) (if wide = true then i + 2 else i + 1) y (nextB s (bt p (i : Int)) wide c) hA hB hC hy
      by_cases c1 : bt p (i : Int) = 42
      · rw [if_pos c1]
        by_cases c2 : i + 1 < p.size
        · rw [if_pos (show ((i + 1 : Nat) : Int) < (p.size : Int) by omega), if_pos (by omega)]
          apply go
          simp [wideAt, c1, c2]
        · rw [if_neg (show ¬ ((i + 1 : Nat) : Int) < (p.size : Int) by omega)]
          apply go
          simp [wideAt, c2]
      · rw [if_neg c1]
        apply go
        simp [wideAt, c1]
    · rw [if_neg (show ¬ (i : Int) < (p.size : Int) by omega), if_neg h, if_pos (by omega), if_pos (by rw [R.len]; omega), R.get s.size (Nat.le_refl _)]
theorem spec_glob (p s : ByteArray) (k : Nat) (hk : 30000 < k) : spec_Glob.f k p s = some (globM p s) := by
  unfold spec_Glob.f globM
  by_cases h1 : p.size ≤ 50
  · rw [if_pos (show (p.size : Int) ≤ 50 by omega)]
    by_cases h2 : s.size ≤ 300
    · rw [if_pos (show (s.size : Int) ≤ 300 by omega), decide_eq_true ⟨h1, h2⟩, Bool.true_and]
      unfold spec_l02Glob.f
      have e1 : wrap64 ((s.size : Int) + 1) = ((s.size + 1 : Nat) : Int) := by rw [w64 (by omega) (by omega)]; omega
      have e3 : (((s.size + 1 : Nat) : Int)).toNat = s.size + 1 := rfl
      rw [e1, if_pos (by omega), e3, if_pos (by omega)]
      simp only [Option.bind_some, List.length_replicate]
      rw [if_pos (by omega)]
      have := spec_glob_loop p s h1 h2 (p.size + 1) k 0 _ _ (by omega) (by omega) (by omega) (row_first s.size)
      rw [show ((0 : Nat) : Int) = 0 from rfl] at this
      rw [this]
      rfl
    · rw [if_neg (show ¬ (s.size : Int) ≤ 300 by omega), decide_eq_false (fun h => h2 h.2)]
      rfl
  · rw [if_neg (show ¬ (p.size : Int) ≤ 50 by omega), decide_eq_false (fun h => h1 h.1)]
    rfl

theorem wide_all (s : ByteArray) : ∀ n : Nat, nextB s 42 true (fun j => j == 0) n = true
  | 0 => by simp [nextB]
  | n + 1 => by
    rw [nextB, if_pos rfl, wide_all s n]
    simp
theorem bt_42_0 : bt (⟨#[42, 42]⟩ : ByteArray) ((0 : Nat) : Int) = 42 := by decide
theorem bt_42_1 : bt (⟨#[42, 42]⟩ : ByteArray) ((0 + 1 : Nat) : Int) = 42 := by decide
theorem glob_any (s : ByteArray) (hs : s.size ≤ 300) : globM (⟨#[42, 42]⟩ : ByteArray) s = true := by
  have hz : (⟨#[42, 42]⟩ : ByteArray).size = 2 := rfl
  have hw : wideAt (⟨#[42, 42]⟩ : ByteArray) 0 = true := by
    unfold wideAt
    rw [bt_42_0, bt_42_1, hz]
    rfl
  unfold globM
  rw [hz, decide_eq_true ⟨by omega, hs⟩, Bool.true_and, globFrom, hz, if_pos (by omega), hw, if_pos rfl, bt_42_0, globFrom, hz, if_neg (by omega)]
  exact wide_all s s.size
theorem bt_star : bt (⟨#[42]⟩ : ByteArray) ((0 : Nat) : Int) = 42 := by decide
theorem star_plain (s : ByteArray) : ∀ n : Nat, nextB s 42 false (fun j => j == 0) n = true → ∀ i, i < n → ¬ bt s (i : Int) = 47
  | 0, _, i, hi => by omega
  | n + 1, h, i, hi => by
    rw [nextB, if_pos rfl] at h
    simp only [Nat.add_one_ne_zero, beq_iff_eq, Bool.or_eq_true, Bool.and_eq_true, Bool.false_or, bne_iff_ne, ne_eq, false_or] at h
    by_cases c : i = n
    · subst c
      exact h.2
    · exact star_plain s n h.1 i (by omega)
theorem glob_star (s : ByteArray) (h : globM (⟨#[42]⟩ : ByteArray) s = true) : ∀ i : Nat, i < s.size → ¬ bt s (i : Int) = 47 := by
  have hz : (⟨#[42]⟩ : ByteArray).size = 1 := rfl
  have hw : wideAt (⟨#[42]⟩ : ByteArray) 0 = false := by
    unfold wideAt
    rw [hz]
    simp
  unfold globM at h
  rw [Bool.and_eq_true, hz, globFrom, hz, if_pos (by omega), hw, if_neg (by decide), bt_star, globFrom, hz, if_neg (by omega)] at h
  exact star_plain s s.size h.2
theorem self_loop (s : ByteArray) (hp : ∀ i : Nat, i < s.size → ¬ bt s (i : Int) = 42 ∧ ¬ bt s (i : Int) = 63) : ∀ (m i : Nat) (c : Nat → Bool), s.size < i + m → i ≤ s.size → c i = true → globFrom s s m i c = true
  | 0, i, c, h1, h2, h3 => by omega
  | m + 1, i, c, h1, h2, h3 => by
    rw [globFrom]
    by_cases h : i < s.size
    · have hb := hp i h
      have hw : wideAt s i = false := by
        unfold wideAt
        rw [beq_eq_false_iff_ne.2 hb.1]
        rfl
      rw [if_pos h, hw, if_neg (by decide)]
      apply self_loop s hp m (i + 1) _ (by omega) (by omega)
      rw [nextB, if_neg hb.1, if_neg hb.2, h3]
      simp
    · rw [if_neg h]
      rw [show s.size = i by omega]
      exact h3
theorem glob_self (s : ByteArray) (hs : s.size ≤ 50) (hp : ∀ i : Nat, i < s.size → ¬ bt s (i : Int) = 42 ∧ ¬ bt s (i : Int) = 63) : globM s s = true := by
  unfold globM
  rw [decide_eq_true ⟨hs, by omega⟩, Bool.true_and]
  exact self_loop s hp (s.size + 1) 0 _ (by omega) (by omega) rfl

/-! ### A byte's first place, and the texts between its places -/
theorem bt_mid {s : ByteArray} {pre t : List UInt8} {b : UInt8} (h : s.toList = pre ++ b :: t) : bt s (pre.length : Int) = (b.toNat : Int) := by
  have hs : s.size = pre.length + (t.length + 1) := by rw [← tl_length, h]; simp
  rw [bt_get s pre.length (by omega)]
  congr 2
  simp [h]
theorem size_mid {s : ByteArray} {pre t : List UInt8} (h : s.toList = pre ++ t) : s.size = pre.length + t.length := by
  rw [← tl_length, h]; simp
theorem u8_eq {b : UInt8} {c : UInt8} : ((b.toNat : Int) = (c.toNat : Int)) ↔ b = c := by
  constructor
  · intro h
    exact UInt8.toNat_inj.1 (by omega)
  · rintro rfl
    rfl
theorem ext_mid {s : ByteArray} {pre p t : List UInt8} (h : s.toList = pre ++ (p ++ t)) : (s.extract pre.length (pre.length + p.length)).toList = p := by
  rw [tl_extract, h, ← List.append_assoc]
  rw [List.take_left' (by simp)]
  simp
theorem ext_end {s : ByteArray} {pre p : List UInt8} (h : s.toList = pre ++ p) : (s.extract pre.length s.size).toList = p := by
  rw [tl_extract, ← tl_length, h]
  rw [List.take_of_length_le (Nat.le_refl _)]
  simp
/-- A byte's first place: there is none, or the text falls in two there. -/
theorem index_span (c : UInt8) : ∀ l : List UInt8, (c ∉ l ∧ Lib.indexByte l c = -1) ∨ ∃ a b, l = a ++ c :: b ∧ c ∉ a ∧ Lib.indexByte l c = (a.length : Int)
  | [] => Or.inl ⟨by simp, rfl⟩
  | x :: l => by
    by_cases h : x = c
    · subst h
      exact Or.inr ⟨[], l, rfl, by simp, by simp [Lib.indexByte]⟩
    · rcases index_span c l with ⟨h1, h2⟩ | ⟨a, b, h1, h2, h3⟩
      · refine Or.inl ⟨?_, ?_⟩
        · simp only [List.mem_cons, not_or]
          exact ⟨fun e => h e.symm, h1⟩
        · simp [Lib.indexByte, h, h2]
      · refine Or.inr ⟨x :: a, b, by simp [h1], ?_, ?_⟩
        · simp only [List.mem_cons, not_or]
          exact ⟨fun e => h e.symm, h2⟩
        · simp only [Lib.indexByte]
          have h' : (x == c) = false := by simpa using h
          simp only [h', h3]
          simp
          try omega

/-- The texts between the places of a byte. -/
def splitA (c : UInt8) : List UInt8 → List UInt8 → List (List UInt8)
  | p, [] => [p]
  | p, b :: t => if b = c then p :: splitA c [] t else splitA c (p ++ [b]) t
theorem splitA_none (c : UInt8) : ∀ (t p : List UInt8), c ∉ t → splitA c p t = [p ++ t]
  | [], p, _ => by simp [splitA]
  | b :: t, p, h => by
    simp only [List.mem_cons, not_or] at h
    simp only [splitA]
    rw [if_neg (fun e => h.1 e.symm), splitA_none c t _ h.2]
    simp
theorem splitA_span (c : UInt8) (b : List UInt8) : ∀ (a p : List UInt8), c ∉ a → splitA c p (a ++ c :: b) = (p ++ a) :: splitA c [] b
  | [], p, _ => by simp [splitA]
  | x :: a, p, h => by
    simp only [List.mem_cons, not_or] at h
    simp only [List.cons_append, splitA]
    rw [if_neg (fun e => h.1 e.symm), splitA_span c b a _ h.2]
    simp
theorem splitA_length (c : UInt8) : ∀ (t p : List UInt8), (splitA c p t).length = t.count c + 1
  | [], p => by simp [splitA]
  | b :: t, p => by
    simp only [splitA]
    by_cases h : b = c
    · rw [if_pos h, List.length_cons, splitA_length c t, h, List.count_cons_self]
    · rw [if_neg h, splitA_length c t, List.count_cons_of_ne h]
theorem splitA_le (c : UInt8) (t p : List UInt8) : (splitA c p t).length ≤ t.length + 1 := by
  rw [splitA_length]
  have : t.count c ≤ t.length := List.count_le_length
  omega
theorem splitA_mem (c : UInt8) : ∀ (t p x : List UInt8), x ∈ splitA c p t → x.length ≤ p.length + t.length
  | [], p, x, h => by
    simp only [splitA, List.mem_singleton] at h
    subst h
    simp
  | b :: t, p, x, h => by
    simp only [splitA] at h
    by_cases hb : b = c
    · rw [if_pos hb] at h
      rcases List.mem_cons.1 h with h | h
      · subst h
        omega
      · have := splitA_mem c t [] x h
        simp only [List.length_nil, List.length_cons] at *
        omega
    · rw [if_neg hb] at h
      have := splitA_mem c t _ x h
      simp only [List.length_append, List.length_cons, List.length_nil] at *
      omega
def sumLen : List (List UInt8) → Nat
  | [] => 0
  | x :: l => x.length + sumLen l
theorem splitA_sum (c : UInt8) : ∀ (t p : List UInt8), sumLen (splitA c p t) + (splitA c p t).length = p.length + t.length + 1
  | [], p => by simp [splitA, sumLen]
  | b :: t, p => by
    simp only [splitA]
    by_cases h : b = c
    · rw [if_pos h]
      have := splitA_sum c t []
      simp only [sumLen, List.length_cons, List.length_nil] at *
      omega
    · rw [if_neg h]
      have := splitA_sum c t (p ++ [b])
      simp only [List.length_append, List.length_cons, List.length_nil] at *
      omega

theorem idx_one (s : ByteArray) (c : UInt8) : strings_Index.f s (⟨#[c]⟩ : ByteArray) = some (Lib.indexByte s.toList c) := by
  unfold strings_Index.f stringslite_Index.f
  rw [if_pos (show (⟨#[c]⟩ : ByteArray).size = 1 from rfl), tl]
  rfl
theorem take_set_map (a : List ByteArray) (i : Nat) (x : ByteArray) (h : i < a.length) : ((a.set i x).take (i + 1)).map ByteArray.toList = (a.take i).map ByteArray.toList ++ [x.toList] := by
  rw [List.take_set, List.take_add_one, List.getElem?_eq_getElem h]
  rw [List.set_append_right _ _ (by simp; omega)]
  simp only [List.length_take, Option.toList_some, List.map_append]
  rw [show i - min i a.length = 0 by omega]
  simp
theorem genSplit_loop (c : UInt8) (n : Int) (hn : n ≤ 4194304) : ∀ (d : Nat) (s : ByteArray) (a : List ByteArray) (i k : Nat), s.toList.count c = d → n = (i : Int) + d → (a.length : Int) = n + 1 → s.size ≤ 4194304 → d < k →
    ∃ r, strings_genSplit.l0 k s (⟨#[c]⟩ : ByteArray) 0 n a (i : Int) = some r ∧ r.map ByteArray.toList = (a.take i).map ByteArray.toList ++ splitA c [] s.toList := by
  intro d
  induction d with
  | zero =>
    intro s a i k hd hi ha hs hk
    obtain ⟨k, rfl⟩ : ∃ m, k = m + 1 := ⟨k - 1, by omega⟩
    unfold strings_genSplit.l0
    rw [if_neg (by omega), if_pos (by omega), if_pos (by omega), w64 (by omega) (by omega), if_pos (by omega), if_pos (by omega)]
    refine ⟨_, rfl, ?_⟩
    rw [splitA_none c _ _ (List.count_eq_zero.1 hd), show ((i : Int) + 1).toNat = i + 1 by omega, Int.toNat_natCast, take_set_map _ _ _ (by omega)]
    simp
  | succ d ih =>
    intro s a i k hd hi ha hs hk
    obtain ⟨k, rfl⟩ : ∃ m, k = m + 1 := ⟨k - 1, by omega⟩
    unfold strings_genSplit.l0
    rw [if_pos (by omega), idx_one]
    simp only [Option.bind_some]
    rcases index_span c s.toList with ⟨h1, h2⟩ | ⟨p, t, h1, h2, h3⟩
    · rw [List.count_eq_zero.2 h1] at hd
      omega
    · have hz := size_mid h1
      simp only [List.length_cons] at hz
      have e1 : ((⟨#[c]⟩ : ByteArray).size : Int) = 1 := rfl
      rw [h3, e1, w64 (n := (p.length : Int) + 0) (by omega) (by omega), w64 (n := (p.length : Int) + 1) (by omega) (by omega), w64 (n := (i : Int) + 1) (by omega) (by omega)]
      rw [if_neg (by omega), if_pos (by omega), if_pos (by omega), if_pos (by omega), if_pos (by omega), if_pos (by omega), if_pos (by omega)]
      have ht : (s.extract ((p.length : Int) + 1).toNat s.size).toList = t := by
        rw [show ((p.length : Int) + 1).toNat = (p ++ [c]).length by simp only [List.length_append, List.length_cons, List.length_nil]; omega]
        exact ext_end (by simp [h1])
      have hp : (s.extract 0 ((p.length : Int) + 0).toNat).toList = p := by
        rw [tl_extract, h1]
        simp
      obtain ⟨r, e, l⟩ := ih (s.extract ((p.length : Int) + 1).toNat s.size) (a.set i (s.extract 0 ((p.length : Int) + 0).toNat)) (i + 1) k (by
        rw [ht]
        rw [h1, List.count_append, List.count_cons_self, List.count_eq_zero.2 h2] at hd
        omega) (by omega) (by simp only [List.length_set]; omega) (by
        rw [ByteArray.size_extract]
        omega) (by omega)
      refine ⟨r, ?_, ?_⟩
      · rw [← e]
        congr 1
      · rw [l, take_set_map _ _ _ (by omega), ht, hp, h1, splitA_span c t p [] h2]
        simp
theorem count_one (c : UInt8) (s : ByteArray) : strings_Count.f s (⟨#[c]⟩ : ByteArray) = some ((s.toList.count c : Nat) : Int) := by
  unfold strings_Count.f
  rw [if_pos (show (⟨#[c]⟩ : ByteArray).size = 1 from rfl), tl]
  rfl
theorem genSplit_j (c : UInt8) (s : ByteArray) (hs : s.size ≤ 4194304) (k n : Nat) (hn : s.toList.count c = n) (hc : n ≤ s.size) (hk : s.size + 2 < k) : ∃ r, strings_genSplit.j0 k s (⟨#[c]⟩ : ByteArray) 0 ((n : Int) + 1) = some r ∧ r.map ByteArray.toList = splitA c [] s.toList := by
  obtain ⟨k, rfl⟩ : ∃ m, k = m + 1 := ⟨k - 1, by omega⟩
  have hm : mn ((n : Int) + 1) (wrap64 ((s.size : Int) + 1)) = (n : Int) + 1 := by
    rw [w64 (by omega) (by omega)]
    unfold mn
    omega
  have hr : (List.replicate ((n : Int) + 1).toNat (⟨#[]⟩ : ByteArray)).length = n + 1 := by
    rw [List.length_replicate]
    omega
  simp only [strings_genSplit.j0, hm]
  generalize List.replicate ((n : Int) + 1).toNat (⟨#[]⟩ : ByteArray) = a at *
  rw [if_pos (by omega), if_pos (by omega), w64 (by omega) (by omega)]
  obtain ⟨r, e1, l⟩ := genSplit_loop c ((n : Int) + 1 - 1) (by omega) n s a 0 k hn (by omega) (by omega) hs (by omega)
  refine ⟨r, ?_, by simpa using l⟩
  simpa using e1
theorem split_one (c : UInt8) (s : ByteArray) (hs : s.size ≤ 4194304) (k : Nat) (hk : s.size + 2 < k) : ∃ r, strings_Split.f k s (⟨#[c]⟩ : ByteArray) = some r ∧ r.map ByteArray.toList = splitA c [] s.toList := by
  have hc : s.toList.count c ≤ s.size := by rw [← tl_length]; exact List.count_le_length
  obtain ⟨r, e, l⟩ := genSplit_j c s hs k _ rfl hc hk
  refine ⟨r, ?_, l⟩
  have hne : ¬ (⟨#[c]⟩ : ByteArray).toList = [] := by
    rw [tl]
    exact List.cons_ne_nil _ _
  unfold strings_Split.f strings_genSplit.f
  rw [if_neg (show ¬ (-1 : Int) = 0 by decide), if_neg hne, if_pos (show (-1 : Int) < 0 by decide), count_one]
  simp only [Option.bind_some]
  rw [w64 (by omega) (by omega), e]
  simp only [Option.bind_some]

theorem spec_parts_loop (s : ByteArray) (hs : s.size ≤ 4194304) : ∀ (t pre p : List UInt8) (out : List ByteArray) (k : Nat), s.toList = pre ++ (p ++ t) → out.length ≤ pre.length → t.length < k →
    ∃ r, spec_Parts.l0 k s out (pre.length : Int) ((pre.length + p.length : Nat) : Int) = some r ∧ r.map ByteArray.toList = out.map ByteArray.toList ++ splitA 47 p t
  | [], pre, p, out, k, h, ho, hk => by
    obtain ⟨k, rfl⟩ : ∃ m, k = m + 1 := ⟨k - 1, by omega⟩
    have hz := size_mid h
    simp only [List.length_append, List.length_nil] at hz
    unfold spec_Parts.l0
    rw [if_neg (by omega), if_pos (by omega), if_pos (by omega), if_pos (by omega)]
    refine ⟨_, rfl, ?_⟩
    rw [Int.toNat_natCast, List.map_append, List.map_cons, List.map_nil, ext_end (p := p) (by simpa using h)]
    rfl
  | b :: t, pre, p, out, k, h, ho, hk => by
    simp only [List.length_cons] at hk
    obtain ⟨k, rfl⟩ : ∃ m, k = m + 1 := ⟨k - 1, by omega⟩
    have hz := size_mid h
    simp only [List.length_append, List.length_cons] at hz
    have hb : bt s ((pre.length + p.length : Nat) : Int) = (b.toNat : Int) := by
      have := bt_mid (s := s) (pre := pre ++ p) (b := b) (t := t) (by simp [h])
      simpa using this
    unfold spec_Parts.l0
    rw [if_pos (by omega), if_pos (by omega), hb, w64 (by omega) (by omega)]
    by_cases hc : b = 47
    · subst hc
      rw [if_pos (show (((47 : UInt8).toNat : Nat) : Int) = 47 from rfl), if_pos (by omega), if_pos (by omega), if_pos (by omega), if_pos (by omega)]
      obtain ⟨r, e, l⟩ := spec_parts_loop s hs t (pre ++ p ++ [47]) [] (out ++ [s.extract ((pre.length : Nat) : Int).toNat ((pre.length + p.length : Nat) : Int).toNat]) k (by simp [h]) (by simp; omega) (by omega)
      have a1 : (((pre ++ p ++ [47]).length : Nat) : Int) = ((pre.length + p.length : Nat) : Int) + 1 := by
        simp only [List.length_append, List.length_cons, List.length_nil]
        omega
      have a2 : (((pre ++ p ++ [47]).length + ([] : List UInt8).length : Nat) : Int) = ((pre.length + p.length : Nat) : Int) + 1 := by
        simp only [List.length_append, List.length_cons, List.length_nil]
        omega
      rw [a1, a2] at e
      refine ⟨r, e, ?_⟩
      · rw [l]
        simp only [Int.toNat_natCast, List.map_append, List.map_cons, List.map_nil, splitA]
        rw [ext_mid h]
        simp
    · rw [if_neg (fun e : (b.toNat : Int) = 47 => hc (u8_eq.1 (show (b.toNat : Int) = ((47 : UInt8).toNat : Int) from e)))]
      obtain ⟨r, e, l⟩ := spec_parts_loop s hs t pre (p ++ [b]) out k (by simp [h]) ho (by omega)
      refine ⟨r, ?_, ?_⟩
      · rw [← e]
        congr 1
        simp
        omega
      · rw [l]
        simp only [splitA]
        rw [if_neg hc]
theorem spec_parts (s : ByteArray) (hs : s.size ≤ 4194304) (k : Nat) (hk : s.size < k) : ∃ r, spec_Parts.f k s = some r ∧ r.map ByteArray.toList = splitA 47 [] s.toList := by
  obtain ⟨r, e, l⟩ := spec_parts_loop s hs s.toList [] [] [] k rfl (by simp) (by rw [tl_length]; exact hk)
  exact ⟨r, e, by simpa using l⟩
theorem impl_parts (s : ByteArray) (hs : s.size ≤ 4194304) (k : Nat) (hk : s.size + 2 < k) : ∃ r, impl_Parts.f k s = some r ∧ r.map ByteArray.toList = splitA 47 [] s.toList := by
  obtain ⟨r, e, l⟩ := split_one 47 s hs k hk
  unfold impl_Parts.f
  rw [e]
  exact ⟨r, rfl, l⟩

theorem in_eq (a b c : Int) : spec_l01In.f a b c = some (decide (b ≤ a ∧ a ≤ c)) := by
  unfold spec_l01In.f
  by_cases h : b ≤ a
  · rw [if_pos h]; simp [h]
  · rw [if_neg h]; simp [h]

theorem within_eq (a b c : Int) : impl_within.f a b c = some (decide (b ≤ a ∧ a ≤ c)) := by
  unfold impl_within.f
  by_cases h : b ≤ a
  · rw [if_pos h]; simp [h]
  · rw [if_neg h]; simp [h]

theorem allB_list (p : Int → Bool) (s : ByteArray) : allB p s = s.toList.all (fun b => p (b.toNat : Int)) := rfl

/-- Is a text a component? -/
def partOkM (l : List UInt8) : Bool := decide (1 ≤ l.length ∧ l.length ≤ 60) && (l != [46]) && (l != [46, 46]) && l.all (fun b => pPart (b.toNat : Int))
theorem spec_part_loop (s : ByteArray) (hs : s.size ≤ 140737488351232) : ∀ (d k : Nat) (i : Int), 0 ≤ i → (s.size : Int) - i = d → d < k →
    spec_PartOk.l0 k s i = some ((s.toList.drop i.toNat).all (fun b => pPart (b.toNat : Int)) && (decide (1 ≤ s.toList.length ∧ s.toList.length ≤ 60) && (s.toList != [46]) && (s.toList != [46, 46]))) := by
  intro d
  induction d with
  | zero =>
    intro k i h0 hd hk
    obtain ⟨k, rfl⟩ : ∃ m, k = m + 1 := ⟨k - 1, by omega⟩
    simp only [spec_PartOk.l0]
    rw [if_neg (by omega), List.drop_eq_nil_of_le (by rw [tl_length]; omega), in_eq]
    simp only [Option.bind_some, List.all_nil, Bool.true_and, tl_length]
    by_cases h1 : 1 ≤ s.size ∧ s.size ≤ 60
    · rw [if_pos (by simpa using ⟨by omega, by omega⟩), decide_eq_true h1]
      by_cases h2 : s.toList = [46]
      · rw [if_pos h2]; simp [h2]
      · rw [if_neg h2]; simp [h2]
    · rw [if_neg (by simp; omega), decide_eq_false h1]
      simp
  | succ d ih =>
    intro k i h0 hd hk
    obtain ⟨k, rfl⟩ : ∃ m, k = m + 1 := ⟨k - 1, by omega⟩
    simp only [spec_PartOk.l0]
    obtain ⟨b, e, hbt⟩ := bt_step s i h0 (by omega)
    have hlt := b.toNat_lt
    rw [if_pos (by omega), if_pos h0, in_eq, hbt, w64 (n := (b.toNat : Int)) (by omega) (by omega), w64 (n := i + 1) (by omega) (by omega), ih k (i + 1) (by omega) (by omega) (by omega), e]
    simp only [Option.bind_some, List.all_cons]
    by_cases h1 : 33 ≤ (b.toNat : Int) ∧ (b.toNat : Int) ≤ 126
    · rw [if_pos (by simpa using h1)]
      by_cases h2 : (b.toNat : Int) = 47
      · rw [if_pos h2]; simp [pPart, h2]
      · have hp : pPart (b.toNat : Int) = true := by
          unfold pPart
          rw [decide_eq_true h1.1, decide_eq_true h1.2, bne_iff_ne.2 h2]
          rfl
        rw [if_neg h2, hp, Bool.true_and]
    · rw [if_neg (by simpa using h1)]
      have : pPart (b.toNat : Int) = false := by
        unfold pPart
        by_cases h3 : 33 ≤ (b.toNat : Int)
        · rw [decide_eq_false (show ¬ (b.toNat : Int) ≤ 126 by omega)]; simp
        · rw [decide_eq_false h3]; simp
      rw [this]
      simp
theorem spec_partOk (s : ByteArray) (hs : s.size ≤ 140737488351232) (k : Nat) (hk : s.size < k) : spec_PartOk.f k s = some (partOkM s.toList) := by
  unfold spec_PartOk.f partOkM
  rw [spec_part_loop s hs s.size k 0 (by omega) (by omega) hk, Bool.and_comm]
  rfl
theorem impl_partOk (s : ByteArray) (hs : s.size ≤ 140737488351232) : impl_PartOk.f s = some (partOkM s.toList) := by
  unfold impl_PartOk.f partOkM
  rw [within_eq]
  simp only [Option.bind_some, tl_length]
  by_cases h1 : 1 ≤ s.size ∧ s.size ≤ 60
  · rw [if_pos (by simpa using ⟨by omega, by omega⟩), decide_eq_true h1]
    by_cases h2 : s.toList = [46]
    · rw [if_pos h2]; simp [h2]
    · rw [if_neg h2]
      by_cases h3 : s.toList = [46, 46]
      · rw [if_pos h3]; simp [h3]
      · rw [if_neg h3]
        unfold impl_areBytes.f
        rw [if_pos (by omega)]
        simp [h2, h3, allB]
  · rw [if_neg (by simp; omega), decide_eq_false h1]
    simp

/-- Is a text a path? -/
def pathOkM (l : List UInt8) : Bool := decide (l.length ≤ 200) && (splitA 47 [] l).all partOkM
theorem spec_path_loop (s : ByteArray) : ∀ (t pre : List ByteArray) (k : Nat), (∀ x ∈ t, x.size ≤ 4194304) → pre.length + t.length ≤ 100000000 → t.length + 4194310 < k →
    spec_PathOk.l0 k s (pre ++ t) (pre.length : Int) = some ((t.map ByteArray.toList).all partOkM && decide (s.toList.length ≤ 200))
  | [], pre, k, hx, hl, hk => by
    obtain ⟨k, rfl⟩ : ∃ m, k = m + 1 := ⟨k - 1, by omega⟩
    unfold spec_PathOk.l0
    rw [if_neg (by simp)]
    simp [tl_length]
    omega
  | x :: t, pre, k, hx, hl, hk => by
    simp only [List.length_cons] at hl hk
    obtain ⟨k, rfl⟩ : ∃ m, k = m + 1 := ⟨k - 1, by omega⟩
    have hs : x.size ≤ 4194304 := hx x (by simp)
    unfold spec_PathOk.l0
    have er : rdOf ByteArray.empty (pre ++ x :: t) (pre.length : Int) = x := by
      unfold rdOf
      rw [Int.toNat_natCast, List.getD_eq_getElem?_getD, List.getElem?_append_right (Nat.le_refl _)]
      simp
    rw [if_pos (by simp; omega), if_pos (by omega), er, spec_partOk x (by omega) k (by omega), w64 (by omega) (by omega)]
    simp only [Option.bind_some, List.map_cons, List.all_cons]
    have := spec_path_loop s t (pre ++ [x]) k (fun y hy => hx y (by simp [hy])) (by simp only [List.length_append, List.length_cons, List.length_nil]; omega) (by omega)
    simp only [List.length_append, List.length_cons, List.length_nil, List.append_assoc, List.singleton_append] at this
    by_cases hp : partOkM x.toList = true
    · rw [if_pos hp, show ((pre.length : Int) + 1) = ((pre.length + (0 + 1) : Nat) : Int) by omega, this, hp]
      simp
    · rw [if_neg hp]
      simp [Bool.eq_false_iff.2 hp]
theorem parts_sizes {s : ByteArray} {r : List ByteArray} (h : r.map ByteArray.toList = splitA 47 [] s.toList) : r.length ≤ s.size + 1 ∧ ∀ x ∈ r, x.size ≤ s.size := by
  constructor
  · have := congrArg List.length h
    have h3 := splitA_le 47 s.toList []
    rw [tl_length] at h3
    rw [List.length_map] at this
    omega
  · intro x hx
    have hm : x.toList ∈ splitA 47 [] s.toList := by
      rw [← h]
      exact List.mem_map_of_mem hx
    have := splitA_mem 47 _ _ _ hm
    rw [tl_length, tl_length] at this
    simpa using this
theorem spec_pathOk (s : ByteArray) (hs : s.size ≤ 4194304) (k : Nat) (hk : s.size + 4194400 < k) : spec_PathOk.f k s = some (pathOkM s.toList) := by
  obtain ⟨r, e, l⟩ := spec_parts s hs k (by omega)
  obtain ⟨h1, h2⟩ := parts_sizes l
  unfold spec_PathOk.f
  rw [e]
  simp only [Option.bind_some]
  have := spec_path_loop s r [] k (fun x hx => Nat.le_trans (h2 x hx) hs) (by simp; omega) (by omega)
  simp only [List.nil_append, List.length_nil] at this
  rw [show ((0 : Nat) : Int) = 0 from rfl] at this
  rw [this, l, Bool.and_comm]
  rfl
theorem all_parts : ∀ r : List ByteArray, (∀ x ∈ r, x.size ≤ 4194304) → allS impl_PartOk.f r = some ((r.map ByteArray.toList).all partOkM)
  | [], _ => rfl
  | x :: r, h => by
    have hx := h x (by simp)
    simp only [allS]
    rw [impl_partOk x (by omega)]
    simp only [Option.bind_some, List.map_cons, List.all_cons]
    by_cases hp : partOkM x.toList = true
    · rw [if_pos hp, all_parts r (fun y hy => h y (by simp [hy])), hp]
      simp
    · rw [if_neg hp]
      simp [Bool.eq_false_iff.2 hp]
theorem impl_pathOk (s : ByteArray) (hs : s.size ≤ 4194304) (k : Nat) (hk : s.size + 2 < k) : impl_PathOk.f k s = some (pathOkM s.toList) := by
  unfold impl_PathOk.f pathOkM
  rw [tl_length]
  by_cases h : s.size ≤ 200
  · rw [if_pos (by omega), decide_eq_true h]
    obtain ⟨r, e, l⟩ := impl_parts s hs k hk
    obtain ⟨h1, h2⟩ := parts_sizes l
    rw [e]
    simp only [Option.bind_some]
    unfold impl_areAll_string.f
    rw [if_pos rfl, all_parts r (fun x hx => Nat.le_trans (h2 x hx) hs), l]
    simp
  · rw [if_neg (by omega), decide_eq_false h]
    simp

/-! ### Lists of texts: sized, copied -/
def sizeStr (l : List ByteArray) : Nat := (l.map ByteArray.size).sum
theorem sizeStr_cons (x : ByteArray) (l : List ByteArray) : sizeStr (x :: l) = x.size + sizeStr l := rfl
theorem rd_mid (pre t : List ByteArray) (x : ByteArray) : rdOf ByteArray.empty (pre ++ x :: t) (pre.length : Int) = x := by
  unfold rdOf
  rw [Int.toNat_natCast, List.getD_eq_getElem?_getD, List.getElem?_append_right (Nat.le_refl _)]
  simp

def joinM (l : List ByteArray) : List UInt8 := Lib.join (l.map ByteArray.toList) [47]
theorem joinTail_cons (sep : List UInt8) (x : List UInt8) (r : List (List UInt8)) : Lib.joinTail sep (x :: r) = sep ++ x ++ Lib.joinTail sep r := by
  simp [Lib.joinTail]
theorem joinTail_len : ∀ l : List ByteArray, (Lib.joinTail [47] (l.map ByteArray.toList)).length = sizeStr l + l.length
  | [] => rfl
  | x :: l => by
    rw [List.map_cons, joinTail_cons, sizeStr_cons]
    simp only [List.length_append, List.length_cons, List.length_nil, joinTail_len l, tl_length]
    omega
theorem joinM_len (l : List ByteArray) : (joinM l).length ≤ sizeStr l + l.length := by
  unfold joinM
  cases l with
  | nil => simp [Lib.join_nil]
  | cons x l =>
    rw [List.map_cons, Lib.join_cons, List.length_append, joinTail_len, tl_length, sizeStr_cons, List.length_cons]
    omega
theorem spec_join_loop : ∀ (t pre : List ByteArray) (out : ByteArray) (k : Nat), 0 < pre.length → pre.length + t.length ≤ 1000000000000 → out.size + sizeStr t + t.length ≤ 1000000000000 → t.length < k →
    ∃ r, spec_Join.l0 k (pre ++ t) out (pre.length : Int) = some r ∧ r.toList = out.toList ++ Lib.joinTail [47] (t.map ByteArray.toList)
  | [], pre, out, k, h0, hl, hs, hk => by
    obtain ⟨k, rfl⟩ : ∃ m, k = m + 1 := ⟨k - 1, by omega⟩
    unfold spec_Join.l0
    rw [if_neg (by simp)]
    exact ⟨out, rfl, by simp [Lib.joinTail]⟩
  | x :: t, pre, out, k, h0, hl, hs, hk => by
    simp only [List.length_cons, sizeStr_cons] at hl hk hs
    obtain ⟨k, rfl⟩ : ∃ m, k = m + 1 := ⟨k - 1, by omega⟩
    have e1 : (out ++ (⟨#[47]⟩ : ByteArray)).size = out.size + 1 := by rw [ByteArray.size_append]; rfl
    unfold spec_Join.l0
    rw [if_pos (by simp; omega), if_pos (by omega), if_pos (by omega), if_pos (by omega), rd_mid, if_pos (by omega), w64 (by omega) (by omega)]
    have ih := spec_join_loop t (pre ++ [x]) ((out ++ (⟨#[47]⟩ : ByteArray)) ++ x) k (by simp) (by simp only [List.length_append, List.length_cons, List.length_nil]; omega) (by rw [ByteArray.size_append]; omega) (by omega)
    simp only [List.length_append, List.length_cons, List.length_nil, List.append_assoc, List.singleton_append] at ih
    obtain ⟨r, e, l⟩ := ih
    rw [show ((pre.length : Int) + 1) = ((pre.length + (0 + 1) : Nat) : Int) by omega]
    refine ⟨r, e, ?_⟩
    rw [l, tl_append, tl_append, List.map_cons, joinTail_cons]
    have : (⟨#[47]⟩ : ByteArray).toList = [47] := by rw [tl]
    rw [this]
    simp
theorem spec_join (l : List ByteArray) (hl : l.length ≤ 8388608) (hs : sizeStr l ≤ 8388608) (k : Nat) (hk : l.length < k) : ∃ r, spec_Join.f k l = some r ∧ r.toList = joinM l := by
  unfold spec_Join.f joinM
  cases l with
  | nil =>
    obtain ⟨k, rfl⟩ : ∃ m, k = m + 1 := ⟨k - 1, by omega⟩
    unfold spec_Join.l0
    rw [if_neg (by simp)]
    exact ⟨_, rfl, by rw [tl]; rfl⟩
  | cons x t =>
    simp only [List.length_cons, sizeStr_cons] at hl hk hs
    obtain ⟨k, rfl⟩ : ∃ m, k = m + 1 := ⟨k - 1, by omega⟩
    unfold spec_Join.l0
    have er : rdOf ByteArray.empty (x :: t) 0 = x := rfl
    have e0 : (⟨#[]⟩ : ByteArray).size = 0 := rfl
    rw [if_pos (by simp only [List.length_cons]; omega), if_neg (by decide), if_pos (by decide), er, if_pos (by omega), w64 (by decide) (by decide)]
    obtain ⟨r, e, l⟩ := spec_join_loop t [x] ((⟨#[]⟩ : ByteArray) ++ x) k (by simp) (by simp; omega) (by rw [ByteArray.size_append]; omega) (by omega)
    refine ⟨r, e, ?_⟩
    rw [l, tl_append, List.map_cons, Lib.join_cons]
    have : (⟨#[]⟩ : ByteArray).toList = [] := by rw [tl]
    rw [this]
    simp
theorem lib_join (l : List ByteArray) (sep : ByteArray) (hl : l.length ≤ 8388608) (hs : (Lib.join (l.map ByteArray.toList) sep.toList).length ≤ 140737488355328) : ∃ r, strings_Join.f l sep = some r ∧ r.toList = Lib.join (l.map ByteArray.toList) sep.toList := by
  have e : l.map (fun x => x.data.toList) = l.map ByteArray.toList := List.map_congr_left fun x _ => (tl x).symm
  unfold strings_Join.f
  rw [e, ← tl sep, if_pos ⟨by omega, hs⟩]
  exact ⟨_, rfl, tl_mk _⟩
theorem impl_join (l : List ByteArray) (hl : l.length ≤ 8388608) (hs : sizeStr l ≤ 8388608) : ∃ r, impl_Join.f l = some r ∧ r.toList = joinM l := by
  have h47 : (⟨#[47]⟩ : ByteArray).toList = [47] := by rw [tl]
  have := joinM_len l
  obtain ⟨r, e, h⟩ := lib_join l (⟨#[47]⟩ : ByteArray) hl (by rw [h47]; unfold joinM at this; omega)
  unfold impl_Join.f
  rw [e]
  exact ⟨r, rfl, by rw [h, h47]; rfl⟩

theorem sizeStr_sum : ∀ l : List ByteArray, sizeStr l = sumLen (l.map ByteArray.toList)
  | [] => rfl
  | x :: l => by
    rw [sizeStr_cons, sizeStr_sum l]
    simp [sumLen, tl_length]
theorem sizeStr_drop : ∀ (n : Nat) (l : List ByteArray), sizeStr (l.drop n) ≤ sizeStr l
  | 0, l => Nat.le_refl _
  | n + 1, [] => Nat.le_refl _
  | n + 1, x :: l => by
    have := sizeStr_drop n l
    rw [sizeStr_cons, List.drop_succ_cons]
    omega
theorem sizeStr_append (a b : List ByteArray) : sizeStr (a ++ b) = sizeStr a + sizeStr b := by
  induction a with
  | nil => simp [sizeStr]
  | cons x a ih => rw [List.cons_append, sizeStr_cons, sizeStr_cons, ih]; omega
theorem sizeStr_take (n : Nat) (l : List ByteArray) : sizeStr (l.take n) ≤ sizeStr l := by
  have h := sizeStr_append (l.take n) (l.drop n)
  rw [List.take_append_drop] at h
  omega
theorem parts_sum {s : ByteArray} {r : List ByteArray} (h : r.map ByteArray.toList = splitA 47 [] s.toList) : sizeStr r + r.length = s.size + 1 := by
  have h1 := splitA_sum 47 s.toList []
  have h2 : r.length = (splitA 47 [] s.toList).length := by rw [← h, List.length_map]
  rw [← h, ← sizeStr_sum, h, ← h2, tl_length] at h1
  simpa using h1

/-- A path without so many of its first parts. -/
def stripM (l : List UInt8) (n : Int) : List UInt8 :=
  if pathOkM l = true ∧ (0 ≤ n ∧ n ≤ 20) ∧ n < ((splitA 47 [] l).length : Int) then Lib.join ((splitA 47 [] l).drop n.toNat) [47] else []
theorem nil_list : (⟨#[]⟩ : ByteArray).toList = [] := by rw [tl]
theorem strip_join (r : List ByteArray) (l : List UInt8) (n : Nat) (h : r.map ByteArray.toList = splitA 47 [] l) : joinM (r.drop n) = Lib.join ((splitA 47 [] l).drop n) [47] := by
  unfold joinM
  rw [List.map_drop, h]
theorem spec_strip (s : ByteArray) (hs : s.size ≤ 1048576) (n : Int) (hn : (Lit.int .i64 n).wf = true) (k : Nat) (hk : 8500000 < k) : ∃ r, spec_Strip.f k s n = some r ∧ r.toList = stripM s.toList n := by
  obtain ⟨r, e, l⟩ := spec_parts s (by omega) k (by omega)
  have hlen : r.length = (splitA 47 [] s.toList).length := by rw [← l, List.length_map]
  have hz := parts_sum l
  unfold spec_Strip.f stripM
  rw [e, spec_pathOk s (by omega) _ (by omega), in_eq]
  simp only [Option.bind_some]
  by_cases hp : pathOkM s.toList = true
  · rw [if_pos hp]
    by_cases h1 : 0 ≤ n ∧ n ≤ 20
    · rw [if_pos (decide_eq_true h1)]
      by_cases h2 : (r.length : Int) ≤ n
      · rw [if_pos h2, if_neg (fun h => by have := h.2.2; omega)]
        exact ⟨_, rfl, nil_list⟩
      · rw [if_neg h2, if_pos h1.1, if_pos (by omega), if_pos ⟨hp, h1, by omega⟩]
        obtain ⟨q, e2, l2⟩ := spec_join (r.drop n.toNat) (by rw [List.length_drop]; omega) (by have := sizeStr_drop n.toNat r; omega) k (by rw [List.length_drop]; omega)
        rw [e2]
        exact ⟨q, rfl, by rw [l2, strip_join _ _ _ l]⟩
    · rw [if_neg (by simpa using h1), if_neg (fun h => h1 h.2.1)]
      exact ⟨_, rfl, nil_list⟩
  · rw [if_neg hp, if_neg (fun h => hp h.1)]
    exact ⟨_, rfl, nil_list⟩
theorem impl_strip (s : ByteArray) (hs : s.size ≤ 1048576) (n : Int) (hn : (Lit.int .i64 n).wf = true) (k : Nat) (hk : 8500000 < k) : ∃ r, impl_Strip.f k s n = some r ∧ r.toList = stripM s.toList n := by
  obtain ⟨k, rfl⟩ : ∃ m, k = m + 1 := ⟨k - 1, by omega⟩
  have stay : impl_Strip.j0 (k + 1) s n true = some (⟨#[]⟩ : ByteArray) := by
    simp [impl_Strip.j0]
  unfold impl_Strip.f stripM
  rw [impl_pathOk s (by omega) _ (by omega), within_eq]
  simp only [Option.bind_some]
  by_cases hp : pathOkM s.toList = true
  · rw [if_pos hp]
    by_cases h1 : 0 ≤ n ∧ n ≤ 20
    · rw [if_pos (decide_eq_true h1)]
      obtain ⟨r0, e0, l0⟩ := impl_parts s (by omega) (k + 1) (by omega)
      have hlen0 : r0.length = (splitA 47 [] s.toList).length := by rw [← l0, List.length_map]
      unfold impl_Depth.f
      rw [impl_pathOk s (by omega) _ (by omega)]
      simp only [Option.bind_some]
      rw [if_pos hp, e0]
      simp only [Option.bind_some]
      by_cases h2 : (r0.length : Int) ≤ n
      · rw [if_neg (fun h => by have := h.2.2; omega), decide_eq_true h2]
        exact ⟨_, stay, nil_list⟩
      · rw [if_pos ⟨hp, h1, by omega⟩, decide_eq_false h2]
        obtain ⟨r, e, l⟩ := impl_parts s (by omega) k (by omega)
        have hz := parts_sum l
        have hlen : r.length = (splitA 47 [] s.toList).length := by rw [← l, List.length_map]
        simp only [impl_Strip.j0]
        rw [if_neg (by decide), e]
        simp only [Option.bind_some]
        rw [if_pos h1.1, if_pos (by omega)]
        obtain ⟨q, e2, l2⟩ := impl_join (r.drop n.toNat) (by rw [List.length_drop]; omega) (by have := sizeStr_drop n.toNat r; omega)
        rw [e2]
        exact ⟨q, rfl, by rw [l2, strip_join _ _ _ l]⟩
    · rw [if_neg (by simpa using h1), if_neg (fun h => h1 h.2.1)]
      exact ⟨_, stay, nil_list⟩
  · rw [if_neg hp, if_neg (fun h => hp h.1)]
    exact ⟨_, stay, nil_list⟩

theorem has_prefix (a p : ByteArray) : strings_HasPrefix.f a p = some (a.toList.take p.toList.length == p.toList) := by
  unfold strings_HasPrefix.f stringslite_HasPrefix.f
  by_cases h : p.size ≤ a.size
  · rw [if_pos (by omega), if_pos (by omega), if_pos (by omega), tl_extract, List.drop_zero, Int.toNat_natCast, tl_length]
    rfl
  · rw [if_neg (by omega)]
    simp only [Option.bind_some]
    congr 1
    symm
    rw [beq_eq_false_iff_ne]
    intro e
    have := congrArg List.length e
    simp only [List.length_take, tl_length] at this
    omega

/-- Is a path under another one? -/
def underM (a b : List UInt8) : Bool := pathOkM a && (pathOkM b && (a.take (b.length + 1) == b ++ [47]))
theorem take_under (a b : List UInt8) (h : b.length < a.length) : (a.take (b.length + 1) == b ++ [47]) = ((a.take b.length == b) && (a[b.length]'h == 47)) := by
  rw [List.take_add_one, List.getElem?_eq_getElem h, Bool.eq_iff_iff]
  simp only [Option.toList_some, beq_iff_eq, Bool.and_eq_true]
  constructor
  · intro e
    have := List.append_inj' e rfl
    exact ⟨this.1, by simpa using this.2⟩
  · rintro ⟨h1, h2⟩
    rw [h1, h2]
theorem spec_under (a b : ByteArray) (ha : a.size ≤ 1048576) (hb : b.size ≤ 1048576) (k : Nat) (hk : 5300000 < k) : spec_Under.f k a b = some (underM a.toList b.toList) := by
  unfold spec_Under.f underM
  rw [spec_pathOk a (by omega) _ (by omega)]
  simp only [Option.bind_some]
  cases pathOkM a.toList with
  | false => simp
  | true =>
    rw [if_pos rfl, spec_pathOk b (by omega) _ (by omega)]
    simp only [Option.bind_some, Bool.true_and]
    cases pathOkM b.toList with
    | false => simp
    | true =>
      rw [if_pos rfl]
      simp only [Bool.true_and]
      by_cases h : b.size < a.size
      · rw [if_pos (by omega), if_pos (by omega), if_pos (by omega), tl_extract, List.drop_zero, Int.toNat_natCast]
        rw [take_under _ _ (by rw [tl_length, tl_length]; exact h)]
        by_cases h2 : a.toList.take b.size = b.toList
        · rw [if_pos h2, if_pos (by omega), bt_get a b.size h]
          simp only [tl_length, h2]
          congr 1
          rw [Bool.eq_iff_iff]
          simp only [beq_iff_eq, BEq.rfl, Bool.true_and]
          exact u8_eq (c := 47)
        · rw [if_neg h2]
          simp [tl_length, h2]
      · rw [if_neg (by omega)]
        congr 1
        symm
        rw [beq_eq_false_iff_ne]
        intro e
        have := congrArg List.length e
        simp only [List.length_take, List.length_append, List.length_cons, List.length_nil, tl_length] at this
        omega
theorem impl_under (a b : ByteArray) (ha : a.size ≤ 1048576) (hb : b.size ≤ 1048576) (k : Nat) (hk : 5300000 < k) : impl_Under.f k a b = some (underM a.toList b.toList) := by
  unfold impl_Under.f underM
  rw [impl_pathOk a (by omega) _ (by omega)]
  simp only [Option.bind_some]
  cases pathOkM a.toList with
  | false => simp
  | true =>
    rw [if_pos rfl, impl_pathOk b (by omega) _ (by omega)]
    simp only [Option.bind_some, Bool.true_and]
    cases pathOkM b.toList with
    | false => simp
    | true =>
      rw [if_pos rfl, if_pos (by omega), has_prefix]
      have h47 : (⟨#[47]⟩ : ByteArray).toList = [47] := by rw [tl]
      simp only [Bool.true_and, Option.bind_some, tl_append, List.length_append, h47]
      rfl
theorem under_len (a b : ByteArray) (h : underM a.toList b.toList = true) : b.size < a.size := by
  unfold underM at h
  simp only [Bool.and_eq_true, beq_iff_eq] at h
  have := congrArg List.length h.2.2
  simp only [List.length_take, List.length_append, List.length_cons, List.length_nil, tl_length] at this
  omega

/-- A path's front swapped. -/
def swapM (a b c : List UInt8) : List UInt8 :=
  if pathOkM a = true ∧ (a = b ∨ underM a b = true) then (if pathOkM (c ++ a.drop b.length) = true then c ++ a.drop b.length else a) else a
theorem swap_text (a b c : ByteArray) : (c ++ a.extract ((b.size : Int) : Int).toNat a.size).toList = c.toList ++ a.toList.drop b.toList.length := by
  rw [tl_append, tl_extract, Int.toNat_natCast, tl_length, ← tl_length a, List.take_length]
theorem spec_swap (a b c : ByteArray) (ha : a.size ≤ 1048576) (hb : b.size ≤ 1048576) (hc : c.size ≤ 1048576) (k : Nat) (hk : 7300000 < k) : ∃ r, spec_Swap.f k a b c = some r ∧ r.toList = swapM a.toList b.toList c.toList := by
  obtain ⟨k, rfl⟩ : ∃ m, k = m + 2 := ⟨k - 2, by omega⟩
  have ht : (c ++ a.extract ((b.size : Int) : Int).toNat a.size).size ≤ 2097152 := by
    rw [ByteArray.size_append, ByteArray.size_extract]
    omega
  have tail : ∀ x, (x.size ≤ 1048576) → ∃ r, spec_Swap.j1 (k + 1) a b c x = some r ∧ r.toList = if underM a.toList b.toList = true then (if pathOkM (c.toList ++ a.toList.drop b.toList.length) = true then c.toList ++ a.toList.drop b.toList.length else a.toList) else if pathOkM x.toList = true then x.toList else a.toList := by
    intro x hx
    simp only [spec_Swap.j1]
    rw [spec_under a b ha hb _ (by omega)]
    simp only [Option.bind_some]
    by_cases hu : underM a.toList b.toList = true
    · have := under_len a b hu
      rw [if_pos hu, if_pos hu, if_pos (by omega), if_pos (by omega), if_pos (by rw [ByteArray.size_append] at ht; omega), spec_pathOk _ (by omega) _ (by omega), swap_text]
      simp only [Option.bind_some]
      by_cases hp : pathOkM (c.toList ++ a.toList.drop b.toList.length) = true
      · rw [if_pos hp, if_pos hp]
        exact ⟨_, rfl, swap_text a b c⟩
      · rw [if_neg hp, if_neg hp]
        exact ⟨_, rfl, rfl⟩
    · rw [if_neg hu, if_neg hu, spec_pathOk _ (by omega) _ (by omega)]
      simp only [Option.bind_some]
      by_cases hp : pathOkM x.toList = true
      · rw [if_pos hp, if_pos hp]
        exact ⟨_, rfl, rfl⟩
      · rw [if_neg hp, if_neg hp]
        exact ⟨_, rfl, rfl⟩
  unfold spec_Swap.f swapM
  rw [spec_pathOk _ (by omega) _ (by omega)]
  simp only [Option.bind_some]
  by_cases hp : pathOkM a.toList = true
  · rw [if_pos hp]
    simp only [spec_Swap.j0]
    by_cases he : a.toList = b.toList
    · rw [if_pos (by simpa using he)]
      obtain ⟨r, e, l⟩ := tail c hc
      refine ⟨r, e, ?_⟩
      have hnu : ¬ underM a.toList b.toList = true := fun h => by
        have := under_len a b h
        rw [← tl_length, ← tl_length, he] at this
        omega
      have hc2 : pathOkM a.toList = true ∧ (a.toList = b.toList ∨ underM a.toList b.toList = true) := ⟨hp, Or.inl he⟩
      have hd : a.toList.drop b.toList.length = [] := by rw [he, List.drop_length]
      rw [l, if_neg hnu, if_pos hc2, hd, List.append_nil]
    · rw [if_neg (by simpa using he)]
      obtain ⟨r, e, l⟩ := tail a ha
      refine ⟨r, e, ?_⟩
      rw [l]
      by_cases hu : underM a.toList b.toList = true
      · have hc2 : pathOkM a.toList = true ∧ (a.toList = b.toList ∨ underM a.toList b.toList = true) := ⟨hp, Or.inr hu⟩
        rw [if_pos hu, if_pos hc2]
      · have hc2 : ¬ (pathOkM a.toList = true ∧ (a.toList = b.toList ∨ underM a.toList b.toList = true)) := fun h => h.2.elim he hu
        rw [if_neg hu, if_neg hc2, if_pos hp]
  · rw [if_neg hp]
    simp only [spec_Swap.j0]
    rw [if_neg (by decide)]
    obtain ⟨r, e, l⟩ := tail a ha
    refine ⟨r, e, ?_⟩
    have hnu : ¬ underM a.toList b.toList = true := fun h => by
      unfold underM at h
      simp only [Bool.and_eq_true] at h
      exact hp h.1
    have hc2 : ¬ (pathOkM a.toList = true ∧ (a.toList = b.toList ∨ underM a.toList b.toList = true)) := fun h => hp h.1
    rw [l, if_neg hnu, if_neg hp, if_neg hc2]
theorem impl_swap (a b c : ByteArray) (ha : a.size ≤ 1048576) (hb : b.size ≤ 1048576) (hc : c.size ≤ 1048576) (k : Nat) (hk : 7300000 < k) : ∃ r, impl_Swap.f k a b c = some r ∧ r.toList = swapM a.toList b.toList c.toList := by
  obtain ⟨k, rfl⟩ : ∃ m, k = m + 1 := ⟨k - 1, by omega⟩
  have ht : (c ++ a.extract ((b.size : Int) : Int).toNat a.size).size ≤ 2097152 := by
    rw [ByteArray.size_append, ByteArray.size_extract]
    omega
  have tail : b.size ≤ a.size → ∃ r, impl_Swap.j0 (k + 1) a b c false = some r ∧ r.toList = if pathOkM (c.toList ++ a.toList.drop b.toList.length) = true then c.toList ++ a.toList.drop b.toList.length else a.toList := by
    intro hle
    simp only [impl_Swap.j0]
    rw [if_neg (by decide), if_pos (by omega), if_pos (by omega), if_pos (by rw [ByteArray.size_append] at ht; omega), impl_pathOk _ (by omega) _ (by omega), swap_text]
    simp only [Option.bind_some]
    by_cases hp : pathOkM (c.toList ++ a.toList.drop b.toList.length) = true
    · rw [if_pos hp, if_pos hp]
      exact ⟨_, rfl, swap_text a b c⟩
    · rw [if_neg hp, if_neg hp]
      exact ⟨_, rfl, rfl⟩
  have stay : impl_Swap.j0 (k + 1) a b c true = some a := by
    simp [impl_Swap.j0]
  unfold impl_Swap.f swapM
  rw [impl_pathOk _ (by omega) _ (by omega)]
  simp only [Option.bind_some]
  by_cases hp : pathOkM a.toList = true
  · rw [if_pos hp]
    by_cases he : a.toList = b.toList
    · have hle : b.size ≤ a.size := by rw [← tl_length, ← tl_length, he]; exact Nat.le_refl _
      obtain ⟨r, e, l⟩ := tail hle
      have hc2 : pathOkM a.toList = true ∧ (a.toList = b.toList ∨ underM a.toList b.toList = true) := ⟨hp, Or.inl he⟩
      rw [if_pos he, if_pos hc2]
      exact ⟨r, e, l⟩
    · rw [if_neg he, impl_under a b ha hb _ (by omega)]
      simp only [Option.bind_some]
      by_cases hu : underM a.toList b.toList = true
      · have := under_len a b hu
        obtain ⟨r, e, l⟩ := tail (by omega)
        have hc2 : pathOkM a.toList = true ∧ (a.toList = b.toList ∨ underM a.toList b.toList = true) := ⟨hp, Or.inr hu⟩
        rw [if_pos hc2, hu]
        exact ⟨r, e, l⟩
      · have hc2 : ¬ (pathOkM a.toList = true ∧ (a.toList = b.toList ∨ underM a.toList b.toList = true)) := fun h => h.2.elim he hu
        rw [if_neg hc2, Bool.eq_false_iff.2 hu]
        exact ⟨a, stay, rfl⟩
  · have hc2 : ¬ (pathOkM a.toList = true ∧ (a.toList = b.toList ∨ underM a.toList b.toList = true)) := fun h => hp h.1
    rw [if_neg hp, if_neg hc2]
    exact ⟨a, stay, rfl⟩

/-- What stands ahead of each stroke. -/
def frontsM : List UInt8 → List UInt8 → List (List UInt8)
  | _, [] => []
  | p, b :: t => if b = 47 then p :: frontsM (p ++ [b]) t else frontsM (p ++ [b]) t
theorem fronts_le : ∀ (t p : List UInt8), (frontsM p t).length ≤ t.length
  | [], _ => by simp [frontsM]
  | b :: t, p => by
    have := fronts_le t (p ++ [b])
    simp only [frontsM]
    split <;> simp <;> omega
theorem spec_parents_loop (s : ByteArray) (hs : s.size ≤ 1048576) (hp : pathOkM s.toList = true) : ∀ (t pre : List UInt8) (out : List ByteArray) (k : Nat), s.toList = pre ++ t → out.length ≤ pre.length → 2 * t.length + 5300000 < k →
    ∃ r, spec_Parents.l0 k s out (pre.length : Int) = some r ∧ r.map ByteArray.toList = out.map ByteArray.toList ++ frontsM pre t
  | [], pre, out, k, h, ho, hk => by
    obtain ⟨k, rfl⟩ : ∃ m, k = m + 2 := ⟨k - 2, by omega⟩
    have hz := size_mid h
    simp only [List.length_nil] at hz
    unfold spec_Parents.l0
    rw [if_neg (by omega)]
    unfold spec_Parents.j1
    rw [if_neg (by decide)]
    exact ⟨out, rfl, by simp [frontsM]⟩
  | b :: t, pre, out, k, h, ho, hk => by
    simp only [List.length_cons] at hk
    obtain ⟨k, rfl⟩ : ∃ m, k = m + 2 := ⟨k - 2, by omega⟩
    have hz := size_mid h
    simp only [List.length_cons] at hz
    unfold spec_Parents.l0
    rw [if_pos (by omega), spec_pathOk s (by omega) _ (by omega), hp]
    simp only [Option.bind_some]
    unfold spec_Parents.j1
    rw [if_pos rfl, if_pos (by omega), if_pos (by omega), bt_mid h, w64 (by omega) (by omega)]
    have hx : (s.extract 0 (pre.length : Int).toNat).toList = pre := by
      rw [tl_extract, h]
      simp
    by_cases hc : b = 47
    · subst hc
      rw [if_pos (show (((47 : UInt8).toNat : Nat) : Int) = 47 from rfl), if_pos (by omega), if_pos (by omega)]
      obtain ⟨r, e, l⟩ := spec_parents_loop s hs hp t (pre ++ [47]) (out ++ [s.extract 0 (pre.length : Int).toNat]) k (by simp [h]) (by simp; omega) (by omega)
      refine ⟨r, ?_, ?_⟩
      · rw [← e]
        simp
      · rw [l]
        simp only [List.map_append, List.map_cons, List.map_nil, hx, frontsM]
        simp
    · rw [if_neg (fun e : (b.toNat : Int) = 47 => hc (u8_eq.1 (show (b.toNat : Int) = ((47 : UInt8).toNat : Int) from e)))]
      obtain ⟨r, e, l⟩ := spec_parents_loop s hs hp t (pre ++ [b]) out k (by simp [h]) (by simp; omega) (by omega)
      refine ⟨r, ?_, ?_⟩
      · rw [← e]
        simp
      · rw [l]
        simp only [frontsM]
        rw [if_neg hc]
theorem spec_parents_no (s : ByteArray) (hs : s.size ≤ 1048576) (hp : ¬ pathOkM s.toList = true) (k : Nat) (hk : 5300000 < k) : spec_Parents.f k s = some [] := by
  obtain ⟨k, rfl⟩ : ∃ m, k = m + 2 := ⟨k - 2, by omega⟩
  have e : spec_Parents.j1 (k + 1) s [] 0 false = some [] := by
    unfold spec_Parents.j1
    rw [if_neg (by decide)]
  unfold spec_Parents.f spec_Parents.l0
  by_cases h : (0 : Int) < (s.size : Int)
  · rw [if_pos h, spec_pathOk s (by omega) _ (by omega), Bool.eq_false_iff.2 hp]
    exact e
  · rw [if_neg h]
    exact e
def parentsM (l : List UInt8) : List (List UInt8) := if pathOkM l = true then frontsM [] l else []
theorem parents_le (l : List UInt8) : (parentsM l).length ≤ l.length := by
  unfold parentsM
  split
  · exact fronts_le _ _
  · simp
theorem spec_parents (s : ByteArray) (hs : s.size ≤ 1048576) (k : Nat) (hk : 7500000 < k) : ∃ r, spec_Parents.f k s = some r ∧ r.map ByteArray.toList = parentsM s.toList := by
  unfold parentsM
  by_cases hp : pathOkM s.toList = true
  · rw [if_pos hp]
    obtain ⟨r, e, l⟩ := spec_parents_loop s hs hp s.toList [] [] k rfl (by simp) (by rw [tl_length]; omega)
    exact ⟨r, e, by simpa using l⟩
  · rw [if_neg hp]
    exact ⟨[], spec_parents_no s hs hp k (by omega), rfl⟩

theorem join_more (p : List UInt8) (X : List (List UInt8)) (h : X ≠ []) : Lib.join (p :: X) [47] = p ++ ([47] ++ Lib.join X [47]) := by
  cases X with
  | nil => exact absurd rfl h
  | cons y ys =>
    rw [Lib.join_cons, Lib.join_cons, joinTail_cons]
    simp
theorem splitA_ne (c : UInt8) (t p : List UInt8) : splitA c p t ≠ [] := fun h => by
  have := splitA_length c t p
  rw [h] at this
  simp at this
theorem join_split : ∀ t p : List UInt8, Lib.join (splitA 47 p t) [47] = p ++ t
  | [], p => by simp [splitA, Lib.join_one]
  | b :: t, p => by
    simp only [splitA]
    by_cases h : b = 47
    · rw [if_pos h, join_more _ _ (splitA_ne 47 t []), join_split t []]
      simp [h]
    · rw [if_neg h, join_split t (p ++ [b])]
      simp

/-! ### Laws of paths: what stands ahead of a stroke -/
theorem splitA_mid (c : UInt8) (v : List UInt8) : ∀ (u p : List UInt8), splitA c p (u ++ c :: v) = splitA c p u ++ splitA c [] v
  | [], p => by simp [splitA]
  | b :: u, p => by
    simp only [List.cons_append, splitA]
    by_cases h : b = c
    · rw [if_pos h, if_pos h, splitA_mid c v u []]
      rfl
    · rw [if_neg h, if_neg h, splitA_mid c v u (p ++ [b])]
theorem fronts_length : ∀ (t p : List UInt8), (frontsM p t).length = t.count 47
  | [], p => by simp [frontsM]
  | b :: t, p => by
    simp only [frontsM]
    by_cases h : b = 47
    · rw [if_pos h, List.length_cons, fronts_length t, h, List.count_cons_self]
    · rw [if_neg h, fronts_length t, List.count_cons_of_ne h]
theorem fronts_get : ∀ (t p x : List UInt8) (i : Nat), (frontsM p t)[i]? = some x → ∃ u v, x = p ++ u ∧ t = u ++ 47 :: v ∧ u.count 47 = i
  | [], p, x, i, h => by simp [frontsM] at h
  | b :: t, p, x, i, h => by
    simp only [frontsM] at h
    by_cases hb : b = 47
    · rw [if_pos hb] at h
      subst hb
      cases i with
      | zero =>
        simp only [List.getElem?_cons_zero, Option.some.injEq] at h
        exact ⟨[], t, by simp [h], rfl, rfl⟩
      | succ i =>
        rw [List.getElem?_cons_succ] at h
        obtain ⟨u, v, e1, e2, e3⟩ := fronts_get t _ x i h
        refine ⟨47 :: u, v, by rw [e1]; simp, by rw [e2]; rfl, ?_⟩
        rw [List.count_cons_self, e3]
    · rw [if_neg hb] at h
      obtain ⟨u, v, e1, e2, e3⟩ := fronts_get t _ x i h
      refine ⟨b :: u, v, by rw [e1]; simp, by rw [e2]; rfl, ?_⟩
      rw [List.count_cons_of_ne hb, e3]
def depthM (l : List UInt8) : Nat := if pathOkM l = true then (splitA 47 [] l).length else 0
theorem pathOk_front (u v : List UInt8) (h : pathOkM (u ++ 47 :: v) = true) : pathOkM u = true := by
  unfold pathOkM at h ⊢
  simp only [Bool.and_eq_true, decide_eq_true_eq, List.all_eq_true] at h ⊢
  rw [splitA_mid] at h
  refine ⟨?_, fun x hx => h.2 x (List.mem_append_left _ hx)⟩
  have := h.1
  rw [List.length_append] at this
  omega
theorem under_front (u v : List UInt8) (h : pathOkM (u ++ 47 :: v) = true) : underM (u ++ 47 :: v) u = true := by
  unfold underM
  have e : u ++ 47 :: v = (u ++ [47]) ++ v := by simp
  have e2 : (u ++ 47 :: v).take (u.length + 1) = u ++ [47] := by rw [e, List.take_left' (by simp)]
  rw [h, pathOk_front u v h, e2]
  simp
theorem parents_law (q x : List UInt8) (i : Nat) (h : (parentsM q)[i]? = some x) : underM q x = true ∧ depthM x = i + 1 := by
  unfold parentsM at h
  by_cases hp : pathOkM q = true
  · rw [if_pos hp] at h
    obtain ⟨u, v, e1, e2, e3⟩ := fronts_get q [] x i h
    rw [List.nil_append] at e1
    subst e1 e2
    refine ⟨under_front x v hp, ?_⟩
    unfold depthM
    rw [if_pos (pathOk_front x v hp), splitA_length, e3]
  · rw [if_neg hp] at h
    simp at h
theorem parents_depth (q : List UInt8) (hp : pathOkM q = true) : (parentsM q).length + 1 = depthM q := by
  unfold parentsM depthM
  rw [if_pos hp, if_pos hp, splitA_length, fronts_length]
theorem impl_depth (s : ByteArray) (hs : s.size ≤ 4194304) (k : Nat) (hk : s.size + 2 < k) : impl_Depth.f k s = some (depthM s.toList : Int) := by
  unfold impl_Depth.f depthM
  rw [impl_pathOk s hs _ hk]
  simp only [Option.bind_some]
  by_cases hp : pathOkM s.toList = true
  · obtain ⟨r2, e2, l2⟩ := impl_parts s hs k hk
    have hl : r2.length = (splitA 47 [] s.toList).length := by rw [← l2, List.length_map]
    rw [if_pos hp, if_pos hp, e2]
    simp [hl]
  · rw [if_neg hp, if_neg hp]
    simp

theorem splitA_free (c : UInt8) : ∀ (t p : List UInt8), c ∉ p → ∀ x ∈ splitA c p t, c ∉ x
  | [], p, hp, x, hx => by
    simp only [splitA, List.mem_singleton] at hx
    rw [hx]
    exact hp
  | b :: t, p, hp, x, hx => by
    simp only [splitA] at hx
    by_cases h : b = c
    · rw [if_pos h] at hx
      rcases List.mem_cons.1 hx with e | e
      · rw [e]
        exact hp
      · exact splitA_free c t [] (by simp) x e
    · rw [if_neg h] at hx
      exact splitA_free c t (p ++ [b]) (by simp [hp]; exact fun e => h e.symm) x hx
theorem split_join : ∀ X : List (List UInt8), X ≠ [] → (∀ x ∈ X, 47 ∉ x) → splitA 47 [] (Lib.join X [47]) = X
  | [], h, _ => absurd rfl h
  | [x], _, hx => by
    rw [Lib.join_one, splitA_none _ _ _ (hx x (by simp))]
    rfl
  | x :: y :: Y, _, hx => by
    rw [join_more x (y :: Y) (by simp), List.singleton_append, splitA_span _ _ _ _ (hx x (by simp)), split_join (y :: Y) (by simp) (fun z hz => hx z (by simp [hz]))]
    rfl
theorem join_drop_le : ∀ (n : Nat) (X : List (List UInt8)), (Lib.join (X.drop n) [47]).length ≤ (Lib.join X [47]).length
  | 0, X => by simp
  | n + 1, [] => by simp
  | n + 1, x :: X => by
    rw [List.drop_succ_cons]
    refine Nat.le_trans (join_drop_le n X) ?_
    cases X with
    | nil => simp [Lib.join_nil]
    | cons y Y =>
      rw [join_more x (y :: Y) (by simp)]
      simp only [List.length_append]
      omega
theorem strip_law (l : List UInt8) (n : Int) (h : stripM l n ≠ []) : pathOkM (stripM l n) = true ∧ (depthM (stripM l n) : Int) = depthM l - n := by
  unfold stripM at h ⊢
  by_cases hc : pathOkM l = true ∧ (0 ≤ n ∧ n ≤ 20) ∧ n < ((splitA 47 [] l).length : Int)
  · rw [if_pos hc]
    obtain ⟨hp, hn, hlt⟩ := hc
    have hne : (splitA 47 [] l).drop n.toNat ≠ [] := by
      intro e
      have := congrArg List.length e
      rw [List.length_drop, List.length_nil] at this
      omega
    have hsp := split_join _ hne (fun x hx => splitA_free 47 l [] (by simp) x (List.mem_of_mem_drop hx))
    have hlen := join_drop_le n.toNat (splitA 47 [] l)
    rw [join_split l [], List.nil_append] at hlen
    have hok : pathOkM (Lib.join ((splitA 47 [] l).drop n.toNat) [47]) = true := by
      have h1 := hp
      unfold pathOkM at h1 ⊢
      simp only [Bool.and_eq_true, decide_eq_true_eq, List.all_eq_true] at h1 ⊢
      rw [hsp]
      exact ⟨by omega, fun x hx => h1.2 x (List.mem_of_mem_drop hx)⟩
    refine ⟨hok, ?_⟩
    unfold depthM
    rw [if_pos hok, if_pos hp, hsp, List.length_drop]
    omega
  · rw [if_neg hc] at h
    exact absurd rfl h
theorem swap_law (a b c : List UInt8) : swapM a b c = a ∨ pathOkM (swapM a b c) = true := by
  unfold swapM
  by_cases h1 : pathOkM a = true ∧ (a = b ∨ underM a b = true)
  · rw [if_pos h1]
    by_cases h2 : pathOkM (c ++ a.drop b.length) = true
    · rw [if_pos h2]
      exact Or.inr h2
    · rw [if_neg h2]
      exact Or.inl rfl
  · rw [if_neg h1]
    exact Or.inl rfl

theorem spec_last_loop (s : ByteArray) (hs : s.size ≤ 140737488351232) : ∀ (n k : Nat), n ≤ s.size → n < k → spec_l02Last.l0 k s ((n : Int) - 1) = some (lastTo s 47 n) := by
  intro n
  induction n with
  | zero =>
    intro k _ hk
    obtain ⟨k, rfl⟩ : ∃ m, k = m + 1 := ⟨k - 1, by omega⟩
    simp only [spec_l02Last.l0, lastTo]
    rw [if_neg (by omega)]
  | succ n ih =>
    intro k hn hk
    obtain ⟨k, rfl⟩ : ∃ m, k = m + 1 := ⟨k - 1, by omega⟩
    have e : ((n + 1 : Nat) : Int) - 1 = (n : Int) := by omega
    rw [e]
    simp only [spec_l02Last.l0, lastTo]
    rw [if_pos (show (n : Int) ≥ 0 by omega), if_pos (show 0 ≤ (n : Int) by omega), if_pos (show (n : Int) < (s.size : Int) by omega)]
    by_cases h : bt s (n : Int) = 47
    · rw [if_pos h, if_pos h]
    · rw [if_neg h, if_neg h, w64 (by omega) (by omega)]
      exact ih k (by omega) (by omega)

theorem lib_last_loop (s : ByteArray) (c : Int) (hs : s.size ≤ 140737488351232) : ∀ (n k : Nat), n ≤ s.size → n < k → bytealg_LastIndexByteString.l0 k s c ((n : Int) - 1) = some (lastTo s c n) := by
  intro n
  induction n with
  | zero =>
    intro k _ hk
    obtain ⟨k, rfl⟩ : ∃ m, k = m + 1 := ⟨k - 1, by omega⟩
    simp only [bytealg_LastIndexByteString.l0, lastTo]
    rw [if_neg (by omega)]
  | succ n ih =>
    intro k hn hk
    obtain ⟨k, rfl⟩ : ∃ m, k = m + 1 := ⟨k - 1, by omega⟩
    have e : ((n + 1 : Nat) : Int) - 1 = (n : Int) := by omega
    rw [e]
    simp only [bytealg_LastIndexByteString.l0, lastTo]
    rw [if_pos (show (n : Int) ≥ 0 by omega), if_pos (show 0 ≤ (n : Int) by omega), if_pos (show (n : Int) < (s.size : Int) by omega)]
    by_cases h : bt s (n : Int) = c
    · rw [if_pos h, if_pos h]
    · rw [if_neg h, if_neg h, w64 (by omega) (by omega)]
      exact ih k (by omega) (by omega)
theorem spec_last (s : ByteArray) (hs : s.size ≤ 140737488351232) (k : Nat) (hk : s.size < k) : spec_l02Last.f k s = some (lastTo s 47 s.size) := by
  unfold spec_l02Last.f
  rw [w64 (by omega) (by omega)]
  exact spec_last_loop s hs s.size k (Nat.le_refl _) hk
theorem lib_last (s : ByteArray) (c : Int) (hs : s.size ≤ 140737488351232) (k : Nat) (hk : s.size < k) : strings_LastIndexByte.f k s c = some (lastTo s c s.size) := by
  unfold strings_LastIndexByte.f bytealg_LastIndexByteString.f
  rw [w64 (by omega) (by omega), lib_last_loop s c hs s.size k (Nat.le_refl _) hk]
  rfl

/-- What is ahead of the last stroke. -/
def dirM (s : ByteArray) : ByteArray := s.extract 0 (lastTo s 47 s.size).toNat
theorem spec_dir (s : ByteArray) (hs : s.size ≤ 140737488351232) (k : Nat) (hk : s.size < k) : spec_Dir.f k s = some (dirM s) := by
  have h := lastTo_bounds s 47 s.size
  unfold spec_Dir.f dirM
  rw [spec_last s hs k hk]
  simp only [Option.bind_some]
  by_cases h0 : lastTo s 47 s.size < 0
  · rw [if_pos h0]
    congr 1
    apply tl_inj
    rw [tl_extract, show (lastTo s 47 s.size).toNat = 0 by omega, List.take_zero, List.drop_nil]
    exact tl_mk []
  · rw [if_neg h0, if_pos (by omega), if_pos (by omega)]

/-- What is behind the last stroke. -/
def baseM (s : ByteArray) : ByteArray := s.extract (lastTo s 47 s.size + 1).toNat s.size
theorem spec_base (s : ByteArray) (hs : s.size ≤ 140737488351232) (k : Nat) (hk : s.size < k) : spec_Base.f k s = some (baseM s) := by
  have h := lastTo_bounds s 47 s.size
  unfold spec_Base.f
  rw [spec_last s hs k hk]
  simp only [Option.bind_some]
  rw [w64 (by omega) (by omega), if_pos (by omega), if_pos (by omega)]
  rfl
theorem impl_base (s : ByteArray) (hs : s.size ≤ 140737488351232) (k : Nat) (hk : s.size < k) : impl_Base.f k s = some (baseM s) := by
  have h := lastTo_bounds s 47 s.size
  unfold impl_Base.f
  rw [lib_last s 47 hs k hk]
  simp only [Option.bind_some]
  rw [w64 (by omega) (by omega), if_pos (by omega), if_pos (by omega)]
  rfl

theorem lastTo_spec (s : ByteArray) (c : UInt8) : ∀ n : Nat, n ≤ s.size → (lastTo s c.toNat n = -1 ∧ ∀ i, i < n → ¬ bt s (i : Int) = c.toNat) ∨ ∃ m : Nat, m < n ∧ lastTo s c.toNat n = (m : Int) ∧ bt s (m : Int) = c.toNat
  | 0, _ => Or.inl ⟨rfl, fun i hi => by omega⟩
  | n + 1, hn => by
    unfold lastTo
    by_cases h : bt s (n : Int) = c.toNat
    · exact Or.inr ⟨n, by omega, if_pos h, h⟩
    · rw [if_neg h]
      rcases lastTo_spec s c n (by omega) with ⟨e, f⟩ | ⟨m, h1, h2, h3⟩
      · refine Or.inl ⟨e, fun i hi => ?_⟩
        by_cases c1 : i = n
        · subst c1
          exact h
        · exact f i (by omega)
      · exact Or.inr ⟨m, by omega, h2, h3⟩
theorem dir_base (s : ByteArray) (h : 47 ∈ s.toList) : (dirM s).toList ++ [47] ++ (baseM s).toList = s.toList := by
  unfold dirM baseM
  have e47 : (47 : Int) = ((47 : UInt8).toNat : Int) := rfl
  rw [e47]
  rcases lastTo_spec s 47 s.size (Nat.le_refl _) with ⟨_, f⟩ | ⟨m, h1, h2, h3⟩
  · exfalso
    obtain ⟨i, hi, e⟩ := List.getElem_of_mem h
    have hi' : i < s.size := by rw [tl_length] at hi; exact hi
    apply f i hi'
    rw [bt_get s i hi', e]
  · rw [h2, tl_extract, tl_extract, Int.toNat_natCast, show ((m : Int) + 1).toNat = m + 1 by omega, List.drop_zero, ← tl_length s, List.take_length]
    have hm : m < s.toList.length := by rw [tl_length]; exact h1
    have hx : s.toList[m] = 47 := by
      rw [bt_get s m h1] at h3
      exact u8_eq.1 h3
    rw [List.append_assoc, show [47] ++ s.toList.drop (m + 1) = s.toList.drop m by rw [List.drop_eq_getElem_cons hm, hx]; rfl, List.take_append_drop]
theorem base_plain (s : ByteArray) (h : ∀ i : Nat, i < s.size → ¬ bt s (i : Int) = 47) : (baseM s).toList = s.toList := by
  unfold baseM
  have e47 : (47 : Int) = ((47 : UInt8).toNat : Int) := rfl
  rw [e47]
  rcases lastTo_spec s 47 s.size (Nat.le_refl _) with ⟨e, _⟩ | ⟨m, h1, _, h3⟩
  · rw [e, tl_extract, show ((-1 : Int) + 1).toNat = 0 by rfl, List.drop_zero, ← tl_length s, List.take_length]
  · exact absurd h3 (h m h1)

/-- A cursor's place is one of its bytes, or behind them. -/
def St (b : List Int) (i : Int) : Prop := 0 ≤ i ∧ i ≤ (b.length : Int)
theorem byte_ok (b : List Int) (hb : b.length ≤ 140737488351232) (i h : Int) (hi : St b i) : ∃ x i' h', spec_l01Byte.f b i h = some (x, i', h') ∧ (0 ≤ x ∧ x ≤ 255) ∧ St b i' := by
  unfold St at hi
  have m : ∀ z : Int, Go.bits .and .i64 z 255 = z % 256 := fun z => bits_and_mask z 8 (by decide)
  unfold spec_l01Byte.f
  by_cases h1 : i < (b.length : Int)
  · rw [if_pos h1, if_pos hi.1, w64 (n := i + 1) (by omega) (by omega)]
    refine ⟨_, _, _, rfl, ?_, ⟨by omega, by omega⟩⟩
    rw [m]
    omega
  · rw [if_neg h1]
    refine ⟨_, _, _, rfl, ?_, hi⟩
    rw [m]
    omega
theorem below_ok (b : List Int) (hb : b.length ≤ 140737488351232) (i h n : Int) (hn : n ≤ 9223372036854775807) (hi : St b i) : ∃ x i' h', spec_l01Below.f b i h n = some (x, i', h') ∧ (0 ≤ x ∧ (0 < n → x < n)) ∧ St b i' := by
  unfold spec_l01Below.f
  by_cases h0 : n ≤ 0
  · rw [if_pos h0]
    exact ⟨_, _, _, rfl, ⟨by omega, by omega⟩, hi⟩
  · rw [if_neg h0]
    obtain ⟨x1, i1, h1, e1, b1, s1⟩ := byte_ok b hb i h hi
    rw [e1]
    simp only [Option.bind_some]
    by_cases h2 : n ≤ 256
    · rw [if_pos h2, if_neg (by omega)]
      refine ⟨_, _, _, rfl, ?_, s1⟩
      rw [Int.tmod_eq_emod_of_nonneg b1.1]
      exact ⟨Int.emod_nonneg _ (by omega), fun _ => Int.emod_lt_of_pos _ (by omega)⟩
    · rw [if_neg h2]
      obtain ⟨x2, i2, h2', e2, b2, s2⟩ := byte_ok b hb i1 h1 s1
      obtain ⟨x3, i3, h3, e3, b3, s3⟩ := byte_ok b hb i2 h2' s2
      obtain ⟨x4, i4, h4, e4, b4, s4⟩ := byte_ok b hb i3 h3 s3
      rw [e2]
      simp only [Option.bind_some]
      rw [e3]
      simp only [Option.bind_some]
      rw [e4]
      simp only [Option.bind_some]
      rw [if_neg (by omega)]
      refine ⟨_, _, _, rfl, ?_, s4⟩
      have w1 : wrap64 (x1 * 16777216) = x1 * 16777216 := w64 (by omega) (by omega)
      have w2 : wrap64 (x2 * 65536) = x2 * 65536 := w64 (by omega) (by omega)
      have w3 : wrap64 (x3 * 256) = x3 * 256 := w64 (by omega) (by omega)
      have w4 : wrap64 (x1 * 16777216 + x2 * 65536) = x1 * 16777216 + x2 * 65536 := w64 (by omega) (by omega)
      have w5 : wrap64 (x1 * 16777216 + x2 * 65536 + x3 * 256) = x1 * 16777216 + x2 * 65536 + x3 * 256 := w64 (by omega) (by omega)
      have w6 : wrap64 (x1 * 16777216 + x2 * 65536 + x3 * 256 + x4) = x1 * 16777216 + x2 * 65536 + x3 * 256 + x4 := w64 (by omega) (by omega)
      rw [w1, w2, w3, w4, w5, w6, Int.tmod_eq_emod_of_nonneg (by omega)]
      exact ⟨Int.emod_nonneg _ (by omega), fun _ => Int.emod_lt_of_pos _ (by omega)⟩
theorem once_ok (b : List Int) (hb : b.length ≤ 140737488351232) (i h n : Int) (hn : n ≤ 9223372036854775807) (hi : St b i) : ∃ (x : Bool) (i' h' : Int), spec_l01Once.f b i h n = some (x, i', h') ∧ St b i' := by
  obtain ⟨x, i', h', e, _, s⟩ := below_ok b hb i h n hn hi
  unfold spec_l01Once.f
  rw [e]
  exact ⟨_, _, _, rfl, s⟩
theorem rd_mem (l : List Int) (j : Int) (h0 : 0 ≤ j) (h1 : j < (l.length : Int)) : rd l j ∈ l := by
  unfold rd
  rw [List.getD_eq_getElem?_getD, List.getElem?_eq_getElem (by omega)]
  exact List.getElem_mem _
theorem pickInt_ok (b : List Int) (hb : b.length ≤ 140737488351232) (i h : Int) (l : List Int) (hl : 0 < l.length) (hl2 : l.length ≤ 9223372036854775807) (hi : St b i) : ∃ x i' h', spec_l01PickInt.f b i h l = some (x, i', h') ∧ x ∈ l ∧ St b i' := by
  obtain ⟨x, i', h', e, r, s⟩ := below_ok b hb i h (l.length : Int) (by omega) hi
  unfold spec_l01PickInt.f
  rw [e]
  simp only [Option.bind_some]
  have := r.2 (by omega)
  rw [if_pos r.1, if_pos this]
  exact ⟨_, _, _, rfl, rd_mem l x r.1 this, s⟩
theorem new_loop (b : List Int) (_hb : b.length ≤ 140737488351232) : ∀ (d k : Nat) (i h : Int), 0 ≤ i → (b.length : Int) - i ≤ d → d < k → ∃ h', spec_l01New.l0 k b h i = some (b, 0, h') := by
  intro d
  induction d with
  | zero =>
    intro k i h h0 hd hk
    obtain ⟨k, rfl⟩ : ∃ m, k = m + 1 := ⟨k - 1, by omega⟩
    simp only [spec_l01New.l0]
    rw [if_neg (by omega)]
    exact ⟨_, rfl⟩
  | succ d ih =>
    intro k i h h0 hd hk
    obtain ⟨k, rfl⟩ : ∃ m, k = m + 1 := ⟨k - 1, by omega⟩
    simp only [spec_l01New.l0]
    by_cases h1 : i < (b.length : Int)
    · rw [if_pos h1]
      by_cases h2 : i < 4000
      · rw [if_pos h2, if_pos h0, w64 (n := i + 1) (by omega) (by omega)]
        exact ih k (i + 1) _ (by omega) (by omega) (by omega)
      · rw [if_neg h2]
        exact ⟨_, rfl⟩
    · rw [if_neg h1]
      exact ⟨_, rfl⟩
theorem new_ok (b : List Int) (hb : b.length ≤ 140737488351232) (k : Nat) (hk : b.length < k) : ∃ h', spec_l01New.f k b = some (b, 0, h') := by
  unfold spec_l01New.f
  exact new_loop b hb b.length k 0 _ (by omega) (by omega) hk
theorem st0 (b : List Int) : St b 0 := ⟨by omega, by omega⟩

/-! ### Draws of texts: they come to an end, and are short -/
theorem s47 : (⟨#[47]⟩ : ByteArray).size = 1 := rfl
theorem s120 : (⟨#[120]⟩ : ByteArray).size = 1 := rfl
theorem rdB_mem (l : List ByteArray) (j : Int) (h0 : 0 ≤ j) (h1 : j < (l.length : Int)) : rdOf ByteArray.empty l j ∈ l := by
  unfold rdOf
  rw [List.getD_eq_getElem?_getD, List.getElem?_eq_getElem (by omega)]
  exact List.getElem_mem _
theorem pick_ok (b : List Int) (hb : b.length ≤ 140737488351232) (i h : Int) (l : List ByteArray) (B : Nat) (hl : 0 < l.length) (hl2 : l.length ≤ 9223372036854775807) (hB : ∀ x ∈ l, x.size ≤ B) (hi : St b i) : ∃ x i' h', spec_l01Pick.f b i h l = some (x, i', h') ∧ x.size ≤ B ∧ St b i' := by
  obtain ⟨x, i', h', e, r, s⟩ := below_ok b hb i h (l.length : Int) (by omega) hi
  unfold spec_l01Pick.f
  rw [e]
  simp only [Option.bind_some]
  have := r.2 (by omega)
  rw [if_pos r.1, if_pos this]
  exact ⟨_, _, _, rfl, hB _ (rdB_mem l x r.1 this), s⟩
theorem long_loop (b : List Int) (n i h : Int) (hn : n ≤ 61) : ∀ (d k : Nat) (out : ByteArray) (j : Int), 0 ≤ j → n - j ≤ (d : Int) → out.size + d ≤ 1000 → d < k → ∃ r, spec_l02Long.l0 k n out j b i h = some (r, i, h) ∧ r.size ≤ out.size + d := by
  intro d
  induction d with
  | zero =>
    intro k out j h0 hd hs hk
    obtain ⟨k, rfl⟩ : ∃ m, k = m + 1 := ⟨k - 1, by omega⟩
    unfold spec_l02Long.l0
    rw [if_neg (by omega)]
    exact ⟨out, rfl, by omega⟩
  | succ d ih =>
    intro k out j h0 hd hs hk
    obtain ⟨k, rfl⟩ : ∃ m, k = m + 1 := ⟨k - 1, by omega⟩
    unfold spec_l02Long.l0
    by_cases c : j < n
    · rw [if_pos c, if_pos (by omega), w64 (by omega) (by omega)]
      obtain ⟨r, e, l⟩ := ih k (out ++ (⟨#[120]⟩ : ByteArray)) (j + 1) (by omega) (by omega) (by rw [ByteArray.size_append, s120]; omega) (by omega)
      refine ⟨r, e, ?_⟩
      rw [ByteArray.size_append, s120] at l
      omega
    · rw [if_neg c]
      exact ⟨out, rfl, by omega⟩
theorem long_ok (b : List Int) (hb : b.length ≤ 140737488351232) (i h : Int) (hi : St b i) (k : Nat) (hk : 100 < k) : ∃ x i' h', spec_l02Long.f k b i h = some (x, i', h') ∧ x.size ≤ 61 ∧ St b i' := by
  obtain ⟨n, i', h', e, hm, s⟩ := pickInt_ok b hb i h [60, 61, 40, 59] (by decide) (by decide) hi
  unfold spec_l02Long.f
  rw [e]
  simp only [Option.bind_some]
  have hn : 0 ≤ n ∧ n ≤ 61 := by
    simp only [List.mem_cons, List.not_mem_nil, or_false] at hm
    omega
  obtain ⟨r, e2, l⟩ := long_loop b n i' h' hn.2 61 k (⟨#[]⟩ : ByteArray) 0 (by decide) (by omega) (by decide) (by omega)
  have hz : (⟨#[]⟩ : ByteArray).size = 0 := rfl
  exact ⟨r, i', h', e2, by omega, s⟩
def deepL : List Int := [37, 60, 58, 40]
theorem deep_rd (j : Nat) (h : j < 4) : rd deepL (j : Int) ≤ 60 := by
  have : j = 0 ∨ j = 1 ∨ j = 2 ∨ j = 3 := by omega
  rcases this with rfl | rfl | rfl | rfl <;> decide
theorem deep_l1 (b : List Int) (j : Nat) (hj : j < 4) (i h : Int) (B K : Nat) (next : ∀ (k : Nat) (out : ByteArray), K < k → out.size ≤ B + 61 → ∃ x i' h', spec_l02Deep.l0 k out deepL ((j + 1 : Nat) : Int) b i h = some (x, i', h') ∧ x.size ≤ 300 ∧ St b i') (hB : B ≤ 250) :
    ∀ (d k : Nat) (out : ByteArray) (x6 : Int), 0 ≤ x6 → rd deepL (j : Int) - x6 ≤ (d : Int) → out.size + d ≤ B + 60 → K + d + 1 < k → ∃ x i' h', spec_l02Deep.l1 k out deepL (j : Int) x6 b i h = some (x, i', h') ∧ x.size ≤ 300 ∧ St b i' := by
  have hlen : (deepL.length : Int) = 4 := rfl
  have wj : wrap64 ((j : Int) + 1) = ((j + 1 : Nat) : Int) := by rw [w64 (by omega) (by omega)]; omega
  have hrd := deep_rd j hj
  intro d
  induction d with
  | zero =>
    intro k out x6 h0 hd hs hk
    obtain ⟨k, rfl⟩ : ∃ m, k = m + 1 := ⟨k - 1, by omega⟩
    unfold spec_l02Deep.l1
    rw [if_pos (by omega), if_pos (by omega), if_neg (by omega), if_pos (by omega), wj]
    exact next k _ (by omega) (by rw [ByteArray.size_append, s47]; omega)
  | succ d ih =>
    intro k out x6 h0 hd hs hk
    obtain ⟨k, rfl⟩ : ∃ m, k = m + 1 := ⟨k - 1, by omega⟩
    unfold spec_l02Deep.l1
    rw [if_pos (by omega), if_pos (by omega)]
    by_cases c : x6 < rd deepL (j : Int)
    · rw [if_pos c, if_pos (by omega), w64 (by omega) (by omega)]
      exact ih k _ (x6 + 1) (by omega) (by omega) (by rw [ByteArray.size_append, s120]; omega) (by omega)
    · rw [if_neg c, if_pos (by omega), wj]
      exact next k _ (by omega) (by rw [ByteArray.size_append, s47]; omega)
theorem deep_l0 (b : List Int) (hb : b.length ≤ 140737488351232) (i h : Int) (hi : St b i) : ∀ (m j k : Nat) (out : ByteArray), j + m = 4 → out.size ≤ 61 * j → 70 * m + 5 < k → ∃ x i' h', spec_l02Deep.l0 k out deepL (j : Int) b i h = some (x, i', h') ∧ x.size ≤ 300 ∧ St b i' := by
  intro m
  induction m with
  | zero =>
    intro j k out hj hs hk
    obtain ⟨k, rfl⟩ : ∃ m, k = m + 1 := ⟨k - 1, by omega⟩
    unfold spec_l02Deep.l0
    rw [if_neg (by omega)]
    obtain ⟨x, i', h', e, hx, s⟩ := pick_ok b hb i h [(⟨#[97]⟩ : ByteArray), (⟨#[98]⟩ : ByteArray), (⟨#[120]⟩ : ByteArray), (⟨#[120, 46, 116, 120, 116]⟩ : ByteArray), (⟨#[121]⟩ : ByteArray)] 5 (by simp) (by simp) (by
      intro x hx
      simp only [List.mem_cons, List.not_mem_nil, or_false] at hx
      rcases hx with rfl | rfl | rfl | rfl | rfl <;> decide) hi
    rw [e]
    simp only [Option.bind_some]
    rw [if_pos (by omega)]
    exact ⟨_, _, _, rfl, by rw [ByteArray.size_append]; omega, s⟩
  | succ m ih =>
    intro j k out hj hs hk
    obtain ⟨k, rfl⟩ : ∃ m, k = m + 1 := ⟨k - 1, by omega⟩
    unfold spec_l02Deep.l0
    rw [if_pos (by omega)]
    have hrd := deep_rd j (by omega)
    exact deep_l1 b j (by omega) i h (61 * j) (70 * m + 5) (fun k2 out2 hk2 ho2 => ih (j + 1) k2 out2 (by omega) (by omega) hk2) (by omega) 60 k out 0 (by decide) (by omega) (by omega) (by omega)
theorem deep_ok (b : List Int) (hb : b.length ≤ 140737488351232) (i h : Int) (hi : St b i) (k : Nat) (hk : 300 < k) : ∃ x i' h', spec_l02Deep.f k b i h = some (x, i', h') ∧ x.size ≤ 300 ∧ St b i' :=
  deep_l0 b hb i h hi 4 0 k (⟨#[]⟩ : ByteArray) (by decide) (by decide) (by omega)
theorem path_end (b : List Int) (hb : b.length ≤ 140737488351232) (n : Int) (i h : Int) (hi : St b i) (k : Nat) (hk : 400 < k) (x3 : ByteArray) (hx : x3.size ≤ 30) (j : Int) (hj : ¬ j < n) : ∃ x i' h', spec_l02Path.l0 (k + 1) x3 n j b i h = some (x, i', h') ∧ x.size ≤ 300 ∧ St b i' := by
  unfold spec_l02Path.l0
  rw [if_neg hj]
  obtain ⟨m, i1, h1, e1, _, s1⟩ := below_ok b hb i h 16 (by decide) hi
  rw [e1]
  simp only [Option.bind_some]
  by_cases c0 : m = 0
  · rw [if_pos c0, if_pos (by omega)]
    obtain ⟨a, i2, h2, e2, l2, s2⟩ := long_ok b hb i1 h1 s1 k (by omega)
    rw [e2]
    simp only [Option.bind_some]
    obtain ⟨c, i3, h3, e3, l3, s3⟩ := long_ok b hb i2 h2 s2 k (by omega)
    rw [if_pos (by simp only [ByteArray.size_append, s47]; omega), if_pos (by simp only [ByteArray.size_append, s47]; omega), e3]
    simp only [Option.bind_some]
    rw [if_pos (by simp only [ByteArray.size_append, s47]; omega)]
    exact ⟨_, _, _, rfl, by simp only [ByteArray.size_append, s47]; omega, s3⟩
  rw [if_neg c0]
  by_cases c1 : m = 1
  · rw [if_pos c1, if_pos (by omega)]
    obtain ⟨a, i2, h2, e2, l2, s2⟩ := long_ok b hb i1 h1 s1 k (by omega)
    rw [e2]
    simp only [Option.bind_some]
    rw [if_pos (by simp only [ByteArray.size_append, s47]; omega)]
    exact ⟨_, _, _, rfl, by simp only [ByteArray.size_append, s47]; omega, s2⟩
  rw [if_neg c1]
  by_cases c2 : m = 2
  · rw [if_pos c2]
    obtain ⟨a, i2, h2, e2, l2, s2⟩ := long_ok b hb i1 h1 s1 k (by omega)
    rw [e2]
    simp only [Option.bind_some]
    obtain ⟨c, i3, h3, e3, l3, s3⟩ := long_ok b hb i2 h2 s2 k (by omega)
    rw [if_pos (by omega), e3]
    simp only [Option.bind_some]
    obtain ⟨d, i4, h4, e4, l4, s4⟩ := long_ok b hb i3 h3 s3 k (by omega)
    rw [if_pos (by simp only [ByteArray.size_append, s47]; omega), if_pos (by simp only [ByteArray.size_append, s47]; omega), e4]
    simp only [Option.bind_some]
    rw [if_pos (by simp only [ByteArray.size_append, s47]; omega), if_pos (by simp only [ByteArray.size_append, s47]; omega), if_pos (by simp only [ByteArray.size_append, s47]; omega)]
    exact ⟨_, _, _, rfl, by simp only [ByteArray.size_append, s47]; omega, s4⟩
  rw [if_neg c2]
  obtain ⟨a, i2, h2, e2, l2, s2⟩ := deep_ok b hb i1 h1 s1 k (by omega)
  by_cases c3 : m = 3
  · rw [if_pos c3, e2]
    exact ⟨_, _, _, rfl, l2, s2⟩
  rw [if_neg c3]
  by_cases c4 : m = 4
  · rw [if_pos c4, e2]
    exact ⟨_, _, _, rfl, l2, s2⟩
  rw [if_neg c4]
  exact ⟨_, _, _, rfl, by omega, s1⟩
theorem path_loop (b : List Int) (hb : b.length ≤ 140737488351232) (n : Int) (hn : n ≤ 4) : ∀ (d k : Nat) (i h : Int) (x3 : ByteArray) (j : Int), St b i → 0 ≤ j → n - j ≤ (d : Int) → x3.size + 5 * d ≤ 30 → 401 + d < k → ∃ x i' h', spec_l02Path.l0 k x3 n j b i h = some (x, i', h') ∧ x.size ≤ 300 ∧ St b i' := by
  intro d
  induction d with
  | zero =>
    intro k i h x3 j hi h0 hd hs hk
    obtain ⟨k, rfl⟩ : ∃ m, k = m + 1 := ⟨k - 1, by omega⟩
    exact path_end b hb n i h hi k (by omega) x3 (by omega) j (by omega)
  | succ d ih =>
    intro k i h x3 j hi h0 hd hs hk
    obtain ⟨k, rfl⟩ : ∃ m, k = m + 1 := ⟨k - 1, by omega⟩
    by_cases c : j < n
    · unfold spec_l02Path.l0
      obtain ⟨x, i1, h1, e1, l1, s1⟩ := pick_ok b hb i h [(⟨#[97]⟩ : ByteArray), (⟨#[98]⟩ : ByteArray), (⟨#[99]⟩ : ByteArray), (⟨#[100, 46, 103, 111]⟩ : ByteArray), (⟨#[101]⟩ : ByteArray)] 4 (by simp) (by simp) (by
        intro x hx
        simp only [List.mem_cons, List.not_mem_nil, or_false] at hx
        rcases hx with rfl | rfl | rfl | rfl | rfl <;> decide) hi
      rw [if_pos c, if_pos (by omega), e1]
      simp only [Option.bind_some]
      rw [if_pos (by simp only [ByteArray.size_append, s47]; omega), w64 (by omega) (by omega)]
      exact ih k i1 h1 _ (j + 1) s1 (by omega) (by omega) (by simp only [ByteArray.size_append, s47]; omega) (by omega)
    · exact path_end b hb n i h hi k (by omega) x3 (by omega) j c
theorem path_ok (b : List Int) (hb : b.length ≤ 140737488351232) (i h : Int) (hi : St b i) (k : Nat) (hk : 500 < k) : ∃ x i' h', spec_l02Path.f k b i h = some (x, i', h') ∧ x.size ≤ 300 ∧ St b i' := by
  unfold spec_l02Path.f
  obtain ⟨x, i1, h1, e1, l1, s1⟩ := pick_ok b hb i h [(⟨#[97]⟩ : ByteArray), (⟨#[98]⟩ : ByteArray), (⟨#[115, 114, 99]⟩ : ByteArray), (⟨#[120, 46, 116, 120, 116]⟩ : ByteArray), (⟨#[108, 105, 98]⟩ : ByteArray)] 5 (by simp) (by simp) (by
    intro x hx
    simp only [List.mem_cons, List.not_mem_nil, or_false] at hx
    rcases hx with rfl | rfl | rfl | rfl | rfl <;> decide) hi
  rw [e1]
  simp only [Option.bind_some]
  obtain ⟨n, i2, h2, e2, l2, s2⟩ := below_ok b hb i1 h1 4 (by decide) s1
  rw [e2]
  simp only [Option.bind_some]
  exact path_loop b hb n (by have := l2.2 (by decide); omega) 4 k i2 h2 x 0 s2 (by decide) (by have := l2.2 (by decide); omega) (by omega) (by omega)

theorem odd_loop (b : List Int) (hb : b.length ≤ 140737488351232) (n : Int) (hn : n ≤ 6) : ∀ (d k : Nat) (i h : Int) (x3 : ByteArray) (j : Int), St b i → 0 ≤ j → n - j ≤ (d : Int) → x3.size + 3 * d ≤ 100 → d < k → ∃ x i' h', spec_l02Odd.l0 k x3 n j b i h = some (x, i', h') ∧ x.size ≤ 300 ∧ St b i' := by
  intro d
  induction d with
  | zero =>
    intro k i h x3 j hi h0 hd hs hk
    obtain ⟨k, rfl⟩ : ∃ m, k = m + 1 := ⟨k - 1, by omega⟩
    unfold spec_l02Odd.l0
    rw [if_neg (by omega)]
    exact ⟨_, _, _, rfl, by omega, hi⟩
  | succ d ih =>
    intro k i h x3 j hi h0 hd hs hk
    obtain ⟨k, rfl⟩ : ∃ m, k = m + 1 := ⟨k - 1, by omega⟩
    unfold spec_l02Odd.l0
    by_cases c : j < n
    · obtain ⟨x, i1, h1, e1, l1, s1⟩ := pick_ok b hb i h [(⟨#[97]⟩ : ByteArray), (⟨#[47]⟩ : ByteArray), (⟨#[46, 46]⟩ : ByteArray), (⟨#[46]⟩ : ByteArray), (⟨#[47]⟩ : ByteArray), (⟨#[98, 47]⟩ : ByteArray), (⟨#[46, 46, 47]⟩ : ByteArray), (⟨#[32]⟩ : ByteArray), (⟨#[0]⟩ : ByteArray), (⟨#[99]⟩ : ByteArray)] 3 (by simp) (by simp) (by
        intro x hx
        simp only [List.mem_cons, List.not_mem_nil, or_false] at hx
        rcases hx with rfl | rfl | rfl | rfl | rfl | rfl | rfl | rfl | rfl | rfl <;> decide) hi
      rw [if_pos c, e1]
      simp only [Option.bind_some]
      rw [if_pos (by omega), w64 (by omega) (by omega)]
      exact ih k i1 h1 _ (j + 1) s1 (by omega) (by omega) (by rw [ByteArray.size_append]; omega) (by omega)
    · rw [if_neg c]
      exact ⟨_, _, _, rfl, by omega, hi⟩
theorem odd_ok (b : List Int) (hb : b.length ≤ 140737488351232) (i h : Int) (hi : St b i) (k : Nat) (hk : 10 < k) : ∃ x i' h', spec_l02Odd.f k b i h = some (x, i', h') ∧ x.size ≤ 300 ∧ St b i' := by
  unfold spec_l02Odd.f
  obtain ⟨n, i2, h2, e2, l2, s2⟩ := below_ok b hb i h 6 (by decide) hi
  rw [e2]
  simp only [Option.bind_some]
  exact odd_loop b hb n (by have := l2.2 (by decide); omega) 6 k i2 h2 _ 0 s2 (by decide) (by have := l2.2 (by decide); omega) (by decide) (by omega)
theorem any_ok (b : List Int) (hb : b.length ≤ 140737488351232) (i h : Int) (hi : St b i) (k : Nat) (hk : 500 < k) : ∃ x i' h', spec_l02Any.f k b i h = some (x, i', h') ∧ x.size ≤ 300 ∧ St b i' := by
  unfold spec_l02Any.f
  obtain ⟨c, i1, h1, e1, s1⟩ := once_ok b hb i h 4 (by decide) hi
  rw [e1]
  simp only [Option.bind_some]
  cases c with
  | true =>
    obtain ⟨x, i2, h2, e2, l2, s2⟩ := odd_ok b hb i1 h1 s1 k (by omega)
    rw [if_pos rfl, e2]
    exact ⟨_, _, _, rfl, l2, s2⟩
  | false =>
    obtain ⟨x, i2, h2, e2, l2, s2⟩ := path_ok b hb i1 h1 s1 k hk
    rw [if_neg (by decide), e2]
    exact ⟨_, _, _, rfl, l2, s2⟩

theorem drawAny_of (b : List Int) (hb : b.length ≤ 140737488351232) (k : Nat) (hk : b.length + 500 < k) : ∃ h0 x i' h', spec_l01New.f k b = some (b, 0, h0) ∧ spec_l02Any.f k b 0 h0 = some (x, i', h') ∧ x.size ≤ 300 ∧ St b i' := by
  obtain ⟨h0, e0⟩ := new_ok b hb k (by omega)
  obtain ⟨x, i1, h1, e1, l1, s1⟩ := any_ok b hb 0 h0 (st0 b) k (by omega)
  exact ⟨h0, x, i1, h1, e0, e1, l1, s1⟩
theorem drawUnder_ok (b : List Int) (hb : b.length ≤ 140737488351232) (k : Nat) (hk : b.length + 7500500 < k) : ∃ x y, spec_DrawUnder.f k b = some (x, y) ∧ x.size ≤ 300 ∧ y.size ≤ 300 := by
  obtain ⟨k, rfl⟩ : ∃ m, k = m + 1 := ⟨k - 1, by omega⟩
  obtain ⟨h0, e0⟩ := new_ok b hb (k + 1) (by omega)
  obtain ⟨x, i1, h1, e1, l1, s1⟩ := path_ok b hb 0 h0 (st0 b) (k + 1) (by omega)
  obtain ⟨r, e2, l2⟩ := spec_parents x (by omega) (k + 1) (by omega)
  have hr : r.length ≤ x.size := by
    have h1 := parents_le x.toList
    rw [← l2, List.length_map, tl_length] at h1
    exact h1
  have hm : ∀ y ∈ r, y.size ≤ 300 := by
    intro y hy
    have h1 : y.toList ∈ parentsM x.toList := by rw [← l2]; exact List.mem_map_of_mem hy
    have h2 : y.toList.length ≤ x.toList.length := by
      unfold parentsM at h1
      split at h1
      · have : ∀ (t p z : List UInt8), z ∈ frontsM p t → z.length ≤ p.length + t.length := by
          intro t
          induction t with
          | nil => intro p z hz; simp [frontsM] at hz
          | cons c t ih =>
            intro p z hz
            simp only [frontsM] at hz
            split at hz
            · rcases List.mem_cons.1 hz with h | h
              · subst h; omega
              · have := ih _ _ h
                simp only [List.length_append, List.length_cons, List.length_nil] at *
                omega
            · have := ih _ _ hz
              simp only [List.length_append, List.length_cons, List.length_nil] at *
              omega
        simpa using this _ _ _ h1
      · simp at h1
    rw [tl_length, tl_length] at h2
    omega
  unfold spec_DrawUnder.f
  rw [e0]
  simp only [Option.bind_some]
  rw [e1]
  simp only [Option.bind_some]
  rw [e2]
  simp only [Option.bind_some]
  have go : ∀ (c : Bool) (i2 h2 : Int), (c = true → 0 < r.length) → St b i2 → ∃ y, spec_DrawUnder.j0 (k + 1) x r c b i2 h2 = some (x, y) ∧ y.size ≤ 300 := by
    intro c i2 h2 hc s2
    simp only [spec_DrawUnder.j0]
    cases c with
    | true =>
      obtain ⟨m, i3, h3, e3, b3, s3⟩ := below_ok b hb i2 h2 (r.length : Int) (by omega) s2
      have h4 := b3.2 (by have := hc rfl; omega)
      rw [if_pos rfl, e3]
      simp only [Option.bind_some]
      rw [if_pos b3.1, if_pos h4]
      exact ⟨_, rfl, hm _ (rdB_mem r m b3.1 h4)⟩
    | false =>
      obtain ⟨y, i3, h3, e3, l3, s3⟩ := any_ok b hb i2 h2 s2 k (by omega)
      rw [if_neg (by decide), e3]
      exact ⟨_, rfl, l3⟩
  by_cases c : (r.length : Int) > 0
  · rw [if_pos c]
    obtain ⟨q, i2, h2, e3, s2⟩ := once_ok b hb i1 h1 2 (by decide) s1
    rw [e3]
    simp only [Option.bind_some]
    obtain ⟨y, e4, l4⟩ := go q i2 h2 (fun _ => by omega) s2
    exact ⟨x, y, e4, l1, l4⟩
  · rw [if_neg c]
    obtain ⟨y, e4, l4⟩ := go false i1 h1 (fun h => by cases h) s1
    exact ⟨x, y, e4, l1, l4⟩

theorem bind_of {α β : Type} {x : Option α} {a : α} (h : x = some a) (f : α → Option β) : x.bind f = f a := by rw [h]; rfl
theorem drawGlob_end (b : List Int) (hb : b.length ≤ 140737488351232) (s : ByteArray) (hs : s.size ≤ 300) (n : Int) (k : Nat) (i h : Int) (x : ByteArray) (j : Int) (hi : St b i) (hn : ¬ j < n) (hk : 400 < k) : ∃ p, spec_DrawGlob.l0 k s x n j b i h = some (p, s) := by
  obtain ⟨k, rfl⟩ : ∃ m, k = m + 1 := ⟨k - 1, by omega⟩
  obtain ⟨m, i1, h1, e1, _, s1⟩ := below_ok b hb i h 4 (by decide) hi
  simp only [spec_DrawGlob.l0]
  rw [if_neg hn, bind_of e1]
  by_cases c0 : m = 0
  · rw [if_pos c0]
    exact ⟨_, rfl⟩
  rw [if_neg c0]
  by_cases c1 : m = 1
  · have hz : (baseM s).size ≤ s.size := by
      unfold baseM
      rw [ByteArray.size_extract]
      omega
    have q : 2 + (baseM s).size ≤ 9223372036854775807 := by omega
    rw [if_pos c1, bind_of (spec_base s (by omega) k (by omega)), if_pos q]
    exact ⟨_, rfl⟩
  rw [if_neg c1]
  by_cases c2 : m = 2
  · have hz : (dirM s).size ≤ s.size := by
      unfold dirM
      rw [ByteArray.size_extract]
      omega
    have q : (dirM s).size + 2 ≤ 9223372036854775807 := by omega
    rw [if_pos c2, bind_of (spec_dir s (by omega) k (by omega)), if_pos q]
    exact ⟨_, rfl⟩
  rw [if_neg c2]
  exact ⟨_, rfl⟩
theorem drawGlob_loop (b : List Int) (hb : b.length ≤ 140737488351232) (s : ByteArray) (hs : s.size ≤ 300) (n : Int) (hn100 : n ≤ 100) : ∀ (d k : Nat) (i h : Int) (x : ByteArray) (j : Int), St b i → 0 ≤ j → n - j ≤ (d : Int) → x.size + 3 * d ≤ 100 → 400 + d < k → ∃ p, spec_DrawGlob.l0 k s x n j b i h = some (p, s) := by
  intro d
  induction d with
  | zero =>
    intro k i h x j hi h0 hd hx hk
    exact drawGlob_end b hb s hs n _ i h x j hi (by omega) (by omega)
  | succ d ih =>
    intro k i h x j hi h0 hd hx hk
    by_cases hn : j < n
    · obtain ⟨k, rfl⟩ : ∃ m, k = m + 1 := ⟨k - 1, by omega⟩
      obtain ⟨t, i1, h1, e1, l1, s1⟩ := pick_ok b hb i h [(⟨#[42]⟩ : ByteArray), (⟨#[63]⟩ : ByteArray), (⟨#[97]⟩ : ByteArray), (⟨#[47]⟩ : ByteArray), (⟨#[42, 42]⟩ : ByteArray), (⟨#[98]⟩ : ByteArray), (⟨#[46, 103, 111]⟩ : ByteArray)] 3 (by simp) (by simp) (by
        intro x hx
        simp only [List.mem_cons, List.not_mem_nil, or_false] at hx
        rcases hx with rfl | rfl | rfl | rfl | rfl | rfl | rfl <;> decide) hi
      have q : x.size + t.size ≤ 9223372036854775807 := by omega
      have hw : wrap64 (j + 1) = j + 1 := w64 (by omega) (by omega)
      obtain ⟨p, e⟩ := ih k i1 h1 (x ++ t) (j + 1) s1 (by omega) (by omega) (by rw [ByteArray.size_append]; omega) (by omega)
      simp only [spec_DrawGlob.l0]
      rw [if_pos hn, bind_of e1, if_pos q, hw]
      exact ⟨p, e⟩
    · exact drawGlob_end b hb s hs n k i h x j hi hn (by omega)
theorem drawGlob_ok (b : List Int) (hb : b.length ≤ 140737488351232) (k : Nat) (hk : b.length + 600 < k) : ∃ p s, spec_DrawGlob.f k b = some (p, s) ∧ s.size ≤ 300 := by
  obtain ⟨h0, e0⟩ := new_ok b hb k (by omega)
  obtain ⟨s, i1, h1, e1, l1, s1⟩ := path_ok b hb 0 h0 (st0 b) k (by omega)
  obtain ⟨n, i2, h2, e2, l2, s2⟩ := below_ok b hb i1 h1 5 (by decide) s1
  obtain ⟨p, e3⟩ := drawGlob_loop b hb s l1 n (by have := l2.2 (by decide); omega) 5 k i2 h2 (⟨#[]⟩ : ByteArray) 0 s2 (by decide) (by have := l2.2 (by decide); omega) (by decide) (by omega)
  unfold spec_DrawGlob.f
  rw [bind_of e0, bind_of e1, bind_of e2]
  exact ⟨p, s, e3, l1⟩
theorem drawStrip_ok (b : List Int) (hb : b.length ≤ 140737488351232) (k : Nat) (hk : b.length + 600 < k) : ∃ s n, spec_DrawStrip.f k b = some (s, n) ∧ s.size ≤ 300 ∧ -1 ≤ n ∧ n ≤ 21 := by
  obtain ⟨h0, s, i1, h1, e0, e1, l1, s1⟩ := drawAny_of b hb k (by omega)
  obtain ⟨n, i2, h2, e2, hm, s2⟩ := pickInt_ok b hb i1 h1 [0, 1, 2, 3, 20, 21, (-1)] (by decide) (by decide) s1
  unfold spec_DrawStrip.f
  rw [bind_of e0, bind_of e1, bind_of e2]
  refine ⟨s, n, rfl, l1, ?_⟩
  simp only [List.mem_cons, List.not_mem_nil, or_false] at hm
  omega
theorem drawSwap_ok (b : List Int) (hb : b.length ≤ 140737488351232) (k : Nat) (hk : b.length + 7500600 < k) : ∃ x y z, spec_DrawSwap.f k b = some (x, y, z) ∧ x.size ≤ 300 ∧ y.size ≤ 300 ∧ z.size ≤ 300 := by
  obtain ⟨h0, e0⟩ := new_ok b hb k (by omega)
  obtain ⟨x, y, e1, l1, l2⟩ := drawUnder_ok b hb k (by omega)
  obtain ⟨c, i2, h2, e2, s2⟩ := once_ok b hb 0 h0 4 (by decide) (st0 b)
  obtain ⟨z, i3, h3, e3, l3, s3⟩ := any_ok b hb i2 h2 s2 k (by omega)
  unfold spec_DrawSwap.f
  rw [bind_of e0, bind_of e1, bind_of e2]
  cases c with
  | true =>
    rw [if_pos rfl, bind_of e3]
    exact ⟨x, x, z, rfl, l1, l1, l3⟩
  | false =>
    rw [if_neg Bool.false_ne_true, bind_of e3]
    exact ⟨x, y, z, rfl, l1, l2, l3⟩
theorem glob_j2 (K : Nat) (hK : 20000000 < K) (t : ByteArray) (ht : t.size ≤ 300) (n : Int) (hn : -1 ≤ n ∧ n ≤ 21) (x a c : ByteArray) (ha : a.toList = stripM t.toList n) (hx : x.size ≤ 300) (f g : List UInt8) (hc : c.toList = swapM x.toList f g) : laws_FnGlob.j2 (K + 1) t n x a c false = some true := by
  have hlen : (stripM t.toList n).length ≤ 300 := by
    unfold stripM
    split
    · have := join_drop_le n.toNat (splitA 47 [] t.toList)
      rw [join_split, List.nil_append, tl_length] at this
      omega
    · simp
  have has : a.size ≤ 300 := by rw [← tl_length, ha]; exact hlen
  have hcs : c.toList = x.toList ∨ pathOkM c.toList = true := by
    rcases swap_law x.toList f g with h | h
    · exact Or.inl (hc.trans h)
    · rw [hc]
      exact Or.inr h
  have hcz : c.size ≤ 300 := by
    rcases hcs with h | h
    · rw [← tl_length, h, tl_length]
      exact hx
    · unfold pathOkM at h
      rw [Bool.and_eq_true, decide_eq_true_eq, tl_length] at h
      omega
  have last : (if c.toList = x.toList then some true else (impl_PathOk.f K c).bind fun t => some t : Option Bool) = some true := by
    by_cases h : c.toList = x.toList
    · rw [if_pos h]
    · rw [if_neg h, bind_of (impl_pathOk c (by omega) K (by omega)), hcs.resolve_left h]
  simp only [laws_FnGlob.j2]
  rw [if_neg Bool.false_ne_true]
  by_cases h0 : a.toList = []
  · rw [if_pos h0]
    exact last
  · have hl := strip_law t.toList n (by rw [← ha]; exact h0)
    rw [← ha] at hl
    have hw : wrap64 ((depthM t.toList : Int) - n) = (depthM a.toList : Int) := by
      have h1 : depthM t.toList ≤ 301 := by
        unfold depthM
        split
        · have := splitA_le 47 t.toList []
          rw [tl_length] at this
          omega
        · omega
      rw [w64 (by omega) (by omega)]
      exact hl.2.symm
    rw [if_neg h0, bind_of (impl_pathOk a (by omega) K (by omega)), hl.1, if_pos rfl, bind_of (impl_depth a (by omega) K (by omega)), bind_of (impl_depth t (by omega) K (by omega)), hw, if_pos rfl]
    exact last
theorem glob_l0 (K : Nat) (hK : 20000000 < K) (s : ByteArray) (hs : s.size ≤ 300) (t : ByteArray) (n : Int) (x a c : ByteArray) (J : ∀ K2, 20000000 < K2 → laws_FnGlob.j2 (K2 + 1) t n x a c false = some true) : ∀ (d i k : Nat) (pl : Bool), i + d = s.size → K + d < k → (pl = true → ∀ j : Nat, j < i → ¬ bt s (j : Int) = 42 ∧ ¬ bt s (j : Int) = 63) → laws_FnGlob.l0 (k + 1) s t n x a c pl (i : Int) = some true := by
  intro d
  induction d with
  | zero =>
    intro i k pl hi hk hpl
    obtain ⟨k, rfl⟩ : ∃ m, k = m + 1 := ⟨k - 1, by omega⟩
    obtain rfl : i = s.size := by omega
    have hn : ¬ ((s.size : Nat) : Int) < (s.size : Int) := by omega
    have J' := J k (by omega)
    have star : ((impl_Glob.f (k + 1) (⟨#[42]⟩ : ByteArray) s).bind fun t440 => (if t440 = true then ((impl_Base.f (k + 1) s).bind fun t441 => (laws_FnGlob.j2 (k + 1) t n x a c (t441.toList != s.toList))) else (laws_FnGlob.j2 (k + 1) t n x a c false)) : Option Bool) = some true := by
      rw [bind_of (impl_glob (⟨#[42]⟩ : ByteArray) s (k + 1) (by omega))]
      by_cases hg : globM (⟨#[42]⟩ : ByteArray) s = true
      · have hb := base_plain s (glob_star s hg)
        have hne : ((baseM s).toList != s.toList) = false := by rw [hb]; simp
        rw [if_pos hg, bind_of (impl_base s (by omega) (k + 1) (by omega)), hne]
        exact J'
      · rw [if_neg hg]
        exact J'
    simp only [laws_FnGlob.l0]
    rw [if_neg hn]
    cases pl with
    | false =>
      rw [if_neg Bool.false_ne_true]
      exact star
    | true =>
      rw [if_pos rfl]
      by_cases h50 : (s.size : Int) ≤ 50
      · rw [if_pos h50, bind_of (impl_glob s s (k + 1) (by omega)), glob_self s (by omega) (hpl rfl), if_pos rfl]
        exact star
      · rw [if_neg h50]
        exact star
  | succ d ih =>
    intro i k pl hi hk hpl
    obtain ⟨k, rfl⟩ : ∃ m, k = m + 1 := ⟨k - 1, by omega⟩
    have hlt : (i : Int) < (s.size : Int) := by omega
    have h0 : 0 ≤ (i : Int) := by omega
    have hw : wrap64 ((i : Int) + 1) = ((i + 1 : Nat) : Int) := by rw [w64 (by omega) (by omega)]; omega
    have no := ih (i + 1) k false (by omega) (by omega) (fun h => by cases h)
    simp only [laws_FnGlob.l0]
    rw [if_pos hlt, hw]
    cases pl with
    | false =>
      rw [if_neg Bool.false_ne_true]
      exact no
    | true =>
      rw [if_pos rfl, if_pos h0]
      by_cases h1 : bt s (i : Int) = 42
      · rw [if_pos h1]
        exact no
      · rw [if_neg h1]
        refine ih (i + 1) k _ (by omega) (by omega) (fun h j hj => ?_)
        by_cases c : j = i
        · subst c
          exact ⟨h1, by simpa using h⟩
        · exact hpl rfl j (by omega)
theorem FnGlob : ∀ (l0 : List Int), l0.length ≤ 9223372036854775807 → (∀ x ∈ l0, (Lit.int .u8 x).wf = true) → ∃ k, laws_FnGlob.f k l0 = some true := by
  intro b _ _
  by_cases hb : (b.length : Int) > 1048576
  · refine ⟨0, ?_⟩
    unfold laws_FnGlob.f laws_big.f
    simp only [Option.bind_some]
    rw [if_pos (decide_eq_true hb)]
  obtain ⟨K, hK⟩ : ∃ K, 30000000 < K := ⟨_, Nat.lt_succ_self 30000000⟩
  refine ⟨K + 1000, ?_⟩
  have hbig : laws_big.f b = some false := by
    unfold laws_big.f
    rw [decide_eq_false hb]
  obtain ⟨p, s, e1, l1⟩ := drawGlob_ok b (by omega) (K + 1000) (by omega)
  obtain ⟨t, n, e2, l2, hn⟩ := drawStrip_ok b (by omega) (K + 1000) (by omega)
  obtain ⟨x, f, g, e3, l3, l4, l5⟩ := drawSwap_ok b (by omega) (K + 1000) (by omega)
  have hnw : (Lit.int .i64 n).wf = true := by simp [Lit.wf, IntKind.min, IntKind.max, IntKind.signed, IntKind.bits]; omega
  obtain ⟨a1, e4, m4⟩ := impl_strip t (by omega) n hnw (K + 1000) (by omega)
  obtain ⟨a2, e5, m5⟩ := spec_strip t (by omega) n hnw (K + 1000) (by omega)
  obtain ⟨c1, e6, m6⟩ := impl_swap x f g (by omega) (by omega) (by omega) (K + 1000) (by omega)
  obtain ⟨c2, e7, m7⟩ := spec_swap x f g (by omega) (by omega) (by omega) (K + 1000) (by omega)
  have g1 := impl_glob p s (K + 1000) (by omega)
  have g2 := spec_glob p s (K + 1000) (by omega)
  have g3 := impl_glob (⟨#[42, 42]⟩ : ByteArray) s (K + 1000) (by omega)
  rw [glob_any s l1] at g3
  have ne : ∀ b : Bool, (b != b) = false := fun b => by cases b <;> rfl
  have J := fun K2 h => glob_j2 K2 h t l2 n hn x a1 c1 m4 l3 f.toList g.toList m6
  have L := glob_l0 K (by omega) s l1 t n x a1 c1 J s.size 0 (K + 998) true (by omega) (by omega) (fun _ j hj => by omega)
  have J0 : laws_FnGlob.j0 (K + 1000) s t n x a1 c1 false = some true := by
    simp only [laws_FnGlob.j0]
    rw [if_neg Bool.false_ne_true]
    exact L
  unfold laws_FnGlob.f
  rw [bind_of hbig, if_neg Bool.false_ne_true, bind_of e1, bind_of e2, bind_of e3, bind_of e4, bind_of e6, bind_of g1, bind_of g2, ne, if_neg Bool.false_ne_true, bind_of e5, if_pos (m4.trans m5.symm), bind_of e7, if_pos (m6.trans m7.symm), bind_of g3]
  exact J0

end Go.Proofs.YtdjepilhenijeaaDoor.Pure
