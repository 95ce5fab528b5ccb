/-
The pure statement of the law FnFields (numbers, byte strings and lists; no Go and no memory): the printed law's function answers true. Conditions: those of the printed statement (each string at most 2^47 - 4096 bytes, each number of its kind).
-/
import Derived.Test.YtdjepilhenijeaaDoorPFnFieldsx6
import Derived.Test.YtdjepilhenijeaaDoorCore
namespace Go.Proofs.YtdjepilhenijeaaDoor.Pure
open Go.RowKit Go.Proofs.YtdjepilhenijeaaDoor.PFnFields Go.Proofs.YtdjepilhenijeaaDoorW.PrintWords Go.Proofs.YtdjepilhenijeaaDoorW.PrintLast Go.Proofs.YtdjepilhenijeaaDoor.Core
set_option linter.unusedVariables false
set_option linter.unusedSimpArgs false

/-- A cursor's place is one of its bytes, or behind them. -/
def St (b : List Int) (i : Int) : Prop := 0 ≤ i ∧ i ≤ (b.length : Int)
theorem byte_ok (b : List Int) (hb : b.length ≤ 140737488351232) (i h : Int) (hi : St b i) : ∃ x i' h', spec_l01Byte.f b i h = some (x, i', h') ∧ (0 ≤ x ∧ x ≤ 255) ∧ St b i' := by
  unfold St at hi
  have m : ∀ z : Int, Go.bits .and .i64 z 255 = z % 256 := fun z => bits_and_mask z 8 (by decide)
  unfold spec_l01Byte.f
  by_cases h1 : i < (b.length : Int)
  · rw [if_pos h1, if_pos hi.1, w64 (n := i + 1) (by omega) (by omega)]
    refine ⟨_, _, _, rfl, ?_, ⟨by omega, by omega⟩⟩
    rw [m]
    omega
  · rw [if_neg h1]
    refine ⟨_, _, _, rfl, ?_, hi⟩
    rw [m]
    omega
theorem below_ok (b : List Int) (hb : b.length ≤ 140737488351232) (i h n : Int) (hn : n ≤ 9223372036854775807) (hi : St b i) : ∃ x i' h', spec_l01Below.f b i h n = some (x, i', h') ∧ (0 ≤ x ∧ (0 < n → x < n)) ∧ St b i' := by
  unfold spec_l01Below.f
  by_cases h0 : n ≤ 0
  · rw [if_pos h0]
    exact ⟨_, _, _, rfl, ⟨by omega, by omega⟩, hi⟩
  · rw [if_neg h0]
    obtain ⟨x1, i1, h1, e1, b1, s1⟩ := byte_ok b hb i h hi
    rw [e1]
    simp only [Option.bind_some]
    by_cases h2 : n ≤ 256
    · rw [if_pos h2, if_neg (by omega)]
      refine ⟨_, _, _, rfl, ?_, s1⟩
      rw [Int.tmod_eq_emod_of_nonneg b1.1]
      exact ⟨Int.emod_nonneg _ (by omega), fun _ => Int.emod_lt_of_pos _ (by omega)⟩
    · rw [if_neg h2]
      obtain ⟨x2, i2, h2', e2, b2, s2⟩ := byte_ok b hb i1 h1 s1
      obtain ⟨x3, i3, h3, e3, b3, s3⟩ := byte_ok b hb i2 h2' s2
      obtain ⟨x4, i4, h4, e4, b4, s4⟩ := byte_ok b hb i3 h3 s3
      rw [e2]
      simp only [Option.bind_some]
      rw [e3]
      simp only [Option.bind_some]
      rw [e4]
      simp only [Option.bind_some]
      rw [if_neg (by omega)]
      refine ⟨_, _, _, rfl, ?_, s4⟩
      have w1 : wrap64 (x1 * 16777216) = x1 * 16777216 := w64 (by omega) (by omega)
      have w2 : wrap64 (x2 * 65536) = x2 * 65536 := w64 (by omega) (by omega)
      have w3 : wrap64 (x3 * 256) = x3 * 256 := w64 (by omega) (by omega)
      have w4 : wrap64 (x1 * 16777216 + x2 * 65536) = x1 * 16777216 + x2 * 65536 := w64 (by omega) (by omega)
      have w5 : wrap64 (x1 * 16777216 + x2 * 65536 + x3 * 256) = x1 * 16777216 + x2 * 65536 + x3 * 256 := w64 (by omega) (by omega)
      have w6 : wrap64 (x1 * 16777216 + x2 * 65536 + x3 * 256 + x4) = x1 * 16777216 + x2 * 65536 + x3 * 256 + x4 := w64 (by omega) (by omega)
      rw [w1, w2, w3, w4, w5, w6, Int.tmod_eq_emod_of_nonneg (by omega)]
      exact ⟨Int.emod_nonneg _ (by omega), fun _ => Int.emod_lt_of_pos _ (by omega)⟩
theorem rd_mem (l : List Int) (j : Int) (h0 : 0 ≤ j) (h1 : j < (l.length : Int)) : rd l j ∈ l := by
  unfold rd
  rw [List.getD_eq_getElem?_getD, List.getElem?_eq_getElem (by omega)]
  exact List.getElem_mem _
theorem pickInt_ok (b : List Int) (hb : b.length ≤ 140737488351232) (i h : Int) (l : List Int) (hl : 0 < l.length) (hl2 : l.length ≤ 9223372036854775807) (hi : St b i) : ∃ x i' h', spec_l01PickInt.f b i h l = some (x, i', h') ∧ x ∈ l ∧ St b i' := by
  obtain ⟨x, i', h', e, r, s⟩ := below_ok b hb i h (l.length : Int) (by omega) hi
  unfold spec_l01PickInt.f
  rw [e]
  simp only [Option.bind_some]
  have := r.2 (by omega)
  rw [if_pos r.1, if_pos this]
  exact ⟨_, _, _, rfl, rd_mem l x r.1 this, s⟩
theorem new_loop (b : List Int) (_hb : b.length ≤ 140737488351232) : ∀ (d k : Nat) (i h : Int), 0 ≤ i → (b.length : Int) - i ≤ d → d < k → ∃ h', spec_l01New.l0 k b h i = some (b, 0, h') := by
  intro d
  induction d with
  | zero =>
    intro k i h h0 hd hk
    obtain ⟨k, rfl⟩ : ∃ m, k = m + 1 := ⟨k - 1, by omega⟩
    simp only [spec_l01New.l0]
    rw [if_neg (by omega)]
    exact ⟨_, rfl⟩
  | succ d ih =>
    intro k i h h0 hd hk
    obtain ⟨k, rfl⟩ : ∃ m, k = m + 1 := ⟨k - 1, by omega⟩
    simp only [spec_l01New.l0]
    by_cases h1 : i < (b.length : Int)
    · rw [if_pos h1]
      by_cases h2 : i < 4000
      · rw [if_pos h2, if_pos h0, w64 (n := i + 1) (by omega) (by omega)]
        exact ih k (i + 1) _ (by omega) (by omega) (by omega)
      · rw [if_neg h2]
        exact ⟨_, rfl⟩
    · rw [if_neg h1]
      exact ⟨_, rfl⟩
theorem new_ok (b : List Int) (hb : b.length ≤ 140737488351232) (k : Nat) (hk : b.length < k) : ∃ h', spec_l01New.f k b = some (b, 0, h') := by
  unfold spec_l01New.f
  exact new_loop b hb b.length k 0 _ (by omega) (by omega) hk
theorem st0 (b : List Int) : St b 0 := ⟨by omega, by omega⟩

/-! ### The draws' numbers: each state comes to each other one -/
def stp (h : Int) : Int := wrap64 (wrap64 (h * 6364136223846793005) + 1442695040888963407)
def itn : Nat → Int → Int
  | 0, h => h
  | t + 1, h => itn t (stp h)
theorem itn_add : ∀ (a b : Nat) (h : Int), itn (a + b) h = itn b (itn a h)
  | 0, b, h => by rw [Nat.zero_add]; rfl
  | a + 1, b, h => by
    rw [show a + 1 + b = (a + b) + 1 by omega]
    simp only [itn]
    exact itn_add a b (stp h)
theorem wrap_mod (n : Int) : ∃ z : Int, wrap64 n = n + z * 18446744073709551616 := by
  unfold wrap64
  exact ⟨((n + 9223372036854775808) % 18446744073709551616 - 9223372036854775808 - n) / 18446744073709551616, by omega⟩
theorem stp_mod (h : Int) : ∃ z : Int, stp h = h * 6364136223846793005 + 1442695040888963407 + z * 18446744073709551616 := by
  unfold stp
  obtain ⟨z1, e1⟩ := wrap_mod (h * 6364136223846793005)
  obtain ⟨z2, e2⟩ := wrap_mod (wrap64 (h * 6364136223846793005) + 1442695040888963407)
  exact ⟨z1 + z2, by rw [e2, e1]; omega⟩
theorem stp_range (h : Int) : -9223372036854775808 ≤ stp h ∧ stp h ≤ 9223372036854775807 := by
  unfold stp
  generalize wrap64 (h * 6364136223846793005) + 1442695040888963407 = n
  unfold wrap64
  omega
/-- 2^k steps at once: a multiplier one more than a multiple of 2^(k+2), an addend 2^k times an odd number. -/
theorem itn_pow : ∀ k : Nat, ∃ m q : Int, ∀ h : Int, ∃ z : Int, itn (2 ^ k) h = h * (1 + 4 * (2 ^ k) * m) + 2 ^ k * (2 * q + 1) + z * 18446744073709551616
  | 0 => ⟨1591034055961698251, 721347520444481703, fun h => by
    obtain ⟨z, e⟩ := stp_mod h
    refine ⟨z, ?_⟩
    show stp h = _
    rw [e]
    omega⟩
  | k + 1 => by
    obtain ⟨m, q, H⟩ := itn_pow k
    refine ⟨m + 2 * 2 ^ k * (m * m), q + 2 ^ k * m * (2 * q + 1), fun h => ?_⟩
    obtain ⟨z1, e1⟩ := H h
    obtain ⟨z2, e2⟩ := H (itn (2 ^ k) h)
    refine ⟨z1 * (1 + 4 * (2 ^ k) * m) + z2, ?_⟩
    rw [Nat.pow_succ, Nat.mul_two, itn_add, e2, e1, Int.pow_succ]
    generalize (2 : Int) ^ k = p
    grind
theorem reach_mod (y : Int) : ∀ (k : Nat), k ≤ 64 → ∀ h : Int, ∃ (t : Nat) (z : Int), itn t h = y + z * 2 ^ k
  | 0, _, h => ⟨0, h - y, by simp only [itn, Int.pow_zero]; omega⟩
  | k + 1, hk, h => by
    obtain ⟨t, z, e⟩ := reach_mod y k (by omega) h
    rcases Int.emod_two_eq z with hz | hz
    · obtain ⟨w, hw⟩ : ∃ w, z = 2 * w := ⟨z / 2, by omega⟩
      refine ⟨t, w, ?_⟩
      rw [e, Int.pow_succ, hw]
      generalize (2 : Int) ^ k = p
      grind
    · obtain ⟨m, q, H⟩ := itn_pow k
      obtain ⟨z1, e1⟩ := H (itn t h)
      obtain ⟨w, hw⟩ : ∃ w, z = 2 * w + 1 := ⟨z / 2, by omega⟩
      have hM : (18446744073709551616 : Int) = 2 ^ (k + 1) * 2 ^ (63 - k) := by
        rw [← Int.pow_add, show k + 1 + (63 - k) = 64 by omega]
        rfl
      refine ⟨t + 2 ^ k, w + 2 * (y + z * 2 ^ k) * m + q + 1 + z1 * 2 ^ (63 - k), ?_⟩
      rw [itn_add, e1, hM, e, hw, Int.pow_succ]
      generalize (2 : Int) ^ k = p
      generalize (2 : Int) ^ (63 - k) = r
      grind
theorem itn_range : ∀ (t : Nat) (h : Int), -9223372036854775808 ≤ itn (t + 1) h ∧ itn (t + 1) h ≤ 9223372036854775807
  | 0, h => stp_range h
  | t + 1, h => itn_range t (stp h)
/-- A state from which many draws in a row are three or four of five. -/
def hS : Int := -5468664168254014830
theorem reach (h : Int) : ∃ t, itn t h = hS := by
  obtain ⟨t, z, e⟩ := reach_mod hS 64 (by omega) (stp h)
  have hr := itn_range t h
  have he : itn (t + 1) h = hS + z * 2 ^ 64 := e
  have h2 : (2 : Int) ^ 64 = 18446744073709551616 := by decide
  rw [h2] at he
  refine ⟨t + 1, ?_⟩
  rw [he] at hr ⊢
  unfold hS at hr ⊢
  omega
def outB (h : Int) : Int := Go.bits .and .i64 (Go.bits .xor .i64 (h / 8589934592) (h / 35184372088832)) 255
theorem window : ∀ j : Fin 6, 3 ≤ outB (stp (itn j.val hS)) % 5 := by decide +kernel

/-! ### The draw of a text comes to an end -/
/-- So many of the cursor's steps on. -/
def Adv (b : List Int) (i h i' h' : Int) (c : Nat) : Prop := h' = itn c h ∧ (i + (c : Int) ≤ (b.length : Int) → i' = i + (c : Int)) ∧ ((b.length : Int) < i + (c : Int) → i' = (b.length : Int))
theorem adv_trans {b : List Int} {i h i1 h1 i2 h2 : Int} {c d : Nat} (a1 : Adv b i h i1 h1 c) (a2 : Adv b i1 h1 i2 h2 d) (hi : i ≤ (b.length : Int)) : Adv b i h i2 h2 (c + d) := by
  obtain ⟨e1, p1, q1⟩ := a1
  obtain ⟨e2, p2, q2⟩ := a2
  refine ⟨by rw [e2, e1, itn_add], fun hl => ?_, fun hl => ?_⟩
  · by_cases c1 : i + (c : Int) ≤ (b.length : Int)
    · have := p1 c1
      have := p2 (by omega)
      omega
    · omega
  · by_cases c1 : i + (c : Int) ≤ (b.length : Int)
    · have := p1 c1
      exact q2 (by omega)
    · have := q1 (by omega)
      by_cases c2 : i1 + (d : Int) ≤ (b.length : Int)
      · have := p2 c2
        omega
      · exact q2 (by omega)
theorem adv_st {b : List Int} {i h i1 h1 : Int} {c : Nat} (a : Adv b i h i1 h1 c) (hi : St b i) : St b i1 := by
  obtain ⟨_, p, q⟩ := a
  unfold St at *
  by_cases c1 : i + (c : Int) ≤ (b.length : Int)
  · have := p c1
    omega
  · have := q (by omega)
    omega
theorem byte_adv (b : List Int) (hb : b.length ≤ 140737488351232) (i h : Int) (hi : St b i) : ∃ x i' h', spec_l01Byte.f b i h = some (x, i', h') ∧ (0 ≤ x ∧ x ≤ 255) ∧ Adv b i h i' h' 1 ∧ (i = (b.length : Int) → x = outB (stp h)) := by
  unfold St at hi
  have m : ∀ z : Int, Go.bits .and .i64 z 255 = z % 256 := fun z => bits_and_mask z 8 (by decide)
  unfold spec_l01Byte.f
  by_cases h1 : i < (b.length : Int)
  · rw [if_pos h1, if_pos hi.1, w64 (n := i + 1) (by omega) (by omega)]
    refine ⟨_, _, _, rfl, ?_, ⟨rfl, fun _ => rfl, fun hl => by omega⟩, fun e => by omega⟩
    rw [m]
    omega
  · rw [if_neg h1]
    refine ⟨_, _, _, rfl, ?_, ⟨rfl, fun hl => by omega, fun _ => by omega⟩, fun _ => rfl⟩
    rw [m]
    omega
theorem below_adv (b : List Int) (hb : b.length ≤ 140737488351232) (i h n : Int) (h0 : 0 < n) (hn : n ≤ 256) (hi : St b i) : ∃ x i' h', spec_l01Below.f b i h n = some (x, i', h') ∧ (0 ≤ x ∧ x < n) ∧ Adv b i h i' h' 1 ∧ (i = (b.length : Int) → x = outB (stp h) % n) := by
  obtain ⟨x, i', h', e, r, a, w⟩ := byte_adv b hb i h hi
  have p1 : ¬ n ≤ 0 := by omega
  have p2 : ¬ n = 0 := by omega
  unfold spec_l01Below.f
  rw [if_neg p1, if_pos hn, e]
  simp only [Option.bind_some]
  rw [if_neg p2, Int.tmod_eq_emod_of_nonneg r.1]
  exact ⟨_, _, _, rfl, ⟨Int.emod_nonneg _ (by omega), Int.emod_lt_of_pos _ h0⟩, a, fun e => by rw [w e]⟩
theorem below_any (b : List Int) (hb : b.length ≤ 140737488351232) (i h n : Int) (h0 : 0 < n) (hn : n ≤ 9223372036854775807) (hi : St b i) : ∃ x i' h' c, spec_l01Below.f b i h n = some (x, i', h') ∧ (0 ≤ x ∧ x < n) ∧ 1 ≤ c ∧ c ≤ 4 ∧ Adv b i h i' h' c := by
  by_cases c : n ≤ 256
  · obtain ⟨x, i', h', e, r, a, _⟩ := below_adv b hb i h n h0 c hi
    exact ⟨x, i', h', 1, e, r, by omega, by omega, a⟩
  · obtain ⟨x0, i0, h00, e0, r0, s0⟩ := below_ok b hb i h n hn hi
    obtain ⟨x1, i1, h1, e1, b1, a1, _⟩ := byte_adv b hb i h hi
    obtain ⟨x2, i2, h2, e2, b2, a2, _⟩ := byte_adv b hb i1 h1 (adv_st a1 hi)
    obtain ⟨x3, i3, h3, e3, b3, a3, _⟩ := byte_adv b hb i2 h2 (adv_st a2 (adv_st a1 hi))
    obtain ⟨x4, i4, h4, e4, b4, a4, _⟩ := byte_adv b hb i3 h3 (adv_st a3 (adv_st a2 (adv_st a1 hi)))
    have s1 := (adv_st a1 hi).2
    have s2 := (adv_st a2 (adv_st a1 hi)).2
    have s3 := (adv_st a3 (adv_st a2 (adv_st a1 hi))).2
    have a12 := adv_trans a1 a2 hi.2
    have a123 := adv_trans a12 a3 hi.2
    have a1234 := adv_trans a123 a4 hi.2
    have p1 : ¬ n ≤ 0 := by omega
    have p2 : ¬ n = 0 := by omega
    have e : ∃ y, spec_l01Below.f b i h n = some (y, i4, h4) := by
      unfold spec_l01Below.f
      rw [if_neg p1, if_neg c, e1]
      simp only [Option.bind_some]
      rw [e2]
      simp only [Option.bind_some]
      rw [e3]
      simp only [Option.bind_some]
      rw [e4]
      simp only [Option.bind_some]
      rw [if_neg p2]
      exact ⟨_, rfl⟩
    obtain ⟨y, e⟩ := e
    rw [e0] at e
    have e5 := Option.some.inj e
    have e6 := (Prod.mk.inj e5).2
    have e7 := (Prod.mk.inj e6).1
    have e8 := (Prod.mk.inj e6).2
    subst e7 e8
    exact ⟨x0, _, _, 4, e0, ⟨r0.1, r0.2 h0⟩, by omega, by omega, a1234⟩
theorem text_l1 (b : List Int) (i h : Int) (n m x : Int) (hm : m ≤ 100) : ∀ (d : Nat) (out : List Int) (j : Int), 0 ≤ j → m - j ≤ (d : Int) → out.length + d ≤ 2000 → ∃ F out', (∀ k, spec_l01Text.l1 (k + F) n out m x j b i h = spec_l01Text.l0 k n out' b i h) ∧ out.length ≤ out'.length ∧ out'.length ≤ out.length + d := by
  intro d
  induction d with
  | zero =>
    intro out j h0 hd ho
    have hn : ¬ j < m := by omega
    refine ⟨1, out, fun k => ?_, by omega, by omega⟩
    simp only [spec_l01Text.l1]
    rw [if_neg hn]
  | succ d ih =>
    intro out j h0 hd ho
    by_cases c : j < m
    · obtain ⟨F, out', hF, l1, l2⟩ := ih (out ++ [x]) (j + 1) (by omega) (by omega) (by rw [List.length_append]; simp; omega)
      rw [List.length_append] at l1 l2
      simp only [List.length_cons, List.length_nil] at l1 l2
      have hl : out.length < 140737488355328 := by omega
      refine ⟨F + 1, out', fun k => ?_, by omega, by omega⟩
      rw [← hF k, ← Nat.add_assoc]
      simp only [spec_l01Text.l1]
      rw [if_pos c, if_pos hl, w64 (by omega) (by omega)]
    · refine ⟨1, out, fun k => ?_, by omega, by omega⟩
      simp only [spec_l01Text.l1]
      rw [if_neg c]
theorem text_l2 (b : List Int) (i h : Int) (n f g : Int) (hf : 0 ≤ f) (hf2 : f ≤ 2000) (hg : g ≤ 100) : ∀ (d : Nat) (out : List Int) (j : Int), 0 ≤ j → g - j ≤ (d : Int) → out.length + d ≤ 2000 → ∃ F out', (∀ k, spec_l01Text.l2 (k + F) n out f g j b i h = spec_l01Text.l0 k n out' b i h) ∧ out.length ≤ out'.length ∧ out'.length ≤ out.length + d := by
  intro d
  induction d with
  | zero =>
    intro out j h0 hd ho
    have hn : ¬ j < g := by omega
    refine ⟨1, out, fun k => ?_, by omega, by omega⟩
    simp only [spec_l01Text.l2]
    rw [if_neg hn]
  | succ d ih =>
    intro out j h0 hd ho
    by_cases c : j < g
    · have ew : wrap64 (f + j) = f + j := w64 (by omega) (by omega)
      by_cases c2 : f + j < (out.length : Int)
      · obtain ⟨F, out', hF, l1, l2⟩ := ih (out ++ [rd out (f + j)]) (j + 1) (by omega) (by omega) (by rw [List.length_append]; simp; omega)
        rw [List.length_append] at l1 l2
        simp only [List.length_cons, List.length_nil] at l1 l2
        have hl : out.length < 140737488355328 := by omega
        have hp : 0 ≤ f + j := by omega
        refine ⟨F + 1, out', fun k => ?_, by omega, by omega⟩
        rw [← hF k, ← Nat.add_assoc]
        simp only [spec_l01Text.l2]
        rw [if_pos c, ew, if_pos c2, if_pos hp, if_pos hl, w64 (n := j + 1) (by omega) (by omega)]
      · refine ⟨1, out, fun k => ?_, by omega, by omega⟩
        simp only [spec_l01Text.l2]
        rw [if_pos c, ew, if_neg c2]
    · refine ⟨1, out, fun k => ?_, by omega, by omega⟩
      simp only [spec_l01Text.l2]
      rw [if_neg c]
theorem text_round (b : List Int) (hb : b.length ≤ 140737488351232) (n : Int) (hn : n ≤ 1000) (i h : Int) (hi : St b i) (out : List Int) (ho : (out.length : Int) < n) :
    ∃ (c F : Nat) (out' : List Int) (i' h' : Int), 1 ≤ c ∧ c ≤ 6 ∧ Adv b i h i' h' c ∧ St b i' ∧ out.length ≤ out'.length ∧ (∀ k, spec_l01Text.l0 (k + F) n out b i h = spec_l01Text.l0 k n out' b i' h') ∧ (i = (b.length : Int) → 3 ≤ outB (stp h) % 5 → out.length < out'.length) := by
  obtain ⟨m, i1, h1, e1, r1, a1, w1⟩ := below_adv b hb i h 5 (by decide) (by decide) hi
  have s1 := adv_st a1 hi
  have hl : out.length < 140737488355328 := by omega
  by_cases c0 : m = 0
  · obtain ⟨x, i2, h2, e2, r2, a2, _⟩ := byte_adv b hb i1 h1 s1
    refine ⟨2, 1, out ++ [x % 256], i2, h2, by omega, by omega, adv_trans a1 a2 hi.2, adv_st a2 s1, by rw [List.length_append]; omega, fun k => ?_, fun _ _ => by rw [List.length_append]; simp⟩
    simp only [spec_l01Text.l0]
    rw [if_pos ho, e1]
    simp only [Option.bind_some]
    rw [if_pos c0, e2]
    simp only [Option.bind_some]
    rw [if_pos hl]
  by_cases c1 : m = 1
  · obtain ⟨x, i2, h2, e2, r2, a2, _⟩ := below_adv b hb i1 h1 9 (by decide) (by decide) s1
    obtain ⟨y, i3, h3, e3, r3, a3, _⟩ := below_adv b hb i2 h2 4 (by decide) (by decide) (adv_st a2 s1)
    obtain ⟨F, out', hF, l1, l2⟩ := text_l1 b i3 h3 n x ((wrap64 (97 + y)) % 256) (by omega) 9 out 0 (by decide) (by omega) (by omega)
    refine ⟨3, F + 1, out', i3, h3, by omega, by omega, adv_trans (adv_trans a1 a2 hi.2) a3 hi.2, adv_st a3 (adv_st a2 s1), l1, fun k => ?_, fun e h3 => by rw [← w1 e, c1] at h3; omega⟩
    rw [← hF k, ← Nat.add_assoc]
    simp only [spec_l01Text.l0]
    rw [if_pos ho, e1]
    simp only [Option.bind_some]
    rw [if_neg c0, if_pos c1, e2]
    simp only [Option.bind_some]
    rw [e3]
    simp only [Option.bind_some]
  by_cases c2 : m = 2
  · by_cases c3 : (out.length : Int) > 0
    · obtain ⟨x, i2, h2, c, e2, r2, q1, q2, a2⟩ := below_any b hb i1 h1 (out.length : Int) c3 (by omega) s1
      obtain ⟨y, i3, h3, e3, r3, a3, _⟩ := below_adv b hb i2 h2 20 (by decide) (by decide) (adv_st a2 s1)
      obtain ⟨F, out', hF, l1, l2⟩ := text_l2 b i3 h3 n x y r2.1 (by omega) (by omega) 20 out 0 (by decide) (by omega) (by omega)
      refine ⟨1 + c + 1, F + 1, out', i3, h3, by omega, by omega, adv_trans (adv_trans a1 a2 hi.2) a3 hi.2, adv_st a3 (adv_st a2 s1), l1, fun k => ?_, fun e h3 => by rw [← w1 e, c2] at h3; omega⟩
      rw [← hF k, ← Nat.add_assoc]
      simp only [spec_l01Text.l0]
      rw [if_pos ho, e1]
      simp only [Option.bind_some]
      rw [if_neg c0, if_neg c1, if_pos c2, if_pos c3, e2]
      simp only [Option.bind_some]
      rw [e3]
      simp only [Option.bind_some]
    · refine ⟨1, 1, out, i1, h1, by omega, by omega, a1, s1, Nat.le_refl _, fun k => ?_, fun e h3 => by rw [← w1 e, c2] at h3; omega⟩
      simp only [spec_l01Text.l0]
      rw [if_pos ho, e1]
      simp only [Option.bind_some]
      rw [if_neg c0, if_neg c1, if_pos c2, if_neg c3]
  · obtain ⟨x, i2, h2, e2, r2, a2, _⟩ := below_adv b hb i1 h1 26 (by decide) (by decide) s1
    refine ⟨2, 1, out ++ [(wrap64 (97 + x)) % 256], i2, h2, by omega, by omega, adv_trans a1 a2 hi.2, adv_st a2 s1, by rw [List.length_append]; omega, fun k => ?_, fun _ _ => by rw [List.length_append]; simp⟩
    simp only [spec_l01Text.l0]
    rw [if_pos ho, e1]
    simp only [Option.bind_some]
    rw [if_neg c0, if_neg c1, if_neg c2, e2]
    simp only [Option.bind_some]
    rw [if_pos hl]
/-- So many steps away from the window, or in it. -/
def Near (t : Nat) (h : Int) : Prop := itn t h = hS ∨ ∃ j, j ≤ 5 ∧ h = itn j hS
theorem text_ends (b : List Int) (hb : b.length ≤ 140737488351232) (n : Int) (h0 : 0 ≤ n) (hn : n ≤ 1000) : ∀ (a g t : Nat) (i h : Int) (out : List Int), St b i → (b.length : Int) - i ≤ (a : Int) → n - (out.length : Int) ≤ (g : Int) → (i = (b.length : Int) → Near t h) → ∃ k x i' h', spec_l01Text.l0 k n out b i h = some (x, i', h') ∧ (x.size : Int) = n ∧ St b i' := by
  intro a
  induction a using Nat.strongRecOn with
  | _ a iha =>
    intro g
    induction g using Nat.strongRecOn with
    | _ g ihg =>
      intro t
      induction t using Nat.strongRecOn with
      | _ t iht =>
        intro i h out hi ha hg hN
        by_cases ho : (out.length : Int) < n
        · obtain ⟨c, F, out', i', h', c1, c6, adv, s', hlen, hF, prog⟩ := text_round b hb n hn i h hi out ho
          obtain ⟨e1, p1, q1⟩ := adv
          have lift : (∃ k x i2 h2, spec_l01Text.l0 k n out' b i' h' = some (x, i2, h2) ∧ (x.size : Int) = n ∧ St b i2) → ∃ k x i2 h2, spec_l01Text.l0 k n out b i h = some (x, i2, h2) ∧ (x.size : Int) = n ∧ St b i2 := by
            rintro ⟨k, x, i2, h2, e, z⟩
            exact ⟨k + F, x, i2, h2, by rw [hF k]; exact e, z⟩
          apply lift
          obtain ⟨t', ht'⟩ := reach h'
          unfold St at hi s'
          by_cases hl : i = (b.length : Int)
          · have hi' : i' = (b.length : Int) := q1 (by omega)
            by_cases hg2 : out.length < out'.length
            · exact ihg (n - (out'.length : Int)).toNat (by omega) t' i' h' out' s' (by omega) (by omega) (fun _ => Or.inl ht')
            · have hnp : ¬ 3 ≤ outB (stp h) % 5 := fun h3 => hg2 (prog hl h3)
              rcases hN hl with hN | ⟨j, hj, hN⟩
              · by_cases hct : c ≤ t
                · by_cases ht0 : t = 0
                  · omega
                  · refine iht (t - c) (by omega) i' h' out' s' (by omega) (by omega) (fun _ => Or.inl ?_)
                    rw [e1, ← itn_add, show c + (t - c) = t by omega]
                    exact hN
                · by_cases ht0 : t = 0
                  · exfalso
                    apply hnp
                    have := window ⟨0, by omega⟩
                    rw [ht0] at hN
                    have h1 : h = hS := hN
                    rw [h1]
                    exact this
                  · refine iht 0 (by omega) i' h' out' s' (by omega) (by omega) (fun _ => Or.inr ⟨c - t, by omega, ?_⟩)
                    rw [e1, ← hN, ← itn_add, show t + (c - t) = c by omega]
              · exfalso
                apply hnp
                rw [hN]
                exact window ⟨j, by omega⟩
          · refine iha ((b.length : Int) - i').toNat ?_ (n - (out'.length : Int)).toNat t' i' h' out' s' (by omega) (by omega) (fun _ => Or.inl ht')
            by_cases c2 : i + (c : Int) ≤ (b.length : Int)
            · have := p1 c2
              omega
            · have := q1 (by omega)
              omega
        · refine ⟨1, strOfNums (out.take n.toNat), i, h, ?_, ?_, hi⟩
          · have hle : n ≤ (out.length : Int) := by omega
            simp only [spec_l01Text.l0]
            rw [if_neg ho, if_pos h0, if_pos hle]
          · rw [strOfNums_size, List.length_take]
            omega
theorem text_ok (b : List Int) (hb : b.length ≤ 140737488351232) (n : Int) (h0 : 0 ≤ n) (hn : n ≤ 1000) (i h : Int) (hi : St b i) : ∃ K x i' h', (∀ k, K ≤ k → spec_l01Text.f k b i h n = some (x, i', h')) ∧ (x.size : Int) = n ∧ St b i' := by
  obtain ⟨t, ht⟩ := reach h
  obtain ⟨K, x, i', h', e, z, s⟩ := text_ends b hb n h0 hn ((b.length : Int) - i).toNat n.toNat t i h [] hi (by omega) (by simp; omega) (fun _ => Or.inl ht)
  refine ⟨K, x, i', h', fun k hk => ?_, z, s⟩
  exact at_rounds (g := fun k => spec_l01Text.f k b i h n) (fun k => spec_l01Text.mono b i h n k) hk e

theorem num_ok (b : List Int) (hb : b.length ≤ 140737488351232) (i h : Int) (hi : St b i) : ∃ x i' h', spec_l01Num.f b i h = some (x, i', h') ∧ (-1 ≤ x ∧ x ≤ 9007199254740992) ∧ St b i' := by
  unfold spec_l01Num.f
  obtain ⟨x1, i1, h1, e1, r1, s1⟩ := below_ok b hb i h 100000 (by omega) hi
  rw [e1]
  simp only [Option.bind_some]
  obtain ⟨x2, i2, h2, e2, r2, s2⟩ := below_ok b hb i1 h1 1000 (by omega) s1
  rw [e2]
  simp only [Option.bind_some]
  obtain ⟨x3, i3, h3, e3, r3, s3⟩ := pickInt_ok b hb i2 h2 [0, 1, 7, 8, 255, 256, 4095, 65535, 65536, 2097151, 2097152, 4294967295, 4294967296, 9007199254740991, 9007199254740992, (-1), x1, x2] (by simp) (by simp) s2
  rw [e3]
  refine ⟨_, _, _, rfl, ?_, s3⟩
  have a1 := r1.2 (by omega)
  have a2 := r2.2 (by omega)
  simp only [List.mem_cons, List.not_mem_nil, or_false] at r3
  omega

theorem rdB_mem (l : List ByteArray) (j : Int) (h0 : 0 ≤ j) (h1 : j < (l.length : Int)) : rdOf ByteArray.empty l j ∈ l := by
  unfold rdOf
  rw [List.getD_eq_getElem?_getD, List.getElem?_eq_getElem (by omega)]
  exact List.getElem_mem _
theorem pick_ok (b : List Int) (hb : b.length ≤ 140737488351232) (i h : Int) (l : List ByteArray) (B : Nat) (hl : 0 < l.length) (hl2 : l.length ≤ 9223372036854775807) (hB : ∀ x ∈ l, x.size ≤ B) (hi : St b i) : ∃ x i' h', spec_l01Pick.f b i h l = some (x, i', h') ∧ x.size ≤ B ∧ St b i' := by
  obtain ⟨x, i', h', e, r, s⟩ := below_ok b hb i h (l.length : Int) (by omega) hi
  unfold spec_l01Pick.f
  rw [e]
  simp only [Option.bind_some]
  have := r.2 (by omega)
  rw [if_pos r.1, if_pos this]
  exact ⟨_, _, _, rfl, hB _ (rdB_mem l x r.1 this), s⟩

theorem once_ok (b : List Int) (hb : b.length ≤ 140737488351232) (i h n : Int) (hn : n ≤ 9223372036854775807) (hi : St b i) : ∃ (x : Bool) (i' h' : Int), spec_l01Once.f b i h n = some (x, i', h') ∧ St b i' := by
  obtain ⟨x, i', h', e, _, s⟩ := below_ok b hb i h n hn hi
  unfold spec_l01Once.f
  rw [e]
  exact ⟨_, _, _, rfl, s⟩

theorem in_eq (a b c : Int) : spec_l01In.f a b c = some (decide (b ≤ a ∧ a ≤ c)) := by
  unfold spec_l01In.f
  by_cases h : b ≤ a
  · rw [if_pos h]; simp [h]
  · rw [if_neg h]; simp [h]

theorem within_eq (a b c : Int) : impl_within.f a b c = some (decide (b ≤ a ∧ a ≤ c)) := by
  unfold impl_within.f
  by_cases h : b ≤ a
  · rw [if_pos h]; simp [h]
  · rw [if_neg h]; simp [h]

/-- What lacks up to a multiple. -/
def padM (n unit : Int) : Int := if (0 ≤ n ∧ n ≤ 9007199254740991) ∧ (1 ≤ unit ∧ unit ≤ 512) then (unit - n % unit) % unit else 0
theorem spec_pad (n unit : Int) : spec_Pad.f n unit = some (padM n unit) := by
  unfold spec_Pad.f padM
  rw [in_eq, in_eq]
  simp only [Option.bind_some]
  by_cases h1 : 0 ≤ n ∧ n ≤ 9007199254740991
  · by_cases h2 : 1 ≤ unit ∧ unit ≤ 512
    · have e : Int.tmod n unit = n % unit := Int.tmod_eq_emod_of_nonneg h1.1
      have hp : 0 ≤ n % unit ∧ n % unit < unit := ⟨Int.emod_nonneg _ (by omega), Int.emod_lt_of_pos _ (by omega)⟩
      rw [if_pos (by simpa using h1), if_pos (by simpa using h2), if_neg (show ¬ unit = 0 by omega), if_pos (show (0 ≤ n ∧ n ≤ 9007199254740991) ∧ 1 ≤ unit ∧ unit ≤ 512 from ⟨h1, h2⟩), e]
      by_cases h3 : n % unit = 0
      · rw [if_pos h3, h3]; simp
      · rw [if_neg h3, w64 (by omega) (by omega), Int.emod_eq_of_lt (a := unit - n % unit) (by omega) (by omega)]
    · rw [if_pos (by simpa using h1), if_neg (by simpa using h2), if_neg (fun h => h2 h.2)]
  · rw [if_neg (by simpa using h1), if_neg (fun h => h1 h.1)]
theorem impl_pad (n unit : Int) : impl_Pad.f n unit = some (padM n unit) := by
  unfold impl_Pad.f padM
  rw [within_eq, within_eq]
  simp only [Option.bind_some]
  by_cases h1 : 0 ≤ n ∧ n ≤ 9007199254740991
  · by_cases h2 : 1 ≤ unit ∧ unit ≤ 512
    · have e : Int.tmod n unit = n % unit := Int.tmod_eq_emod_of_nonneg h1.1
      have hp : 0 ≤ n % unit ∧ n % unit < unit := ⟨Int.emod_nonneg _ (by omega), Int.emod_lt_of_pos _ (by omega)⟩
      rw [if_pos (by simpa using h1), if_pos (by simpa using h2), if_neg (show ¬ unit = 0 by omega), if_pos (show (0 ≤ n ∧ n ≤ 9007199254740991) ∧ 1 ≤ unit ∧ unit ≤ 512 from ⟨h1, h2⟩), e, w64 (by omega) (by omega), Int.tmod_eq_emod_of_nonneg (by omega)]
    · rw [if_pos (by simpa using h1), if_neg (by simpa using h2), if_neg (fun h => h2 h.2)]
  · rw [if_neg (by simpa using h1), if_neg (fun h => h1 h.1)]

theorem nuls_loop (n : Int) (h1 : n ≤ 1048576) : ∀ (d k : Nat) (out : List Int), (out.length : Int) + d = n → d < k → spec_l01Nuls.l0 k n out (out.length : Int) = some (strOfNums (out ++ List.replicate d 0)) := by
  intro d
  induction d with
  | zero =>
    intro k out ho hk
    obtain ⟨k, rfl⟩ : ∃ m, k = m + 1 := ⟨k - 1, by omega⟩
    unfold spec_l01Nuls.l0
    rw [if_neg (by omega)]
    simp
  | succ d ih =>
    intro k out ho hk
    obtain ⟨k, rfl⟩ : ∃ m, k = m + 1 := ⟨k - 1, by omega⟩
    unfold spec_l01Nuls.l0
    have e := ih k (out ++ [0]) (by simp only [List.length_append, List.length_cons, List.length_nil]; omega) (by omega)
    rw [show (((out ++ [(0 : Int)]).length : Nat) : Int) = (out.length : Int) + 1 by simp] at e
    rw [if_pos (by omega), if_pos (by omega), w64 (by omega) (by omega), e]
    simp [List.replicate_succ]
theorem spec_nuls (n : Int) (h0 : 0 ≤ n) (h1 : n ≤ 1048576) (k : Nat) (hk : 1048577 < k) : ∃ r, spec_l01Nuls.f k n = some r ∧ r.toList = List.replicate n.toNat 0 := by
  have e := nuls_loop n h1 n.toNat k [] (by simp only [List.length_nil]; omega) (by omega)
  refine ⟨_, e, ?_⟩
  rw [tl_nums]
  simp

theorem repeat_one (c : UInt8) : ∀ n : Nat, Lib.repeatL [c] n = List.replicate n c
  | 0 => rfl
  | n + 1 => by
    simp only [Lib.repeatL, repeat_one c n, List.replicate_succ]
    rfl
theorem lib_repeat (c : UInt8) (n : Int) (h0 : 0 ≤ n) (h1 : n ≤ 1048576) : ∃ r, strings_Repeat.f (⟨#[c]⟩ : ByteArray) n = some r ∧ r.toList = List.replicate n.toNat c := by
  have hs : (⟨#[c]⟩ : ByteArray).size = 1 := rfl
  unfold strings_Repeat.f
  rw [if_pos ⟨h0, by omega, by rw [hs]; omega⟩]
  refine ⟨_, rfl, ?_⟩
  rw [tl_mk]
  exact repeat_one c _

def fillM (l : List UInt8) (n : Int) : List UInt8 := if n > 1024 ∨ n ≤ (l.length : Int) then l else l ++ List.replicate (n - (l.length : Int)).toNat 0
theorem spec_fill (s : ByteArray) (n : Int) (hs : s.size ≤ 1048576) (k : Nat) (hk : 1048577 < k) : ∃ r, spec_Fill.f k s n = some r ∧ r.toList = fillM s.toList n := by
  unfold spec_Fill.f fillM
  rw [tl_length]
  by_cases h1 : n > 1024
  · rw [if_pos h1, if_pos (Or.inl h1)]
    exact ⟨_, rfl, rfl⟩
  · rw [if_neg h1]
    by_cases h2 : n ≤ (s.size : Int)
    · rw [if_pos h2, if_pos (Or.inr h2)]
      exact ⟨_, rfl, rfl⟩
    · rw [if_neg h2, if_neg (fun h => h.elim h1 h2), w64 (by omega) (by omega)]
      obtain ⟨r, e, l⟩ := spec_nuls (n - (s.size : Int)) (by omega) (by omega) k hk
      have hr : r.size ≤ 1024 := by rw [← tl_length, l, List.length_replicate]; omega
      rw [e]
      simp only [Option.bind_some]
      rw [if_pos (by omega)]
      exact ⟨_, rfl, by rw [tl_append, l]⟩
theorem impl_fill (s : ByteArray) (n : Int) (hs : s.size ≤ 1048576) : ∃ r, impl_Fill.f s n = some r ∧ r.toList = fillM s.toList n := by
  unfold impl_Fill.f fillM impl_nuls.f
  rw [tl_length]
  by_cases h2 : (s.size : Int) > n
  · rw [if_pos h2, if_pos (Or.inr (by omega))]
    exact ⟨_, rfl, rfl⟩
  · rw [if_neg h2]
    by_cases h1 : n > 1024
    · rw [if_pos h1, if_pos (Or.inl h1)]
      exact ⟨_, rfl, rfl⟩
    · rw [if_neg h1, w64 (by omega) (by omega)]
      obtain ⟨r, e, l⟩ := lib_repeat 0 (n - (s.size : Int)) (by omega) (by omega)
      have hr : r.size ≤ 1024 := by rw [← tl_length, l, List.length_replicate]; omega
      rw [e]
      simp only [Option.bind_some]
      rw [if_pos (by omega)]
      refine ⟨_, rfl, ?_⟩
      rw [tl_append, l]
      by_cases h3 : n ≤ (s.size : Int)
      · rw [if_pos (Or.inr h3), show (n - (s.size : Int)).toNat = 0 by omega]
        simp
      · rw [if_neg (fun h => h.elim h1 h3)]

/-! ### A byte's first place, and the texts between its places -/
theorem bt_mid {s : ByteArray} {pre t : List UInt8} {b : UInt8} (h : s.toList = pre ++ b :: t) : bt s (pre.length : Int) = (b.toNat : Int) := by
  have hs : s.size = pre.length + (t.length + 1) := by rw [← tl_length, h]; simp
  rw [bt_get s pre.length (by omega)]
  congr 2
  simp [h]
theorem size_mid {s : ByteArray} {pre t : List UInt8} (h : s.toList = pre ++ t) : s.size = pre.length + t.length := by
  rw [← tl_length, h]; simp
theorem u8_eq {b : UInt8} {c : UInt8} : ((b.toNat : Int) = (c.toNat : Int)) ↔ b = c := by
  constructor
  · intro h
    exact UInt8.toNat_inj.1 (by omega)
  · rintro rfl
    rfl
theorem ext_mid {s : ByteArray} {pre p t : List UInt8} (h : s.toList = pre ++ (p ++ t)) : (s.extract pre.length (pre.length + p.length)).toList = p := by
  rw [tl_extract, h, ← List.append_assoc]
  rw [List.take_left' (by simp)]
  simp
theorem ext_end {s : ByteArray} {pre p : List UInt8} (h : s.toList = pre ++ p) : (s.extract pre.length s.size).toList = p := by
  rw [tl_extract, ← tl_length, h]
  rw [List.take_of_length_le (Nat.le_refl _)]
  simp
/-- A byte's first place: there is none, or the text falls in two there. -/
theorem index_span (c : UInt8) : ∀ l : List UInt8, (c ∉ l ∧ Lib.indexByte l c = -1) ∨ ∃ a b, l = a ++ c :: b ∧ c ∉ a ∧ Lib.indexByte l c = (a.length : Int)
  | [] => Or.inl ⟨by simp, rfl⟩
  | x :: l => by
    by_cases h : x = c
    · subst h
      exact Or.inr ⟨[], l, rfl, by simp, by simp [Lib.indexByte]⟩
    · rcases index_span c l with ⟨h1, h2⟩ | ⟨a, b, h1, h2, h3⟩
      · refine Or.inl ⟨?_, ?_⟩
        · simp only [List.mem_cons, not_or]
          exact ⟨fun e => h e.symm, h1⟩
        · simp [Lib.indexByte, h, h2]
      · refine Or.inr ⟨x :: a, b, by simp [h1], ?_, ?_⟩
        · simp only [List.mem_cons, not_or]
          exact ⟨fun e => h e.symm, h2⟩
        · simp only [Lib.indexByte]
          have h' : (x == c) = false := by simpa using h
          simp only [h', h3]
          simp
          try omega

theorem spec_cut_loop (s : ByteArray) (hs : s.size ≤ 1048576) : ∀ (t pre : List UInt8) (k : Nat), s.toList = pre ++ t → t.length < k → ∃ r, spec_Cut.l0 k s (pre.length : Int) = some r ∧ r.toList = pre ++ t.takeWhile (· != 0)
  | [], pre, k, h, hk => by
    obtain ⟨k, rfl⟩ : ∃ m, k = m + 1 := ⟨k - 1, by omega⟩
    have := size_mid h
    simp only [List.length_nil] at this
    unfold spec_Cut.l0
    rw [if_neg (by omega)]
    exact ⟨s, rfl, by simpa using h⟩
  | b :: t, pre, k, h, hk => by
    simp only [List.length_cons] at hk
    obtain ⟨k, rfl⟩ : ∃ m, k = m + 1 := ⟨k - 1, by omega⟩
    have := size_mid h
    simp only [List.length_cons] at this
    unfold spec_Cut.l0
    rw [if_pos (by omega), if_pos (by omega), bt_mid h]
    by_cases hb : b = 0
    · subst hb
      rw [if_pos (show (((0 : UInt8).toNat : Nat) : Int) = 0 from rfl), if_pos (by omega)]
      refine ⟨_, rfl, ?_⟩
      rw [tl_extract, h]
      simp
    · rw [if_neg (fun e : (b.toNat : Int) = 0 => hb (u8_eq.1 (show (b.toNat : Int) = ((0 : UInt8).toNat : Int) from e))), w64 (by omega) (by omega)]
      obtain ⟨r, h1, h2⟩ := spec_cut_loop s hs t (pre ++ [b]) k (by simp [h]) (by omega)
      refine ⟨r, ?_, ?_⟩
      · rw [← h1]
        simp
      · rw [h2, List.takeWhile_cons_of_pos (by simpa using hb)]
        simp
theorem take_none {c : UInt8} : ∀ {l : List UInt8}, c ∉ l → l.takeWhile (· != c) = l
  | [], _ => rfl
  | x :: l, h => by
    simp only [List.mem_cons, not_or] at h
    rw [List.takeWhile_cons_of_pos (by simpa using fun e => h.1 e.symm), take_none h.2]
theorem take_span {c : UInt8} {b : List UInt8} : ∀ {a : List UInt8}, c ∉ a → (a ++ c :: b).takeWhile (· != c) = a
  | [], _ => by simp
  | x :: a, h => by
    simp only [List.mem_cons, not_or] at h
    rw [List.cons_append, List.takeWhile_cons_of_pos (by simpa using fun e => h.1 e.symm), take_span h.2]
theorem spec_cut (s : ByteArray) (hs : s.size ≤ 1048576) (k : Nat) (hk : s.size < k) : ∃ r, spec_Cut.f k s = some r ∧ r.toList = s.toList.takeWhile (· != 0) :=
  spec_cut_loop s hs s.toList [] k rfl (by rw [tl_length]; exact hk)
theorem impl_cut (s : ByteArray) (hs : s.size ≤ 1048576) : ∃ r, impl_Cut.f s = some r ∧ r.toList = s.toList.takeWhile (· != 0) := by
  have e : stringslite_Index.f s (⟨#[0]⟩ : ByteArray) = some (Lib.indexByte s.toList 0) := by
    unfold stringslite_Index.f
    rw [if_pos (show (⟨#[0]⟩ : ByteArray).size = 1 from rfl), tl]
    rfl
  unfold impl_Cut.f strings_Cut.f stringslite_Cut.f
  rw [e]
  simp only [Option.bind_some]
  rcases index_span 0 s.toList with ⟨h1, h2⟩ | ⟨a, b, h1, h2, h3⟩
  · rw [h2, if_neg (by decide)]
    exact ⟨s, rfl, (take_none h1).symm⟩
  · have := size_mid h1
    simp only [List.length_cons] at this
    have e1 : ((⟨#[0]⟩ : ByteArray).size : Int) = 1 := rfl
    rw [h3, e1, w64 (by omega) (by omega), if_pos (by omega), if_pos (by omega), if_pos (by omega), if_pos (by omega), if_pos (by omega)]
    refine ⟨_, rfl, ?_⟩
    rw [tl_extract, h1, take_span h2]
    simp

theorem spec_sum_loop (s : ByteArray) (hs : s.size ≤ 140737488351232) : ∀ (d k : Nat) (acc i : Int), 0 ≤ i → (s.size : Int) - i = d → d < k → 0 ≤ acc → acc ≤ 255 * i → spec_SumOf.l0 k s acc i = some (acc + sumB (s.toList.drop i.toNat)) := by
  intro d
  induction d with
  | zero =>
    intro k acc i h0 hd hk ha hb
    obtain ⟨k, rfl⟩ : ∃ m, k = m + 1 := ⟨k - 1, by omega⟩
    simp only [spec_SumOf.l0]
    rw [if_neg (by omega), List.drop_eq_nil_of_le (by rw [tl_length]; omega)]
    simp [sumB]
  | succ d ih =>
    intro k acc i h0 hd hk ha hb
    obtain ⟨k, rfl⟩ : ∃ m, k = m + 1 := ⟨k - 1, by omega⟩
    simp only [spec_SumOf.l0]
    obtain ⟨b, e, hbt⟩ := bt_step s i h0 (by omega)
    have hlt := b.toNat_lt
    rw [if_pos (by omega), if_pos h0, hbt, w64 (n := (b.toNat : Int)) (by omega) (by omega), w64 (by omega) (by omega), w64 (by omega) (by omega)]
    rw [ih k _ _ (by omega) (by omega) (by omega) (by omega) (by omega), e]
    simp only [sumB]
    congr 1
    omega
theorem impl_sum_loop (s : ByteArray) (hs : s.size ≤ 140737488351232) : ∀ (d k : Nat) (acc i : Int), 0 ≤ i → (s.size : Int) - i = d → d < k → 0 ≤ acc → acc ≤ 255 * i → impl_SumOf.l0 k s acc (s.size : Int) i = some (acc + sumB (s.toList.drop i.toNat)) := by
  intro d
  induction d with
  | zero =>
    intro k acc i h0 hd hk ha hb
    obtain ⟨k, rfl⟩ : ∃ m, k = m + 1 := ⟨k - 1, by omega⟩
    simp only [impl_SumOf.l0]
    rw [if_neg (by omega), List.drop_eq_nil_of_le (by rw [tl_length]; omega)]
    simp [sumB]
  | succ d ih =>
    intro k acc i h0 hd hk ha hb
    obtain ⟨k, rfl⟩ : ∃ m, k = m + 1 := ⟨k - 1, by omega⟩
    simp only [impl_SumOf.l0]
    obtain ⟨b, e, hbt⟩ := bt_step s i h0 (by omega)
    have hlt := b.toNat_lt
    rw [if_pos (by omega), if_pos h0, if_pos (by omega), hbt, w64 (n := (b.toNat : Int)) (by omega) (by omega), w64 (by omega) (by omega), w64 (by omega) (by omega)]
    rw [ih k _ _ (by omega) (by omega) (by omega) (by omega) (by omega), e]
    simp only [sumB]
    congr 1
    omega
theorem spec_sum (s : ByteArray) (hs : s.size ≤ 140737488351232) (k : Nat) (hk : s.size < k) : spec_SumOf.f k s = some (sumB s.toList) := by
  unfold spec_SumOf.f
  rw [spec_sum_loop s hs s.size k 0 0 (by omega) (by omega) hk (by omega) (by omega)]
  simp
theorem impl_sum (s : ByteArray) (hs : s.size ≤ 140737488351232) (k : Nat) (hk : s.size < k) : impl_SumOf.f k s = some (sumB s.toList) := by
  unfold impl_SumOf.f
  rw [impl_sum_loop s hs s.size k 0 0 (by omega) (by omega) hk (by omega) (by omega)]
  simp

/-! ### The decimal text -/
def decZ (u : Nat) : List UInt8 := if u = 0 then [] else Lib.decDigits u
theorem decZ_step (u : Nat) (h : 0 < u) : decZ u = decZ (u / 10) ++ [UInt8.ofNat (48 + u % 10)] := by
  unfold decZ
  rw [if_neg (by omega), Lib.decDigits]
  by_cases c : u < 10
  · rw [dif_pos c, if_pos (by omega), Nat.mod_eq_of_lt c]
    rfl
  · rw [dif_neg c, if_neg (by omega)]
theorem digit_at (d : Nat) (h : d < 10) : ((⟨#[48, 49, 50, 51, 52, 53, 54, 55, 56, 57]⟩ : ByteArray).extract d (d + 1)).toList = [UInt8.ofNat (48 + d)] := by
  rw [tl_extract, tl]
  have : d = 0 ∨ d = 1 ∨ d = 2 ∨ d = 3 ∨ d = 4 ∨ d = 5 ∨ d = 6 ∨ d = 7 ∨ d = 8 ∨ d = 9 := by omega
  rcases this with rfl | rfl | rfl | rfl | rfl | rfl | rfl | rfl | rfl | rfl <;> rfl
theorem tmod_pos (u : Nat) : Int.tmod (u : Int) 10 = ((u % 10 : Nat) : Int) := by
  rw [Int.tmod_eq_emod_of_nonneg (by omega)]
  omega
theorem tdiv_pos (u : Nat) : Int.tdiv (u : Int) 10 = ((u / 10 : Nat) : Int) := by
  rw [Int.tdiv_eq_ediv_of_nonneg (by omega)]
  omega
theorem tmod_neg (u : Nat) : Int.tmod (-(u : Int)) 10 = -((u % 10 : Nat) : Int) := by
  rw [Int.neg_tmod, tmod_pos]
theorem tdiv_neg (u : Nat) : Int.tdiv (-(u : Int)) 10 = -((u / 10 : Nat) : Int) := by
  rw [Int.neg_tdiv, tdiv_pos]
def signM (n : Int) : List UInt8 := if n < 0 then [45] else []
theorem spec_dec_loop (n : Int) : ∀ (j u k : Nat) (x : Int) (acc : ByteArray), j ≤ 19 → u < 10 ^ j → u ≤ 9223372036854775808 → (x = (u : Int) ∧ u ≤ 9223372036854775807 ∨ x = -(u : Int)) → j < k → acc.size + j ≤ 1000 →
    ∃ r, spec_DecText.l0 k n acc x = some r ∧ r.toList = signM n ++ (decZ u ++ acc.toList) := by
  intro j
  induction j with
  | zero =>
    intro u k x acc hj hu hb hx hk ha
    obtain ⟨k, rfl⟩ : ∃ m, k = m + 1 := ⟨k - 1, by omega⟩
    have hu0 : u = 0 := by simpa using hu
    subst hu0
    have hx0 : x = 0 := by omega
    unfold spec_DecText.l0
    rw [if_pos hx0]
    by_cases hn : n < 0
    · rw [if_pos hn, if_pos (by omega)]
      refine ⟨_, rfl, ?_⟩
      rw [tl_append, tl]
      simp [signM, hn, decZ]
    · rw [if_neg hn]
      exact ⟨_, rfl, by simp [signM, hn, decZ]⟩
  | succ j ih =>
    intro u k x acc hj hu hb hx hk ha
    obtain ⟨k, rfl⟩ : ∃ m, k = m + 1 := ⟨k - 1, by omega⟩
    by_cases h0 : u = 0
    · have hx0 : x = 0 := by omega
      subst h0
      unfold spec_DecText.l0
      rw [if_pos hx0]
      by_cases hn : n < 0
      · rw [if_pos hn, if_pos (by omega)]
        refine ⟨_, rfl, ?_⟩
        rw [tl_append, tl]
        simp [signM, hn, decZ]
      · rw [if_neg hn]
        exact ⟨_, rfl, by simp [signM, hn, decZ]⟩
    · have hm : u % 10 < 10 := Nat.mod_lt _ (by decide)
      have hd := digit_at (u % 10) hm
      have hs : ((⟨#[48, 49, 50, 51, 52, 53, 54, 55, 56, 57]⟩ : ByteArray).extract (u % 10) (u % 10 + 1)).size = 1 := by rw [← tl_length, hd]; rfl
      have hq : u / 10 < 10 ^ j := by rw [Nat.pow_succ] at hu; omega
      have next : ∀ y : Int, (y = ((u / 10 : Nat) : Int) ∧ u / 10 ≤ 9223372036854775807 ∨ y = -((u / 10 : Nat) : Int)) → ∃ r, spec_DecText.l0 k n (((⟨#[48, 49, 50, 51, 52, 53, 54, 55, 56, 57]⟩ : ByteArray).extract (u % 10) (u % 10 + 1)) ++ acc) y = some r ∧ r.toList = signM n ++ (decZ u ++ acc.toList) := by
        intro y hy
        obtain ⟨r, e, l⟩ := ih (u / 10) k y (((⟨#[48, 49, 50, 51, 52, 53, 54, 55, 56, 57]⟩ : ByteArray).extract (u % 10) (u % 10 + 1)) ++ acc) (by omega) hq (by omega) hy (by omega) (by rw [ByteArray.size_append, hs]; omega)
        refine ⟨r, e, ?_⟩
        rw [l, tl_append, hd, decZ_step u (by omega)]
        simp
      unfold spec_DecText.l0
      rw [if_neg (by omega)]
      rcases hx with ⟨hx, hb2⟩ | hx
      · have t1 : Int.tmod x 10 = ((u % 10 : Nat) : Int) := by rw [hx, tmod_pos]
        have t2 : Int.tdiv x 10 = ((u / 10 : Nat) : Int) := by rw [hx, tdiv_pos]
        rw [t1, t2, w64 (n := ((u % 10 : Nat) : Int) + 1) (by omega) (by omega), w64 (n := ((u / 10 : Nat) : Int)) (by omega) (by omega)]
        rw [show (((u % 10 : Nat) : Int) + 1).toNat = u % 10 + 1 by omega, Int.toNat_natCast]
        rw [if_neg (by omega), if_pos (by omega), if_pos (by omega), if_pos (by omega), if_pos (by rw [hs]; omega)]
        exact next _ (Or.inl ⟨rfl, by omega⟩)
      · have t1 : Int.tmod x 10 = -((u % 10 : Nat) : Int) := by rw [hx, tmod_neg]
        have t2 : Int.tdiv x 10 = -((u / 10 : Nat) : Int) := by rw [hx, tdiv_neg]
        rw [t1, t2, w64 (n := -((u / 10 : Nat) : Int)) (by omega) (by omega)]
        by_cases hz : u % 10 = 0
        · rw [hz] at hs next ⊢
          have e3 : wrap64 (-((0 : Nat) : Int) + 1) = 1 := by rw [w64 (by decide) (by decide)]; rfl
          have e1 : (-((0 : Nat) : Int)).toNat = 0 := rfl
          have e2 : (1 : Int).toNat = 0 + 1 := rfl
          rw [e3, if_neg (by decide), if_pos (by decide), if_pos (by decide), if_pos (by decide), e1, e2, if_pos (by rw [hs]; omega)]
          exact next _ (Or.inr rfl)
        · rw [if_pos (by omega), w64 (n := - -((u % 10 : Nat) : Int)) (by omega) (by omega), w64 (n := - -((u % 10 : Nat) : Int) + 1) (by omega) (by omega)]
          rw [show (- -((u % 10 : Nat) : Int) + 1).toNat = u % 10 + 1 by omega, show (- -((u % 10 : Nat) : Int)).toNat = u % 10 by omega]
          rw [if_pos (by omega), if_pos (by omega), if_pos (by omega), if_pos (by rw [hs]; omega)]
          exact next _ (Or.inr rfl)
theorem spec_dec (n : Int) (h0 : -9223372036854775808 ≤ n) (h1 : n ≤ 9223372036854775807) (k : Nat) (hk : 19 < k) : ∃ r, spec_DecText.f k n = some r ∧ r.toList = Lib.itoa n := by
  unfold spec_DecText.f Lib.itoa
  by_cases hz : n = 0
  · rw [if_pos hz, hz]
    refine ⟨_, rfl, ?_⟩
    rw [tl, if_neg (by decide), Lib.decDigits]
    rfl
  · rw [if_neg hz]
    obtain ⟨r, e, l⟩ := spec_dec_loop n 19 n.natAbs k n (⟨#[]⟩ : ByteArray) (by decide) (by omega) (by omega) (by omega) hk (by decide)
    refine ⟨r, e, ?_⟩
    have hn : (⟨#[]⟩ : ByteArray).toList = [] := by rw [tl]
    have hd : decZ n.natAbs = Lib.decDigits n.natAbs := by
      unfold decZ
      rw [if_neg (by omega)]
    rw [l, hn, List.append_nil, hd]
    unfold signM
    by_cases c : n < 0
    · rw [if_pos c, if_pos c]
      rfl
    · rw [if_neg c, if_neg c, show n.natAbs = n.toNat by omega]
      rfl
theorem impl_dec (n : Int) (h0 : -9223372036854775808 ≤ n) (h1 : n ≤ 9223372036854775807) : ∃ r, impl_DecText.f n = some r ∧ r.toList = Lib.itoa n := by
  unfold impl_DecText.f strconv_Itoa.f
  rw [if_pos ⟨h0, h1⟩]
  exact ⟨_, rfl, tl_mk _⟩

/-! ### The digits of a number in a base -/
def hexD (d : Nat) : UInt8 := ([48, 49, 50, 51, 52, 53, 54, 55, 56, 57, 97, 98, 99, 100, 101, 102] : List UInt8).getD d 0
def digB (b : Nat) (u : Nat) : List UInt8 := if h : u = 0 ∨ b ≤ 1 then [] else digB b (u / b) ++ [hexD (u % b)]
termination_by u
decreasing_by exact Nat.div_lt_self (by omega) (by omega)
theorem digB_zero (b : Nat) : digB b 0 = [] := by rw [digB, dif_pos (Or.inl rfl)]
theorem digB_step (b u : Nat) (hb : 2 ≤ b) (h : 0 < u) : digB b u = digB b (u / b) ++ [hexD (u % b)] := by
  rw [digB, dif_neg (by omega)]
def numB (b u : Nat) : List UInt8 := if u = 0 then [48] else digB b u
theorem hexD_dec (d : Nat) (h : d < 10) : hexD d = UInt8.ofNat (48 + d) := by
  have : d = 0 ∨ d = 1 ∨ d = 2 ∨ d = 3 ∨ d = 4 ∨ d = 5 ∨ d = 6 ∨ d = 7 ∨ d = 8 ∨ d = 9 := by omega
  rcases this with rfl | rfl | rfl | rfl | rfl | rfl | rfl | rfl | rfl | rfl <;> rfl

theorem rev_ind {P : List UInt8 → Prop} (h0 : P []) (h1 : ∀ l c, P l → P (l ++ [c])) (l : List UInt8) : P l := by
  have h : ∀ m : List UInt8, P m.reverse := fun m => by
    induction m with
    | nil => exact h0
    | cons c m ih =>
      rw [List.reverse_cons]
      exact h1 _ _ ih
  have := h l.reverse
  rwa [List.reverse_reverse] at this

/-! ### Digits in a field of a width, and their value -/
def padB (b : Nat) : Nat → Nat → List UInt8
  | 0, _ => []
  | w + 1, n => padB b w (n / b) ++ [hexD (n % b)]
/-- What a byte is worth as a digit; -1 where it is none. -/
def dvI (c : UInt8) : Int := if 48 ≤ c.toNat ∧ c.toNat ≤ 57 then (c.toNat : Int) - 48 else if 97 ≤ c.toNat ∧ c.toNat ≤ 102 then (c.toNat : Int) - 87 else -1
def digOk (b : Nat) (c : UInt8) : Bool := decide (0 ≤ dvI c) && decide (dvI c < (b : Int))
def valM (b : Nat) : Nat → List UInt8 → Nat
  | acc, [] => acc
  | acc, c :: t => valM b (acc * b + (dvI c).toNat) t
theorem dv_hex (d : Nat) (h : d < 16) : dvI (hexD d) = (d : Int) := by
  have : d = 0 ∨ d = 1 ∨ d = 2 ∨ d = 3 ∨ d = 4 ∨ d = 5 ∨ d = 6 ∨ d = 7 ∨ d = 8 ∨ d = 9 ∨ d = 10 ∨ d = 11 ∨ d = 12 ∨ d = 13 ∨ d = 14 ∨ d = 15 := by omega
  rcases this with rfl | rfl | rfl | rfl | rfl | rfl | rfl | rfl | rfl | rfl | rfl | rfl | rfl | rfl | rfl | rfl <;> decide
theorem dv_lt (c : UInt8) : dvI c < 16 := by
  unfold dvI
  split
  · omega
  · split <;> omega
theorem hex_dv_fin : ∀ n : Fin 256, 0 ≤ dvI (UInt8.ofNat n.val) → hexD (dvI (UInt8.ofNat n.val)).toNat = UInt8.ofNat n.val := by decide +kernel
theorem hex_dv (c : UInt8) (h : 0 ≤ dvI c) : hexD (dvI c).toNat = c := by
  have := hex_dv_fin ⟨c.toNat, c.toNat_lt⟩
  simp only [UInt8.ofNat_toNat] at this
  exact this h
theorem padB_length (b : Nat) : ∀ w n, (padB b w n).length = w
  | 0, n => rfl
  | w + 1, n => by simp [padB, padB_length b w]
theorem valM_append (b : Nat) : ∀ (l1 l2 : List UInt8) (acc : Nat), valM b acc (l1 ++ l2) = valM b (valM b acc l1) l2
  | [], l2, acc => rfl
  | c :: l1, l2, acc => by simp only [List.cons_append, valM]; exact valM_append b l1 l2 _
theorem valM_padB (b : Nat) (hb : 2 ≤ b) (hb2 : b ≤ 16) : ∀ w n, n < b ^ w → valM b 0 (padB b w n) = n
  | 0, n, h => by
    have : n = 0 := by simpa using h
    subst this
    rfl
  | w + 1, n, h => by
    have hm : n % b < b := Nat.mod_lt _ (by omega)
    have hq : n / b < b ^ w := Nat.div_lt_of_lt_mul (by rw [Nat.mul_comm, ← Nat.pow_succ]; exact h)
    rw [padB, valM_append, valM_padB b hb hb2 w _ hq]
    simp only [valM]
    rw [dv_hex _ (by omega), Int.toNat_natCast, Nat.mul_comm]
    exact Nat.div_add_mod n b
theorem padB_ok (b : Nat) (hb : 2 ≤ b) (hb2 : b ≤ 16) : ∀ w n, ∀ c ∈ padB b w n, digOk b c = true
  | 0, n, c, h => by simp [padB] at h
  | w + 1, n, c, h => by
    rw [padB, List.mem_append, List.mem_singleton] at h
    rcases h with h | h
    · exact padB_ok b hb hb2 w _ c h
    · have hm : n % b < b := Nat.mod_lt _ (by omega)
      rw [h]
      unfold digOk
      rw [dv_hex _ (by omega), decide_eq_true (by omega), decide_eq_true (by omega)]
      rfl
theorem padB_valM (b : Nat) (hb : 2 ≤ b) : ∀ l : List UInt8, (∀ c ∈ l, digOk b c = true) → padB b l.length (valM b 0 l) = l ∧ valM b 0 l < b ^ l.length := by
  intro l
  induction l using rev_ind with
  | h0 => intro _; exact ⟨rfl, by simp [valM]⟩
  | h1 l c ih =>
    intro h
    obtain ⟨h1, h2⟩ := ih (fun x hx => h x (List.mem_append_left _ hx))
    have hc := h c (by simp)
    unfold digOk at hc
    simp only [Bool.and_eq_true, decide_eq_true_eq] at hc
    have hd : (dvI c).toNat < b := by omega
    have e1 : (valM b 0 l * b + (dvI c).toNat) / b = valM b 0 l := by
      rw [Nat.mul_comm, Nat.mul_add_div (by omega), Nat.div_eq_of_lt hd, Nat.add_zero]
    have e2 : (valM b 0 l * b + (dvI c).toNat) % b = (dvI c).toNat := by
      rw [Nat.mul_comm, Nat.mul_add_mod, Nat.mod_eq_of_lt hd]
    rw [valM_append]
    simp only [valM, List.length_append, List.length_cons, List.length_nil, padB, e1, e2]
    rw [h1, hex_dv c hc.1]
    refine ⟨rfl, ?_⟩
    rw [Nat.pow_succ]
    have : (valM b 0 l + 1) * b ≤ b ^ l.length * b := Nat.mul_le_mul_right _ h2
    rw [Nat.add_mul, Nat.one_mul] at this
    omega
theorem padB_zero (b : Nat) : ∀ w, padB b w 0 = List.replicate w 48
  | 0 => rfl
  | w + 1 => by
    rw [padB, Nat.zero_div, Nat.zero_mod, padB_zero b w, List.replicate_succ']
    rfl
theorem numB_less (b n : Nat) (hb : 2 ≤ b) (h : n < b) : numB b n = [hexD n] := by
  unfold numB
  by_cases h0 : n = 0
  · rw [if_pos h0, h0]
    rfl
  · rw [if_neg h0, digB_step b n hb (by omega), Nat.div_eq_of_lt h, digB_zero, Nat.mod_eq_of_lt h]
    rfl
theorem numB_more (b n : Nat) (hb : 2 ≤ b) (h : ¬ n < b) : numB b n = numB b (n / b) ++ [hexD (n % b)] := by
  have hq : 0 < n / b := Nat.div_pos (by omega) (by omega)
  unfold numB
  rw [if_neg (by omega), if_neg (by omega), digB_step b n hb (by omega)]
/-- The number with zeros ahead of it is the field. -/
theorem numB_pad (b : Nat) (hb : 2 ≤ b) : ∀ w n, (n < b ^ (w + 1) → (numB b n).length ≤ w + 1 ∧ List.replicate (w + 1 - (numB b n).length) 48 ++ numB b n = padB b (w + 1) n) ∧ (¬ n < b ^ (w + 1) → w + 1 < (numB b n).length)
  | 0, n => by
    rw [Nat.zero_add, Nat.pow_one]
    refine ⟨fun h => ?_, fun h => ?_⟩
    · rw [numB_less b n hb h]
      exact ⟨Nat.le_refl _, by simp [padB, Nat.mod_eq_of_lt h]⟩
    · rw [numB_more b n hb h, List.length_append]
      have : 0 < (numB b (n / b)).length := by
        by_cases c : n / b < b
        · rw [numB_less b _ hb c]; simp
        · rw [numB_more b _ hb c]; simp
      simp only [List.length_cons, List.length_nil]
      omega
  | w + 1, n => by
    obtain ⟨i1, i2⟩ := numB_pad b hb w (n / b)
    have hdiv : n / b < b ^ (w + 1) ↔ n < b ^ (w + 1 + 1) := by
      rw [Nat.div_lt_iff_lt_mul (by omega), ← Nat.pow_succ]
    by_cases c : n < b
    · have hlt : n < b ^ (w + 1 + 1) := Nat.lt_of_lt_of_le c (by
        have : b ^ 1 ≤ b ^ (w + 1 + 1) := Nat.pow_le_pow_right (by omega) (by omega)
        rwa [Nat.pow_one] at this)
      refine ⟨fun _ => ?_, fun h => absurd hlt h⟩
      rw [numB_less b n hb c, padB, Nat.div_eq_of_lt c, padB_zero, Nat.mod_eq_of_lt c]
      exact ⟨by simp, by simp⟩
    · rw [numB_more b n hb c]
      refine ⟨fun h => ?_, fun h => ?_⟩
      · obtain ⟨j1, j2⟩ := i1 (hdiv.2 h)
        rw [padB, ← j2, List.length_append]
        simp only [List.length_cons, List.length_nil]
        refine ⟨by omega, ?_⟩
        rw [show w + 1 + 1 - ((numB b (n / b)).length + (0 + 1)) = w + 1 - (numB b (n / b)).length by omega, List.append_assoc]
      · have := i2 (fun h2 => h (hdiv.1 h2))
        rw [List.length_append]
        simp only [List.length_cons, List.length_nil]
        omega
/-- A number in a field of so many bytes, zeros ahead of it. -/
def putB (b : Nat) (n w : Int) : List UInt8 × Bool := if ((0 ≤ n ∧ n ≤ 9007199254740991) ∧ (1 ≤ w ∧ w ≤ 20)) ∧ n.toNat < b ^ w.toNat then (padB b w.toNat n.toNat, true) else ([], false)
/-- The digits' value, of so many digits at most. -/
def getB (b lo hi : Nat) (l : List UInt8) : Int × Bool := if (lo ≤ l.length ∧ l.length ≤ hi) ∧ (∀ c ∈ l, digOk b c = true) ∧ valM b 0 l ≤ 9007199254740991 then ((valM b 0 l : Int), true) else (0, false)
theorem get_put (b : Nat) (hb : 2 ≤ b) (hb2 : b ≤ 16) (n w : Int) (lo hi : Nat) (h : (putB b n w).2 = true) (hlo : (lo : Int) ≤ w) (hhi : w ≤ (hi : Int)) : getB b lo hi (putB b n w).1 = (n, true) ∧ ((putB b n w).1.length : Int) = w := by
  unfold putB at h ⊢
  by_cases c : ((0 ≤ n ∧ n ≤ 9007199254740991) ∧ (1 ≤ w ∧ w ≤ 20)) ∧ n.toNat < b ^ w.toNat
  · rw [if_pos c]
    obtain ⟨⟨c1, c2⟩, c3⟩ := c
    have hv := valM_padB b hb hb2 w.toNat n.toNat c3
    have hl := padB_length b w.toNat n.toNat
    refine ⟨?_, by rw [hl]; omega⟩
    unfold getB
    rw [if_pos ⟨by rw [hl]; omega, padB_ok b hb hb2 _ _, by rw [hv]; omega⟩, hv]
    congr 1
    omega
  · rw [if_neg c] at h
    cases h
theorem put_get (b : Nat) (hb : 2 ≤ b) (l : List UInt8) (lo hi : Nat) (hlo : 1 ≤ lo) (hhi : hi ≤ 20) (h : (getB b lo hi l).2 = true) : putB b (getB b lo hi l).1 (l.length : Int) = (l, true) := by
  unfold getB at h ⊢
  by_cases c : (lo ≤ l.length ∧ l.length ≤ hi) ∧ (∀ c ∈ l, digOk b c = true) ∧ valM b 0 l ≤ 9007199254740991
  · rw [if_pos c]
    obtain ⟨c1, c2, c3⟩ := c
    obtain ⟨h1, h2⟩ := padB_valM b hb l c2
    unfold putB
    simp only [Int.toNat_natCast]
    rw [if_pos ⟨⟨by omega, by omega⟩, h2⟩, h1]
  · rw [if_neg c] at h
    cases h

theorem valM_ge (b : Nat) (hb : 1 ≤ b) : ∀ (t : List UInt8) (acc : Nat), acc ≤ valM b acc t
  | [], acc => Nat.le_refl _
  | c :: t, acc => by
    simp only [valM]
    have h1 := valM_ge b hb t (acc * b + (dvI c).toNat)
    have h2 : acc * 1 ≤ acc * b := Nat.mul_le_mul_left _ hb
    omega
/-- The value of digits, or -1. -/
def valR (b acc : Nat) (l : List UInt8) : Int := if (∀ c ∈ l, digOk b c = true) ∧ valM b acc l ≤ 9007199254740991 then (valM b acc l : Int) else -1
theorem valR_bad (b acc : Nat) (c : UInt8) (t : List UInt8) (h : digOk b c = false) : valR b acc (c :: t) = -1 := by
  unfold valR
  rw [if_neg]
  intro h2
  have := h2.1 c (by simp)
  rw [h] at this
  cases this
theorem valR_over (b acc : Nat) (hb : 1 ≤ b) (c : UInt8) (t : List UInt8) (h : 9007199254740991 < acc * b + (dvI c).toNat) : valR b acc (c :: t) = -1 := by
  unfold valR
  rw [if_neg]
  intro h2
  have h3 := h2.2
  simp only [valM] at h3
  have := valM_ge b hb t (acc * b + (dvI c).toNat)
  omega
theorem valR_step (b acc : Nat) (c : UInt8) (t : List UInt8) (h : digOk b c = true) : valR b acc (c :: t) = valR b (acc * b + (dvI c).toNat) t := by
  unfold valR
  simp only [valM, List.mem_cons, forall_eq_or_imp, h, true_and]
theorem value_tail (s : ByteArray) (b : Nat) (hb : 2 ≤ b) (hb2 : b ≤ 16) (k acc D : Nat) (i : Int) (c : UInt8) (t : List UInt8) (hD : dvI c = (D : Int)) (hacc : acc ≤ 9007199254740991)
    (ih : acc * b + D ≤ 9007199254740991 → spec_l01Value.l0 k s (b : Int) ((acc * b + D : Nat) : Int) (wrap64 (i + 1)) = some (valR b (acc * b + D) t)) :
    (if (D : Int) < 0 then some (-1) else (if (D : Int) ≥ (b : Int) then some (-1) else (if (b : Int) = 0 then none else (if (acc : Int) > (wrap64 (Int.tdiv (wrap64 (9007199254740991 - (D : Int))) (b : Int))) then some (-1) else (spec_l01Value.l0 k s (b : Int) (wrap64 ((wrap64 ((acc : Int) * (b : Int))) + (D : Int))) (wrap64 (i + 1)))))) : Option Int) = some (valR b acc (c :: t)) := by
  have hlt : D < 16 := by
    have := dv_lt c
    omega
  have h1 : ¬ (D : Int) < 0 := by omega
  rw [if_neg h1]
  by_cases h2 : (D : Int) ≥ (b : Int)
  · rw [if_pos h2, valR_bad]
    unfold digOk
    rw [hD, decide_eq_false (show ¬ (D : Int) < (b : Int) by omega), Bool.and_false]
  · have hok : digOk b c = true := by
      unfold digOk
      rw [hD, decide_eq_true (by omega), decide_eq_true (by omega)]
      rfl
    have h3 : ¬ (b : Int) = 0 := by omega
    obtain ⟨R, hR⟩ : ∃ R : Nat, R + D = 9007199254740991 := ⟨9007199254740991 - D, by omega⟩
    have e1 : wrap64 (9007199254740991 - (D : Int)) = (R : Int) := by rw [w64 (by omega) (by omega)]; omega
    have e2 : Int.tdiv (R : Int) (b : Int) = ((R / b : Nat) : Int) := by
      rw [Int.tdiv_eq_ediv_of_nonneg (by omega), Int.natCast_ediv]
    have hle : R / b ≤ R := Nat.div_le_self _ _
    have hdiv : R / b < acc ↔ R < acc * b := Nat.div_lt_iff_lt_mul (by omega)
    have hdv : (dvI c).toNat = D := by omega
    have hov : 9007199254740991 < acc * b + D → valR b acc (c :: t) = -1 := fun h => valR_over b acc (by omega) c t (by rw [hdv]; exact h)
    have hst : valR b acc (c :: t) = valR b (acc * b + D) t := by rw [valR_step b acc c t hok, hdv]
    have e3 : (acc : Int) * (b : Int) = ((acc * b : Nat) : Int) := (Int.natCast_mul acc b).symm
    rw [if_neg h2, if_neg h3, e1, e2, e3]
    clear e1 e2 e3
    generalize R / b = Q at hle hdiv ⊢
    generalize acc * b = P at hdiv hov hst ih ⊢
    have e5 : wrap64 (Q : Int) = (Q : Int) := w64 (by clear hov hst ih; omega) (by clear hov hst ih; omega)
    rw [e5]
    clear e5
    by_cases h4 : (acc : Int) > (Q : Int)
    · have h6 : Q < acc := by clear hov hst ih; omega
      have h5 := hdiv.1 h6
      have h7 : 9007199254740991 < P + D := by clear hov hst ih; omega
      rw [if_pos h4, hov h7]
    · have h5 : ¬ R < P := fun h => h4 (by have := hdiv.2 h; clear hov hst ih; omega)
      have e6 : wrap64 (P : Int) = (P : Int) := w64 (by clear hov hst ih; omega) (by clear hov hst ih; omega)
      have e4 : wrap64 ((P : Int) + (D : Int)) = ((P + D : Nat) : Int) := by
        clear e6
        rw [w64 (by clear hov hst ih; omega) (by clear hov hst ih; omega)]
        clear hov hst ih
        omega
      have h7 : P + D ≤ 9007199254740991 := by clear hov hst ih e4 e6; omega
      rw [if_neg h4, e6, e4, hst]
      exact ih h7
theorem spec_value_loop (s : ByteArray) (hs : s.size ≤ 1099511627776) (b : Nat) (hb : 2 ≤ b) (hb2 : b ≤ 16) : ∀ (t pre : List UInt8) (acc k : Nat), s.toList = pre ++ t → acc ≤ 9007199254740991 → t.length < k → spec_l01Value.l0 k s (b : Int) (acc : Int) (pre.length : Int) = some (valR b acc t)
  | [], pre, acc, k, h, ha, hk => by
    obtain ⟨k, rfl⟩ : ∃ m, k = m + 1 := ⟨k - 1, by omega⟩
    have hz := size_mid h
    simp only [List.length_nil] at hz
    have hn : ¬ (pre.length : Int) < (s.size : Int) := by omega
    simp only [spec_l01Value.l0]
    rw [if_neg hn]
    unfold valR
    rw [if_pos ⟨fun c hc => by simp at hc, ha⟩]
    rfl
  | c :: t, pre, acc, k, h, ha, hk => by
    simp only [List.length_cons] at hk
    obtain ⟨k, rfl⟩ : ∃ m, k = m + 1 := ⟨k - 1, by omega⟩
    have hz := size_mid h
    simp only [List.length_cons] at hz
    have hlt : (pre.length : Int) < (s.size : Int) := by omega
    have h0 : 0 ≤ (pre.length : Int) := by omega
    have hc := c.toNat_lt
    have ew : wrap64 (c.toNat : Int) = (c.toNat : Int) := w64 (by omega) (by omega)
    have ih : ∀ D : Nat, acc * b + D ≤ 9007199254740991 → spec_l01Value.l0 k s (b : Int) ((acc * b + D : Nat) : Int) (wrap64 ((pre.length : Int) + 1)) = some (valR b (acc * b + D) t) := fun D hD => by
      have := spec_value_loop s hs b hb hb2 t (pre ++ [c]) (acc * b + D) k (by simp [h]) hD (by omega)
      rw [w64 (by omega) (by omega)]
      rw [List.length_append] at this
      exact this
    simp only [spec_l01Value.l0]
    rw [if_pos hlt, if_pos h0, bt_mid h, ew, in_eq, in_eq]
    simp only [Option.bind_some]
    by_cases h1 : 48 ≤ (c.toNat : Int) ∧ (c.toNat : Int) ≤ 57
    · have e1 : wrap64 ((c.toNat : Int) - 48) = ((c.toNat - 48 : Nat) : Int) := by rw [w64 (by omega) (by omega)]; omega
      rw [if_pos (decide_eq_true h1), e1]
      exact value_tail s b hb hb2 k acc _ _ c t (by unfold dvI; rw [if_pos (by omega)]; omega) ha (ih _)
    · rw [if_neg (by simpa using h1)]
      by_cases h2 : 97 ≤ (c.toNat : Int) ∧ (c.toNat : Int) ≤ 102
      · have e1 : wrap64 ((c.toNat : Int) - 87) = ((c.toNat - 87 : Nat) : Int) := by rw [w64 (by omega) (by omega)]; omega
        rw [if_pos (decide_eq_true h2), e1]
        exact value_tail s b hb hb2 k acc _ _ c t (by unfold dvI; rw [if_neg (by omega), if_pos (by omega)]; omega) ha (ih _)
      · rw [if_neg (by simpa using h2), if_pos (by decide), valR_bad]
        unfold digOk dvI
        rw [if_neg (by omega), if_neg (by omega)]
        rfl
theorem spec_value (s : ByteArray) (hs : s.size ≤ 1099511627776) (b : Nat) (hb : 2 ≤ b) (hb2 : b ≤ 16) (k : Nat) (hk : s.size < k) : spec_l01Value.f k s (b : Int) = some (valR b 0 s.toList) := by
  unfold spec_l01Value.f
  exact spec_value_loop s hs b hb hb2 s.toList [] 0 k rfl (by decide) (by rw [tl_length]; exact hk)
theorem valR_neg (b : Nat) (l : List UInt8) : valR b 0 l < 0 ↔ ¬ ((∀ c ∈ l, digOk b c = true) ∧ valM b 0 l ≤ 9007199254740991) := by
  unfold valR
  by_cases c : (∀ c ∈ l, digOk b c = true) ∧ valM b 0 l ≤ 9007199254740991
  · rw [if_pos c]
    exact ⟨fun h => by omega, fun h => absurd c h⟩
  · rw [if_neg c]
    exact ⟨fun _ => c, fun _ => by decide⟩

theorem digB_dec (u : Nat) (h : 0 < u) : digB 10 u = Lib.decDigits u := by
  induction u using Nat.strongRecOn with
  | _ u ih =>
    rw [digB_step 10 u (by decide) h, Lib.decDigits, hexD_dec _ (Nat.mod_lt _ (by decide))]
    by_cases c : u < 10
    · rw [dif_pos c, show u / 10 = 0 by omega, digB_zero, Nat.mod_eq_of_lt c]
      rfl
    · rw [dif_neg c, ih (u / 10) (by omega) (by omega)]
theorem numB_dec (n : Int) (h0 : 0 ≤ n) : numB 10 n.toNat = Lib.itoa n := by
  unfold numB Lib.itoa
  rw [if_neg (show ¬ n < 0 by omega)]
  by_cases hz : n.toNat = 0
  · rw [if_pos hz, hz, Lib.decDigits]
    rfl
  · rw [if_neg hz, digB_dec _ (by omega)]

/-! ### Decimal texts read back -/
theorem numB_ok (b : Nat) (hb : 2 ≤ b) (hb2 : b ≤ 16) (u : Nat) : (∀ c ∈ numB b u, digOk b c = true) ∧ valM b 0 (numB b u) = u := by
  have one : ∀ d, d < b → digOk b (hexD d) = true := fun d h => by
    unfold digOk
    rw [dv_hex d (by omega), decide_eq_true (by omega), decide_eq_true (by omega)]
    rfl
  induction u using Nat.strongRecOn with
  | _ u ih =>
    by_cases c : u < b
    · rw [numB_less b u hb c]
      refine ⟨fun x hx => ?_, ?_⟩
      · rw [List.mem_singleton] at hx
        rw [hx]
        exact one u c
      · simp only [valM]
        rw [dv_hex u (by omega)]
        omega
    · have hm : u % b < b := Nat.mod_lt _ (by omega)
      obtain ⟨h1, h2⟩ := ih (u / b) (Nat.div_lt_self (by omega) (by omega))
      rw [numB_more b u hb c]
      refine ⟨fun x hx => ?_, ?_⟩
      · rw [List.mem_append, List.mem_singleton] at hx
        rcases hx with hx | hx
        · exact h1 x hx
        · rw [hx]
          exact one _ hm
      · rw [valM_append, h2]
        simp only [valM]
        rw [dv_hex _ (by omega), Int.toNat_natCast, Nat.mul_comm]
        exact Nat.div_add_mod u b
theorem numB_last (b : Nat) (hb : 2 ≤ b) (u : Nat) : ∃ p d, numB b u = p ++ [hexD d] ∧ d < b := by
  by_cases c : u < b
  · exact ⟨[], u, numB_less b u hb c, c⟩
  · exact ⟨_, _, numB_more b u hb c, Nat.mod_lt _ (by omega)⟩
theorem dec_digit (c : UInt8) (h : digOk 10 c = true) : 48 ≤ c.toNat ∧ c.toNat ≤ 57 ∧ (dvI c).toNat = c.toNat - 48 := by
  unfold digOk dvI at h
  unfold dvI
  simp only [Bool.and_eq_true, decide_eq_true_eq] at h
  by_cases c1 : 48 ≤ c.toNat ∧ c.toNat ≤ 57
  · rw [if_pos c1]
    omega
  · rw [if_neg c1] at h
    by_cases c2 : 97 ≤ c.toNat ∧ c.toNat ≤ 102
    · rw [if_pos c2] at h
      omega
    · rw [if_neg c2] at h
      omega
theorem valM_ge' (b : Nat) (hb : 1 ≤ b) : ∀ (t : List UInt8) (acc : Nat), acc ≤ valM b acc t
  | [], acc => Nat.le_refl _
  | c :: t, acc => by
    simp only [valM]
    have h1 := valM_ge' b hb t (acc * b + (dvI c).toNat)
    have h2 : acc * 1 ≤ acc * b := Nat.mul_le_mul_left _ hb
    omega
theorem parse_ok : ∀ (l : List UInt8) (acc : Nat), (∀ c ∈ l, digOk 10 c = true) → valM 10 acc l ≤ 9007199254740991 → Lib.parseUint10 acc l = .ok (valM 10 acc l)
  | [], acc, _, _ => rfl
  | c :: l, acc, h, hv => by
    obtain ⟨h1, h2, h3⟩ := dec_digit c (h c (by simp))
    simp only [valM, h3] at hv ⊢
    have hge := valM_ge' 10 (by decide) l (acc * 10 + (c.toNat - 48))
    simp only [Lib.parseUint10]
    rw [if_pos ⟨h1, h2⟩, if_neg (by omega), if_neg (by omega)]
    exact parse_ok l _ (fun x hx => h x (by simp [hx])) hv
theorem atoi_num (u : Nat) (hu : u ≤ 9007199254740991) : Lib.atoiAll (numB 10 u) = .ok (u : Int) := by
  obtain ⟨h1, h2⟩ := numB_ok 10 (by decide) (by decide) u
  have hp := parse_ok (numB 10 u) 0 h1 (by rw [h2]; exact hu)
  rw [h2] at hp
  obtain ⟨c, r, e⟩ : ∃ c r, numB 10 u = c :: r := by
    cases hq : numB 10 u with
    | nil =>
      obtain ⟨p, d, e, _⟩ := numB_last 10 (by decide) u
      rw [e] at hq
      simp at hq
    | cons c r => exact ⟨c, r, rfl⟩
  have hc := dec_digit c (h1 c (by rw [e]; simp))
  rw [e] at hp ⊢
  have hm : Lib.parseMag (c :: r) = .ok u := by
    unfold Lib.parseMag
    rw [if_neg (by simp)]
    exact hp
  have n1 : ¬ (c.toNat = 43 ∨ c.toNat = 45) := by omega
  have n2 : ¬ c.toNat = 45 := by omega
  have n3 : ¬ 9223372036854775808 ≤ u := by omega
  unfold Lib.atoiAll
  simp only [if_neg n1, hm]
  simp [n2, n3]
theorem atoi_itoa (n : Int) (h0 : 0 ≤ n) (h1 : n ≤ 9007199254740991) : Lib.atoiAll (Lib.itoa n) = .ok n := by
  rw [← numB_dec n h0, atoi_num n.toNat (by omega)]
  congr 1
  omega
theorem itoa_digits (n : Int) (h0 : 0 ≤ n) : (∀ c ∈ Lib.itoa n, digOk 10 c = true) ∧ (valM 10 0 (Lib.itoa n) : Int) = n := by
  obtain ⟨h1, h2⟩ := numB_ok 10 (by decide) (by decide) n.toNat
  rw [← numB_dec n h0]
  refine ⟨h1, ?_⟩
  rw [h2]
  omega
theorem trim_itoa (n : Int) (h0 : 0 ≤ n) (z : Nat) : Lib.trimRightB (Lib.itoa n ++ List.replicate z 32) 32 = Lib.itoa n := by
  obtain ⟨p, d, e, hd⟩ := numB_last 10 (by decide) n.toNat
  have hne : (hexD d == 32) = false := by
    have h1 : hexD d = UInt8.ofNat (48 + d) := hexD_dec d hd
    rw [beq_eq_false_iff_ne, h1]
    intro h2
    have := congrArg UInt8.toNat h2
    rw [UInt8.toNat_ofNat'] at this
    have h3 : (32 : UInt8).toNat = 32 := rfl
    omega
  have hdrop : ∀ (z : Nat) (l : List UInt8), (List.replicate z (32 : UInt8) ++ l).dropWhile (· == 32) = l.dropWhile (· == 32) := by
    intro z l
    induction z with
    | zero => rfl
    | succ z ih => rw [List.replicate_succ, List.cons_append, List.dropWhile_cons, if_pos (by decide), ih]
  rw [← numB_dec n h0]
  unfold Lib.trimRightB
  rw [List.reverse_append, List.reverse_replicate, hdrop, e, List.reverse_append, List.reverse_singleton, List.singleton_append, List.dropWhile_cons, if_neg (by rw [hne]; simp)]
  simp
def isDec (c : UInt8) : Bool := decide (48 ≤ c.toNat ∧ c.toNat ≤ 57)
theorem lead_itoa (n : Int) (h0 : 0 ≤ n) (z : Nat) : (Lib.itoa n ++ List.replicate z 32).takeWhile isDec = Lib.itoa n := by
  have h1 := (itoa_digits n h0).1
  rw [List.takeWhile_append_of_pos (fun c hc => by
    have := dec_digit c (h1 c hc)
    unfold isDec
    exact decide_eq_true ⟨this.1, this.2.1⟩)]
  have : (List.replicate z (32 : UInt8)).takeWhile isDec = [] := by
    cases z with
    | zero => rfl
    | succ z => rw [List.replicate_succ, List.takeWhile_cons, if_neg (by decide)]
  rw [this, List.append_nil]

/-- Of which number the text is the decimal text, if of any up to 999999. -/
def RD (s : ByteArray) (r : Int) : Prop := (∀ n, 0 ≤ n → n ≤ 999999 → Lib.itoa n = s.toList → r = n) ∧ ((∀ n, 0 ≤ n → n ≤ 999999 → Lib.itoa n ≠ s.toList) → r = -1)
theorem RD_one {s : ByteArray} {r r' : Int} (h : RD s r) (h' : RD s r') : r = r' := by
  by_cases c : ∃ n, 0 ≤ n ∧ n ≤ 999999 ∧ Lib.itoa n = s.toList
  · obtain ⟨n, h0, h1, hn⟩ := c
    rw [h.1 n h0 h1 hn, h'.1 n h0 h1 hn]
  · have hc : ∀ n, 0 ≤ n → n ≤ 999999 → Lib.itoa n ≠ s.toList := fun n h0 h1 hn => c ⟨n, h0, h1, hn⟩
    rw [h.2 hc, h'.2 hc]
theorem RD_no {s : ByteArray} (h : ∀ n, 0 ≤ n → n ≤ 999999 → Lib.itoa n ≠ s.toList) : RD s (-1) := ⟨fun n h0 h1 hn => absurd hn (h n h0 h1), fun _ => rfl⟩
theorem RD_yes {s : ByteArray} {v : Int} (h0 : 0 ≤ v) (h1 : v ≤ 999999) (h : Lib.itoa v = s.toList) (hv : ∀ n, 0 ≤ n → n ≤ 999999 → Lib.itoa n = s.toList → v = n) : RD s v := ⟨hv, fun hc => absurd h (hc v h0 h1)⟩
theorem itoa_len (n : Int) (h0 : 0 ≤ n) (h1 : n ≤ 999999) : (Lib.itoa n).length ≤ 6 := by
  rw [← numB_dec n h0]
  exact ((numB_pad 10 (by decide) 5 n.toNat).1 (by
    have : (10 : Nat) ^ (5 + 1) = 1000000 := by decide
    omega)).1
theorem spec_readDec (s : ByteArray) (hs : s.size ≤ 1048576) (k : Nat) (hk : s.size + 100 < k) : ∃ r, spec_ReadDec.f k s = some r ∧ RD s r := by
  have hval := spec_value s (by omega) 10 (by decide) (by decide) k (by omega)
  rw [show ((10 : Nat) : Int) = 10 from rfl] at hval
  have hb : -1 ≤ valR 10 0 s.toList ∧ valR 10 0 s.toList ≤ 9007199254740991 := by
    unfold valR
    split
    · rename_i h
      omega
    · omega
  have hv : ∀ n, 0 ≤ n → n ≤ 999999 → Lib.itoa n = s.toList → valR 10 0 s.toList = n := by
    intro n n0 n1 hn
    obtain ⟨d1, d2⟩ := itoa_digits n n0
    rw [← hn]
    unfold valR
    rw [if_pos ⟨d1, by omega⟩]
    exact d2
  unfold spec_ReadDec.f
  rw [hval]
  simp only [Option.bind_some]
  by_cases c0 : s.toList = []
  · rw [if_pos c0]
    refine ⟨_, rfl, RD_no fun n n0 n1 hn => ?_⟩
    rw [c0] at hn
    obtain ⟨p, d, e, _⟩ := numB_last 10 (by decide) n.toNat
    rw [← numB_dec n n0, e] at hn
    simp at hn
  · rw [if_neg c0]
    by_cases c1 : (s.size : Int) > 6
    · rw [if_pos c1]
      refine ⟨_, rfl, RD_no fun n n0 n1 hn => ?_⟩
      have := itoa_len n n0 n1
      rw [hn, tl_length] at this
      omega
    · rw [if_neg c1]
      obtain ⟨t, e, l⟩ := spec_dec (valR 10 0 s.toList) (by omega) (by omega) k (by omega)
      rw [e]
      simp only [Option.bind_some]
      by_cases c2 : t.toList = s.toList
      · rw [if_pos c2]
        rw [l] at c2
        by_cases c3 : 0 ≤ valR 10 0 s.toList
        · have c4 : (∀ c ∈ s.toList, digOk 10 c = true) ∧ valM 10 0 s.toList ≤ 9007199254740991 := by
            by_cases c : (∀ c ∈ s.toList, digOk 10 c = true) ∧ valM 10 0 s.toList ≤ 9007199254740991
            · exact c
            · exact absurd ((valR_neg 10 s.toList).2 c) (by omega)
          have h1 := (padB_valM 10 (by decide) s.toList c4.1).2
          have h2 : (10 : Nat) ^ s.toList.length ≤ 10 ^ 6 := Nat.pow_le_pow_right (by decide) (by rw [tl_length]; omega)
          have h3 : (10 : Nat) ^ 6 = 1000000 := by decide
          have h4 : valR 10 0 s.toList = ((valM 10 0 s.toList : Nat) : Int) := by
            unfold valR
            rw [if_pos c4]
          exact ⟨_, rfl, RD_yes c3 (by omega) c2 hv⟩
        · have h5 : valR 10 0 s.toList = -1 := by omega
          refine ⟨_, rfl, ?_⟩
          rw [h5]
          refine RD_no fun n n0 n1 hn => ?_
          have := hv n n0 n1 hn
          omega
      · rw [if_neg c2]
        refine ⟨_, rfl, RD_no fun n n0 n1 hn => ?_⟩
        apply c2
        rw [l, hv n n0 n1 hn]
        exact hn
theorem impl_readDec (s : ByteArray) (hs : s.size ≤ 1048576) : ∃ r, impl_ReadDec.f s = some r ∧ RD s r := by
  unfold impl_ReadDec.f
  rw [if_pos (show s.size ≤ 140737488355328 by omega), ← tl s]
  have hok : ∀ n, 0 ≤ n → n ≤ 999999 → Lib.itoa n = s.toList → Lib.atoiAll s.toList = .ok n := by
    intro n n0 n1 hn
    rw [← hn, atoi_itoa n n0 (by omega)]
  rcases hq : Lib.atoiAll s.toList with v | _ | _
  · have hv : ∀ n, 0 ≤ n → n ≤ 999999 → Lib.itoa n = s.toList → v = n := by
      intro n n0 n1 hn
      have := hok n n0 n1 hn
      rw [hq] at this
      injection this
    simp only
    by_cases c : 0 ≤ v ∧ v ≤ 999999
    · obtain ⟨t, e, l⟩ := impl_dec v (by omega) (by omega)
      rw [if_pos c, e]
      simp only [Option.bind_some]
      by_cases c2 : t.toList = s.toList
      · rw [if_pos c2]
        exact ⟨_, rfl, RD_yes c.1 c.2 (by rw [← l]; exact c2) hv⟩
      · rw [if_neg c2]
        refine ⟨_, rfl, RD_no fun n n0 n1 hn => ?_⟩
        apply c2
        rw [l, hv n n0 n1 hn]
        exact hn
    · rw [if_neg c]
      refine ⟨_, rfl, RD_no fun n n0 n1 hn => ?_⟩
      apply c
      rw [hv n n0 n1 hn]
      exact ⟨n0, n1⟩
  · refine ⟨_, rfl, RD_no fun n n0 n1 hn => ?_⟩
    have := hok n n0 n1 hn
    rw [hq] at this
    cases this
  · refine ⟨_, rfl, RD_no fun n n0 n1 hn => ?_⟩
    have := hok n n0 n1 hn
    rw [hq] at this
    cases this

/-- The texts between the places of a byte. -/
def splitA (c : UInt8) : List UInt8 → List UInt8 → List (List UInt8)
  | p, [] => [p]
  | p, b :: t => if b = c then p :: splitA c [] t else splitA c (p ++ [b]) t
theorem splitA_none (c : UInt8) : ∀ (t p : List UInt8), c ∉ t → splitA c p t = [p ++ t]
  | [], p, _ => by simp [splitA]
  | b :: t, p, h => by
    simp only [List.mem_cons, not_or] at h
    simp only [splitA]
    rw [if_neg (fun e => h.1 e.symm), splitA_none c t _ h.2]
    simp
theorem splitA_span (c : UInt8) (b : List UInt8) : ∀ (a p : List UInt8), c ∉ a → splitA c p (a ++ c :: b) = (p ++ a) :: splitA c [] b
  | [], p, _ => by simp [splitA]
  | x :: a, p, h => by
    simp only [List.mem_cons, not_or] at h
    simp only [List.cons_append, splitA]
    rw [if_neg (fun e => h.1 e.symm), splitA_span c b a _ h.2]
    simp
theorem splitA_length (c : UInt8) : ∀ (t p : List UInt8), (splitA c p t).length = t.count c + 1
  | [], p => by simp [splitA]
  | b :: t, p => by
    simp only [splitA]
    by_cases h : b = c
    · rw [if_pos h, List.length_cons, splitA_length c t, h, List.count_cons_self]
    · rw [if_neg h, splitA_length c t, List.count_cons_of_ne h]
theorem splitA_le (c : UInt8) (t p : List UInt8) : (splitA c p t).length ≤ t.length + 1 := by
  rw [splitA_length]
  have : t.count c ≤ t.length := List.count_le_length
  omega
theorem splitA_mem (c : UInt8) : ∀ (t p x : List UInt8), x ∈ splitA c p t → x.length ≤ p.length + t.length
  | [], p, x, h => by
    simp only [splitA, List.mem_singleton] at h
    subst h
    simp
  | b :: t, p, x, h => by
    simp only [splitA] at h
    by_cases hb : b = c
    · rw [if_pos hb] at h
      rcases List.mem_cons.1 h with h | h
      · subst h
        omega
      · have := splitA_mem c t [] x h
        simp only [List.length_nil, List.length_cons] at *
        omega
    · rw [if_neg hb] at h
      have := splitA_mem c t _ x h
      simp only [List.length_append, List.length_cons, List.length_nil] at *
      omega
def sumLen : List (List UInt8) → Nat
  | [] => 0
  | x :: l => x.length + sumLen l
theorem splitA_sum (c : UInt8) : ∀ (t p : List UInt8), sumLen (splitA c p t) + (splitA c p t).length = p.length + t.length + 1
  | [], p => by simp [splitA, sumLen]
  | b :: t, p => by
    simp only [splitA]
    by_cases h : b = c
    · rw [if_pos h]
      have := splitA_sum c t []
      simp only [sumLen, List.length_cons, List.length_nil] at *
      omega
    · rw [if_neg h]
      have := splitA_sum c t (p ++ [b])
      simp only [List.length_append, List.length_cons, List.length_nil] at *
      omega

theorem idx_one (s : ByteArray) (c : UInt8) : strings_Index.f s (⟨#[c]⟩ : ByteArray) = some (Lib.indexByte s.toList c) := by
  unfold strings_Index.f stringslite_Index.f
  rw [if_pos (show (⟨#[c]⟩ : ByteArray).size = 1 from rfl), tl]
  rfl
theorem take_set_map (a : List ByteArray) (i : Nat) (x : ByteArray) (h : i < a.length) : ((a.set i x).take (i + 1)).map ByteArray.toList = (a.take i).map ByteArray.toList ++ [x.toList] := by
  rw [List.take_set, List.take_add_one, List.getElem?_eq_getElem h]
  rw [List.set_append_right _ _ (by simp; omega)]
  simp only [List.length_take, Option.toList_some, List.map_append]
  rw [show i - min i a.length = 0 by omega]
  simp
theorem genSplit_loop (c : UInt8) (n : Int) (hn : n ≤ 4194304) : ∀ (d : Nat) (s : ByteArray) (a : List ByteArray) (i k : Nat), s.toList.count c = d → n = (i : Int) + d → (a.length : Int) = n + 1 → s.size ≤ 4194304 → d < k →
    ∃ r, strings_genSplit.l0 k s (⟨#[c]⟩ : ByteArray) 0 n a (i : Int) = some r ∧ r.map ByteArray.toList = (a.take i).map ByteArray.toList ++ splitA c [] s.toList := by
  intro d
  induction d with
  | zero =>
    intro s a i k hd hi ha hs hk
    obtain ⟨k, rfl⟩ : ∃ m, k = m + 1 := ⟨k - 1, by omega⟩
    unfold strings_genSplit.l0
    rw [if_neg (by omega), if_pos (by omega), if_pos (by omega), w64 (by omega) (by omega), if_pos (by omega), if_pos (by omega)]
    refine ⟨_, rfl, ?_⟩
    rw [splitA_none c _ _ (List.count_eq_zero.1 hd), show ((i : Int) + 1).toNat = i + 1 by omega, Int.toNat_natCast, take_set_map _ _ _ (by omega)]
    simp
  | succ d ih =>
    intro s a i k hd hi ha hs hk
    obtain ⟨k, rfl⟩ : ∃ m, k = m + 1 := ⟨k - 1, by omega⟩
    unfold strings_genSplit.l0
    rw [if_pos (by omega), idx_one]
    simp only [Option.bind_some]
    rcases index_span c s.toList with ⟨h1, h2⟩ | ⟨p, t, h1, h2, h3⟩
    · rw [List.count_eq_zero.2 h1] at hd
      omega
    · have hz := size_mid h1
      simp only [List.length_cons] at hz
      have e1 : ((⟨#[c]⟩ : ByteArray).size : Int) = 1 := rfl
      rw [h3, e1, w64 (n := (p.length : Int) + 0) (by omega) (by omega), w64 (n := (p.length : Int) + 1) (by omega) (by omega), w64 (n := (i : Int) + 1) (by omega) (by omega)]
      rw [if_neg (by omega), if_pos (by omega), if_pos (by omega), if_pos (by omega), if_pos (by omega), if_pos (by omega), if_pos (by omega)]
      have ht : (s.extract ((p.length : Int) + 1).toNat s.size).toList = t := by
        rw [show ((p.length : Int) + 1).toNat = (p ++ [c]).length by simp only [List.length_append, List.length_cons, List.length_nil]; omega]
        exact ext_end (by simp [h1])
      have hp : (s.extract 0 ((p.length : Int) + 0).toNat).toList = p := by
        rw [tl_extract, h1]
        simp
      obtain ⟨r, e, l⟩ := ih (s.extract ((p.length : Int) + 1).toNat s.size) (a.set i (s.extract 0 ((p.length : Int) + 0).toNat)) (i + 1) k (by
        rw [ht]
        rw [h1, List.count_append, List.count_cons_self, List.count_eq_zero.2 h2] at hd
        omega) (by omega) (by simp only [List.length_set]; omega) (by
        rw [ByteArray.size_extract]
        omega) (by omega)
      refine ⟨r, ?_, ?_⟩
      · rw [← e]
        congr 1
      · rw [l, take_set_map _ _ _ (by omega), ht, hp, h1, splitA_span c t p [] h2]
        simp
theorem count_one (c : UInt8) (s : ByteArray) : strings_Count.f s (⟨#[c]⟩ : ByteArray) = some ((s.toList.count c : Nat) : Int) := by
  unfold strings_Count.f
  rw [if_pos (show (⟨#[c]⟩ : ByteArray).size = 1 from rfl), tl]
  rfl
theorem genSplit_j (c : UInt8) (s : ByteArray) (hs : s.size ≤ 4194304) (k n : Nat) (hn : s.toList.count c = n) (hc : n ≤ s.size) (hk : s.size + 2 < k) : ∃ r, strings_genSplit.j0 k s (⟨#[c]⟩ : ByteArray) 0 ((n : Int) + 1) = some r ∧ r.map ByteArray.toList = splitA c [] s.toList := by
  obtain ⟨k, rfl⟩ : ∃ m, k = m + 1 := ⟨k - 1, by omega⟩
  have hm : mn ((n : Int) + 1) (wrap64 ((s.size : Int) + 1)) = (n : Int) + 1 := by
    rw [w64 (by omega) (by omega)]
    unfold mn
    omega
  have hr : (List.replicate ((n : Int) + 1).toNat (⟨#[]⟩ : ByteArray)).length = n + 1 := by
    rw [List.length_replicate]
    omega
  simp only [strings_genSplit.j0, hm]
  generalize List.replicate ((n : Int) + 1).toNat (⟨#[]⟩ : ByteArray) = a at *
  rw [if_pos (by omega), if_pos (by omega), w64 (by omega) (by omega)]
  obtain ⟨r, e1, l⟩ := genSplit_loop c ((n : Int) + 1 - 1) (by omega) n s a 0 k hn (by omega) (by omega) hs (by omega)
  refine ⟨r, ?_, by simpa using l⟩
  simpa using e1
theorem split_one (c : UInt8) (s : ByteArray) (hs : s.size ≤ 4194304) (k : Nat) (hk : s.size + 2 < k) : ∃ r, strings_Split.f k s (⟨#[c]⟩ : ByteArray) = some r ∧ r.map ByteArray.toList = splitA c [] s.toList := by
  have hc : s.toList.count c ≤ s.size := by rw [← tl_length]; exact List.count_le_length
  obtain ⟨r, e, l⟩ := genSplit_j c s hs k _ rfl hc hk
  refine ⟨r, ?_, l⟩
  have hne : ¬ (⟨#[c]⟩ : ByteArray).toList = [] := by
    rw [tl]
    exact List.cons_ne_nil _ _
  unfold strings_Split.f strings_genSplit.f
  rw [if_neg (show ¬ (-1 : Int) = 0 by decide), if_neg hne, if_pos (show (-1 : Int) < 0 by decide), count_one]
  simp only [Option.bind_some]
  rw [w64 (by omega) (by omega), e]
  simp only [Option.bind_some]

theorem spec_words_loop (s : ByteArray) (hs : s.size ≤ 1048576) : ∀ (t pre p : List UInt8) (out : List ByteArray) (k : Nat), s.toList = pre ++ (p ++ t) → out.length ≤ pre.length → t.length < k →
    ∃ r, spec_Words.l0 k s out (pre.length : Int) ((pre.length + p.length : Nat) : Int) = some r ∧ r.map ByteArray.toList = out.map ByteArray.toList ++ splitA 32 p t
  | [], pre, p, out, k, h, ho, hk => by
    obtain ⟨k, rfl⟩ : ∃ m, k = m + 1 := ⟨k - 1, by omega⟩
    have hz := size_mid h
    simp only [List.length_append, List.length_nil] at hz
    unfold spec_Words.l0
    rw [if_neg (by omega), if_pos (by omega), if_pos (by omega), if_pos (by omega)]
    refine ⟨_, rfl, ?_⟩
    rw [Int.toNat_natCast, List.map_append, List.map_cons, List.map_nil, ext_end (p := p) (by simpa using h)]
    rfl
  | b :: t, pre, p, out, k, h, ho, hk => by
    simp only [List.length_cons] at hk
    obtain ⟨k, rfl⟩ : ∃ m, k = m + 1 := ⟨k - 1, by omega⟩
    have hz := size_mid h
    simp only [List.length_append, List.length_cons] at hz
    have hb : bt s ((pre.length + p.length : Nat) : Int) = (b.toNat : Int) := by
      have := bt_mid (s := s) (pre := pre ++ p) (b := b) (t := t) (by simp [h])
      simpa using this
    unfold spec_Words.l0
    rw [if_pos (by omega), if_pos (by omega), hb, w64 (by omega) (by omega)]
    by_cases hc : b = 32
    · subst hc
      rw [if_pos (show (((32 : UInt8).toNat : Nat) : Int) = 32 from rfl), if_pos (by omega), if_pos (by omega), if_pos (by omega), if_pos (by omega)]
      obtain ⟨r, e, l⟩ := spec_words_loop s hs t (pre ++ p ++ [32]) [] (out ++ [s.extract ((pre.length : Nat) : Int).toNat ((pre.length + p.length : Nat) : Int).toNat]) k (by simp [h]) (by simp; omega) (by omega)
      have a1 : (((pre ++ p ++ [32]).length : Nat) : Int) = ((pre.length + p.length : Nat) : Int) + 1 := by
        simp only [List.length_append, List.length_cons, List.length_nil]
        omega
      have a2 : (((pre ++ p ++ [32]).length + ([] : List UInt8).length : Nat) : Int) = ((pre.length + p.length : Nat) : Int) + 1 := by
        simp only [List.length_append, List.length_cons, List.length_nil]
        omega
      rw [a1, a2] at e
      refine ⟨r, e, ?_⟩
      · rw [l]
        simp only [Int.toNat_natCast, List.map_append, List.map_cons, List.map_nil, splitA]
        rw [ext_mid h]
        simp
    · rw [if_neg (fun e : (b.toNat : Int) = 32 => hc (u8_eq.1 (show (b.toNat : Int) = ((32 : UInt8).toNat : Int) from e)))]
      obtain ⟨r, e, l⟩ := spec_words_loop s hs t pre (p ++ [b]) out k (by simp [h]) ho (by omega)
      refine ⟨r, ?_, ?_⟩
      · rw [← e]
        congr 1
        simp
        omega
      · rw [l]
        simp only [splitA]
        rw [if_neg hc]
theorem spec_words (s : ByteArray) (hs : s.size ≤ 1048576) (k : Nat) (hk : s.size < k) : ∃ r, spec_Words.f k s = some r ∧ r.map ByteArray.toList = splitA 32 [] s.toList := by
  obtain ⟨r, e, l⟩ := spec_words_loop s hs s.toList [] [] [] k rfl (by simp) (by rw [tl_length]; exact hk)
  exact ⟨r, e, by simpa using l⟩
theorem impl_words (s : ByteArray) (hs : s.size ≤ 1048576) (k : Nat) (hk : s.size + 2 < k) : ∃ r, impl_Words.f k s = some r ∧ r.map ByteArray.toList = splitA 32 [] s.toList := by
  obtain ⟨r, e, l⟩ := split_one 32 s (by omega) k hk
  unfold impl_Words.f
  rw [e]
  exact ⟨r, rfl, l⟩

theorem sameTexts_loop (l l' : List ByteArray) (h : l.map ByteArray.toList = l'.map ByteArray.toList) (hl : l.length ≤ 1000000000000) : ∀ (d i k : Nat), i + d = l.length → d < k → laws_sameTexts.l0 k l l' (i : Int) = some true := by
  have hlen : l.length = l'.length := by simpa using congrArg List.length h
  intro d
  induction d with
  | zero =>
    intro i k hi hk
    obtain ⟨k, rfl⟩ : ∃ m, k = m + 1 := ⟨k - 1, by omega⟩
    unfold laws_sameTexts.l0
    rw [if_neg (by omega)]
  | succ d ih =>
    intro i k hi hk
    obtain ⟨k, rfl⟩ : ∃ m, k = m + 1 := ⟨k - 1, by omega⟩
    have e : (rdOf ByteArray.empty l (i : Int)).toList = (rdOf ByteArray.empty l' (i : Int)).toList := by
      unfold rdOf
      rw [Int.toNat_natCast, List.getD_eq_getElem?_getD, List.getD_eq_getElem?_getD, List.getElem?_eq_getElem (by omega), List.getElem?_eq_getElem (by omega)]
      have := congrArg (fun z => z[i]?) h
      simp only [List.getElem?_map] at this
      rw [List.getElem?_eq_getElem (by omega), List.getElem?_eq_getElem (by omega)] at this
      simpa using this
    unfold laws_sameTexts.l0
    rw [if_pos (by omega), if_pos (by omega), if_pos (by omega), if_pos e, w64 (by omega) (by omega)]
    have := ih (i + 1) k (by omega) (by omega)
    rw [show ((i + 1 : Nat) : Int) = (i : Int) + 1 by omega] at this
    exact this
theorem sameTexts_ok (l l' : List ByteArray) (h : l.map ByteArray.toList = l'.map ByteArray.toList) (hl : l.length ≤ 1000000000000) (k : Nat) (hk : l.length < k) : laws_sameTexts.f k l l' = some true := by
  have hlen : l.length = l'.length := by simpa using congrArg List.length h
  unfold laws_sameTexts.f
  rw [if_pos (by omega)]
  exact sameTexts_loop l l' h hl l.length 0 k (by omega) hk

theorem bind_of {α β : Type} {x : Option α} {a : α} (h : x = some a) (f : α → Option β) : x.bind f = f a := by rw [h]; rfl
theorem drawPad_ok (b : List Int) (hb : b.length ≤ 140737488351232) (k : Nat) (hk : b.length < k) : ∃ n u, spec_DrawPad.f k b = some (n, u) ∧ (-1 ≤ n ∧ n ≤ 9007199254740992) ∧ (-1 ≤ u ∧ u ≤ 513) := by
  obtain ⟨h0, e0⟩ := new_ok b hb k hk
  obtain ⟨n, i1, h1, e1, r1, s1⟩ := num_ok b hb 0 h0 (st0 b)
  obtain ⟨u, i2, h2, e2, hm, s2⟩ := pickInt_ok b hb i1 h1 [1, 2, 4, 512, 513, 0, (-1)] (by decide) (by decide) s1
  unfold spec_DrawPad.f
  rw [bind_of e0, bind_of e1, bind_of e2]
  refine ⟨n, u, rfl, r1, ?_⟩
  simp only [List.mem_cons, List.not_mem_nil, or_false] at hm
  omega
theorem drawFill_ok (b : List Int) (hb : b.length ≤ 140737488351232) : ∃ K s w, (∀ k, K ≤ k → spec_DrawFill.f k b = some (s, w)) ∧ s.size ≤ 12 ∧ -1 ≤ w ∧ w ≤ 1025 := by
  obtain ⟨h0, e0⟩ := new_ok b hb (b.length + 1) (by omega)
  obtain ⟨m, i1, h1, e1, r1, s1⟩ := below_ok b hb 0 h0 12 (by decide) (st0 b)
  have hm := r1.2 (by decide)
  obtain ⟨K, s, i2, h2, e2, z, s2⟩ := text_ok b hb m r1.1 (by omega) i1 h1 s1
  obtain ⟨w, i3, h3, e3, hw, s3⟩ := pickInt_ok b hb i2 h2 [0, 8, 100, (-1), 1024, 1025, 5] (by decide) (by decide) s2
  refine ⟨K + b.length + 1, s, w, fun k hk => ?_, by omega, ?_⟩
  · have e0' := at_rounds (g := fun k => spec_l01New.f k b) (fun k => spec_l01New.mono b k) (show b.length + 1 ≤ k by omega) e0
    unfold spec_DrawFill.f
    rw [bind_of e0', bind_of e1, bind_of (e2 k (by omega)), bind_of e3]
  · simp only [List.mem_cons, List.not_mem_nil, or_false] at hw
    omega
theorem drawCut_ok (b : List Int) (hb : b.length ≤ 140737488351232) : ∃ K s, (∀ k, K ≤ k → spec_DrawCut.f k b = some s) ∧ s.size ≤ 100 := by
  obtain ⟨h0, e0⟩ := new_ok b hb (b.length + 1) (by omega)
  obtain ⟨m, i1, h1, e1, r1, s1⟩ := below_ok b hb 0 h0 12 (by decide) (st0 b)
  have hm := r1.2 (by decide)
  obtain ⟨K, s, i2, h2, e2, z, s2⟩ := text_ok b hb m r1.1 (by omega) i1 h1 s1
  obtain ⟨w, i3, h3, e3, r3, s3⟩ := below_ok b hb i2 h2 20 (by decide) s2
  have hw := r3.2 (by decide)
  obtain ⟨f, e4, l4⟩ := spec_fill s w (by omega) 1048578 (by decide)
  have hf : f.size ≤ 100 := by
    rw [← tl_length, l4]
    unfold fillM
    split
    · rw [tl_length]
      omega
    · rw [List.length_append, List.length_replicate, tl_length]
      omega
  refine ⟨K + b.length + 1048578, f, fun k hk => ?_, hf⟩
  have e0' := at_rounds (g := fun k => spec_l01New.f k b) (fun k => spec_l01New.mono b k) (show b.length + 1 ≤ k by omega) e0
  have e4' := at_rounds (g := fun k => spec_Fill.f k s w) (fun k => spec_Fill.mono s w k) (show 1048578 ≤ k by omega) e4
  unfold spec_DrawCut.f
  rw [bind_of e0', bind_of e1, bind_of (e2 k (by omega)), bind_of e3, bind_of e4']
theorem drawSum_ok (b : List Int) (hb : b.length ≤ 140737488351232) : ∃ K s, (∀ k, K ≤ k → spec_DrawSumOf.f k b = some s) ∧ s.size ≤ 100 := by
  obtain ⟨h0, e0⟩ := new_ok b hb (b.length + 1) (by omega)
  obtain ⟨m, i1, h1, e1, r1, s1⟩ := below_ok b hb 0 h0 60 (by decide) (st0 b)
  have hm := r1.2 (by decide)
  obtain ⟨K, s, i2, h2, e2, z, s2⟩ := text_ok b hb m r1.1 (by omega) i1 h1 s1
  refine ⟨K + b.length + 1, s, fun k hk => ?_, by omega⟩
  have e0' := at_rounds (g := fun k => spec_l01New.f k b) (fun k => spec_l01New.mono b k) (show b.length + 1 ≤ k by omega) e0
  unfold spec_DrawSumOf.f
  rw [bind_of e0', bind_of e1, bind_of (e2 k (by omega))]
theorem drawDec_ok (b : List Int) (hb : b.length ≤ 140737488351232) (k : Nat) (hk : b.length < k) : ∃ n, spec_DrawDecText.f k b = some n ∧ -9223372036854775808 ≤ n ∧ n ≤ 9223372036854775807 := by
  obtain ⟨h0, e0⟩ := new_ok b hb k hk
  obtain ⟨m, i1, h1, e1, r1, s1⟩ := below_ok b hb 0 h0 100000 (by decide) (st0 b)
  have hm := r1.2 (by decide)
  obtain ⟨u, i2, h2, e2, hu, s2⟩ := pickInt_ok b hb i1 h1 [0, (-1), 10, 9223372036854775807, (-9223372036854775808), m] (by simp) (by simp) s1
  unfold spec_DrawDecText.f
  rw [bind_of e0, bind_of e1, bind_of e2]
  refine ⟨u, rfl, ?_⟩
  simp only [List.mem_cons, List.not_mem_nil, or_false] at hu
  have := r1.1
  omega
theorem drawRead_ok (b : List Int) (hb : b.length ≤ 140737488351232) (k : Nat) (hk : b.length + 100 < k) : ∃ s, spec_DrawReadDec.f k b = some s ∧ s.size ≤ 100 := by
  obtain ⟨h0, e0⟩ := new_ok b hb k (by omega)
  obtain ⟨c, i1, h1, e1, s1⟩ := once_ok b hb 0 h0 3 (by decide) (st0 b)
  unfold spec_DrawReadDec.f
  rw [bind_of e0, bind_of e1]
  cases c with
  | true =>
    obtain ⟨x, i2, h2, e2, l2, s2⟩ := pick_ok b hb i1 h1 [(⟨#[]⟩ : ByteArray), (⟨#[45, 49]⟩ : ByteArray), (⟨#[48, 48]⟩ : ByteArray), (⟨#[48, 49]⟩ : ByteArray), (⟨#[49, 120]⟩ : ByteArray), (⟨#[57, 57, 57, 57, 57, 57]⟩ : ByteArray), (⟨#[49, 48, 48, 48, 48, 48, 48]⟩ : ByteArray), (⟨#[49, 56, 52, 52, 54, 55, 52, 52, 48, 55, 51, 55, 48, 57, 53, 53, 49, 54, 49, 55]⟩ : ByteArray)] 20 (by simp) (by simp) (by
      intro x hx
      simp only [List.mem_cons, List.not_mem_nil, or_false] at hx
      rcases hx with rfl | rfl | rfl | rfl | rfl | rfl | rfl | rfl <;> decide) s1
    rw [if_pos rfl, bind_of e2]
    exact ⟨x, rfl, by omega⟩
  | false =>
    obtain ⟨m, i2, h2, e2, r2, s2⟩ := below_ok b hb i1 h1 100000 (by decide) s1
    have hm := r2.2 (by decide)
    have hm0 := r2.1
    obtain ⟨t, e3, l3⟩ := spec_dec m (by omega) (by omega) k (by omega)
    rw [if_neg Bool.false_ne_true, bind_of e2, bind_of e3]
    refine ⟨t, rfl, ?_⟩
    rw [← tl_length, l3]
    have := itoa_len m hm0 (by omega)
    omega
theorem words_loop (b : List Int) (hb : b.length ≤ 140737488351232) (n : Int) (hn : n ≤ 6) : ∀ (d k : Nat) (i h : Int) (x : ByteArray) (j : Int), St b i → 0 ≤ j → n - j ≤ (d : Int) → x.size + 2 * d ≤ 100 → d < k → ∃ y, spec_DrawWords.l0 k x n j b i h = some y ∧ y.size ≤ 100 := by
  intro d
  induction d with
  | zero =>
    intro k i h x j hi h0 hd hx hk
    obtain ⟨k, rfl⟩ : ∃ m, k = m + 1 := ⟨k - 1, by omega⟩
    have hc : ¬ j < n := by omega
    simp only [spec_DrawWords.l0]
    rw [if_neg hc]
    exact ⟨x, rfl, by omega⟩
  | succ d ih =>
    intro k i h x j hi h0 hd hx hk
    obtain ⟨k, rfl⟩ : ∃ m, k = m + 1 := ⟨k - 1, by omega⟩
    by_cases hc : j < n
    · obtain ⟨t, i1, h1, e1, l1, s1⟩ := pick_ok b hb i h [(⟨#[97]⟩ : ByteArray), (⟨#[32]⟩ : ByteArray), (⟨#[98, 99]⟩ : ByteArray), (⟨#[32]⟩ : ByteArray), (⟨#[]⟩ : ByteArray)] 2 (by simp) (by simp) (by
        intro x hx
        simp only [List.mem_cons, List.not_mem_nil, or_false] at hx
        rcases hx with rfl | rfl | rfl | rfl | rfl <;> decide) hi
      have q : x.size + t.size ≤ 9223372036854775807 := by omega
      have hw : wrap64 (j + 1) = j + 1 := w64 (by omega) (by omega)
      obtain ⟨y, e, ly⟩ := ih k i1 h1 (x ++ t) (j + 1) s1 (by omega) (by omega) (by rw [ByteArray.size_append]; omega) (by omega)
      simp only [spec_DrawWords.l0]
      rw [if_pos hc, bind_of e1, if_pos q, hw]
      exact ⟨y, e, ly⟩
    · simp only [spec_DrawWords.l0]
      rw [if_neg hc]
      exact ⟨x, rfl, by omega⟩
theorem drawWords_ok (b : List Int) (hb : b.length ≤ 140737488351232) (k : Nat) (hk : b.length + 100 < k) : ∃ s, spec_DrawWords.f k b = some s ∧ s.size ≤ 100 := by
  obtain ⟨h0, e0⟩ := new_ok b hb k (by omega)
  obtain ⟨m, i1, h1, e1, r1, s1⟩ := below_ok b hb 0 h0 6 (by decide) (st0 b)
  have hm := r1.2 (by decide)
  obtain ⟨y, e2, l2⟩ := words_loop b hb m (by omega) 6 k i1 h1 (⟨#[]⟩ : ByteArray) 0 s1 (by decide) (by omega) (by decide) (by omega)
  unfold spec_DrawWords.f
  rw [bind_of e0, bind_of e1]
  exact ⟨y, e2, l2⟩
theorem pad_law (n u : Int) (h0 : 0 ≤ n ∧ n ≤ 9007199254740991) (h1 : 1 ≤ u ∧ u ≤ 512) : (n + padM n u) % u = 0 ∧ 0 ≤ padM n u ∧ padM n u < u := by
  have e : padM n u = (u - n % u) % u := by
    unfold padM
    rw [if_pos ⟨h0, h1⟩]
  rw [e]
  refine ⟨?_, Int.emod_nonneg _ (by omega), Int.emod_lt_of_pos _ (by omega)⟩
  have h2 : n + (u - n % u) = u * (n / u + 1) := by
    have := Int.emod_def n u
    rw [Int.mul_add]
    omega
  rw [Int.add_emod_emod, h2]
  exact Int.mul_emod_right u _
theorem cut_fill : ∀ (l : List UInt8) (z : Nat), (l ++ List.replicate z 0).takeWhile (· != 0) = l.takeWhile (· != 0)
  | [], z => by
    cases z with
    | zero => rfl
    | succ z => rw [List.replicate_succ]; rfl
  | c :: l, z => by
    rw [List.cons_append, List.takeWhile_cons, List.takeWhile_cons, cut_fill l z]
theorem fill_cut (l : List UInt8) (w : Int) : (fillM l w).takeWhile (· != 0) = l.takeWhile (· != 0) ∧ sumB (fillM l w) = sumB l := by
  unfold fillM
  split
  · exact ⟨rfl, rfl⟩
  · refine ⟨cut_fill l _, ?_⟩
    rw [sumB_append, sumB_zeros]
    omega
theorem fields_j2 (K : Nat) (hK : 2000 < K) (s : ByteArray) (hs : s.size ≤ 12) (w : Int) (hw : w ≤ 1025) (f : ByteArray) (hf : f.toList = fillM s.toList w) : laws_FnFields.j2 (K + 1) s w f false = some true := by
  have hz : f.size ≤ 1040 := by
    rw [← tl_length, hf]
    unfold fillM
    split
    · rw [tl_length]
      omega
    · rw [List.length_append, List.length_replicate, tl_length]
      omega
  obtain ⟨a, e1, l1⟩ := impl_cut f (by omega)
  obtain ⟨c, e2, l2⟩ := impl_cut s (by omega)
  have e3 := impl_sum f (by omega) K (by omega)
  have e4 := impl_sum s (by omega) K (by omega)
  obtain ⟨q1, q2⟩ := fill_cut s.toList w
  have h1 : a.toList = c.toList := by rw [l1, l2, hf, q1]
  have h2 : sumB f.toList = sumB s.toList := by rw [hf, q2]
  simp only [laws_FnFields.j2]
  rw [if_neg Bool.false_ne_true, bind_of e1, bind_of e2, if_pos h1, bind_of e3, bind_of e4, if_pos h2]
  by_cases c1 : w ≤ (s.size : Int)
  · rw [if_pos c1]
  · rw [if_neg c1]
    by_cases c2 : w > 1024
    · rw [if_pos c2]
    · rw [if_neg c2]
      have h3 : (f.size : Int) = w := by
        rw [← tl_length, hf]
        unfold fillM
        rw [if_neg (by rw [tl_length]; omega), List.length_append, List.length_replicate, tl_length]
        omega
      rw [h3]
      simp
theorem FnFields : ∀ (l0 : List Int), l0.length ≤ 9223372036854775807 → (∀ x ∈ l0, (Lit.int .u8 x).wf = true) → ∃ k, laws_FnFields.f k l0 = some true := by
  intro b _ _
  by_cases hb : (b.length : Int) > 1048576
  · refine ⟨0, ?_⟩
    unfold laws_FnFields.f laws_big.f
    simp only [Option.bind_some]
    rw [if_pos (decide_eq_true hb)]
  obtain ⟨K1, s, w, d1, ls, hw⟩ := drawFill_ok b (by omega)
  obtain ⟨K2, c, d2, lc⟩ := drawCut_ok b (by omega)
  obtain ⟨K3, u, d3, lu⟩ := drawSum_ok b (by omega)
  obtain ⟨K, hK⟩ : ∃ K, 5000000 + K1 + K2 + K3 < K := ⟨_, Nat.lt_succ_self _⟩
  refine ⟨K + 3, ?_⟩
  have hbig : laws_big.f b = some false := by
    unfold laws_big.f
    rw [decide_eq_false hb]
  obtain ⟨n, unit, d0, hn, hu⟩ := drawPad_ok b (by omega) (K + 3) (by omega)
  obtain ⟨d, d4, hd0, hd1⟩ := drawDec_ok b (by omega) (K + 3) (by omega)
  obtain ⟨r, d5, lr⟩ := drawRead_ok b (by omega) (K + 3) (by omega)
  obtain ⟨v, d6, lv⟩ := drawWords_ok b (by omega) (K + 3) (by omega)
  obtain ⟨f1, e1, m1⟩ := impl_fill s w (by omega)
  obtain ⟨f2, e2, m2⟩ := spec_fill s w (by omega) (K + 3) (by omega)
  obtain ⟨c1, e3, m3⟩ := impl_cut c (by omega)
  obtain ⟨c2, e4, m4⟩ := spec_cut c (by omega) (K + 3) (by omega)
  obtain ⟨t1, e5, m5⟩ := impl_dec d hd0 hd1
  obtain ⟨t2, e6, m6⟩ := spec_dec d hd0 hd1 (K + 3) (by omega)
  obtain ⟨x1, e7, g1⟩ := impl_readDec r (by omega)
  obtain ⟨x2, e8, g2⟩ := spec_readDec r (by omega) (K + 3) (by omega)
  obtain ⟨w1, e9, m9⟩ := impl_words v (by omega) (K + 3) (by omega)
  obtain ⟨w2, e10, m10⟩ := spec_words v (by omega) (K + 3) (by omega)
  have hwl : w1.length ≤ 200 := by
    have := congrArg List.length m9
    rw [List.length_map, splitA_length] at this
    have h2 : v.toList.count 32 ≤ v.toList.length := List.count_le_length
    rw [tl_length] at h2
    omega
  have same := sameTexts_ok w1 w2 (by rw [m9, m10]) (by omega) (K + 3) (by omega)
  have J2 := fields_j2 K (by omega) s ls w hw.2 f1 m1
  have J1 : laws_FnFields.j1 (K + 2) s w f1 r false = some true := by
    simp only [laws_FnFields.j1]
    rw [if_neg Bool.false_ne_true, bind_of e7]
    by_cases hx : x1 ≥ 0
    · obtain ⟨q, hq0, hq1, hq⟩ : ∃ q, 0 ≤ q ∧ q ≤ 999999 ∧ Lib.itoa q = r.toList := by
        by_cases c : ∃ q, 0 ≤ q ∧ q ≤ 999999 ∧ Lib.itoa q = r.toList
        · exact c
        · have := g1.2 (fun q h0 h1 h2 => c ⟨q, h0, h1, h2⟩)
          omega
      have hxq := g1.1 q hq0 hq1 hq
      obtain ⟨y, ey, ly⟩ := impl_dec x1 (by omega) (by omega)
      have h3 : (y.toList != r.toList) = false := by rw [ly, hxq, hq]; simp
      rw [if_pos hx, bind_of ey, h3]
      exact J2
    · rw [if_neg hx]
      exact J2
  have J0 : laws_FnFields.j0 (K + 3) n unit (padM n unit) s w f1 r false = some true := by
    simp only [laws_FnFields.j0]
    rw [if_neg Bool.false_ne_true]
    by_cases c0 : n ≥ 0
    · rw [if_pos c0]
      by_cases c1 : n ≤ 9007199254740991
      · rw [if_pos c1]
        by_cases c2 : unit ≥ 1
        · rw [if_pos c2]
          by_cases c3 : unit ≤ 512
          · obtain ⟨p1, p2, p3⟩ := pad_law n unit ⟨c0, c1⟩ ⟨c2, c3⟩
            have h1 : ¬ unit = 0 := by omega
            have h2 : wrap64 (n + padM n unit) = n + padM n unit := w64 (by omega) (by omega)
            have h3 : Int.tmod (n + padM n unit) unit = 0 := by
              rw [Int.tmod_eq_emod_of_nonneg (by omega)]
              exact p1
            have h4 : decide (padM n unit ≥ unit) = false := decide_eq_false (by omega)
            rw [if_pos c3, if_neg h1, h2, if_pos h3, h4]
            exact J1
          · rw [if_neg c3]
            exact J1
        · rw [if_neg c2]
          exact J1
      · rw [if_neg c1]
        exact J1
    · rw [if_neg c0]
      exact J1
  unfold laws_FnFields.f
  rw [bind_of hbig, if_neg Bool.false_ne_true, bind_of d0, bind_of (impl_pad n unit), bind_of (d1 (K + 3) (by omega)), bind_of e1, bind_of (d2 (K + 3) (by omega)), bind_of (d3 (K + 3) (by omega)), bind_of d4, bind_of d5, bind_of d6, bind_of (spec_pad n unit), if_pos rfl, bind_of e2, if_pos (m1.trans m2.symm), bind_of e3, bind_of e4, if_pos (m3.trans m4.symm), bind_of (impl_sum u (by omega) (K + 3) (by omega)), bind_of (spec_sum u (by omega) (K + 3) (by omega)), if_pos rfl, bind_of e5, bind_of e6, if_pos (m5.trans m6.symm), bind_of e7, bind_of e8, if_pos (RD_one g1 g2), bind_of e9, bind_of e10, bind_of same]
  exact J0

end Go.Proofs.YtdjepilhenijeaaDoor.Pure
