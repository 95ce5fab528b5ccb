-- PRINTED for this claim by a program of this session's repo over the kit's printer, with contracts of our own among the functions.
import Derived.Test.YtgmggpgcfonmgaaDoorPFnExactListTextx0
import Derived.Test.YtgmggpgcfonmgaaDoorPFnExactListTextx6
namespace Go.Proofs.YtgmggpgcfonmgaaDoor.PFnExactListText
open Go.RowKit Go.Proofs.YtgmggpgcfonmgaaDoorW.PrintWords Go.Proofs.YtgmggpgcfonmgaaDoorW.PrintLast Go.Proofs.YtgmggpgcfonmgaaDoorW.PrintMore
attribute [local go_sem] max2_int min2_int max_two min_two max_three min_three max_four min_four   -- for this text's walks alone
set_option linter.unusedVariables false
set_option linter.unusedSimpArgs false

/-! ### spec_ListText: function 30 -/
def spec_ListText.l0 : Nat → List (S36) → ByteArray → Int → Option (ByteArray)
  | 0, _, _, _ => none
  | k + 1, x0, x3, x4 => if x4 < (x0.length : Int) then (if 0 ≤ x4 then ((spec_EntryText.f k ((rd_T36 x0 x4).f0) ((rd_T36 x0 x4).f1) ((rd_T36 x0 x4).f2) ((rd_T36 x0 x4).f3) ((rd_T36 x0 x4).f4) ((rd_T36 x0 x4).f5) ((rd_T36 x0 x4).f6) ((rd_T36 x0 x4).f7) ((rd_T36 x0 x4).f8) ((rd_T36 x0 x4).f9)).bind fun t176 => (if x3.size + t176.size ≤ 9223372036854775807 then (if (x3 ++ t176).size + 1 ≤ 9223372036854775807 then (spec_ListText.l0 k x0 ((x3 ++ t176) ++ (⟨#[10]⟩ : ByteArray)) (wrap64 (x4 + 1))) else (none)) else (none))) else (none)) else (some x3)
def spec_ListText.f (k : Nat) (l0 : List (S36)) : Option (ByteArray) := spec_ListText.l0 k l0 (⟨#[]⟩ : ByteArray) 0
theorem spec_ListText.mono_l : ∀ k, (∀ y0 y1 y2, LeO (spec_ListText.l0 k y0 y1 y2) (spec_ListText.l0 (k + 1) y0 y1 y2))
  | 0 => fun _ _ _ r h => by simp [spec_ListText.l0] at h
  | k + 1 => by
    have ih0 := spec_ListText.mono_l k
    · intro y0 y1 y2
      unfold spec_ListText.l0
      repeat' first
      | (with_reducible exact ih0 _ _ _)
      | (with_reducible exact spec_EntryText.mono _ _ _ _ _ _ _ _ _ _ _)
      | (with_reducible exact LeO.refl _)
      | (with_reducible exact LeO.none _)
      | (with_reducible refine LeO.ite ?_ ?_)
      | (with_reducible refine LeO.bind ?_ (fun _ => ?_))
      | exact ih0 _ _ _
      | exact spec_EntryText.mono _ _ _ _ _ _ _ _ _ _ _
      | exact LeO.none _
      | refine LeO.ite ?_ ?_
      | refine LeO.bind ?_ (fun _ => ?_)
theorem spec_ListText.mono : ∀ a0 k, LeO (spec_ListText.f k a0) (spec_ListText.f (k + 1) a0) := by
  intro a0 k
  have ih0 := spec_ListText.mono_l k
  unfold spec_ListText.f
  repeat' first
      | (with_reducible exact ih0 _ _ _)
      | (with_reducible exact spec_EntryText.mono _ _ _ _ _ _ _ _ _ _ _)
      | (with_reducible exact LeO.refl _)
      | (with_reducible exact LeO.none _)
      | (with_reducible refine LeO.ite ?_ ?_)
      | (with_reducible refine LeO.bind ?_ (fun _ => ?_))
      | exact ih0 _ _ _
      | exact spec_EntryText.mono _ _ _ _ _ _ _ _ _ _ _
      | exact LeO.none _
      | refine LeO.ite ?_ ?_
      | refine LeO.bind ?_ (fun _ => ?_)
set_option maxHeartbeats 8000000 in
set_option maxRecDepth 100000 in
theorem spec_ListText.calls (k : Nat) (A0 : Option Addr) (c0 : Nat) (l0 : List (S36)) (r : ByteArray) (w : World) (hr0 : Kd.C k36 w A0 l0.length l0) (hc0 : l0.length ≤ c0) (h : spec_ListText.f k l0 = some r) :
    Calls Tryd.prog 30 #[.slice A0 l0.length c0] w fun e w' => e = .returned (.string r) ∧ Below w.heap.size w w' := by
  have hu36 := Tryd.underlying36
  have HR0 := Aside0.mk hr0
  have HC0 := Aside0.mk hc0
  clear hr0 hc0
  have HB := Aside0.mk (Below.refl w.heap.size w)
  have H : (spec_ListText.l0 k l0 (⟨#[]⟩ : ByteArray) 0) = some r := h
  clear h
  have H' := Aside0.mk H
  clear H
  go_enter Tryd.func30, Tryd.ntmps30
  go_wp2
  go_loopg [3, 4] k (fun kq v3 v4 w' => ∃ (x3_1 : ByteArray) (x4_1 : Int), v3 = .string x3_1 ∧ v4 = .int .i64 x4_1 ∧ Aside0 (spec_ListText.l0 kq l0 x3_1 x4_1 = some r) ∧ Aside0 (kq ≤ k) ∧ Aside0 (Below w.heap.size w w'))
  case atStart => exact ⟨((⟨#[]⟩ : ByteArray)), (0), (by first | rfl | (simp; done) | (simp [*]; done)), (by first | rfl | (simp; done) | (simp [*]; done)), H', ⟨Nat.le_refl _⟩, ⟨by repeat (first | (with_reducible first | exact HB.out | apply below_alloc | apply pw_below_drewN | apply below_drew1) | exact HB.out)⟩⟩
  case round =>
    clear H'
    obtain ⟨x3_1, x4_1, rfl, rfl, HA, HK1, HB⟩ := hrel
    cases gk with
    | zero => exact absurd HA.out (by simp [spec_ListText.l0])
    | succ k1 =>
      have H := HA.out
      clear HA
      simp only [spec_ListText.l0] at H
      by_cases c2 : x4_1 < (l0.length : Int)
      · rw [if_pos c2] at H
        have c2b0 : decide (x4_1 < (l0.length : Int)) = true := decide_eq_true c2
        clear c2
        by_cases c3 : 0 ≤ x4_1
        · rw [if_pos c3] at H
          have c3b0 : decide (0 ≤ x4_1) = true := decide_eq_true c3
          clear c3
          replace H := Option.bind_eq_some_iff.mp H
          obtain ⟨t176, A40, H⟩ := H
          replace H : (if x3_1.size + t176.size ≤ 9223372036854775807 then (if (x3_1 ++ t176).size + 1 ≤ 9223372036854775807 then (spec_ListText.l0 k1 l0 ((x3_1 ++ t176) ++ (⟨#[10]⟩ : ByteArray)) (wrap64 (x4_1 + 1))) else (none)) else (none)) = some r := H
          have A4 := Aside0.mk A40
          clear A40
          by_cases c5 : x3_1.size + t176.size ≤ 9223372036854775807
          · rw [if_pos c5] at H
            have c5b0 := eq_true c5
            have c5b1 : decide (x3_1.size + t176.size ≤ 9223372036854775807) = true := decide_eq_true c5
            try have c5b2 : (9223372036854775807 < x3_1.size + t176.size) = False := eq_false (Nat.not_lt.2 c5)
            by_cases c6 : (x3_1 ++ t176).size + 1 ≤ 9223372036854775807
            · rw [if_pos c6] at H
              have c6b0 := eq_true c6
              have c6b1 : decide ((x3_1 ++ t176).size + 1 ≤ 9223372036854775807) = true := decide_eq_true c6
              try (have c6b1z := c6b1; simp only [ByteArray.size_append] at c6b1z)
              try have c6b2 : (9223372036854775807 < (x3_1 ++ t176).size + 1) = False := eq_false (Nat.not_lt.2 c6)
              try (have c6b2z := c6b2; simp only [ByteArray.size_append] at c6b2z)
              have H' := Aside0.mk H
              clear H
              have p175 : 0 ≤ (x4_1 : Int) := of_decide_eq_true (by assumption)
              have q175 : x4_1 < (l0.length : Int) := of_decide_eq_true (by assumption)
              obtain ⟨ad175, e175, hx175_0, hx175_1, hx175_2, hx175_3, hx175_4, hx175_5, hx175_6, hx175_7, hx175_8, hx175_9⟩ := at_T36 HR0.out x4_1 p175 q175
              cases e175
              replace hx175_0 := (HB.out.cell (World.block_lt_of_cell? w _ hx175_0)).trans hx175_0
              replace hx175_1 := (HB.out.cell (World.block_lt_of_cell? w _ hx175_1)).trans hx175_1
              replace hx175_2 := (HB.out.cell (World.block_lt_of_cell? w _ hx175_2)).trans hx175_2
              replace hx175_3 := (HB.out.cell (World.block_lt_of_cell? w _ hx175_3)).trans hx175_3
              replace hx175_4 := (HB.out.cell (World.block_lt_of_cell? w _ hx175_4)).trans hx175_4
              replace hx175_5 := (HB.out.cell (World.block_lt_of_cell? w _ hx175_5)).trans hx175_5
              replace hx175_6 := (HB.out.cell (World.block_lt_of_cell? w _ hx175_6)).trans hx175_6
              replace hx175_7 := (HB.out.cell (World.block_lt_of_cell? w _ hx175_7)).trans hx175_7
              replace hx175_8 := (HB.out.cell (World.block_lt_of_cell? w _ hx175_8)).trans hx175_8
              replace hx175_9 := (HB.out.cell (World.block_lt_of_cell? w _ hx175_9)).trans hx175_9
              replace p175 := eq_true p175
              replace q175 := eq_true q175
              go_wp2_with (first | ((with_reducible refine gate_callee (f := 20) rfl ?_); refine goesL_ (some 16) rfl rfl Tryd.func20 (by kernel_rfl) rfl #[.agg #[.int .i64 ((rd_T36 l0 x4_1).f0), .string ((rd_T36 l0 x4_1).f1), .string ((rd_T36 l0 x4_1).f2), .int .i64 ((rd_T36 l0 x4_1).f3), .int .i64 ((rd_T36 l0 x4_1).f4), .int .i64 ((rd_T36 l0 x4_1).f5), .int .i64 ((rd_T36 l0 x4_1).f6), .string ((rd_T36 l0 x4_1).f7), .string ((rd_T36 l0 x4_1).f8), .string ((rd_T36 l0 x4_1).f9)]] rfl (by (try simp only [List.map_toArray, List.map_cons, List.map_nil]); first | done | rfl | (simp only [List.length_drop, List.length_take]; rfl)) ?_; (with_reducible refine (spec_EntryText.calls k1 ((rd_T36 l0 x4_1).f0) ((rd_T36 l0 x4_1).f1) ((rd_T36 l0 x4_1).f2) ((rd_T36 l0 x4_1).f3) ((rd_T36 l0 x4_1).f4) ((rd_T36 l0 x4_1).f5) ((rd_T36 l0 x4_1).f6) ((rd_T36 l0 x4_1).f7) ((rd_T36 l0 x4_1).f8) ((rd_T36 l0 x4_1).f9) t176 _ A4.out).mono ?_); rintro e w7 ⟨rfl, hb⟩; refine ⟨_, rfl, ?_⟩; have n0_ := Aside0.mk (below_step (by repeat (first | (with_reducible first | exact HB.out | apply below_alloc | apply pw_below_drewN | apply below_drew1) | exact HB.out)) hb); clear HB; have HB := n0_; clear n0_; (try clear hb); (try clear hb2); (try clear hk); (try clear hi)))
              go_roundg k1
              case measure => have := HK1.out; omega
              case rel => exact ⟨((x3_1 ++ t176) ++ (⟨#[10]⟩ : ByteArray)), (wrap64 (x4_1 + 1)), (by first | rfl | (simp; done) | (simp [*]; done)), (by first | rfl | (simp; done) | (simp [*]; done)), H', ⟨by have := HK1.out; omega⟩, ⟨by repeat (first | (with_reducible first | exact HB.out | apply below_alloc | apply pw_below_drewN | apply below_drew1) | exact HB.out)⟩⟩
            · rw [if_neg c6] at H
              exact absurd H (by simp)
          · rw [if_neg c5] at H
            exact absurd H (by simp)
        · rw [if_neg c3] at H
          exact absurd H (by simp)
      · rw [if_neg c2] at H
        have c2b0 : decide (x4_1 < (l0.length : Int)) = false := decide_eq_false c2
        clear c2
        obtain rfl := Option.some.inj H
        go_wp2
        go_ret
        exact ⟨by first | rfl | (simp [errW_none, errW_some] <;> rfl) | (simp [*, errW_none, errW_some] <;> rfl) | (simp only [decide_eq_true_eq] at *; simp [*, bt]; done), by repeat (first | (with_reducible first | exact HB.out | apply below_alloc | apply pw_below_drewN | apply below_drew1) | exact HB.out)⟩

/-! ### impl_within: function 55 -/
def impl_within.f (a0 : Int) (a1 : Int) (a2 : Int) : Option (Bool) := if a1 ≤ a0 then (some (decide (a0 ≤ a2))) else (some false)
set_option maxHeartbeats 8000000 in
set_option maxRecDepth 100000 in
theorem impl_within.calls (a0 : Int) (a1 : Int) (a2 : Int) (r : Bool) (w : World) (h : impl_within.f a0 a1 a2 = some r) :
    Calls Tryd.prog 55 #[.int .i64 a0, .int .i64 a1, .int .i64 a2] w fun e w' => e = .returned (.bool r) ∧ Drawn0 w w' := by
  have H : (if a1 ≤ a0 then (some (decide (a0 ≤ a2))) else (some false)) = some r := h
  clear h
  by_cases c4 : a1 ≤ a0
  · rw [if_pos c4] at H
    have c4b0 : decide (a1 ≤ a0) = true := decide_eq_true c4
    clear c4
    obtain rfl := Option.some.inj H
    go_enter Tryd.func55, Tryd.ntmps55
    go_wp2
    go_ret
    exact ⟨by first | rfl | (simp; done) | (simp [*]; done), by repeat (first | exact Drawn0.refl _ | apply Drawn0.step)⟩
  · rw [if_neg c4] at H
    have c4b0 : decide (a1 ≤ a0) = false := decide_eq_false c4
    clear c4
    obtain rfl := Option.some.inj H
    go_enter Tryd.func55, Tryd.ntmps55
    go_wp2
    go_ret
    exact ⟨by first | rfl | (simp; done) | (simp [*]; done), by repeat (first | exact Drawn0.refl _ | apply Drawn0.step)⟩

/-! ### impl_areBytes: function 73, by a contract of our own -/
/-- Where the first number is of which a predicate holds, from place k on; -1. -/
def idxFrom (p : Int → Bool) (xs : List Int) : Nat → Nat → Int
  | 0, _ => -1
  | d + 1, k => if p (xs.getD k 0) = true then (k : Int) else idxFrom p xs d (k + 1)
theorem idxFrom_nonneg (p : Int → Bool) (xs : List Int) : ∀ (d k : Nat), decide (0 ≤ idxFrom p xs d k) = ((List.range' k d).any fun j => p (xs.getD j 0))
  | 0, k => by simp [idxFrom]
  | d + 1, k => by
    unfold idxFrom
    rw [List.range'_succ, List.any_cons, ← idxFrom_nonneg p xs d (k + 1)]
    cases h : p (xs.getD k 0) with
    | true => rw [if_pos rfl]; simp
    | false => rw [if_neg (by simp)]; simp
/-- The bytes of a text that a predicate holds of: all. -/
def allB (p : Int → Bool) (s : ByteArray) : Bool := s.toList.all fun b => p (b.toNat : Int)
theorem any_range_bytes (p : Int → Bool) (s : ByteArray) : ((List.range' 0 s.size).any fun j => !p ((bytesOf s).getD j 0)) = !allB p s := by
  unfold allB
  rw [ByteArray.toList_eq, Bool.eq_iff_iff]
  simp only [List.any_eq_true, Bool.not_eq_true', List.all_eq_false, List.mem_range'_1, bytesOf]
  constructor
  · rintro ⟨j, ⟨_, hj⟩, h⟩
    have hj' : j < s.data.toList.length := by rw [data_length]; omega
    refine ⟨s.data.toList[j], List.getElem_mem _, ?_⟩
    rw [List.getD_eq_getElem?_getD, List.getElem?_map, List.getElem?_eq_getElem hj'] at h
    simpa using h
  · rintro ⟨b, hb, h⟩
    obtain ⟨j, hj, rfl⟩ := List.getElem_of_mem hb
    refine ⟨j, ⟨by omega, by rw [data_length] at hj; omega⟩, ?_⟩
    rw [List.getD_eq_getElem?_getD, List.getElem?_map, List.getElem?_eq_getElem hj]
    simpa using h
set_option maxHeartbeats 2000000 in
theorem idx_bytes_calls (p : Int → Bool) (B b off n c : Nat) (xs : List Int) (w : World)
    (hp : ∀ (q : Nat) (x : Int), Calls Tryd.prog 124 #[.int .u8 x, .pointer (some ⟨B, 0, none⟩)] (w.drewN q) fun e w' => e = .returned (.bool (p x)) ∧ ∃ q', w' = (w.drewN q).drewN q') (hbig : n ≤ 9223372036854775807)
    (hc : ∀ j, j < n → w.cell? ⟨b, off + j, none⟩ = some (.int .u8 (xs.getD j 0))) :
    Calls Tryd.prog 138 #[.slice (some ⟨b, off, none⟩) n c, .func (.func 124) #[] #[.pointer (some ⟨B, 0, none⟩)]] w fun e w' => e = .returned (.int .i64 (idxFrom p xs n 0)) ∧ ∃ q, w' = w.drewN q := by
  have HC := Aside0.mk hc
  have HP := Aside0.mk hp
  clear hc hp
  go_enter Tryd.func138, Tryd.ntmps138
  go_wp2
  go_loopg [5, 8] n (fun gg _ s8 wr => ∃ kk q : Nat, kk ≤ n ∧ n - kk ≤ gg ∧ s8 = .int .i64 kk ∧ wr = w.drewN q ∧ Aside0 (idxFrom p xs n 0 = idxFrom p xs (n - kk) kk))
  case atStart => exact ⟨0, 0, Nat.zero_le _, by omega, rfl, rfl, ⟨rfl⟩⟩
  case round =>
    obtain ⟨kk, q, hkk, hg, rfl, rfl, A⟩ := hrel
    by_cases hlt : kk < n
    · have hltz : (kk : Int) < (n : Int) := by omega
      have hcell := HC.out kk (by omega)
      clear HC
      have B2 : Aside0 (idxFrom p xs n 0 = if p (xs.getD kk 0) = true then (kk : Int) else idxFrom p xs (n - (kk + 1)) (kk + 1)) := ⟨by
        rw [A.out, show n - kk = (n - (kk + 1)) + 1 by omega]; rfl⟩
      clear A
      generalize xs.getD kk 0 = y at hcell B2
      have hcall := fun q => HP.out q y
      clear HP
      cases hq : p y with
      | true =>
        rw [hq] at hcall
        go_wp2_with (go_at_call 124; refine (hcall _).mono ?_; rintro e w' ⟨rfl, q', rfl⟩)
        go_ret
        refine ⟨?_, _, rfl⟩
        rw [B2.out, hq, if_pos rfl]
        rfl
      | false =>
        rw [hq] at hcall
        go_wp2_with (go_at_call 124; refine (hcall _).mono ?_; rintro e w' ⟨rfl, q', rfl⟩)
        go_roundg (n - (kk + 1))
        case measure => omega
        case rel => exact ⟨kk + 1, _, by omega, by omega, by go_num, rfl, ⟨by rw [B2.out, hq, if_neg (by simp)]⟩⟩
    · have hltz : ¬ (kk : Int) < (n : Int) := by omega
      obtain rfl : kk = n := by omega
      clear HC HP
      go_wp2
      go_ret
      refine ⟨?_, _, rfl⟩
      rw [A.out, Nat.sub_self]
      rfl
set_option maxHeartbeats 1000000 in
theorem contains_bytes_calls (p : Int → Bool) (B b off n c : Nat) (xs : List Int) (w : World)
    (hp : ∀ (q : Nat) (x : Int), Calls Tryd.prog 124 #[.int .u8 x, .pointer (some ⟨B, 0, none⟩)] (w.drewN q) fun e w' => e = .returned (.bool (p x)) ∧ ∃ q', w' = (w.drewN q).drewN q') (hbig : n ≤ 9223372036854775807)
    (hc : ∀ j, j < n → w.cell? ⟨b, off + j, none⟩ = some (.int .u8 (xs.getD j 0))) :
    Calls Tryd.prog 123 #[.slice (some ⟨b, off, none⟩) n c, .func (.func 124) #[] #[.pointer (some ⟨B, 0, none⟩)]] w fun e w' => e = .returned (.bool (decide (0 ≤ idxFrom p xs n 0))) ∧ ∃ q, w' = w.drewN q := by
  have hC := idx_bytes_calls p B b off n c xs w hp hbig hc
  clear hp hc
  go_enter Tryd.func123, Tryd.ntmps123
  go_wp2_with (go_at_call 138; refine hC.mono ?_; rintro e w' ⟨rfl, q, rfl⟩)
  go_ret
  exact ⟨rfl, q, rfl⟩
set_option maxHeartbeats 1000000 in
theorem areAll_bytes_calls (p : Int → Bool) (g : Nat) (lb : Array Value) (b off n c : Nat) (xs : List Int) (w : World)
    (hp : ∀ (W : World) (x : Int), W.cell? ⟨w.heap.size, 0, none⟩ = some (.func (.func g) #[] lb) → Below w.heap.size w W → Calls Tryd.prog 124 #[.int .u8 x, .pointer (some ⟨w.heap.size, 0, none⟩)] W fun e w' => e = .returned (.bool (!p x)) ∧ ∃ q, w' = W.drewN q) (hbig : n ≤ 9223372036854775807) (hb : b < w.heap.size)
    (hc : ∀ j, j < n → w.cell? ⟨b, off + j, none⟩ = some (.int .u8 (xs.getD j 0))) :
    Calls Tryd.prog 99 #[.slice (some ⟨b, off, none⟩) n c, .func (.func g) #[] lb] w fun e w' => e = .returned (.bool (!decide (0 ≤ idxFrom (fun x => !p x) xs n 0))) ∧ Below w.heap.size w w' := by
  have hC := fun (W : World) (hW : ∀ j, j < n → W.cell? ⟨b, off + j, none⟩ = some (.int .u8 (xs.getD j 0))) (hB : W.cell? ⟨w.heap.size, 0, none⟩ = some (.func (.func g) #[] lb)) (hBel : Below w.heap.size w W) =>
    contains_bytes_calls (fun x => !p x) w.heap.size b off n c xs W (fun q x => hp _ x hB (pw_below_drewN hBel q)) hbig hW
  have hc2 : Aside0 (∀ o : Obj, ∀ j, j < n → (w.alloc o).cell? ⟨b, off + j, none⟩ = some (.int .u8 (xs.getD j 0))) := ⟨fun o j hj => by
    rw [← hc j hj]; exact (below_alloc (Below.refl _ w) o).cell (p := ⟨b, off + j, none⟩) hb⟩
  clear hc hp
  go_enter Tryd.func99, Tryd.ntmps99
  go_wp2_with (go_at_call 123; refine (hC _ (hc2.out _) (by simp) (below_alloc (Below.refl _ _) _)).mono ?_; rintro e w' ⟨rfl, q, rfl⟩)
  go_ret
  exact ⟨rfl, pw_below_drewN (below_alloc (Below.refl _ _) _) _⟩
set_option maxHeartbeats 1000000 in
theorem areBytes_any (p : Int → Bool) (g : Nat) (lb : Array Value) (s : ByteArray) (hs : s.size ≤ 140737488355328) (w : World)
    (hp : ∀ (B : Nat) (W : World) (x : Int), W.cell? ⟨B, 0, none⟩ = some (.func (.func g) #[] lb) → Below w.heap.size w W → Calls Tryd.prog 124 #[.int .u8 x, .pointer (some ⟨B, 0, none⟩)] W fun e w' => e = .returned (.bool (!p x)) ∧ ∃ q, w' = W.drewN q) :
    Calls Tryd.prog 73 #[.string s, .func (.func g) #[] lb] w fun e w' => e = .returned (.bool (allB p s)) ∧ Below w.heap.size w w' := by
  have hC := fun (W : World) (b : Nat) (c : Nat) (hBel : Below w.heap.size w W) (hlt : w.heap.size ≤ W.heap.size) (hb : b < W.heap.size) (hW : ∀ j, j < s.size → W.cell? ⟨b, 0 + j, none⟩ = some (.int .u8 ((bytesOf s).getD j 0))) => areAll_bytes_calls p g lb b 0 s.size c (bytesOf s) W (fun W2 x hc h2 => hp _ W2 x hc (below_then hBel hlt h2)) (by omega) hb hW
  clear hp
  have kb := fun W => print_bytes (P := Tryd.prog) 9 71 5 Tryd.underlying9 Tryd.underlying71 Tryd.underlying5 s W
  have hr : Aside0 (∀ j, j < s.size → (Lib.bytesWorld w 5 s).cell? ⟨w.heap.size, 0 + j, none⟩ = some (.int .u8 ((bytesOf s).getD j 0))) := ⟨fun j hj => by
    rw [Nat.zero_add, Lib.bytesWorld_cell w _ s j hj]
    have h' : j < s.data.toList.length := by rw [data_length]; exact hj
    simp [bytesOf, List.getD_eq_getElem?_getD, List.getElem?_eq_getElem h']⟩
  have hlt : w.heap.size < (Lib.bytesWorld w 5 s).heap.size := by rw [Lib.bytesWorld_size]; omega
  have HLT := Aside0.mk hlt
  have HS := Aside0.mk hs
  clear hlt hs
  go_enter Tryd.func73, Tryd.ntmps73
  go_wp2_with (go_at_call 99; refine (hC _ _ _ (bytes_below (Below.refl _ _) (Nat.le_refl _) _ s) (Nat.le_of_lt HLT.out) HLT.out hr.out).mono ?_; rintro e w' ⟨rfl, hb⟩)
  go_ret
  refine ⟨?_, below_then (bytes_below (Below.refl _ _) (Nat.le_refl _) _ s) (Nat.le_of_lt HLT.out) hb⟩
  rw [idxFrom_nonneg, any_range_bytes, Bool.not_not]
  rfl
def pSign (x : Int) : Bool := decide (33 ≤ x) && decide (x ≤ 126)
theorem pSign_calls (x : Int) (W : World) : Calls Tryd.prog 74 #[.int .u8 x] W fun e w' => e = .returned (.bool (pSign x)) ∧ ∃ q, w' = W.drewN q := by
  by_cases h1 : 33 ≤ x <;> by_cases h2 : x ≤ 126
  all_goals
    go_enter Tryd.func74, Tryd.ntmps74
    go_wp2
    all_goals first | (exfalso; omega) | (go_ret; exact ⟨by simp [pSign, h1, h2], 0, rfl⟩)
theorem pSign_not (B : Nat) (W : World) (x : Int) (hc : W.cell? ⟨B, 0, none⟩ = some (.func (.func 74) #[] #[])) :
    Calls Tryd.prog 124 #[.int .u8 x, .pointer (some ⟨B, 0, none⟩)] W fun e w' => e = .returned (.bool (!pSign x)) ∧ ∃ q, w' = W.drewN q := by
  have hp := fun W => pSign_calls x W
  go_enter Tryd.func124, Tryd.ntmps124
  go_wp2_with (go_at_call 74; refine (hp _).mono ?_; rintro e w' ⟨rfl, q, rfl⟩)
  go_ret
  exact ⟨rfl, q, rfl⟩
def pPart (x : Int) : Bool := (decide (33 ≤ x) && decide (x ≤ 126)) && (x != 47)
theorem pPart_calls (x : Int) (W : World) : Calls Tryd.prog 122 #[.int .u8 x] W fun e w' => e = .returned (.bool (pPart x)) ∧ ∃ q, w' = W.drewN q := by
  by_cases h1 : 33 ≤ x <;> by_cases h2 : x ≤ 126 <;> by_cases h3 : x = 47
  all_goals
    go_enter Tryd.func122, Tryd.ntmps122
    go_wp2
    all_goals first | (exfalso; omega) | (go_ret; exact ⟨by simp [pPart, h1, h2, h3], 0, rfl⟩)
theorem pPart_not (B : Nat) (W : World) (x : Int) (hc : W.cell? ⟨B, 0, none⟩ = some (.func (.func 122) #[] #[])) :
    Calls Tryd.prog 124 #[.int .u8 x, .pointer (some ⟨B, 0, none⟩)] W fun e w' => e = .returned (.bool (!pPart x)) ∧ ∃ q, w' = W.drewN q := by
  have hp := fun W => pPart_calls x W
  go_enter Tryd.func124, Tryd.ntmps124
  go_wp2_with (go_at_call 122; refine (hp _).mono ?_; rintro e w' ⟨rfl, q, rfl⟩)
  go_ret
  exact ⟨rfl, q, rfl⟩
def pUser (x : Int) : Bool := ((decide (97 ≤ x) && decide (x ≤ 122)) || (decide (48 ≤ x) && decide (x ≤ 57))) || (x == 95)
theorem pUser_calls (x : Int) (W : World) : Calls Tryd.prog 98 #[.int .u8 x] W fun e w' => e = .returned (.bool (pUser x)) ∧ ∃ q, w' = W.drewN q := by
  by_cases h1 : 97 ≤ x <;> by_cases h2 : x ≤ 122 <;> by_cases h3 : 48 ≤ x <;> by_cases h4 : x ≤ 57 <;> by_cases h5 : x = 95
  all_goals
    go_enter Tryd.func98, Tryd.ntmps98
    go_wp2
    all_goals first | (exfalso; omega) | (go_ret; exact ⟨by simp [pUser, h1, h2, h3, h4, h5], 0, rfl⟩)
theorem pUser_not (B : Nat) (W : World) (x : Int) (hc : W.cell? ⟨B, 0, none⟩ = some (.func (.func 98) #[] #[])) :
    Calls Tryd.prog 124 #[.int .u8 x, .pointer (some ⟨B, 0, none⟩)] W fun e w' => e = .returned (.bool (!pUser x)) ∧ ∃ q, w' = W.drewN q := by
  have hp := fun W => pUser_calls x W
  go_enter Tryd.func124, Tryd.ntmps124
  go_wp2_with (go_at_call 98; refine (hp _).mono ?_; rintro e w' ⟨rfl, q, rfl⟩)
  go_ret
  exact ⟨rfl, q, rfl⟩
def impl_areBytes.f (a0 : ByteArray) (a1 : Nat) : Option Bool :=
  if a0.size ≤ 140737488355328 then (
    if a1 = 74 then some (allB pSign a0) else
    if a1 = 122 then some (allB pPart a0) else
    if a1 = 98 then some (allB pUser a0) else
    none) else none
theorem impl_areBytes.calls (a0 : ByteArray) (a1 : Nat) (r : Bool) (w : World) (h : impl_areBytes.f a0 a1 = some r) :
    Calls Tryd.prog 73 #[.string a0, .func (.func a1) #[] #[]] w fun e w' => e = .returned (.bool r) ∧ Below w.heap.size w w' := by
  unfold impl_areBytes.f at h
  by_cases hs : a0.size ≤ 140737488355328
  · rw [if_pos hs] at h
    by_cases c0 : a1 = 74
    · rw [if_pos c0] at h
      subst c0
      obtain rfl := Option.some.inj h
      exact areBytes_any pSign _ #[] a0 hs w (fun B W x hc _ => pSign_not B W x hc)
    rw [if_neg c0] at h
    by_cases c1 : a1 = 122
    · rw [if_pos c1] at h
      subst c1
      obtain rfl := Option.some.inj h
      exact areBytes_any pPart _ #[] a0 hs w (fun B W x hc _ => pPart_not B W x hc)
    rw [if_neg c1] at h
    by_cases c2 : a1 = 98
    · rw [if_pos c2] at h
      subst c2
      obtain rfl := Option.some.inj h
      exact areBytes_any pUser _ #[] a0 hs w (fun B W x hc _ => pUser_not B W x hc)
    rw [if_neg c2] at h
    cases h
  · rw [if_neg hs] at h
    cases h

/-! ### impl_PartOk: function 97 -/
def impl_PartOk.f (a0 : ByteArray) : Option (Bool) := (impl_within.f (a0.size : Int) 1 60).bind fun t177 => (if t177 = true then (if a0.toList = ([46] : List UInt8) then (some false) else (if a0.toList = ([46, 46] : List UInt8) then (some false) else ((impl_areBytes.f a0 122).bind fun t178 => (some t178)))) else (some false))
set_option maxHeartbeats 8000000 in
set_option maxRecDepth 100000 in
theorem impl_PartOk.calls (a0 : ByteArray) (r : Bool) (w : World) (h : impl_PartOk.f a0 = some r) :
    Calls Tryd.prog 97 #[.string a0] w fun e w' => e = .returned (.bool r) ∧ Below w.heap.size w w' := by
  have HB := Aside0.mk (Below.refl w.heap.size w)
  have H : ((impl_within.f (a0.size : Int) 1 60).bind fun t177 => (if t177 = true then (if a0.toList = ([46] : List UInt8) then (some false) else (if a0.toList = ([46, 46] : List UInt8) then (some false) else ((impl_areBytes.f a0 122).bind fun t178 => (some t178)))) else (some false))) = some r := h
  clear h
  replace H := Option.bind_eq_some_iff.mp H
  obtain ⟨t177, A20, H⟩ := H
  replace H : (if t177 = true then (if a0.toList = ([46] : List UInt8) then (some false) else (if a0.toList = ([46, 46] : List UInt8) then (some false) else ((impl_areBytes.f a0 122).bind fun t178 => (some t178)))) else (some false)) = some r := H
  have A2 := Aside0.mk A20
  clear A20
  by_cases c3 : t177 = true
  · subst c3
    have H1 : (if a0.toList = ([46] : List UInt8) then (some false) else (if a0.toList = ([46, 46] : List UInt8) then (some false) else ((impl_areBytes.f a0 122).bind fun t178 => (some t178)))) = some r := by rw [if_pos rfl] at H; exact H
    clear H
    have H := H1
    clear H1
    by_cases c4 : a0.toList = ([46] : List UInt8)
    · rw [if_pos c4] at H
      have c4b0 : (a0.toList == ([46] : List UInt8)) = true := beq_iff_eq.mpr c4
      have c4b1 : (a0.toList != ([46] : List UInt8)) = false := bne_eq_false_iff_eq.mpr c4
      clear c4
      obtain rfl := Option.some.inj H
      go_enter Tryd.func97, Tryd.ntmps97
      go_wp2_with (first | ((with_reducible refine gate_callee (f := 55) rfl ?_); refine goesL_ (some 5) rfl rfl Tryd.func55 (by kernel_rfl) rfl #[.int .i64 (a0.size : Int), .int .i64 1, .int .i64 60] rfl (by (try simp only [List.map_toArray, List.map_cons, List.map_nil]); first | done | rfl | (simp only [List.length_drop, List.length_take]; rfl)) ?_; (with_reducible refine (impl_within.calls (a0.size : Int) 1 60 true _ A2.out).mono ?_); rintro e w' ⟨rfl, ⟨nd, rfl⟩⟩; refine ⟨_, rfl, ?_⟩))
      go_ret
      exact ⟨by first | rfl | (simp [errW_none, errW_some] <;> rfl) | (simp [*, errW_none, errW_some] <;> rfl) | (simp only [decide_eq_true_eq] at *; simp [*, bt]; done), by repeat (first | (with_reducible first | exact HB.out | apply below_alloc | apply pw_below_drewN | apply below_drew1) | exact HB.out)⟩
    · rw [if_neg c4] at H
      have c4b0 : (a0.toList == ([46] : List UInt8)) = false := beq_eq_false_iff_ne.mpr c4
      have c4b1 : (a0.toList != ([46] : List UInt8)) = true := bne_iff_ne.mpr c4
      by_cases c5 : a0.toList = ([46, 46] : List UInt8)
      · rw [if_pos c5] at H
        have c5b0 : (a0.toList == ([46, 46] : List UInt8)) = true := beq_iff_eq.mpr c5
        have c5b1 : (a0.toList != ([46, 46] : List UInt8)) = false := bne_eq_false_iff_eq.mpr c5
        clear c5
        obtain rfl := Option.some.inj H
        go_enter Tryd.func97, Tryd.ntmps97
        go_wp2_with (first | ((with_reducible refine gate_callee (f := 55) rfl ?_); refine goesL_ (some 5) rfl rfl Tryd.func55 (by kernel_rfl) rfl #[.int .i64 (a0.size : Int), .int .i64 1, .int .i64 60] rfl (by (try simp only [List.map_toArray, List.map_cons, List.map_nil]); first | done | rfl | (simp only [List.length_drop, List.length_take]; rfl)) ?_; (with_reducible refine (impl_within.calls (a0.size : Int) 1 60 true _ A2.out).mono ?_); rintro e w' ⟨rfl, ⟨nd, rfl⟩⟩; refine ⟨_, rfl, ?_⟩))
        go_ret
        exact ⟨by first | rfl | (simp [errW_none, errW_some] <;> rfl) | (simp [*, errW_none, errW_some] <;> rfl) | (simp only [decide_eq_true_eq] at *; simp [*, bt]; done), by repeat (first | (with_reducible first | exact HB.out | apply below_alloc | apply pw_below_drewN | apply below_drew1) | exact HB.out)⟩
      · rw [if_neg c5] at H
        have c5b0 : (a0.toList == ([46, 46] : List UInt8)) = false := beq_eq_false_iff_ne.mpr c5
        have c5b1 : (a0.toList != ([46, 46] : List UInt8)) = true := bne_iff_ne.mpr c5
        replace H := Option.bind_eq_some_iff.mp H
        obtain ⟨t178, A60, H⟩ := H
        replace H : (some t178) = some r := H
        have A6 := Aside0.mk A60
        clear A60
        obtain rfl := Option.some.inj H
        go_enter Tryd.func97, Tryd.ntmps97
        go_wp2_with (first | ((with_reducible refine gate_callee (f := 55) rfl ?_); refine goesL_ (some 5) rfl rfl Tryd.func55 (by kernel_rfl) rfl #[.int .i64 (a0.size : Int), .int .i64 1, .int .i64 60] rfl (by (try simp only [List.map_toArray, List.map_cons, List.map_nil]); first | done | rfl | (simp only [List.length_drop, List.length_take]; rfl)) ?_; (with_reducible refine (impl_within.calls (a0.size : Int) 1 60 true _ A2.out).mono ?_); rintro e w' ⟨rfl, ⟨nd, rfl⟩⟩; refine ⟨_, rfl, ?_⟩) | (go_at_call 73; (with_reducible refine (impl_areBytes.calls a0 122 t178 _ A6.out).mono ?_); rintro e w7 ⟨rfl, hb⟩; have n0_ := Aside0.mk (below_step (by repeat (first | (with_reducible first | exact HB.out | apply below_alloc | apply pw_below_drewN | apply below_drew1) | exact HB.out)) hb); clear HB; have HB := n0_; clear n0_; (try clear hb); (try clear hb2); (try clear hk); (try clear hi)))
        go_ret
        exact ⟨by first | rfl | (simp [errW_none, errW_some] <;> rfl) | (simp [*, errW_none, errW_some] <;> rfl) | (simp only [decide_eq_true_eq] at *; simp [*, bt]; done), by repeat (first | (with_reducible first | exact HB.out | apply below_alloc | apply pw_below_drewN | apply below_drew1) | exact HB.out)⟩
  · replace c3 := Bool.eq_false_iff.mpr c3
    subst c3
    have H1 : (some false) = some r := by rw [if_neg (show ¬ (false = true) by decide)] at H; exact H
    clear H
    have H := H1
    clear H1
    obtain rfl := Option.some.inj H
    go_enter Tryd.func97, Tryd.ntmps97
    go_wp2_with (first | ((with_reducible refine gate_callee (f := 55) rfl ?_); refine goesL_ (some 5) rfl rfl Tryd.func55 (by kernel_rfl) rfl #[.int .i64 (a0.size : Int), .int .i64 1, .int .i64 60] rfl (by (try simp only [List.map_toArray, List.map_cons, List.map_nil]); first | done | rfl | (simp only [List.length_drop, List.length_take]; rfl)) ?_; (with_reducible refine (impl_within.calls (a0.size : Int) 1 60 false _ A2.out).mono ?_); rintro e w' ⟨rfl, ⟨nd, rfl⟩⟩; refine ⟨_, rfl, ?_⟩))
    go_ret
    exact ⟨by first | rfl | (simp [errW_none, errW_some] <;> rfl) | (simp [*, errW_none, errW_some] <;> rfl) | (simp only [decide_eq_true_eq] at *; simp [*, bt]; done), by repeat (first | (with_reducible first | exact HB.out | apply below_alloc | apply pw_below_drewN | apply below_drew1) | exact HB.out)⟩

/-! ### impl_areAll_string: function 95, by a contract of our own -/
/-- The first place of which a predicate does not hold, or -1. -/
def idxS (p : ByteArray → Option Bool) : List ByteArray → Nat → Option Int
  | [], _ => some (-1)
  | x :: l, k => (p x).bind fun b => if b = true then idxS p l (k + 1) else some (k : Int)
/-- A predicate of all. -/
def allS (p : ByteArray → Option Bool) : List ByteArray → Option Bool
  | [] => some true
  | x :: l => (p x).bind fun b => if b = true then allS p l else some false
theorem idxS_allS (p : ByteArray → Option Bool) : ∀ (l : List ByteArray) (k : Nat) (b : Bool), allS p l = some b → ∃ r, idxS p l k = some r ∧ (!decide (0 ≤ r)) = b
  | [], k, b, h => by
    obtain rfl := Option.some.inj h
    exact ⟨-1, rfl, rfl⟩
  | x :: l, k, b, h => by
    simp only [allS] at h
    obtain ⟨c, hc, h⟩ := Option.bind_eq_some_iff.mp h
    simp only [idxS, hc, Option.bind_some]
    cases c with
    | true => exact idxS_allS p l (k + 1) b h
    | false =>
      simp only [Bool.false_eq_true, if_false] at h ⊢
      obtain rfl := Option.some.inj h
      exact ⟨_, rfl, by simp⟩
set_option maxHeartbeats 2000000 in
theorem idx_str_calls (p : ByteArray → Option Bool) (B : Nat) (A : Option Addr) (c : Nat) (l : List ByteArray) (r : Int) (w : World)
    (hp : ∀ (W : World) (x : ByteArray) (b : Bool), Below w.heap.size w W → p x = some b → Calls Tryd.prog 120 #[.string x, .pointer (some ⟨B, 0, none⟩)] W fun e w' => e = .returned (.bool (!b)) ∧ Below W.heap.size W w')
    (hr0 : Kd.C Kd.string w A l.length l) (h : idxS p l 0 = some r) :
    Calls Tryd.prog 136 #[.slice A l.length c, .func (.func 120) #[] #[.pointer (some ⟨B, 0, none⟩)]] w fun e w' => e = .returned (.int .i64 r) ∧ Below w.heap.size w w' := by
  have hbig : l.length ≤ 9223372036854775807 := Kd.C_max hr0
  have HR := Aside0.mk fun (W : World) (hb : Below w.heap.size w W) => Kd.C_below hr0 hb
  have HP := Aside0.mk hp
  have H0 := Aside0.mk h
  clear hr0 hp h
  go_enter Tryd.func136, Tryd.ntmps136
  go_wp2
  go_loopg [5, 8] l.length (fun gg _ s8 wr => ∃ kk : Nat, kk ≤ l.length ∧ l.length - kk ≤ gg ∧ s8 = .int .i64 kk ∧ Aside0 (Below w.heap.size w wr) ∧ Aside0 (idxS p (l.drop kk) kk = some r))
  case atStart => exact ⟨0, Nat.zero_le _, by omega, rfl, ⟨Below.refl _ _⟩, H0⟩
  case round =>
    obtain ⟨kk, hkk, hg, rfl, HB, HA⟩ := hrel
    clear H0
    by_cases hlt : kk < l.length
    · have hltz : (kk : Int) < (l.length : Int) := by omega
      obtain ⟨ad, rfl, hcell⟩ := Kd.at_string (HR.out _ HB.out) (kk : Int) (by omega) (by omega)
      have hd : l.drop kk = rdOf ByteArray.empty l (kk : Int) :: l.drop (kk + 1) := by
        unfold rdOf
        rw [Int.toNat_natCast, List.getD_eq_getElem?_getD, List.getElem?_eq_getElem hlt]
        exact List.drop_eq_getElem_cons hlt
      have H := HA.out
      rw [hd] at H
      simp only [idxS] at H
      obtain ⟨b, hb, H⟩ := Option.bind_eq_some_iff.mp H
      clear HA hd
      have hcall := fun (W : World) (hW : Below w.heap.size w W) => HP.out W _ b hW hb
      clear HP hb
      rw [Int.toNat_natCast] at hcell
      generalize rdOf ByteArray.empty l (kk : Int) = y at hcell hcall
      have HC := Aside0.mk hcall
      clear hcall
      cases b with
      | false =>
        have H' := Aside0.mk H
        clear H
        go_wp2_with (go_at_call 120; refine (HC.out _ (by repeat (first | exact HB.out | apply Below.drew))).mono ?_; rintro e w' ⟨rfl, hb1⟩)
        go_ret
        have e := H'.out
        simp only [Bool.false_eq_true, if_false] at e
        obtain rfl := Option.some.inj e
        exact ⟨rfl, HB.out.trans (hb1.mono HB.out.size)⟩
      | true =>
        have H' := Aside0.mk H
        clear H
        go_wp2_with (go_at_call 120; refine (HC.out _ (by repeat (first | exact HB.out | apply Below.drew))).mono ?_; rintro e w' ⟨rfl, hb1⟩)
        go_roundg (l.length - (kk + 1))
        case measure => omega
        case rel => exact ⟨kk + 1, by omega, by omega, by go_num, ⟨HB.out.trans (hb1.mono HB.out.size)⟩, ⟨by simpa using H'.out⟩⟩
    · have hltz : ¬ (kk : Int) < (l.length : Int) := by omega
      obtain rfl : kk = l.length := by omega
      clear HR HP
      go_wp2
      go_ret
      have e := HA.out
      rw [List.drop_length] at e
      obtain rfl := Option.some.inj e
      exact ⟨rfl, HB.out⟩
set_option maxHeartbeats 1000000 in
theorem contains_str_calls (p : ByteArray → Option Bool) (B : Nat) (A : Option Addr) (c : Nat) (l : List ByteArray) (r : Int) (w : World)
    (hp : ∀ (W : World) (x : ByteArray) (b : Bool), Below w.heap.size w W → p x = some b → Calls Tryd.prog 120 #[.string x, .pointer (some ⟨B, 0, none⟩)] W fun e w' => e = .returned (.bool (!b)) ∧ Below W.heap.size W w')
    (hr0 : Kd.C Kd.string w A l.length l) (h : idxS p l 0 = some r) :
    Calls Tryd.prog 119 #[.slice A l.length c, .func (.func 120) #[] #[.pointer (some ⟨B, 0, none⟩)]] w fun e w' => e = .returned (.bool (decide (0 ≤ r))) ∧ Below w.heap.size w w' := by
  have hC := idx_str_calls p B A c l r w hp hr0 h
  clear hp hr0 h
  go_enter Tryd.func119, Tryd.ntmps119
  go_wp2_with (go_at_call 136; refine hC.mono ?_; rintro e w' ⟨rfl, hb⟩)
  go_ret
  exact ⟨rfl, hb⟩
theorem partOk_not (B : Nat) (W : World) (x : ByteArray) (b : Bool) (hc : W.cell? ⟨B, 0, none⟩ = some (.func (.func 97) #[] #[])) (hb : impl_PartOk.f x = some b) :
    Calls Tryd.prog 120 #[.string x, .pointer (some ⟨B, 0, none⟩)] W fun e w' => e = .returned (.bool (!b)) ∧ Below W.heap.size W w' := by
  have hp := fun W => impl_PartOk.calls x b W hb
  clear hb
  go_enter Tryd.func120, Tryd.ntmps120
  go_wp2_with (go_at_call 97; refine (hp _).mono ?_; rintro e w' ⟨rfl, hb⟩)
  go_ret
  exact ⟨rfl, hb⟩
def impl_areAll_string.f (l0 : List ByteArray) (a1 : Nat) : Option Bool := if a1 = 97 then allS impl_PartOk.f l0 else none
set_option maxHeartbeats 1000000 in
theorem impl_areAll_string.calls (A0 : Option Addr) (c0 : Nat) (l0 : List ByteArray) (a1 : Nat) (r : Bool) (w : World) (hr0 : Kd.C Kd.string w A0 l0.length l0) (hc0 : l0.length ≤ c0) (h : impl_areAll_string.f l0 a1 = some r) :
    Calls Tryd.prog 95 #[.slice A0 l0.length c0, .func (.func a1) #[] #[]] w fun e w' => e = .returned (.bool r) ∧ Below w.heap.size w w' := by
  unfold impl_areAll_string.f at h
  by_cases h1 : a1 = 97
  · rw [if_pos h1] at h
    subst h1
    obtain ⟨i, hi, hr⟩ := idxS_allS _ l0 0 r h
    have HC := Aside0.mk fun (W : World) (hW : Kd.C Kd.string W A0 l0.length l0) (hB : ∀ W1, Below W.heap.size W W1 → W1.cell? ⟨w.heap.size, 0, none⟩ = some (.func (.func 97) #[] #[])) =>
      contains_str_calls impl_PartOk.f w.heap.size A0 c0 l0 i W (fun W1 x b hb1 hx => partOk_not _ W1 x b (hB W1 hb1) hx) hW hi
    have HR := Aside0.mk fun o => Kd.C_alloc hr0 o
    have HE := Aside0.mk hr
    clear h hi hr hr0
    go_enter Tryd.func95, Tryd.ntmps95
    go_wp2_with (go_at_call 119; refine (HC.out _ (HR.out _) (fun W1 hb => by rw [hb.cell (by simp)]; simp)).mono ?_; rintro e w' ⟨rfl, hb⟩)
    go_ret
    exact ⟨by rw [← HE.out]; rfl, (below_alloc (Below.refl _ _) _).trans (hb.mono (by simp))⟩
  · rw [if_neg h1] at h
    cases h

/-! ### strings_explode: function 144, by a contract of our own -/
/-- No call of ours comes here: nothing is said of it. -/
def strings_explode.f (a0 : ByteArray) (a1 : Int) : Option (List ByteArray) := none
theorem strings_explode.calls (a0 : ByteArray) (a1 : Int) (r : List ByteArray) (w : World) (h : strings_explode.f a0 a1 = some r) :
    Calls Tryd.prog 144 #[.string a0, .int .i64 a1] w fun e w' => ∃ v0_ : Value, e = .returned v0_ ∧ Kd.R Kd.string 9 w' w.heap.size (fun _ => True) v0_ r ∧ Below w.heap.size w w' := by
  cases h

/-! ### strings_Count: function 145, by a contract of our own -/
/-- Of a text of one byte alone. -/
def strings_Count.f (a0 a1 : ByteArray) : Option Int := if a1.size = 1 then some ((Lib.countByte a0.data.toList (a1.data.toList.headD 0) : Nat) : Int) else none
set_option maxRecDepth 100000 in
set_option maxHeartbeats 1000000 in
theorem strings_Count.calls (a0 a1 : ByteArray) (r : Int) (w : World) (h : strings_Count.f a0 a1 = some r) :
    Calls Tryd.prog 145 #[.string a0, .string a1] w fun e w' => e = .returned (.int .i64 r) ∧ Drawn0 w w' := by
  unfold strings_Count.f at h
  by_cases h1 : a1.size = 1
  · rw [if_pos h1] at h
    obtain ⟨c, rfl⟩ : ∃ c, a1 = ⟨#[c]⟩ := by
      obtain ⟨⟨l⟩⟩ := a1
      match l, h1 with
      | [c], _ => exact ⟨c, rfl⟩
    obtain rfl := Option.some.inj h
    clear h h1
    go_enter Tryd.func145, Tryd.ntmps145
    go_wp2
    rw [run_callFunc_extern Tryd.func153 (by kernel_rfl) (by kernel_rfl) (by kernel_rfl) (e := Extern.BytealgCount.count) (by kernel_rfl), Lib.run_countString]
    simp only [Result.andThen]
    rw [Oper.upon_value]
    go_wp2
    go_ret
    exact ⟨rfl, Drawn0.refl _⟩
  · rw [if_neg h1] at h
    cases h

/-! ### stringslite_IndexByte: function 158, by a contract of our own -/
def stringslite_IndexByte.f (a0 : ByteArray) (a1 : Int) : Option Int := some (Lib.indexByte a0.data.toList a1.toNat.toUInt8)
set_option maxRecDepth 100000 in
set_option maxHeartbeats 1000000 in
theorem stringslite_IndexByte.calls (a0 : ByteArray) (a1 : Int) (r : Int) (w : World) (h : stringslite_IndexByte.f a0 a1 = some r) :
    Calls Tryd.prog 158 #[.string a0, .int .u8 a1] w fun e w' => e = .returned (.int .i64 r) ∧ Drawn0 w w' := by
  obtain rfl := Option.some.inj h
  clear h
  go_enter Tryd.func158, Tryd.ntmps158
  go_wp2
  rw [run_callFunc_extern Tryd.func162 (by kernel_rfl) (by kernel_rfl) (by kernel_rfl) (e := Extern.BytealgIndexByte.indexByte) (by kernel_rfl), Lib.run_indexByteString]
  simp only [Result.andThen]
  rw [Oper.upon_value]
  go_wp2
  go_ret
  exact ⟨rfl, Drawn0.refl _⟩

/-! ### stringslite_Index: function 154, by a contract of our own -/
/-- Of a text of one byte alone. -/
def stringslite_Index.f (a0 a1 : ByteArray) : Option Int := if a1.size = 1 then some (Lib.indexByte a0.data.toList (a1.data.toList.headD 0)) else none
set_option maxRecDepth 100000 in
set_option maxHeartbeats 1000000 in
theorem stringslite_Index.calls (a0 a1 : ByteArray) (r : Int) (w : World) (h : stringslite_Index.f a0 a1 = some r) :
    Calls Tryd.prog 154 #[.string a0, .string a1] w fun e w' => e = .returned (.int .i64 r) ∧ Drawn0 w w' := by
  unfold stringslite_Index.f at h
  by_cases h1 : a1.size = 1
  · rw [if_pos h1] at h
    obtain ⟨c, rfl⟩ : ∃ c, a1 = ⟨#[c]⟩ := by
      obtain ⟨⟨l⟩⟩ := a1
      match l, h1 with
      | [c], _ => exact ⟨c, rfl⟩
    obtain rfl := Option.some.inj h
    clear h h1
    have hC := fun W => stringslite_IndexByte.calls a0 ((c.toNat : Nat) : Int) (Lib.indexByte a0.data.toList c) W (by
      unfold stringslite_IndexByte.f
      rw [Int.toNat_natCast]
      simp)
    cases hq : ([c] == a0.toList) with
    | true =>
      have e : Lib.indexByte a0.data.toList ([c].headD 0) = 0 := by
        rw [← ByteArray.toList_eq, ← beq_iff_eq.1 hq]
        simp [Lib.indexByte]
      have E := Aside0.mk e
      clear e hC
      go_enter Tryd.func154, Tryd.ntmps154
      go_wp2
      go_ret
      exact ⟨by show _ = Ending.returned (.int .i64 (Lib.indexByte a0.data.toList ([c].headD 0))); rw [E.out]; rfl, by repeat (first | exact Drawn0.refl _ | apply Drawn0.step)⟩
    | false =>
      go_enter Tryd.func154, Tryd.ntmps154
      go_wp2_with (go_at_call 158; refine (hC _).mono ?_; rintro e w' ⟨rfl, ⟨nd, rfl⟩⟩)
      go_ret
      exact ⟨rfl, by repeat (first | exact Drawn0.refl _ | apply Drawn0.step)⟩
  · rw [if_neg h1] at h
    cases h

/-! ### strings_Index: function 146 -/
def strings_Index.f (a0 : ByteArray) (a1 : ByteArray) : Option (Int) := (stringslite_Index.f a0 a1).bind fun t179 => (some t179)
set_option maxHeartbeats 8000000 in
set_option maxRecDepth 100000 in
theorem strings_Index.calls (a0 : ByteArray) (a1 : ByteArray) (r : Int) (w : World) (h : strings_Index.f a0 a1 = some r) :
    Calls Tryd.prog 146 #[.string a0, .string a1] w fun e w' => e = .returned (.int .i64 r) ∧ Drawn0 w w' := by
  have H : ((stringslite_Index.f a0 a1).bind fun t179 => (some t179)) = some r := h
  clear h
  replace H := Option.bind_eq_some_iff.mp H
  obtain ⟨t179, A30, H⟩ := H
  replace H : (some t179) = some r := H
  have A3 := Aside0.mk A30
  clear A30
  obtain rfl := Option.some.inj H
  go_enter Tryd.func146, Tryd.ntmps146
  go_wp2_with (first | ((with_reducible refine gate_callee (f := 154) rfl ?_); refine goesL_ (some 7) rfl rfl Tryd.func154 (by kernel_rfl) rfl #[.string a0, .string a1] rfl (by (try simp only [List.map_toArray, List.map_cons, List.map_nil]); first | done | rfl | (simp only [List.length_drop, List.length_take]; rfl)) ?_; (with_reducible refine (stringslite_Index.calls a0 a1 t179 _ A3.out).mono ?_); rintro e w' ⟨rfl, ⟨nd, rfl⟩⟩; refine ⟨_, rfl, ?_⟩))
  go_ret
  exact ⟨by first | rfl | (simp; done) | (simp [*]; done), by repeat (first | exact Drawn0.refl _ | apply Drawn0.step)⟩

end Go.Proofs.YtgmggpgcfonmgaaDoor.PFnExactListText
