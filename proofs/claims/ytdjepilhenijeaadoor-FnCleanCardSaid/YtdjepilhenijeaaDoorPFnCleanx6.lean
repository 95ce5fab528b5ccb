-- PRINTED for this claim by a program of this session's repo over the kit's printer, with contracts of our own among the functions.
import Derived.Test.YtdjepilhenijeaaDoorPFnCleanx0
import Derived.Test.YtdjepilhenijeaaDoorPFnCleanx1
import Derived.Test.YtdjepilhenijeaaDoorPFnCleanx2
import Derived.Test.YtdjepilhenijeaaDoorPFnCleanx3
import Derived.Test.YtdjepilhenijeaaDoorPFnCleanx4
import Derived.Test.YtdjepilhenijeaaDoorPFnCleanx5
namespace Go.Proofs.YtdjepilhenijeaaDoor.PFnClean
open Go.RowKit Go.Proofs.YtdjepilhenijeaaDoorW.PrintWords Go.Proofs.YtdjepilhenijeaaDoorW.PrintLast Go.Proofs.YtdjepilhenijeaaDoorW.PrintMore
attribute [local go_sem] max2_int min2_int max_two min_two max_three min_three max_four min_four   -- for this text's walks alone
set_option linter.unusedVariables false
set_option linter.unusedSimpArgs false

/-! ### impl_Follow: function 12 -/
def impl_Follow.j0 : Nat → ByteArray → ByteArray → Bool → Option (ByteArray × Bool)
  | 0, _, _, _ => none
  | k + 1, x0, x1, x11 => if x11 = true then ((impl_Clean.f k x1).bind fun bt319 => (some (bt319.1, bt319.2))) else (if x0.size + 1 ≤ 9223372036854775807 then (if (x0 ++ (⟨#[47]⟩ : ByteArray)).size + x1.size ≤ 9223372036854775807 then ((impl_Clean.f k ((x0 ++ (⟨#[47]⟩ : ByteArray)) ++ x1)).bind fun bt321 => (some (bt321.1, bt321.2))) else (none)) else (none))
def impl_Follow.f (k : Nat) (a0 : ByteArray) (a1 : ByteArray) : Option (ByteArray × Bool) := if a0.toList = ([] : List UInt8) then (impl_Follow.j0 k a0 a1 true) else ((strings_HasPrefix.f a1 (⟨#[47]⟩ : ByteArray)).bind fun t318 => (impl_Follow.j0 k a0 a1 t318))
theorem impl_Follow.mono_l : ∀ k, (∀ y0 y1 y2, LeO (impl_Follow.j0 k y0 y1 y2) (impl_Follow.j0 (k + 1) y0 y1 y2))
  | 0 => fun _ _ _ r h => by simp [impl_Follow.j0] at h
  | k + 1 => by
    have ih0 := impl_Follow.mono_l k
    · intro y0 y1 y2
      unfold impl_Follow.j0
      repeat' first
      | (with_reducible exact ih0 _ _ _)
      | (with_reducible exact impl_Clean.mono _ _)
      | (with_reducible exact LeO.refl _)
      | (with_reducible exact LeO.none _)
      | (with_reducible refine LeO.ite ?_ ?_)
      | (with_reducible refine LeO.bind ?_ (fun _ => ?_))
      | exact ih0 _ _ _
      | exact impl_Clean.mono _ _
      | exact LeO.none _
      | refine LeO.ite ?_ ?_
      | refine LeO.bind ?_ (fun _ => ?_)
theorem impl_Follow.mono : ∀ a0 a1 k, LeO (impl_Follow.f k a0 a1) (impl_Follow.f (k + 1) a0 a1) := by
  intro a0 a1 k
  have ih0 := impl_Follow.mono_l k
  unfold impl_Follow.f
  repeat' first
      | (with_reducible exact ih0 _ _ _)
      | (with_reducible exact impl_Clean.mono _ _)
      | (with_reducible exact LeO.refl _)
      | (with_reducible exact LeO.none _)
      | (with_reducible refine LeO.ite ?_ ?_)
      | (with_reducible refine LeO.bind ?_ (fun _ => ?_))
      | exact ih0 _ _ _
      | exact impl_Clean.mono _ _
      | exact LeO.none _
      | refine LeO.ite ?_ ?_
      | refine LeO.bind ?_ (fun _ => ?_)
set_option maxHeartbeats 8000000 in
set_option maxRecDepth 100000 in
theorem impl_Follow.calls (k : Nat) (a0 : ByteArray) (a1 : ByteArray) (r1 : ByteArray) (r2 : Bool) (w : World) (h : impl_Follow.f k a0 a1 = some (r1, r2)) :
    Calls Tryd.prog 12 #[.string a0, .string a1] w fun e w' => e = .returned (.tuple #[.string r1, .bool r2]) ∧ Below w.heap.size w w' := by
  have HB := Aside0.mk (Below.refl w.heap.size w)
  have H : (if a0.toList = ([] : List UInt8) then (impl_Follow.j0 k a0 a1 true) else ((strings_HasPrefix.f a1 (⟨#[47]⟩ : ByteArray)).bind fun t318 => (impl_Follow.j0 k a0 a1 t318))) = some (r1, r2) := h
  clear h
  have HC3 := Aside0.mk H
  clear H
  go_enter Tryd.func12, Tryd.ntmps12
  go_upto_region 1 with (fail)
  go_cut [11] (fun v11 wc => ∃ (kq : Nat) (x11_2 : Bool), v11 = .bool x11_2 ∧ Aside0 (impl_Follow.j0 kq a0 a1 x11_2 = some (r1, r2)) ∧ Aside0 (kq ≤ k) ∧ Aside0 (Below w.heap.size w wc))
  case first =>
    have H := HC3.out
    clear HC3
    by_cases c4 : a0.toList = ([] : List UInt8)
    · rw [if_pos c4] at H
      have c4b0 : (a0.toList == ([] : List UInt8)) = true := beq_iff_eq.mpr c4
      have c4b0i : (a0.toList).isEmpty = true := (by cases a0.toList <;> rfl : (a0.toList == ([] : List UInt8)) = (a0.toList).isEmpty).symm.trans c4b0
      have c4b1 : (a0.toList != ([] : List UInt8)) = false := bne_eq_false_iff_eq.mpr c4
      clear c4
      (first | rw [c4b0] | (simp only [i64_w, i32_w]; rw [c4b0]) | skip)
      have H' := Aside0.mk H
      clear H
      go_wp2
      all_goals try (rename_i h_; rw [c4b0i] at h_; cases h_; done)
      go_meet
      case rel => exact ⟨_, (true), (by first | rfl | (simp; done) | (simp [*]; done)), H', ⟨by first | omega | exact Nat.le_refl _⟩, ⟨by repeat (first | (with_reducible first | exact HB.out | apply below_alloc | apply pw_below_drewN | apply below_drew1) | exact HB.out)⟩⟩
    · rw [if_neg c4] at H
      have c4b0 : (a0.toList == ([] : List UInt8)) = false := beq_eq_false_iff_ne.mpr c4
      have c4b0i : (a0.toList).isEmpty = false := (by cases a0.toList <;> rfl : (a0.toList == ([] : List UInt8)) = (a0.toList).isEmpty).symm.trans c4b0
      have c4b1 : (a0.toList != ([] : List UInt8)) = true := bne_iff_ne.mpr c4
      (first | rw [c4b0] | (simp only [i64_w, i32_w]; rw [c4b0]) | skip)
      replace H := Option.bind_eq_some_iff.mp H
      obtain ⟨t318, A50, H⟩ := H
      replace H : (impl_Follow.j0 k a0 a1 t318) = some (r1, r2) := H
      have A5 := Aside0.mk A50
      clear A50
      have H' := Aside0.mk H
      clear H
      go_wp2_with (first | (go_at_call 76; (with_reducible refine (strings_HasPrefix.calls a1 (⟨#[47]⟩ : ByteArray) t318 _ A5.out).mono ?_); rintro e w' ⟨rfl, ⟨nd, rfl⟩⟩))
      all_goals try (rename_i h_; rw [c4b0i] at h_; cases h_; done)
      go_meet
      case rel => exact ⟨_, (t318), (by first | rfl | (simp; done) | (simp [*]; done)), H', ⟨by first | omega | exact Nat.le_refl _⟩, ⟨by repeat (first | (with_reducible first | exact HB.out | apply below_alloc | apply pw_below_drewN | apply below_drew1) | exact HB.out)⟩⟩
  case rest =>
    clear HC3
    try clear c1
    try clear p2
    try clear c4
    try clear c4b0
    try clear c4b1
    obtain ⟨kq, x11_2, rfl, HA, HJ2, HB⟩ := hcut
    cases kq with
    | zero => exact absurd HA.out (by simp [impl_Follow.j0])
    | succ kj2 =>
      have H := HA.out
      clear HA
      simp only [impl_Follow.j0] at H
      by_cases c6 : x11_2 = true
      · subst c6
        have H1 : ((impl_Clean.f kj2 a1).bind fun bt319 => (some (bt319.1, bt319.2))) = some (r1, r2) := by rw [if_pos rfl] at H; exact H
        clear H
        have H := H1
        clear H1
        replace H := Option.bind_eq_some_iff.mp H
        obtain ⟨⟨t319, t320⟩, A70, H⟩ := H
        replace H : (some (t319, t320)) = some (r1, r2) := H
        have A7 := Aside0.mk A70
        clear A70
        simp only [Option.some.injEq, Prod.mk.injEq] at H
        obtain ⟨rfl, rfl⟩ := H
        go_wp2_with (first | ((with_reducible refine gate_callee (f := 9) rfl ?_); refine goesL_ (some 13) rfl rfl Tryd.func9 (by kernel_rfl) rfl #[.string a1] rfl (by (try simp only [List.map_toArray, List.map_cons, List.map_nil]); first | done | rfl | (simp only [List.length_drop, List.length_take]; rfl)) ?_; (with_reducible refine (impl_Clean.calls kj2 a1 t319 t320 _ A7.out).mono ?_); rintro e w8 ⟨rfl, hb⟩; refine ⟨_, rfl, ?_⟩; have n0_ := Aside0.mk (below_step (by repeat (first | (with_reducible first | exact HB.out | apply below_alloc | apply pw_below_drewN | apply below_drew1) | exact HB.out)) hb); clear HB; have HB := n0_; clear n0_; (try clear hb); (try clear hb2); (try clear hk); (try clear hi)))
        go_ret2
        exact ⟨by first | rfl | (simp [errW_none, errW_some] <;> rfl) | (simp [*, errW_none, errW_some] <;> rfl) | (simp only [decide_eq_true_eq] at *; simp [*, bt]; done), by repeat (first | (with_reducible first | exact HB.out | apply below_alloc | apply pw_below_drewN | apply below_drew1) | exact HB.out)⟩
      · replace c6 := Bool.eq_false_iff.mpr c6
        subst c6
        have H1 : (if a0.size + 1 ≤ 9223372036854775807 then (if (a0 ++ (⟨#[47]⟩ : ByteArray)).size + a1.size ≤ 9223372036854775807 then ((impl_Clean.f kj2 ((a0 ++ (⟨#[47]⟩ : ByteArray)) ++ a1)).bind fun bt321 => (some (bt321.1, bt321.2))) else (none)) else (none)) = some (r1, r2) := by rw [if_neg (show ¬ (false = true) by decide)] at H; exact H
        clear H
        have H := H1
        clear H1
        by_cases c9 : a0.size + 1 ≤ 9223372036854775807
        · rw [if_pos c9] at H
          have c9b0 := eq_true c9
          have c9b1 : decide (a0.size + 1 ≤ 9223372036854775807) = true := decide_eq_true c9
          try have c9b2 : (9223372036854775807 < a0.size + 1) = False := eq_false (Nat.not_lt.2 c9)
          by_cases c10 : (a0 ++ (⟨#[47]⟩ : ByteArray)).size + a1.size ≤ 9223372036854775807
          · rw [if_pos c10] at H
            have c10b0 := eq_true c10
            have c10b1 : decide ((a0 ++ (⟨#[47]⟩ : ByteArray)).size + a1.size ≤ 9223372036854775807) = true := decide_eq_true c10
            try (have c10b1z := c10b1; simp only [ByteArray.size_append, show (⟨#[47]⟩ : ByteArray).size = 1 from rfl] at c10b1z)
            try have c10b2 : (9223372036854775807 < (a0 ++ (⟨#[47]⟩ : ByteArray)).size + a1.size) = False := eq_false (Nat.not_lt.2 c10)
            try (have c10b2z := c10b2; simp only [ByteArray.size_append, show (⟨#[47]⟩ : ByteArray).size = 1 from rfl] at c10b2z)
            replace H := Option.bind_eq_some_iff.mp H
            obtain ⟨⟨t321, t322⟩, A110, H⟩ := H
            replace H : (some (t321, t322)) = some (r1, r2) := H
            have A11 := Aside0.mk A110
            clear A110
            simp only [Option.some.injEq, Prod.mk.injEq] at H
            obtain ⟨rfl, rfl⟩ := H
            go_wp2_with (first | ((with_reducible refine gate_callee (f := 9) rfl ?_); refine goesL_ (some 20) rfl rfl Tryd.func9 (by kernel_rfl) rfl #[.string ((a0 ++ (⟨#[47]⟩ : ByteArray)) ++ a1)] rfl (by (try simp only [List.map_toArray, List.map_cons, List.map_nil]); first | done | rfl | (simp only [List.length_drop, List.length_take]; rfl)) ?_; (with_reducible refine (impl_Clean.calls kj2 ((a0 ++ (⟨#[47]⟩ : ByteArray)) ++ a1) t321 t322 _ A11.out).mono ?_); rintro e w12 ⟨rfl, hb⟩; refine ⟨_, rfl, ?_⟩; have n0_ := Aside0.mk (below_step (by repeat (first | (with_reducible first | exact HB.out | apply below_alloc | apply pw_below_drewN | apply below_drew1) | exact HB.out)) hb); clear HB; have HB := n0_; clear n0_; (try clear hb); (try clear hb2); (try clear hk); (try clear hi)))
            go_ret2
            exact ⟨by first | rfl | (simp [errW_none, errW_some] <;> rfl) | (simp [*, errW_none, errW_some] <;> rfl) | (simp only [decide_eq_true_eq] at *; simp [*, bt]; done), by repeat (first | (with_reducible first | exact HB.out | apply below_alloc | apply pw_below_drewN | apply below_drew1) | exact HB.out)⟩
          · rw [if_neg c10] at H
            exact absurd H (by simp)
        · rw [if_neg c9] at H
          exact absurd H (by simp)

/-! ### spec_Follow: function 13 -/
def spec_Follow.j0 : Nat → ByteArray → ByteArray → Bool → Option (ByteArray × Bool)
  | 0, _, _, _ => none
  | k + 1, x0, x1, x17 => if x17 = true then ((spec_Clean.f k x1).bind fun bt323 => (some (bt323.1, bt323.2))) else (if x0.size + 1 ≤ 9223372036854775807 then (if (x0 ++ (⟨#[47]⟩ : ByteArray)).size + x1.size ≤ 9223372036854775807 then ((spec_Clean.f k ((x0 ++ (⟨#[47]⟩ : ByteArray)) ++ x1)).bind fun bt325 => (some (bt325.1, bt325.2))) else (none)) else (none))
def spec_Follow.f (k : Nat) (a0 : ByteArray) (a1 : ByteArray) : Option (ByteArray × Bool) := if (a1.size : Int) > 0 then (if 0 < (a1.size : Int) then (if (bt a1 0) = 47 then (spec_Follow.j0 k a0 a1 true) else (spec_Follow.j0 k a0 a1 (a0.toList == ([] : List UInt8)))) else (none)) else (spec_Follow.j0 k a0 a1 (a0.toList == ([] : List UInt8)))
theorem spec_Follow.mono_l : ∀ k, (∀ y0 y1 y2, LeO (spec_Follow.j0 k y0 y1 y2) (spec_Follow.j0 (k + 1) y0 y1 y2))
  | 0 => fun _ _ _ r h => by simp [spec_Follow.j0] at h
  | k + 1 => by
    have ih0 := spec_Follow.mono_l k
    · intro y0 y1 y2
      unfold spec_Follow.j0
      repeat' first
      | (with_reducible exact ih0 _ _ _)
      | (with_reducible exact spec_Clean.mono _ _)
      | (with_reducible exact LeO.refl _)
      | (with_reducible exact LeO.none _)
      | (with_reducible refine LeO.ite ?_ ?_)
      | (with_reducible refine LeO.bind ?_ (fun _ => ?_))
      | exact ih0 _ _ _
      | exact spec_Clean.mono _ _
      | exact LeO.none _
      | refine LeO.ite ?_ ?_
      | refine LeO.bind ?_ (fun _ => ?_)
theorem spec_Follow.mono : ∀ a0 a1 k, LeO (spec_Follow.f k a0 a1) (spec_Follow.f (k + 1) a0 a1) := by
  intro a0 a1 k
  have ih0 := spec_Follow.mono_l k
  unfold spec_Follow.f
  repeat' first
      | (with_reducible exact ih0 _ _ _)
      | (with_reducible exact spec_Clean.mono _ _)
      | (with_reducible exact LeO.refl _)
      | (with_reducible exact LeO.none _)
      | (with_reducible refine LeO.ite ?_ ?_)
      | (with_reducible refine LeO.bind ?_ (fun _ => ?_))
      | exact ih0 _ _ _
      | exact spec_Clean.mono _ _
      | exact LeO.none _
      | refine LeO.ite ?_ ?_
      | refine LeO.bind ?_ (fun _ => ?_)
set_option maxHeartbeats 8000000 in
set_option maxRecDepth 100000 in
theorem spec_Follow.calls (k : Nat) (a0 : ByteArray) (a1 : ByteArray) (r1 : ByteArray) (r2 : Bool) (w : World) (h : spec_Follow.f k a0 a1 = some (r1, r2)) :
    Calls Tryd.prog 13 #[.string a0, .string a1] w fun e w' => e = .returned (.tuple #[.string r1, .bool r2]) ∧ Below w.heap.size w w' := by
  have HB := Aside0.mk (Below.refl w.heap.size w)
  have H : (if (a1.size : Int) > 0 then (if 0 < (a1.size : Int) then (if (bt a1 0) = 47 then (spec_Follow.j0 k a0 a1 true) else (spec_Follow.j0 k a0 a1 (a0.toList == ([] : List UInt8)))) else (none)) else (spec_Follow.j0 k a0 a1 (a0.toList == ([] : List UInt8)))) = some (r1, r2) := h
  clear h
  have HC3 := Aside0.mk H
  clear H
  go_enter Tryd.func13, Tryd.ntmps13
  go_upto_region 1 with (fail)
  go_cut [17] (fun v17 wc => ∃ (kq : Nat) (x17_2 : Bool), v17 = .bool x17_2 ∧ Aside0 (spec_Follow.j0 kq a0 a1 x17_2 = some (r1, r2)) ∧ Aside0 (kq ≤ k) ∧ Aside0 (Below w.heap.size w wc))
  case first =>
    have H := HC3.out
    clear HC3
    by_cases c4 : (a1.size : Int) > 0
    · rw [if_pos c4] at H
      have c4b0 : decide (0 < (a1.size : Int)) = true := decide_eq_true c4
      have c4b1 : decide (0 < a1.size) = true := decide_eq_true (by omega)
      clear c4
      (first | rw [c4b0] | (simp only [i64_w, i32_w]; rw [c4b0]) | skip)
      by_cases c5 : 0 < (a1.size : Int)
      · rw [if_pos c5] at H
        have c5b0 : decide (0 < (a1.size : Int)) = true := decide_eq_true c5
        have c5b1 : decide (0 < a1.size) = true := decide_eq_true (by omega)
        clear c5
        by_cases c7 : (bt a1 0) = 47
        · rw [if_pos c7] at H
          have c7b0 : ((bt a1 0) == 47) = true := beq_iff_eq.mpr c7
          have c7b1 : ((bt a1 0) != 47) = false := bne_eq_false_iff_eq.mpr c7
          clear c7
          have H' := Aside0.mk H
          clear H
          have p6 : 0 ≤ (0 : Int) := (by omega)
          have q6 : 0 < a1.size := (by have : (0 : Int) < (a1.size : Int) := of_decide_eq_true (by assumption); omega)
          have hx6 : ∀ h : 0 < a1.size, ((a1[0]'h).toNat : Int) = bt a1 0 := bt_at a1 0
          clear p6
          have qi6 : (0 < (a1.size : Int)) = True := eq_true (of_decide_eq_true (by assumption))
          replace q6 := eq_true q6
          go_wp2
          go_meet
          case rel => exact ⟨_, (true), (by first | rfl | (simp; done) | (simp [*]; done)), H', ⟨by first | omega | exact Nat.le_refl _⟩, ⟨by repeat (first | (with_reducible first | exact HB.out | apply below_alloc | apply pw_below_drewN | apply below_drew1) | exact HB.out)⟩⟩
        · rw [if_neg c7] at H
          have c7b0 : ((bt a1 0) == 47) = false := beq_eq_false_iff_ne.mpr c7
          have c7b1 : ((bt a1 0) != 47) = true := bne_iff_ne.mpr c7
          have H' := Aside0.mk H
          clear H
          have p6 : 0 ≤ (0 : Int) := (by omega)
          have q6 : 0 < a1.size := (by have : (0 : Int) < (a1.size : Int) := of_decide_eq_true (by assumption); omega)
          have hx6 : ∀ h : 0 < a1.size, ((a1[0]'h).toNat : Int) = bt a1 0 := bt_at a1 0
          clear p6
          have qi6 : (0 < (a1.size : Int)) = True := eq_true (of_decide_eq_true (by assumption))
          replace q6 := eq_true q6
          go_wp2
          go_meet
          case rel => exact ⟨_, ((a0.toList == ([] : List UInt8))), (by first | rfl | (simp; done) | (simp [*]; done)), H', ⟨by first | omega | exact Nat.le_refl _⟩, ⟨by repeat (first | (with_reducible first | exact HB.out | apply below_alloc | apply pw_below_drewN | apply below_drew1) | exact HB.out)⟩⟩
      · rw [if_neg c5] at H
        exact absurd H (by simp)
    · rw [if_neg c4] at H
      have c4b0 : decide (0 < (a1.size : Int)) = false := decide_eq_false c4
      have c4b1 : decide (0 < a1.size) = false := decide_eq_false (by omega)
      clear c4
      (first | rw [c4b0] | (simp only [i64_w, i32_w]; rw [c4b0]) | skip)
      have H' := Aside0.mk H
      clear H
      go_wp2
      go_meet
      case rel => exact ⟨_, ((a0.toList == ([] : List UInt8))), (by first | rfl | (simp; done) | (simp [*]; done)), H', ⟨by first | omega | exact Nat.le_refl _⟩, ⟨by repeat (first | (with_reducible first | exact HB.out | apply below_alloc | apply pw_below_drewN | apply below_drew1) | exact HB.out)⟩⟩
  case rest =>
    clear HC3
    try clear c1
    try clear p2
    try clear c4
    try clear c4b0
    try clear c4b1
    try clear c5
    try clear c5b0
    try clear c5b1
    try clear p6
    try clear q6
    try clear hx6
    try clear qi6
    try clear c7
    try clear c7b0
    try clear c7b1
    try clear p6
    try clear q6
    obtain ⟨kq, x17_2, rfl, HA, HJ2, HB⟩ := hcut
    cases kq with
    | zero => exact absurd HA.out (by simp [spec_Follow.j0])
    | succ kj2 =>
      have H := HA.out
      clear HA
      simp only [spec_Follow.j0] at H
      by_cases c8 : x17_2 = true
      · subst c8
        have H1 : ((spec_Clean.f kj2 a1).bind fun bt323 => (some (bt323.1, bt323.2))) = some (r1, r2) := by rw [if_pos rfl] at H; exact H
        clear H
        have H := H1
        clear H1
        replace H := Option.bind_eq_some_iff.mp H
        obtain ⟨⟨t323, t324⟩, A90, H⟩ := H
        replace H : (some (t323, t324)) = some (r1, r2) := H
        have A9 := Aside0.mk A90
        clear A90
        simp only [Option.some.injEq, Prod.mk.injEq] at H
        obtain ⟨rfl, rfl⟩ := H
        go_wp2_with (first | ((with_reducible refine gate_callee (f := 10) rfl ?_); refine goesL_ (some 19) rfl rfl Tryd.func10 (by kernel_rfl) rfl #[.string a1] rfl (by (try simp only [List.map_toArray, List.map_cons, List.map_nil]); first | done | rfl | (simp only [List.length_drop, List.length_take]; rfl)) ?_; (with_reducible refine (spec_Clean.calls kj2 a1 t323 t324 _ A9.out).mono ?_); rintro e w10 ⟨rfl, hb⟩; refine ⟨_, rfl, ?_⟩; have n0_ := Aside0.mk (below_step (by repeat (first | (with_reducible first | exact HB.out | apply below_alloc | apply pw_below_drewN | apply below_drew1) | exact HB.out)) hb); clear HB; have HB := n0_; clear n0_; (try clear hb); (try clear hb2); (try clear hk); (try clear hi)))
        go_ret2
        exact ⟨by first | rfl | (simp [errW_none, errW_some] <;> rfl) | (simp [*, errW_none, errW_some] <;> rfl) | (simp only [decide_eq_true_eq] at *; simp [*, bt]; done), by repeat (first | (with_reducible first | exact HB.out | apply below_alloc | apply pw_below_drewN | apply below_drew1) | exact HB.out)⟩
      · replace c8 := Bool.eq_false_iff.mpr c8
        subst c8
        have H1 : (if a0.size + 1 ≤ 9223372036854775807 then (if (a0 ++ (⟨#[47]⟩ : ByteArray)).size + a1.size ≤ 9223372036854775807 then ((spec_Clean.f kj2 ((a0 ++ (⟨#[47]⟩ : ByteArray)) ++ a1)).bind fun bt325 => (some (bt325.1, bt325.2))) else (none)) else (none)) = some (r1, r2) := by rw [if_neg (show ¬ (false = true) by decide)] at H; exact H
        clear H
        have H := H1
        clear H1
        by_cases c11 : a0.size + 1 ≤ 9223372036854775807
        · rw [if_pos c11] at H
          have c11b0 := eq_true c11
          have c11b1 : decide (a0.size + 1 ≤ 9223372036854775807) = true := decide_eq_true c11
          try have c11b2 : (9223372036854775807 < a0.size + 1) = False := eq_false (Nat.not_lt.2 c11)
          by_cases c12 : (a0 ++ (⟨#[47]⟩ : ByteArray)).size + a1.size ≤ 9223372036854775807
          · rw [if_pos c12] at H
            have c12b0 := eq_true c12
            have c12b1 : decide ((a0 ++ (⟨#[47]⟩ : ByteArray)).size + a1.size ≤ 9223372036854775807) = true := decide_eq_true c12
            try (have c12b1z := c12b1; simp only [ByteArray.size_append, show (⟨#[47]⟩ : ByteArray).size = 1 from rfl] at c12b1z)
            try have c12b2 : (9223372036854775807 < (a0 ++ (⟨#[47]⟩ : ByteArray)).size + a1.size) = False := eq_false (Nat.not_lt.2 c12)
            try (have c12b2z := c12b2; simp only [ByteArray.size_append, show (⟨#[47]⟩ : ByteArray).size = 1 from rfl] at c12b2z)
            replace H := Option.bind_eq_some_iff.mp H
            obtain ⟨⟨t325, t326⟩, A130, H⟩ := H
            replace H : (some (t325, t326)) = some (r1, r2) := H
            have A13 := Aside0.mk A130
            clear A130
            simp only [Option.some.injEq, Prod.mk.injEq] at H
            obtain ⟨rfl, rfl⟩ := H
            go_wp2_with (first | ((with_reducible refine gate_callee (f := 10) rfl ?_); refine goesL_ (some 26) rfl rfl Tryd.func10 (by kernel_rfl) rfl #[.string ((a0 ++ (⟨#[47]⟩ : ByteArray)) ++ a1)] rfl (by (try simp only [List.map_toArray, List.map_cons, List.map_nil]); first | done | rfl | (simp only [List.length_drop, List.length_take]; rfl)) ?_; (with_reducible refine (spec_Clean.calls kj2 ((a0 ++ (⟨#[47]⟩ : ByteArray)) ++ a1) t325 t326 _ A13.out).mono ?_); rintro e w14 ⟨rfl, hb⟩; refine ⟨_, rfl, ?_⟩; have n0_ := Aside0.mk (below_step (by repeat (first | (with_reducible first | exact HB.out | apply below_alloc | apply pw_below_drewN | apply below_drew1) | exact HB.out)) hb); clear HB; have HB := n0_; clear n0_; (try clear hb); (try clear hb2); (try clear hk); (try clear hi)))
            go_ret2
            exact ⟨by first | rfl | (simp [errW_none, errW_some] <;> rfl) | (simp [*, errW_none, errW_some] <;> rfl) | (simp only [decide_eq_true_eq] at *; simp [*, bt]; done), by repeat (first | (with_reducible first | exact HB.out | apply below_alloc | apply pw_below_drewN | apply below_drew1) | exact HB.out)⟩
          · rw [if_neg c12] at H
            exact absurd H (by simp)
        · rw [if_neg c11] at H
          exact absurd H (by simp)

/-! ### laws_FnClean: function 3 -/
def laws_FnClean.j0 : Nat → ByteArray → ByteArray → Bool → Bool → Option (Bool)
  | 0, _, _, _, _ => none
  | k + 1, x3, x4, x5, x80 => if x80 = true then (some false) else ((spec_PathOk.f k x3).bind fun t342 => (if t342 = true then (if x5 = true then (if x4.toList = x3.toList then ((impl_Clean.f k x4).bind fun bt343 => (if bt343.2 = true then (some (bt343.1.toList == x4.toList)) else (some false))) else (some false)) else (some false)) else ((impl_Clean.f k x4).bind fun bt345 => (if x5 = true then (if bt345.2 = true then (some (bt345.1.toList == x4.toList)) else (some false)) else (some true)))))
def laws_FnClean.f (k : Nat) (l0 : List Int) : Option (Bool) := (laws_big.f l0).bind fun t327 => (if t327 = true then (some true) else ((spec_DrawClean.f k l0).bind fun t328 => ((impl_Clean.f k t328).bind fun bt329 => ((spec_Clean.f k t328).bind fun bt331 => ((spec_DrawFollow.f k l0).bind fun bt333 => ((impl_Follow.f k bt333.1 bt333.2).bind fun bt335 => ((spec_Follow.f k bt333.1 bt333.2).bind fun bt337 => (if bt329.1.toList = bt331.1.toList then (if (bt329.2 != bt331.2) = true then (laws_FnClean.j0 k t328 bt329.1 bt329.2 true) else (if bt335.1.toList = bt337.1.toList then (if (bt335.2 != bt337.2) = true then (laws_FnClean.j0 k t328 bt329.1 bt329.2 true) else (if bt329.2 = true then ((impl_PathOk.f k bt329.1).bind fun t339 => (if t339 = true then (if bt335.2 = true then ((impl_PathOk.f k bt335.1).bind fun t340 => (laws_FnClean.j0 k t328 bt329.1 bt329.2 (!t340))) else (laws_FnClean.j0 k t328 bt329.1 bt329.2 false)) else (laws_FnClean.j0 k t328 bt329.1 bt329.2 true))) else (if bt335.2 = true then ((impl_PathOk.f k bt335.1).bind fun t341 => (laws_FnClean.j0 k t328 bt329.1 bt329.2 (!t341))) else (laws_FnClean.j0 k t328 bt329.1 bt329.2 false)))) else (laws_FnClean.j0 k t328 bt329.1 bt329.2 true))) else (laws_FnClean.j0 k t328 bt329.1 bt329.2 true)))))))))
theorem laws_FnClean.mono_l : ∀ k, (∀ y0 y1 y2 y3, LeO (laws_FnClean.j0 k y0 y1 y2 y3) (laws_FnClean.j0 (k + 1) y0 y1 y2 y3))
  | 0 => fun _ _ _ _ r h => by simp [laws_FnClean.j0] at h
  | k + 1 => by
    have ih0 := laws_FnClean.mono_l k
    · intro y0 y1 y2 y3
      unfold laws_FnClean.j0
      repeat' first
      | (with_reducible exact ih0 _ _ _ _)
      | (with_reducible exact impl_Clean.mono _ _)
      | (with_reducible exact impl_Follow.mono _ _ _)
      | (with_reducible exact impl_PathOk.mono _ _)
      | (with_reducible exact spec_Clean.mono _ _)
      | (with_reducible exact spec_DrawClean.mono _ _)
      | (with_reducible exact spec_DrawFollow.mono _ _)
      | (with_reducible exact spec_Follow.mono _ _ _)
      | (with_reducible exact spec_PathOk.mono _ _)
      | (with_reducible exact LeO.refl _)
      | (with_reducible exact LeO.none _)
      | (with_reducible refine LeO.ite ?_ ?_)
      | (with_reducible refine LeO.bind ?_ (fun _ => ?_))
      | exact ih0 _ _ _ _
      | exact impl_Clean.mono _ _
      | exact impl_Follow.mono _ _ _
      | exact impl_PathOk.mono _ _
      | exact spec_Clean.mono _ _
      | exact spec_DrawClean.mono _ _
      | exact spec_DrawFollow.mono _ _
      | exact spec_Follow.mono _ _ _
      | exact spec_PathOk.mono _ _
      | exact LeO.none _
      | refine LeO.ite ?_ ?_
      | refine LeO.bind ?_ (fun _ => ?_)
theorem laws_FnClean.mono : ∀ a0 k, LeO (laws_FnClean.f k a0) (laws_FnClean.f (k + 1) a0) := by
  intro a0 k
  have ih0 := laws_FnClean.mono_l k
  unfold laws_FnClean.f
  repeat' first
      | (with_reducible exact ih0 _ _ _ _)
      | (with_reducible exact impl_Clean.mono _ _)
      | (with_reducible exact impl_Follow.mono _ _ _)
      | (with_reducible exact impl_PathOk.mono _ _)
      | (with_reducible exact spec_Clean.mono _ _)
      | (with_reducible exact spec_DrawClean.mono _ _)
      | (with_reducible exact spec_DrawFollow.mono _ _)
      | (with_reducible exact spec_Follow.mono _ _ _)
      | (with_reducible exact spec_PathOk.mono _ _)
      | (with_reducible exact LeO.refl _)
      | (with_reducible exact LeO.none _)
      | (with_reducible refine LeO.ite ?_ ?_)
      | (with_reducible refine LeO.bind ?_ (fun _ => ?_))
      | exact ih0 _ _ _ _
      | exact impl_Clean.mono _ _
      | exact impl_Follow.mono _ _ _
      | exact impl_PathOk.mono _ _
      | exact spec_Clean.mono _ _
      | exact spec_DrawClean.mono _ _
      | exact spec_DrawFollow.mono _ _
      | exact spec_Follow.mono _ _ _
      | exact spec_PathOk.mono _ _
      | exact LeO.none _
      | refine LeO.ite ?_ ?_
      | refine LeO.bind ?_ (fun _ => ?_)
set_option maxHeartbeats 8000000 in
set_option maxRecDepth 100000 in
theorem laws_FnClean.calls (k : Nat) (A0 : Option Addr) (c0 : Nat) (l0 : List Int) (r : Bool) (w : World) (hr0 : Kd.C (Kd.int .u8) w A0 l0.length l0) (hc0 : l0.length ≤ c0) (h : laws_FnClean.f k l0 = some r) :
    Calls Tryd.prog 3 #[.slice A0 l0.length c0] w fun e w' => e = .returned (.bool r) ∧ Below w.heap.size w w' := by
  have HR0 := Aside0.mk hr0
  have HC0 := Aside0.mk hc0
  clear hr0 hc0
  have HB := Aside0.mk (Below.refl w.heap.size w)
  have H : ((laws_big.f l0).bind fun t327 => (if t327 = true then (some true) else ((spec_DrawClean.f k l0).bind fun t328 => ((impl_Clean.f k t328).bind fun bt329 => ((spec_Clean.f k t328).bind fun bt331 => ((spec_DrawFollow.f k l0).bind fun bt333 => ((impl_Follow.f k bt333.1 bt333.2).bind fun bt335 => ((spec_Follow.f k bt333.1 bt333.2).bind fun bt337 => (if bt329.1.toList = bt331.1.toList then (if (bt329.2 != bt331.2) = true then (laws_FnClean.j0 k t328 bt329.1 bt329.2 true) else (if bt335.1.toList = bt337.1.toList then (if (bt335.2 != bt337.2) = true then (laws_FnClean.j0 k t328 bt329.1 bt329.2 true) else (if bt329.2 = true then ((impl_PathOk.f k bt329.1).bind fun t339 => (if t339 = true then (if bt335.2 = true then ((impl_PathOk.f k bt335.1).bind fun t340 => (laws_FnClean.j0 k t328 bt329.1 bt329.2 (!t340))) else (laws_FnClean.j0 k t328 bt329.1 bt329.2 false)) else (laws_FnClean.j0 k t328 bt329.1 bt329.2 true))) else (if bt335.2 = true then ((impl_PathOk.f k bt335.1).bind fun t341 => (laws_FnClean.j0 k t328 bt329.1 bt329.2 (!t341))) else (laws_FnClean.j0 k t328 bt329.1 bt329.2 false)))) else (laws_FnClean.j0 k t328 bt329.1 bt329.2 true))) else (laws_FnClean.j0 k t328 bt329.1 bt329.2 true)))))))))) = some r := h
  clear h
  replace H := Option.bind_eq_some_iff.mp H
  obtain ⟨t327, A20, H⟩ := H
  replace H : (if t327 = true then (some true) else ((spec_DrawClean.f k l0).bind fun t328 => ((impl_Clean.f k t328).bind fun bt329 => ((spec_Clean.f k t328).bind fun bt331 => ((spec_DrawFollow.f k l0).bind fun bt333 => ((impl_Follow.f k bt333.1 bt333.2).bind fun bt335 => ((spec_Follow.f k bt333.1 bt333.2).bind fun bt337 => (if bt329.1.toList = bt331.1.toList then (if (bt329.2 != bt331.2) = true then (laws_FnClean.j0 k t328 bt329.1 bt329.2 true) else (if bt335.1.toList = bt337.1.toList then (if (bt335.2 != bt337.2) = true then (laws_FnClean.j0 k t328 bt329.1 bt329.2 true) else (if bt329.2 = true then ((impl_PathOk.f k bt329.1).bind fun t339 => (if t339 = true then (if bt335.2 = true then ((impl_PathOk.f k bt335.1).bind fun t340 => (laws_FnClean.j0 k t328 bt329.1 bt329.2 (!t340))) else (laws_FnClean.j0 k t328 bt329.1 bt329.2 false)) else (laws_FnClean.j0 k t328 bt329.1 bt329.2 true))) else (if bt335.2 = true then ((impl_PathOk.f k bt335.1).bind fun t341 => (laws_FnClean.j0 k t328 bt329.1 bt329.2 (!t341))) else (laws_FnClean.j0 k t328 bt329.1 bt329.2 false)))) else (laws_FnClean.j0 k t328 bt329.1 bt329.2 true))) else (laws_FnClean.j0 k t328 bt329.1 bt329.2 true))))))))) = some r := H
  have A2 := Aside0.mk A20
  clear A20
  by_cases c3 : t327 = true
  · subst c3
    have H1 : (some true) = some r := by rw [if_pos rfl] at H; exact H
    clear H
    have H := H1
    clear H1
    obtain rfl := Option.some.inj H
    go_enter Tryd.func3, Tryd.ntmps3
    go_wp2_with (first | ((with_reducible refine gate_callee (f := 7) rfl ?_); refine goesL_ (some 17) rfl rfl Tryd.func7 (by kernel_rfl) rfl #[.slice A0 l0.length c0] rfl (by (try simp only [List.map_toArray, List.map_cons, List.map_nil]); first | done | rfl | (simp only [List.length_drop, List.length_take]; rfl)) ?_; (with_reducible refine (laws_big.calls _ _ l0 true _ ?side1 ?side2 A2.out).mono ?_); (case side1 => repeat (first | exact HR0.out | (with_reducible refine Kd.C_alloc ?_ _) | (with_reducible refine Kd.C_drewN ?_ _) | (with_reducible refine Kd.C_drew ?_))); (case side2 => exact HC0.out); rintro e w' ⟨rfl, ⟨nd, rfl⟩⟩; refine ⟨_, rfl, ?_⟩))
    go_ret
    exact ⟨by first | rfl | (simp [errW_none, errW_some] <;> rfl) | (simp [*, errW_none, errW_some] <;> rfl) | (simp only [decide_eq_true_eq] at *; simp [*, bt]; done), by repeat (first | (with_reducible first | exact HB.out | apply below_alloc | apply pw_below_drewN | apply below_drew1) | exact HB.out)⟩
  · replace c3 := Bool.eq_false_iff.mpr c3
    subst c3
    have H1 : ((spec_DrawClean.f k l0).bind fun t328 => ((impl_Clean.f k t328).bind fun bt329 => ((spec_Clean.f k t328).bind fun bt331 => ((spec_DrawFollow.f k l0).bind fun bt333 => ((impl_Follow.f k bt333.1 bt333.2).bind fun bt335 => ((spec_Follow.f k bt333.1 bt333.2).bind fun bt337 => (if bt329.1.toList = bt331.1.toList then (if (bt329.2 != bt331.2) = true then (laws_FnClean.j0 k t328 bt329.1 bt329.2 true) else (if bt335.1.toList = bt337.1.toList then (if (bt335.2 != bt337.2) = true then (laws_FnClean.j0 k t328 bt329.1 bt329.2 true) else (if bt329.2 = true then ((impl_PathOk.f k bt329.1).bind fun t339 => (if t339 = true then (if bt335.2 = true then ((impl_PathOk.f k bt335.1).bind fun t340 => (laws_FnClean.j0 k t328 bt329.1 bt329.2 (!t340))) else (laws_FnClean.j0 k t328 bt329.1 bt329.2 false)) else (laws_FnClean.j0 k t328 bt329.1 bt329.2 true))) else (if bt335.2 = true then ((impl_PathOk.f k bt335.1).bind fun t341 => (laws_FnClean.j0 k t328 bt329.1 bt329.2 (!t341))) else (laws_FnClean.j0 k t328 bt329.1 bt329.2 false)))) else (laws_FnClean.j0 k t328 bt329.1 bt329.2 true))) else (laws_FnClean.j0 k t328 bt329.1 bt329.2 true)))))))) = some r := by rw [if_neg (show ¬ (false = true) by decide)] at H; exact H
    clear H
    have H := H1
    clear H1
    replace H := Option.bind_eq_some_iff.mp H
    obtain ⟨t328, A40, H⟩ := H
    replace H : ((impl_Clean.f k t328).bind fun bt329 => ((spec_Clean.f k t328).bind fun bt331 => ((spec_DrawFollow.f k l0).bind fun bt333 => ((impl_Follow.f k bt333.1 bt333.2).bind fun bt335 => ((spec_Follow.f k bt333.1 bt333.2).bind fun bt337 => (if bt329.1.toList = bt331.1.toList then (if (bt329.2 != bt331.2) = true then (laws_FnClean.j0 k t328 bt329.1 bt329.2 true) else (if bt335.1.toList = bt337.1.toList then (if (bt335.2 != bt337.2) = true then (laws_FnClean.j0 k t328 bt329.1 bt329.2 true) else (if bt329.2 = true then ((impl_PathOk.f k bt329.1).bind fun t339 => (if t339 = true then (if bt335.2 = true then ((impl_PathOk.f k bt335.1).bind fun t340 => (laws_FnClean.j0 k t328 bt329.1 bt329.2 (!t340))) else (laws_FnClean.j0 k t328 bt329.1 bt329.2 false)) else (laws_FnClean.j0 k t328 bt329.1 bt329.2 true))) else (if bt335.2 = true then ((impl_PathOk.f k bt335.1).bind fun t341 => (laws_FnClean.j0 k t328 bt329.1 bt329.2 (!t341))) else (laws_FnClean.j0 k t328 bt329.1 bt329.2 false)))) else (laws_FnClean.j0 k t328 bt329.1 bt329.2 true))) else (laws_FnClean.j0 k t328 bt329.1 bt329.2 true))))))) = some r := H
    have A4 := Aside0.mk A40
    clear A40
    replace H := Option.bind_eq_some_iff.mp H
    obtain ⟨⟨t329, t330⟩, A50, H⟩ := H
    replace H : ((spec_Clean.f k t328).bind fun bt331 => ((spec_DrawFollow.f k l0).bind fun bt333 => ((impl_Follow.f k bt333.1 bt333.2).bind fun bt335 => ((spec_Follow.f k bt333.1 bt333.2).bind fun bt337 => (if t329.toList = bt331.1.toList then (if (t330 != bt331.2) = true then (laws_FnClean.j0 k t328 t329 t330 true) else (if bt335.1.toList = bt337.1.toList then (if (bt335.2 != bt337.2) = true then (laws_FnClean.j0 k t328 t329 t330 true) else (if t330 = true then ((impl_PathOk.f k t329).bind fun t339 => (if t339 = true then (if bt335.2 = true then ((impl_PathOk.f k bt335.1).bind fun t340 => (laws_FnClean.j0 k t328 t329 t330 (!t340))) else (laws_FnClean.j0 k t328 t329 t330 false)) else (laws_FnClean.j0 k t328 t329 t330 true))) else (if bt335.2 = true then ((impl_PathOk.f k bt335.1).bind fun t341 => (laws_FnClean.j0 k t328 t329 t330 (!t341))) else (laws_FnClean.j0 k t328 t329 t330 false)))) else (laws_FnClean.j0 k t328 t329 t330 true))) else (laws_FnClean.j0 k t328 t329 t330 true)))))) = some r := H
    have A5 := Aside0.mk A50
    clear A50
    replace H := Option.bind_eq_some_iff.mp H
    obtain ⟨⟨t331, t332⟩, A60, H⟩ := H
    replace H : ((spec_DrawFollow.f k l0).bind fun bt333 => ((impl_Follow.f k bt333.1 bt333.2).bind fun bt335 => ((spec_Follow.f k bt333.1 bt333.2).bind fun bt337 => (if t329.toList = t331.toList then (if (t330 != t332) = true then (laws_FnClean.j0 k t328 t329 t330 true) else (if bt335.1.toList = bt337.1.toList then (if (bt335.2 != bt337.2) = true then (laws_FnClean.j0 k t328 t329 t330 true) else (if t330 = true then ((impl_PathOk.f k t329).bind fun t339 => (if t339 = true then (if bt335.2 = true then ((impl_PathOk.f k bt335.1).bind fun t340 => (laws_FnClean.j0 k t328 t329 t330 (!t340))) else (laws_FnClean.j0 k t328 t329 t330 false)) else (laws_FnClean.j0 k t328 t329 t330 true))) else (if bt335.2 = true then ((impl_PathOk.f k bt335.1).bind fun t341 => (laws_FnClean.j0 k t328 t329 t330 (!t341))) else (laws_FnClean.j0 k t328 t329 t330 false)))) else (laws_FnClean.j0 k t328 t329 t330 true))) else (laws_FnClean.j0 k t328 t329 t330 true))))) = some r := H
    have A6 := Aside0.mk A60
    clear A60
    replace H := Option.bind_eq_some_iff.mp H
    obtain ⟨⟨t333, t334⟩, A70, H⟩ := H
    replace H : ((impl_Follow.f k t333 t334).bind fun bt335 => ((spec_Follow.f k t333 t334).bind fun bt337 => (if t329.toList = t331.toList then (if (t330 != t332) = true then (laws_FnClean.j0 k t328 t329 t330 true) else (if bt335.1.toList = bt337.1.toList then (if (bt335.2 != bt337.2) = true then (laws_FnClean.j0 k t328 t329 t330 true) else (if t330 = true then ((impl_PathOk.f k t329).bind fun t339 => (if t339 = true then (if bt335.2 = true then ((impl_PathOk.f k bt335.1).bind fun t340 => (laws_FnClean.j0 k t328 t329 t330 (!t340))) else (laws_FnClean.j0 k t328 t329 t330 false)) else (laws_FnClean.j0 k t328 t329 t330 true))) else (if bt335.2 = true then ((impl_PathOk.f k bt335.1).bind fun t341 => (laws_FnClean.j0 k t328 t329 t330 (!t341))) else (laws_FnClean.j0 k t328 t329 t330 false)))) else (laws_FnClean.j0 k t328 t329 t330 true))) else (laws_FnClean.j0 k t328 t329 t330 true)))) = some r := H
    have A7 := Aside0.mk A70
    clear A70
    replace H := Option.bind_eq_some_iff.mp H
    obtain ⟨⟨t335, t336⟩, A80, H⟩ := H
    replace H : ((spec_Follow.f k t333 t334).bind fun bt337 => (if t329.toList = t331.toList then (if (t330 != t332) = true then (laws_FnClean.j0 k t328 t329 t330 true) else (if t335.toList = bt337.1.toList then (if (t336 != bt337.2) = true then (laws_FnClean.j0 k t328 t329 t330 true) else (if t330 = true then ((impl_PathOk.f k t329).bind fun t339 => (if t339 = true then (if t336 = true then ((impl_PathOk.f k t335).bind fun t340 => (laws_FnClean.j0 k t328 t329 t330 (!t340))) else (laws_FnClean.j0 k t328 t329 t330 false)) else (laws_FnClean.j0 k t328 t329 t330 true))) else (if t336 = true then ((impl_PathOk.f k t335).bind fun t341 => (laws_FnClean.j0 k t328 t329 t330 (!t341))) else (laws_FnClean.j0 k t328 t329 t330 false)))) else (laws_FnClean.j0 k t328 t329 t330 true))) else (laws_FnClean.j0 k t328 t329 t330 true))) = some r := H
    have A8 := Aside0.mk A80
    clear A80
    replace H := Option.bind_eq_some_iff.mp H
    obtain ⟨⟨t337, t338⟩, A90, H⟩ := H
    replace H : (if t329.toList = t331.toList then (if (t330 != t332) = true then (laws_FnClean.j0 k t328 t329 t330 true) else (if t335.toList = t337.toList then (if (t336 != t338) = true then (laws_FnClean.j0 k t328 t329 t330 true) else (if t330 = true then ((impl_PathOk.f k t329).bind fun t339 => (if t339 = true then (if t336 = true then ((impl_PathOk.f k t335).bind fun t340 => (laws_FnClean.j0 k t328 t329 t330 (!t340))) else (laws_FnClean.j0 k t328 t329 t330 false)) else (laws_FnClean.j0 k t328 t329 t330 true))) else (if t336 = true then ((impl_PathOk.f k t335).bind fun t341 => (laws_FnClean.j0 k t328 t329 t330 (!t341))) else (laws_FnClean.j0 k t328 t329 t330 false)))) else (laws_FnClean.j0 k t328 t329 t330 true))) else (laws_FnClean.j0 k t328 t329 t330 true)) = some r := H
    have A9 := Aside0.mk A90
    clear A90
    have HC10 := Aside0.mk H
    clear H
    go_enter Tryd.func3, Tryd.ntmps3
    go_upto_region 9 with (first | ((with_reducible refine gate_callee (f := 7) rfl ?_); refine goesL_ (some 17) rfl rfl Tryd.func7 (by kernel_rfl) rfl #[.slice A0 l0.length c0] rfl (by (try simp only [List.map_toArray, List.map_cons, List.map_nil]); first | done | rfl | (simp only [List.length_drop, List.length_take]; rfl)) ?_; (with_reducible refine (laws_big.calls _ _ l0 false _ ?side1 ?side2 A2.out).mono ?_); (case side1 => repeat (first | exact HR0.out | (with_reducible refine Kd.C_alloc ?_ _) | (with_reducible refine Kd.C_drewN ?_ _) | (with_reducible refine Kd.C_drew ?_))); (case side2 => exact HC0.out); rintro e w' ⟨rfl, ⟨nd, rfl⟩⟩; refine ⟨_, rfl, ?_⟩) | ((with_reducible refine gate_callee (f := 8) rfl ?_); refine goesL_ (some 19) rfl rfl Tryd.func8 (by kernel_rfl) rfl #[.slice A0 l0.length c0] rfl (by (try simp only [List.map_toArray, List.map_cons, List.map_nil]); first | done | rfl | (simp only [List.length_drop, List.length_take]; rfl)) ?_; (with_reducible refine (spec_DrawClean.calls k _ _ l0 t328 _ ?side1 ?side2 A4.out).mono ?_); (case side1 => repeat (first | exact HR0.out | (with_reducible refine Kd.C_alloc ?_ _) | (with_reducible refine Kd.C_drewN ?_ _) | (with_reducible refine Kd.C_drew ?_))); (case side2 => exact HC0.out); rintro e w11 ⟨rfl, hb⟩; refine ⟨_, rfl, ?_⟩; have n0_ := Aside0.mk (below_step (by repeat (first | (with_reducible first | exact HB.out | apply below_alloc | apply pw_below_drewN | apply below_drew1) | exact HB.out)) hb); clear HB; have HB := n0_; clear n0_; (try clear hb); (try clear hb2); (try clear hk); (try clear hi)) | ((with_reducible refine gate_callee (f := 9) rfl ?_); refine goesL_ (some 22) rfl rfl Tryd.func9 (by kernel_rfl) rfl #[.string t328] rfl (by (try simp only [List.map_toArray, List.map_cons, List.map_nil]); first | done | rfl | (simp only [List.length_drop, List.length_take]; rfl)) ?_; (with_reducible refine (impl_Clean.calls k t328 t329 t330 _ A5.out).mono ?_); rintro e w12 ⟨rfl, hb⟩; refine ⟨_, rfl, ?_⟩; have n0_ := Aside0.mk (below_step (by repeat (first | (with_reducible first | exact HB.out | apply below_alloc | apply pw_below_drewN | apply below_drew1) | exact HB.out)) hb); clear HB; have HB := n0_; clear n0_; (try clear hb); (try clear hb2); (try clear hk); (try clear hi)) | ((with_reducible refine gate_callee (f := 10) rfl ?_); refine goesL_ (some 27) rfl rfl Tryd.func10 (by kernel_rfl) rfl #[.string t328] rfl (by (try simp only [List.map_toArray, List.map_cons, List.map_nil]); first | done | rfl | (simp only [List.length_drop, List.length_take]; rfl)) ?_; (with_reducible refine (spec_Clean.calls k t328 t331 t332 _ A6.out).mono ?_); rintro e w13 ⟨rfl, hb⟩; refine ⟨_, rfl, ?_⟩; have n0_ := Aside0.mk (below_step (by repeat (first | (with_reducible first | exact HB.out | apply below_alloc | apply pw_below_drewN | apply below_drew1) | exact HB.out)) hb); clear HB; have HB := n0_; clear n0_; (try clear hb); (try clear hb2); (try clear hk); (try clear hi)) | ((with_reducible refine gate_callee (f := 11) rfl ?_); refine goesL_ (some 32) rfl rfl Tryd.func11 (by kernel_rfl) rfl #[.slice A0 l0.length c0] rfl (by (try simp only [List.map_toArray, List.map_cons, List.map_nil]); first | done | rfl | (simp only [List.length_drop, List.length_take]; rfl)) ?_; (with_reducible refine (spec_DrawFollow.calls k _ _ l0 t333 t334 _ ?side1 ?side2 A7.out).mono ?_); (case side1 => repeat (first | exact (Kd.C_below HR0.out HB.out) | (with_reducible refine Kd.C_alloc ?_ _) | (with_reducible refine Kd.C_drewN ?_ _) | (with_reducible refine Kd.C_drew ?_))); (case side2 => exact HC0.out); rintro e w14 ⟨rfl, hb⟩; refine ⟨_, rfl, ?_⟩; have n0_ := Aside0.mk (below_step (by repeat (first | (with_reducible first | exact HB.out | apply below_alloc | apply pw_below_drewN | apply below_drew1) | exact HB.out)) hb); clear HB; have HB := n0_; clear n0_; (try clear hb); (try clear hb2); (try clear hk); (try clear hi)) | ((with_reducible refine gate_callee (f := 12) rfl ?_); refine goesL_ (some 38) rfl rfl Tryd.func12 (by kernel_rfl) rfl #[.string t333, .string t334] rfl (by (try simp only [List.map_toArray, List.map_cons, List.map_nil]); first | done | rfl | (simp only [List.length_drop, List.length_take]; rfl)) ?_; (with_reducible refine (impl_Follow.calls k t333 t334 t335 t336 _ A8.out).mono ?_); rintro e w15 ⟨rfl, hb⟩; refine ⟨_, rfl, ?_⟩; have n0_ := Aside0.mk (below_step (by repeat (first | (with_reducible first | exact HB.out | apply below_alloc | apply pw_below_drewN | apply below_drew1) | exact HB.out)) hb); clear HB; have HB := n0_; clear n0_; (try clear hb); (try clear hb2); (try clear hk); (try clear hi)) | ((with_reducible refine gate_callee (f := 13) rfl ?_); refine goesL_ (some 44) rfl rfl Tryd.func13 (by kernel_rfl) rfl #[.string t333, .string t334] rfl (by (try simp only [List.map_toArray, List.map_cons, List.map_nil]); first | done | rfl | (simp only [List.length_drop, List.length_take]; rfl)) ?_; (with_reducible refine (spec_Follow.calls k t333 t334 t337 t338 _ A9.out).mono ?_); rintro e w16 ⟨rfl, hb⟩; refine ⟨_, rfl, ?_⟩; have n0_ := Aside0.mk (below_step (by repeat (first | (with_reducible first | exact HB.out | apply below_alloc | apply pw_below_drewN | apply below_drew1) | exact HB.out)) hb); clear HB; have HB := n0_; clear n0_; (try clear hb); (try clear hb2); (try clear hk); (try clear hi)))
    (try simp only [Act.put, List.setIfInBounds_toArray, List.set_cons_zero, List.set_cons_succ])
    go_cut [5, 80] (fun v5 v80 wc => ∃ (kq : Nat) (x5_9 : Bool) (x80_9 : Bool), v5 = .bool x5_9 ∧ v80 = .bool x80_9 ∧ Aside0 (laws_FnClean.j0 kq t328 t329 x5_9 x80_9 = some r) ∧ Aside0 (kq ≤ k) ∧ Aside0 (Below w.heap.size w wc))
    case first =>
      have H := HC10.out
      clear HC10
      by_cases c17 : t329.toList = t331.toList
      · rw [if_pos c17] at H
        have c17b0 : (t329.toList == t331.toList) = true := beq_iff_eq.mpr c17
        have c17b1 : (t329.toList != t331.toList) = false := bne_eq_false_iff_eq.mpr c17
        clear c17
        (first | rw [c17b0] | (simp only [i64_w, i32_w]; rw [c17b0]) | skip)
        by_cases c18 : (t330 != t332) = true
        · rw [if_pos c18] at H
          have c18b0 : (t330 != t332) = true := c18
          (try (have c18b1 : decide (t330 = t332) = false := by simpa using c18))
          (try (have c18b2 : (t330 == t332) = false := by simpa using c18))
          (try (have c18b3 : ¬ (t330 = t332) := by simpa using c18))
          clear c18
          have H' := Aside0.mk H
          clear H
          go_wp2
          go_meet
          case rel => exact ⟨_, (t330), (true), (by first | rfl | (simp; done) | (simp [*]; done)), (by first | rfl | (simp; done) | (simp [*]; done)), H', ⟨by first | omega | exact Nat.le_refl _⟩, ⟨by repeat (first | (with_reducible first | exact HB.out | apply below_alloc | apply pw_below_drewN | apply below_drew1) | exact HB.out)⟩⟩
        · rw [if_neg c18] at H
          have c18b0 : (t330 != t332) = false := by simpa using c18
          (try (have c18b1 : decide (t330 = t332) = true := by simpa using c18))
          (try (have c18b2 : (t330 == t332) = true := by simpa using c18))
          clear c18
          by_cases c19 : t335.toList = t337.toList
          · rw [if_pos c19] at H
            have c19b0 : (t335.toList == t337.toList) = true := beq_iff_eq.mpr c19
            have c19b1 : (t335.toList != t337.toList) = false := bne_eq_false_iff_eq.mpr c19
            clear c19
            by_cases c20 : (t336 != t338) = true
            · rw [if_pos c20] at H
              have c20b0 : (t336 != t338) = true := c20
              (try (have c20b1 : decide (t336 = t338) = false := by simpa using c20))
              (try (have c20b2 : (t336 == t338) = false := by simpa using c20))
              (try (have c20b3 : ¬ (t336 = t338) := by simpa using c20))
              clear c20
              have H' := Aside0.mk H
              clear H
              go_wp2
              go_meet
              case rel => exact ⟨_, (t330), (true), (by first | rfl | (simp; done) | (simp [*]; done)), (by first | rfl | (simp; done) | (simp [*]; done)), H', ⟨by first | omega | exact Nat.le_refl _⟩, ⟨by repeat (first | (with_reducible first | exact HB.out | apply below_alloc | apply pw_below_drewN | apply below_drew1) | exact HB.out)⟩⟩
            · rw [if_neg c20] at H
              have c20b0 : (t336 != t338) = false := by simpa using c20
              (try (have c20b1 : decide (t336 = t338) = true := by simpa using c20))
              (try (have c20b2 : (t336 == t338) = true := by simpa using c20))
              clear c20
              by_cases c21 : t330 = true
              · subst c21
                have H1 : ((impl_PathOk.f k t329).bind fun t339 => (if t339 = true then (if t336 = true then ((impl_PathOk.f k t335).bind fun t340 => (laws_FnClean.j0 k t328 t329 true (!t340))) else (laws_FnClean.j0 k t328 t329 true false)) else (laws_FnClean.j0 k t328 t329 true true))) = some r := by rw [if_pos rfl] at H; exact H
                clear H
                have H := H1
                clear H1
                replace H := Option.bind_eq_some_iff.mp H
                obtain ⟨t339, A220, H⟩ := H
                replace H : (if t339 = true then (if t336 = true then ((impl_PathOk.f k t335).bind fun t340 => (laws_FnClean.j0 k t328 t329 true (!t340))) else (laws_FnClean.j0 k t328 t329 true false)) else (laws_FnClean.j0 k t328 t329 true true)) = some r := H
                have A22 := Aside0.mk A220
                clear A220
                by_cases c23 : t339 = true
                · subst c23
                  have H1 : (if t336 = true then ((impl_PathOk.f k t335).bind fun t340 => (laws_FnClean.j0 k t328 t329 true (!t340))) else (laws_FnClean.j0 k t328 t329 true false)) = some r := by rw [if_pos rfl] at H; exact H
                  clear H
                  have H := H1
                  clear H1
                  by_cases c24 : t336 = true
                  · subst c24
                    have H1 : ((impl_PathOk.f k t335).bind fun t340 => (laws_FnClean.j0 k t328 t329 true (!t340))) = some r := by rw [if_pos rfl] at H; exact H
                    clear H
                    have H := H1
                    clear H1
                    replace H := Option.bind_eq_some_iff.mp H
                    obtain ⟨t340, A250, H⟩ := H
                    replace H : (laws_FnClean.j0 k t328 t329 true (!t340)) = some r := H
                    have A25 := Aside0.mk A250
                    clear A250
                    have H' := Aside0.mk H
                    clear H
                    go_wp2_with (first | (go_at_call 14; (with_reducible refine (impl_PathOk.calls k t329 true _ A22.out).mono ?_); rintro e w26 ⟨rfl, hb⟩; have n0_ := Aside0.mk (below_step (by repeat (first | (with_reducible first | exact HB.out | apply below_alloc | apply pw_below_drewN | apply below_drew1) | exact HB.out)) hb); clear HB; have HB := n0_; clear n0_; (try clear hb); (try clear hb2); (try clear hk); (try clear hi)) | (go_at_call 14; (with_reducible refine (impl_PathOk.calls k t335 t340 _ A25.out).mono ?_); rintro e w27 ⟨rfl, hb⟩; have n0_ := Aside0.mk (below_step (by repeat (first | (with_reducible first | exact HB.out | apply below_alloc | apply pw_below_drewN | apply below_drew1) | exact HB.out)) hb); clear HB; have HB := n0_; clear n0_; (try clear hb); (try clear hb2); (try clear hk); (try clear hi)))
                    go_meet
                    case rel => exact ⟨_, (true), (!t340), (by first | rfl | (simp; done) | (simp [*]; done)), (by first | rfl | (simp; done) | (simp [*]; done)), H', ⟨by first | omega | exact Nat.le_refl _⟩, ⟨by repeat (first | (with_reducible first | exact HB.out | apply below_alloc | apply pw_below_drewN | apply below_drew1) | exact HB.out)⟩⟩
                  · replace c24 := Bool.eq_false_iff.mpr c24
                    subst c24
                    have H1 : (laws_FnClean.j0 k t328 t329 true false) = some r := by rw [if_neg (show ¬ (false = true) by decide)] at H; exact H
                    clear H
                    have H := H1
                    clear H1
                    have H' := Aside0.mk H
                    clear H
                    go_wp2_with (first | (go_at_call 14; (with_reducible refine (impl_PathOk.calls k t329 true _ A22.out).mono ?_); rintro e w28 ⟨rfl, hb⟩; have n0_ := Aside0.mk (below_step (by repeat (first | (with_reducible first | exact HB.out | apply below_alloc | apply pw_below_drewN | apply below_drew1) | exact HB.out)) hb); clear HB; have HB := n0_; clear n0_; (try clear hb); (try clear hb2); (try clear hk); (try clear hi)))
                    go_meet
                    case rel => exact ⟨_, (true), (false), (by first | rfl | (simp; done) | (simp [*]; done)), (by first | rfl | (simp; done) | (simp [*]; done)), H', ⟨by first | omega | exact Nat.le_refl _⟩, ⟨by repeat (first | (with_reducible first | exact HB.out | apply below_alloc | apply pw_below_drewN | apply below_drew1) | exact HB.out)⟩⟩
                · replace c23 := Bool.eq_false_iff.mpr c23
                  subst c23
                  have H1 : (laws_FnClean.j0 k t328 t329 true true) = some r := by rw [if_neg (show ¬ (false = true) by decide)] at H; exact H
                  clear H
                  have H := H1
                  clear H1
                  have H' := Aside0.mk H
                  clear H
                  go_wp2_with (first | (go_at_call 14; (with_reducible refine (impl_PathOk.calls k t329 false _ A22.out).mono ?_); rintro e w29 ⟨rfl, hb⟩; have n0_ := Aside0.mk (below_step (by repeat (first | (with_reducible first | exact HB.out | apply below_alloc | apply pw_below_drewN | apply below_drew1) | exact HB.out)) hb); clear HB; have HB := n0_; clear n0_; (try clear hb); (try clear hb2); (try clear hk); (try clear hi)))
                  go_meet
                  case rel => exact ⟨_, (true), (true), (by first | rfl | (simp; done) | (simp [*]; done)), (by first | rfl | (simp; done) | (simp [*]; done)), H', ⟨by first | omega | exact Nat.le_refl _⟩, ⟨by repeat (first | (with_reducible first | exact HB.out | apply below_alloc | apply pw_below_drewN | apply below_drew1) | exact HB.out)⟩⟩
              · replace c21 := Bool.eq_false_iff.mpr c21
                subst c21
                have H1 : (if t336 = true then ((impl_PathOk.f k t335).bind fun t341 => (laws_FnClean.j0 k t328 t329 false (!t341))) else (laws_FnClean.j0 k t328 t329 false false)) = some r := by rw [if_neg (show ¬ (false = true) by decide)] at H; exact H
                clear H
                have H := H1
                clear H1
                by_cases c30 : t336 = true
                · subst c30
                  have H1 : ((impl_PathOk.f k t335).bind fun t341 => (laws_FnClean.j0 k t328 t329 false (!t341))) = some r := by rw [if_pos rfl] at H; exact H
                  clear H
                  have H := H1
                  clear H1
                  replace H := Option.bind_eq_some_iff.mp H
                  obtain ⟨t341, A310, H⟩ := H
                  replace H : (laws_FnClean.j0 k t328 t329 false (!t341)) = some r := H
                  have A31 := Aside0.mk A310
                  clear A310
                  have H' := Aside0.mk H
                  clear H
                  go_wp2_with (first | (go_at_call 14; (with_reducible refine (impl_PathOk.calls k t335 t341 _ A31.out).mono ?_); rintro e w32 ⟨rfl, hb⟩; have n0_ := Aside0.mk (below_step (by repeat (first | (with_reducible first | exact HB.out | apply below_alloc | apply pw_below_drewN | apply below_drew1) | exact HB.out)) hb); clear HB; have HB := n0_; clear n0_; (try clear hb); (try clear hb2); (try clear hk); (try clear hi)))
                  go_meet
                  case rel => exact ⟨_, (false), (!t341), (by first | rfl | (simp; done) | (simp [*]; done)), (by first | rfl | (simp; done) | (simp [*]; done)), H', ⟨by first | omega | exact Nat.le_refl _⟩, ⟨by repeat (first | (with_reducible first | exact HB.out | apply below_alloc | apply pw_below_drewN | apply below_drew1) | exact HB.out)⟩⟩
                · replace c30 := Bool.eq_false_iff.mpr c30
                  subst c30
                  have H1 : (laws_FnClean.j0 k t328 t329 false false) = some r := by rw [if_neg (show ¬ (false = true) by decide)] at H; exact H
                  clear H
                  have H := H1
                  clear H1
                  have H' := Aside0.mk H
                  clear H
                  go_wp2
                  go_meet
                  case rel => exact ⟨_, (false), (false), (by first | rfl | (simp; done) | (simp [*]; done)), (by first | rfl | (simp; done) | (simp [*]; done)), H', ⟨by first | omega | exact Nat.le_refl _⟩, ⟨by repeat (first | (with_reducible first | exact HB.out | apply below_alloc | apply pw_below_drewN | apply below_drew1) | exact HB.out)⟩⟩
          · rw [if_neg c19] at H
            have c19b0 : (t335.toList == t337.toList) = false := beq_eq_false_iff_ne.mpr c19
            have c19b1 : (t335.toList != t337.toList) = true := bne_iff_ne.mpr c19
            have H' := Aside0.mk H
            clear H
            go_wp2
            go_meet
            case rel => exact ⟨_, (t330), (true), (by first | rfl | (simp; done) | (simp [*]; done)), (by first | rfl | (simp; done) | (simp [*]; done)), H', ⟨by first | omega | exact Nat.le_refl _⟩, ⟨by repeat (first | (with_reducible first | exact HB.out | apply below_alloc | apply pw_below_drewN | apply below_drew1) | exact HB.out)⟩⟩
      · rw [if_neg c17] at H
        have c17b0 : (t329.toList == t331.toList) = false := beq_eq_false_iff_ne.mpr c17
        have c17b1 : (t329.toList != t331.toList) = true := bne_iff_ne.mpr c17
        (first | rw [c17b0] | (simp only [i64_w, i32_w]; rw [c17b0]) | skip)
        have H' := Aside0.mk H
        clear H
        go_wp2
        go_meet
        case rel => exact ⟨_, (t330), (true), (by first | rfl | (simp; done) | (simp [*]; done)), (by first | rfl | (simp; done) | (simp [*]; done)), H', ⟨by first | omega | exact Nat.le_refl _⟩, ⟨by repeat (first | (with_reducible first | exact HB.out | apply below_alloc | apply pw_below_drewN | apply below_drew1) | exact HB.out)⟩⟩
    case rest =>
      clear HC10
      try clear c1
      try clear c2
      try clear p2
      try clear c3
      try clear c7
      try clear c8
      try clear c9
      try clear c10
      try clear c11
      try clear c12
      try clear c13
      try clear c17
      try clear c17b0
      try clear c17b1
      try clear c18
      try clear c18b0
      try clear c18b1
      try clear c18b2
      try clear c19
      try clear c19b0
      try clear c19b1
      try clear c20
      try clear c20b0
      try clear c20b1
      try clear c20b2
      try clear c21
      try clear c23
      try clear c24
      try clear c30
      obtain ⟨kq, x5_9, x80_9, rfl, rfl, HA, HJ9, HB⟩ := hcut
      cases kq with
      | zero => exact absurd HA.out (by simp [laws_FnClean.j0])
      | succ kj9 =>
        have H := HA.out
        clear HA
        simp only [laws_FnClean.j0] at H
        by_cases c33 : x80_9 = true
        · subst c33
          have H1 : (some false) = some r := by rw [if_pos rfl] at H; exact H
          clear H
          have H := H1
          clear H1
          obtain rfl := Option.some.inj H
          go_wp2
          go_ret
          exact ⟨by first | rfl | (simp [errW_none, errW_some] <;> rfl) | (simp [*, errW_none, errW_some] <;> rfl) | (simp only [decide_eq_true_eq] at *; simp [*, bt]; done), by repeat (first | (with_reducible first | exact HB.out | apply below_alloc | apply pw_below_drewN | apply below_drew1) | exact HB.out)⟩
        · replace c33 := Bool.eq_false_iff.mpr c33
          subst c33
          have H1 : ((spec_PathOk.f kj9 t328).bind fun t342 => (if t342 = true then (if x5_9 = true then (if t329.toList = t328.toList then ((impl_Clean.f kj9 t329).bind fun bt343 => (if bt343.2 = true then (some (bt343.1.toList == t329.toList)) else (some false))) else (some false)) else (some false)) else ((impl_Clean.f kj9 t329).bind fun bt345 => (if x5_9 = true then (if bt345.2 = true then (some (bt345.1.toList == t329.toList)) else (some false)) else (some true))))) = some r := by rw [if_neg (show ¬ (false = true) by decide)] at H; exact H
          clear H
          have H := H1
          clear H1
          replace H := Option.bind_eq_some_iff.mp H
          obtain ⟨t342, A340, H⟩ := H
          replace H : (if t342 = true then (if x5_9 = true then (if t329.toList = t328.toList then ((impl_Clean.f kj9 t329).bind fun bt343 => (if bt343.2 = true then (some (bt343.1.toList == t329.toList)) else (some false))) else (some false)) else (some false)) else ((impl_Clean.f kj9 t329).bind fun bt345 => (if x5_9 = true then (if bt345.2 = true then (some (bt345.1.toList == t329.toList)) else (some false)) else (some true)))) = some r := H
          have A34 := Aside0.mk A340
          clear A340
          by_cases c35 : t342 = true
          · subst c35
            have H1 : (if x5_9 = true then (if t329.toList = t328.toList then ((impl_Clean.f kj9 t329).bind fun bt343 => (if bt343.2 = true then (some (bt343.1.toList == t329.toList)) else (some false))) else (some false)) else (some false)) = some r := by rw [if_pos rfl] at H; exact H
            clear H
            have H := H1
            clear H1
            by_cases c36 : x5_9 = true
            · subst c36
              have H1 : (if t329.toList = t328.toList then ((impl_Clean.f kj9 t329).bind fun bt343 => (if bt343.2 = true then (some (bt343.1.toList == t329.toList)) else (some false))) else (some false)) = some r := by rw [if_pos rfl] at H; exact H
              clear H
              have H := H1
              clear H1
              by_cases c37 : t329.toList = t328.toList
              · rw [if_pos c37] at H
                have c37b0 : (t329.toList == t328.toList) = true := beq_iff_eq.mpr c37
                have c37b1 : (t329.toList != t328.toList) = false := bne_eq_false_iff_eq.mpr c37
                clear c37
                replace H := Option.bind_eq_some_iff.mp H
                obtain ⟨⟨t343, t344⟩, A380, H⟩ := H
                replace H : (if t344 = true then (some (t343.toList == t329.toList)) else (some false)) = some r := H
                have A38 := Aside0.mk A380
                clear A380
                by_cases c39 : t344 = true
                · subst c39
                  have H1 : (some (t343.toList == t329.toList)) = some r := by rw [if_pos rfl] at H; exact H
                  clear H
                  have H := H1
                  clear H1
                  obtain rfl := Option.some.inj H
                  go_wp2_with (first | ((with_reducible refine gate_callee (f := 15) rfl ?_); refine goesL_ (some 82) rfl rfl Tryd.func15 (by kernel_rfl) rfl #[.string t328] rfl (by (try simp only [List.map_toArray, List.map_cons, List.map_nil]); first | done | rfl | (simp only [List.length_drop, List.length_take]; rfl)) ?_; (with_reducible refine (spec_PathOk.calls kj9 t328 true _ A34.out).mono ?_); rintro e w40 ⟨rfl, hb⟩; refine ⟨_, rfl, ?_⟩; have n0_ := Aside0.mk (below_step (by repeat (first | (with_reducible first | exact HB.out | apply below_alloc | apply pw_below_drewN | apply below_drew1) | exact HB.out)) hb); clear HB; have HB := n0_; clear n0_; (try clear hb); (try clear hb2); (try clear hk); (try clear hi)) | ((with_reducible refine gate_callee (f := 9) rfl ?_); refine goesL_ (some 94) rfl rfl Tryd.func9 (by kernel_rfl) rfl #[.string t329] rfl (by (try simp only [List.map_toArray, List.map_cons, List.map_nil]); first | done | rfl | (simp only [List.length_drop, List.length_take]; rfl)) ?_; (with_reducible refine (impl_Clean.calls kj9 t329 t343 true _ A38.out).mono ?_); rintro e w41 ⟨rfl, hb⟩; refine ⟨_, rfl, ?_⟩; have n0_ := Aside0.mk (below_step (by repeat (first | (with_reducible first | exact HB.out | apply below_alloc | apply pw_below_drewN | apply below_drew1) | exact HB.out)) hb); clear HB; have HB := n0_; clear n0_; (try clear hb); (try clear hb2); (try clear hk); (try clear hi)))
                  go_ret
                  exact ⟨by first | rfl | (simp [errW_none, errW_some] <;> rfl) | (simp [*, errW_none, errW_some] <;> rfl) | (simp only [decide_eq_true_eq] at *; simp [*, bt]; done), by repeat (first | (with_reducible first | exact HB.out | apply below_alloc | apply pw_below_drewN | apply below_drew1) | exact HB.out)⟩
                · replace c39 := Bool.eq_false_iff.mpr c39
                  subst c39
                  have H1 : (some false) = some r := by rw [if_neg (show ¬ (false = true) by decide)] at H; exact H
                  clear H
                  have H := H1
                  clear H1
                  obtain rfl := Option.some.inj H
                  go_wp2_with (first | ((with_reducible refine gate_callee (f := 15) rfl ?_); refine goesL_ (some 82) rfl rfl Tryd.func15 (by kernel_rfl) rfl #[.string t328] rfl (by (try simp only [List.map_toArray, List.map_cons, List.map_nil]); first | done | rfl | (simp only [List.length_drop, List.length_take]; rfl)) ?_; (with_reducible refine (spec_PathOk.calls kj9 t328 true _ A34.out).mono ?_); rintro e w42 ⟨rfl, hb⟩; refine ⟨_, rfl, ?_⟩; have n0_ := Aside0.mk (below_step (by repeat (first | (with_reducible first | exact HB.out | apply below_alloc | apply pw_below_drewN | apply below_drew1) | exact HB.out)) hb); clear HB; have HB := n0_; clear n0_; (try clear hb); (try clear hb2); (try clear hk); (try clear hi)) | ((with_reducible refine gate_callee (f := 9) rfl ?_); refine goesL_ (some 94) rfl rfl Tryd.func9 (by kernel_rfl) rfl #[.string t329] rfl (by (try simp only [List.map_toArray, List.map_cons, List.map_nil]); first | done | rfl | (simp only [List.length_drop, List.length_take]; rfl)) ?_; (with_reducible refine (impl_Clean.calls kj9 t329 t343 false _ A38.out).mono ?_); rintro e w43 ⟨rfl, hb⟩; refine ⟨_, rfl, ?_⟩; have n0_ := Aside0.mk (below_step (by repeat (first | (with_reducible first | exact HB.out | apply below_alloc | apply pw_below_drewN | apply below_drew1) | exact HB.out)) hb); clear HB; have HB := n0_; clear n0_; (try clear hb); (try clear hb2); (try clear hk); (try clear hi)))
                  go_ret
                  exact ⟨by first | rfl | (simp [errW_none, errW_some] <;> rfl) | (simp [*, errW_none, errW_some] <;> rfl) | (simp only [decide_eq_true_eq] at *; simp [*, bt]; done), by repeat (first | (with_reducible first | exact HB.out | apply below_alloc | apply pw_below_drewN | apply below_drew1) | exact HB.out)⟩
              · rw [if_neg c37] at H
                have c37b0 : (t329.toList == t328.toList) = false := beq_eq_false_iff_ne.mpr c37
                have c37b1 : (t329.toList != t328.toList) = true := bne_iff_ne.mpr c37
                obtain rfl := Option.some.inj H
                go_wp2_with (first | ((with_reducible refine gate_callee (f := 15) rfl ?_); refine goesL_ (some 82) rfl rfl Tryd.func15 (by kernel_rfl) rfl #[.string t328] rfl (by (try simp only [List.map_toArray, List.map_cons, List.map_nil]); first | done | rfl | (simp only [List.length_drop, List.length_take]; rfl)) ?_; (with_reducible refine (spec_PathOk.calls kj9 t328 true _ A34.out).mono ?_); rintro e w44 ⟨rfl, hb⟩; refine ⟨_, rfl, ?_⟩; have n0_ := Aside0.mk (below_step (by repeat (first | (with_reducible first | exact HB.out | apply below_alloc | apply pw_below_drewN | apply below_drew1) | exact HB.out)) hb); clear HB; have HB := n0_; clear n0_; (try clear hb); (try clear hb2); (try clear hk); (try clear hi)))
                go_ret
                exact ⟨by first | rfl | (simp [errW_none, errW_some] <;> rfl) | (simp [*, errW_none, errW_some] <;> rfl) | (simp only [decide_eq_true_eq] at *; simp [*, bt]; done), by repeat (first | (with_reducible first | exact HB.out | apply below_alloc | apply pw_below_drewN | apply below_drew1) | exact HB.out)⟩
            · replace c36 := Bool.eq_false_iff.mpr c36
              subst c36
              have H1 : (some false) = some r := by rw [if_neg (show ¬ (false = true) by decide)] at H; exact H
              clear H
              have H := H1
              clear H1
              obtain rfl := Option.some.inj H
              go_wp2_with (first | ((with_reducible refine gate_callee (f := 15) rfl ?_); refine goesL_ (some 82) rfl rfl Tryd.func15 (by kernel_rfl) rfl #[.string t328] rfl (by (try simp only [List.map_toArray, List.map_cons, List.map_nil]); first | done | rfl | (simp only [List.length_drop, List.length_take]; rfl)) ?_; (with_reducible refine (spec_PathOk.calls kj9 t328 true _ A34.out).mono ?_); rintro e w45 ⟨rfl, hb⟩; refine ⟨_, rfl, ?_⟩; have n0_ := Aside0.mk (below_step (by repeat (first | (with_reducible first | exact HB.out | apply below_alloc | apply pw_below_drewN | apply below_drew1) | exact HB.out)) hb); clear HB; have HB := n0_; clear n0_; (try clear hb); (try clear hb2); (try clear hk); (try clear hi)))
              go_ret
              exact ⟨by first | rfl | (simp [errW_none, errW_some] <;> rfl) | (simp [*, errW_none, errW_some] <;> rfl) | (simp only [decide_eq_true_eq] at *; simp [*, bt]; done), by repeat (first | (with_reducible first | exact HB.out | apply below_alloc | apply pw_below_drewN | apply below_drew1) | exact HB.out)⟩
          · replace c35 := Bool.eq_false_iff.mpr c35
            subst c35
            have H1 : ((impl_Clean.f kj9 t329).bind fun bt345 => (if x5_9 = true then (if bt345.2 = true then (some (bt345.1.toList == t329.toList)) else (some false)) else (some true))) = some r := by rw [if_neg (show ¬ (false = true) by decide)] at H; exact H
            clear H
            have H := H1
            clear H1
            replace H := Option.bind_eq_some_iff.mp H
            obtain ⟨⟨t345, t346⟩, A460, H⟩ := H
            replace H : (if x5_9 = true then (if t346 = true then (some (t345.toList == t329.toList)) else (some false)) else (some true)) = some r := H
            have A46 := Aside0.mk A460
            clear A460
            by_cases c47 : x5_9 = true
            · subst c47
              have H1 : (if t346 = true then (some (t345.toList == t329.toList)) else (some false)) = some r := by rw [if_pos rfl] at H; exact H
              clear H
              have H := H1
              clear H1
              by_cases c48 : t346 = true
              · subst c48
                have H1 : (some (t345.toList == t329.toList)) = some r := by rw [if_pos rfl] at H; exact H
                clear H
                have H := H1
                clear H1
                obtain rfl := Option.some.inj H
                go_wp2_with (first | ((with_reducible refine gate_callee (f := 15) rfl ?_); refine goesL_ (some 82) rfl rfl Tryd.func15 (by kernel_rfl) rfl #[.string t328] rfl (by (try simp only [List.map_toArray, List.map_cons, List.map_nil]); first | done | rfl | (simp only [List.length_drop, List.length_take]; rfl)) ?_; (with_reducible refine (spec_PathOk.calls kj9 t328 false _ A34.out).mono ?_); rintro e w49 ⟨rfl, hb⟩; refine ⟨_, rfl, ?_⟩; have n0_ := Aside0.mk (below_step (by repeat (first | (with_reducible first | exact HB.out | apply below_alloc | apply pw_below_drewN | apply below_drew1) | exact HB.out)) hb); clear HB; have HB := n0_; clear n0_; (try clear hb); (try clear hb2); (try clear hk); (try clear hi)) | ((with_reducible refine gate_callee (f := 9) rfl ?_); refine goesL_ (some 94) rfl rfl Tryd.func9 (by kernel_rfl) rfl #[.string t329] rfl (by (try simp only [List.map_toArray, List.map_cons, List.map_nil]); first | done | rfl | (simp only [List.length_drop, List.length_take]; rfl)) ?_; (with_reducible refine (impl_Clean.calls kj9 t329 t345 true _ A46.out).mono ?_); rintro e w50 ⟨rfl, hb⟩; refine ⟨_, rfl, ?_⟩; have n0_ := Aside0.mk (below_step (by repeat (first | (with_reducible first | exact HB.out | apply below_alloc | apply pw_below_drewN | apply below_drew1) | exact HB.out)) hb); clear HB; have HB := n0_; clear n0_; (try clear hb); (try clear hb2); (try clear hk); (try clear hi)))
                go_ret
                exact ⟨by first | rfl | (simp [errW_none, errW_some] <;> rfl) | (simp [*, errW_none, errW_some] <;> rfl) | (simp only [decide_eq_true_eq] at *; simp [*, bt]; done), by repeat (first | (with_reducible first | exact HB.out | apply below_alloc | apply pw_below_drewN | apply below_drew1) | exact HB.out)⟩
              · replace c48 := Bool.eq_false_iff.mpr c48
                subst c48
                have H1 : (some false) = some r := by rw [if_neg (show ¬ (false = true) by decide)] at H; exact H
                clear H
                have H := H1
                clear H1
                obtain rfl := Option.some.inj H
                go_wp2_with (first | ((with_reducible refine gate_callee (f := 15) rfl ?_); refine goesL_ (some 82) rfl rfl Tryd.func15 (by kernel_rfl) rfl #[.string t328] rfl (by (try simp only [List.map_toArray, List.map_cons, List.map_nil]); first | done | rfl | (simp only [List.length_drop, List.length_take]; rfl)) ?_; (with_reducible refine (spec_PathOk.calls kj9 t328 false _ A34.out).mono ?_); rintro e w51 ⟨rfl, hb⟩; refine ⟨_, rfl, ?_⟩; have n0_ := Aside0.mk (below_step (by repeat (first | (with_reducible first | exact HB.out | apply below_alloc | apply pw_below_drewN | apply below_drew1) | exact HB.out)) hb); clear HB; have HB := n0_; clear n0_; (try clear hb); (try clear hb2); (try clear hk); (try clear hi)) | ((with_reducible refine gate_callee (f := 9) rfl ?_); refine goesL_ (some 94) rfl rfl Tryd.func9 (by kernel_rfl) rfl #[.string t329] rfl (by (try simp only [List.map_toArray, List.map_cons, List.map_nil]); first | done | rfl | (simp only [List.length_drop, List.length_take]; rfl)) ?_; (with_reducible refine (impl_Clean.calls kj9 t329 t345 false _ A46.out).mono ?_); rintro e w52 ⟨rfl, hb⟩; refine ⟨_, rfl, ?_⟩; have n0_ := Aside0.mk (below_step (by repeat (first | (with_reducible first | exact HB.out | apply below_alloc | apply pw_below_drewN | apply below_drew1) | exact HB.out)) hb); clear HB; have HB := n0_; clear n0_; (try clear hb); (try clear hb2); (try clear hk); (try clear hi)))
                go_ret
                exact ⟨by first | rfl | (simp [errW_none, errW_some] <;> rfl) | (simp [*, errW_none, errW_some] <;> rfl) | (simp only [decide_eq_true_eq] at *; simp [*, bt]; done), by repeat (first | (with_reducible first | exact HB.out | apply below_alloc | apply pw_below_drewN | apply below_drew1) | exact HB.out)⟩
            · replace c47 := Bool.eq_false_iff.mpr c47
              subst c47
              have H1 : (some true) = some r := by rw [if_neg (show ¬ (false = true) by decide)] at H; exact H
              clear H
              have H := H1
              clear H1
              obtain rfl := Option.some.inj H
              go_wp2_with (first | ((with_reducible refine gate_callee (f := 15) rfl ?_); refine goesL_ (some 82) rfl rfl Tryd.func15 (by kernel_rfl) rfl #[.string t328] rfl (by (try simp only [List.map_toArray, List.map_cons, List.map_nil]); first | done | rfl | (simp only [List.length_drop, List.length_take]; rfl)) ?_; (with_reducible refine (spec_PathOk.calls kj9 t328 false _ A34.out).mono ?_); rintro e w53 ⟨rfl, hb⟩; refine ⟨_, rfl, ?_⟩; have n0_ := Aside0.mk (below_step (by repeat (first | (with_reducible first | exact HB.out | apply below_alloc | apply pw_below_drewN | apply below_drew1) | exact HB.out)) hb); clear HB; have HB := n0_; clear n0_; (try clear hb); (try clear hb2); (try clear hk); (try clear hi)) | ((with_reducible refine gate_callee (f := 9) rfl ?_); refine goesL_ (some 94) rfl rfl Tryd.func9 (by kernel_rfl) rfl #[.string t329] rfl (by (try simp only [List.map_toArray, List.map_cons, List.map_nil]); first | done | rfl | (simp only [List.length_drop, List.length_take]; rfl)) ?_; (with_reducible refine (impl_Clean.calls kj9 t329 t345 t346 _ A46.out).mono ?_); rintro e w54 ⟨rfl, hb⟩; refine ⟨_, rfl, ?_⟩; have n0_ := Aside0.mk (below_step (by repeat (first | (with_reducible first | exact HB.out | apply below_alloc | apply pw_below_drewN | apply below_drew1) | exact HB.out)) hb); clear HB; have HB := n0_; clear n0_; (try clear hb); (try clear hb2); (try clear hk); (try clear hi)))
              go_ret
              exact ⟨by first | rfl | (simp [errW_none, errW_some] <;> rfl) | (simp [*, errW_none, errW_some] <;> rfl) | (simp only [decide_eq_true_eq] at *; simp [*, bt]; done), by repeat (first | (with_reducible first | exact HB.out | apply below_alloc | apply pw_below_drewN | apply below_drew1) | exact HB.out)⟩

/-- THE ONE PURE STATEMENT of laws_FnClean: yours. -/
def laws_FnClean.Pure : Prop := ∀ (l0 : List Int), l0.length ≤ maxLen → l0.length * 1 ≤ 140737488351232 → (∀ x ∈ l0, (Lit.int .u8 x).wf = true) → ∃ k, laws_FnClean.f k l0 = some true
theorem laws_FnClean.walk (P : laws_FnClean.Pure) (a0 : Option Addr) (len0 cap0 : Nat) (z0 : List Int) (w : World) (w0 : (a0 = none ∧ len0 = 0 ∧ cap0 = 0 ∧ z0 = []) ∨ ∃ x, a0 = some x ∧ len0 ≤ cap0 ∧ cap0 ≤ maxLen ∧ z0.length = cap0 ∧ (∀ i, i < z0.length → w.cell? (x.add i) = some (.int .u8 (z0.getD i 0))) ∧ ∀ n ∈ z0, (Lit.int .u8 n).wf = true) (y0 : len0 * 1 ≤ 140737488351232) :
    Calls Tryd.prog 3 #[.slice a0 len0 cap0] w fun e w' => e = .returned (.bool true) ∧ Below w.heap.size w w' := by
  obtain ⟨l0, rfl, hr0, hm0, hw0, hc0⟩ := ReadsInt.ofRowC w0
  obtain ⟨k, h⟩ := P l0 hm0 y0 hw0
  refine (laws_FnClean.calls k _ _ l0 true w (Kd.C_of_reads (d := (0 : Int)) (h1 := fun _ => rfl) hr0) hc0 h).mono ?_
  rintro e w' ⟨rfl, hd⟩
  exact ⟨rfl, hd⟩

end Go.Proofs.YtdjepilhenijeaaDoor.PFnClean
