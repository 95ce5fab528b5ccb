-- PRINTED for this claim by a program of this session's repo over the kit's printer, with contracts of our own among the functions.
import Derived.Test.YtgmggpgcfonmgaaDoorPFnExactPutHeadx0
import Derived.Test.YtgmggpgcfonmgaaDoorPFnExactPutHeadx9
namespace Go.Proofs.YtgmggpgcfonmgaaDoor.PFnExactPutHead
open Go.RowKit Go.Proofs.YtgmggpgcfonmgaaDoorW.PrintWords Go.Proofs.YtgmggpgcfonmgaaDoorW.PrintLast Go.Proofs.YtgmggpgcfonmgaaDoorW.PrintMore
attribute [local go_sem] max2_int min2_int max_two min_two max_three min_three max_four min_four   -- for this text's walks alone
set_option linter.unusedVariables false
set_option linter.unusedSimpArgs false

/-! ### impl_SumOf: function 103 -/
def impl_SumOf.l0 : Nat → ByteArray → Int → Int → Int → Option (Int)
  | 0, _, _, _, _ => none
  | k + 1, x0, x3, x6, x7 => if x7 < x6 then (if 0 ≤ x7 then (if x7 < (x0.size : Int) then (impl_SumOf.l0 k x0 (wrap64 (x3 + (wrap64 (bt x0 x7)))) x6 (wrap64 (x7 + 1))) else (none)) else (none)) else (some x3)
def impl_SumOf.f (k : Nat) (a0 : ByteArray) : Option (Int) := impl_SumOf.l0 k a0 0 (a0.size : Int) 0
theorem impl_SumOf.mono_l : ∀ k, (∀ y0 y1 y2 y3, LeO (impl_SumOf.l0 k y0 y1 y2 y3) (impl_SumOf.l0 (k + 1) y0 y1 y2 y3))
  | 0 => fun _ _ _ _ r h => by simp [impl_SumOf.l0] at h
  | k + 1 => by
    have ih0 := impl_SumOf.mono_l k
    · intro y0 y1 y2 y3
      unfold impl_SumOf.l0
      repeat' first
      | (with_reducible exact ih0 _ _ _ _)
      | (with_reducible exact LeO.refl _)
      | (with_reducible exact LeO.none _)
      | (with_reducible refine LeO.ite ?_ ?_)
      | (with_reducible refine LeO.bind ?_ (fun _ => ?_))
      | exact ih0 _ _ _ _
      | exact LeO.none _
      | refine LeO.ite ?_ ?_
      | refine LeO.bind ?_ (fun _ => ?_)
theorem impl_SumOf.mono : ∀ a0 k, LeO (impl_SumOf.f k a0) (impl_SumOf.f (k + 1) a0) := by
  intro a0 k
  have ih0 := impl_SumOf.mono_l k
  unfold impl_SumOf.f
  repeat' first
      | (with_reducible exact ih0 _ _ _ _)
      | (with_reducible exact LeO.refl _)
      | (with_reducible exact LeO.none _)
      | (with_reducible refine LeO.ite ?_ ?_)
      | (with_reducible refine LeO.bind ?_ (fun _ => ?_))
      | exact ih0 _ _ _ _
      | exact LeO.none _
      | refine LeO.ite ?_ ?_
      | refine LeO.bind ?_ (fun _ => ?_)
set_option maxHeartbeats 8000000 in
set_option maxRecDepth 100000 in
theorem impl_SumOf.calls (k : Nat) (a0 : ByteArray) (r : Int) (w : World) (h : impl_SumOf.f k a0 = some r) :
    Calls Tryd.prog 103 #[.string a0] w fun e w' => e = .returned (.int .i64 r) ∧ Drawn0 w w' := by
  have H : (impl_SumOf.l0 k a0 0 (a0.size : Int) 0) = some r := h
  clear h
  have H' := Aside0.mk H
  clear H
  go_enter Tryd.func103, Tryd.ntmps103
  go_wp2
  go_loopg [3, 7] k (fun kq v3 v7 w' => ∃ (x3_1 : Int) (x7_1 : Int), v3 = .int .i64 x3_1 ∧ v7 = .int .i64 x7_1 ∧ Aside0 (impl_SumOf.l0 kq a0 x3_1 (a0.size : Int) x7_1 = some r) ∧ Aside0 (kq ≤ k) ∧ Drawn0 w w')
  case atStart => exact ⟨(0), (0), (by first | rfl | (simp; done) | (simp [*]; done)), (by first | rfl | (simp; done) | (simp [*]; done)), H', ⟨Nat.le_refl _⟩, by repeat (first | exact Drawn0.refl _ | apply Drawn0.step)⟩
  case round =>
    clear H'
    try clear c1
    obtain ⟨x3_1, x7_1, rfl, rfl, HA, HK1, ⟨m1, rfl⟩⟩ := hrel
    cases gk with
    | zero => exact absurd HA.out (by simp [impl_SumOf.l0])
    | succ k1 =>
      have H := HA.out
      clear HA
      simp only [impl_SumOf.l0] at H
      by_cases c2 : x7_1 < (a0.size : Int)
      · rw [if_pos c2] at H
        have c2b0 : decide (x7_1 < (a0.size : Int)) = true := decide_eq_true c2
        clear c2
        by_cases c3 : 0 ≤ x7_1
        · rw [if_pos c3] at H
          have c3b0 : decide (0 ≤ x7_1) = true := decide_eq_true c3
          clear c3
          by_cases c4 : x7_1 < (a0.size : Int)
          · rw [if_pos c4] at H
            have c4b0 : decide (x7_1 < (a0.size : Int)) = true := decide_eq_true c4
            clear c4
            have H' := Aside0.mk H
            clear H
            have p5 : 0 ≤ (x7_1 : Int) := of_decide_eq_true (by assumption)
            have q5 : x7_1 < (a0.size : Int) := of_decide_eq_true (by assumption)
            have hx5 := bt_at a0 x7_1
            replace p5 := eq_true p5
            replace q5 := eq_true q5
            go_wp2
            go_roundg k1
            case measure => have := HK1.out; omega
            case rel => exact ⟨(wrap64 (x3_1 + (wrap64 (bt a0 x7_1)))), (wrap64 (x7_1 + 1)), (by first | rfl | (simp; done) | (simp [*]; done)), (by first | rfl | (simp; done) | (simp [*]; done)), H', ⟨by have := HK1.out; omega⟩, by repeat (first | exact Drawn0.refl _ | apply Drawn0.step)⟩
          · rw [if_neg c4] at H
            exact absurd H (by simp)
        · rw [if_neg c3] at H
          exact absurd H (by simp)
      · rw [if_neg c2] at H
        have c2b0 : decide (x7_1 < (a0.size : Int)) = false := decide_eq_false c2
        clear c2
        obtain rfl := Option.some.inj H
        go_wp2
        go_ret
        exact ⟨by first | rfl | (simp; done) | (simp [*]; done), by repeat (first | exact Drawn0.refl _ | apply Drawn0.step)⟩

/-! ### impl_HeadSum: function 88 -/
def impl_HeadSum.f (k : Nat) (a0 : ByteArray) : Option (Int) := if (a0.size : Int) < 512 then (some (-1)) else (if 0 ≤ 148 then (if 148 ≤ (a0.size : Int) then ((impl_SumOf.f k (a0.extract 0 148)).bind fun t237 => (if 156 ≤ 512 then (if 512 ≤ (a0.size : Int) then ((impl_SumOf.f k (a0.extract 156 512)).bind fun t238 => (some (wrap64 ((wrap64 (t237 + 256)) + t238)))) else (none)) else (none))) else (none)) else (none))
theorem impl_HeadSum.mono : ∀ a0 k, LeO (impl_HeadSum.f k a0) (impl_HeadSum.f (k + 1) a0) := by
  intro a0 k
  unfold impl_HeadSum.f
  repeat' first
      | (with_reducible exact impl_SumOf.mono _ _)
      | (with_reducible exact LeO.refl _)
      | (with_reducible exact LeO.none _)
      | (with_reducible refine LeO.ite ?_ ?_)
      | (with_reducible refine LeO.bind ?_ (fun _ => ?_))
      | exact impl_SumOf.mono _ _
      | exact LeO.none _
      | refine LeO.ite ?_ ?_
      | refine LeO.bind ?_ (fun _ => ?_)
set_option maxHeartbeats 8000000 in
set_option maxRecDepth 100000 in
theorem impl_HeadSum.calls (k : Nat) (a0 : ByteArray) (r : Int) (w : World) (h : impl_HeadSum.f k a0 = some r) :
    Calls Tryd.prog 88 #[.string a0] w fun e w' => e = .returned (.int .i64 r) ∧ Drawn0 w w' := by
  have H : (if (a0.size : Int) < 512 then (some (-1)) else (if 0 ≤ 148 then (if 148 ≤ (a0.size : Int) then ((impl_SumOf.f k (a0.extract 0 148)).bind fun t237 => (if 156 ≤ 512 then (if 512 ≤ (a0.size : Int) then ((impl_SumOf.f k (a0.extract 156 512)).bind fun t238 => (some (wrap64 ((wrap64 (t237 + 256)) + t238)))) else (none)) else (none))) else (none)) else (none))) = some r := h
  clear h
  by_cases c2 : (a0.size : Int) < 512
  · rw [if_pos c2] at H
    have c2b0 : decide ((a0.size : Int) < 512) = true := decide_eq_true c2
    have c2b1 : decide (a0.size < 512) = true := decide_eq_true (by omega)
    clear c2
    obtain rfl := Option.some.inj H
    go_enter Tryd.func88, Tryd.ntmps88
    go_wp2
    repeat (go_quiet (fail); try go_wp2)
    go_ret
    exact ⟨by first | rfl | (simp; done) | (simp [*]; done), by repeat (first | exact Drawn0.refl _ | apply Drawn0.step)⟩
  · rw [if_neg c2] at H
    have c2b0 : decide ((a0.size : Int) < 512) = false := decide_eq_false c2
    have c2b1 : decide (a0.size < 512) = false := decide_eq_false (by omega)
    clear c2
    by_cases c3 : 0 ≤ 148
    · rw [if_pos c3] at H
      have c3b0 := eq_true c3
      have c3b1 : decide (0 ≤ 148) = true := decide_eq_true c3
      clear c3
      by_cases c4 : 148 ≤ (a0.size : Int)
      · rw [if_pos c4] at H
        have c4b0 := eq_true c4
        have c4b1 : decide (148 ≤ (a0.size : Int)) = true := decide_eq_true c4
        clear c4
        replace H := Option.bind_eq_some_iff.mp H
        obtain ⟨t237, A50, H⟩ := H
        replace H : (if 156 ≤ 512 then (if 512 ≤ (a0.size : Int) then ((impl_SumOf.f k (a0.extract 156 512)).bind fun t238 => (some (wrap64 ((wrap64 (t237 + 256)) + t238)))) else (none)) else (none)) = some r := H
        have A5 := Aside0.mk A50
        clear A50
        by_cases c6 : 156 ≤ 512
        · rw [if_pos c6] at H
          have c6b0 := eq_true c6
          have c6b1 : decide (156 ≤ 512) = true := decide_eq_true c6
          clear c6
          by_cases c7 : 512 ≤ (a0.size : Int)
          · rw [if_pos c7] at H
            have c7b0 := eq_true c7
            have c7b1 : decide (512 ≤ (a0.size : Int)) = true := decide_eq_true c7
            clear c7
            replace H := Option.bind_eq_some_iff.mp H
            obtain ⟨t238, A80, H⟩ := H
            replace H : (some (wrap64 ((wrap64 (t237 + 256)) + t238))) = some r := H
            have A8 := Aside0.mk A80
            clear A80
            obtain rfl := Option.some.inj H
            go_enter Tryd.func88, Tryd.ntmps88
            go_wp2_with (first | (go_at_call 103; (with_reducible refine (impl_SumOf.calls k (a0.extract 0 148) t237 _ A5.out).mono ?_); rintro e w' ⟨rfl, ⟨nd, rfl⟩⟩; (try first | exact ⟨rfl, _, World.drewN_drewN _ _ _⟩ | exact ⟨rfl, _, Eq.trans (World.drewN_drewN _ _ _) (congrArg (World.drewN _) (Nat.add_assoc _ _ _))⟩)) | (go_at_call 103; (with_reducible refine (impl_SumOf.calls k (a0.extract 156 512) t238 _ A8.out).mono ?_); rintro e w' ⟨rfl, ⟨nd, rfl⟩⟩; (try first | exact ⟨rfl, _, World.drewN_drewN _ _ _⟩ | exact ⟨rfl, _, Eq.trans (World.drewN_drewN _ _ _) (congrArg (World.drewN _) (Nat.add_assoc _ _ _))⟩)))
            repeat (go_quiet (first | (go_at_call 103; (with_reducible refine (impl_SumOf.calls k (a0.extract 0 148) t237 _ A5.out).mono ?_); rintro e w' ⟨rfl, ⟨nd, rfl⟩⟩; (try first | exact ⟨rfl, _, World.drewN_drewN _ _ _⟩ | exact ⟨rfl, _, Eq.trans (World.drewN_drewN _ _ _) (congrArg (World.drewN _) (Nat.add_assoc _ _ _))⟩)) | (go_at_call 103; (with_reducible refine (impl_SumOf.calls k (a0.extract 156 512) t238 _ A8.out).mono ?_); rintro e w' ⟨rfl, ⟨nd, rfl⟩⟩; (try first | exact ⟨rfl, _, World.drewN_drewN _ _ _⟩ | exact ⟨rfl, _, Eq.trans (World.drewN_drewN _ _ _) (congrArg (World.drewN _) (Nat.add_assoc _ _ _))⟩))); try go_wp2_with (first | (go_at_call 103; (with_reducible refine (impl_SumOf.calls k (a0.extract 0 148) t237 _ A5.out).mono ?_); rintro e w' ⟨rfl, ⟨nd, rfl⟩⟩; (try first | exact ⟨rfl, _, World.drewN_drewN _ _ _⟩ | exact ⟨rfl, _, Eq.trans (World.drewN_drewN _ _ _) (congrArg (World.drewN _) (Nat.add_assoc _ _ _))⟩)) | (go_at_call 103; (with_reducible refine (impl_SumOf.calls k (a0.extract 156 512) t238 _ A8.out).mono ?_); rintro e w' ⟨rfl, ⟨nd, rfl⟩⟩; (try first | exact ⟨rfl, _, World.drewN_drewN _ _ _⟩ | exact ⟨rfl, _, Eq.trans (World.drewN_drewN _ _ _) (congrArg (World.drewN _) (Nat.add_assoc _ _ _))⟩))))
            go_ret
            exact ⟨by first | rfl | (simp; done) | (simp [*]; done), by repeat (first | exact Drawn0.refl _ | apply Drawn0.step)⟩
          · rw [if_neg c7] at H
            exact absurd H (by simp)
        · rw [if_neg c6] at H
          exact absurd H (by simp)
      · rw [if_neg c4] at H
        exact absurd H (by simp)
    · rw [if_neg c3] at H
      exact absurd H (by simp)

/-! ### impl_summed: function 57 -/
def impl_summed.f (k : Nat) (a0 : ByteArray) : Option (ByteArray) := (impl_Fill.f a0 512).bind fun t239 => ((impl_HeadSum.f k t239).bind fun t240 => ((impl_PutOct.f t240 6).bind fun bt241 => (if 0 ≤ 148 then (if 148 ≤ (t239.size : Int) then (if (t239.extract 0 148).size + bt241.1.size ≤ 9223372036854775807 then (if ((t239.extract 0 148) ++ bt241.1).size + 2 ≤ 9223372036854775807 then (if 156 ≤ (t239.size : Int) then (if (((t239.extract 0 148) ++ bt241.1) ++ (⟨#[0, 32]⟩ : ByteArray)).size + (t239.extract 156 t239.size).size ≤ 9223372036854775807 then (some ((((t239.extract 0 148) ++ bt241.1) ++ (⟨#[0, 32]⟩ : ByteArray)) ++ (t239.extract 156 t239.size))) else (none)) else (none)) else (none)) else (none)) else (none)) else (none))))
theorem impl_summed.mono : ∀ a0 k, LeO (impl_summed.f k a0) (impl_summed.f (k + 1) a0) := by
  intro a0 k
  unfold impl_summed.f
  repeat' first
      | (with_reducible exact impl_HeadSum.mono _ _)
      | (with_reducible exact LeO.refl _)
      | (with_reducible exact LeO.none _)
      | (with_reducible refine LeO.ite ?_ ?_)
      | (with_reducible refine LeO.bind ?_ (fun _ => ?_))
      | exact impl_HeadSum.mono _ _
      | exact LeO.none _
      | refine LeO.ite ?_ ?_
      | refine LeO.bind ?_ (fun _ => ?_)
set_option maxHeartbeats 8000000 in
set_option maxRecDepth 100000 in
theorem impl_summed.calls (k : Nat) (a0 : ByteArray) (r : ByteArray) (w : World) (h : impl_summed.f k a0 = some r) (hL : Tabs w) :
    Calls Tryd.prog 57 #[.string a0] w fun e w' => e = .returned (.string r) ∧ Below w.heap.size w w' := by
  have HL := Aside0.mk hL
  clear hL
  have HB := Aside0.mk (Below.refl w.heap.size w)
  have H : ((impl_Fill.f a0 512).bind fun t239 => ((impl_HeadSum.f k t239).bind fun t240 => ((impl_PutOct.f t240 6).bind fun bt241 => (if 0 ≤ 148 then (if 148 ≤ (t239.size : Int) then (if (t239.extract 0 148).size + bt241.1.size ≤ 9223372036854775807 then (if ((t239.extract 0 148) ++ bt241.1).size + 2 ≤ 9223372036854775807 then (if 156 ≤ (t239.size : Int) then (if (((t239.extract 0 148) ++ bt241.1) ++ (⟨#[0, 32]⟩ : ByteArray)).size + (t239.extract 156 t239.size).size ≤ 9223372036854775807 then (some ((((t239.extract 0 148) ++ bt241.1) ++ (⟨#[0, 32]⟩ : ByteArray)) ++ (t239.extract 156 t239.size))) else (none)) else (none)) else (none)) else (none)) else (none)) else (none))))) = some r := h
  clear h
  replace H := Option.bind_eq_some_iff.mp H
  obtain ⟨t239, A20, H⟩ := H
  replace H : ((impl_HeadSum.f k t239).bind fun t240 => ((impl_PutOct.f t240 6).bind fun bt241 => (if 0 ≤ 148 then (if 148 ≤ (t239.size : Int) then (if (t239.extract 0 148).size + bt241.1.size ≤ 9223372036854775807 then (if ((t239.extract 0 148) ++ bt241.1).size + 2 ≤ 9223372036854775807 then (if 156 ≤ (t239.size : Int) then (if (((t239.extract 0 148) ++ bt241.1) ++ (⟨#[0, 32]⟩ : ByteArray)).size + (t239.extract 156 t239.size).size ≤ 9223372036854775807 then (some ((((t239.extract 0 148) ++ bt241.1) ++ (⟨#[0, 32]⟩ : ByteArray)) ++ (t239.extract 156 t239.size))) else (none)) else (none)) else (none)) else (none)) else (none)) else (none)))) = some r := H
  have A2 := Aside0.mk A20
  clear A20
  replace H := Option.bind_eq_some_iff.mp H
  obtain ⟨t240, A30, H⟩ := H
  replace H : ((impl_PutOct.f t240 6).bind fun bt241 => (if 0 ≤ 148 then (if 148 ≤ (t239.size : Int) then (if (t239.extract 0 148).size + bt241.1.size ≤ 9223372036854775807 then (if ((t239.extract 0 148) ++ bt241.1).size + 2 ≤ 9223372036854775807 then (if 156 ≤ (t239.size : Int) then (if (((t239.extract 0 148) ++ bt241.1) ++ (⟨#[0, 32]⟩ : ByteArray)).size + (t239.extract 156 t239.size).size ≤ 9223372036854775807 then (some ((((t239.extract 0 148) ++ bt241.1) ++ (⟨#[0, 32]⟩ : ByteArray)) ++ (t239.extract 156 t239.size))) else (none)) else (none)) else (none)) else (none)) else (none)) else (none))) = some r := H
  have A3 := Aside0.mk A30
  clear A30
  replace H := Option.bind_eq_some_iff.mp H
  obtain ⟨⟨t241, t242⟩, A40, H⟩ := H
  replace H : (if 0 ≤ 148 then (if 148 ≤ (t239.size : Int) then (if (t239.extract 0 148).size + t241.size ≤ 9223372036854775807 then (if ((t239.extract 0 148) ++ t241).size + 2 ≤ 9223372036854775807 then (if 156 ≤ (t239.size : Int) then (if (((t239.extract 0 148) ++ t241) ++ (⟨#[0, 32]⟩ : ByteArray)).size + (t239.extract 156 t239.size).size ≤ 9223372036854775807 then (some ((((t239.extract 0 148) ++ t241) ++ (⟨#[0, 32]⟩ : ByteArray)) ++ (t239.extract 156 t239.size))) else (none)) else (none)) else (none)) else (none)) else (none)) else (none)) = some r := H
  have A4 := Aside0.mk A40
  clear A40
  by_cases c5 : 0 ≤ 148
  · rw [if_pos c5] at H
    have c5b0 := eq_true c5
    have c5b1 : decide (0 ≤ 148) = true := decide_eq_true c5
    clear c5
    by_cases c6 : 148 ≤ (t239.size : Int)
    · rw [if_pos c6] at H
      have c6b0 := eq_true c6
      have c6b1 : decide (148 ≤ (t239.size : Int)) = true := decide_eq_true c6
      clear c6
      by_cases c7 : (t239.extract 0 148).size + t241.size ≤ 9223372036854775807
      · rw [if_pos c7] at H
        have c7b0 := eq_true c7
        have c7b1 : decide ((t239.extract 0 148).size + t241.size ≤ 9223372036854775807) = true := decide_eq_true c7
        try have c7b2 : (9223372036854775807 < (t239.extract 0 148).size + t241.size) = False := eq_false (Nat.not_lt.2 c7)
        by_cases c8 : ((t239.extract 0 148) ++ t241).size + 2 ≤ 9223372036854775807
        · rw [if_pos c8] at H
          have c8b0 := eq_true c8
          have c8b1 : decide (((t239.extract 0 148) ++ t241).size + 2 ≤ 9223372036854775807) = true := decide_eq_true c8
          try (have c8b1z := c8b1; simp only [ByteArray.size_append] at c8b1z)
          try have c8b2 : (9223372036854775807 < ((t239.extract 0 148) ++ t241).size + 2) = False := eq_false (Nat.not_lt.2 c8)
          try (have c8b2z := c8b2; simp only [ByteArray.size_append] at c8b2z)
          by_cases c9 : 156 ≤ (t239.size : Int)
          · rw [if_pos c9] at H
            have c9b0 := eq_true c9
            have c9b1 : decide (156 ≤ (t239.size : Int)) = true := decide_eq_true c9
            clear c9
            by_cases c10 : (((t239.extract 0 148) ++ t241) ++ (⟨#[0, 32]⟩ : ByteArray)).size + (t239.extract 156 t239.size).size ≤ 9223372036854775807
            · rw [if_pos c10] at H
              have c10b0 := eq_true c10
              have c10b1 : decide ((((t239.extract 0 148) ++ t241) ++ (⟨#[0, 32]⟩ : ByteArray)).size + (t239.extract 156 t239.size).size ≤ 9223372036854775807) = true := decide_eq_true c10
              try (have c10b1z := c10b1; simp only [ByteArray.size_append, show (⟨#[0, 32]⟩ : ByteArray).size = 2 from rfl] at c10b1z)
              try have c10b2 : (9223372036854775807 < (((t239.extract 0 148) ++ t241) ++ (⟨#[0, 32]⟩ : ByteArray)).size + (t239.extract 156 t239.size).size) = False := eq_false (Nat.not_lt.2 c10)
              try (have c10b2z := c10b2; simp only [ByteArray.size_append, show (⟨#[0, 32]⟩ : ByteArray).size = 2 from rfl] at c10b2z)
              obtain rfl := Option.some.inj H
              have h10_ := c10
              simp only [ByteArray.size_append, ByteArray.size_extract, show (⟨#[0, 32]⟩ : ByteArray).size = 2 from rfl] at h10_
              have h148_ : 148 ≤ t239.size := by have h_ := of_decide_eq_true c6b1; omega
              have h156_ : 156 ≤ t239.size := by have h_ := of_decide_eq_true c9b1; omega
              have y0_ : decide (148 + t241.size ≤ 9223372036854775807) = true := decide_eq_true (by omega)
              have z0_ : (9223372036854775807 < 148 + t241.size) = False := eq_false (by omega)
              have y1_ : decide (148 + t241.size + 2 ≤ 9223372036854775807) = true := decide_eq_true (by omega)
              have z1_ : (9223372036854775807 < 148 + t241.size + 2) = False := eq_false (by omega)
              have y2_ : decide (148 + t241.size + 2 + (t239.size - 156) ≤ 9223372036854775807) = true := decide_eq_true (by omega)
              have z2_ : (9223372036854775807 < 148 + t241.size + 2 + (t239.size - 156)) = False := eq_false (by omega)
              have y3_ : decide (min 148 t239.size + t241.size ≤ 9223372036854775807) = true := decide_eq_true (by omega)
              have z3_ : (9223372036854775807 < min 148 t239.size + t241.size) = False := eq_false (by omega)
              have y4_ : decide (min 148 t239.size + t241.size + 2 ≤ 9223372036854775807) = true := decide_eq_true (by omega)
              have z4_ : (9223372036854775807 < min 148 t239.size + t241.size + 2) = False := eq_false (by omega)
              have y5_ : decide (min 148 t239.size + t241.size + 2 + (t239.size - 156) ≤ 9223372036854775807) = true := decide_eq_true (by omega)
              have z5_ : (9223372036854775807 < min 148 t239.size + t241.size + 2 + (t239.size - 156)) = False := eq_false (by omega)
              have y6_ : decide (min 148 t239.size + t241.size + 2 + (min t239.size t239.size - 156) ≤ 9223372036854775807) = true := decide_eq_true (by omega)
              have z6_ : (9223372036854775807 < min 148 t239.size + t241.size + 2 + (min t239.size t239.size - 156)) = False := eq_false (by omega)
              go_enter Tryd.func57, Tryd.ntmps57
              go_wp2_with (first | (go_at_call 58; (with_reducible refine (impl_Fill.calls a0 512 t239 _ A2.out).mono ?_); rintro e w11 ⟨rfl, hb⟩; have n0_ := Aside0.mk (below_step (by repeat (first | (with_reducible first | exact HB.out | apply below_alloc | apply pw_below_drewN | apply below_drew1) | exact HB.out)) hb); clear HB; have HB := n0_; clear n0_; (try clear hb); (try clear hb2); (try clear hk); (try clear hi)) | (go_at_call 88; (with_reducible refine (impl_HeadSum.calls k t239 t240 _ A3.out).mono ?_); rintro e w' ⟨rfl, ⟨nd, rfl⟩⟩; (try first | exact ⟨rfl, _, World.drewN_drewN _ _ _⟩ | exact ⟨rfl, _, Eq.trans (World.drewN_drewN _ _ _) (congrArg (World.drewN _) (Nat.add_assoc _ _ _))⟩)) | (go_at_call 46; (with_reducible refine (impl_PutOct.calls t240 6 t241 t242 _ A4.out (Tabs.below HL.out (by repeat (first | (with_reducible first | exact HB.out | apply below_alloc | apply pw_below_drewN | apply below_drew1) | exact HB.out)))).mono ?_); rintro e w12 ⟨rfl, hb⟩; have n0_ := Aside0.mk (below_step (by repeat (first | (with_reducible first | exact HB.out | apply below_alloc | apply pw_below_drewN | apply below_drew1) | exact HB.out)) hb); clear HB; have HB := n0_; clear n0_; (try clear hb); (try clear hb2); (try clear hk); (try clear hi)))
              repeat (go_quiet (first | (go_at_call 58; (with_reducible refine (impl_Fill.calls a0 512 t239 _ A2.out).mono ?_); rintro e w11 ⟨rfl, hb⟩; have n0_ := Aside0.mk (below_step (by repeat (first | (with_reducible first | exact HB.out | apply below_alloc | apply pw_below_drewN | apply below_drew1) | exact HB.out)) hb); clear HB; have HB := n0_; clear n0_; (try clear hb); (try clear hb2); (try clear hk); (try clear hi)) | (go_at_call 88; (with_reducible refine (impl_HeadSum.calls k t239 t240 _ A3.out).mono ?_); rintro e w' ⟨rfl, ⟨nd, rfl⟩⟩; (try first | exact ⟨rfl, _, World.drewN_drewN _ _ _⟩ | exact ⟨rfl, _, Eq.trans (World.drewN_drewN _ _ _) (congrArg (World.drewN _) (Nat.add_assoc _ _ _))⟩)) | (go_at_call 46; (with_reducible refine (impl_PutOct.calls t240 6 t241 t242 _ A4.out (Tabs.below HL.out (by repeat (first | (with_reducible first | exact HB.out | apply below_alloc | apply pw_below_drewN | apply below_drew1) | exact HB.out)))).mono ?_); rintro e w12 ⟨rfl, hb⟩; have n0_ := Aside0.mk (below_step (by repeat (first | (with_reducible first | exact HB.out | apply below_alloc | apply pw_below_drewN | apply below_drew1) | exact HB.out)) hb); clear HB; have HB := n0_; clear n0_; (try clear hb); (try clear hb2); (try clear hk); (try clear hi))); try go_wp2_with (first | (go_at_call 58; (with_reducible refine (impl_Fill.calls a0 512 t239 _ A2.out).mono ?_); rintro e w11 ⟨rfl, hb⟩; have n0_ := Aside0.mk (below_step (by repeat (first | (with_reducible first | exact HB.out | apply below_alloc | apply pw_below_drewN | apply below_drew1) | exact HB.out)) hb); clear HB; have HB := n0_; clear n0_; (try clear hb); (try clear hb2); (try clear hk); (try clear hi)) | (go_at_call 88; (with_reducible refine (impl_HeadSum.calls k t239 t240 _ A3.out).mono ?_); rintro e w' ⟨rfl, ⟨nd, rfl⟩⟩; (try first | exact ⟨rfl, _, World.drewN_drewN _ _ _⟩ | exact ⟨rfl, _, Eq.trans (World.drewN_drewN _ _ _) (congrArg (World.drewN _) (Nat.add_assoc _ _ _))⟩)) | (go_at_call 46; (with_reducible refine (impl_PutOct.calls t240 6 t241 t242 _ A4.out (Tabs.below HL.out (by repeat (first | (with_reducible first | exact HB.out | apply below_alloc | apply pw_below_drewN | apply below_drew1) | exact HB.out)))).mono ?_); rintro e w12 ⟨rfl, hb⟩; have n0_ := Aside0.mk (below_step (by repeat (first | (with_reducible first | exact HB.out | apply below_alloc | apply pw_below_drewN | apply below_drew1) | exact HB.out)) hb); clear HB; have HB := n0_; clear n0_; (try clear hb); (try clear hb2); (try clear hk); (try clear hi))))
              go_ret
              exact ⟨by first | rfl | (simp [errW_none, errW_some] <;> rfl) | (simp [*, errW_none, errW_some] <;> rfl) | (simp only [decide_eq_true_eq] at *; simp [*, bt]; done), by repeat (first | (with_reducible first | exact HB.out | apply below_alloc | apply pw_below_drewN | apply below_drew1) | exact HB.out)⟩
            · rw [if_neg c10] at H
              exact absurd H (by simp)
          · rw [if_neg c9] at H
            exact absurd H (by simp)
        · rw [if_neg c8] at H
          exact absurd H (by simp)
      · rw [if_neg c7] at H
        exact absurd H (by simp)
    · rw [if_neg c6] at H
      exact absurd H (by simp)
  · rw [if_neg c5] at H
    exact absurd H (by simp)

/-! ### impl_octal: function 59 -/
def impl_octal.f (a0 : Int) (a1 : Int) : Option (ByteArray) := (impl_PutOct.f a0 (wrap64 (a1 - 1))).bind fun bt243 => (if bt243.1.size + 1 ≤ 9223372036854775807 then (some (bt243.1 ++ (⟨#[0]⟩ : ByteArray))) else (none))
set_option maxHeartbeats 8000000 in
set_option maxRecDepth 100000 in
theorem impl_octal.calls (a0 : Int) (a1 : Int) (r : ByteArray) (w : World) (h : impl_octal.f a0 a1 = some r) (hL : Tabs w) :
    Calls Tryd.prog 59 #[.int .i64 a0, .int .i64 a1] w fun e w' => e = .returned (.string r) ∧ Below w.heap.size w w' := by
  have HL := Aside0.mk hL
  clear hL
  have HB := Aside0.mk (Below.refl w.heap.size w)
  have H : ((impl_PutOct.f a0 (wrap64 (a1 - 1))).bind fun bt243 => (if bt243.1.size + 1 ≤ 9223372036854775807 then (some (bt243.1 ++ (⟨#[0]⟩ : ByteArray))) else (none))) = some r := h
  clear h
  replace H := Option.bind_eq_some_iff.mp H
  obtain ⟨⟨t243, t244⟩, A30, H⟩ := H
  replace H : (if t243.size + 1 ≤ 9223372036854775807 then (some (t243 ++ (⟨#[0]⟩ : ByteArray))) else (none)) = some r := H
  have A3 := Aside0.mk A30
  clear A30
  by_cases c4 : t243.size + 1 ≤ 9223372036854775807
  · rw [if_pos c4] at H
    have c4b0 := eq_true c4
    have c4b1 : decide (t243.size + 1 ≤ 9223372036854775807) = true := decide_eq_true c4
    try have c4b2 : (9223372036854775807 < t243.size + 1) = False := eq_false (Nat.not_lt.2 c4)
    obtain rfl := Option.some.inj H
    go_enter Tryd.func59, Tryd.ntmps59
    go_wp2_with (first | ((with_reducible refine gate_callee (f := 46) rfl ?_); refine goesL_ (some 11) rfl rfl Tryd.func46 (by kernel_rfl) rfl #[.int .i64 a0, .int .i64 (wrap64 (a1 - 1))] rfl (by (try simp only [List.map_toArray, List.map_cons, List.map_nil]); first | done | rfl | (simp only [List.length_drop, List.length_take]; rfl)) ?_; (with_reducible refine (impl_PutOct.calls a0 (wrap64 (a1 - 1)) t243 t244 _ A3.out (Tabs.below HL.out (by repeat (first | (with_reducible first | exact HB.out | apply below_alloc | apply pw_below_drewN | apply below_drew1) | exact HB.out)))).mono ?_); rintro e w5 ⟨rfl, hb⟩; refine ⟨_, rfl, ?_⟩; have n0_ := Aside0.mk (below_step (by repeat (first | (with_reducible first | exact HB.out | apply below_alloc | apply pw_below_drewN | apply below_drew1) | exact HB.out)) hb); clear HB; have HB := n0_; clear n0_; (try clear hb); (try clear hb2); (try clear hk); (try clear hi)))
    go_ret
    exact ⟨by first | rfl | (simp [errW_none, errW_some] <;> rfl) | (simp [*, errW_none, errW_some] <;> rfl) | (simp only [decide_eq_true_eq] at *; simp [*, bt]; done), by repeat (first | (with_reducible first | exact HB.out | apply below_alloc | apply pw_below_drewN | apply below_drew1) | exact HB.out)⟩
  · rw [if_neg c4] at H
    exact absurd H (by simp)

end Go.Proofs.YtgmggpgcfonmgaaDoor.PFnExactPutHead
