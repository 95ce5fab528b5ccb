-- PRINTED for this claim by a program of this session's repo over the kit's printer, with contracts of our own among the functions.
import Derived.Test.YtdjepilhenijeaaDoorPFnGlobx0
namespace Go.Proofs.YtdjepilhenijeaaDoor.PFnGlob
open Go.RowKit Go.Proofs.YtdjepilhenijeaaDoorW.PrintWords Go.Proofs.YtdjepilhenijeaaDoorW.PrintLast Go.Proofs.YtdjepilhenijeaaDoorW.PrintMore
attribute [local go_sem] max2_int min2_int max_two min_two max_three min_three max_four min_four   -- for this text's walks alone
set_option linter.unusedVariables false
set_option linter.unusedSimpArgs false

/-! ### impl_Glob: function 47 -/
mutual
def impl_Glob.j0 : Nat → ByteArray → ByteArray → Bool → Option (Bool)
  | 0, _, _, _ => none
  | k + 1, x0, x1, x18 => if x18 = true then (some false) else (if 0 ≤ (wrap64 ((x1.size : Int) + 1)) then (if (wrap64 ((x1.size : Int) + 1) : Int).toNat ≤ 281474976710656 then ((some (List.replicate (wrap64 ((x1.size : Int) + 1) : Int).toNat false : List Bool)).bind fun y356 => (if 0 < (y356.length : Int) then (impl_Glob.l0 k x0 x1 (y356.set (0 : Int).toNat true) 0) else (none))) else (none)) else (none))
def impl_Glob.l0 : Nat → ByteArray → ByteArray → List Bool → Int → Option (Bool)
  | 0, _, _, _, _ => none
  | k + 1, x0, x1, x5, x6 => if x6 < (x0.size : Int) then (if 0 ≤ x6 then (if (bt x0 x6) = 42 then (if (wrap64 (x6 + 1)) < (x0.size : Int) then (if 0 ≤ (wrap64 (x6 + 1)) then (impl_Glob.j2 k x0 x1 x5 x6 ((bt x0 x6) == 42) ((bt x0 (wrap64 (x6 + 1))) == 42)) else (none)) else (impl_Glob.j2 k x0 x1 x5 x6 ((bt x0 x6) == 42) false)) else (impl_Glob.j2 k x0 x1 x5 x6 ((bt x0 x6) == 42) false)) else (none)) else (if 0 ≤ (x1.size : Int) then (if (x1.size : Int) < (x5.length : Int) then (some (rdOf false x5 (x1.size : Int))) else (none)) else (none))
def impl_Glob.j2 : Nat → ByteArray → ByteArray → List Bool → Int → Bool → Bool → Option (Bool)
  | 0, _, _, _, _, _, _ => none
  | k + 1, x0, x1, x5, x6, x7, x8 => if x8 = true then (impl_Glob.j3 k x0 x1 x5 (wrap64 (x6 + 1)) x7 x8) else (impl_Glob.j3 k x0 x1 x5 x6 x7 x8)
def impl_Glob.j3 : Nat → ByteArray → ByteArray → List Bool → Int → Bool → Bool → Option (Bool)
  | 0, _, _, _, _, _, _ => none
  | k + 1, x0, x1, x5, x6, x7, x8 => if 0 ≤ (wrap64 ((x1.size : Int) + 1)) then (if (wrap64 ((x1.size : Int) + 1) : Int).toNat ≤ 281474976710656 then ((some (List.replicate (wrap64 ((x1.size : Int) + 1) : Int).toNat false : List Bool)).bind fun y361 => (if x7 = true then (if 0 < (x5.length : Int) then (if 0 < (y361.length : Int) then (impl_Glob.j4 k x0 x1 x5 x6 x7 x8 (y361.set (0 : Int).toNat (rdOf false x5 0))) else (none)) else (none)) else (if 0 < (y361.length : Int) then (impl_Glob.j4 k x0 x1 x5 x6 x7 x8 (y361.set (0 : Int).toNat false)) else (none)))) else (none)) else (none)
def impl_Glob.j4 : Nat → ByteArray → ByteArray → List Bool → Int → Bool → Bool → List Bool → Option (Bool)
  | 0, _, _, _, _, _, _, _ => none
  | k + 1, x0, x1, x5, x6, x7, x8, x9 => impl_Glob.l1 k x0 x1 x5 x6 x7 x8 x9 (x1.size : Int) 0
def impl_Glob.l1 : Nat → ByteArray → ByteArray → List Bool → Int → Bool → Bool → List Bool → Int → Int → Option (Bool)
  | 0, _, _, _, _, _, _, _, _, _ => none
  | k + 1, x0, x1, x5, x6, x7, x8, x9, x66, x67 => if x67 < x66 then (if x8 = true then (if 0 ≤ (wrap64 (x67 + 1)) then (if (wrap64 (x67 + 1)) < (x5.length : Int) then (if rdOf false x5 (wrap64 (x67 + 1)) = true then (if (wrap64 (x67 + 1)) < (x9.length : Int) then (impl_Glob.l1 k x0 x1 x5 x6 x7 x8 (x9.set ((wrap64 (x67 + 1)) : Int).toNat true) x66 (wrap64 (x67 + 1))) else (none)) else (if 0 ≤ x67 then (if x67 < (x9.length : Int) then (if (wrap64 (x67 + 1)) < (x9.length : Int) then (impl_Glob.l1 k x0 x1 x5 x6 x7 x8 (x9.set ((wrap64 (x67 + 1)) : Int).toNat (rdOf false x9 x67)) x66 (wrap64 (x67 + 1))) else (none)) else (none)) else (none))) else (none)) else (none)) else (if x7 = true then (if 0 ≤ (wrap64 (x67 + 1)) then (if (wrap64 (x67 + 1)) < (x5.length : Int) then (if rdOf false x5 (wrap64 (x67 + 1)) = true then (if (wrap64 (x67 + 1)) < (x9.length : Int) then (impl_Glob.l1 k x0 x1 x5 x6 x7 x8 (x9.set ((wrap64 (x67 + 1)) : Int).toNat true) x66 (wrap64 (x67 + 1))) else (none)) else (if 0 ≤ x67 then (if x67 < (x9.length : Int) then (if rdOf false x9 x67 = true then (if x67 < (x1.size : Int) then (if (wrap64 (x67 + 1)) < (x9.length : Int) then (impl_Glob.l1 k x0 x1 x5 x6 x7 x8 (x9.set ((wrap64 (x67 + 1)) : Int).toNat ((bt x1 x67) != 47)) x66 (wrap64 (x67 + 1))) else (none)) else (none)) else (if (wrap64 (x67 + 1)) < (x9.length : Int) then (impl_Glob.l1 k x0 x1 x5 x6 x7 x8 (x9.set ((wrap64 (x67 + 1)) : Int).toNat false) x66 (wrap64 (x67 + 1))) else (none))) else (none)) else (none))) else (none)) else (none)) else (if 0 ≤ x6 then (if x6 < (x0.size : Int) then (if (bt x0 x6) = 63 then (if 0 ≤ x67 then (if x67 < (x5.length : Int) then (if rdOf false x5 x67 = true then (if x67 < (x1.size : Int) then (if 0 ≤ (wrap64 (x67 + 1)) then (if (wrap64 (x67 + 1)) < (x9.length : Int) then (impl_Glob.l1 k x0 x1 x5 x6 x7 x8 (x9.set ((wrap64 (x67 + 1)) : Int).toNat ((bt x1 x67) != 47)) x66 (wrap64 (x67 + 1))) else (none)) else (none)) else (none)) else (if 0 ≤ (wrap64 (x67 + 1)) then (if (wrap64 (x67 + 1)) < (x9.length : Int) then (impl_Glob.l1 k x0 x1 x5 x6 x7 x8 (x9.set ((wrap64 (x67 + 1)) : Int).toNat false) x66 (wrap64 (x67 + 1))) else (none)) else (none))) else (none)) else (none)) else (if 0 ≤ x67 then (if x67 < (x5.length : Int) then (if rdOf false x5 x67 = true then (if x67 < (x1.size : Int) then (if 0 ≤ (wrap64 (x67 + 1)) then (if (wrap64 (x67 + 1)) < (x9.length : Int) then (impl_Glob.l1 k x0 x1 x5 x6 x7 x8 (x9.set ((wrap64 (x67 + 1)) : Int).toNat ((bt x1 x67) == (bt x0 x6))) x66 (wrap64 (x67 + 1))) else (none)) else (none)) else (none)) else (if 0 ≤ (wrap64 (x67 + 1)) then (if (wrap64 (x67 + 1)) < (x9.length : Int) then (impl_Glob.l1 k x0 x1 x5 x6 x7 x8 (x9.set ((wrap64 (x67 + 1)) : Int).toNat false) x66 (wrap64 (x67 + 1))) else (none)) else (none))) else (none)) else (none))) else (none)) else (none)))) else (impl_Glob.l0 k x0 x1 x9 (wrap64 (x6 + 1)))
end
def impl_Glob.f (k : Nat) (a0 : ByteArray) (a1 : ByteArray) : Option (Bool) := if (a0.size : Int) > 50 then (impl_Glob.j0 k a0 a1 true) else (impl_Glob.j0 k a0 a1 (decide ((a1.size : Int) > 300)))
theorem impl_Glob.mono_l : ∀ k, (∀ y0 y1 y2, LeO (impl_Glob.j0 k y0 y1 y2) (impl_Glob.j0 (k + 1) y0 y1 y2)) ∧ (∀ y0 y1 y2 y3, LeO (impl_Glob.l0 k y0 y1 y2 y3) (impl_Glob.l0 (k + 1) y0 y1 y2 y3)) ∧ (∀ y0 y1 y2 y3 y4 y5, LeO (impl_Glob.j2 k y0 y1 y2 y3 y4 y5) (impl_Glob.j2 (k + 1) y0 y1 y2 y3 y4 y5)) ∧ (∀ y0 y1 y2 y3 y4 y5, LeO (impl_Glob.j3 k y0 y1 y2 y3 y4 y5) (impl_Glob.j3 (k + 1) y0 y1 y2 y3 y4 y5)) ∧ (∀ y0 y1 y2 y3 y4 y5 y6, LeO (impl_Glob.j4 k y0 y1 y2 y3 y4 y5 y6) (impl_Glob.j4 (k + 1) y0 y1 y2 y3 y4 y5 y6)) ∧ (∀ y0 y1 y2 y3 y4 y5 y6 y7 y8, LeO (impl_Glob.l1 k y0 y1 y2 y3 y4 y5 y6 y7 y8) (impl_Glob.l1 (k + 1) y0 y1 y2 y3 y4 y5 y6 y7 y8))
  | 0 => ⟨fun _ _ _ r h => by simp [impl_Glob.j0] at h, fun _ _ _ _ r h => by simp [impl_Glob.l0] at h, fun _ _ _ _ _ _ r h => by simp [impl_Glob.j2] at h, fun _ _ _ _ _ _ r h => by simp [impl_Glob.j3] at h, fun _ _ _ _ _ _ _ r h => by simp [impl_Glob.j4] at h, fun _ _ _ _ _ _ _ _ _ r h => by simp [impl_Glob.l1] at h⟩
  | k + 1 => by
    obtain ⟨ih0, ih1, ih2, ih3, ih4, ih5⟩ := impl_Glob.mono_l k
    refine ⟨?_, ?_, ?_, ?_, ?_, ?_⟩
    · intro y0 y1 y2
      unfold impl_Glob.j0
      repeat' first
      | (with_reducible exact ih0 _ _ _)
      | (with_reducible exact ih1 _ _ _ _)
      | (with_reducible exact ih2 _ _ _ _ _ _)
      | (with_reducible exact ih3 _ _ _ _ _ _)
      | (with_reducible exact ih4 _ _ _ _ _ _ _)
      | (with_reducible exact ih5 _ _ _ _ _ _ _ _ _)
      | (with_reducible exact LeO.refl _)
      | (with_reducible exact LeO.none _)
      | (with_reducible refine LeO.ite ?_ ?_)
      | (with_reducible refine LeO.bind ?_ (fun _ => ?_))
      | exact ih0 _ _ _
      | exact ih1 _ _ _ _
      | exact ih2 _ _ _ _ _ _
      | exact ih3 _ _ _ _ _ _
      | exact ih4 _ _ _ _ _ _ _
      | exact ih5 _ _ _ _ _ _ _ _ _
      | exact LeO.none _
      | refine LeO.ite ?_ ?_
      | refine LeO.bind ?_ (fun _ => ?_)
    · intro y0 y1 y2 y3
      unfold impl_Glob.l0
      repeat' first
      | (with_reducible exact ih0 _ _ _)
      | (with_reducible exact ih1 _ _ _ _)
      | (with_reducible exact ih2 _ _ _ _ _ _)
      | (with_reducible exact ih3 _ _ _ _ _ _)
      | (with_reducible exact ih4 _ _ _ _ _ _ _)
      | (with_reducible exact ih5 _ _ _ _ _ _ _ _ _)
      | (with_reducible exact LeO.refl _)
      | (with_reducible exact LeO.none _)
      | (with_reducible refine LeO.ite ?_ ?_)
      | (with_reducible refine LeO.bind ?_ (fun _ => ?_))
      | exact ih0 _ _ _
      | exact ih1 _ _ _ _
      | exact ih2 _ _ _ _ _ _
      | exact ih3 _ _ _ _ _ _
      | exact ih4 _ _ _ _ _ _ _
      | exact ih5 _ _ _ _ _ _ _ _ _
      | exact LeO.none _
      | refine LeO.ite ?_ ?_
      | refine LeO.bind ?_ (fun _ => ?_)
    · intro y0 y1 y2 y3 y4 y5
      unfold impl_Glob.j2
      repeat' first
      | (with_reducible exact ih0 _ _ _)
      | (with_reducible exact ih1 _ _ _ _)
      | (with_reducible exact ih2 _ _ _ _ _ _)
      | (with_reducible exact ih3 _ _ _ _ _ _)
      | (with_reducible exact ih4 _ _ _ _ _ _ _)
      | (with_reducible exact ih5 _ _ _ _ _ _ _ _ _)
      | (with_reducible exact LeO.refl _)
      | (with_reducible exact LeO.none _)
      | (with_reducible refine LeO.ite ?_ ?_)
      | (with_reducible refine LeO.bind ?_ (fun _ => ?_))
      | exact ih0 _ _ _
      | exact ih1 _ _ _ _
      | exact ih2 _ _ _ _ _ _
      | exact ih3 _ _ _ _ _ _
      | exact ih4 _ _ _ _ _ _ _
      | exact ih5 _ _ _ _ _ _ _ _ _
      | exact LeO.none _
      | refine LeO.ite ?_ ?_
      | refine LeO.bind ?_ (fun _ => ?_)
    · intro y0 y1 y2 y3 y4 y5
      unfold impl_Glob.j3
      repeat' first
      | (with_reducible exact ih0 _ _ _)
      | (with_reducible exact ih1 _ _ _ _)
      | (with_reducible exact ih2 _ _ _ _ _ _)
      | (with_reducible exact ih3 _ _ _ _ _ _)
      | (with_reducible exact ih4 _ _ _ _ _ _ _)
      | (with_reducible exact ih5 _ _ _ _ _ _ _ _ _)
      | (with_reducible exact LeO.refl _)
      | (with_reducible exact LeO.none _)
      | (with_reducible refine LeO.ite ?_ ?_)
      | (with_reducible refine LeO.bind ?_ (fun _ => ?_))
      | exact ih0 _ _ _
      | exact ih1 _ _ _ _
      | exact ih2 _ _ _ _ _ _
      | exact ih3 _ _ _ _ _ _
      | exact ih4 _ _ _ _ _ _ _
      | exact ih5 _ _ _ _ _ _ _ _ _
      | exact LeO.none _
      | refine LeO.ite ?_ ?_
      | refine LeO.bind ?_ (fun _ => ?_)
    · intro y0 y1 y2 y3 y4 y5 y6
      unfold impl_Glob.j4
      repeat' first
      | (with_reducible exact ih0 _ _ _)
      | (with_reducible exact ih1 _ _ _ _)
      | (with_reducible exact ih2 _ _ _ _ _ _)
      | (with_reducible exact ih3 _ _ _ _ _ _)
      | (with_reducible exact ih4 _ _ _ _ _ _ _)
      | (with_reducible exact ih5 _ _ _ _ _ _ _ _ _)
      | (with_reducible exact LeO.refl _)
      | (with_reducible exact LeO.none _)
      | (with_reducible refine LeO.ite ?_ ?_)
      | (with_reducible refine LeO.bind ?_ (fun _ => ?_))
      | exact ih0 _ _ _
      | exact ih1 _ _ _ _
      | exact ih2 _ _ _ _ _ _
      | exact ih3 _ _ _ _ _ _
      | exact ih4 _ _ _ _ _ _ _
      | exact ih5 _ _ _ _ _ _ _ _ _
      | exact LeO.none _
      | refine LeO.ite ?_ ?_
      | refine LeO.bind ?_ (fun _ => ?_)
    · intro y0 y1 y2 y3 y4 y5 y6 y7 y8
      unfold impl_Glob.l1
      repeat' first
      | (with_reducible exact ih0 _ _ _)
      | (with_reducible exact ih1 _ _ _ _)
      | (with_reducible exact ih2 _ _ _ _ _ _)
      | (with_reducible exact ih3 _ _ _ _ _ _)
      | (with_reducible exact ih4 _ _ _ _ _ _ _)
      | (with_reducible exact ih5 _ _ _ _ _ _ _ _ _)
      | (with_reducible exact LeO.refl _)
      | (with_reducible exact LeO.none _)
      | (with_reducible refine LeO.ite ?_ ?_)
      | (with_reducible refine LeO.bind ?_ (fun _ => ?_))
      | exact ih0 _ _ _
      | exact ih1 _ _ _ _
      | exact ih2 _ _ _ _ _ _
      | exact ih3 _ _ _ _ _ _
      | exact ih4 _ _ _ _ _ _ _
      | exact ih5 _ _ _ _ _ _ _ _ _
      | exact LeO.none _
      | refine LeO.ite ?_ ?_
      | refine LeO.bind ?_ (fun _ => ?_)
theorem impl_Glob.mono : ∀ a0 a1 k, LeO (impl_Glob.f k a0 a1) (impl_Glob.f (k + 1) a0 a1) := by
  intro a0 a1 k
  obtain ⟨ih0, ih1, ih2, ih3, ih4, ih5⟩ := impl_Glob.mono_l k
  unfold impl_Glob.f
  repeat' first
      | (with_reducible exact ih0 _ _ _)
      | (with_reducible exact ih1 _ _ _ _)
      | (with_reducible exact ih2 _ _ _ _ _ _)
      | (with_reducible exact ih3 _ _ _ _ _ _)
      | (with_reducible exact ih4 _ _ _ _ _ _ _)
      | (with_reducible exact ih5 _ _ _ _ _ _ _ _ _)
      | (with_reducible exact LeO.refl _)
      | (with_reducible exact LeO.none _)
      | (with_reducible refine LeO.ite ?_ ?_)
      | (with_reducible refine LeO.bind ?_ (fun _ => ?_))
      | exact ih0 _ _ _
      | exact ih1 _ _ _ _
      | exact ih2 _ _ _ _ _ _
      | exact ih3 _ _ _ _ _ _
      | exact ih4 _ _ _ _ _ _ _
      | exact ih5 _ _ _ _ _ _ _ _ _
      | exact LeO.none _
      | refine LeO.ite ?_ ?_
      | refine LeO.bind ?_ (fun _ => ?_)
def impl_Glob.T17 : Bool × List (List Nat × List Nat) := (true, [([], []), ([], []), ([1], [1]), ([], []), ([], []), ([3, 4], [3, 4]), ([5], [5]), ([6], [6]), ([7], [7]), ([7], [7]), ([8, 9, 7], [7, 8, 9]), ([7], [7]), ([7], [7]), ([11, 12, 7], [7, 11, 12]), ([10, 13, 7], [7, 10, 13]), ([7, 14], [7, 14]), ([0, 2, 0, 1, 2, 3, 4, 5, 6, 7, 8, 9, 10, 11, 12, 13, 14, 15], [0, 2]), ([16, 15, 7, 0, 1, 2, 3, 4, 5, 6, 7, 8, 9, 10, 11, 12, 13, 14, 15], [15, 16])])
def impl_Glob.B17 : List Nat := [0, 0, 2, 0, 0, 24, 56, 120, 248, 248, 1016, 248, 248, 6392, 16376, 32760, 65535, 131071]
theorem impl_Glob.tab17 : rtab .any (opsOf Tryd.f47 17) = impl_Glob.T17 := by kernel_rfl
theorem impl_Glob.bits17 : waitsOk impl_Glob.T17.2 impl_Glob.B17 = true := by kernel_rfl
set_option maxHeartbeats 8000000 in
set_option maxRecDepth 100000 in
theorem impl_Glob.calls (k : Nat) (a0 : ByteArray) (a1 : ByteArray) (r : Bool) (w : World) (h : impl_Glob.f k a0 a1 = some r) :
    Calls Tryd.prog 47 #[.string a0, .string a1] w fun e w' => e = .returned (.bool r) ∧ Below w.heap.size w w' := by
  have HB := Aside0.mk (Below.refl w.heap.size w)
  have H : (if (a0.size : Int) > 50 then (impl_Glob.j0 k a0 a1 true) else (impl_Glob.j0 k a0 a1 (decide ((a1.size : Int) > 300)))) = some r := h
  clear h
  have HC3 := Aside0.mk H
  clear H
  go_enter Tryd.func47, Tryd.ntmps47
  go_upto_region 1 with (fail)
  go_cut [18] (fun v18 wc => ∃ (kq : Nat) (x18_2 : Bool), v18 = .bool x18_2 ∧ Aside0 (impl_Glob.j0 kq a0 a1 x18_2 = some r) ∧ Aside0 (kq ≤ k) ∧ Aside0 (Below w.heap.size w wc))
  case first =>
    have H := HC3.out
    clear HC3
    by_cases c4 : (a0.size : Int) > 50
    · rw [if_pos c4] at H
      have c4b0 : decide (50 < (a0.size : Int)) = true := decide_eq_true c4
      have c4b1 : decide (50 < a0.size) = true := decide_eq_true (by omega)
      clear c4
      (first | rw [c4b0] | (simp only [i64_w, i32_w]; rw [c4b0]) | skip)
      have H' := Aside0.mk H
      clear H
      go_wp2
      go_meet
      case rel => exact ⟨_, (true), (by first | rfl | (simp; done) | (simp [*]; done)), H', ⟨by first | omega | exact Nat.le_refl _⟩, ⟨by repeat (first | (with_reducible first | exact HB.out | apply below_alloc | apply pw_below_drewN | apply below_drew1) | exact HB.out)⟩⟩
    · rw [if_neg c4] at H
      have c4b0 : decide (50 < (a0.size : Int)) = false := decide_eq_false c4
      have c4b1 : decide (50 < a0.size) = false := decide_eq_false (by omega)
      clear c4
      (first | rw [c4b0] | (simp only [i64_w, i32_w]; rw [c4b0]) | skip)
      have H' := Aside0.mk H
      clear H
      go_wp2
      go_meet
      case rel => exact ⟨_, (decide ((a1.size : Int) > 300)), (by first | rfl | (simp; done) | (simp [*]; done)), H', ⟨by first | omega | exact Nat.le_refl _⟩, ⟨by repeat (first | (with_reducible first | exact HB.out | apply below_alloc | apply pw_below_drewN | apply below_drew1) | exact HB.out)⟩⟩
  case rest =>
    clear HC3
    try clear p2
    try clear c4
    try clear c4b0
    try clear c4b1
    obtain ⟨kq, x18_2, rfl, HA, HJ2, HB⟩ := hcut
    cases kq with
    | zero => exact absurd HA.out (by simp [impl_Glob.j0])
    | succ kj2 =>
      have H := HA.out
      clear HA
      simp only [impl_Glob.j0] at H
      by_cases c5 : x18_2 = true
      · subst c5
        have H1 : (some false) = some r := by rw [if_pos rfl] at H; exact H
        clear H
        have H := H1
        clear H1
        obtain rfl := Option.some.inj H
        go_wp2
        go_ret
        exact ⟨by first | rfl | (simp [errW_none, errW_some] <;> rfl) | (simp [*, errW_none, errW_some] <;> rfl) | (simp only [decide_eq_true_eq] at *; simp [*, bt]; done), by repeat (first | (with_reducible first | exact HB.out | apply below_alloc | apply pw_below_drewN | apply below_drew1) | exact HB.out)⟩
      · replace c5 := Bool.eq_false_iff.mpr c5
        subst c5
        have H1 : (if 0 ≤ (wrap64 ((a1.size : Int) + 1)) then (if (wrap64 ((a1.size : Int) + 1) : Int).toNat ≤ 281474976710656 then ((some (List.replicate (wrap64 ((a1.size : Int) + 1) : Int).toNat false : List Bool)).bind fun y356 => (if 0 < (y356.length : Int) then (impl_Glob.l0 kj2 a0 a1 (y356.set (0 : Int).toNat true) 0) else (none))) else (none)) else (none)) = some r := by rw [if_neg (show ¬ (false = true) by decide)] at H; exact H
        clear H
        have H := H1
        clear H1
        obtain ⟨ji6, hji6⟩ : ∃ j_ : Int, (wrap64 ((a1.size : Int) + 1)) = j_ := ⟨_, rfl⟩
        replace H : (if 0 ≤ (ji6) then (if (ji6 : Int).toNat ≤ 281474976710656 then ((some (List.replicate (ji6 : Int).toNat false : List Bool)).bind fun y356 => (if 0 < (y356.length : Int) then (impl_Glob.l0 kj2 a0 a1 (y356.set (0 : Int).toNat true) 0) else (none))) else (none)) else (none)) = some r := by first | (rw [hji6] at H; exact H) | (simp only [hji6] at H ⊢; exact H)
        have hji6w : (IntKind.i64.wrap ((a1.size : Int) + 1)) = ji6 := (i64_w _).trans hji6
        by_cases c7 : 0 ≤ (ji6)
        · rw [if_pos c7] at H
          have c7b0 := eq_true c7
          have c7b1 : decide (0 ≤ (ji6)) = true := decide_eq_true c7
          clear c7
          by_cases c8 : (ji6 : Int).toNat ≤ 281474976710656
          · rw [if_pos c8] at H
            have c8b0 := eq_true c8
            have c8b1 : decide ((ji6 : Int).toNat ≤ 281474976710656) = true := decide_eq_true c8
            clear c8
            obtain ⟨y356, hy356⟩ : ∃ y_ : List Bool, y_ = (List.replicate (ji6 : Int).toNat false) := ⟨_, rfl⟩
            replace H : (if 0 < (y356.length : Int) then (impl_Glob.l0 kj2 a0 a1 (y356.set (0 : Int).toNat true) 0) else (none)) = some r := by first | (rw [hy356]; with_reducible exact H) | (have H2_ := (Option.bind_some _ _).symm.trans H; rw [hy356]; with_reducible exact H2_) | (have H2_ := (Option.bind_some _ _).symm.trans H; with_reducible exact H2_) | with_reducible exact H | (rw [hy356]; exact H) | exact H
            have Ny356 := Aside0.mk hy356
            clear hy356
            by_cases c9 : 0 < (y356.length : Int)
            · rw [if_pos c9] at H
              have c9b0 : decide (0 < (y356.length : Int)) = true := decide_eq_true c9
              have c9b1 : decide (0 < y356.length) = true := decide_eq_true (by omega)
              clear c9
              obtain ⟨y359, hy359⟩ : ∃ y_ : List Bool, y_ = (y356.set (0 : Int).toNat true) := ⟨_, rfl⟩
              replace H : (impl_Glob.l0 kj2 a0 a1 y359 0) = some r := by first | (rw [hy359]; with_reducible exact H) | (have H2_ := (Option.bind_some _ _).symm.trans H; rw [hy359]; with_reducible exact H2_) | (have H2_ := (Option.bind_some _ _).symm.trans H; with_reducible exact H2_) | with_reducible exact H | (rw [hy359]; exact H) | exact H
              have Ny359 := Aside0.mk hy359
              clear hy359
              have H' := Aside0.mk H
              clear H
              go_wp2_with (first | ((with_reducible refine gate_dst (N := 22) rfl ?_); (try (refine gate_guard (by rfl) ?_; dsimp only)); refine Kd.R_make Kd.bool _ 4 rfl (N := 22) rfl 65 _ _ rfl ji6 rfl rfl Tryd.underlying65 (.bool false) 1 info4 rfl (by decide) (by omega) false (ok := fun _ => True) (okp := fun _ => True) rfl (fun _ hk => hk) trivial (of_decide_eq_true (by assumption)) (Nat.le_trans (Nat.mul_le_mul_right _ (of_decide_eq_true (by assumption) : ji6.toNat ≤ 281474976710656)) (by omega)) (Below.refl _ _) (Nat.le_refl _) ?_; intro v357 w11 ho12 hb hg_ hnew_; clear hg_ hnew_; (first | rw [← Ny356.out] at ho12 | (simp only [Int.reduceToNat] at ho12; rw [← Ny356.out] at ho12)); have n0_ := Aside0.mk (Kd.R_lower ho12 (below_size (by repeat (first | (with_reducible first | exact HB.out | apply below_alloc | apply pw_below_drewN | apply below_drew1) | exact HB.out)))); have n1_ := Aside0.mk (below_step (by repeat (first | (with_reducible first | exact HB.out | apply below_alloc | apply pw_below_drewN | apply below_drew1) | exact HB.out)) hb); clear HB; have HO358 := n0_; have HB := n1_; clear n0_ n1_; clear hb ho12; have p10 : 0 ≤ (0 : Int) := (by omega); have q10 : (0 : Int) < ((y356.length : Int) : Int) := of_decide_eq_true (by assumption); have qi10 : (0 < y356.length) = True := eq_true (by omega); obtain ⟨go10, co10, eo10, gb10, gl10, cl10, HG10⟩ := Kd.R_form HO358.out (by omega); (first | cases eo10 | (injection eo10 with ea_ en_ ec_; (first | subst ea_ | (injection ea_ with ea_; subst ea_)); subst ec_; clear en_)); have GB10 := Aside0.mk gb10; have GG10 := Aside0.mk HG10; clear gb10 gl10 HG10; obtain ⟨hx10_0, hf10_0⟩ := Kd.R_celln false HO358.out (0 : Int) p10 q10; (try rw [show ((0 : Int)).toNat = 0 from rfl] at hx10_0); (try simp only [Nat.reduceMul, Nat.zero_mul, Nat.zero_add, Nat.reduceAdd] at hx10_0); (try rw [show ((0 : Int)).toNat = 0 from rfl] at hf10_0); (try simp only [Nat.reduceMul, Nat.zero_mul, Nat.zero_add, Nat.reduceAdd] at hf10_0); replace p10 := eq_true p10; replace q10 := eq_true q10; obtain ⟨hy13_, hz13_⟩ := Kd.R_celln false HO358.out (0 : Int) (by omega) (of_decide_eq_true (by assumption)); (try simp only [Int.reduceToNat, Int.toNat_zero, Int.toNat_ofNat, Nat.reduceMul, Nat.zero_mul, Nat.zero_add] at hy13_ hz13_); (try rw [show ((0 : Int)).toNat = 0 from rfl] at hy13_); (try rw [show ((0 : Int)).toNat = 0 from rfl] at hz13_); have HP13 := Kd.R_putg HO358.out (0 : Int) true) | ((with_reducible refine gate_store (t := 4) (p := 24) rfl ?_); refine store_event (t := 4) (p := 24) (v := ?vo_w14) (w1 := (w11.setCell ⟨go10, (0 : Int).toNat, none⟩ (.bool true))) ?hg ?ho ?hn ?hr ?_; (case ho => rfl); (case hg => rfl); (case hn => rfl); (case hr => first | (go_simp; done) | (go_simp; rfl)); intro w14 hw; have hg : w11.grownBy w14 (some go10) := (by rw [hw]; exact HP13.2); have hp_ : Kd.R Kd.bool 4 w14 w.heap.size (fun _ => True) (.slice (some ⟨go10, 0, none⟩) y356.length co10) y359 := (by rw [hw, Ny359.out]; exact HP13.1); clear HP13; have n0_ := Aside0.mk (hp_); have n1_ := Aside0.mk ((by rw [hw]; exact below_set (HB.out) GB10.out : Below w.heap.size w w14)); clear HO358; clear HB; have HO358 := n0_; have HB := n1_; clear n0_ n1_; clear hg hw hp_))
              go_loopg [5, 6] kj2 (fun kq v5 v6 w' => ∃ (x5_2 : List Bool) (x6_2 : Int), v6 = .int .i64 x6_2 ∧ Aside0 (impl_Glob.l0 kq a0 a1 x5_2 x6_2 = some r) ∧ Aside0 (kq ≤ kj2) ∧ Aside0 (Kd.R Kd.bool 4 w' w.heap.size (fun _ => True) v5 x5_2) ∧ Aside0 (Below w.heap.size w w'))
              case atStart => exact ⟨(y359), (0), (by first | rfl | (simp; done) | (simp [*]; done)), H', ⟨Nat.le_refl _⟩, ⟨by (with_reducible repeat (first | apply Kd.R_alloc | apply Kd.R_drewN | apply Kd.R_drew)); first | exact HO358.out | exact Kd.R_mono HO358.out (fun k_ h_ q_ => h_ (q_.trans (ownBlock_len _ _ _ _)))⟩, ⟨by repeat (first | (with_reducible first | exact HB.out | apply below_alloc | apply pw_below_drewN | apply below_drew1) | exact HB.out)⟩⟩
              case round =>
                try clear hji6w
                try clear hji6
                clear H'
                try clear p1
                try clear q1
                try clear hx1
                try clear qi1
                try clear p2
                try clear c4
                try clear c4b0
                try clear c4b1
                try clear c5
                try clear p6
                try clear c7
                try clear c7b0
                try clear c7b1
                try clear c8
                try clear c8b0
                try clear c8b1
                try clear c9
                try clear c9b0
                try clear c9b1
                try clear p10
                try clear q10
                try clear hx10
                try clear qi10
                try clear hf10
                try clear hx10_0
                try clear p10
                try clear p2
                try clear q10
                obtain ⟨x5_2, x6_2, rfl, HA, HK2, HO_5, HB⟩ := hrel
                cases gk with
                | zero => exact absurd HA.out (by simp [impl_Glob.l0])
                | succ k2 =>
                  have H := HA.out
                  clear HA
                  simp only [impl_Glob.l0] at H
                  by_cases c15 : x6_2 < (a0.size : Int)
                  · rw [if_pos c15] at H
                    have c15b0 : decide (x6_2 < (a0.size : Int)) = true := decide_eq_true c15
                    clear c15
                    by_cases c16 : 0 ≤ x6_2
                    · rw [if_pos c16] at H
                      have c16b0 : decide (0 ≤ x6_2) = true := decide_eq_true c16
                      clear c16
                      have HC18 := Aside0.mk H
                      clear H
                      have p17 : 0 ≤ (x6_2 : Int) := of_decide_eq_true (by assumption)
                      have q17 : x6_2 < (a0.size : Int) := of_decide_eq_true (by assumption)
                      have hx17 := bt_at a0 x6_2
                      replace p17 := eq_true p17
                      replace q17 := eq_true q17
                      go_upto_region 9 with (fail)
                      go_cut [7, 8] (fun v7 v8 wc => ∃ (kq : Nat) (x7_17 : Bool) (x8_17 : Bool), v7 = .bool x7_17 ∧ v8 = .bool x8_17 ∧ Aside0 (impl_Glob.j2 kq a0 a1 x5_2 x6_2 x7_17 x8_17 = some r) ∧ Aside0 (kq ≤ k2) ∧ Aside0 (Kd.R Kd.bool 4 wc w.heap.size (fun _ => True) u5 x5_2) ∧ Aside0 (Below w.heap.size w wc))
                      case first =>
                        have H := HC18.out
                        clear HC18
                        by_cases c19 : (bt a0 x6_2) = 42
                        · rw [if_pos c19] at H
                          have c19b0 : ((bt a0 x6_2) == 42) = true := beq_iff_eq.mpr c19
                          have c19b1 : ((bt a0 x6_2) != 42) = false := bne_eq_false_iff_eq.mpr c19
                          clear c19
                          (first | rw [c19b0] | (simp only [i64_w, i32_w]; rw [c19b0]) | skip)
                          by_cases c20 : (wrap64 (x6_2 + 1)) < (a0.size : Int)
                          · rw [if_pos c20] at H
                            have c20b0 : decide ((wrap64 (x6_2 + 1)) < (a0.size : Int)) = true := decide_eq_true c20
                            clear c20
                            obtain ⟨ji21, hji21⟩ : ∃ j_ : Int, (wrap64 (x6_2 + 1)) = j_ := ⟨_, rfl⟩
                            replace H : (if 0 ≤ (ji21) then (impl_Glob.j2 k2 a0 a1 x5_2 x6_2 ((bt a0 x6_2) == 42) ((bt a0 (ji21)) == 42)) else (none)) = some r := by first | (rw [hji21] at H; exact H) | (simp only [hji21] at H ⊢; exact H)
                            (try rw [hji21] at c20b0)
                            have hji21w : (IntKind.i64.wrap (x6_2 + 1)) = ji21 := (i64_w _).trans hji21
                            by_cases c22 : 0 ≤ (ji21)
                            · rw [if_pos c22] at H
                              have c22b0 : decide (0 ≤ (ji21)) = true := decide_eq_true c22
                              clear c22
                              have H' := Aside0.mk H
                              clear H
                              have p23 : 0 ≤ ((ji21) : Int) := of_decide_eq_true (by assumption)
                              have q23 : (ji21) < (a0.size : Int) := of_decide_eq_true (by assumption)
                              have hx23 := bt_at a0 (ji21)
                              replace p23 := eq_true p23
                              replace q23 := eq_true q23
                              go_wp2
                              go_meet
                              case rel => exact ⟨_, (((bt a0 x6_2) == 42)), (((bt a0 (ji21)) == 42)), (by first | rfl | (simp; done) | (simp [*]; done)), (by first | rfl | (simp; done) | (simp only [← hji21] <;> (first | rfl | simp)) | (simp [*]; done)), H', ⟨by have := HJ2.out; have := HK2.out; first | omega | exact Nat.le_refl _⟩, ⟨by (with_reducible repeat (first | apply Kd.R_alloc | apply Kd.R_drewN | apply Kd.R_drew)); first | exact HO_5.out | exact Kd.R_mono HO_5.out (fun k_ h_ q_ => h_ (q_.trans (ownBlock_len _ _ _ _)))⟩, ⟨by repeat (first | (with_reducible first | exact HB.out | apply below_alloc | apply pw_below_drewN | apply below_drew1) | exact HB.out)⟩⟩
                            · rw [if_neg c22] at H
                              exact absurd H (by simp)
                          · rw [if_neg c20] at H
                            have c20b0 : decide ((wrap64 (x6_2 + 1)) < (a0.size : Int)) = false := decide_eq_false c20
                            clear c20
                            have H' := Aside0.mk H
                            clear H
                            go_wp2
                            go_meet
                            case rel => exact ⟨_, (((bt a0 x6_2) == 42)), (false), (by first | rfl | (simp; done) | (simp [*]; done)), (by first | rfl | (simp; done) | (simp [*]; done)), H', ⟨by have := HJ2.out; have := HK2.out; first | omega | exact Nat.le_refl _⟩, ⟨by (with_reducible repeat (first | apply Kd.R_alloc | apply Kd.R_drewN | apply Kd.R_drew)); first | exact HO_5.out | exact Kd.R_mono HO_5.out (fun k_ h_ q_ => h_ (q_.trans (ownBlock_len _ _ _ _)))⟩, ⟨by repeat (first | (with_reducible first | exact HB.out | apply below_alloc | apply pw_below_drewN | apply below_drew1) | exact HB.out)⟩⟩
                        · rw [if_neg c19] at H
                          have c19b0 : ((bt a0 x6_2) == 42) = false := beq_eq_false_iff_ne.mpr c19
                          have c19b1 : ((bt a0 x6_2) != 42) = true := bne_iff_ne.mpr c19
                          (first | rw [c19b0] | (simp only [i64_w, i32_w]; rw [c19b0]) | skip)
                          have H' := Aside0.mk H
                          clear H
                          go_wp2
                          go_meet
                          case rel => exact ⟨_, (((bt a0 x6_2) == 42)), (false), (by first | rfl | (simp; done) | (simp [*]; done)), (by first | rfl | (simp; done) | (simp [*]; done)), H', ⟨by have := HJ2.out; have := HK2.out; first | omega | exact Nat.le_refl _⟩, ⟨by (with_reducible repeat (first | apply Kd.R_alloc | apply Kd.R_drewN | apply Kd.R_drew)); first | exact HO_5.out | exact Kd.R_mono HO_5.out (fun k_ h_ q_ => h_ (q_.trans (ownBlock_len _ _ _ _)))⟩, ⟨by repeat (first | (with_reducible first | exact HB.out | apply below_alloc | apply pw_below_drewN | apply below_drew1) | exact HB.out)⟩⟩
                      case rest =>
                        try clear hji6w
                        try clear hji6
                        clear HC18
                        try clear c1
                        try clear p1
                        try clear q1
                        try clear hx1
                        try clear qi1
                        try clear c2
                        try clear p2
                        try clear q2
                        try clear hx2
                        try clear c4
                        try clear c4b0
                        try clear c4b1
                        try clear c5
                        try clear p6
                        try clear c7
                        try clear c7b0
                        try clear c7b1
                        try clear c8
                        try clear c8b0
                        try clear c8b1
                        try clear c9
                        try clear c9b0
                        try clear c9b1
                        try clear p10
                        try clear q10
                        try clear hx10
                        try clear qi10
                        try clear hf10
                        try clear c15
                        try clear c15b0
                        try clear c16
                        try clear c16b0
                        try clear p17
                        try clear q17
                        try clear hx17
                        try clear c19
                        try clear c19b0
                        try clear c19b1
                        try clear c20
                        try clear c20b0
                        try clear c22
                        try clear c22b0
                        try clear p23
                        try clear q23
                        try clear hx23
                        try clear hx10_0
                        try clear p1
                        try clear p10
                        try clear p17
                        try clear p2
                        try clear p23
                        try clear p6
                        try clear q1
                        try clear q10
                        try clear q17
                        try clear q23
                        obtain ⟨kq, x7_17, x8_17, rfl, rfl, HA, HJ17, HO_5, HB⟩ := hcut
                        cases kq with
                        | zero => exact absurd HA.out (by simp [impl_Glob.j2])
                        | succ kj17 =>
                          have H := HA.out
                          clear HA
                          simp only [impl_Glob.j2] at H
                          have HC24 := Aside0.mk H
                          clear H
                          go_upto_if 50 with (fail)
                          go_cut [6, 7, 8] (fun v6 v7 v8 wc => ∃ (kq : Nat) (x6_23 : Int) (x7_23 : Bool) (x8_23 : Bool), v6 = .int .i64 x6_23 ∧ v7 = .bool x7_23 ∧ v8 = .bool x8_23 ∧ Aside0 (impl_Glob.j3 kq a0 a1 x5_2 x6_23 x7_23 x8_23 = some r) ∧ Aside0 (kq ≤ kj17) ∧ Aside0 (Kd.R Kd.bool 4 wc w.heap.size (fun _ => True) u5 x5_2) ∧ Aside0 (Below w.heap.size w wc))
                          case first =>
                            have H := HC24.out
                            clear HC24
                            by_cases c25 : x8_17 = true
                            · subst c25
                              have H1 : (impl_Glob.j3 kj17 a0 a1 x5_2 (wrap64 (x6_2 + 1)) x7_17 true) = some r := by rw [if_pos rfl] at H; exact H
                              clear H
                              have H := H1
                              clear H1
                              have H' := Aside0.mk H
                              clear H
                              go_wp2
                              go_meet
                              case rel => exact ⟨_, (wrap64 (x6_2 + 1)), (x7_17), (true), (by first | rfl | (simp; done) | (simp [*]; done)), (by first | rfl | (simp; done) | (simp [*]; done)), (by first | rfl | (simp; done) | (simp [*]; done)), H', ⟨by have := HJ2.out; have := HK2.out; have := HJ17.out; first | omega | exact Nat.le_refl _⟩, ⟨by (with_reducible repeat (first | apply Kd.R_alloc | apply Kd.R_drewN | apply Kd.R_drew)); first | exact HO_5.out | exact Kd.R_mono HO_5.out (fun k_ h_ q_ => h_ (q_.trans (ownBlock_len _ _ _ _)))⟩, ⟨by repeat (first | (with_reducible first | exact HB.out | apply below_alloc | apply pw_below_drewN | apply below_drew1) | exact HB.out)⟩⟩
                            · replace c25 := Bool.eq_false_iff.mpr c25
                              subst c25
                              have H1 : (impl_Glob.j3 kj17 a0 a1 x5_2 x6_2 x7_17 false) = some r := by rw [if_neg (show ¬ (false = true) by decide)] at H; exact H
                              clear H
                              have H := H1
                              clear H1
                              have H' := Aside0.mk H
                              clear H
                              go_wp2
                              go_meet
                              case rel => exact ⟨_, (x6_2), (x7_17), (false), (by first | rfl | (simp; done) | (simp [*]; done)), (by first | rfl | (simp; done) | (simp [*]; done)), (by first | rfl | (simp; done) | (simp [*]; done)), H', ⟨by have := HJ2.out; have := HK2.out; have := HJ17.out; first | omega | exact Nat.le_refl _⟩, ⟨by (with_reducible repeat (first | apply Kd.R_alloc | apply Kd.R_drewN | apply Kd.R_drew)); first | exact HO_5.out | exact Kd.R_mono HO_5.out (fun k_ h_ q_ => h_ (q_.trans (ownBlock_len _ _ _ _)))⟩, ⟨by repeat (first | (with_reducible first | exact HB.out | apply below_alloc | apply pw_below_drewN | apply below_drew1) | exact HB.out)⟩⟩
                          case rest =>
                            try clear hji6w
                            try clear hji6
                            clear HC24
                            try clear c1
                            try clear p1
                            try clear q1
                            try clear hx1
                            try clear qi1
                            try clear c2
                            try clear p2
                            try clear q2
                            try clear hx2
                            try clear c4
                            try clear c4b0
                            try clear c4b1
                            try clear c5
                            try clear p6
                            try clear c7
                            try clear c7b0
                            try clear c7b1
                            try clear c8
                            try clear c8b0
                            try clear c8b1
                            try clear c9
                            try clear c9b0
                            try clear c9b1
                            try clear p10
                            try clear q10
                            try clear hx10
                            try clear qi10
                            try clear hf10
                            try clear c15
                            try clear c15b0
                            try clear c16
                            try clear c16b0
                            try clear p17
                            try clear q17
                            try clear hx17
                            try clear c19
                            try clear c19b0
                            try clear c19b1
                            try clear c20
                            try clear c20b0
                            try clear c22
                            try clear c22b0
                            try clear p23
                            try clear q23
                            try clear hx23
                            try clear c25
                            try clear hx10_0
                            try clear p1
                            try clear p10
                            try clear p17
                            try clear p2
                            try clear p23
                            try clear p6
                            try clear q1
                            try clear q10
                            try clear q17
                            try clear q2
                            try clear q23
                            obtain ⟨kq, x6_23, x7_23, x8_23, rfl, rfl, rfl, HA, HJ23, HO_5, HB⟩ := hcut
                            cases kq with
                            | zero => exact absurd HA.out (by simp [impl_Glob.j3])
                            | succ kj23 =>
                              have H := HA.out
                              clear HA
                              simp only [impl_Glob.j3] at H
                              obtain ⟨ji26, hji26⟩ : ∃ j_ : Int, (wrap64 ((a1.size : Int) + 1)) = j_ := ⟨_, rfl⟩
                              replace H : (if 0 ≤ (ji26) then (if (ji26 : Int).toNat ≤ 281474976710656 then ((some (List.replicate (ji26 : Int).toNat false : List Bool)).bind fun y361 => (if x7_23 = true then (if 0 < (x5_2.length : Int) then (if 0 < (y361.length : Int) then (impl_Glob.j4 kj23 a0 a1 x5_2 x6_23 x7_23 x8_23 (y361.set (0 : Int).toNat (rdOf false x5_2 0))) else (none)) else (none)) else (if 0 < (y361.length : Int) then (impl_Glob.j4 kj23 a0 a1 x5_2 x6_23 x7_23 x8_23 (y361.set (0 : Int).toNat false)) else (none)))) else (none)) else (none)) = some r := by first | (rw [hji26] at H; exact H) | (simp only [hji26] at H ⊢; exact H)
                              have hji26w : (IntKind.i64.wrap ((a1.size : Int) + 1)) = ji26 := (i64_w _).trans hji26
                              by_cases c27 : 0 ≤ (ji26)
                              · rw [if_pos c27] at H
                                have c27b0 := eq_true c27
                                have c27b1 : decide (0 ≤ (ji26)) = true := decide_eq_true c27
                                clear c27
                                by_cases c28 : (ji26 : Int).toNat ≤ 281474976710656
                                · rw [if_pos c28] at H
                                  have c28b0 := eq_true c28
                                  have c28b1 : decide ((ji26 : Int).toNat ≤ 281474976710656) = true := decide_eq_true c28
                                  clear c28
                                  obtain ⟨y361, hy361⟩ : ∃ y_ : List Bool, y_ = (List.replicate (ji26 : Int).toNat false) := ⟨_, rfl⟩
                                  replace H : (if x7_23 = true then (if 0 < (x5_2.length : Int) then (if 0 < (y361.length : Int) then (impl_Glob.j4 kj23 a0 a1 x5_2 x6_23 x7_23 x8_23 (y361.set (0 : Int).toNat (rdOf false x5_2 0))) else (none)) else (none)) else (if 0 < (y361.length : Int) then (impl_Glob.j4 kj23 a0 a1 x5_2 x6_23 x7_23 x8_23 (y361.set (0 : Int).toNat false)) else (none))) = some r := by first | (rw [hy361]; with_reducible exact H) | (have H2_ := (Option.bind_some _ _).symm.trans H; rw [hy361]; with_reducible exact H2_) | (have H2_ := (Option.bind_some _ _).symm.trans H; with_reducible exact H2_) | with_reducible exact H | (rw [hy361]; exact H) | exact H
                                  have Ny361 := Aside0.mk hy361
                                  clear hy361
                                  have HC29 := Aside0.mk H
                                  clear H
                                  go_upto_region 13 with (first | ((with_reducible refine gate_dst (N := 56) rfl ?_); (try (refine gate_guard (by rfl) ?_; dsimp only)); refine Kd.R_make Kd.bool _ 4 rfl (N := 56) rfl 65 _ _ rfl ji26 rfl rfl Tryd.underlying65 (.bool false) 1 info4 rfl (by decide) (by omega) false (ok := fun _ => True) (okp := fun _ => True) rfl (fun _ hk => hk) trivial (of_decide_eq_true (by assumption)) (Nat.le_trans (Nat.mul_le_mul_right _ (of_decide_eq_true (by assumption) : ji26.toNat ≤ 281474976710656)) (by omega)) (Below.refl _ _) (Nat.le_refl _) ?_; intro v362 w30 ho31 hb hg_ hnew_; clear hg_ hnew_; (first | rw [← Ny361.out] at ho31 | (simp only [Int.reduceToNat] at ho31; rw [← Ny361.out] at ho31)); have n0_ := Aside0.mk (Kd.R_elder' (by (with_reducible repeat (first | apply Kd.R_alloc | apply Kd.R_drewN | apply Kd.R_drew)); exact HO_5.out) (Kd.R_base ho31) hb); have n1_ := Aside0.mk (Kd.R_lower (Kd.R_new' ho31 (Kd.R_lt (by (with_reducible repeat (first | apply Kd.R_alloc | apply Kd.R_drewN | apply Kd.R_drew)); exact HO_5.out))) (below_size (by repeat (first | (with_reducible first | exact HB.out | apply below_alloc | apply pw_below_drewN | apply below_drew1) | exact HB.out)))); have n2_ := Aside0.mk (below_step (by repeat (first | (with_reducible first | exact HB.out | apply below_alloc | apply pw_below_drewN | apply below_drew1) | exact HB.out)) hb); clear HO_5; clear HB; have HO_5 := n0_; have HO363 := n1_; have HB := n2_; clear n0_ n1_ n2_; clear hb ho31))
                                  (try simp only [Act.put, List.setIfInBounds_toArray, List.set_cons_zero, List.set_cons_succ])
                                  go_cut [7, 8] (fun v7 v8 wc => ∃ (kq : Nat) (x7_28 : Bool) (x8_28 : Bool) (x9_28 : List Bool), v7 = .bool x7_28 ∧ v8 = .bool x8_28 ∧ Aside0 (impl_Glob.j4 kq a0 a1 x5_2 x6_23 x7_28 x8_28 x9_28 = some r) ∧ Aside0 (kq ≤ kj23) ∧ Aside0 (Kd.R Kd.bool 4 wc w.heap.size (fun k_ => some k_ ≠ (v362 : Value).ownBlock) u5 x5_2) ∧ Aside0 (Kd.R Kd.bool 4 wc w.heap.size (fun k_ => some k_ ≠ (u5 : Value).ownBlock) v362 x9_28) ∧ Aside0 (Below w.heap.size w wc))
                                  case first =>
                                    have H := HC29.out
                                    clear HC29
                                    by_cases c32 : x7_23 = true
                                    · subst c32
                                      have H1 : (if 0 < (x5_2.length : Int) then (if 0 < (y361.length : Int) then (impl_Glob.j4 kj23 a0 a1 x5_2 x6_23 true x8_23 (y361.set (0 : Int).toNat (rdOf false x5_2 0))) else (none)) else (none)) = some r := by rw [if_pos rfl] at H; exact H
                                      clear H
                                      have H := H1
                                      clear H1
                                      by_cases c33 : 0 < (x5_2.length : Int)
                                      · rw [if_pos c33] at H
                                        have c33b0 : decide (0 < (x5_2.length : Int)) = true := decide_eq_true c33
                                        have c33b1 : decide (0 < x5_2.length) = true := decide_eq_true (by omega)
                                        clear c33
                                        (first | rw [c33b0] | (simp only [i64_w, i32_w]; rw [c33b0]) | skip)
                                        by_cases c34 : 0 < (y361.length : Int)
                                        · rw [if_pos c34] at H
                                          have c34b0 : decide (0 < (y361.length : Int)) = true := decide_eq_true c34
                                          have c34b1 : decide (0 < y361.length) = true := decide_eq_true (by omega)
                                          clear c34
                                          obtain ⟨y365, hy365⟩ : ∃ y_ : List Bool, y_ = (y361.set (0 : Int).toNat (rdOf false x5_2 0)) := ⟨_, rfl⟩
                                          replace H : (impl_Glob.j4 kj23 a0 a1 x5_2 x6_23 true x8_23 y365) = some r := by first | (rw [hy365]; with_reducible exact H) | (have H2_ := (Option.bind_some _ _).symm.trans H; rw [hy365]; with_reducible exact H2_) | (have H2_ := (Option.bind_some _ _).symm.trans H; with_reducible exact H2_) | with_reducible exact H | (rw [hy365]; exact H) | exact H
                                          have Ny365 := Aside0.mk hy365
                                          clear hy365
                                          have H' := Aside0.mk H
                                          clear H
                                          obtain ⟨Ao36, co36, eo36⟩ := Kd.R_slice HO_5.out
                                          subst eo36
                                          have p364 : 0 ≤ (0 : Int) := (by omega)
                                          have q364 : 0 < (x5_2.length : Int) := of_decide_eq_true (by assumption)
                                          obtain ⟨ad364, e364, hx364_0⟩ := Kd.at_bool (Kd.R_reads' HO_5.out).2.2 0 p364 q364
                                          cases e364
                                          have qi364 : (0 < x5_2.length) = True := eq_true (by omega)
                                          (try rw [show ((0 : Int)).toNat = 0 from rfl] at hx364_0)
                                          (try rw [Addr.add_zero'] at hx364_0)
                                          replace p364 := eq_true p364
                                          replace q364 := eq_true q364
                                          have p35 : 0 ≤ (0 : Int) := (by omega)
                                          have q35 : (0 : Int) < ((y361.length : Int) : Int) := of_decide_eq_true (by assumption)
                                          have qi35 : (0 < y361.length) = True := eq_true (by omega)
                                          obtain ⟨go35, co35, eo35, gb35, gl35, cl35, HG35⟩ := Kd.R_form HO363.out (by omega)
                                          (first | cases eo35 | (injection eo35 with ea_ en_ ec_; (first | subst ea_ | (injection ea_ with ea_; subst ea_)); subst ec_; clear en_))
                                          have GB35 := Aside0.mk gb35
                                          have GG35 := Aside0.mk HG35
                                          clear gb35 gl35 HG35
                                          obtain ⟨hx35_0, hf35_0⟩ := Kd.R_celln false HO363.out (0 : Int) p35 q35
                                          (try rw [show ((0 : Int)).toNat = 0 from rfl] at hx35_0)
                                          (try simp only [Nat.reduceMul, Nat.zero_mul, Nat.zero_add, Nat.reduceAdd] at hx35_0)
                                          (try rw [show ((0 : Int)).toNat = 0 from rfl] at hf35_0)
                                          (try simp only [Nat.reduceMul, Nat.zero_mul, Nat.zero_add, Nat.reduceAdd] at hf35_0)
                                          replace p35 := eq_true p35
                                          replace q35 := eq_true q35
                                          have n_ := Aside0.mk (Kd.R_mono (ok' := (fun k_ => some k_ ≠ (.slice (some ad364) x5_2.length co36 : Value).ownBlock)) HO363.out (fun k_ hk => hk.2))
                                          clear HO363
                                          have HO363 := n_
                                          clear n_
                                          have HP37 := Kd.R_putg HO363.out (0 : Int) (rdOf false x5_2 0)
                                          go_wp2_with (first | ((with_reducible refine gate_store (t := 4) (p := 64) rfl ?_); refine store_event (t := 4) (p := 64) (v := ?vo_w38) (w1 := (w30.setCell ⟨go35, (0 : Int).toNat, none⟩ (.bool (rdOf false x5_2 0)))) ?hg ?ho ?hn ?hr ?_; (case ho => rfl); (case hg => rfl); (case hn => rfl); (case hr => first | (go_simp; done) | (go_simp; rfl)); intro w38 hw; have hg : w30.grownBy w38 (some go35) := (by rw [hw]; exact HP37.2); have hp_ : Kd.R Kd.bool 4 w38 w.heap.size (fun k_ => some k_ ≠ (.slice (some ad364) x5_2.length co36 : Value).ownBlock) (.slice (some ⟨go35, 0, none⟩) y361.length co35) y365 := (by rw [hw, Ny365.out]; exact HP37.1); clear HP37; have n0_ := Aside0.mk (Kd.R_after (v := (.slice (some ⟨go35, 0, none⟩) y361.length co35)) (v1 := (.slice (some ⟨go35, 0, none⟩) y361.length co35)) (ok := (fun _ => True)) (by (with_reducible repeat (first | apply Kd.R_alloc | apply Kd.R_drewN | apply Kd.R_drew)); exact HO_5.out) hg (.inl rfl)); have n1_ := Aside0.mk (hp_); have n2_ := Aside0.mk ((by rw [hw]; exact below_set (HB.out) GB35.out : Below w.heap.size w w38)); clear HO_5; clear HO363; clear HB; have HO_5 := n0_; have HO363 := n1_; have HB := n2_; clear n0_ n1_ n2_; clear hg hw hp_))
                                          go_meet
                                          case rel => exact ⟨_, (true), (x8_23), (y365), (by first | rfl | (simp; done) | (simp [*]; done)), (by first | rfl | (simp; done) | (simp [*]; done)), H', ⟨by have := HJ2.out; have := HK2.out; have := HJ17.out; have := HJ23.out; first | omega | exact Nat.le_refl _⟩, ⟨by (with_reducible repeat (first | apply Kd.R_alloc | apply Kd.R_drewN | apply Kd.R_drew)); exact Kd.R_mono HO_5.out (fun _ hk => hk.2)⟩, ⟨by (with_reducible repeat (first | apply Kd.R_alloc | apply Kd.R_drewN | apply Kd.R_drew)); first | exact HO363.out | exact Kd.R_mono HO363.out (fun k_ h_ q_ => h_ (q_.trans (ownBlock_len _ _ _ _)))⟩, ⟨by repeat (first | (with_reducible first | exact HB.out | apply below_alloc | apply pw_below_drewN | apply below_drew1) | exact HB.out)⟩⟩
                                        · rw [if_neg c34] at H
                                          exact absurd H (by simp)
                                      · rw [if_neg c33] at H
                                        exact absurd H (by simp)
                                    · replace c32 := Bool.eq_false_iff.mpr c32
                                      subst c32
                                      have H1 : (if 0 < (y361.length : Int) then (impl_Glob.j4 kj23 a0 a1 x5_2 x6_23 false x8_23 (y361.set (0 : Int).toNat false)) else (none)) = some r := by rw [if_neg (show ¬ (false = true) by decide)] at H; exact H
                                      clear H
                                      have H := H1
                                      clear H1
                                      by_cases c39 : 0 < (y361.length : Int)
                                      · rw [if_pos c39] at H
                                        have c39b0 : decide (0 < (y361.length : Int)) = true := decide_eq_true c39
                                        have c39b1 : decide (0 < y361.length) = true := decide_eq_true (by omega)
                                        clear c39
                                        obtain ⟨y366, hy366⟩ : ∃ y_ : List Bool, y_ = (y361.set (0 : Int).toNat false) := ⟨_, rfl⟩
                                        replace H : (impl_Glob.j4 kj23 a0 a1 x5_2 x6_23 false x8_23 y366) = some r := by first | (rw [hy366]; with_reducible exact H) | (have H2_ := (Option.bind_some _ _).symm.trans H; rw [hy366]; with_reducible exact H2_) | (have H2_ := (Option.bind_some _ _).symm.trans H; with_reducible exact H2_) | with_reducible exact H | (rw [hy366]; exact H) | exact H
                                        have Ny366 := Aside0.mk hy366
                                        clear hy366
                                        have H' := Aside0.mk H
                                        clear H
                                        have p40 : 0 ≤ (0 : Int) := (by omega)
                                        have q40 : (0 : Int) < ((y361.length : Int) : Int) := of_decide_eq_true (by assumption)
                                        have qi40 : (0 < y361.length) = True := eq_true (by omega)
                                        obtain ⟨go40, co40, eo40, gb40, gl40, cl40, HG40⟩ := Kd.R_form HO363.out (by omega)
                                        (first | cases eo40 | (injection eo40 with ea_ en_ ec_; (first | subst ea_ | (injection ea_ with ea_; subst ea_)); subst ec_; clear en_))
                                        have GB40 := Aside0.mk gb40
                                        have GG40 := Aside0.mk HG40
                                        clear gb40 gl40 HG40
                                        obtain ⟨hx40_0, hf40_0⟩ := Kd.R_celln false HO363.out (0 : Int) p40 q40
                                        (try rw [show ((0 : Int)).toNat = 0 from rfl] at hx40_0)
                                        (try simp only [Nat.reduceMul, Nat.zero_mul, Nat.zero_add, Nat.reduceAdd] at hx40_0)
                                        (try rw [show ((0 : Int)).toNat = 0 from rfl] at hf40_0)
                                        (try simp only [Nat.reduceMul, Nat.zero_mul, Nat.zero_add, Nat.reduceAdd] at hf40_0)
                                        replace p40 := eq_true p40
                                        replace q40 := eq_true q40
                                        have n_ := Aside0.mk (Kd.R_mono (ok' := (fun k_ => some k_ ≠ (u5 : Value).ownBlock)) HO363.out (fun k_ hk => hk.2))
                                        clear HO363
                                        have HO363 := n_
                                        clear n_
                                        have HP41 := Kd.R_putg HO363.out (0 : Int) false
                                        go_wp2_with (first | ((with_reducible refine gate_store (t := 4) (p := 64) rfl ?_); refine store_event (t := 4) (p := 64) (v := ?vo_w42) (w1 := (w30.setCell ⟨go40, (0 : Int).toNat, none⟩ (.bool false))) ?hg ?ho ?hn ?hr ?_; (case ho => rfl); (case hg => rfl); (case hn => rfl); (case hr => first | (go_simp; done) | (go_simp; rfl)); intro w42 hw; have hg : w30.grownBy w42 (some go40) := (by rw [hw]; exact HP41.2); have hp_ : Kd.R Kd.bool 4 w42 w.heap.size (fun k_ => some k_ ≠ (u5 : Value).ownBlock) (.slice (some ⟨go40, 0, none⟩) y361.length co40) y366 := (by rw [hw, Ny366.out]; exact HP41.1); clear HP41; have n0_ := Aside0.mk (Kd.R_after (v := (.slice (some ⟨go40, 0, none⟩) y361.length co40)) (v1 := (.slice (some ⟨go40, 0, none⟩) y361.length co40)) (ok := (fun _ => True)) (by (with_reducible repeat (first | apply Kd.R_alloc | apply Kd.R_drewN | apply Kd.R_drew)); exact HO_5.out) hg (.inl rfl)); have n1_ := Aside0.mk (hp_); have n2_ := Aside0.mk ((by rw [hw]; exact below_set (HB.out) GB40.out : Below w.heap.size w w42)); clear HO_5; clear HO363; clear HB; have HO_5 := n0_; have HO363 := n1_; have HB := n2_; clear n0_ n1_ n2_; clear hg hw hp_))
                                        go_meet
                                        case rel => exact ⟨_, (false), (x8_23), (y366), (by first | rfl | (simp; done) | (simp [*]; done)), (by first | rfl | (simp; done) | (simp [*]; done)), H', ⟨by have := HJ2.out; have := HK2.out; have := HJ17.out; have := HJ23.out; first | omega | exact Nat.le_refl _⟩, ⟨by (with_reducible repeat (first | apply Kd.R_alloc | apply Kd.R_drewN | apply Kd.R_drew)); exact Kd.R_mono HO_5.out (fun _ hk => hk.2)⟩, ⟨by (with_reducible repeat (first | apply Kd.R_alloc | apply Kd.R_drewN | apply Kd.R_drew)); first | exact HO363.out | exact Kd.R_mono HO363.out (fun k_ h_ q_ => h_ (q_.trans (ownBlock_len _ _ _ _)))⟩, ⟨by repeat (first | (with_reducible first | exact HB.out | apply below_alloc | apply pw_below_drewN | apply below_drew1) | exact HB.out)⟩⟩
                                      · rw [if_neg c39] at H
                                        exact absurd H (by simp)
                                  case rest =>
                                    try clear hji6w
                                    try clear hji6
                                    try clear hji26w
                                    try clear hji26
                                    clear HC29
                                    try clear c1
                                    try clear p1
                                    try clear q1
                                    try clear hx1
                                    try clear qi1
                                    try clear c2
                                    try clear p2
                                    try clear q2
                                    try clear hx2
                                    try clear c3
                                    try clear p3
                                    try clear q3
                                    try clear hx3
                                    try clear qi3
                                    try clear hf3
                                    try clear c4
                                    try clear c4b0
                                    try clear c4b1
                                    try clear p4
                                    try clear q4
                                    try clear hx4
                                    try clear qi4
                                    try clear hf4
                                    try clear c5
                                    try clear p6
                                    try clear c7
                                    try clear c7b0
                                    try clear c7b1
                                    try clear c8
                                    try clear c8b0
                                    try clear c8b1
                                    try clear c9
                                    try clear c9b0
                                    try clear c9b1
                                    try clear p10
                                    try clear q10
                                    try clear hx10
                                    try clear qi10
                                    try clear hf10
                                    try clear c15
                                    try clear c15b0
                                    try clear c16
                                    try clear c16b0
                                    try clear p17
                                    try clear q17
                                    try clear hx17
                                    try clear c19
                                    try clear c19b0
                                    try clear c19b1
                                    try clear c20
                                    try clear c20b0
                                    try clear c22
                                    try clear c22b0
                                    try clear p23
                                    try clear q23
                                    try clear hx23
                                    try clear c25
                                    try clear c27
                                    try clear c27b0
                                    try clear c27b1
                                    try clear c28
                                    try clear c28b0
                                    try clear c28b1
                                    try clear c32
                                    try clear c33
                                    try clear c33b0
                                    try clear c33b1
                                    try clear c34
                                    try clear c34b0
                                    try clear c34b1
                                    try clear p35
                                    try clear q35
                                    try clear hx35
                                    try clear qi35
                                    try clear hf35
                                    try clear p36
                                    try clear q36
                                    try clear hx36
                                    try clear qi36
                                    try clear c39
                                    try clear c39b0
                                    try clear c39b1
                                    try clear p40
                                    try clear q40
                                    try clear hx40
                                    try clear qi40
                                    try clear hf40
                                    try clear hx10_0
                                    try clear hx35_0
                                    try clear hx364_0
                                    try clear hx40_0
                                    try clear p1
                                    try clear p10
                                    try clear p17
                                    try clear p2
                                    try clear p23
                                    try clear p35
                                    try clear p364
                                    try clear p40
                                    try clear p6
                                    try clear q1
                                    try clear q10
                                    try clear q17
                                    try clear q2
                                    try clear q23
                                    try clear q35
                                    try clear q364
                                    try clear q40
                                    obtain ⟨kq, x7_28, x8_28, x9_28, rfl, rfl, HA, HJ28, HO_5, HO_9, HB⟩ := hcut
                                    cases kq with
                                    | zero => exact absurd HA.out (by simp [impl_Glob.j4])
                                    | succ kj28 =>
                                      have H := HA.out
                                      clear HA
                                      simp only [impl_Glob.j4] at H
                                      have H' := Aside0.mk H
                                      clear H
                                      go_wp2
                                      go_loopg [67] kj28 (fun kq v67 w' => ∃ (x9_6 : List Bool) (x67_6 : Int), v67 = .int .i64 x67_6 ∧ Aside0 (impl_Glob.l1 kq a0 a1 x5_2 x6_23 x7_28 x8_28 x9_6 (a1.size : Int) x67_6 = some r) ∧ Aside0 (kq ≤ kj28) ∧ Aside0 (Kd.R Kd.bool 4 w' w.heap.size (fun k_ => some k_ ≠ (v362 : Value).ownBlock) u5 x5_2) ∧ Aside0 (Kd.R Kd.bool 4 w' w.heap.size (fun k_ => some k_ ≠ (u5 : Value).ownBlock) v362 x9_6) ∧ Aside0 (Below w.heap.size w w'))
                                      case atStart => exact ⟨(x9_28), (0), (by first | rfl | (simp; done) | (simp [*]; done)), H', ⟨Nat.le_refl _⟩, ⟨by (with_reducible repeat (first | apply Kd.R_alloc | apply Kd.R_drewN | apply Kd.R_drew)); first | exact HO_5.out | exact Kd.R_mono HO_5.out (fun k_ h_ q_ => h_ (q_.trans (ownBlock_len _ _ _ _)))⟩, ⟨by (with_reducible repeat (first | apply Kd.R_alloc | apply Kd.R_drewN | apply Kd.R_drew)); first | exact HO_9.out | exact Kd.R_mono HO_9.out (fun k_ h_ q_ => h_ (q_.trans (ownBlock_len _ _ _ _)))⟩, ⟨by repeat (first | (with_reducible first | exact HB.out | apply below_alloc | apply pw_below_drewN | apply below_drew1) | exact HB.out)⟩⟩
                                      case round =>
                                        try clear hji6w
                                        try clear hji6
                                        try clear hji26w
                                        try clear hji26
                                        clear H'
                                        try clear c1
                                        try clear p1
                                        try clear q1
                                        try clear hx1
                                        try clear qi1
                                        try clear c2
                                        try clear p2
                                        try clear q2
                                        try clear hx2
                                        try clear c3
                                        try clear p3
                                        try clear q3
                                        try clear hx3
                                        try clear qi3
                                        try clear hf3
                                        try clear c4
                                        try clear c4b0
                                        try clear c4b1
                                        try clear p4
                                        try clear q4
                                        try clear hx4
                                        try clear qi4
                                        try clear hf4
                                        try clear c5
                                        try clear p6
                                        try clear c7
                                        try clear c7b0
                                        try clear c7b1
                                        try clear c8
                                        try clear c8b0
                                        try clear c8b1
                                        try clear c9
                                        try clear c9b0
                                        try clear c9b1
                                        try clear p10
                                        try clear q10
                                        try clear hx10
                                        try clear qi10
                                        try clear hf10
                                        try clear c15
                                        try clear c15b0
                                        try clear c16
                                        try clear c16b0
                                        try clear p17
                                        try clear q17
                                        try clear hx17
                                        try clear c19
                                        try clear c19b0
                                        try clear c19b1
                                        try clear c20
                                        try clear c20b0
                                        try clear c22
                                        try clear c22b0
                                        try clear p23
                                        try clear q23
                                        try clear hx23
                                        try clear c25
                                        try clear c27
                                        try clear c27b0
                                        try clear c27b1
                                        try clear c28
                                        try clear c28b0
                                        try clear c28b1
                                        try clear c32
                                        try clear c33
                                        try clear c33b0
                                        try clear c33b1
                                        try clear c34
                                        try clear c34b0
                                        try clear c34b1
                                        try clear p35
                                        try clear q35
                                        try clear hx35
                                        try clear qi35
                                        try clear hf35
                                        try clear p36
                                        try clear q36
                                        try clear hx36
                                        try clear qi36
                                        try clear c39
                                        try clear c39b0
                                        try clear c39b1
                                        try clear p40
                                        try clear q40
                                        try clear hx40
                                        try clear qi40
                                        try clear hf40
                                        try clear hx10_0
                                        try clear hx35_0
                                        try clear hx364_0
                                        try clear hx40_0
                                        try clear p1
                                        try clear p10
                                        try clear p17
                                        try clear p2
                                        try clear p23
                                        try clear p3
                                        try clear p35
                                        try clear p36
                                        try clear p364
                                        try clear p4
                                        try clear p40
                                        try clear p6
                                        try clear q1
                                        try clear q10
                                        try clear q17
                                        try clear q2
                                        try clear q23
                                        try clear q3
                                        try clear q35
                                        try clear q36
                                        try clear q364
                                        try clear q4
                                        try clear q40
                                        obtain ⟨x9_6, x67_6, rfl, HA, HK6, HO_5, HO_9, HB⟩ := hrel
                                        cases gk with
                                        | zero => exact absurd HA.out (by simp [impl_Glob.l1])
                                        | succ k6 =>
                                          have H := HA.out
                                          clear HA
                                          simp only [impl_Glob.l1] at H
                                          by_cases c43 : x67_6 < (a1.size : Int)
                                          · rw [if_pos c43] at H
                                            have c43b0 : decide (x67_6 < (a1.size : Int)) = true := decide_eq_true c43
                                            clear c43
                                            by_cases c44 : x8_28 = true
                                            · subst c44
                                              have H1 : (if 0 ≤ (wrap64 (x67_6 + 1)) then (if (wrap64 (x67_6 + 1)) < (x5_2.length : Int) then (if rdOf false x5_2 (wrap64 (x67_6 + 1)) = true then (if (wrap64 (x67_6 + 1)) < (x9_6.length : Int) then (impl_Glob.l1 k6 a0 a1 x5_2 x6_23 x7_28 true (x9_6.set ((wrap64 (x67_6 + 1)) : Int).toNat true) (a1.size : Int) (wrap64 (x67_6 + 1))) else (none)) else (if 0 ≤ x67_6 then (if x67_6 < (x9_6.length : Int) then (if (wrap64 (x67_6 + 1)) < (x9_6.length : Int) then (impl_Glob.l1 k6 a0 a1 x5_2 x6_23 x7_28 true (x9_6.set ((wrap64 (x67_6 + 1)) : Int).toNat (rdOf false x9_6 x67_6)) (a1.size : Int) (wrap64 (x67_6 + 1))) else (none)) else (none)) else (none))) else (none)) else (none)) = some r := by rw [if_pos rfl] at H; exact H
                                              clear H
                                              have H := H1
                                              clear H1
                                              obtain ⟨ji45, hji45⟩ : ∃ j_ : Int, (wrap64 (x67_6 + 1)) = j_ := ⟨_, rfl⟩
                                              replace H : (if 0 ≤ (ji45) then (if (ji45) < (x5_2.length : Int) then (if rdOf false x5_2 (ji45) = true then (if (ji45) < (x9_6.length : Int) then (impl_Glob.l1 k6 a0 a1 x5_2 x6_23 x7_28 true (x9_6.set ((ji45) : Int).toNat true) (a1.size : Int) ji45) else (none)) else (if 0 ≤ x67_6 then (if x67_6 < (x9_6.length : Int) then (if (ji45) < (x9_6.length : Int) then (impl_Glob.l1 k6 a0 a1 x5_2 x6_23 x7_28 true (x9_6.set ((ji45) : Int).toNat (rdOf false x9_6 x67_6)) (a1.size : Int) ji45) else (none)) else (none)) else (none))) else (none)) else (none)) = some r := by first | (rw [hji45] at H; exact H) | (simp only [hji45] at H ⊢; exact H)
                                              have hji45w : (IntKind.i64.wrap (x67_6 + 1)) = ji45 := (i64_w _).trans hji45
                                              by_cases c46 : 0 ≤ (ji45)
                                              · rw [if_pos c46] at H
                                                have c46b0 : decide (0 ≤ (ji45)) = true := decide_eq_true c46
                                                clear c46
                                                by_cases c47 : (ji45) < (x5_2.length : Int)
                                                · rw [if_pos c47] at H
                                                  have c47b0 : decide ((ji45) < (x5_2.length : Int)) = true := decide_eq_true c47
                                                  clear c47
                                                  obtain ⟨bq48, hbq48⟩ : ∃ b_ : Bool, b_ = (rdOf false x5_2 (ji45)) := ⟨_, rfl⟩
                                                  replace H : (if bq48 = true then (if (ji45) < (x9_6.length : Int) then (impl_Glob.l1 k6 a0 a1 x5_2 x6_23 x7_28 true (x9_6.set ((ji45) : Int).toNat true) (a1.size : Int) ji45) else (none)) else (if 0 ≤ x67_6 then (if x67_6 < (x9_6.length : Int) then (if (ji45) < (x9_6.length : Int) then (impl_Glob.l1 k6 a0 a1 x5_2 x6_23 x7_28 true (x9_6.set ((ji45) : Int).toNat (rdOf false x9_6 x67_6)) (a1.size : Int) ji45) else (none)) else (none)) else (none))) = some r := by rw [← hbq48] at H; exact H
                                                  have Nbq48 := Aside0.mk hbq48
                                                  clear hbq48
                                                  by_cases c49 : bq48 = true
                                                  · subst c49
                                                    have H1 : (if (ji45) < (x9_6.length : Int) then (impl_Glob.l1 k6 a0 a1 x5_2 x6_23 x7_28 true (x9_6.set ((ji45) : Int).toNat true) (a1.size : Int) ji45) else (none)) = some r := by rw [if_pos rfl] at H; exact H
                                                    clear H
                                                    have H := H1
                                                    clear H1
                                                    by_cases c50 : (ji45) < (x9_6.length : Int)
                                                    · rw [if_pos c50] at H
                                                      have c50b0 : decide ((ji45) < (x9_6.length : Int)) = true := decide_eq_true c50
                                                      clear c50
                                                      obtain ⟨y368, hy368⟩ : ∃ y_ : List Bool, y_ = (x9_6.set ((ji45) : Int).toNat true) := ⟨_, rfl⟩
                                                      replace H : (impl_Glob.l1 k6 a0 a1 x5_2 x6_23 x7_28 true y368 (a1.size : Int) ji45) = some r := by first | (rw [hy368]; with_reducible exact H) | (have H2_ := (Option.bind_some _ _).symm.trans H; rw [hy368]; with_reducible exact H2_) | (have H2_ := (Option.bind_some _ _).symm.trans H; with_reducible exact H2_) | with_reducible exact H | (rw [hy368]; exact H) | exact H
                                                      have Ny368 := Aside0.mk hy368
                                                      clear hy368
                                                      have H' := Aside0.mk H
                                                      clear H
                                                      obtain ⟨Ao52, co52, eo52⟩ := Kd.R_slice HO_5.out
                                                      subst eo52
                                                      have p367 : 0 ≤ ((ji45) : Int) := of_decide_eq_true (by assumption)
                                                      have q367 : (ji45) < (x5_2.length : Int) := of_decide_eq_true (by assumption)
                                                      obtain ⟨ad367, e367, hx367_0⟩ := Kd.at_bool (Kd.R_reads' HO_5.out).2.2 (ji45) p367 q367
                                                      (try rw [← Nbq48.out] at hx367_0)
                                                      cases e367
                                                      replace p367 := eq_true p367
                                                      replace q367 := eq_true q367
                                                      have p51 : 0 ≤ ((ji45) : Int) := of_decide_eq_true (by assumption)
                                                      have q51 : ((ji45) : Int) < ((x9_6.length : Int) : Int) := of_decide_eq_true (by assumption)
                                                      obtain ⟨go51, co51, eo51, gb51, gl51, cl51, HG51⟩ := Kd.R_form HO_9.out (by omega)
                                                      (first | cases eo51 | (injection eo51 with ea_ en_ ec_; (first | subst ea_ | (injection ea_ with ea_; subst ea_)); subst ec_; clear en_))
                                                      have GB51 := Aside0.mk gb51
                                                      have GG51 := Aside0.mk HG51
                                                      clear gb51 gl51 HG51
                                                      obtain ⟨hx51_0, hf51_0⟩ := Kd.R_celln false HO_9.out ((ji45) : Int) p51 q51
                                                      replace p51 := eq_true p51
                                                      replace q51 := eq_true q51
                                                      have HP53 := Kd.R_putg HO_9.out ((ji45) : Int) true
                                                      go_wp2_with (first | ((with_reducible refine gate_store (t := 4) (p := 103) rfl ?_); refine store_event (t := 4) (p := 103) (v := ?vo_w54) (w1 := (wr.setCell ⟨go51, ((ji45) : Int).toNat, none⟩ (.bool true))) ?hg ?ho ?hn ?hr ?_; (case ho => rfl); (case hg => rfl); (case hn => rfl); (case hr => first | (go_simp; done) | (go_simp; rfl)); intro w54 hw; have hg : wr.grownBy w54 (some go51) := (by rw [hw]; exact HP53.2); have hp_ : Kd.R Kd.bool 4 w54 w.heap.size (fun k_ => some k_ ≠ (.slice (some ad367) x5_2.length co52 : Value).ownBlock) (.slice (some ⟨go51, 0, none⟩) x9_6.length co51) y368 := (by rw [hw, Ny368.out]; exact HP53.1); clear HP53; have n0_ := Aside0.mk (Kd.R_after (v := (.slice (some ⟨go51, 0, none⟩) x9_6.length co51)) (v1 := (.slice (some ⟨go51, 0, none⟩) x9_6.length co51)) (ok := (fun _ => True)) (by (with_reducible repeat (first | apply Kd.R_alloc | apply Kd.R_drewN | apply Kd.R_drew)); exact Kd.R_mono HO_5.out (fun _ hk => ⟨trivial, hk⟩)) hg (.inl rfl)); have n1_ := Aside0.mk (hp_); have n2_ := Aside0.mk ((by rw [hw]; exact below_set (HB.out) GB51.out : Below w.heap.size w w54)); clear HO_5; clear HO_9; clear HB; have HO_5 := n0_; have HO_9 := n1_; have HB := n2_; clear n0_ n1_ n2_; clear hg hw hp_))
                                                      go_roundg k6
                                                      case measure => have := HJ2.out; have := HK2.out; have := HJ17.out; have := HJ23.out; have := HJ28.out; have := HK6.out; omega
                                                      case rel => exact ⟨(y368), (ji45), (by first | rfl | (simp; done) | (simp only [← hji45] <;> (first | rfl | simp)) | (simp [*]; done)), H', ⟨by have := HJ2.out; have := HK2.out; have := HJ17.out; have := HJ23.out; have := HJ28.out; have := HK6.out; omega⟩, ⟨by (with_reducible repeat (first | apply Kd.R_alloc | apply Kd.R_drewN | apply Kd.R_drew)); exact Kd.R_mono HO_5.out (fun _ hk => hk.2)⟩, ⟨by (with_reducible repeat (first | apply Kd.R_alloc | apply Kd.R_drewN | apply Kd.R_drew)); first | exact HO_9.out | exact Kd.R_mono HO_9.out (fun k_ h_ q_ => h_ (q_.trans (ownBlock_len _ _ _ _)))⟩, ⟨by repeat (first | (with_reducible first | exact HB.out | apply below_alloc | apply pw_below_drewN | apply below_drew1) | exact HB.out)⟩⟩
                                                    · rw [if_neg c50] at H
                                                      exact absurd H (by simp)
                                                  · replace c49 := Bool.eq_false_iff.mpr c49
                                                    subst c49
                                                    have H1 : (if 0 ≤ x67_6 then (if x67_6 < (x9_6.length : Int) then (if (ji45) < (x9_6.length : Int) then (impl_Glob.l1 k6 a0 a1 x5_2 x6_23 x7_28 true (x9_6.set ((ji45) : Int).toNat (rdOf false x9_6 x67_6)) (a1.size : Int) ji45) else (none)) else (none)) else (none)) = some r := by rw [if_neg (show ¬ (false = true) by decide)] at H; exact H
                                                    clear H
                                                    have H := H1
                                                    clear H1
                                                    by_cases c55 : 0 ≤ x67_6
                                                    · rw [if_pos c55] at H
                                                      have c55b0 : decide (0 ≤ x67_6) = true := decide_eq_true c55
                                                      clear c55
                                                      by_cases c56 : x67_6 < (x9_6.length : Int)
                                                      · rw [if_pos c56] at H
                                                        have c56b0 : decide (x67_6 < (x9_6.length : Int)) = true := decide_eq_true c56
                                                        clear c56
                                                        by_cases c57 : (ji45) < (x9_6.length : Int)
                                                        · rw [if_pos c57] at H
                                                          have c57b0 : decide ((ji45) < (x9_6.length : Int)) = true := decide_eq_true c57
                                                          clear c57
                                                          obtain ⟨y370, hy370⟩ : ∃ y_ : List Bool, y_ = (x9_6.set ((ji45) : Int).toNat (rdOf false x9_6 x67_6)) := ⟨_, rfl⟩
                                                          replace H : (impl_Glob.l1 k6 a0 a1 x5_2 x6_23 x7_28 true y370 (a1.size : Int) ji45) = some r := by first | (rw [hy370]; with_reducible exact H) | (have H2_ := (Option.bind_some _ _).symm.trans H; rw [hy370]; with_reducible exact H2_) | (have H2_ := (Option.bind_some _ _).symm.trans H; with_reducible exact H2_) | with_reducible exact H | (rw [hy370]; exact H) | exact H
                                                          have Ny370 := Aside0.mk hy370
                                                          clear hy370
                                                          have H' := Aside0.mk H
                                                          clear H
                                                          obtain ⟨Ao59, co59, eo59⟩ := Kd.R_slice HO_5.out
                                                          subst eo59
                                                          have p367 : 0 ≤ ((ji45) : Int) := of_decide_eq_true (by assumption)
                                                          have q367 : (ji45) < (x5_2.length : Int) := of_decide_eq_true (by assumption)
                                                          obtain ⟨ad367, e367, hx367_0⟩ := Kd.at_bool (Kd.R_reads' HO_5.out).2.2 (ji45) p367 q367
                                                          (try rw [← Nbq48.out] at hx367_0)
                                                          cases e367
                                                          replace p367 := eq_true p367
                                                          replace q367 := eq_true q367
                                                          obtain ⟨Ao60, co60, eo60⟩ := Kd.R_slice HO_9.out
                                                          subst eo60
                                                          have p369 : 0 ≤ (x67_6 : Int) := of_decide_eq_true (by assumption)
                                                          have q369 : x67_6 < (x9_6.length : Int) := of_decide_eq_true (by assumption)
                                                          obtain ⟨ad369, e369, hx369_0⟩ := Kd.at_bool (Kd.R_reads' HO_9.out).2.2 x67_6 p369 q369
                                                          (try rw [← Nbq48.out] at hx369_0)
                                                          cases e369
                                                          replace p369 := eq_true p369
                                                          replace q369 := eq_true q369
                                                          have p58 : 0 ≤ ((ji45) : Int) := of_decide_eq_true (by assumption)
                                                          have q58 : ((ji45) : Int) < ((x9_6.length : Int) : Int) := of_decide_eq_true (by assumption)
                                                          obtain ⟨go58, co58, eo58, gb58, gl58, cl58, HG58⟩ := Kd.R_form HO_9.out (by omega)
                                                          (first | cases eo58 | (injection eo58 with ea_ en_ ec_; (first | subst ea_ | (injection ea_ with ea_; subst ea_)); subst ec_; clear en_))
                                                          have GB58 := Aside0.mk gb58
                                                          have GG58 := Aside0.mk HG58
                                                          clear gb58 gl58 HG58
                                                          (first | simp only [add_plain] at hx369_0 | skip)
                                                          obtain ⟨hx58_0, hf58_0⟩ := Kd.R_celln false HO_9.out ((ji45) : Int) p58 q58
                                                          replace p58 := eq_true p58
                                                          replace q58 := eq_true q58
                                                          have HP61 := Kd.R_putg HO_9.out ((ji45) : Int) (rdOf false x9_6 x67_6)
                                                          go_wp2_with (first | ((with_reducible refine gate_store (t := 4) (p := 103) rfl ?_); refine store_event (t := 4) (p := 103) (v := ?vo_w62) (w1 := (wr.setCell ⟨go58, ((ji45) : Int).toNat, none⟩ (.bool (rdOf false x9_6 x67_6)))) ?hg ?ho ?hn ?hr ?_; (case ho => rfl); (case hg => rfl); (case hn => rfl); (case hr => first | (go_simp; done) | (go_simp; rfl)); intro w62 hw; have hg : wr.grownBy w62 (some go58) := (by rw [hw]; exact HP61.2); have hp_ : Kd.R Kd.bool 4 w62 w.heap.size (fun k_ => some k_ ≠ (.slice (some ad367) x5_2.length co59 : Value).ownBlock) (.slice (some ⟨go58, 0, none⟩) x9_6.length co60) y370 := (by rw [hw, Ny370.out]; exact HP61.1); clear HP61; have n0_ := Aside0.mk (Kd.R_after (v := (.slice (some ⟨go58, 0, none⟩) x9_6.length co60)) (v1 := (.slice (some ⟨go58, 0, none⟩) x9_6.length co60)) (ok := (fun _ => True)) (by (with_reducible repeat (first | apply Kd.R_alloc | apply Kd.R_drewN | apply Kd.R_drew)); exact Kd.R_mono HO_5.out (fun _ hk => ⟨trivial, hk⟩)) hg (.inl rfl)); have n1_ := Aside0.mk (hp_); have n2_ := Aside0.mk ((by rw [hw]; exact below_set (HB.out) GB58.out : Below w.heap.size w w62)); clear HO_5; clear HO_9; clear HB; have HO_5 := n0_; have HO_9 := n1_; have HB := n2_; clear n0_ n1_ n2_; clear hg hw hp_))
                                                          go_roundg k6
                                                          case measure => have := HJ2.out; have := HK2.out; have := HJ17.out; have := HJ23.out; have := HJ28.out; have := HK6.out; omega
                                                          case rel => exact ⟨(y370), (ji45), (by first | rfl | (simp; done) | (simp only [← hji45] <;> (first | rfl | simp)) | (simp [*]; done)), H', ⟨by have := HJ2.out; have := HK2.out; have := HJ17.out; have := HJ23.out; have := HJ28.out; have := HK6.out; omega⟩, ⟨by (with_reducible repeat (first | apply Kd.R_alloc | apply Kd.R_drewN | apply Kd.R_drew)); exact Kd.R_mono HO_5.out (fun _ hk => hk.2)⟩, ⟨by (with_reducible repeat (first | apply Kd.R_alloc | apply Kd.R_drewN | apply Kd.R_drew)); first | exact HO_9.out | exact Kd.R_mono HO_9.out (fun k_ h_ q_ => h_ (q_.trans (ownBlock_len _ _ _ _)))⟩, ⟨by repeat (first | (with_reducible first | exact HB.out | apply below_alloc | apply pw_below_drewN | apply below_drew1) | exact HB.out)⟩⟩
                                                        · rw [if_neg c57] at H
                                                          exact absurd H (by simp)
                                                      · rw [if_neg c56] at H
                                                        exact absurd H (by simp)
                                                    · rw [if_neg c55] at H
                                                      exact absurd H (by simp)
                                                · rw [if_neg c47] at H
                                                  exact absurd H (by simp)
                                              · rw [if_neg c46] at H
                                                exact absurd H (by simp)
                                            · replace c44 := Bool.eq_false_iff.mpr c44
                                              subst c44
                                              have H1 : (if x7_28 = true then (if 0 ≤ (wrap64 (x67_6 + 1)) then (if (wrap64 (x67_6 + 1)) < (x5_2.length : Int) then (if rdOf false x5_2 (wrap64 (x67_6 + 1)) = true then (if (wrap64 (x67_6 + 1)) < (x9_6.length : Int) then (impl_Glob.l1 k6 a0 a1 x5_2 x6_23 x7_28 false (x9_6.set ((wrap64 (x67_6 + 1)) : Int).toNat true) (a1.size : Int) (wrap64 (x67_6 + 1))) else (none)) else (if 0 ≤ x67_6 then (if x67_6 < (x9_6.length : Int) then (if rdOf false x9_6 x67_6 = true then (if x67_6 < (a1.size : Int) then (if (wrap64 (x67_6 + 1)) < (x9_6.length : Int) then (impl_Glob.l1 k6 a0 a1 x5_2 x6_23 x7_28 false (x9_6.set ((wrap64 (x67_6 + 1)) : Int).toNat ((bt a1 x67_6) != 47)) (a1.size : Int) (wrap64 (x67_6 + 1))) else (none)) else (none)) else (if (wrap64 (x67_6 + 1)) < (x9_6.length : Int) then (impl_Glob.l1 k6 a0 a1 x5_2 x6_23 x7_28 false (x9_6.set ((wrap64 (x67_6 + 1)) : Int).toNat false) (a1.size : Int) (wrap64 (x67_6 + 1))) else (none))) else (none)) else (none))) else (none)) else (none)) else (if 0 ≤ x6_23 then (if x6_23 < (a0.size : Int) then (if (bt a0 x6_23) = 63 then (if 0 ≤ x67_6 then (if x67_6 < (x5_2.length : Int) then (if rdOf false x5_2 x67_6 = true then (if x67_6 < (a1.size : Int) then (if 0 ≤ (wrap64 (x67_6 + 1)) then (if (wrap64 (x67_6 + 1)) < (x9_6.length : Int) then (impl_Glob.l1 k6 a0 a1 x5_2 x6_23 x7_28 false (x9_6.set ((wrap64 (x67_6 + 1)) : Int).toNat ((bt a1 x67_6) != 47)) (a1.size : Int) (wrap64 (x67_6 + 1))) else (none)) else (none)) else (none)) else (if 0 ≤ (wrap64 (x67_6 + 1)) then (if (wrap64 (x67_6 + 1)) < (x9_6.length : Int) then (impl_Glob.l1 k6 a0 a1 x5_2 x6_23 x7_28 false (x9_6.set ((wrap64 (x67_6 + 1)) : Int).toNat false) (a1.size : Int) (wrap64 (x67_6 + 1))) else (none)) else (none))) else (none)) else (none)) else (if 0 ≤ x67_6 then (if x67_6 < (x5_2.length : Int) then (if rdOf false x5_2 x67_6 = true then (if x67_6 < (a1.size : Int) then (if 0 ≤ (wrap64 (x67_6 + 1)) then (if (wrap64 (x67_6 + 1)) < (x9_6.length : Int) then (impl_Glob.l1 k6 a0 a1 x5_2 x6_23 x7_28 false (x9_6.set ((wrap64 (x67_6 + 1)) : Int).toNat ((bt a1 x67_6) == (bt a0 x6_23))) (a1.size : Int) (wrap64 (x67_6 + 1))) else (none)) else (none)) else (none)) else (if 0 ≤ (wrap64 (x67_6 + 1)) then (if (wrap64 (x67_6 + 1)) < (x9_6.length : Int) then (impl_Glob.l1 k6 a0 a1 x5_2 x6_23 x7_28 false (x9_6.set ((wrap64 (x67_6 + 1)) : Int).toNat false) (a1.size : Int) (wrap64 (x67_6 + 1))) else (none)) else (none))) else (none)) else (none))) else (none)) else (none))) = some r := by rw [if_neg (show ¬ (false = true) by decide)] at H; exact H
                                              clear H
                                              have H := H1
                                              clear H1
                                              by_cases c63 : x7_28 = true
                                              · subst c63
                                                have H1 : (if 0 ≤ (wrap64 (x67_6 + 1)) then (if (wrap64 (x67_6 + 1)) < (x5_2.length : Int) then (if rdOf false x5_2 (wrap64 (x67_6 + 1)) = true then (if (wrap64 (x67_6 + 1)) < (x9_6.length : Int) then (impl_Glob.l1 k6 a0 a1 x5_2 x6_23 true false (x9_6.set ((wrap64 (x67_6 + 1)) : Int).toNat true) (a1.size : Int) (wrap64 (x67_6 + 1))) else (none)) else (if 0 ≤ x67_6 then (if x67_6 < (x9_6.length : Int) then (if rdOf false x9_6 x67_6 = true then (if x67_6 < (a1.size : Int) then (if (wrap64 (x67_6 + 1)) < (x9_6.length : Int) then (impl_Glob.l1 k6 a0 a1 x5_2 x6_23 true false (x9_6.set ((wrap64 (x67_6 + 1)) : Int).toNat ((bt a1 x67_6) != 47)) (a1.size : Int) (wrap64 (x67_6 + 1))) else (none)) else (none)) else (if (wrap64 (x67_6 + 1)) < (x9_6.length : Int) then (impl_Glob.l1 k6 a0 a1 x5_2 x6_23 true false (x9_6.set ((wrap64 (x67_6 + 1)) : Int).toNat false) (a1.size : Int) (wrap64 (x67_6 + 1))) else (none))) else (none)) else (none))) else (none)) else (none)) = some r := by rw [if_pos rfl] at H; exact H
                                                clear H
                                                have H := H1
                                                clear H1
                                                obtain ⟨ji64, hji64⟩ : ∃ j_ : Int, (wrap64 (x67_6 + 1)) = j_ := ⟨_, rfl⟩
                                                replace H : (if 0 ≤ (ji64) then (if (ji64) < (x5_2.length : Int) then (if rdOf false x5_2 (ji64) = true then (if (ji64) < (x9_6.length : Int) then (impl_Glob.l1 k6 a0 a1 x5_2 x6_23 true false (x9_6.set ((ji64) : Int).toNat true) (a1.size : Int) ji64) else (none)) else (if 0 ≤ x67_6 then (if x67_6 < (x9_6.length : Int) then (if rdOf false x9_6 x67_6 = true then (if x67_6 < (a1.size : Int) then (if (ji64) < (x9_6.length : Int) then (impl_Glob.l1 k6 a0 a1 x5_2 x6_23 true false (x9_6.set ((ji64) : Int).toNat ((bt a1 x67_6) != 47)) (a1.size : Int) ji64) else (none)) else (none)) else (if (ji64) < (x9_6.length : Int) then (impl_Glob.l1 k6 a0 a1 x5_2 x6_23 true false (x9_6.set ((ji64) : Int).toNat false) (a1.size : Int) ji64) else (none))) else (none)) else (none))) else (none)) else (none)) = some r := by first | (rw [hji64] at H; exact H) | (simp only [hji64] at H ⊢; exact H)
                                                have hji64w : (IntKind.i64.wrap (x67_6 + 1)) = ji64 := (i64_w _).trans hji64
                                                by_cases c65 : 0 ≤ (ji64)
                                                · rw [if_pos c65] at H
                                                  have c65b0 : decide (0 ≤ (ji64)) = true := decide_eq_true c65
                                                  clear c65
                                                  by_cases c66 : (ji64) < (x5_2.length : Int)
                                                  · rw [if_pos c66] at H
                                                    have c66b0 : decide ((ji64) < (x5_2.length : Int)) = true := decide_eq_true c66
                                                    clear c66
                                                    obtain ⟨bq67, hbq67⟩ : ∃ b_ : Bool, b_ = (rdOf false x5_2 (ji64)) := ⟨_, rfl⟩
                                                    replace H : (if bq67 = true then (if (ji64) < (x9_6.length : Int) then (impl_Glob.l1 k6 a0 a1 x5_2 x6_23 true false (x9_6.set ((ji64) : Int).toNat true) (a1.size : Int) ji64) else (none)) else (if 0 ≤ x67_6 then (if x67_6 < (x9_6.length : Int) then (if rdOf false x9_6 x67_6 = true then (if x67_6 < (a1.size : Int) then (if (ji64) < (x9_6.length : Int) then (impl_Glob.l1 k6 a0 a1 x5_2 x6_23 true false (x9_6.set ((ji64) : Int).toNat ((bt a1 x67_6) != 47)) (a1.size : Int) ji64) else (none)) else (none)) else (if (ji64) < (x9_6.length : Int) then (impl_Glob.l1 k6 a0 a1 x5_2 x6_23 true false (x9_6.set ((ji64) : Int).toNat false) (a1.size : Int) ji64) else (none))) else (none)) else (none))) = some r := by rw [← hbq67] at H; exact H
                                                    have Nbq67 := Aside0.mk hbq67
                                                    clear hbq67
                                                    by_cases c68 : bq67 = true
                                                    · subst c68
                                                      have H1 : (if (ji64) < (x9_6.length : Int) then (impl_Glob.l1 k6 a0 a1 x5_2 x6_23 true false (x9_6.set ((ji64) : Int).toNat true) (a1.size : Int) ji64) else (none)) = some r := by rw [if_pos rfl] at H; exact H
                                                      clear H
                                                      have H := H1
                                                      clear H1
                                                      by_cases c69 : (ji64) < (x9_6.length : Int)
                                                      · rw [if_pos c69] at H
                                                        have c69b0 : decide ((ji64) < (x9_6.length : Int)) = true := decide_eq_true c69
                                                        clear c69
                                                        obtain ⟨y372, hy372⟩ : ∃ y_ : List Bool, y_ = (x9_6.set ((ji64) : Int).toNat true) := ⟨_, rfl⟩
                                                        replace H : (impl_Glob.l1 k6 a0 a1 x5_2 x6_23 true false y372 (a1.size : Int) ji64) = some r := by first | (rw [hy372]; with_reducible exact H) | (have H2_ := (Option.bind_some _ _).symm.trans H; rw [hy372]; with_reducible exact H2_) | (have H2_ := (Option.bind_some _ _).symm.trans H; with_reducible exact H2_) | with_reducible exact H | (rw [hy372]; exact H) | exact H
                                                        have Ny372 := Aside0.mk hy372
                                                        clear hy372
                                                        have H' := Aside0.mk H
                                                        clear H
                                                        obtain ⟨Ao71, co71, eo71⟩ := Kd.R_slice HO_5.out
                                                        subst eo71
                                                        have p371 : 0 ≤ ((ji64) : Int) := of_decide_eq_true (by assumption)
                                                        have q371 : (ji64) < (x5_2.length : Int) := of_decide_eq_true (by assumption)
                                                        obtain ⟨ad371, e371, hx371_0⟩ := Kd.at_bool (Kd.R_reads' HO_5.out).2.2 (ji64) p371 q371
                                                        (try rw [← Nbq67.out] at hx371_0)
                                                        cases e371
                                                        replace p371 := eq_true p371
                                                        replace q371 := eq_true q371
                                                        have p70 : 0 ≤ ((ji64) : Int) := of_decide_eq_true (by assumption)
                                                        have q70 : ((ji64) : Int) < ((x9_6.length : Int) : Int) := of_decide_eq_true (by assumption)
                                                        obtain ⟨go70, co70, eo70, gb70, gl70, cl70, HG70⟩ := Kd.R_form HO_9.out (by omega)
                                                        (first | cases eo70 | (injection eo70 with ea_ en_ ec_; (first | subst ea_ | (injection ea_ with ea_; subst ea_)); subst ec_; clear en_))
                                                        have GB70 := Aside0.mk gb70
                                                        have GG70 := Aside0.mk HG70
                                                        clear gb70 gl70 HG70
                                                        obtain ⟨hx70_0, hf70_0⟩ := Kd.R_celln false HO_9.out ((ji64) : Int) p70 q70
                                                        replace p70 := eq_true p70
                                                        replace q70 := eq_true q70
                                                        have HP72 := Kd.R_putg HO_9.out ((ji64) : Int) true
                                                        go_wp2_with (first | ((with_reducible refine gate_store (t := 4) (p := 126) rfl ?_); refine store_event (t := 4) (p := 126) (v := ?vo_w73) (w1 := (wr.setCell ⟨go70, ((ji64) : Int).toNat, none⟩ (.bool true))) ?hg ?ho ?hn ?hr ?_; (case ho => rfl); (case hg => rfl); (case hn => rfl); (case hr => first | (go_simp; done) | (go_simp; rfl)); intro w73 hw; have hg : wr.grownBy w73 (some go70) := (by rw [hw]; exact HP72.2); have hp_ : Kd.R Kd.bool 4 w73 w.heap.size (fun k_ => some k_ ≠ (.slice (some ad371) x5_2.length co71 : Value).ownBlock) (.slice (some ⟨go70, 0, none⟩) x9_6.length co70) y372 := (by rw [hw, Ny372.out]; exact HP72.1); clear HP72; have n0_ := Aside0.mk (Kd.R_after (v := (.slice (some ⟨go70, 0, none⟩) x9_6.length co70)) (v1 := (.slice (some ⟨go70, 0, none⟩) x9_6.length co70)) (ok := (fun _ => True)) (by (with_reducible repeat (first | apply Kd.R_alloc | apply Kd.R_drewN | apply Kd.R_drew)); exact Kd.R_mono HO_5.out (fun _ hk => ⟨trivial, hk⟩)) hg (.inl rfl)); have n1_ := Aside0.mk (hp_); have n2_ := Aside0.mk ((by rw [hw]; exact below_set (HB.out) GB70.out : Below w.heap.size w w73)); clear HO_5; clear HO_9; clear HB; have HO_5 := n0_; have HO_9 := n1_; have HB := n2_; clear n0_ n1_ n2_; clear hg hw hp_))
                                                        go_roundg k6
                                                        case measure => have := HJ2.out; have := HK2.out; have := HJ17.out; have := HJ23.out; have := HJ28.out; have := HK6.out; omega
                                                        case rel => exact ⟨(y372), (ji64), (by first | rfl | (simp; done) | (simp only [← hji64] <;> (first | rfl | simp)) | (simp [*]; done)), H', ⟨by have := HJ2.out; have := HK2.out; have := HJ17.out; have := HJ23.out; have := HJ28.out; have := HK6.out; omega⟩, ⟨by (with_reducible repeat (first | apply Kd.R_alloc | apply Kd.R_drewN | apply Kd.R_drew)); exact Kd.R_mono HO_5.out (fun _ hk => hk.2)⟩, ⟨by (with_reducible repeat (first | apply Kd.R_alloc | apply Kd.R_drewN | apply Kd.R_drew)); first | exact HO_9.out | exact Kd.R_mono HO_9.out (fun k_ h_ q_ => h_ (q_.trans (ownBlock_len _ _ _ _)))⟩, ⟨by repeat (first | (with_reducible first | exact HB.out | apply below_alloc | apply pw_below_drewN | apply below_drew1) | exact HB.out)⟩⟩
                                                      · rw [if_neg c69] at H
                                                        exact absurd H (by simp)
                                                    · replace c68 := Bool.eq_false_iff.mpr c68
                                                      subst c68
                                                      have H1 : (if 0 ≤ x67_6 then (if x67_6 < (x9_6.length : Int) then (if rdOf false x9_6 x67_6 = true then (if x67_6 < (a1.size : Int) then (if (ji64) < (x9_6.length : Int) then (impl_Glob.l1 k6 a0 a1 x5_2 x6_23 true false (x9_6.set ((ji64) : Int).toNat ((bt a1 x67_6) != 47)) (a1.size : Int) ji64) else (none)) else (none)) else (if (ji64) < (x9_6.length : Int) then (impl_Glob.l1 k6 a0 a1 x5_2 x6_23 true false (x9_6.set ((ji64) : Int).toNat false) (a1.size : Int) ji64) else (none))) else (none)) else (none)) = some r := by rw [if_neg (show ¬ (false = true) by decide)] at H; exact H
                                                      clear H
                                                      have H := H1
                                                      clear H1
                                                      by_cases c74 : 0 ≤ x67_6
                                                      · rw [if_pos c74] at H
                                                        have c74b0 : decide (0 ≤ x67_6) = true := decide_eq_true c74
                                                        clear c74
                                                        by_cases c75 : x67_6 < (x9_6.length : Int)
                                                        · rw [if_pos c75] at H
                                                          have c75b0 : decide (x67_6 < (x9_6.length : Int)) = true := decide_eq_true c75
                                                          clear c75
                                                          obtain ⟨bq76, hbq76⟩ : ∃ b_ : Bool, b_ = (rdOf false x9_6 x67_6) := ⟨_, rfl⟩
                                                          replace H : (if bq76 = true then (if x67_6 < (a1.size : Int) then (if (ji64) < (x9_6.length : Int) then (impl_Glob.l1 k6 a0 a1 x5_2 x6_23 true false (x9_6.set ((ji64) : Int).toNat ((bt a1 x67_6) != 47)) (a1.size : Int) ji64) else (none)) else (none)) else (if (ji64) < (x9_6.length : Int) then (impl_Glob.l1 k6 a0 a1 x5_2 x6_23 true false (x9_6.set ((ji64) : Int).toNat false) (a1.size : Int) ji64) else (none))) = some r := by rw [← hbq76] at H; exact H
                                                          have Nbq76 := Aside0.mk hbq76
                                                          clear hbq76
                                                          by_cases c77 : bq76 = true
                                                          · subst c77
                                                            have H1 : (if x67_6 < (a1.size : Int) then (if (ji64) < (x9_6.length : Int) then (impl_Glob.l1 k6 a0 a1 x5_2 x6_23 true false (x9_6.set ((ji64) : Int).toNat ((bt a1 x67_6) != 47)) (a1.size : Int) ji64) else (none)) else (none)) = some r := by rw [if_pos rfl] at H; exact H
                                                            clear H
                                                            have H := H1
                                                            clear H1
                                                            by_cases c78 : x67_6 < (a1.size : Int)
                                                            · rw [if_pos c78] at H
                                                              have c78b0 : decide (x67_6 < (a1.size : Int)) = true := decide_eq_true c78
                                                              clear c78
                                                              by_cases c80 : (ji64) < (x9_6.length : Int)
                                                              · rw [if_pos c80] at H
                                                                have c80b0 : decide ((ji64) < (x9_6.length : Int)) = true := decide_eq_true c80
                                                                clear c80
                                                                obtain ⟨y374, hy374⟩ : ∃ y_ : List Bool, y_ = (x9_6.set ((ji64) : Int).toNat ((bt a1 x67_6) != 47)) := ⟨_, rfl⟩
                                                                replace H : (impl_Glob.l1 k6 a0 a1 x5_2 x6_23 true false y374 (a1.size : Int) ji64) = some r := by first | (rw [hy374]; with_reducible exact H) | (have H2_ := (Option.bind_some _ _).symm.trans H; rw [hy374]; with_reducible exact H2_) | (have H2_ := (Option.bind_some _ _).symm.trans H; with_reducible exact H2_) | with_reducible exact H | (rw [hy374]; exact H) | exact H
                                                                have Ny374 := Aside0.mk hy374
                                                                clear hy374
                                                                have H' := Aside0.mk H
                                                                clear H
                                                                obtain ⟨Ao82, co82, eo82⟩ := Kd.R_slice HO_5.out
                                                                subst eo82
                                                                have p371 : 0 ≤ ((ji64) : Int) := of_decide_eq_true (by assumption)
                                                                have q371 : (ji64) < (x5_2.length : Int) := of_decide_eq_true (by assumption)
                                                                obtain ⟨ad371, e371, hx371_0⟩ := Kd.at_bool (Kd.R_reads' HO_5.out).2.2 (ji64) p371 q371
                                                                (try rw [← Nbq67.out] at hx371_0)
                                                                (try rw [← Nbq76.out] at hx371_0)
                                                                cases e371
                                                                replace p371 := eq_true p371
                                                                replace q371 := eq_true q371
                                                                obtain ⟨Ao83, co83, eo83⟩ := Kd.R_slice HO_9.out
                                                                subst eo83
                                                                have p373 : 0 ≤ (x67_6 : Int) := of_decide_eq_true (by assumption)
                                                                have q373 : x67_6 < (x9_6.length : Int) := of_decide_eq_true (by assumption)
                                                                obtain ⟨ad373, e373, hx373_0⟩ := Kd.at_bool (Kd.R_reads' HO_9.out).2.2 x67_6 p373 q373
                                                                (try rw [← Nbq67.out] at hx373_0)
                                                                (try rw [← Nbq76.out] at hx373_0)
                                                                cases e373
                                                                replace p373 := eq_true p373
                                                                replace q373 := eq_true q373
                                                                have p79 : 0 ≤ (x67_6 : Int) := of_decide_eq_true (by assumption)
                                                                have q79 : x67_6 < (a1.size : Int) := of_decide_eq_true (by assumption)
                                                                have hx79 := bt_at a1 x67_6
                                                                replace p79 := eq_true p79
                                                                replace q79 := eq_true q79
                                                                have p81 : 0 ≤ ((ji64) : Int) := of_decide_eq_true (by assumption)
                                                                have q81 : ((ji64) : Int) < ((x9_6.length : Int) : Int) := of_decide_eq_true (by assumption)
                                                                obtain ⟨go81, co81, eo81, gb81, gl81, cl81, HG81⟩ := Kd.R_form HO_9.out (by omega)
                                                                (first | cases eo81 | (injection eo81 with ea_ en_ ec_; (first | subst ea_ | (injection ea_ with ea_; subst ea_)); subst ec_; clear en_))
                                                                have GB81 := Aside0.mk gb81
                                                                have GG81 := Aside0.mk HG81
                                                                clear gb81 gl81 HG81
                                                                (first | simp only [add_plain] at hx373_0 | skip)
                                                                obtain ⟨hx81_0, hf81_0⟩ := Kd.R_celln false HO_9.out ((ji64) : Int) p81 q81
                                                                replace p81 := eq_true p81
                                                                replace q81 := eq_true q81
                                                                have HP84 := Kd.R_putg HO_9.out ((ji64) : Int) ((bt a1 x67_6) != 47)
                                                                go_wp2_with (first | ((with_reducible refine gate_store (t := 4) (p := 126) rfl ?_); refine store_event (t := 4) (p := 126) (v := ?vo_w85) (w1 := (wr.setCell ⟨go81, ((ji64) : Int).toNat, none⟩ (.bool ((bt a1 x67_6) != 47)))) ?hg ?ho ?hn ?hr ?_; (case ho => rfl); (case hg => rfl); (case hn => rfl); (case hr => first | (go_simp; done) | (go_simp; rfl)); intro w85 hw; have hg : wr.grownBy w85 (some go81) := (by rw [hw]; exact HP84.2); have hp_ : Kd.R Kd.bool 4 w85 w.heap.size (fun k_ => some k_ ≠ (.slice (some ad371) x5_2.length co82 : Value).ownBlock) (.slice (some ⟨go81, 0, none⟩) x9_6.length co83) y374 := (by rw [hw, Ny374.out]; exact HP84.1); clear HP84; have n0_ := Aside0.mk (Kd.R_after (v := (.slice (some ⟨go81, 0, none⟩) x9_6.length co83)) (v1 := (.slice (some ⟨go81, 0, none⟩) x9_6.length co83)) (ok := (fun _ => True)) (by (with_reducible repeat (first | apply Kd.R_alloc | apply Kd.R_drewN | apply Kd.R_drew)); exact Kd.R_mono HO_5.out (fun _ hk => ⟨trivial, hk⟩)) hg (.inl rfl)); have n1_ := Aside0.mk (hp_); have n2_ := Aside0.mk ((by rw [hw]; exact below_set (HB.out) GB81.out : Below w.heap.size w w85)); clear HO_5; clear HO_9; clear HB; have HO_5 := n0_; have HO_9 := n1_; have HB := n2_; clear n0_ n1_ n2_; clear hg hw hp_))
                                                                go_roundg k6
                                                                case measure => have := HJ2.out; have := HK2.out; have := HJ17.out; have := HJ23.out; have := HJ28.out; have := HK6.out; omega
                                                                case rel => exact ⟨(y374), (ji64), (by first | rfl | (simp; done) | (simp only [← hji64] <;> (first | rfl | simp)) | (simp [*]; done)), H', ⟨by have := HJ2.out; have := HK2.out; have := HJ17.out; have := HJ23.out; have := HJ28.out; have := HK6.out; omega⟩, ⟨by (with_reducible repeat (first | apply Kd.R_alloc | apply Kd.R_drewN | apply Kd.R_drew)); exact Kd.R_mono HO_5.out (fun _ hk => hk.2)⟩, ⟨by (with_reducible repeat (first | apply Kd.R_alloc | apply Kd.R_drewN | apply Kd.R_drew)); first | exact HO_9.out | exact Kd.R_mono HO_9.out (fun k_ h_ q_ => h_ (q_.trans (ownBlock_len _ _ _ _)))⟩, ⟨by repeat (first | (with_reducible first | exact HB.out | apply below_alloc | apply pw_below_drewN | apply below_drew1) | exact HB.out)⟩⟩
                                                              · rw [if_neg c80] at H
                                                                exact absurd H (by simp)
                                                            · rw [if_neg c78] at H
                                                              exact absurd H (by simp)
                                                          · replace c77 := Bool.eq_false_iff.mpr c77
                                                            subst c77
                                                            have H1 : (if (ji64) < (x9_6.length : Int) then (impl_Glob.l1 k6 a0 a1 x5_2 x6_23 true false (x9_6.set ((ji64) : Int).toNat false) (a1.size : Int) ji64) else (none)) = some r := by rw [if_neg (show ¬ (false = true) by decide)] at H; exact H
                                                            clear H
                                                            have H := H1
                                                            clear H1
                                                            by_cases c86 : (ji64) < (x9_6.length : Int)
                                                            · rw [if_pos c86] at H
                                                              have c86b0 : decide ((ji64) < (x9_6.length : Int)) = true := decide_eq_true c86
                                                              clear c86
                                                              obtain ⟨y375, hy375⟩ : ∃ y_ : List Bool, y_ = (x9_6.set ((ji64) : Int).toNat false) := ⟨_, rfl⟩
                                                              replace H : (impl_Glob.l1 k6 a0 a1 x5_2 x6_23 true false y375 (a1.size : Int) ji64) = some r := by first | (rw [hy375]; with_reducible exact H) | (have H2_ := (Option.bind_some _ _).symm.trans H; rw [hy375]; with_reducible exact H2_) | (have H2_ := (Option.bind_some _ _).symm.trans H; with_reducible exact H2_) | with_reducible exact H | (rw [hy375]; exact H) | exact H
                                                              have Ny375 := Aside0.mk hy375
                                                              clear hy375
                                                              have H' := Aside0.mk H
                                                              clear H
                                                              obtain ⟨Ao88, co88, eo88⟩ := Kd.R_slice HO_5.out
                                                              subst eo88
                                                              have p371 : 0 ≤ ((ji64) : Int) := of_decide_eq_true (by assumption)
                                                              have q371 : (ji64) < (x5_2.length : Int) := of_decide_eq_true (by assumption)
                                                              obtain ⟨ad371, e371, hx371_0⟩ := Kd.at_bool (Kd.R_reads' HO_5.out).2.2 (ji64) p371 q371
                                                              (try rw [← Nbq67.out] at hx371_0)
                                                              (try rw [← Nbq76.out] at hx371_0)
                                                              cases e371
                                                              replace p371 := eq_true p371
                                                              replace q371 := eq_true q371
                                                              obtain ⟨Ao89, co89, eo89⟩ := Kd.R_slice HO_9.out
                                                              subst eo89
                                                              have p373 : 0 ≤ (x67_6 : Int) := of_decide_eq_true (by assumption)
                                                              have q373 : x67_6 < (x9_6.length : Int) := of_decide_eq_true (by assumption)
                                                              obtain ⟨ad373, e373, hx373_0⟩ := Kd.at_bool (Kd.R_reads' HO_9.out).2.2 x67_6 p373 q373
                                                              (try rw [← Nbq67.out] at hx373_0)
                                                              (try rw [← Nbq76.out] at hx373_0)
                                                              cases e373
                                                              replace p373 := eq_true p373
                                                              replace q373 := eq_true q373
                                                              have p87 : 0 ≤ ((ji64) : Int) := of_decide_eq_true (by assumption)
                                                              have q87 : ((ji64) : Int) < ((x9_6.length : Int) : Int) := of_decide_eq_true (by assumption)
                                                              obtain ⟨go87, co87, eo87, gb87, gl87, cl87, HG87⟩ := Kd.R_form HO_9.out (by omega)
                                                              (first | cases eo87 | (injection eo87 with ea_ en_ ec_; (first | subst ea_ | (injection ea_ with ea_; subst ea_)); subst ec_; clear en_))
                                                              have GB87 := Aside0.mk gb87
                                                              have GG87 := Aside0.mk HG87
                                                              clear gb87 gl87 HG87
                                                              (first | simp only [add_plain] at hx373_0 | skip)
                                                              obtain ⟨hx87_0, hf87_0⟩ := Kd.R_celln false HO_9.out ((ji64) : Int) p87 q87
                                                              replace p87 := eq_true p87
                                                              replace q87 := eq_true q87
                                                              have HP90 := Kd.R_putg HO_9.out ((ji64) : Int) false
                                                              go_wp2_with (first | ((with_reducible refine gate_store (t := 4) (p := 126) rfl ?_); refine store_event (t := 4) (p := 126) (v := ?vo_w91) (w1 := (wr.setCell ⟨go87, ((ji64) : Int).toNat, none⟩ (.bool false))) ?hg ?ho ?hn ?hr ?_; (case ho => rfl); (case hg => rfl); (case hn => rfl); (case hr => first | (go_simp; done) | (go_simp; rfl)); intro w91 hw; have hg : wr.grownBy w91 (some go87) := (by rw [hw]; exact HP90.2); have hp_ : Kd.R Kd.bool 4 w91 w.heap.size (fun k_ => some k_ ≠ (.slice (some ad371) x5_2.length co88 : Value).ownBlock) (.slice (some ⟨go87, 0, none⟩) x9_6.length co89) y375 := (by rw [hw, Ny375.out]; exact HP90.1); clear HP90; have n0_ := Aside0.mk (Kd.R_after (v := (.slice (some ⟨go87, 0, none⟩) x9_6.length co89)) (v1 := (.slice (some ⟨go87, 0, none⟩) x9_6.length co89)) (ok := (fun _ => True)) (by (with_reducible repeat (first | apply Kd.R_alloc | apply Kd.R_drewN | apply Kd.R_drew)); exact Kd.R_mono HO_5.out (fun _ hk => ⟨trivial, hk⟩)) hg (.inl rfl)); have n1_ := Aside0.mk (hp_); have n2_ := Aside0.mk ((by rw [hw]; exact below_set (HB.out) GB87.out : Below w.heap.size w w91)); clear HO_5; clear HO_9; clear HB; have HO_5 := n0_; have HO_9 := n1_; have HB := n2_; clear n0_ n1_ n2_; clear hg hw hp_))
                                                              go_roundg k6
                                                              case measure => have := HJ2.out; have := HK2.out; have := HJ17.out; have := HJ23.out; have := HJ28.out; have := HK6.out; omega
                                                              case rel => exact ⟨(y375), (ji64), (by first | rfl | (simp; done) | (simp only [← hji64] <;> (first | rfl | simp)) | (simp [*]; done)), H', ⟨by have := HJ2.out; have := HK2.out; have := HJ17.out; have := HJ23.out; have := HJ28.out; have := HK6.out; omega⟩, ⟨by (with_reducible repeat (first | apply Kd.R_alloc | apply Kd.R_drewN | apply Kd.R_drew)); exact Kd.R_mono HO_5.out (fun _ hk => hk.2)⟩, ⟨by (with_reducible repeat (first | apply Kd.R_alloc | apply Kd.R_drewN | apply Kd.R_drew)); first | exact HO_9.out | exact Kd.R_mono HO_9.out (fun k_ h_ q_ => h_ (q_.trans (ownBlock_len _ _ _ _)))⟩, ⟨by repeat (first | (with_reducible first | exact HB.out | apply below_alloc | apply pw_below_drewN | apply below_drew1) | exact HB.out)⟩⟩
                                                            · rw [if_neg c86] at H
                                                              exact absurd H (by simp)
                                                        · rw [if_neg c75] at H
                                                          exact absurd H (by simp)
                                                      · rw [if_neg c74] at H
                                                        exact absurd H (by simp)
                                                  · rw [if_neg c66] at H
                                                    exact absurd H (by simp)
                                                · rw [if_neg c65] at H
                                                  exact absurd H (by simp)
                                              · replace c63 := Bool.eq_false_iff.mpr c63
                                                subst c63
                                                have H1 : (if 0 ≤ x6_23 then (if x6_23 < (a0.size : Int) then (if (bt a0 x6_23) = 63 then (if 0 ≤ x67_6 then (if x67_6 < (x5_2.length : Int) then (if rdOf false x5_2 x67_6 = true then (if x67_6 < (a1.size : Int) then (if 0 ≤ (wrap64 (x67_6 + 1)) then (if (wrap64 (x67_6 + 1)) < (x9_6.length : Int) then (impl_Glob.l1 k6 a0 a1 x5_2 x6_23 false false (x9_6.set ((wrap64 (x67_6 + 1)) : Int).toNat ((bt a1 x67_6) != 47)) (a1.size : Int) (wrap64 (x67_6 + 1))) else (none)) else (none)) else (none)) else (if 0 ≤ (wrap64 (x67_6 + 1)) then (if (wrap64 (x67_6 + 1)) < (x9_6.length : Int) then (impl_Glob.l1 k6 a0 a1 x5_2 x6_23 false false (x9_6.set ((wrap64 (x67_6 + 1)) : Int).toNat false) (a1.size : Int) (wrap64 (x67_6 + 1))) else (none)) else (none))) else (none)) else (none)) else (if 0 ≤ x67_6 then (if x67_6 < (x5_2.length : Int) then (if rdOf false x5_2 x67_6 = true then (if x67_6 < (a1.size : Int) then (if 0 ≤ (wrap64 (x67_6 + 1)) then (if (wrap64 (x67_6 + 1)) < (x9_6.length : Int) then (impl_Glob.l1 k6 a0 a1 x5_2 x6_23 false false (x9_6.set ((wrap64 (x67_6 + 1)) : Int).toNat ((bt a1 x67_6) == (bt a0 x6_23))) (a1.size : Int) (wrap64 (x67_6 + 1))) else (none)) else (none)) else (none)) else (if 0 ≤ (wrap64 (x67_6 + 1)) then (if (wrap64 (x67_6 + 1)) < (x9_6.length : Int) then (impl_Glob.l1 k6 a0 a1 x5_2 x6_23 false false (x9_6.set ((wrap64 (x67_6 + 1)) : Int).toNat false) (a1.size : Int) (wrap64 (x67_6 + 1))) else (none)) else (none))) else (none)) else (none))) else (none)) else (none)) = some r := by rw [if_neg (show ¬ (false = true) by decide)] at H; exact H
                                                clear H
                                                have H := H1
                                                clear H1
                                                by_cases c92 : 0 ≤ x6_23
                                                · rw [if_pos c92] at H
                                                  have c92b0 : decide (0 ≤ x6_23) = true := decide_eq_true c92
                                                  clear c92
                                                  by_cases c93 : x6_23 < (a0.size : Int)
                                                  · rw [if_pos c93] at H
                                                    have c93b0 : decide (x6_23 < (a0.size : Int)) = true := decide_eq_true c93
                                                    clear c93
                                                    by_cases c95 : (bt a0 x6_23) = 63
                                                    · rw [if_pos c95] at H
                                                      have c95b0 : ((bt a0 x6_23) == 63) = true := beq_iff_eq.mpr c95
                                                      have c95b1 : ((bt a0 x6_23) != 63) = false := bne_eq_false_iff_eq.mpr c95
                                                      clear c95
                                                      by_cases c96 : 0 ≤ x67_6
                                                      · rw [if_pos c96] at H
                                                        have c96b0 : decide (0 ≤ x67_6) = true := decide_eq_true c96
                                                        clear c96
                                                        by_cases c97 : x67_6 < (x5_2.length : Int)
                                                        · rw [if_pos c97] at H
                                                          have c97b0 : decide (x67_6 < (x5_2.length : Int)) = true := decide_eq_true c97
                                                          clear c97
                                                          obtain ⟨bq98, hbq98⟩ : ∃ b_ : Bool, b_ = (rdOf false x5_2 x67_6) := ⟨_, rfl⟩
                                                          replace H : (if bq98 = true then (if x67_6 < (a1.size : Int) then (if 0 ≤ (wrap64 (x67_6 + 1)) then (if (wrap64 (x67_6 + 1)) < (x9_6.length : Int) then (impl_Glob.l1 k6 a0 a1 x5_2 x6_23 false false (x9_6.set ((wrap64 (x67_6 + 1)) : Int).toNat ((bt a1 x67_6) != 47)) (a1.size : Int) (wrap64 (x67_6 + 1))) else (none)) else (none)) else (none)) else (if 0 ≤ (wrap64 (x67_6 + 1)) then (if (wrap64 (x67_6 + 1)) < (x9_6.length : Int) then (impl_Glob.l1 k6 a0 a1 x5_2 x6_23 false false (x9_6.set ((wrap64 (x67_6 + 1)) : Int).toNat false) (a1.size : Int) (wrap64 (x67_6 + 1))) else (none)) else (none))) = some r := by rw [← hbq98] at H; exact H
                                                          have Nbq98 := Aside0.mk hbq98
                                                          clear hbq98
                                                          by_cases c99 : bq98 = true
                                                          · subst c99
                                                            have H1 : (if x67_6 < (a1.size : Int) then (if 0 ≤ (wrap64 (x67_6 + 1)) then (if (wrap64 (x67_6 + 1)) < (x9_6.length : Int) then (impl_Glob.l1 k6 a0 a1 x5_2 x6_23 false false (x9_6.set ((wrap64 (x67_6 + 1)) : Int).toNat ((bt a1 x67_6) != 47)) (a1.size : Int) (wrap64 (x67_6 + 1))) else (none)) else (none)) else (none)) = some r := by rw [if_pos rfl] at H; exact H
                                                            clear H
                                                            have H := H1
                                                            clear H1
                                                            by_cases c100 : x67_6 < (a1.size : Int)
                                                            · rw [if_pos c100] at H
                                                              have c100b0 : decide (x67_6 < (a1.size : Int)) = true := decide_eq_true c100
                                                              clear c100
                                                              obtain ⟨ji102, hji102⟩ : ∃ j_ : Int, (wrap64 (x67_6 + 1)) = j_ := ⟨_, rfl⟩
                                                              replace H : (if 0 ≤ (ji102) then (if (ji102) < (x9_6.length : Int) then (impl_Glob.l1 k6 a0 a1 x5_2 x6_23 false false (x9_6.set ((ji102) : Int).toNat ((bt a1 x67_6) != 47)) (a1.size : Int) ji102) else (none)) else (none)) = some r := by first | (rw [hji102] at H; exact H) | (simp only [hji102] at H ⊢; exact H)
                                                              have hji102w : (IntKind.i64.wrap (x67_6 + 1)) = ji102 := (i64_w _).trans hji102
                                                              by_cases c103 : 0 ≤ (ji102)
                                                              · rw [if_pos c103] at H
                                                                have c103b0 : decide (0 ≤ (ji102)) = true := decide_eq_true c103
                                                                clear c103
                                                                by_cases c104 : (ji102) < (x9_6.length : Int)
                                                                · rw [if_pos c104] at H
                                                                  have c104b0 : decide ((ji102) < (x9_6.length : Int)) = true := decide_eq_true c104
                                                                  clear c104
                                                                  obtain ⟨y377, hy377⟩ : ∃ y_ : List Bool, y_ = (x9_6.set ((ji102) : Int).toNat ((bt a1 x67_6) != 47)) := ⟨_, rfl⟩
                                                                  replace H : (impl_Glob.l1 k6 a0 a1 x5_2 x6_23 false false y377 (a1.size : Int) ji102) = some r := by first | (rw [hy377]; with_reducible exact H) | (have H2_ := (Option.bind_some _ _).symm.trans H; rw [hy377]; with_reducible exact H2_) | (have H2_ := (Option.bind_some _ _).symm.trans H; with_reducible exact H2_) | with_reducible exact H | (rw [hy377]; exact H) | exact H
                                                                  have Ny377 := Aside0.mk hy377
                                                                  clear hy377
                                                                  have H' := Aside0.mk H
                                                                  clear H
                                                                  have p94 : 0 ≤ (x6_23 : Int) := of_decide_eq_true (by assumption)
                                                                  have q94 : x6_23 < (a0.size : Int) := of_decide_eq_true (by assumption)
                                                                  have hx94 := bt_at a0 x6_23
                                                                  replace p94 := eq_true p94
                                                                  replace q94 := eq_true q94
                                                                  obtain ⟨Ao106, co106, eo106⟩ := Kd.R_slice HO_5.out
                                                                  subst eo106
                                                                  have p376 : 0 ≤ (x67_6 : Int) := of_decide_eq_true (by assumption)
                                                                  have q376 : x67_6 < (x5_2.length : Int) := of_decide_eq_true (by assumption)
                                                                  obtain ⟨ad376, e376, hx376_0⟩ := Kd.at_bool (Kd.R_reads' HO_5.out).2.2 x67_6 p376 q376
                                                                  (try rw [← Nbq98.out] at hx376_0)
                                                                  cases e376
                                                                  replace p376 := eq_true p376
                                                                  replace q376 := eq_true q376
                                                                  have p101 : 0 ≤ (x67_6 : Int) := of_decide_eq_true (by assumption)
                                                                  have q101 : x67_6 < (a1.size : Int) := of_decide_eq_true (by assumption)
                                                                  have hx101 := bt_at a1 x67_6
                                                                  replace p101 := eq_true p101
                                                                  replace q101 := eq_true q101
                                                                  have p105 : 0 ≤ ((ji102) : Int) := of_decide_eq_true (by assumption)
                                                                  have q105 : ((ji102) : Int) < ((x9_6.length : Int) : Int) := of_decide_eq_true (by assumption)
                                                                  obtain ⟨go105, co105, eo105, gb105, gl105, cl105, HG105⟩ := Kd.R_form HO_9.out (by omega)
                                                                  (first | cases eo105 | (injection eo105 with ea_ en_ ec_; (first | subst ea_ | (injection ea_ with ea_; subst ea_)); subst ec_; clear en_))
                                                                  have GB105 := Aside0.mk gb105
                                                                  have GG105 := Aside0.mk HG105
                                                                  clear gb105 gl105 HG105
                                                                  obtain ⟨hx105_0, hf105_0⟩ := Kd.R_celln false HO_9.out ((ji102) : Int) p105 q105
                                                                  replace p105 := eq_true p105
                                                                  replace q105 := eq_true q105
                                                                  have HP107 := Kd.R_putg HO_9.out ((ji102) : Int) ((bt a1 x67_6) != 47)
                                                                  go_wp2_with (first | ((with_reducible refine gate_store (t := 4) (p := 145) rfl ?_); refine store_event (t := 4) (p := 145) (v := ?vo_w108) (w1 := (wr.setCell ⟨go105, ((ji102) : Int).toNat, none⟩ (.bool ((bt a1 x67_6) != 47)))) ?hg ?ho ?hn ?hr ?_; (case ho => rfl); (case hg => rfl); (case hn => rfl); (case hr => first | (go_simp; done) | (go_simp; rfl)); intro w108 hw; have hg : wr.grownBy w108 (some go105) := (by rw [hw]; exact HP107.2); have hp_ : Kd.R Kd.bool 4 w108 w.heap.size (fun k_ => some k_ ≠ (.slice (some ad376) x5_2.length co106 : Value).ownBlock) (.slice (some ⟨go105, 0, none⟩) x9_6.length co105) y377 := (by rw [hw, Ny377.out]; exact HP107.1); clear HP107; have n0_ := Aside0.mk (Kd.R_after (v := (.slice (some ⟨go105, 0, none⟩) x9_6.length co105)) (v1 := (.slice (some ⟨go105, 0, none⟩) x9_6.length co105)) (ok := (fun _ => True)) (by (with_reducible repeat (first | apply Kd.R_alloc | apply Kd.R_drewN | apply Kd.R_drew)); exact Kd.R_mono HO_5.out (fun _ hk => ⟨trivial, hk⟩)) hg (.inl rfl)); have n1_ := Aside0.mk (hp_); have n2_ := Aside0.mk ((by rw [hw]; exact below_set (HB.out) GB105.out : Below w.heap.size w w108)); clear HO_5; clear HO_9; clear HB; have HO_5 := n0_; have HO_9 := n1_; have HB := n2_; clear n0_ n1_ n2_; clear hg hw hp_))
                                                                  go_roundg k6
                                                                  case measure => have := HJ2.out; have := HK2.out; have := HJ17.out; have := HJ23.out; have := HJ28.out; have := HK6.out; omega
                                                                  case rel => exact ⟨(y377), (ji102), (by first | rfl | (simp; done) | (simp only [← hji102] <;> (first | rfl | simp)) | (simp [*]; done)), H', ⟨by have := HJ2.out; have := HK2.out; have := HJ17.out; have := HJ23.out; have := HJ28.out; have := HK6.out; omega⟩, ⟨by (with_reducible repeat (first | apply Kd.R_alloc | apply Kd.R_drewN | apply Kd.R_drew)); exact Kd.R_mono HO_5.out (fun _ hk => hk.2)⟩, ⟨by (with_reducible repeat (first | apply Kd.R_alloc | apply Kd.R_drewN | apply Kd.R_drew)); first | exact HO_9.out | exact Kd.R_mono HO_9.out (fun k_ h_ q_ => h_ (q_.trans (ownBlock_len _ _ _ _)))⟩, ⟨by repeat (first | (with_reducible first | exact HB.out | apply below_alloc | apply pw_below_drewN | apply below_drew1) | exact HB.out)⟩⟩
                                                                · rw [if_neg c104] at H
                                                                  exact absurd H (by simp)
                                                              · rw [if_neg c103] at H
                                                                exact absurd H (by simp)
                                                            · rw [if_neg c100] at H
                                                              exact absurd H (by simp)
                                                          · replace c99 := Bool.eq_false_iff.mpr c99
                                                            subst c99
                                                            have H1 : (if 0 ≤ (wrap64 (x67_6 + 1)) then (if (wrap64 (x67_6 + 1)) < (x9_6.length : Int) then (impl_Glob.l1 k6 a0 a1 x5_2 x6_23 false false (x9_6.set ((wrap64 (x67_6 + 1)) : Int).toNat false) (a1.size : Int) (wrap64 (x67_6 + 1))) else (none)) else (none)) = some r := by rw [if_neg (show ¬ (false = true) by decide)] at H; exact H
                                                            clear H
                                                            have H := H1
                                                            clear H1
                                                            obtain ⟨ji109, hji109⟩ : ∃ j_ : Int, (wrap64 (x67_6 + 1)) = j_ := ⟨_, rfl⟩
                                                            replace H : (if 0 ≤ (ji109) then (if (ji109) < (x9_6.length : Int) then (impl_Glob.l1 k6 a0 a1 x5_2 x6_23 false false (x9_6.set ((ji109) : Int).toNat false) (a1.size : Int) ji109) else (none)) else (none)) = some r := by first | (rw [hji109] at H; exact H) | (simp only [hji109] at H ⊢; exact H)
                                                            have hji109w : (IntKind.i64.wrap (x67_6 + 1)) = ji109 := (i64_w _).trans hji109
                                                            by_cases c110 : 0 ≤ (ji109)
                                                            · rw [if_pos c110] at H
                                                              have c110b0 : decide (0 ≤ (ji109)) = true := decide_eq_true c110
                                                              clear c110
                                                              by_cases c111 : (ji109) < (x9_6.length : Int)
                                                              · rw [if_pos c111] at H
                                                                have c111b0 : decide ((ji109) < (x9_6.length : Int)) = true := decide_eq_true c111
                                                                clear c111
                                                                obtain ⟨y378, hy378⟩ : ∃ y_ : List Bool, y_ = (x9_6.set ((ji109) : Int).toNat false) := ⟨_, rfl⟩
                                                                replace H : (impl_Glob.l1 k6 a0 a1 x5_2 x6_23 false false y378 (a1.size : Int) ji109) = some r := by first | (rw [hy378]; with_reducible exact H) | (have H2_ := (Option.bind_some _ _).symm.trans H; rw [hy378]; with_reducible exact H2_) | (have H2_ := (Option.bind_some _ _).symm.trans H; with_reducible exact H2_) | with_reducible exact H | (rw [hy378]; exact H) | exact H
                                                                have Ny378 := Aside0.mk hy378
                                                                clear hy378
                                                                have H' := Aside0.mk H
                                                                clear H
                                                                have p94 : 0 ≤ (x6_23 : Int) := of_decide_eq_true (by assumption)
                                                                have q94 : x6_23 < (a0.size : Int) := of_decide_eq_true (by assumption)
                                                                have hx94 := bt_at a0 x6_23
                                                                replace p94 := eq_true p94
                                                                replace q94 := eq_true q94
                                                                obtain ⟨Ao113, co113, eo113⟩ := Kd.R_slice HO_5.out
                                                                subst eo113
                                                                have p376 : 0 ≤ (x67_6 : Int) := of_decide_eq_true (by assumption)
                                                                have q376 : x67_6 < (x5_2.length : Int) := of_decide_eq_true (by assumption)
                                                                obtain ⟨ad376, e376, hx376_0⟩ := Kd.at_bool (Kd.R_reads' HO_5.out).2.2 x67_6 p376 q376
                                                                (try rw [← Nbq98.out] at hx376_0)
                                                                cases e376
                                                                replace p376 := eq_true p376
                                                                replace q376 := eq_true q376
                                                                have p112 : 0 ≤ ((ji109) : Int) := of_decide_eq_true (by assumption)
                                                                have q112 : ((ji109) : Int) < ((x9_6.length : Int) : Int) := of_decide_eq_true (by assumption)
                                                                obtain ⟨go112, co112, eo112, gb112, gl112, cl112, HG112⟩ := Kd.R_form HO_9.out (by omega)
                                                                (first | cases eo112 | (injection eo112 with ea_ en_ ec_; (first | subst ea_ | (injection ea_ with ea_; subst ea_)); subst ec_; clear en_))
                                                                have GB112 := Aside0.mk gb112
                                                                have GG112 := Aside0.mk HG112
                                                                clear gb112 gl112 HG112
                                                                obtain ⟨hx112_0, hf112_0⟩ := Kd.R_celln false HO_9.out ((ji109) : Int) p112 q112
                                                                replace p112 := eq_true p112
                                                                replace q112 := eq_true q112
                                                                have HP114 := Kd.R_putg HO_9.out ((ji109) : Int) false
                                                                go_wp2_with (first | ((with_reducible refine gate_store (t := 4) (p := 145) rfl ?_); refine store_event (t := 4) (p := 145) (v := ?vo_w115) (w1 := (wr.setCell ⟨go112, ((ji109) : Int).toNat, none⟩ (.bool false))) ?hg ?ho ?hn ?hr ?_; (case ho => rfl); (case hg => rfl); (case hn => rfl); (case hr => first | (go_simp; done) | (go_simp; rfl)); intro w115 hw; have hg : wr.grownBy w115 (some go112) := (by rw [hw]; exact HP114.2); have hp_ : Kd.R Kd.bool 4 w115 w.heap.size (fun k_ => some k_ ≠ (.slice (some ad376) x5_2.length co113 : Value).ownBlock) (.slice (some ⟨go112, 0, none⟩) x9_6.length co112) y378 := (by rw [hw, Ny378.out]; exact HP114.1); clear HP114; have n0_ := Aside0.mk (Kd.R_after (v := (.slice (some ⟨go112, 0, none⟩) x9_6.length co112)) (v1 := (.slice (some ⟨go112, 0, none⟩) x9_6.length co112)) (ok := (fun _ => True)) (by (with_reducible repeat (first | apply Kd.R_alloc | apply Kd.R_drewN | apply Kd.R_drew)); exact Kd.R_mono HO_5.out (fun _ hk => ⟨trivial, hk⟩)) hg (.inl rfl)); have n1_ := Aside0.mk (hp_); have n2_ := Aside0.mk ((by rw [hw]; exact below_set (HB.out) GB112.out : Below w.heap.size w w115)); clear HO_5; clear HO_9; clear HB; have HO_5 := n0_; have HO_9 := n1_; have HB := n2_; clear n0_ n1_ n2_; clear hg hw hp_))
                                                                go_roundg k6
                                                                case measure => have := HJ2.out; have := HK2.out; have := HJ17.out; have := HJ23.out; have := HJ28.out; have := HK6.out; omega
                                                                case rel => exact ⟨(y378), (ji109), (by first | rfl | (simp; done) | (simp only [← hji109] <;> (first | rfl | simp)) | (simp [*]; done)), H', ⟨by have := HJ2.out; have := HK2.out; have := HJ17.out; have := HJ23.out; have := HJ28.out; have := HK6.out; omega⟩, ⟨by (with_reducible repeat (first | apply Kd.R_alloc | apply Kd.R_drewN | apply Kd.R_drew)); exact Kd.R_mono HO_5.out (fun _ hk => hk.2)⟩, ⟨by (with_reducible repeat (first | apply Kd.R_alloc | apply Kd.R_drewN | apply Kd.R_drew)); first | exact HO_9.out | exact Kd.R_mono HO_9.out (fun k_ h_ q_ => h_ (q_.trans (ownBlock_len _ _ _ _)))⟩, ⟨by repeat (first | (with_reducible first | exact HB.out | apply below_alloc | apply pw_below_drewN | apply below_drew1) | exact HB.out)⟩⟩
                                                              · rw [if_neg c111] at H
                                                                exact absurd H (by simp)
                                                            · rw [if_neg c110] at H
                                                              exact absurd H (by simp)
                                                        · rw [if_neg c97] at H
                                                          exact absurd H (by simp)
                                                      · rw [if_neg c96] at H
                                                        exact absurd H (by simp)
                                                    · rw [if_neg c95] at H
                                                      have c95b0 : ((bt a0 x6_23) == 63) = false := beq_eq_false_iff_ne.mpr c95
                                                      have c95b1 : ((bt a0 x6_23) != 63) = true := bne_iff_ne.mpr c95
                                                      by_cases c116 : 0 ≤ x67_6
                                                      · rw [if_pos c116] at H
                                                        have c116b0 : decide (0 ≤ x67_6) = true := decide_eq_true c116
                                                        clear c116
                                                        by_cases c117 : x67_6 < (x5_2.length : Int)
                                                        · rw [if_pos c117] at H
                                                          have c117b0 : decide (x67_6 < (x5_2.length : Int)) = true := decide_eq_true c117
                                                          clear c117
                                                          obtain ⟨bq118, hbq118⟩ : ∃ b_ : Bool, b_ = (rdOf false x5_2 x67_6) := ⟨_, rfl⟩
                                                          replace H : (if bq118 = true then (if x67_6 < (a1.size : Int) then (if 0 ≤ (wrap64 (x67_6 + 1)) then (if (wrap64 (x67_6 + 1)) < (x9_6.length : Int) then (impl_Glob.l1 k6 a0 a1 x5_2 x6_23 false false (x9_6.set ((wrap64 (x67_6 + 1)) : Int).toNat ((bt a1 x67_6) == (bt a0 x6_23))) (a1.size : Int) (wrap64 (x67_6 + 1))) else (none)) else (none)) else (none)) else (if 0 ≤ (wrap64 (x67_6 + 1)) then (if (wrap64 (x67_6 + 1)) < (x9_6.length : Int) then (impl_Glob.l1 k6 a0 a1 x5_2 x6_23 false false (x9_6.set ((wrap64 (x67_6 + 1)) : Int).toNat false) (a1.size : Int) (wrap64 (x67_6 + 1))) else (none)) else (none))) = some r := by rw [← hbq118] at H; exact H
                                                          have Nbq118 := Aside0.mk hbq118
                                                          clear hbq118
                                                          by_cases c119 : bq118 = true
                                                          · subst c119
                                                            have H1 : (if x67_6 < (a1.size : Int) then (if 0 ≤ (wrap64 (x67_6 + 1)) then (if (wrap64 (x67_6 + 1)) < (x9_6.length : Int) then (impl_Glob.l1 k6 a0 a1 x5_2 x6_23 false false (x9_6.set ((wrap64 (x67_6 + 1)) : Int).toNat ((bt a1 x67_6) == (bt a0 x6_23))) (a1.size : Int) (wrap64 (x67_6 + 1))) else (none)) else (none)) else (none)) = some r := by rw [if_pos rfl] at H; exact H
                                                            clear H
                                                            have H := H1
                                                            clear H1
                                                            by_cases c120 : x67_6 < (a1.size : Int)
                                                            · rw [if_pos c120] at H
                                                              have c120b0 : decide (x67_6 < (a1.size : Int)) = true := decide_eq_true c120
                                                              clear c120
                                                              obtain ⟨ji123, hji123⟩ : ∃ j_ : Int, (wrap64 (x67_6 + 1)) = j_ := ⟨_, rfl⟩
                                                              replace H : (if 0 ≤ (ji123) then (if (ji123) < (x9_6.length : Int) then (impl_Glob.l1 k6 a0 a1 x5_2 x6_23 false false (x9_6.set ((ji123) : Int).toNat ((bt a1 x67_6) == (bt a0 x6_23))) (a1.size : Int) ji123) else (none)) else (none)) = some r := by first | (rw [hji123] at H; exact H) | (simp only [hji123] at H ⊢; exact H)
                                                              have hji123w : (IntKind.i64.wrap (x67_6 + 1)) = ji123 := (i64_w _).trans hji123
                                                              by_cases c124 : 0 ≤ (ji123)
                                                              · rw [if_pos c124] at H
                                                                have c124b0 : decide (0 ≤ (ji123)) = true := decide_eq_true c124
                                                                clear c124
                                                                by_cases c125 : (ji123) < (x9_6.length : Int)
                                                                · rw [if_pos c125] at H
                                                                  have c125b0 : decide ((ji123) < (x9_6.length : Int)) = true := decide_eq_true c125
                                                                  clear c125
                                                                  obtain ⟨y380, hy380⟩ : ∃ y_ : List Bool, y_ = (x9_6.set ((ji123) : Int).toNat ((bt a1 x67_6) == (bt a0 x6_23))) := ⟨_, rfl⟩
                                                                  replace H : (impl_Glob.l1 k6 a0 a1 x5_2 x6_23 false false y380 (a1.size : Int) ji123) = some r := by first | (rw [hy380]; with_reducible exact H) | (have H2_ := (Option.bind_some _ _).symm.trans H; rw [hy380]; with_reducible exact H2_) | (have H2_ := (Option.bind_some _ _).symm.trans H; with_reducible exact H2_) | with_reducible exact H | (rw [hy380]; exact H) | exact H
                                                                  have Ny380 := Aside0.mk hy380
                                                                  clear hy380
                                                                  have H' := Aside0.mk H
                                                                  clear H
                                                                  have p94 : 0 ≤ (x6_23 : Int) := of_decide_eq_true (by assumption)
                                                                  have q94 : x6_23 < (a0.size : Int) := of_decide_eq_true (by assumption)
                                                                  have hx94 := bt_at a0 x6_23
                                                                  replace p94 := eq_true p94
                                                                  replace q94 := eq_true q94
                                                                  try go_wp2
                                                                  have n0_ := Aside0.mk (Kd.R_drew HO_5.out)
                                                                  have n1_ := Aside0.mk (Kd.R_drew HO_9.out)
                                                                  have n2_ := Aside0.mk (below_drew1 HB.out)
                                                                  clear HO_5
                                                                  clear HO_9
                                                                  clear HB
                                                                  have HO_5 := n0_
                                                                  have HO_9 := n1_
                                                                  have HB := n2_
                                                                  clear n0_ n1_ n2_
                                                                  obtain ⟨Ao128, co128, eo128⟩ := Kd.R_slice HO_5.out
                                                                  (first | subst eo128 | (injection eo128 with f1_ f2_ f3_; have f4_ := f1_.symm; have f5_ := f3_.symm; clear f1_ f2_ f3_; subst f4_; subst f5_))
                                                                  have p379 : 0 ≤ (x67_6 : Int) := of_decide_eq_true (by assumption)
                                                                  have q379 : x67_6 < (x5_2.length : Int) := of_decide_eq_true (by assumption)
                                                                  obtain ⟨ad379, e379, hx379_0⟩ := Kd.at_bool (Kd.R_reads' HO_5.out).2.2 x67_6 p379 q379
                                                                  (try rw [← Nbq118.out] at hx379_0)
                                                                  cases e379
                                                                  replace p379 := eq_true p379
                                                                  replace q379 := eq_true q379
                                                                  have p121 : 0 ≤ (x67_6 : Int) := of_decide_eq_true (by assumption)
                                                                  have q121 : x67_6 < (a1.size : Int) := of_decide_eq_true (by assumption)
                                                                  have hx121 := bt_at a1 x67_6
                                                                  replace p121 := eq_true p121
                                                                  replace q121 := eq_true q121
                                                                  have p122 : 0 ≤ (x6_23 : Int) := of_decide_eq_true (by assumption)
                                                                  have q122 : x6_23 < (a0.size : Int) := of_decide_eq_true (by assumption)
                                                                  have hx122 := bt_at a0 x6_23
                                                                  replace p122 := eq_true p122
                                                                  replace q122 := eq_true q122
                                                                  have p126 : 0 ≤ ((ji123) : Int) := of_decide_eq_true (by assumption)
                                                                  have q126 : ((ji123) : Int) < ((x9_6.length : Int) : Int) := of_decide_eq_true (by assumption)
                                                                  obtain ⟨go126, co126, eo126, gb126, gl126, cl126, HG126⟩ := Kd.R_form HO_9.out (by omega)
                                                                  (first | cases eo126 | (injection eo126 with ea_ en_ ec_; (first | subst ea_ | (injection ea_ with ea_; subst ea_)); subst ec_; clear en_))
                                                                  have GB126 := Aside0.mk gb126
                                                                  have GG126 := Aside0.mk HG126
                                                                  clear gb126 gl126 HG126
                                                                  obtain ⟨hx126_0, hf126_0⟩ := Kd.R_celln false HO_9.out ((ji123) : Int) p126 q126
                                                                  replace p126 := eq_true p126
                                                                  replace q126 := eq_true q126
                                                                  have HP129 := Kd.R_putn HO_9.out ((ji123) : Int) ((bt a1 x67_6) == (bt a0 x6_23))
                                                                  rw [← Ny380.out] at HP129
                                                                  have HQ129 := Aside0.mk HP129
                                                                  clear HP129
                                                                  refine start_ (n := 18) (S := fun w' => w'.cell? (ad379.add (x67_6).toNat) = some (.bool true)) (ds := [17]) #[false, false, false, false, false, false, false, false, false, false, false, false, false, false, false, false, false, false] (by kernel_rfl) rfl rfl (hx379_0) (fun hHeld => ?_); refine with_tabW impl_Glob.tab17 impl_Glob.bits17 (fun HT_ HW_ => ?_)
                                                                  generalize wr.drew = w127 at HO_5 HO_9 HB GG126 HQ129 hf126_0 hx126_0 hx379_0 hHeld ⊢
                                                                  refine pure_ (i := 0) (N := some 70) (v := ?_) (a' := ?_) #[true, false, false, false, false, false, false, false, false, false, false, false, false, false, false, false, false, false] rfl rfl (any_of HT_.out (by kernel_rfl)) (fun _ _ _ h => h) (Or.inl ⟨by rfl, ?_⟩) ?_ ?_
                                                                  rotate_left
                                                                  · intro w'
                                                                    go_simp
                                                                    with_reducible rfl
                                                                  rotate_left
                                                                  · simp only [Act.put, List.setIfInBounds_toArray, List.set_cons_zero, List.set_cons_succ, i64_w, i32_w]
                                                                    rfl
                                                                  refine pure_ (i := 1) (N := some 71) (v := ?_) (a' := ?_) #[true, true, false, false, false, false, false, false, false, false, false, false, false, false, false, false, false, false] rfl rfl (any_of HT_.out (by kernel_rfl)) (fun _ _ _ h => h) (Or.inl ⟨by rfl, ?_⟩) ?_ ?_
                                                                  rotate_left
                                                                  · intro w'
                                                                    go_simp
                                                                    with_reducible rfl
                                                                  rotate_left
                                                                  · simp only [Act.put, List.setIfInBounds_toArray, List.set_cons_zero, List.set_cons_succ, i64_w, i32_w]
                                                                    rfl
                                                                  refine pure_ (i := 2) (N := some 72) (v := ?_) (a' := ?_) #[true, true, true, false, false, false, false, false, false, false, false, false, false, false, false, false, false, false] rfl rfl (any_of HT_.out (by kernel_rfl)) (fun _ _ _ h => h) (Or.inl ⟨by rfl, ?_⟩) ?_ ?_
                                                                  rotate_left
                                                                  · intro w'
                                                                    go_simp
                                                                    with_reducible rfl
                                                                  rotate_left
                                                                  · simp only [Act.put, List.setIfInBounds_toArray, List.set_cons_zero, List.set_cons_succ, i64_w, i32_w]
                                                                    rfl
                                                                  refine pure_ (i := 3) (N := some 73) (v := ?_) (a' := ?_) #[true, true, true, true, false, false, false, false, false, false, false, false, false, false, false, false, false, false] rfl rfl (any_of HT_.out (by kernel_rfl)) (fun _ _ _ h => h) (Or.inl ⟨by rfl, ?_⟩) ?_ ?_
                                                                  rotate_left
                                                                  · intro w'
                                                                    go_simp
                                                                    with_reducible rfl
                                                                  rotate_left
                                                                  · simp only [Act.put, List.setIfInBounds_toArray, List.set_cons_zero, List.set_cons_succ, i64_w, i32_w]
                                                                    rfl
                                                                  refine pure_ (i := 4) (N := some 74) (v := ?_) (a' := ?_) #[true, true, true, true, true, false, false, false, false, false, false, false, false, false, false, false, false, false] rfl rfl (any_of HT_.out (by kernel_rfl)) (fun _ _ _ h => h) (Or.inl ⟨by rfl, ?_⟩) ?_ ?_
                                                                  rotate_left
                                                                  · intro w'
                                                                    go_simp
                                                                    with_reducible rfl
                                                                  rotate_left
                                                                  · simp only [Act.put, List.setIfInBounds_toArray, List.set_cons_zero, List.set_cons_succ, i64_w, i32_w]
                                                                    rfl
                                                                  refine pure_ (i := 5) (N := some 75) (v := ?_) (a' := ?_) #[true, true, true, true, true, true, false, false, false, false, false, false, false, false, false, false, false, false] rfl rfl (any_of HT_.out (by kernel_rfl)) (fun _ _ _ h => h) (Or.inl ⟨by rfl, ?_⟩) ?_ ?_
                                                                  rotate_left
                                                                  · intro w'
                                                                    go_simp
                                                                    with_reducible rfl
                                                                  rotate_left
                                                                  · simp only [Act.put, List.setIfInBounds_toArray, List.set_cons_zero, List.set_cons_succ, i64_w, i32_w]
                                                                    rfl
                                                                  refine take_ (i := 6) (N := some 76) (v := ?_) (a' := ?_) #[true, true, true, true, true, true, true, false, false, false, false, false, false, false, false, false, false, false] rfl rfl (take_ofW HT_.out HW_.out (by kernel_rfl)) (fun _ _ _ h => h) (Or.inl ⟨by rfl, ?_⟩) hHeld ?_ ?_
                                                                  rotate_left
                                                                  · intro w' s0
                                                                    go_simp
                                                                    with_reducible rfl
                                                                  rotate_left
                                                                  · simp only [Act.put, List.setIfInBounds_toArray, List.set_cons_zero, List.set_cons_succ, i64_w, i32_w]
                                                                    rfl
                                                                  refine pure_ (i := 7) (N := some 77) (v := ?_) (a' := ?_) #[true, true, true, true, true, true, true, true, false, false, false, false, false, false, false, false, false, false] rfl rfl (any_of HT_.out (by kernel_rfl)) (fun _ _ _ h => h) (Or.inl ⟨by rfl, ?_⟩) ?_ ?_
                                                                  rotate_left
                                                                  · intro w'
                                                                    go_simp
                                                                    with_reducible rfl
                                                                  rotate_left
                                                                  · simp only [Act.put, List.setIfInBounds_toArray, List.set_cons_zero, List.set_cons_succ, i64_w, i32_w]
                                                                    rfl
                                                                  refine pure_ (i := 8) (N := some 78) (v := ?_) (a' := ?_) #[true, true, true, true, true, true, true, true, true, false, false, false, false, false, false, false, false, false] rfl rfl (any_of HT_.out (by kernel_rfl)) (fun _ _ _ h => h) (Or.inl ⟨by rfl, ?_⟩) ?_ ?_
                                                                  rotate_left
                                                                  · intro w'
                                                                    go_simp
                                                                    with_reducible rfl
                                                                  rotate_left
                                                                  · simp only [Act.put, List.setIfInBounds_toArray, List.set_cons_zero, List.set_cons_succ, i64_w, i32_w]
                                                                    rfl
                                                                  refine pure_ (i := 9) (N := some 79) (v := ?_) (a' := ?_) #[true, true, true, true, true, true, true, true, true, true, false, false, false, false, false, false, false, false] rfl rfl (any_of HT_.out (by kernel_rfl)) (fun _ _ _ h => h) (Or.inl ⟨by rfl, ?_⟩) ?_ ?_
                                                                  rotate_left
                                                                  · intro w'
                                                                    go_simp
                                                                    with_reducible rfl
                                                                  rotate_left
                                                                  · simp only [Act.put, List.setIfInBounds_toArray, List.set_cons_zero, List.set_cons_succ, i64_w, i32_w]
                                                                    rfl
                                                                  refine pure_ (i := 11) (N := some 81) (v := ?_) (a' := ?_) #[true, true, true, true, true, true, true, true, true, true, false, true, false, false, false, false, false, false] rfl rfl (any_of HT_.out (by kernel_rfl)) (fun _ _ _ h => h) (Or.inl ⟨by rfl, ?_⟩) ?_ ?_
                                                                  rotate_left
                                                                  · intro w'
                                                                    go_simp
                                                                    with_reducible rfl
                                                                  rotate_left
                                                                  · simp only [Act.put, List.setIfInBounds_toArray, List.set_cons_zero, List.set_cons_succ, i64_w, i32_w]
                                                                    rfl
                                                                  refine pure_ (i := 12) (N := some 82) (v := ?_) (a' := ?_) #[true, true, true, true, true, true, true, true, true, true, false, true, true, false, false, false, false, false] rfl rfl (any_of HT_.out (by kernel_rfl)) (fun _ _ _ h => h) (Or.inl ⟨by rfl, ?_⟩) ?_ ?_
                                                                  rotate_left
                                                                  · intro w'
                                                                    go_simp
                                                                    with_reducible rfl
                                                                  rotate_left
                                                                  · simp only [Act.put, List.setIfInBounds_toArray, List.set_cons_zero, List.set_cons_succ, i64_w, i32_w]
                                                                    rfl
                                                                  refine take_ (i := 10) (N := some 80) (v := ?_) (a' := ?_) #[true, true, true, true, true, true, true, true, true, true, true, true, true, false, false, false, false, false] rfl rfl (take_ofW HT_.out HW_.out (by kernel_rfl)) (fun _ _ _ h => h) (Or.inl ⟨by rfl, ?_⟩) hHeld ?_ ?_
                                                                  rotate_left
                                                                  · intro w' s0
                                                                    go_simp
                                                                    with_reducible rfl
                                                                  rotate_left
                                                                  · simp only [Act.put, List.setIfInBounds_toArray, List.set_cons_zero, List.set_cons_succ, i64_w, i32_w]
                                                                    rfl
                                                                  refine take_ (i := 13) (N := some 83) (v := ?_) (a' := ?_) #[true, true, true, true, true, true, true, true, true, true, true, true, true, true, false, false, false, false] rfl rfl (take_ofW HT_.out HW_.out (by kernel_rfl)) (fun _ _ _ h => h) (Or.inl ⟨by rfl, ?_⟩) hHeld ?_ ?_
                                                                  rotate_left
                                                                  · intro w' s0
                                                                    go_simp
                                                                    with_reducible rfl
                                                                  rotate_left
                                                                  · simp only [Act.put, List.setIfInBounds_toArray, List.set_cons_zero, List.set_cons_succ, i64_w, i32_w]
                                                                    rfl
                                                                  refine pure_ (i := 14) (N := some 84) (v := ?_) (a' := ?_) #[true, true, true, true, true, true, true, true, true, true, true, true, true, true, true, false, false, false] rfl rfl (any_of HT_.out (by kernel_rfl)) (fun _ _ _ h => h) (Or.inl ⟨by rfl, ?_⟩) ?_ ?_
                                                                  rotate_left
                                                                  · intro w'
                                                                    go_simp
                                                                    with_reducible rfl
                                                                  rotate_left
                                                                  · simp only [Act.put, List.setIfInBounds_toArray, List.set_cons_zero, List.set_cons_succ, i64_w, i32_w]
                                                                    rfl
                                                                  refine pure_ (i := 15) (N := some 85) (v := ?_) (a' := ?_) #[true, true, true, true, true, true, true, true, true, true, true, true, true, true, true, true, false, false] rfl rfl (any_of HT_.out (by kernel_rfl)) (fun _ _ _ h => h) (Or.inl ⟨by rfl, ?_⟩) ?_ ?_
                                                                  rotate_left
                                                                  · intro w'
                                                                    go_simp
                                                                    with_reducible rfl
                                                                  rotate_left
                                                                  · simp only [Act.put, List.setIfInBounds_toArray, List.set_cons_zero, List.set_cons_succ, i64_w, i32_w]
                                                                    rfl
                                                                  refine pure_ (i := 16) (N := some 86) (v := ?_) (a' := ?_) #[true, true, true, true, true, true, true, true, true, true, true, true, true, true, true, true, true, false] rfl rfl (any_of HT_.out (by kernel_rfl)) (fun _ _ _ h => h) (Or.inl ⟨by rfl, ?_⟩) ?_ ?_
                                                                  rotate_left
                                                                  · intro w'
                                                                    go_simp
                                                                    with_reducible rfl
                                                                  rotate_left
                                                                  · simp only [Act.put, List.setIfInBounds_toArray, List.set_cons_zero, List.set_cons_succ, i64_w, i32_w]
                                                                    rfl
                                                                  refine last_ (i := 17) (N := none) #[true, true, true, true, true, true, true, true, true, true, true, true, true, true, true, true, true, true] rfl rfl (one_of HT_.out (by kernel_rfl)) (by decide) (fun K hK => ?_)
                                                                  refine skip_ (w1 := ?_) (by rfl) rfl ?_ ?_
                                                                  rotate_left
                                                                  · go_simp
                                                                    rfl
                                                                  refine hK.out _ _ ?_
                                                                  clear hK K
                                                                  refine done_ (done_of HT_.out (by kernel_rfl)) ?_
                                                                  try go_wp2
                                                                  go_roundg k6
                                                                  case measure => have := HJ2.out; have := HK2.out; have := HJ17.out; have := HJ23.out; have := HJ28.out; have := HK6.out; omega
                                                                  case rel => exact ⟨(y380), (ji123), (by first | rfl | (simp; done) | (simp only [← hji123] <;> (first | rfl | simp)) | (simp [*]; done)), H', ⟨by have := HJ2.out; have := HK2.out; have := HJ17.out; have := HJ23.out; have := HJ28.out; have := HK6.out; omega⟩, ⟨by (with_reducible repeat (first | apply Kd.R_alloc | apply Kd.R_drewN | apply Kd.R_drew)); exact Kd.R_mono (Kd.R_far (p := ⟨go126, ((ji123) : Int).toNat, none⟩) (Kd.R_mono HO_5.out (fun k_ hk => (⟨hk, fun e_ => hk (by rw [e_]; rfl)⟩ : _ ∧ k_ ≠ go126))) (fun _ hk => hk.2) (.bool ((bt a1 x67_6) == (bt a0 x6_23)))) (fun _ hk => hk.1)⟩, ⟨by (with_reducible repeat (first | apply Kd.R_alloc | apply Kd.R_drewN | apply Kd.R_drew)); first | exact HQ129.out | exact Kd.R_mono HQ129.out (fun k_ h_ q_ => h_ (q_.trans (ownBlock_len _ _ _ _)))⟩, ⟨by repeat (first | (with_reducible first | exact HB.out | apply below_alloc | apply pw_below_drewN | apply below_drew1 | refine below_set ?_ GB126.out) | exact HB.out)⟩⟩
                                                                · rw [if_neg c125] at H
                                                                  exact absurd H (by simp)
                                                              · rw [if_neg c124] at H
                                                                exact absurd H (by simp)
                                                            · rw [if_neg c120] at H
                                                              exact absurd H (by simp)
                                                          · replace c119 := Bool.eq_false_iff.mpr c119
                                                            subst c119
                                                            have H1 : (if 0 ≤ (wrap64 (x67_6 + 1)) then (if (wrap64 (x67_6 + 1)) < (x9_6.length : Int) then (impl_Glob.l1 k6 a0 a1 x5_2 x6_23 false false (x9_6.set ((wrap64 (x67_6 + 1)) : Int).toNat false) (a1.size : Int) (wrap64 (x67_6 + 1))) else (none)) else (none)) = some r := by rw [if_neg (show ¬ (false = true) by decide)] at H; exact H
                                                            clear H
                                                            have H := H1
                                                            clear H1
                                                            obtain ⟨ji130, hji130⟩ : ∃ j_ : Int, (wrap64 (x67_6 + 1)) = j_ := ⟨_, rfl⟩
                                                            replace H : (if 0 ≤ (ji130) then (if (ji130) < (x9_6.length : Int) then (impl_Glob.l1 k6 a0 a1 x5_2 x6_23 false false (x9_6.set ((ji130) : Int).toNat false) (a1.size : Int) ji130) else (none)) else (none)) = some r := by first | (rw [hji130] at H; exact H) | (simp only [hji130] at H ⊢; exact H)
                                                            have hji130w : (IntKind.i64.wrap (x67_6 + 1)) = ji130 := (i64_w _).trans hji130
                                                            by_cases c131 : 0 ≤ (ji130)
                                                            · rw [if_pos c131] at H
                                                              have c131b0 : decide (0 ≤ (ji130)) = true := decide_eq_true c131
                                                              clear c131
                                                              by_cases c132 : (ji130) < (x9_6.length : Int)
                                                              · rw [if_pos c132] at H
                                                                have c132b0 : decide ((ji130) < (x9_6.length : Int)) = true := decide_eq_true c132
                                                                clear c132
                                                                obtain ⟨y381, hy381⟩ : ∃ y_ : List Bool, y_ = (x9_6.set ((ji130) : Int).toNat false) := ⟨_, rfl⟩
                                                                replace H : (impl_Glob.l1 k6 a0 a1 x5_2 x6_23 false false y381 (a1.size : Int) ji130) = some r := by first | (rw [hy381]; with_reducible exact H) | (have H2_ := (Option.bind_some _ _).symm.trans H; rw [hy381]; with_reducible exact H2_) | (have H2_ := (Option.bind_some _ _).symm.trans H; with_reducible exact H2_) | with_reducible exact H | (rw [hy381]; exact H) | exact H
                                                                have Ny381 := Aside0.mk hy381
                                                                clear hy381
                                                                have H' := Aside0.mk H
                                                                clear H
                                                                have p94 : 0 ≤ (x6_23 : Int) := of_decide_eq_true (by assumption)
                                                                have q94 : x6_23 < (a0.size : Int) := of_decide_eq_true (by assumption)
                                                                have hx94 := bt_at a0 x6_23
                                                                replace p94 := eq_true p94
                                                                replace q94 := eq_true q94
                                                                try go_wp2
                                                                have n0_ := Aside0.mk (Kd.R_drew HO_5.out)
                                                                have n1_ := Aside0.mk (Kd.R_drew HO_9.out)
                                                                have n2_ := Aside0.mk (below_drew1 HB.out)
                                                                clear HO_5
                                                                clear HO_9
                                                                clear HB
                                                                have HO_5 := n0_
                                                                have HO_9 := n1_
                                                                have HB := n2_
                                                                clear n0_ n1_ n2_
                                                                obtain ⟨Ao135, co135, eo135⟩ := Kd.R_slice HO_5.out
                                                                (first | subst eo135 | (injection eo135 with f1_ f2_ f3_; have f4_ := f1_.symm; have f5_ := f3_.symm; clear f1_ f2_ f3_; subst f4_; subst f5_))
                                                                have p379 : 0 ≤ (x67_6 : Int) := of_decide_eq_true (by assumption)
                                                                have q379 : x67_6 < (x5_2.length : Int) := of_decide_eq_true (by assumption)
                                                                obtain ⟨ad379, e379, hx379_0⟩ := Kd.at_bool (Kd.R_reads' HO_5.out).2.2 x67_6 p379 q379
                                                                (try rw [← Nbq118.out] at hx379_0)
                                                                cases e379
                                                                replace p379 := eq_true p379
                                                                replace q379 := eq_true q379
                                                                have p133 : 0 ≤ ((ji130) : Int) := of_decide_eq_true (by assumption)
                                                                have q133 : ((ji130) : Int) < ((x9_6.length : Int) : Int) := of_decide_eq_true (by assumption)
                                                                obtain ⟨go133, co133, eo133, gb133, gl133, cl133, HG133⟩ := Kd.R_form HO_9.out (by omega)
                                                                (first | cases eo133 | (injection eo133 with ea_ en_ ec_; (first | subst ea_ | (injection ea_ with ea_; subst ea_)); subst ec_; clear en_))
                                                                have GB133 := Aside0.mk gb133
                                                                have GG133 := Aside0.mk HG133
                                                                clear gb133 gl133 HG133
                                                                obtain ⟨hx133_0, hf133_0⟩ := Kd.R_celln false HO_9.out ((ji130) : Int) p133 q133
                                                                replace p133 := eq_true p133
                                                                replace q133 := eq_true q133
                                                                have HP136 := Kd.R_putn HO_9.out ((ji130) : Int) false
                                                                rw [← Ny381.out] at HP136
                                                                have HQ136 := Aside0.mk HP136
                                                                clear HP136
                                                                refine start_ (n := 18) (S := fun w' => w'.cell? (ad379.add (x67_6).toNat) = some (.bool false)) (ds := [17]) #[false, false, false, false, false, false, false, false, false, false, false, false, false, false, false, false, false, false] (by kernel_rfl) rfl rfl (hx379_0) (fun hHeld => ?_); refine with_tabW impl_Glob.tab17 impl_Glob.bits17 (fun HT_ HW_ => ?_)
                                                                generalize wr.drew = w134 at HO_5 HO_9 HB GG133 HQ136 hf133_0 hx133_0 hx379_0 hHeld ⊢
                                                                refine pure_ (i := 0) (N := some 70) (v := ?_) (a' := ?_) #[true, false, false, false, false, false, false, false, false, false, false, false, false, false, false, false, false, false] rfl rfl (any_of HT_.out (by kernel_rfl)) (fun _ _ _ h => h) (Or.inl ⟨by rfl, ?_⟩) ?_ ?_
                                                                rotate_left
                                                                · intro w'
                                                                  go_simp
                                                                  with_reducible rfl
                                                                rotate_left
                                                                · simp only [Act.put, List.setIfInBounds_toArray, List.set_cons_zero, List.set_cons_succ, i64_w, i32_w]
                                                                  rfl
                                                                refine pure_ (i := 1) (N := some 71) (v := ?_) (a' := ?_) #[true, true, false, false, false, false, false, false, false, false, false, false, false, false, false, false, false, false] rfl rfl (any_of HT_.out (by kernel_rfl)) (fun _ _ _ h => h) (Or.inl ⟨by rfl, ?_⟩) ?_ ?_
                                                                rotate_left
                                                                · intro w'
                                                                  go_simp
                                                                  with_reducible rfl
                                                                rotate_left
                                                                · simp only [Act.put, List.setIfInBounds_toArray, List.set_cons_zero, List.set_cons_succ, i64_w, i32_w]
                                                                  rfl
                                                                refine pure_ (i := 2) (N := some 72) (v := ?_) (a' := ?_) #[true, true, true, false, false, false, false, false, false, false, false, false, false, false, false, false, false, false] rfl rfl (any_of HT_.out (by kernel_rfl)) (fun _ _ _ h => h) (Or.inl ⟨by rfl, ?_⟩) ?_ ?_
                                                                rotate_left
                                                                · intro w'
                                                                  go_simp
                                                                  with_reducible rfl
                                                                rotate_left
                                                                · simp only [Act.put, List.setIfInBounds_toArray, List.set_cons_zero, List.set_cons_succ, i64_w, i32_w]
                                                                  rfl
                                                                refine pure_ (i := 3) (N := some 73) (v := ?_) (a' := ?_) #[true, true, true, true, false, false, false, false, false, false, false, false, false, false, false, false, false, false] rfl rfl (any_of HT_.out (by kernel_rfl)) (fun _ _ _ h => h) (Or.inl ⟨by rfl, ?_⟩) ?_ ?_
                                                                rotate_left
                                                                · intro w'
                                                                  go_simp
                                                                  with_reducible rfl
                                                                rotate_left
                                                                · simp only [Act.put, List.setIfInBounds_toArray, List.set_cons_zero, List.set_cons_succ, i64_w, i32_w]
                                                                  rfl
                                                                refine pure_ (i := 4) (N := some 74) (v := ?_) (a' := ?_) #[true, true, true, true, true, false, false, false, false, false, false, false, false, false, false, false, false, false] rfl rfl (any_of HT_.out (by kernel_rfl)) (fun _ _ _ h => h) (Or.inl ⟨by rfl, ?_⟩) ?_ ?_
                                                                rotate_left
                                                                · intro w'
                                                                  go_simp
                                                                  with_reducible rfl
                                                                rotate_left
                                                                · simp only [Act.put, List.setIfInBounds_toArray, List.set_cons_zero, List.set_cons_succ, i64_w, i32_w]
                                                                  rfl
                                                                refine pure_ (i := 5) (N := some 75) (v := ?_) (a' := ?_) #[true, true, true, true, true, true, false, false, false, false, false, false, false, false, false, false, false, false] rfl rfl (any_of HT_.out (by kernel_rfl)) (fun _ _ _ h => h) (Or.inl ⟨by rfl, ?_⟩) ?_ ?_
                                                                rotate_left
                                                                · intro w'
                                                                  go_simp
                                                                  with_reducible rfl
                                                                rotate_left
                                                                · simp only [Act.put, List.setIfInBounds_toArray, List.set_cons_zero, List.set_cons_succ, i64_w, i32_w]
                                                                  rfl
                                                                refine take_ (i := 6) (N := some 76) (v := ?_) (a' := ?_) #[true, true, true, true, true, true, true, false, false, false, false, false, false, false, false, false, false, false] rfl rfl (take_ofW HT_.out HW_.out (by kernel_rfl)) (fun _ _ _ h => h) (Or.inl ⟨by rfl, ?_⟩) hHeld ?_ ?_
                                                                rotate_left
                                                                · intro w' s0
                                                                  go_simp
                                                                  with_reducible rfl
                                                                rotate_left
                                                                · simp only [Act.put, List.setIfInBounds_toArray, List.set_cons_zero, List.set_cons_succ, i64_w, i32_w]
                                                                  rfl
                                                                refine pure_ (i := 7) (N := some 77) (v := ?_) (a' := ?_) #[true, true, true, true, true, true, true, true, false, false, false, false, false, false, false, false, false, false] rfl rfl (any_of HT_.out (by kernel_rfl)) (fun _ _ _ h => h) (Or.inl ⟨by rfl, ?_⟩) ?_ ?_
                                                                rotate_left
                                                                · intro w'
                                                                  go_simp
                                                                  with_reducible rfl
                                                                rotate_left
                                                                · simp only [Act.put, List.setIfInBounds_toArray, List.set_cons_zero, List.set_cons_succ, i64_w, i32_w]
                                                                  rfl
                                                                refine pure_ (i := 8) (N := some 78) (v := undef) (a' := ?_) #[true, true, true, true, true, true, true, true, true, false, false, false, false, false, false, false, false, false] rfl rfl (any_of HT_.out (by kernel_rfl)) (fun _ _ _ h => h) (Or.inr ⟨by rfl, rfl⟩) ?_ ?_
                                                                rotate_left
                                                                · simp only [Act.put, List.setIfInBounds_toArray, List.set_cons_zero, List.set_cons_succ, i64_w, i32_w]
                                                                  rfl
                                                                refine pure_ (i := 9) (N := some 79) (v := undef) (a' := ?_) #[true, true, true, true, true, true, true, true, true, true, false, false, false, false, false, false, false, false] rfl rfl (any_of HT_.out (by kernel_rfl)) (fun _ _ _ h => h) (Or.inr ⟨by rfl, rfl⟩) ?_ ?_
                                                                rotate_left
                                                                · simp only [Act.put, List.setIfInBounds_toArray, List.set_cons_zero, List.set_cons_succ, i64_w, i32_w]
                                                                  rfl
                                                                refine pure_ (i := 10) (N := some 80) (v := undef) (a' := ?_) #[true, true, true, true, true, true, true, true, true, true, true, false, false, false, false, false, false, false] rfl rfl (any_of HT_.out (by kernel_rfl)) (fun _ _ _ h => h) (Or.inr ⟨by rfl, rfl⟩) ?_ ?_
                                                                rotate_left
                                                                · simp only [Act.put, List.setIfInBounds_toArray, List.set_cons_zero, List.set_cons_succ, i64_w, i32_w]
                                                                  rfl
                                                                refine pure_ (i := 11) (N := some 81) (v := undef) (a' := ?_) #[true, true, true, true, true, true, true, true, true, true, true, true, false, false, false, false, false, false] rfl rfl (any_of HT_.out (by kernel_rfl)) (fun _ _ _ h => h) (Or.inr ⟨by rfl, rfl⟩) ?_ ?_
                                                                rotate_left
                                                                · simp only [Act.put, List.setIfInBounds_toArray, List.set_cons_zero, List.set_cons_succ, i64_w, i32_w]
                                                                  rfl
                                                                refine pure_ (i := 12) (N := some 82) (v := undef) (a' := ?_) #[true, true, true, true, true, true, true, true, true, true, true, true, true, false, false, false, false, false] rfl rfl (any_of HT_.out (by kernel_rfl)) (fun _ _ _ h => h) (Or.inr ⟨by rfl, rfl⟩) ?_ ?_
                                                                rotate_left
                                                                · simp only [Act.put, List.setIfInBounds_toArray, List.set_cons_zero, List.set_cons_succ, i64_w, i32_w]
                                                                  rfl
                                                                refine pure_ (i := 13) (N := some 83) (v := undef) (a' := ?_) #[true, true, true, true, true, true, true, true, true, true, true, true, true, true, false, false, false, false] rfl rfl (any_of HT_.out (by kernel_rfl)) (fun _ _ _ h => h) (Or.inr ⟨by rfl, rfl⟩) ?_ ?_
                                                                rotate_left
                                                                · simp only [Act.put, List.setIfInBounds_toArray, List.set_cons_zero, List.set_cons_succ, i64_w, i32_w]
                                                                  rfl
                                                                refine pure_ (i := 14) (N := some 84) (v := undef) (a' := ?_) #[true, true, true, true, true, true, true, true, true, true, true, true, true, true, true, false, false, false] rfl rfl (any_of HT_.out (by kernel_rfl)) (fun _ _ _ h => h) (Or.inr ⟨by rfl, rfl⟩) ?_ ?_
                                                                rotate_left
                                                                · simp only [Act.put, List.setIfInBounds_toArray, List.set_cons_zero, List.set_cons_succ, i64_w, i32_w]
                                                                  rfl
                                                                refine pure_ (i := 15) (N := some 85) (v := ?_) (a' := ?_) #[true, true, true, true, true, true, true, true, true, true, true, true, true, true, true, true, false, false] rfl rfl (any_of HT_.out (by kernel_rfl)) (fun _ _ _ h => h) (Or.inl ⟨by rfl, ?_⟩) ?_ ?_
                                                                rotate_left
                                                                · intro w'
                                                                  go_simp
                                                                  with_reducible rfl
                                                                rotate_left
                                                                · simp only [Act.put, List.setIfInBounds_toArray, List.set_cons_zero, List.set_cons_succ, i64_w, i32_w]
                                                                  rfl
                                                                refine pure_ (i := 16) (N := some 86) (v := ?_) (a' := ?_) #[true, true, true, true, true, true, true, true, true, true, true, true, true, true, true, true, true, false] rfl rfl (any_of HT_.out (by kernel_rfl)) (fun _ _ _ h => h) (Or.inl ⟨by rfl, ?_⟩) ?_ ?_
                                                                rotate_left
                                                                · intro w'
                                                                  go_simp
                                                                  with_reducible rfl
                                                                rotate_left
                                                                · simp only [Act.put, List.setIfInBounds_toArray, List.set_cons_zero, List.set_cons_succ, i64_w, i32_w]
                                                                  rfl
                                                                refine last_ (i := 17) (N := none) #[true, true, true, true, true, true, true, true, true, true, true, true, true, true, true, true, true, true] rfl rfl (one_of HT_.out (by kernel_rfl)) (by decide) (fun K hK => ?_)
                                                                refine skip_ (w1 := ?_) (by rfl) rfl ?_ ?_
                                                                rotate_left
                                                                · go_simp
                                                                  rfl
                                                                refine hK.out _ _ ?_
                                                                clear hK K
                                                                refine done_ (done_of HT_.out (by kernel_rfl)) ?_
                                                                try go_wp2
                                                                go_roundg k6
                                                                case measure => have := HJ2.out; have := HK2.out; have := HJ17.out; have := HJ23.out; have := HJ28.out; have := HK6.out; omega
                                                                case rel => exact ⟨(y381), (ji130), (by first | rfl | (simp; done) | (simp only [← hji130] <;> (first | rfl | simp)) | (simp [*]; done)), H', ⟨by have := HJ2.out; have := HK2.out; have := HJ17.out; have := HJ23.out; have := HJ28.out; have := HK6.out; omega⟩, ⟨by (with_reducible repeat (first | apply Kd.R_alloc | apply Kd.R_drewN | apply Kd.R_drew)); exact Kd.R_mono (Kd.R_far (p := ⟨go133, ((ji130) : Int).toNat, none⟩) (Kd.R_mono HO_5.out (fun k_ hk => (⟨hk, fun e_ => hk (by rw [e_]; rfl)⟩ : _ ∧ k_ ≠ go133))) (fun _ hk => hk.2) (.bool false)) (fun _ hk => hk.1)⟩, ⟨by (with_reducible repeat (first | apply Kd.R_alloc | apply Kd.R_drewN | apply Kd.R_drew)); first | exact HQ136.out | exact Kd.R_mono HQ136.out (fun k_ h_ q_ => h_ (q_.trans (ownBlock_len _ _ _ _)))⟩, ⟨by repeat (first | (with_reducible first | exact HB.out | apply below_alloc | apply pw_below_drewN | apply below_drew1 | refine below_set ?_ GB133.out) | exact HB.out)⟩⟩
                                                              · rw [if_neg c132] at H
                                                                exact absurd H (by simp)
                                                            · rw [if_neg c131] at H
                                                              exact absurd H (by simp)
                                                        · rw [if_neg c117] at H
                                                          exact absurd H (by simp)
                                                      · rw [if_neg c116] at H
                                                        exact absurd H (by simp)
                                                  · rw [if_neg c93] at H
                                                    exact absurd H (by simp)
                                                · rw [if_neg c92] at H
                                                  exact absurd H (by simp)
                                          · rw [if_neg c43] at H
                                            have c43b0 : decide (x67_6 < (a1.size : Int)) = false := decide_eq_false c43
                                            clear c43
                                            have H' := Aside0.mk H
                                            clear H
                                            go_wp2
                                            go_roundg k6
                                            case measure => have := HJ2.out; have := HK2.out; have := HJ17.out; have := HJ23.out; have := HJ28.out; have := HK6.out; omega
                                            case rel => exact ⟨(x9_6), (wrap64 (x6_23 + 1)), (by first | rfl | (simp; done) | (simp [*]; done)), H', ⟨by have := HJ2.out; have := HK2.out; have := HJ17.out; have := HJ23.out; have := HJ28.out; have := HK6.out; omega⟩, ⟨by (with_reducible repeat (first | apply Kd.R_alloc | apply Kd.R_drewN | apply Kd.R_drew)); exact Kd.R_mono HO_9.out (fun _ hk => trivial)⟩, ⟨by repeat (first | (with_reducible first | exact HB.out | apply below_alloc | apply pw_below_drewN | apply below_drew1) | exact HB.out)⟩⟩
                                · rw [if_neg c28] at H
                                  exact absurd H (by simp)
                              · rw [if_neg c27] at H
                                exact absurd H (by simp)
                    · rw [if_neg c16] at H
                      exact absurd H (by simp)
                  · rw [if_neg c15] at H
                    have c15b0 : decide (x6_2 < (a0.size : Int)) = false := decide_eq_false c15
                    clear c15
                    by_cases c137 : 0 ≤ (a1.size : Int)
                    · rw [if_pos c137] at H
                      have c137b0 : decide (0 ≤ (a1.size : Int)) = true := decide_eq_true c137
                      have c137b1 : decide (0 ≤ a1.size) = true := decide_eq_true (by omega)
                      clear c137
                      by_cases c138 : (a1.size : Int) < (x5_2.length : Int)
                      · rw [if_pos c138] at H
                        have c138b0 : decide ((a1.size : Int) < (x5_2.length : Int)) = true := decide_eq_true c138
                        have c138b1 : decide (a1.size < x5_2.length) = true := decide_eq_true (Int.ofNat_lt.mp c138)
                        clear c138
                        obtain rfl := Option.some.inj H
                        obtain ⟨Ao139, co139, eo139⟩ := Kd.R_slice HO_5.out
                        subst eo139
                        have p360 : 0 ≤ ((a1.size : Int) : Int) := of_decide_eq_true (by assumption)
                        have q360 : (a1.size : Int) < (x5_2.length : Int) := of_decide_eq_true (by assumption)
                        obtain ⟨ad360, e360, hx360_0⟩ := Kd.at_bool (Kd.R_reads' HO_5.out).2.2 (a1.size : Int) p360 q360
                        cases e360
                        (try simp only [Go.IntWalk.toNatUp] at hx360_0)
                        replace p360 := eq_true p360
                        replace q360 := eq_true q360
                        go_wp2
                        go_ret
                        exact ⟨by first | rfl | (simp [errW_none, errW_some] <;> rfl) | (simp only [← hji6]; first | rfl | (simp [errW_none, errW_some] <;> rfl)) | (simp [*, errW_none, errW_some] <;> rfl), by repeat (first | (with_reducible first | exact HB.out | apply below_alloc | apply pw_below_drewN | apply below_drew1) | exact HB.out)⟩
                      · rw [if_neg c138] at H
                        exact absurd H (by simp)
                    · rw [if_neg c137] at H
                      exact absurd H (by simp)
            · rw [if_neg c9] at H
              exact absurd H (by simp)
          · rw [if_neg c8] at H
            exact absurd H (by simp)
        · rw [if_neg c7] at H
          exact absurd H (by simp)

end Go.Proofs.YtdjepilhenijeaaDoor.PFnGlob
