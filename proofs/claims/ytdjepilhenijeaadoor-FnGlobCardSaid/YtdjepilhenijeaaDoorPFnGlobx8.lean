-- PRINTED for this claim by a program of this session's repo over the kit's printer, with contracts of our own among the functions.
import Derived.Test.YtdjepilhenijeaaDoorPFnGlobx0
namespace Go.Proofs.YtdjepilhenijeaaDoor.PFnGlob
open Go.RowKit Go.Proofs.YtdjepilhenijeaaDoorW.PrintWords Go.Proofs.YtdjepilhenijeaaDoorW.PrintLast Go.Proofs.YtdjepilhenijeaaDoorW.PrintMore
attribute [local go_sem] max2_int min2_int max_two min_two max_three min_three max_four min_four   -- for this text's walks alone
set_option linter.unusedVariables false
set_option linter.unusedSimpArgs false

/-! ### spec_l02Glob: function 91 -/
mutual
def spec_l02Glob.l0 : Nat → ByteArray → ByteArray → List Bool → Int → Option (Bool)
  | 0, _, _, _, _ => none
  | k + 1, x0, x1, x5, x6 => if x6 < (x0.size : Int) then (if 0 ≤ (wrap64 ((x1.size : Int) + 1)) then (if (wrap64 ((x1.size : Int) + 1) : Int).toNat ≤ 281474976710656 then ((some (List.replicate (wrap64 ((x1.size : Int) + 1) : Int).toNat false : List Bool)).bind fun y387 => (if 0 ≤ x6 then (if (bt x0 x6) = 42 then (if (wrap64 (x6 + 1)) < (x0.size : Int) then (if 0 ≤ (wrap64 (x6 + 1)) then (spec_l02Glob.j1 k x0 x1 x5 x6 y387 ((bt x0 (wrap64 (x6 + 1))) == 42)) else (none)) else (spec_l02Glob.j1 k x0 x1 x5 x6 y387 false)) else (spec_l02Glob.j1 k x0 x1 x5 x6 y387 false)) else (none))) else (none)) else (none)) else (if 0 ≤ (x1.size : Int) then (if (x1.size : Int) < (x5.length : Int) then (some (rdOf false x5 (x1.size : Int))) else (none)) else (none))
def spec_l02Glob.j1 : Nat → ByteArray → ByteArray → List Bool → Int → List Bool → Bool → Option (Bool)
  | 0, _, _, _, _, _, _ => none
  | k + 1, x0, x1, x5, x6, x7, x8 => spec_l02Glob.l1 k x0 x1 x5 x6 x7 x8 0
def spec_l02Glob.l1 : Nat → ByteArray → ByteArray → List Bool → Int → List Bool → Bool → Int → Option (Bool)
  | 0, _, _, _, _, _, _, _ => none
  | k + 1, x0, x1, x5, x6, x7, x8, x9 => if x9 ≤ (x1.size : Int) then (if 0 ≤ x6 then (if x6 < (x0.size : Int) then (if (bt x0 x6) = 42 then (if 0 ≤ x9 then (if x9 < (x5.length : Int) then (if rdOf false x5 x9 = true then (if x9 < (x7.length : Int) then (spec_l02Glob.l1 k x0 x1 x5 x6 (x7.set (x9 : Int).toNat true) x8 (wrap64 (x9 + 1))) else (none)) else (if x9 > 0 then (if 0 ≤ (wrap64 (x9 - 1)) then (if (wrap64 (x9 - 1)) < (x7.length : Int) then (if rdOf false x7 (wrap64 (x9 - 1)) = true then (if x8 = true then (if x9 < (x7.length : Int) then (spec_l02Glob.l1 k x0 x1 x5 x6 (x7.set (x9 : Int).toNat true) x8 (wrap64 (x9 + 1))) else (none)) else (if (wrap64 (x9 - 1)) < (x1.size : Int) then (if x9 < (x7.length : Int) then (spec_l02Glob.l1 k x0 x1 x5 x6 (x7.set (x9 : Int).toNat ((bt x1 (wrap64 (x9 - 1))) != 47)) x8 (wrap64 (x9 + 1))) else (none)) else (none))) else (if x9 < (x7.length : Int) then (spec_l02Glob.l1 k x0 x1 x5 x6 (x7.set (x9 : Int).toNat false) x8 (wrap64 (x9 + 1))) else (none))) else (none)) else (none)) else (if x9 < (x7.length : Int) then (spec_l02Glob.l1 k x0 x1 x5 x6 (x7.set (x9 : Int).toNat false) x8 (wrap64 (x9 + 1))) else (none)))) else (none)) else (none)) else (if (bt x0 x6) = 63 then (if x9 > 0 then (if 0 ≤ (wrap64 (x9 - 1)) then (if (wrap64 (x9 - 1)) < (x5.length : Int) then (if rdOf false x5 (wrap64 (x9 - 1)) = true then (if (wrap64 (x9 - 1)) < (x1.size : Int) then (if 0 ≤ x9 then (if x9 < (x7.length : Int) then (spec_l02Glob.l1 k x0 x1 x5 x6 (x7.set (x9 : Int).toNat ((bt x1 (wrap64 (x9 - 1))) != 47)) x8 (wrap64 (x9 + 1))) else (none)) else (none)) else (none)) else (if 0 ≤ x9 then (if x9 < (x7.length : Int) then (spec_l02Glob.l1 k x0 x1 x5 x6 (x7.set (x9 : Int).toNat false) x8 (wrap64 (x9 + 1))) else (none)) else (none))) else (none)) else (none)) else (if 0 ≤ x9 then (if x9 < (x7.length : Int) then (spec_l02Glob.l1 k x0 x1 x5 x6 (x7.set (x9 : Int).toNat false) x8 (wrap64 (x9 + 1))) else (none)) else (none))) else (if x9 > 0 then (if 0 ≤ (wrap64 (x9 - 1)) then (if (wrap64 (x9 - 1)) < (x5.length : Int) then (if rdOf false x5 (wrap64 (x9 - 1)) = true then (if (wrap64 (x9 - 1)) < (x1.size : Int) then (if 0 ≤ x9 then (if x9 < (x7.length : Int) then (spec_l02Glob.l1 k x0 x1 x5 x6 (x7.set (x9 : Int).toNat ((bt x1 (wrap64 (x9 - 1))) == (bt x0 x6))) x8 (wrap64 (x9 + 1))) else (none)) else (none)) else (none)) else (if 0 ≤ x9 then (if x9 < (x7.length : Int) then (spec_l02Glob.l1 k x0 x1 x5 x6 (x7.set (x9 : Int).toNat false) x8 (wrap64 (x9 + 1))) else (none)) else (none))) else (none)) else (none)) else (if 0 ≤ x9 then (if x9 < (x7.length : Int) then (spec_l02Glob.l1 k x0 x1 x5 x6 (x7.set (x9 : Int).toNat false) x8 (wrap64 (x9 + 1))) else (none)) else (none))))) else (none)) else (none)) else (if x8 = true then (spec_l02Glob.l0 k x0 x1 x7 (wrap64 ((wrap64 (x6 + 1)) + 1))) else (spec_l02Glob.l0 k x0 x1 x7 (wrap64 (x6 + 1))))
end
def spec_l02Glob.f (k : Nat) (a0 : ByteArray) (a1 : ByteArray) : Option (Bool) := if 0 ≤ (wrap64 ((a1.size : Int) + 1)) then (if (wrap64 ((a1.size : Int) + 1) : Int).toNat ≤ 281474976710656 then ((some (List.replicate (wrap64 ((a1.size : Int) + 1) : Int).toNat false : List Bool)).bind fun y382 => (if 0 < (y382.length : Int) then (spec_l02Glob.l0 k a0 a1 (y382.set (0 : Int).toNat true) 0) else (none))) else (none)) else (none)
theorem spec_l02Glob.mono_l : ∀ k, (∀ y0 y1 y2 y3, LeO (spec_l02Glob.l0 k y0 y1 y2 y3) (spec_l02Glob.l0 (k + 1) y0 y1 y2 y3)) ∧ (∀ y0 y1 y2 y3 y4 y5, LeO (spec_l02Glob.j1 k y0 y1 y2 y3 y4 y5) (spec_l02Glob.j1 (k + 1) y0 y1 y2 y3 y4 y5)) ∧ (∀ y0 y1 y2 y3 y4 y5 y6, LeO (spec_l02Glob.l1 k y0 y1 y2 y3 y4 y5 y6) (spec_l02Glob.l1 (k + 1) y0 y1 y2 y3 y4 y5 y6))
  | 0 => ⟨fun _ _ _ _ r h => by simp [spec_l02Glob.l0] at h, fun _ _ _ _ _ _ r h => by simp [spec_l02Glob.j1] at h, fun _ _ _ _ _ _ _ r h => by simp [spec_l02Glob.l1] at h⟩
  | k + 1 => by
    obtain ⟨ih0, ih1, ih2⟩ := spec_l02Glob.mono_l k
    refine ⟨?_, ?_, ?_⟩
    · intro y0 y1 y2 y3
      unfold spec_l02Glob.l0
      repeat' first
      | (with_reducible exact ih0 _ _ _ _)
      | (with_reducible exact ih1 _ _ _ _ _ _)
      | (with_reducible exact ih2 _ _ _ _ _ _ _)
      | (with_reducible exact LeO.refl _)
      | (with_reducible exact LeO.none _)
      | (with_reducible refine LeO.ite ?_ ?_)
      | (with_reducible refine LeO.bind ?_ (fun _ => ?_))
      | exact ih0 _ _ _ _
      | exact ih1 _ _ _ _ _ _
      | exact ih2 _ _ _ _ _ _ _
      | exact LeO.none _
      | refine LeO.ite ?_ ?_
      | refine LeO.bind ?_ (fun _ => ?_)
    · intro y0 y1 y2 y3 y4 y5
      unfold spec_l02Glob.j1
      repeat' first
      | (with_reducible exact ih0 _ _ _ _)
      | (with_reducible exact ih1 _ _ _ _ _ _)
      | (with_reducible exact ih2 _ _ _ _ _ _ _)
      | (with_reducible exact LeO.refl _)
      | (with_reducible exact LeO.none _)
      | (with_reducible refine LeO.ite ?_ ?_)
      | (with_reducible refine LeO.bind ?_ (fun _ => ?_))
      | exact ih0 _ _ _ _
      | exact ih1 _ _ _ _ _ _
      | exact ih2 _ _ _ _ _ _ _
      | exact LeO.none _
      | refine LeO.ite ?_ ?_
      | refine LeO.bind ?_ (fun _ => ?_)
    · intro y0 y1 y2 y3 y4 y5 y6
      unfold spec_l02Glob.l1
      repeat' first
      | (with_reducible exact ih0 _ _ _ _)
      | (with_reducible exact ih1 _ _ _ _ _ _)
      | (with_reducible exact ih2 _ _ _ _ _ _ _)
      | (with_reducible exact LeO.refl _)
      | (with_reducible exact LeO.none _)
      | (with_reducible refine LeO.ite ?_ ?_)
      | (with_reducible refine LeO.bind ?_ (fun _ => ?_))
      | exact ih0 _ _ _ _
      | exact ih1 _ _ _ _ _ _
      | exact ih2 _ _ _ _ _ _ _
      | exact LeO.none _
      | refine LeO.ite ?_ ?_
      | refine LeO.bind ?_ (fun _ => ?_)
theorem spec_l02Glob.mono : ∀ a0 a1 k, LeO (spec_l02Glob.f k a0 a1) (spec_l02Glob.f (k + 1) a0 a1) := by
  intro a0 a1 k
  obtain ⟨ih0, ih1, ih2⟩ := spec_l02Glob.mono_l k
  unfold spec_l02Glob.f
  repeat' first
      | (with_reducible exact ih0 _ _ _ _)
      | (with_reducible exact ih1 _ _ _ _ _ _)
      | (with_reducible exact ih2 _ _ _ _ _ _ _)
      | (with_reducible exact LeO.refl _)
      | (with_reducible exact LeO.none _)
      | (with_reducible refine LeO.ite ?_ ?_)
      | (with_reducible refine LeO.bind ?_ (fun _ => ?_))
      | exact ih0 _ _ _ _
      | exact ih1 _ _ _ _ _ _
      | exact ih2 _ _ _ _ _ _ _
      | exact LeO.none _
      | refine LeO.ite ?_ ?_
      | refine LeO.bind ?_ (fun _ => ?_)
def spec_l02Glob.T11 : Bool × List (List Nat × List Nat) := (true, [([], []), ([], []), ([], []), ([2], [2]), ([3], [3]), ([4], [4]), ([4], [4]), ([6, 4], [4, 6]), ([5, 7, 4], [4, 5, 7]), ([8, 4], [4, 8]), ([4, 9], [4, 9]), ([10, 4], [10]), ([11], [11]), ([11], [11]), ([13, 11], [11, 13]), ([12, 14, 11], [11, 12, 14]), ([11], [11]), ([11], [11]), ([16, 17, 11], [11, 16, 17]), ([15, 18, 11], [11, 15, 18]), ([11, 19], [11, 19]), ([0, 1, 0, 1, 2, 3, 4, 5, 6, 7, 8, 9, 10, 11, 12, 13, 14, 15, 16, 17, 18, 19, 20], [0, 1]), ([21, 20, 11, 0, 1, 2, 3, 4, 5, 6, 7, 8, 9, 10, 11, 12, 13, 14, 15, 16, 17, 18, 19, 20], [20, 21])])
def spec_l02Glob.B11 : List Nat := [0, 0, 0, 4, 12, 28, 28, 92, 252, 508, 1020, 2044, 4092, 4092, 12284, 32764, 4092, 4092, 200700, 524284, 1048572, 2097151, 4194303]
theorem spec_l02Glob.tab11 : rtab .any (opsOf Tryd.f91 11) = spec_l02Glob.T11 := by kernel_rfl
theorem spec_l02Glob.bits11 : waitsOk spec_l02Glob.T11.2 spec_l02Glob.B11 = true := by kernel_rfl
set_option maxHeartbeats 8000000 in
set_option maxRecDepth 100000 in
theorem spec_l02Glob.calls (k : Nat) (a0 : ByteArray) (a1 : ByteArray) (r : Bool) (w : World) (h : spec_l02Glob.f k a0 a1 = some r) :
    Calls Tryd.prog 91 #[.string a0, .string a1] w fun e w' => e = .returned (.bool r) ∧ Below w.heap.size w w' := by
  have HB := Aside0.mk (Below.refl w.heap.size w)
  have H : (if 0 ≤ (wrap64 ((a1.size : Int) + 1)) then (if (wrap64 ((a1.size : Int) + 1) : Int).toNat ≤ 281474976710656 then ((some (List.replicate (wrap64 ((a1.size : Int) + 1) : Int).toNat false : List Bool)).bind fun y382 => (if 0 < (y382.length : Int) then (spec_l02Glob.l0 k a0 a1 (y382.set (0 : Int).toNat true) 0) else (none))) else (none)) else (none)) = some r := h
  clear h
  obtain ⟨ji3, hji3⟩ : ∃ j_ : Int, (wrap64 ((a1.size : Int) + 1)) = j_ := ⟨_, rfl⟩
  replace H : (if 0 ≤ (ji3) then (if (ji3 : Int).toNat ≤ 281474976710656 then ((some (List.replicate (ji3 : Int).toNat false : List Bool)).bind fun y382 => (if 0 < (y382.length : Int) then (spec_l02Glob.l0 k a0 a1 (y382.set (0 : Int).toNat true) 0) else (none))) else (none)) else (none)) = some r := by first | (rw [hji3] at H; exact H) | (simp only [hji3] at H ⊢; exact H)
  have hji3w : (IntKind.i64.wrap ((a1.size : Int) + 1)) = ji3 := (i64_w _).trans hji3
  by_cases c4 : 0 ≤ (ji3)
  · rw [if_pos c4] at H
    have c4b0 := eq_true c4
    have c4b1 : decide (0 ≤ (ji3)) = true := decide_eq_true c4
    clear c4
    by_cases c5 : (ji3 : Int).toNat ≤ 281474976710656
    · rw [if_pos c5] at H
      have c5b0 := eq_true c5
      have c5b1 : decide ((ji3 : Int).toNat ≤ 281474976710656) = true := decide_eq_true c5
      clear c5
      obtain ⟨y382, hy382⟩ : ∃ y_ : List Bool, y_ = (List.replicate (ji3 : Int).toNat false) := ⟨_, rfl⟩
      replace H : (if 0 < (y382.length : Int) then (spec_l02Glob.l0 k a0 a1 (y382.set (0 : Int).toNat true) 0) else (none)) = some r := by first | (rw [hy382]; with_reducible exact H) | (have H2_ := (Option.bind_some _ _).symm.trans H; rw [hy382]; with_reducible exact H2_) | (have H2_ := (Option.bind_some _ _).symm.trans H; with_reducible exact H2_) | with_reducible exact H | (rw [hy382]; exact H) | exact H
      have Ny382 := Aside0.mk hy382
      clear hy382
      by_cases c6 : 0 < (y382.length : Int)
      · rw [if_pos c6] at H
        have c6b0 : decide (0 < (y382.length : Int)) = true := decide_eq_true c6
        have c6b1 : decide (0 < y382.length) = true := decide_eq_true (by omega)
        clear c6
        obtain ⟨y385, hy385⟩ : ∃ y_ : List Bool, y_ = (y382.set (0 : Int).toNat true) := ⟨_, rfl⟩
        replace H : (spec_l02Glob.l0 k a0 a1 y385 0) = some r := by first | (rw [hy385]; with_reducible exact H) | (have H2_ := (Option.bind_some _ _).symm.trans H; rw [hy385]; with_reducible exact H2_) | (have H2_ := (Option.bind_some _ _).symm.trans H; with_reducible exact H2_) | with_reducible exact H | (rw [hy385]; exact H) | exact H
        have Ny385 := Aside0.mk hy385
        clear hy385
        have H' := Aside0.mk H
        clear H
        go_enter Tryd.func91, Tryd.ntmps91
        go_wp2_with (first | ((with_reducible refine gate_dst (N := 13) rfl ?_); (try (refine gate_guard (by rfl) ?_; dsimp only)); refine Kd.R_make Kd.bool _ 4 rfl (N := 13) rfl 65 _ _ rfl ji3 rfl rfl Tryd.underlying65 (.bool false) 1 info4 rfl (by decide) (by omega) false (ok := fun _ => True) (okp := fun _ => True) rfl (fun _ hk => hk) trivial (of_decide_eq_true (by assumption)) (Nat.le_trans (Nat.mul_le_mul_right _ (of_decide_eq_true (by assumption) : ji3.toNat ≤ 281474976710656)) (by omega)) (Below.refl _ _) (Nat.le_refl _) ?_; intro v383 w8 ho9 hb hg_ hnew_; clear hg_ hnew_; (first | rw [← Ny382.out] at ho9 | (simp only [Int.reduceToNat] at ho9; rw [← Ny382.out] at ho9)); have n0_ := Aside0.mk (Kd.R_lower ho9 (below_size (by repeat (first | (with_reducible first | exact HB.out | apply below_alloc | apply pw_below_drewN | apply below_drew1) | exact HB.out)))); have n1_ := Aside0.mk (below_step (by repeat (first | (with_reducible first | exact HB.out | apply below_alloc | apply pw_below_drewN | apply below_drew1) | exact HB.out)) hb); clear HB; have HO384 := n0_; have HB := n1_; clear n0_ n1_; clear hb ho9; have p7 : 0 ≤ (0 : Int) := (by omega); have q7 : (0 : Int) < ((y382.length : Int) : Int) := of_decide_eq_true (by assumption); have qi7 : (0 < y382.length) = True := eq_true (by omega); obtain ⟨go7, co7, eo7, gb7, gl7, cl7, HG7⟩ := Kd.R_form HO384.out (by omega); (first | cases eo7 | (injection eo7 with ea_ en_ ec_; (first | subst ea_ | (injection ea_ with ea_; subst ea_)); subst ec_; clear en_)); have GB7 := Aside0.mk gb7; have GG7 := Aside0.mk HG7; clear gb7 gl7 HG7; obtain ⟨hx7_0, hf7_0⟩ := Kd.R_celln false HO384.out (0 : Int) p7 q7; (try rw [show ((0 : Int)).toNat = 0 from rfl] at hx7_0); (try simp only [Nat.reduceMul, Nat.zero_mul, Nat.zero_add, Nat.reduceAdd] at hx7_0); (try rw [show ((0 : Int)).toNat = 0 from rfl] at hf7_0); (try simp only [Nat.reduceMul, Nat.zero_mul, Nat.zero_add, Nat.reduceAdd] at hf7_0); replace p7 := eq_true p7; replace q7 := eq_true q7; obtain ⟨hy10_, hz10_⟩ := Kd.R_celln false HO384.out (0 : Int) (by omega) (of_decide_eq_true (by assumption)); (try simp only [Int.reduceToNat, Int.toNat_zero, Int.toNat_ofNat, Nat.reduceMul, Nat.zero_mul, Nat.zero_add] at hy10_ hz10_); (try rw [show ((0 : Int)).toNat = 0 from rfl] at hy10_); (try rw [show ((0 : Int)).toNat = 0 from rfl] at hz10_); have HP10 := Kd.R_putg HO384.out (0 : Int) true) | ((with_reducible refine gate_store (t := 4) (p := 15) rfl ?_); refine store_event (t := 4) (p := 15) (v := ?vo_w11) (w1 := (w8.setCell ⟨go7, (0 : Int).toNat, none⟩ (.bool true))) ?hg ?ho ?hn ?hr ?_; (case ho => rfl); (case hg => rfl); (case hn => rfl); (case hr => first | (go_simp; done) | (go_simp; rfl)); intro w11 hw; have hg : w8.grownBy w11 (some go7) := (by rw [hw]; exact HP10.2); have hp_ : Kd.R Kd.bool 4 w11 w.heap.size (fun _ => True) (.slice (some ⟨go7, 0, none⟩) y382.length co7) y385 := (by rw [hw, Ny385.out]; exact HP10.1); clear HP10; have n0_ := Aside0.mk (hp_); have n1_ := Aside0.mk ((by rw [hw]; exact below_set (HB.out) GB7.out : Below w.heap.size w w11)); clear HO384; clear HB; have HO384 := n0_; have HB := n1_; clear n0_ n1_; clear hg hw hp_))
        go_loopg [5, 6] k (fun kq v5 v6 w' => ∃ (x5_1 : List Bool) (x6_1 : Int), v6 = .int .i64 x6_1 ∧ Aside0 (spec_l02Glob.l0 kq a0 a1 x5_1 x6_1 = some r) ∧ Aside0 (kq ≤ k) ∧ Aside0 (Kd.R Kd.bool 4 w' w.heap.size (fun _ => True) v5 x5_1) ∧ Aside0 (Below w.heap.size w w'))
        case atStart => exact ⟨(y385), (0), (by first | rfl | (simp; done) | (simp [*]; done)), H', ⟨Nat.le_refl _⟩, ⟨by (with_reducible repeat (first | apply Kd.R_alloc | apply Kd.R_drewN | apply Kd.R_drew)); first | exact HO384.out | exact Kd.R_mono HO384.out (fun k_ h_ q_ => h_ (q_.trans (ownBlock_len _ _ _ _)))⟩, ⟨by repeat (first | (with_reducible first | exact HB.out | apply below_alloc | apply pw_below_drewN | apply below_drew1) | exact HB.out)⟩⟩
        case round =>
          try clear hji3w
          try clear hji3
          clear H'
          try clear p2
          try clear c4
          try clear c4b0
          try clear c4b1
          try clear c5
          try clear c5b0
          try clear c5b1
          try clear c6
          try clear c6b0
          try clear c6b1
          try clear p6
          try clear p7
          try clear q7
          try clear hx7
          try clear qi7
          try clear hf7
          try clear c9
          try clear hx7_0
          try clear p7
          try clear q7
          obtain ⟨x5_1, x6_1, rfl, HA, HK1, HO_5, HB⟩ := hrel
          cases gk with
          | zero => exact absurd HA.out (by simp [spec_l02Glob.l0])
          | succ k1 =>
            have H := HA.out
            clear HA
            simp only [spec_l02Glob.l0] at H
            by_cases c12 : x6_1 < (a0.size : Int)
            · rw [if_pos c12] at H
              have c12b0 : decide (x6_1 < (a0.size : Int)) = true := decide_eq_true c12
              clear c12
              obtain ⟨ji13, hji13⟩ : ∃ j_ : Int, (wrap64 ((a1.size : Int) + 1)) = j_ := ⟨_, rfl⟩
              replace H : (if 0 ≤ (ji13) then (if (ji13 : Int).toNat ≤ 281474976710656 then ((some (List.replicate (ji13 : Int).toNat false : List Bool)).bind fun y387 => (if 0 ≤ x6_1 then (if (bt a0 x6_1) = 42 then (if (wrap64 (x6_1 + 1)) < (a0.size : Int) then (if 0 ≤ (wrap64 (x6_1 + 1)) then (spec_l02Glob.j1 k1 a0 a1 x5_1 x6_1 y387 ((bt a0 (wrap64 (x6_1 + 1))) == 42)) else (none)) else (spec_l02Glob.j1 k1 a0 a1 x5_1 x6_1 y387 false)) else (spec_l02Glob.j1 k1 a0 a1 x5_1 x6_1 y387 false)) else (none))) else (none)) else (none)) = some r := by first | (rw [hji13] at H; exact H) | (simp only [hji13] at H ⊢; exact H)
              have hji13w : (IntKind.i64.wrap ((a1.size : Int) + 1)) = ji13 := (i64_w _).trans hji13
              by_cases c14 : 0 ≤ (ji13)
              · rw [if_pos c14] at H
                have c14b0 := eq_true c14
                have c14b1 : decide (0 ≤ (ji13)) = true := decide_eq_true c14
                clear c14
                by_cases c15 : (ji13 : Int).toNat ≤ 281474976710656
                · rw [if_pos c15] at H
                  have c15b0 := eq_true c15
                  have c15b1 : decide ((ji13 : Int).toNat ≤ 281474976710656) = true := decide_eq_true c15
                  clear c15
                  obtain ⟨y387, hy387⟩ : ∃ y_ : List Bool, y_ = (List.replicate (ji13 : Int).toNat false) := ⟨_, rfl⟩
                  replace H : (if 0 ≤ x6_1 then (if (bt a0 x6_1) = 42 then (if (wrap64 (x6_1 + 1)) < (a0.size : Int) then (if 0 ≤ (wrap64 (x6_1 + 1)) then (spec_l02Glob.j1 k1 a0 a1 x5_1 x6_1 y387 ((bt a0 (wrap64 (x6_1 + 1))) == 42)) else (none)) else (spec_l02Glob.j1 k1 a0 a1 x5_1 x6_1 y387 false)) else (spec_l02Glob.j1 k1 a0 a1 x5_1 x6_1 y387 false)) else (none)) = some r := by first | (rw [hy387]; with_reducible exact H) | (have H2_ := (Option.bind_some _ _).symm.trans H; rw [hy387]; with_reducible exact H2_) | (have H2_ := (Option.bind_some _ _).symm.trans H; with_reducible exact H2_) | with_reducible exact H | (rw [hy387]; exact H) | exact H
                  have Ny387 := Aside0.mk hy387
                  clear hy387
                  have HC16 := Aside0.mk H
                  clear H
                  go_upto_region 7 with (first | ((with_reducible refine gate_dst (N := 25) rfl ?_); (try (refine gate_guard (by rfl) ?_; dsimp only)); refine Kd.R_make Kd.bool _ 4 rfl (N := 25) rfl 65 _ _ rfl ji13 rfl rfl Tryd.underlying65 (.bool false) 1 info4 rfl (by decide) (by omega) false (ok := fun _ => True) (okp := fun _ => True) rfl (fun _ hk => hk) trivial (of_decide_eq_true (by assumption)) (Nat.le_trans (Nat.mul_le_mul_right _ (of_decide_eq_true (by assumption) : ji13.toNat ≤ 281474976710656)) (by omega)) (Below.refl _ _) (Nat.le_refl _) ?_; intro v388 w17 ho18 hb hg_ hnew_; clear hg_ hnew_; (first | rw [← Ny387.out] at ho18 | (simp only [Int.reduceToNat] at ho18; rw [← Ny387.out] at ho18)); have n0_ := Aside0.mk (Kd.R_elder' (by (with_reducible repeat (first | apply Kd.R_alloc | apply Kd.R_drewN | apply Kd.R_drew)); exact HO_5.out) (Kd.R_base ho18) hb); have n1_ := Aside0.mk (Kd.R_lower (Kd.R_new' ho18 (Kd.R_lt (by (with_reducible repeat (first | apply Kd.R_alloc | apply Kd.R_drewN | apply Kd.R_drew)); exact HO_5.out))) (below_size (by repeat (first | (with_reducible first | exact HB.out | apply below_alloc | apply pw_below_drewN | apply below_drew1) | exact HB.out)))); have n2_ := Aside0.mk (below_step (by repeat (first | (with_reducible first | exact HB.out | apply below_alloc | apply pw_below_drewN | apply below_drew1) | exact HB.out)) hb); clear HO_5; clear HB; have HO_5 := n0_; have HO389 := n1_; have HB := n2_; clear n0_ n1_ n2_; clear hb ho18))
                  (try simp only [Act.put, List.setIfInBounds_toArray, List.set_cons_zero, List.set_cons_succ])
                  go_cut [8] (fun v8 wc => ∃ (kq : Nat) (x8_15 : Bool), v8 = .bool x8_15 ∧ Aside0 (spec_l02Glob.j1 kq a0 a1 x5_1 x6_1 y387 x8_15 = some r) ∧ Aside0 (kq ≤ k1) ∧ Aside0 (Kd.R Kd.bool 4 wc w.heap.size (fun k_ => some k_ ≠ (v388 : Value).ownBlock) u5 x5_1) ∧ Aside0 (Kd.R Kd.bool 4 wc w.heap.size (fun k_ => some k_ ≠ (u5 : Value).ownBlock) v388 y387) ∧ Aside0 (Below w.heap.size w wc))
                  case first =>
                    have H := HC16.out
                    clear HC16
                    by_cases c19 : 0 ≤ x6_1
                    · rw [if_pos c19] at H
                      have c19b0 : decide (0 ≤ x6_1) = true := decide_eq_true c19
                      clear c19
                      (first | rw [c19b0] | (simp only [i64_w, i32_w]; rw [c19b0]) | skip)
                      by_cases c21 : (bt a0 x6_1) = 42
                      · rw [if_pos c21] at H
                        have c21b0 : ((bt a0 x6_1) == 42) = true := beq_iff_eq.mpr c21
                        have c21b1 : ((bt a0 x6_1) != 42) = false := bne_eq_false_iff_eq.mpr c21
                        clear c21
                        by_cases c22 : (wrap64 (x6_1 + 1)) < (a0.size : Int)
                        · rw [if_pos c22] at H
                          have c22b0 : decide ((wrap64 (x6_1 + 1)) < (a0.size : Int)) = true := decide_eq_true c22
                          clear c22
                          obtain ⟨ji23, hji23⟩ : ∃ j_ : Int, (wrap64 (x6_1 + 1)) = j_ := ⟨_, rfl⟩
                          replace H : (if 0 ≤ (ji23) then (spec_l02Glob.j1 k1 a0 a1 x5_1 x6_1 y387 ((bt a0 (ji23)) == 42)) else (none)) = some r := by first | (rw [hji23] at H; exact H) | (simp only [hji23] at H ⊢; exact H)
                          (try rw [hji23] at c22b0)
                          have hji23w : (IntKind.i64.wrap (x6_1 + 1)) = ji23 := (i64_w _).trans hji23
                          by_cases c24 : 0 ≤ (ji23)
                          · rw [if_pos c24] at H
                            have c24b0 : decide (0 ≤ (ji23)) = true := decide_eq_true c24
                            clear c24
                            have H' := Aside0.mk H
                            clear H
                            have p20 : 0 ≤ (x6_1 : Int) := of_decide_eq_true (by assumption)
                            have q20 : x6_1 < (a0.size : Int) := of_decide_eq_true (by assumption)
                            have hx20 := bt_at a0 x6_1
                            replace p20 := eq_true p20
                            replace q20 := eq_true q20
                            have p25 : 0 ≤ ((ji23) : Int) := of_decide_eq_true (by assumption)
                            have q25 : (ji23) < (a0.size : Int) := of_decide_eq_true (by assumption)
                            have hx25 := bt_at a0 (ji23)
                            replace p25 := eq_true p25
                            replace q25 := eq_true q25
                            go_wp2
                            go_meet
                            case rel => exact ⟨_, (((bt a0 (ji23)) == 42)), (by first | rfl | (simp; done) | (simp only [← hji23] <;> (first | rfl | simp)) | (simp [*]; done)), H', ⟨by have := HK1.out; first | omega | exact Nat.le_refl _⟩, ⟨by (with_reducible repeat (first | apply Kd.R_alloc | apply Kd.R_drewN | apply Kd.R_drew)); exact Kd.R_mono HO_5.out (fun _ hk => hk.2)⟩, ⟨by (with_reducible repeat (first | apply Kd.R_alloc | apply Kd.R_drewN | apply Kd.R_drew)); exact Kd.R_mono HO389.out (fun _ hk => hk.2)⟩, ⟨by repeat (first | (with_reducible first | exact HB.out | apply below_alloc | apply pw_below_drewN | apply below_drew1) | exact HB.out)⟩⟩
                          · rw [if_neg c24] at H
                            exact absurd H (by simp)
                        · rw [if_neg c22] at H
                          have c22b0 : decide ((wrap64 (x6_1 + 1)) < (a0.size : Int)) = false := decide_eq_false c22
                          clear c22
                          have H' := Aside0.mk H
                          clear H
                          have p20 : 0 ≤ (x6_1 : Int) := of_decide_eq_true (by assumption)
                          have q20 : x6_1 < (a0.size : Int) := of_decide_eq_true (by assumption)
                          have hx20 := bt_at a0 x6_1
                          replace p20 := eq_true p20
                          replace q20 := eq_true q20
                          go_wp2
                          go_meet
                          case rel => exact ⟨_, (false), (by first | rfl | (simp; done) | (simp [*]; done)), H', ⟨by have := HK1.out; first | omega | exact Nat.le_refl _⟩, ⟨by (with_reducible repeat (first | apply Kd.R_alloc | apply Kd.R_drewN | apply Kd.R_drew)); exact Kd.R_mono HO_5.out (fun _ hk => hk.2)⟩, ⟨by (with_reducible repeat (first | apply Kd.R_alloc | apply Kd.R_drewN | apply Kd.R_drew)); exact Kd.R_mono HO389.out (fun _ hk => hk.2)⟩, ⟨by repeat (first | (with_reducible first | exact HB.out | apply below_alloc | apply pw_below_drewN | apply below_drew1) | exact HB.out)⟩⟩
                      · rw [if_neg c21] at H
                        have c21b0 : ((bt a0 x6_1) == 42) = false := beq_eq_false_iff_ne.mpr c21
                        have c21b1 : ((bt a0 x6_1) != 42) = true := bne_iff_ne.mpr c21
                        have H' := Aside0.mk H
                        clear H
                        have p20 : 0 ≤ (x6_1 : Int) := of_decide_eq_true (by assumption)
                        have q20 : x6_1 < (a0.size : Int) := of_decide_eq_true (by assumption)
                        have hx20 := bt_at a0 x6_1
                        replace p20 := eq_true p20
                        replace q20 := eq_true q20
                        go_wp2
                        go_meet
                        case rel => exact ⟨_, (false), (by first | rfl | (simp; done) | (simp [*]; done)), H', ⟨by have := HK1.out; first | omega | exact Nat.le_refl _⟩, ⟨by (with_reducible repeat (first | apply Kd.R_alloc | apply Kd.R_drewN | apply Kd.R_drew)); exact Kd.R_mono HO_5.out (fun _ hk => hk.2)⟩, ⟨by (with_reducible repeat (first | apply Kd.R_alloc | apply Kd.R_drewN | apply Kd.R_drew)); exact Kd.R_mono HO389.out (fun _ hk => hk.2)⟩, ⟨by repeat (first | (with_reducible first | exact HB.out | apply below_alloc | apply pw_below_drewN | apply below_drew1) | exact HB.out)⟩⟩
                    · rw [if_neg c19] at H
                      exact absurd H (by simp)
                  case rest =>
                    try clear hji3w
                    try clear hji3
                    try clear hji13w
                    try clear hji13
                    clear HC16
                    try clear c1
                    try clear c2
                    try clear p2
                    try clear q2
                    try clear hx2
                    try clear c4
                    try clear c4b0
                    try clear c4b1
                    try clear c5
                    try clear c5b0
                    try clear c5b1
                    try clear c6
                    try clear c6b0
                    try clear c6b1
                    try clear p6
                    try clear p7
                    try clear q7
                    try clear hx7
                    try clear qi7
                    try clear hf7
                    try clear c9
                    try clear c12
                    try clear c12b0
                    try clear c14
                    try clear c14b0
                    try clear c14b1
                    try clear c15
                    try clear c15b0
                    try clear c15b1
                    try clear c19
                    try clear c19b0
                    try clear p20
                    try clear q20
                    try clear hx20
                    try clear c21
                    try clear c21b0
                    try clear c21b1
                    try clear c22
                    try clear c22b0
                    try clear c24
                    try clear c24b0
                    try clear p25
                    try clear q25
                    try clear hx25
                    try clear hx7_0
                    try clear p2
                    try clear p20
                    try clear p25
                    try clear p6
                    try clear p7
                    try clear q20
                    try clear q25
                    try clear q7
                    obtain ⟨kq, x8_15, rfl, HA, HJ15, HO_5, HO_7, HB⟩ := hcut
                    cases kq with
                    | zero => exact absurd HA.out (by simp [spec_l02Glob.j1])
                    | succ kj15 =>
                      have H := HA.out
                      clear HA
                      simp only [spec_l02Glob.j1] at H
                      have H' := Aside0.mk H
                      clear H
                      go_wp2
                      go_loopg [9] kj15 (fun kq v9 w' => ∃ (x7_3 : List Bool) (x9_3 : Int), v9 = .int .i64 x9_3 ∧ Aside0 (spec_l02Glob.l1 kq a0 a1 x5_1 x6_1 x7_3 x8_15 x9_3 = some r) ∧ Aside0 (kq ≤ kj15) ∧ Aside0 (Kd.R Kd.bool 4 w' w.heap.size (fun k_ => some k_ ≠ (v388 : Value).ownBlock) u5 x5_1) ∧ Aside0 (Kd.R Kd.bool 4 w' w.heap.size (fun k_ => some k_ ≠ (u5 : Value).ownBlock) v388 x7_3) ∧ Aside0 (Below w.heap.size w w'))
                      case atStart => exact ⟨(y387), (0), (by first | rfl | (simp; done) | (simp [*]; done)), H', ⟨Nat.le_refl _⟩, ⟨by (with_reducible repeat (first | apply Kd.R_alloc | apply Kd.R_drewN | apply Kd.R_drew)); first | exact HO_5.out | exact Kd.R_mono HO_5.out (fun k_ h_ q_ => h_ (q_.trans (ownBlock_len _ _ _ _)))⟩, ⟨by (with_reducible repeat (first | apply Kd.R_alloc | apply Kd.R_drewN | apply Kd.R_drew)); first | exact HO_7.out | exact Kd.R_mono HO_7.out (fun k_ h_ q_ => h_ (q_.trans (ownBlock_len _ _ _ _)))⟩, ⟨by repeat (first | (with_reducible first | exact HB.out | apply below_alloc | apply pw_below_drewN | apply below_drew1) | exact HB.out)⟩⟩
                      case round =>
                        try clear hji3w
                        try clear hji3
                        try clear hji13w
                        try clear hji13
                        clear H'
                        try clear c1
                        try clear c2
                        try clear p2
                        try clear q2
                        try clear hx2
                        try clear c4
                        try clear c4b0
                        try clear c4b1
                        try clear c5
                        try clear c5b0
                        try clear c5b1
                        try clear c6
                        try clear c6b0
                        try clear c6b1
                        try clear p6
                        try clear p7
                        try clear q7
                        try clear hx7
                        try clear qi7
                        try clear hf7
                        try clear c9
                        try clear c12
                        try clear c12b0
                        try clear c14
                        try clear c14b0
                        try clear c14b1
                        try clear c15
                        try clear c15b0
                        try clear c15b1
                        try clear c19
                        try clear c19b0
                        try clear p20
                        try clear q20
                        try clear hx20
                        try clear c21
                        try clear c21b0
                        try clear c21b1
                        try clear c22
                        try clear c22b0
                        try clear c24
                        try clear c24b0
                        try clear p25
                        try clear q25
                        try clear hx25
                        try clear hx7_0
                        try clear p2
                        try clear p20
                        try clear p25
                        try clear p6
                        try clear p7
                        try clear q2
                        try clear q20
                        try clear q25
                        try clear q7
                        obtain ⟨x7_3, x9_3, rfl, HA, HK3, HO_5, HO_7, HB⟩ := hrel
                        cases gk with
                        | zero => exact absurd HA.out (by simp [spec_l02Glob.l1])
                        | succ k3 =>
                          have H := HA.out
                          clear HA
                          simp only [spec_l02Glob.l1] at H
                          by_cases c26 : x9_3 ≤ (a1.size : Int)
                          · rw [if_pos c26] at H
                            have c26b0 : decide (x9_3 ≤ (a1.size : Int)) = true := decide_eq_true c26
                            clear c26
                            by_cases c27 : 0 ≤ x6_1
                            · rw [if_pos c27] at H
                              have c27b0 : decide (0 ≤ x6_1) = true := decide_eq_true c27
                              clear c27
                              by_cases c28 : x6_1 < (a0.size : Int)
                              · rw [if_pos c28] at H
                                have c28b0 : decide (x6_1 < (a0.size : Int)) = true := decide_eq_true c28
                                clear c28
                                by_cases c30 : (bt a0 x6_1) = 42
                                · rw [if_pos c30] at H
                                  have c30b0 : ((bt a0 x6_1) == 42) = true := beq_iff_eq.mpr c30
                                  have c30b1 : ((bt a0 x6_1) != 42) = false := bne_eq_false_iff_eq.mpr c30
                                  clear c30
                                  by_cases c31 : 0 ≤ x9_3
                                  · rw [if_pos c31] at H
                                    have c31b0 : decide (0 ≤ x9_3) = true := decide_eq_true c31
                                    clear c31
                                    by_cases c32 : x9_3 < (x5_1.length : Int)
                                    · rw [if_pos c32] at H
                                      have c32b0 : decide (x9_3 < (x5_1.length : Int)) = true := decide_eq_true c32
                                      clear c32
                                      obtain ⟨bq33, hbq33⟩ : ∃ b_ : Bool, b_ = (rdOf false x5_1 x9_3) := ⟨_, rfl⟩
                                      replace H : (if bq33 = true then (if x9_3 < (x7_3.length : Int) then (spec_l02Glob.l1 k3 a0 a1 x5_1 x6_1 (x7_3.set (x9_3 : Int).toNat true) x8_15 (wrap64 (x9_3 + 1))) else (none)) else (if x9_3 > 0 then (if 0 ≤ (wrap64 (x9_3 - 1)) then (if (wrap64 (x9_3 - 1)) < (x7_3.length : Int) then (if rdOf false x7_3 (wrap64 (x9_3 - 1)) = true then (if x8_15 = true then (if x9_3 < (x7_3.length : Int) then (spec_l02Glob.l1 k3 a0 a1 x5_1 x6_1 (x7_3.set (x9_3 : Int).toNat true) x8_15 (wrap64 (x9_3 + 1))) else (none)) else (if (wrap64 (x9_3 - 1)) < (a1.size : Int) then (if x9_3 < (x7_3.length : Int) then (spec_l02Glob.l1 k3 a0 a1 x5_1 x6_1 (x7_3.set (x9_3 : Int).toNat ((bt a1 (wrap64 (x9_3 - 1))) != 47)) x8_15 (wrap64 (x9_3 + 1))) else (none)) else (none))) else (if x9_3 < (x7_3.length : Int) then (spec_l02Glob.l1 k3 a0 a1 x5_1 x6_1 (x7_3.set (x9_3 : Int).toNat false) x8_15 (wrap64 (x9_3 + 1))) else (none))) else (none)) else (none)) else (if x9_3 < (x7_3.length : Int) then (spec_l02Glob.l1 k3 a0 a1 x5_1 x6_1 (x7_3.set (x9_3 : Int).toNat false) x8_15 (wrap64 (x9_3 + 1))) else (none)))) = some r := by rw [← hbq33] at H; exact H
                                      have Nbq33 := Aside0.mk hbq33
                                      clear hbq33
                                      by_cases c34 : bq33 = true
                                      · subst c34
                                        have H1 : (if x9_3 < (x7_3.length : Int) then (spec_l02Glob.l1 k3 a0 a1 x5_1 x6_1 (x7_3.set (x9_3 : Int).toNat true) x8_15 (wrap64 (x9_3 + 1))) else (none)) = some r := by rw [if_pos rfl] at H; exact H
                                        clear H
                                        have H := H1
                                        clear H1
                                        by_cases c35 : x9_3 < (x7_3.length : Int)
                                        · rw [if_pos c35] at H
                                          have c35b0 : decide (x9_3 < (x7_3.length : Int)) = true := decide_eq_true c35
                                          clear c35
                                          obtain ⟨y391, hy391⟩ : ∃ y_ : List Bool, y_ = (x7_3.set (x9_3 : Int).toNat true) := ⟨_, rfl⟩
                                          replace H : (spec_l02Glob.l1 k3 a0 a1 x5_1 x6_1 y391 x8_15 (wrap64 (x9_3 + 1))) = some r := by first | (rw [hy391]; with_reducible exact H) | (have H2_ := (Option.bind_some _ _).symm.trans H; rw [hy391]; with_reducible exact H2_) | (have H2_ := (Option.bind_some _ _).symm.trans H; with_reducible exact H2_) | with_reducible exact H | (rw [hy391]; exact H) | exact H
                                          have Ny391 := Aside0.mk hy391
                                          clear hy391
                                          have H' := Aside0.mk H
                                          clear H
                                          have p29 : 0 ≤ (x6_1 : Int) := of_decide_eq_true (by assumption)
                                          have q29 : x6_1 < (a0.size : Int) := of_decide_eq_true (by assumption)
                                          have hx29 := bt_at a0 x6_1
                                          replace p29 := eq_true p29
                                          replace q29 := eq_true q29
                                          obtain ⟨Ao37, co37, eo37⟩ := Kd.R_slice HO_5.out
                                          subst eo37
                                          have p390 : 0 ≤ (x9_3 : Int) := of_decide_eq_true (by assumption)
                                          have q390 : x9_3 < (x5_1.length : Int) := of_decide_eq_true (by assumption)
                                          obtain ⟨ad390, e390, hx390_0⟩ := Kd.at_bool (Kd.R_reads' HO_5.out).2.2 x9_3 p390 q390
                                          (try rw [← Nbq33.out] at hx390_0)
                                          cases e390
                                          replace p390 := eq_true p390
                                          replace q390 := eq_true q390
                                          have p36 : 0 ≤ (x9_3 : Int) := of_decide_eq_true (by assumption)
                                          have q36 : (x9_3 : Int) < ((x7_3.length : Int) : Int) := of_decide_eq_true (by assumption)
                                          obtain ⟨go36, co36, eo36, gb36, gl36, cl36, HG36⟩ := Kd.R_form HO_7.out (by omega)
                                          (first | cases eo36 | (injection eo36 with ea_ en_ ec_; (first | subst ea_ | (injection ea_ with ea_; subst ea_)); subst ec_; clear en_))
                                          have GB36 := Aside0.mk gb36
                                          have GG36 := Aside0.mk HG36
                                          clear gb36 gl36 HG36
                                          obtain ⟨hx36_0, hf36_0⟩ := Kd.R_celln false HO_7.out (x9_3 : Int) p36 q36
                                          replace p36 := eq_true p36
                                          replace q36 := eq_true q36
                                          have HP38 := Kd.R_putg HO_7.out (x9_3 : Int) true
                                          go_wp2_with (first | ((with_reducible refine gate_store (t := 4) (p := 104) rfl ?_); refine store_event (t := 4) (p := 104) (v := ?vo_w39) (w1 := (wr.setCell ⟨go36, (x9_3 : Int).toNat, none⟩ (.bool true))) ?hg ?ho ?hn ?hr ?_; (case ho => rfl); (case hg => rfl); (case hn => rfl); (case hr => first | (go_simp; done) | (go_simp; rfl)); intro w39 hw; have hg : wr.grownBy w39 (some go36) := (by rw [hw]; exact HP38.2); have hp_ : Kd.R Kd.bool 4 w39 w.heap.size (fun k_ => some k_ ≠ (.slice (some ad390) x5_1.length co37 : Value).ownBlock) (.slice (some ⟨go36, 0, none⟩) x7_3.length co36) y391 := (by rw [hw, Ny391.out]; exact HP38.1); clear HP38; have n0_ := Aside0.mk (Kd.R_after (v := (.slice (some ⟨go36, 0, none⟩) x7_3.length co36)) (v1 := (.slice (some ⟨go36, 0, none⟩) x7_3.length co36)) (ok := (fun _ => True)) (by (with_reducible repeat (first | apply Kd.R_alloc | apply Kd.R_drewN | apply Kd.R_drew)); exact Kd.R_mono HO_5.out (fun _ hk => ⟨trivial, hk⟩)) hg (.inl rfl)); have n1_ := Aside0.mk (hp_); have n2_ := Aside0.mk ((by rw [hw]; exact below_set (HB.out) GB36.out : Below w.heap.size w w39)); clear HO_5; clear HO_7; clear HB; have HO_5 := n0_; have HO_7 := n1_; have HB := n2_; clear n0_ n1_ n2_; clear hg hw hp_))
                                          go_roundg k3
                                          case measure => have := HK1.out; have := HJ15.out; have := HK3.out; omega
                                          case rel => exact ⟨(y391), (wrap64 (x9_3 + 1)), (by first | rfl | (simp; done) | (simp [*]; done)), H', ⟨by have := HK1.out; have := HJ15.out; have := HK3.out; omega⟩, ⟨by (with_reducible repeat (first | apply Kd.R_alloc | apply Kd.R_drewN | apply Kd.R_drew)); exact Kd.R_mono HO_5.out (fun _ hk => hk.2)⟩, ⟨by (with_reducible repeat (first | apply Kd.R_alloc | apply Kd.R_drewN | apply Kd.R_drew)); first | exact HO_7.out | exact Kd.R_mono HO_7.out (fun k_ h_ q_ => h_ (q_.trans (ownBlock_len _ _ _ _)))⟩, ⟨by repeat (first | (with_reducible first | exact HB.out | apply below_alloc | apply pw_below_drewN | apply below_drew1) | exact HB.out)⟩⟩
                                        · rw [if_neg c35] at H
                                          exact absurd H (by simp)
                                      · replace c34 := Bool.eq_false_iff.mpr c34
                                        subst c34
                                        have H1 : (if x9_3 > 0 then (if 0 ≤ (wrap64 (x9_3 - 1)) then (if (wrap64 (x9_3 - 1)) < (x7_3.length : Int) then (if rdOf false x7_3 (wrap64 (x9_3 - 1)) = true then (if x8_15 = true then (if x9_3 < (x7_3.length : Int) then (spec_l02Glob.l1 k3 a0 a1 x5_1 x6_1 (x7_3.set (x9_3 : Int).toNat true) x8_15 (wrap64 (x9_3 + 1))) else (none)) else (if (wrap64 (x9_3 - 1)) < (a1.size : Int) then (if x9_3 < (x7_3.length : Int) then (spec_l02Glob.l1 k3 a0 a1 x5_1 x6_1 (x7_3.set (x9_3 : Int).toNat ((bt a1 (wrap64 (x9_3 - 1))) != 47)) x8_15 (wrap64 (x9_3 + 1))) else (none)) else (none))) else (if x9_3 < (x7_3.length : Int) then (spec_l02Glob.l1 k3 a0 a1 x5_1 x6_1 (x7_3.set (x9_3 : Int).toNat false) x8_15 (wrap64 (x9_3 + 1))) else (none))) else (none)) else (none)) else (if x9_3 < (x7_3.length : Int) then (spec_l02Glob.l1 k3 a0 a1 x5_1 x6_1 (x7_3.set (x9_3 : Int).toNat false) x8_15 (wrap64 (x9_3 + 1))) else (none))) = some r := by rw [if_neg (show ¬ (false = true) by decide)] at H; exact H
                                        clear H
                                        have H := H1
                                        clear H1
                                        by_cases c40 : x9_3 > 0
                                        · rw [if_pos c40] at H
                                          have c40b0 : decide (0 < x9_3) = true := decide_eq_true c40
                                          clear c40
                                          obtain ⟨ji41, hji41⟩ : ∃ j_ : Int, (wrap64 (x9_3 - 1)) = j_ := ⟨_, rfl⟩
                                          replace H : (if 0 ≤ (ji41) then (if (ji41) < (x7_3.length : Int) then (if rdOf false x7_3 (ji41) = true then (if x8_15 = true then (if x9_3 < (x7_3.length : Int) then (spec_l02Glob.l1 k3 a0 a1 x5_1 x6_1 (x7_3.set (x9_3 : Int).toNat true) x8_15 (wrap64 (x9_3 + 1))) else (none)) else (if (ji41) < (a1.size : Int) then (if x9_3 < (x7_3.length : Int) then (spec_l02Glob.l1 k3 a0 a1 x5_1 x6_1 (x7_3.set (x9_3 : Int).toNat ((bt a1 (ji41)) != 47)) x8_15 (wrap64 (x9_3 + 1))) else (none)) else (none))) else (if x9_3 < (x7_3.length : Int) then (spec_l02Glob.l1 k3 a0 a1 x5_1 x6_1 (x7_3.set (x9_3 : Int).toNat false) x8_15 (wrap64 (x9_3 + 1))) else (none))) else (none)) else (none)) = some r := by first | (rw [hji41] at H; exact H) | (simp only [hji41] at H ⊢; exact H)
                                          have hji41w : (IntKind.i64.wrap (x9_3 - 1)) = ji41 := (i64_w _).trans hji41
                                          by_cases c42 : 0 ≤ (ji41)
                                          · rw [if_pos c42] at H
                                            have c42b0 : decide (0 ≤ (ji41)) = true := decide_eq_true c42
                                            clear c42
                                            by_cases c43 : (ji41) < (x7_3.length : Int)
                                            · rw [if_pos c43] at H
                                              have c43b0 : decide ((ji41) < (x7_3.length : Int)) = true := decide_eq_true c43
                                              clear c43
                                              obtain ⟨bq44, hbq44⟩ : ∃ b_ : Bool, b_ = (rdOf false x7_3 (ji41)) := ⟨_, rfl⟩
                                              replace H : (if bq44 = true then (if x8_15 = true then (if x9_3 < (x7_3.length : Int) then (spec_l02Glob.l1 k3 a0 a1 x5_1 x6_1 (x7_3.set (x9_3 : Int).toNat true) x8_15 (wrap64 (x9_3 + 1))) else (none)) else (if (ji41) < (a1.size : Int) then (if x9_3 < (x7_3.length : Int) then (spec_l02Glob.l1 k3 a0 a1 x5_1 x6_1 (x7_3.set (x9_3 : Int).toNat ((bt a1 (ji41)) != 47)) x8_15 (wrap64 (x9_3 + 1))) else (none)) else (none))) else (if x9_3 < (x7_3.length : Int) then (spec_l02Glob.l1 k3 a0 a1 x5_1 x6_1 (x7_3.set (x9_3 : Int).toNat false) x8_15 (wrap64 (x9_3 + 1))) else (none))) = some r := by rw [← hbq44] at H; exact H
                                              have Nbq44 := Aside0.mk hbq44
                                              clear hbq44
                                              by_cases c45 : bq44 = true
                                              · subst c45
                                                have H1 : (if x8_15 = true then (if x9_3 < (x7_3.length : Int) then (spec_l02Glob.l1 k3 a0 a1 x5_1 x6_1 (x7_3.set (x9_3 : Int).toNat true) x8_15 (wrap64 (x9_3 + 1))) else (none)) else (if (ji41) < (a1.size : Int) then (if x9_3 < (x7_3.length : Int) then (spec_l02Glob.l1 k3 a0 a1 x5_1 x6_1 (x7_3.set (x9_3 : Int).toNat ((bt a1 (ji41)) != 47)) x8_15 (wrap64 (x9_3 + 1))) else (none)) else (none))) = some r := by rw [if_pos rfl] at H; exact H
                                                clear H
                                                have H := H1
                                                clear H1
                                                by_cases c46 : x8_15 = true
                                                · subst c46
                                                  have H1 : (if x9_3 < (x7_3.length : Int) then (spec_l02Glob.l1 k3 a0 a1 x5_1 x6_1 (x7_3.set (x9_3 : Int).toNat true) true (wrap64 (x9_3 + 1))) else (none)) = some r := by rw [if_pos rfl] at H; exact H
                                                  clear H
                                                  have H := H1
                                                  clear H1
                                                  by_cases c47 : x9_3 < (x7_3.length : Int)
                                                  · rw [if_pos c47] at H
                                                    have c47b0 : decide (x9_3 < (x7_3.length : Int)) = true := decide_eq_true c47
                                                    clear c47
                                                    obtain ⟨y393, hy393⟩ : ∃ y_ : List Bool, y_ = (x7_3.set (x9_3 : Int).toNat true) := ⟨_, rfl⟩
                                                    replace H : (spec_l02Glob.l1 k3 a0 a1 x5_1 x6_1 y393 true (wrap64 (x9_3 + 1))) = some r := by first | (rw [hy393]; with_reducible exact H) | (have H2_ := (Option.bind_some _ _).symm.trans H; rw [hy393]; with_reducible exact H2_) | (have H2_ := (Option.bind_some _ _).symm.trans H; with_reducible exact H2_) | with_reducible exact H | (rw [hy393]; exact H) | exact H
                                                    have Ny393 := Aside0.mk hy393
                                                    clear hy393
                                                    have H' := Aside0.mk H
                                                    clear H
                                                    have p29 : 0 ≤ (x6_1 : Int) := of_decide_eq_true (by assumption)
                                                    have q29 : x6_1 < (a0.size : Int) := of_decide_eq_true (by assumption)
                                                    have hx29 := bt_at a0 x6_1
                                                    replace p29 := eq_true p29
                                                    replace q29 := eq_true q29
                                                    obtain ⟨Ao49, co49, eo49⟩ := Kd.R_slice HO_5.out
                                                    subst eo49
                                                    have p390 : 0 ≤ (x9_3 : Int) := of_decide_eq_true (by assumption)
                                                    have q390 : x9_3 < (x5_1.length : Int) := of_decide_eq_true (by assumption)
                                                    obtain ⟨ad390, e390, hx390_0⟩ := Kd.at_bool (Kd.R_reads' HO_5.out).2.2 x9_3 p390 q390
                                                    (try rw [← Nbq33.out] at hx390_0)
                                                    (try rw [← Nbq44.out] at hx390_0)
                                                    cases e390
                                                    replace p390 := eq_true p390
                                                    replace q390 := eq_true q390
                                                    obtain ⟨Ao50, co50, eo50⟩ := Kd.R_slice HO_7.out
                                                    subst eo50
                                                    have p392 : 0 ≤ ((ji41) : Int) := of_decide_eq_true (by assumption)
                                                    have q392 : (ji41) < (x7_3.length : Int) := of_decide_eq_true (by assumption)
                                                    obtain ⟨ad392, e392, hx392_0⟩ := Kd.at_bool (Kd.R_reads' HO_7.out).2.2 (ji41) p392 q392
                                                    (try rw [← Nbq33.out] at hx392_0)
                                                    (try rw [← Nbq44.out] at hx392_0)
                                                    cases e392
                                                    replace p392 := eq_true p392
                                                    replace q392 := eq_true q392
                                                    have p48 : 0 ≤ (x9_3 : Int) := of_decide_eq_true (by assumption)
                                                    have q48 : (x9_3 : Int) < ((x7_3.length : Int) : Int) := of_decide_eq_true (by assumption)
                                                    obtain ⟨go48, co48, eo48, gb48, gl48, cl48, HG48⟩ := Kd.R_form HO_7.out (by omega)
                                                    (first | cases eo48 | (injection eo48 with ea_ en_ ec_; (first | subst ea_ | (injection ea_ with ea_; subst ea_)); subst ec_; clear en_))
                                                    have GB48 := Aside0.mk gb48
                                                    have GG48 := Aside0.mk HG48
                                                    clear gb48 gl48 HG48
                                                    (first | simp only [add_plain] at hx392_0 | skip)
                                                    obtain ⟨hx48_0, hf48_0⟩ := Kd.R_celln false HO_7.out (x9_3 : Int) p48 q48
                                                    replace p48 := eq_true p48
                                                    replace q48 := eq_true q48
                                                    have HP51 := Kd.R_putg HO_7.out (x9_3 : Int) true
                                                    go_wp2_with (first | ((with_reducible refine gate_store (t := 4) (p := 104) rfl ?_); refine store_event (t := 4) (p := 104) (v := ?vo_w52) (w1 := (wr.setCell ⟨go48, (x9_3 : Int).toNat, none⟩ (.bool true))) ?hg ?ho ?hn ?hr ?_; (case ho => rfl); (case hg => rfl); (case hn => rfl); (case hr => first | (go_simp; done) | (go_simp; rfl)); intro w52 hw; have hg : wr.grownBy w52 (some go48) := (by rw [hw]; exact HP51.2); have hp_ : Kd.R Kd.bool 4 w52 w.heap.size (fun k_ => some k_ ≠ (.slice (some ad390) x5_1.length co49 : Value).ownBlock) (.slice (some ⟨go48, 0, none⟩) x7_3.length co50) y393 := (by rw [hw, Ny393.out]; exact HP51.1); clear HP51; have n0_ := Aside0.mk (Kd.R_after (v := (.slice (some ⟨go48, 0, none⟩) x7_3.length co50)) (v1 := (.slice (some ⟨go48, 0, none⟩) x7_3.length co50)) (ok := (fun _ => True)) (by (with_reducible repeat (first | apply Kd.R_alloc | apply Kd.R_drewN | apply Kd.R_drew)); exact Kd.R_mono HO_5.out (fun _ hk => ⟨trivial, hk⟩)) hg (.inl rfl)); have n1_ := Aside0.mk (hp_); have n2_ := Aside0.mk ((by rw [hw]; exact below_set (HB.out) GB48.out : Below w.heap.size w w52)); clear HO_5; clear HO_7; clear HB; have HO_5 := n0_; have HO_7 := n1_; have HB := n2_; clear n0_ n1_ n2_; clear hg hw hp_))
                                                    go_roundg k3
                                                    case measure => have := HK1.out; have := HJ15.out; have := HK3.out; omega
                                                    case rel => exact ⟨(y393), (wrap64 (x9_3 + 1)), (by first | rfl | (simp; done) | (simp [*]; done)), H', ⟨by have := HK1.out; have := HJ15.out; have := HK3.out; omega⟩, ⟨by (with_reducible repeat (first | apply Kd.R_alloc | apply Kd.R_drewN | apply Kd.R_drew)); exact Kd.R_mono HO_5.out (fun _ hk => hk.2)⟩, ⟨by (with_reducible repeat (first | apply Kd.R_alloc | apply Kd.R_drewN | apply Kd.R_drew)); first | exact HO_7.out | exact Kd.R_mono HO_7.out (fun k_ h_ q_ => h_ (q_.trans (ownBlock_len _ _ _ _)))⟩, ⟨by repeat (first | (with_reducible first | exact HB.out | apply below_alloc | apply pw_below_drewN | apply below_drew1) | exact HB.out)⟩⟩
                                                  · rw [if_neg c47] at H
                                                    exact absurd H (by simp)
                                                · replace c46 := Bool.eq_false_iff.mpr c46
                                                  subst c46
                                                  have H1 : (if (ji41) < (a1.size : Int) then (if x9_3 < (x7_3.length : Int) then (spec_l02Glob.l1 k3 a0 a1 x5_1 x6_1 (x7_3.set (x9_3 : Int).toNat ((bt a1 (ji41)) != 47)) false (wrap64 (x9_3 + 1))) else (none)) else (none)) = some r := by rw [if_neg (show ¬ (false = true) by decide)] at H; exact H
                                                  clear H
                                                  have H := H1
                                                  clear H1
                                                  by_cases c53 : (ji41) < (a1.size : Int)
                                                  · rw [if_pos c53] at H
                                                    have c53b0 : decide ((ji41) < (a1.size : Int)) = true := decide_eq_true c53
                                                    clear c53
                                                    by_cases c55 : x9_3 < (x7_3.length : Int)
                                                    · rw [if_pos c55] at H
                                                      have c55b0 : decide (x9_3 < (x7_3.length : Int)) = true := decide_eq_true c55
                                                      clear c55
                                                      obtain ⟨y394, hy394⟩ : ∃ y_ : List Bool, y_ = (x7_3.set (x9_3 : Int).toNat ((bt a1 (ji41)) != 47)) := ⟨_, rfl⟩
                                                      replace H : (spec_l02Glob.l1 k3 a0 a1 x5_1 x6_1 y394 false (wrap64 (x9_3 + 1))) = some r := by first | (rw [hy394]; with_reducible exact H) | (have H2_ := (Option.bind_some _ _).symm.trans H; rw [hy394]; with_reducible exact H2_) | (have H2_ := (Option.bind_some _ _).symm.trans H; with_reducible exact H2_) | with_reducible exact H | (rw [hy394]; exact H) | exact H
                                                      have Ny394 := Aside0.mk hy394
                                                      clear hy394
                                                      have H' := Aside0.mk H
                                                      clear H
                                                      have p29 : 0 ≤ (x6_1 : Int) := of_decide_eq_true (by assumption)
                                                      have q29 : x6_1 < (a0.size : Int) := of_decide_eq_true (by assumption)
                                                      have hx29 := bt_at a0 x6_1
                                                      replace p29 := eq_true p29
                                                      replace q29 := eq_true q29
                                                      obtain ⟨Ao57, co57, eo57⟩ := Kd.R_slice HO_5.out
                                                      subst eo57
                                                      have p390 : 0 ≤ (x9_3 : Int) := of_decide_eq_true (by assumption)
                                                      have q390 : x9_3 < (x5_1.length : Int) := of_decide_eq_true (by assumption)
                                                      obtain ⟨ad390, e390, hx390_0⟩ := Kd.at_bool (Kd.R_reads' HO_5.out).2.2 x9_3 p390 q390
                                                      (try rw [← Nbq33.out] at hx390_0)
                                                      (try rw [← Nbq44.out] at hx390_0)
                                                      cases e390
                                                      replace p390 := eq_true p390
                                                      replace q390 := eq_true q390
                                                      obtain ⟨Ao58, co58, eo58⟩ := Kd.R_slice HO_7.out
                                                      subst eo58
                                                      have p392 : 0 ≤ ((ji41) : Int) := of_decide_eq_true (by assumption)
                                                      have q392 : (ji41) < (x7_3.length : Int) := of_decide_eq_true (by assumption)
                                                      obtain ⟨ad392, e392, hx392_0⟩ := Kd.at_bool (Kd.R_reads' HO_7.out).2.2 (ji41) p392 q392
                                                      (try rw [← Nbq33.out] at hx392_0)
                                                      (try rw [← Nbq44.out] at hx392_0)
                                                      cases e392
                                                      replace p392 := eq_true p392
                                                      replace q392 := eq_true q392
                                                      have p54 : 0 ≤ ((ji41) : Int) := of_decide_eq_true (by assumption)
                                                      have q54 : (ji41) < (a1.size : Int) := of_decide_eq_true (by assumption)
                                                      have hx54 := bt_at a1 (ji41)
                                                      replace p54 := eq_true p54
                                                      replace q54 := eq_true q54
                                                      have p56 : 0 ≤ (x9_3 : Int) := of_decide_eq_true (by assumption)
                                                      have q56 : (x9_3 : Int) < ((x7_3.length : Int) : Int) := of_decide_eq_true (by assumption)
                                                      obtain ⟨go56, co56, eo56, gb56, gl56, cl56, HG56⟩ := Kd.R_form HO_7.out (by omega)
                                                      (first | cases eo56 | (injection eo56 with ea_ en_ ec_; (first | subst ea_ | (injection ea_ with ea_; subst ea_)); subst ec_; clear en_))
                                                      have GB56 := Aside0.mk gb56
                                                      have GG56 := Aside0.mk HG56
                                                      clear gb56 gl56 HG56
                                                      (first | simp only [add_plain] at hx392_0 | skip)
                                                      obtain ⟨hx56_0, hf56_0⟩ := Kd.R_celln false HO_7.out (x9_3 : Int) p56 q56
                                                      replace p56 := eq_true p56
                                                      replace q56 := eq_true q56
                                                      have HP59 := Kd.R_putg HO_7.out (x9_3 : Int) ((bt a1 (ji41)) != 47)
                                                      go_wp2_with (first | ((with_reducible refine gate_store (t := 4) (p := 104) rfl ?_); refine store_event (t := 4) (p := 104) (v := ?vo_w60) (w1 := (wr.setCell ⟨go56, (x9_3 : Int).toNat, none⟩ (.bool ((bt a1 (ji41)) != 47)))) ?hg ?ho ?hn ?hr ?_; (case ho => rfl); (case hg => rfl); (case hn => rfl); (case hr => first | (go_simp; done) | (go_simp; rfl)); intro w60 hw; have hg : wr.grownBy w60 (some go56) := (by rw [hw]; exact HP59.2); have hp_ : Kd.R Kd.bool 4 w60 w.heap.size (fun k_ => some k_ ≠ (.slice (some ad390) x5_1.length co57 : Value).ownBlock) (.slice (some ⟨go56, 0, none⟩) x7_3.length co58) y394 := (by rw [hw, Ny394.out]; exact HP59.1); clear HP59; have n0_ := Aside0.mk (Kd.R_after (v := (.slice (some ⟨go56, 0, none⟩) x7_3.length co58)) (v1 := (.slice (some ⟨go56, 0, none⟩) x7_3.length co58)) (ok := (fun _ => True)) (by (with_reducible repeat (first | apply Kd.R_alloc | apply Kd.R_drewN | apply Kd.R_drew)); exact Kd.R_mono HO_5.out (fun _ hk => ⟨trivial, hk⟩)) hg (.inl rfl)); have n1_ := Aside0.mk (hp_); have n2_ := Aside0.mk ((by rw [hw]; exact below_set (HB.out) GB56.out : Below w.heap.size w w60)); clear HO_5; clear HO_7; clear HB; have HO_5 := n0_; have HO_7 := n1_; have HB := n2_; clear n0_ n1_ n2_; clear hg hw hp_))
                                                      go_roundg k3
                                                      case measure => have := HK1.out; have := HJ15.out; have := HK3.out; omega
                                                      case rel => exact ⟨(y394), (wrap64 (x9_3 + 1)), (by first | rfl | (simp; done) | (simp [*]; done)), H', ⟨by have := HK1.out; have := HJ15.out; have := HK3.out; omega⟩, ⟨by (with_reducible repeat (first | apply Kd.R_alloc | apply Kd.R_drewN | apply Kd.R_drew)); exact Kd.R_mono HO_5.out (fun _ hk => hk.2)⟩, ⟨by (with_reducible repeat (first | apply Kd.R_alloc | apply Kd.R_drewN | apply Kd.R_drew)); first | exact HO_7.out | exact Kd.R_mono HO_7.out (fun k_ h_ q_ => h_ (q_.trans (ownBlock_len _ _ _ _)))⟩, ⟨by repeat (first | (with_reducible first | exact HB.out | apply below_alloc | apply pw_below_drewN | apply below_drew1) | exact HB.out)⟩⟩
                                                    · rw [if_neg c55] at H
                                                      exact absurd H (by simp)
                                                  · rw [if_neg c53] at H
                                                    exact absurd H (by simp)
                                              · replace c45 := Bool.eq_false_iff.mpr c45
                                                subst c45
                                                have H1 : (if x9_3 < (x7_3.length : Int) then (spec_l02Glob.l1 k3 a0 a1 x5_1 x6_1 (x7_3.set (x9_3 : Int).toNat false) x8_15 (wrap64 (x9_3 + 1))) else (none)) = some r := by rw [if_neg (show ¬ (false = true) by decide)] at H; exact H
                                                clear H
                                                have H := H1
                                                clear H1
                                                by_cases c61 : x9_3 < (x7_3.length : Int)
                                                · rw [if_pos c61] at H
                                                  have c61b0 : decide (x9_3 < (x7_3.length : Int)) = true := decide_eq_true c61
                                                  clear c61
                                                  obtain ⟨y395, hy395⟩ : ∃ y_ : List Bool, y_ = (x7_3.set (x9_3 : Int).toNat false) := ⟨_, rfl⟩
                                                  replace H : (spec_l02Glob.l1 k3 a0 a1 x5_1 x6_1 y395 x8_15 (wrap64 (x9_3 + 1))) = some r := by first | (rw [hy395]; with_reducible exact H) | (have H2_ := (Option.bind_some _ _).symm.trans H; rw [hy395]; with_reducible exact H2_) | (have H2_ := (Option.bind_some _ _).symm.trans H; with_reducible exact H2_) | with_reducible exact H | (rw [hy395]; exact H) | exact H
                                                  have Ny395 := Aside0.mk hy395
                                                  clear hy395
                                                  have H' := Aside0.mk H
                                                  clear H
                                                  have p29 : 0 ≤ (x6_1 : Int) := of_decide_eq_true (by assumption)
                                                  have q29 : x6_1 < (a0.size : Int) := of_decide_eq_true (by assumption)
                                                  have hx29 := bt_at a0 x6_1
                                                  replace p29 := eq_true p29
                                                  replace q29 := eq_true q29
                                                  obtain ⟨Ao63, co63, eo63⟩ := Kd.R_slice HO_5.out
                                                  subst eo63
                                                  have p390 : 0 ≤ (x9_3 : Int) := of_decide_eq_true (by assumption)
                                                  have q390 : x9_3 < (x5_1.length : Int) := of_decide_eq_true (by assumption)
                                                  obtain ⟨ad390, e390, hx390_0⟩ := Kd.at_bool (Kd.R_reads' HO_5.out).2.2 x9_3 p390 q390
                                                  (try rw [← Nbq33.out] at hx390_0)
                                                  (try rw [← Nbq44.out] at hx390_0)
                                                  cases e390
                                                  replace p390 := eq_true p390
                                                  replace q390 := eq_true q390
                                                  obtain ⟨Ao64, co64, eo64⟩ := Kd.R_slice HO_7.out
                                                  subst eo64
                                                  have p392 : 0 ≤ ((ji41) : Int) := of_decide_eq_true (by assumption)
                                                  have q392 : (ji41) < (x7_3.length : Int) := of_decide_eq_true (by assumption)
                                                  obtain ⟨ad392, e392, hx392_0⟩ := Kd.at_bool (Kd.R_reads' HO_7.out).2.2 (ji41) p392 q392
                                                  (try rw [← Nbq33.out] at hx392_0)
                                                  (try rw [← Nbq44.out] at hx392_0)
                                                  cases e392
                                                  replace p392 := eq_true p392
                                                  replace q392 := eq_true q392
                                                  have p62 : 0 ≤ (x9_3 : Int) := of_decide_eq_true (by assumption)
                                                  have q62 : (x9_3 : Int) < ((x7_3.length : Int) : Int) := of_decide_eq_true (by assumption)
                                                  obtain ⟨go62, co62, eo62, gb62, gl62, cl62, HG62⟩ := Kd.R_form HO_7.out (by omega)
                                                  (first | cases eo62 | (injection eo62 with ea_ en_ ec_; (first | subst ea_ | (injection ea_ with ea_; subst ea_)); subst ec_; clear en_))
                                                  have GB62 := Aside0.mk gb62
                                                  have GG62 := Aside0.mk HG62
                                                  clear gb62 gl62 HG62
                                                  (first | simp only [add_plain] at hx392_0 | skip)
                                                  obtain ⟨hx62_0, hf62_0⟩ := Kd.R_celln false HO_7.out (x9_3 : Int) p62 q62
                                                  replace p62 := eq_true p62
                                                  replace q62 := eq_true q62
                                                  have HP65 := Kd.R_putg HO_7.out (x9_3 : Int) false
                                                  go_wp2_with (first | ((with_reducible refine gate_store (t := 4) (p := 104) rfl ?_); refine store_event (t := 4) (p := 104) (v := ?vo_w66) (w1 := (wr.setCell ⟨go62, (x9_3 : Int).toNat, none⟩ (.bool false))) ?hg ?ho ?hn ?hr ?_; (case ho => rfl); (case hg => rfl); (case hn => rfl); (case hr => first | (go_simp; done) | (go_simp; rfl)); intro w66 hw; have hg : wr.grownBy w66 (some go62) := (by rw [hw]; exact HP65.2); have hp_ : Kd.R Kd.bool 4 w66 w.heap.size (fun k_ => some k_ ≠ (.slice (some ad390) x5_1.length co63 : Value).ownBlock) (.slice (some ⟨go62, 0, none⟩) x7_3.length co64) y395 := (by rw [hw, Ny395.out]; exact HP65.1); clear HP65; have n0_ := Aside0.mk (Kd.R_after (v := (.slice (some ⟨go62, 0, none⟩) x7_3.length co64)) (v1 := (.slice (some ⟨go62, 0, none⟩) x7_3.length co64)) (ok := (fun _ => True)) (by (with_reducible repeat (first | apply Kd.R_alloc | apply Kd.R_drewN | apply Kd.R_drew)); exact Kd.R_mono HO_5.out (fun _ hk => ⟨trivial, hk⟩)) hg (.inl rfl)); have n1_ := Aside0.mk (hp_); have n2_ := Aside0.mk ((by rw [hw]; exact below_set (HB.out) GB62.out : Below w.heap.size w w66)); clear HO_5; clear HO_7; clear HB; have HO_5 := n0_; have HO_7 := n1_; have HB := n2_; clear n0_ n1_ n2_; clear hg hw hp_))
                                                  go_roundg k3
                                                  case measure => have := HK1.out; have := HJ15.out; have := HK3.out; omega
                                                  case rel => exact ⟨(y395), (wrap64 (x9_3 + 1)), (by first | rfl | (simp; done) | (simp [*]; done)), H', ⟨by have := HK1.out; have := HJ15.out; have := HK3.out; omega⟩, ⟨by (with_reducible repeat (first | apply Kd.R_alloc | apply Kd.R_drewN | apply Kd.R_drew)); exact Kd.R_mono HO_5.out (fun _ hk => hk.2)⟩, ⟨by (with_reducible repeat (first | apply Kd.R_alloc | apply Kd.R_drewN | apply Kd.R_drew)); first | exact HO_7.out | exact Kd.R_mono HO_7.out (fun k_ h_ q_ => h_ (q_.trans (ownBlock_len _ _ _ _)))⟩, ⟨by repeat (first | (with_reducible first | exact HB.out | apply below_alloc | apply pw_below_drewN | apply below_drew1) | exact HB.out)⟩⟩
                                                · rw [if_neg c61] at H
                                                  exact absurd H (by simp)
                                            · rw [if_neg c43] at H
                                              exact absurd H (by simp)
                                          · rw [if_neg c42] at H
                                            exact absurd H (by simp)
                                        · rw [if_neg c40] at H
                                          have c40b0 : decide (0 < x9_3) = false := decide_eq_false c40
                                          clear c40
                                          by_cases c67 : x9_3 < (x7_3.length : Int)
                                          · rw [if_pos c67] at H
                                            have c67b0 : decide (x9_3 < (x7_3.length : Int)) = true := decide_eq_true c67
                                            clear c67
                                            obtain ⟨y396, hy396⟩ : ∃ y_ : List Bool, y_ = (x7_3.set (x9_3 : Int).toNat false) := ⟨_, rfl⟩
                                            replace H : (spec_l02Glob.l1 k3 a0 a1 x5_1 x6_1 y396 x8_15 (wrap64 (x9_3 + 1))) = some r := by first | (rw [hy396]; with_reducible exact H) | (have H2_ := (Option.bind_some _ _).symm.trans H; rw [hy396]; with_reducible exact H2_) | (have H2_ := (Option.bind_some _ _).symm.trans H; with_reducible exact H2_) | with_reducible exact H | (rw [hy396]; exact H) | exact H
                                            have Ny396 := Aside0.mk hy396
                                            clear hy396
                                            have H' := Aside0.mk H
                                            clear H
                                            have p29 : 0 ≤ (x6_1 : Int) := of_decide_eq_true (by assumption)
                                            have q29 : x6_1 < (a0.size : Int) := of_decide_eq_true (by assumption)
                                            have hx29 := bt_at a0 x6_1
                                            replace p29 := eq_true p29
                                            replace q29 := eq_true q29
                                            obtain ⟨Ao69, co69, eo69⟩ := Kd.R_slice HO_5.out
                                            subst eo69
                                            have p390 : 0 ≤ (x9_3 : Int) := of_decide_eq_true (by assumption)
                                            have q390 : x9_3 < (x5_1.length : Int) := of_decide_eq_true (by assumption)
                                            obtain ⟨ad390, e390, hx390_0⟩ := Kd.at_bool (Kd.R_reads' HO_5.out).2.2 x9_3 p390 q390
                                            (try rw [← Nbq33.out] at hx390_0)
                                            cases e390
                                            replace p390 := eq_true p390
                                            replace q390 := eq_true q390
                                            have p68 : 0 ≤ (x9_3 : Int) := of_decide_eq_true (by assumption)
                                            have q68 : (x9_3 : Int) < ((x7_3.length : Int) : Int) := of_decide_eq_true (by assumption)
                                            obtain ⟨go68, co68, eo68, gb68, gl68, cl68, HG68⟩ := Kd.R_form HO_7.out (by omega)
                                            (first | cases eo68 | (injection eo68 with ea_ en_ ec_; (first | subst ea_ | (injection ea_ with ea_; subst ea_)); subst ec_; clear en_))
                                            have GB68 := Aside0.mk gb68
                                            have GG68 := Aside0.mk HG68
                                            clear gb68 gl68 HG68
                                            obtain ⟨hx68_0, hf68_0⟩ := Kd.R_celln false HO_7.out (x9_3 : Int) p68 q68
                                            replace p68 := eq_true p68
                                            replace q68 := eq_true q68
                                            have HP70 := Kd.R_putg HO_7.out (x9_3 : Int) false
                                            go_wp2_with (first | ((with_reducible refine gate_store (t := 4) (p := 104) rfl ?_); refine store_event (t := 4) (p := 104) (v := ?vo_w71) (w1 := (wr.setCell ⟨go68, (x9_3 : Int).toNat, none⟩ (.bool false))) ?hg ?ho ?hn ?hr ?_; (case ho => rfl); (case hg => rfl); (case hn => rfl); (case hr => first | (go_simp; done) | (go_simp; rfl)); intro w71 hw; have hg : wr.grownBy w71 (some go68) := (by rw [hw]; exact HP70.2); have hp_ : Kd.R Kd.bool 4 w71 w.heap.size (fun k_ => some k_ ≠ (.slice (some ad390) x5_1.length co69 : Value).ownBlock) (.slice (some ⟨go68, 0, none⟩) x7_3.length co68) y396 := (by rw [hw, Ny396.out]; exact HP70.1); clear HP70; have n0_ := Aside0.mk (Kd.R_after (v := (.slice (some ⟨go68, 0, none⟩) x7_3.length co68)) (v1 := (.slice (some ⟨go68, 0, none⟩) x7_3.length co68)) (ok := (fun _ => True)) (by (with_reducible repeat (first | apply Kd.R_alloc | apply Kd.R_drewN | apply Kd.R_drew)); exact Kd.R_mono HO_5.out (fun _ hk => ⟨trivial, hk⟩)) hg (.inl rfl)); have n1_ := Aside0.mk (hp_); have n2_ := Aside0.mk ((by rw [hw]; exact below_set (HB.out) GB68.out : Below w.heap.size w w71)); clear HO_5; clear HO_7; clear HB; have HO_5 := n0_; have HO_7 := n1_; have HB := n2_; clear n0_ n1_ n2_; clear hg hw hp_))
                                            go_roundg k3
                                            case measure => have := HK1.out; have := HJ15.out; have := HK3.out; omega
                                            case rel => exact ⟨(y396), (wrap64 (x9_3 + 1)), (by first | rfl | (simp; done) | (simp [*]; done)), H', ⟨by have := HK1.out; have := HJ15.out; have := HK3.out; omega⟩, ⟨by (with_reducible repeat (first | apply Kd.R_alloc | apply Kd.R_drewN | apply Kd.R_drew)); exact Kd.R_mono HO_5.out (fun _ hk => hk.2)⟩, ⟨by (with_reducible repeat (first | apply Kd.R_alloc | apply Kd.R_drewN | apply Kd.R_drew)); first | exact HO_7.out | exact Kd.R_mono HO_7.out (fun k_ h_ q_ => h_ (q_.trans (ownBlock_len _ _ _ _)))⟩, ⟨by repeat (first | (with_reducible first | exact HB.out | apply below_alloc | apply pw_below_drewN | apply below_drew1) | exact HB.out)⟩⟩
                                          · rw [if_neg c67] at H
                                            exact absurd H (by simp)
                                    · rw [if_neg c32] at H
                                      exact absurd H (by simp)
                                  · rw [if_neg c31] at H
                                    exact absurd H (by simp)
                                · rw [if_neg c30] at H
                                  have c30b0 : ((bt a0 x6_1) == 42) = false := beq_eq_false_iff_ne.mpr c30
                                  have c30b1 : ((bt a0 x6_1) != 42) = true := bne_iff_ne.mpr c30
                                  by_cases c73 : (bt a0 x6_1) = 63
                                  · rw [if_pos c73] at H
                                    have c73b0 : ((bt a0 x6_1) == 63) = true := beq_iff_eq.mpr c73
                                    have c73b1 : ((bt a0 x6_1) != 63) = false := bne_eq_false_iff_eq.mpr c73
                                    clear c73
                                    by_cases c74 : x9_3 > 0
                                    · rw [if_pos c74] at H
                                      have c74b0 : decide (0 < x9_3) = true := decide_eq_true c74
                                      clear c74
                                      obtain ⟨ji75, hji75⟩ : ∃ j_ : Int, (wrap64 (x9_3 - 1)) = j_ := ⟨_, rfl⟩
                                      replace H : (if 0 ≤ (ji75) then (if (ji75) < (x5_1.length : Int) then (if rdOf false x5_1 (ji75) = true then (if (ji75) < (a1.size : Int) then (if 0 ≤ x9_3 then (if x9_3 < (x7_3.length : Int) then (spec_l02Glob.l1 k3 a0 a1 x5_1 x6_1 (x7_3.set (x9_3 : Int).toNat ((bt a1 (ji75)) != 47)) x8_15 (wrap64 (x9_3 + 1))) else (none)) else (none)) else (none)) else (if 0 ≤ x9_3 then (if x9_3 < (x7_3.length : Int) then (spec_l02Glob.l1 k3 a0 a1 x5_1 x6_1 (x7_3.set (x9_3 : Int).toNat false) x8_15 (wrap64 (x9_3 + 1))) else (none)) else (none))) else (none)) else (none)) = some r := by first | (rw [hji75] at H; exact H) | (simp only [hji75] at H ⊢; exact H)
                                      have hji75w : (IntKind.i64.wrap (x9_3 - 1)) = ji75 := (i64_w _).trans hji75
                                      by_cases c76 : 0 ≤ (ji75)
                                      · rw [if_pos c76] at H
                                        have c76b0 : decide (0 ≤ (ji75)) = true := decide_eq_true c76
                                        clear c76
                                        by_cases c77 : (ji75) < (x5_1.length : Int)
                                        · rw [if_pos c77] at H
                                          have c77b0 : decide ((ji75) < (x5_1.length : Int)) = true := decide_eq_true c77
                                          clear c77
                                          obtain ⟨bq78, hbq78⟩ : ∃ b_ : Bool, b_ = (rdOf false x5_1 (ji75)) := ⟨_, rfl⟩
                                          replace H : (if bq78 = true then (if (ji75) < (a1.size : Int) then (if 0 ≤ x9_3 then (if x9_3 < (x7_3.length : Int) then (spec_l02Glob.l1 k3 a0 a1 x5_1 x6_1 (x7_3.set (x9_3 : Int).toNat ((bt a1 (ji75)) != 47)) x8_15 (wrap64 (x9_3 + 1))) else (none)) else (none)) else (none)) else (if 0 ≤ x9_3 then (if x9_3 < (x7_3.length : Int) then (spec_l02Glob.l1 k3 a0 a1 x5_1 x6_1 (x7_3.set (x9_3 : Int).toNat false) x8_15 (wrap64 (x9_3 + 1))) else (none)) else (none))) = some r := by rw [← hbq78] at H; exact H
                                          have Nbq78 := Aside0.mk hbq78
                                          clear hbq78
                                          by_cases c79 : bq78 = true
                                          · subst c79
                                            have H1 : (if (ji75) < (a1.size : Int) then (if 0 ≤ x9_3 then (if x9_3 < (x7_3.length : Int) then (spec_l02Glob.l1 k3 a0 a1 x5_1 x6_1 (x7_3.set (x9_3 : Int).toNat ((bt a1 (ji75)) != 47)) x8_15 (wrap64 (x9_3 + 1))) else (none)) else (none)) else (none)) = some r := by rw [if_pos rfl] at H; exact H
                                            clear H
                                            have H := H1
                                            clear H1
                                            by_cases c80 : (ji75) < (a1.size : Int)
                                            · rw [if_pos c80] at H
                                              have c80b0 : decide ((ji75) < (a1.size : Int)) = true := decide_eq_true c80
                                              clear c80
                                              by_cases c82 : 0 ≤ x9_3
                                              · rw [if_pos c82] at H
                                                have c82b0 : decide (0 ≤ x9_3) = true := decide_eq_true c82
                                                clear c82
                                                by_cases c83 : x9_3 < (x7_3.length : Int)
                                                · rw [if_pos c83] at H
                                                  have c83b0 : decide (x9_3 < (x7_3.length : Int)) = true := decide_eq_true c83
                                                  clear c83
                                                  obtain ⟨y398, hy398⟩ : ∃ y_ : List Bool, y_ = (x7_3.set (x9_3 : Int).toNat ((bt a1 (ji75)) != 47)) := ⟨_, rfl⟩
                                                  replace H : (spec_l02Glob.l1 k3 a0 a1 x5_1 x6_1 y398 x8_15 (wrap64 (x9_3 + 1))) = some r := by first | (rw [hy398]; with_reducible exact H) | (have H2_ := (Option.bind_some _ _).symm.trans H; rw [hy398]; with_reducible exact H2_) | (have H2_ := (Option.bind_some _ _).symm.trans H; with_reducible exact H2_) | with_reducible exact H | (rw [hy398]; exact H) | exact H
                                                  have Ny398 := Aside0.mk hy398
                                                  clear hy398
                                                  have H' := Aside0.mk H
                                                  clear H
                                                  have p29 : 0 ≤ (x6_1 : Int) := of_decide_eq_true (by assumption)
                                                  have q29 : x6_1 < (a0.size : Int) := of_decide_eq_true (by assumption)
                                                  have hx29 := bt_at a0 x6_1
                                                  replace p29 := eq_true p29
                                                  replace q29 := eq_true q29
                                                  have p72 : 0 ≤ (x6_1 : Int) := of_decide_eq_true (by assumption)
                                                  have q72 : x6_1 < (a0.size : Int) := of_decide_eq_true (by assumption)
                                                  have hx72 := bt_at a0 x6_1
                                                  replace p72 := eq_true p72
                                                  replace q72 := eq_true q72
                                                  obtain ⟨Ao85, co85, eo85⟩ := Kd.R_slice HO_5.out
                                                  subst eo85
                                                  have p397 : 0 ≤ ((ji75) : Int) := of_decide_eq_true (by assumption)
                                                  have q397 : (ji75) < (x5_1.length : Int) := of_decide_eq_true (by assumption)
                                                  obtain ⟨ad397, e397, hx397_0⟩ := Kd.at_bool (Kd.R_reads' HO_5.out).2.2 (ji75) p397 q397
                                                  (try rw [← Nbq78.out] at hx397_0)
                                                  cases e397
                                                  replace p397 := eq_true p397
                                                  replace q397 := eq_true q397
                                                  have p81 : 0 ≤ ((ji75) : Int) := of_decide_eq_true (by assumption)
                                                  have q81 : (ji75) < (a1.size : Int) := of_decide_eq_true (by assumption)
                                                  have hx81 := bt_at a1 (ji75)
                                                  replace p81 := eq_true p81
                                                  replace q81 := eq_true q81
                                                  have p84 : 0 ≤ (x9_3 : Int) := of_decide_eq_true (by assumption)
                                                  have q84 : (x9_3 : Int) < ((x7_3.length : Int) : Int) := of_decide_eq_true (by assumption)
                                                  obtain ⟨go84, co84, eo84, gb84, gl84, cl84, HG84⟩ := Kd.R_form HO_7.out (by omega)
                                                  (first | cases eo84 | (injection eo84 with ea_ en_ ec_; (first | subst ea_ | (injection ea_ with ea_; subst ea_)); subst ec_; clear en_))
                                                  have GB84 := Aside0.mk gb84
                                                  have GG84 := Aside0.mk HG84
                                                  clear gb84 gl84 HG84
                                                  obtain ⟨hx84_0, hf84_0⟩ := Kd.R_celln false HO_7.out (x9_3 : Int) p84 q84
                                                  replace p84 := eq_true p84
                                                  replace q84 := eq_true q84
                                                  have HP86 := Kd.R_putg HO_7.out (x9_3 : Int) ((bt a1 (ji75)) != 47)
                                                  go_wp2_with (first | ((with_reducible refine gate_store (t := 4) (p := 128) rfl ?_); refine store_event (t := 4) (p := 128) (v := ?vo_w87) (w1 := (wr.setCell ⟨go84, (x9_3 : Int).toNat, none⟩ (.bool ((bt a1 (ji75)) != 47)))) ?hg ?ho ?hn ?hr ?_; (case ho => rfl); (case hg => rfl); (case hn => rfl); (case hr => first | (go_simp; done) | (go_simp; rfl)); intro w87 hw; have hg : wr.grownBy w87 (some go84) := (by rw [hw]; exact HP86.2); have hp_ : Kd.R Kd.bool 4 w87 w.heap.size (fun k_ => some k_ ≠ (.slice (some ad397) x5_1.length co85 : Value).ownBlock) (.slice (some ⟨go84, 0, none⟩) x7_3.length co84) y398 := (by rw [hw, Ny398.out]; exact HP86.1); clear HP86; have n0_ := Aside0.mk (Kd.R_after (v := (.slice (some ⟨go84, 0, none⟩) x7_3.length co84)) (v1 := (.slice (some ⟨go84, 0, none⟩) x7_3.length co84)) (ok := (fun _ => True)) (by (with_reducible repeat (first | apply Kd.R_alloc | apply Kd.R_drewN | apply Kd.R_drew)); exact Kd.R_mono HO_5.out (fun _ hk => ⟨trivial, hk⟩)) hg (.inl rfl)); have n1_ := Aside0.mk (hp_); have n2_ := Aside0.mk ((by rw [hw]; exact below_set (HB.out) GB84.out : Below w.heap.size w w87)); clear HO_5; clear HO_7; clear HB; have HO_5 := n0_; have HO_7 := n1_; have HB := n2_; clear n0_ n1_ n2_; clear hg hw hp_))
                                                  go_roundg k3
                                                  case measure => have := HK1.out; have := HJ15.out; have := HK3.out; omega
                                                  case rel => exact ⟨(y398), (wrap64 (x9_3 + 1)), (by first | rfl | (simp; done) | (simp [*]; done)), H', ⟨by have := HK1.out; have := HJ15.out; have := HK3.out; omega⟩, ⟨by (with_reducible repeat (first | apply Kd.R_alloc | apply Kd.R_drewN | apply Kd.R_drew)); exact Kd.R_mono HO_5.out (fun _ hk => hk.2)⟩, ⟨by (with_reducible repeat (first | apply Kd.R_alloc | apply Kd.R_drewN | apply Kd.R_drew)); first | exact HO_7.out | exact Kd.R_mono HO_7.out (fun k_ h_ q_ => h_ (q_.trans (ownBlock_len _ _ _ _)))⟩, ⟨by repeat (first | (with_reducible first | exact HB.out | apply below_alloc | apply pw_below_drewN | apply below_drew1) | exact HB.out)⟩⟩
                                                · rw [if_neg c83] at H
                                                  exact absurd H (by simp)
                                              · rw [if_neg c82] at H
                                                exact absurd H (by simp)
                                            · rw [if_neg c80] at H
                                              exact absurd H (by simp)
                                          · replace c79 := Bool.eq_false_iff.mpr c79
                                            subst c79
                                            have H1 : (if 0 ≤ x9_3 then (if x9_3 < (x7_3.length : Int) then (spec_l02Glob.l1 k3 a0 a1 x5_1 x6_1 (x7_3.set (x9_3 : Int).toNat false) x8_15 (wrap64 (x9_3 + 1))) else (none)) else (none)) = some r := by rw [if_neg (show ¬ (false = true) by decide)] at H; exact H
                                            clear H
                                            have H := H1
                                            clear H1
                                            by_cases c88 : 0 ≤ x9_3
                                            · rw [if_pos c88] at H
                                              have c88b0 : decide (0 ≤ x9_3) = true := decide_eq_true c88
                                              clear c88
                                              by_cases c89 : x9_3 < (x7_3.length : Int)
                                              · rw [if_pos c89] at H
                                                have c89b0 : decide (x9_3 < (x7_3.length : Int)) = true := decide_eq_true c89
                                                clear c89
                                                obtain ⟨y399, hy399⟩ : ∃ y_ : List Bool, y_ = (x7_3.set (x9_3 : Int).toNat false) := ⟨_, rfl⟩
                                                replace H : (spec_l02Glob.l1 k3 a0 a1 x5_1 x6_1 y399 x8_15 (wrap64 (x9_3 + 1))) = some r := by first | (rw [hy399]; with_reducible exact H) | (have H2_ := (Option.bind_some _ _).symm.trans H; rw [hy399]; with_reducible exact H2_) | (have H2_ := (Option.bind_some _ _).symm.trans H; with_reducible exact H2_) | with_reducible exact H | (rw [hy399]; exact H) | exact H
                                                have Ny399 := Aside0.mk hy399
                                                clear hy399
                                                have H' := Aside0.mk H
                                                clear H
                                                have p29 : 0 ≤ (x6_1 : Int) := of_decide_eq_true (by assumption)
                                                have q29 : x6_1 < (a0.size : Int) := of_decide_eq_true (by assumption)
                                                have hx29 := bt_at a0 x6_1
                                                replace p29 := eq_true p29
                                                replace q29 := eq_true q29
                                                have p72 : 0 ≤ (x6_1 : Int) := of_decide_eq_true (by assumption)
                                                have q72 : x6_1 < (a0.size : Int) := of_decide_eq_true (by assumption)
                                                have hx72 := bt_at a0 x6_1
                                                replace p72 := eq_true p72
                                                replace q72 := eq_true q72
                                                obtain ⟨Ao91, co91, eo91⟩ := Kd.R_slice HO_5.out
                                                subst eo91
                                                have p397 : 0 ≤ ((ji75) : Int) := of_decide_eq_true (by assumption)
                                                have q397 : (ji75) < (x5_1.length : Int) := of_decide_eq_true (by assumption)
                                                obtain ⟨ad397, e397, hx397_0⟩ := Kd.at_bool (Kd.R_reads' HO_5.out).2.2 (ji75) p397 q397
                                                (try rw [← Nbq78.out] at hx397_0)
                                                cases e397
                                                replace p397 := eq_true p397
                                                replace q397 := eq_true q397
                                                have p90 : 0 ≤ (x9_3 : Int) := of_decide_eq_true (by assumption)
                                                have q90 : (x9_3 : Int) < ((x7_3.length : Int) : Int) := of_decide_eq_true (by assumption)
                                                obtain ⟨go90, co90, eo90, gb90, gl90, cl90, HG90⟩ := Kd.R_form HO_7.out (by omega)
                                                (first | cases eo90 | (injection eo90 with ea_ en_ ec_; (first | subst ea_ | (injection ea_ with ea_; subst ea_)); subst ec_; clear en_))
                                                have GB90 := Aside0.mk gb90
                                                have GG90 := Aside0.mk HG90
                                                clear gb90 gl90 HG90
                                                obtain ⟨hx90_0, hf90_0⟩ := Kd.R_celln false HO_7.out (x9_3 : Int) p90 q90
                                                replace p90 := eq_true p90
                                                replace q90 := eq_true q90
                                                have HP92 := Kd.R_putg HO_7.out (x9_3 : Int) false
                                                go_wp2_with (first | ((with_reducible refine gate_store (t := 4) (p := 128) rfl ?_); refine store_event (t := 4) (p := 128) (v := ?vo_w93) (w1 := (wr.setCell ⟨go90, (x9_3 : Int).toNat, none⟩ (.bool false))) ?hg ?ho ?hn ?hr ?_; (case ho => rfl); (case hg => rfl); (case hn => rfl); (case hr => first | (go_simp; done) | (go_simp; rfl)); intro w93 hw; have hg : wr.grownBy w93 (some go90) := (by rw [hw]; exact HP92.2); have hp_ : Kd.R Kd.bool 4 w93 w.heap.size (fun k_ => some k_ ≠ (.slice (some ad397) x5_1.length co91 : Value).ownBlock) (.slice (some ⟨go90, 0, none⟩) x7_3.length co90) y399 := (by rw [hw, Ny399.out]; exact HP92.1); clear HP92; have n0_ := Aside0.mk (Kd.R_after (v := (.slice (some ⟨go90, 0, none⟩) x7_3.length co90)) (v1 := (.slice (some ⟨go90, 0, none⟩) x7_3.length co90)) (ok := (fun _ => True)) (by (with_reducible repeat (first | apply Kd.R_alloc | apply Kd.R_drewN | apply Kd.R_drew)); exact Kd.R_mono HO_5.out (fun _ hk => ⟨trivial, hk⟩)) hg (.inl rfl)); have n1_ := Aside0.mk (hp_); have n2_ := Aside0.mk ((by rw [hw]; exact below_set (HB.out) GB90.out : Below w.heap.size w w93)); clear HO_5; clear HO_7; clear HB; have HO_5 := n0_; have HO_7 := n1_; have HB := n2_; clear n0_ n1_ n2_; clear hg hw hp_))
                                                go_roundg k3
                                                case measure => have := HK1.out; have := HJ15.out; have := HK3.out; omega
                                                case rel => exact ⟨(y399), (wrap64 (x9_3 + 1)), (by first | rfl | (simp; done) | (simp [*]; done)), H', ⟨by have := HK1.out; have := HJ15.out; have := HK3.out; omega⟩, ⟨by (with_reducible repeat (first | apply Kd.R_alloc | apply Kd.R_drewN | apply Kd.R_drew)); exact Kd.R_mono HO_5.out (fun _ hk => hk.2)⟩, ⟨by (with_reducible repeat (first | apply Kd.R_alloc | apply Kd.R_drewN | apply Kd.R_drew)); first | exact HO_7.out | exact Kd.R_mono HO_7.out (fun k_ h_ q_ => h_ (q_.trans (ownBlock_len _ _ _ _)))⟩, ⟨by repeat (first | (with_reducible first | exact HB.out | apply below_alloc | apply pw_below_drewN | apply below_drew1) | exact HB.out)⟩⟩
                                              · rw [if_neg c89] at H
                                                exact absurd H (by simp)
                                            · rw [if_neg c88] at H
                                              exact absurd H (by simp)
                                        · rw [if_neg c77] at H
                                          exact absurd H (by simp)
                                      · rw [if_neg c76] at H
                                        exact absurd H (by simp)
                                    · rw [if_neg c74] at H
                                      have c74b0 : decide (0 < x9_3) = false := decide_eq_false c74
                                      clear c74
                                      by_cases c94 : 0 ≤ x9_3
                                      · rw [if_pos c94] at H
                                        have c94b0 : decide (0 ≤ x9_3) = true := decide_eq_true c94
                                        clear c94
                                        by_cases c95 : x9_3 < (x7_3.length : Int)
                                        · rw [if_pos c95] at H
                                          have c95b0 : decide (x9_3 < (x7_3.length : Int)) = true := decide_eq_true c95
                                          clear c95
                                          obtain ⟨y400, hy400⟩ : ∃ y_ : List Bool, y_ = (x7_3.set (x9_3 : Int).toNat false) := ⟨_, rfl⟩
                                          replace H : (spec_l02Glob.l1 k3 a0 a1 x5_1 x6_1 y400 x8_15 (wrap64 (x9_3 + 1))) = some r := by first | (rw [hy400]; with_reducible exact H) | (have H2_ := (Option.bind_some _ _).symm.trans H; rw [hy400]; with_reducible exact H2_) | (have H2_ := (Option.bind_some _ _).symm.trans H; with_reducible exact H2_) | with_reducible exact H | (rw [hy400]; exact H) | exact H
                                          have Ny400 := Aside0.mk hy400
                                          clear hy400
                                          have H' := Aside0.mk H
                                          clear H
                                          have p29 : 0 ≤ (x6_1 : Int) := of_decide_eq_true (by assumption)
                                          have q29 : x6_1 < (a0.size : Int) := of_decide_eq_true (by assumption)
                                          have hx29 := bt_at a0 x6_1
                                          replace p29 := eq_true p29
                                          replace q29 := eq_true q29
                                          have p72 : 0 ≤ (x6_1 : Int) := of_decide_eq_true (by assumption)
                                          have q72 : x6_1 < (a0.size : Int) := of_decide_eq_true (by assumption)
                                          have hx72 := bt_at a0 x6_1
                                          replace p72 := eq_true p72
                                          replace q72 := eq_true q72
                                          have p96 : 0 ≤ (x9_3 : Int) := of_decide_eq_true (by assumption)
                                          have q96 : (x9_3 : Int) < ((x7_3.length : Int) : Int) := of_decide_eq_true (by assumption)
                                          obtain ⟨go96, co96, eo96, gb96, gl96, cl96, HG96⟩ := Kd.R_form HO_7.out (by omega)
                                          (first | cases eo96 | (injection eo96 with ea_ en_ ec_; (first | subst ea_ | (injection ea_ with ea_; subst ea_)); subst ec_; clear en_))
                                          have GB96 := Aside0.mk gb96
                                          have GG96 := Aside0.mk HG96
                                          clear gb96 gl96 HG96
                                          obtain ⟨hx96_0, hf96_0⟩ := Kd.R_celln false HO_7.out (x9_3 : Int) p96 q96
                                          replace p96 := eq_true p96
                                          replace q96 := eq_true q96
                                          have HP97 := Kd.R_putg HO_7.out (x9_3 : Int) false
                                          go_wp2_with (first | ((with_reducible refine gate_store (t := 4) (p := 128) rfl ?_); refine store_event (t := 4) (p := 128) (v := ?vo_w98) (w1 := (wr.setCell ⟨go96, (x9_3 : Int).toNat, none⟩ (.bool false))) ?hg ?ho ?hn ?hr ?_; (case ho => rfl); (case hg => rfl); (case hn => rfl); (case hr => first | (go_simp; done) | (go_simp; rfl)); intro w98 hw; have hg : wr.grownBy w98 (some go96) := (by rw [hw]; exact HP97.2); have hp_ : Kd.R Kd.bool 4 w98 w.heap.size (fun k_ => some k_ ≠ (u5 : Value).ownBlock) (.slice (some ⟨go96, 0, none⟩) x7_3.length co96) y400 := (by rw [hw, Ny400.out]; exact HP97.1); clear HP97; have n0_ := Aside0.mk (Kd.R_after (v := (.slice (some ⟨go96, 0, none⟩) x7_3.length co96)) (v1 := (.slice (some ⟨go96, 0, none⟩) x7_3.length co96)) (ok := (fun _ => True)) (by (with_reducible repeat (first | apply Kd.R_alloc | apply Kd.R_drewN | apply Kd.R_drew)); exact Kd.R_mono HO_5.out (fun _ hk => ⟨trivial, hk⟩)) hg (.inl rfl)); have n1_ := Aside0.mk (hp_); have n2_ := Aside0.mk ((by rw [hw]; exact below_set (HB.out) GB96.out : Below w.heap.size w w98)); clear HO_5; clear HO_7; clear HB; have HO_5 := n0_; have HO_7 := n1_; have HB := n2_; clear n0_ n1_ n2_; clear hg hw hp_))
                                          go_roundg k3
                                          case measure => have := HK1.out; have := HJ15.out; have := HK3.out; omega
                                          case rel => exact ⟨(y400), (wrap64 (x9_3 + 1)), (by first | rfl | (simp; done) | (simp [*]; done)), H', ⟨by have := HK1.out; have := HJ15.out; have := HK3.out; omega⟩, ⟨by (with_reducible repeat (first | apply Kd.R_alloc | apply Kd.R_drewN | apply Kd.R_drew)); exact Kd.R_mono HO_5.out (fun _ hk => hk.2)⟩, ⟨by (with_reducible repeat (first | apply Kd.R_alloc | apply Kd.R_drewN | apply Kd.R_drew)); first | exact HO_7.out | exact Kd.R_mono HO_7.out (fun k_ h_ q_ => h_ (q_.trans (ownBlock_len _ _ _ _)))⟩, ⟨by repeat (first | (with_reducible first | exact HB.out | apply below_alloc | apply pw_below_drewN | apply below_drew1) | exact HB.out)⟩⟩
                                        · rw [if_neg c95] at H
                                          exact absurd H (by simp)
                                      · rw [if_neg c94] at H
                                        exact absurd H (by simp)
                                  · rw [if_neg c73] at H
                                    have c73b0 : ((bt a0 x6_1) == 63) = false := beq_eq_false_iff_ne.mpr c73
                                    have c73b1 : ((bt a0 x6_1) != 63) = true := bne_iff_ne.mpr c73
                                    by_cases c99 : x9_3 > 0
                                    · rw [if_pos c99] at H
                                      have c99b0 : decide (0 < x9_3) = true := decide_eq_true c99
                                      clear c99
                                      obtain ⟨ji100, hji100⟩ : ∃ j_ : Int, (wrap64 (x9_3 - 1)) = j_ := ⟨_, rfl⟩
                                      replace H : (if 0 ≤ (ji100) then (if (ji100) < (x5_1.length : Int) then (if rdOf false x5_1 (ji100) = true then (if (ji100) < (a1.size : Int) then (if 0 ≤ x9_3 then (if x9_3 < (x7_3.length : Int) then (spec_l02Glob.l1 k3 a0 a1 x5_1 x6_1 (x7_3.set (x9_3 : Int).toNat ((bt a1 (ji100)) == (bt a0 x6_1))) x8_15 (wrap64 (x9_3 + 1))) else (none)) else (none)) else (none)) else (if 0 ≤ x9_3 then (if x9_3 < (x7_3.length : Int) then (spec_l02Glob.l1 k3 a0 a1 x5_1 x6_1 (x7_3.set (x9_3 : Int).toNat false) x8_15 (wrap64 (x9_3 + 1))) else (none)) else (none))) else (none)) else (none)) = some r := by first | (rw [hji100] at H; exact H) | (simp only [hji100] at H ⊢; exact H)
                                      have hji100w : (IntKind.i64.wrap (x9_3 - 1)) = ji100 := (i64_w _).trans hji100
                                      by_cases c101 : 0 ≤ (ji100)
                                      · rw [if_pos c101] at H
                                        have c101b0 : decide (0 ≤ (ji100)) = true := decide_eq_true c101
                                        clear c101
                                        by_cases c102 : (ji100) < (x5_1.length : Int)
                                        · rw [if_pos c102] at H
                                          have c102b0 : decide ((ji100) < (x5_1.length : Int)) = true := decide_eq_true c102
                                          clear c102
                                          obtain ⟨bq103, hbq103⟩ : ∃ b_ : Bool, b_ = (rdOf false x5_1 (ji100)) := ⟨_, rfl⟩
                                          replace H : (if bq103 = true then (if (ji100) < (a1.size : Int) then (if 0 ≤ x9_3 then (if x9_3 < (x7_3.length : Int) then (spec_l02Glob.l1 k3 a0 a1 x5_1 x6_1 (x7_3.set (x9_3 : Int).toNat ((bt a1 (ji100)) == (bt a0 x6_1))) x8_15 (wrap64 (x9_3 + 1))) else (none)) else (none)) else (none)) else (if 0 ≤ x9_3 then (if x9_3 < (x7_3.length : Int) then (spec_l02Glob.l1 k3 a0 a1 x5_1 x6_1 (x7_3.set (x9_3 : Int).toNat false) x8_15 (wrap64 (x9_3 + 1))) else (none)) else (none))) = some r := by rw [← hbq103] at H; exact H
                                          have Nbq103 := Aside0.mk hbq103
                                          clear hbq103
                                          by_cases c104 : bq103 = true
                                          · subst c104
                                            have H1 : (if (ji100) < (a1.size : Int) then (if 0 ≤ x9_3 then (if x9_3 < (x7_3.length : Int) then (spec_l02Glob.l1 k3 a0 a1 x5_1 x6_1 (x7_3.set (x9_3 : Int).toNat ((bt a1 (ji100)) == (bt a0 x6_1))) x8_15 (wrap64 (x9_3 + 1))) else (none)) else (none)) else (none)) = some r := by rw [if_pos rfl] at H; exact H
                                            clear H
                                            have H := H1
                                            clear H1
                                            by_cases c105 : (ji100) < (a1.size : Int)
                                            · rw [if_pos c105] at H
                                              have c105b0 : decide ((ji100) < (a1.size : Int)) = true := decide_eq_true c105
                                              clear c105
                                              by_cases c108 : 0 ≤ x9_3
                                              · rw [if_pos c108] at H
                                                have c108b0 : decide (0 ≤ x9_3) = true := decide_eq_true c108
                                                clear c108
                                                by_cases c109 : x9_3 < (x7_3.length : Int)
                                                · rw [if_pos c109] at H
                                                  have c109b0 : decide (x9_3 < (x7_3.length : Int)) = true := decide_eq_true c109
                                                  clear c109
                                                  obtain ⟨y402, hy402⟩ : ∃ y_ : List Bool, y_ = (x7_3.set (x9_3 : Int).toNat ((bt a1 (ji100)) == (bt a0 x6_1))) := ⟨_, rfl⟩
                                                  replace H : (spec_l02Glob.l1 k3 a0 a1 x5_1 x6_1 y402 x8_15 (wrap64 (x9_3 + 1))) = some r := by first | (rw [hy402]; with_reducible exact H) | (have H2_ := (Option.bind_some _ _).symm.trans H; rw [hy402]; with_reducible exact H2_) | (have H2_ := (Option.bind_some _ _).symm.trans H; with_reducible exact H2_) | with_reducible exact H | (rw [hy402]; exact H) | exact H
                                                  have Ny402 := Aside0.mk hy402
                                                  clear hy402
                                                  have H' := Aside0.mk H
                                                  clear H
                                                  have p29 : 0 ≤ (x6_1 : Int) := of_decide_eq_true (by assumption)
                                                  have q29 : x6_1 < (a0.size : Int) := of_decide_eq_true (by assumption)
                                                  have hx29 := bt_at a0 x6_1
                                                  replace p29 := eq_true p29
                                                  replace q29 := eq_true q29
                                                  have p72 : 0 ≤ (x6_1 : Int) := of_decide_eq_true (by assumption)
                                                  have q72 : x6_1 < (a0.size : Int) := of_decide_eq_true (by assumption)
                                                  have hx72 := bt_at a0 x6_1
                                                  replace p72 := eq_true p72
                                                  replace q72 := eq_true q72
                                                  try go_wp2
                                                  have n0_ := Aside0.mk (Kd.R_drew HO_5.out)
                                                  have n1_ := Aside0.mk (Kd.R_drew HO_7.out)
                                                  have n2_ := Aside0.mk (below_drew1 HB.out)
                                                  clear HO_5
                                                  clear HO_7
                                                  clear HB
                                                  have HO_5 := n0_
                                                  have HO_7 := n1_
                                                  have HB := n2_
                                                  clear n0_ n1_ n2_
                                                  obtain ⟨Ao112, co112, eo112⟩ := Kd.R_slice HO_5.out
                                                  (first | subst eo112 | (injection eo112 with f1_ f2_ f3_; have f4_ := f1_.symm; have f5_ := f3_.symm; clear f1_ f2_ f3_; subst f4_; subst f5_))
                                                  have p401 : 0 ≤ ((ji100) : Int) := of_decide_eq_true (by assumption)
                                                  have q401 : (ji100) < (x5_1.length : Int) := of_decide_eq_true (by assumption)
                                                  obtain ⟨ad401, e401, hx401_0⟩ := Kd.at_bool (Kd.R_reads' HO_5.out).2.2 (ji100) p401 q401
                                                  (try rw [← Nbq103.out] at hx401_0)
                                                  cases e401
                                                  replace p401 := eq_true p401
                                                  replace q401 := eq_true q401
                                                  have p106 : 0 ≤ ((ji100) : Int) := of_decide_eq_true (by assumption)
                                                  have q106 : (ji100) < (a1.size : Int) := of_decide_eq_true (by assumption)
                                                  have hx106 := bt_at a1 (ji100)
                                                  replace p106 := eq_true p106
                                                  replace q106 := eq_true q106
                                                  have p107 : 0 ≤ (x6_1 : Int) := of_decide_eq_true (by assumption)
                                                  have q107 : x6_1 < (a0.size : Int) := of_decide_eq_true (by assumption)
                                                  have hx107 := bt_at a0 x6_1
                                                  replace p107 := eq_true p107
                                                  replace q107 := eq_true q107
                                                  have p110 : 0 ≤ (x9_3 : Int) := of_decide_eq_true (by assumption)
                                                  have q110 : (x9_3 : Int) < ((x7_3.length : Int) : Int) := of_decide_eq_true (by assumption)
                                                  obtain ⟨go110, co110, eo110, gb110, gl110, cl110, HG110⟩ := Kd.R_form HO_7.out (by omega)
                                                  (first | cases eo110 | (injection eo110 with ea_ en_ ec_; (first | subst ea_ | (injection ea_ with ea_; subst ea_)); subst ec_; clear en_))
                                                  have GB110 := Aside0.mk gb110
                                                  have GG110 := Aside0.mk HG110
                                                  clear gb110 gl110 HG110
                                                  obtain ⟨hx110_0, hf110_0⟩ := Kd.R_celln false HO_7.out (x9_3 : Int) p110 q110
                                                  replace p110 := eq_true p110
                                                  replace q110 := eq_true q110
                                                  have HP113 := Kd.R_putn HO_7.out (x9_3 : Int) ((bt a1 (ji100)) == (bt a0 x6_1))
                                                  rw [← Ny402.out] at HP113
                                                  have HQ113 := Aside0.mk HP113
                                                  clear HP113
                                                  refine start_ (n := 23) (S := fun w' => w'.cell? (ad401.add ((ji100)).toNat) = some (.bool true)) (ds := [22]) #[false, false, false, false, false, false, false, false, false, false, false, false, false, false, false, false, false, false, false, false, false, false, false] (by kernel_rfl) rfl rfl (hx401_0) (fun hHeld => ?_); refine with_tabW spec_l02Glob.tab11 spec_l02Glob.bits11 (fun HT_ HW_ => ?_)
                                                  generalize wr.drew = w111 at HO_5 HO_7 HB GG110 HQ113 hf110_0 hx110_0 hx401_0 hHeld ⊢
                                                  refine pure_ (i := 0) (N := some 50) (v := ?_) (a' := ?_) #[true, false, false, false, false, false, false, false, false, false, false, false, false, false, false, false, false, false, false, false, false, false, false] rfl rfl (any_of HT_.out (by kernel_rfl)) (fun _ _ _ h => h) (Or.inl ⟨by rfl, ?_⟩) ?_ ?_
                                                  rotate_left
                                                  · intro w'
                                                    go_simp
                                                    with_reducible rfl
                                                  rotate_left
                                                  · simp only [Act.put, List.setIfInBounds_toArray, List.set_cons_zero, List.set_cons_succ, i64_w, i32_w]
                                                    rfl
                                                  refine pure_ (i := 1) (N := some 51) (v := ?_) (a' := ?_) #[true, true, false, false, false, false, false, false, false, false, false, false, false, false, false, false, false, false, false, false, false, false, false] rfl rfl (any_of HT_.out (by kernel_rfl)) (fun _ _ _ h => h) (Or.inl ⟨by rfl, ?_⟩) ?_ ?_
                                                  rotate_left
                                                  · intro w'
                                                    go_simp
                                                    with_reducible rfl
                                                  rotate_left
                                                  · simp only [Act.put, List.setIfInBounds_toArray, List.set_cons_zero, List.set_cons_succ, i64_w, i32_w]
                                                    rfl
                                                  refine pure_ (i := 2) (N := some 52) (v := ?_) (a' := ?_) #[true, true, true, false, false, false, false, false, false, false, false, false, false, false, false, false, false, false, false, false, false, false, false] rfl rfl (any_of HT_.out (by kernel_rfl)) (fun _ _ _ h => h) (Or.inl ⟨by rfl, ?_⟩) ?_ ?_
                                                  rotate_left
                                                  · intro w'
                                                    go_simp
                                                    with_reducible rfl
                                                  rotate_left
                                                  · simp only [Act.put, List.setIfInBounds_toArray, List.set_cons_zero, List.set_cons_succ, i64_w, i32_w]
                                                    rfl
                                                  refine pure_ (i := 3) (N := some 53) (v := ?_) (a' := ?_) #[true, true, true, true, false, false, false, false, false, false, false, false, false, false, false, false, false, false, false, false, false, false, false] rfl rfl (any_of HT_.out (by kernel_rfl)) (fun _ _ _ h => h) (Or.inl ⟨by rfl, ?_⟩) ?_ ?_
                                                  rotate_left
                                                  · intro w'
                                                    go_simp
                                                    with_reducible rfl
                                                  rotate_left
                                                  · simp only [Act.put, List.setIfInBounds_toArray, List.set_cons_zero, List.set_cons_succ, i64_w, i32_w]
                                                    rfl
                                                  refine pure_ (i := 4) (N := some 54) (v := ?_) (a' := ?_) #[true, true, true, true, true, false, false, false, false, false, false, false, false, false, false, false, false, false, false, false, false, false, false] rfl rfl (any_of HT_.out (by kernel_rfl)) (fun _ _ _ h => h) (Or.inl ⟨by rfl, ?_⟩) ?_ ?_
                                                  rotate_left
                                                  · intro w'
                                                    go_simp
                                                    with_reducible rfl
                                                  rotate_left
                                                  · simp only [Act.put, List.setIfInBounds_toArray, List.set_cons_zero, List.set_cons_succ, i64_w, i32_w]
                                                    rfl
                                                  refine pure_ (i := 5) (N := some 55) (v := ?_) (a' := ?_) #[true, true, true, true, true, true, false, false, false, false, false, false, false, false, false, false, false, false, false, false, false, false, false] rfl rfl (any_of HT_.out (by kernel_rfl)) (fun _ _ _ h => h) (Or.inl ⟨by rfl, ?_⟩) ?_ ?_
                                                  rotate_left
                                                  · intro w'
                                                    go_simp
                                                    with_reducible rfl
                                                  rotate_left
                                                  · simp only [Act.put, List.setIfInBounds_toArray, List.set_cons_zero, List.set_cons_succ, i64_w, i32_w]
                                                    rfl
                                                  refine pure_ (i := 6) (N := some 56) (v := ?_) (a' := ?_) #[true, true, true, true, true, true, true, false, false, false, false, false, false, false, false, false, false, false, false, false, false, false, false] rfl rfl (any_of HT_.out (by kernel_rfl)) (fun _ _ _ h => h) (Or.inl ⟨by rfl, ?_⟩) ?_ ?_
                                                  rotate_left
                                                  · intro w'
                                                    go_simp
                                                    with_reducible rfl
                                                  rotate_left
                                                  · simp only [Act.put, List.setIfInBounds_toArray, List.set_cons_zero, List.set_cons_succ, i64_w, i32_w]
                                                    rfl
                                                  refine pure_ (i := 7) (N := some 57) (v := ?_) (a' := ?_) #[true, true, true, true, true, true, true, true, false, false, false, false, false, false, false, false, false, false, false, false, false, false, false] rfl rfl (any_of HT_.out (by kernel_rfl)) (fun _ _ _ h => h) (Or.inl ⟨by rfl, ?_⟩) ?_ ?_
                                                  rotate_left
                                                  · intro w'
                                                    go_simp
                                                    with_reducible rfl
                                                  rotate_left
                                                  · simp only [Act.put, List.setIfInBounds_toArray, List.set_cons_zero, List.set_cons_succ, i64_w, i32_w]
                                                    rfl
                                                  refine pure_ (i := 8) (N := some 58) (v := ?_) (a' := ?_) #[true, true, true, true, true, true, true, true, true, false, false, false, false, false, false, false, false, false, false, false, false, false, false] rfl rfl (any_of HT_.out (by kernel_rfl)) (fun _ _ _ h => h) (Or.inl ⟨by rfl, ?_⟩) ?_ ?_
                                                  rotate_left
                                                  · intro w'
                                                    go_simp
                                                    with_reducible rfl
                                                  rotate_left
                                                  · simp only [Act.put, List.setIfInBounds_toArray, List.set_cons_zero, List.set_cons_succ, i64_w, i32_w]
                                                    rfl
                                                  refine take_ (i := 9) (N := some 59) (v := ?_) (a' := ?_) #[true, true, true, true, true, true, true, true, true, true, false, false, false, false, false, false, false, false, false, false, false, false, false] rfl rfl (take_ofW HT_.out HW_.out (by kernel_rfl)) (fun _ _ _ h => h) (Or.inl ⟨by rfl, ?_⟩) hHeld ?_ ?_
                                                  rotate_left
                                                  · intro w' s0
                                                    go_simp
                                                    with_reducible rfl
                                                  rotate_left
                                                  · simp only [Act.put, List.setIfInBounds_toArray, List.set_cons_zero, List.set_cons_succ, i64_w, i32_w]
                                                    rfl
                                                  refine pure_ (i := 10) (N := some 60) (v := ?_) (a' := ?_) #[true, true, true, true, true, true, true, true, true, true, true, false, false, false, false, false, false, false, false, false, false, false, false] rfl rfl (any_of HT_.out (by kernel_rfl)) (fun _ _ _ h => h) (Or.inl ⟨by rfl, ?_⟩) ?_ ?_
                                                  rotate_left
                                                  · intro w'
                                                    go_simp
                                                    with_reducible rfl
                                                  rotate_left
                                                  · simp only [Act.put, List.setIfInBounds_toArray, List.set_cons_zero, List.set_cons_succ, i64_w, i32_w]
                                                    rfl
                                                  refine pure_ (i := 11) (N := some 61) (v := ?_) (a' := ?_) #[true, true, true, true, true, true, true, true, true, true, true, true, false, false, false, false, false, false, false, false, false, false, false] rfl rfl (any_of HT_.out (by kernel_rfl)) (fun _ _ _ h => h) (Or.inl ⟨by rfl, ?_⟩) ?_ ?_
                                                  rotate_left
                                                  · intro w'
                                                    go_simp
                                                    with_reducible rfl
                                                  rotate_left
                                                  · simp only [Act.put, List.setIfInBounds_toArray, List.set_cons_zero, List.set_cons_succ, i64_w, i32_w]
                                                    rfl
                                                  refine pure_ (i := 12) (N := some 62) (v := ?_) (a' := ?_) #[true, true, true, true, true, true, true, true, true, true, true, true, true, false, false, false, false, false, false, false, false, false, false] rfl rfl (any_of HT_.out (by kernel_rfl)) (fun _ _ _ h => h) (Or.inl ⟨by rfl, ?_⟩) ?_ ?_
                                                  rotate_left
                                                  · intro w'
                                                    go_simp
                                                    with_reducible rfl
                                                  rotate_left
                                                  · simp only [Act.put, List.setIfInBounds_toArray, List.set_cons_zero, List.set_cons_succ, i64_w, i32_w]
                                                    rfl
                                                  refine pure_ (i := 13) (N := some 63) (v := ?_) (a' := ?_) #[true, true, true, true, true, true, true, true, true, true, true, true, true, true, false, false, false, false, false, false, false, false, false] rfl rfl (any_of HT_.out (by kernel_rfl)) (fun _ _ _ h => h) (Or.inl ⟨by rfl, ?_⟩) ?_ ?_
                                                  rotate_left
                                                  · intro w'
                                                    go_simp
                                                    with_reducible rfl
                                                  rotate_left
                                                  · simp only [Act.put, List.setIfInBounds_toArray, List.set_cons_zero, List.set_cons_succ, i64_w, i32_w]
                                                    rfl
                                                  refine pure_ (i := 14) (N := some 64) (v := ?_) (a' := ?_) #[true, true, true, true, true, true, true, true, true, true, true, true, true, true, true, false, false, false, false, false, false, false, false] rfl rfl (any_of HT_.out (by kernel_rfl)) (fun _ _ _ h => h) (Or.inl ⟨by rfl, ?_⟩) ?_ ?_
                                                  rotate_left
                                                  · intro w'
                                                    go_simp
                                                    with_reducible rfl
                                                  rotate_left
                                                  · simp only [Act.put, List.setIfInBounds_toArray, List.set_cons_zero, List.set_cons_succ, i64_w, i32_w]
                                                    rfl
                                                  refine pure_ (i := 16) (N := some 66) (v := ?_) (a' := ?_) #[true, true, true, true, true, true, true, true, true, true, true, true, true, true, true, false, true, false, false, false, false, false, false] rfl rfl (any_of HT_.out (by kernel_rfl)) (fun _ _ _ h => h) (Or.inl ⟨by rfl, ?_⟩) ?_ ?_
                                                  rotate_left
                                                  · intro w'
                                                    go_simp
                                                    with_reducible rfl
                                                  rotate_left
                                                  · simp only [Act.put, List.setIfInBounds_toArray, List.set_cons_zero, List.set_cons_succ, i64_w, i32_w]
                                                    rfl
                                                  refine pure_ (i := 17) (N := some 67) (v := ?_) (a' := ?_) #[true, true, true, true, true, true, true, true, true, true, true, true, true, true, true, false, true, true, false, false, false, false, false] rfl rfl (any_of HT_.out (by kernel_rfl)) (fun _ _ _ h => h) (Or.inl ⟨by rfl, ?_⟩) ?_ ?_
                                                  rotate_left
                                                  · intro w'
                                                    go_simp
                                                    with_reducible rfl
                                                  rotate_left
                                                  · simp only [Act.put, List.setIfInBounds_toArray, List.set_cons_zero, List.set_cons_succ, i64_w, i32_w]
                                                    rfl
                                                  refine take_ (i := 15) (N := some 65) (v := ?_) (a' := ?_) #[true, true, true, true, true, true, true, true, true, true, true, true, true, true, true, true, true, true, false, false, false, false, false] rfl rfl (take_ofW HT_.out HW_.out (by kernel_rfl)) (fun _ _ _ h => h) (Or.inl ⟨by rfl, ?_⟩) hHeld ?_ ?_
                                                  rotate_left
                                                  · intro w' s0
                                                    go_simp
                                                    with_reducible rfl
                                                  rotate_left
                                                  · simp only [Act.put, List.setIfInBounds_toArray, List.set_cons_zero, List.set_cons_succ, i64_w, i32_w]
                                                    rfl
                                                  refine take_ (i := 18) (N := some 68) (v := ?_) (a' := ?_) #[true, true, true, true, true, true, true, true, true, true, true, true, true, true, true, true, true, true, true, false, false, false, false] rfl rfl (take_ofW HT_.out HW_.out (by kernel_rfl)) (fun _ _ _ h => h) (Or.inl ⟨by rfl, ?_⟩) hHeld ?_ ?_
                                                  rotate_left
                                                  · intro w' s0
                                                    go_simp
                                                    with_reducible rfl
                                                  rotate_left
                                                  · simp only [Act.put, List.setIfInBounds_toArray, List.set_cons_zero, List.set_cons_succ, i64_w, i32_w]
                                                    rfl
                                                  refine pure_ (i := 19) (N := some 69) (v := ?_) (a' := ?_) #[true, true, true, true, true, true, true, true, true, true, true, true, true, true, true, true, true, true, true, true, false, false, false] rfl rfl (any_of HT_.out (by kernel_rfl)) (fun _ _ _ h => h) (Or.inl ⟨by rfl, ?_⟩) ?_ ?_
                                                  rotate_left
                                                  · intro w'
                                                    go_simp
                                                    with_reducible rfl
                                                  rotate_left
                                                  · simp only [Act.put, List.setIfInBounds_toArray, List.set_cons_zero, List.set_cons_succ, i64_w, i32_w]
                                                    rfl
                                                  refine pure_ (i := 20) (N := some 70) (v := ?_) (a' := ?_) #[true, true, true, true, true, true, true, true, true, true, true, true, true, true, true, true, true, true, true, true, true, false, false] rfl rfl (any_of HT_.out (by kernel_rfl)) (fun _ _ _ h => h) (Or.inl ⟨by rfl, ?_⟩) ?_ ?_
                                                  rotate_left
                                                  · intro w'
                                                    go_simp
                                                    with_reducible rfl
                                                  rotate_left
                                                  · simp only [Act.put, List.setIfInBounds_toArray, List.set_cons_zero, List.set_cons_succ, i64_w, i32_w]
                                                    rfl
                                                  refine pure_ (i := 21) (N := some 71) (v := ?_) (a' := ?_) #[true, true, true, true, true, true, true, true, true, true, true, true, true, true, true, true, true, true, true, true, true, true, false] rfl rfl (any_of HT_.out (by kernel_rfl)) (fun _ _ _ h => h) (Or.inl ⟨by rfl, ?_⟩) ?_ ?_
                                                  rotate_left
                                                  · intro w'
                                                    go_simp
                                                    with_reducible rfl
                                                  rotate_left
                                                  · simp only [Act.put, List.setIfInBounds_toArray, List.set_cons_zero, List.set_cons_succ, i64_w, i32_w]
                                                    rfl
                                                  refine last_ (i := 22) (N := none) #[true, true, true, true, true, true, true, true, true, true, true, true, true, true, true, true, true, true, true, true, true, true, true] rfl rfl (one_of HT_.out (by kernel_rfl)) (by decide) (fun K hK => ?_)
                                                  refine skip_ (w1 := ?_) (by rfl) rfl ?_ ?_
                                                  rotate_left
                                                  · go_simp
                                                    rfl
                                                  refine hK.out _ _ ?_
                                                  clear hK K
                                                  refine done_ (done_of HT_.out (by kernel_rfl)) ?_
                                                  try go_wp2
                                                  go_roundg k3
                                                  case measure => have := HK1.out; have := HJ15.out; have := HK3.out; omega
                                                  case rel => exact ⟨(y402), (wrap64 (x9_3 + 1)), (by first | rfl | (simp; done) | (simp [*]; done)), H', ⟨by have := HK1.out; have := HJ15.out; have := HK3.out; omega⟩, ⟨by (with_reducible repeat (first | apply Kd.R_alloc | apply Kd.R_drewN | apply Kd.R_drew)); exact Kd.R_mono (Kd.R_far (p := ⟨go110, (x9_3 : Int).toNat, none⟩) (Kd.R_mono HO_5.out (fun k_ hk => (⟨hk, fun e_ => hk (by rw [e_]; rfl)⟩ : _ ∧ k_ ≠ go110))) (fun _ hk => hk.2) (.bool ((bt a1 (ji100)) == (bt a0 x6_1)))) (fun _ hk => hk.1)⟩, ⟨by (with_reducible repeat (first | apply Kd.R_alloc | apply Kd.R_drewN | apply Kd.R_drew)); first | exact HQ113.out | exact Kd.R_mono HQ113.out (fun k_ h_ q_ => h_ (q_.trans (ownBlock_len _ _ _ _)))⟩, ⟨by repeat (first | (with_reducible first | exact HB.out | apply below_alloc | apply pw_below_drewN | apply below_drew1 | refine below_set ?_ GB110.out) | exact HB.out)⟩⟩
                                                · rw [if_neg c109] at H
                                                  exact absurd H (by simp)
                                              · rw [if_neg c108] at H
                                                exact absurd H (by simp)
                                            · rw [if_neg c105] at H
                                              exact absurd H (by simp)
                                          · replace c104 := Bool.eq_false_iff.mpr c104
                                            subst c104
                                            have H1 : (if 0 ≤ x9_3 then (if x9_3 < (x7_3.length : Int) then (spec_l02Glob.l1 k3 a0 a1 x5_1 x6_1 (x7_3.set (x9_3 : Int).toNat false) x8_15 (wrap64 (x9_3 + 1))) else (none)) else (none)) = some r := by rw [if_neg (show ¬ (false = true) by decide)] at H; exact H
                                            clear H
                                            have H := H1
                                            clear H1
                                            by_cases c114 : 0 ≤ x9_3
                                            · rw [if_pos c114] at H
                                              have c114b0 : decide (0 ≤ x9_3) = true := decide_eq_true c114
                                              clear c114
                                              by_cases c115 : x9_3 < (x7_3.length : Int)
                                              · rw [if_pos c115] at H
                                                have c115b0 : decide (x9_3 < (x7_3.length : Int)) = true := decide_eq_true c115
                                                clear c115
                                                obtain ⟨y403, hy403⟩ : ∃ y_ : List Bool, y_ = (x7_3.set (x9_3 : Int).toNat false) := ⟨_, rfl⟩
                                                replace H : (spec_l02Glob.l1 k3 a0 a1 x5_1 x6_1 y403 x8_15 (wrap64 (x9_3 + 1))) = some r := by first | (rw [hy403]; with_reducible exact H) | (have H2_ := (Option.bind_some _ _).symm.trans H; rw [hy403]; with_reducible exact H2_) | (have H2_ := (Option.bind_some _ _).symm.trans H; with_reducible exact H2_) | with_reducible exact H | (rw [hy403]; exact H) | exact H
                                                have Ny403 := Aside0.mk hy403
                                                clear hy403
                                                have H' := Aside0.mk H
                                                clear H
                                                have p29 : 0 ≤ (x6_1 : Int) := of_decide_eq_true (by assumption)
                                                have q29 : x6_1 < (a0.size : Int) := of_decide_eq_true (by assumption)
                                                have hx29 := bt_at a0 x6_1
                                                replace p29 := eq_true p29
                                                replace q29 := eq_true q29
                                                have p72 : 0 ≤ (x6_1 : Int) := of_decide_eq_true (by assumption)
                                                have q72 : x6_1 < (a0.size : Int) := of_decide_eq_true (by assumption)
                                                have hx72 := bt_at a0 x6_1
                                                replace p72 := eq_true p72
                                                replace q72 := eq_true q72
                                                try go_wp2
                                                have n0_ := Aside0.mk (Kd.R_drew HO_5.out)
                                                have n1_ := Aside0.mk (Kd.R_drew HO_7.out)
                                                have n2_ := Aside0.mk (below_drew1 HB.out)
                                                clear HO_5
                                                clear HO_7
                                                clear HB
                                                have HO_5 := n0_
                                                have HO_7 := n1_
                                                have HB := n2_
                                                clear n0_ n1_ n2_
                                                obtain ⟨Ao118, co118, eo118⟩ := Kd.R_slice HO_5.out
                                                (first | subst eo118 | (injection eo118 with f1_ f2_ f3_; have f4_ := f1_.symm; have f5_ := f3_.symm; clear f1_ f2_ f3_; subst f4_; subst f5_))
                                                have p401 : 0 ≤ ((ji100) : Int) := of_decide_eq_true (by assumption)
                                                have q401 : (ji100) < (x5_1.length : Int) := of_decide_eq_true (by assumption)
                                                obtain ⟨ad401, e401, hx401_0⟩ := Kd.at_bool (Kd.R_reads' HO_5.out).2.2 (ji100) p401 q401
                                                (try rw [← Nbq103.out] at hx401_0)
                                                cases e401
                                                replace p401 := eq_true p401
                                                replace q401 := eq_true q401
                                                have p116 : 0 ≤ (x9_3 : Int) := of_decide_eq_true (by assumption)
                                                have q116 : (x9_3 : Int) < ((x7_3.length : Int) : Int) := of_decide_eq_true (by assumption)
                                                obtain ⟨go116, co116, eo116, gb116, gl116, cl116, HG116⟩ := Kd.R_form HO_7.out (by omega)
                                                (first | cases eo116 | (injection eo116 with ea_ en_ ec_; (first | subst ea_ | (injection ea_ with ea_; subst ea_)); subst ec_; clear en_))
                                                have GB116 := Aside0.mk gb116
                                                have GG116 := Aside0.mk HG116
                                                clear gb116 gl116 HG116
                                                obtain ⟨hx116_0, hf116_0⟩ := Kd.R_celln false HO_7.out (x9_3 : Int) p116 q116
                                                replace p116 := eq_true p116
                                                replace q116 := eq_true q116
                                                have HP119 := Kd.R_putn HO_7.out (x9_3 : Int) false
                                                rw [← Ny403.out] at HP119
                                                have HQ119 := Aside0.mk HP119
                                                clear HP119
                                                refine start_ (n := 23) (S := fun w' => w'.cell? (ad401.add ((ji100)).toNat) = some (.bool false)) (ds := [22]) #[false, false, false, false, false, false, false, false, false, false, false, false, false, false, false, false, false, false, false, false, false, false, false] (by kernel_rfl) rfl rfl (hx401_0) (fun hHeld => ?_); refine with_tabW spec_l02Glob.tab11 spec_l02Glob.bits11 (fun HT_ HW_ => ?_)
                                                generalize wr.drew = w117 at HO_5 HO_7 HB GG116 HQ119 hf116_0 hx116_0 hx401_0 hHeld ⊢
                                                refine pure_ (i := 0) (N := some 50) (v := ?_) (a' := ?_) #[true, false, false, false, false, false, false, false, false, false, false, false, false, false, false, false, false, false, false, false, false, false, false] rfl rfl (any_of HT_.out (by kernel_rfl)) (fun _ _ _ h => h) (Or.inl ⟨by rfl, ?_⟩) ?_ ?_
                                                rotate_left
                                                · intro w'
                                                  go_simp
                                                  with_reducible rfl
                                                rotate_left
                                                · simp only [Act.put, List.setIfInBounds_toArray, List.set_cons_zero, List.set_cons_succ, i64_w, i32_w]
                                                  rfl
                                                refine pure_ (i := 1) (N := some 51) (v := ?_) (a' := ?_) #[true, true, false, false, false, false, false, false, false, false, false, false, false, false, false, false, false, false, false, false, false, false, false] rfl rfl (any_of HT_.out (by kernel_rfl)) (fun _ _ _ h => h) (Or.inl ⟨by rfl, ?_⟩) ?_ ?_
                                                rotate_left
                                                · intro w'
                                                  go_simp
                                                  with_reducible rfl
                                                rotate_left
                                                · simp only [Act.put, List.setIfInBounds_toArray, List.set_cons_zero, List.set_cons_succ, i64_w, i32_w]
                                                  rfl
                                                refine pure_ (i := 2) (N := some 52) (v := ?_) (a' := ?_) #[true, true, true, false, false, false, false, false, false, false, false, false, false, false, false, false, false, false, false, false, false, false, false] rfl rfl (any_of HT_.out (by kernel_rfl)) (fun _ _ _ h => h) (Or.inl ⟨by rfl, ?_⟩) ?_ ?_
                                                rotate_left
                                                · intro w'
                                                  go_simp
                                                  with_reducible rfl
                                                rotate_left
                                                · simp only [Act.put, List.setIfInBounds_toArray, List.set_cons_zero, List.set_cons_succ, i64_w, i32_w]
                                                  rfl
                                                refine pure_ (i := 3) (N := some 53) (v := ?_) (a' := ?_) #[true, true, true, true, false, false, false, false, false, false, false, false, false, false, false, false, false, false, false, false, false, false, false] rfl rfl (any_of HT_.out (by kernel_rfl)) (fun _ _ _ h => h) (Or.inl ⟨by rfl, ?_⟩) ?_ ?_
                                                rotate_left
                                                · intro w'
                                                  go_simp
                                                  with_reducible rfl
                                                rotate_left
                                                · simp only [Act.put, List.setIfInBounds_toArray, List.set_cons_zero, List.set_cons_succ, i64_w, i32_w]
                                                  rfl
                                                refine pure_ (i := 4) (N := some 54) (v := ?_) (a' := ?_) #[true, true, true, true, true, false, false, false, false, false, false, false, false, false, false, false, false, false, false, false, false, false, false] rfl rfl (any_of HT_.out (by kernel_rfl)) (fun _ _ _ h => h) (Or.inl ⟨by rfl, ?_⟩) ?_ ?_
                                                rotate_left
                                                · intro w'
                                                  go_simp
                                                  with_reducible rfl
                                                rotate_left
                                                · simp only [Act.put, List.setIfInBounds_toArray, List.set_cons_zero, List.set_cons_succ, i64_w, i32_w]
                                                  rfl
                                                refine pure_ (i := 5) (N := some 55) (v := ?_) (a' := ?_) #[true, true, true, true, true, true, false, false, false, false, false, false, false, false, false, false, false, false, false, false, false, false, false] rfl rfl (any_of HT_.out (by kernel_rfl)) (fun _ _ _ h => h) (Or.inl ⟨by rfl, ?_⟩) ?_ ?_
                                                rotate_left
                                                · intro w'
                                                  go_simp
                                                  with_reducible rfl
                                                rotate_left
                                                · simp only [Act.put, List.setIfInBounds_toArray, List.set_cons_zero, List.set_cons_succ, i64_w, i32_w]
                                                  rfl
                                                refine pure_ (i := 6) (N := some 56) (v := ?_) (a' := ?_) #[true, true, true, true, true, true, true, false, false, false, false, false, false, false, false, false, false, false, false, false, false, false, false] rfl rfl (any_of HT_.out (by kernel_rfl)) (fun _ _ _ h => h) (Or.inl ⟨by rfl, ?_⟩) ?_ ?_
                                                rotate_left
                                                · intro w'
                                                  go_simp
                                                  with_reducible rfl
                                                rotate_left
                                                · simp only [Act.put, List.setIfInBounds_toArray, List.set_cons_zero, List.set_cons_succ, i64_w, i32_w]
                                                  rfl
                                                refine pure_ (i := 7) (N := some 57) (v := ?_) (a' := ?_) #[true, true, true, true, true, true, true, true, false, false, false, false, false, false, false, false, false, false, false, false, false, false, false] rfl rfl (any_of HT_.out (by kernel_rfl)) (fun _ _ _ h => h) (Or.inl ⟨by rfl, ?_⟩) ?_ ?_
                                                rotate_left
                                                · intro w'
                                                  go_simp
                                                  with_reducible rfl
                                                rotate_left
                                                · simp only [Act.put, List.setIfInBounds_toArray, List.set_cons_zero, List.set_cons_succ, i64_w, i32_w]
                                                  rfl
                                                refine pure_ (i := 8) (N := some 58) (v := ?_) (a' := ?_) #[true, true, true, true, true, true, true, true, true, false, false, false, false, false, false, false, false, false, false, false, false, false, false] rfl rfl (any_of HT_.out (by kernel_rfl)) (fun _ _ _ h => h) (Or.inl ⟨by rfl, ?_⟩) ?_ ?_
                                                rotate_left
                                                · intro w'
                                                  go_simp
                                                  with_reducible rfl
                                                rotate_left
                                                · simp only [Act.put, List.setIfInBounds_toArray, List.set_cons_zero, List.set_cons_succ, i64_w, i32_w]
                                                  rfl
                                                refine take_ (i := 9) (N := some 59) (v := ?_) (a' := ?_) #[true, true, true, true, true, true, true, true, true, true, false, false, false, false, false, false, false, false, false, false, false, false, false] rfl rfl (take_ofW HT_.out HW_.out (by kernel_rfl)) (fun _ _ _ h => h) (Or.inl ⟨by rfl, ?_⟩) hHeld ?_ ?_
                                                rotate_left
                                                · intro w' s0
                                                  go_simp
                                                  with_reducible rfl
                                                rotate_left
                                                · simp only [Act.put, List.setIfInBounds_toArray, List.set_cons_zero, List.set_cons_succ, i64_w, i32_w]
                                                  rfl
                                                refine pure_ (i := 10) (N := some 60) (v := ?_) (a' := ?_) #[true, true, true, true, true, true, true, true, true, true, true, false, false, false, false, false, false, false, false, false, false, false, false] rfl rfl (any_of HT_.out (by kernel_rfl)) (fun _ _ _ h => h) (Or.inl ⟨by rfl, ?_⟩) ?_ ?_
                                                rotate_left
                                                · intro w'
                                                  go_simp
                                                  with_reducible rfl
                                                rotate_left
                                                · simp only [Act.put, List.setIfInBounds_toArray, List.set_cons_zero, List.set_cons_succ, i64_w, i32_w]
                                                  rfl
                                                refine pure_ (i := 11) (N := some 61) (v := ?_) (a' := ?_) #[true, true, true, true, true, true, true, true, true, true, true, true, false, false, false, false, false, false, false, false, false, false, false] rfl rfl (any_of HT_.out (by kernel_rfl)) (fun _ _ _ h => h) (Or.inl ⟨by rfl, ?_⟩) ?_ ?_
                                                rotate_left
                                                · intro w'
                                                  go_simp
                                                  with_reducible rfl
                                                rotate_left
                                                · simp only [Act.put, List.setIfInBounds_toArray, List.set_cons_zero, List.set_cons_succ, i64_w, i32_w]
                                                  rfl
                                                refine pure_ (i := 12) (N := some 62) (v := undef) (a' := ?_) #[true, true, true, true, true, true, true, true, true, true, true, true, true, false, false, false, false, false, false, false, false, false, false] rfl rfl (any_of HT_.out (by kernel_rfl)) (fun _ _ _ h => h) (Or.inr ⟨by rfl, rfl⟩) ?_ ?_
                                                rotate_left
                                                · simp only [Act.put, List.setIfInBounds_toArray, List.set_cons_zero, List.set_cons_succ, i64_w, i32_w]
                                                  rfl
                                                refine pure_ (i := 13) (N := some 63) (v := undef) (a' := ?_) #[true, true, true, true, true, true, true, true, true, true, true, true, true, true, false, false, false, false, false, false, false, false, false] rfl rfl (any_of HT_.out (by kernel_rfl)) (fun _ _ _ h => h) (Or.inr ⟨by rfl, rfl⟩) ?_ ?_
                                                rotate_left
                                                · simp only [Act.put, List.setIfInBounds_toArray, List.set_cons_zero, List.set_cons_succ, i64_w, i32_w]
                                                  rfl
                                                refine pure_ (i := 14) (N := some 64) (v := undef) (a' := ?_) #[true, true, true, true, true, true, true, true, true, true, true, true, true, true, true, false, false, false, false, false, false, false, false] rfl rfl (any_of HT_.out (by kernel_rfl)) (fun _ _ _ h => h) (Or.inr ⟨by rfl, rfl⟩) ?_ ?_
                                                rotate_left
                                                · simp only [Act.put, List.setIfInBounds_toArray, List.set_cons_zero, List.set_cons_succ, i64_w, i32_w]
                                                  rfl
                                                refine pure_ (i := 15) (N := some 65) (v := undef) (a' := ?_) #[true, true, true, true, true, true, true, true, true, true, true, true, true, true, true, true, false, false, false, false, false, false, false] rfl rfl (any_of HT_.out (by kernel_rfl)) (fun _ _ _ h => h) (Or.inr ⟨by rfl, rfl⟩) ?_ ?_
                                                rotate_left
                                                · simp only [Act.put, List.setIfInBounds_toArray, List.set_cons_zero, List.set_cons_succ, i64_w, i32_w]
                                                  rfl
                                                refine pure_ (i := 16) (N := some 66) (v := undef) (a' := ?_) #[true, true, true, true, true, true, true, true, true, true, true, true, true, true, true, true, true, false, false, false, false, false, false] rfl rfl (any_of HT_.out (by kernel_rfl)) (fun _ _ _ h => h) (Or.inr ⟨by rfl, rfl⟩) ?_ ?_
                                                rotate_left
                                                · simp only [Act.put, List.setIfInBounds_toArray, List.set_cons_zero, List.set_cons_succ, i64_w, i32_w]
                                                  rfl
                                                refine pure_ (i := 17) (N := some 67) (v := undef) (a' := ?_) #[true, true, true, true, true, true, true, true, true, true, true, true, true, true, true, true, true, true, false, false, false, false, false] rfl rfl (any_of HT_.out (by kernel_rfl)) (fun _ _ _ h => h) (Or.inr ⟨by rfl, rfl⟩) ?_ ?_
                                                rotate_left
                                                · simp only [Act.put, List.setIfInBounds_toArray, List.set_cons_zero, List.set_cons_succ, i64_w, i32_w]
                                                  rfl
                                                refine pure_ (i := 18) (N := some 68) (v := undef) (a' := ?_) #[true, true, true, true, true, true, true, true, true, true, true, true, true, true, true, true, true, true, true, false, false, false, false] rfl rfl (any_of HT_.out (by kernel_rfl)) (fun _ _ _ h => h) (Or.inr ⟨by rfl, rfl⟩) ?_ ?_
                                                rotate_left
                                                · simp only [Act.put, List.setIfInBounds_toArray, List.set_cons_zero, List.set_cons_succ, i64_w, i32_w]
                                                  rfl
                                                refine pure_ (i := 19) (N := some 69) (v := undef) (a' := ?_) #[true, true, true, true, true, true, true, true, true, true, true, true, true, true, true, true, true, true, true, true, false, false, false] rfl rfl (any_of HT_.out (by kernel_rfl)) (fun _ _ _ h => h) (Or.inr ⟨by rfl, rfl⟩) ?_ ?_
                                                rotate_left
                                                · simp only [Act.put, List.setIfInBounds_toArray, List.set_cons_zero, List.set_cons_succ, i64_w, i32_w]
                                                  rfl
                                                refine pure_ (i := 20) (N := some 70) (v := ?_) (a' := ?_) #[true, true, true, true, true, true, true, true, true, true, true, true, true, true, true, true, true, true, true, true, true, false, false] rfl rfl (any_of HT_.out (by kernel_rfl)) (fun _ _ _ h => h) (Or.inl ⟨by rfl, ?_⟩) ?_ ?_
                                                rotate_left
                                                · intro w'
                                                  go_simp
                                                  with_reducible rfl
                                                rotate_left
                                                · simp only [Act.put, List.setIfInBounds_toArray, List.set_cons_zero, List.set_cons_succ, i64_w, i32_w]
                                                  rfl
                                                refine pure_ (i := 21) (N := some 71) (v := ?_) (a' := ?_) #[true, true, true, true, true, true, true, true, true, true, true, true, true, true, true, true, true, true, true, true, true, true, false] rfl rfl (any_of HT_.out (by kernel_rfl)) (fun _ _ _ h => h) (Or.inl ⟨by rfl, ?_⟩) ?_ ?_
                                                rotate_left
                                                · intro w'
                                                  go_simp
                                                  with_reducible rfl
                                                rotate_left
                                                · simp only [Act.put, List.setIfInBounds_toArray, List.set_cons_zero, List.set_cons_succ, i64_w, i32_w]
                                                  rfl
                                                refine last_ (i := 22) (N := none) #[true, true, true, true, true, true, true, true, true, true, true, true, true, true, true, true, true, true, true, true, true, true, true] rfl rfl (one_of HT_.out (by kernel_rfl)) (by decide) (fun K hK => ?_)
                                                refine skip_ (w1 := ?_) (by rfl) rfl ?_ ?_
                                                rotate_left
                                                · go_simp
                                                  rfl
                                                refine hK.out _ _ ?_
                                                clear hK K
                                                refine done_ (done_of HT_.out (by kernel_rfl)) ?_
                                                try go_wp2
                                                go_roundg k3
                                                case measure => have := HK1.out; have := HJ15.out; have := HK3.out; omega
                                                case rel => exact ⟨(y403), (wrap64 (x9_3 + 1)), (by first | rfl | (simp; done) | (simp [*]; done)), H', ⟨by have := HK1.out; have := HJ15.out; have := HK3.out; omega⟩, ⟨by (with_reducible repeat (first | apply Kd.R_alloc | apply Kd.R_drewN | apply Kd.R_drew)); exact Kd.R_mono (Kd.R_far (p := ⟨go116, (x9_3 : Int).toNat, none⟩) (Kd.R_mono HO_5.out (fun k_ hk => (⟨hk, fun e_ => hk (by rw [e_]; rfl)⟩ : _ ∧ k_ ≠ go116))) (fun _ hk => hk.2) (.bool false)) (fun _ hk => hk.1)⟩, ⟨by (with_reducible repeat (first | apply Kd.R_alloc | apply Kd.R_drewN | apply Kd.R_drew)); first | exact HQ119.out | exact Kd.R_mono HQ119.out (fun k_ h_ q_ => h_ (q_.trans (ownBlock_len _ _ _ _)))⟩, ⟨by repeat (first | (with_reducible first | exact HB.out | apply below_alloc | apply pw_below_drewN | apply below_drew1 | refine below_set ?_ GB116.out) | exact HB.out)⟩⟩
                                              · rw [if_neg c115] at H
                                                exact absurd H (by simp)
                                            · rw [if_neg c114] at H
                                              exact absurd H (by simp)
                                        · rw [if_neg c102] at H
                                          exact absurd H (by simp)
                                      · rw [if_neg c101] at H
                                        exact absurd H (by simp)
                                    · rw [if_neg c99] at H
                                      have c99b0 : decide (0 < x9_3) = false := decide_eq_false c99
                                      clear c99
                                      by_cases c120 : 0 ≤ x9_3
                                      · rw [if_pos c120] at H
                                        have c120b0 : decide (0 ≤ x9_3) = true := decide_eq_true c120
                                        clear c120
                                        by_cases c121 : x9_3 < (x7_3.length : Int)
                                        · rw [if_pos c121] at H
                                          have c121b0 : decide (x9_3 < (x7_3.length : Int)) = true := decide_eq_true c121
                                          clear c121
                                          obtain ⟨y404, hy404⟩ : ∃ y_ : List Bool, y_ = (x7_3.set (x9_3 : Int).toNat false) := ⟨_, rfl⟩
                                          replace H : (spec_l02Glob.l1 k3 a0 a1 x5_1 x6_1 y404 x8_15 (wrap64 (x9_3 + 1))) = some r := by first | (rw [hy404]; with_reducible exact H) | (have H2_ := (Option.bind_some _ _).symm.trans H; rw [hy404]; with_reducible exact H2_) | (have H2_ := (Option.bind_some _ _).symm.trans H; with_reducible exact H2_) | with_reducible exact H | (rw [hy404]; exact H) | exact H
                                          have Ny404 := Aside0.mk hy404
                                          clear hy404
                                          have H' := Aside0.mk H
                                          clear H
                                          have p29 : 0 ≤ (x6_1 : Int) := of_decide_eq_true (by assumption)
                                          have q29 : x6_1 < (a0.size : Int) := of_decide_eq_true (by assumption)
                                          have hx29 := bt_at a0 x6_1
                                          replace p29 := eq_true p29
                                          replace q29 := eq_true q29
                                          have p72 : 0 ≤ (x6_1 : Int) := of_decide_eq_true (by assumption)
                                          have q72 : x6_1 < (a0.size : Int) := of_decide_eq_true (by assumption)
                                          have hx72 := bt_at a0 x6_1
                                          replace p72 := eq_true p72
                                          replace q72 := eq_true q72
                                          try go_wp2
                                          have n0_ := Aside0.mk (Kd.R_drew HO_5.out)
                                          have n1_ := Aside0.mk (Kd.R_drew HO_7.out)
                                          have n2_ := Aside0.mk (below_drew1 HB.out)
                                          clear HO_5
                                          clear HO_7
                                          clear HB
                                          have HO_5 := n0_
                                          have HO_7 := n1_
                                          have HB := n2_
                                          clear n0_ n1_ n2_
                                          have p122 : 0 ≤ (x9_3 : Int) := of_decide_eq_true (by assumption)
                                          have q122 : (x9_3 : Int) < ((x7_3.length : Int) : Int) := of_decide_eq_true (by assumption)
                                          obtain ⟨go122, co122, eo122, gb122, gl122, cl122, HG122⟩ := Kd.R_form HO_7.out (by omega)
                                          (first | cases eo122 | (injection eo122 with ea_ en_ ec_; (first | subst ea_ | (injection ea_ with ea_; subst ea_)); subst ec_; clear en_))
                                          have GB122 := Aside0.mk gb122
                                          have GG122 := Aside0.mk HG122
                                          clear gb122 gl122 HG122
                                          obtain ⟨hx122_0, hf122_0⟩ := Kd.R_celln false HO_7.out (x9_3 : Int) p122 q122
                                          replace p122 := eq_true p122
                                          replace q122 := eq_true q122
                                          have HP124 := Kd.R_putn HO_7.out (x9_3 : Int) false
                                          rw [← Ny404.out] at HP124
                                          have HQ124 := Aside0.mk HP124
                                          clear HP124
                                          refine start_ (n := 23) (S := fun w' => True) (ds := [22]) #[false, false, false, false, false, false, false, false, false, false, false, false, false, false, false, false, false, false, false, false, false, false, false] (by kernel_rfl) rfl rfl trivial (fun hHeld => ?_); refine with_tabW spec_l02Glob.tab11 spec_l02Glob.bits11 (fun HT_ HW_ => ?_)
                                          generalize wr.drew = w123 at HO_5 HO_7 HB GG122 HQ124 hf122_0 hx122_0 hHeld ⊢
                                          refine pure_ (i := 0) (N := some 50) (v := ?_) (a' := ?_) #[true, false, false, false, false, false, false, false, false, false, false, false, false, false, false, false, false, false, false, false, false, false, false] rfl rfl (any_of HT_.out (by kernel_rfl)) (fun _ _ _ h => h) (Or.inl ⟨by rfl, ?_⟩) ?_ ?_
                                          rotate_left
                                          · intro w'
                                            go_simp
                                            with_reducible rfl
                                          rotate_left
                                          · simp only [Act.put, List.setIfInBounds_toArray, List.set_cons_zero, List.set_cons_succ, i64_w, i32_w]
                                            rfl
                                          refine pure_ (i := 1) (N := some 51) (v := ?_) (a' := ?_) #[true, true, false, false, false, false, false, false, false, false, false, false, false, false, false, false, false, false, false, false, false, false, false] rfl rfl (any_of HT_.out (by kernel_rfl)) (fun _ _ _ h => h) (Or.inl ⟨by rfl, ?_⟩) ?_ ?_
                                          rotate_left
                                          · intro w'
                                            go_simp
                                            with_reducible rfl
                                          rotate_left
                                          · simp only [Act.put, List.setIfInBounds_toArray, List.set_cons_zero, List.set_cons_succ, i64_w, i32_w]
                                            rfl
                                          refine pure_ (i := 2) (N := some 52) (v := ?_) (a' := ?_) #[true, true, true, false, false, false, false, false, false, false, false, false, false, false, false, false, false, false, false, false, false, false, false] rfl rfl (any_of HT_.out (by kernel_rfl)) (fun _ _ _ h => h) (Or.inl ⟨by rfl, ?_⟩) ?_ ?_
                                          rotate_left
                                          · intro w'
                                            go_simp
                                            with_reducible rfl
                                          rotate_left
                                          · simp only [Act.put, List.setIfInBounds_toArray, List.set_cons_zero, List.set_cons_succ, i64_w, i32_w]
                                            rfl
                                          refine pure_ (i := 3) (N := some 53) (v := ?_) (a' := ?_) #[true, true, true, true, false, false, false, false, false, false, false, false, false, false, false, false, false, false, false, false, false, false, false] rfl rfl (any_of HT_.out (by kernel_rfl)) (fun _ _ _ h => h) (Or.inl ⟨by rfl, ?_⟩) ?_ ?_
                                          rotate_left
                                          · intro w'
                                            go_simp
                                            with_reducible rfl
                                          rotate_left
                                          · simp only [Act.put, List.setIfInBounds_toArray, List.set_cons_zero, List.set_cons_succ, i64_w, i32_w]
                                            rfl
                                          refine pure_ (i := 4) (N := some 54) (v := ?_) (a' := ?_) #[true, true, true, true, true, false, false, false, false, false, false, false, false, false, false, false, false, false, false, false, false, false, false] rfl rfl (any_of HT_.out (by kernel_rfl)) (fun _ _ _ h => h) (Or.inl ⟨by rfl, ?_⟩) ?_ ?_
                                          rotate_left
                                          · intro w'
                                            go_simp
                                            with_reducible rfl
                                          rotate_left
                                          · simp only [Act.put, List.setIfInBounds_toArray, List.set_cons_zero, List.set_cons_succ, i64_w, i32_w]
                                            rfl
                                          refine pure_ (i := 5) (N := some 55) (v := undef) (a' := ?_) #[true, true, true, true, true, true, false, false, false, false, false, false, false, false, false, false, false, false, false, false, false, false, false] rfl rfl (any_of HT_.out (by kernel_rfl)) (fun _ _ _ h => h) (Or.inr ⟨by rfl, rfl⟩) ?_ ?_
                                          rotate_left
                                          · simp only [Act.put, List.setIfInBounds_toArray, List.set_cons_zero, List.set_cons_succ, i64_w, i32_w]
                                            rfl
                                          refine pure_ (i := 6) (N := some 56) (v := undef) (a' := ?_) #[true, true, true, true, true, true, true, false, false, false, false, false, false, false, false, false, false, false, false, false, false, false, false] rfl rfl (any_of HT_.out (by kernel_rfl)) (fun _ _ _ h => h) (Or.inr ⟨by rfl, rfl⟩) ?_ ?_
                                          rotate_left
                                          · simp only [Act.put, List.setIfInBounds_toArray, List.set_cons_zero, List.set_cons_succ, i64_w, i32_w]
                                            rfl
                                          refine pure_ (i := 7) (N := some 57) (v := undef) (a' := ?_) #[true, true, true, true, true, true, true, true, false, false, false, false, false, false, false, false, false, false, false, false, false, false, false] rfl rfl (any_of HT_.out (by kernel_rfl)) (fun _ _ _ h => h) (Or.inr ⟨by rfl, rfl⟩) ?_ ?_
                                          rotate_left
                                          · simp only [Act.put, List.setIfInBounds_toArray, List.set_cons_zero, List.set_cons_succ, i64_w, i32_w]
                                            rfl
                                          refine pure_ (i := 8) (N := some 58) (v := undef) (a' := ?_) #[true, true, true, true, true, true, true, true, true, false, false, false, false, false, false, false, false, false, false, false, false, false, false] rfl rfl (any_of HT_.out (by kernel_rfl)) (fun _ _ _ h => h) (Or.inr ⟨by rfl, rfl⟩) ?_ ?_
                                          rotate_left
                                          · simp only [Act.put, List.setIfInBounds_toArray, List.set_cons_zero, List.set_cons_succ, i64_w, i32_w]
                                            rfl
                                          refine pure_ (i := 9) (N := some 59) (v := undef) (a' := ?_) #[true, true, true, true, true, true, true, true, true, true, false, false, false, false, false, false, false, false, false, false, false, false, false] rfl rfl (any_of HT_.out (by kernel_rfl)) (fun _ _ _ h => h) (Or.inr ⟨by rfl, rfl⟩) ?_ ?_
                                          rotate_left
                                          · simp only [Act.put, List.setIfInBounds_toArray, List.set_cons_zero, List.set_cons_succ, i64_w, i32_w]
                                            rfl
                                          refine pure_ (i := 10) (N := some 60) (v := ?_) (a' := ?_) #[true, true, true, true, true, true, true, true, true, true, true, false, false, false, false, false, false, false, false, false, false, false, false] rfl rfl (any_of HT_.out (by kernel_rfl)) (fun _ _ _ h => h) (Or.inl ⟨by rfl, ?_⟩) ?_ ?_
                                          rotate_left
                                          · intro w'
                                            go_simp
                                            with_reducible rfl
                                          rotate_left
                                          · simp only [Act.put, List.setIfInBounds_toArray, List.set_cons_zero, List.set_cons_succ, i64_w, i32_w]
                                            rfl
                                          refine pure_ (i := 11) (N := some 61) (v := ?_) (a' := ?_) #[true, true, true, true, true, true, true, true, true, true, true, true, false, false, false, false, false, false, false, false, false, false, false] rfl rfl (any_of HT_.out (by kernel_rfl)) (fun _ _ _ h => h) (Or.inl ⟨by rfl, ?_⟩) ?_ ?_
                                          rotate_left
                                          · intro w'
                                            go_simp
                                            with_reducible rfl
                                          rotate_left
                                          · simp only [Act.put, List.setIfInBounds_toArray, List.set_cons_zero, List.set_cons_succ, i64_w, i32_w]
                                            rfl
                                          refine pure_ (i := 12) (N := some 62) (v := undef) (a' := ?_) #[true, true, true, true, true, true, true, true, true, true, true, true, true, false, false, false, false, false, false, false, false, false, false] rfl rfl (any_of HT_.out (by kernel_rfl)) (fun _ _ _ h => h) (Or.inr ⟨by rfl, rfl⟩) ?_ ?_
                                          rotate_left
                                          · simp only [Act.put, List.setIfInBounds_toArray, List.set_cons_zero, List.set_cons_succ, i64_w, i32_w]
                                            rfl
                                          refine pure_ (i := 13) (N := some 63) (v := undef) (a' := ?_) #[true, true, true, true, true, true, true, true, true, true, true, true, true, true, false, false, false, false, false, false, false, false, false] rfl rfl (any_of HT_.out (by kernel_rfl)) (fun _ _ _ h => h) (Or.inr ⟨by rfl, rfl⟩) ?_ ?_
                                          rotate_left
                                          · simp only [Act.put, List.setIfInBounds_toArray, List.set_cons_zero, List.set_cons_succ, i64_w, i32_w]
                                            rfl
                                          refine pure_ (i := 14) (N := some 64) (v := undef) (a' := ?_) #[true, true, true, true, true, true, true, true, true, true, true, true, true, true, true, false, false, false, false, false, false, false, false] rfl rfl (any_of HT_.out (by kernel_rfl)) (fun _ _ _ h => h) (Or.inr ⟨by rfl, rfl⟩) ?_ ?_
                                          rotate_left
                                          · simp only [Act.put, List.setIfInBounds_toArray, List.set_cons_zero, List.set_cons_succ, i64_w, i32_w]
                                            rfl
                                          refine pure_ (i := 15) (N := some 65) (v := undef) (a' := ?_) #[true, true, true, true, true, true, true, true, true, true, true, true, true, true, true, true, false, false, false, false, false, false, false] rfl rfl (any_of HT_.out (by kernel_rfl)) (fun _ _ _ h => h) (Or.inr ⟨by rfl, rfl⟩) ?_ ?_
                                          rotate_left
                                          · simp only [Act.put, List.setIfInBounds_toArray, List.set_cons_zero, List.set_cons_succ, i64_w, i32_w]
                                            rfl
                                          refine pure_ (i := 16) (N := some 66) (v := undef) (a' := ?_) #[true, true, true, true, true, true, true, true, true, true, true, true, true, true, true, true, true, false, false, false, false, false, false] rfl rfl (any_of HT_.out (by kernel_rfl)) (fun _ _ _ h => h) (Or.inr ⟨by rfl, rfl⟩) ?_ ?_
                                          rotate_left
                                          · simp only [Act.put, List.setIfInBounds_toArray, List.set_cons_zero, List.set_cons_succ, i64_w, i32_w]
                                            rfl
                                          refine pure_ (i := 17) (N := some 67) (v := undef) (a' := ?_) #[true, true, true, true, true, true, true, true, true, true, true, true, true, true, true, true, true, true, false, false, false, false, false] rfl rfl (any_of HT_.out (by kernel_rfl)) (fun _ _ _ h => h) (Or.inr ⟨by rfl, rfl⟩) ?_ ?_
                                          rotate_left
                                          · simp only [Act.put, List.setIfInBounds_toArray, List.set_cons_zero, List.set_cons_succ, i64_w, i32_w]
                                            rfl
                                          refine pure_ (i := 18) (N := some 68) (v := undef) (a' := ?_) #[true, true, true, true, true, true, true, true, true, true, true, true, true, true, true, true, true, true, true, false, false, false, false] rfl rfl (any_of HT_.out (by kernel_rfl)) (fun _ _ _ h => h) (Or.inr ⟨by rfl, rfl⟩) ?_ ?_
                                          rotate_left
                                          · simp only [Act.put, List.setIfInBounds_toArray, List.set_cons_zero, List.set_cons_succ, i64_w, i32_w]
                                            rfl
                                          refine pure_ (i := 19) (N := some 69) (v := undef) (a' := ?_) #[true, true, true, true, true, true, true, true, true, true, true, true, true, true, true, true, true, true, true, true, false, false, false] rfl rfl (any_of HT_.out (by kernel_rfl)) (fun _ _ _ h => h) (Or.inr ⟨by rfl, rfl⟩) ?_ ?_
                                          rotate_left
                                          · simp only [Act.put, List.setIfInBounds_toArray, List.set_cons_zero, List.set_cons_succ, i64_w, i32_w]
                                            rfl
                                          refine pure_ (i := 20) (N := some 70) (v := ?_) (a' := ?_) #[true, true, true, true, true, true, true, true, true, true, true, true, true, true, true, true, true, true, true, true, true, false, false] rfl rfl (any_of HT_.out (by kernel_rfl)) (fun _ _ _ h => h) (Or.inl ⟨by rfl, ?_⟩) ?_ ?_
                                          rotate_left
                                          · intro w'
                                            go_simp
                                            with_reducible rfl
                                          rotate_left
                                          · simp only [Act.put, List.setIfInBounds_toArray, List.set_cons_zero, List.set_cons_succ, i64_w, i32_w]
                                            rfl
                                          refine pure_ (i := 21) (N := some 71) (v := ?_) (a' := ?_) #[true, true, true, true, true, true, true, true, true, true, true, true, true, true, true, true, true, true, true, true, true, true, false] rfl rfl (any_of HT_.out (by kernel_rfl)) (fun _ _ _ h => h) (Or.inl ⟨by rfl, ?_⟩) ?_ ?_
                                          rotate_left
                                          · intro w'
                                            go_simp
                                            with_reducible rfl
                                          rotate_left
                                          · simp only [Act.put, List.setIfInBounds_toArray, List.set_cons_zero, List.set_cons_succ, i64_w, i32_w]
                                            rfl
                                          refine last_ (i := 22) (N := none) #[true, true, true, true, true, true, true, true, true, true, true, true, true, true, true, true, true, true, true, true, true, true, true] rfl rfl (one_of HT_.out (by kernel_rfl)) (by decide) (fun K hK => ?_)
                                          refine skip_ (w1 := ?_) (by rfl) rfl ?_ ?_
                                          rotate_left
                                          · go_simp
                                            rfl
                                          refine hK.out _ _ ?_
                                          clear hK K
                                          refine done_ (done_of HT_.out (by kernel_rfl)) ?_
                                          try go_wp2
                                          go_roundg k3
                                          case measure => have := HK1.out; have := HJ15.out; have := HK3.out; omega
                                          case rel => exact ⟨(y404), (wrap64 (x9_3 + 1)), (by first | rfl | (simp; done) | (simp [*]; done)), H', ⟨by have := HK1.out; have := HJ15.out; have := HK3.out; omega⟩, ⟨by (with_reducible repeat (first | apply Kd.R_alloc | apply Kd.R_drewN | apply Kd.R_drew)); exact Kd.R_mono (Kd.R_far (p := ⟨go122, (x9_3 : Int).toNat, none⟩) (Kd.R_mono HO_5.out (fun k_ hk => (⟨hk, fun e_ => hk (by rw [e_]; rfl)⟩ : _ ∧ k_ ≠ go122))) (fun _ hk => hk.2) (.bool false)) (fun _ hk => hk.1)⟩, ⟨by (with_reducible repeat (first | apply Kd.R_alloc | apply Kd.R_drewN | apply Kd.R_drew)); first | exact HQ124.out | exact Kd.R_mono HQ124.out (fun k_ h_ q_ => h_ (q_.trans (ownBlock_len _ _ _ _)))⟩, ⟨by repeat (first | (with_reducible first | exact HB.out | apply below_alloc | apply pw_below_drewN | apply below_drew1 | refine below_set ?_ GB122.out) | exact HB.out)⟩⟩
                                        · rw [if_neg c121] at H
                                          exact absurd H (by simp)
                                      · rw [if_neg c120] at H
                                        exact absurd H (by simp)
                              · rw [if_neg c28] at H
                                exact absurd H (by simp)
                            · rw [if_neg c27] at H
                              exact absurd H (by simp)
                          · rw [if_neg c26] at H
                            have c26b0 : decide (x9_3 ≤ (a1.size : Int)) = false := decide_eq_false c26
                            clear c26
                            by_cases c125 : x8_15 = true
                            · subst c125
                              have H1 : (spec_l02Glob.l0 k3 a0 a1 x7_3 (wrap64 ((wrap64 (x6_1 + 1)) + 1))) = some r := by rw [if_pos rfl] at H; exact H
                              clear H
                              have H := H1
                              clear H1
                              have H' := Aside0.mk H
                              clear H
                              go_wp2
                              go_roundg k3
                              case measure => have := HK1.out; have := HJ15.out; have := HK3.out; omega
                              case rel => exact ⟨(x7_3), (wrap64 ((wrap64 (x6_1 + 1)) + 1)), (by first | rfl | (simp; done) | (simp [*]; done)), H', ⟨by have := HK1.out; have := HJ15.out; have := HK3.out; omega⟩, ⟨by (with_reducible repeat (first | apply Kd.R_alloc | apply Kd.R_drewN | apply Kd.R_drew)); exact Kd.R_mono HO_7.out (fun _ hk => trivial)⟩, ⟨by repeat (first | (with_reducible first | exact HB.out | apply below_alloc | apply pw_below_drewN | apply below_drew1) | exact HB.out)⟩⟩
                            · replace c125 := Bool.eq_false_iff.mpr c125
                              subst c125
                              have H1 : (spec_l02Glob.l0 k3 a0 a1 x7_3 (wrap64 (x6_1 + 1))) = some r := by rw [if_neg (show ¬ (false = true) by decide)] at H; exact H
                              clear H
                              have H := H1
                              clear H1
                              have H' := Aside0.mk H
                              clear H
                              go_wp2
                              go_roundg k3
                              case measure => have := HK1.out; have := HJ15.out; have := HK3.out; omega
                              case rel => exact ⟨(x7_3), (wrap64 (x6_1 + 1)), (by first | rfl | (simp; done) | (simp [*]; done)), H', ⟨by have := HK1.out; have := HJ15.out; have := HK3.out; omega⟩, ⟨by (with_reducible repeat (first | apply Kd.R_alloc | apply Kd.R_drewN | apply Kd.R_drew)); exact Kd.R_mono HO_7.out (fun _ hk => trivial)⟩, ⟨by repeat (first | (with_reducible first | exact HB.out | apply below_alloc | apply pw_below_drewN | apply below_drew1) | exact HB.out)⟩⟩
                · rw [if_neg c15] at H
                  exact absurd H (by simp)
              · rw [if_neg c14] at H
                exact absurd H (by simp)
            · rw [if_neg c12] at H
              have c12b0 : decide (x6_1 < (a0.size : Int)) = false := decide_eq_false c12
              clear c12
              by_cases c126 : 0 ≤ (a1.size : Int)
              · rw [if_pos c126] at H
                have c126b0 : decide (0 ≤ (a1.size : Int)) = true := decide_eq_true c126
                have c126b1 : decide (0 ≤ a1.size) = true := decide_eq_true (by omega)
                clear c126
                by_cases c127 : (a1.size : Int) < (x5_1.length : Int)
                · rw [if_pos c127] at H
                  have c127b0 : decide ((a1.size : Int) < (x5_1.length : Int)) = true := decide_eq_true c127
                  have c127b1 : decide (a1.size < x5_1.length) = true := decide_eq_true (Int.ofNat_lt.mp c127)
                  clear c127
                  obtain rfl := Option.some.inj H
                  obtain ⟨Ao128, co128, eo128⟩ := Kd.R_slice HO_5.out
                  subst eo128
                  have p386 : 0 ≤ ((a1.size : Int) : Int) := of_decide_eq_true (by assumption)
                  have q386 : (a1.size : Int) < (x5_1.length : Int) := of_decide_eq_true (by assumption)
                  obtain ⟨ad386, e386, hx386_0⟩ := Kd.at_bool (Kd.R_reads' HO_5.out).2.2 (a1.size : Int) p386 q386
                  cases e386
                  (try simp only [Go.IntWalk.toNatUp] at hx386_0)
                  replace p386 := eq_true p386
                  replace q386 := eq_true q386
                  go_wp2
                  go_ret
                  exact ⟨by first | rfl | (simp [errW_none, errW_some] <;> rfl) | (simp only [← hji3]; first | rfl | (simp [errW_none, errW_some] <;> rfl)) | (simp [*, errW_none, errW_some] <;> rfl), by repeat (first | (with_reducible first | exact HB.out | apply below_alloc | apply pw_below_drewN | apply below_drew1) | exact HB.out)⟩
                · rw [if_neg c127] at H
                  exact absurd H (by simp)
              · rw [if_neg c126] at H
                exact absurd H (by simp)
      · rw [if_neg c6] at H
        exact absurd H (by simp)
    · rw [if_neg c5] at H
      exact absurd H (by simp)
  · rw [if_neg c4] at H
    exact absurd H (by simp)

end Go.Proofs.YtdjepilhenijeaaDoor.PFnGlob
