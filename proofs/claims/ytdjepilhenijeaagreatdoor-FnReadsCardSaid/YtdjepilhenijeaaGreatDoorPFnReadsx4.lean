-- PRINTED for this claim by a program of this session's repo over the kit's printer, with contracts of our own among the functions.
import Derived.Test.YtdjepilhenijeaaGreatDoorPFnReadsx0
import Derived.Test.YtdjepilhenijeaaGreatDoorPFnReadsx1
import Derived.Test.YtdjepilhenijeaaGreatDoorPFnReadsx2
import Derived.Test.YtdjepilhenijeaaGreatDoorPFnReadsx3
namespace Go.Proofs.YtdjepilhenijeaaGreatDoor.PFnReads
open Go.RowKit Go.Proofs.YtdjepilhenijeaaGreatDoorW.PrintWords Go.Proofs.YtdjepilhenijeaaGreatDoorW.PrintLast Go.Proofs.YtdjepilhenijeaaGreatDoorW.PrintMore
attribute [local go_sem] max2_int min2_int max_two min_two max_three min_three max_four min_four   -- for this text's walks alone
set_option linter.unusedVariables false
set_option linter.unusedSimpArgs false

/-! ### impl_GetHex: function 12, by a contract of our own -/
def impl_GetHex.f (a0 : ByteArray) : Option (Int × Bool) :=
  if a0.size ≤ 140737488355328 then (if a0.size = 8 then (if allB (pDig 16) a0 = true then some (((valL 16 0 a0.data.toList : Nat) : Int), true) else some (0, false)) else some (0, false)) else none
set_option maxRecDepth 100000 in
set_option maxHeartbeats 4000000 in
theorem impl_GetHex.calls (a0 : ByteArray) (r1 : Int) (r2 : Bool) (w : World) (h : impl_GetHex.f a0 = some (r1, r2)) :
    Calls Tryz.prog 12 #[.string a0] w fun e w' => e = .returned (.tuple #[.int .i64 r1, .bool r2]) ∧ Below w.heap.size w w' := by
  unfold impl_GetHex.f at h
  by_cases hs : a0.size ≤ 140737488355328
  case neg =>
    rw [if_neg hs] at h
    cases h
  rw [if_pos hs] at h
  have hA := fun W => impl_areDigits.calls a0 16 (allB (pDig 16) a0) W (by unfold impl_areDigits.f; rw [if_pos ⟨hs, by decide, by decide⟩]; rfl)
  by_cases hlen : a0.size = 8
  · rw [if_pos hlen] at h
    have hne : a0.size ≠ 0 := by omega
    cases hd : allB (pDig 16) a0 with
    | false =>
      rw [hd] at hA h
      rw [if_neg (by decide)] at h
      obtain ⟨rfl, rfl⟩ := Prod.mk.inj (Option.some.inj h)
      clear h hd
      go_enter Tryz.func12, Tryz.ntmps12
      go_wp2_with (first | (go_at_call 81; refine (hA _).mono ?_; rintro e w1 ⟨rfl, hb⟩))
      go_ret2
      exact ⟨rfl, (Below.refl _ _).trans (hb.mono (by simp))⟩
    | true =>
      rw [hd] at hA h
      rw [if_pos rfl] at h
      have hdig : ∀ c ∈ a0.data.toList, (48 ≤ c.toNat ∧ c.toNat ≤ 57) ∨ (97 ≤ c.toNat ∧ c.toNat ≤ 102) := fun c hc => pDig_16 c (by
        unfold allB at hd
        rw [ByteArray.toList_eq] at hd
        exact List.all_eq_true.1 hd c hc)
      have hP := fun W => parseInt16 a0 hne (by omega) hdig W
      clear hd hdig
      generalize valL 16 0 a0.data.toList = v at hP h
      obtain ⟨rfl, rfl⟩ := Prod.mk.inj (Option.some.inj h)
      clear h
      go_enter Tryz.func12, Tryz.ntmps12
      go_wp2_with (first | (go_at_call 81; refine (hA _).mono ?_; rintro e w1 ⟨rfl, hb⟩) | (go_at_call 82; refine (hP _).mono ?_; rintro e w2 ⟨rfl, rfl⟩))
      go_ret2
      exact ⟨rfl, ((Below.refl _ _).trans (hb.mono (by simp))).trans ((bytes_below (Below.refl _ _) (Nat.le_refl _) _ a0).mono (Nat.le_trans (by simp) hb.size))⟩
  · rw [if_neg hlen] at h
    obtain ⟨rfl, rfl⟩ := Prod.mk.inj (Option.some.inj h)
    clear h
    go_enter Tryz.func12, Tryz.ntmps12
    go_wp2_with (first | (go_at_call 81; refine (hA _).mono ?_; rintro e w1 ⟨rfl, hb⟩))
    go_ret2
    exact ⟨rfl, (Below.refl _ _)⟩

/-! ### spec_GetHex: function 13 -/
def spec_GetHex.f (k : Nat) (a0 : ByteArray) : Option (Int × Bool) := (spec_l01Value.f k a0 16).bind fun t202 => (if (a0.size : Int) = 8 then (if t202 < 0 then (some (0, false)) else (some (t202, true))) else (some (0, false)))
theorem spec_GetHex.mono : ∀ a0 k, LeO (spec_GetHex.f k a0) (spec_GetHex.f (k + 1) a0) := by
  intro a0 k
  unfold spec_GetHex.f
  repeat' first
      | (with_reducible exact spec_l01Value.mono _ _ _)
      | (with_reducible exact LeO.refl _)
      | (with_reducible exact LeO.none _)
      | (with_reducible refine LeO.ite ?_ ?_)
      | (with_reducible refine LeO.bind ?_ (fun _ => ?_))
      | exact spec_l01Value.mono _ _ _
      | exact LeO.none _
      | refine LeO.ite ?_ ?_
      | refine LeO.bind ?_ (fun _ => ?_)
set_option maxHeartbeats 8000000 in
set_option maxRecDepth 100000 in
theorem spec_GetHex.calls (k : Nat) (a0 : ByteArray) (r1 : Int) (r2 : Bool) (w : World) (h : spec_GetHex.f k a0 = some (r1, r2)) :
    Calls Tryz.prog 13 #[.string a0] w fun e w' => e = .returned (.tuple #[.int .i64 r1, .bool r2]) ∧ Drawn0 w w' := by
  have H : ((spec_l01Value.f k a0 16).bind fun t202 => (if (a0.size : Int) = 8 then (if t202 < 0 then (some (0, false)) else (some (t202, true))) else (some (0, false)))) = some (r1, r2) := h
  clear h
  replace H := Option.bind_eq_some_iff.mp H
  obtain ⟨t202, A20, H⟩ := H
  replace H : (if (a0.size : Int) = 8 then (if t202 < 0 then (some (0, false)) else (some (t202, true))) else (some (0, false))) = some (r1, r2) := H
  have A2 := Aside0.mk A20
  clear A20
  by_cases c3 : (a0.size : Int) = 8
  · rw [if_pos c3] at H
    have c3b0 : ((a0.size : Int) == 8) = true := beq_iff_eq.mpr c3
    have c3b1 : ((a0.size : Int) != 8) = false := bne_eq_false_iff_eq.mpr c3
    clear c3
    by_cases c4 : t202 < 0
    · rw [if_pos c4] at H
      have c4b0 : decide (t202 < 0) = true := decide_eq_true c4
      clear c4
      simp only [Option.some.injEq, Prod.mk.injEq] at H
      obtain ⟨rfl, rfl⟩ := H
      go_enter Tryz.func13, Tryz.ntmps13
      go_wp2_with (first | ((with_reducible refine gate_callee (f := 84) rfl ?_); refine goesL_ (some 6) rfl rfl Tryz.func84 (by kernel_rfl) rfl #[.string a0, .int .i64 16] rfl (by (try simp only [List.map_toArray, List.map_cons, List.map_nil]); first | done | rfl | (simp only [List.length_drop, List.length_take]; rfl)) ?_; (with_reducible refine (spec_l01Value.calls k a0 16 t202 _ A2.out).mono ?_); rintro e w' ⟨rfl, ⟨nd, rfl⟩⟩; refine ⟨_, rfl, ?_⟩))
      go_ret2
      exact ⟨by first | rfl | (simp; done) | (simp [*]; done), by repeat (first | exact Drawn0.refl _ | apply Drawn0.step)⟩
    · rw [if_neg c4] at H
      have c4b0 : decide (t202 < 0) = false := decide_eq_false c4
      clear c4
      simp only [Option.some.injEq, Prod.mk.injEq] at H
      obtain ⟨rfl, rfl⟩ := H
      go_enter Tryz.func13, Tryz.ntmps13
      go_wp2_with (first | ((with_reducible refine gate_callee (f := 84) rfl ?_); refine goesL_ (some 6) rfl rfl Tryz.func84 (by kernel_rfl) rfl #[.string a0, .int .i64 16] rfl (by (try simp only [List.map_toArray, List.map_cons, List.map_nil]); first | done | rfl | (simp only [List.length_drop, List.length_take]; rfl)) ?_; (with_reducible refine (spec_l01Value.calls k a0 16 t202 _ A2.out).mono ?_); rintro e w' ⟨rfl, ⟨nd, rfl⟩⟩; refine ⟨_, rfl, ?_⟩))
      go_ret2
      exact ⟨by first | rfl | (simp; done) | (simp [*]; done), by repeat (first | exact Drawn0.refl _ | apply Drawn0.step)⟩
  · rw [if_neg c3] at H
    have c3b0 : ((a0.size : Int) == 8) = false := beq_eq_false_iff_ne.mpr c3
    have c3b1 : ((a0.size : Int) != 8) = true := bne_iff_ne.mpr c3
    simp only [Option.some.injEq, Prod.mk.injEq] at H
    obtain ⟨rfl, rfl⟩ := H
    go_enter Tryz.func13, Tryz.ntmps13
    go_wp2_with (first | ((with_reducible refine gate_callee (f := 84) rfl ?_); refine goesL_ (some 6) rfl rfl Tryz.func84 (by kernel_rfl) rfl #[.string a0, .int .i64 16] rfl (by (try simp only [List.map_toArray, List.map_cons, List.map_nil]); first | done | rfl | (simp only [List.length_drop, List.length_take]; rfl)) ?_; (with_reducible refine (spec_l01Value.calls k a0 16 t202 _ A2.out).mono ?_); rintro e w' ⟨rfl, ⟨nd, rfl⟩⟩; refine ⟨_, rfl, ?_⟩))
    go_ret2
    exact ⟨by first | rfl | (simp; done) | (simp [*]; done), by repeat (first | exact Drawn0.refl _ | apply Drawn0.step)⟩

/-! ### spec_PutDec: function 73 -/
mutual
def spec_PutDec.j0 : Nat → Int → Int → Bool → Option (ByteArray × Bool)
  | 0, _, _, _ => none
  | k + 1, x0, x1, x14 => if x14 = true then (some ((⟨#[]⟩ : ByteArray), false)) else ((spec_l01Digits.f k x0 10).bind fun t205 => (if (t205.size : Int) > x1 then (some ((⟨#[]⟩ : ByteArray), false)) else (spec_PutDec.l0 k x1 t205)))
def spec_PutDec.l0 : Nat → Int → ByteArray → Option (ByteArray × Bool)
  | 0, _, _ => none
  | k + 1, x1, x6 => if (x6.size : Int) < x1 then (if x6.size + 1 ≤ 9223372036854775807 then (spec_PutDec.l0 k x1 (x6 ++ (⟨#[32]⟩ : ByteArray))) else (none)) else (some (x6, true))
end
def spec_PutDec.f (k : Nat) (a0 : Int) (a1 : Int) : Option (ByteArray × Bool) := (spec_l01In.f a0 0 9007199254740991).bind fun t203 => (if t203 = true then ((spec_l01In.f a1 1 20).bind fun t204 => (spec_PutDec.j0 k a0 a1 (!t204))) else (spec_PutDec.j0 k a0 a1 true))
theorem spec_PutDec.mono_l : ∀ k, (∀ y0 y1 y2, LeO (spec_PutDec.j0 k y0 y1 y2) (spec_PutDec.j0 (k + 1) y0 y1 y2)) ∧ (∀ y0 y1, LeO (spec_PutDec.l0 k y0 y1) (spec_PutDec.l0 (k + 1) y0 y1))
  | 0 => ⟨fun _ _ _ r h => by simp [spec_PutDec.j0] at h, fun _ _ r h => by simp [spec_PutDec.l0] at h⟩
  | k + 1 => by
    obtain ⟨ih0, ih1⟩ := spec_PutDec.mono_l k
    refine ⟨?_, ?_⟩
    · intro y0 y1 y2
      unfold spec_PutDec.j0
      repeat' first
      | (with_reducible exact ih0 _ _ _)
      | (with_reducible exact ih1 _ _)
      | (with_reducible exact spec_l01Digits.mono _ _ _)
      | (with_reducible exact LeO.refl _)
      | (with_reducible exact LeO.none _)
      | (with_reducible refine LeO.ite ?_ ?_)
      | (with_reducible refine LeO.bind ?_ (fun _ => ?_))
      | exact ih0 _ _ _
      | exact ih1 _ _
      | exact spec_l01Digits.mono _ _ _
      | exact LeO.none _
      | refine LeO.ite ?_ ?_
      | refine LeO.bind ?_ (fun _ => ?_)
    · intro y0 y1
      unfold spec_PutDec.l0
      repeat' first
      | (with_reducible exact ih0 _ _ _)
      | (with_reducible exact ih1 _ _)
      | (with_reducible exact spec_l01Digits.mono _ _ _)
      | (with_reducible exact LeO.refl _)
      | (with_reducible exact LeO.none _)
      | (with_reducible refine LeO.ite ?_ ?_)
      | (with_reducible refine LeO.bind ?_ (fun _ => ?_))
      | exact ih0 _ _ _
      | exact ih1 _ _
      | exact spec_l01Digits.mono _ _ _
      | exact LeO.none _
      | refine LeO.ite ?_ ?_
      | refine LeO.bind ?_ (fun _ => ?_)
theorem spec_PutDec.mono : ∀ a0 a1 k, LeO (spec_PutDec.f k a0 a1) (spec_PutDec.f (k + 1) a0 a1) := by
  intro a0 a1 k
  obtain ⟨ih0, ih1⟩ := spec_PutDec.mono_l k
  unfold spec_PutDec.f
  repeat' first
      | (with_reducible exact ih0 _ _ _)
      | (with_reducible exact ih1 _ _)
      | (with_reducible exact spec_l01Digits.mono _ _ _)
      | (with_reducible exact LeO.refl _)
      | (with_reducible exact LeO.none _)
      | (with_reducible refine LeO.ite ?_ ?_)
      | (with_reducible refine LeO.bind ?_ (fun _ => ?_))
      | exact ih0 _ _ _
      | exact ih1 _ _
      | exact spec_l01Digits.mono _ _ _
      | exact LeO.none _
      | refine LeO.ite ?_ ?_
      | refine LeO.bind ?_ (fun _ => ?_)
set_option maxHeartbeats 8000000 in
set_option maxRecDepth 100000 in
theorem spec_PutDec.calls (k : Nat) (a0 : Int) (a1 : Int) (r1 : ByteArray) (r2 : Bool) (w : World) (h : spec_PutDec.f k a0 a1 = some (r1, r2)) :
    Calls Tryz.prog 73 #[.int .i64 a0, .int .i64 a1] w fun e w' => e = .returned (.tuple #[.string r1, .bool r2]) ∧ Drawn0 w w' := by
  have H : ((spec_l01In.f a0 0 9007199254740991).bind fun t203 => (if t203 = true then ((spec_l01In.f a1 1 20).bind fun t204 => (spec_PutDec.j0 k a0 a1 (!t204))) else (spec_PutDec.j0 k a0 a1 true))) = some (r1, r2) := h
  clear h
  have HC3 := Aside0.mk H
  clear H
  go_enter Tryz.func73, Tryz.ntmps73
  go_upto_region 1 with (fail)
  go_cut [14] (fun v14 wc => ∃ (kq : Nat) (x14_2 : Bool), v14 = .bool x14_2 ∧ Aside0 (spec_PutDec.j0 kq a0 a1 x14_2 = some (r1, r2)) ∧ Aside0 (kq ≤ k) ∧ Drawn0 w wc)
  case first =>
    have H := HC3.out
    clear HC3
    replace H := Option.bind_eq_some_iff.mp H
    obtain ⟨t203, A40, H⟩ := H
    replace H : (if t203 = true then ((spec_l01In.f a1 1 20).bind fun t204 => (spec_PutDec.j0 k a0 a1 (!t204))) else (spec_PutDec.j0 k a0 a1 true)) = some (r1, r2) := H
    have A4 := Aside0.mk A40
    clear A40
    by_cases c5 : t203 = true
    · subst c5
      have H1 : ((spec_l01In.f a1 1 20).bind fun t204 => (spec_PutDec.j0 k a0 a1 (!t204))) = some (r1, r2) := by rw [if_pos rfl] at H; exact H
      clear H
      have H := H1
      clear H1
      replace H := Option.bind_eq_some_iff.mp H
      obtain ⟨t204, A60, H⟩ := H
      replace H : (spec_PutDec.j0 k a0 a1 (!t204)) = some (r1, r2) := H
      have A6 := Aside0.mk A60
      clear A60
      have H' := Aside0.mk H
      clear H
      go_wp2_with (first | ((with_reducible refine gate_callee (f := 83) rfl ?_); refine goesL_ (some 8) rfl rfl Tryz.func83 (by kernel_rfl) rfl #[.int .i64 a0, .int .i64 0, .int .i64 9007199254740991] rfl (by (try simp only [List.map_toArray, List.map_cons, List.map_nil]); first | done | rfl | (simp only [List.length_drop, List.length_take]; rfl)) ?_; (with_reducible refine (spec_l01In.calls a0 0 9007199254740991 true _ A4.out).mono ?_); rintro e w' ⟨rfl, ⟨nd, rfl⟩⟩; refine ⟨_, rfl, ?_⟩) | (go_at_call 83; (with_reducible refine (spec_l01In.calls a1 1 20 t204 _ A6.out).mono ?_); rintro e w' ⟨rfl, ⟨nd, rfl⟩⟩))
      go_meet
      case rel => exact ⟨_, (!t204), (by first | rfl | (simp; done) | (simp [*]; done)), H', ⟨by first | omega | exact Nat.le_refl _⟩, by repeat (first | exact Drawn0.refl _ | apply Drawn0.step)⟩
    · replace c5 := Bool.eq_false_iff.mpr c5
      subst c5
      have H1 : (spec_PutDec.j0 k a0 a1 true) = some (r1, r2) := by rw [if_neg (show ¬ (false = true) by decide)] at H; exact H
      clear H
      have H := H1
      clear H1
      have H' := Aside0.mk H
      clear H
      go_wp2_with (first | ((with_reducible refine gate_callee (f := 83) rfl ?_); refine goesL_ (some 8) rfl rfl Tryz.func83 (by kernel_rfl) rfl #[.int .i64 a0, .int .i64 0, .int .i64 9007199254740991] rfl (by (try simp only [List.map_toArray, List.map_cons, List.map_nil]); first | done | rfl | (simp only [List.length_drop, List.length_take]; rfl)) ?_; (with_reducible refine (spec_l01In.calls a0 0 9007199254740991 false _ A4.out).mono ?_); rintro e w' ⟨rfl, ⟨nd, rfl⟩⟩; refine ⟨_, rfl, ?_⟩))
      go_meet
      case rel => exact ⟨_, (true), (by first | rfl | (simp; done) | (simp [*]; done)), H', ⟨by first | omega | exact Nat.le_refl _⟩, by repeat (first | exact Drawn0.refl _ | apply Drawn0.step)⟩
  case rest =>
    clear HC3
    try clear p2
    try clear c5
    obtain ⟨kq, x14_2, rfl, HA, HJ2, ⟨mc2, rfl⟩⟩ := hcut
    cases kq with
    | zero => exact absurd HA.out (by simp [spec_PutDec.j0])
    | succ kj2 =>
      have H := HA.out
      clear HA
      simp only [spec_PutDec.j0] at H
      by_cases c7 : x14_2 = true
      · subst c7
        have H1 : (some ((⟨#[]⟩ : ByteArray), false)) = some (r1, r2) := by rw [if_pos rfl] at H; exact H
        clear H
        have H := H1
        clear H1
        simp only [Option.some.injEq, Prod.mk.injEq] at H
        obtain ⟨rfl, rfl⟩ := H
        go_wp2
        go_ret2
        exact ⟨by first | rfl | (simp; done) | (simp [*]; done), by repeat (first | exact Drawn0.refl _ | apply Drawn0.step)⟩
      · replace c7 := Bool.eq_false_iff.mpr c7
        subst c7
        have H1 : ((spec_l01Digits.f kj2 a0 10).bind fun t205 => (if (t205.size : Int) > a1 then (some ((⟨#[]⟩ : ByteArray), false)) else (spec_PutDec.l0 kj2 a1 t205))) = some (r1, r2) := by rw [if_neg (show ¬ (false = true) by decide)] at H; exact H
        clear H
        have H := H1
        clear H1
        replace H := Option.bind_eq_some_iff.mp H
        obtain ⟨t205, A80, H⟩ := H
        replace H : (if (t205.size : Int) > a1 then (some ((⟨#[]⟩ : ByteArray), false)) else (spec_PutDec.l0 kj2 a1 t205)) = some (r1, r2) := H
        have A8 := Aside0.mk A80
        clear A80
        by_cases c9 : (t205.size : Int) > a1
        · rw [if_pos c9] at H
          have c9b0 : decide (a1 < (t205.size : Int)) = true := decide_eq_true c9
          clear c9
          simp only [Option.some.injEq, Prod.mk.injEq] at H
          obtain ⟨rfl, rfl⟩ := H
          go_wp2_with (first | ((with_reducible refine gate_callee (f := 133) rfl ?_); refine goesL_ (some 16) rfl rfl Tryz.func133 (by kernel_rfl) rfl #[.int .i64 a0, .int .i64 10] rfl (by (try simp only [List.map_toArray, List.map_cons, List.map_nil]); first | done | rfl | (simp only [List.length_drop, List.length_take]; rfl)) ?_; (with_reducible refine (spec_l01Digits.calls kj2 a0 10 t205 _ A8.out).mono ?_); rintro e w' ⟨rfl, ⟨nd, rfl⟩⟩; refine ⟨_, rfl, ?_⟩))
          go_ret2
          exact ⟨by first | rfl | (simp; done) | (simp [*]; done), by repeat (first | exact Drawn0.refl _ | apply Drawn0.step)⟩
        · rw [if_neg c9] at H
          have c9b0 : decide (a1 < (t205.size : Int)) = false := decide_eq_false c9
          clear c9
          have H' := Aside0.mk H
          clear H
          go_wp2_with (first | ((with_reducible refine gate_callee (f := 133) rfl ?_); refine goesL_ (some 16) rfl rfl Tryz.func133 (by kernel_rfl) rfl #[.int .i64 a0, .int .i64 10] rfl (by (try simp only [List.map_toArray, List.map_cons, List.map_nil]); first | done | rfl | (simp only [List.length_drop, List.length_take]; rfl)) ?_; (with_reducible refine (spec_l01Digits.calls kj2 a0 10 t205 _ A8.out).mono ?_); rintro e w' ⟨rfl, ⟨nd, rfl⟩⟩; refine ⟨_, rfl, ?_⟩))
          go_loopg [6] kj2 (fun kq v6 w' => ∃ (x6_2 : ByteArray), v6 = .string x6_2 ∧ Aside0 (spec_PutDec.l0 kq a1 x6_2 = some (r1, r2)) ∧ Aside0 (kq ≤ kj2) ∧ Drawn0 w w')
          case atStart => exact ⟨(t205), (by first | rfl | (simp; done) | (simp [*]; done)), H', ⟨Nat.le_refl _⟩, by repeat (first | exact Drawn0.refl _ | apply Drawn0.step)⟩
          case round =>
            clear H'
            try clear c1
            try clear c2
            try clear p2
            try clear c5
            try clear c7
            try clear c8
            try clear c9
            try clear c9b0
            try clear p2
            obtain ⟨x6_2, rfl, HA, HK2, ⟨m2, rfl⟩⟩ := hrel
            cases gk with
            | zero => exact absurd HA.out (by simp [spec_PutDec.l0])
            | succ k2 =>
              have H := HA.out
              clear HA
              simp only [spec_PutDec.l0] at H
              by_cases c10 : (x6_2.size : Int) < a1
              · rw [if_pos c10] at H
                have c10b0 : decide ((x6_2.size : Int) < a1) = true := decide_eq_true c10
                clear c10
                by_cases c11 : x6_2.size + 1 ≤ 9223372036854775807
                · rw [if_pos c11] at H
                  have c11b0 := eq_true c11
                  have c11b1 : decide (x6_2.size + 1 ≤ 9223372036854775807) = true := decide_eq_true c11
                  try have c11b2 : (9223372036854775807 < x6_2.size + 1) = False := eq_false (Nat.not_lt.2 c11)
                  have H' := Aside0.mk H
                  clear H
                  go_wp2
                  go_roundg k2
                  case measure => have := HJ2.out; have := HK2.out; omega
                  case rel => exact ⟨(x6_2 ++ (⟨#[32]⟩ : ByteArray)), (by first | rfl | (simp; done) | (simp [*]; done)), H', ⟨by have := HJ2.out; have := HK2.out; omega⟩, by repeat (first | exact Drawn0.refl _ | apply Drawn0.step)⟩
                · rw [if_neg c11] at H
                  exact absurd H (by simp)
              · rw [if_neg c10] at H
                have c10b0 : decide ((x6_2.size : Int) < a1) = false := decide_eq_false c10
                clear c10
                simp only [Option.some.injEq, Prod.mk.injEq] at H
                obtain ⟨rfl, rfl⟩ := H
                go_wp2
                go_ret2
                exact ⟨by first | rfl | (simp; done) | (simp [*]; done), by repeat (first | exact Drawn0.refl _ | apply Drawn0.step)⟩

/-! ### spec_DrawGetDec: function 14 -/
def spec_DrawGetDec.f (k : Nat) (l0 : List Int) : Option (ByteArray) := (spec_l01New.f k l0).bind fun bt206 => ((spec_l01Num.f bt206.1 bt206.2.1 bt206.2.2).bind fun bt210 => ((spec_l01Wide.f bt206.1 bt210.2.1 bt210.2.2).bind fun bt213 => ((spec_PutDec.f k bt210.1 bt213.1).bind fun bt216 => ((spec_l01Bent.f bt206.1 bt213.2.1 bt213.2.2 bt216.1).bind fun bt218 => (some bt218.1)))))
theorem spec_DrawGetDec.mono : ∀ a0 k, LeO (spec_DrawGetDec.f k a0) (spec_DrawGetDec.f (k + 1) a0) := by
  intro a0 k
  unfold spec_DrawGetDec.f
  repeat' first
      | (with_reducible exact spec_PutDec.mono _ _ _)
      | (with_reducible exact spec_l01New.mono _ _)
      | (with_reducible exact LeO.refl _)
      | (with_reducible exact LeO.none _)
      | (with_reducible refine LeO.ite ?_ ?_)
      | (with_reducible refine LeO.bind ?_ (fun _ => ?_))
      | exact spec_PutDec.mono _ _ _
      | exact spec_l01New.mono _ _
      | exact LeO.none _
      | refine LeO.ite ?_ ?_
      | refine LeO.bind ?_ (fun _ => ?_)
set_option maxHeartbeats 8000000 in
set_option maxRecDepth 100000 in
theorem spec_DrawGetDec.calls (k : Nat) (A0 : Option Addr) (c0 : Nat) (l0 : List Int) (r : ByteArray) (w : World) (hr0 : Kd.C (Kd.int .u8) w A0 l0.length l0) (hc0 : l0.length ≤ c0) (h : spec_DrawGetDec.f k l0 = some r) :
    Calls Tryz.prog 14 #[.slice A0 l0.length c0] w fun e w' => e = .returned (.string r) ∧ Below w.heap.size w w' := by
  have HR0 := Aside0.mk hr0
  have HC0 := Aside0.mk hc0
  clear hr0 hc0
  have HB := Aside0.mk (Below.refl w.heap.size w)
  have H : ((spec_l01New.f k l0).bind fun bt206 => ((spec_l01Num.f bt206.1 bt206.2.1 bt206.2.2).bind fun bt210 => ((spec_l01Wide.f bt206.1 bt210.2.1 bt210.2.2).bind fun bt213 => ((spec_PutDec.f k bt210.1 bt213.1).bind fun bt216 => ((spec_l01Bent.f bt206.1 bt213.2.1 bt213.2.2 bt216.1).bind fun bt218 => (some bt218.1)))))) = some r := h
  clear h
  replace H := Option.bind_eq_some_iff.mp H
  obtain ⟨⟨t206, t207, t208⟩, A20, H⟩ := H
  replace H : ((spec_l01Num.f t206 t207 t208).bind fun bt210 => ((spec_l01Wide.f t206 bt210.2.1 bt210.2.2).bind fun bt213 => ((spec_PutDec.f k bt210.1 bt213.1).bind fun bt216 => ((spec_l01Bent.f t206 bt213.2.1 bt213.2.2 bt216.1).bind fun bt218 => (some bt218.1))))) = some r := H
  have A2 := Aside0.mk A20
  clear A20
  replace H := Option.bind_eq_some_iff.mp H
  obtain ⟨⟨t210, t211, t212⟩, A30, H⟩ := H
  replace H : ((spec_l01Wide.f t206 t211 t212).bind fun bt213 => ((spec_PutDec.f k t210 bt213.1).bind fun bt216 => ((spec_l01Bent.f t206 bt213.2.1 bt213.2.2 bt216.1).bind fun bt218 => (some bt218.1)))) = some r := H
  have A3 := Aside0.mk A30
  clear A30
  replace H := Option.bind_eq_some_iff.mp H
  obtain ⟨⟨t213, t214, t215⟩, A40, H⟩ := H
  replace H : ((spec_PutDec.f k t210 t213).bind fun bt216 => ((spec_l01Bent.f t206 t214 t215 bt216.1).bind fun bt218 => (some bt218.1))) = some r := H
  have A4 := Aside0.mk A40
  clear A40
  replace H := Option.bind_eq_some_iff.mp H
  obtain ⟨⟨t216, t217⟩, A50, H⟩ := H
  replace H : ((spec_l01Bent.f t206 t214 t215 t216).bind fun bt218 => (some bt218.1)) = some r := H
  have A5 := Aside0.mk A50
  clear A50
  replace H := Option.bind_eq_some_iff.mp H
  obtain ⟨⟨t218, t219, t220⟩, A60, H⟩ := H
  replace H : (some t218) = some r := H
  have A6 := Aside0.mk A60
  clear A60
  obtain rfl := Option.some.inj H
  go_enter Tryz.func14, Tryz.ntmps14
  go_wp2_with (first | ((with_reducible refine gate_callee (f := 76) rfl ?_); refine goesL_ (some 7) rfl rfl Tryz.func76 (by kernel_rfl) rfl #[.slice A0 l0.length c0] rfl (by (try simp only [List.map_toArray, List.map_cons, List.map_nil]); first | done | rfl | (simp only [List.length_drop, List.length_take]; rfl)) ?_; (with_reducible refine (spec_l01New.calls k _ _ l0 t206 t207 t208 w _ ?side1 ?side2 ?side3 A2.out).mono ?_); (case side1 => repeat (first | (with_reducible first | exact HB.out | apply below_alloc | apply pw_below_drewN | apply below_drew1) | exact HB.out)); (case side2 => exact HR0.out); (case side3 => exact HC0.out); rintro e w7 ⟨g209, rfl, hi, hb, hb2⟩; refine ⟨_, rfl, ?_⟩; have n0_ := Aside0.mk (hb); have n1_ := Aside0.mk (hi); clear HB; have HB := n0_; have HI209 := n1_; clear n0_ n1_; (try clear hb); (try clear hb2); (try clear hk); (try clear hi)) | ((with_reducible refine gate_callee (f := 77) rfl ?_); refine goesL_ (some 10) rfl rfl Tryz.func77 (by kernel_rfl) rfl #[.pointer (some ⟨g209, 0, none⟩)] rfl (by (try simp only [List.map_toArray, List.map_cons, List.map_nil]); first | done | rfl | (simp only [List.length_drop, List.length_take]; rfl)) ?_; (with_reducible refine (spec_l01Num.calls g209 t206 t207 t208 t210 t211 t212 w _ ?side1 ?side2 A3.out).mono ?_); (case side1 => repeat (first | (with_reducible first | exact HI209.out | apply IsS113.alloc | apply IsS113.drewN | apply IsS113.drew | apply IsS113.set_1 | apply IsS113.set_2) | exact HI209.out)); (case side2 => repeat (first | (with_reducible first | exact HB.out | apply below_alloc | apply pw_below_drewN | apply below_drew1 | refine below_set ?_ (IsS113.ge HI209.out)) | exact HB.out)); rintro e w8 ⟨rfl, hi, hb, hk⟩; refine ⟨_, rfl, ?_⟩; have n0_ := Aside0.mk (hb); have n1_ := Aside0.mk (hi); clear HB; clear HI209; have HB := n0_; have HI209 := n1_; clear n0_ n1_; (try clear hb); (try clear hb2); (try clear hk); (try clear hi)) | ((with_reducible refine gate_callee (f := 78) rfl ?_); refine goesL_ (some 12) rfl rfl Tryz.func78 (by kernel_rfl) rfl #[.pointer (some ⟨g209, 0, none⟩)] rfl (by (try simp only [List.map_toArray, List.map_cons, List.map_nil]); first | done | rfl | (simp only [List.length_drop, List.length_take]; rfl)) ?_; (with_reducible refine (spec_l01Wide.calls g209 t206 t211 t212 t213 t214 t215 w _ ?side1 ?side2 A4.out).mono ?_); (case side1 => repeat (first | (with_reducible first | exact HI209.out | apply IsS113.alloc | apply IsS113.drewN | apply IsS113.drew | apply IsS113.set_1 | apply IsS113.set_2) | exact HI209.out)); (case side2 => repeat (first | (with_reducible first | exact HB.out | apply below_alloc | apply pw_below_drewN | apply below_drew1 | refine below_set ?_ (IsS113.ge HI209.out)) | exact HB.out)); rintro e w9 ⟨rfl, hi, hb, hk⟩; refine ⟨_, rfl, ?_⟩; have n0_ := Aside0.mk (hb); have n1_ := Aside0.mk (hi); clear HB; clear HI209; have HB := n0_; have HI209 := n1_; clear n0_ n1_; (try clear hb); (try clear hb2); (try clear hk); (try clear hi)) | ((with_reducible refine gate_callee (f := 73) rfl ?_); refine goesL_ (some 13) rfl rfl Tryz.func73 (by kernel_rfl) rfl #[.int .i64 t210, .int .i64 t213] rfl (by (try simp only [List.map_toArray, List.map_cons, List.map_nil]); first | done | rfl | (simp only [List.length_drop, List.length_take]; rfl)) ?_; (with_reducible refine (spec_PutDec.calls k t210 t213 t216 t217 _ A5.out).mono ?_); rintro e w' ⟨rfl, ⟨nd, rfl⟩⟩; refine ⟨_, rfl, ?_⟩) | ((with_reducible refine gate_callee (f := 79) rfl ?_); refine goesL_ (some 18) rfl rfl Tryz.func79 (by kernel_rfl) rfl #[.pointer (some ⟨g209, 0, none⟩), .string t216] rfl (by (try simp only [List.map_toArray, List.map_cons, List.map_nil]); first | done | rfl | (simp only [List.length_drop, List.length_take]; rfl)) ?_; (with_reducible refine (spec_l01Bent.calls g209 t206 t214 t215 t216 t218 t219 t220 w _ ?side1 ?side2 A6.out).mono ?_); (case side1 => repeat (first | (with_reducible first | exact HI209.out | apply IsS113.alloc | apply IsS113.drewN | apply IsS113.drew | apply IsS113.set_1 | apply IsS113.set_2) | exact HI209.out)); (case side2 => repeat (first | (with_reducible first | exact HB.out | apply below_alloc | apply pw_below_drewN | apply below_drew1 | refine below_set ?_ (IsS113.ge HI209.out)) | exact HB.out)); rintro e w10 ⟨rfl, hi, hb, hk⟩; refine ⟨_, rfl, ?_⟩; have n0_ := Aside0.mk (hb); have n1_ := Aside0.mk (hi); clear HB; clear HI209; have HB := n0_; have HI209 := n1_; clear n0_ n1_; (try clear hb); (try clear hb2); (try clear hk); (try clear hi)))
  go_ret
  exact ⟨by first | rfl | (simp [errW_none, errW_some] <;> rfl) | (simp [*, errW_none, errW_some] <;> rfl) | (simp only [decide_eq_true_eq] at *; simp [*, bt]; done), by repeat (first | (with_reducible first | exact HB.out | apply below_alloc | apply pw_below_drewN | apply below_drew1 | refine below_set ?_ (IsS113.ge HI209.out)) | exact HB.out)⟩

/-! ### strconv_FormatInt: function 145, by a contract of our own -/
/-- The digits of a number in a base, the least behind. -/
def dgt (d : Nat) : UInt8 := Lib.digits36.data.toList.getD d 0
def fmtL (b u : Nat) : List UInt8 := if h : u < b ∨ b ≤ 1 then [dgt u] else fmtL b (u / b) ++ [dgt (u % b)]
termination_by u
decreasing_by exact Nat.div_lt_self (by omega) (by omega)
theorem fmtL_less (b u : Nat) (h : u < b) : fmtL b u = [dgt u] := by rw [fmtL, dif_pos (Or.inl h)]
theorem fmtL_more (b u : Nat) (hb : 2 ≤ b) (h : ¬ u < b) : fmtL b u = fmtL b (u / b) ++ [dgt (u % b)] := by rw [fmtL, dif_neg (by omega)]
def zeros65 : Array Value := #[Value.int .u8 0, Value.int .u8 0, Value.int .u8 0, Value.int .u8 0, Value.int .u8 0, Value.int .u8 0, Value.int .u8 0, Value.int .u8 0, Value.int .u8 0, Value.int .u8 0, Value.int .u8 0, Value.int .u8 0, Value.int .u8 0, Value.int .u8 0, Value.int .u8 0, Value.int .u8 0, Value.int .u8 0, Value.int .u8 0, Value.int .u8 0, Value.int .u8 0, Value.int .u8 0, Value.int .u8 0, Value.int .u8 0, Value.int .u8 0, Value.int .u8 0, Value.int .u8 0, Value.int .u8 0, Value.int .u8 0, Value.int .u8 0, Value.int .u8 0, Value.int .u8 0, Value.int .u8 0, Value.int .u8 0, Value.int .u8 0, Value.int .u8 0, Value.int .u8 0, Value.int .u8 0, Value.int .u8 0, Value.int .u8 0, Value.int .u8 0, Value.int .u8 0, Value.int .u8 0, Value.int .u8 0, Value.int .u8 0, Value.int .u8 0, Value.int .u8 0, Value.int .u8 0, Value.int .u8 0, Value.int .u8 0, Value.int .u8 0, Value.int .u8 0, Value.int .u8 0, Value.int .u8 0, Value.int .u8 0, Value.int .u8 0, Value.int .u8 0, Value.int .u8 0, Value.int .u8 0, Value.int .u8 0, Value.int .u8 0, Value.int .u8 0, Value.int .u8 0, Value.int .u8 0, Value.int .u8 0, Value.int .u8 0]
theorem zeros65_at (i : Nat) (h : i < 65) : zeros65[i]? = some (.int .u8 0) := by
  have e : zeros65 = Array.replicate 65 (.int .u8 0) := rfl
  rw [e, Array.getElem?_replicate, if_pos h]
theorem holds65 (w : World) (T : TypeId) : Go.Sort.Holds (fun (b : UInt8) => Value.int .u8 (b.toNat : Int)) (w.alloc (.cells zeros65 T)) w.heap.size 0 (Array.replicate 65 (0 : UInt8)) := fun j hj => by
  have hj' : j < 65 := by simpa using hj
  refine ⟨?_, World.frozen?_alloc_new _ _ _ _⟩
  rw [World.cell?_alloc_new, zeros65_at _ (by omega), getElem!_pos _ j hj]
  simp
theorem idx_digits36 (z : Int) (k : IntKind) (i : Nat) (hz : z = (i : Int)) (hi : i < 36) (w : World) :
    (Instr.index 9 (.string Lib.digits36) (.int k z)).run Tryz.prog w = .ok (.int .u8 ((dgt i).toNat : Int)) w := by
  subst hz
  have hs : Lib.digits36.size = 36 := rfl
  rw [run_index_string w 9 Lib.digits36 k _ Tryz.underlying9, dif_pos ⟨by omega, by rw [hs]; omega⟩]
  have e : ((i : Int)).toNat = i := by omega
  simp only [e]
  rw [Lib.getD_at Lib.digits36 i (by rw [hs]; exact hi)]
  rfl
theorem set_drop (dk : Array UInt8) (i : Nat) (x : UInt8) (h : i < dk.size) : (dk.setIfInBounds i x).toList.drop i = x :: dk.toList.drop (i + 1) := by
  have hl : i < (dk.toList.set i x).length := by rw [List.length_set, Array.length_toList]; exact h
  rw [Array.toList_setIfInBounds, List.drop_eq_getElem_cons hl, List.getElem_set_self, List.drop_set, if_pos (by omega)]
theorem bits_and_low (v : Nat) (S : Nat) (hv : v < 18446744073709551616) (hS : S < 63) : bits .and .u64 (v : Int) ((2 ^ S - 1 : Nat) : Int) = ((v % 2 ^ S : Nat) : Int) := by
  have h2 : (2 : Nat) ^ S ≤ 2 ^ 63 := Nat.pow_le_pow_right (by decide) (by omega)
  rw [bits_and_u64_nat v _ hv (by omega), Nat.and_two_pow_sub_one_eq_mod]
/-- The tables' cells, whatever the call lays. -/
theorem tz_cell {w W : World} (hL : Tabs w) (hb : Below w.heap.size w W) (i : Nat) (hi : i < 64) : W.cell? ⟨7, i, none⟩ = some (.int .u8 ((Lib.deBruijn64tab.map Int.ofNat).getD i 0)) :=
  (Tabs.below hL hb).1.2.cell (by kernel_rfl) i (by simp [Lib.deBruijn64tab]; omega)
set_option maxRecDepth 100000 in
set_option maxHeartbeats 4000000 in
theorem tz64_8 (W : World) (hc : W.cell? ⟨7, 7, none⟩ = some (.int .u8 3)) :
    Calls Tryz.prog 245 #[.int .u64 8] W fun e w' => e = .returned (.int .i64 3) ∧ w' = W := by
  have key : IntKind.u64.wrap (bits BinOp.and IntKind.u64 8 (IntKind.u64.wrap (-8)) * 285870213051353865) / 288230376151711744 = 7 := by decide
  have g1 : Tryz.prog.globals.findIdx? (·.name == "math/bits.deBruijn64tab") = some 7 := by kernel_rfl
  go_enter Tryz.func245, Tryz.ntmps245
  go_wp2_with (simp only [key])
  go_ret
  exact ⟨rfl, rfl⟩
set_option maxRecDepth 100000 in
theorem tz_8 (W : World) (hc : W.cell? ⟨7, 7, none⟩ = some (.int .u8 3)) :
    Calls Tryz.prog 238 #[.int .u64 8] W fun e w' => e = .returned (.int .i64 3) ∧ w' = W := by
  have c64 := tz64_8 W hc
  clear hc
  go_enter Tryz.func238, Tryz.ntmps238
  go_wp2_with (go_at_call 245; refine c64.mono ?_; rintro e w' ⟨rfl, rfl⟩)
  go_ret
  exact ⟨rfl, rfl⟩
theorem pow2_8 (W : World) : Calls Tryz.prog 237 #[.int .i64 8] W fun e w' => e = .returned (.bool true) ∧ w' = W := by
  have hb : bits .and .i64 8 7 = 0 := by decide
  go_enter Tryz.func237, Tryz.ntmps237
  go_wp2
  go_ret
  exact ⟨by first | rfl | simp [hb], rfl⟩
set_option maxRecDepth 100000 in
set_option maxHeartbeats 16000000 in
theorem formatBits8 (u : Nat) (hu : u < 9223372036854775808) (w : World) (hL : Tabs w) :
    Calls Tryz.prog 217 #[.slice none 0 0, .int .u64 u, .int .i64 8, .bool false, .bool false] w fun e w' => e = .returned (.tuple #[.slice none 0 0, .string ⟨(fmtL 8 u).toArray⟩]) ∧ Below w.heap.size w w' := by
  have hz := fun (W : World) (hb : Below w.heap.size w W) => tz_8 W (tz_cell hL hb 7 (by decide))
  have hp := fun W => pow2_8 W
  clear hL
  go_enter Tryz.func217, Tryz.ntmps217
  go_name_bytes_deep 44 PM hPM
  clear hPM
  go_name_bytes_deep 30 DG hDG
  have eDG : DG = Lib.digits36 := by rw [← hDG]; decide +kernel
  subst eDG
  clear hDG
  go_wp2_with (first | (go_at_call 237; refine (hp _).mono ?_; rintro e w' ⟨rfl, rfl⟩) | (go_at_call 238; refine (hz _ (by repeat (first | exact Below.refl _ _ | apply below_alloc | apply below_drew1 | apply pw_below_drewN))).mono ?_; rintro e w' ⟨rfl, rfl⟩))
  go_loopw [1, 13] (fun vu vi wr => ∃ (v i n : Nat) (dk : Array UInt8), vu = .int .u64 v ∧ vi = .int .i64 i ∧ wr = (Go.Sort.putRow (fun (b : UInt8) => Value.int .u8 (b.toNat : Int)) (w.alloc (.cells zeros65 193)) w.heap.size 0 dk).drewN n ∧ Hid (dk.size = 65 ∧ v < 2 ^ (i - 2) ∧ 2 ≤ i ∧ i ≤ 65 ∧ fmtL 8 u = fmtL 8 v ++ dk.toList.drop i)) (fun vu _ _ => (RowKit.intOf vu).toNat)
  case atStart => exact ⟨u, 65, 0, Array.replicate 65 0, rfl, rfl, (Go.Sort.putRow_self _ _ _ _ _ (holds65 w 193)).symm, by simp, by omega, by omega, by omega, by simp⟩
  case round =>
    obtain ⟨v, i, n, dk, rfl, rfl, hw0, HI⟩ := hrel
    rename World => W0
    clear hz hp
    obtain ⟨hs0, hv, hi2, hi65, hdec⟩ := HI.out
    have hH0 : Go.Sort.Holds (fun (b : UInt8) => Value.int .u8 (b.toNat : Int)) W0 w.heap.size 0 dk := by rw [hw0]; exact Go.Sort.holds_putRow _ _ _ _ (Array.replicate 65 (0 : UInt8)) dk (holds65 w 193) (by rw [hs0, Array.size_replicate])
    obtain ⟨m, rfl⟩ : ∃ m, i = m + 1 := ⟨i - 1, by omega⟩
    obtain ⟨g, hg⟩ : ∃ g : Int, g = (dk[m]!.toNat : Int) := ⟨_, rfl⟩
    have hc0 : W0.cell? ⟨w.heap.size, m, none⟩ = some (.int .u8 g) := by rw [hg, ← (hH0 m (by omega)).1, Nat.zero_add]
    have hf0 : W0.frozen? ⟨w.heap.size, m, none⟩ = false := by rw [← (hH0 m (by omega)).2, Nat.zero_add]
    have hv64 : v < 9223372036854775808 := Nat.lt_of_lt_of_le hv (Nat.le_trans (Nat.pow_le_pow_right (by decide) (show m + 1 - 2 ≤ 63 by omega)) (by decide))
    have hal : Tryz.prog.arrayLen 193 = 65 := by kernel_rfl
    have AW0 := Lib.hid hw0
    have AH := Lib.hid hH0
    clear hw0 hH0 hg
    by_cases hge : 8 ≤ v
    · obtain ⟨x, hx⟩ : ∃ x : Nat, x = v % 8 := ⟨_, rfl⟩
      obtain ⟨q, hq⟩ : ∃ q : Nat, q = v / 8 := ⟨_, rfl⟩
      have hand : bits .and .u64 (v : Int) 7 = (x : Int) := by rw [hx]; exact bits_and_low v 3 (by omega) (by decide)
      have hX : ∀ w, (Instr.index 9 (.string Lib.digits36) (.int .u64 (x : Int))).run Tryz.prog w = .ok (.int .u8 ((dgt x).toNat : Int)) w := idx_digits36 _ .u64 x rfl (by omega)
      have HN : Hid ((dk.setIfInBounds m (dgt x)).size = 65 ∧ q < 2 ^ (m - 2) ∧ 2 ≤ m ∧ m ≤ 65 ∧ fmtL 8 u = fmtL 8 q ++ (dk.setIfInBounds m (dgt x)).toList.drop m) := Lib.hid (by
        have h4 : 3 + 2 ≤ m := by
          have : ¬ m + 1 - 2 ≤ 3 := fun hle => by
            have h8 : v < 2 ^ 3 := Nat.lt_of_lt_of_le hv (Nat.pow_le_pow_right (by decide) hle)
            have h9 : (2 : Nat) ^ 3 = 8 := by decide
            omega
          omega
        refine ⟨by simpa using hs0, ?_, by omega, by omega, ?_⟩
        · rw [hq]
          apply Nat.div_lt_of_lt_mul
          have e : 8 * 2 ^ (m - 2) = 2 ^ (m - 2 + 3) := by rw [Nat.pow_add, Nat.mul_comm]
          rw [e]
          exact Nat.lt_of_lt_of_le hv (Nat.pow_le_pow_right (by decide) (by omega))
        · rw [set_drop dk m _ (by omega), hdec, fmtL_more 8 v (by decide) (by omega), ← hx, ← hq, List.append_assoc]
          rfl)
      have hqv : v / 8 = q := hq.symm
      have hqi : (v : Int) / 8 = (q : Int) := by omega
      have hlt : q < v := by omega
      clear hdec hv HI hx hq
      go_wp2
      refine ⟨⟨q, m, n, dk.setIfInBounds m (dgt x), rfl, rfl, ?_, HN⟩, by simp [RowKit.intOf]; omega⟩
      rw [AW0.out]
      have hst := Lib.store1_world (w.alloc (.cells zeros65 193)) w.heap.size 0 dk n m (dgt x) (by omega)
      rw [Nat.zero_add] at hst
      exact hst
    · have hX : ∀ w, (Instr.index 9 (.string Lib.digits36) (.int .u64 (v : Int))).run Tryz.prog w = .ok (.int .u8 ((dgt v).toNat : Int)) w := idx_digits36 _ .u64 v rfl (by omega)
      have hlast : fmtL 8 u = (dk.setIfInBounds m (dgt v)).toList.drop m := by
        rw [set_drop dk m _ (by omega), hdec, fmtL_less 8 v (by omega)]
        rfl
      have hlen : (fmtL 8 u).length = 65 - m := by
        rw [hlast, List.length_drop, Array.length_toList, Array.size_setIfInBounds, hs0]
      have hst : W0.setCell ⟨w.heap.size, m, none⟩ (.int .u8 ((dgt v).toNat : Int)) = (Go.Sort.putRow (fun (b : UInt8) => Value.int .u8 (b.toNat : Int)) (w.alloc (.cells zeros65 193)) w.heap.size 0 (dk.setIfInBounds m (dgt v))).drewN n := by
        have hst := Lib.store1_world (w.alloc (.cells zeros65 193)) w.heap.size 0 dk n m (dgt v) (by omega)
        rw [Nat.zero_add] at hst
        rw [AW0.out]
        exact hst
      have hH1 : Go.Sort.Holds (fun (b : UInt8) => Value.int .u8 (b.toNat : Int)) (W0.setCell ⟨w.heap.size, m, none⟩ (.int .u8 ((dgt v).toNat : Int))) w.heap.size 0 (dk.setIfInBounds m (dgt v)) := by rw [hst]; exact Go.Sort.holds_putRow _ _ _ _ (Array.replicate 65 (0 : UInt8)) _ (holds65 w 193) (by rw [Array.size_setIfInBounds, hs0, Array.size_replicate])
      have hsl : ∀ W, (Instr.sliceAt 193 (.pointer (some ⟨w.heap.size, 0, none⟩)) (some (.int .i64 (m : Int))) none none).run Tryz.prog W = .ok (.slice (some ⟨w.heap.size, m, none⟩) (65 - m) (65 - m)) W := fun W => by
        rw [run_sliceAt_array_l W 193 ⟨w.heap.size, 0, none⟩ (by kernel_rfl) .i64 (m : Int) (by omega) (by rw [hal]; omega)]
        rw [hal, show Tryz.prog.elem 193 = 5 by kernel_rfl]
        simp only [slicedAt, Int.toNat_natCast]
        rw [show (sizeOf 5).run Tryz.prog W = .ok 1 W from Tryz.sizeOf5 W]
        simp only [Result.andThen, if_neg (show ¬ 65 = m by omega), Lib.add_plain, Nat.mul_one, Nat.zero_add]
      have hcv : (convert 22 9 (.slice (some ⟨w.heap.size, m, none⟩) (65 - m) (65 - m))).run Tryz.prog (W0.setCell ⟨w.heap.size, m, none⟩ (.int .u8 ((dgt v).toNat : Int))) = .ok (.string ⟨(fmtL 8 u).toArray⟩) (W0.setCell ⟨w.heap.size, m, none⟩ (.int .u8 ((dgt v).toNat : Int))) := by
        have h := run_convert_bytes_back (P := Tryz.prog) (W0.setCell ⟨w.heap.size, m, none⟩ (.int .u8 ((dgt v).toNat : Int))) 22 9 5 ⟨w.heap.size, m, none⟩ (65 - m) (fmtL 8 u) Tryz.underlying22 Tryz.underlying5 Tryz.underlying9 (fun j hj => by
          rw [Lib.add_plain]
          have hj2 : m + j < (dk.setIfInBounds m (dgt v)).size := by rw [Array.size_setIfInBounds]; omega
          have h1 := (hH1 (m + j) hj2).1
          rw [Nat.zero_add] at h1
          have e : (dk.setIfInBounds m (dgt v))[m + j]! = (fmtL 8 u)[j] := by
            rw [getElem!_pos _ (m + j) hj2]
            simp only [hlast, List.getElem_drop, Array.getElem_toList]
          rw [h1, e])
        rw [hlen] at h
        exact h
      have hbel : Below w.heap.size w (W0.setCell ⟨w.heap.size, m, none⟩ (.int .u8 ((dgt v).toNat : Int))) := by
        rw [hst]
        obtain ⟨os, eo⟩ := Lib.fin_at w (.cells zeros65 193) (dk.setIfInBounds m (dgt v)) n 0
        rw [eo]
        exact below_grow_ _ _ _
      have HB := Aside0.mk hbel
      clear hbel hH1 hst hlen hlast hdec hv HI hs0 AW0
      go_wp2
      go_ret2
      exact ⟨rfl, HB.out⟩
set_option maxRecDepth 100000 in
set_option maxHeartbeats 4000000 in
theorem tz64_16 (W : World) (hc : W.cell? ⟨7, 15, none⟩ = some (.int .u8 4)) :
    Calls Tryz.prog 245 #[.int .u64 16] W fun e w' => e = .returned (.int .i64 4) ∧ w' = W := by
  have key : IntKind.u64.wrap (bits BinOp.and IntKind.u64 16 (IntKind.u64.wrap (-16)) * 285870213051353865) / 288230376151711744 = 15 := by decide
  have g1 : Tryz.prog.globals.findIdx? (·.name == "math/bits.deBruijn64tab") = some 7 := by kernel_rfl
  go_enter Tryz.func245, Tryz.ntmps245
  go_wp2_with (simp only [key])
  go_ret
  exact ⟨rfl, rfl⟩
set_option maxRecDepth 100000 in
theorem tz_16 (W : World) (hc : W.cell? ⟨7, 15, none⟩ = some (.int .u8 4)) :
    Calls Tryz.prog 238 #[.int .u64 16] W fun e w' => e = .returned (.int .i64 4) ∧ w' = W := by
  have c64 := tz64_16 W hc
  clear hc
  go_enter Tryz.func238, Tryz.ntmps238
  go_wp2_with (go_at_call 245; refine c64.mono ?_; rintro e w' ⟨rfl, rfl⟩)
  go_ret
  exact ⟨rfl, rfl⟩
theorem pow2_16 (W : World) : Calls Tryz.prog 237 #[.int .i64 16] W fun e w' => e = .returned (.bool true) ∧ w' = W := by
  have hb : bits .and .i64 16 15 = 0 := by decide
  go_enter Tryz.func237, Tryz.ntmps237
  go_wp2
  go_ret
  exact ⟨by first | rfl | simp [hb], rfl⟩
set_option maxRecDepth 100000 in
set_option maxHeartbeats 16000000 in
theorem formatBits16 (u : Nat) (hu : u < 9223372036854775808) (w : World) (hL : Tabs w) :
    Calls Tryz.prog 217 #[.slice none 0 0, .int .u64 u, .int .i64 16, .bool false, .bool false] w fun e w' => e = .returned (.tuple #[.slice none 0 0, .string ⟨(fmtL 16 u).toArray⟩]) ∧ Below w.heap.size w w' := by
  have hz := fun (W : World) (hb : Below w.heap.size w W) => tz_16 W (tz_cell hL hb 15 (by decide))
  have hp := fun W => pow2_16 W
  clear hL
  go_enter Tryz.func217, Tryz.ntmps217
  go_name_bytes_deep 44 PM hPM
  clear hPM
  go_name_bytes_deep 30 DG hDG
  have eDG : DG = Lib.digits36 := by rw [← hDG]; decide +kernel
  subst eDG
  clear hDG
  go_wp2_with (first | (go_at_call 237; refine (hp _).mono ?_; rintro e w' ⟨rfl, rfl⟩) | (go_at_call 238; refine (hz _ (by repeat (first | exact Below.refl _ _ | apply below_alloc | apply below_drew1 | apply pw_below_drewN))).mono ?_; rintro e w' ⟨rfl, rfl⟩))
  go_loopw [1, 13] (fun vu vi wr => ∃ (v i n : Nat) (dk : Array UInt8), vu = .int .u64 v ∧ vi = .int .i64 i ∧ wr = (Go.Sort.putRow (fun (b : UInt8) => Value.int .u8 (b.toNat : Int)) (w.alloc (.cells zeros65 193)) w.heap.size 0 dk).drewN n ∧ Hid (dk.size = 65 ∧ v < 2 ^ (i - 2) ∧ 2 ≤ i ∧ i ≤ 65 ∧ fmtL 16 u = fmtL 16 v ++ dk.toList.drop i)) (fun vu _ _ => (RowKit.intOf vu).toNat)
  case atStart => exact ⟨u, 65, 0, Array.replicate 65 0, rfl, rfl, (Go.Sort.putRow_self _ _ _ _ _ (holds65 w 193)).symm, by simp, by omega, by omega, by omega, by simp⟩
  case round =>
    obtain ⟨v, i, n, dk, rfl, rfl, hw0, HI⟩ := hrel
    rename World => W0
    clear hz hp
    obtain ⟨hs0, hv, hi2, hi65, hdec⟩ := HI.out
    have hH0 : Go.Sort.Holds (fun (b : UInt8) => Value.int .u8 (b.toNat : Int)) W0 w.heap.size 0 dk := by rw [hw0]; exact Go.Sort.holds_putRow _ _ _ _ (Array.replicate 65 (0 : UInt8)) dk (holds65 w 193) (by rw [hs0, Array.size_replicate])
    obtain ⟨m, rfl⟩ : ∃ m, i = m + 1 := ⟨i - 1, by omega⟩
    obtain ⟨g, hg⟩ : ∃ g : Int, g = (dk[m]!.toNat : Int) := ⟨_, rfl⟩
    have hc0 : W0.cell? ⟨w.heap.size, m, none⟩ = some (.int .u8 g) := by rw [hg, ← (hH0 m (by omega)).1, Nat.zero_add]
    have hf0 : W0.frozen? ⟨w.heap.size, m, none⟩ = false := by rw [← (hH0 m (by omega)).2, Nat.zero_add]
    have hv64 : v < 9223372036854775808 := Nat.lt_of_lt_of_le hv (Nat.le_trans (Nat.pow_le_pow_right (by decide) (show m + 1 - 2 ≤ 63 by omega)) (by decide))
    have hal : Tryz.prog.arrayLen 193 = 65 := by kernel_rfl
    have AW0 := Lib.hid hw0
    have AH := Lib.hid hH0
    clear hw0 hH0 hg
    by_cases hge : 16 ≤ v
    · obtain ⟨x, hx⟩ : ∃ x : Nat, x = v % 16 := ⟨_, rfl⟩
      obtain ⟨q, hq⟩ : ∃ q : Nat, q = v / 16 := ⟨_, rfl⟩
      have hand : bits .and .u64 (v : Int) 15 = (x : Int) := by rw [hx]; exact bits_and_low v 4 (by omega) (by decide)
      have hX : ∀ w, (Instr.index 9 (.string Lib.digits36) (.int .u64 (x : Int))).run Tryz.prog w = .ok (.int .u8 ((dgt x).toNat : Int)) w := idx_digits36 _ .u64 x rfl (by omega)
      have HN : Hid ((dk.setIfInBounds m (dgt x)).size = 65 ∧ q < 2 ^ (m - 2) ∧ 2 ≤ m ∧ m ≤ 65 ∧ fmtL 16 u = fmtL 16 q ++ (dk.setIfInBounds m (dgt x)).toList.drop m) := Lib.hid (by
        have h4 : 4 + 2 ≤ m := by
          have : ¬ m + 1 - 2 ≤ 4 := fun hle => by
            have h8 : v < 2 ^ 4 := Nat.lt_of_lt_of_le hv (Nat.pow_le_pow_right (by decide) hle)
            have h9 : (2 : Nat) ^ 4 = 16 := by decide
            omega
          omega
        refine ⟨by simpa using hs0, ?_, by omega, by omega, ?_⟩
        · rw [hq]
          apply Nat.div_lt_of_lt_mul
          have e : 16 * 2 ^ (m - 2) = 2 ^ (m - 2 + 4) := by rw [Nat.pow_add, Nat.mul_comm]
          rw [e]
          exact Nat.lt_of_lt_of_le hv (Nat.pow_le_pow_right (by decide) (by omega))
        · rw [set_drop dk m _ (by omega), hdec, fmtL_more 16 v (by decide) (by omega), ← hx, ← hq, List.append_assoc]
          rfl)
      have hqv : v / 16 = q := hq.symm
      have hqi : (v : Int) / 16 = (q : Int) := by omega
      have hlt : q < v := by omega
      clear hdec hv HI hx hq
      go_wp2
      refine ⟨⟨q, m, n, dk.setIfInBounds m (dgt x), rfl, rfl, ?_, HN⟩, by simp [RowKit.intOf]; omega⟩
      rw [AW0.out]
      have hst := Lib.store1_world (w.alloc (.cells zeros65 193)) w.heap.size 0 dk n m (dgt x) (by omega)
      rw [Nat.zero_add] at hst
      exact hst
    · have hX : ∀ w, (Instr.index 9 (.string Lib.digits36) (.int .u64 (v : Int))).run Tryz.prog w = .ok (.int .u8 ((dgt v).toNat : Int)) w := idx_digits36 _ .u64 v rfl (by omega)
      have hlast : fmtL 16 u = (dk.setIfInBounds m (dgt v)).toList.drop m := by
        rw [set_drop dk m _ (by omega), hdec, fmtL_less 16 v (by omega)]
        rfl
      have hlen : (fmtL 16 u).length = 65 - m := by
        rw [hlast, List.length_drop, Array.length_toList, Array.size_setIfInBounds, hs0]
      have hst : W0.setCell ⟨w.heap.size, m, none⟩ (.int .u8 ((dgt v).toNat : Int)) = (Go.Sort.putRow (fun (b : UInt8) => Value.int .u8 (b.toNat : Int)) (w.alloc (.cells zeros65 193)) w.heap.size 0 (dk.setIfInBounds m (dgt v))).drewN n := by
        have hst := Lib.store1_world (w.alloc (.cells zeros65 193)) w.heap.size 0 dk n m (dgt v) (by omega)
        rw [Nat.zero_add] at hst
        rw [AW0.out]
        exact hst
      have hH1 : Go.Sort.Holds (fun (b : UInt8) => Value.int .u8 (b.toNat : Int)) (W0.setCell ⟨w.heap.size, m, none⟩ (.int .u8 ((dgt v).toNat : Int))) w.heap.size 0 (dk.setIfInBounds m (dgt v)) := by rw [hst]; exact Go.Sort.holds_putRow _ _ _ _ (Array.replicate 65 (0 : UInt8)) _ (holds65 w 193) (by rw [Array.size_setIfInBounds, hs0, Array.size_replicate])
      have hsl : ∀ W, (Instr.sliceAt 193 (.pointer (some ⟨w.heap.size, 0, none⟩)) (some (.int .i64 (m : Int))) none none).run Tryz.prog W = .ok (.slice (some ⟨w.heap.size, m, none⟩) (65 - m) (65 - m)) W := fun W => by
        rw [run_sliceAt_array_l W 193 ⟨w.heap.size, 0, none⟩ (by kernel_rfl) .i64 (m : Int) (by omega) (by rw [hal]; omega)]
        rw [hal, show Tryz.prog.elem 193 = 5 by kernel_rfl]
        simp only [slicedAt, Int.toNat_natCast]
        rw [show (sizeOf 5).run Tryz.prog W = .ok 1 W from Tryz.sizeOf5 W]
        simp only [Result.andThen, if_neg (show ¬ 65 = m by omega), Lib.add_plain, Nat.mul_one, Nat.zero_add]
      have hcv : (convert 22 9 (.slice (some ⟨w.heap.size, m, none⟩) (65 - m) (65 - m))).run Tryz.prog (W0.setCell ⟨w.heap.size, m, none⟩ (.int .u8 ((dgt v).toNat : Int))) = .ok (.string ⟨(fmtL 16 u).toArray⟩) (W0.setCell ⟨w.heap.size, m, none⟩ (.int .u8 ((dgt v).toNat : Int))) := by
        have h := run_convert_bytes_back (P := Tryz.prog) (W0.setCell ⟨w.heap.size, m, none⟩ (.int .u8 ((dgt v).toNat : Int))) 22 9 5 ⟨w.heap.size, m, none⟩ (65 - m) (fmtL 16 u) Tryz.underlying22 Tryz.underlying5 Tryz.underlying9 (fun j hj => by
          rw [Lib.add_plain]
          have hj2 : m + j < (dk.setIfInBounds m (dgt v)).size := by rw [Array.size_setIfInBounds]; omega
          have h1 := (hH1 (m + j) hj2).1
          rw [Nat.zero_add] at h1
          have e : (dk.setIfInBounds m (dgt v))[m + j]! = (fmtL 16 u)[j] := by
            rw [getElem!_pos _ (m + j) hj2]
            simp only [hlast, List.getElem_drop, Array.getElem_toList]
          rw [h1, e])
        rw [hlen] at h
        exact h
      have hbel : Below w.heap.size w (W0.setCell ⟨w.heap.size, m, none⟩ (.int .u8 ((dgt v).toNat : Int))) := by
        rw [hst]
        obtain ⟨os, eo⟩ := Lib.fin_at w (.cells zeros65 193) (dk.setIfInBounds m (dgt v)) n 0
        rw [eo]
        exact below_grow_ _ _ _
      have HB := Aside0.mk hbel
      clear hbel hH1 hst hlen hlast hdec hv HI hs0 AW0
      go_wp2
      go_ret2
      exact ⟨rfl, HB.out⟩
set_option maxRecDepth 100000 in
theorem fmtIn (b : Nat) (hb : b = 8 ∨ b = 16) (u : Nat) (hu : u < 9223372036854775808) (w : World) (hL : Tabs w) :
    Calls Tryz.prog 178 #[.int .i64 u, .int .i64 b] w fun e w' => e = .returned (.string ⟨(fmtL b u).toArray⟩) ∧ Below w.heap.size w w' := by
  have hw : IntKind.u64.wrap (u : Int) = (u : Int) := by rw [IntKind.wrap_u64]; omega
  rcases hb with rfl | rfl
  · have hF := formatBits8 u hu
    have HT := Aside0.mk hL
    clear hL
    go_enter Tryz.func178, Tryz.ntmps178
    go_wp2_with (go_at_call 217; refine (hF _ (by first | exact HT.out | exact Tabs.below HT.out (by repeat (first | exact Below.refl _ _ | apply below_drew1 | apply pw_below_drewN)))).mono ?_; rintro e w' ⟨rfl, hb⟩)
    go_ret
    exact ⟨rfl, by first | exact hb | exact (by repeat (first | exact Below.refl _ _ | apply below_drew1 | apply pw_below_drewN) : Below w.heap.size w _).trans (hb.mono (by simp))⟩
  · have hF := formatBits16 u hu
    have HT := Aside0.mk hL
    clear hL
    go_enter Tryz.func178, Tryz.ntmps178
    go_wp2_with (go_at_call 217; refine (hF _ (by first | exact HT.out | exact Tabs.below HT.out (by repeat (first | exact Below.refl _ _ | apply below_drew1 | apply pw_below_drewN)))).mono ?_; rintro e w' ⟨rfl, hb⟩)
    go_ret
    exact ⟨rfl, by first | exact hb | exact (by repeat (first | exact Below.refl _ _ | apply below_drew1 | apply pw_below_drewN) : Below w.heap.size w _).trans (hb.mono (by simp))⟩
set_option maxRecDepth 100000 in
theorem fmtOut (b : Nat) (hb : b = 8 ∨ b = 16) (u : Nat) (hu : u < 9223372036854775808) (w : World) (hL : Tabs w) :
    Calls Tryz.prog 145 #[.int .i64 u, .int .i64 b] w fun e w' => e = .returned (.string ⟨(fmtL b u).toArray⟩) ∧ Below w.heap.size w w' := by
  have hF := fmtIn b hb u hu w hL
  clear hL
  go_enter Tryz.func145, Tryz.ntmps145
  go_wp2_with (go_at_call 178; refine hF.mono ?_; rintro e w' ⟨rfl, hb⟩)
  go_ret
  exact ⟨rfl, hb⟩
/-- Of the bases ten (every number), eight and sixteen (no number below zero): the text. -/
def strconv_FormatInt.f (a0 a1 : Int) : Option ByteArray :=
  if a1 = 10 ∧ -9223372036854775808 ≤ a0 ∧ a0 ≤ 9223372036854775807 then some ⟨(Lib.itoa a0).toArray⟩ else
  if (a1 = 8 ∨ a1 = 16) ∧ 0 ≤ a0 ∧ a0 ≤ 9223372036854775807 then some ⟨(fmtL a1.toNat a0.toNat).toArray⟩ else none
theorem strconv_FormatInt.calls (a0 a1 : Int) (r : ByteArray) (w : World) (h : strconv_FormatInt.f a0 a1 = some r) (hL : Tabs w) :
    Calls Tryz.prog 145 #[.int .i64 a0, .int .i64 a1] w fun e w' => e = .returned (.string r) ∧ Below w.heap.size w w' := by
  unfold strconv_FormatInt.f at h
  by_cases hb : a1 = 10 ∧ -9223372036854775808 ≤ a0 ∧ a0 ≤ 9223372036854775807
  · rw [if_pos hb] at h
    obtain rfl := Option.some.inj h
    obtain ⟨rfl, h0, h1⟩ := hb
    refine (Tryz.strconv_FormatInt_10 a0 h0 h1 w hL.1.1).mono fun e w' he => ?_
    obtain ⟨rfl, k, os, rfl⟩ := he
    exact ⟨rfl, below_grow_ _ _ _⟩
  · rw [if_neg hb] at h
    by_cases hc : (a1 = 8 ∨ a1 = 16) ∧ 0 ≤ a0 ∧ a0 ≤ 9223372036854775807
    · rw [if_pos hc] at h
      obtain rfl := Option.some.inj h
      obtain ⟨h1, h2, h3⟩ := hc
      obtain ⟨u, rfl⟩ := Int.eq_ofNat_of_zero_le h2
      obtain ⟨b, rfl⟩ : ∃ b : Nat, a1 = b := ⟨a1.toNat, by omega⟩
      rw [Int.toNat_natCast, Int.toNat_natCast]
      exact fmtOut b (by omega) u (by omega) w hL
    · rw [if_neg hc] at h
      cases h

/-! ### impl_inBase: function 89 -/
def impl_inBase.f (a0 : Int) (a1 : Int) : Option (ByteArray) := (strconv_FormatInt.f a0 a1).bind fun t221 => (some t221)
set_option maxHeartbeats 8000000 in
set_option maxRecDepth 100000 in
theorem impl_inBase.calls (a0 : Int) (a1 : Int) (r : ByteArray) (w : World) (h : impl_inBase.f a0 a1 = some r) (hL : Tabs w) :
    Calls Tryz.prog 89 #[.int .i64 a0, .int .i64 a1] w fun e w' => e = .returned (.string r) ∧ Below w.heap.size w w' := by
  have HL := Aside0.mk hL
  clear hL
  have HB := Aside0.mk (Below.refl w.heap.size w)
  have H : ((strconv_FormatInt.f a0 a1).bind fun t221 => (some t221)) = some r := h
  clear h
  replace H := Option.bind_eq_some_iff.mp H
  obtain ⟨t221, A30, H⟩ := H
  replace H : (some t221) = some r := H
  have A3 := Aside0.mk A30
  clear A30
  obtain rfl := Option.some.inj H
  go_enter Tryz.func89, Tryz.ntmps89
  go_wp2_with (first | ((with_reducible refine gate_callee (f := 145) rfl ?_); refine goesL_ (some 7) rfl rfl Tryz.func145 (by kernel_rfl) rfl #[.int .i64 a0, .int .i64 a1] rfl (by (try simp only [List.map_toArray, List.map_cons, List.map_nil]); first | done | rfl | (simp only [List.length_drop, List.length_take]; rfl)) ?_; (with_reducible refine (strconv_FormatInt.calls a0 a1 t221 _ A3.out (Tabs.below HL.out (by repeat (first | (with_reducible first | exact HB.out | apply below_alloc | apply pw_below_drewN | apply below_drew1) | exact HB.out)))).mono ?_); rintro e w4 ⟨rfl, hb⟩; refine ⟨_, rfl, ?_⟩; have n0_ := Aside0.mk (below_step (by repeat (first | (with_reducible first | exact HB.out | apply below_alloc | apply pw_below_drewN | apply below_drew1) | exact HB.out)) hb); clear HB; have HB := n0_; clear n0_; (try clear hb); (try clear hb2); (try clear hk); (try clear hi)))
  go_ret
  exact ⟨by first | rfl | (simp [errW_none, errW_some] <;> rfl) | (simp [*, errW_none, errW_some] <;> rfl) | (simp only [decide_eq_true_eq] at *; simp [*, bt]; done), by repeat (first | (with_reducible first | exact HB.out | apply below_alloc | apply pw_below_drewN | apply below_drew1) | exact HB.out)⟩

/-! ### impl_isField: function 87 -/
def impl_isField.f (a0 : Int) (a1 : Int) (a2 : Int) : Option (Bool) := (impl_within.f a0 0 9007199254740991).bind fun t222 => (if t222 = true then ((impl_within.f a1 1 20).bind fun t223 => (if t223 = true then ((impl_inBase.f a0 a2).bind fun t224 => (some (decide ((t224.size : Int) ≤ a1)))) else (some false))) else (some false))
set_option maxHeartbeats 8000000 in
set_option maxRecDepth 100000 in
theorem impl_isField.calls (a0 : Int) (a1 : Int) (a2 : Int) (r : Bool) (w : World) (h : impl_isField.f a0 a1 a2 = some r) (hL : Tabs w) :
    Calls Tryz.prog 87 #[.int .i64 a0, .int .i64 a1, .int .i64 a2] w fun e w' => e = .returned (.bool r) ∧ Below w.heap.size w w' := by
  have HL := Aside0.mk hL
  clear hL
  have HB := Aside0.mk (Below.refl w.heap.size w)
  have H : ((impl_within.f a0 0 9007199254740991).bind fun t222 => (if t222 = true then ((impl_within.f a1 1 20).bind fun t223 => (if t223 = true then ((impl_inBase.f a0 a2).bind fun t224 => (some (decide ((t224.size : Int) ≤ a1)))) else (some false))) else (some false))) = some r := h
  clear h
  replace H := Option.bind_eq_some_iff.mp H
  obtain ⟨t222, A40, H⟩ := H
  replace H : (if t222 = true then ((impl_within.f a1 1 20).bind fun t223 => (if t223 = true then ((impl_inBase.f a0 a2).bind fun t224 => (some (decide ((t224.size : Int) ≤ a1)))) else (some false))) else (some false)) = some r := H
  have A4 := Aside0.mk A40
  clear A40
  by_cases c5 : t222 = true
  · subst c5
    have H1 : ((impl_within.f a1 1 20).bind fun t223 => (if t223 = true then ((impl_inBase.f a0 a2).bind fun t224 => (some (decide ((t224.size : Int) ≤ a1)))) else (some false))) = some r := by rw [if_pos rfl] at H; exact H
    clear H
    have H := H1
    clear H1
    replace H := Option.bind_eq_some_iff.mp H
    obtain ⟨t223, A60, H⟩ := H
    replace H : (if t223 = true then ((impl_inBase.f a0 a2).bind fun t224 => (some (decide ((t224.size : Int) ≤ a1)))) else (some false)) = some r := H
    have A6 := Aside0.mk A60
    clear A60
    by_cases c7 : t223 = true
    · subst c7
      have H1 : ((impl_inBase.f a0 a2).bind fun t224 => (some (decide ((t224.size : Int) ≤ a1)))) = some r := by rw [if_pos rfl] at H; exact H
      clear H
      have H := H1
      clear H1
      replace H := Option.bind_eq_some_iff.mp H
      obtain ⟨t224, A80, H⟩ := H
      replace H : (some (decide ((t224.size : Int) ≤ a1))) = some r := H
      have A8 := Aside0.mk A80
      clear A80
      obtain rfl := Option.some.inj H
      go_enter Tryz.func87, Tryz.ntmps87
      go_wp2_with (first | ((with_reducible refine gate_callee (f := 80) rfl ?_); refine goesL_ (some 8) rfl rfl Tryz.func80 (by kernel_rfl) rfl #[.int .i64 a0, .int .i64 0, .int .i64 9007199254740991] rfl (by (try simp only [List.map_toArray, List.map_cons, List.map_nil]); first | done | rfl | (simp only [List.length_drop, List.length_take]; rfl)) ?_; (with_reducible refine (impl_within.calls a0 0 9007199254740991 true _ A4.out).mono ?_); rintro e w' ⟨rfl, ⟨nd, rfl⟩⟩; refine ⟨_, rfl, ?_⟩) | (go_at_call 80; (with_reducible refine (impl_within.calls a1 1 20 true _ A6.out).mono ?_); rintro e w' ⟨rfl, ⟨nd, rfl⟩⟩) | (go_at_call 89; (with_reducible refine (impl_inBase.calls a0 a2 t224 _ A8.out (Tabs.below HL.out (by repeat (first | (with_reducible first | exact HB.out | apply below_alloc | apply pw_below_drewN | apply below_drew1) | exact HB.out)))).mono ?_); rintro e w9 ⟨rfl, hb⟩; have n0_ := Aside0.mk (below_step (by repeat (first | (with_reducible first | exact HB.out | apply below_alloc | apply pw_below_drewN | apply below_drew1) | exact HB.out)) hb); clear HB; have HB := n0_; clear n0_; (try clear hb); (try clear hb2); (try clear hk); (try clear hi)))
      go_ret
      exact ⟨by first | rfl | (simp [errW_none, errW_some] <;> rfl) | (simp [*, errW_none, errW_some] <;> rfl) | (simp only [decide_eq_true_eq] at *; simp [*, bt]; done), by repeat (first | (with_reducible first | exact HB.out | apply below_alloc | apply pw_below_drewN | apply below_drew1) | exact HB.out)⟩
    · replace c7 := Bool.eq_false_iff.mpr c7
      subst c7
      have H1 : (some false) = some r := by rw [if_neg (show ¬ (false = true) by decide)] at H; exact H
      clear H
      have H := H1
      clear H1
      obtain rfl := Option.some.inj H
      go_enter Tryz.func87, Tryz.ntmps87
      go_wp2_with (first | ((with_reducible refine gate_callee (f := 80) rfl ?_); refine goesL_ (some 8) rfl rfl Tryz.func80 (by kernel_rfl) rfl #[.int .i64 a0, .int .i64 0, .int .i64 9007199254740991] rfl (by (try simp only [List.map_toArray, List.map_cons, List.map_nil]); first | done | rfl | (simp only [List.length_drop, List.length_take]; rfl)) ?_; (with_reducible refine (impl_within.calls a0 0 9007199254740991 true _ A4.out).mono ?_); rintro e w' ⟨rfl, ⟨nd, rfl⟩⟩; refine ⟨_, rfl, ?_⟩) | (go_at_call 80; (with_reducible refine (impl_within.calls a1 1 20 false _ A6.out).mono ?_); rintro e w' ⟨rfl, ⟨nd, rfl⟩⟩))
      go_ret
      exact ⟨by first | rfl | (simp [errW_none, errW_some] <;> rfl) | (simp [*, errW_none, errW_some] <;> rfl) | (simp only [decide_eq_true_eq] at *; simp [*, bt]; done), by repeat (first | (with_reducible first | exact HB.out | apply below_alloc | apply pw_below_drewN | apply below_drew1) | exact HB.out)⟩
  · replace c5 := Bool.eq_false_iff.mpr c5
    subst c5
    have H1 : (some false) = some r := by rw [if_neg (show ¬ (false = true) by decide)] at H; exact H
    clear H
    have H := H1
    clear H1
    obtain rfl := Option.some.inj H
    go_enter Tryz.func87, Tryz.ntmps87
    go_wp2_with (first | ((with_reducible refine gate_callee (f := 80) rfl ?_); refine goesL_ (some 8) rfl rfl Tryz.func80 (by kernel_rfl) rfl #[.int .i64 a0, .int .i64 0, .int .i64 9007199254740991] rfl (by (try simp only [List.map_toArray, List.map_cons, List.map_nil]); first | done | rfl | (simp only [List.length_drop, List.length_take]; rfl)) ?_; (with_reducible refine (impl_within.calls a0 0 9007199254740991 false _ A4.out).mono ?_); rintro e w' ⟨rfl, ⟨nd, rfl⟩⟩; refine ⟨_, rfl, ?_⟩))
    go_ret
    exact ⟨by first | rfl | (simp [errW_none, errW_some] <;> rfl) | (simp [*, errW_none, errW_some] <;> rfl) | (simp only [decide_eq_true_eq] at *; simp [*, bt]; done), by repeat (first | (with_reducible first | exact HB.out | apply below_alloc | apply pw_below_drewN | apply below_drew1) | exact HB.out)⟩

/-! ### strings_Repeat: function 144, by a contract of our own -/
/-- Of a result that is no longer than 2^47 bytes. -/
def strings_Repeat.f (a0 : ByteArray) (a1 : Int) : Option ByteArray :=
  if 0 ≤ a1 ∧ a1 ≤ 9223372036854775807 ∧ a0.size * a1.toNat ≤ 140737488355328 then some ⟨(Lib.repeatL a0.data.toList a1.toNat).toArray⟩ else none
theorem strings_Repeat.calls (a0 : ByteArray) (a1 : Int) (r : ByteArray) (w : World) (h : strings_Repeat.f a0 a1 = some r) :
    Calls Tryz.prog 144 #[.string a0, .int .i64 a1] w fun e w' => e = .returned (.string r) ∧ Below w.heap.size w w' := by
  unfold strings_Repeat.f at h
  by_cases hb : 0 ≤ a1 ∧ a1 ≤ 9223372036854775807 ∧ a0.size * a1.toNat ≤ 140737488355328
  · rw [if_pos hb] at h
    obtain rfl := Option.some.inj h
    obtain ⟨n, rfl⟩ := Int.eq_ofNat_of_zero_le hb.1
    exact Tryz.strings_Repeat a0 n w (by omega) hb.2.2
  · rw [if_neg hb] at h
    cases h

/-! ### impl_spaces: function 90 -/
def impl_spaces.f (a0 : ByteArray) (a1 : Int) : Option (ByteArray) := (strings_Repeat.f (⟨#[32]⟩ : ByteArray) (mx (wrap64 (a1 - (a0.size : Int))) 0)).bind fun t225 => (if a0.size + t225.size ≤ 9223372036854775807 then (some (a0 ++ t225)) else (none))
set_option maxHeartbeats 8000000 in
set_option maxRecDepth 100000 in
theorem impl_spaces.calls (a0 : ByteArray) (a1 : Int) (r : ByteArray) (w : World) (h : impl_spaces.f a0 a1 = some r) :
    Calls Tryz.prog 90 #[.string a0, .int .i64 a1] w fun e w' => e = .returned (.string r) ∧ Below w.heap.size w w' := by
  have HB := Aside0.mk (Below.refl w.heap.size w)
  have H : ((strings_Repeat.f (⟨#[32]⟩ : ByteArray) (mx (wrap64 (a1 - (a0.size : Int))) 0)).bind fun t225 => (if a0.size + t225.size ≤ 9223372036854775807 then (some (a0 ++ t225)) else (none))) = some r := h
  clear h
  obtain ⟨ji3, hji3⟩ : ∃ j_ : Int, (mx (wrap64 (a1 - (a0.size : Int))) 0) = j_ := ⟨_, rfl⟩
  replace H : ((strings_Repeat.f (⟨#[32]⟩ : ByteArray) (ji3)).bind fun t225 => (if a0.size + t225.size ≤ 9223372036854775807 then (some (a0 ++ t225)) else (none))) = some r := by first | (rw [hji3] at H; exact H) | (simp only [hji3] at H ⊢; exact H)
  (try (have hji3l : 0 ≤ ji3 := by (rw [← hji3]; unfold mx; (repeat' split) <;> omega)))
  (try (have hji3m : 0 ≤ ji3 := by omega))
  have hji3_ : (if (wrap64 (a1 - (a0.size : Int))) < 0 then 0 else (wrap64 (a1 - (a0.size : Int)))) = ji3 := hji3
  replace H := Option.bind_eq_some_iff.mp H
  obtain ⟨t225, A40, H⟩ := H
  replace H : (if a0.size + t225.size ≤ 9223372036854775807 then (some (a0 ++ t225)) else (none)) = some r := H
  have A4 := Aside0.mk A40
  clear A40
  by_cases c5 : a0.size + t225.size ≤ 9223372036854775807
  · rw [if_pos c5] at H
    have c5b0 := eq_true c5
    have c5b1 : decide (a0.size + t225.size ≤ 9223372036854775807) = true := decide_eq_true c5
    try have c5b2 : (9223372036854775807 < a0.size + t225.size) = False := eq_false (Nat.not_lt.2 c5)
    obtain rfl := Option.some.inj H
    go_enter Tryz.func90, Tryz.ntmps90
    go_wp2_with (first | ((with_reducible refine gate_callee (f := 144) rfl ?_); refine goesL_ (some 11) rfl rfl Tryz.func144 (by kernel_rfl) rfl #[.string (⟨#[32]⟩ : ByteArray), .int .i64 ji3] rfl (by (try simp only [List.map_toArray, List.map_cons, List.map_nil]); first | done | (simp only [hji3]; rfl) | rfl | (simp only [List.length_drop, List.length_take]; rfl)) ?_; (with_reducible refine (strings_Repeat.calls (⟨#[32]⟩ : ByteArray) ji3 t225 _ A4.out).mono ?_); rintro e w6 ⟨rfl, hb⟩; refine ⟨_, rfl, ?_⟩; have n0_ := Aside0.mk (below_step (by repeat (first | (with_reducible first | exact HB.out | apply below_alloc | apply pw_below_drewN | apply below_drew1) | exact HB.out)) hb); clear HB; have HB := n0_; clear n0_; (try clear hb); (try clear hb2); (try clear hk); (try clear hi)))
    go_ret
    exact ⟨by first | rfl | (simp [errW_none, errW_some] <;> rfl) | (simp only [← hji3]; first | rfl | (simp [errW_none, errW_some] <;> rfl)) | (simp [*, errW_none, errW_some] <;> rfl), by repeat (first | (with_reducible first | exact HB.out | apply below_alloc | apply pw_below_drewN | apply below_drew1) | exact HB.out)⟩
  · rw [if_neg c5] at H
    exact absurd H (by simp)

/-! ### impl_PutDec: function 22 -/
def impl_PutDec.f (a0 : Int) (a1 : Int) : Option (ByteArray × Bool) := (impl_isField.f a0 a1 10).bind fun t226 => (if t226 = true then ((impl_inBase.f a0 10).bind fun t227 => ((impl_spaces.f t227 a1).bind fun t228 => (some (t228, true)))) else (some ((⟨#[]⟩ : ByteArray), false)))
set_option maxHeartbeats 8000000 in
set_option maxRecDepth 100000 in
theorem impl_PutDec.calls (a0 : Int) (a1 : Int) (r1 : ByteArray) (r2 : Bool) (w : World) (h : impl_PutDec.f a0 a1 = some (r1, r2)) (hL : Tabs w) :
    Calls Tryz.prog 22 #[.int .i64 a0, .int .i64 a1] w fun e w' => e = .returned (.tuple #[.string r1, .bool r2]) ∧ Below w.heap.size w w' := by
  have HL := Aside0.mk hL
  clear hL
  have HB := Aside0.mk (Below.refl w.heap.size w)
  have H : ((impl_isField.f a0 a1 10).bind fun t226 => (if t226 = true then ((impl_inBase.f a0 10).bind fun t227 => ((impl_spaces.f t227 a1).bind fun t228 => (some (t228, true)))) else (some ((⟨#[]⟩ : ByteArray), false)))) = some (r1, r2) := h
  clear h
  replace H := Option.bind_eq_some_iff.mp H
  obtain ⟨t226, A30, H⟩ := H
  replace H : (if t226 = true then ((impl_inBase.f a0 10).bind fun t227 => ((impl_spaces.f t227 a1).bind fun t228 => (some (t228, true)))) else (some ((⟨#[]⟩ : ByteArray), false))) = some (r1, r2) := H
  have A3 := Aside0.mk A30
  clear A30
  by_cases c4 : t226 = true
  · subst c4
    have H1 : ((impl_inBase.f a0 10).bind fun t227 => ((impl_spaces.f t227 a1).bind fun t228 => (some (t228, true)))) = some (r1, r2) := by rw [if_pos rfl] at H; exact H
    clear H
    have H := H1
    clear H1
    replace H := Option.bind_eq_some_iff.mp H
    obtain ⟨t227, A50, H⟩ := H
    replace H : ((impl_spaces.f t227 a1).bind fun t228 => (some (t228, true))) = some (r1, r2) := H
    have A5 := Aside0.mk A50
    clear A50
    replace H := Option.bind_eq_some_iff.mp H
    obtain ⟨t228, A60, H⟩ := H
    replace H : (some (t228, true)) = some (r1, r2) := H
    have A6 := Aside0.mk A60
    clear A60
    simp only [Option.some.injEq, Prod.mk.injEq] at H
    obtain ⟨rfl, rfl⟩ := H
    go_enter Tryz.func22, Tryz.ntmps22
    go_wp2_with (first | ((with_reducible refine gate_callee (f := 87) rfl ?_); refine goesL_ (some 8) rfl rfl Tryz.func87 (by kernel_rfl) rfl #[.int .i64 a0, .int .i64 a1, .int .i64 10] rfl (by (try simp only [List.map_toArray, List.map_cons, List.map_nil]); first | done | rfl | (simp only [List.length_drop, List.length_take]; rfl)) ?_; (with_reducible refine (impl_isField.calls a0 a1 10 true _ A3.out (Tabs.below HL.out (by repeat (first | (with_reducible first | exact HB.out | apply below_alloc | apply pw_below_drewN | apply below_drew1) | exact HB.out)))).mono ?_); rintro e w7 ⟨rfl, hb⟩; refine ⟨_, rfl, ?_⟩; have n0_ := Aside0.mk (below_step (by repeat (first | (with_reducible first | exact HB.out | apply below_alloc | apply pw_below_drewN | apply below_drew1) | exact HB.out)) hb); clear HB; have HB := n0_; clear n0_; (try clear hb); (try clear hb2); (try clear hk); (try clear hi)) | ((with_reducible refine gate_callee (f := 89) rfl ?_); refine goesL_ (some 11) rfl rfl Tryz.func89 (by kernel_rfl) rfl #[.int .i64 a0, .int .i64 10] rfl (by (try simp only [List.map_toArray, List.map_cons, List.map_nil]); first | done | rfl | (simp only [List.length_drop, List.length_take]; rfl)) ?_; (with_reducible refine (impl_inBase.calls a0 10 t227 _ A5.out (Tabs.below HL.out (by repeat (first | (with_reducible first | exact HB.out | apply below_alloc | apply pw_below_drewN | apply below_drew1) | exact HB.out)))).mono ?_); rintro e w8 ⟨rfl, hb⟩; refine ⟨_, rfl, ?_⟩; have n0_ := Aside0.mk (below_step (by repeat (first | (with_reducible first | exact HB.out | apply below_alloc | apply pw_below_drewN | apply below_drew1) | exact HB.out)) hb); clear HB; have HB := n0_; clear n0_; (try clear hb); (try clear hb2); (try clear hk); (try clear hi)) | ((with_reducible refine gate_callee (f := 90) rfl ?_); refine goesL_ (some 13) rfl rfl Tryz.func90 (by kernel_rfl) rfl #[.string t227, .int .i64 a1] rfl (by (try simp only [List.map_toArray, List.map_cons, List.map_nil]); first | done | rfl | (simp only [List.length_drop, List.length_take]; rfl)) ?_; (with_reducible refine (impl_spaces.calls t227 a1 t228 _ A6.out).mono ?_); rintro e w9 ⟨rfl, hb⟩; refine ⟨_, rfl, ?_⟩; have n0_ := Aside0.mk (below_step (by repeat (first | (with_reducible first | exact HB.out | apply below_alloc | apply pw_below_drewN | apply below_drew1) | exact HB.out)) hb); clear HB; have HB := n0_; clear n0_; (try clear hb); (try clear hb2); (try clear hk); (try clear hi)))
    go_ret2
    exact ⟨by first | rfl | (simp [errW_none, errW_some] <;> rfl) | (simp [*, errW_none, errW_some] <;> rfl) | (simp only [decide_eq_true_eq] at *; simp [*, bt]; done), by repeat (first | (with_reducible first | exact HB.out | apply below_alloc | apply pw_below_drewN | apply below_drew1) | exact HB.out)⟩
  · replace c4 := Bool.eq_false_iff.mpr c4
    subst c4
    have H1 : (some ((⟨#[]⟩ : ByteArray), false)) = some (r1, r2) := by rw [if_neg (show ¬ (false = true) by decide)] at H; exact H
    clear H
    have H := H1
    clear H1
    simp only [Option.some.injEq, Prod.mk.injEq] at H
    obtain ⟨rfl, rfl⟩ := H
    go_enter Tryz.func22, Tryz.ntmps22
    go_wp2_with (first | ((with_reducible refine gate_callee (f := 87) rfl ?_); refine goesL_ (some 8) rfl rfl Tryz.func87 (by kernel_rfl) rfl #[.int .i64 a0, .int .i64 a1, .int .i64 10] rfl (by (try simp only [List.map_toArray, List.map_cons, List.map_nil]); first | done | rfl | (simp only [List.length_drop, List.length_take]; rfl)) ?_; (with_reducible refine (impl_isField.calls a0 a1 10 false _ A3.out (Tabs.below HL.out (by repeat (first | (with_reducible first | exact HB.out | apply below_alloc | apply pw_below_drewN | apply below_drew1) | exact HB.out)))).mono ?_); rintro e w10 ⟨rfl, hb⟩; refine ⟨_, rfl, ?_⟩; have n0_ := Aside0.mk (below_step (by repeat (first | (with_reducible first | exact HB.out | apply below_alloc | apply pw_below_drewN | apply below_drew1) | exact HB.out)) hb); clear HB; have HB := n0_; clear n0_; (try clear hb); (try clear hb2); (try clear hk); (try clear hi)))
    go_ret2
    exact ⟨by first | rfl | (simp [errW_none, errW_some] <;> rfl) | (simp [*, errW_none, errW_some] <;> rfl) | (simp only [decide_eq_true_eq] at *; simp [*, bt]; done), by repeat (first | (with_reducible first | exact HB.out | apply below_alloc | apply pw_below_drewN | apply below_drew1) | exact HB.out)⟩

end Go.Proofs.YtdjepilhenijeaaGreatDoor.PFnReads
