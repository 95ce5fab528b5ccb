-- PRINTED for this claim by a program of this session's repo over the kit's printer, with contracts of our own among the functions.
import Derived.Test.YtdjepilhenijeaaDoorPFnGlobx0
import Derived.Test.YtdjepilhenijeaaDoorPFnGlobx1
import Derived.Test.YtdjepilhenijeaaDoorPFnGlobx2
import Derived.Test.YtdjepilhenijeaaDoorPFnGlobx4
import Derived.Test.YtdjepilhenijeaaDoorPFnGlobx5
import Derived.Test.YtdjepilhenijeaaDoorPFnGlobx6
import Derived.Test.YtdjepilhenijeaaDoorPFnGlobx7
import Derived.Test.YtdjepilhenijeaaDoorPFnGlobx9
namespace Go.Proofs.YtdjepilhenijeaaDoor.PFnGlob
open Go.RowKit Go.Proofs.YtdjepilhenijeaaDoorW.PrintWords Go.Proofs.YtdjepilhenijeaaDoorW.PrintLast Go.Proofs.YtdjepilhenijeaaDoorW.PrintMore
attribute [local go_sem] max2_int min2_int max_two min_two max_three min_three max_four min_four   -- for this text's walks alone
set_option linter.unusedVariables false
set_option linter.unusedSimpArgs false

/-! ### laws_FnGlob: function 5 -/
mutual
def laws_FnGlob.j0 : Nat → ByteArray → ByteArray → Int → ByteArray → ByteArray → ByteArray → Bool → Option (Bool)
  | 0, _, _, _, _, _, _, _ => none
  | k + 1, x4, x5, x6, x7, x10, x11, x65 => if x65 = true then (some false) else (laws_FnGlob.l0 k x4 x5 x6 x7 x10 x11 true 0)
def laws_FnGlob.l0 : Nat → ByteArray → ByteArray → Int → ByteArray → ByteArray → ByteArray → Bool → Int → Option (Bool)
  | 0, _, _, _, _, _, _, _, _ => none
  | k + 1, x4, x5, x6, x7, x10, x11, x12, x13 => if x13 < (x4.size : Int) then (if x12 = true then (if 0 ≤ x13 then (if (bt x4 x13) = 42 then (laws_FnGlob.l0 k x4 x5 x6 x7 x10 x11 false (wrap64 (x13 + 1))) else (laws_FnGlob.l0 k x4 x5 x6 x7 x10 x11 ((bt x4 x13) != 63) (wrap64 (x13 + 1)))) else (none)) else (laws_FnGlob.l0 k x4 x5 x6 x7 x10 x11 false (wrap64 (x13 + 1)))) else (if x12 = true then (if (x4.size : Int) ≤ 50 then ((impl_Glob.f k x4 x4).bind fun t439 => (if t439 = true then ((impl_Glob.f k (⟨#[42]⟩ : ByteArray) x4).bind fun t440 => (if t440 = true then ((impl_Base.f k x4).bind fun t441 => (laws_FnGlob.j2 k x5 x6 x7 x10 x11 (t441.toList != x4.toList))) else (laws_FnGlob.j2 k x5 x6 x7 x10 x11 false))) else (laws_FnGlob.j2 k x5 x6 x7 x10 x11 true))) else ((impl_Glob.f k (⟨#[42]⟩ : ByteArray) x4).bind fun t442 => (if t442 = true then ((impl_Base.f k x4).bind fun t443 => (laws_FnGlob.j2 k x5 x6 x7 x10 x11 (t443.toList != x4.toList))) else (laws_FnGlob.j2 k x5 x6 x7 x10 x11 false)))) else ((impl_Glob.f k (⟨#[42]⟩ : ByteArray) x4).bind fun t444 => (if t444 = true then ((impl_Base.f k x4).bind fun t445 => (laws_FnGlob.j2 k x5 x6 x7 x10 x11 (t445.toList != x4.toList))) else (laws_FnGlob.j2 k x5 x6 x7 x10 x11 false))))
def laws_FnGlob.j2 : Nat → ByteArray → Int → ByteArray → ByteArray → ByteArray → Bool → Option (Bool)
  | 0, _, _, _, _, _, _ => none
  | k + 1, x5, x6, x7, x10, x11, x106 => if x106 = true then (some false) else (if x10.toList = ([] : List UInt8) then (if x11.toList = x7.toList then (some true) else ((impl_PathOk.f k x11).bind fun t446 => (some t446))) else ((impl_PathOk.f k x10).bind fun t447 => (if t447 = true then ((impl_Depth.f k x10).bind fun t448 => ((impl_Depth.f k x5).bind fun t449 => (if t448 = (wrap64 (t449 - x6)) then (if x11.toList = x7.toList then (some true) else ((impl_PathOk.f k x11).bind fun t450 => (some t450))) else (some false)))) else (some false))))
end
def laws_FnGlob.f (k : Nat) (l0 : List Int) : Option (Bool) := (laws_big.f l0).bind fun t424 => (if t424 = true then (some true) else ((spec_DrawGlob.f k l0).bind fun bt425 => ((spec_DrawStrip.f k l0).bind fun bt427 => ((spec_DrawSwap.f k l0).bind fun bt429 => ((impl_Strip.f k bt427.1 bt427.2).bind fun t432 => ((impl_Swap.f k bt429.1 bt429.2.1 bt429.2.2).bind fun t433 => ((impl_Glob.f k bt425.1 bt425.2).bind fun t434 => ((spec_Glob.f k bt425.1 bt425.2).bind fun t435 => (if (t434 != t435) = true then (laws_FnGlob.j0 k bt425.2 bt427.1 bt427.2 bt429.1 t432 t433 true) else ((spec_Strip.f k bt427.1 bt427.2).bind fun t436 => (if t432.toList = t436.toList then ((spec_Swap.f k bt429.1 bt429.2.1 bt429.2.2).bind fun t437 => (if t433.toList = t437.toList then ((impl_Glob.f k (⟨#[42, 42]⟩ : ByteArray) bt425.2).bind fun t438 => (laws_FnGlob.j0 k bt425.2 bt427.1 bt427.2 bt429.1 t432 t433 (!t438))) else (laws_FnGlob.j0 k bt425.2 bt427.1 bt427.2 bt429.1 t432 t433 true))) else (laws_FnGlob.j0 k bt425.2 bt427.1 bt427.2 bt429.1 t432 t433 true))))))))))))
theorem laws_FnGlob.mono_l : ∀ k, (∀ y0 y1 y2 y3 y4 y5 y6, LeO (laws_FnGlob.j0 k y0 y1 y2 y3 y4 y5 y6) (laws_FnGlob.j0 (k + 1) y0 y1 y2 y3 y4 y5 y6)) ∧ (∀ y0 y1 y2 y3 y4 y5 y6 y7, LeO (laws_FnGlob.l0 k y0 y1 y2 y3 y4 y5 y6 y7) (laws_FnGlob.l0 (k + 1) y0 y1 y2 y3 y4 y5 y6 y7)) ∧ (∀ y0 y1 y2 y3 y4 y5, LeO (laws_FnGlob.j2 k y0 y1 y2 y3 y4 y5) (laws_FnGlob.j2 (k + 1) y0 y1 y2 y3 y4 y5))
  | 0 => ⟨fun _ _ _ _ _ _ _ r h => by simp [laws_FnGlob.j0] at h, fun _ _ _ _ _ _ _ _ r h => by simp [laws_FnGlob.l0] at h, fun _ _ _ _ _ _ r h => by simp [laws_FnGlob.j2] at h⟩
  | k + 1 => by
    obtain ⟨ih0, ih1, ih2⟩ := laws_FnGlob.mono_l k
    refine ⟨?_, ?_, ?_⟩
    · intro y0 y1 y2 y3 y4 y5 y6
      unfold laws_FnGlob.j0
      repeat' first
      | (with_reducible exact ih0 _ _ _ _ _ _ _)
      | (with_reducible exact ih1 _ _ _ _ _ _ _ _)
      | (with_reducible exact ih2 _ _ _ _ _ _)
      | (with_reducible exact impl_Base.mono _ _)
      | (with_reducible exact impl_Depth.mono _ _)
      | (with_reducible exact impl_Glob.mono _ _ _)
      | (with_reducible exact impl_PathOk.mono _ _)
      | (with_reducible exact impl_Strip.mono _ _ _)
      | (with_reducible exact impl_Swap.mono _ _ _ _)
      | (with_reducible exact spec_DrawGlob.mono _ _)
      | (with_reducible exact spec_DrawStrip.mono _ _)
      | (with_reducible exact spec_DrawSwap.mono _ _)
      | (with_reducible exact spec_Glob.mono _ _ _)
      | (with_reducible exact spec_Strip.mono _ _ _)
      | (with_reducible exact spec_Swap.mono _ _ _ _)
      | (with_reducible exact LeO.refl _)
      | (with_reducible exact LeO.none _)
      | (with_reducible refine LeO.ite ?_ ?_)
      | (with_reducible refine LeO.bind ?_ (fun _ => ?_))
      | exact ih0 _ _ _ _ _ _ _
      | exact ih1 _ _ _ _ _ _ _ _
      | exact ih2 _ _ _ _ _ _
      | exact impl_Base.mono _ _
      | exact impl_Depth.mono _ _
      | exact impl_Glob.mono _ _ _
      | exact impl_PathOk.mono _ _
      | exact impl_Strip.mono _ _ _
      | exact impl_Swap.mono _ _ _ _
      | exact spec_DrawGlob.mono _ _
      | exact spec_DrawStrip.mono _ _
      | exact spec_DrawSwap.mono _ _
      | exact spec_Glob.mono _ _ _
      | exact spec_Strip.mono _ _ _
      | exact spec_Swap.mono _ _ _ _
      | exact LeO.none _
      | refine LeO.ite ?_ ?_
      | refine LeO.bind ?_ (fun _ => ?_)
    · intro y0 y1 y2 y3 y4 y5 y6 y7
      unfold laws_FnGlob.l0
      repeat' first
      | (with_reducible exact ih0 _ _ _ _ _ _ _)
      | (with_reducible exact ih1 _ _ _ _ _ _ _ _)
      | (with_reducible exact ih2 _ _ _ _ _ _)
      | (with_reducible exact impl_Base.mono _ _)
      | (with_reducible exact impl_Depth.mono _ _)
      | (with_reducible exact impl_Glob.mono _ _ _)
      | (with_reducible exact impl_PathOk.mono _ _)
      | (with_reducible exact impl_Strip.mono _ _ _)
      | (with_reducible exact impl_Swap.mono _ _ _ _)
      | (with_reducible exact spec_DrawGlob.mono _ _)
      | (with_reducible exact spec_DrawStrip.mono _ _)
      | (with_reducible exact spec_DrawSwap.mono _ _)
      | (with_reducible exact spec_Glob.mono _ _ _)
      | (with_reducible exact spec_Strip.mono _ _ _)
      | (with_reducible exact spec_Swap.mono _ _ _ _)
      | (with_reducible exact LeO.refl _)
      | (with_reducible exact LeO.none _)
      | (with_reducible refine LeO.ite ?_ ?_)
      | (with_reducible refine LeO.bind ?_ (fun _ => ?_))
      | exact ih0 _ _ _ _ _ _ _
      | exact ih1 _ _ _ _ _ _ _ _
      | exact ih2 _ _ _ _ _ _
      | exact impl_Base.mono _ _
      | exact impl_Depth.mono _ _
      | exact impl_Glob.mono _ _ _
      | exact impl_PathOk.mono _ _
      | exact impl_Strip.mono _ _ _
      | exact impl_Swap.mono _ _ _ _
      | exact spec_DrawGlob.mono _ _
      | exact spec_DrawStrip.mono _ _
      | exact spec_DrawSwap.mono _ _
      | exact spec_Glob.mono _ _ _
      | exact spec_Strip.mono _ _ _
      | exact spec_Swap.mono _ _ _ _
      | exact LeO.none _
      | refine LeO.ite ?_ ?_
      | refine LeO.bind ?_ (fun _ => ?_)
    · intro y0 y1 y2 y3 y4 y5
      unfold laws_FnGlob.j2
      repeat' first
      | (with_reducible exact ih0 _ _ _ _ _ _ _)
      | (with_reducible exact ih1 _ _ _ _ _ _ _ _)
      | (with_reducible exact ih2 _ _ _ _ _ _)
      | (with_reducible exact impl_Base.mono _ _)
      | (with_reducible exact impl_Depth.mono _ _)
      | (with_reducible exact impl_Glob.mono _ _ _)
      | (with_reducible exact impl_PathOk.mono _ _)
      | (with_reducible exact impl_Strip.mono _ _ _)
      | (with_reducible exact impl_Swap.mono _ _ _ _)
      | (with_reducible exact spec_DrawGlob.mono _ _)
      | (with_reducible exact spec_DrawStrip.mono _ _)
      | (with_reducible exact spec_DrawSwap.mono _ _)
      | (with_reducible exact spec_Glob.mono _ _ _)
      | (with_reducible exact spec_Strip.mono _ _ _)
      | (with_reducible exact spec_Swap.mono _ _ _ _)
      | (with_reducible exact LeO.refl _)
      | (with_reducible exact LeO.none _)
      | (with_reducible refine LeO.ite ?_ ?_)
      | (with_reducible refine LeO.bind ?_ (fun _ => ?_))
      | exact ih0 _ _ _ _ _ _ _
      | exact ih1 _ _ _ _ _ _ _ _
      | exact ih2 _ _ _ _ _ _
      | exact impl_Base.mono _ _
      | exact impl_Depth.mono _ _
      | exact impl_Glob.mono _ _ _
      | exact impl_PathOk.mono _ _
      | exact impl_Strip.mono _ _ _
      | exact impl_Swap.mono _ _ _ _
      | exact spec_DrawGlob.mono _ _
      | exact spec_DrawStrip.mono _ _
      | exact spec_DrawSwap.mono _ _
      | exact spec_Glob.mono _ _ _
      | exact spec_Strip.mono _ _ _
      | exact spec_Swap.mono _ _ _ _
      | exact LeO.none _
      | refine LeO.ite ?_ ?_
      | refine LeO.bind ?_ (fun _ => ?_)
theorem laws_FnGlob.mono : ∀ a0 k, LeO (laws_FnGlob.f k a0) (laws_FnGlob.f (k + 1) a0) := by
  intro a0 k
  obtain ⟨ih0, ih1, ih2⟩ := laws_FnGlob.mono_l k
  unfold laws_FnGlob.f
  repeat' first
      | (with_reducible exact ih0 _ _ _ _ _ _ _)
      | (with_reducible exact ih1 _ _ _ _ _ _ _ _)
      | (with_reducible exact ih2 _ _ _ _ _ _)
      | (with_reducible exact impl_Base.mono _ _)
      | (with_reducible exact impl_Depth.mono _ _)
      | (with_reducible exact impl_Glob.mono _ _ _)
      | (with_reducible exact impl_PathOk.mono _ _)
      | (with_reducible exact impl_Strip.mono _ _ _)
      | (with_reducible exact impl_Swap.mono _ _ _ _)
      | (with_reducible exact spec_DrawGlob.mono _ _)
      | (with_reducible exact spec_DrawStrip.mono _ _)
      | (with_reducible exact spec_DrawSwap.mono _ _)
      | (with_reducible exact spec_Glob.mono _ _ _)
      | (with_reducible exact spec_Strip.mono _ _ _)
      | (with_reducible exact spec_Swap.mono _ _ _ _)
      | (with_reducible exact LeO.refl _)
      | (with_reducible exact LeO.none _)
      | (with_reducible refine LeO.ite ?_ ?_)
      | (with_reducible refine LeO.bind ?_ (fun _ => ?_))
      | exact ih0 _ _ _ _ _ _ _
      | exact ih1 _ _ _ _ _ _ _ _
      | exact ih2 _ _ _ _ _ _
      | exact impl_Base.mono _ _
      | exact impl_Depth.mono _ _
      | exact impl_Glob.mono _ _ _
      | exact impl_PathOk.mono _ _
      | exact impl_Strip.mono _ _ _
      | exact impl_Swap.mono _ _ _ _
      | exact spec_DrawGlob.mono _ _
      | exact spec_DrawStrip.mono _ _
      | exact spec_DrawSwap.mono _ _
      | exact spec_Glob.mono _ _ _
      | exact spec_Strip.mono _ _ _
      | exact spec_Swap.mono _ _ _ _
      | exact LeO.none _
      | refine LeO.ite ?_ ?_
      | refine LeO.bind ?_ (fun _ => ?_)
set_option maxHeartbeats 8000000 in
set_option maxRecDepth 100000 in
theorem laws_FnGlob.calls (k : Nat) (A0 : Option Addr) (c0 : Nat) (l0 : List Int) (r : Bool) (w : World) (hr0 : Kd.C (Kd.int .u8) w A0 l0.length l0) (hc0 : l0.length ≤ c0) (h : laws_FnGlob.f k l0 = some r) :
    Calls Tryd.prog 5 #[.slice A0 l0.length c0] w fun e w' => e = .returned (.bool r) ∧ Below w.heap.size w w' := by
  have HR0 := Aside0.mk hr0
  have HC0 := Aside0.mk hc0
  clear hr0 hc0
  have HB := Aside0.mk (Below.refl w.heap.size w)
  have H : ((laws_big.f l0).bind fun t424 => (if t424 = true then (some true) else ((spec_DrawGlob.f k l0).bind fun bt425 => ((spec_DrawStrip.f k l0).bind fun bt427 => ((spec_DrawSwap.f k l0).bind fun bt429 => ((impl_Strip.f k bt427.1 bt427.2).bind fun t432 => ((impl_Swap.f k bt429.1 bt429.2.1 bt429.2.2).bind fun t433 => ((impl_Glob.f k bt425.1 bt425.2).bind fun t434 => ((spec_Glob.f k bt425.1 bt425.2).bind fun t435 => (if (t434 != t435) = true then (laws_FnGlob.j0 k bt425.2 bt427.1 bt427.2 bt429.1 t432 t433 true) else ((spec_Strip.f k bt427.1 bt427.2).bind fun t436 => (if t432.toList = t436.toList then ((spec_Swap.f k bt429.1 bt429.2.1 bt429.2.2).bind fun t437 => (if t433.toList = t437.toList then ((impl_Glob.f k (⟨#[42, 42]⟩ : ByteArray) bt425.2).bind fun t438 => (laws_FnGlob.j0 k bt425.2 bt427.1 bt427.2 bt429.1 t432 t433 (!t438))) else (laws_FnGlob.j0 k bt425.2 bt427.1 bt427.2 bt429.1 t432 t433 true))) else (laws_FnGlob.j0 k bt425.2 bt427.1 bt427.2 bt429.1 t432 t433 true))))))))))))) = some r := h
  clear h
  replace H := Option.bind_eq_some_iff.mp H
  obtain ⟨t424, A20, H⟩ := H
  replace H : (if t424 = true then (some true) else ((spec_DrawGlob.f k l0).bind fun bt425 => ((spec_DrawStrip.f k l0).bind fun bt427 => ((spec_DrawSwap.f k l0).bind fun bt429 => ((impl_Strip.f k bt427.1 bt427.2).bind fun t432 => ((impl_Swap.f k bt429.1 bt429.2.1 bt429.2.2).bind fun t433 => ((impl_Glob.f k bt425.1 bt425.2).bind fun t434 => ((spec_Glob.f k bt425.1 bt425.2).bind fun t435 => (if (t434 != t435) = true then (laws_FnGlob.j0 k bt425.2 bt427.1 bt427.2 bt429.1 t432 t433 true) else ((spec_Strip.f k bt427.1 bt427.2).bind fun t436 => (if t432.toList = t436.toList then ((spec_Swap.f k bt429.1 bt429.2.1 bt429.2.2).bind fun t437 => (if t433.toList = t437.toList then ((impl_Glob.f k (⟨#[42, 42]⟩ : ByteArray) bt425.2).bind fun t438 => (laws_FnGlob.j0 k bt425.2 bt427.1 bt427.2 bt429.1 t432 t433 (!t438))) else (laws_FnGlob.j0 k bt425.2 bt427.1 bt427.2 bt429.1 t432 t433 true))) else (laws_FnGlob.j0 k bt425.2 bt427.1 bt427.2 bt429.1 t432 t433 true)))))))))))) = some r := H
  have A2 := Aside0.mk A20
  clear A20
  by_cases c3 : t424 = true
  · subst c3
    have H1 : (some true) = some r := by rw [if_pos rfl] at H; exact H
    clear H
    have H := H1
    clear H1
    obtain rfl := Option.some.inj H
    go_enter Tryd.func5, Tryd.ntmps5
    go_wp2_with (first | ((with_reducible refine gate_callee (f := 7) rfl ?_); refine goesL_ (some 15) rfl rfl Tryd.func7 (by kernel_rfl) rfl #[.slice A0 l0.length c0] rfl (by (try simp only [List.map_toArray, List.map_cons, List.map_nil]); first | done | rfl | (simp only [List.length_drop, List.length_take]; rfl)) ?_; (with_reducible refine (laws_big.calls _ _ l0 true _ ?side1 ?side2 A2.out).mono ?_); (case side1 => repeat (first | exact HR0.out | (with_reducible refine Kd.C_alloc ?_ _) | (with_reducible refine Kd.C_drewN ?_ _) | (with_reducible refine Kd.C_drew ?_))); (case side2 => exact HC0.out); rintro e w' ⟨rfl, ⟨nd, rfl⟩⟩; refine ⟨_, rfl, ?_⟩))
    go_ret
    exact ⟨by first | rfl | (simp [errW_none, errW_some] <;> rfl) | (simp [*, errW_none, errW_some] <;> rfl) | (simp only [decide_eq_true_eq] at *; simp [*, bt]; done), by repeat (first | (with_reducible first | exact HB.out | apply below_alloc | apply pw_below_drewN | apply below_drew1) | exact HB.out)⟩
  · replace c3 := Bool.eq_false_iff.mpr c3
    subst c3
    have H1 : ((spec_DrawGlob.f k l0).bind fun bt425 => ((spec_DrawStrip.f k l0).bind fun bt427 => ((spec_DrawSwap.f k l0).bind fun bt429 => ((impl_Strip.f k bt427.1 bt427.2).bind fun t432 => ((impl_Swap.f k bt429.1 bt429.2.1 bt429.2.2).bind fun t433 => ((impl_Glob.f k bt425.1 bt425.2).bind fun t434 => ((spec_Glob.f k bt425.1 bt425.2).bind fun t435 => (if (t434 != t435) = true then (laws_FnGlob.j0 k bt425.2 bt427.1 bt427.2 bt429.1 t432 t433 true) else ((spec_Strip.f k bt427.1 bt427.2).bind fun t436 => (if t432.toList = t436.toList then ((spec_Swap.f k bt429.1 bt429.2.1 bt429.2.2).bind fun t437 => (if t433.toList = t437.toList then ((impl_Glob.f k (⟨#[42, 42]⟩ : ByteArray) bt425.2).bind fun t438 => (laws_FnGlob.j0 k bt425.2 bt427.1 bt427.2 bt429.1 t432 t433 (!t438))) else (laws_FnGlob.j0 k bt425.2 bt427.1 bt427.2 bt429.1 t432 t433 true))) else (laws_FnGlob.j0 k bt425.2 bt427.1 bt427.2 bt429.1 t432 t433 true))))))))))) = some r := by rw [if_neg (show ¬ (false = true) by decide)] at H; exact H
    clear H
    have H := H1
    clear H1
    replace H := Option.bind_eq_some_iff.mp H
    obtain ⟨⟨t425, t426⟩, A40, H⟩ := H
    replace H : ((spec_DrawStrip.f k l0).bind fun bt427 => ((spec_DrawSwap.f k l0).bind fun bt429 => ((impl_Strip.f k bt427.1 bt427.2).bind fun t432 => ((impl_Swap.f k bt429.1 bt429.2.1 bt429.2.2).bind fun t433 => ((impl_Glob.f k t425 t426).bind fun t434 => ((spec_Glob.f k t425 t426).bind fun t435 => (if (t434 != t435) = true then (laws_FnGlob.j0 k t426 bt427.1 bt427.2 bt429.1 t432 t433 true) else ((spec_Strip.f k bt427.1 bt427.2).bind fun t436 => (if t432.toList = t436.toList then ((spec_Swap.f k bt429.1 bt429.2.1 bt429.2.2).bind fun t437 => (if t433.toList = t437.toList then ((impl_Glob.f k (⟨#[42, 42]⟩ : ByteArray) t426).bind fun t438 => (laws_FnGlob.j0 k t426 bt427.1 bt427.2 bt429.1 t432 t433 (!t438))) else (laws_FnGlob.j0 k t426 bt427.1 bt427.2 bt429.1 t432 t433 true))) else (laws_FnGlob.j0 k t426 bt427.1 bt427.2 bt429.1 t432 t433 true)))))))))) = some r := H
    have A4 := Aside0.mk A40
    clear A40
    replace H := Option.bind_eq_some_iff.mp H
    obtain ⟨⟨t427, t428⟩, A50, H⟩ := H
    replace H : ((spec_DrawSwap.f k l0).bind fun bt429 => ((impl_Strip.f k t427 t428).bind fun t432 => ((impl_Swap.f k bt429.1 bt429.2.1 bt429.2.2).bind fun t433 => ((impl_Glob.f k t425 t426).bind fun t434 => ((spec_Glob.f k t425 t426).bind fun t435 => (if (t434 != t435) = true then (laws_FnGlob.j0 k t426 t427 t428 bt429.1 t432 t433 true) else ((spec_Strip.f k t427 t428).bind fun t436 => (if t432.toList = t436.toList then ((spec_Swap.f k bt429.1 bt429.2.1 bt429.2.2).bind fun t437 => (if t433.toList = t437.toList then ((impl_Glob.f k (⟨#[42, 42]⟩ : ByteArray) t426).bind fun t438 => (laws_FnGlob.j0 k t426 t427 t428 bt429.1 t432 t433 (!t438))) else (laws_FnGlob.j0 k t426 t427 t428 bt429.1 t432 t433 true))) else (laws_FnGlob.j0 k t426 t427 t428 bt429.1 t432 t433 true))))))))) = some r := H
    have A5 := Aside0.mk A50
    clear A50
    replace H := Option.bind_eq_some_iff.mp H
    obtain ⟨⟨t429, t430, t431⟩, A60, H⟩ := H
    replace H : ((impl_Strip.f k t427 t428).bind fun t432 => ((impl_Swap.f k t429 t430 t431).bind fun t433 => ((impl_Glob.f k t425 t426).bind fun t434 => ((spec_Glob.f k t425 t426).bind fun t435 => (if (t434 != t435) = true then (laws_FnGlob.j0 k t426 t427 t428 t429 t432 t433 true) else ((spec_Strip.f k t427 t428).bind fun t436 => (if t432.toList = t436.toList then ((spec_Swap.f k t429 t430 t431).bind fun t437 => (if t433.toList = t437.toList then ((impl_Glob.f k (⟨#[42, 42]⟩ : ByteArray) t426).bind fun t438 => (laws_FnGlob.j0 k t426 t427 t428 t429 t432 t433 (!t438))) else (laws_FnGlob.j0 k t426 t427 t428 t429 t432 t433 true))) else (laws_FnGlob.j0 k t426 t427 t428 t429 t432 t433 true)))))))) = some r := H
    have A6 := Aside0.mk A60
    clear A60
    replace H := Option.bind_eq_some_iff.mp H
    obtain ⟨t432, A70, H⟩ := H
    replace H : ((impl_Swap.f k t429 t430 t431).bind fun t433 => ((impl_Glob.f k t425 t426).bind fun t434 => ((spec_Glob.f k t425 t426).bind fun t435 => (if (t434 != t435) = true then (laws_FnGlob.j0 k t426 t427 t428 t429 t432 t433 true) else ((spec_Strip.f k t427 t428).bind fun t436 => (if t432.toList = t436.toList then ((spec_Swap.f k t429 t430 t431).bind fun t437 => (if t433.toList = t437.toList then ((impl_Glob.f k (⟨#[42, 42]⟩ : ByteArray) t426).bind fun t438 => (laws_FnGlob.j0 k t426 t427 t428 t429 t432 t433 (!t438))) else (laws_FnGlob.j0 k t426 t427 t428 t429 t432 t433 true))) else (laws_FnGlob.j0 k t426 t427 t428 t429 t432 t433 true))))))) = some r := H
    have A7 := Aside0.mk A70
    clear A70
    replace H := Option.bind_eq_some_iff.mp H
    obtain ⟨t433, A80, H⟩ := H
    replace H : ((impl_Glob.f k t425 t426).bind fun t434 => ((spec_Glob.f k t425 t426).bind fun t435 => (if (t434 != t435) = true then (laws_FnGlob.j0 k t426 t427 t428 t429 t432 t433 true) else ((spec_Strip.f k t427 t428).bind fun t436 => (if t432.toList = t436.toList then ((spec_Swap.f k t429 t430 t431).bind fun t437 => (if t433.toList = t437.toList then ((impl_Glob.f k (⟨#[42, 42]⟩ : ByteArray) t426).bind fun t438 => (laws_FnGlob.j0 k t426 t427 t428 t429 t432 t433 (!t438))) else (laws_FnGlob.j0 k t426 t427 t428 t429 t432 t433 true))) else (laws_FnGlob.j0 k t426 t427 t428 t429 t432 t433 true)))))) = some r := H
    have A8 := Aside0.mk A80
    clear A80
    have HC9 := Aside0.mk H
    clear H
    go_enter Tryd.func5, Tryd.ntmps5
    go_upto_region 7 with (first | ((with_reducible refine gate_callee (f := 7) rfl ?_); refine goesL_ (some 15) rfl rfl Tryd.func7 (by kernel_rfl) rfl #[.slice A0 l0.length c0] rfl (by (try simp only [List.map_toArray, List.map_cons, List.map_nil]); first | done | rfl | (simp only [List.length_drop, List.length_take]; rfl)) ?_; (with_reducible refine (laws_big.calls _ _ l0 false _ ?side1 ?side2 A2.out).mono ?_); (case side1 => repeat (first | exact HR0.out | (with_reducible refine Kd.C_alloc ?_ _) | (with_reducible refine Kd.C_drewN ?_ _) | (with_reducible refine Kd.C_drew ?_))); (case side2 => exact HC0.out); rintro e w' ⟨rfl, ⟨nd, rfl⟩⟩; refine ⟨_, rfl, ?_⟩) | ((with_reducible refine gate_callee (f := 42) rfl ?_); refine goesL_ (some 18) rfl rfl Tryd.func42 (by kernel_rfl) rfl #[.slice A0 l0.length c0] rfl (by (try simp only [List.map_toArray, List.map_cons, List.map_nil]); first | done | rfl | (simp only [List.length_drop, List.length_take]; rfl)) ?_; (with_reducible refine (spec_DrawGlob.calls k _ _ l0 t425 t426 _ ?side1 ?side2 A4.out).mono ?_); (case side1 => repeat (first | exact HR0.out | (with_reducible refine Kd.C_alloc ?_ _) | (with_reducible refine Kd.C_drewN ?_ _) | (with_reducible refine Kd.C_drew ?_))); (case side2 => exact HC0.out); rintro e w10 ⟨rfl, hb⟩; refine ⟨_, rfl, ?_⟩; have n0_ := Aside0.mk (below_step (by repeat (first | (with_reducible first | exact HB.out | apply below_alloc | apply pw_below_drewN | apply below_drew1) | exact HB.out)) hb); clear HB; have HB := n0_; clear n0_; (try clear hb); (try clear hb2); (try clear hk); (try clear hi)) | ((with_reducible refine gate_callee (f := 43) rfl ?_); refine goesL_ (some 23) rfl rfl Tryd.func43 (by kernel_rfl) rfl #[.slice A0 l0.length c0] rfl (by (try simp only [List.map_toArray, List.map_cons, List.map_nil]); first | done | rfl | (simp only [List.length_drop, List.length_take]; rfl)) ?_; (with_reducible refine (spec_DrawStrip.calls k _ _ l0 t427 t428 _ ?side1 ?side2 A5.out).mono ?_); (case side1 => repeat (first | exact (Kd.C_below HR0.out HB.out) | (with_reducible refine Kd.C_alloc ?_ _) | (with_reducible refine Kd.C_drewN ?_ _) | (with_reducible refine Kd.C_drew ?_))); (case side2 => exact HC0.out); rintro e w11 ⟨rfl, hb⟩; refine ⟨_, rfl, ?_⟩; have n0_ := Aside0.mk (below_step (by repeat (first | (with_reducible first | exact HB.out | apply below_alloc | apply pw_below_drewN | apply below_drew1) | exact HB.out)) hb); clear HB; have HB := n0_; clear n0_; (try clear hb); (try clear hb2); (try clear hk); (try clear hi)) | ((with_reducible refine gate_callee (f := 44) rfl ?_); refine goesL_ (some 28) rfl rfl Tryd.func44 (by kernel_rfl) rfl #[.slice A0 l0.length c0] rfl (by (try simp only [List.map_toArray, List.map_cons, List.map_nil]); first | done | rfl | (simp only [List.length_drop, List.length_take]; rfl)) ?_; (with_reducible refine (spec_DrawSwap.calls k _ _ l0 t429 t430 t431 _ ?side1 ?side2 A6.out).mono ?_); (case side1 => repeat (first | exact (Kd.C_below HR0.out HB.out) | (with_reducible refine Kd.C_alloc ?_ _) | (with_reducible refine Kd.C_drewN ?_ _) | (with_reducible refine Kd.C_drew ?_))); (case side2 => exact HC0.out); rintro e w12 ⟨rfl, hb⟩; refine ⟨_, rfl, ?_⟩; have n0_ := Aside0.mk (below_step (by repeat (first | (with_reducible first | exact HB.out | apply below_alloc | apply pw_below_drewN | apply below_drew1) | exact HB.out)) hb); clear HB; have HB := n0_; clear n0_; (try clear hb); (try clear hb2); (try clear hk); (try clear hi)) | ((with_reducible refine gate_callee (f := 45) rfl ?_); refine goesL_ (some 34) rfl rfl Tryd.func45 (by kernel_rfl) rfl #[.string t427, .int .i64 t428] rfl (by (try simp only [List.map_toArray, List.map_cons, List.map_nil]); first | done | rfl | (simp only [List.length_drop, List.length_take]; rfl)) ?_; (with_reducible refine (impl_Strip.calls k t427 t428 t432 _ A7.out).mono ?_); rintro e w13 ⟨rfl, hb⟩; refine ⟨_, rfl, ?_⟩; have n0_ := Aside0.mk (below_step (by repeat (first | (with_reducible first | exact HB.out | apply below_alloc | apply pw_below_drewN | apply below_drew1) | exact HB.out)) hb); clear HB; have HB := n0_; clear n0_; (try clear hb); (try clear hb2); (try clear hk); (try clear hi)) | ((with_reducible refine gate_callee (f := 46) rfl ?_); refine goesL_ (some 38) rfl rfl Tryd.func46 (by kernel_rfl) rfl #[.string t429, .string t430, .string t431] rfl (by (try simp only [List.map_toArray, List.map_cons, List.map_nil]); first | done | rfl | (simp only [List.length_drop, List.length_take]; rfl)) ?_; (with_reducible refine (impl_Swap.calls k t429 t430 t431 t433 _ A8.out).mono ?_); rintro e w14 ⟨rfl, hb⟩; refine ⟨_, rfl, ?_⟩; have n0_ := Aside0.mk (below_step (by repeat (first | (with_reducible first | exact HB.out | apply below_alloc | apply pw_below_drewN | apply below_drew1) | exact HB.out)) hb); clear HB; have HB := n0_; clear n0_; (try clear hb); (try clear hb2); (try clear hk); (try clear hi)))
    (try simp only [Act.put, List.setIfInBounds_toArray, List.set_cons_zero, List.set_cons_succ])
    go_cut [65] (fun v65 wc => ∃ (kq : Nat) (x65_8 : Bool), v65 = .bool x65_8 ∧ Aside0 (laws_FnGlob.j0 kq t426 t427 t428 t429 t432 t433 x65_8 = some r) ∧ Aside0 (kq ≤ k) ∧ Aside0 (Below w.heap.size w wc))
    case first =>
      have H := HC9.out
      clear HC9
      replace H := Option.bind_eq_some_iff.mp H
      obtain ⟨t434, A150, H⟩ := H
      replace H : ((spec_Glob.f k t425 t426).bind fun t435 => (if (t434 != t435) = true then (laws_FnGlob.j0 k t426 t427 t428 t429 t432 t433 true) else ((spec_Strip.f k t427 t428).bind fun t436 => (if t432.toList = t436.toList then ((spec_Swap.f k t429 t430 t431).bind fun t437 => (if t433.toList = t437.toList then ((impl_Glob.f k (⟨#[42, 42]⟩ : ByteArray) t426).bind fun t438 => (laws_FnGlob.j0 k t426 t427 t428 t429 t432 t433 (!t438))) else (laws_FnGlob.j0 k t426 t427 t428 t429 t432 t433 true))) else (laws_FnGlob.j0 k t426 t427 t428 t429 t432 t433 true))))) = some r := H
      have A15 := Aside0.mk A150
      clear A150
      replace H := Option.bind_eq_some_iff.mp H
      obtain ⟨t435, A160, H⟩ := H
      replace H : (if (t434 != t435) = true then (laws_FnGlob.j0 k t426 t427 t428 t429 t432 t433 true) else ((spec_Strip.f k t427 t428).bind fun t436 => (if t432.toList = t436.toList then ((spec_Swap.f k t429 t430 t431).bind fun t437 => (if t433.toList = t437.toList then ((impl_Glob.f k (⟨#[42, 42]⟩ : ByteArray) t426).bind fun t438 => (laws_FnGlob.j0 k t426 t427 t428 t429 t432 t433 (!t438))) else (laws_FnGlob.j0 k t426 t427 t428 t429 t432 t433 true))) else (laws_FnGlob.j0 k t426 t427 t428 t429 t432 t433 true)))) = some r := H
      have A16 := Aside0.mk A160
      clear A160
      by_cases c17 : (t434 != t435) = true
      · rw [if_pos c17] at H
        have c17b0 : (t434 != t435) = true := c17
        (try (have c17b1 : decide (t434 = t435) = false := by simpa using c17))
        (try (have c17b2 : (t434 == t435) = false := by simpa using c17))
        (try (have c17b3 : ¬ (t434 = t435) := by simpa using c17))
        clear c17
        (first | rw [c17b0] | (simp only [i64_w, i32_w]; rw [c17b0]) | skip)
        have H' := Aside0.mk H
        clear H
        go_wp2_with (first | ((with_reducible refine gate_callee (f := 47) rfl ?_); refine goesL_ (some 41) rfl rfl Tryd.func47 (by kernel_rfl) rfl #[.string t425, .string t426] rfl (by (try simp only [List.map_toArray, List.map_cons, List.map_nil]); first | done | rfl | (simp only [List.length_drop, List.length_take]; rfl)) ?_; (with_reducible refine (impl_Glob.calls k t425 t426 t434 _ A15.out).mono ?_); rintro e w18 ⟨rfl, hb⟩; refine ⟨_, rfl, ?_⟩; have n0_ := Aside0.mk (below_step (by repeat (first | (with_reducible first | exact HB.out | apply below_alloc | apply pw_below_drewN | apply below_drew1) | exact HB.out)) hb); clear HB; have HB := n0_; clear n0_; (try clear hb); (try clear hb2); (try clear hk); (try clear hi)) | ((with_reducible refine gate_callee (f := 48) rfl ?_); refine goesL_ (some 44) rfl rfl Tryd.func48 (by kernel_rfl) rfl #[.string t425, .string t426] rfl (by (try simp only [List.map_toArray, List.map_cons, List.map_nil]); first | done | rfl | (simp only [List.length_drop, List.length_take]; rfl)) ?_; (with_reducible refine (spec_Glob.calls k t425 t426 t435 _ A16.out).mono ?_); rintro e w19 ⟨rfl, hb⟩; refine ⟨_, rfl, ?_⟩; have n0_ := Aside0.mk (below_step (by repeat (first | (with_reducible first | exact HB.out | apply below_alloc | apply pw_below_drewN | apply below_drew1) | exact HB.out)) hb); clear HB; have HB := n0_; clear n0_; (try clear hb); (try clear hb2); (try clear hk); (try clear hi)))
        go_meet
        case rel => exact ⟨_, (true), (by first | rfl | (simp; done) | (simp [*]; done)), H', ⟨by first | omega | exact Nat.le_refl _⟩, ⟨by repeat (first | (with_reducible first | exact HB.out | apply below_alloc | apply pw_below_drewN | apply below_drew1) | exact HB.out)⟩⟩
      · rw [if_neg c17] at H
        have c17b0 : (t434 != t435) = false := by simpa using c17
        (try (have c17b1 : decide (t434 = t435) = true := by simpa using c17))
        (try (have c17b2 : (t434 == t435) = true := by simpa using c17))
        clear c17
        (first | rw [c17b0] | (simp only [i64_w, i32_w]; rw [c17b0]) | skip)
        replace H := Option.bind_eq_some_iff.mp H
        obtain ⟨t436, A200, H⟩ := H
        replace H : (if t432.toList = t436.toList then ((spec_Swap.f k t429 t430 t431).bind fun t437 => (if t433.toList = t437.toList then ((impl_Glob.f k (⟨#[42, 42]⟩ : ByteArray) t426).bind fun t438 => (laws_FnGlob.j0 k t426 t427 t428 t429 t432 t433 (!t438))) else (laws_FnGlob.j0 k t426 t427 t428 t429 t432 t433 true))) else (laws_FnGlob.j0 k t426 t427 t428 t429 t432 t433 true)) = some r := H
        have A20 := Aside0.mk A200
        clear A200
        by_cases c21 : t432.toList = t436.toList
        · rw [if_pos c21] at H
          have c21b0 : (t432.toList == t436.toList) = true := beq_iff_eq.mpr c21
          have c21b1 : (t432.toList != t436.toList) = false := bne_eq_false_iff_eq.mpr c21
          clear c21
          replace H := Option.bind_eq_some_iff.mp H
          obtain ⟨t437, A220, H⟩ := H
          replace H : (if t433.toList = t437.toList then ((impl_Glob.f k (⟨#[42, 42]⟩ : ByteArray) t426).bind fun t438 => (laws_FnGlob.j0 k t426 t427 t428 t429 t432 t433 (!t438))) else (laws_FnGlob.j0 k t426 t427 t428 t429 t432 t433 true)) = some r := H
          have A22 := Aside0.mk A220
          clear A220
          by_cases c23 : t433.toList = t437.toList
          · rw [if_pos c23] at H
            have c23b0 : (t433.toList == t437.toList) = true := beq_iff_eq.mpr c23
            have c23b1 : (t433.toList != t437.toList) = false := bne_eq_false_iff_eq.mpr c23
            clear c23
            replace H := Option.bind_eq_some_iff.mp H
            obtain ⟨t438, A240, H⟩ := H
            replace H : (laws_FnGlob.j0 k t426 t427 t428 t429 t432 t433 (!t438)) = some r := H
            have A24 := Aside0.mk A240
            clear A240
            have H' := Aside0.mk H
            clear H
            go_wp2_with (first | ((with_reducible refine gate_callee (f := 47) rfl ?_); refine goesL_ (some 41) rfl rfl Tryd.func47 (by kernel_rfl) rfl #[.string t425, .string t426] rfl (by (try simp only [List.map_toArray, List.map_cons, List.map_nil]); first | done | rfl | (simp only [List.length_drop, List.length_take]; rfl)) ?_; (with_reducible refine (impl_Glob.calls k t425 t426 t434 _ A15.out).mono ?_); rintro e w25 ⟨rfl, hb⟩; refine ⟨_, rfl, ?_⟩; have n0_ := Aside0.mk (below_step (by repeat (first | (with_reducible first | exact HB.out | apply below_alloc | apply pw_below_drewN | apply below_drew1) | exact HB.out)) hb); clear HB; have HB := n0_; clear n0_; (try clear hb); (try clear hb2); (try clear hk); (try clear hi)) | ((with_reducible refine gate_callee (f := 48) rfl ?_); refine goesL_ (some 44) rfl rfl Tryd.func48 (by kernel_rfl) rfl #[.string t425, .string t426] rfl (by (try simp only [List.map_toArray, List.map_cons, List.map_nil]); first | done | rfl | (simp only [List.length_drop, List.length_take]; rfl)) ?_; (with_reducible refine (spec_Glob.calls k t425 t426 t435 _ A16.out).mono ?_); rintro e w26 ⟨rfl, hb⟩; refine ⟨_, rfl, ?_⟩; have n0_ := Aside0.mk (below_step (by repeat (first | (with_reducible first | exact HB.out | apply below_alloc | apply pw_below_drewN | apply below_drew1) | exact HB.out)) hb); clear HB; have HB := n0_; clear n0_; (try clear hb); (try clear hb2); (try clear hk); (try clear hi)) | (go_at_call 49; (with_reducible refine (spec_Strip.calls k t427 t428 t436 _ A20.out).mono ?_); rintro e w27 ⟨rfl, hb⟩; have n0_ := Aside0.mk (below_step (by repeat (first | (with_reducible first | exact HB.out | apply below_alloc | apply pw_below_drewN | apply below_drew1) | exact HB.out)) hb); clear HB; have HB := n0_; clear n0_; (try clear hb); (try clear hb2); (try clear hk); (try clear hi)) | (go_at_call 50; (with_reducible refine (spec_Swap.calls k t429 t430 t431 t437 _ A22.out).mono ?_); rintro e w28 ⟨rfl, hb⟩; have n0_ := Aside0.mk (below_step (by repeat (first | (with_reducible first | exact HB.out | apply below_alloc | apply pw_below_drewN | apply below_drew1) | exact HB.out)) hb); clear HB; have HB := n0_; clear n0_; (try clear hb); (try clear hb2); (try clear hk); (try clear hi)) | (go_at_call 47; (with_reducible refine (impl_Glob.calls k (⟨#[42, 42]⟩ : ByteArray) t426 t438 _ A24.out).mono ?_); rintro e w29 ⟨rfl, hb⟩; have n0_ := Aside0.mk (below_step (by repeat (first | (with_reducible first | exact HB.out | apply below_alloc | apply pw_below_drewN | apply below_drew1) | exact HB.out)) hb); clear HB; have HB := n0_; clear n0_; (try clear hb); (try clear hb2); (try clear hk); (try clear hi)))
            go_meet
            case rel => exact ⟨_, (!t438), (by first | rfl | (simp; done) | (simp [*]; done)), H', ⟨by first | omega | exact Nat.le_refl _⟩, ⟨by repeat (first | (with_reducible first | exact HB.out | apply below_alloc | apply pw_below_drewN | apply below_drew1) | exact HB.out)⟩⟩
          · rw [if_neg c23] at H
            have c23b0 : (t433.toList == t437.toList) = false := beq_eq_false_iff_ne.mpr c23
            have c23b1 : (t433.toList != t437.toList) = true := bne_iff_ne.mpr c23
            have H' := Aside0.mk H
            clear H
            go_wp2_with (first | ((with_reducible refine gate_callee (f := 47) rfl ?_); refine goesL_ (some 41) rfl rfl Tryd.func47 (by kernel_rfl) rfl #[.string t425, .string t426] rfl (by (try simp only [List.map_toArray, List.map_cons, List.map_nil]); first | done | rfl | (simp only [List.length_drop, List.length_take]; rfl)) ?_; (with_reducible refine (impl_Glob.calls k t425 t426 t434 _ A15.out).mono ?_); rintro e w30 ⟨rfl, hb⟩; refine ⟨_, rfl, ?_⟩; have n0_ := Aside0.mk (below_step (by repeat (first | (with_reducible first | exact HB.out | apply below_alloc | apply pw_below_drewN | apply below_drew1) | exact HB.out)) hb); clear HB; have HB := n0_; clear n0_; (try clear hb); (try clear hb2); (try clear hk); (try clear hi)) | ((with_reducible refine gate_callee (f := 48) rfl ?_); refine goesL_ (some 44) rfl rfl Tryd.func48 (by kernel_rfl) rfl #[.string t425, .string t426] rfl (by (try simp only [List.map_toArray, List.map_cons, List.map_nil]); first | done | rfl | (simp only [List.length_drop, List.length_take]; rfl)) ?_; (with_reducible refine (spec_Glob.calls k t425 t426 t435 _ A16.out).mono ?_); rintro e w31 ⟨rfl, hb⟩; refine ⟨_, rfl, ?_⟩; have n0_ := Aside0.mk (below_step (by repeat (first | (with_reducible first | exact HB.out | apply below_alloc | apply pw_below_drewN | apply below_drew1) | exact HB.out)) hb); clear HB; have HB := n0_; clear n0_; (try clear hb); (try clear hb2); (try clear hk); (try clear hi)) | (go_at_call 49; (with_reducible refine (spec_Strip.calls k t427 t428 t436 _ A20.out).mono ?_); rintro e w32 ⟨rfl, hb⟩; have n0_ := Aside0.mk (below_step (by repeat (first | (with_reducible first | exact HB.out | apply below_alloc | apply pw_below_drewN | apply below_drew1) | exact HB.out)) hb); clear HB; have HB := n0_; clear n0_; (try clear hb); (try clear hb2); (try clear hk); (try clear hi)) | (go_at_call 50; (with_reducible refine (spec_Swap.calls k t429 t430 t431 t437 _ A22.out).mono ?_); rintro e w33 ⟨rfl, hb⟩; have n0_ := Aside0.mk (below_step (by repeat (first | (with_reducible first | exact HB.out | apply below_alloc | apply pw_below_drewN | apply below_drew1) | exact HB.out)) hb); clear HB; have HB := n0_; clear n0_; (try clear hb); (try clear hb2); (try clear hk); (try clear hi)))
            go_meet
            case rel => exact ⟨_, (true), (by first | rfl | (simp; done) | (simp [*]; done)), H', ⟨by first | omega | exact Nat.le_refl _⟩, ⟨by repeat (first | (with_reducible first | exact HB.out | apply below_alloc | apply pw_below_drewN | apply below_drew1) | exact HB.out)⟩⟩
        · rw [if_neg c21] at H
          have c21b0 : (t432.toList == t436.toList) = false := beq_eq_false_iff_ne.mpr c21
          have c21b1 : (t432.toList != t436.toList) = true := bne_iff_ne.mpr c21
          have H' := Aside0.mk H
          clear H
          go_wp2_with (first | ((with_reducible refine gate_callee (f := 47) rfl ?_); refine goesL_ (some 41) rfl rfl Tryd.func47 (by kernel_rfl) rfl #[.string t425, .string t426] rfl (by (try simp only [List.map_toArray, List.map_cons, List.map_nil]); first | done | rfl | (simp only [List.length_drop, List.length_take]; rfl)) ?_; (with_reducible refine (impl_Glob.calls k t425 t426 t434 _ A15.out).mono ?_); rintro e w34 ⟨rfl, hb⟩; refine ⟨_, rfl, ?_⟩; have n0_ := Aside0.mk (below_step (by repeat (first | (with_reducible first | exact HB.out | apply below_alloc | apply pw_below_drewN | apply below_drew1) | exact HB.out)) hb); clear HB; have HB := n0_; clear n0_; (try clear hb); (try clear hb2); (try clear hk); (try clear hi)) | ((with_reducible refine gate_callee (f := 48) rfl ?_); refine goesL_ (some 44) rfl rfl Tryd.func48 (by kernel_rfl) rfl #[.string t425, .string t426] rfl (by (try simp only [List.map_toArray, List.map_cons, List.map_nil]); first | done | rfl | (simp only [List.length_drop, List.length_take]; rfl)) ?_; (with_reducible refine (spec_Glob.calls k t425 t426 t435 _ A16.out).mono ?_); rintro e w35 ⟨rfl, hb⟩; refine ⟨_, rfl, ?_⟩; have n0_ := Aside0.mk (below_step (by repeat (first | (with_reducible first | exact HB.out | apply below_alloc | apply pw_below_drewN | apply below_drew1) | exact HB.out)) hb); clear HB; have HB := n0_; clear n0_; (try clear hb); (try clear hb2); (try clear hk); (try clear hi)) | (go_at_call 49; (with_reducible refine (spec_Strip.calls k t427 t428 t436 _ A20.out).mono ?_); rintro e w36 ⟨rfl, hb⟩; have n0_ := Aside0.mk (below_step (by repeat (first | (with_reducible first | exact HB.out | apply below_alloc | apply pw_below_drewN | apply below_drew1) | exact HB.out)) hb); clear HB; have HB := n0_; clear n0_; (try clear hb); (try clear hb2); (try clear hk); (try clear hi)))
          go_meet
          case rel => exact ⟨_, (true), (by first | rfl | (simp; done) | (simp [*]; done)), H', ⟨by first | omega | exact Nat.le_refl _⟩, ⟨by repeat (first | (with_reducible first | exact HB.out | apply below_alloc | apply pw_below_drewN | apply below_drew1) | exact HB.out)⟩⟩
    case rest =>
      clear HC9
      try clear c1
      try clear c2
      try clear p2
      try clear c3
      try clear c4
      try clear c5
      try clear c7
      try clear c17
      try clear c17b0
      try clear c17b1
      try clear c17b2
      try clear c21
      try clear c21b0
      try clear c21b1
      try clear c23
      try clear c23b0
      try clear c23b1
      obtain ⟨kq, x65_8, rfl, HA, HJ8, HB⟩ := hcut
      cases kq with
      | zero => exact absurd HA.out (by simp [laws_FnGlob.j0])
      | succ kj8 =>
        have H := HA.out
        clear HA
        simp only [laws_FnGlob.j0] at H
        by_cases c37 : x65_8 = true
        · subst c37
          have H1 : (some false) = some r := by rw [if_pos rfl] at H; exact H
          clear H
          have H := H1
          clear H1
          obtain rfl := Option.some.inj H
          go_wp2
          go_ret
          exact ⟨by first | rfl | (simp [errW_none, errW_some] <;> rfl) | (simp [*, errW_none, errW_some] <;> rfl) | (simp only [decide_eq_true_eq] at *; simp [*, bt]; done), by repeat (first | (with_reducible first | exact HB.out | apply below_alloc | apply pw_below_drewN | apply below_drew1) | exact HB.out)⟩
        · replace c37 := Bool.eq_false_iff.mpr c37
          subst c37
          have H1 : (laws_FnGlob.l0 kj8 t426 t427 t428 t429 t432 t433 true 0) = some r := by rw [if_neg (show ¬ (false = true) by decide)] at H; exact H
          clear H
          have H := H1
          clear H1
          have H' := Aside0.mk H
          clear H
          go_wp2
          go_loopg [12, 13] kj8 (fun kq v12 v13 w' => ∃ (x12_2 : Bool) (x13_2 : Int), v12 = .bool x12_2 ∧ v13 = .int .i64 x13_2 ∧ Aside0 (laws_FnGlob.l0 kq t426 t427 t428 t429 t432 t433 x12_2 x13_2 = some r) ∧ Aside0 (kq ≤ kj8) ∧ Aside0 (Below w.heap.size w w'))
          case atStart => exact ⟨(true), (0), (by first | rfl | (simp; done) | (simp [*]; done)), (by first | rfl | (simp; done) | (simp [*]; done)), H', ⟨Nat.le_refl _⟩, ⟨by repeat (first | (with_reducible first | exact HB.out | apply below_alloc | apply pw_below_drewN | apply below_drew1) | exact HB.out)⟩⟩
          case round =>
            clear H'
            try clear c1
            try clear c2
            try clear p2
            try clear c3
            try clear c4
            try clear c5
            try clear c7
            try clear c17
            try clear c17b0
            try clear c17b1
            try clear c17b2
            try clear c21
            try clear c21b0
            try clear c21b1
            try clear c23
            try clear c23b0
            try clear c23b1
            try clear c37
            try clear p2
            obtain ⟨x12_2, x13_2, rfl, rfl, HA, HK2, HB⟩ := hrel
            cases gk with
            | zero => exact absurd HA.out (by simp [laws_FnGlob.l0])
            | succ k2 =>
              have H := HA.out
              clear HA
              simp only [laws_FnGlob.l0] at H
              by_cases c38 : x13_2 < (t426.size : Int)
              · rw [if_pos c38] at H
                have c38b0 : decide (x13_2 < (t426.size : Int)) = true := decide_eq_true c38
                clear c38
                by_cases c39 : x12_2 = true
                · subst c39
                  have H1 : (if 0 ≤ x13_2 then (if (bt t426 x13_2) = 42 then (laws_FnGlob.l0 k2 t426 t427 t428 t429 t432 t433 false (wrap64 (x13_2 + 1))) else (laws_FnGlob.l0 k2 t426 t427 t428 t429 t432 t433 ((bt t426 x13_2) != 63) (wrap64 (x13_2 + 1)))) else (none)) = some r := by rw [if_pos rfl] at H; exact H
                  clear H
                  have H := H1
                  clear H1
                  by_cases c40 : 0 ≤ x13_2
                  · rw [if_pos c40] at H
                    have c40b0 : decide (0 ≤ x13_2) = true := decide_eq_true c40
                    clear c40
                    by_cases c42 : (bt t426 x13_2) = 42
                    · rw [if_pos c42] at H
                      have c42b0 : ((bt t426 x13_2) == 42) = true := beq_iff_eq.mpr c42
                      have c42b1 : ((bt t426 x13_2) != 42) = false := bne_eq_false_iff_eq.mpr c42
                      clear c42
                      have H' := Aside0.mk H
                      clear H
                      have p41 : 0 ≤ (x13_2 : Int) := of_decide_eq_true (by assumption)
                      have q41 : x13_2 < (t426.size : Int) := of_decide_eq_true (by assumption)
                      have hx41 := bt_at t426 x13_2
                      replace p41 := eq_true p41
                      replace q41 := eq_true q41
                      go_wp2
                      go_roundg k2
                      case measure => have := HJ8.out; have := HK2.out; omega
                      case rel => exact ⟨(false), (wrap64 (x13_2 + 1)), (by first | rfl | (simp; done) | (simp [*]; done)), (by first | rfl | (simp; done) | (simp [*]; done)), H', ⟨by have := HJ8.out; have := HK2.out; omega⟩, ⟨by repeat (first | (with_reducible first | exact HB.out | apply below_alloc | apply pw_below_drewN | apply below_drew1) | exact HB.out)⟩⟩
                    · rw [if_neg c42] at H
                      have c42b0 : ((bt t426 x13_2) == 42) = false := beq_eq_false_iff_ne.mpr c42
                      have c42b1 : ((bt t426 x13_2) != 42) = true := bne_iff_ne.mpr c42
                      have H' := Aside0.mk H
                      clear H
                      have p41 : 0 ≤ (x13_2 : Int) := of_decide_eq_true (by assumption)
                      have q41 : x13_2 < (t426.size : Int) := of_decide_eq_true (by assumption)
                      have hx41 := bt_at t426 x13_2
                      replace p41 := eq_true p41
                      replace q41 := eq_true q41
                      have p43 : 0 ≤ (x13_2 : Int) := of_decide_eq_true (by assumption)
                      have q43 : x13_2 < (t426.size : Int) := of_decide_eq_true (by assumption)
                      have hx43 := bt_at t426 x13_2
                      replace p43 := eq_true p43
                      replace q43 := eq_true q43
                      go_wp2
                      go_roundg k2
                      case measure => have := HJ8.out; have := HK2.out; omega
                      case rel => exact ⟨(((bt t426 x13_2) != 63)), (wrap64 (x13_2 + 1)), (by first | rfl | (simp; done) | (simp [*]; done)), (by first | rfl | (simp; done) | (simp [*]; done)), H', ⟨by have := HJ8.out; have := HK2.out; omega⟩, ⟨by repeat (first | (with_reducible first | exact HB.out | apply below_alloc | apply pw_below_drewN | apply below_drew1) | exact HB.out)⟩⟩
                  · rw [if_neg c40] at H
                    exact absurd H (by simp)
                · replace c39 := Bool.eq_false_iff.mpr c39
                  subst c39
                  have H1 : (laws_FnGlob.l0 k2 t426 t427 t428 t429 t432 t433 false (wrap64 (x13_2 + 1))) = some r := by rw [if_neg (show ¬ (false = true) by decide)] at H; exact H
                  clear H
                  have H := H1
                  clear H1
                  have H' := Aside0.mk H
                  clear H
                  go_wp2
                  go_roundg k2
                  case measure => have := HJ8.out; have := HK2.out; omega
                  case rel => exact ⟨(false), (wrap64 (x13_2 + 1)), (by first | rfl | (simp; done) | (simp [*]; done)), (by first | rfl | (simp; done) | (simp [*]; done)), H', ⟨by have := HJ8.out; have := HK2.out; omega⟩, ⟨by repeat (first | (with_reducible first | exact HB.out | apply below_alloc | apply pw_below_drewN | apply below_drew1) | exact HB.out)⟩⟩
              · rw [if_neg c38] at H
                have c38b0 : decide (x13_2 < (t426.size : Int)) = false := decide_eq_false c38
                clear c38
                have HC44 := Aside0.mk H
                clear H
                go_upto_region 14 with (fail)
                go_cut [106] (fun v106 wc => ∃ (kq : Nat) (x106_43 : Bool), v106 = .bool x106_43 ∧ Aside0 (laws_FnGlob.j2 kq t427 t428 t429 t432 t433 x106_43 = some r) ∧ Aside0 (kq ≤ k2) ∧ Aside0 (Below w.heap.size w wc))
                case first =>
                  have H := HC44.out
                  clear HC44
                  by_cases c45 : x12_2 = true
                  · subst c45
                    have H1 : (if (t426.size : Int) ≤ 50 then ((impl_Glob.f k2 t426 t426).bind fun t439 => (if t439 = true then ((impl_Glob.f k2 (⟨#[42]⟩ : ByteArray) t426).bind fun t440 => (if t440 = true then ((impl_Base.f k2 t426).bind fun t441 => (laws_FnGlob.j2 k2 t427 t428 t429 t432 t433 (t441.toList != t426.toList))) else (laws_FnGlob.j2 k2 t427 t428 t429 t432 t433 false))) else (laws_FnGlob.j2 k2 t427 t428 t429 t432 t433 true))) else ((impl_Glob.f k2 (⟨#[42]⟩ : ByteArray) t426).bind fun t442 => (if t442 = true then ((impl_Base.f k2 t426).bind fun t443 => (laws_FnGlob.j2 k2 t427 t428 t429 t432 t433 (t443.toList != t426.toList))) else (laws_FnGlob.j2 k2 t427 t428 t429 t432 t433 false)))) = some r := by rw [if_pos rfl] at H; exact H
                    clear H
                    have H := H1
                    clear H1
                    by_cases c46 : (t426.size : Int) ≤ 50
                    · rw [if_pos c46] at H
                      have c46b0 : decide ((t426.size : Int) ≤ 50) = true := decide_eq_true c46
                      have c46b1 : decide (t426.size ≤ 50) = true := decide_eq_true (by omega)
                      clear c46
                      (first | rw [c46b0] | (simp only [i64_w, i32_w]; rw [c46b0]) | skip)
                      replace H := Option.bind_eq_some_iff.mp H
                      obtain ⟨t439, A470, H⟩ := H
                      replace H : (if t439 = true then ((impl_Glob.f k2 (⟨#[42]⟩ : ByteArray) t426).bind fun t440 => (if t440 = true then ((impl_Base.f k2 t426).bind fun t441 => (laws_FnGlob.j2 k2 t427 t428 t429 t432 t433 (t441.toList != t426.toList))) else (laws_FnGlob.j2 k2 t427 t428 t429 t432 t433 false))) else (laws_FnGlob.j2 k2 t427 t428 t429 t432 t433 true)) = some r := H
                      have A47 := Aside0.mk A470
                      clear A470
                      by_cases c48 : t439 = true
                      · subst c48
                        have H1 : ((impl_Glob.f k2 (⟨#[42]⟩ : ByteArray) t426).bind fun t440 => (if t440 = true then ((impl_Base.f k2 t426).bind fun t441 => (laws_FnGlob.j2 k2 t427 t428 t429 t432 t433 (t441.toList != t426.toList))) else (laws_FnGlob.j2 k2 t427 t428 t429 t432 t433 false))) = some r := by rw [if_pos rfl] at H; exact H
                        clear H
                        have H := H1
                        clear H1
                        replace H := Option.bind_eq_some_iff.mp H
                        obtain ⟨t440, A490, H⟩ := H
                        replace H : (if t440 = true then ((impl_Base.f k2 t426).bind fun t441 => (laws_FnGlob.j2 k2 t427 t428 t429 t432 t433 (t441.toList != t426.toList))) else (laws_FnGlob.j2 k2 t427 t428 t429 t432 t433 false)) = some r := H
                        have A49 := Aside0.mk A490
                        clear A490
                        by_cases c50 : t440 = true
                        · subst c50
                          have H1 : ((impl_Base.f k2 t426).bind fun t441 => (laws_FnGlob.j2 k2 t427 t428 t429 t432 t433 (t441.toList != t426.toList))) = some r := by rw [if_pos rfl] at H; exact H
                          clear H
                          have H := H1
                          clear H1
                          replace H := Option.bind_eq_some_iff.mp H
                          obtain ⟨t441, A510, H⟩ := H
                          replace H : (laws_FnGlob.j2 k2 t427 t428 t429 t432 t433 (t441.toList != t426.toList)) = some r := H
                          have A51 := Aside0.mk A510
                          clear A510
                          have H' := Aside0.mk H
                          clear H
                          go_wp2_with (first | (go_at_call 47; (with_reducible refine (impl_Glob.calls k2 t426 t426 true _ A47.out).mono ?_); rintro e w52 ⟨rfl, hb⟩; have n0_ := Aside0.mk (below_step (by repeat (first | (with_reducible first | exact HB.out | apply below_alloc | apply pw_below_drewN | apply below_drew1) | exact HB.out)) hb); clear HB; have HB := n0_; clear n0_; (try clear hb); (try clear hb2); (try clear hk); (try clear hi)) | (go_at_call 47; (with_reducible refine (impl_Glob.calls k2 (⟨#[42]⟩ : ByteArray) t426 true _ A49.out).mono ?_); rintro e w53 ⟨rfl, hb⟩; have n0_ := Aside0.mk (below_step (by repeat (first | (with_reducible first | exact HB.out | apply below_alloc | apply pw_below_drewN | apply below_drew1) | exact HB.out)) hb); clear HB; have HB := n0_; clear n0_; (try clear hb); (try clear hb2); (try clear hk); (try clear hi)) | (go_at_call 35; (with_reducible refine (impl_Base.calls k2 t426 t441 _ A51.out).mono ?_); rintro e w' ⟨rfl, ⟨nd, rfl⟩⟩))
                          go_meet
                          case rel => exact ⟨_, ((t441.toList != t426.toList)), (by first | rfl | (simp; done) | (simp [*]; done)), H', ⟨by have := HJ8.out; have := HK2.out; first | omega | exact Nat.le_refl _⟩, ⟨by repeat (first | (with_reducible first | exact HB.out | apply below_alloc | apply pw_below_drewN | apply below_drew1) | exact HB.out)⟩⟩
                        · replace c50 := Bool.eq_false_iff.mpr c50
                          subst c50
                          have H1 : (laws_FnGlob.j2 k2 t427 t428 t429 t432 t433 false) = some r := by rw [if_neg (show ¬ (false = true) by decide)] at H; exact H
                          clear H
                          have H := H1
                          clear H1
                          have H' := Aside0.mk H
                          clear H
                          go_wp2_with (first | (go_at_call 47; (with_reducible refine (impl_Glob.calls k2 t426 t426 true _ A47.out).mono ?_); rintro e w54 ⟨rfl, hb⟩; have n0_ := Aside0.mk (below_step (by repeat (first | (with_reducible first | exact HB.out | apply below_alloc | apply pw_below_drewN | apply below_drew1) | exact HB.out)) hb); clear HB; have HB := n0_; clear n0_; (try clear hb); (try clear hb2); (try clear hk); (try clear hi)) | (go_at_call 47; (with_reducible refine (impl_Glob.calls k2 (⟨#[42]⟩ : ByteArray) t426 false _ A49.out).mono ?_); rintro e w55 ⟨rfl, hb⟩; have n0_ := Aside0.mk (below_step (by repeat (first | (with_reducible first | exact HB.out | apply below_alloc | apply pw_below_drewN | apply below_drew1) | exact HB.out)) hb); clear HB; have HB := n0_; clear n0_; (try clear hb); (try clear hb2); (try clear hk); (try clear hi)))
                          go_meet
                          case rel => exact ⟨_, (false), (by first | rfl | (simp; done) | (simp [*]; done)), H', ⟨by have := HJ8.out; have := HK2.out; first | omega | exact Nat.le_refl _⟩, ⟨by repeat (first | (with_reducible first | exact HB.out | apply below_alloc | apply pw_below_drewN | apply below_drew1) | exact HB.out)⟩⟩
                      · replace c48 := Bool.eq_false_iff.mpr c48
                        subst c48
                        have H1 : (laws_FnGlob.j2 k2 t427 t428 t429 t432 t433 true) = some r := by rw [if_neg (show ¬ (false = true) by decide)] at H; exact H
                        clear H
                        have H := H1
                        clear H1
                        have H' := Aside0.mk H
                        clear H
                        go_wp2_with (first | (go_at_call 47; (with_reducible refine (impl_Glob.calls k2 t426 t426 false _ A47.out).mono ?_); rintro e w56 ⟨rfl, hb⟩; have n0_ := Aside0.mk (below_step (by repeat (first | (with_reducible first | exact HB.out | apply below_alloc | apply pw_below_drewN | apply below_drew1) | exact HB.out)) hb); clear HB; have HB := n0_; clear n0_; (try clear hb); (try clear hb2); (try clear hk); (try clear hi)))
                        go_meet
                        case rel => exact ⟨_, (true), (by first | rfl | (simp; done) | (simp [*]; done)), H', ⟨by have := HJ8.out; have := HK2.out; first | omega | exact Nat.le_refl _⟩, ⟨by repeat (first | (with_reducible first | exact HB.out | apply below_alloc | apply pw_below_drewN | apply below_drew1) | exact HB.out)⟩⟩
                    · rw [if_neg c46] at H
                      have c46b0 : decide ((t426.size : Int) ≤ 50) = false := decide_eq_false c46
                      have c46b1 : decide (t426.size ≤ 50) = false := decide_eq_false (by omega)
                      clear c46
                      (first | rw [c46b0] | (simp only [i64_w, i32_w]; rw [c46b0]) | skip)
                      replace H := Option.bind_eq_some_iff.mp H
                      obtain ⟨t442, A570, H⟩ := H
                      replace H : (if t442 = true then ((impl_Base.f k2 t426).bind fun t443 => (laws_FnGlob.j2 k2 t427 t428 t429 t432 t433 (t443.toList != t426.toList))) else (laws_FnGlob.j2 k2 t427 t428 t429 t432 t433 false)) = some r := H
                      have A57 := Aside0.mk A570
                      clear A570
                      by_cases c58 : t442 = true
                      · subst c58
                        have H1 : ((impl_Base.f k2 t426).bind fun t443 => (laws_FnGlob.j2 k2 t427 t428 t429 t432 t433 (t443.toList != t426.toList))) = some r := by rw [if_pos rfl] at H; exact H
                        clear H
                        have H := H1
                        clear H1
                        replace H := Option.bind_eq_some_iff.mp H
                        obtain ⟨t443, A590, H⟩ := H
                        replace H : (laws_FnGlob.j2 k2 t427 t428 t429 t432 t433 (t443.toList != t426.toList)) = some r := H
                        have A59 := Aside0.mk A590
                        clear A590
                        have H' := Aside0.mk H
                        clear H
                        go_wp2_with (first | (go_at_call 47; (with_reducible refine (impl_Glob.calls k2 (⟨#[42]⟩ : ByteArray) t426 true _ A57.out).mono ?_); rintro e w60 ⟨rfl, hb⟩; have n0_ := Aside0.mk (below_step (by repeat (first | (with_reducible first | exact HB.out | apply below_alloc | apply pw_below_drewN | apply below_drew1) | exact HB.out)) hb); clear HB; have HB := n0_; clear n0_; (try clear hb); (try clear hb2); (try clear hk); (try clear hi)) | (go_at_call 35; (with_reducible refine (impl_Base.calls k2 t426 t443 _ A59.out).mono ?_); rintro e w' ⟨rfl, ⟨nd, rfl⟩⟩))
                        go_meet
                        case rel => exact ⟨_, ((t443.toList != t426.toList)), (by first | rfl | (simp; done) | (simp [*]; done)), H', ⟨by have := HJ8.out; have := HK2.out; first | omega | exact Nat.le_refl _⟩, ⟨by repeat (first | (with_reducible first | exact HB.out | apply below_alloc | apply pw_below_drewN | apply below_drew1) | exact HB.out)⟩⟩
                      · replace c58 := Bool.eq_false_iff.mpr c58
                        subst c58
                        have H1 : (laws_FnGlob.j2 k2 t427 t428 t429 t432 t433 false) = some r := by rw [if_neg (show ¬ (false = true) by decide)] at H; exact H
                        clear H
                        have H := H1
                        clear H1
                        have H' := Aside0.mk H
                        clear H
                        go_wp2_with (first | (go_at_call 47; (with_reducible refine (impl_Glob.calls k2 (⟨#[42]⟩ : ByteArray) t426 false _ A57.out).mono ?_); rintro e w61 ⟨rfl, hb⟩; have n0_ := Aside0.mk (below_step (by repeat (first | (with_reducible first | exact HB.out | apply below_alloc | apply pw_below_drewN | apply below_drew1) | exact HB.out)) hb); clear HB; have HB := n0_; clear n0_; (try clear hb); (try clear hb2); (try clear hk); (try clear hi)))
                        go_meet
                        case rel => exact ⟨_, (false), (by first | rfl | (simp; done) | (simp [*]; done)), H', ⟨by have := HJ8.out; have := HK2.out; first | omega | exact Nat.le_refl _⟩, ⟨by repeat (first | (with_reducible first | exact HB.out | apply below_alloc | apply pw_below_drewN | apply below_drew1) | exact HB.out)⟩⟩
                  · replace c45 := Bool.eq_false_iff.mpr c45
                    subst c45
                    have H1 : ((impl_Glob.f k2 (⟨#[42]⟩ : ByteArray) t426).bind fun t444 => (if t444 = true then ((impl_Base.f k2 t426).bind fun t445 => (laws_FnGlob.j2 k2 t427 t428 t429 t432 t433 (t445.toList != t426.toList))) else (laws_FnGlob.j2 k2 t427 t428 t429 t432 t433 false))) = some r := by rw [if_neg (show ¬ (false = true) by decide)] at H; exact H
                    clear H
                    have H := H1
                    clear H1
                    replace H := Option.bind_eq_some_iff.mp H
                    obtain ⟨t444, A620, H⟩ := H
                    replace H : (if t444 = true then ((impl_Base.f k2 t426).bind fun t445 => (laws_FnGlob.j2 k2 t427 t428 t429 t432 t433 (t445.toList != t426.toList))) else (laws_FnGlob.j2 k2 t427 t428 t429 t432 t433 false)) = some r := H
                    have A62 := Aside0.mk A620
                    clear A620
                    by_cases c63 : t444 = true
                    · subst c63
                      have H1 : ((impl_Base.f k2 t426).bind fun t445 => (laws_FnGlob.j2 k2 t427 t428 t429 t432 t433 (t445.toList != t426.toList))) = some r := by rw [if_pos rfl] at H; exact H
                      clear H
                      have H := H1
                      clear H1
                      replace H := Option.bind_eq_some_iff.mp H
                      obtain ⟨t445, A640, H⟩ := H
                      replace H : (laws_FnGlob.j2 k2 t427 t428 t429 t432 t433 (t445.toList != t426.toList)) = some r := H
                      have A64 := Aside0.mk A640
                      clear A640
                      have H' := Aside0.mk H
                      clear H
                      go_wp2_with (first | (go_at_call 47; (with_reducible refine (impl_Glob.calls k2 (⟨#[42]⟩ : ByteArray) t426 true _ A62.out).mono ?_); rintro e w65 ⟨rfl, hb⟩; have n0_ := Aside0.mk (below_step (by repeat (first | (with_reducible first | exact HB.out | apply below_alloc | apply pw_below_drewN | apply below_drew1) | exact HB.out)) hb); clear HB; have HB := n0_; clear n0_; (try clear hb); (try clear hb2); (try clear hk); (try clear hi)) | (go_at_call 35; (with_reducible refine (impl_Base.calls k2 t426 t445 _ A64.out).mono ?_); rintro e w' ⟨rfl, ⟨nd, rfl⟩⟩))
                      go_meet
                      case rel => exact ⟨_, ((t445.toList != t426.toList)), (by first | rfl | (simp; done) | (simp [*]; done)), H', ⟨by have := HJ8.out; have := HK2.out; first | omega | exact Nat.le_refl _⟩, ⟨by repeat (first | (with_reducible first | exact HB.out | apply below_alloc | apply pw_below_drewN | apply below_drew1) | exact HB.out)⟩⟩
                    · replace c63 := Bool.eq_false_iff.mpr c63
                      subst c63
                      have H1 : (laws_FnGlob.j2 k2 t427 t428 t429 t432 t433 false) = some r := by rw [if_neg (show ¬ (false = true) by decide)] at H; exact H
                      clear H
                      have H := H1
                      clear H1
                      have H' := Aside0.mk H
                      clear H
                      go_wp2_with (first | (go_at_call 47; (with_reducible refine (impl_Glob.calls k2 (⟨#[42]⟩ : ByteArray) t426 false _ A62.out).mono ?_); rintro e w66 ⟨rfl, hb⟩; have n0_ := Aside0.mk (below_step (by repeat (first | (with_reducible first | exact HB.out | apply below_alloc | apply pw_below_drewN | apply below_drew1) | exact HB.out)) hb); clear HB; have HB := n0_; clear n0_; (try clear hb); (try clear hb2); (try clear hk); (try clear hi)))
                      go_meet
                      case rel => exact ⟨_, (false), (by first | rfl | (simp; done) | (simp [*]; done)), H', ⟨by have := HJ8.out; have := HK2.out; first | omega | exact Nat.le_refl _⟩, ⟨by repeat (first | (with_reducible first | exact HB.out | apply below_alloc | apply pw_below_drewN | apply below_drew1) | exact HB.out)⟩⟩
                case rest =>
                  clear HC44
                  try clear c1
                  try clear c2
                  try clear p2
                  try clear c3
                  try clear c4
                  try clear p4
                  try clear q4
                  try clear hx4
                  try clear c5
                  try clear c6
                  try clear p6
                  try clear c7
                  try clear c17
                  try clear c17b0
                  try clear c17b1
                  try clear c17b2
                  try clear c21
                  try clear c21b0
                  try clear c21b1
                  try clear c23
                  try clear c23b0
                  try clear c23b1
                  try clear c37
                  try clear c38
                  try clear c38b0
                  try clear c39
                  try clear c40
                  try clear c40b0
                  try clear p41
                  try clear q41
                  try clear hx41
                  try clear c42
                  try clear c42b0
                  try clear c42b1
                  try clear c43
                  try clear p43
                  try clear q43
                  try clear hx43
                  try clear c44
                  try clear c45
                  try clear c46
                  try clear c46b0
                  try clear c46b1
                  try clear c47
                  try clear c48
                  try clear c50
                  try clear c58
                  try clear c63
                  try clear p64
                  try clear p2
                  try clear p41
                  try clear p43
                  try clear q41
                  try clear q43
                  obtain ⟨kq, x106_43, rfl, HA, HJ43, HB⟩ := hcut
                  cases kq with
                  | zero => exact absurd HA.out (by simp [laws_FnGlob.j2])
                  | succ kj43 =>
                    have H := HA.out
                    clear HA
                    simp only [laws_FnGlob.j2] at H
                    by_cases c67 : x106_43 = true
                    · subst c67
                      have H1 : (some false) = some r := by rw [if_pos rfl] at H; exact H
                      clear H
                      have H := H1
                      clear H1
                      obtain rfl := Option.some.inj H
                      go_wp2
                      go_ret
                      exact ⟨by first | rfl | (simp [errW_none, errW_some] <;> rfl) | (simp [*, errW_none, errW_some] <;> rfl) | (simp only [decide_eq_true_eq] at *; simp [*, bt]; done), by repeat (first | (with_reducible first | exact HB.out | apply below_alloc | apply pw_below_drewN | apply below_drew1) | exact HB.out)⟩
                    · replace c67 := Bool.eq_false_iff.mpr c67
                      subst c67
                      have H1 : (if t432.toList = ([] : List UInt8) then (if t433.toList = t429.toList then (some true) else ((impl_PathOk.f kj43 t433).bind fun t446 => (some t446))) else ((impl_PathOk.f kj43 t432).bind fun t447 => (if t447 = true then ((impl_Depth.f kj43 t432).bind fun t448 => ((impl_Depth.f kj43 t427).bind fun t449 => (if t448 = (wrap64 (t449 - t428)) then (if t433.toList = t429.toList then (some true) else ((impl_PathOk.f kj43 t433).bind fun t450 => (some t450))) else (some false)))) else (some false)))) = some r := by rw [if_neg (show ¬ (false = true) by decide)] at H; exact H
                      clear H
                      have H := H1
                      clear H1
                      by_cases c68 : t432.toList = ([] : List UInt8)
                      · rw [if_pos c68] at H
                        have c68b0 : (t432.toList == ([] : List UInt8)) = true := beq_iff_eq.mpr c68
                        have c68b0i : (t432.toList).isEmpty = true := (by cases t432.toList <;> rfl : (t432.toList == ([] : List UInt8)) = (t432.toList).isEmpty).symm.trans c68b0
                        have c68b1 : (t432.toList != ([] : List UInt8)) = false := bne_eq_false_iff_eq.mpr c68
                        clear c68
                        by_cases c69 : t433.toList = t429.toList
                        · rw [if_pos c69] at H
                          have c69b0 : (t433.toList == t429.toList) = true := beq_iff_eq.mpr c69
                          have c69b1 : (t433.toList != t429.toList) = false := bne_eq_false_iff_eq.mpr c69
                          clear c69
                          obtain rfl := Option.some.inj H
                          go_wp2
                          all_goals try (rename_i h_; rw [c68b0i] at h_; cases h_; done)
                          go_ret
                          exact ⟨by first | rfl | (simp [errW_none, errW_some] <;> rfl) | (simp [*, errW_none, errW_some] <;> rfl) | (simp only [decide_eq_true_eq] at *; simp [*, bt]; done), by repeat (first | (with_reducible first | exact HB.out | apply below_alloc | apply pw_below_drewN | apply below_drew1) | exact HB.out)⟩
                        · rw [if_neg c69] at H
                          have c69b0 : (t433.toList == t429.toList) = false := beq_eq_false_iff_ne.mpr c69
                          have c69b1 : (t433.toList != t429.toList) = true := bne_iff_ne.mpr c69
                          replace H := Option.bind_eq_some_iff.mp H
                          obtain ⟨t446, A700, H⟩ := H
                          replace H : (some t446) = some r := H
                          have A70 := Aside0.mk A700
                          clear A700
                          obtain rfl := Option.some.inj H
                          go_wp2_with (first | (go_at_call 14; (with_reducible refine (impl_PathOk.calls kj43 t433 t446 _ A70.out).mono ?_); rintro e w71 ⟨rfl, hb⟩; have n0_ := Aside0.mk (below_step (by repeat (first | (with_reducible first | exact HB.out | apply below_alloc | apply pw_below_drewN | apply below_drew1) | exact HB.out)) hb); clear HB; have HB := n0_; clear n0_; (try clear hb); (try clear hb2); (try clear hk); (try clear hi)))
                          all_goals try (rename_i h_; rw [c68b0i] at h_; cases h_; done)
                          go_ret
                          exact ⟨by first | rfl | (simp [errW_none, errW_some] <;> rfl) | (simp [*, errW_none, errW_some] <;> rfl) | (simp only [decide_eq_true_eq] at *; simp [*, bt]; done), by repeat (first | (with_reducible first | exact HB.out | apply below_alloc | apply pw_below_drewN | apply below_drew1) | exact HB.out)⟩
                      · rw [if_neg c68] at H
                        have c68b0 : (t432.toList == ([] : List UInt8)) = false := beq_eq_false_iff_ne.mpr c68
                        have c68b0i : (t432.toList).isEmpty = false := (by cases t432.toList <;> rfl : (t432.toList == ([] : List UInt8)) = (t432.toList).isEmpty).symm.trans c68b0
                        have c68b1 : (t432.toList != ([] : List UInt8)) = true := bne_iff_ne.mpr c68
                        replace H := Option.bind_eq_some_iff.mp H
                        obtain ⟨t447, A720, H⟩ := H
                        replace H : (if t447 = true then ((impl_Depth.f kj43 t432).bind fun t448 => ((impl_Depth.f kj43 t427).bind fun t449 => (if t448 = (wrap64 (t449 - t428)) then (if t433.toList = t429.toList then (some true) else ((impl_PathOk.f kj43 t433).bind fun t450 => (some t450))) else (some false)))) else (some false)) = some r := H
                        have A72 := Aside0.mk A720
                        clear A720
                        by_cases c73 : t447 = true
                        · subst c73
                          have H1 : ((impl_Depth.f kj43 t432).bind fun t448 => ((impl_Depth.f kj43 t427).bind fun t449 => (if t448 = (wrap64 (t449 - t428)) then (if t433.toList = t429.toList then (some true) else ((impl_PathOk.f kj43 t433).bind fun t450 => (some t450))) else (some false)))) = some r := by rw [if_pos rfl] at H; exact H
                          clear H
                          have H := H1
                          clear H1
                          replace H := Option.bind_eq_some_iff.mp H
                          obtain ⟨t448, A740, H⟩ := H
                          replace H : ((impl_Depth.f kj43 t427).bind fun t449 => (if t448 = (wrap64 (t449 - t428)) then (if t433.toList = t429.toList then (some true) else ((impl_PathOk.f kj43 t433).bind fun t450 => (some t450))) else (some false))) = some r := H
                          have A74 := Aside0.mk A740
                          clear A740
                          replace H := Option.bind_eq_some_iff.mp H
                          obtain ⟨t449, A750, H⟩ := H
                          replace H : (if t448 = (wrap64 (t449 - t428)) then (if t433.toList = t429.toList then (some true) else ((impl_PathOk.f kj43 t433).bind fun t450 => (some t450))) else (some false)) = some r := H
                          have A75 := Aside0.mk A750
                          clear A750
                          by_cases c76 : t448 = (wrap64 (t449 - t428))
                          · rw [if_pos c76] at H
                            have c76b0 : (t448 == (wrap64 (t449 - t428))) = true := beq_iff_eq.mpr c76
                            have c76b1 : (t448 != (wrap64 (t449 - t428))) = false := bne_eq_false_iff_eq.mpr c76
                            clear c76
                            by_cases c77 : t433.toList = t429.toList
                            · rw [if_pos c77] at H
                              have c77b0 : (t433.toList == t429.toList) = true := beq_iff_eq.mpr c77
                              have c77b1 : (t433.toList != t429.toList) = false := bne_eq_false_iff_eq.mpr c77
                              clear c77
                              obtain rfl := Option.some.inj H
                              go_wp2_with (first | (go_at_call 14; (with_reducible refine (impl_PathOk.calls kj43 t432 true _ A72.out).mono ?_); rintro e w78 ⟨rfl, hb⟩; have n0_ := Aside0.mk (below_step (by repeat (first | (with_reducible first | exact HB.out | apply below_alloc | apply pw_below_drewN | apply below_drew1) | exact HB.out)) hb); clear HB; have HB := n0_; clear n0_; (try clear hb); (try clear hb2); (try clear hk); (try clear hi)) | (go_at_call 37; (with_reducible refine (impl_Depth.calls kj43 t432 t448 _ A74.out).mono ?_); rintro e w79 ⟨rfl, hb⟩; have n0_ := Aside0.mk (below_step (by repeat (first | (with_reducible first | exact HB.out | apply below_alloc | apply pw_below_drewN | apply below_drew1) | exact HB.out)) hb); clear HB; have HB := n0_; clear n0_; (try clear hb); (try clear hb2); (try clear hk); (try clear hi)) | (go_at_call 37; (with_reducible refine (impl_Depth.calls kj43 t427 t449 _ A75.out).mono ?_); rintro e w80 ⟨rfl, hb⟩; have n0_ := Aside0.mk (below_step (by repeat (first | (with_reducible first | exact HB.out | apply below_alloc | apply pw_below_drewN | apply below_drew1) | exact HB.out)) hb); clear HB; have HB := n0_; clear n0_; (try clear hb); (try clear hb2); (try clear hk); (try clear hi)))
                              all_goals try (rename_i h_; rw [c68b0i] at h_; cases h_; done)
                              go_ret
                              exact ⟨by first | rfl | (simp [errW_none, errW_some] <;> rfl) | (simp [*, errW_none, errW_some] <;> rfl) | (simp only [decide_eq_true_eq] at *; simp [*, bt]; done), by repeat (first | (with_reducible first | exact HB.out | apply below_alloc | apply pw_below_drewN | apply below_drew1) | exact HB.out)⟩
                            · rw [if_neg c77] at H
                              have c77b0 : (t433.toList == t429.toList) = false := beq_eq_false_iff_ne.mpr c77
                              have c77b1 : (t433.toList != t429.toList) = true := bne_iff_ne.mpr c77
                              replace H := Option.bind_eq_some_iff.mp H
                              obtain ⟨t450, A810, H⟩ := H
                              replace H : (some t450) = some r := H
                              have A81 := Aside0.mk A810
                              clear A810
                              obtain rfl := Option.some.inj H
                              go_wp2_with (first | (go_at_call 14; (with_reducible refine (impl_PathOk.calls kj43 t432 true _ A72.out).mono ?_); rintro e w82 ⟨rfl, hb⟩; have n0_ := Aside0.mk (below_step (by repeat (first | (with_reducible first | exact HB.out | apply below_alloc | apply pw_below_drewN | apply below_drew1) | exact HB.out)) hb); clear HB; have HB := n0_; clear n0_; (try clear hb); (try clear hb2); (try clear hk); (try clear hi)) | (go_at_call 37; (with_reducible refine (impl_Depth.calls kj43 t432 t448 _ A74.out).mono ?_); rintro e w83 ⟨rfl, hb⟩; have n0_ := Aside0.mk (below_step (by repeat (first | (with_reducible first | exact HB.out | apply below_alloc | apply pw_below_drewN | apply below_drew1) | exact HB.out)) hb); clear HB; have HB := n0_; clear n0_; (try clear hb); (try clear hb2); (try clear hk); (try clear hi)) | (go_at_call 37; (with_reducible refine (impl_Depth.calls kj43 t427 t449 _ A75.out).mono ?_); rintro e w84 ⟨rfl, hb⟩; have n0_ := Aside0.mk (below_step (by repeat (first | (with_reducible first | exact HB.out | apply below_alloc | apply pw_below_drewN | apply below_drew1) | exact HB.out)) hb); clear HB; have HB := n0_; clear n0_; (try clear hb); (try clear hb2); (try clear hk); (try clear hi)) | (go_at_call 14; (with_reducible refine (impl_PathOk.calls kj43 t433 t450 _ A81.out).mono ?_); rintro e w85 ⟨rfl, hb⟩; have n0_ := Aside0.mk (below_step (by repeat (first | (with_reducible first | exact HB.out | apply below_alloc | apply pw_below_drewN | apply below_drew1) | exact HB.out)) hb); clear HB; have HB := n0_; clear n0_; (try clear hb); (try clear hb2); (try clear hk); (try clear hi)))
                              all_goals try (rename_i h_; rw [c68b0i] at h_; cases h_; done)
                              go_ret
                              exact ⟨by first | rfl | (simp [errW_none, errW_some] <;> rfl) | (simp [*, errW_none, errW_some] <;> rfl) | (simp only [decide_eq_true_eq] at *; simp [*, bt]; done), by repeat (first | (with_reducible first | exact HB.out | apply below_alloc | apply pw_below_drewN | apply below_drew1) | exact HB.out)⟩
                          · rw [if_neg c76] at H
                            have c76b0 : (t448 == (wrap64 (t449 - t428))) = false := beq_eq_false_iff_ne.mpr c76
                            have c76b1 : (t448 != (wrap64 (t449 - t428))) = true := bne_iff_ne.mpr c76
                            obtain rfl := Option.some.inj H
                            go_wp2_with (first | (go_at_call 14; (with_reducible refine (impl_PathOk.calls kj43 t432 true _ A72.out).mono ?_); rintro e w86 ⟨rfl, hb⟩; have n0_ := Aside0.mk (below_step (by repeat (first | (with_reducible first | exact HB.out | apply below_alloc | apply pw_below_drewN | apply below_drew1) | exact HB.out)) hb); clear HB; have HB := n0_; clear n0_; (try clear hb); (try clear hb2); (try clear hk); (try clear hi)) | (go_at_call 37; (with_reducible refine (impl_Depth.calls kj43 t432 t448 _ A74.out).mono ?_); rintro e w87 ⟨rfl, hb⟩; have n0_ := Aside0.mk (below_step (by repeat (first | (with_reducible first | exact HB.out | apply below_alloc | apply pw_below_drewN | apply below_drew1) | exact HB.out)) hb); clear HB; have HB := n0_; clear n0_; (try clear hb); (try clear hb2); (try clear hk); (try clear hi)) | (go_at_call 37; (with_reducible refine (impl_Depth.calls kj43 t427 t449 _ A75.out).mono ?_); rintro e w88 ⟨rfl, hb⟩; have n0_ := Aside0.mk (below_step (by repeat (first | (with_reducible first | exact HB.out | apply below_alloc | apply pw_below_drewN | apply below_drew1) | exact HB.out)) hb); clear HB; have HB := n0_; clear n0_; (try clear hb); (try clear hb2); (try clear hk); (try clear hi)))
                            all_goals try (rename_i h_; rw [c68b0i] at h_; cases h_; done)
                            go_ret
                            exact ⟨by first | rfl | (simp [errW_none, errW_some] <;> rfl) | (simp [*, errW_none, errW_some] <;> rfl) | (simp only [decide_eq_true_eq] at *; simp [*, bt]; done), by repeat (first | (with_reducible first | exact HB.out | apply below_alloc | apply pw_below_drewN | apply below_drew1) | exact HB.out)⟩
                        · replace c73 := Bool.eq_false_iff.mpr c73
                          subst c73
                          have H1 : (some false) = some r := by rw [if_neg (show ¬ (false = true) by decide)] at H; exact H
                          clear H
                          have H := H1
                          clear H1
                          obtain rfl := Option.some.inj H
                          go_wp2_with (first | (go_at_call 14; (with_reducible refine (impl_PathOk.calls kj43 t432 false _ A72.out).mono ?_); rintro e w89 ⟨rfl, hb⟩; have n0_ := Aside0.mk (below_step (by repeat (first | (with_reducible first | exact HB.out | apply below_alloc | apply pw_below_drewN | apply below_drew1) | exact HB.out)) hb); clear HB; have HB := n0_; clear n0_; (try clear hb); (try clear hb2); (try clear hk); (try clear hi)))
                          all_goals try (rename_i h_; rw [c68b0i] at h_; cases h_; done)
                          go_ret
                          exact ⟨by first | rfl | (simp [errW_none, errW_some] <;> rfl) | (simp [*, errW_none, errW_some] <;> rfl) | (simp only [decide_eq_true_eq] at *; simp [*, bt]; done), by repeat (first | (with_reducible first | exact HB.out | apply below_alloc | apply pw_below_drewN | apply below_drew1) | exact HB.out)⟩

/-- THE ONE PURE STATEMENT of laws_FnGlob: yours. -/
def laws_FnGlob.Pure : Prop := ∀ (l0 : List Int), l0.length ≤ maxLen → l0.length * 1 ≤ 140737488351232 → (∀ x ∈ l0, (Lit.int .u8 x).wf = true) → ∃ k, laws_FnGlob.f k l0 = some true
theorem laws_FnGlob.walk (P : laws_FnGlob.Pure) (a0 : Option Addr) (len0 cap0 : Nat) (z0 : List Int) (w : World) (w0 : (a0 = none ∧ len0 = 0 ∧ cap0 = 0 ∧ z0 = []) ∨ ∃ x, a0 = some x ∧ len0 ≤ cap0 ∧ cap0 ≤ maxLen ∧ z0.length = cap0 ∧ (∀ i, i < z0.length → w.cell? (x.add i) = some (.int .u8 (z0.getD i 0))) ∧ ∀ n ∈ z0, (Lit.int .u8 n).wf = true) (y0 : len0 * 1 ≤ 140737488351232) :
    Calls Tryd.prog 5 #[.slice a0 len0 cap0] w fun e w' => e = .returned (.bool true) ∧ Below w.heap.size w w' := by
  obtain ⟨l0, rfl, hr0, hm0, hw0, hc0⟩ := ReadsInt.ofRowC w0
  obtain ⟨k, h⟩ := P l0 hm0 y0 hw0
  refine (laws_FnGlob.calls k _ _ l0 true w (Kd.C_of_reads (d := (0 : Int)) (h1 := fun _ => rfl) hr0) hc0 h).mono ?_
  rintro e w' ⟨rfl, hd⟩
  exact ⟨rfl, hd⟩

end Go.Proofs.YtdjepilhenijeaaDoor.PFnGlob
