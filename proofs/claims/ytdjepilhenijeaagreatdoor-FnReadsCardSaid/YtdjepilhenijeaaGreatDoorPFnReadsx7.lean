-- PRINTED for this claim by a program of this session's repo over the kit's printer, with contracts of our own among the functions.
import Derived.Test.YtdjepilhenijeaaGreatDoorPFnReadsx0
import Derived.Test.YtdjepilhenijeaaGreatDoorPFnReadsx1
import Derived.Test.YtdjepilhenijeaaGreatDoorPFnReadsx2
import Derived.Test.YtdjepilhenijeaaGreatDoorPFnReadsx3
import Derived.Test.YtdjepilhenijeaaGreatDoorPFnReadsx4
import Derived.Test.YtdjepilhenijeaaGreatDoorPFnReadsx5
import Derived.Test.YtdjepilhenijeaaGreatDoorPFnReadsx6
namespace Go.Proofs.YtdjepilhenijeaaGreatDoor.PFnReads
open Go.RowKit Go.Proofs.YtdjepilhenijeaaGreatDoorW.PrintWords Go.Proofs.YtdjepilhenijeaaGreatDoorW.PrintLast Go.Proofs.YtdjepilhenijeaaGreatDoorW.PrintMore
attribute [local go_sem] max2_int min2_int max_two min_two max_three min_three max_four min_four   -- for this text's walks alone
set_option linter.unusedVariables false
set_option linter.unusedSimpArgs false

/-! ### laws_FnReads: function 3 -/
mutual
def laws_FnReads.j0 : Nat → ByteArray → Int → Bool → ByteArray → Int → Bool → ByteArray → Int → Bool → ByteArray → Int → Bool → Bool → Option (Bool)
  | 0, _, _, _, _, _, _, _, _, _, _, _, _, _ => none
  | k + 1, x3, x4, x5, x8, x9, x10, x13, x14, x15, x18, x19, x20, x112 => if x112 = true then (some false) else ((impl_PutOct.f x4 (x3.size : Int)).bind fun bt296 => (if x5 = true then (laws_FnReads.j1 k x8 x9 x10 x13 x14 x15 x18 x19 x20 (bt296.1.toList != x3.toList)) else (laws_FnReads.j1 k x8 x9 x10 x13 x14 x15 x18 x19 x20 false)))
def laws_FnReads.j1 : Nat → ByteArray → Int → Bool → ByteArray → Int → Bool → ByteArray → Int → Bool → Bool → Option (Bool)
  | 0, _, _, _, _, _, _, _, _, _, _ => none
  | k + 1, x8, x9, x10, x13, x14, x15, x18, x19, x20, x125 => if x125 = true then (some false) else ((impl_PutHex.f x9).bind fun bt298 => (if x10 = true then (laws_FnReads.j2 k x13 x14 x15 x18 x19 x20 (bt298.1.toList != x8.toList)) else (laws_FnReads.j2 k x13 x14 x15 x18 x19 x20 false)))
def laws_FnReads.j2 : Nat → ByteArray → Int → Bool → ByteArray → Int → Bool → Bool → Option (Bool)
  | 0, _, _, _, _, _, _, _ => none
  | k + 1, x13, x14, x15, x18, x19, x20, x136 => if x136 = true then (some false) else ((impl_PutDec.f x14 (x13.size : Int)).bind fun bt300 => (if x15 = true then (if bt300.1.toList = x13.toList then ((impl_PutBig.f k x19 (x18.size : Int)).bind fun bt302 => (if x20 = true then (some (bt302.1.toList == x18.toList)) else (some true))) else (some false)) else ((impl_PutBig.f k x19 (x18.size : Int)).bind fun bt304 => (if x20 = true then (some (bt304.1.toList == x18.toList)) else (some true)))))
end
def laws_FnReads.f (k : Nat) (l0 : List Int) : Option (Bool) := (laws_big.f l0).bind fun t275 => (if t275 = true then (some true) else ((spec_DrawGetOct.f k l0).bind fun t276 => ((impl_GetOct.f t276).bind fun bt277 => ((spec_GetOct.f k t276).bind fun bt279 => ((spec_DrawGetHex.f k l0).bind fun t281 => ((impl_GetHex.f t281).bind fun bt282 => ((spec_GetHex.f k t281).bind fun bt284 => ((spec_DrawGetDec.f k l0).bind fun t286 => ((impl_GetDec.f t286).bind fun bt287 => ((spec_GetDec.f k t286).bind fun bt289 => ((spec_DrawGetBig.f k l0).bind fun t291 => ((impl_GetBig.f k t291).bind fun bt292 => ((spec_GetBig.f k t291).bind fun bt294 => (if bt277.1 = bt279.1 then (if (bt277.2 != bt279.2) = true then (laws_FnReads.j0 k t276 bt277.1 bt277.2 t281 bt282.1 bt282.2 t286 bt287.1 bt287.2 t291 bt292.1 bt292.2 true) else (if bt282.1 = bt284.1 then (if (bt282.2 != bt284.2) = true then (laws_FnReads.j0 k t276 bt277.1 bt277.2 t281 bt282.1 bt282.2 t286 bt287.1 bt287.2 t291 bt292.1 bt292.2 true) else (if bt287.1 = bt289.1 then (if (bt287.2 != bt289.2) = true then (laws_FnReads.j0 k t276 bt277.1 bt277.2 t281 bt282.1 bt282.2 t286 bt287.1 bt287.2 t291 bt292.1 bt292.2 true) else (if bt292.1 = bt294.1 then (laws_FnReads.j0 k t276 bt277.1 bt277.2 t281 bt282.1 bt282.2 t286 bt287.1 bt287.2 t291 bt292.1 bt292.2 (bt292.2 != bt294.2)) else (laws_FnReads.j0 k t276 bt277.1 bt277.2 t281 bt282.1 bt282.2 t286 bt287.1 bt287.2 t291 bt292.1 bt292.2 true))) else (laws_FnReads.j0 k t276 bt277.1 bt277.2 t281 bt282.1 bt282.2 t286 bt287.1 bt287.2 t291 bt292.1 bt292.2 true))) else (laws_FnReads.j0 k t276 bt277.1 bt277.2 t281 bt282.1 bt282.2 t286 bt287.1 bt287.2 t291 bt292.1 bt292.2 true))) else (laws_FnReads.j0 k t276 bt277.1 bt277.2 t281 bt282.1 bt282.2 t286 bt287.1 bt287.2 t291 bt292.1 bt292.2 true)))))))))))))))
theorem laws_FnReads.mono_l : ∀ k, (∀ y0 y1 y2 y3 y4 y5 y6 y7 y8 y9 y10 y11 y12, LeO (laws_FnReads.j0 k y0 y1 y2 y3 y4 y5 y6 y7 y8 y9 y10 y11 y12) (laws_FnReads.j0 (k + 1) y0 y1 y2 y3 y4 y5 y6 y7 y8 y9 y10 y11 y12)) ∧ (∀ y0 y1 y2 y3 y4 y5 y6 y7 y8 y9, LeO (laws_FnReads.j1 k y0 y1 y2 y3 y4 y5 y6 y7 y8 y9) (laws_FnReads.j1 (k + 1) y0 y1 y2 y3 y4 y5 y6 y7 y8 y9)) ∧ (∀ y0 y1 y2 y3 y4 y5 y6, LeO (laws_FnReads.j2 k y0 y1 y2 y3 y4 y5 y6) (laws_FnReads.j2 (k + 1) y0 y1 y2 y3 y4 y5 y6))
  | 0 => ⟨fun _ _ _ _ _ _ _ _ _ _ _ _ _ r h => by simp [laws_FnReads.j0] at h, fun _ _ _ _ _ _ _ _ _ _ r h => by simp [laws_FnReads.j1] at h, fun _ _ _ _ _ _ _ r h => by simp [laws_FnReads.j2] at h⟩
  | k + 1 => by
    obtain ⟨ih0, ih1, ih2⟩ := laws_FnReads.mono_l k
    refine ⟨?_, ?_, ?_⟩
    · intro y0 y1 y2 y3 y4 y5 y6 y7 y8 y9 y10 y11 y12
      unfold laws_FnReads.j0
      repeat' first
      | (with_reducible exact ih0 _ _ _ _ _ _ _ _ _ _ _ _ _)
      | (with_reducible exact ih1 _ _ _ _ _ _ _ _ _ _)
      | (with_reducible exact ih2 _ _ _ _ _ _ _)
      | (with_reducible exact impl_GetBig.mono _ _)
      | (with_reducible exact impl_PutBig.mono _ _ _)
      | (with_reducible exact spec_DrawGetBig.mono _ _)
      | (with_reducible exact spec_DrawGetDec.mono _ _)
      | (with_reducible exact spec_DrawGetHex.mono _ _)
      | (with_reducible exact spec_DrawGetOct.mono _ _)
      | (with_reducible exact spec_GetBig.mono _ _)
      | (with_reducible exact spec_GetDec.mono _ _)
      | (with_reducible exact spec_GetHex.mono _ _)
      | (with_reducible exact spec_GetOct.mono _ _)
      | (with_reducible exact LeO.refl _)
      | (with_reducible exact LeO.none _)
      | (with_reducible refine LeO.ite ?_ ?_)
      | (with_reducible refine LeO.bind ?_ (fun _ => ?_))
      | exact ih0 _ _ _ _ _ _ _ _ _ _ _ _ _
      | exact ih1 _ _ _ _ _ _ _ _ _ _
      | exact ih2 _ _ _ _ _ _ _
      | exact impl_GetBig.mono _ _
      | exact impl_PutBig.mono _ _ _
      | exact spec_DrawGetBig.mono _ _
      | exact spec_DrawGetDec.mono _ _
      | exact spec_DrawGetHex.mono _ _
      | exact spec_DrawGetOct.mono _ _
      | exact spec_GetBig.mono _ _
      | exact spec_GetDec.mono _ _
      | exact spec_GetHex.mono _ _
      | exact spec_GetOct.mono _ _
      | exact LeO.none _
      | refine LeO.ite ?_ ?_
      | refine LeO.bind ?_ (fun _ => ?_)
    · intro y0 y1 y2 y3 y4 y5 y6 y7 y8 y9
      unfold laws_FnReads.j1
      repeat' first
      | (with_reducible exact ih0 _ _ _ _ _ _ _ _ _ _ _ _ _)
      | (with_reducible exact ih1 _ _ _ _ _ _ _ _ _ _)
      | (with_reducible exact ih2 _ _ _ _ _ _ _)
      | (with_reducible exact impl_GetBig.mono _ _)
      | (with_reducible exact impl_PutBig.mono _ _ _)
      | (with_reducible exact spec_DrawGetBig.mono _ _)
      | (with_reducible exact spec_DrawGetDec.mono _ _)
      | (with_reducible exact spec_DrawGetHex.mono _ _)
      | (with_reducible exact spec_DrawGetOct.mono _ _)
      | (with_reducible exact spec_GetBig.mono _ _)
      | (with_reducible exact spec_GetDec.mono _ _)
      | (with_reducible exact spec_GetHex.mono _ _)
      | (with_reducible exact spec_GetOct.mono _ _)
      | (with_reducible exact LeO.refl _)
      | (with_reducible exact LeO.none _)
      | (with_reducible refine LeO.ite ?_ ?_)
      | (with_reducible refine LeO.bind ?_ (fun _ => ?_))
      | exact ih0 _ _ _ _ _ _ _ _ _ _ _ _ _
      | exact ih1 _ _ _ _ _ _ _ _ _ _
      | exact ih2 _ _ _ _ _ _ _
      | exact impl_GetBig.mono _ _
      | exact impl_PutBig.mono _ _ _
      | exact spec_DrawGetBig.mono _ _
      | exact spec_DrawGetDec.mono _ _
      | exact spec_DrawGetHex.mono _ _
      | exact spec_DrawGetOct.mono _ _
      | exact spec_GetBig.mono _ _
      | exact spec_GetDec.mono _ _
      | exact spec_GetHex.mono _ _
      | exact spec_GetOct.mono _ _
      | exact LeO.none _
      | refine LeO.ite ?_ ?_
      | refine LeO.bind ?_ (fun _ => ?_)
    · intro y0 y1 y2 y3 y4 y5 y6
      unfold laws_FnReads.j2
      repeat' first
      | (with_reducible exact ih0 _ _ _ _ _ _ _ _ _ _ _ _ _)
      | (with_reducible exact ih1 _ _ _ _ _ _ _ _ _ _)
      | (with_reducible exact ih2 _ _ _ _ _ _ _)
      | (with_reducible exact impl_GetBig.mono _ _)
      | (with_reducible exact impl_PutBig.mono _ _ _)
      | (with_reducible exact spec_DrawGetBig.mono _ _)
      | (with_reducible exact spec_DrawGetDec.mono _ _)
      | (with_reducible exact spec_DrawGetHex.mono _ _)
      | (with_reducible exact spec_DrawGetOct.mono _ _)
      | (with_reducible exact spec_GetBig.mono _ _)
      | (with_reducible exact spec_GetDec.mono _ _)
      | (with_reducible exact spec_GetHex.mono _ _)
      | (with_reducible exact spec_GetOct.mono _ _)
      | (with_reducible exact LeO.refl _)
      | (with_reducible exact LeO.none _)
      | (with_reducible refine LeO.ite ?_ ?_)
      | (with_reducible refine LeO.bind ?_ (fun _ => ?_))
      | exact ih0 _ _ _ _ _ _ _ _ _ _ _ _ _
      | exact ih1 _ _ _ _ _ _ _ _ _ _
      | exact ih2 _ _ _ _ _ _ _
      | exact impl_GetBig.mono _ _
      | exact impl_PutBig.mono _ _ _
      | exact spec_DrawGetBig.mono _ _
      | exact spec_DrawGetDec.mono _ _
      | exact spec_DrawGetHex.mono _ _
      | exact spec_DrawGetOct.mono _ _
      | exact spec_GetBig.mono _ _
      | exact spec_GetDec.mono _ _
      | exact spec_GetHex.mono _ _
      | exact spec_GetOct.mono _ _
      | exact LeO.none _
      | refine LeO.ite ?_ ?_
      | refine LeO.bind ?_ (fun _ => ?_)
theorem laws_FnReads.mono : ∀ a0 k, LeO (laws_FnReads.f k a0) (laws_FnReads.f (k + 1) a0) := by
  intro a0 k
  obtain ⟨ih0, ih1, ih2⟩ := laws_FnReads.mono_l k
  unfold laws_FnReads.f
  repeat' first
      | (with_reducible exact ih0 _ _ _ _ _ _ _ _ _ _ _ _ _)
      | (with_reducible exact ih1 _ _ _ _ _ _ _ _ _ _)
      | (with_reducible exact ih2 _ _ _ _ _ _ _)
      | (with_reducible exact impl_GetBig.mono _ _)
      | (with_reducible exact impl_PutBig.mono _ _ _)
      | (with_reducible exact spec_DrawGetBig.mono _ _)
      | (with_reducible exact spec_DrawGetDec.mono _ _)
      | (with_reducible exact spec_DrawGetHex.mono _ _)
      | (with_reducible exact spec_DrawGetOct.mono _ _)
      | (with_reducible exact spec_GetBig.mono _ _)
      | (with_reducible exact spec_GetDec.mono _ _)
      | (with_reducible exact spec_GetHex.mono _ _)
      | (with_reducible exact spec_GetOct.mono _ _)
      | (with_reducible exact LeO.refl _)
      | (with_reducible exact LeO.none _)
      | (with_reducible refine LeO.ite ?_ ?_)
      | (with_reducible refine LeO.bind ?_ (fun _ => ?_))
      | exact ih0 _ _ _ _ _ _ _ _ _ _ _ _ _
      | exact ih1 _ _ _ _ _ _ _ _ _ _
      | exact ih2 _ _ _ _ _ _ _
      | exact impl_GetBig.mono _ _
      | exact impl_PutBig.mono _ _ _
      | exact spec_DrawGetBig.mono _ _
      | exact spec_DrawGetDec.mono _ _
      | exact spec_DrawGetHex.mono _ _
      | exact spec_DrawGetOct.mono _ _
      | exact spec_GetBig.mono _ _
      | exact spec_GetDec.mono _ _
      | exact spec_GetHex.mono _ _
      | exact spec_GetOct.mono _ _
      | exact LeO.none _
      | refine LeO.ite ?_ ?_
      | refine LeO.bind ?_ (fun _ => ?_)
set_option maxHeartbeats 8000000 in
set_option maxRecDepth 100000 in
theorem laws_FnReads.calls (k : Nat) (A0 : Option Addr) (c0 : Nat) (l0 : List Int) (r : Bool) (w : World) (hr0 : Kd.C (Kd.int .u8) w A0 l0.length l0) (hc0 : l0.length ≤ c0) (h : laws_FnReads.f k l0 = some r) (hL : Tabs w) :
    Calls Tryz.prog 3 #[.slice A0 l0.length c0] w fun e w' => e = .returned (.bool r) ∧ Below w.heap.size w w' := by
  have HL := Aside0.mk hL
  clear hL
  have HR0 := Aside0.mk hr0
  have HC0 := Aside0.mk hc0
  clear hr0 hc0
  have HB := Aside0.mk (Below.refl w.heap.size w)
  have H : ((laws_big.f l0).bind fun t275 => (if t275 = true then (some true) else ((spec_DrawGetOct.f k l0).bind fun t276 => ((impl_GetOct.f t276).bind fun bt277 => ((spec_GetOct.f k t276).bind fun bt279 => ((spec_DrawGetHex.f k l0).bind fun t281 => ((impl_GetHex.f t281).bind fun bt282 => ((spec_GetHex.f k t281).bind fun bt284 => ((spec_DrawGetDec.f k l0).bind fun t286 => ((impl_GetDec.f t286).bind fun bt287 => ((spec_GetDec.f k t286).bind fun bt289 => ((spec_DrawGetBig.f k l0).bind fun t291 => ((impl_GetBig.f k t291).bind fun bt292 => ((spec_GetBig.f k t291).bind fun bt294 => (if bt277.1 = bt279.1 then (if (bt277.2 != bt279.2) = true then (laws_FnReads.j0 k t276 bt277.1 bt277.2 t281 bt282.1 bt282.2 t286 bt287.1 bt287.2 t291 bt292.1 bt292.2 true) else (if bt282.1 = bt284.1 then (if (bt282.2 != bt284.2) = true then (laws_FnReads.j0 k t276 bt277.1 bt277.2 t281 bt282.1 bt282.2 t286 bt287.1 bt287.2 t291 bt292.1 bt292.2 true) else (if bt287.1 = bt289.1 then (if (bt287.2 != bt289.2) = true then (laws_FnReads.j0 k t276 bt277.1 bt277.2 t281 bt282.1 bt282.2 t286 bt287.1 bt287.2 t291 bt292.1 bt292.2 true) else (if bt292.1 = bt294.1 then (laws_FnReads.j0 k t276 bt277.1 bt277.2 t281 bt282.1 bt282.2 t286 bt287.1 bt287.2 t291 bt292.1 bt292.2 (bt292.2 != bt294.2)) else (laws_FnReads.j0 k t276 bt277.1 bt277.2 t281 bt282.1 bt282.2 t286 bt287.1 bt287.2 t291 bt292.1 bt292.2 true))) else (laws_FnReads.j0 k t276 bt277.1 bt277.2 t281 bt282.1 bt282.2 t286 bt287.1 bt287.2 t291 bt292.1 bt292.2 true))) else (laws_FnReads.j0 k t276 bt277.1 bt277.2 t281 bt282.1 bt282.2 t286 bt287.1 bt287.2 t291 bt292.1 bt292.2 true))) else (laws_FnReads.j0 k t276 bt277.1 bt277.2 t281 bt282.1 bt282.2 t286 bt287.1 bt287.2 t291 bt292.1 bt292.2 true)))))))))))))))) = some r := h
  clear h
  replace H := Option.bind_eq_some_iff.mp H
  obtain ⟨t275, A20, H⟩ := H
  replace H : (if t275 = true then (some true) else ((spec_DrawGetOct.f k l0).bind fun t276 => ((impl_GetOct.f t276).bind fun bt277 => ((spec_GetOct.f k t276).bind fun bt279 => ((spec_DrawGetHex.f k l0).bind fun t281 => ((impl_GetHex.f t281).bind fun bt282 => ((spec_GetHex.f k t281).bind fun bt284 => ((spec_DrawGetDec.f k l0).bind fun t286 => ((impl_GetDec.f t286).bind fun bt287 => ((spec_GetDec.f k t286).bind fun bt289 => ((spec_DrawGetBig.f k l0).bind fun t291 => ((impl_GetBig.f k t291).bind fun bt292 => ((spec_GetBig.f k t291).bind fun bt294 => (if bt277.1 = bt279.1 then (if (bt277.2 != bt279.2) = true then (laws_FnReads.j0 k t276 bt277.1 bt277.2 t281 bt282.1 bt282.2 t286 bt287.1 bt287.2 t291 bt292.1 bt292.2 true) else (if bt282.1 = bt284.1 then (if (bt282.2 != bt284.2) = true then (laws_FnReads.j0 k t276 bt277.1 bt277.2 t281 bt282.1 bt282.2 t286 bt287.1 bt287.2 t291 bt292.1 bt292.2 true) else (if bt287.1 = bt289.1 then (if (bt287.2 != bt289.2) = true then (laws_FnReads.j0 k t276 bt277.1 bt277.2 t281 bt282.1 bt282.2 t286 bt287.1 bt287.2 t291 bt292.1 bt292.2 true) else (if bt292.1 = bt294.1 then (laws_FnReads.j0 k t276 bt277.1 bt277.2 t281 bt282.1 bt282.2 t286 bt287.1 bt287.2 t291 bt292.1 bt292.2 (bt292.2 != bt294.2)) else (laws_FnReads.j0 k t276 bt277.1 bt277.2 t281 bt282.1 bt282.2 t286 bt287.1 bt287.2 t291 bt292.1 bt292.2 true))) else (laws_FnReads.j0 k t276 bt277.1 bt277.2 t281 bt282.1 bt282.2 t286 bt287.1 bt287.2 t291 bt292.1 bt292.2 true))) else (laws_FnReads.j0 k t276 bt277.1 bt277.2 t281 bt282.1 bt282.2 t286 bt287.1 bt287.2 t291 bt292.1 bt292.2 true))) else (laws_FnReads.j0 k t276 bt277.1 bt277.2 t281 bt282.1 bt282.2 t286 bt287.1 bt287.2 t291 bt292.1 bt292.2 true))))))))))))))) = some r := H
  have A2 := Aside0.mk A20
  clear A20
  by_cases c3 : t275 = true
  · subst c3
    have H1 : (some true) = some r := by rw [if_pos rfl] at H; exact H
    clear H
    have H := H1
    clear H1
    obtain rfl := Option.some.inj H
    go_enter Tryz.func3, Tryz.ntmps3
    go_wp2_with (first | ((with_reducible refine gate_callee (f := 7) rfl ?_); refine goesL_ (some 26) rfl rfl Tryz.func7 (by kernel_rfl) rfl #[.slice A0 l0.length c0] rfl (by (try simp only [List.map_toArray, List.map_cons, List.map_nil]); first | done | rfl | (simp only [List.length_drop, List.length_take]; rfl)) ?_; (with_reducible refine (laws_big.calls _ _ l0 true _ ?side1 ?side2 A2.out).mono ?_); (case side1 => repeat (first | exact HR0.out | (with_reducible refine Kd.C_alloc ?_ _) | (with_reducible refine Kd.C_drewN ?_ _) | (with_reducible refine Kd.C_drew ?_))); (case side2 => exact HC0.out); rintro e w' ⟨rfl, ⟨nd, rfl⟩⟩; refine ⟨_, rfl, ?_⟩))
    go_ret
    exact ⟨by first | rfl | (simp [errW_none, errW_some] <;> rfl) | (simp [*, errW_none, errW_some] <;> rfl) | (simp only [decide_eq_true_eq] at *; simp [*, bt]; done), by repeat (first | (with_reducible first | exact HB.out | apply below_alloc | apply pw_below_drewN | apply below_drew1) | exact HB.out)⟩
  · replace c3 := Bool.eq_false_iff.mpr c3
    subst c3
    have H1 : ((spec_DrawGetOct.f k l0).bind fun t276 => ((impl_GetOct.f t276).bind fun bt277 => ((spec_GetOct.f k t276).bind fun bt279 => ((spec_DrawGetHex.f k l0).bind fun t281 => ((impl_GetHex.f t281).bind fun bt282 => ((spec_GetHex.f k t281).bind fun bt284 => ((spec_DrawGetDec.f k l0).bind fun t286 => ((impl_GetDec.f t286).bind fun bt287 => ((spec_GetDec.f k t286).bind fun bt289 => ((spec_DrawGetBig.f k l0).bind fun t291 => ((impl_GetBig.f k t291).bind fun bt292 => ((spec_GetBig.f k t291).bind fun bt294 => (if bt277.1 = bt279.1 then (if (bt277.2 != bt279.2) = true then (laws_FnReads.j0 k t276 bt277.1 bt277.2 t281 bt282.1 bt282.2 t286 bt287.1 bt287.2 t291 bt292.1 bt292.2 true) else (if bt282.1 = bt284.1 then (if (bt282.2 != bt284.2) = true then (laws_FnReads.j0 k t276 bt277.1 bt277.2 t281 bt282.1 bt282.2 t286 bt287.1 bt287.2 t291 bt292.1 bt292.2 true) else (if bt287.1 = bt289.1 then (if (bt287.2 != bt289.2) = true then (laws_FnReads.j0 k t276 bt277.1 bt277.2 t281 bt282.1 bt282.2 t286 bt287.1 bt287.2 t291 bt292.1 bt292.2 true) else (if bt292.1 = bt294.1 then (laws_FnReads.j0 k t276 bt277.1 bt277.2 t281 bt282.1 bt282.2 t286 bt287.1 bt287.2 t291 bt292.1 bt292.2 (bt292.2 != bt294.2)) else (laws_FnReads.j0 k t276 bt277.1 bt277.2 t281 bt282.1 bt282.2 t286 bt287.1 bt287.2 t291 bt292.1 bt292.2 true))) else (laws_FnReads.j0 k t276 bt277.1 bt277.2 t281 bt282.1 bt282.2 t286 bt287.1 bt287.2 t291 bt292.1 bt292.2 true))) else (laws_FnReads.j0 k t276 bt277.1 bt277.2 t281 bt282.1 bt282.2 t286 bt287.1 bt287.2 t291 bt292.1 bt292.2 true))) else (laws_FnReads.j0 k t276 bt277.1 bt277.2 t281 bt282.1 bt282.2 t286 bt287.1 bt287.2 t291 bt292.1 bt292.2 true)))))))))))))) = some r := by rw [if_neg (show ¬ (false = true) by decide)] at H; exact H
    clear H
    have H := H1
    clear H1
    replace H := Option.bind_eq_some_iff.mp H
    obtain ⟨t276, A40, H⟩ := H
    replace H : ((impl_GetOct.f t276).bind fun bt277 => ((spec_GetOct.f k t276).bind fun bt279 => ((spec_DrawGetHex.f k l0).bind fun t281 => ((impl_GetHex.f t281).bind fun bt282 => ((spec_GetHex.f k t281).bind fun bt284 => ((spec_DrawGetDec.f k l0).bind fun t286 => ((impl_GetDec.f t286).bind fun bt287 => ((spec_GetDec.f k t286).bind fun bt289 => ((spec_DrawGetBig.f k l0).bind fun t291 => ((impl_GetBig.f k t291).bind fun bt292 => ((spec_GetBig.f k t291).bind fun bt294 => (if bt277.1 = bt279.1 then (if (bt277.2 != bt279.2) = true then (laws_FnReads.j0 k t276 bt277.1 bt277.2 t281 bt282.1 bt282.2 t286 bt287.1 bt287.2 t291 bt292.1 bt292.2 true) else (if bt282.1 = bt284.1 then (if (bt282.2 != bt284.2) = true then (laws_FnReads.j0 k t276 bt277.1 bt277.2 t281 bt282.1 bt282.2 t286 bt287.1 bt287.2 t291 bt292.1 bt292.2 true) else (if bt287.1 = bt289.1 then (if (bt287.2 != bt289.2) = true then (laws_FnReads.j0 k t276 bt277.1 bt277.2 t281 bt282.1 bt282.2 t286 bt287.1 bt287.2 t291 bt292.1 bt292.2 true) else (if bt292.1 = bt294.1 then (laws_FnReads.j0 k t276 bt277.1 bt277.2 t281 bt282.1 bt282.2 t286 bt287.1 bt287.2 t291 bt292.1 bt292.2 (bt292.2 != bt294.2)) else (laws_FnReads.j0 k t276 bt277.1 bt277.2 t281 bt282.1 bt282.2 t286 bt287.1 bt287.2 t291 bt292.1 bt292.2 true))) else (laws_FnReads.j0 k t276 bt277.1 bt277.2 t281 bt282.1 bt282.2 t286 bt287.1 bt287.2 t291 bt292.1 bt292.2 true))) else (laws_FnReads.j0 k t276 bt277.1 bt277.2 t281 bt282.1 bt282.2 t286 bt287.1 bt287.2 t291 bt292.1 bt292.2 true))) else (laws_FnReads.j0 k t276 bt277.1 bt277.2 t281 bt282.1 bt282.2 t286 bt287.1 bt287.2 t291 bt292.1 bt292.2 true))))))))))))) = some r := H
    have A4 := Aside0.mk A40
    clear A40
    replace H := Option.bind_eq_some_iff.mp H
    obtain ⟨⟨t277, t278⟩, A50, H⟩ := H
    replace H : ((spec_GetOct.f k t276).bind fun bt279 => ((spec_DrawGetHex.f k l0).bind fun t281 => ((impl_GetHex.f t281).bind fun bt282 => ((spec_GetHex.f k t281).bind fun bt284 => ((spec_DrawGetDec.f k l0).bind fun t286 => ((impl_GetDec.f t286).bind fun bt287 => ((spec_GetDec.f k t286).bind fun bt289 => ((spec_DrawGetBig.f k l0).bind fun t291 => ((impl_GetBig.f k t291).bind fun bt292 => ((spec_GetBig.f k t291).bind fun bt294 => (if t277 = bt279.1 then (if (t278 != bt279.2) = true then (laws_FnReads.j0 k t276 t277 t278 t281 bt282.1 bt282.2 t286 bt287.1 bt287.2 t291 bt292.1 bt292.2 true) else (if bt282.1 = bt284.1 then (if (bt282.2 != bt284.2) = true then (laws_FnReads.j0 k t276 t277 t278 t281 bt282.1 bt282.2 t286 bt287.1 bt287.2 t291 bt292.1 bt292.2 true) else (if bt287.1 = bt289.1 then (if (bt287.2 != bt289.2) = true then (laws_FnReads.j0 k t276 t277 t278 t281 bt282.1 bt282.2 t286 bt287.1 bt287.2 t291 bt292.1 bt292.2 true) else (if bt292.1 = bt294.1 then (laws_FnReads.j0 k t276 t277 t278 t281 bt282.1 bt282.2 t286 bt287.1 bt287.2 t291 bt292.1 bt292.2 (bt292.2 != bt294.2)) else (laws_FnReads.j0 k t276 t277 t278 t281 bt282.1 bt282.2 t286 bt287.1 bt287.2 t291 bt292.1 bt292.2 true))) else (laws_FnReads.j0 k t276 t277 t278 t281 bt282.1 bt282.2 t286 bt287.1 bt287.2 t291 bt292.1 bt292.2 true))) else (laws_FnReads.j0 k t276 t277 t278 t281 bt282.1 bt282.2 t286 bt287.1 bt287.2 t291 bt292.1 bt292.2 true))) else (laws_FnReads.j0 k t276 t277 t278 t281 bt282.1 bt282.2 t286 bt287.1 bt287.2 t291 bt292.1 bt292.2 true)))))))))))) = some r := H
    have A5 := Aside0.mk A50
    clear A50
    replace H := Option.bind_eq_some_iff.mp H
    obtain ⟨⟨t279, t280⟩, A60, H⟩ := H
    replace H : ((spec_DrawGetHex.f k l0).bind fun t281 => ((impl_GetHex.f t281).bind fun bt282 => ((spec_GetHex.f k t281).bind fun bt284 => ((spec_DrawGetDec.f k l0).bind fun t286 => ((impl_GetDec.f t286).bind fun bt287 => ((spec_GetDec.f k t286).bind fun bt289 => ((spec_DrawGetBig.f k l0).bind fun t291 => ((impl_GetBig.f k t291).bind fun bt292 => ((spec_GetBig.f k t291).bind fun bt294 => (if t277 = t279 then (if (t278 != t280) = true then (laws_FnReads.j0 k t276 t277 t278 t281 bt282.1 bt282.2 t286 bt287.1 bt287.2 t291 bt292.1 bt292.2 true) else (if bt282.1 = bt284.1 then (if (bt282.2 != bt284.2) = true then (laws_FnReads.j0 k t276 t277 t278 t281 bt282.1 bt282.2 t286 bt287.1 bt287.2 t291 bt292.1 bt292.2 true) else (if bt287.1 = bt289.1 then (if (bt287.2 != bt289.2) = true then (laws_FnReads.j0 k t276 t277 t278 t281 bt282.1 bt282.2 t286 bt287.1 bt287.2 t291 bt292.1 bt292.2 true) else (if bt292.1 = bt294.1 then (laws_FnReads.j0 k t276 t277 t278 t281 bt282.1 bt282.2 t286 bt287.1 bt287.2 t291 bt292.1 bt292.2 (bt292.2 != bt294.2)) else (laws_FnReads.j0 k t276 t277 t278 t281 bt282.1 bt282.2 t286 bt287.1 bt287.2 t291 bt292.1 bt292.2 true))) else (laws_FnReads.j0 k t276 t277 t278 t281 bt282.1 bt282.2 t286 bt287.1 bt287.2 t291 bt292.1 bt292.2 true))) else (laws_FnReads.j0 k t276 t277 t278 t281 bt282.1 bt282.2 t286 bt287.1 bt287.2 t291 bt292.1 bt292.2 true))) else (laws_FnReads.j0 k t276 t277 t278 t281 bt282.1 bt282.2 t286 bt287.1 bt287.2 t291 bt292.1 bt292.2 true))))))))))) = some r := H
    have A6 := Aside0.mk A60
    clear A60
    replace H := Option.bind_eq_some_iff.mp H
    obtain ⟨t281, A70, H⟩ := H
    replace H : ((impl_GetHex.f t281).bind fun bt282 => ((spec_GetHex.f k t281).bind fun bt284 => ((spec_DrawGetDec.f k l0).bind fun t286 => ((impl_GetDec.f t286).bind fun bt287 => ((spec_GetDec.f k t286).bind fun bt289 => ((spec_DrawGetBig.f k l0).bind fun t291 => ((impl_GetBig.f k t291).bind fun bt292 => ((spec_GetBig.f k t291).bind fun bt294 => (if t277 = t279 then (if (t278 != t280) = true then (laws_FnReads.j0 k t276 t277 t278 t281 bt282.1 bt282.2 t286 bt287.1 bt287.2 t291 bt292.1 bt292.2 true) else (if bt282.1 = bt284.1 then (if (bt282.2 != bt284.2) = true then (laws_FnReads.j0 k t276 t277 t278 t281 bt282.1 bt282.2 t286 bt287.1 bt287.2 t291 bt292.1 bt292.2 true) else (if bt287.1 = bt289.1 then (if (bt287.2 != bt289.2) = true then (laws_FnReads.j0 k t276 t277 t278 t281 bt282.1 bt282.2 t286 bt287.1 bt287.2 t291 bt292.1 bt292.2 true) else (if bt292.1 = bt294.1 then (laws_FnReads.j0 k t276 t277 t278 t281 bt282.1 bt282.2 t286 bt287.1 bt287.2 t291 bt292.1 bt292.2 (bt292.2 != bt294.2)) else (laws_FnReads.j0 k t276 t277 t278 t281 bt282.1 bt282.2 t286 bt287.1 bt287.2 t291 bt292.1 bt292.2 true))) else (laws_FnReads.j0 k t276 t277 t278 t281 bt282.1 bt282.2 t286 bt287.1 bt287.2 t291 bt292.1 bt292.2 true))) else (laws_FnReads.j0 k t276 t277 t278 t281 bt282.1 bt282.2 t286 bt287.1 bt287.2 t291 bt292.1 bt292.2 true))) else (laws_FnReads.j0 k t276 t277 t278 t281 bt282.1 bt282.2 t286 bt287.1 bt287.2 t291 bt292.1 bt292.2 true)))))))))) = some r := H
    have A7 := Aside0.mk A70
    clear A70
    replace H := Option.bind_eq_some_iff.mp H
    obtain ⟨⟨t282, t283⟩, A80, H⟩ := H
    replace H : ((spec_GetHex.f k t281).bind fun bt284 => ((spec_DrawGetDec.f k l0).bind fun t286 => ((impl_GetDec.f t286).bind fun bt287 => ((spec_GetDec.f k t286).bind fun bt289 => ((spec_DrawGetBig.f k l0).bind fun t291 => ((impl_GetBig.f k t291).bind fun bt292 => ((spec_GetBig.f k t291).bind fun bt294 => (if t277 = t279 then (if (t278 != t280) = true then (laws_FnReads.j0 k t276 t277 t278 t281 t282 t283 t286 bt287.1 bt287.2 t291 bt292.1 bt292.2 true) else (if t282 = bt284.1 then (if (t283 != bt284.2) = true then (laws_FnReads.j0 k t276 t277 t278 t281 t282 t283 t286 bt287.1 bt287.2 t291 bt292.1 bt292.2 true) else (if bt287.1 = bt289.1 then (if (bt287.2 != bt289.2) = true then (laws_FnReads.j0 k t276 t277 t278 t281 t282 t283 t286 bt287.1 bt287.2 t291 bt292.1 bt292.2 true) else (if bt292.1 = bt294.1 then (laws_FnReads.j0 k t276 t277 t278 t281 t282 t283 t286 bt287.1 bt287.2 t291 bt292.1 bt292.2 (bt292.2 != bt294.2)) else (laws_FnReads.j0 k t276 t277 t278 t281 t282 t283 t286 bt287.1 bt287.2 t291 bt292.1 bt292.2 true))) else (laws_FnReads.j0 k t276 t277 t278 t281 t282 t283 t286 bt287.1 bt287.2 t291 bt292.1 bt292.2 true))) else (laws_FnReads.j0 k t276 t277 t278 t281 t282 t283 t286 bt287.1 bt287.2 t291 bt292.1 bt292.2 true))) else (laws_FnReads.j0 k t276 t277 t278 t281 t282 t283 t286 bt287.1 bt287.2 t291 bt292.1 bt292.2 true))))))))) = some r := H
    have A8 := Aside0.mk A80
    clear A80
    replace H := Option.bind_eq_some_iff.mp H
    obtain ⟨⟨t284, t285⟩, A90, H⟩ := H
    replace H : ((spec_DrawGetDec.f k l0).bind fun t286 => ((impl_GetDec.f t286).bind fun bt287 => ((spec_GetDec.f k t286).bind fun bt289 => ((spec_DrawGetBig.f k l0).bind fun t291 => ((impl_GetBig.f k t291).bind fun bt292 => ((spec_GetBig.f k t291).bind fun bt294 => (if t277 = t279 then (if (t278 != t280) = true then (laws_FnReads.j0 k t276 t277 t278 t281 t282 t283 t286 bt287.1 bt287.2 t291 bt292.1 bt292.2 true) else (if t282 = t284 then (if (t283 != t285) = true then (laws_FnReads.j0 k t276 t277 t278 t281 t282 t283 t286 bt287.1 bt287.2 t291 bt292.1 bt292.2 true) else (if bt287.1 = bt289.1 then (if (bt287.2 != bt289.2) = true then (laws_FnReads.j0 k t276 t277 t278 t281 t282 t283 t286 bt287.1 bt287.2 t291 bt292.1 bt292.2 true) else (if bt292.1 = bt294.1 then (laws_FnReads.j0 k t276 t277 t278 t281 t282 t283 t286 bt287.1 bt287.2 t291 bt292.1 bt292.2 (bt292.2 != bt294.2)) else (laws_FnReads.j0 k t276 t277 t278 t281 t282 t283 t286 bt287.1 bt287.2 t291 bt292.1 bt292.2 true))) else (laws_FnReads.j0 k t276 t277 t278 t281 t282 t283 t286 bt287.1 bt287.2 t291 bt292.1 bt292.2 true))) else (laws_FnReads.j0 k t276 t277 t278 t281 t282 t283 t286 bt287.1 bt287.2 t291 bt292.1 bt292.2 true))) else (laws_FnReads.j0 k t276 t277 t278 t281 t282 t283 t286 bt287.1 bt287.2 t291 bt292.1 bt292.2 true)))))))) = some r := H
    have A9 := Aside0.mk A90
    clear A90
    replace H := Option.bind_eq_some_iff.mp H
    obtain ⟨t286, A100, H⟩ := H
    replace H : ((impl_GetDec.f t286).bind fun bt287 => ((spec_GetDec.f k t286).bind fun bt289 => ((spec_DrawGetBig.f k l0).bind fun t291 => ((impl_GetBig.f k t291).bind fun bt292 => ((spec_GetBig.f k t291).bind fun bt294 => (if t277 = t279 then (if (t278 != t280) = true then (laws_FnReads.j0 k t276 t277 t278 t281 t282 t283 t286 bt287.1 bt287.2 t291 bt292.1 bt292.2 true) else (if t282 = t284 then (if (t283 != t285) = true then (laws_FnReads.j0 k t276 t277 t278 t281 t282 t283 t286 bt287.1 bt287.2 t291 bt292.1 bt292.2 true) else (if bt287.1 = bt289.1 then (if (bt287.2 != bt289.2) = true then (laws_FnReads.j0 k t276 t277 t278 t281 t282 t283 t286 bt287.1 bt287.2 t291 bt292.1 bt292.2 true) else (if bt292.1 = bt294.1 then (laws_FnReads.j0 k t276 t277 t278 t281 t282 t283 t286 bt287.1 bt287.2 t291 bt292.1 bt292.2 (bt292.2 != bt294.2)) else (laws_FnReads.j0 k t276 t277 t278 t281 t282 t283 t286 bt287.1 bt287.2 t291 bt292.1 bt292.2 true))) else (laws_FnReads.j0 k t276 t277 t278 t281 t282 t283 t286 bt287.1 bt287.2 t291 bt292.1 bt292.2 true))) else (laws_FnReads.j0 k t276 t277 t278 t281 t282 t283 t286 bt287.1 bt287.2 t291 bt292.1 bt292.2 true))) else (laws_FnReads.j0 k t276 t277 t278 t281 t282 t283 t286 bt287.1 bt287.2 t291 bt292.1 bt292.2 true))))))) = some r := H
    have A10 := Aside0.mk A100
    clear A100
    replace H := Option.bind_eq_some_iff.mp H
    obtain ⟨⟨t287, t288⟩, A110, H⟩ := H
    replace H : ((spec_GetDec.f k t286).bind fun bt289 => ((spec_DrawGetBig.f k l0).bind fun t291 => ((impl_GetBig.f k t291).bind fun bt292 => ((spec_GetBig.f k t291).bind fun bt294 => (if t277 = t279 then (if (t278 != t280) = true then (laws_FnReads.j0 k t276 t277 t278 t281 t282 t283 t286 t287 t288 t291 bt292.1 bt292.2 true) else (if t282 = t284 then (if (t283 != t285) = true then (laws_FnReads.j0 k t276 t277 t278 t281 t282 t283 t286 t287 t288 t291 bt292.1 bt292.2 true) else (if t287 = bt289.1 then (if (t288 != bt289.2) = true then (laws_FnReads.j0 k t276 t277 t278 t281 t282 t283 t286 t287 t288 t291 bt292.1 bt292.2 true) else (if bt292.1 = bt294.1 then (laws_FnReads.j0 k t276 t277 t278 t281 t282 t283 t286 t287 t288 t291 bt292.1 bt292.2 (bt292.2 != bt294.2)) else (laws_FnReads.j0 k t276 t277 t278 t281 t282 t283 t286 t287 t288 t291 bt292.1 bt292.2 true))) else (laws_FnReads.j0 k t276 t277 t278 t281 t282 t283 t286 t287 t288 t291 bt292.1 bt292.2 true))) else (laws_FnReads.j0 k t276 t277 t278 t281 t282 t283 t286 t287 t288 t291 bt292.1 bt292.2 true))) else (laws_FnReads.j0 k t276 t277 t278 t281 t282 t283 t286 t287 t288 t291 bt292.1 bt292.2 true)))))) = some r := H
    have A11 := Aside0.mk A110
    clear A110
    replace H := Option.bind_eq_some_iff.mp H
    obtain ⟨⟨t289, t290⟩, A120, H⟩ := H
    replace H : ((spec_DrawGetBig.f k l0).bind fun t291 => ((impl_GetBig.f k t291).bind fun bt292 => ((spec_GetBig.f k t291).bind fun bt294 => (if t277 = t279 then (if (t278 != t280) = true then (laws_FnReads.j0 k t276 t277 t278 t281 t282 t283 t286 t287 t288 t291 bt292.1 bt292.2 true) else (if t282 = t284 then (if (t283 != t285) = true then (laws_FnReads.j0 k t276 t277 t278 t281 t282 t283 t286 t287 t288 t291 bt292.1 bt292.2 true) else (if t287 = t289 then (if (t288 != t290) = true then (laws_FnReads.j0 k t276 t277 t278 t281 t282 t283 t286 t287 t288 t291 bt292.1 bt292.2 true) else (if bt292.1 = bt294.1 then (laws_FnReads.j0 k t276 t277 t278 t281 t282 t283 t286 t287 t288 t291 bt292.1 bt292.2 (bt292.2 != bt294.2)) else (laws_FnReads.j0 k t276 t277 t278 t281 t282 t283 t286 t287 t288 t291 bt292.1 bt292.2 true))) else (laws_FnReads.j0 k t276 t277 t278 t281 t282 t283 t286 t287 t288 t291 bt292.1 bt292.2 true))) else (laws_FnReads.j0 k t276 t277 t278 t281 t282 t283 t286 t287 t288 t291 bt292.1 bt292.2 true))) else (laws_FnReads.j0 k t276 t277 t278 t281 t282 t283 t286 t287 t288 t291 bt292.1 bt292.2 true))))) = some r := H
    have A12 := Aside0.mk A120
    clear A120
    replace H := Option.bind_eq_some_iff.mp H
    obtain ⟨t291, A130, H⟩ := H
    replace H : ((impl_GetBig.f k t291).bind fun bt292 => ((spec_GetBig.f k t291).bind fun bt294 => (if t277 = t279 then (if (t278 != t280) = true then (laws_FnReads.j0 k t276 t277 t278 t281 t282 t283 t286 t287 t288 t291 bt292.1 bt292.2 true) else (if t282 = t284 then (if (t283 != t285) = true then (laws_FnReads.j0 k t276 t277 t278 t281 t282 t283 t286 t287 t288 t291 bt292.1 bt292.2 true) else (if t287 = t289 then (if (t288 != t290) = true then (laws_FnReads.j0 k t276 t277 t278 t281 t282 t283 t286 t287 t288 t291 bt292.1 bt292.2 true) else (if bt292.1 = bt294.1 then (laws_FnReads.j0 k t276 t277 t278 t281 t282 t283 t286 t287 t288 t291 bt292.1 bt292.2 (bt292.2 != bt294.2)) else (laws_FnReads.j0 k t276 t277 t278 t281 t282 t283 t286 t287 t288 t291 bt292.1 bt292.2 true))) else (laws_FnReads.j0 k t276 t277 t278 t281 t282 t283 t286 t287 t288 t291 bt292.1 bt292.2 true))) else (laws_FnReads.j0 k t276 t277 t278 t281 t282 t283 t286 t287 t288 t291 bt292.1 bt292.2 true))) else (laws_FnReads.j0 k t276 t277 t278 t281 t282 t283 t286 t287 t288 t291 bt292.1 bt292.2 true)))) = some r := H
    have A13 := Aside0.mk A130
    clear A130
    replace H := Option.bind_eq_some_iff.mp H
    obtain ⟨⟨t292, t293⟩, A140, H⟩ := H
    replace H : ((spec_GetBig.f k t291).bind fun bt294 => (if t277 = t279 then (if (t278 != t280) = true then (laws_FnReads.j0 k t276 t277 t278 t281 t282 t283 t286 t287 t288 t291 t292 t293 true) else (if t282 = t284 then (if (t283 != t285) = true then (laws_FnReads.j0 k t276 t277 t278 t281 t282 t283 t286 t287 t288 t291 t292 t293 true) else (if t287 = t289 then (if (t288 != t290) = true then (laws_FnReads.j0 k t276 t277 t278 t281 t282 t283 t286 t287 t288 t291 t292 t293 true) else (if t292 = bt294.1 then (laws_FnReads.j0 k t276 t277 t278 t281 t282 t283 t286 t287 t288 t291 t292 t293 (t293 != bt294.2)) else (laws_FnReads.j0 k t276 t277 t278 t281 t282 t283 t286 t287 t288 t291 t292 t293 true))) else (laws_FnReads.j0 k t276 t277 t278 t281 t282 t283 t286 t287 t288 t291 t292 t293 true))) else (laws_FnReads.j0 k t276 t277 t278 t281 t282 t283 t286 t287 t288 t291 t292 t293 true))) else (laws_FnReads.j0 k t276 t277 t278 t281 t282 t283 t286 t287 t288 t291 t292 t293 true))) = some r := H
    have A14 := Aside0.mk A140
    clear A140
    replace H := Option.bind_eq_some_iff.mp H
    obtain ⟨⟨t294, t295⟩, A150, H⟩ := H
    replace H : (if t277 = t279 then (if (t278 != t280) = true then (laws_FnReads.j0 k t276 t277 t278 t281 t282 t283 t286 t287 t288 t291 t292 t293 true) else (if t282 = t284 then (if (t283 != t285) = true then (laws_FnReads.j0 k t276 t277 t278 t281 t282 t283 t286 t287 t288 t291 t292 t293 true) else (if t287 = t289 then (if (t288 != t290) = true then (laws_FnReads.j0 k t276 t277 t278 t281 t282 t283 t286 t287 t288 t291 t292 t293 true) else (if t292 = t294 then (laws_FnReads.j0 k t276 t277 t278 t281 t282 t283 t286 t287 t288 t291 t292 t293 (t293 != t295)) else (laws_FnReads.j0 k t276 t277 t278 t281 t282 t283 t286 t287 t288 t291 t292 t293 true))) else (laws_FnReads.j0 k t276 t277 t278 t281 t282 t283 t286 t287 t288 t291 t292 t293 true))) else (laws_FnReads.j0 k t276 t277 t278 t281 t282 t283 t286 t287 t288 t291 t292 t293 true))) else (laws_FnReads.j0 k t276 t277 t278 t281 t282 t283 t286 t287 t288 t291 t292 t293 true)) = some r := H
    have A15 := Aside0.mk A150
    clear A150
    have HC16 := Aside0.mk H
    clear H
    go_enter Tryz.func3, Tryz.ntmps3
    go_upto_region 15 with (first | ((with_reducible refine gate_callee (f := 7) rfl ?_); refine goesL_ (some 26) rfl rfl Tryz.func7 (by kernel_rfl) rfl #[.slice A0 l0.length c0] rfl (by (try simp only [List.map_toArray, List.map_cons, List.map_nil]); first | done | rfl | (simp only [List.length_drop, List.length_take]; rfl)) ?_; (with_reducible refine (laws_big.calls _ _ l0 false _ ?side1 ?side2 A2.out).mono ?_); (case side1 => repeat (first | exact HR0.out | (with_reducible refine Kd.C_alloc ?_ _) | (with_reducible refine Kd.C_drewN ?_ _) | (with_reducible refine Kd.C_drew ?_))); (case side2 => exact HC0.out); rintro e w' ⟨rfl, ⟨nd, rfl⟩⟩; refine ⟨_, rfl, ?_⟩) | ((with_reducible refine gate_callee (f := 8) rfl ?_); refine goesL_ (some 28) rfl rfl Tryz.func8 (by kernel_rfl) rfl #[.slice A0 l0.length c0] rfl (by (try simp only [List.map_toArray, List.map_cons, List.map_nil]); first | done | rfl | (simp only [List.length_drop, List.length_take]; rfl)) ?_; (with_reducible refine (spec_DrawGetOct.calls k _ _ l0 t276 _ ?side1 ?side2 A4.out).mono ?_); (case side1 => repeat (first | exact HR0.out | (with_reducible refine Kd.C_alloc ?_ _) | (with_reducible refine Kd.C_drewN ?_ _) | (with_reducible refine Kd.C_drew ?_))); (case side2 => exact HC0.out); rintro e w17 ⟨rfl, hb⟩; refine ⟨_, rfl, ?_⟩; have n0_ := Aside0.mk (below_step (by repeat (first | (with_reducible first | exact HB.out | apply below_alloc | apply pw_below_drewN | apply below_drew1) | exact HB.out)) hb); clear HB; have HB := n0_; clear n0_; (try clear hb); (try clear hb2); (try clear hk); (try clear hi)) | ((with_reducible refine gate_callee (f := 9) rfl ?_); refine goesL_ (some 31) rfl rfl Tryz.func9 (by kernel_rfl) rfl #[.string t276] rfl (by (try simp only [List.map_toArray, List.map_cons, List.map_nil]); first | done | rfl | (simp only [List.length_drop, List.length_take]; rfl)) ?_; (with_reducible refine (impl_GetOct.calls t276 t277 t278 _ A5.out).mono ?_); rintro e w18 ⟨rfl, hb⟩; refine ⟨_, rfl, ?_⟩; have n0_ := Aside0.mk (below_step (by repeat (first | (with_reducible first | exact HB.out | apply below_alloc | apply pw_below_drewN | apply below_drew1) | exact HB.out)) hb); clear HB; have HB := n0_; clear n0_; (try clear hb); (try clear hb2); (try clear hk); (try clear hi)) | ((with_reducible refine gate_callee (f := 10) rfl ?_); refine goesL_ (some 36) rfl rfl Tryz.func10 (by kernel_rfl) rfl #[.string t276] rfl (by (try simp only [List.map_toArray, List.map_cons, List.map_nil]); first | done | rfl | (simp only [List.length_drop, List.length_take]; rfl)) ?_; (with_reducible refine (spec_GetOct.calls k t276 t279 t280 _ A6.out).mono ?_); rintro e w' ⟨rfl, ⟨nd, rfl⟩⟩; refine ⟨_, rfl, ?_⟩) | ((with_reducible refine gate_callee (f := 11) rfl ?_); refine goesL_ (some 40) rfl rfl Tryz.func11 (by kernel_rfl) rfl #[.slice A0 l0.length c0] rfl (by (try simp only [List.map_toArray, List.map_cons, List.map_nil]); first | done | rfl | (simp only [List.length_drop, List.length_take]; rfl)) ?_; (with_reducible refine (spec_DrawGetHex.calls k _ _ l0 t281 _ ?side1 ?side2 A7.out).mono ?_); (case side1 => repeat (first | exact (Kd.C_below HR0.out (by repeat (first | (with_reducible first | exact HB.out | apply below_alloc | apply pw_below_drewN | apply below_drew1) | exact HB.out))) | (with_reducible refine Kd.C_alloc ?_ _) | (with_reducible refine Kd.C_drewN ?_ _) | (with_reducible refine Kd.C_drew ?_))); (case side2 => exact HC0.out); rintro e w19 ⟨rfl, hb⟩; refine ⟨_, rfl, ?_⟩; have n0_ := Aside0.mk (below_step (by repeat (first | (with_reducible first | exact HB.out | apply below_alloc | apply pw_below_drewN | apply below_drew1) | exact HB.out)) hb); clear HB; have HB := n0_; clear n0_; (try clear hb); (try clear hb2); (try clear hk); (try clear hi)) | ((with_reducible refine gate_callee (f := 12) rfl ?_); refine goesL_ (some 43) rfl rfl Tryz.func12 (by kernel_rfl) rfl #[.string t281] rfl (by (try simp only [List.map_toArray, List.map_cons, List.map_nil]); first | done | rfl | (simp only [List.length_drop, List.length_take]; rfl)) ?_; (with_reducible refine (impl_GetHex.calls t281 t282 t283 _ A8.out).mono ?_); rintro e w20 ⟨rfl, hb⟩; refine ⟨_, rfl, ?_⟩; have n0_ := Aside0.mk (below_step (by repeat (first | (with_reducible first | exact HB.out | apply below_alloc | apply pw_below_drewN | apply below_drew1) | exact HB.out)) hb); clear HB; have HB := n0_; clear n0_; (try clear hb); (try clear hb2); (try clear hk); (try clear hi)) | ((with_reducible refine gate_callee (f := 13) rfl ?_); refine goesL_ (some 48) rfl rfl Tryz.func13 (by kernel_rfl) rfl #[.string t281] rfl (by (try simp only [List.map_toArray, List.map_cons, List.map_nil]); first | done | rfl | (simp only [List.length_drop, List.length_take]; rfl)) ?_; (with_reducible refine (spec_GetHex.calls k t281 t284 t285 _ A9.out).mono ?_); rintro e w' ⟨rfl, ⟨nd, rfl⟩⟩; refine ⟨_, rfl, ?_⟩) | ((with_reducible refine gate_callee (f := 14) rfl ?_); refine goesL_ (some 52) rfl rfl Tryz.func14 (by kernel_rfl) rfl #[.slice A0 l0.length c0] rfl (by (try simp only [List.map_toArray, List.map_cons, List.map_nil]); first | done | rfl | (simp only [List.length_drop, List.length_take]; rfl)) ?_; (with_reducible refine (spec_DrawGetDec.calls k _ _ l0 t286 _ ?side1 ?side2 A10.out).mono ?_); (case side1 => repeat (first | exact (Kd.C_below HR0.out (by repeat (first | (with_reducible first | exact HB.out | apply below_alloc | apply pw_below_drewN | apply below_drew1) | exact HB.out))) | (with_reducible refine Kd.C_alloc ?_ _) | (with_reducible refine Kd.C_drewN ?_ _) | (with_reducible refine Kd.C_drew ?_))); (case side2 => exact HC0.out); rintro e w21 ⟨rfl, hb⟩; refine ⟨_, rfl, ?_⟩; have n0_ := Aside0.mk (below_step (by repeat (first | (with_reducible first | exact HB.out | apply below_alloc | apply pw_below_drewN | apply below_drew1) | exact HB.out)) hb); clear HB; have HB := n0_; clear n0_; (try clear hb); (try clear hb2); (try clear hk); (try clear hi)) | ((with_reducible refine gate_callee (f := 15) rfl ?_); refine goesL_ (some 55) rfl rfl Tryz.func15 (by kernel_rfl) rfl #[.string t286] rfl (by (try simp only [List.map_toArray, List.map_cons, List.map_nil]); first | done | rfl | (simp only [List.length_drop, List.length_take]; rfl)) ?_; (with_reducible refine (impl_GetDec.calls t286 t287 t288 _ A11.out (Tabs.below HL.out (by repeat (first | (with_reducible first | exact HB.out | apply below_alloc | apply pw_below_drewN | apply below_drew1) | exact HB.out)))).mono ?_); rintro e w22 ⟨rfl, hb⟩; refine ⟨_, rfl, ?_⟩; have n0_ := Aside0.mk (below_step (by repeat (first | (with_reducible first | exact HB.out | apply below_alloc | apply pw_below_drewN | apply below_drew1) | exact HB.out)) hb); clear HB; have HB := n0_; clear n0_; (try clear hb); (try clear hb2); (try clear hk); (try clear hi)) | ((with_reducible refine gate_callee (f := 16) rfl ?_); refine goesL_ (some 60) rfl rfl Tryz.func16 (by kernel_rfl) rfl #[.string t286] rfl (by (try simp only [List.map_toArray, List.map_cons, List.map_nil]); first | done | rfl | (simp only [List.length_drop, List.length_take]; rfl)) ?_; (with_reducible refine (spec_GetDec.calls k t286 t289 t290 _ A12.out).mono ?_); rintro e w' ⟨rfl, ⟨nd, rfl⟩⟩; refine ⟨_, rfl, ?_⟩) | ((with_reducible refine gate_callee (f := 17) rfl ?_); refine goesL_ (some 64) rfl rfl Tryz.func17 (by kernel_rfl) rfl #[.slice A0 l0.length c0] rfl (by (try simp only [List.map_toArray, List.map_cons, List.map_nil]); first | done | rfl | (simp only [List.length_drop, List.length_take]; rfl)) ?_; (with_reducible refine (spec_DrawGetBig.calls k _ _ l0 t291 _ ?side1 ?side2 A13.out).mono ?_); (case side1 => repeat (first | exact (Kd.C_below HR0.out (by repeat (first | (with_reducible first | exact HB.out | apply below_alloc | apply pw_below_drewN | apply below_drew1) | exact HB.out))) | (with_reducible refine Kd.C_alloc ?_ _) | (with_reducible refine Kd.C_drewN ?_ _) | (with_reducible refine Kd.C_drew ?_))); (case side2 => exact HC0.out); rintro e w23 ⟨rfl, hb⟩; refine ⟨_, rfl, ?_⟩; have n0_ := Aside0.mk (below_step (by repeat (first | (with_reducible first | exact HB.out | apply below_alloc | apply pw_below_drewN | apply below_drew1) | exact HB.out)) hb); clear HB; have HB := n0_; clear n0_; (try clear hb); (try clear hb2); (try clear hk); (try clear hi)) | ((with_reducible refine gate_callee (f := 18) rfl ?_); refine goesL_ (some 67) rfl rfl Tryz.func18 (by kernel_rfl) rfl #[.string t291] rfl (by (try simp only [List.map_toArray, List.map_cons, List.map_nil]); first | done | rfl | (simp only [List.length_drop, List.length_take]; rfl)) ?_; (with_reducible refine (impl_GetBig.calls k t291 t292 t293 _ A14.out).mono ?_); rintro e w' ⟨rfl, ⟨nd, rfl⟩⟩; refine ⟨_, rfl, ?_⟩) | ((with_reducible refine gate_callee (f := 19) rfl ?_); refine goesL_ (some 72) rfl rfl Tryz.func19 (by kernel_rfl) rfl #[.string t291] rfl (by (try simp only [List.map_toArray, List.map_cons, List.map_nil]); first | done | rfl | (simp only [List.length_drop, List.length_take]; rfl)) ?_; (with_reducible refine (spec_GetBig.calls k t291 t294 t295 _ A15.out).mono ?_); rintro e w' ⟨rfl, ⟨nd, rfl⟩⟩; refine ⟨_, rfl, ?_⟩))
    (try simp only [Act.put, List.setIfInBounds_toArray, List.set_cons_zero, List.set_cons_succ])
    go_cut [5, 10, 15, 20, 112] (fun v5 v10 v15 v20 v112 wc => ∃ (kq : Nat) (x5_15 : Bool) (x10_15 : Bool) (x15_15 : Bool) (x20_15 : Bool) (x112_15 : Bool), v5 = .bool x5_15 ∧ v10 = .bool x10_15 ∧ v15 = .bool x15_15 ∧ v20 = .bool x20_15 ∧ v112 = .bool x112_15 ∧ Aside0 (laws_FnReads.j0 kq t276 t277 x5_15 t281 t282 x10_15 t286 t287 x15_15 t291 t292 x20_15 x112_15 = some r) ∧ Aside0 (kq ≤ k) ∧ Aside0 (Below w.heap.size w wc))
    case first => as_aux_lemma =>
      have H := HC16.out
      clear HC16
      by_cases c24 : t277 = t279
      · rw [if_pos c24] at H
        have c24b0 : (t277 == t279) = true := beq_iff_eq.mpr c24
        have c24b1 : (t277 != t279) = false := bne_eq_false_iff_eq.mpr c24
        clear c24
        (first | rw [c24b0] | (simp only [i64_w, i32_w]; rw [c24b0]) | skip)
        by_cases c25 : (t278 != t280) = true
        · rw [if_pos c25] at H
          have c25b0 : (t278 != t280) = true := c25
          (try (have c25b1 : decide (t278 = t280) = false := by simpa using c25))
          (try (have c25b2 : (t278 == t280) = false := by simpa using c25))
          (try (have c25b3 : ¬ (t278 = t280) := by simpa using c25))
          clear c25
          have H' := Aside0.mk H
          clear H
          go_wp2
          go_meet
          case rel => exact ⟨_, (t278), (t283), (t288), (t293), (true), (by first | rfl | (simp; done) | (simp [*]; done)), (by first | rfl | (simp; done) | (simp [*]; done)), (by first | rfl | (simp; done) | (simp [*]; done)), (by first | rfl | (simp; done) | (simp [*]; done)), (by first | rfl | (simp; done) | (simp [*]; done)), H', ⟨by first | omega | exact Nat.le_refl _⟩, ⟨by repeat (first | (with_reducible first | exact HB.out | apply below_alloc | apply pw_below_drewN | apply below_drew1) | exact HB.out)⟩⟩
        · rw [if_neg c25] at H
          have c25b0 : (t278 != t280) = false := by simpa using c25
          (try (have c25b1 : decide (t278 = t280) = true := by simpa using c25))
          (try (have c25b2 : (t278 == t280) = true := by simpa using c25))
          clear c25
          by_cases c26 : t282 = t284
          · rw [if_pos c26] at H
            have c26b0 : (t282 == t284) = true := beq_iff_eq.mpr c26
            have c26b1 : (t282 != t284) = false := bne_eq_false_iff_eq.mpr c26
            clear c26
            by_cases c27 : (t283 != t285) = true
            · rw [if_pos c27] at H
              have c27b0 : (t283 != t285) = true := c27
              (try (have c27b1 : decide (t283 = t285) = false := by simpa using c27))
              (try (have c27b2 : (t283 == t285) = false := by simpa using c27))
              (try (have c27b3 : ¬ (t283 = t285) := by simpa using c27))
              clear c27
              have H' := Aside0.mk H
              clear H
              go_wp2
              go_meet
              case rel => exact ⟨_, (t278), (t283), (t288), (t293), (true), (by first | rfl | (simp; done) | (simp [*]; done)), (by first | rfl | (simp; done) | (simp [*]; done)), (by first | rfl | (simp; done) | (simp [*]; done)), (by first | rfl | (simp; done) | (simp [*]; done)), (by first | rfl | (simp; done) | (simp [*]; done)), H', ⟨by first | omega | exact Nat.le_refl _⟩, ⟨by repeat (first | (with_reducible first | exact HB.out | apply below_alloc | apply pw_below_drewN | apply below_drew1) | exact HB.out)⟩⟩
            · rw [if_neg c27] at H
              have c27b0 : (t283 != t285) = false := by simpa using c27
              (try (have c27b1 : decide (t283 = t285) = true := by simpa using c27))
              (try (have c27b2 : (t283 == t285) = true := by simpa using c27))
              clear c27
              by_cases c28 : t287 = t289
              · rw [if_pos c28] at H
                have c28b0 : (t287 == t289) = true := beq_iff_eq.mpr c28
                have c28b1 : (t287 != t289) = false := bne_eq_false_iff_eq.mpr c28
                clear c28
                by_cases c29 : (t288 != t290) = true
                · rw [if_pos c29] at H
                  have c29b0 : (t288 != t290) = true := c29
                  (try (have c29b1 : decide (t288 = t290) = false := by simpa using c29))
                  (try (have c29b2 : (t288 == t290) = false := by simpa using c29))
                  (try (have c29b3 : ¬ (t288 = t290) := by simpa using c29))
                  clear c29
                  have H' := Aside0.mk H
                  clear H
                  go_wp2
                  go_meet
                  case rel => exact ⟨_, (t278), (t283), (t288), (t293), (true), (by first | rfl | (simp; done) | (simp [*]; done)), (by first | rfl | (simp; done) | (simp [*]; done)), (by first | rfl | (simp; done) | (simp [*]; done)), (by first | rfl | (simp; done) | (simp [*]; done)), (by first | rfl | (simp; done) | (simp [*]; done)), H', ⟨by first | omega | exact Nat.le_refl _⟩, ⟨by repeat (first | (with_reducible first | exact HB.out | apply below_alloc | apply pw_below_drewN | apply below_drew1) | exact HB.out)⟩⟩
                · rw [if_neg c29] at H
                  have c29b0 : (t288 != t290) = false := by simpa using c29
                  (try (have c29b1 : decide (t288 = t290) = true := by simpa using c29))
                  (try (have c29b2 : (t288 == t290) = true := by simpa using c29))
                  clear c29
                  by_cases c30 : t292 = t294
                  · rw [if_pos c30] at H
                    have c30b0 : (t292 == t294) = true := beq_iff_eq.mpr c30
                    have c30b1 : (t292 != t294) = false := bne_eq_false_iff_eq.mpr c30
                    clear c30
                    have H' := Aside0.mk H
                    clear H
                    go_wp2
                    go_meet
                    case rel => exact ⟨_, (t278), (t283), (t288), (t293), ((t293 != t295)), (by first | rfl | (simp; done) | (simp [*]; done)), (by first | rfl | (simp; done) | (simp [*]; done)), (by first | rfl | (simp; done) | (simp [*]; done)), (by first | rfl | (simp; done) | (simp [*]; done)), (by first | rfl | (simp; done) | (simp [*]; done)), H', ⟨by first | omega | exact Nat.le_refl _⟩, ⟨by repeat (first | (with_reducible first | exact HB.out | apply below_alloc | apply pw_below_drewN | apply below_drew1) | exact HB.out)⟩⟩
                  · rw [if_neg c30] at H
                    have c30b0 : (t292 == t294) = false := beq_eq_false_iff_ne.mpr c30
                    have c30b1 : (t292 != t294) = true := bne_iff_ne.mpr c30
                    have H' := Aside0.mk H
                    clear H
                    go_wp2
                    go_meet
                    case rel => exact ⟨_, (t278), (t283), (t288), (t293), (true), (by first | rfl | (simp; done) | (simp [*]; done)), (by first | rfl | (simp; done) | (simp [*]; done)), (by first | rfl | (simp; done) | (simp [*]; done)), (by first | rfl | (simp; done) | (simp [*]; done)), (by first | rfl | (simp; done) | (simp [*]; done)), H', ⟨by first | omega | exact Nat.le_refl _⟩, ⟨by repeat (first | (with_reducible first | exact HB.out | apply below_alloc | apply pw_below_drewN | apply below_drew1) | exact HB.out)⟩⟩
              · rw [if_neg c28] at H
                have c28b0 : (t287 == t289) = false := beq_eq_false_iff_ne.mpr c28
                have c28b1 : (t287 != t289) = true := bne_iff_ne.mpr c28
                have H' := Aside0.mk H
                clear H
                go_wp2
                go_meet
                case rel => exact ⟨_, (t278), (t283), (t288), (t293), (true), (by first | rfl | (simp; done) | (simp [*]; done)), (by first | rfl | (simp; done) | (simp [*]; done)), (by first | rfl | (simp; done) | (simp [*]; done)), (by first | rfl | (simp; done) | (simp [*]; done)), (by first | rfl | (simp; done) | (simp [*]; done)), H', ⟨by first | omega | exact Nat.le_refl _⟩, ⟨by repeat (first | (with_reducible first | exact HB.out | apply below_alloc | apply pw_below_drewN | apply below_drew1) | exact HB.out)⟩⟩
          · rw [if_neg c26] at H
            have c26b0 : (t282 == t284) = false := beq_eq_false_iff_ne.mpr c26
            have c26b1 : (t282 != t284) = true := bne_iff_ne.mpr c26
            have H' := Aside0.mk H
            clear H
            go_wp2
            go_meet
            case rel => exact ⟨_, (t278), (t283), (t288), (t293), (true), (by first | rfl | (simp; done) | (simp [*]; done)), (by first | rfl | (simp; done) | (simp [*]; done)), (by first | rfl | (simp; done) | (simp [*]; done)), (by first | rfl | (simp; done) | (simp [*]; done)), (by first | rfl | (simp; done) | (simp [*]; done)), H', ⟨by first | omega | exact Nat.le_refl _⟩, ⟨by repeat (first | (with_reducible first | exact HB.out | apply below_alloc | apply pw_below_drewN | apply below_drew1) | exact HB.out)⟩⟩
      · rw [if_neg c24] at H
        have c24b0 : (t277 == t279) = false := beq_eq_false_iff_ne.mpr c24
        have c24b1 : (t277 != t279) = true := bne_iff_ne.mpr c24
        (first | rw [c24b0] | (simp only [i64_w, i32_w]; rw [c24b0]) | skip)
        have H' := Aside0.mk H
        clear H
        go_wp2
        go_meet
        case rel => exact ⟨_, (t278), (t283), (t288), (t293), (true), (by first | rfl | (simp; done) | (simp [*]; done)), (by first | rfl | (simp; done) | (simp [*]; done)), (by first | rfl | (simp; done) | (simp [*]; done)), (by first | rfl | (simp; done) | (simp [*]; done)), (by first | rfl | (simp; done) | (simp [*]; done)), H', ⟨by first | omega | exact Nat.le_refl _⟩, ⟨by repeat (first | (with_reducible first | exact HB.out | apply below_alloc | apply pw_below_drewN | apply below_drew1) | exact HB.out)⟩⟩
    case rest => as_aux_lemma =>
      clear HC16
      try clear c1
      try clear c2
      try clear p2
      try clear c3
      try clear c7
      try clear c8
      try clear c9
      try clear c10
      try clear c11
      try clear c12
      try clear c13
      try clear c14
      try clear c15
      try clear c16
      try clear c17
      try clear c18
      try clear c19
      try clear c24
      try clear c24b0
      try clear c24b1
      try clear c25
      try clear c25b0
      try clear c25b1
      try clear c25b2
      try clear c26
      try clear c26b0
      try clear c26b1
      try clear c27
      try clear c27b0
      try clear c27b1
      try clear c27b2
      try clear c28
      try clear c28b0
      try clear c28b1
      try clear c29
      try clear c29b0
      try clear c29b1
      try clear c29b2
      try clear c30
      try clear c30b0
      try clear c30b1
      obtain ⟨kq, x5_15, x10_15, x15_15, x20_15, x112_15, rfl, rfl, rfl, rfl, rfl, HA, HJ15, HB⟩ := hcut
      cases kq with
      | zero => exact absurd HA.out (by simp [laws_FnReads.j0])
      | succ kj15 =>
        have H := HA.out
        clear HA
        simp only [laws_FnReads.j0] at H
        by_cases c31 : x112_15 = true
        · subst c31
          have H1 : (some false) = some r := by rw [if_pos rfl] at H; exact H
          clear H
          have H := H1
          clear H1
          obtain rfl := Option.some.inj H
          go_wp2
          go_ret
          exact ⟨by first | rfl | (simp [errW_none, errW_some] <;> rfl) | (simp [*, errW_none, errW_some] <;> rfl) | (simp only [decide_eq_true_eq] at *; simp [*, bt]; done), by repeat (first | (with_reducible first | exact HB.out | apply below_alloc | apply pw_below_drewN | apply below_drew1) | exact HB.out)⟩
        · replace c31 := Bool.eq_false_iff.mpr c31
          subst c31
          have H1 : ((impl_PutOct.f t277 (t276.size : Int)).bind fun bt296 => (if x5_15 = true then (laws_FnReads.j1 kj15 t281 t282 x10_15 t286 t287 x15_15 t291 t292 x20_15 (bt296.1.toList != t276.toList)) else (laws_FnReads.j1 kj15 t281 t282 x10_15 t286 t287 x15_15 t291 t292 x20_15 false))) = some r := by rw [if_neg (show ¬ (false = true) by decide)] at H; exact H
          clear H
          have H := H1
          clear H1
          replace H := Option.bind_eq_some_iff.mp H
          obtain ⟨⟨t296, t297⟩, A320, H⟩ := H
          replace H : (if x5_15 = true then (laws_FnReads.j1 kj15 t281 t282 x10_15 t286 t287 x15_15 t291 t292 x20_15 (t296.toList != t276.toList)) else (laws_FnReads.j1 kj15 t281 t282 x10_15 t286 t287 x15_15 t291 t292 x20_15 false)) = some r := H
          have A32 := Aside0.mk A320
          clear A320
          have HC33 := Aside0.mk H
          clear H
          go_upto_region 18 with (first | ((with_reducible refine gate_callee (f := 20) rfl ?_); refine goesL_ (some 117) rfl rfl Tryz.func20 (by kernel_rfl) rfl #[.int .i64 t277, .int .i64 (t276.size : Int)] rfl (by (try simp only [List.map_toArray, List.map_cons, List.map_nil]); first | done | rfl | (simp only [List.length_drop, List.length_take]; rfl)) ?_; (with_reducible refine (impl_PutOct.calls t277 (t276.size : Int) t296 t297 _ A32.out (Tabs.below HL.out (by repeat (first | (with_reducible first | exact HB.out | apply below_alloc | apply pw_below_drewN | apply below_drew1) | exact HB.out)))).mono ?_); rintro e w34 ⟨rfl, hb⟩; refine ⟨_, rfl, ?_⟩; have n0_ := Aside0.mk (below_step (by repeat (first | (with_reducible first | exact HB.out | apply below_alloc | apply pw_below_drewN | apply below_drew1) | exact HB.out)) hb); clear HB; have HB := n0_; clear n0_; (try clear hb); (try clear hb2); (try clear hk); (try clear hi)))
          (try simp only [Act.put, List.setIfInBounds_toArray, List.set_cons_zero, List.set_cons_succ])
          go_cut [10, 15, 20, 125] (fun v10 v15 v20 v125 wc => ∃ (kq : Nat) (x10_32 : Bool) (x15_32 : Bool) (x20_32 : Bool) (x125_32 : Bool), v10 = .bool x10_32 ∧ v15 = .bool x15_32 ∧ v20 = .bool x20_32 ∧ v125 = .bool x125_32 ∧ Aside0 (laws_FnReads.j1 kq t281 t282 x10_32 t286 t287 x15_32 t291 t292 x20_32 x125_32 = some r) ∧ Aside0 (kq ≤ kj15) ∧ Aside0 (Below w.heap.size w wc))
          case first => as_aux_lemma =>
            have H := HC33.out
            clear HC33
            by_cases c35 : x5_15 = true
            · subst c35
              have H1 : (laws_FnReads.j1 kj15 t281 t282 x10_15 t286 t287 x15_15 t291 t292 x20_15 (t296.toList != t276.toList)) = some r := by rw [if_pos rfl] at H; exact H
              clear H
              have H := H1
              clear H1
              have H' := Aside0.mk H
              clear H
              go_wp2
              go_meet
              case rel => exact ⟨_, (x10_15), (x15_15), (x20_15), ((t296.toList != t276.toList)), (by first | rfl | (simp; done) | (simp [*]; done)), (by first | rfl | (simp; done) | (simp [*]; done)), (by first | rfl | (simp; done) | (simp [*]; done)), (by first | rfl | (simp; done) | (simp [*]; done)), H', ⟨by have := HJ15.out; first | omega | exact Nat.le_refl _⟩, ⟨by repeat (first | (with_reducible first | exact HB.out | apply below_alloc | apply pw_below_drewN | apply below_drew1) | exact HB.out)⟩⟩
            · replace c35 := Bool.eq_false_iff.mpr c35
              subst c35
              have H1 : (laws_FnReads.j1 kj15 t281 t282 x10_15 t286 t287 x15_15 t291 t292 x20_15 false) = some r := by rw [if_neg (show ¬ (false = true) by decide)] at H; exact H
              clear H
              have H := H1
              clear H1
              have H' := Aside0.mk H
              clear H
              go_wp2
              go_meet
              case rel => exact ⟨_, (x10_15), (x15_15), (x20_15), (false), (by first | rfl | (simp; done) | (simp [*]; done)), (by first | rfl | (simp; done) | (simp [*]; done)), (by first | rfl | (simp; done) | (simp [*]; done)), (by first | rfl | (simp; done) | (simp [*]; done)), H', ⟨by have := HJ15.out; first | omega | exact Nat.le_refl _⟩, ⟨by repeat (first | (with_reducible first | exact HB.out | apply below_alloc | apply pw_below_drewN | apply below_drew1) | exact HB.out)⟩⟩
          case rest => as_aux_lemma =>
            clear HC33
            try clear c1
            try clear c2
            try clear p2
            try clear c3
            try clear c7
            try clear c8
            try clear c9
            try clear c10
            try clear c11
            try clear c12
            try clear c13
            try clear c14
            try clear c15
            try clear c16
            try clear c17
            try clear c18
            try clear c19
            try clear c20
            try clear c24
            try clear c24b0
            try clear c24b1
            try clear c25
            try clear c25b0
            try clear c25b1
            try clear c25b2
            try clear c26
            try clear c26b0
            try clear c26b1
            try clear c27
            try clear c27b0
            try clear c27b1
            try clear c27b2
            try clear c28
            try clear c28b0
            try clear c28b1
            try clear c29
            try clear c29b0
            try clear c29b1
            try clear c29b2
            try clear c30
            try clear c30b0
            try clear c30b1
            try clear c31
            try clear c35
            try clear p2
            obtain ⟨kq, x10_32, x15_32, x20_32, x125_32, rfl, rfl, rfl, rfl, HA, HJ32, HB⟩ := hcut
            cases kq with
            | zero => exact absurd HA.out (by simp [laws_FnReads.j1])
            | succ kj32 =>
              have H := HA.out
              clear HA
              simp only [laws_FnReads.j1] at H
              by_cases c36 : x125_32 = true
              · subst c36
                have H1 : (some false) = some r := by rw [if_pos rfl] at H; exact H
                clear H
                have H := H1
                clear H1
                obtain rfl := Option.some.inj H
                go_wp2
                go_ret
                exact ⟨by first | rfl | (simp [errW_none, errW_some] <;> rfl) | (simp [*, errW_none, errW_some] <;> rfl) | (simp only [decide_eq_true_eq] at *; simp [*, bt]; done), by repeat (first | (with_reducible first | exact HB.out | apply below_alloc | apply pw_below_drewN | apply below_drew1) | exact HB.out)⟩
              · replace c36 := Bool.eq_false_iff.mpr c36
                subst c36
                have H1 : ((impl_PutHex.f t282).bind fun bt298 => (if x10_32 = true then (laws_FnReads.j2 kj32 t286 t287 x15_32 t291 t292 x20_32 (bt298.1.toList != t281.toList)) else (laws_FnReads.j2 kj32 t286 t287 x15_32 t291 t292 x20_32 false))) = some r := by rw [if_neg (show ¬ (false = true) by decide)] at H; exact H
                clear H
                have H := H1
                clear H1
                replace H := Option.bind_eq_some_iff.mp H
                obtain ⟨⟨t298, t299⟩, A370, H⟩ := H
                replace H : (if x10_32 = true then (laws_FnReads.j2 kj32 t286 t287 x15_32 t291 t292 x20_32 (t298.toList != t281.toList)) else (laws_FnReads.j2 kj32 t286 t287 x15_32 t291 t292 x20_32 false)) = some r := H
                have A37 := Aside0.mk A370
                clear A370
                have HC38 := Aside0.mk H
                clear H
                go_upto_region 21 with (first | ((with_reducible refine gate_callee (f := 21) rfl ?_); refine goesL_ (some 128) rfl rfl Tryz.func21 (by kernel_rfl) rfl #[.int .i64 t282] rfl (by (try simp only [List.map_toArray, List.map_cons, List.map_nil]); first | done | rfl | (simp only [List.length_drop, List.length_take]; rfl)) ?_; (with_reducible refine (impl_PutHex.calls t282 t298 t299 _ A37.out (Tabs.below HL.out (by repeat (first | (with_reducible first | exact HB.out | apply below_alloc | apply pw_below_drewN | apply below_drew1) | exact HB.out)))).mono ?_); rintro e w39 ⟨rfl, hb⟩; refine ⟨_, rfl, ?_⟩; have n0_ := Aside0.mk (below_step (by repeat (first | (with_reducible first | exact HB.out | apply below_alloc | apply pw_below_drewN | apply below_drew1) | exact HB.out)) hb); clear HB; have HB := n0_; clear n0_; (try clear hb); (try clear hb2); (try clear hk); (try clear hi)))
                (try simp only [Act.put, List.setIfInBounds_toArray, List.set_cons_zero, List.set_cons_succ])
                go_cut [15, 20, 136] (fun v15 v20 v136 wc => ∃ (kq : Nat) (x15_37 : Bool) (x20_37 : Bool) (x136_37 : Bool), v15 = .bool x15_37 ∧ v20 = .bool x20_37 ∧ v136 = .bool x136_37 ∧ Aside0 (laws_FnReads.j2 kq t286 t287 x15_37 t291 t292 x20_37 x136_37 = some r) ∧ Aside0 (kq ≤ kj32) ∧ Aside0 (Below w.heap.size w wc))
                case first => as_aux_lemma =>
                  have H := HC38.out
                  clear HC38
                  by_cases c40 : x10_32 = true
                  · subst c40
                    have H1 : (laws_FnReads.j2 kj32 t286 t287 x15_32 t291 t292 x20_32 (t298.toList != t281.toList)) = some r := by rw [if_pos rfl] at H; exact H
                    clear H
                    have H := H1
                    clear H1
                    have H' := Aside0.mk H
                    clear H
                    go_wp2
                    go_meet
                    case rel => exact ⟨_, (x15_32), (x20_32), ((t298.toList != t281.toList)), (by first | rfl | (simp; done) | (simp [*]; done)), (by first | rfl | (simp; done) | (simp [*]; done)), (by first | rfl | (simp; done) | (simp [*]; done)), H', ⟨by have := HJ15.out; have := HJ32.out; first | omega | exact Nat.le_refl _⟩, ⟨by repeat (first | (with_reducible first | exact HB.out | apply below_alloc | apply pw_below_drewN | apply below_drew1) | exact HB.out)⟩⟩
                  · replace c40 := Bool.eq_false_iff.mpr c40
                    subst c40
                    have H1 : (laws_FnReads.j2 kj32 t286 t287 x15_32 t291 t292 x20_32 false) = some r := by rw [if_neg (show ¬ (false = true) by decide)] at H; exact H
                    clear H
                    have H := H1
                    clear H1
                    have H' := Aside0.mk H
                    clear H
                    go_wp2
                    go_meet
                    case rel => exact ⟨_, (x15_32), (x20_32), (false), (by first | rfl | (simp; done) | (simp [*]; done)), (by first | rfl | (simp; done) | (simp [*]; done)), (by first | rfl | (simp; done) | (simp [*]; done)), H', ⟨by have := HJ15.out; have := HJ32.out; first | omega | exact Nat.le_refl _⟩, ⟨by repeat (first | (with_reducible first | exact HB.out | apply below_alloc | apply pw_below_drewN | apply below_drew1) | exact HB.out)⟩⟩
                case rest => as_aux_lemma =>
                  clear HC38
                  try clear c1
                  try clear c2
                  try clear p2
                  try clear c3
                  try clear c4
                  try clear c7
                  try clear c8
                  try clear c9
                  try clear c10
                  try clear c11
                  try clear c12
                  try clear c13
                  try clear c14
                  try clear c15
                  try clear c16
                  try clear c17
                  try clear c18
                  try clear c19
                  try clear c20
                  try clear c21
                  try clear c24
                  try clear c24b0
                  try clear c24b1
                  try clear c25
                  try clear c25b0
                  try clear c25b1
                  try clear c25b2
                  try clear c26
                  try clear c26b0
                  try clear c26b1
                  try clear c27
                  try clear c27b0
                  try clear c27b1
                  try clear c27b2
                  try clear c28
                  try clear c28b0
                  try clear c28b1
                  try clear c29
                  try clear c29b0
                  try clear c29b1
                  try clear c29b2
                  try clear c30
                  try clear c30b0
                  try clear c30b1
                  try clear c31
                  try clear c35
                  try clear c36
                  try clear c40
                  try clear p2
                  obtain ⟨kq, x15_37, x20_37, x136_37, rfl, rfl, rfl, HA, HJ37, HB⟩ := hcut
                  cases kq with
                  | zero => exact absurd HA.out (by simp [laws_FnReads.j2])
                  | succ kj37 =>
                    have H := HA.out
                    clear HA
                    simp only [laws_FnReads.j2] at H
                    by_cases c41 : x136_37 = true
                    · subst c41
                      have H1 : (some false) = some r := by rw [if_pos rfl] at H; exact H
                      clear H
                      have H := H1
                      clear H1
                      obtain rfl := Option.some.inj H
                      go_wp2
                      go_ret
                      exact ⟨by first | rfl | (simp [errW_none, errW_some] <;> rfl) | (simp [*, errW_none, errW_some] <;> rfl) | (simp only [decide_eq_true_eq] at *; simp [*, bt]; done), by repeat (first | (with_reducible first | exact HB.out | apply below_alloc | apply pw_below_drewN | apply below_drew1) | exact HB.out)⟩
                    · replace c41 := Bool.eq_false_iff.mpr c41
                      subst c41
                      have H1 : ((impl_PutDec.f t287 (t286.size : Int)).bind fun bt300 => (if x15_37 = true then (if bt300.1.toList = t286.toList then ((impl_PutBig.f kj37 t292 (t291.size : Int)).bind fun bt302 => (if x20_37 = true then (some (bt302.1.toList == t291.toList)) else (some true))) else (some false)) else ((impl_PutBig.f kj37 t292 (t291.size : Int)).bind fun bt304 => (if x20_37 = true then (some (bt304.1.toList == t291.toList)) else (some true))))) = some r := by rw [if_neg (show ¬ (false = true) by decide)] at H; exact H
                      clear H
                      have H := H1
                      clear H1
                      replace H := Option.bind_eq_some_iff.mp H
                      obtain ⟨⟨t300, t301⟩, A420, H⟩ := H
                      replace H : (if x15_37 = true then (if t300.toList = t286.toList then ((impl_PutBig.f kj37 t292 (t291.size : Int)).bind fun bt302 => (if x20_37 = true then (some (bt302.1.toList == t291.toList)) else (some true))) else (some false)) else ((impl_PutBig.f kj37 t292 (t291.size : Int)).bind fun bt304 => (if x20_37 = true then (some (bt304.1.toList == t291.toList)) else (some true)))) = some r := H
                      have A42 := Aside0.mk A420
                      clear A420
                      by_cases c43 : x15_37 = true
                      · subst c43
                        have H1 : (if t300.toList = t286.toList then ((impl_PutBig.f kj37 t292 (t291.size : Int)).bind fun bt302 => (if x20_37 = true then (some (bt302.1.toList == t291.toList)) else (some true))) else (some false)) = some r := by rw [if_pos rfl] at H; exact H
                        clear H
                        have H := H1
                        clear H1
                        by_cases c44 : t300.toList = t286.toList
                        · rw [if_pos c44] at H
                          have c44b0 : (t300.toList == t286.toList) = true := beq_iff_eq.mpr c44
                          have c44b1 : (t300.toList != t286.toList) = false := bne_eq_false_iff_eq.mpr c44
                          clear c44
                          replace H := Option.bind_eq_some_iff.mp H
                          obtain ⟨⟨t302, t303⟩, A450, H⟩ := H
                          replace H : (if x20_37 = true then (some (t302.toList == t291.toList)) else (some true)) = some r := H
                          have A45 := Aside0.mk A450
                          clear A450
                          by_cases c46 : x20_37 = true
                          · subst c46
                            have H1 : (some (t302.toList == t291.toList)) = some r := by rw [if_pos rfl] at H; exact H
                            clear H
                            have H := H1
                            clear H1
                            obtain rfl := Option.some.inj H
                            go_wp2_with (first | ((with_reducible refine gate_callee (f := 22) rfl ?_); refine goesL_ (some 141) rfl rfl Tryz.func22 (by kernel_rfl) rfl #[.int .i64 t287, .int .i64 (t286.size : Int)] rfl (by (try simp only [List.map_toArray, List.map_cons, List.map_nil]); first | done | rfl | (simp only [List.length_drop, List.length_take]; rfl)) ?_; (with_reducible refine (impl_PutDec.calls t287 (t286.size : Int) t300 t301 _ A42.out (Tabs.below HL.out (by repeat (first | (with_reducible first | exact HB.out | apply below_alloc | apply pw_below_drewN | apply below_drew1) | exact HB.out)))).mono ?_); rintro e w47 ⟨rfl, hb⟩; refine ⟨_, rfl, ?_⟩; have n0_ := Aside0.mk (below_step (by repeat (first | (with_reducible first | exact HB.out | apply below_alloc | apply pw_below_drewN | apply below_drew1) | exact HB.out)) hb); clear HB; have HB := n0_; clear n0_; (try clear hb); (try clear hb2); (try clear hk); (try clear hi)) | ((with_reducible refine gate_callee (f := 23) rfl ?_); refine goesL_ (some 154) rfl rfl Tryz.func23 (by kernel_rfl) rfl #[.int .i64 t292, .int .i64 (t291.size : Int)] rfl (by (try simp only [List.map_toArray, List.map_cons, List.map_nil]); first | done | rfl | (simp only [List.length_drop, List.length_take]; rfl)) ?_; (with_reducible refine (impl_PutBig.calls kj37 t292 (t291.size : Int) t302 t303 _ A45.out).mono ?_); rintro e w48 ⟨rfl, hb⟩; refine ⟨_, rfl, ?_⟩; have n0_ := Aside0.mk (below_step (by repeat (first | (with_reducible first | exact HB.out | apply below_alloc | apply pw_below_drewN | apply below_drew1) | exact HB.out)) hb); clear HB; have HB := n0_; clear n0_; (try clear hb); (try clear hb2); (try clear hk); (try clear hi)))
                            go_ret
                            exact ⟨by first | rfl | (simp [errW_none, errW_some] <;> rfl) | (simp [*, errW_none, errW_some] <;> rfl) | (simp only [decide_eq_true_eq] at *; simp [*, bt]; done), by repeat (first | (with_reducible first | exact HB.out | apply below_alloc | apply pw_below_drewN | apply below_drew1) | exact HB.out)⟩
                          · replace c46 := Bool.eq_false_iff.mpr c46
                            subst c46
                            have H1 : (some true) = some r := by rw [if_neg (show ¬ (false = true) by decide)] at H; exact H
                            clear H
                            have H := H1
                            clear H1
                            obtain rfl := Option.some.inj H
                            go_wp2_with (first | ((with_reducible refine gate_callee (f := 22) rfl ?_); refine goesL_ (some 141) rfl rfl Tryz.func22 (by kernel_rfl) rfl #[.int .i64 t287, .int .i64 (t286.size : Int)] rfl (by (try simp only [List.map_toArray, List.map_cons, List.map_nil]); first | done | rfl | (simp only [List.length_drop, List.length_take]; rfl)) ?_; (with_reducible refine (impl_PutDec.calls t287 (t286.size : Int) t300 t301 _ A42.out (Tabs.below HL.out (by repeat (first | (with_reducible first | exact HB.out | apply below_alloc | apply pw_below_drewN | apply below_drew1) | exact HB.out)))).mono ?_); rintro e w49 ⟨rfl, hb⟩; refine ⟨_, rfl, ?_⟩; have n0_ := Aside0.mk (below_step (by repeat (first | (with_reducible first | exact HB.out | apply below_alloc | apply pw_below_drewN | apply below_drew1) | exact HB.out)) hb); clear HB; have HB := n0_; clear n0_; (try clear hb); (try clear hb2); (try clear hk); (try clear hi)) | ((with_reducible refine gate_callee (f := 23) rfl ?_); refine goesL_ (some 154) rfl rfl Tryz.func23 (by kernel_rfl) rfl #[.int .i64 t292, .int .i64 (t291.size : Int)] rfl (by (try simp only [List.map_toArray, List.map_cons, List.map_nil]); first | done | rfl | (simp only [List.length_drop, List.length_take]; rfl)) ?_; (with_reducible refine (impl_PutBig.calls kj37 t292 (t291.size : Int) t302 t303 _ A45.out).mono ?_); rintro e w50 ⟨rfl, hb⟩; refine ⟨_, rfl, ?_⟩; have n0_ := Aside0.mk (below_step (by repeat (first | (with_reducible first | exact HB.out | apply below_alloc | apply pw_below_drewN | apply below_drew1) | exact HB.out)) hb); clear HB; have HB := n0_; clear n0_; (try clear hb); (try clear hb2); (try clear hk); (try clear hi)))
                            go_ret
                            exact ⟨by first | rfl | (simp [errW_none, errW_some] <;> rfl) | (simp [*, errW_none, errW_some] <;> rfl) | (simp only [decide_eq_true_eq] at *; simp [*, bt]; done), by repeat (first | (with_reducible first | exact HB.out | apply below_alloc | apply pw_below_drewN | apply below_drew1) | exact HB.out)⟩
                        · rw [if_neg c44] at H
                          have c44b0 : (t300.toList == t286.toList) = false := beq_eq_false_iff_ne.mpr c44
                          have c44b1 : (t300.toList != t286.toList) = true := bne_iff_ne.mpr c44
                          obtain rfl := Option.some.inj H
                          go_wp2_with (first | ((with_reducible refine gate_callee (f := 22) rfl ?_); refine goesL_ (some 141) rfl rfl Tryz.func22 (by kernel_rfl) rfl #[.int .i64 t287, .int .i64 (t286.size : Int)] rfl (by (try simp only [List.map_toArray, List.map_cons, List.map_nil]); first | done | rfl | (simp only [List.length_drop, List.length_take]; rfl)) ?_; (with_reducible refine (impl_PutDec.calls t287 (t286.size : Int) t300 t301 _ A42.out (Tabs.below HL.out (by repeat (first | (with_reducible first | exact HB.out | apply below_alloc | apply pw_below_drewN | apply below_drew1) | exact HB.out)))).mono ?_); rintro e w51 ⟨rfl, hb⟩; refine ⟨_, rfl, ?_⟩; have n0_ := Aside0.mk (below_step (by repeat (first | (with_reducible first | exact HB.out | apply below_alloc | apply pw_below_drewN | apply below_drew1) | exact HB.out)) hb); clear HB; have HB := n0_; clear n0_; (try clear hb); (try clear hb2); (try clear hk); (try clear hi)))
                          go_ret
                          exact ⟨by first | rfl | (simp [errW_none, errW_some] <;> rfl) | (simp [*, errW_none, errW_some] <;> rfl) | (simp only [decide_eq_true_eq] at *; simp [*, bt]; done), by repeat (first | (with_reducible first | exact HB.out | apply below_alloc | apply pw_below_drewN | apply below_drew1) | exact HB.out)⟩
                      · replace c43 := Bool.eq_false_iff.mpr c43
                        subst c43
                        have H1 : ((impl_PutBig.f kj37 t292 (t291.size : Int)).bind fun bt304 => (if x20_37 = true then (some (bt304.1.toList == t291.toList)) else (some true))) = some r := by rw [if_neg (show ¬ (false = true) by decide)] at H; exact H
                        clear H
                        have H := H1
                        clear H1
                        replace H := Option.bind_eq_some_iff.mp H
                        obtain ⟨⟨t304, t305⟩, A520, H⟩ := H
                        replace H : (if x20_37 = true then (some (t304.toList == t291.toList)) else (some true)) = some r := H
                        have A52 := Aside0.mk A520
                        clear A520
                        by_cases c53 : x20_37 = true
                        · subst c53
                          have H1 : (some (t304.toList == t291.toList)) = some r := by rw [if_pos rfl] at H; exact H
                          clear H
                          have H := H1
                          clear H1
                          obtain rfl := Option.some.inj H
                          go_wp2_with (first | ((with_reducible refine gate_callee (f := 22) rfl ?_); refine goesL_ (some 141) rfl rfl Tryz.func22 (by kernel_rfl) rfl #[.int .i64 t287, .int .i64 (t286.size : Int)] rfl (by (try simp only [List.map_toArray, List.map_cons, List.map_nil]); first | done | rfl | (simp only [List.length_drop, List.length_take]; rfl)) ?_; (with_reducible refine (impl_PutDec.calls t287 (t286.size : Int) t300 t301 _ A42.out (Tabs.below HL.out (by repeat (first | (with_reducible first | exact HB.out | apply below_alloc | apply pw_below_drewN | apply below_drew1) | exact HB.out)))).mono ?_); rintro e w54 ⟨rfl, hb⟩; refine ⟨_, rfl, ?_⟩; have n0_ := Aside0.mk (below_step (by repeat (first | (with_reducible first | exact HB.out | apply below_alloc | apply pw_below_drewN | apply below_drew1) | exact HB.out)) hb); clear HB; have HB := n0_; clear n0_; (try clear hb); (try clear hb2); (try clear hk); (try clear hi)) | ((with_reducible refine gate_callee (f := 23) rfl ?_); refine goesL_ (some 154) rfl rfl Tryz.func23 (by kernel_rfl) rfl #[.int .i64 t292, .int .i64 (t291.size : Int)] rfl (by (try simp only [List.map_toArray, List.map_cons, List.map_nil]); first | done | rfl | (simp only [List.length_drop, List.length_take]; rfl)) ?_; (with_reducible refine (impl_PutBig.calls kj37 t292 (t291.size : Int) t304 t305 _ A52.out).mono ?_); rintro e w55 ⟨rfl, hb⟩; refine ⟨_, rfl, ?_⟩; have n0_ := Aside0.mk (below_step (by repeat (first | (with_reducible first | exact HB.out | apply below_alloc | apply pw_below_drewN | apply below_drew1) | exact HB.out)) hb); clear HB; have HB := n0_; clear n0_; (try clear hb); (try clear hb2); (try clear hk); (try clear hi)))
                          go_ret
                          exact ⟨by first | rfl | (simp [errW_none, errW_some] <;> rfl) | (simp [*, errW_none, errW_some] <;> rfl) | (simp only [decide_eq_true_eq] at *; simp [*, bt]; done), by repeat (first | (with_reducible first | exact HB.out | apply below_alloc | apply pw_below_drewN | apply below_drew1) | exact HB.out)⟩
                        · replace c53 := Bool.eq_false_iff.mpr c53
                          subst c53
                          have H1 : (some true) = some r := by rw [if_neg (show ¬ (false = true) by decide)] at H; exact H
                          clear H
                          have H := H1
                          clear H1
                          obtain rfl := Option.some.inj H
                          go_wp2_with (first | ((with_reducible refine gate_callee (f := 22) rfl ?_); refine goesL_ (some 141) rfl rfl Tryz.func22 (by kernel_rfl) rfl #[.int .i64 t287, .int .i64 (t286.size : Int)] rfl (by (try simp only [List.map_toArray, List.map_cons, List.map_nil]); first | done | rfl | (simp only [List.length_drop, List.length_take]; rfl)) ?_; (with_reducible refine (impl_PutDec.calls t287 (t286.size : Int) t300 t301 _ A42.out (Tabs.below HL.out (by repeat (first | (with_reducible first | exact HB.out | apply below_alloc | apply pw_below_drewN | apply below_drew1) | exact HB.out)))).mono ?_); rintro e w56 ⟨rfl, hb⟩; refine ⟨_, rfl, ?_⟩; have n0_ := Aside0.mk (below_step (by repeat (first | (with_reducible first | exact HB.out | apply below_alloc | apply pw_below_drewN | apply below_drew1) | exact HB.out)) hb); clear HB; have HB := n0_; clear n0_; (try clear hb); (try clear hb2); (try clear hk); (try clear hi)) | ((with_reducible refine gate_callee (f := 23) rfl ?_); refine goesL_ (some 154) rfl rfl Tryz.func23 (by kernel_rfl) rfl #[.int .i64 t292, .int .i64 (t291.size : Int)] rfl (by (try simp only [List.map_toArray, List.map_cons, List.map_nil]); first | done | rfl | (simp only [List.length_drop, List.length_take]; rfl)) ?_; (with_reducible refine (impl_PutBig.calls kj37 t292 (t291.size : Int) t304 t305 _ A52.out).mono ?_); rintro e w57 ⟨rfl, hb⟩; refine ⟨_, rfl, ?_⟩; have n0_ := Aside0.mk (below_step (by repeat (first | (with_reducible first | exact HB.out | apply below_alloc | apply pw_below_drewN | apply below_drew1) | exact HB.out)) hb); clear HB; have HB := n0_; clear n0_; (try clear hb); (try clear hb2); (try clear hk); (try clear hi)))
                          go_ret
                          exact ⟨by first | rfl | (simp [errW_none, errW_some] <;> rfl) | (simp [*, errW_none, errW_some] <;> rfl) | (simp only [decide_eq_true_eq] at *; simp [*, bt]; done), by repeat (first | (with_reducible first | exact HB.out | apply below_alloc | apply pw_below_drewN | apply below_drew1) | exact HB.out)⟩

/-- THE ONE PURE STATEMENT of laws_FnReads: yours. -/
def laws_FnReads.Pure : Prop := ∀ (l0 : List Int), l0.length ≤ maxLen → l0.length * 1 ≤ 140737488351232 → (∀ x ∈ l0, (Lit.int .u8 x).wf = true) → ∃ k, laws_FnReads.f k l0 = some true

end Go.Proofs.YtdjepilhenijeaaGreatDoor.PFnReads
