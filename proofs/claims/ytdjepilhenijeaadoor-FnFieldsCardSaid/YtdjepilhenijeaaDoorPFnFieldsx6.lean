-- PRINTED for this claim by a program of this session's repo over the kit's printer, with contracts of our own among the functions.
import Derived.Test.YtdjepilhenijeaaDoorPFnFieldsx0
import Derived.Test.YtdjepilhenijeaaDoorPFnFieldsx1
import Derived.Test.YtdjepilhenijeaaDoorPFnFieldsx2
import Derived.Test.YtdjepilhenijeaaDoorPFnFieldsx3
import Derived.Test.YtdjepilhenijeaaDoorPFnFieldsx4
import Derived.Test.YtdjepilhenijeaaDoorPFnFieldsx5
namespace Go.Proofs.YtdjepilhenijeaaDoor.PFnFields
open Go.RowKit Go.Proofs.YtdjepilhenijeaaDoorW.PrintWords Go.Proofs.YtdjepilhenijeaaDoorW.PrintLast Go.Proofs.YtdjepilhenijeaaDoorW.PrintMore
attribute [local go_sem] max2_int min2_int max_two min_two max_three min_three max_four min_four   -- for this text's walks alone
set_option linter.unusedVariables false
set_option linter.unusedSimpArgs false

/-! ### laws_FnFields: function 6 -/
mutual
def laws_FnFields.j0 : Nat → Int → Int → Int → ByteArray → Int → ByteArray → ByteArray → Bool → Option (Bool)
  | 0, _, _, _, _, _, _, _, _ => none
  | k + 1, x3, x4, x5, x6, x7, x8, x12, x90 => if x90 = true then (some false) else (if x3 ≥ 0 then (if x3 ≤ 9007199254740991 then (if x4 ≥ 1 then (if x4 ≤ 512 then (if x4 = 0 then (none) else (if (Int.tmod (wrap64 (x3 + x5)) x4) = 0 then (laws_FnFields.j1 k x6 x7 x8 x12 (decide (x5 ≥ x4))) else (laws_FnFields.j1 k x6 x7 x8 x12 true))) else (laws_FnFields.j1 k x6 x7 x8 x12 false)) else (laws_FnFields.j1 k x6 x7 x8 x12 false)) else (laws_FnFields.j1 k x6 x7 x8 x12 false)) else (laws_FnFields.j1 k x6 x7 x8 x12 false))
def laws_FnFields.j1 : Nat → ByteArray → Int → ByteArray → ByteArray → Bool → Option (Bool)
  | 0, _, _, _, _, _ => none
  | k + 1, x6, x7, x8, x12, x117 => if x117 = true then (some false) else ((impl_ReadDec.f x12).bind fun t369 => (if t369 ≥ 0 then ((impl_DecText.f t369).bind fun t370 => (laws_FnFields.j2 k x6 x7 x8 (t370.toList != x12.toList))) else (laws_FnFields.j2 k x6 x7 x8 false)))
def laws_FnFields.j2 : Nat → ByteArray → Int → ByteArray → Bool → Option (Bool)
  | 0, _, _, _, _ => none
  | k + 1, x6, x7, x8, x127 => if x127 = true then (some false) else ((impl_Cut.f x8).bind fun t371 => ((impl_Cut.f x6).bind fun t372 => (if t371.toList = t372.toList then ((impl_SumOf.f k x8).bind fun t373 => ((impl_SumOf.f k x6).bind fun t374 => (if t373 = t374 then (if x7 ≤ (x6.size : Int) then (some true) else (if x7 > 1024 then (some true) else (some ((x8.size : Int) == x7)))) else (some false)))) else (some false))))
end
def laws_FnFields.f (k : Nat) (l0 : List Int) : Option (Bool) := (laws_big.f l0).bind fun t340 => (if t340 = true then (some true) else ((spec_DrawPad.f k l0).bind fun bt341 => ((impl_Pad.f bt341.1 bt341.2).bind fun t343 => ((spec_DrawFill.f k l0).bind fun bt344 => ((impl_Fill.f bt344.1 bt344.2).bind fun t346 => ((spec_DrawCut.f k l0).bind fun t347 => ((spec_DrawSumOf.f k l0).bind fun t348 => ((spec_DrawDecText.f k l0).bind fun t349 => ((spec_DrawReadDec.f k l0).bind fun t350 => ((spec_DrawWords.f k l0).bind fun t351 => ((spec_Pad.f bt341.1 bt341.2).bind fun t352 => (if t343 = t352 then ((spec_Fill.f k bt344.1 bt344.2).bind fun t353 => (if t346.toList = t353.toList then ((impl_Cut.f t347).bind fun t354 => ((spec_Cut.f k t347).bind fun t355 => (if t354.toList = t355.toList then ((impl_SumOf.f k t348).bind fun t356 => ((spec_SumOf.f k t348).bind fun t357 => (if t356 = t357 then ((impl_DecText.f t349).bind fun t358 => ((spec_DecText.f k t349).bind fun t359 => (if t358.toList = t359.toList then ((impl_ReadDec.f t350).bind fun t360 => ((spec_ReadDec.f k t350).bind fun t361 => (if t360 = t361 then ((impl_Words.f k t351).bind fun t362 => ((spec_Words.f k t351).bind fun t365 => ((laws_sameTexts.f k t362 t365).bind fun t368 => (laws_FnFields.j0 k bt341.1 bt341.2 t343 bt344.1 bt344.2 t346 t350 (!t368))))) else (laws_FnFields.j0 k bt341.1 bt341.2 t343 bt344.1 bt344.2 t346 t350 true)))) else (laws_FnFields.j0 k bt341.1 bt341.2 t343 bt344.1 bt344.2 t346 t350 true)))) else (laws_FnFields.j0 k bt341.1 bt341.2 t343 bt344.1 bt344.2 t346 t350 true)))) else (laws_FnFields.j0 k bt341.1 bt341.2 t343 bt344.1 bt344.2 t346 t350 true)))) else (laws_FnFields.j0 k bt341.1 bt341.2 t343 bt344.1 bt344.2 t346 t350 true))) else (laws_FnFields.j0 k bt341.1 bt341.2 t343 bt344.1 bt344.2 t346 t350 true)))))))))))))
theorem laws_FnFields.mono_l : ∀ k, (∀ y0 y1 y2 y3 y4 y5 y6 y7, LeO (laws_FnFields.j0 k y0 y1 y2 y3 y4 y5 y6 y7) (laws_FnFields.j0 (k + 1) y0 y1 y2 y3 y4 y5 y6 y7)) ∧ (∀ y0 y1 y2 y3 y4, LeO (laws_FnFields.j1 k y0 y1 y2 y3 y4) (laws_FnFields.j1 (k + 1) y0 y1 y2 y3 y4)) ∧ (∀ y0 y1 y2 y3, LeO (laws_FnFields.j2 k y0 y1 y2 y3) (laws_FnFields.j2 (k + 1) y0 y1 y2 y3))
  | 0 => ⟨fun _ _ _ _ _ _ _ _ r h => by simp [laws_FnFields.j0] at h, fun _ _ _ _ _ r h => by simp [laws_FnFields.j1] at h, fun _ _ _ _ r h => by simp [laws_FnFields.j2] at h⟩
  | k + 1 => by
    obtain ⟨ih0, ih1, ih2⟩ := laws_FnFields.mono_l k
    refine ⟨?_, ?_, ?_⟩
    · intro y0 y1 y2 y3 y4 y5 y6 y7
      unfold laws_FnFields.j0
      repeat' first
      | (with_reducible exact ih0 _ _ _ _ _ _ _ _)
      | (with_reducible exact ih1 _ _ _ _ _)
      | (with_reducible exact ih2 _ _ _ _)
      | (with_reducible exact impl_SumOf.mono _ _)
      | (with_reducible exact impl_Words.mono _ _)
      | (with_reducible exact laws_sameTexts.mono _ _ _)
      | (with_reducible exact spec_Cut.mono _ _)
      | (with_reducible exact spec_DecText.mono _ _)
      | (with_reducible exact spec_DrawCut.mono _ _)
      | (with_reducible exact spec_DrawDecText.mono _ _)
      | (with_reducible exact spec_DrawFill.mono _ _)
      | (with_reducible exact spec_DrawPad.mono _ _)
      | (with_reducible exact spec_DrawReadDec.mono _ _)
      | (with_reducible exact spec_DrawSumOf.mono _ _)
      | (with_reducible exact spec_DrawWords.mono _ _)
      | (with_reducible exact spec_Fill.mono _ _ _)
      | (with_reducible exact spec_ReadDec.mono _ _)
      | (with_reducible exact spec_SumOf.mono _ _)
      | (with_reducible exact spec_Words.mono _ _)
      | (with_reducible exact LeO.refl _)
      | (with_reducible exact LeO.none _)
      | (with_reducible refine LeO.ite ?_ ?_)
      | (with_reducible refine LeO.bind ?_ (fun _ => ?_))
      | exact ih0 _ _ _ _ _ _ _ _
      | exact ih1 _ _ _ _ _
      | exact ih2 _ _ _ _
      | exact impl_SumOf.mono _ _
      | exact impl_Words.mono _ _
      | exact laws_sameTexts.mono _ _ _
      | exact spec_Cut.mono _ _
      | exact spec_DecText.mono _ _
      | exact spec_DrawCut.mono _ _
      | exact spec_DrawDecText.mono _ _
      | exact spec_DrawFill.mono _ _
      | exact spec_DrawPad.mono _ _
      | exact spec_DrawReadDec.mono _ _
      | exact spec_DrawSumOf.mono _ _
      | exact spec_DrawWords.mono _ _
      | exact spec_Fill.mono _ _ _
      | exact spec_ReadDec.mono _ _
      | exact spec_SumOf.mono _ _
      | exact spec_Words.mono _ _
      | exact LeO.none _
      | refine LeO.ite ?_ ?_
      | refine LeO.bind ?_ (fun _ => ?_)
    · intro y0 y1 y2 y3 y4
      unfold laws_FnFields.j1
      repeat' first
      | (with_reducible exact ih0 _ _ _ _ _ _ _ _)
      | (with_reducible exact ih1 _ _ _ _ _)
      | (with_reducible exact ih2 _ _ _ _)
      | (with_reducible exact impl_SumOf.mono _ _)
      | (with_reducible exact impl_Words.mono _ _)
      | (with_reducible exact laws_sameTexts.mono _ _ _)
      | (with_reducible exact spec_Cut.mono _ _)
      | (with_reducible exact spec_DecText.mono _ _)
      | (with_reducible exact spec_DrawCut.mono _ _)
      | (with_reducible exact spec_DrawDecText.mono _ _)
      | (with_reducible exact spec_DrawFill.mono _ _)
      | (with_reducible exact spec_DrawPad.mono _ _)
      | (with_reducible exact spec_DrawReadDec.mono _ _)
      | (with_reducible exact spec_DrawSumOf.mono _ _)
      | (with_reducible exact spec_DrawWords.mono _ _)
      | (with_reducible exact spec_Fill.mono _ _ _)
      | (with_reducible exact spec_ReadDec.mono _ _)
      | (with_reducible exact spec_SumOf.mono _ _)
      | (with_reducible exact spec_Words.mono _ _)
      | (with_reducible exact LeO.refl _)
      | (with_reducible exact LeO.none _)
      | (with_reducible refine LeO.ite ?_ ?_)
      | (with_reducible refine LeO.bind ?_ (fun _ => ?_))
      | exact ih0 _ _ _ _ _ _ _ _
      | exact ih1 _ _ _ _ _
      | exact ih2 _ _ _ _
      | exact impl_SumOf.mono _ _
      | exact impl_Words.mono _ _
      | exact laws_sameTexts.mono _ _ _
      | exact spec_Cut.mono _ _
      | exact spec_DecText.mono _ _
      | exact spec_DrawCut.mono _ _
      | exact spec_DrawDecText.mono _ _
      | exact spec_DrawFill.mono _ _
      | exact spec_DrawPad.mono _ _
      | exact spec_DrawReadDec.mono _ _
      | exact spec_DrawSumOf.mono _ _
      | exact spec_DrawWords.mono _ _
      | exact spec_Fill.mono _ _ _
      | exact spec_ReadDec.mono _ _
      | exact spec_SumOf.mono _ _
      | exact spec_Words.mono _ _
      | exact LeO.none _
      | refine LeO.ite ?_ ?_
      | refine LeO.bind ?_ (fun _ => ?_)
    · intro y0 y1 y2 y3
      unfold laws_FnFields.j2
      repeat' first
      | (with_reducible exact ih0 _ _ _ _ _ _ _ _)
      | (with_reducible exact ih1 _ _ _ _ _)
      | (with_reducible exact ih2 _ _ _ _)
      | (with_reducible exact impl_SumOf.mono _ _)
      | (with_reducible exact impl_Words.mono _ _)
      | (with_reducible exact laws_sameTexts.mono _ _ _)
      | (with_reducible exact spec_Cut.mono _ _)
      | (with_reducible exact spec_DecText.mono _ _)
      | (with_reducible exact spec_DrawCut.mono _ _)
      | (with_reducible exact spec_DrawDecText.mono _ _)
      | (with_reducible exact spec_DrawFill.mono _ _)
      | (with_reducible exact spec_DrawPad.mono _ _)
      | (with_reducible exact spec_DrawReadDec.mono _ _)
      | (with_reducible exact spec_DrawSumOf.mono _ _)
      | (with_reducible exact spec_DrawWords.mono _ _)
      | (with_reducible exact spec_Fill.mono _ _ _)
      | (with_reducible exact spec_ReadDec.mono _ _)
      | (with_reducible exact spec_SumOf.mono _ _)
      | (with_reducible exact spec_Words.mono _ _)
      | (with_reducible exact LeO.refl _)
      | (with_reducible exact LeO.none _)
      | (with_reducible refine LeO.ite ?_ ?_)
      | (with_reducible refine LeO.bind ?_ (fun _ => ?_))
      | exact ih0 _ _ _ _ _ _ _ _
      | exact ih1 _ _ _ _ _
      | exact ih2 _ _ _ _
      | exact impl_SumOf.mono _ _
      | exact impl_Words.mono _ _
      | exact laws_sameTexts.mono _ _ _
      | exact spec_Cut.mono _ _
      | exact spec_DecText.mono _ _
      | exact spec_DrawCut.mono _ _
      | exact spec_DrawDecText.mono _ _
      | exact spec_DrawFill.mono _ _
      | exact spec_DrawPad.mono _ _
      | exact spec_DrawReadDec.mono _ _
      | exact spec_DrawSumOf.mono _ _
      | exact spec_DrawWords.mono _ _
      | exact spec_Fill.mono _ _ _
      | exact spec_ReadDec.mono _ _
      | exact spec_SumOf.mono _ _
      | exact spec_Words.mono _ _
      | exact LeO.none _
      | refine LeO.ite ?_ ?_
      | refine LeO.bind ?_ (fun _ => ?_)
theorem laws_FnFields.mono : ∀ a0 k, LeO (laws_FnFields.f k a0) (laws_FnFields.f (k + 1) a0) := by
  intro a0 k
  obtain ⟨ih0, ih1, ih2⟩ := laws_FnFields.mono_l k
  unfold laws_FnFields.f
  repeat' first
      | (with_reducible exact ih0 _ _ _ _ _ _ _ _)
      | (with_reducible exact ih1 _ _ _ _ _)
      | (with_reducible exact ih2 _ _ _ _)
      | (with_reducible exact impl_SumOf.mono _ _)
      | (with_reducible exact impl_Words.mono _ _)
      | (with_reducible exact laws_sameTexts.mono _ _ _)
      | (with_reducible exact spec_Cut.mono _ _)
      | (with_reducible exact spec_DecText.mono _ _)
      | (with_reducible exact spec_DrawCut.mono _ _)
      | (with_reducible exact spec_DrawDecText.mono _ _)
      | (with_reducible exact spec_DrawFill.mono _ _)
      | (with_reducible exact spec_DrawPad.mono _ _)
      | (with_reducible exact spec_DrawReadDec.mono _ _)
      | (with_reducible exact spec_DrawSumOf.mono _ _)
      | (with_reducible exact spec_DrawWords.mono _ _)
      | (with_reducible exact spec_Fill.mono _ _ _)
      | (with_reducible exact spec_ReadDec.mono _ _)
      | (with_reducible exact spec_SumOf.mono _ _)
      | (with_reducible exact spec_Words.mono _ _)
      | (with_reducible exact LeO.refl _)
      | (with_reducible exact LeO.none _)
      | (with_reducible refine LeO.ite ?_ ?_)
      | (with_reducible refine LeO.bind ?_ (fun _ => ?_))
      | exact ih0 _ _ _ _ _ _ _ _
      | exact ih1 _ _ _ _ _
      | exact ih2 _ _ _ _
      | exact impl_SumOf.mono _ _
      | exact impl_Words.mono _ _
      | exact laws_sameTexts.mono _ _ _
      | exact spec_Cut.mono _ _
      | exact spec_DecText.mono _ _
      | exact spec_DrawCut.mono _ _
      | exact spec_DrawDecText.mono _ _
      | exact spec_DrawFill.mono _ _
      | exact spec_DrawPad.mono _ _
      | exact spec_DrawReadDec.mono _ _
      | exact spec_DrawSumOf.mono _ _
      | exact spec_DrawWords.mono _ _
      | exact spec_Fill.mono _ _ _
      | exact spec_ReadDec.mono _ _
      | exact spec_SumOf.mono _ _
      | exact spec_Words.mono _ _
      | exact LeO.none _
      | refine LeO.ite ?_ ?_
      | refine LeO.bind ?_ (fun _ => ?_)
set_option maxHeartbeats 8000000 in
set_option maxRecDepth 100000 in
theorem laws_FnFields.calls (k : Nat) (A0 : Option Addr) (c0 : Nat) (l0 : List Int) (r : Bool) (w : World) (hr0 : Kd.C (Kd.int .u8) w A0 l0.length l0) (hc0 : l0.length ≤ c0) (h : laws_FnFields.f k l0 = some r) (hL : Tabs w) :
    Calls Tryd.prog 6 #[.slice A0 l0.length c0] w fun e w' => e = .returned (.bool r) ∧ Below w.heap.size w w' := by
  have HL := Aside0.mk hL
  clear hL
  have HR0 := Aside0.mk hr0
  have HC0 := Aside0.mk hc0
  clear hr0 hc0
  have HB := Aside0.mk (Below.refl w.heap.size w)
  have H : ((laws_big.f l0).bind fun t340 => (if t340 = true then (some true) else ((spec_DrawPad.f k l0).bind fun bt341 => ((impl_Pad.f bt341.1 bt341.2).bind fun t343 => ((spec_DrawFill.f k l0).bind fun bt344 => ((impl_Fill.f bt344.1 bt344.2).bind fun t346 => ((spec_DrawCut.f k l0).bind fun t347 => ((spec_DrawSumOf.f k l0).bind fun t348 => ((spec_DrawDecText.f k l0).bind fun t349 => ((spec_DrawReadDec.f k l0).bind fun t350 => ((spec_DrawWords.f k l0).bind fun t351 => ((spec_Pad.f bt341.1 bt341.2).bind fun t352 => (if t343 = t352 then ((spec_Fill.f k bt344.1 bt344.2).bind fun t353 => (if t346.toList = t353.toList then ((impl_Cut.f t347).bind fun t354 => ((spec_Cut.f k t347).bind fun t355 => (if t354.toList = t355.toList then ((impl_SumOf.f k t348).bind fun t356 => ((spec_SumOf.f k t348).bind fun t357 => (if t356 = t357 then ((impl_DecText.f t349).bind fun t358 => ((spec_DecText.f k t349).bind fun t359 => (if t358.toList = t359.toList then ((impl_ReadDec.f t350).bind fun t360 => ((spec_ReadDec.f k t350).bind fun t361 => (if t360 = t361 then ((impl_Words.f k t351).bind fun t362 => ((spec_Words.f k t351).bind fun t365 => ((laws_sameTexts.f k t362 t365).bind fun t368 => (laws_FnFields.j0 k bt341.1 bt341.2 t343 bt344.1 bt344.2 t346 t350 (!t368))))) else (laws_FnFields.j0 k bt341.1 bt341.2 t343 bt344.1 bt344.2 t346 t350 true)))) else (laws_FnFields.j0 k bt341.1 bt341.2 t343 bt344.1 bt344.2 t346 t350 true)))) else (laws_FnFields.j0 k bt341.1 bt341.2 t343 bt344.1 bt344.2 t346 t350 true)))) else (laws_FnFields.j0 k bt341.1 bt341.2 t343 bt344.1 bt344.2 t346 t350 true)))) else (laws_FnFields.j0 k bt341.1 bt341.2 t343 bt344.1 bt344.2 t346 t350 true))) else (laws_FnFields.j0 k bt341.1 bt341.2 t343 bt344.1 bt344.2 t346 t350 true)))))))))))))) = some r := h
  clear h
  replace H := Option.bind_eq_some_iff.mp H
  obtain ⟨t340, A20, H⟩ := H
  replace H : (if t340 = true then (some true) else ((spec_DrawPad.f k l0).bind fun bt341 => ((impl_Pad.f bt341.1 bt341.2).bind fun t343 => ((spec_DrawFill.f k l0).bind fun bt344 => ((impl_Fill.f bt344.1 bt344.2).bind fun t346 => ((spec_DrawCut.f k l0).bind fun t347 => ((spec_DrawSumOf.f k l0).bind fun t348 => ((spec_DrawDecText.f k l0).bind fun t349 => ((spec_DrawReadDec.f k l0).bind fun t350 => ((spec_DrawWords.f k l0).bind fun t351 => ((spec_Pad.f bt341.1 bt341.2).bind fun t352 => (if t343 = t352 then ((spec_Fill.f k bt344.1 bt344.2).bind fun t353 => (if t346.toList = t353.toList then ((impl_Cut.f t347).bind fun t354 => ((spec_Cut.f k t347).bind fun t355 => (if t354.toList = t355.toList then ((impl_SumOf.f k t348).bind fun t356 => ((spec_SumOf.f k t348).bind fun t357 => (if t356 = t357 then ((impl_DecText.f t349).bind fun t358 => ((spec_DecText.f k t349).bind fun t359 => (if t358.toList = t359.toList then ((impl_ReadDec.f t350).bind fun t360 => ((spec_ReadDec.f k t350).bind fun t361 => (if t360 = t361 then ((impl_Words.f k t351).bind fun t362 => ((spec_Words.f k t351).bind fun t365 => ((laws_sameTexts.f k t362 t365).bind fun t368 => (laws_FnFields.j0 k bt341.1 bt341.2 t343 bt344.1 bt344.2 t346 t350 (!t368))))) else (laws_FnFields.j0 k bt341.1 bt341.2 t343 bt344.1 bt344.2 t346 t350 true)))) else (laws_FnFields.j0 k bt341.1 bt341.2 t343 bt344.1 bt344.2 t346 t350 true)))) else (laws_FnFields.j0 k bt341.1 bt341.2 t343 bt344.1 bt344.2 t346 t350 true)))) else (laws_FnFields.j0 k bt341.1 bt341.2 t343 bt344.1 bt344.2 t346 t350 true)))) else (laws_FnFields.j0 k bt341.1 bt341.2 t343 bt344.1 bt344.2 t346 t350 true))) else (laws_FnFields.j0 k bt341.1 bt341.2 t343 bt344.1 bt344.2 t346 t350 true))))))))))))) = some r := H
  have A2 := Aside0.mk A20
  clear A20
  by_cases c3 : t340 = true
  · subst c3
    have H1 : (some true) = some r := by rw [if_pos rfl] at H; exact H
    clear H
    have H := H1
    clear H1
    obtain rfl := Option.some.inj H
    go_enter Tryd.func6, Tryd.ntmps6
    go_wp2_with (first | ((with_reducible refine gate_callee (f := 7) rfl ?_); refine goesL_ (some 16) rfl rfl Tryd.func7 (by kernel_rfl) rfl #[.slice A0 l0.length c0] rfl (by (try simp only [List.map_toArray, List.map_cons, List.map_nil]); first | done | rfl | (simp only [List.length_drop, List.length_take]; rfl)) ?_; (with_reducible refine (laws_big.calls _ _ l0 true _ ?side1 ?side2 A2.out).mono ?_); (case side1 => repeat (first | exact HR0.out | (with_reducible refine Kd.C_alloc ?_ _) | (with_reducible refine Kd.C_drewN ?_ _) | (with_reducible refine Kd.C_drew ?_))); (case side2 => exact HC0.out); rintro e w' ⟨rfl, ⟨nd, rfl⟩⟩; refine ⟨_, rfl, ?_⟩))
    go_ret
    exact ⟨by first | rfl | (simp [errW_none, errW_some] <;> rfl) | (simp [*, errW_none, errW_some] <;> rfl) | (simp only [decide_eq_true_eq] at *; simp [*, bt]; done), by repeat (first | (with_reducible first | exact HB.out | apply below_alloc | apply pw_below_drewN | apply below_drew1) | exact HB.out)⟩
  · replace c3 := Bool.eq_false_iff.mpr c3
    subst c3
    have H1 : ((spec_DrawPad.f k l0).bind fun bt341 => ((impl_Pad.f bt341.1 bt341.2).bind fun t343 => ((spec_DrawFill.f k l0).bind fun bt344 => ((impl_Fill.f bt344.1 bt344.2).bind fun t346 => ((spec_DrawCut.f k l0).bind fun t347 => ((spec_DrawSumOf.f k l0).bind fun t348 => ((spec_DrawDecText.f k l0).bind fun t349 => ((spec_DrawReadDec.f k l0).bind fun t350 => ((spec_DrawWords.f k l0).bind fun t351 => ((spec_Pad.f bt341.1 bt341.2).bind fun t352 => (if t343 = t352 then ((spec_Fill.f k bt344.1 bt344.2).bind fun t353 => (if t346.toList = t353.toList then ((impl_Cut.f t347).bind fun t354 => ((spec_Cut.f k t347).bind fun t355 => (if t354.toList = t355.toList then ((impl_SumOf.f k t348).bind fun t356 => ((spec_SumOf.f k t348).bind fun t357 => (if t356 = t357 then ((impl_DecText.f t349).bind fun t358 => ((spec_DecText.f k t349).bind fun t359 => (if t358.toList = t359.toList then ((impl_ReadDec.f t350).bind fun t360 => ((spec_ReadDec.f k t350).bind fun t361 => (if t360 = t361 then ((impl_Words.f k t351).bind fun t362 => ((spec_Words.f k t351).bind fun t365 => ((laws_sameTexts.f k t362 t365).bind fun t368 => (laws_FnFields.j0 k bt341.1 bt341.2 t343 bt344.1 bt344.2 t346 t350 (!t368))))) else (laws_FnFields.j0 k bt341.1 bt341.2 t343 bt344.1 bt344.2 t346 t350 true)))) else (laws_FnFields.j0 k bt341.1 bt341.2 t343 bt344.1 bt344.2 t346 t350 true)))) else (laws_FnFields.j0 k bt341.1 bt341.2 t343 bt344.1 bt344.2 t346 t350 true)))) else (laws_FnFields.j0 k bt341.1 bt341.2 t343 bt344.1 bt344.2 t346 t350 true)))) else (laws_FnFields.j0 k bt341.1 bt341.2 t343 bt344.1 bt344.2 t346 t350 true))) else (laws_FnFields.j0 k bt341.1 bt341.2 t343 bt344.1 bt344.2 t346 t350 true)))))))))))) = some r := by rw [if_neg (show ¬ (false = true) by decide)] at H; exact H
    clear H
    have H := H1
    clear H1
    replace H := Option.bind_eq_some_iff.mp H
    obtain ⟨⟨t341, t342⟩, A40, H⟩ := H
    replace H : ((impl_Pad.f t341 t342).bind fun t343 => ((spec_DrawFill.f k l0).bind fun bt344 => ((impl_Fill.f bt344.1 bt344.2).bind fun t346 => ((spec_DrawCut.f k l0).bind fun t347 => ((spec_DrawSumOf.f k l0).bind fun t348 => ((spec_DrawDecText.f k l0).bind fun t349 => ((spec_DrawReadDec.f k l0).bind fun t350 => ((spec_DrawWords.f k l0).bind fun t351 => ((spec_Pad.f t341 t342).bind fun t352 => (if t343 = t352 then ((spec_Fill.f k bt344.1 bt344.2).bind fun t353 => (if t346.toList = t353.toList then ((impl_Cut.f t347).bind fun t354 => ((spec_Cut.f k t347).bind fun t355 => (if t354.toList = t355.toList then ((impl_SumOf.f k t348).bind fun t356 => ((spec_SumOf.f k t348).bind fun t357 => (if t356 = t357 then ((impl_DecText.f t349).bind fun t358 => ((spec_DecText.f k t349).bind fun t359 => (if t358.toList = t359.toList then ((impl_ReadDec.f t350).bind fun t360 => ((spec_ReadDec.f k t350).bind fun t361 => (if t360 = t361 then ((impl_Words.f k t351).bind fun t362 => ((spec_Words.f k t351).bind fun t365 => ((laws_sameTexts.f k t362 t365).bind fun t368 => (laws_FnFields.j0 k t341 t342 t343 bt344.1 bt344.2 t346 t350 (!t368))))) else (laws_FnFields.j0 k t341 t342 t343 bt344.1 bt344.2 t346 t350 true)))) else (laws_FnFields.j0 k t341 t342 t343 bt344.1 bt344.2 t346 t350 true)))) else (laws_FnFields.j0 k t341 t342 t343 bt344.1 bt344.2 t346 t350 true)))) else (laws_FnFields.j0 k t341 t342 t343 bt344.1 bt344.2 t346 t350 true)))) else (laws_FnFields.j0 k t341 t342 t343 bt344.1 bt344.2 t346 t350 true))) else (laws_FnFields.j0 k t341 t342 t343 bt344.1 bt344.2 t346 t350 true))))))))))) = some r := H
    have A4 := Aside0.mk A40
    clear A40
    replace H := Option.bind_eq_some_iff.mp H
    obtain ⟨t343, A50, H⟩ := H
    replace H : ((spec_DrawFill.f k l0).bind fun bt344 => ((impl_Fill.f bt344.1 bt344.2).bind fun t346 => ((spec_DrawCut.f k l0).bind fun t347 => ((spec_DrawSumOf.f k l0).bind fun t348 => ((spec_DrawDecText.f k l0).bind fun t349 => ((spec_DrawReadDec.f k l0).bind fun t350 => ((spec_DrawWords.f k l0).bind fun t351 => ((spec_Pad.f t341 t342).bind fun t352 => (if t343 = t352 then ((spec_Fill.f k bt344.1 bt344.2).bind fun t353 => (if t346.toList = t353.toList then ((impl_Cut.f t347).bind fun t354 => ((spec_Cut.f k t347).bind fun t355 => (if t354.toList = t355.toList then ((impl_SumOf.f k t348).bind fun t356 => ((spec_SumOf.f k t348).bind fun t357 => (if t356 = t357 then ((impl_DecText.f t349).bind fun t358 => ((spec_DecText.f k t349).bind fun t359 => (if t358.toList = t359.toList then ((impl_ReadDec.f t350).bind fun t360 => ((spec_ReadDec.f k t350).bind fun t361 => (if t360 = t361 then ((impl_Words.f k t351).bind fun t362 => ((spec_Words.f k t351).bind fun t365 => ((laws_sameTexts.f k t362 t365).bind fun t368 => (laws_FnFields.j0 k t341 t342 t343 bt344.1 bt344.2 t346 t350 (!t368))))) else (laws_FnFields.j0 k t341 t342 t343 bt344.1 bt344.2 t346 t350 true)))) else (laws_FnFields.j0 k t341 t342 t343 bt344.1 bt344.2 t346 t350 true)))) else (laws_FnFields.j0 k t341 t342 t343 bt344.1 bt344.2 t346 t350 true)))) else (laws_FnFields.j0 k t341 t342 t343 bt344.1 bt344.2 t346 t350 true)))) else (laws_FnFields.j0 k t341 t342 t343 bt344.1 bt344.2 t346 t350 true))) else (laws_FnFields.j0 k t341 t342 t343 bt344.1 bt344.2 t346 t350 true)))))))))) = some r := H
    have A5 := Aside0.mk A50
    clear A50
    replace H := Option.bind_eq_some_iff.mp H
    obtain ⟨⟨t344, t345⟩, A60, H⟩ := H
    replace H : ((impl_Fill.f t344 t345).bind fun t346 => ((spec_DrawCut.f k l0).bind fun t347 => ((spec_DrawSumOf.f k l0).bind fun t348 => ((spec_DrawDecText.f k l0).bind fun t349 => ((spec_DrawReadDec.f k l0).bind fun t350 => ((spec_DrawWords.f k l0).bind fun t351 => ((spec_Pad.f t341 t342).bind fun t352 => (if t343 = t352 then ((spec_Fill.f k t344 t345).bind fun t353 => (if t346.toList = t353.toList then ((impl_Cut.f t347).bind fun t354 => ((spec_Cut.f k t347).bind fun t355 => (if t354.toList = t355.toList then ((impl_SumOf.f k t348).bind fun t356 => ((spec_SumOf.f k t348).bind fun t357 => (if t356 = t357 then ((impl_DecText.f t349).bind fun t358 => ((spec_DecText.f k t349).bind fun t359 => (if t358.toList = t359.toList then ((impl_ReadDec.f t350).bind fun t360 => ((spec_ReadDec.f k t350).bind fun t361 => (if t360 = t361 then ((impl_Words.f k t351).bind fun t362 => ((spec_Words.f k t351).bind fun t365 => ((laws_sameTexts.f k t362 t365).bind fun t368 => (laws_FnFields.j0 k t341 t342 t343 t344 t345 t346 t350 (!t368))))) else (laws_FnFields.j0 k t341 t342 t343 t344 t345 t346 t350 true)))) else (laws_FnFields.j0 k t341 t342 t343 t344 t345 t346 t350 true)))) else (laws_FnFields.j0 k t341 t342 t343 t344 t345 t346 t350 true)))) else (laws_FnFields.j0 k t341 t342 t343 t344 t345 t346 t350 true)))) else (laws_FnFields.j0 k t341 t342 t343 t344 t345 t346 t350 true))) else (laws_FnFields.j0 k t341 t342 t343 t344 t345 t346 t350 true))))))))) = some r := H
    have A6 := Aside0.mk A60
    clear A60
    replace H := Option.bind_eq_some_iff.mp H
    obtain ⟨t346, A70, H⟩ := H
    replace H : ((spec_DrawCut.f k l0).bind fun t347 => ((spec_DrawSumOf.f k l0).bind fun t348 => ((spec_DrawDecText.f k l0).bind fun t349 => ((spec_DrawReadDec.f k l0).bind fun t350 => ((spec_DrawWords.f k l0).bind fun t351 => ((spec_Pad.f t341 t342).bind fun t352 => (if t343 = t352 then ((spec_Fill.f k t344 t345).bind fun t353 => (if t346.toList = t353.toList then ((impl_Cut.f t347).bind fun t354 => ((spec_Cut.f k t347).bind fun t355 => (if t354.toList = t355.toList then ((impl_SumOf.f k t348).bind fun t356 => ((spec_SumOf.f k t348).bind fun t357 => (if t356 = t357 then ((impl_DecText.f t349).bind fun t358 => ((spec_DecText.f k t349).bind fun t359 => (if t358.toList = t359.toList then ((impl_ReadDec.f t350).bind fun t360 => ((spec_ReadDec.f k t350).bind fun t361 => (if t360 = t361 then ((impl_Words.f k t351).bind fun t362 => ((spec_Words.f k t351).bind fun t365 => ((laws_sameTexts.f k t362 t365).bind fun t368 => (laws_FnFields.j0 k t341 t342 t343 t344 t345 t346 t350 (!t368))))) else (laws_FnFields.j0 k t341 t342 t343 t344 t345 t346 t350 true)))) else (laws_FnFields.j0 k t341 t342 t343 t344 t345 t346 t350 true)))) else (laws_FnFields.j0 k t341 t342 t343 t344 t345 t346 t350 true)))) else (laws_FnFields.j0 k t341 t342 t343 t344 t345 t346 t350 true)))) else (laws_FnFields.j0 k t341 t342 t343 t344 t345 t346 t350 true))) else (laws_FnFields.j0 k t341 t342 t343 t344 t345 t346 t350 true)))))))) = some r := H
    have A7 := Aside0.mk A70
    clear A70
    replace H := Option.bind_eq_some_iff.mp H
    obtain ⟨t347, A80, H⟩ := H
    replace H : ((spec_DrawSumOf.f k l0).bind fun t348 => ((spec_DrawDecText.f k l0).bind fun t349 => ((spec_DrawReadDec.f k l0).bind fun t350 => ((spec_DrawWords.f k l0).bind fun t351 => ((spec_Pad.f t341 t342).bind fun t352 => (if t343 = t352 then ((spec_Fill.f k t344 t345).bind fun t353 => (if t346.toList = t353.toList then ((impl_Cut.f t347).bind fun t354 => ((spec_Cut.f k t347).bind fun t355 => (if t354.toList = t355.toList then ((impl_SumOf.f k t348).bind fun t356 => ((spec_SumOf.f k t348).bind fun t357 => (if t356 = t357 then ((impl_DecText.f t349).bind fun t358 => ((spec_DecText.f k t349).bind fun t359 => (if t358.toList = t359.toList then ((impl_ReadDec.f t350).bind fun t360 => ((spec_ReadDec.f k t350).bind fun t361 => (if t360 = t361 then ((impl_Words.f k t351).bind fun t362 => ((spec_Words.f k t351).bind fun t365 => ((laws_sameTexts.f k t362 t365).bind fun t368 => (laws_FnFields.j0 k t341 t342 t343 t344 t345 t346 t350 (!t368))))) else (laws_FnFields.j0 k t341 t342 t343 t344 t345 t346 t350 true)))) else (laws_FnFields.j0 k t341 t342 t343 t344 t345 t346 t350 true)))) else (laws_FnFields.j0 k t341 t342 t343 t344 t345 t346 t350 true)))) else (laws_FnFields.j0 k t341 t342 t343 t344 t345 t346 t350 true)))) else (laws_FnFields.j0 k t341 t342 t343 t344 t345 t346 t350 true))) else (laws_FnFields.j0 k t341 t342 t343 t344 t345 t346 t350 true))))))) = some r := H
    have A8 := Aside0.mk A80
    clear A80
    replace H := Option.bind_eq_some_iff.mp H
    obtain ⟨t348, A90, H⟩ := H
    replace H : ((spec_DrawDecText.f k l0).bind fun t349 => ((spec_DrawReadDec.f k l0).bind fun t350 => ((spec_DrawWords.f k l0).bind fun t351 => ((spec_Pad.f t341 t342).bind fun t352 => (if t343 = t352 then ((spec_Fill.f k t344 t345).bind fun t353 => (if t346.toList = t353.toList then ((impl_Cut.f t347).bind fun t354 => ((spec_Cut.f k t347).bind fun t355 => (if t354.toList = t355.toList then ((impl_SumOf.f k t348).bind fun t356 => ((spec_SumOf.f k t348).bind fun t357 => (if t356 = t357 then ((impl_DecText.f t349).bind fun t358 => ((spec_DecText.f k t349).bind fun t359 => (if t358.toList = t359.toList then ((impl_ReadDec.f t350).bind fun t360 => ((spec_ReadDec.f k t350).bind fun t361 => (if t360 = t361 then ((impl_Words.f k t351).bind fun t362 => ((spec_Words.f k t351).bind fun t365 => ((laws_sameTexts.f k t362 t365).bind fun t368 => (laws_FnFields.j0 k t341 t342 t343 t344 t345 t346 t350 (!t368))))) else (laws_FnFields.j0 k t341 t342 t343 t344 t345 t346 t350 true)))) else (laws_FnFields.j0 k t341 t342 t343 t344 t345 t346 t350 true)))) else (laws_FnFields.j0 k t341 t342 t343 t344 t345 t346 t350 true)))) else (laws_FnFields.j0 k t341 t342 t343 t344 t345 t346 t350 true)))) else (laws_FnFields.j0 k t341 t342 t343 t344 t345 t346 t350 true))) else (laws_FnFields.j0 k t341 t342 t343 t344 t345 t346 t350 true)))))) = some r := H
    have A9 := Aside0.mk A90
    clear A90
    replace H := Option.bind_eq_some_iff.mp H
    obtain ⟨t349, A100, H⟩ := H
    replace H : ((spec_DrawReadDec.f k l0).bind fun t350 => ((spec_DrawWords.f k l0).bind fun t351 => ((spec_Pad.f t341 t342).bind fun t352 => (if t343 = t352 then ((spec_Fill.f k t344 t345).bind fun t353 => (if t346.toList = t353.toList then ((impl_Cut.f t347).bind fun t354 => ((spec_Cut.f k t347).bind fun t355 => (if t354.toList = t355.toList then ((impl_SumOf.f k t348).bind fun t356 => ((spec_SumOf.f k t348).bind fun t357 => (if t356 = t357 then ((impl_DecText.f t349).bind fun t358 => ((spec_DecText.f k t349).bind fun t359 => (if t358.toList = t359.toList then ((impl_ReadDec.f t350).bind fun t360 => ((spec_ReadDec.f k t350).bind fun t361 => (if t360 = t361 then ((impl_Words.f k t351).bind fun t362 => ((spec_Words.f k t351).bind fun t365 => ((laws_sameTexts.f k t362 t365).bind fun t368 => (laws_FnFields.j0 k t341 t342 t343 t344 t345 t346 t350 (!t368))))) else (laws_FnFields.j0 k t341 t342 t343 t344 t345 t346 t350 true)))) else (laws_FnFields.j0 k t341 t342 t343 t344 t345 t346 t350 true)))) else (laws_FnFields.j0 k t341 t342 t343 t344 t345 t346 t350 true)))) else (laws_FnFields.j0 k t341 t342 t343 t344 t345 t346 t350 true)))) else (laws_FnFields.j0 k t341 t342 t343 t344 t345 t346 t350 true))) else (laws_FnFields.j0 k t341 t342 t343 t344 t345 t346 t350 true))))) = some r := H
    have A10 := Aside0.mk A100
    clear A100
    replace H := Option.bind_eq_some_iff.mp H
    obtain ⟨t350, A110, H⟩ := H
    replace H : ((spec_DrawWords.f k l0).bind fun t351 => ((spec_Pad.f t341 t342).bind fun t352 => (if t343 = t352 then ((spec_Fill.f k t344 t345).bind fun t353 => (if t346.toList = t353.toList then ((impl_Cut.f t347).bind fun t354 => ((spec_Cut.f k t347).bind fun t355 => (if t354.toList = t355.toList then ((impl_SumOf.f k t348).bind fun t356 => ((spec_SumOf.f k t348).bind fun t357 => (if t356 = t357 then ((impl_DecText.f t349).bind fun t358 => ((spec_DecText.f k t349).bind fun t359 => (if t358.toList = t359.toList then ((impl_ReadDec.f t350).bind fun t360 => ((spec_ReadDec.f k t350).bind fun t361 => (if t360 = t361 then ((impl_Words.f k t351).bind fun t362 => ((spec_Words.f k t351).bind fun t365 => ((laws_sameTexts.f k t362 t365).bind fun t368 => (laws_FnFields.j0 k t341 t342 t343 t344 t345 t346 t350 (!t368))))) else (laws_FnFields.j0 k t341 t342 t343 t344 t345 t346 t350 true)))) else (laws_FnFields.j0 k t341 t342 t343 t344 t345 t346 t350 true)))) else (laws_FnFields.j0 k t341 t342 t343 t344 t345 t346 t350 true)))) else (laws_FnFields.j0 k t341 t342 t343 t344 t345 t346 t350 true)))) else (laws_FnFields.j0 k t341 t342 t343 t344 t345 t346 t350 true))) else (laws_FnFields.j0 k t341 t342 t343 t344 t345 t346 t350 true)))) = some r := H
    have A11 := Aside0.mk A110
    clear A110
    replace H := Option.bind_eq_some_iff.mp H
    obtain ⟨t351, A120, H⟩ := H
    replace H : ((spec_Pad.f t341 t342).bind fun t352 => (if t343 = t352 then ((spec_Fill.f k t344 t345).bind fun t353 => (if t346.toList = t353.toList then ((impl_Cut.f t347).bind fun t354 => ((spec_Cut.f k t347).bind fun t355 => (if t354.toList = t355.toList then ((impl_SumOf.f k t348).bind fun t356 => ((spec_SumOf.f k t348).bind fun t357 => (if t356 = t357 then ((impl_DecText.f t349).bind fun t358 => ((spec_DecText.f k t349).bind fun t359 => (if t358.toList = t359.toList then ((impl_ReadDec.f t350).bind fun t360 => ((spec_ReadDec.f k t350).bind fun t361 => (if t360 = t361 then ((impl_Words.f k t351).bind fun t362 => ((spec_Words.f k t351).bind fun t365 => ((laws_sameTexts.f k t362 t365).bind fun t368 => (laws_FnFields.j0 k t341 t342 t343 t344 t345 t346 t350 (!t368))))) else (laws_FnFields.j0 k t341 t342 t343 t344 t345 t346 t350 true)))) else (laws_FnFields.j0 k t341 t342 t343 t344 t345 t346 t350 true)))) else (laws_FnFields.j0 k t341 t342 t343 t344 t345 t346 t350 true)))) else (laws_FnFields.j0 k t341 t342 t343 t344 t345 t346 t350 true)))) else (laws_FnFields.j0 k t341 t342 t343 t344 t345 t346 t350 true))) else (laws_FnFields.j0 k t341 t342 t343 t344 t345 t346 t350 true))) = some r := H
    have A12 := Aside0.mk A120
    clear A120
    have HC13 := Aside0.mk H
    clear H
    go_enter Tryd.func6, Tryd.ntmps6
    go_upto_region 12 with (first | ((with_reducible refine gate_callee (f := 7) rfl ?_); refine goesL_ (some 16) rfl rfl Tryd.func7 (by kernel_rfl) rfl #[.slice A0 l0.length c0] rfl (by (try simp only [List.map_toArray, List.map_cons, List.map_nil]); first | done | rfl | (simp only [List.length_drop, List.length_take]; rfl)) ?_; (with_reducible refine (laws_big.calls _ _ l0 false _ ?side1 ?side2 A2.out).mono ?_); (case side1 => repeat (first | exact HR0.out | (with_reducible refine Kd.C_alloc ?_ _) | (with_reducible refine Kd.C_drewN ?_ _) | (with_reducible refine Kd.C_drew ?_))); (case side2 => exact HC0.out); rintro e w' ⟨rfl, ⟨nd, rfl⟩⟩; refine ⟨_, rfl, ?_⟩) | ((with_reducible refine gate_callee (f := 51) rfl ?_); refine goesL_ (some 19) rfl rfl Tryd.func51 (by kernel_rfl) rfl #[.slice A0 l0.length c0] rfl (by (try simp only [List.map_toArray, List.map_cons, List.map_nil]); first | done | rfl | (simp only [List.length_drop, List.length_take]; rfl)) ?_; (with_reducible refine (spec_DrawPad.calls k _ _ l0 t341 t342 _ ?side1 ?side2 A4.out).mono ?_); (case side1 => repeat (first | exact HR0.out | (with_reducible refine Kd.C_alloc ?_ _) | (with_reducible refine Kd.C_drewN ?_ _) | (with_reducible refine Kd.C_drew ?_))); (case side2 => exact HC0.out); rintro e w14 ⟨rfl, hb⟩; refine ⟨_, rfl, ?_⟩; have n0_ := Aside0.mk (below_step (by repeat (first | (with_reducible first | exact HB.out | apply below_alloc | apply pw_below_drewN | apply below_drew1) | exact HB.out)) hb); clear HB; have HB := n0_; clear n0_; (try clear hb); (try clear hb2); (try clear hk); (try clear hi)) | ((with_reducible refine gate_callee (f := 52) rfl ?_); refine goesL_ (some 24) rfl rfl Tryd.func52 (by kernel_rfl) rfl #[.int .i64 t341, .int .i64 t342] rfl (by (try simp only [List.map_toArray, List.map_cons, List.map_nil]); first | done | rfl | (simp only [List.length_drop, List.length_take]; rfl)) ?_; (with_reducible refine (impl_Pad.calls t341 t342 t343 _ A5.out).mono ?_); rintro e w' ⟨rfl, ⟨nd, rfl⟩⟩; refine ⟨_, rfl, ?_⟩) | ((with_reducible refine gate_callee (f := 53) rfl ?_); refine goesL_ (some 27) rfl rfl Tryd.func53 (by kernel_rfl) rfl #[.slice A0 l0.length c0] rfl (by (try simp only [List.map_toArray, List.map_cons, List.map_nil]); first | done | rfl | (simp only [List.length_drop, List.length_take]; rfl)) ?_; (with_reducible refine (spec_DrawFill.calls k _ _ l0 t344 t345 _ ?side1 ?side2 A6.out).mono ?_); (case side1 => repeat (first | exact (Kd.C_below HR0.out (by repeat (first | (with_reducible first | exact HB.out | apply below_alloc | apply pw_below_drewN | apply below_drew1) | exact HB.out))) | (with_reducible refine Kd.C_alloc ?_ _) | (with_reducible refine Kd.C_drewN ?_ _) | (with_reducible refine Kd.C_drew ?_))); (case side2 => exact HC0.out); rintro e w15 ⟨rfl, hb⟩; refine ⟨_, rfl, ?_⟩; have n0_ := Aside0.mk (below_step (by repeat (first | (with_reducible first | exact HB.out | apply below_alloc | apply pw_below_drewN | apply below_drew1) | exact HB.out)) hb); clear HB; have HB := n0_; clear n0_; (try clear hb); (try clear hb2); (try clear hk); (try clear hi)) | ((with_reducible refine gate_callee (f := 54) rfl ?_); refine goesL_ (some 32) rfl rfl Tryd.func54 (by kernel_rfl) rfl #[.string t344, .int .i64 t345] rfl (by (try simp only [List.map_toArray, List.map_cons, List.map_nil]); first | done | rfl | (simp only [List.length_drop, List.length_take]; rfl)) ?_; (with_reducible refine (impl_Fill.calls t344 t345 t346 _ A7.out).mono ?_); rintro e w16 ⟨rfl, hb⟩; refine ⟨_, rfl, ?_⟩; have n0_ := Aside0.mk (below_step (by repeat (first | (with_reducible first | exact HB.out | apply below_alloc | apply pw_below_drewN | apply below_drew1) | exact HB.out)) hb); clear HB; have HB := n0_; clear n0_; (try clear hb); (try clear hb2); (try clear hk); (try clear hi)) | ((with_reducible refine gate_callee (f := 55) rfl ?_); refine goesL_ (some 34) rfl rfl Tryd.func55 (by kernel_rfl) rfl #[.slice A0 l0.length c0] rfl (by (try simp only [List.map_toArray, List.map_cons, List.map_nil]); first | done | rfl | (simp only [List.length_drop, List.length_take]; rfl)) ?_; (with_reducible refine (spec_DrawCut.calls k _ _ l0 t347 _ ?side1 ?side2 A8.out).mono ?_); (case side1 => repeat (first | exact (Kd.C_below HR0.out HB.out) | (with_reducible refine Kd.C_alloc ?_ _) | (with_reducible refine Kd.C_drewN ?_ _) | (with_reducible refine Kd.C_drew ?_))); (case side2 => exact HC0.out); rintro e w17 ⟨rfl, hb⟩; refine ⟨_, rfl, ?_⟩; have n0_ := Aside0.mk (below_step (by repeat (first | (with_reducible first | exact HB.out | apply below_alloc | apply pw_below_drewN | apply below_drew1) | exact HB.out)) hb); clear HB; have HB := n0_; clear n0_; (try clear hb); (try clear hb2); (try clear hk); (try clear hi)) | ((with_reducible refine gate_callee (f := 56) rfl ?_); refine goesL_ (some 36) rfl rfl Tryd.func56 (by kernel_rfl) rfl #[.slice A0 l0.length c0] rfl (by (try simp only [List.map_toArray, List.map_cons, List.map_nil]); first | done | rfl | (simp only [List.length_drop, List.length_take]; rfl)) ?_; (with_reducible refine (spec_DrawSumOf.calls k _ _ l0 t348 _ ?side1 ?side2 A9.out).mono ?_); (case side1 => repeat (first | exact (Kd.C_below HR0.out HB.out) | (with_reducible refine Kd.C_alloc ?_ _) | (with_reducible refine Kd.C_drewN ?_ _) | (with_reducible refine Kd.C_drew ?_))); (case side2 => exact HC0.out); rintro e w18 ⟨rfl, hb⟩; refine ⟨_, rfl, ?_⟩; have n0_ := Aside0.mk (below_step (by repeat (first | (with_reducible first | exact HB.out | apply below_alloc | apply pw_below_drewN | apply below_drew1) | exact HB.out)) hb); clear HB; have HB := n0_; clear n0_; (try clear hb); (try clear hb2); (try clear hk); (try clear hi)) | ((with_reducible refine gate_callee (f := 57) rfl ?_); refine goesL_ (some 38) rfl rfl Tryd.func57 (by kernel_rfl) rfl #[.slice A0 l0.length c0] rfl (by (try simp only [List.map_toArray, List.map_cons, List.map_nil]); first | done | rfl | (simp only [List.length_drop, List.length_take]; rfl)) ?_; (with_reducible refine (spec_DrawDecText.calls k _ _ l0 t349 _ ?side1 ?side2 A10.out).mono ?_); (case side1 => repeat (first | exact (Kd.C_below HR0.out HB.out) | (with_reducible refine Kd.C_alloc ?_ _) | (with_reducible refine Kd.C_drewN ?_ _) | (with_reducible refine Kd.C_drew ?_))); (case side2 => exact HC0.out); rintro e w19 ⟨rfl, hb⟩; refine ⟨_, rfl, ?_⟩; have n0_ := Aside0.mk (below_step (by repeat (first | (with_reducible first | exact HB.out | apply below_alloc | apply pw_below_drewN | apply below_drew1) | exact HB.out)) hb); clear HB; have HB := n0_; clear n0_; (try clear hb); (try clear hb2); (try clear hk); (try clear hi)) | ((with_reducible refine gate_callee (f := 58) rfl ?_); refine goesL_ (some 40) rfl rfl Tryd.func58 (by kernel_rfl) rfl #[.slice A0 l0.length c0] rfl (by (try simp only [List.map_toArray, List.map_cons, List.map_nil]); first | done | rfl | (simp only [List.length_drop, List.length_take]; rfl)) ?_; (with_reducible refine (spec_DrawReadDec.calls k _ _ l0 t350 _ ?side1 ?side2 A11.out).mono ?_); (case side1 => repeat (first | exact (Kd.C_below HR0.out HB.out) | (with_reducible refine Kd.C_alloc ?_ _) | (with_reducible refine Kd.C_drewN ?_ _) | (with_reducible refine Kd.C_drew ?_))); (case side2 => exact HC0.out); rintro e w20 ⟨rfl, hb⟩; refine ⟨_, rfl, ?_⟩; have n0_ := Aside0.mk (below_step (by repeat (first | (with_reducible first | exact HB.out | apply below_alloc | apply pw_below_drewN | apply below_drew1) | exact HB.out)) hb); clear HB; have HB := n0_; clear n0_; (try clear hb); (try clear hb2); (try clear hk); (try clear hi)) | ((with_reducible refine gate_callee (f := 59) rfl ?_); refine goesL_ (some 42) rfl rfl Tryd.func59 (by kernel_rfl) rfl #[.slice A0 l0.length c0] rfl (by (try simp only [List.map_toArray, List.map_cons, List.map_nil]); first | done | rfl | (simp only [List.length_drop, List.length_take]; rfl)) ?_; (with_reducible refine (spec_DrawWords.calls k _ _ l0 t351 _ ?side1 ?side2 A12.out).mono ?_); (case side1 => repeat (first | exact (Kd.C_below HR0.out HB.out) | (with_reducible refine Kd.C_alloc ?_ _) | (with_reducible refine Kd.C_drewN ?_ _) | (with_reducible refine Kd.C_drew ?_))); (case side2 => exact HC0.out); rintro e w21 ⟨rfl, hb⟩; refine ⟨_, rfl, ?_⟩; have n0_ := Aside0.mk (below_step (by repeat (first | (with_reducible first | exact HB.out | apply below_alloc | apply pw_below_drewN | apply below_drew1) | exact HB.out)) hb); clear HB; have HB := n0_; clear n0_; (try clear hb); (try clear hb2); (try clear hk); (try clear hi)))
    (try simp only [Act.put, List.setIfInBounds_toArray, List.set_cons_zero, List.set_cons_succ])
    go_cut [90] (fun v90 wc => ∃ (kq : Nat) (x90_12 : Bool), v90 = .bool x90_12 ∧ Aside0 (laws_FnFields.j0 kq t341 t342 t343 t344 t345 t346 t350 x90_12 = some r) ∧ Aside0 (kq ≤ k) ∧ Aside0 (Below w.heap.size w wc))
    case first => as_aux_lemma =>
      have H := HC13.out
      clear HC13
      replace H := Option.bind_eq_some_iff.mp H
      obtain ⟨t352, A220, H⟩ := H
      replace H : (if t343 = t352 then ((spec_Fill.f k t344 t345).bind fun t353 => (if t346.toList = t353.toList then ((impl_Cut.f t347).bind fun t354 => ((spec_Cut.f k t347).bind fun t355 => (if t354.toList = t355.toList then ((impl_SumOf.f k t348).bind fun t356 => ((spec_SumOf.f k t348).bind fun t357 => (if t356 = t357 then ((impl_DecText.f t349).bind fun t358 => ((spec_DecText.f k t349).bind fun t359 => (if t358.toList = t359.toList then ((impl_ReadDec.f t350).bind fun t360 => ((spec_ReadDec.f k t350).bind fun t361 => (if t360 = t361 then ((impl_Words.f k t351).bind fun t362 => ((spec_Words.f k t351).bind fun t365 => ((laws_sameTexts.f k t362 t365).bind fun t368 => (laws_FnFields.j0 k t341 t342 t343 t344 t345 t346 t350 (!t368))))) else (laws_FnFields.j0 k t341 t342 t343 t344 t345 t346 t350 true)))) else (laws_FnFields.j0 k t341 t342 t343 t344 t345 t346 t350 true)))) else (laws_FnFields.j0 k t341 t342 t343 t344 t345 t346 t350 true)))) else (laws_FnFields.j0 k t341 t342 t343 t344 t345 t346 t350 true)))) else (laws_FnFields.j0 k t341 t342 t343 t344 t345 t346 t350 true))) else (laws_FnFields.j0 k t341 t342 t343 t344 t345 t346 t350 true)) = some r := H
      have A22 := Aside0.mk A220
      clear A220
      by_cases c23 : t343 = t352
      · rw [if_pos c23] at H
        have c23b0 : (t343 == t352) = true := beq_iff_eq.mpr c23
        have c23b1 : (t343 != t352) = false := bne_eq_false_iff_eq.mpr c23
        clear c23
        (first | rw [c23b0] | (simp only [i64_w, i32_w]; rw [c23b0]) | skip)
        replace H := Option.bind_eq_some_iff.mp H
        obtain ⟨t353, A240, H⟩ := H
        replace H : (if t346.toList = t353.toList then ((impl_Cut.f t347).bind fun t354 => ((spec_Cut.f k t347).bind fun t355 => (if t354.toList = t355.toList then ((impl_SumOf.f k t348).bind fun t356 => ((spec_SumOf.f k t348).bind fun t357 => (if t356 = t357 then ((impl_DecText.f t349).bind fun t358 => ((spec_DecText.f k t349).bind fun t359 => (if t358.toList = t359.toList then ((impl_ReadDec.f t350).bind fun t360 => ((spec_ReadDec.f k t350).bind fun t361 => (if t360 = t361 then ((impl_Words.f k t351).bind fun t362 => ((spec_Words.f k t351).bind fun t365 => ((laws_sameTexts.f k t362 t365).bind fun t368 => (laws_FnFields.j0 k t341 t342 t343 t344 t345 t346 t350 (!t368))))) else (laws_FnFields.j0 k t341 t342 t343 t344 t345 t346 t350 true)))) else (laws_FnFields.j0 k t341 t342 t343 t344 t345 t346 t350 true)))) else (laws_FnFields.j0 k t341 t342 t343 t344 t345 t346 t350 true)))) else (laws_FnFields.j0 k t341 t342 t343 t344 t345 t346 t350 true)))) else (laws_FnFields.j0 k t341 t342 t343 t344 t345 t346 t350 true)) = some r := H
        have A24 := Aside0.mk A240
        clear A240
        by_cases c25 : t346.toList = t353.toList
        · rw [if_pos c25] at H
          have c25b0 : (t346.toList == t353.toList) = true := beq_iff_eq.mpr c25
          have c25b1 : (t346.toList != t353.toList) = false := bne_eq_false_iff_eq.mpr c25
          clear c25
          replace H := Option.bind_eq_some_iff.mp H
          obtain ⟨t354, A260, H⟩ := H
          replace H : ((spec_Cut.f k t347).bind fun t355 => (if t354.toList = t355.toList then ((impl_SumOf.f k t348).bind fun t356 => ((spec_SumOf.f k t348).bind fun t357 => (if t356 = t357 then ((impl_DecText.f t349).bind fun t358 => ((spec_DecText.f k t349).bind fun t359 => (if t358.toList = t359.toList then ((impl_ReadDec.f t350).bind fun t360 => ((spec_ReadDec.f k t350).bind fun t361 => (if t360 = t361 then ((impl_Words.f k t351).bind fun t362 => ((spec_Words.f k t351).bind fun t365 => ((laws_sameTexts.f k t362 t365).bind fun t368 => (laws_FnFields.j0 k t341 t342 t343 t344 t345 t346 t350 (!t368))))) else (laws_FnFields.j0 k t341 t342 t343 t344 t345 t346 t350 true)))) else (laws_FnFields.j0 k t341 t342 t343 t344 t345 t346 t350 true)))) else (laws_FnFields.j0 k t341 t342 t343 t344 t345 t346 t350 true)))) else (laws_FnFields.j0 k t341 t342 t343 t344 t345 t346 t350 true))) = some r := H
          have A26 := Aside0.mk A260
          clear A260
          replace H := Option.bind_eq_some_iff.mp H
          obtain ⟨t355, A270, H⟩ := H
          replace H : (if t354.toList = t355.toList then ((impl_SumOf.f k t348).bind fun t356 => ((spec_SumOf.f k t348).bind fun t357 => (if t356 = t357 then ((impl_DecText.f t349).bind fun t358 => ((spec_DecText.f k t349).bind fun t359 => (if t358.toList = t359.toList then ((impl_ReadDec.f t350).bind fun t360 => ((spec_ReadDec.f k t350).bind fun t361 => (if t360 = t361 then ((impl_Words.f k t351).bind fun t362 => ((spec_Words.f k t351).bind fun t365 => ((laws_sameTexts.f k t362 t365).bind fun t368 => (laws_FnFields.j0 k t341 t342 t343 t344 t345 t346 t350 (!t368))))) else (laws_FnFields.j0 k t341 t342 t343 t344 t345 t346 t350 true)))) else (laws_FnFields.j0 k t341 t342 t343 t344 t345 t346 t350 true)))) else (laws_FnFields.j0 k t341 t342 t343 t344 t345 t346 t350 true)))) else (laws_FnFields.j0 k t341 t342 t343 t344 t345 t346 t350 true)) = some r := H
          have A27 := Aside0.mk A270
          clear A270
          by_cases c28 : t354.toList = t355.toList
          · rw [if_pos c28] at H
            have c28b0 : (t354.toList == t355.toList) = true := beq_iff_eq.mpr c28
            have c28b1 : (t354.toList != t355.toList) = false := bne_eq_false_iff_eq.mpr c28
            clear c28
            replace H := Option.bind_eq_some_iff.mp H
            obtain ⟨t356, A290, H⟩ := H
            replace H : ((spec_SumOf.f k t348).bind fun t357 => (if t356 = t357 then ((impl_DecText.f t349).bind fun t358 => ((spec_DecText.f k t349).bind fun t359 => (if t358.toList = t359.toList then ((impl_ReadDec.f t350).bind fun t360 => ((spec_ReadDec.f k t350).bind fun t361 => (if t360 = t361 then ((impl_Words.f k t351).bind fun t362 => ((spec_Words.f k t351).bind fun t365 => ((laws_sameTexts.f k t362 t365).bind fun t368 => (laws_FnFields.j0 k t341 t342 t343 t344 t345 t346 t350 (!t368))))) else (laws_FnFields.j0 k t341 t342 t343 t344 t345 t346 t350 true)))) else (laws_FnFields.j0 k t341 t342 t343 t344 t345 t346 t350 true)))) else (laws_FnFields.j0 k t341 t342 t343 t344 t345 t346 t350 true))) = some r := H
            have A29 := Aside0.mk A290
            clear A290
            replace H := Option.bind_eq_some_iff.mp H
            obtain ⟨t357, A300, H⟩ := H
            replace H : (if t356 = t357 then ((impl_DecText.f t349).bind fun t358 => ((spec_DecText.f k t349).bind fun t359 => (if t358.toList = t359.toList then ((impl_ReadDec.f t350).bind fun t360 => ((spec_ReadDec.f k t350).bind fun t361 => (if t360 = t361 then ((impl_Words.f k t351).bind fun t362 => ((spec_Words.f k t351).bind fun t365 => ((laws_sameTexts.f k t362 t365).bind fun t368 => (laws_FnFields.j0 k t341 t342 t343 t344 t345 t346 t350 (!t368))))) else (laws_FnFields.j0 k t341 t342 t343 t344 t345 t346 t350 true)))) else (laws_FnFields.j0 k t341 t342 t343 t344 t345 t346 t350 true)))) else (laws_FnFields.j0 k t341 t342 t343 t344 t345 t346 t350 true)) = some r := H
            have A30 := Aside0.mk A300
            clear A300
            by_cases c31 : t356 = t357
            · rw [if_pos c31] at H
              have c31b0 : (t356 == t357) = true := beq_iff_eq.mpr c31
              have c31b1 : (t356 != t357) = false := bne_eq_false_iff_eq.mpr c31
              clear c31
              replace H := Option.bind_eq_some_iff.mp H
              obtain ⟨t358, A320, H⟩ := H
              replace H : ((spec_DecText.f k t349).bind fun t359 => (if t358.toList = t359.toList then ((impl_ReadDec.f t350).bind fun t360 => ((spec_ReadDec.f k t350).bind fun t361 => (if t360 = t361 then ((impl_Words.f k t351).bind fun t362 => ((spec_Words.f k t351).bind fun t365 => ((laws_sameTexts.f k t362 t365).bind fun t368 => (laws_FnFields.j0 k t341 t342 t343 t344 t345 t346 t350 (!t368))))) else (laws_FnFields.j0 k t341 t342 t343 t344 t345 t346 t350 true)))) else (laws_FnFields.j0 k t341 t342 t343 t344 t345 t346 t350 true))) = some r := H
              have A32 := Aside0.mk A320
              clear A320
              replace H := Option.bind_eq_some_iff.mp H
              obtain ⟨t359, A330, H⟩ := H
              replace H : (if t358.toList = t359.toList then ((impl_ReadDec.f t350).bind fun t360 => ((spec_ReadDec.f k t350).bind fun t361 => (if t360 = t361 then ((impl_Words.f k t351).bind fun t362 => ((spec_Words.f k t351).bind fun t365 => ((laws_sameTexts.f k t362 t365).bind fun t368 => (laws_FnFields.j0 k t341 t342 t343 t344 t345 t346 t350 (!t368))))) else (laws_FnFields.j0 k t341 t342 t343 t344 t345 t346 t350 true)))) else (laws_FnFields.j0 k t341 t342 t343 t344 t345 t346 t350 true)) = some r := H
              have A33 := Aside0.mk A330
              clear A330
              by_cases c34 : t358.toList = t359.toList
              · rw [if_pos c34] at H
                have c34b0 : (t358.toList == t359.toList) = true := beq_iff_eq.mpr c34
                have c34b1 : (t358.toList != t359.toList) = false := bne_eq_false_iff_eq.mpr c34
                clear c34
                replace H := Option.bind_eq_some_iff.mp H
                obtain ⟨t360, A350, H⟩ := H
                replace H : ((spec_ReadDec.f k t350).bind fun t361 => (if t360 = t361 then ((impl_Words.f k t351).bind fun t362 => ((spec_Words.f k t351).bind fun t365 => ((laws_sameTexts.f k t362 t365).bind fun t368 => (laws_FnFields.j0 k t341 t342 t343 t344 t345 t346 t350 (!t368))))) else (laws_FnFields.j0 k t341 t342 t343 t344 t345 t346 t350 true))) = some r := H
                have A35 := Aside0.mk A350
                clear A350
                replace H := Option.bind_eq_some_iff.mp H
                obtain ⟨t361, A360, H⟩ := H
                replace H : (if t360 = t361 then ((impl_Words.f k t351).bind fun t362 => ((spec_Words.f k t351).bind fun t365 => ((laws_sameTexts.f k t362 t365).bind fun t368 => (laws_FnFields.j0 k t341 t342 t343 t344 t345 t346 t350 (!t368))))) else (laws_FnFields.j0 k t341 t342 t343 t344 t345 t346 t350 true)) = some r := H
                have A36 := Aside0.mk A360
                clear A360
                by_cases c37 : t360 = t361
                · rw [if_pos c37] at H
                  have c37b0 : (t360 == t361) = true := beq_iff_eq.mpr c37
                  have c37b1 : (t360 != t361) = false := bne_eq_false_iff_eq.mpr c37
                  clear c37
                  replace H := Option.bind_eq_some_iff.mp H
                  obtain ⟨t362, A380, H⟩ := H
                  replace H : ((spec_Words.f k t351).bind fun t365 => ((laws_sameTexts.f k t362 t365).bind fun t368 => (laws_FnFields.j0 k t341 t342 t343 t344 t345 t346 t350 (!t368)))) = some r := H
                  have A38 := Aside0.mk A380
                  clear A380
                  replace H := Option.bind_eq_some_iff.mp H
                  obtain ⟨t365, A390, H⟩ := H
                  replace H : ((laws_sameTexts.f k t362 t365).bind fun t368 => (laws_FnFields.j0 k t341 t342 t343 t344 t345 t346 t350 (!t368))) = some r := H
                  have A39 := Aside0.mk A390
                  clear A390
                  replace H := Option.bind_eq_some_iff.mp H
                  obtain ⟨t368, A400, H⟩ := H
                  replace H : (laws_FnFields.j0 k t341 t342 t343 t344 t345 t346 t350 (!t368)) = some r := H
                  have A40 := Aside0.mk A400
                  clear A400
                  have H' := Aside0.mk H
                  clear H
                  go_wp2_with (first | ((with_reducible refine gate_callee (f := 60) rfl ?_); refine goesL_ (some 46) rfl rfl Tryd.func60 (by kernel_rfl) rfl #[.int .i64 t341, .int .i64 t342] rfl (by (try simp only [List.map_toArray, List.map_cons, List.map_nil]); first | done | rfl | (simp only [List.length_drop, List.length_take]; rfl)) ?_; (with_reducible refine (spec_Pad.calls t341 t342 t352 _ A22.out).mono ?_); rintro e w' ⟨rfl, ⟨nd, rfl⟩⟩; refine ⟨_, rfl, ?_⟩) | (go_at_call 61; (with_reducible refine (spec_Fill.calls k t344 t345 t353 _ A24.out).mono ?_); rintro e w41 ⟨rfl, hb⟩; have n0_ := Aside0.mk (below_step (by repeat (first | (with_reducible first | exact HB.out | apply below_alloc | apply pw_below_drewN | apply below_drew1) | exact HB.out)) hb); clear HB; have HB := n0_; clear n0_; (try clear hb); (try clear hb2); (try clear hk); (try clear hi)) | (go_at_call 62; (with_reducible refine (impl_Cut.calls t347 t354 _ A26.out).mono ?_); rintro e w' ⟨rfl, ⟨nd, rfl⟩⟩) | (go_at_call 63; (with_reducible refine (spec_Cut.calls k t347 t355 _ A27.out).mono ?_); rintro e w' ⟨rfl, ⟨nd, rfl⟩⟩) | (go_at_call 64; (with_reducible refine (impl_SumOf.calls k t348 t356 _ A29.out).mono ?_); rintro e w' ⟨rfl, ⟨nd, rfl⟩⟩) | (go_at_call 65; (with_reducible refine (spec_SumOf.calls k t348 t357 _ A30.out).mono ?_); rintro e w' ⟨rfl, ⟨nd, rfl⟩⟩) | (go_at_call 66; (with_reducible refine (impl_DecText.calls t349 t358 _ A32.out (Tabs.below HL.out (by repeat (first | (with_reducible first | exact HB.out | apply below_alloc | apply pw_below_drewN | apply below_drew1) | exact HB.out)))).mono ?_); rintro e w42 ⟨rfl, hb⟩; have n0_ := Aside0.mk (below_step (by repeat (first | (with_reducible first | exact HB.out | apply below_alloc | apply pw_below_drewN | apply below_drew1) | exact HB.out)) hb); clear HB; have HB := n0_; clear n0_; (try clear hb); (try clear hb2); (try clear hk); (try clear hi)) | (go_at_call 67; (with_reducible refine (spec_DecText.calls k t349 t359 _ A33.out).mono ?_); rintro e w' ⟨rfl, ⟨nd, rfl⟩⟩) | (go_at_call 68; (with_reducible refine (impl_ReadDec.calls t350 t360 _ A35.out (Tabs.below HL.out (by repeat (first | (with_reducible first | exact HB.out | apply below_alloc | apply pw_below_drewN | apply below_drew1) | exact HB.out)))).mono ?_); rintro e w43 ⟨rfl, hb⟩; have n0_ := Aside0.mk (below_step (by repeat (first | (with_reducible first | exact HB.out | apply below_alloc | apply pw_below_drewN | apply below_drew1) | exact HB.out)) hb); clear HB; have HB := n0_; clear n0_; (try clear hb); (try clear hb2); (try clear hk); (try clear hi)) | (go_at_call 69; (with_reducible refine (spec_ReadDec.calls k t350 t361 _ A36.out).mono ?_); rintro e w' ⟨rfl, ⟨nd, rfl⟩⟩) | (go_at_call 70; (with_reducible refine (impl_Words.calls k t351 t362 _ A38.out).mono ?_); rintro e w44 ⟨v363, rfl, ho0, hb⟩; have n0_ := Aside0.mk (Kd.R_lower ho0 (below_size (by repeat (first | (with_reducible first | exact HB.out | apply below_alloc | apply pw_below_drewN | apply below_drew1) | exact HB.out)))); have n1_ := Aside0.mk (below_step (by repeat (first | (with_reducible first | exact HB.out | apply below_alloc | apply pw_below_drewN | apply below_drew1) | exact HB.out)) hb); clear HB; have HO364 := n0_; have HB := n1_; clear n0_ n1_; (try clear hb); (try clear hb2); (try clear hk); (try clear hi); (try clear ho0)) | (go_at_call 71; (with_reducible refine (spec_Words.calls k t351 t365 _ A39.out).mono ?_); rintro e w45 ⟨v366, rfl, ho0, hb⟩; have n0_ := Aside0.mk (Kd.R_elder' (by (with_reducible repeat (first | apply Kd.R_alloc | apply Kd.R_drewN | apply Kd.R_drew)); exact HO364.out) (Kd.R_base ho0) hb); have n1_ := Aside0.mk (Kd.R_lower (Kd.R_new' ho0 (Kd.R_lt (by (with_reducible repeat (first | apply Kd.R_alloc | apply Kd.R_drewN | apply Kd.R_drew)); exact HO364.out))) (below_size (by repeat (first | (with_reducible first | exact HB.out | apply below_alloc | apply pw_below_drewN | apply below_drew1) | exact HB.out)))); have n2_ := Aside0.mk (below_step (by repeat (first | (with_reducible first | exact HB.out | apply below_alloc | apply pw_below_drewN | apply below_drew1) | exact HB.out)) hb); clear HO364; clear HB; have HO364 := n0_; have HO367 := n1_; have HB := n2_; clear n0_ n1_ n2_; (try clear hb); (try clear hb2); (try clear hk); (try clear hi); (try clear ho0); obtain ⟨Ao46, co46, eo46⟩ := Kd.R_slice HO364.out; subst eo46; obtain ⟨Ao47, co47, eo47⟩ := Kd.R_slice HO367.out; subst eo47) | (go_at_call 28; (with_reducible refine (laws_sameTexts.calls k _ _ t362 _ _ t365 t368 _ ?side1 ?side2 ?side3 ?side4 A40.out).mono ?_); (case side1 => repeat (first | exact (Kd.R_reads' HO364.out).2.2 | (with_reducible refine Kd.C_alloc ?_ _) | (with_reducible refine Kd.C_drewN ?_ _) | (with_reducible refine Kd.C_drew ?_))); (case side2 => exact (Kd.R_reads' HO364.out).2.1); (case side3 => repeat (first | exact (Kd.R_reads' HO367.out).2.2 | (with_reducible refine Kd.C_alloc ?_ _) | (with_reducible refine Kd.C_drewN ?_ _) | (with_reducible refine Kd.C_drew ?_))); (case side4 => exact (Kd.R_reads' HO367.out).2.1); rintro e w' ⟨rfl, ⟨nd, rfl⟩⟩))
                  go_meet
                  case rel => exact ⟨_, (!t368), (by first | rfl | (simp; done) | (simp [*]; done)), H', ⟨by first | omega | exact Nat.le_refl _⟩, ⟨by repeat (first | (with_reducible first | exact HB.out | apply below_alloc | apply pw_below_drewN | apply below_drew1) | exact HB.out)⟩⟩
                · rw [if_neg c37] at H
                  have c37b0 : (t360 == t361) = false := beq_eq_false_iff_ne.mpr c37
                  have c37b1 : (t360 != t361) = true := bne_iff_ne.mpr c37
                  have H' := Aside0.mk H
                  clear H
                  go_wp2_with (first | ((with_reducible refine gate_callee (f := 60) rfl ?_); refine goesL_ (some 46) rfl rfl Tryd.func60 (by kernel_rfl) rfl #[.int .i64 t341, .int .i64 t342] rfl (by (try simp only [List.map_toArray, List.map_cons, List.map_nil]); first | done | rfl | (simp only [List.length_drop, List.length_take]; rfl)) ?_; (with_reducible refine (spec_Pad.calls t341 t342 t352 _ A22.out).mono ?_); rintro e w' ⟨rfl, ⟨nd, rfl⟩⟩; refine ⟨_, rfl, ?_⟩) | (go_at_call 61; (with_reducible refine (spec_Fill.calls k t344 t345 t353 _ A24.out).mono ?_); rintro e w48 ⟨rfl, hb⟩; have n0_ := Aside0.mk (below_step (by repeat (first | (with_reducible first | exact HB.out | apply below_alloc | apply pw_below_drewN | apply below_drew1) | exact HB.out)) hb); clear HB; have HB := n0_; clear n0_; (try clear hb); (try clear hb2); (try clear hk); (try clear hi)) | (go_at_call 62; (with_reducible refine (impl_Cut.calls t347 t354 _ A26.out).mono ?_); rintro e w' ⟨rfl, ⟨nd, rfl⟩⟩) | (go_at_call 63; (with_reducible refine (spec_Cut.calls k t347 t355 _ A27.out).mono ?_); rintro e w' ⟨rfl, ⟨nd, rfl⟩⟩) | (go_at_call 64; (with_reducible refine (impl_SumOf.calls k t348 t356 _ A29.out).mono ?_); rintro e w' ⟨rfl, ⟨nd, rfl⟩⟩) | (go_at_call 65; (with_reducible refine (spec_SumOf.calls k t348 t357 _ A30.out).mono ?_); rintro e w' ⟨rfl, ⟨nd, rfl⟩⟩) | (go_at_call 66; (with_reducible refine (impl_DecText.calls t349 t358 _ A32.out (Tabs.below HL.out (by repeat (first | (with_reducible first | exact HB.out | apply below_alloc | apply pw_below_drewN | apply below_drew1) | exact HB.out)))).mono ?_); rintro e w49 ⟨rfl, hb⟩; have n0_ := Aside0.mk (below_step (by repeat (first | (with_reducible first | exact HB.out | apply below_alloc | apply pw_below_drewN | apply below_drew1) | exact HB.out)) hb); clear HB; have HB := n0_; clear n0_; (try clear hb); (try clear hb2); (try clear hk); (try clear hi)) | (go_at_call 67; (with_reducible refine (spec_DecText.calls k t349 t359 _ A33.out).mono ?_); rintro e w' ⟨rfl, ⟨nd, rfl⟩⟩) | (go_at_call 68; (with_reducible refine (impl_ReadDec.calls t350 t360 _ A35.out (Tabs.below HL.out (by repeat (first | (with_reducible first | exact HB.out | apply below_alloc | apply pw_below_drewN | apply below_drew1) | exact HB.out)))).mono ?_); rintro e w50 ⟨rfl, hb⟩; have n0_ := Aside0.mk (below_step (by repeat (first | (with_reducible first | exact HB.out | apply below_alloc | apply pw_below_drewN | apply below_drew1) | exact HB.out)) hb); clear HB; have HB := n0_; clear n0_; (try clear hb); (try clear hb2); (try clear hk); (try clear hi)) | (go_at_call 69; (with_reducible refine (spec_ReadDec.calls k t350 t361 _ A36.out).mono ?_); rintro e w' ⟨rfl, ⟨nd, rfl⟩⟩))
                  go_meet
                  case rel => exact ⟨_, (true), (by first | rfl | (simp; done) | (simp [*]; done)), H', ⟨by first | omega | exact Nat.le_refl _⟩, ⟨by repeat (first | (with_reducible first | exact HB.out | apply below_alloc | apply pw_below_drewN | apply below_drew1) | exact HB.out)⟩⟩
              · rw [if_neg c34] at H
                have c34b0 : (t358.toList == t359.toList) = false := beq_eq_false_iff_ne.mpr c34
                have c34b1 : (t358.toList != t359.toList) = true := bne_iff_ne.mpr c34
                have H' := Aside0.mk H
                clear H
                go_wp2_with (first | ((with_reducible refine gate_callee (f := 60) rfl ?_); refine goesL_ (some 46) rfl rfl Tryd.func60 (by kernel_rfl) rfl #[.int .i64 t341, .int .i64 t342] rfl (by (try simp only [List.map_toArray, List.map_cons, List.map_nil]); first | done | rfl | (simp only [List.length_drop, List.length_take]; rfl)) ?_; (with_reducible refine (spec_Pad.calls t341 t342 t352 _ A22.out).mono ?_); rintro e w' ⟨rfl, ⟨nd, rfl⟩⟩; refine ⟨_, rfl, ?_⟩) | (go_at_call 61; (with_reducible refine (spec_Fill.calls k t344 t345 t353 _ A24.out).mono ?_); rintro e w51 ⟨rfl, hb⟩; have n0_ := Aside0.mk (below_step (by repeat (first | (with_reducible first | exact HB.out | apply below_alloc | apply pw_below_drewN | apply below_drew1) | exact HB.out)) hb); clear HB; have HB := n0_; clear n0_; (try clear hb); (try clear hb2); (try clear hk); (try clear hi)) | (go_at_call 62; (with_reducible refine (impl_Cut.calls t347 t354 _ A26.out).mono ?_); rintro e w' ⟨rfl, ⟨nd, rfl⟩⟩) | (go_at_call 63; (with_reducible refine (spec_Cut.calls k t347 t355 _ A27.out).mono ?_); rintro e w' ⟨rfl, ⟨nd, rfl⟩⟩) | (go_at_call 64; (with_reducible refine (impl_SumOf.calls k t348 t356 _ A29.out).mono ?_); rintro e w' ⟨rfl, ⟨nd, rfl⟩⟩) | (go_at_call 65; (with_reducible refine (spec_SumOf.calls k t348 t357 _ A30.out).mono ?_); rintro e w' ⟨rfl, ⟨nd, rfl⟩⟩) | (go_at_call 66; (with_reducible refine (impl_DecText.calls t349 t358 _ A32.out (Tabs.below HL.out (by repeat (first | (with_reducible first | exact HB.out | apply below_alloc | apply pw_below_drewN | apply below_drew1) | exact HB.out)))).mono ?_); rintro e w52 ⟨rfl, hb⟩; have n0_ := Aside0.mk (below_step (by repeat (first | (with_reducible first | exact HB.out | apply below_alloc | apply pw_below_drewN | apply below_drew1) | exact HB.out)) hb); clear HB; have HB := n0_; clear n0_; (try clear hb); (try clear hb2); (try clear hk); (try clear hi)) | (go_at_call 67; (with_reducible refine (spec_DecText.calls k t349 t359 _ A33.out).mono ?_); rintro e w' ⟨rfl, ⟨nd, rfl⟩⟩))
                go_meet
                case rel => exact ⟨_, (true), (by first | rfl | (simp; done) | (simp [*]; done)), H', ⟨by first | omega | exact Nat.le_refl _⟩, ⟨by repeat (first | (with_reducible first | exact HB.out | apply below_alloc | apply pw_below_drewN | apply below_drew1) | exact HB.out)⟩⟩
            · rw [if_neg c31] at H
              have c31b0 : (t356 == t357) = false := beq_eq_false_iff_ne.mpr c31
              have c31b1 : (t356 != t357) = true := bne_iff_ne.mpr c31
              have H' := Aside0.mk H
              clear H
              go_wp2_with (first | ((with_reducible refine gate_callee (f := 60) rfl ?_); refine goesL_ (some 46) rfl rfl Tryd.func60 (by kernel_rfl) rfl #[.int .i64 t341, .int .i64 t342] rfl (by (try simp only [List.map_toArray, List.map_cons, List.map_nil]); first | done | rfl | (simp only [List.length_drop, List.length_take]; rfl)) ?_; (with_reducible refine (spec_Pad.calls t341 t342 t352 _ A22.out).mono ?_); rintro e w' ⟨rfl, ⟨nd, rfl⟩⟩; refine ⟨_, rfl, ?_⟩) | (go_at_call 61; (with_reducible refine (spec_Fill.calls k t344 t345 t353 _ A24.out).mono ?_); rintro e w53 ⟨rfl, hb⟩; have n0_ := Aside0.mk (below_step (by repeat (first | (with_reducible first | exact HB.out | apply below_alloc | apply pw_below_drewN | apply below_drew1) | exact HB.out)) hb); clear HB; have HB := n0_; clear n0_; (try clear hb); (try clear hb2); (try clear hk); (try clear hi)) | (go_at_call 62; (with_reducible refine (impl_Cut.calls t347 t354 _ A26.out).mono ?_); rintro e w' ⟨rfl, ⟨nd, rfl⟩⟩) | (go_at_call 63; (with_reducible refine (spec_Cut.calls k t347 t355 _ A27.out).mono ?_); rintro e w' ⟨rfl, ⟨nd, rfl⟩⟩) | (go_at_call 64; (with_reducible refine (impl_SumOf.calls k t348 t356 _ A29.out).mono ?_); rintro e w' ⟨rfl, ⟨nd, rfl⟩⟩) | (go_at_call 65; (with_reducible refine (spec_SumOf.calls k t348 t357 _ A30.out).mono ?_); rintro e w' ⟨rfl, ⟨nd, rfl⟩⟩))
              go_meet
              case rel => exact ⟨_, (true), (by first | rfl | (simp; done) | (simp [*]; done)), H', ⟨by first | omega | exact Nat.le_refl _⟩, ⟨by repeat (first | (with_reducible first | exact HB.out | apply below_alloc | apply pw_below_drewN | apply below_drew1) | exact HB.out)⟩⟩
          · rw [if_neg c28] at H
            have c28b0 : (t354.toList == t355.toList) = false := beq_eq_false_iff_ne.mpr c28
            have c28b1 : (t354.toList != t355.toList) = true := bne_iff_ne.mpr c28
            have H' := Aside0.mk H
            clear H
            go_wp2_with (first | ((with_reducible refine gate_callee (f := 60) rfl ?_); refine goesL_ (some 46) rfl rfl Tryd.func60 (by kernel_rfl) rfl #[.int .i64 t341, .int .i64 t342] rfl (by (try simp only [List.map_toArray, List.map_cons, List.map_nil]); first | done | rfl | (simp only [List.length_drop, List.length_take]; rfl)) ?_; (with_reducible refine (spec_Pad.calls t341 t342 t352 _ A22.out).mono ?_); rintro e w' ⟨rfl, ⟨nd, rfl⟩⟩; refine ⟨_, rfl, ?_⟩) | (go_at_call 61; (with_reducible refine (spec_Fill.calls k t344 t345 t353 _ A24.out).mono ?_); rintro e w54 ⟨rfl, hb⟩; have n0_ := Aside0.mk (below_step (by repeat (first | (with_reducible first | exact HB.out | apply below_alloc | apply pw_below_drewN | apply below_drew1) | exact HB.out)) hb); clear HB; have HB := n0_; clear n0_; (try clear hb); (try clear hb2); (try clear hk); (try clear hi)) | (go_at_call 62; (with_reducible refine (impl_Cut.calls t347 t354 _ A26.out).mono ?_); rintro e w' ⟨rfl, ⟨nd, rfl⟩⟩) | (go_at_call 63; (with_reducible refine (spec_Cut.calls k t347 t355 _ A27.out).mono ?_); rintro e w' ⟨rfl, ⟨nd, rfl⟩⟩))
            go_meet
            case rel => exact ⟨_, (true), (by first | rfl | (simp; done) | (simp [*]; done)), H', ⟨by first | omega | exact Nat.le_refl _⟩, ⟨by repeat (first | (with_reducible first | exact HB.out | apply below_alloc | apply pw_below_drewN | apply below_drew1) | exact HB.out)⟩⟩
        · rw [if_neg c25] at H
          have c25b0 : (t346.toList == t353.toList) = false := beq_eq_false_iff_ne.mpr c25
          have c25b1 : (t346.toList != t353.toList) = true := bne_iff_ne.mpr c25
          have H' := Aside0.mk H
          clear H
          go_wp2_with (first | ((with_reducible refine gate_callee (f := 60) rfl ?_); refine goesL_ (some 46) rfl rfl Tryd.func60 (by kernel_rfl) rfl #[.int .i64 t341, .int .i64 t342] rfl (by (try simp only [List.map_toArray, List.map_cons, List.map_nil]); first | done | rfl | (simp only [List.length_drop, List.length_take]; rfl)) ?_; (with_reducible refine (spec_Pad.calls t341 t342 t352 _ A22.out).mono ?_); rintro e w' ⟨rfl, ⟨nd, rfl⟩⟩; refine ⟨_, rfl, ?_⟩) | (go_at_call 61; (with_reducible refine (spec_Fill.calls k t344 t345 t353 _ A24.out).mono ?_); rintro e w55 ⟨rfl, hb⟩; have n0_ := Aside0.mk (below_step (by repeat (first | (with_reducible first | exact HB.out | apply below_alloc | apply pw_below_drewN | apply below_drew1) | exact HB.out)) hb); clear HB; have HB := n0_; clear n0_; (try clear hb); (try clear hb2); (try clear hk); (try clear hi)))
          go_meet
          case rel => exact ⟨_, (true), (by first | rfl | (simp; done) | (simp [*]; done)), H', ⟨by first | omega | exact Nat.le_refl _⟩, ⟨by repeat (first | (with_reducible first | exact HB.out | apply below_alloc | apply pw_below_drewN | apply below_drew1) | exact HB.out)⟩⟩
      · rw [if_neg c23] at H
        have c23b0 : (t343 == t352) = false := beq_eq_false_iff_ne.mpr c23
        have c23b1 : (t343 != t352) = true := bne_iff_ne.mpr c23
        (first | rw [c23b0] | (simp only [i64_w, i32_w]; rw [c23b0]) | skip)
        have H' := Aside0.mk H
        clear H
        go_wp2_with (first | ((with_reducible refine gate_callee (f := 60) rfl ?_); refine goesL_ (some 46) rfl rfl Tryd.func60 (by kernel_rfl) rfl #[.int .i64 t341, .int .i64 t342] rfl (by (try simp only [List.map_toArray, List.map_cons, List.map_nil]); first | done | rfl | (simp only [List.length_drop, List.length_take]; rfl)) ?_; (with_reducible refine (spec_Pad.calls t341 t342 t352 _ A22.out).mono ?_); rintro e w' ⟨rfl, ⟨nd, rfl⟩⟩; refine ⟨_, rfl, ?_⟩))
        go_meet
        case rel => exact ⟨_, (true), (by first | rfl | (simp; done) | (simp [*]; done)), H', ⟨by first | omega | exact Nat.le_refl _⟩, ⟨by repeat (first | (with_reducible first | exact HB.out | apply below_alloc | apply pw_below_drewN | apply below_drew1) | exact HB.out)⟩⟩
    case rest => as_aux_lemma =>
      clear HC13
      try clear c2
      try clear p2
      try clear c3
      try clear c5
      try clear c6
      try clear c7
      try clear c23
      try clear c23b0
      try clear c23b1
      try clear c25
      try clear c25b0
      try clear c25b1
      try clear c28
      try clear c28b0
      try clear c28b1
      try clear c31
      try clear c31b0
      try clear c31b1
      try clear c34
      try clear c34b0
      try clear c34b1
      try clear c37
      try clear c37b0
      try clear c37b1
      try clear c51
      try clear c52
      try clear c53
      try clear c54
      try clear c55
      obtain ⟨kq, x90_12, rfl, HA, HJ12, HB⟩ := hcut
      cases kq with
      | zero => exact absurd HA.out (by simp [laws_FnFields.j0])
      | succ kj12 =>
        have H := HA.out
        clear HA
        simp only [laws_FnFields.j0] at H
        by_cases c56 : x90_12 = true
        · subst c56
          have H1 : (some false) = some r := by rw [if_pos rfl] at H; exact H
          clear H
          have H := H1
          clear H1
          obtain rfl := Option.some.inj H
          go_wp2
          go_ret
          exact ⟨by first | rfl | (simp [errW_none, errW_some] <;> rfl) | (simp [*, errW_none, errW_some] <;> rfl) | (simp only [decide_eq_true_eq] at *; simp [*, bt]; done), by repeat (first | (with_reducible first | exact HB.out | apply below_alloc | apply pw_below_drewN | apply below_drew1) | exact HB.out)⟩
        · replace c56 := Bool.eq_false_iff.mpr c56
          subst c56
          have H1 : (if t341 ≥ 0 then (if t341 ≤ 9007199254740991 then (if t342 ≥ 1 then (if t342 ≤ 512 then (if t342 = 0 then (none) else (if (Int.tmod (wrap64 (t341 + t343)) t342) = 0 then (laws_FnFields.j1 kj12 t344 t345 t346 t350 (decide (t343 ≥ t342))) else (laws_FnFields.j1 kj12 t344 t345 t346 t350 true))) else (laws_FnFields.j1 kj12 t344 t345 t346 t350 false)) else (laws_FnFields.j1 kj12 t344 t345 t346 t350 false)) else (laws_FnFields.j1 kj12 t344 t345 t346 t350 false)) else (laws_FnFields.j1 kj12 t344 t345 t346 t350 false)) = some r := by rw [if_neg (show ¬ (false = true) by decide)] at H; exact H
          clear H
          have H := H1
          clear H1
          have HC57 := Aside0.mk H
          clear H
          go_upto_region 14 with (fail)
          go_cut [117] (fun v117 wc => ∃ (kq : Nat) (x117_56 : Bool), v117 = .bool x117_56 ∧ Aside0 (laws_FnFields.j1 kq t344 t345 t346 t350 x117_56 = some r) ∧ Aside0 (kq ≤ kj12) ∧ Aside0 (Below w.heap.size w wc))
          case first => as_aux_lemma =>
            have H := HC57.out
            clear HC57
            by_cases c58 : t341 ≥ 0
            · rw [if_pos c58] at H
              have c58b0 : decide (0 ≤ t341) = true := decide_eq_true c58
              clear c58
              (first | rw [c58b0] | (simp only [i64_w, i32_w]; rw [c58b0]) | skip)
              by_cases c59 : t341 ≤ 9007199254740991
              · rw [if_pos c59] at H
                have c59b0 : decide (t341 ≤ 9007199254740991) = true := decide_eq_true c59
                clear c59
                by_cases c60 : t342 ≥ 1
                · rw [if_pos c60] at H
                  have c60b0 : decide (1 ≤ t342) = true := decide_eq_true c60
                  clear c60
                  by_cases c61 : t342 ≤ 512
                  · rw [if_pos c61] at H
                    have c61b0 : decide (t342 ≤ 512) = true := decide_eq_true c61
                    clear c61
                    by_cases c62 : t342 = 0
                    · rw [if_pos c62] at H
                      exact absurd H (by simp)
                    · rw [if_neg c62] at H
                      have c62b0 : (t342 == 0) = false := beq_eq_false_iff_ne.mpr c62
                      have c62b1 : (t342 != 0) = true := bne_iff_ne.mpr c62
                      by_cases c63 : (Int.tmod (wrap64 (t341 + t343)) t342) = 0
                      · rw [if_pos c63] at H
                        have c63b0 : ((Int.tmod (wrap64 (t341 + t343)) t342) == 0) = true := beq_iff_eq.mpr c63
                        have c63b1 : ((Int.tmod (wrap64 (t341 + t343)) t342) != 0) = false := bne_eq_false_iff_eq.mpr c63
                        clear c63
                        have H' := Aside0.mk H
                        clear H
                        go_wp2
                        go_meet
                        case rel => exact ⟨_, (decide (t343 ≥ t342)), (by first | rfl | (simp; done) | (simp [*]; done)), H', ⟨by have := HJ12.out; first | omega | exact Nat.le_refl _⟩, ⟨by repeat (first | (with_reducible first | exact HB.out | apply below_alloc | apply pw_below_drewN | apply below_drew1) | exact HB.out)⟩⟩
                      · rw [if_neg c63] at H
                        have c63b0 : ((Int.tmod (wrap64 (t341 + t343)) t342) == 0) = false := beq_eq_false_iff_ne.mpr c63
                        have c63b1 : ((Int.tmod (wrap64 (t341 + t343)) t342) != 0) = true := bne_iff_ne.mpr c63
                        have H' := Aside0.mk H
                        clear H
                        go_wp2
                        go_meet
                        case rel => exact ⟨_, (true), (by first | rfl | (simp; done) | (simp [*]; done)), H', ⟨by have := HJ12.out; first | omega | exact Nat.le_refl _⟩, ⟨by repeat (first | (with_reducible first | exact HB.out | apply below_alloc | apply pw_below_drewN | apply below_drew1) | exact HB.out)⟩⟩
                  · rw [if_neg c61] at H
                    have c61b0 : decide (t342 ≤ 512) = false := decide_eq_false c61
                    clear c61
                    have H' := Aside0.mk H
                    clear H
                    go_wp2
                    go_meet
                    case rel => exact ⟨_, (false), (by first | rfl | (simp; done) | (simp [*]; done)), H', ⟨by have := HJ12.out; first | omega | exact Nat.le_refl _⟩, ⟨by repeat (first | (with_reducible first | exact HB.out | apply below_alloc | apply pw_below_drewN | apply below_drew1) | exact HB.out)⟩⟩
                · rw [if_neg c60] at H
                  have c60b0 : decide (1 ≤ t342) = false := decide_eq_false c60
                  clear c60
                  have H' := Aside0.mk H
                  clear H
                  go_wp2
                  go_meet
                  case rel => exact ⟨_, (false), (by first | rfl | (simp; done) | (simp [*]; done)), H', ⟨by have := HJ12.out; first | omega | exact Nat.le_refl _⟩, ⟨by repeat (first | (with_reducible first | exact HB.out | apply below_alloc | apply pw_below_drewN | apply below_drew1) | exact HB.out)⟩⟩
              · rw [if_neg c59] at H
                have c59b0 : decide (t341 ≤ 9007199254740991) = false := decide_eq_false c59
                clear c59
                have H' := Aside0.mk H
                clear H
                go_wp2
                go_meet
                case rel => exact ⟨_, (false), (by first | rfl | (simp; done) | (simp [*]; done)), H', ⟨by have := HJ12.out; first | omega | exact Nat.le_refl _⟩, ⟨by repeat (first | (with_reducible first | exact HB.out | apply below_alloc | apply pw_below_drewN | apply below_drew1) | exact HB.out)⟩⟩
            · rw [if_neg c58] at H
              have c58b0 : decide (0 ≤ t341) = false := decide_eq_false c58
              clear c58
              (first | rw [c58b0] | (simp only [i64_w, i32_w]; rw [c58b0]) | skip)
              have H' := Aside0.mk H
              clear H
              go_wp2
              go_meet
              case rel => exact ⟨_, (false), (by first | rfl | (simp; done) | (simp [*]; done)), H', ⟨by have := HJ12.out; first | omega | exact Nat.le_refl _⟩, ⟨by repeat (first | (with_reducible first | exact HB.out | apply below_alloc | apply pw_below_drewN | apply below_drew1) | exact HB.out)⟩⟩
          case rest => as_aux_lemma =>
            clear HC57
            try clear c2
            try clear p2
            try clear c3
            try clear c5
            try clear c6
            try clear p6
            try clear c7
            try clear c23
            try clear c23b0
            try clear c23b1
            try clear c25
            try clear c25b0
            try clear c25b1
            try clear c28
            try clear c28b0
            try clear c28b1
            try clear c31
            try clear c31b0
            try clear c31b1
            try clear c34
            try clear c34b0
            try clear c34b1
            try clear c37
            try clear c37b0
            try clear c37b1
            try clear c51
            try clear c52
            try clear c53
            try clear c54
            try clear c55
            try clear c56
            try clear c57
            try clear c58
            try clear c58b0
            try clear c59
            try clear c59b0
            try clear c60
            try clear c60b0
            try clear c61
            try clear c61b0
            try clear c62
            try clear c62b0
            try clear c62b1
            try clear c63
            try clear c63b0
            try clear c63b1
            try clear p2
            obtain ⟨kq, x117_56, rfl, HA, HJ56, HB⟩ := hcut
            cases kq with
            | zero => exact absurd HA.out (by simp [laws_FnFields.j1])
            | succ kj56 =>
              have H := HA.out
              clear HA
              simp only [laws_FnFields.j1] at H
              by_cases c64 : x117_56 = true
              · subst c64
                have H1 : (some false) = some r := by rw [if_pos rfl] at H; exact H
                clear H
                have H := H1
                clear H1
                obtain rfl := Option.some.inj H
                go_wp2
                go_ret
                exact ⟨by first | rfl | (simp [errW_none, errW_some] <;> rfl) | (simp [*, errW_none, errW_some] <;> rfl) | (simp only [decide_eq_true_eq] at *; simp [*, bt]; done), by repeat (first | (with_reducible first | exact HB.out | apply below_alloc | apply pw_below_drewN | apply below_drew1) | exact HB.out)⟩
              · replace c64 := Bool.eq_false_iff.mpr c64
                subst c64
                have H1 : ((impl_ReadDec.f t350).bind fun t369 => (if t369 ≥ 0 then ((impl_DecText.f t369).bind fun t370 => (laws_FnFields.j2 kj56 t344 t345 t346 (t370.toList != t350.toList))) else (laws_FnFields.j2 kj56 t344 t345 t346 false))) = some r := by rw [if_neg (show ¬ (false = true) by decide)] at H; exact H
                clear H
                have H := H1
                clear H1
                replace H := Option.bind_eq_some_iff.mp H
                obtain ⟨t369, A650, H⟩ := H
                replace H : (if t369 ≥ 0 then ((impl_DecText.f t369).bind fun t370 => (laws_FnFields.j2 kj56 t344 t345 t346 (t370.toList != t350.toList))) else (laws_FnFields.j2 kj56 t344 t345 t346 false)) = some r := H
                have A65 := Aside0.mk A650
                clear A650
                have HC66 := Aside0.mk H
                clear H
                go_upto_region 17 with (first | ((with_reducible refine gate_callee (f := 68) rfl ?_); refine goesL_ (some 119) rfl rfl Tryd.func68 (by kernel_rfl) rfl #[.string t350] rfl (by (try simp only [List.map_toArray, List.map_cons, List.map_nil]); first | done | rfl | (simp only [List.length_drop, List.length_take]; rfl)) ?_; (with_reducible refine (impl_ReadDec.calls t350 t369 _ A65.out (Tabs.below HL.out (by repeat (first | (with_reducible first | exact HB.out | apply below_alloc | apply pw_below_drewN | apply below_drew1) | exact HB.out)))).mono ?_); rintro e w67 ⟨rfl, hb⟩; refine ⟨_, rfl, ?_⟩; have n0_ := Aside0.mk (below_step (by repeat (first | (with_reducible first | exact HB.out | apply below_alloc | apply pw_below_drewN | apply below_drew1) | exact HB.out)) hb); clear HB; have HB := n0_; clear n0_; (try clear hb); (try clear hb2); (try clear hk); (try clear hi)))
                (try simp only [Act.put, List.setIfInBounds_toArray, List.set_cons_zero, List.set_cons_succ])
                go_cut [127] (fun v127 wc => ∃ (kq : Nat) (x127_65 : Bool), v127 = .bool x127_65 ∧ Aside0 (laws_FnFields.j2 kq t344 t345 t346 x127_65 = some r) ∧ Aside0 (kq ≤ kj56) ∧ Aside0 (Below w.heap.size w wc))
                case first => as_aux_lemma =>
                  have H := HC66.out
                  clear HC66
                  by_cases c68 : t369 ≥ 0
                  · rw [if_pos c68] at H
                    have c68b0 : decide (0 ≤ t369) = true := decide_eq_true c68
                    clear c68
                    (first | rw [c68b0] | (simp only [i64_w, i32_w]; rw [c68b0]) | skip)
                    replace H := Option.bind_eq_some_iff.mp H
                    obtain ⟨t370, A690, H⟩ := H
                    replace H : (laws_FnFields.j2 kj56 t344 t345 t346 (t370.toList != t350.toList)) = some r := H
                    have A69 := Aside0.mk A690
                    clear A690
                    have H' := Aside0.mk H
                    clear H
                    go_wp2_with (first | (go_at_call 66; (with_reducible refine (impl_DecText.calls t369 t370 _ A69.out (Tabs.below HL.out (by repeat (first | (with_reducible first | exact HB.out | apply below_alloc | apply pw_below_drewN | apply below_drew1) | exact HB.out)))).mono ?_); rintro e w70 ⟨rfl, hb⟩; have n0_ := Aside0.mk (below_step (by repeat (first | (with_reducible first | exact HB.out | apply below_alloc | apply pw_below_drewN | apply below_drew1) | exact HB.out)) hb); clear HB; have HB := n0_; clear n0_; (try clear hb); (try clear hb2); (try clear hk); (try clear hi)))
                    go_meet
                    case rel => exact ⟨_, ((t370.toList != t350.toList)), (by first | rfl | (simp; done) | (simp [*]; done)), H', ⟨by have := HJ12.out; have := HJ56.out; first | omega | exact Nat.le_refl _⟩, ⟨by repeat (first | (with_reducible first | exact HB.out | apply below_alloc | apply pw_below_drewN | apply below_drew1) | exact HB.out)⟩⟩
                  · rw [if_neg c68] at H
                    have c68b0 : decide (0 ≤ t369) = false := decide_eq_false c68
                    clear c68
                    (first | rw [c68b0] | (simp only [i64_w, i32_w]; rw [c68b0]) | skip)
                    have H' := Aside0.mk H
                    clear H
                    go_wp2
                    go_meet
                    case rel => exact ⟨_, (false), (by first | rfl | (simp; done) | (simp [*]; done)), H', ⟨by have := HJ12.out; have := HJ56.out; first | omega | exact Nat.le_refl _⟩, ⟨by repeat (first | (with_reducible first | exact HB.out | apply below_alloc | apply pw_below_drewN | apply below_drew1) | exact HB.out)⟩⟩
                case rest => as_aux_lemma =>
                  clear HC66
                  try clear c2
                  try clear p2
                  try clear c3
                  try clear c5
                  try clear c6
                  try clear p6
                  try clear c7
                  try clear c23
                  try clear c23b0
                  try clear c23b1
                  try clear c25
                  try clear c25b0
                  try clear c25b1
                  try clear c28
                  try clear c28b0
                  try clear c28b1
                  try clear c31
                  try clear c31b0
                  try clear c31b1
                  try clear c34
                  try clear c34b0
                  try clear c34b1
                  try clear c37
                  try clear c37b0
                  try clear c37b1
                  try clear c51
                  try clear c52
                  try clear c53
                  try clear c54
                  try clear c55
                  try clear c56
                  try clear c57
                  try clear c58
                  try clear c58b0
                  try clear c59
                  try clear c59b0
                  try clear c60
                  try clear c60b0
                  try clear c61
                  try clear c61b0
                  try clear c62
                  try clear c62b0
                  try clear c62b1
                  try clear c63
                  try clear c63b0
                  try clear c63b1
                  try clear c64
                  try clear p64
                  try clear c68
                  try clear c68b0
                  try clear p2
                  try clear p6
                  obtain ⟨kq, x127_65, rfl, HA, HJ65, HB⟩ := hcut
                  cases kq with
                  | zero => exact absurd HA.out (by simp [laws_FnFields.j2])
                  | succ kj65 =>
                    have H := HA.out
                    clear HA
                    simp only [laws_FnFields.j2] at H
                    by_cases c71 : x127_65 = true
                    · subst c71
                      have H1 : (some false) = some r := by rw [if_pos rfl] at H; exact H
                      clear H
                      have H := H1
                      clear H1
                      obtain rfl := Option.some.inj H
                      go_wp2
                      go_ret
                      exact ⟨by first | rfl | (simp [errW_none, errW_some] <;> rfl) | (simp [*, errW_none, errW_some] <;> rfl) | (simp only [decide_eq_true_eq] at *; simp [*, bt]; done), by repeat (first | (with_reducible first | exact HB.out | apply below_alloc | apply pw_below_drewN | apply below_drew1) | exact HB.out)⟩
                    · replace c71 := Bool.eq_false_iff.mpr c71
                      subst c71
                      have H1 : ((impl_Cut.f t346).bind fun t371 => ((impl_Cut.f t344).bind fun t372 => (if t371.toList = t372.toList then ((impl_SumOf.f kj65 t346).bind fun t373 => ((impl_SumOf.f kj65 t344).bind fun t374 => (if t373 = t374 then (if t345 ≤ (t344.size : Int) then (some true) else (if t345 > 1024 then (some true) else (some ((t346.size : Int) == t345)))) else (some false)))) else (some false)))) = some r := by rw [if_neg (show ¬ (false = true) by decide)] at H; exact H
                      clear H
                      have H := H1
                      clear H1
                      replace H := Option.bind_eq_some_iff.mp H
                      obtain ⟨t371, A720, H⟩ := H
                      replace H : ((impl_Cut.f t344).bind fun t372 => (if t371.toList = t372.toList then ((impl_SumOf.f kj65 t346).bind fun t373 => ((impl_SumOf.f kj65 t344).bind fun t374 => (if t373 = t374 then (if t345 ≤ (t344.size : Int) then (some true) else (if t345 > 1024 then (some true) else (some ((t346.size : Int) == t345)))) else (some false)))) else (some false))) = some r := H
                      have A72 := Aside0.mk A720
                      clear A720
                      replace H := Option.bind_eq_some_iff.mp H
                      obtain ⟨t372, A730, H⟩ := H
                      replace H : (if t371.toList = t372.toList then ((impl_SumOf.f kj65 t346).bind fun t373 => ((impl_SumOf.f kj65 t344).bind fun t374 => (if t373 = t374 then (if t345 ≤ (t344.size : Int) then (some true) else (if t345 > 1024 then (some true) else (some ((t346.size : Int) == t345)))) else (some false)))) else (some false)) = some r := H
                      have A73 := Aside0.mk A730
                      clear A730
                      by_cases c74 : t371.toList = t372.toList
                      · rw [if_pos c74] at H
                        have c74b0 : (t371.toList == t372.toList) = true := beq_iff_eq.mpr c74
                        have c74b1 : (t371.toList != t372.toList) = false := bne_eq_false_iff_eq.mpr c74
                        clear c74
                        replace H := Option.bind_eq_some_iff.mp H
                        obtain ⟨t373, A750, H⟩ := H
                        replace H : ((impl_SumOf.f kj65 t344).bind fun t374 => (if t373 = t374 then (if t345 ≤ (t344.size : Int) then (some true) else (if t345 > 1024 then (some true) else (some ((t346.size : Int) == t345)))) else (some false))) = some r := H
                        have A75 := Aside0.mk A750
                        clear A750
                        replace H := Option.bind_eq_some_iff.mp H
                        obtain ⟨t374, A760, H⟩ := H
                        replace H : (if t373 = t374 then (if t345 ≤ (t344.size : Int) then (some true) else (if t345 > 1024 then (some true) else (some ((t346.size : Int) == t345)))) else (some false)) = some r := H
                        have A76 := Aside0.mk A760
                        clear A760
                        by_cases c77 : t373 = t374
                        · rw [if_pos c77] at H
                          have c77b0 : (t373 == t374) = true := beq_iff_eq.mpr c77
                          have c77b1 : (t373 != t374) = false := bne_eq_false_iff_eq.mpr c77
                          clear c77
                          by_cases c78 : t345 ≤ (t344.size : Int)
                          · rw [if_pos c78] at H
                            have c78b0 : decide (t345 ≤ (t344.size : Int)) = true := decide_eq_true c78
                            clear c78
                            obtain rfl := Option.some.inj H
                            go_wp2_with (first | ((with_reducible refine gate_callee (f := 62) rfl ?_); refine goesL_ (some 129) rfl rfl Tryd.func62 (by kernel_rfl) rfl #[.string t346] rfl (by (try simp only [List.map_toArray, List.map_cons, List.map_nil]); first | done | rfl | (simp only [List.length_drop, List.length_take]; rfl)) ?_; (with_reducible refine (impl_Cut.calls t346 t371 _ A72.out).mono ?_); rintro e w' ⟨rfl, ⟨nd, rfl⟩⟩; refine ⟨_, rfl, ?_⟩) | ((with_reducible refine gate_callee (f := 62) rfl ?_); refine goesL_ (some 131) rfl rfl Tryd.func62 (by kernel_rfl) rfl #[.string t344] rfl (by (try simp only [List.map_toArray, List.map_cons, List.map_nil]); first | done | rfl | (simp only [List.length_drop, List.length_take]; rfl)) ?_; (with_reducible refine (impl_Cut.calls t344 t372 _ A73.out).mono ?_); rintro e w' ⟨rfl, ⟨nd, rfl⟩⟩; refine ⟨_, rfl, ?_⟩) | (go_at_call 64; (with_reducible refine (impl_SumOf.calls kj65 t346 t373 _ A75.out).mono ?_); rintro e w' ⟨rfl, ⟨nd, rfl⟩⟩) | (go_at_call 64; (with_reducible refine (impl_SumOf.calls kj65 t344 t374 _ A76.out).mono ?_); rintro e w' ⟨rfl, ⟨nd, rfl⟩⟩))
                            go_ret
                            exact ⟨by first | rfl | (simp [errW_none, errW_some] <;> rfl) | (simp [*, errW_none, errW_some] <;> rfl) | (simp only [decide_eq_true_eq] at *; simp [*, bt]; done), by repeat (first | (with_reducible first | exact HB.out | apply below_alloc | apply pw_below_drewN | apply below_drew1) | exact HB.out)⟩
                          · rw [if_neg c78] at H
                            have c78b0 : decide (t345 ≤ (t344.size : Int)) = false := decide_eq_false c78
                            clear c78
                            by_cases c79 : t345 > 1024
                            · rw [if_pos c79] at H
                              have c79b0 : decide (1024 < t345) = true := decide_eq_true c79
                              clear c79
                              obtain rfl := Option.some.inj H
                              go_wp2_with (first | ((with_reducible refine gate_callee (f := 62) rfl ?_); refine goesL_ (some 129) rfl rfl Tryd.func62 (by kernel_rfl) rfl #[.string t346] rfl (by (try simp only [List.map_toArray, List.map_cons, List.map_nil]); first | done | rfl | (simp only [List.length_drop, List.length_take]; rfl)) ?_; (with_reducible refine (impl_Cut.calls t346 t371 _ A72.out).mono ?_); rintro e w' ⟨rfl, ⟨nd, rfl⟩⟩; refine ⟨_, rfl, ?_⟩) | ((with_reducible refine gate_callee (f := 62) rfl ?_); refine goesL_ (some 131) rfl rfl Tryd.func62 (by kernel_rfl) rfl #[.string t344] rfl (by (try simp only [List.map_toArray, List.map_cons, List.map_nil]); first | done | rfl | (simp only [List.length_drop, List.length_take]; rfl)) ?_; (with_reducible refine (impl_Cut.calls t344 t372 _ A73.out).mono ?_); rintro e w' ⟨rfl, ⟨nd, rfl⟩⟩; refine ⟨_, rfl, ?_⟩) | (go_at_call 64; (with_reducible refine (impl_SumOf.calls kj65 t346 t373 _ A75.out).mono ?_); rintro e w' ⟨rfl, ⟨nd, rfl⟩⟩) | (go_at_call 64; (with_reducible refine (impl_SumOf.calls kj65 t344 t374 _ A76.out).mono ?_); rintro e w' ⟨rfl, ⟨nd, rfl⟩⟩))
                              go_ret
                              exact ⟨by first | rfl | (simp [errW_none, errW_some] <;> rfl) | (simp [*, errW_none, errW_some] <;> rfl) | (simp only [decide_eq_true_eq] at *; simp [*, bt]; done), by repeat (first | (with_reducible first | exact HB.out | apply below_alloc | apply pw_below_drewN | apply below_drew1) | exact HB.out)⟩
                            · rw [if_neg c79] at H
                              have c79b0 : decide (1024 < t345) = false := decide_eq_false c79
                              clear c79
                              obtain rfl := Option.some.inj H
                              go_wp2_with (first | ((with_reducible refine gate_callee (f := 62) rfl ?_); refine goesL_ (some 129) rfl rfl Tryd.func62 (by kernel_rfl) rfl #[.string t346] rfl (by (try simp only [List.map_toArray, List.map_cons, List.map_nil]); first | done | rfl | (simp only [List.length_drop, List.length_take]; rfl)) ?_; (with_reducible refine (impl_Cut.calls t346 t371 _ A72.out).mono ?_); rintro e w' ⟨rfl, ⟨nd, rfl⟩⟩; refine ⟨_, rfl, ?_⟩) | ((with_reducible refine gate_callee (f := 62) rfl ?_); refine goesL_ (some 131) rfl rfl Tryd.func62 (by kernel_rfl) rfl #[.string t344] rfl (by (try simp only [List.map_toArray, List.map_cons, List.map_nil]); first | done | rfl | (simp only [List.length_drop, List.length_take]; rfl)) ?_; (with_reducible refine (impl_Cut.calls t344 t372 _ A73.out).mono ?_); rintro e w' ⟨rfl, ⟨nd, rfl⟩⟩; refine ⟨_, rfl, ?_⟩) | (go_at_call 64; (with_reducible refine (impl_SumOf.calls kj65 t346 t373 _ A75.out).mono ?_); rintro e w' ⟨rfl, ⟨nd, rfl⟩⟩) | (go_at_call 64; (with_reducible refine (impl_SumOf.calls kj65 t344 t374 _ A76.out).mono ?_); rintro e w' ⟨rfl, ⟨nd, rfl⟩⟩))
                              go_ret
                              exact ⟨by first | rfl | (simp [errW_none, errW_some] <;> rfl) | (simp [*, errW_none, errW_some] <;> rfl) | (simp only [decide_eq_true_eq] at *; simp [*, bt]; done), by repeat (first | (with_reducible first | exact HB.out | apply below_alloc | apply pw_below_drewN | apply below_drew1) | exact HB.out)⟩
                        · rw [if_neg c77] at H
                          have c77b0 : (t373 == t374) = false := beq_eq_false_iff_ne.mpr c77
                          have c77b1 : (t373 != t374) = true := bne_iff_ne.mpr c77
                          obtain rfl := Option.some.inj H
                          go_wp2_with (first | ((with_reducible refine gate_callee (f := 62) rfl ?_); refine goesL_ (some 129) rfl rfl Tryd.func62 (by kernel_rfl) rfl #[.string t346] rfl (by (try simp only [List.map_toArray, List.map_cons, List.map_nil]); first | done | rfl | (simp only [List.length_drop, List.length_take]; rfl)) ?_; (with_reducible refine (impl_Cut.calls t346 t371 _ A72.out).mono ?_); rintro e w' ⟨rfl, ⟨nd, rfl⟩⟩; refine ⟨_, rfl, ?_⟩) | ((with_reducible refine gate_callee (f := 62) rfl ?_); refine goesL_ (some 131) rfl rfl Tryd.func62 (by kernel_rfl) rfl #[.string t344] rfl (by (try simp only [List.map_toArray, List.map_cons, List.map_nil]); first | done | rfl | (simp only [List.length_drop, List.length_take]; rfl)) ?_; (with_reducible refine (impl_Cut.calls t344 t372 _ A73.out).mono ?_); rintro e w' ⟨rfl, ⟨nd, rfl⟩⟩; refine ⟨_, rfl, ?_⟩) | (go_at_call 64; (with_reducible refine (impl_SumOf.calls kj65 t346 t373 _ A75.out).mono ?_); rintro e w' ⟨rfl, ⟨nd, rfl⟩⟩) | (go_at_call 64; (with_reducible refine (impl_SumOf.calls kj65 t344 t374 _ A76.out).mono ?_); rintro e w' ⟨rfl, ⟨nd, rfl⟩⟩))
                          go_ret
                          exact ⟨by first | rfl | (simp [errW_none, errW_some] <;> rfl) | (simp [*, errW_none, errW_some] <;> rfl) | (simp only [decide_eq_true_eq] at *; simp [*, bt]; done), by repeat (first | (with_reducible first | exact HB.out | apply below_alloc | apply pw_below_drewN | apply below_drew1) | exact HB.out)⟩
                      · rw [if_neg c74] at H
                        have c74b0 : (t371.toList == t372.toList) = false := beq_eq_false_iff_ne.mpr c74
                        have c74b1 : (t371.toList != t372.toList) = true := bne_iff_ne.mpr c74
                        obtain rfl := Option.some.inj H
                        go_wp2_with (first | ((with_reducible refine gate_callee (f := 62) rfl ?_); refine goesL_ (some 129) rfl rfl Tryd.func62 (by kernel_rfl) rfl #[.string t346] rfl (by (try simp only [List.map_toArray, List.map_cons, List.map_nil]); first | done | rfl | (simp only [List.length_drop, List.length_take]; rfl)) ?_; (with_reducible refine (impl_Cut.calls t346 t371 _ A72.out).mono ?_); rintro e w' ⟨rfl, ⟨nd, rfl⟩⟩; refine ⟨_, rfl, ?_⟩) | ((with_reducible refine gate_callee (f := 62) rfl ?_); refine goesL_ (some 131) rfl rfl Tryd.func62 (by kernel_rfl) rfl #[.string t344] rfl (by (try simp only [List.map_toArray, List.map_cons, List.map_nil]); first | done | rfl | (simp only [List.length_drop, List.length_take]; rfl)) ?_; (with_reducible refine (impl_Cut.calls t344 t372 _ A73.out).mono ?_); rintro e w' ⟨rfl, ⟨nd, rfl⟩⟩; refine ⟨_, rfl, ?_⟩))
                        go_ret
                        exact ⟨by first | rfl | (simp [errW_none, errW_some] <;> rfl) | (simp [*, errW_none, errW_some] <;> rfl) | (simp only [decide_eq_true_eq] at *; simp [*, bt]; done), by repeat (first | (with_reducible first | exact HB.out | apply below_alloc | apply pw_below_drewN | apply below_drew1) | exact HB.out)⟩

/-- THE ONE PURE STATEMENT of laws_FnFields: yours. -/
def laws_FnFields.Pure : Prop := ∀ (l0 : List Int), l0.length ≤ maxLen → l0.length * 1 ≤ 140737488351232 → (∀ x ∈ l0, (Lit.int .u8 x).wf = true) → ∃ k, laws_FnFields.f k l0 = some true

end Go.Proofs.YtdjepilhenijeaaDoor.PFnFields
