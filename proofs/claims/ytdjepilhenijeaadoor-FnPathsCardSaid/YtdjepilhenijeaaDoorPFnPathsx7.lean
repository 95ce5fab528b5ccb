-- PRINTED for this claim by a program of this session's repo over the kit's printer, with contracts of our own among the functions.
import Derived.Test.YtdjepilhenijeaaDoorPFnPathsx0
import Derived.Test.YtdjepilhenijeaaDoorPFnPathsx1
import Derived.Test.YtdjepilhenijeaaDoorPFnPathsx2
import Derived.Test.YtdjepilhenijeaaDoorPFnPathsx3
import Derived.Test.YtdjepilhenijeaaDoorPFnPathsx4
import Derived.Test.YtdjepilhenijeaaDoorPFnPathsx5
import Derived.Test.YtdjepilhenijeaaDoorPFnPathsx6
namespace Go.Proofs.YtdjepilhenijeaaDoor.PFnPaths
open Go.RowKit Go.Proofs.YtdjepilhenijeaaDoorW.PrintWords Go.Proofs.YtdjepilhenijeaaDoorW.PrintLast Go.Proofs.YtdjepilhenijeaaDoorW.PrintMore
attribute [local go_sem] max2_int min2_int max_two min_two max_three min_three max_four min_four   -- for this text's walks alone
set_option linter.unusedVariables false
set_option linter.unusedSimpArgs false

/-! ### laws_FnPaths: function 4 -/
mutual
def laws_FnPaths.j0 : Nat → ByteArray → ByteArray → ByteArray → List ByteArray → Bool → Option (Bool)
  | 0, _, _, _, _, _ => none
  | k + 1, x5, x7, x12, x13, x103 => if x103 = true then (some false) else ((impl_Parts.f k x5).bind fun t417 => ((impl_Join.f t417).bind fun t420 => (if t420.toList = x5.toList then ((spec_PathOk.f k x7).bind fun t421 => (if t421 = true then ((impl_Depth.f k x7).bind fun t422 => (if t422 > 1 then ((impl_Dir.f k x7).bind fun t423 => (if t423.size + 1 ≤ 9223372036854775807 then ((impl_Base.f k x7).bind fun t424 => (if (t423 ++ (⟨#[47]⟩ : ByteArray)).size + t424.size ≤ 9223372036854775807 then (laws_FnPaths.j1 k x12 x13 (((t423 ++ (⟨#[47]⟩ : ByteArray)) ++ t424).toList != x7.toList)) else (none))) else (none))) else (laws_FnPaths.j1 k x12 x13 false))) else (laws_FnPaths.j1 k x12 x13 false))) else (some false))))
def laws_FnPaths.j1 : Nat → ByteArray → List ByteArray → Bool → Option (Bool)
  | 0, _, _, _ => none
  | k + 1, x12, x13, x125 => if x125 = true then (some false) else (laws_FnPaths.l0 k x12 x13 0)
def laws_FnPaths.l0 : Nat → ByteArray → List ByteArray → Int → Option (Bool)
  | 0, _, _, _ => none
  | k + 1, x12, x13, x14 => if x14 < (x13.length : Int) then (if 0 ≤ x14 then ((impl_Under.f k x12 (rdOf ByteArray.empty x13 x14)).bind fun t428 => (if t428 = true then ((impl_Depth.f k (rdOf ByteArray.empty x13 x14)).bind fun t430 => (if t430 = (wrap64 (x14 + 1)) then (laws_FnPaths.l0 k x12 x13 (wrap64 (x14 + 1))) else (some false))) else (some false))) else (none)) else ((spec_PathOk.f k x12).bind fun t425 => (if t425 = true then ((impl_Depth.f k x12).bind fun t426 => (some ((x13.length : Int) == (wrap64 (t426 - 1))))) else (some true)))
end
def laws_FnPaths.f (k : Nat) (l0 : List Int) : Option (Bool) := (laws_big.f l0).bind fun t376 => (if t376 = true then (some true) else ((spec_DrawPartOk.f k l0).bind fun t377 => ((spec_DrawPathOk.f k l0).bind fun t378 => ((spec_DrawParts.f k l0).bind fun t379 => ((spec_DrawJoin.f k l0).bind fun t380 => ((spec_DrawDir.f k l0).bind fun t383 => ((spec_DrawBase.f k l0).bind fun t384 => ((spec_DrawDepth.f k l0).bind fun t385 => ((spec_DrawUnder.f k l0).bind fun bt386 => ((spec_DrawParents.f k l0).bind fun t388 => ((impl_Parents.f k t388).bind fun t389 => ((impl_PartOk.f t377).bind fun t392 => ((spec_PartOk.f k t377).bind fun t393 => (if (t392 != t393) = true then (laws_FnPaths.j0 k t379 t383 t388 t389 true) else ((impl_PathOk.f k t378).bind fun t394 => ((spec_PathOk.f k t378).bind fun t395 => (if (t394 != t395) = true then (laws_FnPaths.j0 k t379 t383 t388 t389 true) else ((impl_Parts.f k t379).bind fun t396 => ((spec_Parts.f k t379).bind fun t399 => ((laws_sameTexts.f k t396 t399).bind fun t402 => (if t402 = true then ((impl_Join.f t380).bind fun t403 => ((spec_Join.f k t380).bind fun t404 => (if t403.toList = t404.toList then ((impl_Dir.f k t383).bind fun t405 => ((spec_Dir.f k t383).bind fun t406 => (if t405.toList = t406.toList then ((impl_Base.f k t384).bind fun t407 => ((spec_Base.f k t384).bind fun t408 => (if t407.toList = t408.toList then ((impl_Depth.f k t385).bind fun t409 => ((spec_Depth.f k t385).bind fun t410 => (if t409 = t410 then ((impl_Under.f k bt386.1 bt386.2).bind fun t411 => ((spec_Under.f k bt386.1 bt386.2).bind fun t412 => (if (t411 != t412) = true then (laws_FnPaths.j0 k t379 t383 t388 t389 true) else ((spec_Parents.f k t388).bind fun t413 => ((laws_sameTexts.f k t389 t413).bind fun t416 => (laws_FnPaths.j0 k t379 t383 t388 t389 (!t416))))))) else (laws_FnPaths.j0 k t379 t383 t388 t389 true)))) else (laws_FnPaths.j0 k t379 t383 t388 t389 true)))) else (laws_FnPaths.j0 k t379 t383 t388 t389 true)))) else (laws_FnPaths.j0 k t379 t383 t388 t389 true)))) else (laws_FnPaths.j0 k t379 t383 t388 t389 true))))))))))))))))))))))
theorem laws_FnPaths.mono_l : ∀ k, (∀ y0 y1 y2 y3 y4, LeO (laws_FnPaths.j0 k y0 y1 y2 y3 y4) (laws_FnPaths.j0 (k + 1) y0 y1 y2 y3 y4)) ∧ (∀ y0 y1 y2, LeO (laws_FnPaths.j1 k y0 y1 y2) (laws_FnPaths.j1 (k + 1) y0 y1 y2)) ∧ (∀ y0 y1 y2, LeO (laws_FnPaths.l0 k y0 y1 y2) (laws_FnPaths.l0 (k + 1) y0 y1 y2))
  | 0 => ⟨fun _ _ _ _ _ r h => by simp [laws_FnPaths.j0] at h, fun _ _ _ r h => by simp [laws_FnPaths.j1] at h, fun _ _ _ r h => by simp [laws_FnPaths.l0] at h⟩
  | k + 1 => by
    obtain ⟨ih0, ih1, ih2⟩ := laws_FnPaths.mono_l k
    refine ⟨?_, ?_, ?_⟩
    · intro y0 y1 y2 y3 y4
      unfold laws_FnPaths.j0
      repeat' first
      | (with_reducible exact ih0 _ _ _ _ _)
      | (with_reducible exact ih1 _ _ _)
      | (with_reducible exact ih2 _ _ _)
      | (with_reducible exact impl_Base.mono _ _)
      | (with_reducible exact impl_Depth.mono _ _)
      | (with_reducible exact impl_Dir.mono _ _)
      | (with_reducible exact impl_Parents.mono _ _)
      | (with_reducible exact impl_Parts.mono _ _)
      | (with_reducible exact impl_PathOk.mono _ _)
      | (with_reducible exact impl_Under.mono _ _ _)
      | (with_reducible exact laws_sameTexts.mono _ _ _)
      | (with_reducible exact spec_Base.mono _ _)
      | (with_reducible exact spec_Depth.mono _ _)
      | (with_reducible exact spec_Dir.mono _ _)
      | (with_reducible exact spec_DrawBase.mono _ _)
      | (with_reducible exact spec_DrawDepth.mono _ _)
      | (with_reducible exact spec_DrawDir.mono _ _)
      | (with_reducible exact spec_DrawJoin.mono _ _)
      | (with_reducible exact spec_DrawParents.mono _ _)
      | (with_reducible exact spec_DrawPartOk.mono _ _)
      | (with_reducible exact spec_DrawParts.mono _ _)
      | (with_reducible exact spec_DrawPathOk.mono _ _)
      | (with_reducible exact spec_DrawUnder.mono _ _)
      | (with_reducible exact spec_Join.mono _ _)
      | (with_reducible exact spec_Parents.mono _ _)
      | (with_reducible exact spec_PartOk.mono _ _)
      | (with_reducible exact spec_Parts.mono _ _)
      | (with_reducible exact spec_PathOk.mono _ _)
      | (with_reducible exact spec_Under.mono _ _ _)
      | (with_reducible exact LeO.refl _)
      | (with_reducible exact LeO.none _)
      | (with_reducible refine LeO.ite ?_ ?_)
      | (with_reducible refine LeO.bind ?_ (fun _ => ?_))
      | exact ih0 _ _ _ _ _
      | exact ih1 _ _ _
      | exact ih2 _ _ _
      | exact impl_Base.mono _ _
      | exact impl_Depth.mono _ _
      | exact impl_Dir.mono _ _
      | exact impl_Parents.mono _ _
      | exact impl_Parts.mono _ _
      | exact impl_PathOk.mono _ _
      | exact impl_Under.mono _ _ _
      | exact laws_sameTexts.mono _ _ _
      | exact spec_Base.mono _ _
      | exact spec_Depth.mono _ _
      | exact spec_Dir.mono _ _
      | exact spec_DrawBase.mono _ _
      | exact spec_DrawDepth.mono _ _
      | exact spec_DrawDir.mono _ _
      | exact spec_DrawJoin.mono _ _
      | exact spec_DrawParents.mono _ _
      | exact spec_DrawPartOk.mono _ _
      | exact spec_DrawParts.mono _ _
      | exact spec_DrawPathOk.mono _ _
      | exact spec_DrawUnder.mono _ _
      | exact spec_Join.mono _ _
      | exact spec_Parents.mono _ _
      | exact spec_PartOk.mono _ _
      | exact spec_Parts.mono _ _
      | exact spec_PathOk.mono _ _
      | exact spec_Under.mono _ _ _
      | exact LeO.none _
      | refine LeO.ite ?_ ?_
      | refine LeO.bind ?_ (fun _ => ?_)
    · intro y0 y1 y2
      unfold laws_FnPaths.j1
      repeat' first
      | (with_reducible exact ih0 _ _ _ _ _)
      | (with_reducible exact ih1 _ _ _)
      | (with_reducible exact ih2 _ _ _)
      | (with_reducible exact impl_Base.mono _ _)
      | (with_reducible exact impl_Depth.mono _ _)
      | (with_reducible exact impl_Dir.mono _ _)
      | (with_reducible exact impl_Parents.mono _ _)
      | (with_reducible exact impl_Parts.mono _ _)
      | (with_reducible exact impl_PathOk.mono _ _)
      | (with_reducible exact impl_Under.mono _ _ _)
      | (with_reducible exact laws_sameTexts.mono _ _ _)
      | (with_reducible exact spec_Base.mono _ _)
      | (with_reducible exact spec_Depth.mono _ _)
      | (with_reducible exact spec_Dir.mono _ _)
      | (with_reducible exact spec_DrawBase.mono _ _)
      | (with_reducible exact spec_DrawDepth.mono _ _)
      | (with_reducible exact spec_DrawDir.mono _ _)
      | (with_reducible exact spec_DrawJoin.mono _ _)
      | (with_reducible exact spec_DrawParents.mono _ _)
      | (with_reducible exact spec_DrawPartOk.mono _ _)
      | (with_reducible exact spec_DrawParts.mono _ _)
      | (with_reducible exact spec_DrawPathOk.mono _ _)
      | (with_reducible exact spec_DrawUnder.mono _ _)
      | (with_reducible exact spec_Join.mono _ _)
      | (with_reducible exact spec_Parents.mono _ _)
      | (with_reducible exact spec_PartOk.mono _ _)
      | (with_reducible exact spec_Parts.mono _ _)
      | (with_reducible exact spec_PathOk.mono _ _)
      | (with_reducible exact spec_Under.mono _ _ _)
      | (with_reducible exact LeO.refl _)
      | (with_reducible exact LeO.none _)
      | (with_reducible refine LeO.ite ?_ ?_)
      | (with_reducible refine LeO.bind ?_ (fun _ => ?_))
      | exact ih0 _ _ _ _ _
      | exact ih1 _ _ _
      | exact ih2 _ _ _
      | exact impl_Base.mono _ _
      | exact impl_Depth.mono _ _
      | exact impl_Dir.mono _ _
      | exact impl_Parents.mono _ _
      | exact impl_Parts.mono _ _
      | exact impl_PathOk.mono _ _
      | exact impl_Under.mono _ _ _
      | exact laws_sameTexts.mono _ _ _
      | exact spec_Base.mono _ _
      | exact spec_Depth.mono _ _
      | exact spec_Dir.mono _ _
      | exact spec_DrawBase.mono _ _
      | exact spec_DrawDepth.mono _ _
      | exact spec_DrawDir.mono _ _
      | exact spec_DrawJoin.mono _ _
      | exact spec_DrawParents.mono _ _
      | exact spec_DrawPartOk.mono _ _
      | exact spec_DrawParts.mono _ _
      | exact spec_DrawPathOk.mono _ _
      | exact spec_DrawUnder.mono _ _
      | exact spec_Join.mono _ _
      | exact spec_Parents.mono _ _
      | exact spec_PartOk.mono _ _
      | exact spec_Parts.mono _ _
      | exact spec_PathOk.mono _ _
      | exact spec_Under.mono _ _ _
      | exact LeO.none _
      | refine LeO.ite ?_ ?_
      | refine LeO.bind ?_ (fun _ => ?_)
    · intro y0 y1 y2
      unfold laws_FnPaths.l0
      repeat' first
      | (with_reducible exact ih0 _ _ _ _ _)
      | (with_reducible exact ih1 _ _ _)
      | (with_reducible exact ih2 _ _ _)
      | (with_reducible exact impl_Base.mono _ _)
      | (with_reducible exact impl_Depth.mono _ _)
      | (with_reducible exact impl_Dir.mono _ _)
      | (with_reducible exact impl_Parents.mono _ _)
      | (with_reducible exact impl_Parts.mono _ _)
      | (with_reducible exact impl_PathOk.mono _ _)
      | (with_reducible exact impl_Under.mono _ _ _)
      | (with_reducible exact laws_sameTexts.mono _ _ _)
      | (with_reducible exact spec_Base.mono _ _)
      | (with_reducible exact spec_Depth.mono _ _)
      | (with_reducible exact spec_Dir.mono _ _)
      | (with_reducible exact spec_DrawBase.mono _ _)
      | (with_reducible exact spec_DrawDepth.mono _ _)
      | (with_reducible exact spec_DrawDir.mono _ _)
      | (with_reducible exact spec_DrawJoin.mono _ _)
      | (with_reducible exact spec_DrawParents.mono _ _)
      | (with_reducible exact spec_DrawPartOk.mono _ _)
      | (with_reducible exact spec_DrawParts.mono _ _)
      | (with_reducible exact spec_DrawPathOk.mono _ _)
      | (with_reducible exact spec_DrawUnder.mono _ _)
      | (with_reducible exact spec_Join.mono _ _)
      | (with_reducible exact spec_Parents.mono _ _)
      | (with_reducible exact spec_PartOk.mono _ _)
      | (with_reducible exact spec_Parts.mono _ _)
      | (with_reducible exact spec_PathOk.mono _ _)
      | (with_reducible exact spec_Under.mono _ _ _)
      | (with_reducible exact LeO.refl _)
      | (with_reducible exact LeO.none _)
      | (with_reducible refine LeO.ite ?_ ?_)
      | (with_reducible refine LeO.bind ?_ (fun _ => ?_))
      | exact ih0 _ _ _ _ _
      | exact ih1 _ _ _
      | exact ih2 _ _ _
      | exact impl_Base.mono _ _
      | exact impl_Depth.mono _ _
      | exact impl_Dir.mono _ _
      | exact impl_Parents.mono _ _
      | exact impl_Parts.mono _ _
      | exact impl_PathOk.mono _ _
      | exact impl_Under.mono _ _ _
      | exact laws_sameTexts.mono _ _ _
      | exact spec_Base.mono _ _
      | exact spec_Depth.mono _ _
      | exact spec_Dir.mono _ _
      | exact spec_DrawBase.mono _ _
      | exact spec_DrawDepth.mono _ _
      | exact spec_DrawDir.mono _ _
      | exact spec_DrawJoin.mono _ _
      | exact spec_DrawParents.mono _ _
      | exact spec_DrawPartOk.mono _ _
      | exact spec_DrawParts.mono _ _
      | exact spec_DrawPathOk.mono _ _
      | exact spec_DrawUnder.mono _ _
      | exact spec_Join.mono _ _
      | exact spec_Parents.mono _ _
      | exact spec_PartOk.mono _ _
      | exact spec_Parts.mono _ _
      | exact spec_PathOk.mono _ _
      | exact spec_Under.mono _ _ _
      | exact LeO.none _
      | refine LeO.ite ?_ ?_
      | refine LeO.bind ?_ (fun _ => ?_)
theorem laws_FnPaths.mono : ∀ a0 k, LeO (laws_FnPaths.f k a0) (laws_FnPaths.f (k + 1) a0) := by
  intro a0 k
  obtain ⟨ih0, ih1, ih2⟩ := laws_FnPaths.mono_l k
  unfold laws_FnPaths.f
  repeat' first
      | (with_reducible exact ih0 _ _ _ _ _)
      | (with_reducible exact ih1 _ _ _)
      | (with_reducible exact ih2 _ _ _)
      | (with_reducible exact impl_Base.mono _ _)
      | (with_reducible exact impl_Depth.mono _ _)
      | (with_reducible exact impl_Dir.mono _ _)
      | (with_reducible exact impl_Parents.mono _ _)
      | (with_reducible exact impl_Parts.mono _ _)
      | (with_reducible exact impl_PathOk.mono _ _)
      | (with_reducible exact impl_Under.mono _ _ _)
      | (with_reducible exact laws_sameTexts.mono _ _ _)
      | (with_reducible exact spec_Base.mono _ _)
      | (with_reducible exact spec_Depth.mono _ _)
      | (with_reducible exact spec_Dir.mono _ _)
      | (with_reducible exact spec_DrawBase.mono _ _)
      | (with_reducible exact spec_DrawDepth.mono _ _)
      | (with_reducible exact spec_DrawDir.mono _ _)
      | (with_reducible exact spec_DrawJoin.mono _ _)
      | (with_reducible exact spec_DrawParents.mono _ _)
      | (with_reducible exact spec_DrawPartOk.mono _ _)
      | (with_reducible exact spec_DrawParts.mono _ _)
      | (with_reducible exact spec_DrawPathOk.mono _ _)
      | (with_reducible exact spec_DrawUnder.mono _ _)
      | (with_reducible exact spec_Join.mono _ _)
      | (with_reducible exact spec_Parents.mono _ _)
      | (with_reducible exact spec_PartOk.mono _ _)
      | (with_reducible exact spec_Parts.mono _ _)
      | (with_reducible exact spec_PathOk.mono _ _)
      | (with_reducible exact spec_Under.mono _ _ _)
      | (with_reducible exact LeO.refl _)
      | (with_reducible exact LeO.none _)
      | (with_reducible refine LeO.ite ?_ ?_)
      | (with_reducible refine LeO.bind ?_ (fun _ => ?_))
      | exact ih0 _ _ _ _ _
      | exact ih1 _ _ _
      | exact ih2 _ _ _
      | exact impl_Base.mono _ _
      | exact impl_Depth.mono _ _
      | exact impl_Dir.mono _ _
      | exact impl_Parents.mono _ _
      | exact impl_Parts.mono _ _
      | exact impl_PathOk.mono _ _
      | exact impl_Under.mono _ _ _
      | exact laws_sameTexts.mono _ _ _
      | exact spec_Base.mono _ _
      | exact spec_Depth.mono _ _
      | exact spec_Dir.mono _ _
      | exact spec_DrawBase.mono _ _
      | exact spec_DrawDepth.mono _ _
      | exact spec_DrawDir.mono _ _
      | exact spec_DrawJoin.mono _ _
      | exact spec_DrawParents.mono _ _
      | exact spec_DrawPartOk.mono _ _
      | exact spec_DrawParts.mono _ _
      | exact spec_DrawPathOk.mono _ _
      | exact spec_DrawUnder.mono _ _
      | exact spec_Join.mono _ _
      | exact spec_Parents.mono _ _
      | exact spec_PartOk.mono _ _
      | exact spec_Parts.mono _ _
      | exact spec_PathOk.mono _ _
      | exact spec_Under.mono _ _ _
      | exact LeO.none _
      | refine LeO.ite ?_ ?_
      | refine LeO.bind ?_ (fun _ => ?_)
set_option maxHeartbeats 8000000 in
set_option maxRecDepth 100000 in
theorem laws_FnPaths.calls (k : Nat) (A0 : Option Addr) (c0 : Nat) (l0 : List Int) (r : Bool) (w : World) (hr0 : Kd.C (Kd.int .u8) w A0 l0.length l0) (hc0 : l0.length ≤ c0) (h : laws_FnPaths.f k l0 = some r) :
    Calls Tryd.prog 4 #[.slice A0 l0.length c0] w fun e w' => e = .returned (.bool r) ∧ Below w.heap.size w w' := by
  have HR0 := Aside0.mk hr0
  have HC0 := Aside0.mk hc0
  clear hr0 hc0
  have HB := Aside0.mk (Below.refl w.heap.size w)
  have H : ((laws_big.f l0).bind fun t376 => (if t376 = true then (some true) else ((spec_DrawPartOk.f k l0).bind fun t377 => ((spec_DrawPathOk.f k l0).bind fun t378 => ((spec_DrawParts.f k l0).bind fun t379 => ((spec_DrawJoin.f k l0).bind fun t380 => ((spec_DrawDir.f k l0).bind fun t383 => ((spec_DrawBase.f k l0).bind fun t384 => ((spec_DrawDepth.f k l0).bind fun t385 => ((spec_DrawUnder.f k l0).bind fun bt386 => ((spec_DrawParents.f k l0).bind fun t388 => ((impl_Parents.f k t388).bind fun t389 => ((impl_PartOk.f t377).bind fun t392 => ((spec_PartOk.f k t377).bind fun t393 => (if (t392 != t393) = true then (laws_FnPaths.j0 k t379 t383 t388 t389 true) else ((impl_PathOk.f k t378).bind fun t394 => ((spec_PathOk.f k t378).bind fun t395 => (if (t394 != t395) = true then (laws_FnPaths.j0 k t379 t383 t388 t389 true) else ((impl_Parts.f k t379).bind fun t396 => ((spec_Parts.f k t379).bind fun t399 => ((laws_sameTexts.f k t396 t399).bind fun t402 => (if t402 = true then ((impl_Join.f t380).bind fun t403 => ((spec_Join.f k t380).bind fun t404 => (if t403.toList = t404.toList then ((impl_Dir.f k t383).bind fun t405 => ((spec_Dir.f k t383).bind fun t406 => (if t405.toList = t406.toList then ((impl_Base.f k t384).bind fun t407 => ((spec_Base.f k t384).bind fun t408 => (if t407.toList = t408.toList then ((impl_Depth.f k t385).bind fun t409 => ((spec_Depth.f k t385).bind fun t410 => (if t409 = t410 then ((impl_Under.f k bt386.1 bt386.2).bind fun t411 => ((spec_Under.f k bt386.1 bt386.2).bind fun t412 => (if (t411 != t412) = true then (laws_FnPaths.j0 k t379 t383 t388 t389 true) else ((spec_Parents.f k t388).bind fun t413 => ((laws_sameTexts.f k t389 t413).bind fun t416 => (laws_FnPaths.j0 k t379 t383 t388 t389 (!t416))))))) else (laws_FnPaths.j0 k t379 t383 t388 t389 true)))) else (laws_FnPaths.j0 k t379 t383 t388 t389 true)))) else (laws_FnPaths.j0 k t379 t383 t388 t389 true)))) else (laws_FnPaths.j0 k t379 t383 t388 t389 true)))) else (laws_FnPaths.j0 k t379 t383 t388 t389 true))))))))))))))))))))))) = some r := h
  clear h
  replace H := Option.bind_eq_some_iff.mp H
  obtain ⟨t376, A20, H⟩ := H
  replace H : (if t376 = true then (some true) else ((spec_DrawPartOk.f k l0).bind fun t377 => ((spec_DrawPathOk.f k l0).bind fun t378 => ((spec_DrawParts.f k l0).bind fun t379 => ((spec_DrawJoin.f k l0).bind fun t380 => ((spec_DrawDir.f k l0).bind fun t383 => ((spec_DrawBase.f k l0).bind fun t384 => ((spec_DrawDepth.f k l0).bind fun t385 => ((spec_DrawUnder.f k l0).bind fun bt386 => ((spec_DrawParents.f k l0).bind fun t388 => ((impl_Parents.f k t388).bind fun t389 => ((impl_PartOk.f t377).bind fun t392 => ((spec_PartOk.f k t377).bind fun t393 => (if (t392 != t393) = true then (laws_FnPaths.j0 k t379 t383 t388 t389 true) else ((impl_PathOk.f k t378).bind fun t394 => ((spec_PathOk.f k t378).bind fun t395 => (if (t394 != t395) = true then (laws_FnPaths.j0 k t379 t383 t388 t389 true) else ((impl_Parts.f k t379).bind fun t396 => ((spec_Parts.f k t379).bind fun t399 => ((laws_sameTexts.f k t396 t399).bind fun t402 => (if t402 = true then ((impl_Join.f t380).bind fun t403 => ((spec_Join.f k t380).bind fun t404 => (if t403.toList = t404.toList then ((impl_Dir.f k t383).bind fun t405 => ((spec_Dir.f k t383).bind fun t406 => (if t405.toList = t406.toList then ((impl_Base.f k t384).bind fun t407 => ((spec_Base.f k t384).bind fun t408 => (if t407.toList = t408.toList then ((impl_Depth.f k t385).bind fun t409 => ((spec_Depth.f k t385).bind fun t410 => (if t409 = t410 then ((impl_Under.f k bt386.1 bt386.2).bind fun t411 => ((spec_Under.f k bt386.1 bt386.2).bind fun t412 => (if (t411 != t412) = true then (laws_FnPaths.j0 k t379 t383 t388 t389 true) else ((spec_Parents.f k t388).bind fun t413 => ((laws_sameTexts.f k t389 t413).bind fun t416 => (laws_FnPaths.j0 k t379 t383 t388 t389 (!t416))))))) else (laws_FnPaths.j0 k t379 t383 t388 t389 true)))) else (laws_FnPaths.j0 k t379 t383 t388 t389 true)))) else (laws_FnPaths.j0 k t379 t383 t388 t389 true)))) else (laws_FnPaths.j0 k t379 t383 t388 t389 true)))) else (laws_FnPaths.j0 k t379 t383 t388 t389 true)))))))))))))))))))))) = some r := H
  have A2 := Aside0.mk A20
  clear A20
  by_cases c3 : t376 = true
  · subst c3
    have H1 : (some true) = some r := by rw [if_pos rfl] at H; exact H
    clear H
    have H := H1
    clear H1
    obtain rfl := Option.some.inj H
    go_enter Tryd.func4, Tryd.ntmps4
    go_wp2_with (first | ((with_reducible refine gate_callee (f := 7) rfl ?_); refine goesL_ (some 16) rfl rfl Tryd.func7 (by kernel_rfl) rfl #[.slice A0 l0.length c0] rfl (by (try simp only [List.map_toArray, List.map_cons, List.map_nil]); first | done | rfl | (simp only [List.length_drop, List.length_take]; rfl)) ?_; (with_reducible refine (laws_big.calls _ _ l0 true _ ?side1 ?side2 A2.out).mono ?_); (case side1 => repeat (first | exact HR0.out | (with_reducible refine Kd.C_alloc ?_ _) | (with_reducible refine Kd.C_drewN ?_ _) | (with_reducible refine Kd.C_drew ?_))); (case side2 => exact HC0.out); rintro e w' ⟨rfl, ⟨nd, rfl⟩⟩; refine ⟨_, rfl, ?_⟩))
    go_ret
    exact ⟨by first | rfl | (simp [errW_none, errW_some] <;> rfl) | (simp [*, errW_none, errW_some] <;> rfl) | (simp only [decide_eq_true_eq] at *; simp [*, bt]; done), by repeat (first | (with_reducible first | exact HB.out | apply below_alloc | apply pw_below_drewN | apply below_drew1) | exact HB.out)⟩
  · replace c3 := Bool.eq_false_iff.mpr c3
    subst c3
    have H1 : ((spec_DrawPartOk.f k l0).bind fun t377 => ((spec_DrawPathOk.f k l0).bind fun t378 => ((spec_DrawParts.f k l0).bind fun t379 => ((spec_DrawJoin.f k l0).bind fun t380 => ((spec_DrawDir.f k l0).bind fun t383 => ((spec_DrawBase.f k l0).bind fun t384 => ((spec_DrawDepth.f k l0).bind fun t385 => ((spec_DrawUnder.f k l0).bind fun bt386 => ((spec_DrawParents.f k l0).bind fun t388 => ((impl_Parents.f k t388).bind fun t389 => ((impl_PartOk.f t377).bind fun t392 => ((spec_PartOk.f k t377).bind fun t393 => (if (t392 != t393) = true then (laws_FnPaths.j0 k t379 t383 t388 t389 true) else ((impl_PathOk.f k t378).bind fun t394 => ((spec_PathOk.f k t378).bind fun t395 => (if (t394 != t395) = true then (laws_FnPaths.j0 k t379 t383 t388 t389 true) else ((impl_Parts.f k t379).bind fun t396 => ((spec_Parts.f k t379).bind fun t399 => ((laws_sameTexts.f k t396 t399).bind fun t402 => (if t402 = true then ((impl_Join.f t380).bind fun t403 => ((spec_Join.f k t380).bind fun t404 => (if t403.toList = t404.toList then ((impl_Dir.f k t383).bind fun t405 => ((spec_Dir.f k t383).bind fun t406 => (if t405.toList = t406.toList then ((impl_Base.f k t384).bind fun t407 => ((spec_Base.f k t384).bind fun t408 => (if t407.toList = t408.toList then ((impl_Depth.f k t385).bind fun t409 => ((spec_Depth.f k t385).bind fun t410 => (if t409 = t410 then ((impl_Under.f k bt386.1 bt386.2).bind fun t411 => ((spec_Under.f k bt386.1 bt386.2).bind fun t412 => (if (t411 != t412) = true then (laws_FnPaths.j0 k t379 t383 t388 t389 true) else ((spec_Parents.f k t388).bind fun t413 => ((laws_sameTexts.f k t389 t413).bind fun t416 => (laws_FnPaths.j0 k t379 t383 t388 t389 (!t416))))))) else (laws_FnPaths.j0 k t379 t383 t388 t389 true)))) else (laws_FnPaths.j0 k t379 t383 t388 t389 true)))) else (laws_FnPaths.j0 k t379 t383 t388 t389 true)))) else (laws_FnPaths.j0 k t379 t383 t388 t389 true)))) else (laws_FnPaths.j0 k t379 t383 t388 t389 true))))))))))))))))))))) = some r := by rw [if_neg (show ¬ (false = true) by decide)] at H; exact H
    clear H
    have H := H1
    clear H1
    replace H := Option.bind_eq_some_iff.mp H
    obtain ⟨t377, A40, H⟩ := H
    replace H : ((spec_DrawPathOk.f k l0).bind fun t378 => ((spec_DrawParts.f k l0).bind fun t379 => ((spec_DrawJoin.f k l0).bind fun t380 => ((spec_DrawDir.f k l0).bind fun t383 => ((spec_DrawBase.f k l0).bind fun t384 => ((spec_DrawDepth.f k l0).bind fun t385 => ((spec_DrawUnder.f k l0).bind fun bt386 => ((spec_DrawParents.f k l0).bind fun t388 => ((impl_Parents.f k t388).bind fun t389 => ((impl_PartOk.f t377).bind fun t392 => ((spec_PartOk.f k t377).bind fun t393 => (if (t392 != t393) = true then (laws_FnPaths.j0 k t379 t383 t388 t389 true) else ((impl_PathOk.f k t378).bind fun t394 => ((spec_PathOk.f k t378).bind fun t395 => (if (t394 != t395) = true then (laws_FnPaths.j0 k t379 t383 t388 t389 true) else ((impl_Parts.f k t379).bind fun t396 => ((spec_Parts.f k t379).bind fun t399 => ((laws_sameTexts.f k t396 t399).bind fun t402 => (if t402 = true then ((impl_Join.f t380).bind fun t403 => ((spec_Join.f k t380).bind fun t404 => (if t403.toList = t404.toList then ((impl_Dir.f k t383).bind fun t405 => ((spec_Dir.f k t383).bind fun t406 => (if t405.toList = t406.toList then ((impl_Base.f k t384).bind fun t407 => ((spec_Base.f k t384).bind fun t408 => (if t407.toList = t408.toList then ((impl_Depth.f k t385).bind fun t409 => ((spec_Depth.f k t385).bind fun t410 => (if t409 = t410 then ((impl_Under.f k bt386.1 bt386.2).bind fun t411 => ((spec_Under.f k bt386.1 bt386.2).bind fun t412 => (if (t411 != t412) = true then (laws_FnPaths.j0 k t379 t383 t388 t389 true) else ((spec_Parents.f k t388).bind fun t413 => ((laws_sameTexts.f k t389 t413).bind fun t416 => (laws_FnPaths.j0 k t379 t383 t388 t389 (!t416))))))) else (laws_FnPaths.j0 k t379 t383 t388 t389 true)))) else (laws_FnPaths.j0 k t379 t383 t388 t389 true)))) else (laws_FnPaths.j0 k t379 t383 t388 t389 true)))) else (laws_FnPaths.j0 k t379 t383 t388 t389 true)))) else (laws_FnPaths.j0 k t379 t383 t388 t389 true)))))))))))))))))))) = some r := H
    have A4 := Aside0.mk A40
    clear A40
    replace H := Option.bind_eq_some_iff.mp H
    obtain ⟨t378, A50, H⟩ := H
    replace H : ((spec_DrawParts.f k l0).bind fun t379 => ((spec_DrawJoin.f k l0).bind fun t380 => ((spec_DrawDir.f k l0).bind fun t383 => ((spec_DrawBase.f k l0).bind fun t384 => ((spec_DrawDepth.f k l0).bind fun t385 => ((spec_DrawUnder.f k l0).bind fun bt386 => ((spec_DrawParents.f k l0).bind fun t388 => ((impl_Parents.f k t388).bind fun t389 => ((impl_PartOk.f t377).bind fun t392 => ((spec_PartOk.f k t377).bind fun t393 => (if (t392 != t393) = true then (laws_FnPaths.j0 k t379 t383 t388 t389 true) else ((impl_PathOk.f k t378).bind fun t394 => ((spec_PathOk.f k t378).bind fun t395 => (if (t394 != t395) = true then (laws_FnPaths.j0 k t379 t383 t388 t389 true) else ((impl_Parts.f k t379).bind fun t396 => ((spec_Parts.f k t379).bind fun t399 => ((laws_sameTexts.f k t396 t399).bind fun t402 => (if t402 = true then ((impl_Join.f t380).bind fun t403 => ((spec_Join.f k t380).bind fun t404 => (if t403.toList = t404.toList then ((impl_Dir.f k t383).bind fun t405 => ((spec_Dir.f k t383).bind fun t406 => (if t405.toList = t406.toList then ((impl_Base.f k t384).bind fun t407 => ((spec_Base.f k t384).bind fun t408 => (if t407.toList = t408.toList then ((impl_Depth.f k t385).bind fun t409 => ((spec_Depth.f k t385).bind fun t410 => (if t409 = t410 then ((impl_Under.f k bt386.1 bt386.2).bind fun t411 => ((spec_Under.f k bt386.1 bt386.2).bind fun t412 => (if (t411 != t412) = true then (laws_FnPaths.j0 k t379 t383 t388 t389 true) else ((spec_Parents.f k t388).bind fun t413 => ((laws_sameTexts.f k t389 t413).bind fun t416 => (laws_FnPaths.j0 k t379 t383 t388 t389 (!t416))))))) else (laws_FnPaths.j0 k t379 t383 t388 t389 true)))) else (laws_FnPaths.j0 k t379 t383 t388 t389 true)))) else (laws_FnPaths.j0 k t379 t383 t388 t389 true)))) else (laws_FnPaths.j0 k t379 t383 t388 t389 true)))) else (laws_FnPaths.j0 k t379 t383 t388 t389 true))))))))))))))))))) = some r := H
    have A5 := Aside0.mk A50
    clear A50
    replace H := Option.bind_eq_some_iff.mp H
    obtain ⟨t379, A60, H⟩ := H
    replace H : ((spec_DrawJoin.f k l0).bind fun t380 => ((spec_DrawDir.f k l0).bind fun t383 => ((spec_DrawBase.f k l0).bind fun t384 => ((spec_DrawDepth.f k l0).bind fun t385 => ((spec_DrawUnder.f k l0).bind fun bt386 => ((spec_DrawParents.f k l0).bind fun t388 => ((impl_Parents.f k t388).bind fun t389 => ((impl_PartOk.f t377).bind fun t392 => ((spec_PartOk.f k t377).bind fun t393 => (if (t392 != t393) = true then (laws_FnPaths.j0 k t379 t383 t388 t389 true) else ((impl_PathOk.f k t378).bind fun t394 => ((spec_PathOk.f k t378).bind fun t395 => (if (t394 != t395) = true then (laws_FnPaths.j0 k t379 t383 t388 t389 true) else ((impl_Parts.f k t379).bind fun t396 => ((spec_Parts.f k t379).bind fun t399 => ((laws_sameTexts.f k t396 t399).bind fun t402 => (if t402 = true then ((impl_Join.f t380).bind fun t403 => ((spec_Join.f k t380).bind fun t404 => (if t403.toList = t404.toList then ((impl_Dir.f k t383).bind fun t405 => ((spec_Dir.f k t383).bind fun t406 => (if t405.toList = t406.toList then ((impl_Base.f k t384).bind fun t407 => ((spec_Base.f k t384).bind fun t408 => (if t407.toList = t408.toList then ((impl_Depth.f k t385).bind fun t409 => ((spec_Depth.f k t385).bind fun t410 => (if t409 = t410 then ((impl_Under.f k bt386.1 bt386.2).bind fun t411 => ((spec_Under.f k bt386.1 bt386.2).bind fun t412 => (if (t411 != t412) = true then (laws_FnPaths.j0 k t379 t383 t388 t389 true) else ((spec_Parents.f k t388).bind fun t413 => ((laws_sameTexts.f k t389 t413).bind fun t416 => (laws_FnPaths.j0 k t379 t383 t388 t389 (!t416))))))) else (laws_FnPaths.j0 k t379 t383 t388 t389 true)))) else (laws_FnPaths.j0 k t379 t383 t388 t389 true)))) else (laws_FnPaths.j0 k t379 t383 t388 t389 true)))) else (laws_FnPaths.j0 k t379 t383 t388 t389 true)))) else (laws_FnPaths.j0 k t379 t383 t388 t389 true)))))))))))))))))) = some r := H
    have A6 := Aside0.mk A60
    clear A60
    replace H := Option.bind_eq_some_iff.mp H
    obtain ⟨t380, A70, H⟩ := H
    replace H : ((spec_DrawDir.f k l0).bind fun t383 => ((spec_DrawBase.f k l0).bind fun t384 => ((spec_DrawDepth.f k l0).bind fun t385 => ((spec_DrawUnder.f k l0).bind fun bt386 => ((spec_DrawParents.f k l0).bind fun t388 => ((impl_Parents.f k t388).bind fun t389 => ((impl_PartOk.f t377).bind fun t392 => ((spec_PartOk.f k t377).bind fun t393 => (if (t392 != t393) = true then (laws_FnPaths.j0 k t379 t383 t388 t389 true) else ((impl_PathOk.f k t378).bind fun t394 => ((spec_PathOk.f k t378).bind fun t395 => (if (t394 != t395) = true then (laws_FnPaths.j0 k t379 t383 t388 t389 true) else ((impl_Parts.f k t379).bind fun t396 => ((spec_Parts.f k t379).bind fun t399 => ((laws_sameTexts.f k t396 t399).bind fun t402 => (if t402 = true then ((impl_Join.f t380).bind fun t403 => ((spec_Join.f k t380).bind fun t404 => (if t403.toList = t404.toList then ((impl_Dir.f k t383).bind fun t405 => ((spec_Dir.f k t383).bind fun t406 => (if t405.toList = t406.toList then ((impl_Base.f k t384).bind fun t407 => ((spec_Base.f k t384).bind fun t408 => (if t407.toList = t408.toList then ((impl_Depth.f k t385).bind fun t409 => ((spec_Depth.f k t385).bind fun t410 => (if t409 = t410 then ((impl_Under.f k bt386.1 bt386.2).bind fun t411 => ((spec_Under.f k bt386.1 bt386.2).bind fun t412 => (if (t411 != t412) = true then (laws_FnPaths.j0 k t379 t383 t388 t389 true) else ((spec_Parents.f k t388).bind fun t413 => ((laws_sameTexts.f k t389 t413).bind fun t416 => (laws_FnPaths.j0 k t379 t383 t388 t389 (!t416))))))) else (laws_FnPaths.j0 k t379 t383 t388 t389 true)))) else (laws_FnPaths.j0 k t379 t383 t388 t389 true)))) else (laws_FnPaths.j0 k t379 t383 t388 t389 true)))) else (laws_FnPaths.j0 k t379 t383 t388 t389 true)))) else (laws_FnPaths.j0 k t379 t383 t388 t389 true))))))))))))))))) = some r := H
    have A7 := Aside0.mk A70
    clear A70
    replace H := Option.bind_eq_some_iff.mp H
    obtain ⟨t383, A80, H⟩ := H
    replace H : ((spec_DrawBase.f k l0).bind fun t384 => ((spec_DrawDepth.f k l0).bind fun t385 => ((spec_DrawUnder.f k l0).bind fun bt386 => ((spec_DrawParents.f k l0).bind fun t388 => ((impl_Parents.f k t388).bind fun t389 => ((impl_PartOk.f t377).bind fun t392 => ((spec_PartOk.f k t377).bind fun t393 => (if (t392 != t393) = true then (laws_FnPaths.j0 k t379 t383 t388 t389 true) else ((impl_PathOk.f k t378).bind fun t394 => ((spec_PathOk.f k t378).bind fun t395 => (if (t394 != t395) = true then (laws_FnPaths.j0 k t379 t383 t388 t389 true) else ((impl_Parts.f k t379).bind fun t396 => ((spec_Parts.f k t379).bind fun t399 => ((laws_sameTexts.f k t396 t399).bind fun t402 => (if t402 = true then ((impl_Join.f t380).bind fun t403 => ((spec_Join.f k t380).bind fun t404 => (if t403.toList = t404.toList then ((impl_Dir.f k t383).bind fun t405 => ((spec_Dir.f k t383).bind fun t406 => (if t405.toList = t406.toList then ((impl_Base.f k t384).bind fun t407 => ((spec_Base.f k t384).bind fun t408 => (if t407.toList = t408.toList then ((impl_Depth.f k t385).bind fun t409 => ((spec_Depth.f k t385).bind fun t410 => (if t409 = t410 then ((impl_Under.f k bt386.1 bt386.2).bind fun t411 => ((spec_Under.f k bt386.1 bt386.2).bind fun t412 => (if (t411 != t412) = true then (laws_FnPaths.j0 k t379 t383 t388 t389 true) else ((spec_Parents.f k t388).bind fun t413 => ((laws_sameTexts.f k t389 t413).bind fun t416 => (laws_FnPaths.j0 k t379 t383 t388 t389 (!t416))))))) else (laws_FnPaths.j0 k t379 t383 t388 t389 true)))) else (laws_FnPaths.j0 k t379 t383 t388 t389 true)))) else (laws_FnPaths.j0 k t379 t383 t388 t389 true)))) else (laws_FnPaths.j0 k t379 t383 t388 t389 true)))) else (laws_FnPaths.j0 k t379 t383 t388 t389 true)))))))))))))))) = some r := H
    have A8 := Aside0.mk A80
    clear A80
    replace H := Option.bind_eq_some_iff.mp H
    obtain ⟨t384, A90, H⟩ := H
    replace H : ((spec_DrawDepth.f k l0).bind fun t385 => ((spec_DrawUnder.f k l0).bind fun bt386 => ((spec_DrawParents.f k l0).bind fun t388 => ((impl_Parents.f k t388).bind fun t389 => ((impl_PartOk.f t377).bind fun t392 => ((spec_PartOk.f k t377).bind fun t393 => (if (t392 != t393) = true then (laws_FnPaths.j0 k t379 t383 t388 t389 true) else ((impl_PathOk.f k t378).bind fun t394 => ((spec_PathOk.f k t378).bind fun t395 => (if (t394 != t395) = true then (laws_FnPaths.j0 k t379 t383 t388 t389 true) else ((impl_Parts.f k t379).bind fun t396 => ((spec_Parts.f k t379).bind fun t399 => ((laws_sameTexts.f k t396 t399).bind fun t402 => (if t402 = true then ((impl_Join.f t380).bind fun t403 => ((spec_Join.f k t380).bind fun t404 => (if t403.toList = t404.toList then ((impl_Dir.f k t383).bind fun t405 => ((spec_Dir.f k t383).bind fun t406 => (if t405.toList = t406.toList then ((impl_Base.f k t384).bind fun t407 => ((spec_Base.f k t384).bind fun t408 => (if t407.toList = t408.toList then ((impl_Depth.f k t385).bind fun t409 => ((spec_Depth.f k t385).bind fun t410 => (if t409 = t410 then ((impl_Under.f k bt386.1 bt386.2).bind fun t411 => ((spec_Under.f k bt386.1 bt386.2).bind fun t412 => (if (t411 != t412) = true then (laws_FnPaths.j0 k t379 t383 t388 t389 true) else ((spec_Parents.f k t388).bind fun t413 => ((laws_sameTexts.f k t389 t413).bind fun t416 => (laws_FnPaths.j0 k t379 t383 t388 t389 (!t416))))))) else (laws_FnPaths.j0 k t379 t383 t388 t389 true)))) else (laws_FnPaths.j0 k t379 t383 t388 t389 true)))) else (laws_FnPaths.j0 k t379 t383 t388 t389 true)))) else (laws_FnPaths.j0 k t379 t383 t388 t389 true)))) else (laws_FnPaths.j0 k t379 t383 t388 t389 true))))))))))))))) = some r := H
    have A9 := Aside0.mk A90
    clear A90
    replace H := Option.bind_eq_some_iff.mp H
    obtain ⟨t385, A100, H⟩ := H
    replace H : ((spec_DrawUnder.f k l0).bind fun bt386 => ((spec_DrawParents.f k l0).bind fun t388 => ((impl_Parents.f k t388).bind fun t389 => ((impl_PartOk.f t377).bind fun t392 => ((spec_PartOk.f k t377).bind fun t393 => (if (t392 != t393) = true then (laws_FnPaths.j0 k t379 t383 t388 t389 true) else ((impl_PathOk.f k t378).bind fun t394 => ((spec_PathOk.f k t378).bind fun t395 => (if (t394 != t395) = true then (laws_FnPaths.j0 k t379 t383 t388 t389 true) else ((impl_Parts.f k t379).bind fun t396 => ((spec_Parts.f k t379).bind fun t399 => ((laws_sameTexts.f k t396 t399).bind fun t402 => (if t402 = true then ((impl_Join.f t380).bind fun t403 => ((spec_Join.f k t380).bind fun t404 => (if t403.toList = t404.toList then ((impl_Dir.f k t383).bind fun t405 => ((spec_Dir.f k t383).bind fun t406 => (if t405.toList = t406.toList then ((impl_Base.f k t384).bind fun t407 => ((spec_Base.f k t384).bind fun t408 => (if t407.toList = t408.toList then ((impl_Depth.f k t385).bind fun t409 => ((spec_Depth.f k t385).bind fun t410 => (if t409 = t410 then ((impl_Under.f k bt386.1 bt386.2).bind fun t411 => ((spec_Under.f k bt386.1 bt386.2).bind fun t412 => (if (t411 != t412) = true then (laws_FnPaths.j0 k t379 t383 t388 t389 true) else ((spec_Parents.f k t388).bind fun t413 => ((laws_sameTexts.f k t389 t413).bind fun t416 => (laws_FnPaths.j0 k t379 t383 t388 t389 (!t416))))))) else (laws_FnPaths.j0 k t379 t383 t388 t389 true)))) else (laws_FnPaths.j0 k t379 t383 t388 t389 true)))) else (laws_FnPaths.j0 k t379 t383 t388 t389 true)))) else (laws_FnPaths.j0 k t379 t383 t388 t389 true)))) else (laws_FnPaths.j0 k t379 t383 t388 t389 true)))))))))))))) = some r := H
    have A10 := Aside0.mk A100
    clear A100
    replace H := Option.bind_eq_some_iff.mp H
    obtain ⟨⟨t386, t387⟩, A110, H⟩ := H
    replace H : ((spec_DrawParents.f k l0).bind fun t388 => ((impl_Parents.f k t388).bind fun t389 => ((impl_PartOk.f t377).bind fun t392 => ((spec_PartOk.f k t377).bind fun t393 => (if (t392 != t393) = true then (laws_FnPaths.j0 k t379 t383 t388 t389 true) else ((impl_PathOk.f k t378).bind fun t394 => ((spec_PathOk.f k t378).bind fun t395 => (if (t394 != t395) = true then (laws_FnPaths.j0 k t379 t383 t388 t389 true) else ((impl_Parts.f k t379).bind fun t396 => ((spec_Parts.f k t379).bind fun t399 => ((laws_sameTexts.f k t396 t399).bind fun t402 => (if t402 = true then ((impl_Join.f t380).bind fun t403 => ((spec_Join.f k t380).bind fun t404 => (if t403.toList = t404.toList then ((impl_Dir.f k t383).bind fun t405 => ((spec_Dir.f k t383).bind fun t406 => (if t405.toList = t406.toList then ((impl_Base.f k t384).bind fun t407 => ((spec_Base.f k t384).bind fun t408 => (if t407.toList = t408.toList then ((impl_Depth.f k t385).bind fun t409 => ((spec_Depth.f k t385).bind fun t410 => (if t409 = t410 then ((impl_Under.f k t386 t387).bind fun t411 => ((spec_Under.f k t386 t387).bind fun t412 => (if (t411 != t412) = true then (laws_FnPaths.j0 k t379 t383 t388 t389 true) else ((spec_Parents.f k t388).bind fun t413 => ((laws_sameTexts.f k t389 t413).bind fun t416 => (laws_FnPaths.j0 k t379 t383 t388 t389 (!t416))))))) else (laws_FnPaths.j0 k t379 t383 t388 t389 true)))) else (laws_FnPaths.j0 k t379 t383 t388 t389 true)))) else (laws_FnPaths.j0 k t379 t383 t388 t389 true)))) else (laws_FnPaths.j0 k t379 t383 t388 t389 true)))) else (laws_FnPaths.j0 k t379 t383 t388 t389 true))))))))))))) = some r := H
    have A11 := Aside0.mk A110
    clear A110
    replace H := Option.bind_eq_some_iff.mp H
    obtain ⟨t388, A120, H⟩ := H
    replace H : ((impl_Parents.f k t388).bind fun t389 => ((impl_PartOk.f t377).bind fun t392 => ((spec_PartOk.f k t377).bind fun t393 => (if (t392 != t393) = true then (laws_FnPaths.j0 k t379 t383 t388 t389 true) else ((impl_PathOk.f k t378).bind fun t394 => ((spec_PathOk.f k t378).bind fun t395 => (if (t394 != t395) = true then (laws_FnPaths.j0 k t379 t383 t388 t389 true) else ((impl_Parts.f k t379).bind fun t396 => ((spec_Parts.f k t379).bind fun t399 => ((laws_sameTexts.f k t396 t399).bind fun t402 => (if t402 = true then ((impl_Join.f t380).bind fun t403 => ((spec_Join.f k t380).bind fun t404 => (if t403.toList = t404.toList then ((impl_Dir.f k t383).bind fun t405 => ((spec_Dir.f k t383).bind fun t406 => (if t405.toList = t406.toList then ((impl_Base.f k t384).bind fun t407 => ((spec_Base.f k t384).bind fun t408 => (if t407.toList = t408.toList then ((impl_Depth.f k t385).bind fun t409 => ((spec_Depth.f k t385).bind fun t410 => (if t409 = t410 then ((impl_Under.f k t386 t387).bind fun t411 => ((spec_Under.f k t386 t387).bind fun t412 => (if (t411 != t412) = true then (laws_FnPaths.j0 k t379 t383 t388 t389 true) else ((spec_Parents.f k t388).bind fun t413 => ((laws_sameTexts.f k t389 t413).bind fun t416 => (laws_FnPaths.j0 k t379 t383 t388 t389 (!t416))))))) else (laws_FnPaths.j0 k t379 t383 t388 t389 true)))) else (laws_FnPaths.j0 k t379 t383 t388 t389 true)))) else (laws_FnPaths.j0 k t379 t383 t388 t389 true)))) else (laws_FnPaths.j0 k t379 t383 t388 t389 true)))) else (laws_FnPaths.j0 k t379 t383 t388 t389 true)))))))))))) = some r := H
    have A12 := Aside0.mk A120
    clear A120
    replace H := Option.bind_eq_some_iff.mp H
    obtain ⟨t389, A130, H⟩ := H
    replace H : ((impl_PartOk.f t377).bind fun t392 => ((spec_PartOk.f k t377).bind fun t393 => (if (t392 != t393) = true then (laws_FnPaths.j0 k t379 t383 t388 t389 true) else ((impl_PathOk.f k t378).bind fun t394 => ((spec_PathOk.f k t378).bind fun t395 => (if (t394 != t395) = true then (laws_FnPaths.j0 k t379 t383 t388 t389 true) else ((impl_Parts.f k t379).bind fun t396 => ((spec_Parts.f k t379).bind fun t399 => ((laws_sameTexts.f k t396 t399).bind fun t402 => (if t402 = true then ((impl_Join.f t380).bind fun t403 => ((spec_Join.f k t380).bind fun t404 => (if t403.toList = t404.toList then ((impl_Dir.f k t383).bind fun t405 => ((spec_Dir.f k t383).bind fun t406 => (if t405.toList = t406.toList then ((impl_Base.f k t384).bind fun t407 => ((spec_Base.f k t384).bind fun t408 => (if t407.toList = t408.toList then ((impl_Depth.f k t385).bind fun t409 => ((spec_Depth.f k t385).bind fun t410 => (if t409 = t410 then ((impl_Under.f k t386 t387).bind fun t411 => ((spec_Under.f k t386 t387).bind fun t412 => (if (t411 != t412) = true then (laws_FnPaths.j0 k t379 t383 t388 t389 true) else ((spec_Parents.f k t388).bind fun t413 => ((laws_sameTexts.f k t389 t413).bind fun t416 => (laws_FnPaths.j0 k t379 t383 t388 t389 (!t416))))))) else (laws_FnPaths.j0 k t379 t383 t388 t389 true)))) else (laws_FnPaths.j0 k t379 t383 t388 t389 true)))) else (laws_FnPaths.j0 k t379 t383 t388 t389 true)))) else (laws_FnPaths.j0 k t379 t383 t388 t389 true)))) else (laws_FnPaths.j0 k t379 t383 t388 t389 true))))))))))) = some r := H
    have A13 := Aside0.mk A130
    clear A130
    have HC14 := Aside0.mk H
    clear H
    go_enter Tryd.func4, Tryd.ntmps4
    go_upto_region 13 with (first | ((with_reducible refine gate_callee (f := 7) rfl ?_); refine goesL_ (some 16) rfl rfl Tryd.func7 (by kernel_rfl) rfl #[.slice A0 l0.length c0] rfl (by (try simp only [List.map_toArray, List.map_cons, List.map_nil]); first | done | rfl | (simp only [List.length_drop, List.length_take]; rfl)) ?_; (with_reducible refine (laws_big.calls _ _ l0 false _ ?side1 ?side2 A2.out).mono ?_); (case side1 => repeat (first | exact HR0.out | (with_reducible refine Kd.C_alloc ?_ _) | (with_reducible refine Kd.C_drewN ?_ _) | (with_reducible refine Kd.C_drew ?_))); (case side2 => exact HC0.out); rintro e w' ⟨rfl, ⟨nd, rfl⟩⟩; refine ⟨_, rfl, ?_⟩) | ((with_reducible refine gate_callee (f := 16) rfl ?_); refine goesL_ (some 18) rfl rfl Tryd.func16 (by kernel_rfl) rfl #[.slice A0 l0.length c0] rfl (by (try simp only [List.map_toArray, List.map_cons, List.map_nil]); first | done | rfl | (simp only [List.length_drop, List.length_take]; rfl)) ?_; (with_reducible refine (spec_DrawPartOk.calls k _ _ l0 t377 _ ?side1 ?side2 A4.out).mono ?_); (case side1 => repeat (first | exact HR0.out | (with_reducible refine Kd.C_alloc ?_ _) | (with_reducible refine Kd.C_drewN ?_ _) | (with_reducible refine Kd.C_drew ?_))); (case side2 => exact HC0.out); rintro e w15 ⟨rfl, hb⟩; refine ⟨_, rfl, ?_⟩; have n0_ := Aside0.mk (below_step (by repeat (first | (with_reducible first | exact HB.out | apply below_alloc | apply pw_below_drewN | apply below_drew1) | exact HB.out)) hb); clear HB; have HB := n0_; clear n0_; (try clear hb); (try clear hb2); (try clear hk); (try clear hi)) | ((with_reducible refine gate_callee (f := 17) rfl ?_); refine goesL_ (some 20) rfl rfl Tryd.func17 (by kernel_rfl) rfl #[.slice A0 l0.length c0] rfl (by (try simp only [List.map_toArray, List.map_cons, List.map_nil]); first | done | rfl | (simp only [List.length_drop, List.length_take]; rfl)) ?_; (with_reducible refine (spec_DrawPathOk.calls k _ _ l0 t378 _ ?side1 ?side2 A5.out).mono ?_); (case side1 => repeat (first | exact (Kd.C_below HR0.out HB.out) | (with_reducible refine Kd.C_alloc ?_ _) | (with_reducible refine Kd.C_drewN ?_ _) | (with_reducible refine Kd.C_drew ?_))); (case side2 => exact HC0.out); rintro e w16 ⟨rfl, hb⟩; refine ⟨_, rfl, ?_⟩; have n0_ := Aside0.mk (below_step (by repeat (first | (with_reducible first | exact HB.out | apply below_alloc | apply pw_below_drewN | apply below_drew1) | exact HB.out)) hb); clear HB; have HB := n0_; clear n0_; (try clear hb); (try clear hb2); (try clear hk); (try clear hi)) | ((with_reducible refine gate_callee (f := 18) rfl ?_); refine goesL_ (some 22) rfl rfl Tryd.func18 (by kernel_rfl) rfl #[.slice A0 l0.length c0] rfl (by (try simp only [List.map_toArray, List.map_cons, List.map_nil]); first | done | rfl | (simp only [List.length_drop, List.length_take]; rfl)) ?_; (with_reducible refine (spec_DrawParts.calls k _ _ l0 t379 _ ?side1 ?side2 A6.out).mono ?_); (case side1 => repeat (first | exact (Kd.C_below HR0.out HB.out) | (with_reducible refine Kd.C_alloc ?_ _) | (with_reducible refine Kd.C_drewN ?_ _) | (with_reducible refine Kd.C_drew ?_))); (case side2 => exact HC0.out); rintro e w17 ⟨rfl, hb⟩; refine ⟨_, rfl, ?_⟩; have n0_ := Aside0.mk (below_step (by repeat (first | (with_reducible first | exact HB.out | apply below_alloc | apply pw_below_drewN | apply below_drew1) | exact HB.out)) hb); clear HB; have HB := n0_; clear n0_; (try clear hb); (try clear hb2); (try clear hk); (try clear hi)) | ((with_reducible refine gate_callee (f := 19) rfl ?_); refine goesL_ (some 24) rfl rfl Tryd.func19 (by kernel_rfl) rfl #[.slice A0 l0.length c0] rfl (by (try simp only [List.map_toArray, List.map_cons, List.map_nil]); first | done | rfl | (simp only [List.length_drop, List.length_take]; rfl)) ?_; (with_reducible refine (spec_DrawJoin.calls k _ _ l0 t380 _ ?side1 ?side2 A7.out).mono ?_); (case side1 => repeat (first | exact (Kd.C_below HR0.out HB.out) | (with_reducible refine Kd.C_alloc ?_ _) | (with_reducible refine Kd.C_drewN ?_ _) | (with_reducible refine Kd.C_drew ?_))); (case side2 => exact HC0.out); rintro e w18 ⟨v381, rfl, ho0, hb⟩; refine ⟨_, rfl, ?_⟩; have n0_ := Aside0.mk (Kd.R_lower ho0 (below_size (by repeat (first | (with_reducible first | exact HB.out | apply below_alloc | apply pw_below_drewN | apply below_drew1) | exact HB.out)))); have n1_ := Aside0.mk (below_step (by repeat (first | (with_reducible first | exact HB.out | apply below_alloc | apply pw_below_drewN | apply below_drew1) | exact HB.out)) hb); clear HB; have HO382 := n0_; have HB := n1_; clear n0_ n1_; (try clear hb); (try clear hb2); (try clear hk); (try clear hi); (try clear ho0)) | ((with_reducible refine gate_callee (f := 20) rfl ?_); refine goesL_ (some 26) rfl rfl Tryd.func20 (by kernel_rfl) rfl #[.slice A0 l0.length c0] rfl (by (try simp only [List.map_toArray, List.map_cons, List.map_nil]); first | done | rfl | (simp only [List.length_drop, List.length_take]; rfl)) ?_; (with_reducible refine (spec_DrawDir.calls k _ _ l0 t383 _ ?side1 ?side2 A8.out).mono ?_); (case side1 => repeat (first | exact (Kd.C_below HR0.out HB.out) | (with_reducible refine Kd.C_alloc ?_ _) | (with_reducible refine Kd.C_drewN ?_ _) | (with_reducible refine Kd.C_drew ?_))); (case side2 => exact HC0.out); rintro e w19 ⟨rfl, hb⟩; refine ⟨_, rfl, ?_⟩; have n0_ := Aside0.mk (Kd.R_below (by (with_reducible repeat (first | apply Kd.R_alloc | apply Kd.R_drewN | apply Kd.R_drew)); exact HO382.out) hb); have n1_ := Aside0.mk (below_step (by repeat (first | (with_reducible first | exact HB.out | apply below_alloc | apply pw_below_drewN | apply below_drew1) | exact HB.out)) hb); clear HO382; clear HB; have HO382 := n0_; have HB := n1_; clear n0_ n1_; (try clear hb); (try clear hb2); (try clear hk); (try clear hi)) | ((with_reducible refine gate_callee (f := 21) rfl ?_); refine goesL_ (some 28) rfl rfl Tryd.func21 (by kernel_rfl) rfl #[.slice A0 l0.length c0] rfl (by (try simp only [List.map_toArray, List.map_cons, List.map_nil]); first | done | rfl | (simp only [List.length_drop, List.length_take]; rfl)) ?_; (with_reducible refine (spec_DrawBase.calls k _ _ l0 t384 _ ?side1 ?side2 A9.out).mono ?_); (case side1 => repeat (first | exact (Kd.C_below HR0.out HB.out) | (with_reducible refine Kd.C_alloc ?_ _) | (with_reducible refine Kd.C_drewN ?_ _) | (with_reducible refine Kd.C_drew ?_))); (case side2 => exact HC0.out); rintro e w20 ⟨rfl, hb⟩; refine ⟨_, rfl, ?_⟩; have n0_ := Aside0.mk (Kd.R_below (by (with_reducible repeat (first | apply Kd.R_alloc | apply Kd.R_drewN | apply Kd.R_drew)); exact HO382.out) hb); have n1_ := Aside0.mk (below_step (by repeat (first | (with_reducible first | exact HB.out | apply below_alloc | apply pw_below_drewN | apply below_drew1) | exact HB.out)) hb); clear HO382; clear HB; have HO382 := n0_; have HB := n1_; clear n0_ n1_; (try clear hb); (try clear hb2); (try clear hk); (try clear hi)) | ((with_reducible refine gate_callee (f := 22) rfl ?_); refine goesL_ (some 30) rfl rfl Tryd.func22 (by kernel_rfl) rfl #[.slice A0 l0.length c0] rfl (by (try simp only [List.map_toArray, List.map_cons, List.map_nil]); first | done | rfl | (simp only [List.length_drop, List.length_take]; rfl)) ?_; (with_reducible refine (spec_DrawDepth.calls k _ _ l0 t385 _ ?side1 ?side2 A10.out).mono ?_); (case side1 => repeat (first | exact (Kd.C_below HR0.out HB.out) | (with_reducible refine Kd.C_alloc ?_ _) | (with_reducible refine Kd.C_drewN ?_ _) | (with_reducible refine Kd.C_drew ?_))); (case side2 => exact HC0.out); rintro e w21 ⟨rfl, hb⟩; refine ⟨_, rfl, ?_⟩; have n0_ := Aside0.mk (Kd.R_below (by (with_reducible repeat (first | apply Kd.R_alloc | apply Kd.R_drewN | apply Kd.R_drew)); exact HO382.out) hb); have n1_ := Aside0.mk (below_step (by repeat (first | (with_reducible first | exact HB.out | apply below_alloc | apply pw_below_drewN | apply below_drew1) | exact HB.out)) hb); clear HO382; clear HB; have HO382 := n0_; have HB := n1_; clear n0_ n1_; (try clear hb); (try clear hb2); (try clear hk); (try clear hi)) | ((with_reducible refine gate_callee (f := 23) rfl ?_); refine goesL_ (some 33) rfl rfl Tryd.func23 (by kernel_rfl) rfl #[.slice A0 l0.length c0] rfl (by (try simp only [List.map_toArray, List.map_cons, List.map_nil]); first | done | rfl | (simp only [List.length_drop, List.length_take]; rfl)) ?_; (with_reducible refine (spec_DrawUnder.calls k _ _ l0 t386 t387 _ ?side1 ?side2 A11.out).mono ?_); (case side1 => repeat (first | exact (Kd.C_below HR0.out HB.out) | (with_reducible refine Kd.C_alloc ?_ _) | (with_reducible refine Kd.C_drewN ?_ _) | (with_reducible refine Kd.C_drew ?_))); (case side2 => exact HC0.out); rintro e w22 ⟨rfl, hb⟩; refine ⟨_, rfl, ?_⟩; have n0_ := Aside0.mk (Kd.R_below (by (with_reducible repeat (first | apply Kd.R_alloc | apply Kd.R_drewN | apply Kd.R_drew)); exact HO382.out) hb); have n1_ := Aside0.mk (below_step (by repeat (first | (with_reducible first | exact HB.out | apply below_alloc | apply pw_below_drewN | apply below_drew1) | exact HB.out)) hb); clear HO382; clear HB; have HO382 := n0_; have HB := n1_; clear n0_ n1_; (try clear hb); (try clear hb2); (try clear hk); (try clear hi)) | ((with_reducible refine gate_callee (f := 24) rfl ?_); refine goesL_ (some 37) rfl rfl Tryd.func24 (by kernel_rfl) rfl #[.slice A0 l0.length c0] rfl (by (try simp only [List.map_toArray, List.map_cons, List.map_nil]); first | done | rfl | (simp only [List.length_drop, List.length_take]; rfl)) ?_; (with_reducible refine (spec_DrawParents.calls k _ _ l0 t388 _ ?side1 ?side2 A12.out).mono ?_); (case side1 => repeat (first | exact (Kd.C_below HR0.out HB.out) | (with_reducible refine Kd.C_alloc ?_ _) | (with_reducible refine Kd.C_drewN ?_ _) | (with_reducible refine Kd.C_drew ?_))); (case side2 => exact HC0.out); rintro e w23 ⟨rfl, hb⟩; refine ⟨_, rfl, ?_⟩; have n0_ := Aside0.mk (Kd.R_below (by (with_reducible repeat (first | apply Kd.R_alloc | apply Kd.R_drewN | apply Kd.R_drew)); exact HO382.out) hb); have n1_ := Aside0.mk (below_step (by repeat (first | (with_reducible first | exact HB.out | apply below_alloc | apply pw_below_drewN | apply below_drew1) | exact HB.out)) hb); clear HO382; clear HB; have HO382 := n0_; have HB := n1_; clear n0_ n1_; (try clear hb); (try clear hb2); (try clear hk); (try clear hi)) | ((with_reducible refine gate_callee (f := 25) rfl ?_); refine goesL_ (some 39) rfl rfl Tryd.func25 (by kernel_rfl) rfl #[.string t388] rfl (by (try simp only [List.map_toArray, List.map_cons, List.map_nil]); first | done | rfl | (simp only [List.length_drop, List.length_take]; rfl)) ?_; (with_reducible refine (impl_Parents.calls k t388 t389 _ A13.out).mono ?_); rintro e w24 ⟨v390, rfl, ho0, hb⟩; refine ⟨_, rfl, ?_⟩; have n0_ := Aside0.mk (Kd.R_elder' (by (with_reducible repeat (first | apply Kd.R_alloc | apply Kd.R_drewN | apply Kd.R_drew)); exact HO382.out) (Kd.R_base ho0) hb); have n1_ := Aside0.mk (Kd.R_lower (Kd.R_new' ho0 (Kd.R_lt (by (with_reducible repeat (first | apply Kd.R_alloc | apply Kd.R_drewN | apply Kd.R_drew)); exact HO382.out))) (below_size (by repeat (first | (with_reducible first | exact HB.out | apply below_alloc | apply pw_below_drewN | apply below_drew1) | exact HB.out)))); have n2_ := Aside0.mk (below_step (by repeat (first | (with_reducible first | exact HB.out | apply below_alloc | apply pw_below_drewN | apply below_drew1) | exact HB.out)) hb); clear HO382; clear HB; have HO382 := n0_; have HO391 := n1_; have HB := n2_; clear n0_ n1_ n2_; (try clear hb); (try clear hb2); (try clear hk); (try clear hi); (try clear ho0)))
    (try simp only [Act.put, List.setIfInBounds_toArray, List.set_cons_zero, List.set_cons_succ])
    go_cut [103] (fun v103 wc => ∃ (kq : Nat) (x103_13 : Bool), v103 = .bool x103_13 ∧ Aside0 (laws_FnPaths.j0 kq t379 t383 t388 t389 x103_13 = some r) ∧ Aside0 (kq ≤ k) ∧ Aside0 (Kd.R Kd.string 9 wc w.heap.size (fun _ => True) v390 t389) ∧ Aside0 (Below w.heap.size w wc))
    case first =>
      have H := HC14.out
      clear HC14
      replace H := Option.bind_eq_some_iff.mp H
      obtain ⟨t392, A250, H⟩ := H
      replace H : ((spec_PartOk.f k t377).bind fun t393 => (if (t392 != t393) = true then (laws_FnPaths.j0 k t379 t383 t388 t389 true) else ((impl_PathOk.f k t378).bind fun t394 => ((spec_PathOk.f k t378).bind fun t395 => (if (t394 != t395) = true then (laws_FnPaths.j0 k t379 t383 t388 t389 true) else ((impl_Parts.f k t379).bind fun t396 => ((spec_Parts.f k t379).bind fun t399 => ((laws_sameTexts.f k t396 t399).bind fun t402 => (if t402 = true then ((impl_Join.f t380).bind fun t403 => ((spec_Join.f k t380).bind fun t404 => (if t403.toList = t404.toList then ((impl_Dir.f k t383).bind fun t405 => ((spec_Dir.f k t383).bind fun t406 => (if t405.toList = t406.toList then ((impl_Base.f k t384).bind fun t407 => ((spec_Base.f k t384).bind fun t408 => (if t407.toList = t408.toList then ((impl_Depth.f k t385).bind fun t409 => ((spec_Depth.f k t385).bind fun t410 => (if t409 = t410 then ((impl_Under.f k t386 t387).bind fun t411 => ((spec_Under.f k t386 t387).bind fun t412 => (if (t411 != t412) = true then (laws_FnPaths.j0 k t379 t383 t388 t389 true) else ((spec_Parents.f k t388).bind fun t413 => ((laws_sameTexts.f k t389 t413).bind fun t416 => (laws_FnPaths.j0 k t379 t383 t388 t389 (!t416))))))) else (laws_FnPaths.j0 k t379 t383 t388 t389 true)))) else (laws_FnPaths.j0 k t379 t383 t388 t389 true)))) else (laws_FnPaths.j0 k t379 t383 t388 t389 true)))) else (laws_FnPaths.j0 k t379 t383 t388 t389 true)))) else (laws_FnPaths.j0 k t379 t383 t388 t389 true)))))))))) = some r := H
      have A25 := Aside0.mk A250
      clear A250
      replace H := Option.bind_eq_some_iff.mp H
      obtain ⟨t393, A260, H⟩ := H
      replace H : (if (t392 != t393) = true then (laws_FnPaths.j0 k t379 t383 t388 t389 true) else ((impl_PathOk.f k t378).bind fun t394 => ((spec_PathOk.f k t378).bind fun t395 => (if (t394 != t395) = true then (laws_FnPaths.j0 k t379 t383 t388 t389 true) else ((impl_Parts.f k t379).bind fun t396 => ((spec_Parts.f k t379).bind fun t399 => ((laws_sameTexts.f k t396 t399).bind fun t402 => (if t402 = true then ((impl_Join.f t380).bind fun t403 => ((spec_Join.f k t380).bind fun t404 => (if t403.toList = t404.toList then ((impl_Dir.f k t383).bind fun t405 => ((spec_Dir.f k t383).bind fun t406 => (if t405.toList = t406.toList then ((impl_Base.f k t384).bind fun t407 => ((spec_Base.f k t384).bind fun t408 => (if t407.toList = t408.toList then ((impl_Depth.f k t385).bind fun t409 => ((spec_Depth.f k t385).bind fun t410 => (if t409 = t410 then ((impl_Under.f k t386 t387).bind fun t411 => ((spec_Under.f k t386 t387).bind fun t412 => (if (t411 != t412) = true then (laws_FnPaths.j0 k t379 t383 t388 t389 true) else ((spec_Parents.f k t388).bind fun t413 => ((laws_sameTexts.f k t389 t413).bind fun t416 => (laws_FnPaths.j0 k t379 t383 t388 t389 (!t416))))))) else (laws_FnPaths.j0 k t379 t383 t388 t389 true)))) else (laws_FnPaths.j0 k t379 t383 t388 t389 true)))) else (laws_FnPaths.j0 k t379 t383 t388 t389 true)))) else (laws_FnPaths.j0 k t379 t383 t388 t389 true)))) else (laws_FnPaths.j0 k t379 t383 t388 t389 true))))))))) = some r := H
      have A26 := Aside0.mk A260
      clear A260
      by_cases c27 : (t392 != t393) = true
      · rw [if_pos c27] at H
        have c27b0 : (t392 != t393) = true := c27
        (try (have c27b1 : decide (t392 = t393) = false := by simpa using c27))
        (try (have c27b2 : (t392 == t393) = false := by simpa using c27))
        (try (have c27b3 : ¬ (t392 = t393) := by simpa using c27))
        clear c27
        (first | rw [c27b0] | (simp only [i64_w, i32_w]; rw [c27b0]) | skip)
        have H' := Aside0.mk H
        clear H
        go_wp2_with (first | ((with_reducible refine gate_callee (f := 26) rfl ?_); refine goesL_ (some 41) rfl rfl Tryd.func26 (by kernel_rfl) rfl #[.string t377] rfl (by (try simp only [List.map_toArray, List.map_cons, List.map_nil]); first | done | rfl | (simp only [List.length_drop, List.length_take]; rfl)) ?_; (with_reducible refine (impl_PartOk.calls t377 t392 _ A25.out).mono ?_); rintro e w28 ⟨rfl, hb⟩; refine ⟨_, rfl, ?_⟩; have n0_ := Aside0.mk (Kd.R_below (by (with_reducible repeat (first | apply Kd.R_alloc | apply Kd.R_drewN | apply Kd.R_drew)); exact HO382.out) hb); have n1_ := Aside0.mk (Kd.R_below (by (with_reducible repeat (first | apply Kd.R_alloc | apply Kd.R_drewN | apply Kd.R_drew)); exact HO391.out) hb); have n2_ := Aside0.mk (below_step (by repeat (first | (with_reducible first | exact HB.out | apply below_alloc | apply pw_below_drewN | apply below_drew1) | exact HB.out)) hb); clear HO382; clear HO391; clear HB; have HO382 := n0_; have HO391 := n1_; have HB := n2_; clear n0_ n1_ n2_; (try clear hb); (try clear hb2); (try clear hk); (try clear hi)) | ((with_reducible refine gate_callee (f := 27) rfl ?_); refine goesL_ (some 43) rfl rfl Tryd.func27 (by kernel_rfl) rfl #[.string t377] rfl (by (try simp only [List.map_toArray, List.map_cons, List.map_nil]); first | done | rfl | (simp only [List.length_drop, List.length_take]; rfl)) ?_; (with_reducible refine (spec_PartOk.calls k t377 t393 _ A26.out).mono ?_); rintro e w' ⟨rfl, ⟨nd, rfl⟩⟩; refine ⟨_, rfl, ?_⟩))
        go_meet
        case rel => exact ⟨_, (true), (by first | rfl | (simp; done) | (simp [*]; done)), H', ⟨by first | omega | exact Nat.le_refl _⟩, ⟨by (with_reducible repeat (first | apply Kd.R_alloc | apply Kd.R_drewN | apply Kd.R_drew)); exact Kd.R_mono HO391.out (fun _ hk => trivial)⟩, ⟨by repeat (first | (with_reducible first | exact HB.out | apply below_alloc | apply pw_below_drewN | apply below_drew1) | exact HB.out)⟩⟩
      · rw [if_neg c27] at H
        have c27b0 : (t392 != t393) = false := by simpa using c27
        (try (have c27b1 : decide (t392 = t393) = true := by simpa using c27))
        (try (have c27b2 : (t392 == t393) = true := by simpa using c27))
        clear c27
        (first | rw [c27b0] | (simp only [i64_w, i32_w]; rw [c27b0]) | skip)
        replace H := Option.bind_eq_some_iff.mp H
        obtain ⟨t394, A290, H⟩ := H
        replace H : ((spec_PathOk.f k t378).bind fun t395 => (if (t394 != t395) = true then (laws_FnPaths.j0 k t379 t383 t388 t389 true) else ((impl_Parts.f k t379).bind fun t396 => ((spec_Parts.f k t379).bind fun t399 => ((laws_sameTexts.f k t396 t399).bind fun t402 => (if t402 = true then ((impl_Join.f t380).bind fun t403 => ((spec_Join.f k t380).bind fun t404 => (if t403.toList = t404.toList then ((impl_Dir.f k t383).bind fun t405 => ((spec_Dir.f k t383).bind fun t406 => (if t405.toList = t406.toList then ((impl_Base.f k t384).bind fun t407 => ((spec_Base.f k t384).bind fun t408 => (if t407.toList = t408.toList then ((impl_Depth.f k t385).bind fun t409 => ((spec_Depth.f k t385).bind fun t410 => (if t409 = t410 then ((impl_Under.f k t386 t387).bind fun t411 => ((spec_Under.f k t386 t387).bind fun t412 => (if (t411 != t412) = true then (laws_FnPaths.j0 k t379 t383 t388 t389 true) else ((spec_Parents.f k t388).bind fun t413 => ((laws_sameTexts.f k t389 t413).bind fun t416 => (laws_FnPaths.j0 k t379 t383 t388 t389 (!t416))))))) else (laws_FnPaths.j0 k t379 t383 t388 t389 true)))) else (laws_FnPaths.j0 k t379 t383 t388 t389 true)))) else (laws_FnPaths.j0 k t379 t383 t388 t389 true)))) else (laws_FnPaths.j0 k t379 t383 t388 t389 true)))) else (laws_FnPaths.j0 k t379 t383 t388 t389 true))))))) = some r := H
        have A29 := Aside0.mk A290
        clear A290
        replace H := Option.bind_eq_some_iff.mp H
        obtain ⟨t395, A300, H⟩ := H
        replace H : (if (t394 != t395) = true then (laws_FnPaths.j0 k t379 t383 t388 t389 true) else ((impl_Parts.f k t379).bind fun t396 => ((spec_Parts.f k t379).bind fun t399 => ((laws_sameTexts.f k t396 t399).bind fun t402 => (if t402 = true then ((impl_Join.f t380).bind fun t403 => ((spec_Join.f k t380).bind fun t404 => (if t403.toList = t404.toList then ((impl_Dir.f k t383).bind fun t405 => ((spec_Dir.f k t383).bind fun t406 => (if t405.toList = t406.toList then ((impl_Base.f k t384).bind fun t407 => ((spec_Base.f k t384).bind fun t408 => (if t407.toList = t408.toList then ((impl_Depth.f k t385).bind fun t409 => ((spec_Depth.f k t385).bind fun t410 => (if t409 = t410 then ((impl_Under.f k t386 t387).bind fun t411 => ((spec_Under.f k t386 t387).bind fun t412 => (if (t411 != t412) = true then (laws_FnPaths.j0 k t379 t383 t388 t389 true) else ((spec_Parents.f k t388).bind fun t413 => ((laws_sameTexts.f k t389 t413).bind fun t416 => (laws_FnPaths.j0 k t379 t383 t388 t389 (!t416))))))) else (laws_FnPaths.j0 k t379 t383 t388 t389 true)))) else (laws_FnPaths.j0 k t379 t383 t388 t389 true)))) else (laws_FnPaths.j0 k t379 t383 t388 t389 true)))) else (laws_FnPaths.j0 k t379 t383 t388 t389 true)))) else (laws_FnPaths.j0 k t379 t383 t388 t389 true)))))) = some r := H
        have A30 := Aside0.mk A300
        clear A300
        by_cases c31 : (t394 != t395) = true
        · rw [if_pos c31] at H
          have c31b0 : (t394 != t395) = true := c31
          (try (have c31b1 : decide (t394 = t395) = false := by simpa using c31))
          (try (have c31b2 : (t394 == t395) = false := by simpa using c31))
          (try (have c31b3 : ¬ (t394 = t395) := by simpa using c31))
          clear c31
          have H' := Aside0.mk H
          clear H
          go_wp2_with (first | ((with_reducible refine gate_callee (f := 26) rfl ?_); refine goesL_ (some 41) rfl rfl Tryd.func26 (by kernel_rfl) rfl #[.string t377] rfl (by (try simp only [List.map_toArray, List.map_cons, List.map_nil]); first | done | rfl | (simp only [List.length_drop, List.length_take]; rfl)) ?_; (with_reducible refine (impl_PartOk.calls t377 t392 _ A25.out).mono ?_); rintro e w32 ⟨rfl, hb⟩; refine ⟨_, rfl, ?_⟩; have n0_ := Aside0.mk (Kd.R_below (by (with_reducible repeat (first | apply Kd.R_alloc | apply Kd.R_drewN | apply Kd.R_drew)); exact HO382.out) hb); have n1_ := Aside0.mk (Kd.R_below (by (with_reducible repeat (first | apply Kd.R_alloc | apply Kd.R_drewN | apply Kd.R_drew)); exact HO391.out) hb); have n2_ := Aside0.mk (below_step (by repeat (first | (with_reducible first | exact HB.out | apply below_alloc | apply pw_below_drewN | apply below_drew1) | exact HB.out)) hb); clear HO382; clear HO391; clear HB; have HO382 := n0_; have HO391 := n1_; have HB := n2_; clear n0_ n1_ n2_; (try clear hb); (try clear hb2); (try clear hk); (try clear hi)) | ((with_reducible refine gate_callee (f := 27) rfl ?_); refine goesL_ (some 43) rfl rfl Tryd.func27 (by kernel_rfl) rfl #[.string t377] rfl (by (try simp only [List.map_toArray, List.map_cons, List.map_nil]); first | done | rfl | (simp only [List.length_drop, List.length_take]; rfl)) ?_; (with_reducible refine (spec_PartOk.calls k t377 t393 _ A26.out).mono ?_); rintro e w' ⟨rfl, ⟨nd, rfl⟩⟩; refine ⟨_, rfl, ?_⟩) | (go_at_call 14; (with_reducible refine (impl_PathOk.calls k t378 t394 _ A29.out).mono ?_); rintro e w33 ⟨rfl, hb⟩; have n0_ := Aside0.mk (Kd.R_below (by (with_reducible repeat (first | apply Kd.R_alloc | apply Kd.R_drewN | apply Kd.R_drew)); exact HO382.out) hb); have n1_ := Aside0.mk (Kd.R_below (by (with_reducible repeat (first | apply Kd.R_alloc | apply Kd.R_drewN | apply Kd.R_drew)); exact HO391.out) hb); have n2_ := Aside0.mk (below_step (by repeat (first | (with_reducible first | exact HB.out | apply below_alloc | apply pw_below_drewN | apply below_drew1) | exact HB.out)) hb); clear HO382; clear HO391; clear HB; have HO382 := n0_; have HO391 := n1_; have HB := n2_; clear n0_ n1_ n2_; (try clear hb); (try clear hb2); (try clear hk); (try clear hi)) | (go_at_call 15; (with_reducible refine (spec_PathOk.calls k t378 t395 _ A30.out).mono ?_); rintro e w34 ⟨rfl, hb⟩; have n0_ := Aside0.mk (Kd.R_below (by (with_reducible repeat (first | apply Kd.R_alloc | apply Kd.R_drewN | apply Kd.R_drew)); exact HO382.out) hb); have n1_ := Aside0.mk (Kd.R_below (by (with_reducible repeat (first | apply Kd.R_alloc | apply Kd.R_drewN | apply Kd.R_drew)); exact HO391.out) hb); have n2_ := Aside0.mk (below_step (by repeat (first | (with_reducible first | exact HB.out | apply below_alloc | apply pw_below_drewN | apply below_drew1) | exact HB.out)) hb); clear HO382; clear HO391; clear HB; have HO382 := n0_; have HO391 := n1_; have HB := n2_; clear n0_ n1_ n2_; (try clear hb); (try clear hb2); (try clear hk); (try clear hi)))
          go_meet
          case rel => exact ⟨_, (true), (by first | rfl | (simp; done) | (simp [*]; done)), H', ⟨by first | omega | exact Nat.le_refl _⟩, ⟨by (with_reducible repeat (first | apply Kd.R_alloc | apply Kd.R_drewN | apply Kd.R_drew)); exact Kd.R_mono HO391.out (fun _ hk => trivial)⟩, ⟨by repeat (first | (with_reducible first | exact HB.out | apply below_alloc | apply pw_below_drewN | apply below_drew1) | exact HB.out)⟩⟩
        · rw [if_neg c31] at H
          have c31b0 : (t394 != t395) = false := by simpa using c31
          (try (have c31b1 : decide (t394 = t395) = true := by simpa using c31))
          (try (have c31b2 : (t394 == t395) = true := by simpa using c31))
          clear c31
          replace H := Option.bind_eq_some_iff.mp H
          obtain ⟨t396, A350, H⟩ := H
          replace H : ((spec_Parts.f k t379).bind fun t399 => ((laws_sameTexts.f k t396 t399).bind fun t402 => (if t402 = true then ((impl_Join.f t380).bind fun t403 => ((spec_Join.f k t380).bind fun t404 => (if t403.toList = t404.toList then ((impl_Dir.f k t383).bind fun t405 => ((spec_Dir.f k t383).bind fun t406 => (if t405.toList = t406.toList then ((impl_Base.f k t384).bind fun t407 => ((spec_Base.f k t384).bind fun t408 => (if t407.toList = t408.toList then ((impl_Depth.f k t385).bind fun t409 => ((spec_Depth.f k t385).bind fun t410 => (if t409 = t410 then ((impl_Under.f k t386 t387).bind fun t411 => ((spec_Under.f k t386 t387).bind fun t412 => (if (t411 != t412) = true then (laws_FnPaths.j0 k t379 t383 t388 t389 true) else ((spec_Parents.f k t388).bind fun t413 => ((laws_sameTexts.f k t389 t413).bind fun t416 => (laws_FnPaths.j0 k t379 t383 t388 t389 (!t416))))))) else (laws_FnPaths.j0 k t379 t383 t388 t389 true)))) else (laws_FnPaths.j0 k t379 t383 t388 t389 true)))) else (laws_FnPaths.j0 k t379 t383 t388 t389 true)))) else (laws_FnPaths.j0 k t379 t383 t388 t389 true)))) else (laws_FnPaths.j0 k t379 t383 t388 t389 true)))) = some r := H
          have A35 := Aside0.mk A350
          clear A350
          replace H := Option.bind_eq_some_iff.mp H
          obtain ⟨t399, A360, H⟩ := H
          replace H : ((laws_sameTexts.f k t396 t399).bind fun t402 => (if t402 = true then ((impl_Join.f t380).bind fun t403 => ((spec_Join.f k t380).bind fun t404 => (if t403.toList = t404.toList then ((impl_Dir.f k t383).bind fun t405 => ((spec_Dir.f k t383).bind fun t406 => (if t405.toList = t406.toList then ((impl_Base.f k t384).bind fun t407 => ((spec_Base.f k t384).bind fun t408 => (if t407.toList = t408.toList then ((impl_Depth.f k t385).bind fun t409 => ((spec_Depth.f k t385).bind fun t410 => (if t409 = t410 then ((impl_Under.f k t386 t387).bind fun t411 => ((spec_Under.f k t386 t387).bind fun t412 => (if (t411 != t412) = true then (laws_FnPaths.j0 k t379 t383 t388 t389 true) else ((spec_Parents.f k t388).bind fun t413 => ((laws_sameTexts.f k t389 t413).bind fun t416 => (laws_FnPaths.j0 k t379 t383 t388 t389 (!t416))))))) else (laws_FnPaths.j0 k t379 t383 t388 t389 true)))) else (laws_FnPaths.j0 k t379 t383 t388 t389 true)))) else (laws_FnPaths.j0 k t379 t383 t388 t389 true)))) else (laws_FnPaths.j0 k t379 t383 t388 t389 true)))) else (laws_FnPaths.j0 k t379 t383 t388 t389 true))) = some r := H
          have A36 := Aside0.mk A360
          clear A360
          replace H := Option.bind_eq_some_iff.mp H
          obtain ⟨t402, A370, H⟩ := H
          replace H : (if t402 = true then ((impl_Join.f t380).bind fun t403 => ((spec_Join.f k t380).bind fun t404 => (if t403.toList = t404.toList then ((impl_Dir.f k t383).bind fun t405 => ((spec_Dir.f k t383).bind fun t406 => (if t405.toList = t406.toList then ((impl_Base.f k t384).bind fun t407 => ((spec_Base.f k t384).bind fun t408 => (if t407.toList = t408.toList then ((impl_Depth.f k t385).bind fun t409 => ((spec_Depth.f k t385).bind fun t410 => (if t409 = t410 then ((impl_Under.f k t386 t387).bind fun t411 => ((spec_Under.f k t386 t387).bind fun t412 => (if (t411 != t412) = true then (laws_FnPaths.j0 k t379 t383 t388 t389 true) else ((spec_Parents.f k t388).bind fun t413 => ((laws_sameTexts.f k t389 t413).bind fun t416 => (laws_FnPaths.j0 k t379 t383 t388 t389 (!t416))))))) else (laws_FnPaths.j0 k t379 t383 t388 t389 true)))) else (laws_FnPaths.j0 k t379 t383 t388 t389 true)))) else (laws_FnPaths.j0 k t379 t383 t388 t389 true)))) else (laws_FnPaths.j0 k t379 t383 t388 t389 true)))) else (laws_FnPaths.j0 k t379 t383 t388 t389 true)) = some r := H
          have A37 := Aside0.mk A370
          clear A370
          by_cases c38 : t402 = true
          · subst c38
            have H1 : ((impl_Join.f t380).bind fun t403 => ((spec_Join.f k t380).bind fun t404 => (if t403.toList = t404.toList then ((impl_Dir.f k t383).bind fun t405 => ((spec_Dir.f k t383).bind fun t406 => (if t405.toList = t406.toList then ((impl_Base.f k t384).bind fun t407 => ((spec_Base.f k t384).bind fun t408 => (if t407.toList = t408.toList then ((impl_Depth.f k t385).bind fun t409 => ((spec_Depth.f k t385).bind fun t410 => (if t409 = t410 then ((impl_Under.f k t386 t387).bind fun t411 => ((spec_Under.f k t386 t387).bind fun t412 => (if (t411 != t412) = true then (laws_FnPaths.j0 k t379 t383 t388 t389 true) else ((spec_Parents.f k t388).bind fun t413 => ((laws_sameTexts.f k t389 t413).bind fun t416 => (laws_FnPaths.j0 k t379 t383 t388 t389 (!t416))))))) else (laws_FnPaths.j0 k t379 t383 t388 t389 true)))) else (laws_FnPaths.j0 k t379 t383 t388 t389 true)))) else (laws_FnPaths.j0 k t379 t383 t388 t389 true)))) else (laws_FnPaths.j0 k t379 t383 t388 t389 true)))) = some r := by rw [if_pos rfl] at H; exact H
            clear H
            have H := H1
            clear H1
            replace H := Option.bind_eq_some_iff.mp H
            obtain ⟨t403, A390, H⟩ := H
            replace H : ((spec_Join.f k t380).bind fun t404 => (if t403.toList = t404.toList then ((impl_Dir.f k t383).bind fun t405 => ((spec_Dir.f k t383).bind fun t406 => (if t405.toList = t406.toList then ((impl_Base.f k t384).bind fun t407 => ((spec_Base.f k t384).bind fun t408 => (if t407.toList = t408.toList then ((impl_Depth.f k t385).bind fun t409 => ((spec_Depth.f k t385).bind fun t410 => (if t409 = t410 then ((impl_Under.f k t386 t387).bind fun t411 => ((spec_Under.f k t386 t387).bind fun t412 => (if (t411 != t412) = true then (laws_FnPaths.j0 k t379 t383 t388 t389 true) else ((spec_Parents.f k t388).bind fun t413 => ((laws_sameTexts.f k t389 t413).bind fun t416 => (laws_FnPaths.j0 k t379 t383 t388 t389 (!t416))))))) else (laws_FnPaths.j0 k t379 t383 t388 t389 true)))) else (laws_FnPaths.j0 k t379 t383 t388 t389 true)))) else (laws_FnPaths.j0 k t379 t383 t388 t389 true)))) else (laws_FnPaths.j0 k t379 t383 t388 t389 true))) = some r := H
            have A39 := Aside0.mk A390
            clear A390
            replace H := Option.bind_eq_some_iff.mp H
            obtain ⟨t404, A400, H⟩ := H
            replace H : (if t403.toList = t404.toList then ((impl_Dir.f k t383).bind fun t405 => ((spec_Dir.f k t383).bind fun t406 => (if t405.toList = t406.toList then ((impl_Base.f k t384).bind fun t407 => ((spec_Base.f k t384).bind fun t408 => (if t407.toList = t408.toList then ((impl_Depth.f k t385).bind fun t409 => ((spec_Depth.f k t385).bind fun t410 => (if t409 = t410 then ((impl_Under.f k t386 t387).bind fun t411 => ((spec_Under.f k t386 t387).bind fun t412 => (if (t411 != t412) = true then (laws_FnPaths.j0 k t379 t383 t388 t389 true) else ((spec_Parents.f k t388).bind fun t413 => ((laws_sameTexts.f k t389 t413).bind fun t416 => (laws_FnPaths.j0 k t379 t383 t388 t389 (!t416))))))) else (laws_FnPaths.j0 k t379 t383 t388 t389 true)))) else (laws_FnPaths.j0 k t379 t383 t388 t389 true)))) else (laws_FnPaths.j0 k t379 t383 t388 t389 true)))) else (laws_FnPaths.j0 k t379 t383 t388 t389 true)) = some r := H
            have A40 := Aside0.mk A400
            clear A400
            by_cases c41 : t403.toList = t404.toList
            · rw [if_pos c41] at H
              have c41b0 : (t403.toList == t404.toList) = true := beq_iff_eq.mpr c41
              have c41b1 : (t403.toList != t404.toList) = false := bne_eq_false_iff_eq.mpr c41
              clear c41
              replace H := Option.bind_eq_some_iff.mp H
              obtain ⟨t405, A420, H⟩ := H
              replace H : ((spec_Dir.f k t383).bind fun t406 => (if t405.toList = t406.toList then ((impl_Base.f k t384).bind fun t407 => ((spec_Base.f k t384).bind fun t408 => (if t407.toList = t408.toList then ((impl_Depth.f k t385).bind fun t409 => ((spec_Depth.f k t385).bind fun t410 => (if t409 = t410 then ((impl_Under.f k t386 t387).bind fun t411 => ((spec_Under.f k t386 t387).bind fun t412 => (if (t411 != t412) = true then (laws_FnPaths.j0 k t379 t383 t388 t389 true) else ((spec_Parents.f k t388).bind fun t413 => ((laws_sameTexts.f k t389 t413).bind fun t416 => (laws_FnPaths.j0 k t379 t383 t388 t389 (!t416))))))) else (laws_FnPaths.j0 k t379 t383 t388 t389 true)))) else (laws_FnPaths.j0 k t379 t383 t388 t389 true)))) else (laws_FnPaths.j0 k t379 t383 t388 t389 true))) = some r := H
              have A42 := Aside0.mk A420
              clear A420
              replace H := Option.bind_eq_some_iff.mp H
              obtain ⟨t406, A430, H⟩ := H
              replace H : (if t405.toList = t406.toList then ((impl_Base.f k t384).bind fun t407 => ((spec_Base.f k t384).bind fun t408 => (if t407.toList = t408.toList then ((impl_Depth.f k t385).bind fun t409 => ((spec_Depth.f k t385).bind fun t410 => (if t409 = t410 then ((impl_Under.f k t386 t387).bind fun t411 => ((spec_Under.f k t386 t387).bind fun t412 => (if (t411 != t412) = true then (laws_FnPaths.j0 k t379 t383 t388 t389 true) else ((spec_Parents.f k t388).bind fun t413 => ((laws_sameTexts.f k t389 t413).bind fun t416 => (laws_FnPaths.j0 k t379 t383 t388 t389 (!t416))))))) else (laws_FnPaths.j0 k t379 t383 t388 t389 true)))) else (laws_FnPaths.j0 k t379 t383 t388 t389 true)))) else (laws_FnPaths.j0 k t379 t383 t388 t389 true)) = some r := H
              have A43 := Aside0.mk A430
              clear A430
              by_cases c44 : t405.toList = t406.toList
              · rw [if_pos c44] at H
                have c44b0 : (t405.toList == t406.toList) = true := beq_iff_eq.mpr c44
                have c44b1 : (t405.toList != t406.toList) = false := bne_eq_false_iff_eq.mpr c44
                clear c44
                replace H := Option.bind_eq_some_iff.mp H
                obtain ⟨t407, A450, H⟩ := H
                replace H : ((spec_Base.f k t384).bind fun t408 => (if t407.toList = t408.toList then ((impl_Depth.f k t385).bind fun t409 => ((spec_Depth.f k t385).bind fun t410 => (if t409 = t410 then ((impl_Under.f k t386 t387).bind fun t411 => ((spec_Under.f k t386 t387).bind fun t412 => (if (t411 != t412) = true then (laws_FnPaths.j0 k t379 t383 t388 t389 true) else ((spec_Parents.f k t388).bind fun t413 => ((laws_sameTexts.f k t389 t413).bind fun t416 => (laws_FnPaths.j0 k t379 t383 t388 t389 (!t416))))))) else (laws_FnPaths.j0 k t379 t383 t388 t389 true)))) else (laws_FnPaths.j0 k t379 t383 t388 t389 true))) = some r := H
                have A45 := Aside0.mk A450
                clear A450
                replace H := Option.bind_eq_some_iff.mp H
                obtain ⟨t408, A460, H⟩ := H
                replace H : (if t407.toList = t408.toList then ((impl_Depth.f k t385).bind fun t409 => ((spec_Depth.f k t385).bind fun t410 => (if t409 = t410 then ((impl_Under.f k t386 t387).bind fun t411 => ((spec_Under.f k t386 t387).bind fun t412 => (if (t411 != t412) = true then (laws_FnPaths.j0 k t379 t383 t388 t389 true) else ((spec_Parents.f k t388).bind fun t413 => ((laws_sameTexts.f k t389 t413).bind fun t416 => (laws_FnPaths.j0 k t379 t383 t388 t389 (!t416))))))) else (laws_FnPaths.j0 k t379 t383 t388 t389 true)))) else (laws_FnPaths.j0 k t379 t383 t388 t389 true)) = some r := H
                have A46 := Aside0.mk A460
                clear A460
                by_cases c47 : t407.toList = t408.toList
                · rw [if_pos c47] at H
                  have c47b0 : (t407.toList == t408.toList) = true := beq_iff_eq.mpr c47
                  have c47b1 : (t407.toList != t408.toList) = false := bne_eq_false_iff_eq.mpr c47
                  clear c47
                  replace H := Option.bind_eq_some_iff.mp H
                  obtain ⟨t409, A480, H⟩ := H
                  replace H : ((spec_Depth.f k t385).bind fun t410 => (if t409 = t410 then ((impl_Under.f k t386 t387).bind fun t411 => ((spec_Under.f k t386 t387).bind fun t412 => (if (t411 != t412) = true then (laws_FnPaths.j0 k t379 t383 t388 t389 true) else ((spec_Parents.f k t388).bind fun t413 => ((laws_sameTexts.f k t389 t413).bind fun t416 => (laws_FnPaths.j0 k t379 t383 t388 t389 (!t416))))))) else (laws_FnPaths.j0 k t379 t383 t388 t389 true))) = some r := H
                  have A48 := Aside0.mk A480
                  clear A480
                  replace H := Option.bind_eq_some_iff.mp H
                  obtain ⟨t410, A490, H⟩ := H
                  replace H : (if t409 = t410 then ((impl_Under.f k t386 t387).bind fun t411 => ((spec_Under.f k t386 t387).bind fun t412 => (if (t411 != t412) = true then (laws_FnPaths.j0 k t379 t383 t388 t389 true) else ((spec_Parents.f k t388).bind fun t413 => ((laws_sameTexts.f k t389 t413).bind fun t416 => (laws_FnPaths.j0 k t379 t383 t388 t389 (!t416))))))) else (laws_FnPaths.j0 k t379 t383 t388 t389 true)) = some r := H
                  have A49 := Aside0.mk A490
                  clear A490
                  by_cases c50 : t409 = t410
                  · rw [if_pos c50] at H
                    have c50b0 : (t409 == t410) = true := beq_iff_eq.mpr c50
                    have c50b1 : (t409 != t410) = false := bne_eq_false_iff_eq.mpr c50
                    clear c50
                    replace H := Option.bind_eq_some_iff.mp H
                    obtain ⟨t411, A510, H⟩ := H
                    replace H : ((spec_Under.f k t386 t387).bind fun t412 => (if (t411 != t412) = true then (laws_FnPaths.j0 k t379 t383 t388 t389 true) else ((spec_Parents.f k t388).bind fun t413 => ((laws_sameTexts.f k t389 t413).bind fun t416 => (laws_FnPaths.j0 k t379 t383 t388 t389 (!t416)))))) = some r := H
                    have A51 := Aside0.mk A510
                    clear A510
                    replace H := Option.bind_eq_some_iff.mp H
                    obtain ⟨t412, A520, H⟩ := H
                    replace H : (if (t411 != t412) = true then (laws_FnPaths.j0 k t379 t383 t388 t389 true) else ((spec_Parents.f k t388).bind fun t413 => ((laws_sameTexts.f k t389 t413).bind fun t416 => (laws_FnPaths.j0 k t379 t383 t388 t389 (!t416))))) = some r := H
                    have A52 := Aside0.mk A520
                    clear A520
                    by_cases c53 : (t411 != t412) = true
                    · rw [if_pos c53] at H
                      have c53b0 : (t411 != t412) = true := c53
                      (try (have c53b1 : decide (t411 = t412) = false := by simpa using c53))
                      (try (have c53b2 : (t411 == t412) = false := by simpa using c53))
                      (try (have c53b3 : ¬ (t411 = t412) := by simpa using c53))
                      clear c53
                      have H' := Aside0.mk H
                      clear H
                      go_wp2_with (first | ((with_reducible refine gate_callee (f := 26) rfl ?_); refine goesL_ (some 41) rfl rfl Tryd.func26 (by kernel_rfl) rfl #[.string t377] rfl (by (try simp only [List.map_toArray, List.map_cons, List.map_nil]); first | done | rfl | (simp only [List.length_drop, List.length_take]; rfl)) ?_; (with_reducible refine (impl_PartOk.calls t377 t392 _ A25.out).mono ?_); rintro e w54 ⟨rfl, hb⟩; refine ⟨_, rfl, ?_⟩; have n0_ := Aside0.mk (Kd.R_below (by (with_reducible repeat (first | apply Kd.R_alloc | apply Kd.R_drewN | apply Kd.R_drew)); exact HO382.out) hb); have n1_ := Aside0.mk (Kd.R_below (by (with_reducible repeat (first | apply Kd.R_alloc | apply Kd.R_drewN | apply Kd.R_drew)); exact HO391.out) hb); have n2_ := Aside0.mk (below_step (by repeat (first | (with_reducible first | exact HB.out | apply below_alloc | apply pw_below_drewN | apply below_drew1) | exact HB.out)) hb); clear HO382; clear HO391; clear HB; have HO382 := n0_; have HO391 := n1_; have HB := n2_; clear n0_ n1_ n2_; (try clear hb); (try clear hb2); (try clear hk); (try clear hi)) | ((with_reducible refine gate_callee (f := 27) rfl ?_); refine goesL_ (some 43) rfl rfl Tryd.func27 (by kernel_rfl) rfl #[.string t377] rfl (by (try simp only [List.map_toArray, List.map_cons, List.map_nil]); first | done | rfl | (simp only [List.length_drop, List.length_take]; rfl)) ?_; (with_reducible refine (spec_PartOk.calls k t377 t393 _ A26.out).mono ?_); rintro e w' ⟨rfl, ⟨nd, rfl⟩⟩; refine ⟨_, rfl, ?_⟩) | (go_at_call 14; (with_reducible refine (impl_PathOk.calls k t378 t394 _ A29.out).mono ?_); rintro e w55 ⟨rfl, hb⟩; have n0_ := Aside0.mk (Kd.R_below (by (with_reducible repeat (first | apply Kd.R_alloc | apply Kd.R_drewN | apply Kd.R_drew)); exact HO382.out) hb); have n1_ := Aside0.mk (Kd.R_below (by (with_reducible repeat (first | apply Kd.R_alloc | apply Kd.R_drewN | apply Kd.R_drew)); exact HO391.out) hb); have n2_ := Aside0.mk (below_step (by repeat (first | (with_reducible first | exact HB.out | apply below_alloc | apply pw_below_drewN | apply below_drew1) | exact HB.out)) hb); clear HO382; clear HO391; clear HB; have HO382 := n0_; have HO391 := n1_; have HB := n2_; clear n0_ n1_ n2_; (try clear hb); (try clear hb2); (try clear hk); (try clear hi)) | (go_at_call 15; (with_reducible refine (spec_PathOk.calls k t378 t395 _ A30.out).mono ?_); rintro e w56 ⟨rfl, hb⟩; have n0_ := Aside0.mk (Kd.R_below (by (with_reducible repeat (first | apply Kd.R_alloc | apply Kd.R_drewN | apply Kd.R_drew)); exact HO382.out) hb); have n1_ := Aside0.mk (Kd.R_below (by (with_reducible repeat (first | apply Kd.R_alloc | apply Kd.R_drewN | apply Kd.R_drew)); exact HO391.out) hb); have n2_ := Aside0.mk (below_step (by repeat (first | (with_reducible first | exact HB.out | apply below_alloc | apply pw_below_drewN | apply below_drew1) | exact HB.out)) hb); clear HO382; clear HO391; clear HB; have HO382 := n0_; have HO391 := n1_; have HB := n2_; clear n0_ n1_ n2_; (try clear hb); (try clear hb2); (try clear hk); (try clear hi)) | (go_at_call 29; (with_reducible refine (impl_Parts.calls k t379 t396 _ A35.out).mono ?_); rintro e w57 ⟨v397, rfl, ho0, hb⟩; have n0_ := Aside0.mk (Kd.R_elder' (by (with_reducible repeat (first | apply Kd.R_alloc | apply Kd.R_drewN | apply Kd.R_drew)); exact HO382.out) (Kd.R_base ho0) hb); have n1_ := Aside0.mk (Kd.R_elder' (by (with_reducible repeat (first | apply Kd.R_alloc | apply Kd.R_drewN | apply Kd.R_drew)); exact HO391.out) (Kd.R_base ho0) hb); have n2_ := Aside0.mk (Kd.R_lower (Kd.R_new' (Kd.R_new' ho0 (Kd.R_lt (by (with_reducible repeat (first | apply Kd.R_alloc | apply Kd.R_drewN | apply Kd.R_drew)); exact HO382.out))) (Kd.R_lt (by (with_reducible repeat (first | apply Kd.R_alloc | apply Kd.R_drewN | apply Kd.R_drew)); exact HO391.out))) (below_size (by repeat (first | (with_reducible first | exact HB.out | apply below_alloc | apply pw_below_drewN | apply below_drew1) | exact HB.out)))); have n3_ := Aside0.mk (below_step (by repeat (first | (with_reducible first | exact HB.out | apply below_alloc | apply pw_below_drewN | apply below_drew1) | exact HB.out)) hb); clear HO382; clear HO391; clear HB; have HO382 := n0_; have HO391 := n1_; have HO398 := n2_; have HB := n3_; clear n0_ n1_ n2_ n3_; (try clear hb); (try clear hb2); (try clear hk); (try clear hi); (try clear ho0)) | (go_at_call 30; (with_reducible refine (spec_Parts.calls k t379 t399 _ A36.out).mono ?_); rintro e w58 ⟨v400, rfl, ho0, hb⟩; have n0_ := Aside0.mk (Kd.R_elder' (by (with_reducible repeat (first | apply Kd.R_alloc | apply Kd.R_drewN | apply Kd.R_drew)); exact HO382.out) (Kd.R_base ho0) hb); have n1_ := Aside0.mk (Kd.R_elder' (by (with_reducible repeat (first | apply Kd.R_alloc | apply Kd.R_drewN | apply Kd.R_drew)); exact HO391.out) (Kd.R_base ho0) hb); have n2_ := Aside0.mk (Kd.R_elder' (by (with_reducible repeat (first | apply Kd.R_alloc | apply Kd.R_drewN | apply Kd.R_drew)); exact HO398.out) (Kd.R_base ho0) hb); have n3_ := Aside0.mk (Kd.R_lower (Kd.R_new' (Kd.R_new' (Kd.R_new' ho0 (Kd.R_lt (by (with_reducible repeat (first | apply Kd.R_alloc | apply Kd.R_drewN | apply Kd.R_drew)); exact HO382.out))) (Kd.R_lt (by (with_reducible repeat (first | apply Kd.R_alloc | apply Kd.R_drewN | apply Kd.R_drew)); exact HO391.out))) (Kd.R_lt (by (with_reducible repeat (first | apply Kd.R_alloc | apply Kd.R_drewN | apply Kd.R_drew)); exact HO398.out))) (below_size (by repeat (first | (with_reducible first | exact HB.out | apply below_alloc | apply pw_below_drewN | apply below_drew1) | exact HB.out)))); have n4_ := Aside0.mk (below_step (by repeat (first | (with_reducible first | exact HB.out | apply below_alloc | apply pw_below_drewN | apply below_drew1) | exact HB.out)) hb); clear HO382; clear HO391; clear HO398; clear HB; have HO382 := n0_; have HO391 := n1_; have HO398 := n2_; have HO401 := n3_; have HB := n4_; clear n0_ n1_ n2_ n3_ n4_; (try clear hb); (try clear hb2); (try clear hk); (try clear hi); (try clear ho0); obtain ⟨Ao59, co59, eo59⟩ := Kd.R_slice HO398.out; subst eo59; obtain ⟨Ao60, co60, eo60⟩ := Kd.R_slice HO401.out; subst eo60) | (go_at_call 28; (with_reducible refine (laws_sameTexts.calls k _ _ t396 _ _ t399 true _ ?side1 ?side2 ?side3 ?side4 A37.out).mono ?_); (case side1 => repeat (first | exact (Kd.R_reads' HO398.out).2.2 | (with_reducible refine Kd.C_alloc ?_ _) | (with_reducible refine Kd.C_drewN ?_ _) | (with_reducible refine Kd.C_drew ?_))); (case side2 => exact (Kd.R_reads' HO398.out).2.1); (case side3 => repeat (first | exact (Kd.R_reads' HO401.out).2.2 | (with_reducible refine Kd.C_alloc ?_ _) | (with_reducible refine Kd.C_drewN ?_ _) | (with_reducible refine Kd.C_drew ?_))); (case side4 => exact (Kd.R_reads' HO401.out).2.1); rintro e w' ⟨rfl, ⟨nd, rfl⟩⟩; obtain ⟨Ao61, co61, eo61⟩ := Kd.R_slice HO382.out; subst eo61) | (go_at_call 31; (with_reducible refine (impl_Join.calls _ _ t380 t403 _ ?side1 ?side2 A39.out).mono ?_); (case side1 => repeat (first | exact (Kd.R_reads' HO382.out).2.2 | (with_reducible refine Kd.C_alloc ?_ _) | (with_reducible refine Kd.C_drewN ?_ _) | (with_reducible refine Kd.C_drew ?_))); (case side2 => exact (Kd.R_reads' HO382.out).2.1); rintro e w62 ⟨rfl, hb⟩; have n0_ := Aside0.mk (Kd.R_below (by (with_reducible repeat (first | apply Kd.R_alloc | apply Kd.R_drewN | apply Kd.R_drew)); exact HO382.out) hb); have n1_ := Aside0.mk (Kd.R_below (by (with_reducible repeat (first | apply Kd.R_alloc | apply Kd.R_drewN | apply Kd.R_drew)); exact HO391.out) hb); have n2_ := Aside0.mk (Kd.R_below (by (with_reducible repeat (first | apply Kd.R_alloc | apply Kd.R_drewN | apply Kd.R_drew)); exact HO398.out) hb); have n3_ := Aside0.mk (Kd.R_below (by (with_reducible repeat (first | apply Kd.R_alloc | apply Kd.R_drewN | apply Kd.R_drew)); exact HO401.out) hb); have n4_ := Aside0.mk (below_step (by repeat (first | (with_reducible first | exact HB.out | apply below_alloc | apply pw_below_drewN | apply below_drew1) | exact HB.out)) hb); clear HO382; clear HO391; clear HO398; clear HO401; clear HB; have HO382 := n0_; have HO391 := n1_; have HO398 := n2_; have HO401 := n3_; have HB := n4_; clear n0_ n1_ n2_ n3_ n4_; (try clear hb); (try clear hb2); (try clear hk); (try clear hi)) | (go_at_call 32; (with_reducible refine (spec_Join.calls k _ _ t380 t404 _ ?side1 ?side2 A40.out).mono ?_); (case side1 => repeat (first | exact (Kd.R_reads' HO382.out).2.2 | (with_reducible refine Kd.C_alloc ?_ _) | (with_reducible refine Kd.C_drewN ?_ _) | (with_reducible refine Kd.C_drew ?_))); (case side2 => exact (Kd.R_reads' HO382.out).2.1); rintro e w' ⟨rfl, ⟨nd, rfl⟩⟩) | (go_at_call 33; (with_reducible refine (impl_Dir.calls k t383 t405 _ A42.out).mono ?_); rintro e w63 ⟨rfl, hb⟩; have n0_ := Aside0.mk (Kd.R_below (by (with_reducible repeat (first | apply Kd.R_alloc | apply Kd.R_drewN | apply Kd.R_drew)); exact HO382.out) hb); have n1_ := Aside0.mk (Kd.R_below (by (with_reducible repeat (first | apply Kd.R_alloc | apply Kd.R_drewN | apply Kd.R_drew)); exact HO391.out) hb); have n2_ := Aside0.mk (Kd.R_below (by (with_reducible repeat (first | apply Kd.R_alloc | apply Kd.R_drewN | apply Kd.R_drew)); exact HO398.out) hb); have n3_ := Aside0.mk (Kd.R_below (by (with_reducible repeat (first | apply Kd.R_alloc | apply Kd.R_drewN | apply Kd.R_drew)); exact HO401.out) hb); have n4_ := Aside0.mk (below_step (by repeat (first | (with_reducible first | exact HB.out | apply below_alloc | apply pw_below_drewN | apply below_drew1) | exact HB.out)) hb); clear HO382; clear HO391; clear HO398; clear HO401; clear HB; have HO382 := n0_; have HO391 := n1_; have HO398 := n2_; have HO401 := n3_; have HB := n4_; clear n0_ n1_ n2_ n3_ n4_; (try clear hb); (try clear hb2); (try clear hk); (try clear hi)) | (go_at_call 34; (with_reducible refine (spec_Dir.calls k t383 t406 _ A43.out).mono ?_); rintro e w' ⟨rfl, ⟨nd, rfl⟩⟩) | (go_at_call 35; (with_reducible refine (impl_Base.calls k t384 t407 _ A45.out).mono ?_); rintro e w' ⟨rfl, ⟨nd, rfl⟩⟩) | (go_at_call 36; (with_reducible refine (spec_Base.calls k t384 t408 _ A46.out).mono ?_); rintro e w' ⟨rfl, ⟨nd, rfl⟩⟩) | (go_at_call 37; (with_reducible refine (impl_Depth.calls k t385 t409 _ A48.out).mono ?_); rintro e w64 ⟨rfl, hb⟩; have n0_ := Aside0.mk (Kd.R_below (by (with_reducible repeat (first | apply Kd.R_alloc | apply Kd.R_drewN | apply Kd.R_drew)); exact HO382.out) hb); have n1_ := Aside0.mk (Kd.R_below (by (with_reducible repeat (first | apply Kd.R_alloc | apply Kd.R_drewN | apply Kd.R_drew)); exact HO391.out) hb); have n2_ := Aside0.mk (Kd.R_below (by (with_reducible repeat (first | apply Kd.R_alloc | apply Kd.R_drewN | apply Kd.R_drew)); exact HO398.out) hb); have n3_ := Aside0.mk (Kd.R_below (by (with_reducible repeat (first | apply Kd.R_alloc | apply Kd.R_drewN | apply Kd.R_drew)); exact HO401.out) hb); have n4_ := Aside0.mk (below_step (by repeat (first | (with_reducible first | exact HB.out | apply below_alloc | apply pw_below_drewN | apply below_drew1) | exact HB.out)) hb); clear HO382; clear HO391; clear HO398; clear HO401; clear HB; have HO382 := n0_; have HO391 := n1_; have HO398 := n2_; have HO401 := n3_; have HB := n4_; clear n0_ n1_ n2_ n3_ n4_; (try clear hb); (try clear hb2); (try clear hk); (try clear hi)) | (go_at_call 38; (with_reducible refine (spec_Depth.calls k t385 t410 _ A49.out).mono ?_); rintro e w65 ⟨rfl, hb⟩; have n0_ := Aside0.mk (Kd.R_below (by (with_reducible repeat (first | apply Kd.R_alloc | apply Kd.R_drewN | apply Kd.R_drew)); exact HO382.out) hb); have n1_ := Aside0.mk (Kd.R_below (by (with_reducible repeat (first | apply Kd.R_alloc | apply Kd.R_drewN | apply Kd.R_drew)); exact HO391.out) hb); have n2_ := Aside0.mk (Kd.R_below (by (with_reducible repeat (first | apply Kd.R_alloc | apply Kd.R_drewN | apply Kd.R_drew)); exact HO398.out) hb); have n3_ := Aside0.mk (Kd.R_below (by (with_reducible repeat (first | apply Kd.R_alloc | apply Kd.R_drewN | apply Kd.R_drew)); exact HO401.out) hb); have n4_ := Aside0.mk (below_step (by repeat (first | (with_reducible first | exact HB.out | apply below_alloc | apply pw_below_drewN | apply below_drew1) | exact HB.out)) hb); clear HO382; clear HO391; clear HO398; clear HO401; clear HB; have HO382 := n0_; have HO391 := n1_; have HO398 := n2_; have HO401 := n3_; have HB := n4_; clear n0_ n1_ n2_ n3_ n4_; (try clear hb); (try clear hb2); (try clear hk); (try clear hi)) | (go_at_call 39; (with_reducible refine (impl_Under.calls k t386 t387 t411 _ A51.out).mono ?_); rintro e w66 ⟨rfl, hb⟩; have n0_ := Aside0.mk (Kd.R_below (by (with_reducible repeat (first | apply Kd.R_alloc | apply Kd.R_drewN | apply Kd.R_drew)); exact HO382.out) hb); have n1_ := Aside0.mk (Kd.R_below (by (with_reducible repeat (first | apply Kd.R_alloc | apply Kd.R_drewN | apply Kd.R_drew)); exact HO391.out) hb); have n2_ := Aside0.mk (Kd.R_below (by (with_reducible repeat (first | apply Kd.R_alloc | apply Kd.R_drewN | apply Kd.R_drew)); exact HO398.out) hb); have n3_ := Aside0.mk (Kd.R_below (by (with_reducible repeat (first | apply Kd.R_alloc | apply Kd.R_drewN | apply Kd.R_drew)); exact HO401.out) hb); have n4_ := Aside0.mk (below_step (by repeat (first | (with_reducible first | exact HB.out | apply below_alloc | apply pw_below_drewN | apply below_drew1) | exact HB.out)) hb); clear HO382; clear HO391; clear HO398; clear HO401; clear HB; have HO382 := n0_; have HO391 := n1_; have HO398 := n2_; have HO401 := n3_; have HB := n4_; clear n0_ n1_ n2_ n3_ n4_; (try clear hb); (try clear hb2); (try clear hk); (try clear hi)) | (go_at_call 40; (with_reducible refine (spec_Under.calls k t386 t387 t412 _ A52.out).mono ?_); rintro e w67 ⟨rfl, hb⟩; have n0_ := Aside0.mk (Kd.R_below (by (with_reducible repeat (first | apply Kd.R_alloc | apply Kd.R_drewN | apply Kd.R_drew)); exact HO382.out) hb); have n1_ := Aside0.mk (Kd.R_below (by (with_reducible repeat (first | apply Kd.R_alloc | apply Kd.R_drewN | apply Kd.R_drew)); exact HO391.out) hb); have n2_ := Aside0.mk (Kd.R_below (by (with_reducible repeat (first | apply Kd.R_alloc | apply Kd.R_drewN | apply Kd.R_drew)); exact HO398.out) hb); have n3_ := Aside0.mk (Kd.R_below (by (with_reducible repeat (first | apply Kd.R_alloc | apply Kd.R_drewN | apply Kd.R_drew)); exact HO401.out) hb); have n4_ := Aside0.mk (below_step (by repeat (first | (with_reducible first | exact HB.out | apply below_alloc | apply pw_below_drewN | apply below_drew1) | exact HB.out)) hb); clear HO382; clear HO391; clear HO398; clear HO401; clear HB; have HO382 := n0_; have HO391 := n1_; have HO398 := n2_; have HO401 := n3_; have HB := n4_; clear n0_ n1_ n2_ n3_ n4_; (try clear hb); (try clear hb2); (try clear hk); (try clear hi)))
                      go_meet
                      case rel => exact ⟨_, (true), (by first | rfl | (simp; done) | (simp [*]; done)), H', ⟨by first | omega | exact Nat.le_refl _⟩, ⟨by (with_reducible repeat (first | apply Kd.R_alloc | apply Kd.R_drewN | apply Kd.R_drew)); exact Kd.R_mono HO391.out (fun _ hk => trivial)⟩, ⟨by repeat (first | (with_reducible first | exact HB.out | apply below_alloc | apply pw_below_drewN | apply below_drew1) | exact HB.out)⟩⟩
                    · rw [if_neg c53] at H
                      have c53b0 : (t411 != t412) = false := by simpa using c53
                      (try (have c53b1 : decide (t411 = t412) = true := by simpa using c53))
                      (try (have c53b2 : (t411 == t412) = true := by simpa using c53))
                      clear c53
                      replace H := Option.bind_eq_some_iff.mp H
                      obtain ⟨t413, A680, H⟩ := H
                      replace H : ((laws_sameTexts.f k t389 t413).bind fun t416 => (laws_FnPaths.j0 k t379 t383 t388 t389 (!t416))) = some r := H
                      have A68 := Aside0.mk A680
                      clear A680
                      replace H := Option.bind_eq_some_iff.mp H
                      obtain ⟨t416, A690, H⟩ := H
                      replace H : (laws_FnPaths.j0 k t379 t383 t388 t389 (!t416)) = some r := H
                      have A69 := Aside0.mk A690
                      clear A690
                      have H' := Aside0.mk H
                      clear H
                      go_wp2_with (first | ((with_reducible refine gate_callee (f := 26) rfl ?_); refine goesL_ (some 41) rfl rfl Tryd.func26 (by kernel_rfl) rfl #[.string t377] rfl (by (try simp only [List.map_toArray, List.map_cons, List.map_nil]); first | done | rfl | (simp only [List.length_drop, List.length_take]; rfl)) ?_; (with_reducible refine (impl_PartOk.calls t377 t392 _ A25.out).mono ?_); rintro e w70 ⟨rfl, hb⟩; refine ⟨_, rfl, ?_⟩; have n0_ := Aside0.mk (Kd.R_below (by (with_reducible repeat (first | apply Kd.R_alloc | apply Kd.R_drewN | apply Kd.R_drew)); exact HO382.out) hb); have n1_ := Aside0.mk (Kd.R_below (by (with_reducible repeat (first | apply Kd.R_alloc | apply Kd.R_drewN | apply Kd.R_drew)); exact HO391.out) hb); have n2_ := Aside0.mk (below_step (by repeat (first | (with_reducible first | exact HB.out | apply below_alloc | apply pw_below_drewN | apply below_drew1) | exact HB.out)) hb); clear HO382; clear HO391; clear HB; have HO382 := n0_; have HO391 := n1_; have HB := n2_; clear n0_ n1_ n2_; (try clear hb); (try clear hb2); (try clear hk); (try clear hi)) | ((with_reducible refine gate_callee (f := 27) rfl ?_); refine goesL_ (some 43) rfl rfl Tryd.func27 (by kernel_rfl) rfl #[.string t377] rfl (by (try simp only [List.map_toArray, List.map_cons, List.map_nil]); first | done | rfl | (simp only [List.length_drop, List.length_take]; rfl)) ?_; (with_reducible refine (spec_PartOk.calls k t377 t393 _ A26.out).mono ?_); rintro e w' ⟨rfl, ⟨nd, rfl⟩⟩; refine ⟨_, rfl, ?_⟩) | (go_at_call 14; (with_reducible refine (impl_PathOk.calls k t378 t394 _ A29.out).mono ?_); rintro e w71 ⟨rfl, hb⟩; have n0_ := Aside0.mk (Kd.R_below (by (with_reducible repeat (first | apply Kd.R_alloc | apply Kd.R_drewN | apply Kd.R_drew)); exact HO382.out) hb); have n1_ := Aside0.mk (Kd.R_below (by (with_reducible repeat (first | apply Kd.R_alloc | apply Kd.R_drewN | apply Kd.R_drew)); exact HO391.out) hb); have n2_ := Aside0.mk (below_step (by repeat (first | (with_reducible first | exact HB.out | apply below_alloc | apply pw_below_drewN | apply below_drew1) | exact HB.out)) hb); clear HO382; clear HO391; clear HB; have HO382 := n0_; have HO391 := n1_; have HB := n2_; clear n0_ n1_ n2_; (try clear hb); (try clear hb2); (try clear hk); (try clear hi)) | (go_at_call 15; (with_reducible refine (spec_PathOk.calls k t378 t395 _ A30.out).mono ?_); rintro e w72 ⟨rfl, hb⟩; have n0_ := Aside0.mk (Kd.R_below (by (with_reducible repeat (first | apply Kd.R_alloc | apply Kd.R_drewN | apply Kd.R_drew)); exact HO382.out) hb); have n1_ := Aside0.mk (Kd.R_below (by (with_reducible repeat (first | apply Kd.R_alloc | apply Kd.R_drewN | apply Kd.R_drew)); exact HO391.out) hb); have n2_ := Aside0.mk (below_step (by repeat (first | (with_reducible first | exact HB.out | apply below_alloc | apply pw_below_drewN | apply below_drew1) | exact HB.out)) hb); clear HO382; clear HO391; clear HB; have HO382 := n0_; have HO391 := n1_; have HB := n2_; clear n0_ n1_ n2_; (try clear hb); (try clear hb2); (try clear hk); (try clear hi)) | (go_at_call 29; (with_reducible refine (impl_Parts.calls k t379 t396 _ A35.out).mono ?_); rintro e w73 ⟨v397, rfl, ho0, hb⟩; have n0_ := Aside0.mk (Kd.R_elder' (by (with_reducible repeat (first | apply Kd.R_alloc | apply Kd.R_drewN | apply Kd.R_drew)); exact HO382.out) (Kd.R_base ho0) hb); have n1_ := Aside0.mk (Kd.R_elder' (by (with_reducible repeat (first | apply Kd.R_alloc | apply Kd.R_drewN | apply Kd.R_drew)); exact HO391.out) (Kd.R_base ho0) hb); have n2_ := Aside0.mk (Kd.R_lower (Kd.R_new' (Kd.R_new' ho0 (Kd.R_lt (by (with_reducible repeat (first | apply Kd.R_alloc | apply Kd.R_drewN | apply Kd.R_drew)); exact HO382.out))) (Kd.R_lt (by (with_reducible repeat (first | apply Kd.R_alloc | apply Kd.R_drewN | apply Kd.R_drew)); exact HO391.out))) (below_size (by repeat (first | (with_reducible first | exact HB.out | apply below_alloc | apply pw_below_drewN | apply below_drew1) | exact HB.out)))); have n3_ := Aside0.mk (below_step (by repeat (first | (with_reducible first | exact HB.out | apply below_alloc | apply pw_below_drewN | apply below_drew1) | exact HB.out)) hb); clear HO382; clear HO391; clear HB; have HO382 := n0_; have HO391 := n1_; have HO398 := n2_; have HB := n3_; clear n0_ n1_ n2_ n3_; (try clear hb); (try clear hb2); (try clear hk); (try clear hi); (try clear ho0)) | (go_at_call 30; (with_reducible refine (spec_Parts.calls k t379 t399 _ A36.out).mono ?_); rintro e w74 ⟨v400, rfl, ho0, hb⟩; have n0_ := Aside0.mk (Kd.R_elder' (by (with_reducible repeat (first | apply Kd.R_alloc | apply Kd.R_drewN | apply Kd.R_drew)); exact HO382.out) (Kd.R_base ho0) hb); have n1_ := Aside0.mk (Kd.R_elder' (by (with_reducible repeat (first | apply Kd.R_alloc | apply Kd.R_drewN | apply Kd.R_drew)); exact HO391.out) (Kd.R_base ho0) hb); have n2_ := Aside0.mk (Kd.R_elder' (by (with_reducible repeat (first | apply Kd.R_alloc | apply Kd.R_drewN | apply Kd.R_drew)); exact HO398.out) (Kd.R_base ho0) hb); have n3_ := Aside0.mk (Kd.R_lower (Kd.R_new' (Kd.R_new' (Kd.R_new' ho0 (Kd.R_lt (by (with_reducible repeat (first | apply Kd.R_alloc | apply Kd.R_drewN | apply Kd.R_drew)); exact HO382.out))) (Kd.R_lt (by (with_reducible repeat (first | apply Kd.R_alloc | apply Kd.R_drewN | apply Kd.R_drew)); exact HO391.out))) (Kd.R_lt (by (with_reducible repeat (first | apply Kd.R_alloc | apply Kd.R_drewN | apply Kd.R_drew)); exact HO398.out))) (below_size (by repeat (first | (with_reducible first | exact HB.out | apply below_alloc | apply pw_below_drewN | apply below_drew1) | exact HB.out)))); have n4_ := Aside0.mk (below_step (by repeat (first | (with_reducible first | exact HB.out | apply below_alloc | apply pw_below_drewN | apply below_drew1) | exact HB.out)) hb); clear HO382; clear HO391; clear HO398; clear HB; have HO382 := n0_; have HO391 := n1_; have HO398 := n2_; have HO401 := n3_; have HB := n4_; clear n0_ n1_ n2_ n3_ n4_; (try clear hb); (try clear hb2); (try clear hk); (try clear hi); (try clear ho0); obtain ⟨Ao75, co75, eo75⟩ := Kd.R_slice HO398.out; subst eo75; obtain ⟨Ao76, co76, eo76⟩ := Kd.R_slice HO401.out; subst eo76) | (go_at_call 28; (with_reducible refine (laws_sameTexts.calls k _ _ t396 _ _ t399 true _ ?side1 ?side2 ?side3 ?side4 A37.out).mono ?_); (case side1 => repeat (first | exact (Kd.R_reads' HO398.out).2.2 | (with_reducible refine Kd.C_alloc ?_ _) | (with_reducible refine Kd.C_drewN ?_ _) | (with_reducible refine Kd.C_drew ?_))); (case side2 => exact (Kd.R_reads' HO398.out).2.1); (case side3 => repeat (first | exact (Kd.R_reads' HO401.out).2.2 | (with_reducible refine Kd.C_alloc ?_ _) | (with_reducible refine Kd.C_drewN ?_ _) | (with_reducible refine Kd.C_drew ?_))); (case side4 => exact (Kd.R_reads' HO401.out).2.1); rintro e w' ⟨rfl, ⟨nd, rfl⟩⟩; obtain ⟨Ao77, co77, eo77⟩ := Kd.R_slice HO382.out; subst eo77) | (go_at_call 31; (with_reducible refine (impl_Join.calls _ _ t380 t403 _ ?side1 ?side2 A39.out).mono ?_); (case side1 => repeat (first | exact (Kd.R_reads' HO382.out).2.2 | (with_reducible refine Kd.C_alloc ?_ _) | (with_reducible refine Kd.C_drewN ?_ _) | (with_reducible refine Kd.C_drew ?_))); (case side2 => exact (Kd.R_reads' HO382.out).2.1); rintro e w78 ⟨rfl, hb⟩; have n0_ := Aside0.mk (Kd.R_below (by (with_reducible repeat (first | apply Kd.R_alloc | apply Kd.R_drewN | apply Kd.R_drew)); exact HO382.out) hb); have n1_ := Aside0.mk (Kd.R_below (by (with_reducible repeat (first | apply Kd.R_alloc | apply Kd.R_drewN | apply Kd.R_drew)); exact HO391.out) hb); have n2_ := Aside0.mk (Kd.R_below (by (with_reducible repeat (first | apply Kd.R_alloc | apply Kd.R_drewN | apply Kd.R_drew)); exact HO398.out) hb); have n3_ := Aside0.mk (Kd.R_below (by (with_reducible repeat (first | apply Kd.R_alloc | apply Kd.R_drewN | apply Kd.R_drew)); exact HO401.out) hb); have n4_ := Aside0.mk (below_step (by repeat (first | (with_reducible first | exact HB.out | apply below_alloc | apply pw_below_drewN | apply below_drew1) | exact HB.out)) hb); clear HO382; clear HO391; clear HO398; clear HO401; clear HB; have HO382 := n0_; have HO391 := n1_; have HO398 := n2_; have HO401 := n3_; have HB := n4_; clear n0_ n1_ n2_ n3_ n4_; (try clear hb); (try clear hb2); (try clear hk); (try clear hi)) | (go_at_call 32; (with_reducible refine (spec_Join.calls k _ _ t380 t404 _ ?side1 ?side2 A40.out).mono ?_); (case side1 => repeat (first | exact (Kd.R_reads' HO382.out).2.2 | (with_reducible refine Kd.C_alloc ?_ _) | (with_reducible refine Kd.C_drewN ?_ _) | (with_reducible refine Kd.C_drew ?_))); (case side2 => exact (Kd.R_reads' HO382.out).2.1); rintro e w' ⟨rfl, ⟨nd, rfl⟩⟩) | (go_at_call 33; (with_reducible refine (impl_Dir.calls k t383 t405 _ A42.out).mono ?_); rintro e w79 ⟨rfl, hb⟩; have n0_ := Aside0.mk (Kd.R_below (by (with_reducible repeat (first | apply Kd.R_alloc | apply Kd.R_drewN | apply Kd.R_drew)); exact HO382.out) hb); have n1_ := Aside0.mk (Kd.R_below (by (with_reducible repeat (first | apply Kd.R_alloc | apply Kd.R_drewN | apply Kd.R_drew)); exact HO391.out) hb); have n2_ := Aside0.mk (Kd.R_below (by (with_reducible repeat (first | apply Kd.R_alloc | apply Kd.R_drewN | apply Kd.R_drew)); exact HO398.out) hb); have n3_ := Aside0.mk (Kd.R_below (by (with_reducible repeat (first | apply Kd.R_alloc | apply Kd.R_drewN | apply Kd.R_drew)); exact HO401.out) hb); have n4_ := Aside0.mk (below_step (by repeat (first | (with_reducible first | exact HB.out | apply below_alloc | apply pw_below_drewN | apply below_drew1) | exact HB.out)) hb); clear HO382; clear HO391; clear HO398; clear HO401; clear HB; have HO382 := n0_; have HO391 := n1_; have HO398 := n2_; have HO401 := n3_; have HB := n4_; clear n0_ n1_ n2_ n3_ n4_; (try clear hb); (try clear hb2); (try clear hk); (try clear hi)) | (go_at_call 34; (with_reducible refine (spec_Dir.calls k t383 t406 _ A43.out).mono ?_); rintro e w' ⟨rfl, ⟨nd, rfl⟩⟩) | (go_at_call 35; (with_reducible refine (impl_Base.calls k t384 t407 _ A45.out).mono ?_); rintro e w' ⟨rfl, ⟨nd, rfl⟩⟩) | (go_at_call 36; (with_reducible refine (spec_Base.calls k t384 t408 _ A46.out).mono ?_); rintro e w' ⟨rfl, ⟨nd, rfl⟩⟩) | (go_at_call 37; (with_reducible refine (impl_Depth.calls k t385 t409 _ A48.out).mono ?_); rintro e w80 ⟨rfl, hb⟩; have n0_ := Aside0.mk (Kd.R_below (by (with_reducible repeat (first | apply Kd.R_alloc | apply Kd.R_drewN | apply Kd.R_drew)); exact HO382.out) hb); have n1_ := Aside0.mk (Kd.R_below (by (with_reducible repeat (first | apply Kd.R_alloc | apply Kd.R_drewN | apply Kd.R_drew)); exact HO391.out) hb); have n2_ := Aside0.mk (Kd.R_below (by (with_reducible repeat (first | apply Kd.R_alloc | apply Kd.R_drewN | apply Kd.R_drew)); exact HO398.out) hb); have n3_ := Aside0.mk (Kd.R_below (by (with_reducible repeat (first | apply Kd.R_alloc | apply Kd.R_drewN | apply Kd.R_drew)); exact HO401.out) hb); have n4_ := Aside0.mk (below_step (by repeat (first | (with_reducible first | exact HB.out | apply below_alloc | apply pw_below_drewN | apply below_drew1) | exact HB.out)) hb); clear HO382; clear HO391; clear HO398; clear HO401; clear HB; have HO382 := n0_; have HO391 := n1_; have HO398 := n2_; have HO401 := n3_; have HB := n4_; clear n0_ n1_ n2_ n3_ n4_; (try clear hb); (try clear hb2); (try clear hk); (try clear hi)) | (go_at_call 38; (with_reducible refine (spec_Depth.calls k t385 t410 _ A49.out).mono ?_); rintro e w81 ⟨rfl, hb⟩; have n0_ := Aside0.mk (Kd.R_below (by (with_reducible repeat (first | apply Kd.R_alloc | apply Kd.R_drewN | apply Kd.R_drew)); exact HO382.out) hb); have n1_ := Aside0.mk (Kd.R_below (by (with_reducible repeat (first | apply Kd.R_alloc | apply Kd.R_drewN | apply Kd.R_drew)); exact HO391.out) hb); have n2_ := Aside0.mk (Kd.R_below (by (with_reducible repeat (first | apply Kd.R_alloc | apply Kd.R_drewN | apply Kd.R_drew)); exact HO398.out) hb); have n3_ := Aside0.mk (Kd.R_below (by (with_reducible repeat (first | apply Kd.R_alloc | apply Kd.R_drewN | apply Kd.R_drew)); exact HO401.out) hb); have n4_ := Aside0.mk (below_step (by repeat (first | (with_reducible first | exact HB.out | apply below_alloc | apply pw_below_drewN | apply below_drew1) | exact HB.out)) hb); clear HO382; clear HO391; clear HO398; clear HO401; clear HB; have HO382 := n0_; have HO391 := n1_; have HO398 := n2_; have HO401 := n3_; have HB := n4_; clear n0_ n1_ n2_ n3_ n4_; (try clear hb); (try clear hb2); (try clear hk); (try clear hi)) | (go_at_call 39; (with_reducible refine (impl_Under.calls k t386 t387 t411 _ A51.out).mono ?_); rintro e w82 ⟨rfl, hb⟩; have n0_ := Aside0.mk (Kd.R_below (by (with_reducible repeat (first | apply Kd.R_alloc | apply Kd.R_drewN | apply Kd.R_drew)); exact HO382.out) hb); have n1_ := Aside0.mk (Kd.R_below (by (with_reducible repeat (first | apply Kd.R_alloc | apply Kd.R_drewN | apply Kd.R_drew)); exact HO391.out) hb); have n2_ := Aside0.mk (Kd.R_below (by (with_reducible repeat (first | apply Kd.R_alloc | apply Kd.R_drewN | apply Kd.R_drew)); exact HO398.out) hb); have n3_ := Aside0.mk (Kd.R_below (by (with_reducible repeat (first | apply Kd.R_alloc | apply Kd.R_drewN | apply Kd.R_drew)); exact HO401.out) hb); have n4_ := Aside0.mk (below_step (by repeat (first | (with_reducible first | exact HB.out | apply below_alloc | apply pw_below_drewN | apply below_drew1) | exact HB.out)) hb); clear HO382; clear HO391; clear HO398; clear HO401; clear HB; have HO382 := n0_; have HO391 := n1_; have HO398 := n2_; have HO401 := n3_; have HB := n4_; clear n0_ n1_ n2_ n3_ n4_; (try clear hb); (try clear hb2); (try clear hk); (try clear hi)) | (go_at_call 40; (with_reducible refine (spec_Under.calls k t386 t387 t412 _ A52.out).mono ?_); rintro e w83 ⟨rfl, hb⟩; have n0_ := Aside0.mk (Kd.R_below (by (with_reducible repeat (first | apply Kd.R_alloc | apply Kd.R_drewN | apply Kd.R_drew)); exact HO382.out) hb); have n1_ := Aside0.mk (Kd.R_below (by (with_reducible repeat (first | apply Kd.R_alloc | apply Kd.R_drewN | apply Kd.R_drew)); exact HO391.out) hb); have n2_ := Aside0.mk (Kd.R_below (by (with_reducible repeat (first | apply Kd.R_alloc | apply Kd.R_drewN | apply Kd.R_drew)); exact HO398.out) hb); have n3_ := Aside0.mk (Kd.R_below (by (with_reducible repeat (first | apply Kd.R_alloc | apply Kd.R_drewN | apply Kd.R_drew)); exact HO401.out) hb); have n4_ := Aside0.mk (below_step (by repeat (first | (with_reducible first | exact HB.out | apply below_alloc | apply pw_below_drewN | apply below_drew1) | exact HB.out)) hb); clear HO382; clear HO391; clear HO398; clear HO401; clear HB; have HO382 := n0_; have HO391 := n1_; have HO398 := n2_; have HO401 := n3_; have HB := n4_; clear n0_ n1_ n2_ n3_ n4_; (try clear hb); (try clear hb2); (try clear hk); (try clear hi)) | (go_at_call 41; (with_reducible refine (spec_Parents.calls k t388 t413 _ A68.out).mono ?_); rintro e w84 ⟨v414, rfl, ho0, hb⟩; have n0_ := Aside0.mk (Kd.R_elder' (by (with_reducible repeat (first | apply Kd.R_alloc | apply Kd.R_drewN | apply Kd.R_drew)); exact HO382.out) (Kd.R_base ho0) hb); have n1_ := Aside0.mk (Kd.R_elder' (by (with_reducible repeat (first | apply Kd.R_alloc | apply Kd.R_drewN | apply Kd.R_drew)); exact HO391.out) (Kd.R_base ho0) hb); have n2_ := Aside0.mk (Kd.R_elder' (by (with_reducible repeat (first | apply Kd.R_alloc | apply Kd.R_drewN | apply Kd.R_drew)); exact HO398.out) (Kd.R_base ho0) hb); have n3_ := Aside0.mk (Kd.R_elder' (by (with_reducible repeat (first | apply Kd.R_alloc | apply Kd.R_drewN | apply Kd.R_drew)); exact HO401.out) (Kd.R_base ho0) hb); have n4_ := Aside0.mk (Kd.R_lower (Kd.R_new' (Kd.R_new' (Kd.R_new' (Kd.R_new' ho0 (Kd.R_lt (by (with_reducible repeat (first | apply Kd.R_alloc | apply Kd.R_drewN | apply Kd.R_drew)); exact HO382.out))) (Kd.R_lt (by (with_reducible repeat (first | apply Kd.R_alloc | apply Kd.R_drewN | apply Kd.R_drew)); exact HO391.out))) (Kd.R_lt (by (with_reducible repeat (first | apply Kd.R_alloc | apply Kd.R_drewN | apply Kd.R_drew)); exact HO398.out))) (Kd.R_lt (by (with_reducible repeat (first | apply Kd.R_alloc | apply Kd.R_drewN | apply Kd.R_drew)); exact HO401.out))) (below_size (by repeat (first | (with_reducible first | exact HB.out | apply below_alloc | apply pw_below_drewN | apply below_drew1) | exact HB.out)))); have n5_ := Aside0.mk (below_step (by repeat (first | (with_reducible first | exact HB.out | apply below_alloc | apply pw_below_drewN | apply below_drew1) | exact HB.out)) hb); clear HO382; clear HO391; clear HO398; clear HO401; clear HB; have HO382 := n0_; have HO391 := n1_; have HO398 := n2_; have HO401 := n3_; have HO415 := n4_; have HB := n5_; clear n0_ n1_ n2_ n3_ n4_ n5_; (try clear hb); (try clear hb2); (try clear hk); (try clear hi); (try clear ho0); obtain ⟨Ao85, co85, eo85⟩ := Kd.R_slice HO391.out; subst eo85; obtain ⟨Ao86, co86, eo86⟩ := Kd.R_slice HO415.out; subst eo86) | (go_at_call 28; (with_reducible refine (laws_sameTexts.calls k _ _ t389 _ _ t413 t416 _ ?side1 ?side2 ?side3 ?side4 A69.out).mono ?_); (case side1 => repeat (first | exact (Kd.R_reads' HO391.out).2.2 | (with_reducible refine Kd.C_alloc ?_ _) | (with_reducible refine Kd.C_drewN ?_ _) | (with_reducible refine Kd.C_drew ?_))); (case side2 => exact (Kd.R_reads' HO391.out).2.1); (case side3 => repeat (first | exact (Kd.R_reads' HO415.out).2.2 | (with_reducible refine Kd.C_alloc ?_ _) | (with_reducible refine Kd.C_drewN ?_ _) | (with_reducible refine Kd.C_drew ?_))); (case side4 => exact (Kd.R_reads' HO415.out).2.1); rintro e w' ⟨rfl, ⟨nd, rfl⟩⟩))
                      go_meet
                      case rel => exact ⟨_, (!t416), (by first | rfl | (simp; done) | (simp [*]; done)), H', ⟨by first | omega | exact Nat.le_refl _⟩, ⟨by (with_reducible repeat (first | apply Kd.R_alloc | apply Kd.R_drewN | apply Kd.R_drew)); exact Kd.R_mono HO391.out (fun _ hk => trivial)⟩, ⟨by repeat (first | (with_reducible first | exact HB.out | apply below_alloc | apply pw_below_drewN | apply below_drew1) | exact HB.out)⟩⟩
                  · rw [if_neg c50] at H
                    have c50b0 : (t409 == t410) = false := beq_eq_false_iff_ne.mpr c50
                    have c50b1 : (t409 != t410) = true := bne_iff_ne.mpr c50
                    have H' := Aside0.mk H
                    clear H
                    go_wp2_with (first | ((with_reducible refine gate_callee (f := 26) rfl ?_); refine goesL_ (some 41) rfl rfl Tryd.func26 (by kernel_rfl) rfl #[.string t377] rfl (by (try simp only [List.map_toArray, List.map_cons, List.map_nil]); first | done | rfl | (simp only [List.length_drop, List.length_take]; rfl)) ?_; (with_reducible refine (impl_PartOk.calls t377 t392 _ A25.out).mono ?_); rintro e w87 ⟨rfl, hb⟩; refine ⟨_, rfl, ?_⟩; have n0_ := Aside0.mk (Kd.R_below (by (with_reducible repeat (first | apply Kd.R_alloc | apply Kd.R_drewN | apply Kd.R_drew)); exact HO382.out) hb); have n1_ := Aside0.mk (Kd.R_below (by (with_reducible repeat (first | apply Kd.R_alloc | apply Kd.R_drewN | apply Kd.R_drew)); exact HO391.out) hb); have n2_ := Aside0.mk (below_step (by repeat (first | (with_reducible first | exact HB.out | apply below_alloc | apply pw_below_drewN | apply below_drew1) | exact HB.out)) hb); clear HO382; clear HO391; clear HB; have HO382 := n0_; have HO391 := n1_; have HB := n2_; clear n0_ n1_ n2_; (try clear hb); (try clear hb2); (try clear hk); (try clear hi)) | ((with_reducible refine gate_callee (f := 27) rfl ?_); refine goesL_ (some 43) rfl rfl Tryd.func27 (by kernel_rfl) rfl #[.string t377] rfl (by (try simp only [List.map_toArray, List.map_cons, List.map_nil]); first | done | rfl | (simp only [List.length_drop, List.length_take]; rfl)) ?_; (with_reducible refine (spec_PartOk.calls k t377 t393 _ A26.out).mono ?_); rintro e w' ⟨rfl, ⟨nd, rfl⟩⟩; refine ⟨_, rfl, ?_⟩) | (go_at_call 14; (with_reducible refine (impl_PathOk.calls k t378 t394 _ A29.out).mono ?_); rintro e w88 ⟨rfl, hb⟩; have n0_ := Aside0.mk (Kd.R_below (by (with_reducible repeat (first | apply Kd.R_alloc | apply Kd.R_drewN | apply Kd.R_drew)); exact HO382.out) hb); have n1_ := Aside0.mk (Kd.R_below (by (with_reducible repeat (first | apply Kd.R_alloc | apply Kd.R_drewN | apply Kd.R_drew)); exact HO391.out) hb); have n2_ := Aside0.mk (below_step (by repeat (first | (with_reducible first | exact HB.out | apply below_alloc | apply pw_below_drewN | apply below_drew1) | exact HB.out)) hb); clear HO382; clear HO391; clear HB; have HO382 := n0_; have HO391 := n1_; have HB := n2_; clear n0_ n1_ n2_; (try clear hb); (try clear hb2); (try clear hk); (try clear hi)) | (go_at_call 15; (with_reducible refine (spec_PathOk.calls k t378 t395 _ A30.out).mono ?_); rintro e w89 ⟨rfl, hb⟩; have n0_ := Aside0.mk (Kd.R_below (by (with_reducible repeat (first | apply Kd.R_alloc | apply Kd.R_drewN | apply Kd.R_drew)); exact HO382.out) hb); have n1_ := Aside0.mk (Kd.R_below (by (with_reducible repeat (first | apply Kd.R_alloc | apply Kd.R_drewN | apply Kd.R_drew)); exact HO391.out) hb); have n2_ := Aside0.mk (below_step (by repeat (first | (with_reducible first | exact HB.out | apply below_alloc | apply pw_below_drewN | apply below_drew1) | exact HB.out)) hb); clear HO382; clear HO391; clear HB; have HO382 := n0_; have HO391 := n1_; have HB := n2_; clear n0_ n1_ n2_; (try clear hb); (try clear hb2); (try clear hk); (try clear hi)) | (go_at_call 29; (with_reducible refine (impl_Parts.calls k t379 t396 _ A35.out).mono ?_); rintro e w90 ⟨v397, rfl, ho0, hb⟩; have n0_ := Aside0.mk (Kd.R_elder' (by (with_reducible repeat (first | apply Kd.R_alloc | apply Kd.R_drewN | apply Kd.R_drew)); exact HO382.out) (Kd.R_base ho0) hb); have n1_ := Aside0.mk (Kd.R_elder' (by (with_reducible repeat (first | apply Kd.R_alloc | apply Kd.R_drewN | apply Kd.R_drew)); exact HO391.out) (Kd.R_base ho0) hb); have n2_ := Aside0.mk (Kd.R_lower (Kd.R_new' (Kd.R_new' ho0 (Kd.R_lt (by (with_reducible repeat (first | apply Kd.R_alloc | apply Kd.R_drewN | apply Kd.R_drew)); exact HO382.out))) (Kd.R_lt (by (with_reducible repeat (first | apply Kd.R_alloc | apply Kd.R_drewN | apply Kd.R_drew)); exact HO391.out))) (below_size (by repeat (first | (with_reducible first | exact HB.out | apply below_alloc | apply pw_below_drewN | apply below_drew1) | exact HB.out)))); have n3_ := Aside0.mk (below_step (by repeat (first | (with_reducible first | exact HB.out | apply below_alloc | apply pw_below_drewN | apply below_drew1) | exact HB.out)) hb); clear HO382; clear HO391; clear HB; have HO382 := n0_; have HO391 := n1_; have HO398 := n2_; have HB := n3_; clear n0_ n1_ n2_ n3_; (try clear hb); (try clear hb2); (try clear hk); (try clear hi); (try clear ho0)) | (go_at_call 30; (with_reducible refine (spec_Parts.calls k t379 t399 _ A36.out).mono ?_); rintro e w91 ⟨v400, rfl, ho0, hb⟩; have n0_ := Aside0.mk (Kd.R_elder' (by (with_reducible repeat (first | apply Kd.R_alloc | apply Kd.R_drewN | apply Kd.R_drew)); exact HO382.out) (Kd.R_base ho0) hb); have n1_ := Aside0.mk (Kd.R_elder' (by (with_reducible repeat (first | apply Kd.R_alloc | apply Kd.R_drewN | apply Kd.R_drew)); exact HO391.out) (Kd.R_base ho0) hb); have n2_ := Aside0.mk (Kd.R_elder' (by (with_reducible repeat (first | apply Kd.R_alloc | apply Kd.R_drewN | apply Kd.R_drew)); exact HO398.out) (Kd.R_base ho0) hb); have n3_ := Aside0.mk (Kd.R_lower (Kd.R_new' (Kd.R_new' (Kd.R_new' ho0 (Kd.R_lt (by (with_reducible repeat (first | apply Kd.R_alloc | apply Kd.R_drewN | apply Kd.R_drew)); exact HO382.out))) (Kd.R_lt (by (with_reducible repeat (first | apply Kd.R_alloc | apply Kd.R_drewN | apply Kd.R_drew)); exact HO391.out))) (Kd.R_lt (by (with_reducible repeat (first | apply Kd.R_alloc | apply Kd.R_drewN | apply Kd.R_drew)); exact HO398.out))) (below_size (by repeat (first | (with_reducible first | exact HB.out | apply below_alloc | apply pw_below_drewN | apply below_drew1) | exact HB.out)))); have n4_ := Aside0.mk (below_step (by repeat (first | (with_reducible first | exact HB.out | apply below_alloc | apply pw_below_drewN | apply below_drew1) | exact HB.out)) hb); clear HO382; clear HO391; clear HO398; clear HB; have HO382 := n0_; have HO391 := n1_; have HO398 := n2_; have HO401 := n3_; have HB := n4_; clear n0_ n1_ n2_ n3_ n4_; (try clear hb); (try clear hb2); (try clear hk); (try clear hi); (try clear ho0); obtain ⟨Ao92, co92, eo92⟩ := Kd.R_slice HO398.out; subst eo92; obtain ⟨Ao93, co93, eo93⟩ := Kd.R_slice HO401.out; subst eo93) | (go_at_call 28; (with_reducible refine (laws_sameTexts.calls k _ _ t396 _ _ t399 true _ ?side1 ?side2 ?side3 ?side4 A37.out).mono ?_); (case side1 => repeat (first | exact (Kd.R_reads' HO398.out).2.2 | (with_reducible refine Kd.C_alloc ?_ _) | (with_reducible refine Kd.C_drewN ?_ _) | (with_reducible refine Kd.C_drew ?_))); (case side2 => exact (Kd.R_reads' HO398.out).2.1); (case side3 => repeat (first | exact (Kd.R_reads' HO401.out).2.2 | (with_reducible refine Kd.C_alloc ?_ _) | (with_reducible refine Kd.C_drewN ?_ _) | (with_reducible refine Kd.C_drew ?_))); (case side4 => exact (Kd.R_reads' HO401.out).2.1); rintro e w' ⟨rfl, ⟨nd, rfl⟩⟩; obtain ⟨Ao94, co94, eo94⟩ := Kd.R_slice HO382.out; subst eo94) | (go_at_call 31; (with_reducible refine (impl_Join.calls _ _ t380 t403 _ ?side1 ?side2 A39.out).mono ?_); (case side1 => repeat (first | exact (Kd.R_reads' HO382.out).2.2 | (with_reducible refine Kd.C_alloc ?_ _) | (with_reducible refine Kd.C_drewN ?_ _) | (with_reducible refine Kd.C_drew ?_))); (case side2 => exact (Kd.R_reads' HO382.out).2.1); rintro e w95 ⟨rfl, hb⟩; have n0_ := Aside0.mk (Kd.R_below (by (with_reducible repeat (first | apply Kd.R_alloc | apply Kd.R_drewN | apply Kd.R_drew)); exact HO382.out) hb); have n1_ := Aside0.mk (Kd.R_below (by (with_reducible repeat (first | apply Kd.R_alloc | apply Kd.R_drewN | apply Kd.R_drew)); exact HO391.out) hb); have n2_ := Aside0.mk (Kd.R_below (by (with_reducible repeat (first | apply Kd.R_alloc | apply Kd.R_drewN | apply Kd.R_drew)); exact HO398.out) hb); have n3_ := Aside0.mk (Kd.R_below (by (with_reducible repeat (first | apply Kd.R_alloc | apply Kd.R_drewN | apply Kd.R_drew)); exact HO401.out) hb); have n4_ := Aside0.mk (below_step (by repeat (first | (with_reducible first | exact HB.out | apply below_alloc | apply pw_below_drewN | apply below_drew1) | exact HB.out)) hb); clear HO382; clear HO391; clear HO398; clear HO401; clear HB; have HO382 := n0_; have HO391 := n1_; have HO398 := n2_; have HO401 := n3_; have HB := n4_; clear n0_ n1_ n2_ n3_ n4_; (try clear hb); (try clear hb2); (try clear hk); (try clear hi)) | (go_at_call 32; (with_reducible refine (spec_Join.calls k _ _ t380 t404 _ ?side1 ?side2 A40.out).mono ?_); (case side1 => repeat (first | exact (Kd.R_reads' HO382.out).2.2 | (with_reducible refine Kd.C_alloc ?_ _) | (with_reducible refine Kd.C_drewN ?_ _) | (with_reducible refine Kd.C_drew ?_))); (case side2 => exact (Kd.R_reads' HO382.out).2.1); rintro e w' ⟨rfl, ⟨nd, rfl⟩⟩) | (go_at_call 33; (with_reducible refine (impl_Dir.calls k t383 t405 _ A42.out).mono ?_); rintro e w96 ⟨rfl, hb⟩; have n0_ := Aside0.mk (Kd.R_below (by (with_reducible repeat (first | apply Kd.R_alloc | apply Kd.R_drewN | apply Kd.R_drew)); exact HO382.out) hb); have n1_ := Aside0.mk (Kd.R_below (by (with_reducible repeat (first | apply Kd.R_alloc | apply Kd.R_drewN | apply Kd.R_drew)); exact HO391.out) hb); have n2_ := Aside0.mk (Kd.R_below (by (with_reducible repeat (first | apply Kd.R_alloc | apply Kd.R_drewN | apply Kd.R_drew)); exact HO398.out) hb); have n3_ := Aside0.mk (Kd.R_below (by (with_reducible repeat (first | apply Kd.R_alloc | apply Kd.R_drewN | apply Kd.R_drew)); exact HO401.out) hb); have n4_ := Aside0.mk (below_step (by repeat (first | (with_reducible first | exact HB.out | apply below_alloc | apply pw_below_drewN | apply below_drew1) | exact HB.out)) hb); clear HO382; clear HO391; clear HO398; clear HO401; clear HB; have HO382 := n0_; have HO391 := n1_; have HO398 := n2_; have HO401 := n3_; have HB := n4_; clear n0_ n1_ n2_ n3_ n4_; (try clear hb); (try clear hb2); (try clear hk); (try clear hi)) | (go_at_call 34; (with_reducible refine (spec_Dir.calls k t383 t406 _ A43.out).mono ?_); rintro e w' ⟨rfl, ⟨nd, rfl⟩⟩) | (go_at_call 35; (with_reducible refine (impl_Base.calls k t384 t407 _ A45.out).mono ?_); rintro e w' ⟨rfl, ⟨nd, rfl⟩⟩) | (go_at_call 36; (with_reducible refine (spec_Base.calls k t384 t408 _ A46.out).mono ?_); rintro e w' ⟨rfl, ⟨nd, rfl⟩⟩) | (go_at_call 37; (with_reducible refine (impl_Depth.calls k t385 t409 _ A48.out).mono ?_); rintro e w97 ⟨rfl, hb⟩; have n0_ := Aside0.mk (Kd.R_below (by (with_reducible repeat (first | apply Kd.R_alloc | apply Kd.R_drewN | apply Kd.R_drew)); exact HO382.out) hb); have n1_ := Aside0.mk (Kd.R_below (by (with_reducible repeat (first | apply Kd.R_alloc | apply Kd.R_drewN | apply Kd.R_drew)); exact HO391.out) hb); have n2_ := Aside0.mk (Kd.R_below (by (with_reducible repeat (first | apply Kd.R_alloc | apply Kd.R_drewN | apply Kd.R_drew)); exact HO398.out) hb); have n3_ := Aside0.mk (Kd.R_below (by (with_reducible repeat (first | apply Kd.R_alloc | apply Kd.R_drewN | apply Kd.R_drew)); exact HO401.out) hb); have n4_ := Aside0.mk (below_step (by repeat (first | (with_reducible first | exact HB.out | apply below_alloc | apply pw_below_drewN | apply below_drew1) | exact HB.out)) hb); clear HO382; clear HO391; clear HO398; clear HO401; clear HB; have HO382 := n0_; have HO391 := n1_; have HO398 := n2_; have HO401 := n3_; have HB := n4_; clear n0_ n1_ n2_ n3_ n4_; (try clear hb); (try clear hb2); (try clear hk); (try clear hi)) | (go_at_call 38; (with_reducible refine (spec_Depth.calls k t385 t410 _ A49.out).mono ?_); rintro e w98 ⟨rfl, hb⟩; have n0_ := Aside0.mk (Kd.R_below (by (with_reducible repeat (first | apply Kd.R_alloc | apply Kd.R_drewN | apply Kd.R_drew)); exact HO382.out) hb); have n1_ := Aside0.mk (Kd.R_below (by (with_reducible repeat (first | apply Kd.R_alloc | apply Kd.R_drewN | apply Kd.R_drew)); exact HO391.out) hb); have n2_ := Aside0.mk (Kd.R_below (by (with_reducible repeat (first | apply Kd.R_alloc | apply Kd.R_drewN | apply Kd.R_drew)); exact HO398.out) hb); have n3_ := Aside0.mk (Kd.R_below (by (with_reducible repeat (first | apply Kd.R_alloc | apply Kd.R_drewN | apply Kd.R_drew)); exact HO401.out) hb); have n4_ := Aside0.mk (below_step (by repeat (first | (with_reducible first | exact HB.out | apply below_alloc | apply pw_below_drewN | apply below_drew1) | exact HB.out)) hb); clear HO382; clear HO391; clear HO398; clear HO401; clear HB; have HO382 := n0_; have HO391 := n1_; have HO398 := n2_; have HO401 := n3_; have HB := n4_; clear n0_ n1_ n2_ n3_ n4_; (try clear hb); (try clear hb2); (try clear hk); (try clear hi)))
                    go_meet
                    case rel => exact ⟨_, (true), (by first | rfl | (simp; done) | (simp [*]; done)), H', ⟨by first | omega | exact Nat.le_refl _⟩, ⟨by (with_reducible repeat (first | apply Kd.R_alloc | apply Kd.R_drewN | apply Kd.R_drew)); exact Kd.R_mono HO391.out (fun _ hk => trivial)⟩, ⟨by repeat (first | (with_reducible first | exact HB.out | apply below_alloc | apply pw_below_drewN | apply below_drew1) | exact HB.out)⟩⟩
                · rw [if_neg c47] at H
                  have c47b0 : (t407.toList == t408.toList) = false := beq_eq_false_iff_ne.mpr c47
                  have c47b1 : (t407.toList != t408.toList) = true := bne_iff_ne.mpr c47
                  have H' := Aside0.mk H
                  clear H
                  go_wp2_with (first | ((with_reducible refine gate_callee (f := 26) rfl ?_); refine goesL_ (some 41) rfl rfl Tryd.func26 (by kernel_rfl) rfl #[.string t377] rfl (by (try simp only [List.map_toArray, List.map_cons, List.map_nil]); first | done | rfl | (simp only [List.length_drop, List.length_take]; rfl)) ?_; (with_reducible refine (impl_PartOk.calls t377 t392 _ A25.out).mono ?_); rintro e w99 ⟨rfl, hb⟩; refine ⟨_, rfl, ?_⟩; have n0_ := Aside0.mk (Kd.R_below (by (with_reducible repeat (first | apply Kd.R_alloc | apply Kd.R_drewN | apply Kd.R_drew)); exact HO382.out) hb); have n1_ := Aside0.mk (Kd.R_below (by (with_reducible repeat (first | apply Kd.R_alloc | apply Kd.R_drewN | apply Kd.R_drew)); exact HO391.out) hb); have n2_ := Aside0.mk (below_step (by repeat (first | (with_reducible first | exact HB.out | apply below_alloc | apply pw_below_drewN | apply below_drew1) | exact HB.out)) hb); clear HO382; clear HO391; clear HB; have HO382 := n0_; have HO391 := n1_; have HB := n2_; clear n0_ n1_ n2_; (try clear hb); (try clear hb2); (try clear hk); (try clear hi)) | ((with_reducible refine gate_callee (f := 27) rfl ?_); refine goesL_ (some 43) rfl rfl Tryd.func27 (by kernel_rfl) rfl #[.string t377] rfl (by (try simp only [List.map_toArray, List.map_cons, List.map_nil]); first | done | rfl | (simp only [List.length_drop, List.length_take]; rfl)) ?_; (with_reducible refine (spec_PartOk.calls k t377 t393 _ A26.out).mono ?_); rintro e w' ⟨rfl, ⟨nd, rfl⟩⟩; refine ⟨_, rfl, ?_⟩) | (go_at_call 14; (with_reducible refine (impl_PathOk.calls k t378 t394 _ A29.out).mono ?_); rintro e w100 ⟨rfl, hb⟩; have n0_ := Aside0.mk (Kd.R_below (by (with_reducible repeat (first | apply Kd.R_alloc | apply Kd.R_drewN | apply Kd.R_drew)); exact HO382.out) hb); have n1_ := Aside0.mk (Kd.R_below (by (with_reducible repeat (first | apply Kd.R_alloc | apply Kd.R_drewN | apply Kd.R_drew)); exact HO391.out) hb); have n2_ := Aside0.mk (below_step (by repeat (first | (with_reducible first | exact HB.out | apply below_alloc | apply pw_below_drewN | apply below_drew1) | exact HB.out)) hb); clear HO382; clear HO391; clear HB; have HO382 := n0_; have HO391 := n1_; have HB := n2_; clear n0_ n1_ n2_; (try clear hb); (try clear hb2); (try clear hk); (try clear hi)) | (go_at_call 15; (with_reducible refine (spec_PathOk.calls k t378 t395 _ A30.out).mono ?_); rintro e w101 ⟨rfl, hb⟩; have n0_ := Aside0.mk (Kd.R_below (by (with_reducible repeat (first | apply Kd.R_alloc | apply Kd.R_drewN | apply Kd.R_drew)); exact HO382.out) hb); have n1_ := Aside0.mk (Kd.R_below (by (with_reducible repeat (first | apply Kd.R_alloc | apply Kd.R_drewN | apply Kd.R_drew)); exact HO391.out) hb); have n2_ := Aside0.mk (below_step (by repeat (first | (with_reducible first | exact HB.out | apply below_alloc | apply pw_below_drewN | apply below_drew1) | exact HB.out)) hb); clear HO382; clear HO391; clear HB; have HO382 := n0_; have HO391 := n1_; have HB := n2_; clear n0_ n1_ n2_; (try clear hb); (try clear hb2); (try clear hk); (try clear hi)) | (go_at_call 29; (with_reducible refine (impl_Parts.calls k t379 t396 _ A35.out).mono ?_); rintro e w102 ⟨v397, rfl, ho0, hb⟩; have n0_ := Aside0.mk (Kd.R_elder' (by (with_reducible repeat (first | apply Kd.R_alloc | apply Kd.R_drewN | apply Kd.R_drew)); exact HO382.out) (Kd.R_base ho0) hb); have n1_ := Aside0.mk (Kd.R_elder' (by (with_reducible repeat (first | apply Kd.R_alloc | apply Kd.R_drewN | apply Kd.R_drew)); exact HO391.out) (Kd.R_base ho0) hb); have n2_ := Aside0.mk (Kd.R_lower (Kd.R_new' (Kd.R_new' ho0 (Kd.R_lt (by (with_reducible repeat (first | apply Kd.R_alloc | apply Kd.R_drewN | apply Kd.R_drew)); exact HO382.out))) (Kd.R_lt (by (with_reducible repeat (first | apply Kd.R_alloc | apply Kd.R_drewN | apply Kd.R_drew)); exact HO391.out))) (below_size (by repeat (first | (with_reducible first | exact HB.out | apply below_alloc | apply pw_below_drewN | apply below_drew1) | exact HB.out)))); have n3_ := Aside0.mk (below_step (by repeat (first | (with_reducible first | exact HB.out | apply below_alloc | apply pw_below_drewN | apply below_drew1) | exact HB.out)) hb); clear HO382; clear HO391; clear HB; have HO382 := n0_; have HO391 := n1_; have HO398 := n2_; have HB := n3_; clear n0_ n1_ n2_ n3_; (try clear hb); (try clear hb2); (try clear hk); (try clear hi); (try clear ho0)) | (go_at_call 30; (with_reducible refine (spec_Parts.calls k t379 t399 _ A36.out).mono ?_); rintro e w103 ⟨v400, rfl, ho0, hb⟩; have n0_ := Aside0.mk (Kd.R_elder' (by (with_reducible repeat (first | apply Kd.R_alloc | apply Kd.R_drewN | apply Kd.R_drew)); exact HO382.out) (Kd.R_base ho0) hb); have n1_ := Aside0.mk (Kd.R_elder' (by (with_reducible repeat (first | apply Kd.R_alloc | apply Kd.R_drewN | apply Kd.R_drew)); exact HO391.out) (Kd.R_base ho0) hb); have n2_ := Aside0.mk (Kd.R_elder' (by (with_reducible repeat (first | apply Kd.R_alloc | apply Kd.R_drewN | apply Kd.R_drew)); exact HO398.out) (Kd.R_base ho0) hb); have n3_ := Aside0.mk (Kd.R_lower (Kd.R_new' (Kd.R_new' (Kd.R_new' ho0 (Kd.R_lt (by (with_reducible repeat (first | apply Kd.R_alloc | apply Kd.R_drewN | apply Kd.R_drew)); exact HO382.out))) (Kd.R_lt (by (with_reducible repeat (first | apply Kd.R_alloc | apply Kd.R_drewN | apply Kd.R_drew)); exact HO391.out))) (Kd.R_lt (by (with_reducible repeat (first | apply Kd.R_alloc | apply Kd.R_drewN | apply Kd.R_drew)); exact HO398.out))) (below_size (by repeat (first | (with_reducible first | exact HB.out | apply below_alloc | apply pw_below_drewN | apply below_drew1) | exact HB.out)))); have n4_ := Aside0.mk (below_step (by repeat (first | (with_reducible first | exact HB.out | apply below_alloc | apply pw_below_drewN | apply below_drew1) | exact HB.out)) hb); clear HO382; clear HO391; clear HO398; clear HB; have HO382 := n0_; have HO391 := n1_; have HO398 := n2_; have HO401 := n3_; have HB := n4_; clear n0_ n1_ n2_ n3_ n4_; (try clear hb); (try clear hb2); (try clear hk); (try clear hi); (try clear ho0); obtain ⟨Ao104, co104, eo104⟩ := Kd.R_slice HO398.out; subst eo104; obtain ⟨Ao105, co105, eo105⟩ := Kd.R_slice HO401.out; subst eo105) | (go_at_call 28; (with_reducible refine (laws_sameTexts.calls k _ _ t396 _ _ t399 true _ ?side1 ?side2 ?side3 ?side4 A37.out).mono ?_); (case side1 => repeat (first | exact (Kd.R_reads' HO398.out).2.2 | (with_reducible refine Kd.C_alloc ?_ _) | (with_reducible refine Kd.C_drewN ?_ _) | (with_reducible refine Kd.C_drew ?_))); (case side2 => exact (Kd.R_reads' HO398.out).2.1); (case side3 => repeat (first | exact (Kd.R_reads' HO401.out).2.2 | (with_reducible refine Kd.C_alloc ?_ _) | (with_reducible refine Kd.C_drewN ?_ _) | (with_reducible refine Kd.C_drew ?_))); (case side4 => exact (Kd.R_reads' HO401.out).2.1); rintro e w' ⟨rfl, ⟨nd, rfl⟩⟩; obtain ⟨Ao106, co106, eo106⟩ := Kd.R_slice HO382.out; subst eo106) | (go_at_call 31; (with_reducible refine (impl_Join.calls _ _ t380 t403 _ ?side1 ?side2 A39.out).mono ?_); (case side1 => repeat (first | exact (Kd.R_reads' HO382.out).2.2 | (with_reducible refine Kd.C_alloc ?_ _) | (with_reducible refine Kd.C_drewN ?_ _) | (with_reducible refine Kd.C_drew ?_))); (case side2 => exact (Kd.R_reads' HO382.out).2.1); rintro e w107 ⟨rfl, hb⟩; have n0_ := Aside0.mk (Kd.R_below (by (with_reducible repeat (first | apply Kd.R_alloc | apply Kd.R_drewN | apply Kd.R_drew)); exact HO382.out) hb); have n1_ := Aside0.mk (Kd.R_below (by (with_reducible repeat (first | apply Kd.R_alloc | apply Kd.R_drewN | apply Kd.R_drew)); exact HO391.out) hb); have n2_ := Aside0.mk (Kd.R_below (by (with_reducible repeat (first | apply Kd.R_alloc | apply Kd.R_drewN | apply Kd.R_drew)); exact HO398.out) hb); have n3_ := Aside0.mk (Kd.R_below (by (with_reducible repeat (first | apply Kd.R_alloc | apply Kd.R_drewN | apply Kd.R_drew)); exact HO401.out) hb); have n4_ := Aside0.mk (below_step (by repeat (first | (with_reducible first | exact HB.out | apply below_alloc | apply pw_below_drewN | apply below_drew1) | exact HB.out)) hb); clear HO382; clear HO391; clear HO398; clear HO401; clear HB; have HO382 := n0_; have HO391 := n1_; have HO398 := n2_; have HO401 := n3_; have HB := n4_; clear n0_ n1_ n2_ n3_ n4_; (try clear hb); (try clear hb2); (try clear hk); (try clear hi)) | (go_at_call 32; (with_reducible refine (spec_Join.calls k _ _ t380 t404 _ ?side1 ?side2 A40.out).mono ?_); (case side1 => repeat (first | exact (Kd.R_reads' HO382.out).2.2 | (with_reducible refine Kd.C_alloc ?_ _) | (with_reducible refine Kd.C_drewN ?_ _) | (with_reducible refine Kd.C_drew ?_))); (case side2 => exact (Kd.R_reads' HO382.out).2.1); rintro e w' ⟨rfl, ⟨nd, rfl⟩⟩) | (go_at_call 33; (with_reducible refine (impl_Dir.calls k t383 t405 _ A42.out).mono ?_); rintro e w108 ⟨rfl, hb⟩; have n0_ := Aside0.mk (Kd.R_below (by (with_reducible repeat (first | apply Kd.R_alloc | apply Kd.R_drewN | apply Kd.R_drew)); exact HO382.out) hb); have n1_ := Aside0.mk (Kd.R_below (by (with_reducible repeat (first | apply Kd.R_alloc | apply Kd.R_drewN | apply Kd.R_drew)); exact HO391.out) hb); have n2_ := Aside0.mk (Kd.R_below (by (with_reducible repeat (first | apply Kd.R_alloc | apply Kd.R_drewN | apply Kd.R_drew)); exact HO398.out) hb); have n3_ := Aside0.mk (Kd.R_below (by (with_reducible repeat (first | apply Kd.R_alloc | apply Kd.R_drewN | apply Kd.R_drew)); exact HO401.out) hb); have n4_ := Aside0.mk (below_step (by repeat (first | (with_reducible first | exact HB.out | apply below_alloc | apply pw_below_drewN | apply below_drew1) | exact HB.out)) hb); clear HO382; clear HO391; clear HO398; clear HO401; clear HB; have HO382 := n0_; have HO391 := n1_; have HO398 := n2_; have HO401 := n3_; have HB := n4_; clear n0_ n1_ n2_ n3_ n4_; (try clear hb); (try clear hb2); (try clear hk); (try clear hi)) | (go_at_call 34; (with_reducible refine (spec_Dir.calls k t383 t406 _ A43.out).mono ?_); rintro e w' ⟨rfl, ⟨nd, rfl⟩⟩) | (go_at_call 35; (with_reducible refine (impl_Base.calls k t384 t407 _ A45.out).mono ?_); rintro e w' ⟨rfl, ⟨nd, rfl⟩⟩) | (go_at_call 36; (with_reducible refine (spec_Base.calls k t384 t408 _ A46.out).mono ?_); rintro e w' ⟨rfl, ⟨nd, rfl⟩⟩))
                  go_meet
                  case rel => exact ⟨_, (true), (by first | rfl | (simp; done) | (simp [*]; done)), H', ⟨by first | omega | exact Nat.le_refl _⟩, ⟨by (with_reducible repeat (first | apply Kd.R_alloc | apply Kd.R_drewN | apply Kd.R_drew)); exact Kd.R_mono HO391.out (fun _ hk => trivial)⟩, ⟨by repeat (first | (with_reducible first | exact HB.out | apply below_alloc | apply pw_below_drewN | apply below_drew1) | exact HB.out)⟩⟩
              · rw [if_neg c44] at H
                have c44b0 : (t405.toList == t406.toList) = false := beq_eq_false_iff_ne.mpr c44
                have c44b1 : (t405.toList != t406.toList) = true := bne_iff_ne.mpr c44
                have H' := Aside0.mk H
                clear H
                go_wp2_with (first | ((with_reducible refine gate_callee (f := 26) rfl ?_); refine goesL_ (some 41) rfl rfl Tryd.func26 (by kernel_rfl) rfl #[.string t377] rfl (by (try simp only [List.map_toArray, List.map_cons, List.map_nil]); first | done | rfl | (simp only [List.length_drop, List.length_take]; rfl)) ?_; (with_reducible refine (impl_PartOk.calls t377 t392 _ A25.out).mono ?_); rintro e w109 ⟨rfl, hb⟩; refine ⟨_, rfl, ?_⟩; have n0_ := Aside0.mk (Kd.R_below (by (with_reducible repeat (first | apply Kd.R_alloc | apply Kd.R_drewN | apply Kd.R_drew)); exact HO382.out) hb); have n1_ := Aside0.mk (Kd.R_below (by (with_reducible repeat (first | apply Kd.R_alloc | apply Kd.R_drewN | apply Kd.R_drew)); exact HO391.out) hb); have n2_ := Aside0.mk (below_step (by repeat (first | (with_reducible first | exact HB.out | apply below_alloc | apply pw_below_drewN | apply below_drew1) | exact HB.out)) hb); clear HO382; clear HO391; clear HB; have HO382 := n0_; have HO391 := n1_; have HB := n2_; clear n0_ n1_ n2_; (try clear hb); (try clear hb2); (try clear hk); (try clear hi)) | ((with_reducible refine gate_callee (f := 27) rfl ?_); refine goesL_ (some 43) rfl rfl Tryd.func27 (by kernel_rfl) rfl #[.string t377] rfl (by (try simp only [List.map_toArray, List.map_cons, List.map_nil]); first | done | rfl | (simp only [List.length_drop, List.length_take]; rfl)) ?_; (with_reducible refine (spec_PartOk.calls k t377 t393 _ A26.out).mono ?_); rintro e w' ⟨rfl, ⟨nd, rfl⟩⟩; refine ⟨_, rfl, ?_⟩) | (go_at_call 14; (with_reducible refine (impl_PathOk.calls k t378 t394 _ A29.out).mono ?_); rintro e w110 ⟨rfl, hb⟩; have n0_ := Aside0.mk (Kd.R_below (by (with_reducible repeat (first | apply Kd.R_alloc | apply Kd.R_drewN | apply Kd.R_drew)); exact HO382.out) hb); have n1_ := Aside0.mk (Kd.R_below (by (with_reducible repeat (first | apply Kd.R_alloc | apply Kd.R_drewN | apply Kd.R_drew)); exact HO391.out) hb); have n2_ := Aside0.mk (below_step (by repeat (first | (with_reducible first | exact HB.out | apply below_alloc | apply pw_below_drewN | apply below_drew1) | exact HB.out)) hb); clear HO382; clear HO391; clear HB; have HO382 := n0_; have HO391 := n1_; have HB := n2_; clear n0_ n1_ n2_; (try clear hb); (try clear hb2); (try clear hk); (try clear hi)) | (go_at_call 15; (with_reducible refine (spec_PathOk.calls k t378 t395 _ A30.out).mono ?_); rintro e w111 ⟨rfl, hb⟩; have n0_ := Aside0.mk (Kd.R_below (by (with_reducible repeat (first | apply Kd.R_alloc | apply Kd.R_drewN | apply Kd.R_drew)); exact HO382.out) hb); have n1_ := Aside0.mk (Kd.R_below (by (with_reducible repeat (first | apply Kd.R_alloc | apply Kd.R_drewN | apply Kd.R_drew)); exact HO391.out) hb); have n2_ := Aside0.mk (below_step (by repeat (first | (with_reducible first | exact HB.out | apply below_alloc | apply pw_below_drewN | apply below_drew1) | exact HB.out)) hb); clear HO382; clear HO391; clear HB; have HO382 := n0_; have HO391 := n1_; have HB := n2_; clear n0_ n1_ n2_; (try clear hb); (try clear hb2); (try clear hk); (try clear hi)) | (go_at_call 29; (with_reducible refine (impl_Parts.calls k t379 t396 _ A35.out).mono ?_); rintro e w112 ⟨v397, rfl, ho0, hb⟩; have n0_ := Aside0.mk (Kd.R_elder' (by (with_reducible repeat (first | apply Kd.R_alloc | apply Kd.R_drewN | apply Kd.R_drew)); exact HO382.out) (Kd.R_base ho0) hb); have n1_ := Aside0.mk (Kd.R_elder' (by (with_reducible repeat (first | apply Kd.R_alloc | apply Kd.R_drewN | apply Kd.R_drew)); exact HO391.out) (Kd.R_base ho0) hb); have n2_ := Aside0.mk (Kd.R_lower (Kd.R_new' (Kd.R_new' ho0 (Kd.R_lt (by (with_reducible repeat (first | apply Kd.R_alloc | apply Kd.R_drewN | apply Kd.R_drew)); exact HO382.out))) (Kd.R_lt (by (with_reducible repeat (first | apply Kd.R_alloc | apply Kd.R_drewN | apply Kd.R_drew)); exact HO391.out))) (below_size (by repeat (first | (with_reducible first | exact HB.out | apply below_alloc | apply pw_below_drewN | apply below_drew1) | exact HB.out)))); have n3_ := Aside0.mk (below_step (by repeat (first | (with_reducible first | exact HB.out | apply below_alloc | apply pw_below_drewN | apply below_drew1) | exact HB.out)) hb); clear HO382; clear HO391; clear HB; have HO382 := n0_; have HO391 := n1_; have HO398 := n2_; have HB := n3_; clear n0_ n1_ n2_ n3_; (try clear hb); (try clear hb2); (try clear hk); (try clear hi); (try clear ho0)) | (go_at_call 30; (with_reducible refine (spec_Parts.calls k t379 t399 _ A36.out).mono ?_); rintro e w113 ⟨v400, rfl, ho0, hb⟩; have n0_ := Aside0.mk (Kd.R_elder' (by (with_reducible repeat (first | apply Kd.R_alloc | apply Kd.R_drewN | apply Kd.R_drew)); exact HO382.out) (Kd.R_base ho0) hb); have n1_ := Aside0.mk (Kd.R_elder' (by (with_reducible repeat (first | apply Kd.R_alloc | apply Kd.R_drewN | apply Kd.R_drew)); exact HO391.out) (Kd.R_base ho0) hb); have n2_ := Aside0.mk (Kd.R_elder' (by (with_reducible repeat (first | apply Kd.R_alloc | apply Kd.R_drewN | apply Kd.R_drew)); exact HO398.out) (Kd.R_base ho0) hb); have n3_ := Aside0.mk (Kd.R_lower (Kd.R_new' (Kd.R_new' (Kd.R_new' ho0 (Kd.R_lt (by (with_reducible repeat (first | apply Kd.R_alloc | apply Kd.R_drewN | apply Kd.R_drew)); exact HO382.out))) (Kd.R_lt (by (with_reducible repeat (first | apply Kd.R_alloc | apply Kd.R_drewN | apply Kd.R_drew)); exact HO391.out))) (Kd.R_lt (by (with_reducible repeat (first | apply Kd.R_alloc | apply Kd.R_drewN | apply Kd.R_drew)); exact HO398.out))) (below_size (by repeat (first | (with_reducible first | exact HB.out | apply below_alloc | apply pw_below_drewN | apply below_drew1) | exact HB.out)))); have n4_ := Aside0.mk (below_step (by repeat (first | (with_reducible first | exact HB.out | apply below_alloc | apply pw_below_drewN | apply below_drew1) | exact HB.out)) hb); clear HO382; clear HO391; clear HO398; clear HB; have HO382 := n0_; have HO391 := n1_; have HO398 := n2_; have HO401 := n3_; have HB := n4_; clear n0_ n1_ n2_ n3_ n4_; (try clear hb); (try clear hb2); (try clear hk); (try clear hi); (try clear ho0); obtain ⟨Ao114, co114, eo114⟩ := Kd.R_slice HO398.out; subst eo114; obtain ⟨Ao115, co115, eo115⟩ := Kd.R_slice HO401.out; subst eo115) | (go_at_call 28; (with_reducible refine (laws_sameTexts.calls k _ _ t396 _ _ t399 true _ ?side1 ?side2 ?side3 ?side4 A37.out).mono ?_); (case side1 => repeat (first | exact (Kd.R_reads' HO398.out).2.2 | (with_reducible refine Kd.C_alloc ?_ _) | (with_reducible refine Kd.C_drewN ?_ _) | (with_reducible refine Kd.C_drew ?_))); (case side2 => exact (Kd.R_reads' HO398.out).2.1); (case side3 => repeat (first | exact (Kd.R_reads' HO401.out).2.2 | (with_reducible refine Kd.C_alloc ?_ _) | (with_reducible refine Kd.C_drewN ?_ _) | (with_reducible refine Kd.C_drew ?_))); (case side4 => exact (Kd.R_reads' HO401.out).2.1); rintro e w' ⟨rfl, ⟨nd, rfl⟩⟩; obtain ⟨Ao116, co116, eo116⟩ := Kd.R_slice HO382.out; subst eo116) | (go_at_call 31; (with_reducible refine (impl_Join.calls _ _ t380 t403 _ ?side1 ?side2 A39.out).mono ?_); (case side1 => repeat (first | exact (Kd.R_reads' HO382.out).2.2 | (with_reducible refine Kd.C_alloc ?_ _) | (with_reducible refine Kd.C_drewN ?_ _) | (with_reducible refine Kd.C_drew ?_))); (case side2 => exact (Kd.R_reads' HO382.out).2.1); rintro e w117 ⟨rfl, hb⟩; have n0_ := Aside0.mk (Kd.R_below (by (with_reducible repeat (first | apply Kd.R_alloc | apply Kd.R_drewN | apply Kd.R_drew)); exact HO382.out) hb); have n1_ := Aside0.mk (Kd.R_below (by (with_reducible repeat (first | apply Kd.R_alloc | apply Kd.R_drewN | apply Kd.R_drew)); exact HO391.out) hb); have n2_ := Aside0.mk (Kd.R_below (by (with_reducible repeat (first | apply Kd.R_alloc | apply Kd.R_drewN | apply Kd.R_drew)); exact HO398.out) hb); have n3_ := Aside0.mk (Kd.R_below (by (with_reducible repeat (first | apply Kd.R_alloc | apply Kd.R_drewN | apply Kd.R_drew)); exact HO401.out) hb); have n4_ := Aside0.mk (below_step (by repeat (first | (with_reducible first | exact HB.out | apply below_alloc | apply pw_below_drewN | apply below_drew1) | exact HB.out)) hb); clear HO382; clear HO391; clear HO398; clear HO401; clear HB; have HO382 := n0_; have HO391 := n1_; have HO398 := n2_; have HO401 := n3_; have HB := n4_; clear n0_ n1_ n2_ n3_ n4_; (try clear hb); (try clear hb2); (try clear hk); (try clear hi)) | (go_at_call 32; (with_reducible refine (spec_Join.calls k _ _ t380 t404 _ ?side1 ?side2 A40.out).mono ?_); (case side1 => repeat (first | exact (Kd.R_reads' HO382.out).2.2 | (with_reducible refine Kd.C_alloc ?_ _) | (with_reducible refine Kd.C_drewN ?_ _) | (with_reducible refine Kd.C_drew ?_))); (case side2 => exact (Kd.R_reads' HO382.out).2.1); rintro e w' ⟨rfl, ⟨nd, rfl⟩⟩) | (go_at_call 33; (with_reducible refine (impl_Dir.calls k t383 t405 _ A42.out).mono ?_); rintro e w118 ⟨rfl, hb⟩; have n0_ := Aside0.mk (Kd.R_below (by (with_reducible repeat (first | apply Kd.R_alloc | apply Kd.R_drewN | apply Kd.R_drew)); exact HO382.out) hb); have n1_ := Aside0.mk (Kd.R_below (by (with_reducible repeat (first | apply Kd.R_alloc | apply Kd.R_drewN | apply Kd.R_drew)); exact HO391.out) hb); have n2_ := Aside0.mk (Kd.R_below (by (with_reducible repeat (first | apply Kd.R_alloc | apply Kd.R_drewN | apply Kd.R_drew)); exact HO398.out) hb); have n3_ := Aside0.mk (Kd.R_below (by (with_reducible repeat (first | apply Kd.R_alloc | apply Kd.R_drewN | apply Kd.R_drew)); exact HO401.out) hb); have n4_ := Aside0.mk (below_step (by repeat (first | (with_reducible first | exact HB.out | apply below_alloc | apply pw_below_drewN | apply below_drew1) | exact HB.out)) hb); clear HO382; clear HO391; clear HO398; clear HO401; clear HB; have HO382 := n0_; have HO391 := n1_; have HO398 := n2_; have HO401 := n3_; have HB := n4_; clear n0_ n1_ n2_ n3_ n4_; (try clear hb); (try clear hb2); (try clear hk); (try clear hi)) | (go_at_call 34; (with_reducible refine (spec_Dir.calls k t383 t406 _ A43.out).mono ?_); rintro e w' ⟨rfl, ⟨nd, rfl⟩⟩))
                go_meet
                case rel => exact ⟨_, (true), (by first | rfl | (simp; done) | (simp [*]; done)), H', ⟨by first | omega | exact Nat.le_refl _⟩, ⟨by (with_reducible repeat (first | apply Kd.R_alloc | apply Kd.R_drewN | apply Kd.R_drew)); exact Kd.R_mono HO391.out (fun _ hk => trivial)⟩, ⟨by repeat (first | (with_reducible first | exact HB.out | apply below_alloc | apply pw_below_drewN | apply below_drew1) | exact HB.out)⟩⟩
            · rw [if_neg c41] at H
              have c41b0 : (t403.toList == t404.toList) = false := beq_eq_false_iff_ne.mpr c41
              have c41b1 : (t403.toList != t404.toList) = true := bne_iff_ne.mpr c41
              have H' := Aside0.mk H
              clear H
              go_wp2_with (first | ((with_reducible refine gate_callee (f := 26) rfl ?_); refine goesL_ (some 41) rfl rfl Tryd.func26 (by kernel_rfl) rfl #[.string t377] rfl (by (try simp only [List.map_toArray, List.map_cons, List.map_nil]); first | done | rfl | (simp only [List.length_drop, List.length_take]; rfl)) ?_; (with_reducible refine (impl_PartOk.calls t377 t392 _ A25.out).mono ?_); rintro e w119 ⟨rfl, hb⟩; refine ⟨_, rfl, ?_⟩; have n0_ := Aside0.mk (Kd.R_below (by (with_reducible repeat (first | apply Kd.R_alloc | apply Kd.R_drewN | apply Kd.R_drew)); exact HO382.out) hb); have n1_ := Aside0.mk (Kd.R_below (by (with_reducible repeat (first | apply Kd.R_alloc | apply Kd.R_drewN | apply Kd.R_drew)); exact HO391.out) hb); have n2_ := Aside0.mk (below_step (by repeat (first | (with_reducible first | exact HB.out | apply below_alloc | apply pw_below_drewN | apply below_drew1) | exact HB.out)) hb); clear HO382; clear HO391; clear HB; have HO382 := n0_; have HO391 := n1_; have HB := n2_; clear n0_ n1_ n2_; (try clear hb); (try clear hb2); (try clear hk); (try clear hi)) | ((with_reducible refine gate_callee (f := 27) rfl ?_); refine goesL_ (some 43) rfl rfl Tryd.func27 (by kernel_rfl) rfl #[.string t377] rfl (by (try simp only [List.map_toArray, List.map_cons, List.map_nil]); first | done | rfl | (simp only [List.length_drop, List.length_take]; rfl)) ?_; (with_reducible refine (spec_PartOk.calls k t377 t393 _ A26.out).mono ?_); rintro e w' ⟨rfl, ⟨nd, rfl⟩⟩; refine ⟨_, rfl, ?_⟩) | (go_at_call 14; (with_reducible refine (impl_PathOk.calls k t378 t394 _ A29.out).mono ?_); rintro e w120 ⟨rfl, hb⟩; have n0_ := Aside0.mk (Kd.R_below (by (with_reducible repeat (first | apply Kd.R_alloc | apply Kd.R_drewN | apply Kd.R_drew)); exact HO382.out) hb); have n1_ := Aside0.mk (Kd.R_below (by (with_reducible repeat (first | apply Kd.R_alloc | apply Kd.R_drewN | apply Kd.R_drew)); exact HO391.out) hb); have n2_ := Aside0.mk (below_step (by repeat (first | (with_reducible first | exact HB.out | apply below_alloc | apply pw_below_drewN | apply below_drew1) | exact HB.out)) hb); clear HO382; clear HO391; clear HB; have HO382 := n0_; have HO391 := n1_; have HB := n2_; clear n0_ n1_ n2_; (try clear hb); (try clear hb2); (try clear hk); (try clear hi)) | (go_at_call 15; (with_reducible refine (spec_PathOk.calls k t378 t395 _ A30.out).mono ?_); rintro e w121 ⟨rfl, hb⟩; have n0_ := Aside0.mk (Kd.R_below (by (with_reducible repeat (first | apply Kd.R_alloc | apply Kd.R_drewN | apply Kd.R_drew)); exact HO382.out) hb); have n1_ := Aside0.mk (Kd.R_below (by (with_reducible repeat (first | apply Kd.R_alloc | apply Kd.R_drewN | apply Kd.R_drew)); exact HO391.out) hb); have n2_ := Aside0.mk (below_step (by repeat (first | (with_reducible first | exact HB.out | apply below_alloc | apply pw_below_drewN | apply below_drew1) | exact HB.out)) hb); clear HO382; clear HO391; clear HB; have HO382 := n0_; have HO391 := n1_; have HB := n2_; clear n0_ n1_ n2_; (try clear hb); (try clear hb2); (try clear hk); (try clear hi)) | (go_at_call 29; (with_reducible refine (impl_Parts.calls k t379 t396 _ A35.out).mono ?_); rintro e w122 ⟨v397, rfl, ho0, hb⟩; have n0_ := Aside0.mk (Kd.R_elder' (by (with_reducible repeat (first | apply Kd.R_alloc | apply Kd.R_drewN | apply Kd.R_drew)); exact HO382.out) (Kd.R_base ho0) hb); have n1_ := Aside0.mk (Kd.R_elder' (by (with_reducible repeat (first | apply Kd.R_alloc | apply Kd.R_drewN | apply Kd.R_drew)); exact HO391.out) (Kd.R_base ho0) hb); have n2_ := Aside0.mk (Kd.R_lower (Kd.R_new' (Kd.R_new' ho0 (Kd.R_lt (by (with_reducible repeat (first | apply Kd.R_alloc | apply Kd.R_drewN | apply Kd.R_drew)); exact HO382.out))) (Kd.R_lt (by (with_reducible repeat (first | apply Kd.R_alloc | apply Kd.R_drewN | apply Kd.R_drew)); exact HO391.out))) (below_size (by repeat (first | (with_reducible first | exact HB.out | apply below_alloc | apply pw_below_drewN | apply below_drew1) | exact HB.out)))); have n3_ := Aside0.mk (below_step (by repeat (first | (with_reducible first | exact HB.out | apply below_alloc | apply pw_below_drewN | apply below_drew1) | exact HB.out)) hb); clear HO382; clear HO391; clear HB; have HO382 := n0_; have HO391 := n1_; have HO398 := n2_; have HB := n3_; clear n0_ n1_ n2_ n3_; (try clear hb); (try clear hb2); (try clear hk); (try clear hi); (try clear ho0)) | (go_at_call 30; (with_reducible refine (spec_Parts.calls k t379 t399 _ A36.out).mono ?_); rintro e w123 ⟨v400, rfl, ho0, hb⟩; have n0_ := Aside0.mk (Kd.R_elder' (by (with_reducible repeat (first | apply Kd.R_alloc | apply Kd.R_drewN | apply Kd.R_drew)); exact HO382.out) (Kd.R_base ho0) hb); have n1_ := Aside0.mk (Kd.R_elder' (by (with_reducible repeat (first | apply Kd.R_alloc | apply Kd.R_drewN | apply Kd.R_drew)); exact HO391.out) (Kd.R_base ho0) hb); have n2_ := Aside0.mk (Kd.R_elder' (by (with_reducible repeat (first | apply Kd.R_alloc | apply Kd.R_drewN | apply Kd.R_drew)); exact HO398.out) (Kd.R_base ho0) hb); have n3_ := Aside0.mk (Kd.R_lower (Kd.R_new' (Kd.R_new' (Kd.R_new' ho0 (Kd.R_lt (by (with_reducible repeat (first | apply Kd.R_alloc | apply Kd.R_drewN | apply Kd.R_drew)); exact HO382.out))) (Kd.R_lt (by (with_reducible repeat (first | apply Kd.R_alloc | apply Kd.R_drewN | apply Kd.R_drew)); exact HO391.out))) (Kd.R_lt (by (with_reducible repeat (first | apply Kd.R_alloc | apply Kd.R_drewN | apply Kd.R_drew)); exact HO398.out))) (below_size (by repeat (first | (with_reducible first | exact HB.out | apply below_alloc | apply pw_below_drewN | apply below_drew1) | exact HB.out)))); have n4_ := Aside0.mk (below_step (by repeat (first | (with_reducible first | exact HB.out | apply below_alloc | apply pw_below_drewN | apply below_drew1) | exact HB.out)) hb); clear HO382; clear HO391; clear HO398; clear HB; have HO382 := n0_; have HO391 := n1_; have HO398 := n2_; have HO401 := n3_; have HB := n4_; clear n0_ n1_ n2_ n3_ n4_; (try clear hb); (try clear hb2); (try clear hk); (try clear hi); (try clear ho0); obtain ⟨Ao124, co124, eo124⟩ := Kd.R_slice HO398.out; subst eo124; obtain ⟨Ao125, co125, eo125⟩ := Kd.R_slice HO401.out; subst eo125) | (go_at_call 28; (with_reducible refine (laws_sameTexts.calls k _ _ t396 _ _ t399 true _ ?side1 ?side2 ?side3 ?side4 A37.out).mono ?_); (case side1 => repeat (first | exact (Kd.R_reads' HO398.out).2.2 | (with_reducible refine Kd.C_alloc ?_ _) | (with_reducible refine Kd.C_drewN ?_ _) | (with_reducible refine Kd.C_drew ?_))); (case side2 => exact (Kd.R_reads' HO398.out).2.1); (case side3 => repeat (first | exact (Kd.R_reads' HO401.out).2.2 | (with_reducible refine Kd.C_alloc ?_ _) | (with_reducible refine Kd.C_drewN ?_ _) | (with_reducible refine Kd.C_drew ?_))); (case side4 => exact (Kd.R_reads' HO401.out).2.1); rintro e w' ⟨rfl, ⟨nd, rfl⟩⟩; obtain ⟨Ao126, co126, eo126⟩ := Kd.R_slice HO382.out; subst eo126) | (go_at_call 31; (with_reducible refine (impl_Join.calls _ _ t380 t403 _ ?side1 ?side2 A39.out).mono ?_); (case side1 => repeat (first | exact (Kd.R_reads' HO382.out).2.2 | (with_reducible refine Kd.C_alloc ?_ _) | (with_reducible refine Kd.C_drewN ?_ _) | (with_reducible refine Kd.C_drew ?_))); (case side2 => exact (Kd.R_reads' HO382.out).2.1); rintro e w127 ⟨rfl, hb⟩; have n0_ := Aside0.mk (Kd.R_below (by (with_reducible repeat (first | apply Kd.R_alloc | apply Kd.R_drewN | apply Kd.R_drew)); exact HO382.out) hb); have n1_ := Aside0.mk (Kd.R_below (by (with_reducible repeat (first | apply Kd.R_alloc | apply Kd.R_drewN | apply Kd.R_drew)); exact HO391.out) hb); have n2_ := Aside0.mk (Kd.R_below (by (with_reducible repeat (first | apply Kd.R_alloc | apply Kd.R_drewN | apply Kd.R_drew)); exact HO398.out) hb); have n3_ := Aside0.mk (Kd.R_below (by (with_reducible repeat (first | apply Kd.R_alloc | apply Kd.R_drewN | apply Kd.R_drew)); exact HO401.out) hb); have n4_ := Aside0.mk (below_step (by repeat (first | (with_reducible first | exact HB.out | apply below_alloc | apply pw_below_drewN | apply below_drew1) | exact HB.out)) hb); clear HO382; clear HO391; clear HO398; clear HO401; clear HB; have HO382 := n0_; have HO391 := n1_; have HO398 := n2_; have HO401 := n3_; have HB := n4_; clear n0_ n1_ n2_ n3_ n4_; (try clear hb); (try clear hb2); (try clear hk); (try clear hi)) | (go_at_call 32; (with_reducible refine (spec_Join.calls k _ _ t380 t404 _ ?side1 ?side2 A40.out).mono ?_); (case side1 => repeat (first | exact (Kd.R_reads' HO382.out).2.2 | (with_reducible refine Kd.C_alloc ?_ _) | (with_reducible refine Kd.C_drewN ?_ _) | (with_reducible refine Kd.C_drew ?_))); (case side2 => exact (Kd.R_reads' HO382.out).2.1); rintro e w' ⟨rfl, ⟨nd, rfl⟩⟩))
              go_meet
              case rel => exact ⟨_, (true), (by first | rfl | (simp; done) | (simp [*]; done)), H', ⟨by first | omega | exact Nat.le_refl _⟩, ⟨by (with_reducible repeat (first | apply Kd.R_alloc | apply Kd.R_drewN | apply Kd.R_drew)); exact Kd.R_mono HO391.out (fun _ hk => trivial)⟩, ⟨by repeat (first | (with_reducible first | exact HB.out | apply below_alloc | apply pw_below_drewN | apply below_drew1) | exact HB.out)⟩⟩
          · replace c38 := Bool.eq_false_iff.mpr c38
            subst c38
            have H1 : (laws_FnPaths.j0 k t379 t383 t388 t389 true) = some r := by rw [if_neg (show ¬ (false = true) by decide)] at H; exact H
            clear H
            have H := H1
            clear H1
            have H' := Aside0.mk H
            clear H
            go_wp2_with (first | ((with_reducible refine gate_callee (f := 26) rfl ?_); refine goesL_ (some 41) rfl rfl Tryd.func26 (by kernel_rfl) rfl #[.string t377] rfl (by (try simp only [List.map_toArray, List.map_cons, List.map_nil]); first | done | rfl | (simp only [List.length_drop, List.length_take]; rfl)) ?_; (with_reducible refine (impl_PartOk.calls t377 t392 _ A25.out).mono ?_); rintro e w128 ⟨rfl, hb⟩; refine ⟨_, rfl, ?_⟩; have n0_ := Aside0.mk (Kd.R_below (by (with_reducible repeat (first | apply Kd.R_alloc | apply Kd.R_drewN | apply Kd.R_drew)); exact HO382.out) hb); have n1_ := Aside0.mk (Kd.R_below (by (with_reducible repeat (first | apply Kd.R_alloc | apply Kd.R_drewN | apply Kd.R_drew)); exact HO391.out) hb); have n2_ := Aside0.mk (below_step (by repeat (first | (with_reducible first | exact HB.out | apply below_alloc | apply pw_below_drewN | apply below_drew1) | exact HB.out)) hb); clear HO382; clear HO391; clear HB; have HO382 := n0_; have HO391 := n1_; have HB := n2_; clear n0_ n1_ n2_; (try clear hb); (try clear hb2); (try clear hk); (try clear hi)) | ((with_reducible refine gate_callee (f := 27) rfl ?_); refine goesL_ (some 43) rfl rfl Tryd.func27 (by kernel_rfl) rfl #[.string t377] rfl (by (try simp only [List.map_toArray, List.map_cons, List.map_nil]); first | done | rfl | (simp only [List.length_drop, List.length_take]; rfl)) ?_; (with_reducible refine (spec_PartOk.calls k t377 t393 _ A26.out).mono ?_); rintro e w' ⟨rfl, ⟨nd, rfl⟩⟩; refine ⟨_, rfl, ?_⟩) | (go_at_call 14; (with_reducible refine (impl_PathOk.calls k t378 t394 _ A29.out).mono ?_); rintro e w129 ⟨rfl, hb⟩; have n0_ := Aside0.mk (Kd.R_below (by (with_reducible repeat (first | apply Kd.R_alloc | apply Kd.R_drewN | apply Kd.R_drew)); exact HO382.out) hb); have n1_ := Aside0.mk (Kd.R_below (by (with_reducible repeat (first | apply Kd.R_alloc | apply Kd.R_drewN | apply Kd.R_drew)); exact HO391.out) hb); have n2_ := Aside0.mk (below_step (by repeat (first | (with_reducible first | exact HB.out | apply below_alloc | apply pw_below_drewN | apply below_drew1) | exact HB.out)) hb); clear HO382; clear HO391; clear HB; have HO382 := n0_; have HO391 := n1_; have HB := n2_; clear n0_ n1_ n2_; (try clear hb); (try clear hb2); (try clear hk); (try clear hi)) | (go_at_call 15; (with_reducible refine (spec_PathOk.calls k t378 t395 _ A30.out).mono ?_); rintro e w130 ⟨rfl, hb⟩; have n0_ := Aside0.mk (Kd.R_below (by (with_reducible repeat (first | apply Kd.R_alloc | apply Kd.R_drewN | apply Kd.R_drew)); exact HO382.out) hb); have n1_ := Aside0.mk (Kd.R_below (by (with_reducible repeat (first | apply Kd.R_alloc | apply Kd.R_drewN | apply Kd.R_drew)); exact HO391.out) hb); have n2_ := Aside0.mk (below_step (by repeat (first | (with_reducible first | exact HB.out | apply below_alloc | apply pw_below_drewN | apply below_drew1) | exact HB.out)) hb); clear HO382; clear HO391; clear HB; have HO382 := n0_; have HO391 := n1_; have HB := n2_; clear n0_ n1_ n2_; (try clear hb); (try clear hb2); (try clear hk); (try clear hi)) | (go_at_call 29; (with_reducible refine (impl_Parts.calls k t379 t396 _ A35.out).mono ?_); rintro e w131 ⟨v397, rfl, ho0, hb⟩; have n0_ := Aside0.mk (Kd.R_elder' (by (with_reducible repeat (first | apply Kd.R_alloc | apply Kd.R_drewN | apply Kd.R_drew)); exact HO382.out) (Kd.R_base ho0) hb); have n1_ := Aside0.mk (Kd.R_elder' (by (with_reducible repeat (first | apply Kd.R_alloc | apply Kd.R_drewN | apply Kd.R_drew)); exact HO391.out) (Kd.R_base ho0) hb); have n2_ := Aside0.mk (Kd.R_lower (Kd.R_new' (Kd.R_new' ho0 (Kd.R_lt (by (with_reducible repeat (first | apply Kd.R_alloc | apply Kd.R_drewN | apply Kd.R_drew)); exact HO382.out))) (Kd.R_lt (by (with_reducible repeat (first | apply Kd.R_alloc | apply Kd.R_drewN | apply Kd.R_drew)); exact HO391.out))) (below_size (by repeat (first | (with_reducible first | exact HB.out | apply below_alloc | apply pw_below_drewN | apply below_drew1) | exact HB.out)))); have n3_ := Aside0.mk (below_step (by repeat (first | (with_reducible first | exact HB.out | apply below_alloc | apply pw_below_drewN | apply below_drew1) | exact HB.out)) hb); clear HO382; clear HO391; clear HB; have HO382 := n0_; have HO391 := n1_; have HO398 := n2_; have HB := n3_; clear n0_ n1_ n2_ n3_; (try clear hb); (try clear hb2); (try clear hk); (try clear hi); (try clear ho0)) | (go_at_call 30; (with_reducible refine (spec_Parts.calls k t379 t399 _ A36.out).mono ?_); rintro e w132 ⟨v400, rfl, ho0, hb⟩; have n0_ := Aside0.mk (Kd.R_elder' (by (with_reducible repeat (first | apply Kd.R_alloc | apply Kd.R_drewN | apply Kd.R_drew)); exact HO382.out) (Kd.R_base ho0) hb); have n1_ := Aside0.mk (Kd.R_elder' (by (with_reducible repeat (first | apply Kd.R_alloc | apply Kd.R_drewN | apply Kd.R_drew)); exact HO391.out) (Kd.R_base ho0) hb); have n2_ := Aside0.mk (Kd.R_elder' (by (with_reducible repeat (first | apply Kd.R_alloc | apply Kd.R_drewN | apply Kd.R_drew)); exact HO398.out) (Kd.R_base ho0) hb); have n3_ := Aside0.mk (Kd.R_lower (Kd.R_new' (Kd.R_new' (Kd.R_new' ho0 (Kd.R_lt (by (with_reducible repeat (first | apply Kd.R_alloc | apply Kd.R_drewN | apply Kd.R_drew)); exact HO382.out))) (Kd.R_lt (by (with_reducible repeat (first | apply Kd.R_alloc | apply Kd.R_drewN | apply Kd.R_drew)); exact HO391.out))) (Kd.R_lt (by (with_reducible repeat (first | apply Kd.R_alloc | apply Kd.R_drewN | apply Kd.R_drew)); exact HO398.out))) (below_size (by repeat (first | (with_reducible first | exact HB.out | apply below_alloc | apply pw_below_drewN | apply below_drew1) | exact HB.out)))); have n4_ := Aside0.mk (below_step (by repeat (first | (with_reducible first | exact HB.out | apply below_alloc | apply pw_below_drewN | apply below_drew1) | exact HB.out)) hb); clear HO382; clear HO391; clear HO398; clear HB; have HO382 := n0_; have HO391 := n1_; have HO398 := n2_; have HO401 := n3_; have HB := n4_; clear n0_ n1_ n2_ n3_ n4_; (try clear hb); (try clear hb2); (try clear hk); (try clear hi); (try clear ho0); obtain ⟨Ao133, co133, eo133⟩ := Kd.R_slice HO398.out; subst eo133; obtain ⟨Ao134, co134, eo134⟩ := Kd.R_slice HO401.out; subst eo134) | (go_at_call 28; (with_reducible refine (laws_sameTexts.calls k _ _ t396 _ _ t399 false _ ?side1 ?side2 ?side3 ?side4 A37.out).mono ?_); (case side1 => repeat (first | exact (Kd.R_reads' HO398.out).2.2 | (with_reducible refine Kd.C_alloc ?_ _) | (with_reducible refine Kd.C_drewN ?_ _) | (with_reducible refine Kd.C_drew ?_))); (case side2 => exact (Kd.R_reads' HO398.out).2.1); (case side3 => repeat (first | exact (Kd.R_reads' HO401.out).2.2 | (with_reducible refine Kd.C_alloc ?_ _) | (with_reducible refine Kd.C_drewN ?_ _) | (with_reducible refine Kd.C_drew ?_))); (case side4 => exact (Kd.R_reads' HO401.out).2.1); rintro e w' ⟨rfl, ⟨nd, rfl⟩⟩))
            go_meet
            case rel => exact ⟨_, (true), (by first | rfl | (simp; done) | (simp [*]; done)), H', ⟨by first | omega | exact Nat.le_refl _⟩, ⟨by (with_reducible repeat (first | apply Kd.R_alloc | apply Kd.R_drewN | apply Kd.R_drew)); exact Kd.R_mono HO391.out (fun _ hk => trivial)⟩, ⟨by repeat (first | (with_reducible first | exact HB.out | apply below_alloc | apply pw_below_drewN | apply below_drew1) | exact HB.out)⟩⟩
    case rest =>
      clear HC14
      try clear c1
      try clear c2
      try clear p2
      try clear c3
      try clear c4
      try clear c5
      try clear c7
      try clear c16
      try clear c17
      try clear c18
      try clear c19
      try clear c20
      try clear c21
      try clear c22
      try clear c23
      try clear c24
      try clear c25
      try clear c26
      try clear c27
      try clear c27b0
      try clear c27b1
      try clear c27b2
      try clear c31
      try clear c31b0
      try clear c31b1
      try clear c31b2
      try clear c38
      try clear c41
      try clear c41b0
      try clear c41b1
      try clear c44
      try clear c44b0
      try clear c44b1
      try clear c47
      try clear c47b0
      try clear c47b1
      try clear c50
      try clear c50b0
      try clear c50b1
      try clear c53
      try clear c53b0
      try clear c53b1
      try clear c53b2
      obtain ⟨kq, x103_13, rfl, HA, HJ13, HO_13, HB⟩ := hcut
      cases kq with
      | zero => exact absurd HA.out (by simp [laws_FnPaths.j0])
      | succ kj13 =>
        have H := HA.out
        clear HA
        simp only [laws_FnPaths.j0] at H
        by_cases c135 : x103_13 = true
        · subst c135
          have H1 : (some false) = some r := by rw [if_pos rfl] at H; exact H
          clear H
          have H := H1
          clear H1
          obtain rfl := Option.some.inj H
          go_wp2
          go_ret
          exact ⟨by first | rfl | (simp [errW_none, errW_some] <;> rfl) | (simp [*, errW_none, errW_some] <;> rfl) | (simp only [decide_eq_true_eq] at *; simp [*, bt]; done), by repeat (first | (with_reducible first | exact HB.out | apply below_alloc | apply pw_below_drewN | apply below_drew1) | exact HB.out)⟩
        · replace c135 := Bool.eq_false_iff.mpr c135
          subst c135
          have H1 : ((impl_Parts.f kj13 t379).bind fun t417 => ((impl_Join.f t417).bind fun t420 => (if t420.toList = t379.toList then ((spec_PathOk.f kj13 t383).bind fun t421 => (if t421 = true then ((impl_Depth.f kj13 t383).bind fun t422 => (if t422 > 1 then ((impl_Dir.f kj13 t383).bind fun t423 => (if t423.size + 1 ≤ 9223372036854775807 then ((impl_Base.f kj13 t383).bind fun t424 => (if (t423 ++ (⟨#[47]⟩ : ByteArray)).size + t424.size ≤ 9223372036854775807 then (laws_FnPaths.j1 kj13 t388 t389 (((t423 ++ (⟨#[47]⟩ : ByteArray)) ++ t424).toList != t383.toList)) else (none))) else (none))) else (laws_FnPaths.j1 kj13 t388 t389 false))) else (laws_FnPaths.j1 kj13 t388 t389 false))) else (some false)))) = some r := by rw [if_neg (show ¬ (false = true) by decide)] at H; exact H
          clear H
          have H := H1
          clear H1
          replace H := Option.bind_eq_some_iff.mp H
          obtain ⟨t417, A1360, H⟩ := H
          replace H : ((impl_Join.f t417).bind fun t420 => (if t420.toList = t379.toList then ((spec_PathOk.f kj13 t383).bind fun t421 => (if t421 = true then ((impl_Depth.f kj13 t383).bind fun t422 => (if t422 > 1 then ((impl_Dir.f kj13 t383).bind fun t423 => (if t423.size + 1 ≤ 9223372036854775807 then ((impl_Base.f kj13 t383).bind fun t424 => (if (t423 ++ (⟨#[47]⟩ : ByteArray)).size + t424.size ≤ 9223372036854775807 then (laws_FnPaths.j1 kj13 t388 t389 (((t423 ++ (⟨#[47]⟩ : ByteArray)) ++ t424).toList != t383.toList)) else (none))) else (none))) else (laws_FnPaths.j1 kj13 t388 t389 false))) else (laws_FnPaths.j1 kj13 t388 t389 false))) else (some false))) = some r := H
          have A136 := Aside0.mk A1360
          clear A1360
          replace H := Option.bind_eq_some_iff.mp H
          obtain ⟨t420, A1370, H⟩ := H
          replace H : (if t420.toList = t379.toList then ((spec_PathOk.f kj13 t383).bind fun t421 => (if t421 = true then ((impl_Depth.f kj13 t383).bind fun t422 => (if t422 > 1 then ((impl_Dir.f kj13 t383).bind fun t423 => (if t423.size + 1 ≤ 9223372036854775807 then ((impl_Base.f kj13 t383).bind fun t424 => (if (t423 ++ (⟨#[47]⟩ : ByteArray)).size + t424.size ≤ 9223372036854775807 then (laws_FnPaths.j1 kj13 t388 t389 (((t423 ++ (⟨#[47]⟩ : ByteArray)) ++ t424).toList != t383.toList)) else (none))) else (none))) else (laws_FnPaths.j1 kj13 t388 t389 false))) else (laws_FnPaths.j1 kj13 t388 t389 false))) else (some false)) = some r := H
          have A137 := Aside0.mk A1370
          clear A1370
          by_cases c138 : t420.toList = t379.toList
          · rw [if_pos c138] at H
            have c138b0 : (t420.toList == t379.toList) = true := beq_iff_eq.mpr c138
            have c138b1 : (t420.toList != t379.toList) = false := bne_eq_false_iff_eq.mpr c138
            clear c138
            have HC139 := Aside0.mk H
            clear H
            go_upto_region 17 with (first | ((with_reducible refine gate_callee (f := 29) rfl ?_); refine goesL_ (some 105) rfl rfl Tryd.func29 (by kernel_rfl) rfl #[.string t379] rfl (by (try simp only [List.map_toArray, List.map_cons, List.map_nil]); first | done | rfl | (simp only [List.length_drop, List.length_take]; rfl)) ?_; (with_reducible refine (impl_Parts.calls kj13 t379 t417 _ A136.out).mono ?_); rintro e w140 ⟨v418, rfl, ho0, hb⟩; refine ⟨_, rfl, ?_⟩; have n0_ := Aside0.mk (Kd.R_elder' (by (with_reducible repeat (first | apply Kd.R_alloc | apply Kd.R_drewN | apply Kd.R_drew)); exact HO_13.out) (Kd.R_base ho0) hb); have n1_ := Aside0.mk (Kd.R_lower (Kd.R_new' ho0 (Kd.R_lt (by (with_reducible repeat (first | apply Kd.R_alloc | apply Kd.R_drewN | apply Kd.R_drew)); exact HO_13.out))) (below_size (by repeat (first | (with_reducible first | exact HB.out | apply below_alloc | apply pw_below_drewN | apply below_drew1) | exact HB.out)))); have n2_ := Aside0.mk (below_step (by repeat (first | (with_reducible first | exact HB.out | apply below_alloc | apply pw_below_drewN | apply below_drew1) | exact HB.out)) hb); clear HO_13; clear HB; have HO_13 := n0_; have HO419 := n1_; have HB := n2_; clear n0_ n1_ n2_; (try clear hb); (try clear hb2); (try clear hk); (try clear hi); (try clear ho0); obtain ⟨Ao141, co141, eo141⟩ := Kd.R_slice HO419.out; subst eo141) | ((with_reducible refine gate_callee (f := 31) rfl ?_); refine goesL_ (some 106) rfl rfl Tryd.func31 (by kernel_rfl) rfl #[.slice Ao141 t417.length co141] rfl (by (try simp only [List.map_toArray, List.map_cons, List.map_nil]); first | done | rfl | (simp only [List.length_drop, List.length_take]; rfl)) ?_; (with_reducible refine (impl_Join.calls _ _ t417 t420 _ ?side1 ?side2 A137.out).mono ?_); (case side1 => repeat (first | exact (Kd.R_reads' HO419.out).2.2 | (with_reducible refine Kd.C_alloc ?_ _) | (with_reducible refine Kd.C_drewN ?_ _) | (with_reducible refine Kd.C_drew ?_))); (case side2 => exact (Kd.R_reads' HO419.out).2.1); rintro e w142 ⟨rfl, hb⟩; refine ⟨_, rfl, ?_⟩; have n0_ := Aside0.mk (Kd.R_below (by (with_reducible repeat (first | apply Kd.R_alloc | apply Kd.R_drewN | apply Kd.R_drew)); exact HO_13.out) hb); have n1_ := Aside0.mk (Kd.R_below (by (with_reducible repeat (first | apply Kd.R_alloc | apply Kd.R_drewN | apply Kd.R_drew)); exact HO419.out) hb); have n2_ := Aside0.mk (below_step (by repeat (first | (with_reducible first | exact HB.out | apply below_alloc | apply pw_below_drewN | apply below_drew1) | exact HB.out)) hb); clear HO_13; clear HO419; clear HB; have HO_13 := n0_; have HO419 := n1_; have HB := n2_; clear n0_ n1_ n2_; (try clear hb); (try clear hb2); (try clear hk); (try clear hi)))
            (try simp only [Act.put, List.setIfInBounds_toArray, List.set_cons_zero, List.set_cons_succ])
            go_cut [125] (fun v125 wc => ∃ (kq : Nat) (x125_138 : Bool), v125 = .bool x125_138 ∧ Aside0 (laws_FnPaths.j1 kq t388 t389 x125_138 = some r) ∧ Aside0 (kq ≤ kj13) ∧ Aside0 (Kd.R Kd.string 9 wc w.heap.size (fun _ => True) v390 t389) ∧ Aside0 (Below w.heap.size w wc))
            case first =>
              have H := HC139.out
              clear HC139
              replace H := Option.bind_eq_some_iff.mp H
              obtain ⟨t421, A1430, H⟩ := H
              replace H : (if t421 = true then ((impl_Depth.f kj13 t383).bind fun t422 => (if t422 > 1 then ((impl_Dir.f kj13 t383).bind fun t423 => (if t423.size + 1 ≤ 9223372036854775807 then ((impl_Base.f kj13 t383).bind fun t424 => (if (t423 ++ (⟨#[47]⟩ : ByteArray)).size + t424.size ≤ 9223372036854775807 then (laws_FnPaths.j1 kj13 t388 t389 (((t423 ++ (⟨#[47]⟩ : ByteArray)) ++ t424).toList != t383.toList)) else (none))) else (none))) else (laws_FnPaths.j1 kj13 t388 t389 false))) else (laws_FnPaths.j1 kj13 t388 t389 false)) = some r := H
              have A143 := Aside0.mk A1430
              clear A1430
              by_cases c144 : t421 = true
              · subst c144
                have H1 : ((impl_Depth.f kj13 t383).bind fun t422 => (if t422 > 1 then ((impl_Dir.f kj13 t383).bind fun t423 => (if t423.size + 1 ≤ 9223372036854775807 then ((impl_Base.f kj13 t383).bind fun t424 => (if (t423 ++ (⟨#[47]⟩ : ByteArray)).size + t424.size ≤ 9223372036854775807 then (laws_FnPaths.j1 kj13 t388 t389 (((t423 ++ (⟨#[47]⟩ : ByteArray)) ++ t424).toList != t383.toList)) else (none))) else (none))) else (laws_FnPaths.j1 kj13 t388 t389 false))) = some r := by rw [if_pos rfl] at H; exact H
                clear H
                have H := H1
                clear H1
                replace H := Option.bind_eq_some_iff.mp H
                obtain ⟨t422, A1450, H⟩ := H
                replace H : (if t422 > 1 then ((impl_Dir.f kj13 t383).bind fun t423 => (if t423.size + 1 ≤ 9223372036854775807 then ((impl_Base.f kj13 t383).bind fun t424 => (if (t423 ++ (⟨#[47]⟩ : ByteArray)).size + t424.size ≤ 9223372036854775807 then (laws_FnPaths.j1 kj13 t388 t389 (((t423 ++ (⟨#[47]⟩ : ByteArray)) ++ t424).toList != t383.toList)) else (none))) else (none))) else (laws_FnPaths.j1 kj13 t388 t389 false)) = some r := H
                have A145 := Aside0.mk A1450
                clear A1450
                by_cases c146 : t422 > 1
                · rw [if_pos c146] at H
                  have c146b0 : decide (1 < t422) = true := decide_eq_true c146
                  clear c146
                  (first | rw [c146b0] | (simp only [i64_w, i32_w]; rw [c146b0]) | skip)
                  replace H := Option.bind_eq_some_iff.mp H
                  obtain ⟨t423, A1470, H⟩ := H
                  replace H : (if t423.size + 1 ≤ 9223372036854775807 then ((impl_Base.f kj13 t383).bind fun t424 => (if (t423 ++ (⟨#[47]⟩ : ByteArray)).size + t424.size ≤ 9223372036854775807 then (laws_FnPaths.j1 kj13 t388 t389 (((t423 ++ (⟨#[47]⟩ : ByteArray)) ++ t424).toList != t383.toList)) else (none))) else (none)) = some r := H
                  have A147 := Aside0.mk A1470
                  clear A1470
                  by_cases c148 : t423.size + 1 ≤ 9223372036854775807
                  · rw [if_pos c148] at H
                    have c148b0 := eq_true c148
                    have c148b1 : decide (t423.size + 1 ≤ 9223372036854775807) = true := decide_eq_true c148
                    try have c148b2 : (9223372036854775807 < t423.size + 1) = False := eq_false (Nat.not_lt.2 c148)
                    replace H := Option.bind_eq_some_iff.mp H
                    obtain ⟨t424, A1490, H⟩ := H
                    replace H : (if (t423 ++ (⟨#[47]⟩ : ByteArray)).size + t424.size ≤ 9223372036854775807 then (laws_FnPaths.j1 kj13 t388 t389 (((t423 ++ (⟨#[47]⟩ : ByteArray)) ++ t424).toList != t383.toList)) else (none)) = some r := H
                    have A149 := Aside0.mk A1490
                    clear A1490
                    by_cases c150 : (t423 ++ (⟨#[47]⟩ : ByteArray)).size + t424.size ≤ 9223372036854775807
                    · rw [if_pos c150] at H
                      have c150b0 := eq_true c150
                      have c150b1 : decide ((t423 ++ (⟨#[47]⟩ : ByteArray)).size + t424.size ≤ 9223372036854775807) = true := decide_eq_true c150
                      try (have c150b1z := c150b1; simp only [ByteArray.size_append, show (⟨#[47]⟩ : ByteArray).size = 1 from rfl] at c150b1z)
                      try have c150b2 : (9223372036854775807 < (t423 ++ (⟨#[47]⟩ : ByteArray)).size + t424.size) = False := eq_false (Nat.not_lt.2 c150)
                      try (have c150b2z := c150b2; simp only [ByteArray.size_append, show (⟨#[47]⟩ : ByteArray).size = 1 from rfl] at c150b2z)
                      have H' := Aside0.mk H
                      clear H
                      go_wp2_with (first | ((with_reducible refine gate_callee (f := 15) rfl ?_); refine goesL_ (some 110) rfl rfl Tryd.func15 (by kernel_rfl) rfl #[.string t383] rfl (by (try simp only [List.map_toArray, List.map_cons, List.map_nil]); first | done | rfl | (simp only [List.length_drop, List.length_take]; rfl)) ?_; (with_reducible refine (spec_PathOk.calls kj13 t383 true _ A143.out).mono ?_); rintro e w151 ⟨rfl, hb⟩; refine ⟨_, rfl, ?_⟩; have n0_ := Aside0.mk (Kd.R_below (by (with_reducible repeat (first | apply Kd.R_alloc | apply Kd.R_drewN | apply Kd.R_drew)); exact HO_13.out) hb); have n1_ := Aside0.mk (Kd.R_below (by (with_reducible repeat (first | apply Kd.R_alloc | apply Kd.R_drewN | apply Kd.R_drew)); exact HO419.out) hb); have n2_ := Aside0.mk (below_step (by repeat (first | (with_reducible first | exact HB.out | apply below_alloc | apply pw_below_drewN | apply below_drew1) | exact HB.out)) hb); clear HO_13; clear HO419; clear HB; have HO_13 := n0_; have HO419 := n1_; have HB := n2_; clear n0_ n1_ n2_; (try clear hb); (try clear hb2); (try clear hk); (try clear hi)) | (go_at_call 37; (with_reducible refine (impl_Depth.calls kj13 t383 t422 _ A145.out).mono ?_); rintro e w152 ⟨rfl, hb⟩; have n0_ := Aside0.mk (Kd.R_below (by (with_reducible repeat (first | apply Kd.R_alloc | apply Kd.R_drewN | apply Kd.R_drew)); exact HO_13.out) hb); have n1_ := Aside0.mk (Kd.R_below (by (with_reducible repeat (first | apply Kd.R_alloc | apply Kd.R_drewN | apply Kd.R_drew)); exact HO419.out) hb); have n2_ := Aside0.mk (below_step (by repeat (first | (with_reducible first | exact HB.out | apply below_alloc | apply pw_below_drewN | apply below_drew1) | exact HB.out)) hb); clear HO_13; clear HO419; clear HB; have HO_13 := n0_; have HO419 := n1_; have HB := n2_; clear n0_ n1_ n2_; (try clear hb); (try clear hb2); (try clear hk); (try clear hi)) | (go_at_call 33; (with_reducible refine (impl_Dir.calls kj13 t383 t423 _ A147.out).mono ?_); rintro e w153 ⟨rfl, hb⟩; have n0_ := Aside0.mk (Kd.R_below (by (with_reducible repeat (first | apply Kd.R_alloc | apply Kd.R_drewN | apply Kd.R_drew)); exact HO_13.out) hb); have n1_ := Aside0.mk (Kd.R_below (by (with_reducible repeat (first | apply Kd.R_alloc | apply Kd.R_drewN | apply Kd.R_drew)); exact HO419.out) hb); have n2_ := Aside0.mk (below_step (by repeat (first | (with_reducible first | exact HB.out | apply below_alloc | apply pw_below_drewN | apply below_drew1) | exact HB.out)) hb); clear HO_13; clear HO419; clear HB; have HO_13 := n0_; have HO419 := n1_; have HB := n2_; clear n0_ n1_ n2_; (try clear hb); (try clear hb2); (try clear hk); (try clear hi)) | (go_at_call 35; (with_reducible refine (impl_Base.calls kj13 t383 t424 _ A149.out).mono ?_); rintro e w' ⟨rfl, ⟨nd, rfl⟩⟩))
                      go_meet
                      case rel => exact ⟨_, ((((t423 ++ (⟨#[47]⟩ : ByteArray)) ++ t424).toList != t383.toList)), (by first | rfl | (simp; done) | (simp [*]; done)), H', ⟨by have := HJ13.out; first | omega | exact Nat.le_refl _⟩, ⟨by (with_reducible repeat (first | apply Kd.R_alloc | apply Kd.R_drewN | apply Kd.R_drew)); exact Kd.R_mono HO_13.out (fun _ hk => trivial)⟩, ⟨by repeat (first | (with_reducible first | exact HB.out | apply below_alloc | apply pw_below_drewN | apply below_drew1) | exact HB.out)⟩⟩
                    · rw [if_neg c150] at H
                      exact absurd H (by simp)
                  · rw [if_neg c148] at H
                    exact absurd H (by simp)
                · rw [if_neg c146] at H
                  have c146b0 : decide (1 < t422) = false := decide_eq_false c146
                  clear c146
                  (first | rw [c146b0] | (simp only [i64_w, i32_w]; rw [c146b0]) | skip)
                  have H' := Aside0.mk H
                  clear H
                  go_wp2_with (first | ((with_reducible refine gate_callee (f := 15) rfl ?_); refine goesL_ (some 110) rfl rfl Tryd.func15 (by kernel_rfl) rfl #[.string t383] rfl (by (try simp only [List.map_toArray, List.map_cons, List.map_nil]); first | done | rfl | (simp only [List.length_drop, List.length_take]; rfl)) ?_; (with_reducible refine (spec_PathOk.calls kj13 t383 true _ A143.out).mono ?_); rintro e w154 ⟨rfl, hb⟩; refine ⟨_, rfl, ?_⟩; have n0_ := Aside0.mk (Kd.R_below (by (with_reducible repeat (first | apply Kd.R_alloc | apply Kd.R_drewN | apply Kd.R_drew)); exact HO_13.out) hb); have n1_ := Aside0.mk (Kd.R_below (by (with_reducible repeat (first | apply Kd.R_alloc | apply Kd.R_drewN | apply Kd.R_drew)); exact HO419.out) hb); have n2_ := Aside0.mk (below_step (by repeat (first | (with_reducible first | exact HB.out | apply below_alloc | apply pw_below_drewN | apply below_drew1) | exact HB.out)) hb); clear HO_13; clear HO419; clear HB; have HO_13 := n0_; have HO419 := n1_; have HB := n2_; clear n0_ n1_ n2_; (try clear hb); (try clear hb2); (try clear hk); (try clear hi)) | (go_at_call 37; (with_reducible refine (impl_Depth.calls kj13 t383 t422 _ A145.out).mono ?_); rintro e w155 ⟨rfl, hb⟩; have n0_ := Aside0.mk (Kd.R_below (by (with_reducible repeat (first | apply Kd.R_alloc | apply Kd.R_drewN | apply Kd.R_drew)); exact HO_13.out) hb); have n1_ := Aside0.mk (Kd.R_below (by (with_reducible repeat (first | apply Kd.R_alloc | apply Kd.R_drewN | apply Kd.R_drew)); exact HO419.out) hb); have n2_ := Aside0.mk (below_step (by repeat (first | (with_reducible first | exact HB.out | apply below_alloc | apply pw_below_drewN | apply below_drew1) | exact HB.out)) hb); clear HO_13; clear HO419; clear HB; have HO_13 := n0_; have HO419 := n1_; have HB := n2_; clear n0_ n1_ n2_; (try clear hb); (try clear hb2); (try clear hk); (try clear hi)))
                  go_meet
                  case rel => exact ⟨_, (false), (by first | rfl | (simp; done) | (simp [*]; done)), H', ⟨by have := HJ13.out; first | omega | exact Nat.le_refl _⟩, ⟨by (with_reducible repeat (first | apply Kd.R_alloc | apply Kd.R_drewN | apply Kd.R_drew)); exact Kd.R_mono HO_13.out (fun _ hk => trivial)⟩, ⟨by repeat (first | (with_reducible first | exact HB.out | apply below_alloc | apply pw_below_drewN | apply below_drew1) | exact HB.out)⟩⟩
              · replace c144 := Bool.eq_false_iff.mpr c144
                subst c144
                have H1 : (laws_FnPaths.j1 kj13 t388 t389 false) = some r := by rw [if_neg (show ¬ (false = true) by decide)] at H; exact H
                clear H
                have H := H1
                clear H1
                have H' := Aside0.mk H
                clear H
                go_wp2_with (first | ((with_reducible refine gate_callee (f := 15) rfl ?_); refine goesL_ (some 110) rfl rfl Tryd.func15 (by kernel_rfl) rfl #[.string t383] rfl (by (try simp only [List.map_toArray, List.map_cons, List.map_nil]); first | done | rfl | (simp only [List.length_drop, List.length_take]; rfl)) ?_; (with_reducible refine (spec_PathOk.calls kj13 t383 false _ A143.out).mono ?_); rintro e w156 ⟨rfl, hb⟩; refine ⟨_, rfl, ?_⟩; have n0_ := Aside0.mk (Kd.R_below (by (with_reducible repeat (first | apply Kd.R_alloc | apply Kd.R_drewN | apply Kd.R_drew)); exact HO_13.out) hb); have n1_ := Aside0.mk (Kd.R_below (by (with_reducible repeat (first | apply Kd.R_alloc | apply Kd.R_drewN | apply Kd.R_drew)); exact HO419.out) hb); have n2_ := Aside0.mk (below_step (by repeat (first | (with_reducible first | exact HB.out | apply below_alloc | apply pw_below_drewN | apply below_drew1) | exact HB.out)) hb); clear HO_13; clear HO419; clear HB; have HO_13 := n0_; have HO419 := n1_; have HB := n2_; clear n0_ n1_ n2_; (try clear hb); (try clear hb2); (try clear hk); (try clear hi)))
                go_meet
                case rel => exact ⟨_, (false), (by first | rfl | (simp; done) | (simp [*]; done)), H', ⟨by have := HJ13.out; first | omega | exact Nat.le_refl _⟩, ⟨by (with_reducible repeat (first | apply Kd.R_alloc | apply Kd.R_drewN | apply Kd.R_drew)); exact Kd.R_mono HO_13.out (fun _ hk => trivial)⟩, ⟨by repeat (first | (with_reducible first | exact HB.out | apply below_alloc | apply pw_below_drewN | apply below_drew1) | exact HB.out)⟩⟩
            case rest =>
              clear HC139
              try clear c1
              try clear c2
              try clear p2
              try clear c3
              try clear c4
              try clear c5
              try clear c7
              try clear c13
              try clear c14
              try clear c15
              try clear c16
              try clear c17
              try clear c18
              try clear c19
              try clear c20
              try clear c21
              try clear c22
              try clear c23
              try clear c24
              try clear c25
              try clear c26
              try clear c27
              try clear c27b0
              try clear c27b1
              try clear c27b2
              try clear c29
              try clear c31
              try clear c31b0
              try clear c31b1
              try clear c31b2
              try clear c38
              try clear c41
              try clear c41b0
              try clear c41b1
              try clear c44
              try clear c44b0
              try clear c44b1
              try clear c47
              try clear c47b0
              try clear c47b1
              try clear c50
              try clear c50b0
              try clear c50b1
              try clear c53
              try clear c53b0
              try clear c53b1
              try clear c53b2
              try clear c135
              try clear c138
              try clear c138b0
              try clear c138b1
              try clear c144
              try clear c146
              try clear c146b0
              try clear c148
              try clear c148b0
              try clear c148b1
              try clear c148b2
              try clear c150
              try clear c150b0
              try clear c150b1
              try clear c150b2
              try clear p2
              obtain ⟨kq, x125_138, rfl, HA, HJ138, HO_13, HB⟩ := hcut
              cases kq with
              | zero => exact absurd HA.out (by simp [laws_FnPaths.j1])
              | succ kj138 =>
                have H := HA.out
                clear HA
                simp only [laws_FnPaths.j1] at H
                by_cases c157 : x125_138 = true
                · subst c157
                  have H1 : (some false) = some r := by rw [if_pos rfl] at H; exact H
                  clear H
                  have H := H1
                  clear H1
                  obtain rfl := Option.some.inj H
                  go_wp2
                  go_ret
                  exact ⟨by first | rfl | (simp [errW_none, errW_some] <;> rfl) | (simp [*, errW_none, errW_some] <;> rfl) | (simp only [decide_eq_true_eq] at *; simp [*, bt]; done), by repeat (first | (with_reducible first | exact HB.out | apply below_alloc | apply pw_below_drewN | apply below_drew1) | exact HB.out)⟩
                · replace c157 := Bool.eq_false_iff.mpr c157
                  subst c157
                  have H1 : (laws_FnPaths.l0 kj138 t388 t389 0) = some r := by rw [if_neg (show ¬ (false = true) by decide)] at H; exact H
                  clear H
                  have H := H1
                  clear H1
                  have H' := Aside0.mk H
                  clear H
                  go_wp2
                  go_loopg [14] kj138 (fun kq v14 w' => ∃ (x14_3 : Int), v14 = .int .i64 x14_3 ∧ Aside0 (laws_FnPaths.l0 kq t388 t389 x14_3 = some r) ∧ Aside0 (kq ≤ kj138) ∧ Aside0 (Kd.R Kd.string 9 w' w.heap.size (fun _ => True) v390 t389) ∧ Aside0 (Below w.heap.size w w'))
                  case atStart => exact ⟨(0), (by first | rfl | (simp; done) | (simp [*]; done)), H', ⟨Nat.le_refl _⟩, ⟨by (with_reducible repeat (first | apply Kd.R_alloc | apply Kd.R_drewN | apply Kd.R_drew)); first | exact HO_13.out | exact Kd.R_mono HO_13.out (fun k_ h_ q_ => h_ (q_.trans (ownBlock_len _ _ _ _)))⟩, ⟨by repeat (first | (with_reducible first | exact HB.out | apply below_alloc | apply pw_below_drewN | apply below_drew1) | exact HB.out)⟩⟩
                  case round =>
                    clear H'
                    try clear c1
                    try clear c2
                    try clear p2
                    try clear c3
                    try clear c4
                    try clear c5
                    try clear c7
                    try clear c13
                    try clear c14
                    try clear c15
                    try clear c16
                    try clear c17
                    try clear c18
                    try clear c19
                    try clear c20
                    try clear c21
                    try clear c22
                    try clear c23
                    try clear c24
                    try clear c25
                    try clear c26
                    try clear c27
                    try clear c27b0
                    try clear c27b1
                    try clear c27b2
                    try clear c29
                    try clear c31
                    try clear c31b0
                    try clear c31b1
                    try clear c31b2
                    try clear c38
                    try clear c41
                    try clear c41b0
                    try clear c41b1
                    try clear c44
                    try clear c44b0
                    try clear c44b1
                    try clear c47
                    try clear c47b0
                    try clear c47b1
                    try clear c50
                    try clear c50b0
                    try clear c50b1
                    try clear c53
                    try clear c53b0
                    try clear c53b1
                    try clear c53b2
                    try clear c135
                    try clear c138
                    try clear c138b0
                    try clear c138b1
                    try clear c144
                    try clear c146
                    try clear c146b0
                    try clear c148
                    try clear c148b0
                    try clear c148b1
                    try clear c148b2
                    try clear c150
                    try clear c150b0
                    try clear c150b1
                    try clear c150b2
                    try clear c157
                    try clear p2
                    obtain ⟨x14_3, rfl, HA, HK3, HO_13, HB⟩ := hrel
                    cases gk with
                    | zero => exact absurd HA.out (by simp [laws_FnPaths.l0])
                    | succ k3 =>
                      have H := HA.out
                      clear HA
                      simp only [laws_FnPaths.l0] at H
                      by_cases c158 : x14_3 < (t389.length : Int)
                      · rw [if_pos c158] at H
                        have c158b0 : decide (x14_3 < (t389.length : Int)) = true := decide_eq_true c158
                        clear c158
                        by_cases c159 : 0 ≤ x14_3
                        · rw [if_pos c159] at H
                          have c159b0 : decide (0 ≤ x14_3) = true := decide_eq_true c159
                          clear c159
                          replace H := Option.bind_eq_some_iff.mp H
                          obtain ⟨t428, A1600, H⟩ := H
                          replace H : (if t428 = true then ((impl_Depth.f k3 (rdOf ByteArray.empty t389 x14_3)).bind fun t430 => (if t430 = (wrap64 (x14_3 + 1)) then (laws_FnPaths.l0 k3 t388 t389 (wrap64 (x14_3 + 1))) else (some false))) else (some false)) = some r := H
                          have A160 := Aside0.mk A1600
                          clear A1600
                          by_cases c161 : t428 = true
                          · subst c161
                            have H1 : ((impl_Depth.f k3 (rdOf ByteArray.empty t389 x14_3)).bind fun t430 => (if t430 = (wrap64 (x14_3 + 1)) then (laws_FnPaths.l0 k3 t388 t389 (wrap64 (x14_3 + 1))) else (some false))) = some r := by rw [if_pos rfl] at H; exact H
                            clear H
                            have H := H1
                            clear H1
                            replace H := Option.bind_eq_some_iff.mp H
                            obtain ⟨t430, A1620, H⟩ := H
                            replace H : (if t430 = (wrap64 (x14_3 + 1)) then (laws_FnPaths.l0 k3 t388 t389 (wrap64 (x14_3 + 1))) else (some false)) = some r := H
                            have A162 := Aside0.mk A1620
                            clear A1620
                            by_cases c163 : t430 = (wrap64 (x14_3 + 1))
                            · rw [if_pos c163] at H
                              have c163b0 : (t430 == (wrap64 (x14_3 + 1))) = true := beq_iff_eq.mpr c163
                              have c163b1 : (t430 != (wrap64 (x14_3 + 1))) = false := bne_eq_false_iff_eq.mpr c163
                              clear c163
                              have H' := Aside0.mk H
                              clear H
                              obtain ⟨Ao164, co164, eo164⟩ := Kd.R_slice HO_13.out
                              subst eo164
                              have p427 : 0 ≤ (x14_3 : Int) := of_decide_eq_true (by assumption)
                              have q427 : x14_3 < (t389.length : Int) := of_decide_eq_true (by assumption)
                              obtain ⟨ad427, e427, hx427_0⟩ := Kd.at_string (Kd.R_reads' HO_13.out).2.2 x14_3 p427 q427
                              cases e427
                              replace p427 := eq_true p427
                              replace q427 := eq_true q427
                              go_wp2_with (first | ((with_reducible refine gate_callee (f := 39) rfl ?_); refine goesL_ (some 137) rfl rfl Tryd.func39 (by kernel_rfl) rfl #[.string t388, .string (rdOf ByteArray.empty t389 x14_3)] rfl (by (try simp only [List.map_toArray, List.map_cons, List.map_nil]); first | done | rfl | (simp only [List.length_drop, List.length_take]; rfl)) ?_; (with_reducible refine (impl_Under.calls k3 t388 (rdOf ByteArray.empty t389 x14_3) true _ A160.out).mono ?_); rintro e w165 ⟨rfl, hb⟩; refine ⟨_, rfl, ?_⟩; have n0_ := Aside0.mk (Kd.R_below (by (with_reducible repeat (first | apply Kd.R_alloc | apply Kd.R_drewN | apply Kd.R_drew)); exact HO_13.out) hb); have n1_ := Aside0.mk (below_step (by repeat (first | (with_reducible first | exact HB.out | apply below_alloc | apply pw_below_drewN | apply below_drew1) | exact HB.out)) hb); clear HO_13; clear HB; have HO_13 := n0_; have HB := n1_; clear n0_ n1_; (try clear hb); (try clear hb2); (try clear hk); (try clear hi); have p429 : 0 ≤ (x14_3 : Int) := of_decide_eq_true (by assumption); have q429 : x14_3 < (t389.length : Int) := of_decide_eq_true (by assumption); obtain ⟨ad429, e429, hx429_0⟩ := Kd.at_string (Kd.R_reads' HO_13.out).2.2 x14_3 p429 q429; obtain rfl : ad427 = ad429 := (by injection e429); replace p429 := eq_true p429; replace q429 := eq_true q429) | (go_at_call 37; (with_reducible refine (impl_Depth.calls k3 (rdOf ByteArray.empty t389 x14_3) t430 _ A162.out).mono ?_); rintro e w166 ⟨rfl, hb⟩; have n0_ := Aside0.mk (Kd.R_below (by (with_reducible repeat (first | apply Kd.R_alloc | apply Kd.R_drewN | apply Kd.R_drew)); exact HO_13.out) hb); have n1_ := Aside0.mk (below_step (by repeat (first | (with_reducible first | exact HB.out | apply below_alloc | apply pw_below_drewN | apply below_drew1) | exact HB.out)) hb); clear HO_13; clear HB; have HO_13 := n0_; have HB := n1_; clear n0_ n1_; (try clear hb); (try clear hb2); (try clear hk); (try clear hi)))
                              go_roundg k3
                              case measure => have := HJ13.out; have := HJ138.out; have := HK3.out; omega
                              case rel => exact ⟨(wrap64 (x14_3 + 1)), (by first | rfl | (simp; done) | (simp [*]; done)), H', ⟨by have := HJ13.out; have := HJ138.out; have := HK3.out; omega⟩, ⟨by (with_reducible repeat (first | apply Kd.R_alloc | apply Kd.R_drewN | apply Kd.R_drew)); first | exact HO_13.out | exact Kd.R_mono HO_13.out (fun k_ h_ q_ => h_ (q_.trans (ownBlock_len _ _ _ _)))⟩, ⟨by repeat (first | (with_reducible first | exact HB.out | apply below_alloc | apply pw_below_drewN | apply below_drew1) | exact HB.out)⟩⟩
                            · rw [if_neg c163] at H
                              have c163b0 : (t430 == (wrap64 (x14_3 + 1))) = false := beq_eq_false_iff_ne.mpr c163
                              have c163b1 : (t430 != (wrap64 (x14_3 + 1))) = true := bne_iff_ne.mpr c163
                              obtain rfl := Option.some.inj H
                              obtain ⟨Ao167, co167, eo167⟩ := Kd.R_slice HO_13.out
                              subst eo167
                              have p427 : 0 ≤ (x14_3 : Int) := of_decide_eq_true (by assumption)
                              have q427 : x14_3 < (t389.length : Int) := of_decide_eq_true (by assumption)
                              obtain ⟨ad427, e427, hx427_0⟩ := Kd.at_string (Kd.R_reads' HO_13.out).2.2 x14_3 p427 q427
                              cases e427
                              replace p427 := eq_true p427
                              replace q427 := eq_true q427
                              go_wp2_with (first | ((with_reducible refine gate_callee (f := 39) rfl ?_); refine goesL_ (some 137) rfl rfl Tryd.func39 (by kernel_rfl) rfl #[.string t388, .string (rdOf ByteArray.empty t389 x14_3)] rfl (by (try simp only [List.map_toArray, List.map_cons, List.map_nil]); first | done | rfl | (simp only [List.length_drop, List.length_take]; rfl)) ?_; (with_reducible refine (impl_Under.calls k3 t388 (rdOf ByteArray.empty t389 x14_3) true _ A160.out).mono ?_); rintro e w168 ⟨rfl, hb⟩; refine ⟨_, rfl, ?_⟩; have n0_ := Aside0.mk (Kd.R_below (by (with_reducible repeat (first | apply Kd.R_alloc | apply Kd.R_drewN | apply Kd.R_drew)); exact HO_13.out) hb); have n1_ := Aside0.mk (below_step (by repeat (first | (with_reducible first | exact HB.out | apply below_alloc | apply pw_below_drewN | apply below_drew1) | exact HB.out)) hb); clear HO_13; clear HB; have HO_13 := n0_; have HB := n1_; clear n0_ n1_; (try clear hb); (try clear hb2); (try clear hk); (try clear hi); have p429 : 0 ≤ (x14_3 : Int) := of_decide_eq_true (by assumption); have q429 : x14_3 < (t389.length : Int) := of_decide_eq_true (by assumption); obtain ⟨ad429, e429, hx429_0⟩ := Kd.at_string (Kd.R_reads' HO_13.out).2.2 x14_3 p429 q429; obtain rfl : ad427 = ad429 := (by injection e429); replace p429 := eq_true p429; replace q429 := eq_true q429) | (go_at_call 37; (with_reducible refine (impl_Depth.calls k3 (rdOf ByteArray.empty t389 x14_3) t430 _ A162.out).mono ?_); rintro e w169 ⟨rfl, hb⟩; have n0_ := Aside0.mk (Kd.R_below (by (with_reducible repeat (first | apply Kd.R_alloc | apply Kd.R_drewN | apply Kd.R_drew)); exact HO_13.out) hb); have n1_ := Aside0.mk (below_step (by repeat (first | (with_reducible first | exact HB.out | apply below_alloc | apply pw_below_drewN | apply below_drew1) | exact HB.out)) hb); clear HO_13; clear HB; have HO_13 := n0_; have HB := n1_; clear n0_ n1_; (try clear hb); (try clear hb2); (try clear hk); (try clear hi)))
                              go_ret
                              exact ⟨by first | rfl | (simp [errW_none, errW_some] <;> rfl) | (simp [*, errW_none, errW_some] <;> rfl) | (simp only [decide_eq_true_eq] at *; simp [*, bt]; done), by repeat (first | (with_reducible first | exact HB.out | apply below_alloc | apply pw_below_drewN | apply below_drew1) | exact HB.out)⟩
                          · replace c161 := Bool.eq_false_iff.mpr c161
                            subst c161
                            have H1 : (some false) = some r := by rw [if_neg (show ¬ (false = true) by decide)] at H; exact H
                            clear H
                            have H := H1
                            clear H1
                            obtain rfl := Option.some.inj H
                            obtain ⟨Ao170, co170, eo170⟩ := Kd.R_slice HO_13.out
                            subst eo170
                            have p427 : 0 ≤ (x14_3 : Int) := of_decide_eq_true (by assumption)
                            have q427 : x14_3 < (t389.length : Int) := of_decide_eq_true (by assumption)
                            obtain ⟨ad427, e427, hx427_0⟩ := Kd.at_string (Kd.R_reads' HO_13.out).2.2 x14_3 p427 q427
                            cases e427
                            replace p427 := eq_true p427
                            replace q427 := eq_true q427
                            go_wp2_with (first | ((with_reducible refine gate_callee (f := 39) rfl ?_); refine goesL_ (some 137) rfl rfl Tryd.func39 (by kernel_rfl) rfl #[.string t388, .string (rdOf ByteArray.empty t389 x14_3)] rfl (by (try simp only [List.map_toArray, List.map_cons, List.map_nil]); first | done | rfl | (simp only [List.length_drop, List.length_take]; rfl)) ?_; (with_reducible refine (impl_Under.calls k3 t388 (rdOf ByteArray.empty t389 x14_3) false _ A160.out).mono ?_); rintro e w171 ⟨rfl, hb⟩; refine ⟨_, rfl, ?_⟩; have n0_ := Aside0.mk (Kd.R_below (by (with_reducible repeat (first | apply Kd.R_alloc | apply Kd.R_drewN | apply Kd.R_drew)); exact HO_13.out) hb); have n1_ := Aside0.mk (below_step (by repeat (first | (with_reducible first | exact HB.out | apply below_alloc | apply pw_below_drewN | apply below_drew1) | exact HB.out)) hb); clear HO_13; clear HB; have HO_13 := n0_; have HB := n1_; clear n0_ n1_; (try clear hb); (try clear hb2); (try clear hk); (try clear hi)))
                            go_ret
                            exact ⟨by first | rfl | (simp [errW_none, errW_some] <;> rfl) | (simp [*, errW_none, errW_some] <;> rfl) | (simp only [decide_eq_true_eq] at *; simp [*, bt]; done), by repeat (first | (with_reducible first | exact HB.out | apply below_alloc | apply pw_below_drewN | apply below_drew1) | exact HB.out)⟩
                        · rw [if_neg c159] at H
                          exact absurd H (by simp)
                      · rw [if_neg c158] at H
                        have c158b0 : decide (x14_3 < (t389.length : Int)) = false := decide_eq_false c158
                        clear c158
                        replace H := Option.bind_eq_some_iff.mp H
                        obtain ⟨t425, A1720, H⟩ := H
                        replace H : (if t425 = true then ((impl_Depth.f k3 t388).bind fun t426 => (some ((t389.length : Int) == (wrap64 (t426 - 1))))) else (some true)) = some r := H
                        have A172 := Aside0.mk A1720
                        clear A1720
                        by_cases c173 : t425 = true
                        · subst c173
                          have H1 : ((impl_Depth.f k3 t388).bind fun t426 => (some ((t389.length : Int) == (wrap64 (t426 - 1))))) = some r := by rw [if_pos rfl] at H; exact H
                          clear H
                          have H := H1
                          clear H1
                          replace H := Option.bind_eq_some_iff.mp H
                          obtain ⟨t426, A1740, H⟩ := H
                          replace H : (some ((t389.length : Int) == (wrap64 (t426 - 1)))) = some r := H
                          have A174 := Aside0.mk A1740
                          clear A1740
                          obtain rfl := Option.some.inj H
                          obtain ⟨Ao175, co175, eo175⟩ := Kd.R_slice HO_13.out
                          subst eo175
                          go_wp2_with (first | ((with_reducible refine gate_callee (f := 15) rfl ?_); refine goesL_ (some 150) rfl rfl Tryd.func15 (by kernel_rfl) rfl #[.string t388] rfl (by (try simp only [List.map_toArray, List.map_cons, List.map_nil]); first | done | rfl | (simp only [List.length_drop, List.length_take]; rfl)) ?_; (with_reducible refine (spec_PathOk.calls k3 t388 true _ A172.out).mono ?_); rintro e w176 ⟨rfl, hb⟩; refine ⟨_, rfl, ?_⟩; have n0_ := Aside0.mk (Kd.R_below (by (with_reducible repeat (first | apply Kd.R_alloc | apply Kd.R_drewN | apply Kd.R_drew)); exact HO_13.out) hb); have n1_ := Aside0.mk (below_step (by repeat (first | (with_reducible first | exact HB.out | apply below_alloc | apply pw_below_drewN | apply below_drew1) | exact HB.out)) hb); clear HO_13; clear HB; have HO_13 := n0_; have HB := n1_; clear n0_ n1_; (try clear hb); (try clear hb2); (try clear hk); (try clear hi)) | (go_at_call 37; (with_reducible refine (impl_Depth.calls k3 t388 t426 _ A174.out).mono ?_); rintro e w177 ⟨rfl, hb⟩; have n0_ := Aside0.mk (Kd.R_below (by (with_reducible repeat (first | apply Kd.R_alloc | apply Kd.R_drewN | apply Kd.R_drew)); exact HO_13.out) hb); have n1_ := Aside0.mk (below_step (by repeat (first | (with_reducible first | exact HB.out | apply below_alloc | apply pw_below_drewN | apply below_drew1) | exact HB.out)) hb); clear HO_13; clear HB; have HO_13 := n0_; have HB := n1_; clear n0_ n1_; (try clear hb); (try clear hb2); (try clear hk); (try clear hi)))
                          go_ret
                          exact ⟨by first | rfl | (simp [errW_none, errW_some] <;> rfl) | (simp [*, errW_none, errW_some] <;> rfl) | (simp only [decide_eq_true_eq] at *; simp [*, bt]; done), by repeat (first | (with_reducible first | exact HB.out | apply below_alloc | apply pw_below_drewN | apply below_drew1) | exact HB.out)⟩
                        · replace c173 := Bool.eq_false_iff.mpr c173
                          subst c173
                          have H1 : (some true) = some r := by rw [if_neg (show ¬ (false = true) by decide)] at H; exact H
                          clear H
                          have H := H1
                          clear H1
                          obtain rfl := Option.some.inj H
                          obtain ⟨Ao178, co178, eo178⟩ := Kd.R_slice HO_13.out
                          subst eo178
                          go_wp2_with (first | ((with_reducible refine gate_callee (f := 15) rfl ?_); refine goesL_ (some 150) rfl rfl Tryd.func15 (by kernel_rfl) rfl #[.string t388] rfl (by (try simp only [List.map_toArray, List.map_cons, List.map_nil]); first | done | rfl | (simp only [List.length_drop, List.length_take]; rfl)) ?_; (with_reducible refine (spec_PathOk.calls k3 t388 false _ A172.out).mono ?_); rintro e w179 ⟨rfl, hb⟩; refine ⟨_, rfl, ?_⟩; have n0_ := Aside0.mk (Kd.R_below (by (with_reducible repeat (first | apply Kd.R_alloc | apply Kd.R_drewN | apply Kd.R_drew)); exact HO_13.out) hb); have n1_ := Aside0.mk (below_step (by repeat (first | (with_reducible first | exact HB.out | apply below_alloc | apply pw_below_drewN | apply below_drew1) | exact HB.out)) hb); clear HO_13; clear HB; have HO_13 := n0_; have HB := n1_; clear n0_ n1_; (try clear hb); (try clear hb2); (try clear hk); (try clear hi)))
                          go_ret
                          exact ⟨by first | rfl | (simp [errW_none, errW_some] <;> rfl) | (simp [*, errW_none, errW_some] <;> rfl) | (simp only [decide_eq_true_eq] at *; simp [*, bt]; done), by repeat (first | (with_reducible first | exact HB.out | apply below_alloc | apply pw_below_drewN | apply below_drew1) | exact HB.out)⟩
          · rw [if_neg c138] at H
            have c138b0 : (t420.toList == t379.toList) = false := beq_eq_false_iff_ne.mpr c138
            have c138b1 : (t420.toList != t379.toList) = true := bne_iff_ne.mpr c138
            obtain rfl := Option.some.inj H
            go_wp2_with (first | ((with_reducible refine gate_callee (f := 29) rfl ?_); refine goesL_ (some 105) rfl rfl Tryd.func29 (by kernel_rfl) rfl #[.string t379] rfl (by (try simp only [List.map_toArray, List.map_cons, List.map_nil]); first | done | rfl | (simp only [List.length_drop, List.length_take]; rfl)) ?_; (with_reducible refine (impl_Parts.calls kj13 t379 t417 _ A136.out).mono ?_); rintro e w180 ⟨v418, rfl, ho0, hb⟩; refine ⟨_, rfl, ?_⟩; have n0_ := Aside0.mk (Kd.R_elder' (by (with_reducible repeat (first | apply Kd.R_alloc | apply Kd.R_drewN | apply Kd.R_drew)); exact HO_13.out) (Kd.R_base ho0) hb); have n1_ := Aside0.mk (Kd.R_lower (Kd.R_new' ho0 (Kd.R_lt (by (with_reducible repeat (first | apply Kd.R_alloc | apply Kd.R_drewN | apply Kd.R_drew)); exact HO_13.out))) (below_size (by repeat (first | (with_reducible first | exact HB.out | apply below_alloc | apply pw_below_drewN | apply below_drew1) | exact HB.out)))); have n2_ := Aside0.mk (below_step (by repeat (first | (with_reducible first | exact HB.out | apply below_alloc | apply pw_below_drewN | apply below_drew1) | exact HB.out)) hb); clear HO_13; clear HB; have HO_13 := n0_; have HO419 := n1_; have HB := n2_; clear n0_ n1_ n2_; (try clear hb); (try clear hb2); (try clear hk); (try clear hi); (try clear ho0); obtain ⟨Ao181, co181, eo181⟩ := Kd.R_slice HO419.out; subst eo181) | ((with_reducible refine gate_callee (f := 31) rfl ?_); refine goesL_ (some 106) rfl rfl Tryd.func31 (by kernel_rfl) rfl #[.slice Ao181 t417.length co181] rfl (by (try simp only [List.map_toArray, List.map_cons, List.map_nil]); first | done | rfl | (simp only [List.length_drop, List.length_take]; rfl)) ?_; (with_reducible refine (impl_Join.calls _ _ t417 t420 _ ?side1 ?side2 A137.out).mono ?_); (case side1 => repeat (first | exact (Kd.R_reads' HO419.out).2.2 | (with_reducible refine Kd.C_alloc ?_ _) | (with_reducible refine Kd.C_drewN ?_ _) | (with_reducible refine Kd.C_drew ?_))); (case side2 => exact (Kd.R_reads' HO419.out).2.1); rintro e w182 ⟨rfl, hb⟩; refine ⟨_, rfl, ?_⟩; have n0_ := Aside0.mk (Kd.R_below (by (with_reducible repeat (first | apply Kd.R_alloc | apply Kd.R_drewN | apply Kd.R_drew)); exact HO_13.out) hb); have n1_ := Aside0.mk (Kd.R_below (by (with_reducible repeat (first | apply Kd.R_alloc | apply Kd.R_drewN | apply Kd.R_drew)); exact HO419.out) hb); have n2_ := Aside0.mk (below_step (by repeat (first | (with_reducible first | exact HB.out | apply below_alloc | apply pw_below_drewN | apply below_drew1) | exact HB.out)) hb); clear HO_13; clear HO419; clear HB; have HO_13 := n0_; have HO419 := n1_; have HB := n2_; clear n0_ n1_ n2_; (try clear hb); (try clear hb2); (try clear hk); (try clear hi)))
            go_ret
            exact ⟨by first | rfl | (simp [errW_none, errW_some] <;> rfl) | (simp [*, errW_none, errW_some] <;> rfl) | (simp only [decide_eq_true_eq] at *; simp [*, bt]; done), by repeat (first | (with_reducible first | exact HB.out | apply below_alloc | apply pw_below_drewN | apply below_drew1) | exact HB.out)⟩

/-- THE ONE PURE STATEMENT of laws_FnPaths: yours. -/
def laws_FnPaths.Pure : Prop := ∀ (l0 : List Int), l0.length ≤ maxLen → l0.length * 1 ≤ 140737488351232 → (∀ x ∈ l0, (Lit.int .u8 x).wf = true) → ∃ k, laws_FnPaths.f k l0 = some true
theorem laws_FnPaths.walk (P : laws_FnPaths.Pure) (a0 : Option Addr) (len0 cap0 : Nat) (z0 : List Int) (w : World) (w0 : (a0 = none ∧ len0 = 0 ∧ cap0 = 0 ∧ z0 = []) ∨ ∃ x, a0 = some x ∧ len0 ≤ cap0 ∧ cap0 ≤ maxLen ∧ z0.length = cap0 ∧ (∀ i, i < z0.length → w.cell? (x.add i) = some (.int .u8 (z0.getD i 0))) ∧ ∀ n ∈ z0, (Lit.int .u8 n).wf = true) (y0 : len0 * 1 ≤ 140737488351232) :
    Calls Tryd.prog 4 #[.slice a0 len0 cap0] w fun e w' => e = .returned (.bool true) ∧ Below w.heap.size w w' := by
  obtain ⟨l0, rfl, hr0, hm0, hw0, hc0⟩ := ReadsInt.ofRowC w0
  obtain ⟨k, h⟩ := P l0 hm0 y0 hw0
  refine (laws_FnPaths.calls k _ _ l0 true w (Kd.C_of_reads (d := (0 : Int)) (h1 := fun _ => rfl) hr0) hc0 h).mono ?_
  rintro e w' ⟨rfl, hd⟩
  exact ⟨rfl, hd⟩

end Go.Proofs.YtdjepilhenijeaaDoor.PFnPaths
