-- PRINTED for this claim by a program of this session's repo over the kit's printer, with contracts of our own among the functions.
import Derived.Test.YtdjepilhenijeaaGreatDoorPFnNumsx0
import Derived.Test.YtdjepilhenijeaaGreatDoorPFnNumsx1
import Derived.Test.YtdjepilhenijeaaGreatDoorPFnNumsx2
import Derived.Test.YtdjepilhenijeaaGreatDoorPFnNumsx3
import Derived.Test.YtdjepilhenijeaaGreatDoorPFnNumsx4
import Derived.Test.YtdjepilhenijeaaGreatDoorPFnNumsx5
namespace Go.Proofs.YtdjepilhenijeaaGreatDoor.PFnNums
open Go.RowKit Go.Proofs.YtdjepilhenijeaaGreatDoorW.PrintWords Go.Proofs.YtdjepilhenijeaaGreatDoorW.PrintLast Go.Proofs.YtdjepilhenijeaaGreatDoorW.PrintMore
attribute [local go_sem] max2_int min2_int max_two min_two max_three min_three max_four min_four   -- for this text's walks alone
set_option linter.unusedVariables false
set_option linter.unusedSimpArgs false

/-! ### laws_FnNums: function 6 -/
mutual
def laws_FnNums.j0 : Nat → Int → Int → ByteArray → Bool → Int → ByteArray → Bool → Int → Int → ByteArray → Bool → Int → Int → ByteArray → Bool → Bool → Option (Bool)
  | 0, _, _, _, _, _, _, _, _, _, _, _, _, _, _, _, _ => none
  | k + 1, x3, x4, x5, x6, x9, x10, x11, x14, x15, x16, x17, x20, x21, x22, x23, x130 => if x130 = true then (some false) else ((impl_GetOct.f x5).bind fun bt247 => (if x6 = true then (if bt247.2 = true then (if bt247.1 = x3 then (laws_FnNums.j1 k x9 x10 x11 x14 x15 x16 x17 x20 x21 x22 x23 ((x5.size : Int) != x4)) else (laws_FnNums.j1 k x9 x10 x11 x14 x15 x16 x17 x20 x21 x22 x23 true)) else (laws_FnNums.j1 k x9 x10 x11 x14 x15 x16 x17 x20 x21 x22 x23 true)) else (laws_FnNums.j1 k x9 x10 x11 x14 x15 x16 x17 x20 x21 x22 x23 false)))
def laws_FnNums.j1 : Nat → Int → ByteArray → Bool → Int → Int → ByteArray → Bool → Int → Int → ByteArray → Bool → Bool → Option (Bool)
  | 0, _, _, _, _, _, _, _, _, _, _, _, _ => none
  | k + 1, x9, x10, x11, x14, x15, x16, x17, x20, x21, x22, x23, x151 => if x151 = true then (some false) else ((impl_GetHex.f x10).bind fun bt249 => (if x11 = true then (if bt249.2 = true then (if bt249.1 = x9 then (laws_FnNums.j2 k x14 x15 x16 x17 x20 x21 x22 x23 ((x10.size : Int) != 8)) else (laws_FnNums.j2 k x14 x15 x16 x17 x20 x21 x22 x23 true)) else (laws_FnNums.j2 k x14 x15 x16 x17 x20 x21 x22 x23 true)) else (laws_FnNums.j2 k x14 x15 x16 x17 x20 x21 x22 x23 false)))
def laws_FnNums.j2 : Nat → Int → Int → ByteArray → Bool → Int → Int → ByteArray → Bool → Bool → Option (Bool)
  | 0, _, _, _, _, _, _, _, _, _ => none
  | k + 1, x14, x15, x16, x17, x20, x21, x22, x23, x171 => if x171 = true then (some false) else ((impl_GetDec.f x16).bind fun bt251 => (if x17 = true then (if bt251.2 = true then (if bt251.1 = x14 then (if (x16.size : Int) = x15 then ((impl_GetBig.f k x22).bind fun bt253 => (if x23 = true then (if bt253.2 = true then (if bt253.1 = x20 then (some ((x22.size : Int) == x21)) else (some false)) else (some false)) else (some true))) else (some false)) else (some false)) else (some false)) else ((impl_GetBig.f k x22).bind fun bt255 => (if x23 = true then (if bt255.2 = true then (if bt255.1 = x20 then (some ((x22.size : Int) == x21)) else (some false)) else (some false)) else (some true)))))
end
def laws_FnNums.f (k : Nat) (l0 : List Int) : Option (Bool) := (laws_big.f l0).bind fun t223 => (if t223 = true then (some true) else ((spec_DrawPutOct.f k l0).bind fun bt224 => ((impl_PutOct.f bt224.1 bt224.2).bind fun bt226 => ((spec_PutOct.f k bt224.1 bt224.2).bind fun bt228 => ((spec_DrawPutHex.f k l0).bind fun t230 => ((impl_PutHex.f t230).bind fun bt231 => ((spec_PutHex.f k t230).bind fun bt233 => ((spec_DrawPutDec.f k l0).bind fun bt235 => ((impl_PutDec.f bt235.1 bt235.2).bind fun bt237 => ((spec_PutDec.f k bt235.1 bt235.2).bind fun bt239 => ((spec_DrawPutBig.f k l0).bind fun bt241 => ((impl_PutBig.f k bt241.1 bt241.2).bind fun bt243 => ((spec_PutBig.f k bt241.1 bt241.2).bind fun bt245 => (if bt226.1.toList = bt228.1.toList then (if (bt226.2 != bt228.2) = true then (laws_FnNums.j0 k bt224.1 bt224.2 bt226.1 bt226.2 t230 bt231.1 bt231.2 bt235.1 bt235.2 bt237.1 bt237.2 bt241.1 bt241.2 bt243.1 bt243.2 true) else (if bt231.1.toList = bt233.1.toList then (if (bt231.2 != bt233.2) = true then (laws_FnNums.j0 k bt224.1 bt224.2 bt226.1 bt226.2 t230 bt231.1 bt231.2 bt235.1 bt235.2 bt237.1 bt237.2 bt241.1 bt241.2 bt243.1 bt243.2 true) else (if bt237.1.toList = bt239.1.toList then (if (bt237.2 != bt239.2) = true then (laws_FnNums.j0 k bt224.1 bt224.2 bt226.1 bt226.2 t230 bt231.1 bt231.2 bt235.1 bt235.2 bt237.1 bt237.2 bt241.1 bt241.2 bt243.1 bt243.2 true) else (if bt243.1.toList = bt245.1.toList then (laws_FnNums.j0 k bt224.1 bt224.2 bt226.1 bt226.2 t230 bt231.1 bt231.2 bt235.1 bt235.2 bt237.1 bt237.2 bt241.1 bt241.2 bt243.1 bt243.2 (bt243.2 != bt245.2)) else (laws_FnNums.j0 k bt224.1 bt224.2 bt226.1 bt226.2 t230 bt231.1 bt231.2 bt235.1 bt235.2 bt237.1 bt237.2 bt241.1 bt241.2 bt243.1 bt243.2 true))) else (laws_FnNums.j0 k bt224.1 bt224.2 bt226.1 bt226.2 t230 bt231.1 bt231.2 bt235.1 bt235.2 bt237.1 bt237.2 bt241.1 bt241.2 bt243.1 bt243.2 true))) else (laws_FnNums.j0 k bt224.1 bt224.2 bt226.1 bt226.2 t230 bt231.1 bt231.2 bt235.1 bt235.2 bt237.1 bt237.2 bt241.1 bt241.2 bt243.1 bt243.2 true))) else (laws_FnNums.j0 k bt224.1 bt224.2 bt226.1 bt226.2 t230 bt231.1 bt231.2 bt235.1 bt235.2 bt237.1 bt237.2 bt241.1 bt241.2 bt243.1 bt243.2 true)))))))))))))))
theorem laws_FnNums.mono_l : ∀ k, (∀ y0 y1 y2 y3 y4 y5 y6 y7 y8 y9 y10 y11 y12 y13 y14 y15, LeO (laws_FnNums.j0 k y0 y1 y2 y3 y4 y5 y6 y7 y8 y9 y10 y11 y12 y13 y14 y15) (laws_FnNums.j0 (k + 1) y0 y1 y2 y3 y4 y5 y6 y7 y8 y9 y10 y11 y12 y13 y14 y15)) ∧ (∀ y0 y1 y2 y3 y4 y5 y6 y7 y8 y9 y10 y11, LeO (laws_FnNums.j1 k y0 y1 y2 y3 y4 y5 y6 y7 y8 y9 y10 y11) (laws_FnNums.j1 (k + 1) y0 y1 y2 y3 y4 y5 y6 y7 y8 y9 y10 y11)) ∧ (∀ y0 y1 y2 y3 y4 y5 y6 y7 y8, LeO (laws_FnNums.j2 k y0 y1 y2 y3 y4 y5 y6 y7 y8) (laws_FnNums.j2 (k + 1) y0 y1 y2 y3 y4 y5 y6 y7 y8))
  | 0 => ⟨fun _ _ _ _ _ _ _ _ _ _ _ _ _ _ _ _ r h => by simp [laws_FnNums.j0] at h, fun _ _ _ _ _ _ _ _ _ _ _ _ r h => by simp [laws_FnNums.j1] at h, fun _ _ _ _ _ _ _ _ _ r h => by simp [laws_FnNums.j2] at h⟩
  | k + 1 => by
    obtain ⟨ih0, ih1, ih2⟩ := laws_FnNums.mono_l k
    refine ⟨?_, ?_, ?_⟩
    · intro y0 y1 y2 y3 y4 y5 y6 y7 y8 y9 y10 y11 y12 y13 y14 y15
      unfold laws_FnNums.j0
      repeat' first
      | (with_reducible exact ih0 _ _ _ _ _ _ _ _ _ _ _ _ _ _ _ _)
      | (with_reducible exact ih1 _ _ _ _ _ _ _ _ _ _ _ _)
      | (with_reducible exact ih2 _ _ _ _ _ _ _ _ _)
      | (with_reducible exact impl_GetBig.mono _ _)
      | (with_reducible exact impl_PutBig.mono _ _ _)
      | (with_reducible exact spec_DrawPutBig.mono _ _)
      | (with_reducible exact spec_DrawPutDec.mono _ _)
      | (with_reducible exact spec_DrawPutHex.mono _ _)
      | (with_reducible exact spec_DrawPutOct.mono _ _)
      | (with_reducible exact spec_PutBig.mono _ _ _)
      | (with_reducible exact spec_PutDec.mono _ _ _)
      | (with_reducible exact spec_PutHex.mono _ _)
      | (with_reducible exact spec_PutOct.mono _ _ _)
      | (with_reducible exact LeO.refl _)
      | (with_reducible exact LeO.none _)
      | (with_reducible refine LeO.ite ?_ ?_)
      | (with_reducible refine LeO.bind ?_ (fun _ => ?_))
      | exact ih0 _ _ _ _ _ _ _ _ _ _ _ _ _ _ _ _
      | exact ih1 _ _ _ _ _ _ _ _ _ _ _ _
      | exact ih2 _ _ _ _ _ _ _ _ _
      | exact impl_GetBig.mono _ _
      | exact impl_PutBig.mono _ _ _
      | exact spec_DrawPutBig.mono _ _
      | exact spec_DrawPutDec.mono _ _
      | exact spec_DrawPutHex.mono _ _
      | exact spec_DrawPutOct.mono _ _
      | exact spec_PutBig.mono _ _ _
      | exact spec_PutDec.mono _ _ _
      | exact spec_PutHex.mono _ _
      | exact spec_PutOct.mono _ _ _
      | exact LeO.none _
      | refine LeO.ite ?_ ?_
      | refine LeO.bind ?_ (fun _ => ?_)
    · intro y0 y1 y2 y3 y4 y5 y6 y7 y8 y9 y10 y11
      unfold laws_FnNums.j1
      repeat' first
      | (with_reducible exact ih0 _ _ _ _ _ _ _ _ _ _ _ _ _ _ _ _)
      | (with_reducible exact ih1 _ _ _ _ _ _ _ _ _ _ _ _)
      | (with_reducible exact ih2 _ _ _ _ _ _ _ _ _)
      | (with_reducible exact impl_GetBig.mono _ _)
      | (with_reducible exact impl_PutBig.mono _ _ _)
      | (with_reducible exact spec_DrawPutBig.mono _ _)
      | (with_reducible exact spec_DrawPutDec.mono _ _)
      | (with_reducible exact spec_DrawPutHex.mono _ _)
      | (with_reducible exact spec_DrawPutOct.mono _ _)
      | (with_reducible exact spec_PutBig.mono _ _ _)
      | (with_reducible exact spec_PutDec.mono _ _ _)
      | (with_reducible exact spec_PutHex.mono _ _)
      | (with_reducible exact spec_PutOct.mono _ _ _)
      | (with_reducible exact LeO.refl _)
      | (with_reducible exact LeO.none _)
      | (with_reducible refine LeO.ite ?_ ?_)
      | (with_reducible refine LeO.bind ?_ (fun _ => ?_))
      | exact ih0 _ _ _ _ _ _ _ _ _ _ _ _ _ _ _ _
      | exact ih1 _ _ _ _ _ _ _ _ _ _ _ _
      | exact ih2 _ _ _ _ _ _ _ _ _
      | exact impl_GetBig.mono _ _
      | exact impl_PutBig.mono _ _ _
      | exact spec_DrawPutBig.mono _ _
      | exact spec_DrawPutDec.mono _ _
      | exact spec_DrawPutHex.mono _ _
      | exact spec_DrawPutOct.mono _ _
      | exact spec_PutBig.mono _ _ _
      | exact spec_PutDec.mono _ _ _
      | exact spec_PutHex.mono _ _
      | exact spec_PutOct.mono _ _ _
      | exact LeO.none _
      | refine LeO.ite ?_ ?_
      | refine LeO.bind ?_ (fun _ => ?_)
    · intro y0 y1 y2 y3 y4 y5 y6 y7 y8
      unfold laws_FnNums.j2
      repeat' first
      | (with_reducible exact ih0 _ _ _ _ _ _ _ _ _ _ _ _ _ _ _ _)
      | (with_reducible exact ih1 _ _ _ _ _ _ _ _ _ _ _ _)
      | (with_reducible exact ih2 _ _ _ _ _ _ _ _ _)
      | (with_reducible exact impl_GetBig.mono _ _)
      | (with_reducible exact impl_PutBig.mono _ _ _)
      | (with_reducible exact spec_DrawPutBig.mono _ _)
      | (with_reducible exact spec_DrawPutDec.mono _ _)
      | (with_reducible exact spec_DrawPutHex.mono _ _)
      | (with_reducible exact spec_DrawPutOct.mono _ _)
      | (with_reducible exact spec_PutBig.mono _ _ _)
      | (with_reducible exact spec_PutDec.mono _ _ _)
      | (with_reducible exact spec_PutHex.mono _ _)
      | (with_reducible exact spec_PutOct.mono _ _ _)
      | (with_reducible exact LeO.refl _)
      | (with_reducible exact LeO.none _)
      | (with_reducible refine LeO.ite ?_ ?_)
      | (with_reducible refine LeO.bind ?_ (fun _ => ?_))
      | exact ih0 _ _ _ _ _ _ _ _ _ _ _ _ _ _ _ _
      | exact ih1 _ _ _ _ _ _ _ _ _ _ _ _
      | exact ih2 _ _ _ _ _ _ _ _ _
      | exact impl_GetBig.mono _ _
      | exact impl_PutBig.mono _ _ _
      | exact spec_DrawPutBig.mono _ _
      | exact spec_DrawPutDec.mono _ _
      | exact spec_DrawPutHex.mono _ _
      | exact spec_DrawPutOct.mono _ _
      | exact spec_PutBig.mono _ _ _
      | exact spec_PutDec.mono _ _ _
      | exact spec_PutHex.mono _ _
      | exact spec_PutOct.mono _ _ _
      | exact LeO.none _
      | refine LeO.ite ?_ ?_
      | refine LeO.bind ?_ (fun _ => ?_)
theorem laws_FnNums.mono : ∀ a0 k, LeO (laws_FnNums.f k a0) (laws_FnNums.f (k + 1) a0) := by
  intro a0 k
  obtain ⟨ih0, ih1, ih2⟩ := laws_FnNums.mono_l k
  unfold laws_FnNums.f
  repeat' first
      | (with_reducible exact ih0 _ _ _ _ _ _ _ _ _ _ _ _ _ _ _ _)
      | (with_reducible exact ih1 _ _ _ _ _ _ _ _ _ _ _ _)
      | (with_reducible exact ih2 _ _ _ _ _ _ _ _ _)
      | (with_reducible exact impl_GetBig.mono _ _)
      | (with_reducible exact impl_PutBig.mono _ _ _)
      | (with_reducible exact spec_DrawPutBig.mono _ _)
      | (with_reducible exact spec_DrawPutDec.mono _ _)
      | (with_reducible exact spec_DrawPutHex.mono _ _)
      | (with_reducible exact spec_DrawPutOct.mono _ _)
      | (with_reducible exact spec_PutBig.mono _ _ _)
      | (with_reducible exact spec_PutDec.mono _ _ _)
      | (with_reducible exact spec_PutHex.mono _ _)
      | (with_reducible exact spec_PutOct.mono _ _ _)
      | (with_reducible exact LeO.refl _)
      | (with_reducible exact LeO.none _)
      | (with_reducible refine LeO.ite ?_ ?_)
      | (with_reducible refine LeO.bind ?_ (fun _ => ?_))
      | exact ih0 _ _ _ _ _ _ _ _ _ _ _ _ _ _ _ _
      | exact ih1 _ _ _ _ _ _ _ _ _ _ _ _
      | exact ih2 _ _ _ _ _ _ _ _ _
      | exact impl_GetBig.mono _ _
      | exact impl_PutBig.mono _ _ _
      | exact spec_DrawPutBig.mono _ _
      | exact spec_DrawPutDec.mono _ _
      | exact spec_DrawPutHex.mono _ _
      | exact spec_DrawPutOct.mono _ _
      | exact spec_PutBig.mono _ _ _
      | exact spec_PutDec.mono _ _ _
      | exact spec_PutHex.mono _ _
      | exact spec_PutOct.mono _ _ _
      | exact LeO.none _
      | refine LeO.ite ?_ ?_
      | refine LeO.bind ?_ (fun _ => ?_)
set_option maxHeartbeats 8000000 in
set_option maxRecDepth 100000 in
theorem laws_FnNums.calls (k : Nat) (A0 : Option Addr) (c0 : Nat) (l0 : List Int) (r : Bool) (w : World) (hr0 : Kd.C (Kd.int .u8) w A0 l0.length l0) (hc0 : l0.length ≤ c0) (h : laws_FnNums.f k l0 = some r) (hL : Tabs w) :
    Calls Tryz.prog 6 #[.slice A0 l0.length c0] w fun e w' => e = .returned (.bool r) ∧ Below w.heap.size w w' := by
  have HL := Aside0.mk hL
  clear hL
  have HR0 := Aside0.mk hr0
  have HC0 := Aside0.mk hc0
  clear hr0 hc0
  have HB := Aside0.mk (Below.refl w.heap.size w)
  have H : ((laws_big.f l0).bind fun t223 => (if t223 = true then (some true) else ((spec_DrawPutOct.f k l0).bind fun bt224 => ((impl_PutOct.f bt224.1 bt224.2).bind fun bt226 => ((spec_PutOct.f k bt224.1 bt224.2).bind fun bt228 => ((spec_DrawPutHex.f k l0).bind fun t230 => ((impl_PutHex.f t230).bind fun bt231 => ((spec_PutHex.f k t230).bind fun bt233 => ((spec_DrawPutDec.f k l0).bind fun bt235 => ((impl_PutDec.f bt235.1 bt235.2).bind fun bt237 => ((spec_PutDec.f k bt235.1 bt235.2).bind fun bt239 => ((spec_DrawPutBig.f k l0).bind fun bt241 => ((impl_PutBig.f k bt241.1 bt241.2).bind fun bt243 => ((spec_PutBig.f k bt241.1 bt241.2).bind fun bt245 => (if bt226.1.toList = bt228.1.toList then (if (bt226.2 != bt228.2) = true then (laws_FnNums.j0 k bt224.1 bt224.2 bt226.1 bt226.2 t230 bt231.1 bt231.2 bt235.1 bt235.2 bt237.1 bt237.2 bt241.1 bt241.2 bt243.1 bt243.2 true) else (if bt231.1.toList = bt233.1.toList then (if (bt231.2 != bt233.2) = true then (laws_FnNums.j0 k bt224.1 bt224.2 bt226.1 bt226.2 t230 bt231.1 bt231.2 bt235.1 bt235.2 bt237.1 bt237.2 bt241.1 bt241.2 bt243.1 bt243.2 true) else (if bt237.1.toList = bt239.1.toList then (if (bt237.2 != bt239.2) = true then (laws_FnNums.j0 k bt224.1 bt224.2 bt226.1 bt226.2 t230 bt231.1 bt231.2 bt235.1 bt235.2 bt237.1 bt237.2 bt241.1 bt241.2 bt243.1 bt243.2 true) else (if bt243.1.toList = bt245.1.toList then (laws_FnNums.j0 k bt224.1 bt224.2 bt226.1 bt226.2 t230 bt231.1 bt231.2 bt235.1 bt235.2 bt237.1 bt237.2 bt241.1 bt241.2 bt243.1 bt243.2 (bt243.2 != bt245.2)) else (laws_FnNums.j0 k bt224.1 bt224.2 bt226.1 bt226.2 t230 bt231.1 bt231.2 bt235.1 bt235.2 bt237.1 bt237.2 bt241.1 bt241.2 bt243.1 bt243.2 true))) else (laws_FnNums.j0 k bt224.1 bt224.2 bt226.1 bt226.2 t230 bt231.1 bt231.2 bt235.1 bt235.2 bt237.1 bt237.2 bt241.1 bt241.2 bt243.1 bt243.2 true))) else (laws_FnNums.j0 k bt224.1 bt224.2 bt226.1 bt226.2 t230 bt231.1 bt231.2 bt235.1 bt235.2 bt237.1 bt237.2 bt241.1 bt241.2 bt243.1 bt243.2 true))) else (laws_FnNums.j0 k bt224.1 bt224.2 bt226.1 bt226.2 t230 bt231.1 bt231.2 bt235.1 bt235.2 bt237.1 bt237.2 bt241.1 bt241.2 bt243.1 bt243.2 true)))))))))))))))) = some r := h
  clear h
  replace H := Option.bind_eq_some_iff.mp H
  obtain ⟨t223, A20, H⟩ := H
  replace H : (if t223 = true then (some true) else ((spec_DrawPutOct.f k l0).bind fun bt224 => ((impl_PutOct.f bt224.1 bt224.2).bind fun bt226 => ((spec_PutOct.f k bt224.1 bt224.2).bind fun bt228 => ((spec_DrawPutHex.f k l0).bind fun t230 => ((impl_PutHex.f t230).bind fun bt231 => ((spec_PutHex.f k t230).bind fun bt233 => ((spec_DrawPutDec.f k l0).bind fun bt235 => ((impl_PutDec.f bt235.1 bt235.2).bind fun bt237 => ((spec_PutDec.f k bt235.1 bt235.2).bind fun bt239 => ((spec_DrawPutBig.f k l0).bind fun bt241 => ((impl_PutBig.f k bt241.1 bt241.2).bind fun bt243 => ((spec_PutBig.f k bt241.1 bt241.2).bind fun bt245 => (if bt226.1.toList = bt228.1.toList then (if (bt226.2 != bt228.2) = true then (laws_FnNums.j0 k bt224.1 bt224.2 bt226.1 bt226.2 t230 bt231.1 bt231.2 bt235.1 bt235.2 bt237.1 bt237.2 bt241.1 bt241.2 bt243.1 bt243.2 true) else (if bt231.1.toList = bt233.1.toList then (if (bt231.2 != bt233.2) = true then (laws_FnNums.j0 k bt224.1 bt224.2 bt226.1 bt226.2 t230 bt231.1 bt231.2 bt235.1 bt235.2 bt237.1 bt237.2 bt241.1 bt241.2 bt243.1 bt243.2 true) else (if bt237.1.toList = bt239.1.toList then (if (bt237.2 != bt239.2) = true then (laws_FnNums.j0 k bt224.1 bt224.2 bt226.1 bt226.2 t230 bt231.1 bt231.2 bt235.1 bt235.2 bt237.1 bt237.2 bt241.1 bt241.2 bt243.1 bt243.2 true) else (if bt243.1.toList = bt245.1.toList then (laws_FnNums.j0 k bt224.1 bt224.2 bt226.1 bt226.2 t230 bt231.1 bt231.2 bt235.1 bt235.2 bt237.1 bt237.2 bt241.1 bt241.2 bt243.1 bt243.2 (bt243.2 != bt245.2)) else (laws_FnNums.j0 k bt224.1 bt224.2 bt226.1 bt226.2 t230 bt231.1 bt231.2 bt235.1 bt235.2 bt237.1 bt237.2 bt241.1 bt241.2 bt243.1 bt243.2 true))) else (laws_FnNums.j0 k bt224.1 bt224.2 bt226.1 bt226.2 t230 bt231.1 bt231.2 bt235.1 bt235.2 bt237.1 bt237.2 bt241.1 bt241.2 bt243.1 bt243.2 true))) else (laws_FnNums.j0 k bt224.1 bt224.2 bt226.1 bt226.2 t230 bt231.1 bt231.2 bt235.1 bt235.2 bt237.1 bt237.2 bt241.1 bt241.2 bt243.1 bt243.2 true))) else (laws_FnNums.j0 k bt224.1 bt224.2 bt226.1 bt226.2 t230 bt231.1 bt231.2 bt235.1 bt235.2 bt237.1 bt237.2 bt241.1 bt241.2 bt243.1 bt243.2 true))))))))))))))) = some r := H
  have A2 := Aside0.mk A20
  clear A20
  by_cases c3 : t223 = true
  · subst c3
    have H1 : (some true) = some r := by rw [if_pos rfl] at H; exact H
    clear H
    have H := H1
    clear H1
    obtain rfl := Option.some.inj H
    go_enter Tryz.func6, Tryz.ntmps6
    go_wp2_with (first | ((with_reducible refine gate_callee (f := 7) rfl ?_); refine goesL_ (some 29) rfl rfl Tryz.func7 (by kernel_rfl) rfl #[.slice A0 l0.length c0] rfl (by (try simp only [List.map_toArray, List.map_cons, List.map_nil]); first | done | rfl | (simp only [List.length_drop, List.length_take]; rfl)) ?_; (with_reducible refine (laws_big.calls _ _ l0 true _ ?side1 ?side2 A2.out).mono ?_); (case side1 => repeat (first | exact HR0.out | (with_reducible refine Kd.C_alloc ?_ _) | (with_reducible refine Kd.C_drewN ?_ _) | (with_reducible refine Kd.C_drew ?_))); (case side2 => exact HC0.out); rintro e w' ⟨rfl, ⟨nd, rfl⟩⟩; refine ⟨_, rfl, ?_⟩))
    go_ret
    exact ⟨by first | rfl | (simp [errW_none, errW_some] <;> rfl) | (simp [*, errW_none, errW_some] <;> rfl) | (simp only [decide_eq_true_eq] at *; simp [*, bt]; done), by repeat (first | (with_reducible first | exact HB.out | apply below_alloc | apply pw_below_drewN | apply below_drew1) | exact HB.out)⟩
  · replace c3 := Bool.eq_false_iff.mpr c3
    subst c3
    have H1 : ((spec_DrawPutOct.f k l0).bind fun bt224 => ((impl_PutOct.f bt224.1 bt224.2).bind fun bt226 => ((spec_PutOct.f k bt224.1 bt224.2).bind fun bt228 => ((spec_DrawPutHex.f k l0).bind fun t230 => ((impl_PutHex.f t230).bind fun bt231 => ((spec_PutHex.f k t230).bind fun bt233 => ((spec_DrawPutDec.f k l0).bind fun bt235 => ((impl_PutDec.f bt235.1 bt235.2).bind fun bt237 => ((spec_PutDec.f k bt235.1 bt235.2).bind fun bt239 => ((spec_DrawPutBig.f k l0).bind fun bt241 => ((impl_PutBig.f k bt241.1 bt241.2).bind fun bt243 => ((spec_PutBig.f k bt241.1 bt241.2).bind fun bt245 => (if bt226.1.toList = bt228.1.toList then (if (bt226.2 != bt228.2) = true then (laws_FnNums.j0 k bt224.1 bt224.2 bt226.1 bt226.2 t230 bt231.1 bt231.2 bt235.1 bt235.2 bt237.1 bt237.2 bt241.1 bt241.2 bt243.1 bt243.2 true) else (if bt231.1.toList = bt233.1.toList then (if (bt231.2 != bt233.2) = true then (laws_FnNums.j0 k bt224.1 bt224.2 bt226.1 bt226.2 t230 bt231.1 bt231.2 bt235.1 bt235.2 bt237.1 bt237.2 bt241.1 bt241.2 bt243.1 bt243.2 true) else (if bt237.1.toList = bt239.1.toList then (if (bt237.2 != bt239.2) = true then (laws_FnNums.j0 k bt224.1 bt224.2 bt226.1 bt226.2 t230 bt231.1 bt231.2 bt235.1 bt235.2 bt237.1 bt237.2 bt241.1 bt241.2 bt243.1 bt243.2 true) else (if bt243.1.toList = bt245.1.toList then (laws_FnNums.j0 k bt224.1 bt224.2 bt226.1 bt226.2 t230 bt231.1 bt231.2 bt235.1 bt235.2 bt237.1 bt237.2 bt241.1 bt241.2 bt243.1 bt243.2 (bt243.2 != bt245.2)) else (laws_FnNums.j0 k bt224.1 bt224.2 bt226.1 bt226.2 t230 bt231.1 bt231.2 bt235.1 bt235.2 bt237.1 bt237.2 bt241.1 bt241.2 bt243.1 bt243.2 true))) else (laws_FnNums.j0 k bt224.1 bt224.2 bt226.1 bt226.2 t230 bt231.1 bt231.2 bt235.1 bt235.2 bt237.1 bt237.2 bt241.1 bt241.2 bt243.1 bt243.2 true))) else (laws_FnNums.j0 k bt224.1 bt224.2 bt226.1 bt226.2 t230 bt231.1 bt231.2 bt235.1 bt235.2 bt237.1 bt237.2 bt241.1 bt241.2 bt243.1 bt243.2 true))) else (laws_FnNums.j0 k bt224.1 bt224.2 bt226.1 bt226.2 t230 bt231.1 bt231.2 bt235.1 bt235.2 bt237.1 bt237.2 bt241.1 bt241.2 bt243.1 bt243.2 true)))))))))))))) = some r := by rw [if_neg (show ¬ (false = true) by decide)] at H; exact H
    clear H
    have H := H1
    clear H1
    replace H := Option.bind_eq_some_iff.mp H
    obtain ⟨⟨t224, t225⟩, A40, H⟩ := H
    replace H : ((impl_PutOct.f t224 t225).bind fun bt226 => ((spec_PutOct.f k t224 t225).bind fun bt228 => ((spec_DrawPutHex.f k l0).bind fun t230 => ((impl_PutHex.f t230).bind fun bt231 => ((spec_PutHex.f k t230).bind fun bt233 => ((spec_DrawPutDec.f k l0).bind fun bt235 => ((impl_PutDec.f bt235.1 bt235.2).bind fun bt237 => ((spec_PutDec.f k bt235.1 bt235.2).bind fun bt239 => ((spec_DrawPutBig.f k l0).bind fun bt241 => ((impl_PutBig.f k bt241.1 bt241.2).bind fun bt243 => ((spec_PutBig.f k bt241.1 bt241.2).bind fun bt245 => (if bt226.1.toList = bt228.1.toList then (if (bt226.2 != bt228.2) = true then (laws_FnNums.j0 k t224 t225 bt226.1 bt226.2 t230 bt231.1 bt231.2 bt235.1 bt235.2 bt237.1 bt237.2 bt241.1 bt241.2 bt243.1 bt243.2 true) else (if bt231.1.toList = bt233.1.toList then (if (bt231.2 != bt233.2) = true then (laws_FnNums.j0 k t224 t225 bt226.1 bt226.2 t230 bt231.1 bt231.2 bt235.1 bt235.2 bt237.1 bt237.2 bt241.1 bt241.2 bt243.1 bt243.2 true) else (if bt237.1.toList = bt239.1.toList then (if (bt237.2 != bt239.2) = true then (laws_FnNums.j0 k t224 t225 bt226.1 bt226.2 t230 bt231.1 bt231.2 bt235.1 bt235.2 bt237.1 bt237.2 bt241.1 bt241.2 bt243.1 bt243.2 true) else (if bt243.1.toList = bt245.1.toList then (laws_FnNums.j0 k t224 t225 bt226.1 bt226.2 t230 bt231.1 bt231.2 bt235.1 bt235.2 bt237.1 bt237.2 bt241.1 bt241.2 bt243.1 bt243.2 (bt243.2 != bt245.2)) else (laws_FnNums.j0 k t224 t225 bt226.1 bt226.2 t230 bt231.1 bt231.2 bt235.1 bt235.2 bt237.1 bt237.2 bt241.1 bt241.2 bt243.1 bt243.2 true))) else (laws_FnNums.j0 k t224 t225 bt226.1 bt226.2 t230 bt231.1 bt231.2 bt235.1 bt235.2 bt237.1 bt237.2 bt241.1 bt241.2 bt243.1 bt243.2 true))) else (laws_FnNums.j0 k t224 t225 bt226.1 bt226.2 t230 bt231.1 bt231.2 bt235.1 bt235.2 bt237.1 bt237.2 bt241.1 bt241.2 bt243.1 bt243.2 true))) else (laws_FnNums.j0 k t224 t225 bt226.1 bt226.2 t230 bt231.1 bt231.2 bt235.1 bt235.2 bt237.1 bt237.2 bt241.1 bt241.2 bt243.1 bt243.2 true))))))))))))) = some r := H
    have A4 := Aside0.mk A40
    clear A40
    replace H := Option.bind_eq_some_iff.mp H
    obtain ⟨⟨t226, t227⟩, A50, H⟩ := H
    replace H : ((spec_PutOct.f k t224 t225).bind fun bt228 => ((spec_DrawPutHex.f k l0).bind fun t230 => ((impl_PutHex.f t230).bind fun bt231 => ((spec_PutHex.f k t230).bind fun bt233 => ((spec_DrawPutDec.f k l0).bind fun bt235 => ((impl_PutDec.f bt235.1 bt235.2).bind fun bt237 => ((spec_PutDec.f k bt235.1 bt235.2).bind fun bt239 => ((spec_DrawPutBig.f k l0).bind fun bt241 => ((impl_PutBig.f k bt241.1 bt241.2).bind fun bt243 => ((spec_PutBig.f k bt241.1 bt241.2).bind fun bt245 => (if t226.toList = bt228.1.toList then (if (t227 != bt228.2) = true then (laws_FnNums.j0 k t224 t225 t226 t227 t230 bt231.1 bt231.2 bt235.1 bt235.2 bt237.1 bt237.2 bt241.1 bt241.2 bt243.1 bt243.2 true) else (if bt231.1.toList = bt233.1.toList then (if (bt231.2 != bt233.2) = true then (laws_FnNums.j0 k t224 t225 t226 t227 t230 bt231.1 bt231.2 bt235.1 bt235.2 bt237.1 bt237.2 bt241.1 bt241.2 bt243.1 bt243.2 true) else (if bt237.1.toList = bt239.1.toList then (if (bt237.2 != bt239.2) = true then (laws_FnNums.j0 k t224 t225 t226 t227 t230 bt231.1 bt231.2 bt235.1 bt235.2 bt237.1 bt237.2 bt241.1 bt241.2 bt243.1 bt243.2 true) else (if bt243.1.toList = bt245.1.toList then (laws_FnNums.j0 k t224 t225 t226 t227 t230 bt231.1 bt231.2 bt235.1 bt235.2 bt237.1 bt237.2 bt241.1 bt241.2 bt243.1 bt243.2 (bt243.2 != bt245.2)) else (laws_FnNums.j0 k t224 t225 t226 t227 t230 bt231.1 bt231.2 bt235.1 bt235.2 bt237.1 bt237.2 bt241.1 bt241.2 bt243.1 bt243.2 true))) else (laws_FnNums.j0 k t224 t225 t226 t227 t230 bt231.1 bt231.2 bt235.1 bt235.2 bt237.1 bt237.2 bt241.1 bt241.2 bt243.1 bt243.2 true))) else (laws_FnNums.j0 k t224 t225 t226 t227 t230 bt231.1 bt231.2 bt235.1 bt235.2 bt237.1 bt237.2 bt241.1 bt241.2 bt243.1 bt243.2 true))) else (laws_FnNums.j0 k t224 t225 t226 t227 t230 bt231.1 bt231.2 bt235.1 bt235.2 bt237.1 bt237.2 bt241.1 bt241.2 bt243.1 bt243.2 true)))))))))))) = some r := H
    have A5 := Aside0.mk A50
    clear A50
    replace H := Option.bind_eq_some_iff.mp H
    obtain ⟨⟨t228, t229⟩, A60, H⟩ := H
    replace H : ((spec_DrawPutHex.f k l0).bind fun t230 => ((impl_PutHex.f t230).bind fun bt231 => ((spec_PutHex.f k t230).bind fun bt233 => ((spec_DrawPutDec.f k l0).bind fun bt235 => ((impl_PutDec.f bt235.1 bt235.2).bind fun bt237 => ((spec_PutDec.f k bt235.1 bt235.2).bind fun bt239 => ((spec_DrawPutBig.f k l0).bind fun bt241 => ((impl_PutBig.f k bt241.1 bt241.2).bind fun bt243 => ((spec_PutBig.f k bt241.1 bt241.2).bind fun bt245 => (if t226.toList = t228.toList then (if (t227 != t229) = true then (laws_FnNums.j0 k t224 t225 t226 t227 t230 bt231.1 bt231.2 bt235.1 bt235.2 bt237.1 bt237.2 bt241.1 bt241.2 bt243.1 bt243.2 true) else (if bt231.1.toList = bt233.1.toList then (if (bt231.2 != bt233.2) = true then (laws_FnNums.j0 k t224 t225 t226 t227 t230 bt231.1 bt231.2 bt235.1 bt235.2 bt237.1 bt237.2 bt241.1 bt241.2 bt243.1 bt243.2 true) else (if bt237.1.toList = bt239.1.toList then (if (bt237.2 != bt239.2) = true then (laws_FnNums.j0 k t224 t225 t226 t227 t230 bt231.1 bt231.2 bt235.1 bt235.2 bt237.1 bt237.2 bt241.1 bt241.2 bt243.1 bt243.2 true) else (if bt243.1.toList = bt245.1.toList then (laws_FnNums.j0 k t224 t225 t226 t227 t230 bt231.1 bt231.2 bt235.1 bt235.2 bt237.1 bt237.2 bt241.1 bt241.2 bt243.1 bt243.2 (bt243.2 != bt245.2)) else (laws_FnNums.j0 k t224 t225 t226 t227 t230 bt231.1 bt231.2 bt235.1 bt235.2 bt237.1 bt237.2 bt241.1 bt241.2 bt243.1 bt243.2 true))) else (laws_FnNums.j0 k t224 t225 t226 t227 t230 bt231.1 bt231.2 bt235.1 bt235.2 bt237.1 bt237.2 bt241.1 bt241.2 bt243.1 bt243.2 true))) else (laws_FnNums.j0 k t224 t225 t226 t227 t230 bt231.1 bt231.2 bt235.1 bt235.2 bt237.1 bt237.2 bt241.1 bt241.2 bt243.1 bt243.2 true))) else (laws_FnNums.j0 k t224 t225 t226 t227 t230 bt231.1 bt231.2 bt235.1 bt235.2 bt237.1 bt237.2 bt241.1 bt241.2 bt243.1 bt243.2 true))))))))))) = some r := H
    have A6 := Aside0.mk A60
    clear A60
    replace H := Option.bind_eq_some_iff.mp H
    obtain ⟨t230, A70, H⟩ := H
    replace H : ((impl_PutHex.f t230).bind fun bt231 => ((spec_PutHex.f k t230).bind fun bt233 => ((spec_DrawPutDec.f k l0).bind fun bt235 => ((impl_PutDec.f bt235.1 bt235.2).bind fun bt237 => ((spec_PutDec.f k bt235.1 bt235.2).bind fun bt239 => ((spec_DrawPutBig.f k l0).bind fun bt241 => ((impl_PutBig.f k bt241.1 bt241.2).bind fun bt243 => ((spec_PutBig.f k bt241.1 bt241.2).bind fun bt245 => (if t226.toList = t228.toList then (if (t227 != t229) = true then (laws_FnNums.j0 k t224 t225 t226 t227 t230 bt231.1 bt231.2 bt235.1 bt235.2 bt237.1 bt237.2 bt241.1 bt241.2 bt243.1 bt243.2 true) else (if bt231.1.toList = bt233.1.toList then (if (bt231.2 != bt233.2) = true then (laws_FnNums.j0 k t224 t225 t226 t227 t230 bt231.1 bt231.2 bt235.1 bt235.2 bt237.1 bt237.2 bt241.1 bt241.2 bt243.1 bt243.2 true) else (if bt237.1.toList = bt239.1.toList then (if (bt237.2 != bt239.2) = true then (laws_FnNums.j0 k t224 t225 t226 t227 t230 bt231.1 bt231.2 bt235.1 bt235.2 bt237.1 bt237.2 bt241.1 bt241.2 bt243.1 bt243.2 true) else (if bt243.1.toList = bt245.1.toList then (laws_FnNums.j0 k t224 t225 t226 t227 t230 bt231.1 bt231.2 bt235.1 bt235.2 bt237.1 bt237.2 bt241.1 bt241.2 bt243.1 bt243.2 (bt243.2 != bt245.2)) else (laws_FnNums.j0 k t224 t225 t226 t227 t230 bt231.1 bt231.2 bt235.1 bt235.2 bt237.1 bt237.2 bt241.1 bt241.2 bt243.1 bt243.2 true))) else (laws_FnNums.j0 k t224 t225 t226 t227 t230 bt231.1 bt231.2 bt235.1 bt235.2 bt237.1 bt237.2 bt241.1 bt241.2 bt243.1 bt243.2 true))) else (laws_FnNums.j0 k t224 t225 t226 t227 t230 bt231.1 bt231.2 bt235.1 bt235.2 bt237.1 bt237.2 bt241.1 bt241.2 bt243.1 bt243.2 true))) else (laws_FnNums.j0 k t224 t225 t226 t227 t230 bt231.1 bt231.2 bt235.1 bt235.2 bt237.1 bt237.2 bt241.1 bt241.2 bt243.1 bt243.2 true)))))))))) = some r := H
    have A7 := Aside0.mk A70
    clear A70
    replace H := Option.bind_eq_some_iff.mp H
    obtain ⟨⟨t231, t232⟩, A80, H⟩ := H
    replace H : ((spec_PutHex.f k t230).bind fun bt233 => ((spec_DrawPutDec.f k l0).bind fun bt235 => ((impl_PutDec.f bt235.1 bt235.2).bind fun bt237 => ((spec_PutDec.f k bt235.1 bt235.2).bind fun bt239 => ((spec_DrawPutBig.f k l0).bind fun bt241 => ((impl_PutBig.f k bt241.1 bt241.2).bind fun bt243 => ((spec_PutBig.f k bt241.1 bt241.2).bind fun bt245 => (if t226.toList = t228.toList then (if (t227 != t229) = true then (laws_FnNums.j0 k t224 t225 t226 t227 t230 t231 t232 bt235.1 bt235.2 bt237.1 bt237.2 bt241.1 bt241.2 bt243.1 bt243.2 true) else (if t231.toList = bt233.1.toList then (if (t232 != bt233.2) = true then (laws_FnNums.j0 k t224 t225 t226 t227 t230 t231 t232 bt235.1 bt235.2 bt237.1 bt237.2 bt241.1 bt241.2 bt243.1 bt243.2 true) else (if bt237.1.toList = bt239.1.toList then (if (bt237.2 != bt239.2) = true then (laws_FnNums.j0 k t224 t225 t226 t227 t230 t231 t232 bt235.1 bt235.2 bt237.1 bt237.2 bt241.1 bt241.2 bt243.1 bt243.2 true) else (if bt243.1.toList = bt245.1.toList then (laws_FnNums.j0 k t224 t225 t226 t227 t230 t231 t232 bt235.1 bt235.2 bt237.1 bt237.2 bt241.1 bt241.2 bt243.1 bt243.2 (bt243.2 != bt245.2)) else (laws_FnNums.j0 k t224 t225 t226 t227 t230 t231 t232 bt235.1 bt235.2 bt237.1 bt237.2 bt241.1 bt241.2 bt243.1 bt243.2 true))) else (laws_FnNums.j0 k t224 t225 t226 t227 t230 t231 t232 bt235.1 bt235.2 bt237.1 bt237.2 bt241.1 bt241.2 bt243.1 bt243.2 true))) else (laws_FnNums.j0 k t224 t225 t226 t227 t230 t231 t232 bt235.1 bt235.2 bt237.1 bt237.2 bt241.1 bt241.2 bt243.1 bt243.2 true))) else (laws_FnNums.j0 k t224 t225 t226 t227 t230 t231 t232 bt235.1 bt235.2 bt237.1 bt237.2 bt241.1 bt241.2 bt243.1 bt243.2 true))))))))) = some r := H
    have A8 := Aside0.mk A80
    clear A80
    replace H := Option.bind_eq_some_iff.mp H
    obtain ⟨⟨t233, t234⟩, A90, H⟩ := H
    replace H : ((spec_DrawPutDec.f k l0).bind fun bt235 => ((impl_PutDec.f bt235.1 bt235.2).bind fun bt237 => ((spec_PutDec.f k bt235.1 bt235.2).bind fun bt239 => ((spec_DrawPutBig.f k l0).bind fun bt241 => ((impl_PutBig.f k bt241.1 bt241.2).bind fun bt243 => ((spec_PutBig.f k bt241.1 bt241.2).bind fun bt245 => (if t226.toList = t228.toList then (if (t227 != t229) = true then (laws_FnNums.j0 k t224 t225 t226 t227 t230 t231 t232 bt235.1 bt235.2 bt237.1 bt237.2 bt241.1 bt241.2 bt243.1 bt243.2 true) else (if t231.toList = t233.toList then (if (t232 != t234) = true then (laws_FnNums.j0 k t224 t225 t226 t227 t230 t231 t232 bt235.1 bt235.2 bt237.1 bt237.2 bt241.1 bt241.2 bt243.1 bt243.2 true) else (if bt237.1.toList = bt239.1.toList then (if (bt237.2 != bt239.2) = true then (laws_FnNums.j0 k t224 t225 t226 t227 t230 t231 t232 bt235.1 bt235.2 bt237.1 bt237.2 bt241.1 bt241.2 bt243.1 bt243.2 true) else (if bt243.1.toList = bt245.1.toList then (laws_FnNums.j0 k t224 t225 t226 t227 t230 t231 t232 bt235.1 bt235.2 bt237.1 bt237.2 bt241.1 bt241.2 bt243.1 bt243.2 (bt243.2 != bt245.2)) else (laws_FnNums.j0 k t224 t225 t226 t227 t230 t231 t232 bt235.1 bt235.2 bt237.1 bt237.2 bt241.1 bt241.2 bt243.1 bt243.2 true))) else (laws_FnNums.j0 k t224 t225 t226 t227 t230 t231 t232 bt235.1 bt235.2 bt237.1 bt237.2 bt241.1 bt241.2 bt243.1 bt243.2 true))) else (laws_FnNums.j0 k t224 t225 t226 t227 t230 t231 t232 bt235.1 bt235.2 bt237.1 bt237.2 bt241.1 bt241.2 bt243.1 bt243.2 true))) else (laws_FnNums.j0 k t224 t225 t226 t227 t230 t231 t232 bt235.1 bt235.2 bt237.1 bt237.2 bt241.1 bt241.2 bt243.1 bt243.2 true)))))))) = some r := H
    have A9 := Aside0.mk A90
    clear A90
    replace H := Option.bind_eq_some_iff.mp H
    obtain ⟨⟨t235, t236⟩, A100, H⟩ := H
    replace H : ((impl_PutDec.f t235 t236).bind fun bt237 => ((spec_PutDec.f k t235 t236).bind fun bt239 => ((spec_DrawPutBig.f k l0).bind fun bt241 => ((impl_PutBig.f k bt241.1 bt241.2).bind fun bt243 => ((spec_PutBig.f k bt241.1 bt241.2).bind fun bt245 => (if t226.toList = t228.toList then (if (t227 != t229) = true then (laws_FnNums.j0 k t224 t225 t226 t227 t230 t231 t232 t235 t236 bt237.1 bt237.2 bt241.1 bt241.2 bt243.1 bt243.2 true) else (if t231.toList = t233.toList then (if (t232 != t234) = true then (laws_FnNums.j0 k t224 t225 t226 t227 t230 t231 t232 t235 t236 bt237.1 bt237.2 bt241.1 bt241.2 bt243.1 bt243.2 true) else (if bt237.1.toList = bt239.1.toList then (if (bt237.2 != bt239.2) = true then (laws_FnNums.j0 k t224 t225 t226 t227 t230 t231 t232 t235 t236 bt237.1 bt237.2 bt241.1 bt241.2 bt243.1 bt243.2 true) else (if bt243.1.toList = bt245.1.toList then (laws_FnNums.j0 k t224 t225 t226 t227 t230 t231 t232 t235 t236 bt237.1 bt237.2 bt241.1 bt241.2 bt243.1 bt243.2 (bt243.2 != bt245.2)) else (laws_FnNums.j0 k t224 t225 t226 t227 t230 t231 t232 t235 t236 bt237.1 bt237.2 bt241.1 bt241.2 bt243.1 bt243.2 true))) else (laws_FnNums.j0 k t224 t225 t226 t227 t230 t231 t232 t235 t236 bt237.1 bt237.2 bt241.1 bt241.2 bt243.1 bt243.2 true))) else (laws_FnNums.j0 k t224 t225 t226 t227 t230 t231 t232 t235 t236 bt237.1 bt237.2 bt241.1 bt241.2 bt243.1 bt243.2 true))) else (laws_FnNums.j0 k t224 t225 t226 t227 t230 t231 t232 t235 t236 bt237.1 bt237.2 bt241.1 bt241.2 bt243.1 bt243.2 true))))))) = some r := H
    have A10 := Aside0.mk A100
    clear A100
    replace H := Option.bind_eq_some_iff.mp H
    obtain ⟨⟨t237, t238⟩, A110, H⟩ := H
    replace H : ((spec_PutDec.f k t235 t236).bind fun bt239 => ((spec_DrawPutBig.f k l0).bind fun bt241 => ((impl_PutBig.f k bt241.1 bt241.2).bind fun bt243 => ((spec_PutBig.f k bt241.1 bt241.2).bind fun bt245 => (if t226.toList = t228.toList then (if (t227 != t229) = true then (laws_FnNums.j0 k t224 t225 t226 t227 t230 t231 t232 t235 t236 t237 t238 bt241.1 bt241.2 bt243.1 bt243.2 true) else (if t231.toList = t233.toList then (if (t232 != t234) = true then (laws_FnNums.j0 k t224 t225 t226 t227 t230 t231 t232 t235 t236 t237 t238 bt241.1 bt241.2 bt243.1 bt243.2 true) else (if t237.toList = bt239.1.toList then (if (t238 != bt239.2) = true then (laws_FnNums.j0 k t224 t225 t226 t227 t230 t231 t232 t235 t236 t237 t238 bt241.1 bt241.2 bt243.1 bt243.2 true) else (if bt243.1.toList = bt245.1.toList then (laws_FnNums.j0 k t224 t225 t226 t227 t230 t231 t232 t235 t236 t237 t238 bt241.1 bt241.2 bt243.1 bt243.2 (bt243.2 != bt245.2)) else (laws_FnNums.j0 k t224 t225 t226 t227 t230 t231 t232 t235 t236 t237 t238 bt241.1 bt241.2 bt243.1 bt243.2 true))) else (laws_FnNums.j0 k t224 t225 t226 t227 t230 t231 t232 t235 t236 t237 t238 bt241.1 bt241.2 bt243.1 bt243.2 true))) else (laws_FnNums.j0 k t224 t225 t226 t227 t230 t231 t232 t235 t236 t237 t238 bt241.1 bt241.2 bt243.1 bt243.2 true))) else (laws_FnNums.j0 k t224 t225 t226 t227 t230 t231 t232 t235 t236 t237 t238 bt241.1 bt241.2 bt243.1 bt243.2 true)))))) = some r := H
    have A11 := Aside0.mk A110
    clear A110
    replace H := Option.bind_eq_some_iff.mp H
    obtain ⟨⟨t239, t240⟩, A120, H⟩ := H
    replace H : ((spec_DrawPutBig.f k l0).bind fun bt241 => ((impl_PutBig.f k bt241.1 bt241.2).bind fun bt243 => ((spec_PutBig.f k bt241.1 bt241.2).bind fun bt245 => (if t226.toList = t228.toList then (if (t227 != t229) = true then (laws_FnNums.j0 k t224 t225 t226 t227 t230 t231 t232 t235 t236 t237 t238 bt241.1 bt241.2 bt243.1 bt243.2 true) else (if t231.toList = t233.toList then (if (t232 != t234) = true then (laws_FnNums.j0 k t224 t225 t226 t227 t230 t231 t232 t235 t236 t237 t238 bt241.1 bt241.2 bt243.1 bt243.2 true) else (if t237.toList = t239.toList then (if (t238 != t240) = true then (laws_FnNums.j0 k t224 t225 t226 t227 t230 t231 t232 t235 t236 t237 t238 bt241.1 bt241.2 bt243.1 bt243.2 true) else (if bt243.1.toList = bt245.1.toList then (laws_FnNums.j0 k t224 t225 t226 t227 t230 t231 t232 t235 t236 t237 t238 bt241.1 bt241.2 bt243.1 bt243.2 (bt243.2 != bt245.2)) else (laws_FnNums.j0 k t224 t225 t226 t227 t230 t231 t232 t235 t236 t237 t238 bt241.1 bt241.2 bt243.1 bt243.2 true))) else (laws_FnNums.j0 k t224 t225 t226 t227 t230 t231 t232 t235 t236 t237 t238 bt241.1 bt241.2 bt243.1 bt243.2 true))) else (laws_FnNums.j0 k t224 t225 t226 t227 t230 t231 t232 t235 t236 t237 t238 bt241.1 bt241.2 bt243.1 bt243.2 true))) else (laws_FnNums.j0 k t224 t225 t226 t227 t230 t231 t232 t235 t236 t237 t238 bt241.1 bt241.2 bt243.1 bt243.2 true))))) = some r := H
    have A12 := Aside0.mk A120
    clear A120
    replace H := Option.bind_eq_some_iff.mp H
    obtain ⟨⟨t241, t242⟩, A130, H⟩ := H
    replace H : ((impl_PutBig.f k t241 t242).bind fun bt243 => ((spec_PutBig.f k t241 t242).bind fun bt245 => (if t226.toList = t228.toList then (if (t227 != t229) = true then (laws_FnNums.j0 k t224 t225 t226 t227 t230 t231 t232 t235 t236 t237 t238 t241 t242 bt243.1 bt243.2 true) else (if t231.toList = t233.toList then (if (t232 != t234) = true then (laws_FnNums.j0 k t224 t225 t226 t227 t230 t231 t232 t235 t236 t237 t238 t241 t242 bt243.1 bt243.2 true) else (if t237.toList = t239.toList then (if (t238 != t240) = true then (laws_FnNums.j0 k t224 t225 t226 t227 t230 t231 t232 t235 t236 t237 t238 t241 t242 bt243.1 bt243.2 true) else (if bt243.1.toList = bt245.1.toList then (laws_FnNums.j0 k t224 t225 t226 t227 t230 t231 t232 t235 t236 t237 t238 t241 t242 bt243.1 bt243.2 (bt243.2 != bt245.2)) else (laws_FnNums.j0 k t224 t225 t226 t227 t230 t231 t232 t235 t236 t237 t238 t241 t242 bt243.1 bt243.2 true))) else (laws_FnNums.j0 k t224 t225 t226 t227 t230 t231 t232 t235 t236 t237 t238 t241 t242 bt243.1 bt243.2 true))) else (laws_FnNums.j0 k t224 t225 t226 t227 t230 t231 t232 t235 t236 t237 t238 t241 t242 bt243.1 bt243.2 true))) else (laws_FnNums.j0 k t224 t225 t226 t227 t230 t231 t232 t235 t236 t237 t238 t241 t242 bt243.1 bt243.2 true)))) = some r := H
    have A13 := Aside0.mk A130
    clear A130
    replace H := Option.bind_eq_some_iff.mp H
    obtain ⟨⟨t243, t244⟩, A140, H⟩ := H
    replace H : ((spec_PutBig.f k t241 t242).bind fun bt245 => (if t226.toList = t228.toList then (if (t227 != t229) = true then (laws_FnNums.j0 k t224 t225 t226 t227 t230 t231 t232 t235 t236 t237 t238 t241 t242 t243 t244 true) else (if t231.toList = t233.toList then (if (t232 != t234) = true then (laws_FnNums.j0 k t224 t225 t226 t227 t230 t231 t232 t235 t236 t237 t238 t241 t242 t243 t244 true) else (if t237.toList = t239.toList then (if (t238 != t240) = true then (laws_FnNums.j0 k t224 t225 t226 t227 t230 t231 t232 t235 t236 t237 t238 t241 t242 t243 t244 true) else (if t243.toList = bt245.1.toList then (laws_FnNums.j0 k t224 t225 t226 t227 t230 t231 t232 t235 t236 t237 t238 t241 t242 t243 t244 (t244 != bt245.2)) else (laws_FnNums.j0 k t224 t225 t226 t227 t230 t231 t232 t235 t236 t237 t238 t241 t242 t243 t244 true))) else (laws_FnNums.j0 k t224 t225 t226 t227 t230 t231 t232 t235 t236 t237 t238 t241 t242 t243 t244 true))) else (laws_FnNums.j0 k t224 t225 t226 t227 t230 t231 t232 t235 t236 t237 t238 t241 t242 t243 t244 true))) else (laws_FnNums.j0 k t224 t225 t226 t227 t230 t231 t232 t235 t236 t237 t238 t241 t242 t243 t244 true))) = some r := H
    have A14 := Aside0.mk A140
    clear A140
    replace H := Option.bind_eq_some_iff.mp H
    obtain ⟨⟨t245, t246⟩, A150, H⟩ := H
    replace H : (if t226.toList = t228.toList then (if (t227 != t229) = true then (laws_FnNums.j0 k t224 t225 t226 t227 t230 t231 t232 t235 t236 t237 t238 t241 t242 t243 t244 true) else (if t231.toList = t233.toList then (if (t232 != t234) = true then (laws_FnNums.j0 k t224 t225 t226 t227 t230 t231 t232 t235 t236 t237 t238 t241 t242 t243 t244 true) else (if t237.toList = t239.toList then (if (t238 != t240) = true then (laws_FnNums.j0 k t224 t225 t226 t227 t230 t231 t232 t235 t236 t237 t238 t241 t242 t243 t244 true) else (if t243.toList = t245.toList then (laws_FnNums.j0 k t224 t225 t226 t227 t230 t231 t232 t235 t236 t237 t238 t241 t242 t243 t244 (t244 != t246)) else (laws_FnNums.j0 k t224 t225 t226 t227 t230 t231 t232 t235 t236 t237 t238 t241 t242 t243 t244 true))) else (laws_FnNums.j0 k t224 t225 t226 t227 t230 t231 t232 t235 t236 t237 t238 t241 t242 t243 t244 true))) else (laws_FnNums.j0 k t224 t225 t226 t227 t230 t231 t232 t235 t236 t237 t238 t241 t242 t243 t244 true))) else (laws_FnNums.j0 k t224 t225 t226 t227 t230 t231 t232 t235 t236 t237 t238 t241 t242 t243 t244 true)) = some r := H
    have A15 := Aside0.mk A150
    clear A150
    have HC16 := Aside0.mk H
    clear H
    go_enter Tryz.func6, Tryz.ntmps6
    go_upto_region 15 with (first | ((with_reducible refine gate_callee (f := 7) rfl ?_); refine goesL_ (some 29) rfl rfl Tryz.func7 (by kernel_rfl) rfl #[.slice A0 l0.length c0] rfl (by (try simp only [List.map_toArray, List.map_cons, List.map_nil]); first | done | rfl | (simp only [List.length_drop, List.length_take]; rfl)) ?_; (with_reducible refine (laws_big.calls _ _ l0 false _ ?side1 ?side2 A2.out).mono ?_); (case side1 => repeat (first | exact HR0.out | (with_reducible refine Kd.C_alloc ?_ _) | (with_reducible refine Kd.C_drewN ?_ _) | (with_reducible refine Kd.C_drew ?_))); (case side2 => exact HC0.out); rintro e w' ⟨rfl, ⟨nd, rfl⟩⟩; refine ⟨_, rfl, ?_⟩) | ((with_reducible refine gate_callee (f := 68) rfl ?_); refine goesL_ (some 32) rfl rfl Tryz.func68 (by kernel_rfl) rfl #[.slice A0 l0.length c0] rfl (by (try simp only [List.map_toArray, List.map_cons, List.map_nil]); first | done | rfl | (simp only [List.length_drop, List.length_take]; rfl)) ?_; (with_reducible refine (spec_DrawPutOct.calls k _ _ l0 t224 t225 _ ?side1 ?side2 A4.out).mono ?_); (case side1 => repeat (first | exact HR0.out | (with_reducible refine Kd.C_alloc ?_ _) | (with_reducible refine Kd.C_drewN ?_ _) | (with_reducible refine Kd.C_drew ?_))); (case side2 => exact HC0.out); rintro e w17 ⟨rfl, hb⟩; refine ⟨_, rfl, ?_⟩; have n0_ := Aside0.mk (below_step (by repeat (first | (with_reducible first | exact HB.out | apply below_alloc | apply pw_below_drewN | apply below_drew1) | exact HB.out)) hb); clear HB; have HB := n0_; clear n0_; (try clear hb); (try clear hb2); (try clear hk); (try clear hi)) | ((with_reducible refine gate_callee (f := 20) rfl ?_); refine goesL_ (some 38) rfl rfl Tryz.func20 (by kernel_rfl) rfl #[.int .i64 t224, .int .i64 t225] rfl (by (try simp only [List.map_toArray, List.map_cons, List.map_nil]); first | done | rfl | (simp only [List.length_drop, List.length_take]; rfl)) ?_; (with_reducible refine (impl_PutOct.calls t224 t225 t226 t227 _ A5.out (Tabs.below HL.out (by repeat (first | (with_reducible first | exact HB.out | apply below_alloc | apply pw_below_drewN | apply below_drew1) | exact HB.out)))).mono ?_); rintro e w18 ⟨rfl, hb⟩; refine ⟨_, rfl, ?_⟩; have n0_ := Aside0.mk (below_step (by repeat (first | (with_reducible first | exact HB.out | apply below_alloc | apply pw_below_drewN | apply below_drew1) | exact HB.out)) hb); clear HB; have HB := n0_; clear n0_; (try clear hb); (try clear hb2); (try clear hk); (try clear hi)) | ((with_reducible refine gate_callee (f := 69) rfl ?_); refine goesL_ (some 44) rfl rfl Tryz.func69 (by kernel_rfl) rfl #[.int .i64 t224, .int .i64 t225] rfl (by (try simp only [List.map_toArray, List.map_cons, List.map_nil]); first | done | rfl | (simp only [List.length_drop, List.length_take]; rfl)) ?_; (with_reducible refine (spec_PutOct.calls k t224 t225 t228 t229 _ A6.out).mono ?_); rintro e w' ⟨rfl, ⟨nd, rfl⟩⟩; refine ⟨_, rfl, ?_⟩) | ((with_reducible refine gate_callee (f := 70) rfl ?_); refine goesL_ (some 48) rfl rfl Tryz.func70 (by kernel_rfl) rfl #[.slice A0 l0.length c0] rfl (by (try simp only [List.map_toArray, List.map_cons, List.map_nil]); first | done | rfl | (simp only [List.length_drop, List.length_take]; rfl)) ?_; (with_reducible refine (spec_DrawPutHex.calls k _ _ l0 t230 _ ?side1 ?side2 A7.out).mono ?_); (case side1 => repeat (first | exact (Kd.C_below HR0.out (by repeat (first | (with_reducible first | exact HB.out | apply below_alloc | apply pw_below_drewN | apply below_drew1) | exact HB.out))) | (with_reducible refine Kd.C_alloc ?_ _) | (with_reducible refine Kd.C_drewN ?_ _) | (with_reducible refine Kd.C_drew ?_))); (case side2 => exact HC0.out); rintro e w19 ⟨rfl, hb⟩; refine ⟨_, rfl, ?_⟩; have n0_ := Aside0.mk (below_step (by repeat (first | (with_reducible first | exact HB.out | apply below_alloc | apply pw_below_drewN | apply below_drew1) | exact HB.out)) hb); clear HB; have HB := n0_; clear n0_; (try clear hb); (try clear hb2); (try clear hk); (try clear hi)) | ((with_reducible refine gate_callee (f := 21) rfl ?_); refine goesL_ (some 51) rfl rfl Tryz.func21 (by kernel_rfl) rfl #[.int .i64 t230] rfl (by (try simp only [List.map_toArray, List.map_cons, List.map_nil]); first | done | rfl | (simp only [List.length_drop, List.length_take]; rfl)) ?_; (with_reducible refine (impl_PutHex.calls t230 t231 t232 _ A8.out (Tabs.below HL.out (by repeat (first | (with_reducible first | exact HB.out | apply below_alloc | apply pw_below_drewN | apply below_drew1) | exact HB.out)))).mono ?_); rintro e w20 ⟨rfl, hb⟩; refine ⟨_, rfl, ?_⟩; have n0_ := Aside0.mk (below_step (by repeat (first | (with_reducible first | exact HB.out | apply below_alloc | apply pw_below_drewN | apply below_drew1) | exact HB.out)) hb); clear HB; have HB := n0_; clear n0_; (try clear hb); (try clear hb2); (try clear hk); (try clear hi)) | ((with_reducible refine gate_callee (f := 71) rfl ?_); refine goesL_ (some 56) rfl rfl Tryz.func71 (by kernel_rfl) rfl #[.int .i64 t230] rfl (by (try simp only [List.map_toArray, List.map_cons, List.map_nil]); first | done | rfl | (simp only [List.length_drop, List.length_take]; rfl)) ?_; (with_reducible refine (spec_PutHex.calls k t230 t233 t234 _ A9.out).mono ?_); rintro e w' ⟨rfl, ⟨nd, rfl⟩⟩; refine ⟨_, rfl, ?_⟩) | ((with_reducible refine gate_callee (f := 72) rfl ?_); refine goesL_ (some 61) rfl rfl Tryz.func72 (by kernel_rfl) rfl #[.slice A0 l0.length c0] rfl (by (try simp only [List.map_toArray, List.map_cons, List.map_nil]); first | done | rfl | (simp only [List.length_drop, List.length_take]; rfl)) ?_; (with_reducible refine (spec_DrawPutDec.calls k _ _ l0 t235 t236 _ ?side1 ?side2 A10.out).mono ?_); (case side1 => repeat (first | exact (Kd.C_below HR0.out (by repeat (first | (with_reducible first | exact HB.out | apply below_alloc | apply pw_below_drewN | apply below_drew1) | exact HB.out))) | (with_reducible refine Kd.C_alloc ?_ _) | (with_reducible refine Kd.C_drewN ?_ _) | (with_reducible refine Kd.C_drew ?_))); (case side2 => exact HC0.out); rintro e w21 ⟨rfl, hb⟩; refine ⟨_, rfl, ?_⟩; have n0_ := Aside0.mk (below_step (by repeat (first | (with_reducible first | exact HB.out | apply below_alloc | apply pw_below_drewN | apply below_drew1) | exact HB.out)) hb); clear HB; have HB := n0_; clear n0_; (try clear hb); (try clear hb2); (try clear hk); (try clear hi)) | ((with_reducible refine gate_callee (f := 22) rfl ?_); refine goesL_ (some 67) rfl rfl Tryz.func22 (by kernel_rfl) rfl #[.int .i64 t235, .int .i64 t236] rfl (by (try simp only [List.map_toArray, List.map_cons, List.map_nil]); first | done | rfl | (simp only [List.length_drop, List.length_take]; rfl)) ?_; (with_reducible refine (impl_PutDec.calls t235 t236 t237 t238 _ A11.out (Tabs.below HL.out (by repeat (first | (with_reducible first | exact HB.out | apply below_alloc | apply pw_below_drewN | apply below_drew1) | exact HB.out)))).mono ?_); rintro e w22 ⟨rfl, hb⟩; refine ⟨_, rfl, ?_⟩; have n0_ := Aside0.mk (below_step (by repeat (first | (with_reducible first | exact HB.out | apply below_alloc | apply pw_below_drewN | apply below_drew1) | exact HB.out)) hb); clear HB; have HB := n0_; clear n0_; (try clear hb); (try clear hb2); (try clear hk); (try clear hi)) | ((with_reducible refine gate_callee (f := 73) rfl ?_); refine goesL_ (some 73) rfl rfl Tryz.func73 (by kernel_rfl) rfl #[.int .i64 t235, .int .i64 t236] rfl (by (try simp only [List.map_toArray, List.map_cons, List.map_nil]); first | done | rfl | (simp only [List.length_drop, List.length_take]; rfl)) ?_; (with_reducible refine (spec_PutDec.calls k t235 t236 t239 t240 _ A12.out).mono ?_); rintro e w' ⟨rfl, ⟨nd, rfl⟩⟩; refine ⟨_, rfl, ?_⟩) | ((with_reducible refine gate_callee (f := 74) rfl ?_); refine goesL_ (some 78) rfl rfl Tryz.func74 (by kernel_rfl) rfl #[.slice A0 l0.length c0] rfl (by (try simp only [List.map_toArray, List.map_cons, List.map_nil]); first | done | rfl | (simp only [List.length_drop, List.length_take]; rfl)) ?_; (with_reducible refine (spec_DrawPutBig.calls k _ _ l0 t241 t242 _ ?side1 ?side2 A13.out).mono ?_); (case side1 => repeat (first | exact (Kd.C_below HR0.out (by repeat (first | (with_reducible first | exact HB.out | apply below_alloc | apply pw_below_drewN | apply below_drew1) | exact HB.out))) | (with_reducible refine Kd.C_alloc ?_ _) | (with_reducible refine Kd.C_drewN ?_ _) | (with_reducible refine Kd.C_drew ?_))); (case side2 => exact HC0.out); rintro e w23 ⟨rfl, hb⟩; refine ⟨_, rfl, ?_⟩; have n0_ := Aside0.mk (below_step (by repeat (first | (with_reducible first | exact HB.out | apply below_alloc | apply pw_below_drewN | apply below_drew1) | exact HB.out)) hb); clear HB; have HB := n0_; clear n0_; (try clear hb); (try clear hb2); (try clear hk); (try clear hi)) | ((with_reducible refine gate_callee (f := 23) rfl ?_); refine goesL_ (some 84) rfl rfl Tryz.func23 (by kernel_rfl) rfl #[.int .i64 t241, .int .i64 t242] rfl (by (try simp only [List.map_toArray, List.map_cons, List.map_nil]); first | done | rfl | (simp only [List.length_drop, List.length_take]; rfl)) ?_; (with_reducible refine (impl_PutBig.calls k t241 t242 t243 t244 _ A14.out).mono ?_); rintro e w24 ⟨rfl, hb⟩; refine ⟨_, rfl, ?_⟩; have n0_ := Aside0.mk (below_step (by repeat (first | (with_reducible first | exact HB.out | apply below_alloc | apply pw_below_drewN | apply below_drew1) | exact HB.out)) hb); clear HB; have HB := n0_; clear n0_; (try clear hb); (try clear hb2); (try clear hk); (try clear hi)) | ((with_reducible refine gate_callee (f := 75) rfl ?_); refine goesL_ (some 90) rfl rfl Tryz.func75 (by kernel_rfl) rfl #[.int .i64 t241, .int .i64 t242] rfl (by (try simp only [List.map_toArray, List.map_cons, List.map_nil]); first | done | rfl | (simp only [List.length_drop, List.length_take]; rfl)) ?_; (with_reducible refine (spec_PutBig.calls k t241 t242 t245 t246 _ A15.out).mono ?_); rintro e w25 ⟨rfl, hb⟩; refine ⟨_, rfl, ?_⟩; have n0_ := Aside0.mk (below_step (by repeat (first | (with_reducible first | exact HB.out | apply below_alloc | apply pw_below_drewN | apply below_drew1) | exact HB.out)) hb); clear HB; have HB := n0_; clear n0_; (try clear hb); (try clear hb2); (try clear hk); (try clear hi)))
    (try simp only [Act.put, List.setIfInBounds_toArray, List.set_cons_zero, List.set_cons_succ])
    go_cut [6, 11, 17, 23, 130] (fun v6 v11 v17 v23 v130 wc => ∃ (kq : Nat) (x6_15 : Bool) (x11_15 : Bool) (x17_15 : Bool) (x23_15 : Bool) (x130_15 : Bool), v6 = .bool x6_15 ∧ v11 = .bool x11_15 ∧ v17 = .bool x17_15 ∧ v23 = .bool x23_15 ∧ v130 = .bool x130_15 ∧ Aside0 (laws_FnNums.j0 kq t224 t225 t226 x6_15 t230 t231 x11_15 t235 t236 t237 x17_15 t241 t242 t243 x23_15 x130_15 = some r) ∧ Aside0 (kq ≤ k) ∧ Aside0 (Below w.heap.size w wc))
    case first => as_aux_lemma =>
      have H := HC16.out
      clear HC16
      by_cases c26 : t226.toList = t228.toList
      · rw [if_pos c26] at H
        have c26b0 : (t226.toList == t228.toList) = true := beq_iff_eq.mpr c26
        have c26b1 : (t226.toList != t228.toList) = false := bne_eq_false_iff_eq.mpr c26
        clear c26
        (first | rw [c26b0] | (simp only [i64_w, i32_w]; rw [c26b0]) | skip)
        by_cases c27 : (t227 != t229) = true
        · rw [if_pos c27] at H
          have c27b0 : (t227 != t229) = true := c27
          (try (have c27b1 : decide (t227 = t229) = false := by simpa using c27))
          (try (have c27b2 : (t227 == t229) = false := by simpa using c27))
          (try (have c27b3 : ¬ (t227 = t229) := by simpa using c27))
          clear c27
          have H' := Aside0.mk H
          clear H
          go_wp2
          go_meet
          case rel => exact ⟨_, (t227), (t232), (t238), (t244), (true), (by first | rfl | (simp; done) | (simp [*]; done)), (by first | rfl | (simp; done) | (simp [*]; done)), (by first | rfl | (simp; done) | (simp [*]; done)), (by first | rfl | (simp; done) | (simp [*]; done)), (by first | rfl | (simp; done) | (simp [*]; done)), H', ⟨by first | omega | exact Nat.le_refl _⟩, ⟨by repeat (first | (with_reducible first | exact HB.out | apply below_alloc | apply pw_below_drewN | apply below_drew1) | exact HB.out)⟩⟩
        · rw [if_neg c27] at H
          have c27b0 : (t227 != t229) = false := by simpa using c27
          (try (have c27b1 : decide (t227 = t229) = true := by simpa using c27))
          (try (have c27b2 : (t227 == t229) = true := by simpa using c27))
          clear c27
          by_cases c28 : t231.toList = t233.toList
          · rw [if_pos c28] at H
            have c28b0 : (t231.toList == t233.toList) = true := beq_iff_eq.mpr c28
            have c28b1 : (t231.toList != t233.toList) = false := bne_eq_false_iff_eq.mpr c28
            clear c28
            by_cases c29 : (t232 != t234) = true
            · rw [if_pos c29] at H
              have c29b0 : (t232 != t234) = true := c29
              (try (have c29b1 : decide (t232 = t234) = false := by simpa using c29))
              (try (have c29b2 : (t232 == t234) = false := by simpa using c29))
              (try (have c29b3 : ¬ (t232 = t234) := by simpa using c29))
              clear c29
              have H' := Aside0.mk H
              clear H
              go_wp2
              go_meet
              case rel => exact ⟨_, (t227), (t232), (t238), (t244), (true), (by first | rfl | (simp; done) | (simp [*]; done)), (by first | rfl | (simp; done) | (simp [*]; done)), (by first | rfl | (simp; done) | (simp [*]; done)), (by first | rfl | (simp; done) | (simp [*]; done)), (by first | rfl | (simp; done) | (simp [*]; done)), H', ⟨by first | omega | exact Nat.le_refl _⟩, ⟨by repeat (first | (with_reducible first | exact HB.out | apply below_alloc | apply pw_below_drewN | apply below_drew1) | exact HB.out)⟩⟩
            · rw [if_neg c29] at H
              have c29b0 : (t232 != t234) = false := by simpa using c29
              (try (have c29b1 : decide (t232 = t234) = true := by simpa using c29))
              (try (have c29b2 : (t232 == t234) = true := by simpa using c29))
              clear c29
              by_cases c30 : t237.toList = t239.toList
              · rw [if_pos c30] at H
                have c30b0 : (t237.toList == t239.toList) = true := beq_iff_eq.mpr c30
                have c30b1 : (t237.toList != t239.toList) = false := bne_eq_false_iff_eq.mpr c30
                clear c30
                by_cases c31 : (t238 != t240) = true
                · rw [if_pos c31] at H
                  have c31b0 : (t238 != t240) = true := c31
                  (try (have c31b1 : decide (t238 = t240) = false := by simpa using c31))
                  (try (have c31b2 : (t238 == t240) = false := by simpa using c31))
                  (try (have c31b3 : ¬ (t238 = t240) := by simpa using c31))
                  clear c31
                  have H' := Aside0.mk H
                  clear H
                  go_wp2
                  go_meet
                  case rel => exact ⟨_, (t227), (t232), (t238), (t244), (true), (by first | rfl | (simp; done) | (simp [*]; done)), (by first | rfl | (simp; done) | (simp [*]; done)), (by first | rfl | (simp; done) | (simp [*]; done)), (by first | rfl | (simp; done) | (simp [*]; done)), (by first | rfl | (simp; done) | (simp [*]; done)), H', ⟨by first | omega | exact Nat.le_refl _⟩, ⟨by repeat (first | (with_reducible first | exact HB.out | apply below_alloc | apply pw_below_drewN | apply below_drew1) | exact HB.out)⟩⟩
                · rw [if_neg c31] at H
                  have c31b0 : (t238 != t240) = false := by simpa using c31
                  (try (have c31b1 : decide (t238 = t240) = true := by simpa using c31))
                  (try (have c31b2 : (t238 == t240) = true := by simpa using c31))
                  clear c31
                  by_cases c32 : t243.toList = t245.toList
                  · rw [if_pos c32] at H
                    have c32b0 : (t243.toList == t245.toList) = true := beq_iff_eq.mpr c32
                    have c32b1 : (t243.toList != t245.toList) = false := bne_eq_false_iff_eq.mpr c32
                    clear c32
                    have H' := Aside0.mk H
                    clear H
                    go_wp2
                    go_meet
                    case rel => exact ⟨_, (t227), (t232), (t238), (t244), ((t244 != t246)), (by first | rfl | (simp; done) | (simp [*]; done)), (by first | rfl | (simp; done) | (simp [*]; done)), (by first | rfl | (simp; done) | (simp [*]; done)), (by first | rfl | (simp; done) | (simp [*]; done)), (by first | rfl | (simp; done) | (simp [*]; done)), H', ⟨by first | omega | exact Nat.le_refl _⟩, ⟨by repeat (first | (with_reducible first | exact HB.out | apply below_alloc | apply pw_below_drewN | apply below_drew1) | exact HB.out)⟩⟩
                  · rw [if_neg c32] at H
                    have c32b0 : (t243.toList == t245.toList) = false := beq_eq_false_iff_ne.mpr c32
                    have c32b1 : (t243.toList != t245.toList) = true := bne_iff_ne.mpr c32
                    have H' := Aside0.mk H
                    clear H
                    go_wp2
                    go_meet
                    case rel => exact ⟨_, (t227), (t232), (t238), (t244), (true), (by first | rfl | (simp; done) | (simp [*]; done)), (by first | rfl | (simp; done) | (simp [*]; done)), (by first | rfl | (simp; done) | (simp [*]; done)), (by first | rfl | (simp; done) | (simp [*]; done)), (by first | rfl | (simp; done) | (simp [*]; done)), H', ⟨by first | omega | exact Nat.le_refl _⟩, ⟨by repeat (first | (with_reducible first | exact HB.out | apply below_alloc | apply pw_below_drewN | apply below_drew1) | exact HB.out)⟩⟩
              · rw [if_neg c30] at H
                have c30b0 : (t237.toList == t239.toList) = false := beq_eq_false_iff_ne.mpr c30
                have c30b1 : (t237.toList != t239.toList) = true := bne_iff_ne.mpr c30
                have H' := Aside0.mk H
                clear H
                go_wp2
                go_meet
                case rel => exact ⟨_, (t227), (t232), (t238), (t244), (true), (by first | rfl | (simp; done) | (simp [*]; done)), (by first | rfl | (simp; done) | (simp [*]; done)), (by first | rfl | (simp; done) | (simp [*]; done)), (by first | rfl | (simp; done) | (simp [*]; done)), (by first | rfl | (simp; done) | (simp [*]; done)), H', ⟨by first | omega | exact Nat.le_refl _⟩, ⟨by repeat (first | (with_reducible first | exact HB.out | apply below_alloc | apply pw_below_drewN | apply below_drew1) | exact HB.out)⟩⟩
          · rw [if_neg c28] at H
            have c28b0 : (t231.toList == t233.toList) = false := beq_eq_false_iff_ne.mpr c28
            have c28b1 : (t231.toList != t233.toList) = true := bne_iff_ne.mpr c28
            have H' := Aside0.mk H
            clear H
            go_wp2
            go_meet
            case rel => exact ⟨_, (t227), (t232), (t238), (t244), (true), (by first | rfl | (simp; done) | (simp [*]; done)), (by first | rfl | (simp; done) | (simp [*]; done)), (by first | rfl | (simp; done) | (simp [*]; done)), (by first | rfl | (simp; done) | (simp [*]; done)), (by first | rfl | (simp; done) | (simp [*]; done)), H', ⟨by first | omega | exact Nat.le_refl _⟩, ⟨by repeat (first | (with_reducible first | exact HB.out | apply below_alloc | apply pw_below_drewN | apply below_drew1) | exact HB.out)⟩⟩
      · rw [if_neg c26] at H
        have c26b0 : (t226.toList == t228.toList) = false := beq_eq_false_iff_ne.mpr c26
        have c26b1 : (t226.toList != t228.toList) = true := bne_iff_ne.mpr c26
        (first | rw [c26b0] | (simp only [i64_w, i32_w]; rw [c26b0]) | skip)
        have H' := Aside0.mk H
        clear H
        go_wp2
        go_meet
        case rel => exact ⟨_, (t227), (t232), (t238), (t244), (true), (by first | rfl | (simp; done) | (simp [*]; done)), (by first | rfl | (simp; done) | (simp [*]; done)), (by first | rfl | (simp; done) | (simp [*]; done)), (by first | rfl | (simp; done) | (simp [*]; done)), (by first | rfl | (simp; done) | (simp [*]; done)), H', ⟨by first | omega | exact Nat.le_refl _⟩, ⟨by repeat (first | (with_reducible first | exact HB.out | apply below_alloc | apply pw_below_drewN | apply below_drew1) | exact HB.out)⟩⟩
    case rest => as_aux_lemma =>
      clear HC16
      try clear c2
      try clear p2
      try clear c3
      try clear c6
      try clear c7
      try clear c20
      try clear c21
      try clear c22
      try clear c23
      try clear c26
      try clear c26b0
      try clear c26b1
      try clear c27
      try clear c27b0
      try clear c27b1
      try clear c27b2
      try clear c28
      try clear c28b0
      try clear c28b1
      try clear c29
      try clear c29b0
      try clear c29b1
      try clear c29b2
      try clear c30
      try clear c30b0
      try clear c30b1
      try clear c31
      try clear c31b0
      try clear c31b1
      try clear c31b2
      try clear c32
      try clear c32b0
      try clear c32b1
      obtain ⟨kq, x6_15, x11_15, x17_15, x23_15, x130_15, rfl, rfl, rfl, rfl, rfl, HA, HJ15, HB⟩ := hcut
      cases kq with
      | zero => exact absurd HA.out (by simp [laws_FnNums.j0])
      | succ kj15 =>
        have H := HA.out
        clear HA
        simp only [laws_FnNums.j0] at H
        by_cases c33 : x130_15 = true
        · subst c33
          have H1 : (some false) = some r := by rw [if_pos rfl] at H; exact H
          clear H
          have H := H1
          clear H1
          obtain rfl := Option.some.inj H
          go_wp2
          go_ret
          exact ⟨by first | rfl | (simp [errW_none, errW_some] <;> rfl) | (simp [*, errW_none, errW_some] <;> rfl) | (simp only [decide_eq_true_eq] at *; simp [*, bt]; done), by repeat (first | (with_reducible first | exact HB.out | apply below_alloc | apply pw_below_drewN | apply below_drew1) | exact HB.out)⟩
        · replace c33 := Bool.eq_false_iff.mpr c33
          subst c33
          have H1 : ((impl_GetOct.f t226).bind fun bt247 => (if x6_15 = true then (if bt247.2 = true then (if bt247.1 = t224 then (laws_FnNums.j1 kj15 t230 t231 x11_15 t235 t236 t237 x17_15 t241 t242 t243 x23_15 ((t226.size : Int) != t225)) else (laws_FnNums.j1 kj15 t230 t231 x11_15 t235 t236 t237 x17_15 t241 t242 t243 x23_15 true)) else (laws_FnNums.j1 kj15 t230 t231 x11_15 t235 t236 t237 x17_15 t241 t242 t243 x23_15 true)) else (laws_FnNums.j1 kj15 t230 t231 x11_15 t235 t236 t237 x17_15 t241 t242 t243 x23_15 false))) = some r := by rw [if_neg (show ¬ (false = true) by decide)] at H; exact H
          clear H
          have H := H1
          clear H1
          replace H := Option.bind_eq_some_iff.mp H
          obtain ⟨⟨t247, t248⟩, A340, H⟩ := H
          replace H : (if x6_15 = true then (if t248 = true then (if t247 = t224 then (laws_FnNums.j1 kj15 t230 t231 x11_15 t235 t236 t237 x17_15 t241 t242 t243 x23_15 ((t226.size : Int) != t225)) else (laws_FnNums.j1 kj15 t230 t231 x11_15 t235 t236 t237 x17_15 t241 t242 t243 x23_15 true)) else (laws_FnNums.j1 kj15 t230 t231 x11_15 t235 t236 t237 x17_15 t241 t242 t243 x23_15 true)) else (laws_FnNums.j1 kj15 t230 t231 x11_15 t235 t236 t237 x17_15 t241 t242 t243 x23_15 false)) = some r := H
          have A34 := Aside0.mk A340
          clear A340
          have HC35 := Aside0.mk H
          clear H
          go_upto_region 18 with (first | ((with_reducible refine gate_callee (f := 9) rfl ?_); refine goesL_ (some 133) rfl rfl Tryz.func9 (by kernel_rfl) rfl #[.string t226] rfl (by (try simp only [List.map_toArray, List.map_cons, List.map_nil]); first | done | rfl | (simp only [List.length_drop, List.length_take]; rfl)) ?_; (with_reducible refine (impl_GetOct.calls t226 t247 t248 _ A34.out).mono ?_); rintro e w36 ⟨rfl, hb⟩; refine ⟨_, rfl, ?_⟩; have n0_ := Aside0.mk (below_step (by repeat (first | (with_reducible first | exact HB.out | apply below_alloc | apply pw_below_drewN | apply below_drew1) | exact HB.out)) hb); clear HB; have HB := n0_; clear n0_; (try clear hb); (try clear hb2); (try clear hk); (try clear hi)))
          (try simp only [Act.put, List.setIfInBounds_toArray, List.set_cons_zero, List.set_cons_succ])
          go_cut [11, 17, 23, 151] (fun v11 v17 v23 v151 wc => ∃ (kq : Nat) (x11_34 : Bool) (x17_34 : Bool) (x23_34 : Bool) (x151_34 : Bool), v11 = .bool x11_34 ∧ v17 = .bool x17_34 ∧ v23 = .bool x23_34 ∧ v151 = .bool x151_34 ∧ Aside0 (laws_FnNums.j1 kq t230 t231 x11_34 t235 t236 t237 x17_34 t241 t242 t243 x23_34 x151_34 = some r) ∧ Aside0 (kq ≤ kj15) ∧ Aside0 (Below w.heap.size w wc))
          case first => as_aux_lemma =>
            have H := HC35.out
            clear HC35
            by_cases c37 : x6_15 = true
            · subst c37
              have H1 : (if t248 = true then (if t247 = t224 then (laws_FnNums.j1 kj15 t230 t231 x11_15 t235 t236 t237 x17_15 t241 t242 t243 x23_15 ((t226.size : Int) != t225)) else (laws_FnNums.j1 kj15 t230 t231 x11_15 t235 t236 t237 x17_15 t241 t242 t243 x23_15 true)) else (laws_FnNums.j1 kj15 t230 t231 x11_15 t235 t236 t237 x17_15 t241 t242 t243 x23_15 true)) = some r := by rw [if_pos rfl] at H; exact H
              clear H
              have H := H1
              clear H1
              by_cases c38 : t248 = true
              · subst c38
                have H1 : (if t247 = t224 then (laws_FnNums.j1 kj15 t230 t231 x11_15 t235 t236 t237 x17_15 t241 t242 t243 x23_15 ((t226.size : Int) != t225)) else (laws_FnNums.j1 kj15 t230 t231 x11_15 t235 t236 t237 x17_15 t241 t242 t243 x23_15 true)) = some r := by rw [if_pos rfl] at H; exact H
                clear H
                have H := H1
                clear H1
                by_cases c39 : t247 = t224
                · rw [if_pos c39] at H
                  have c39b0 : (t247 == t224) = true := beq_iff_eq.mpr c39
                  have c39b1 : (t247 != t224) = false := bne_eq_false_iff_eq.mpr c39
                  clear c39
                  (first | rw [c39b0] | (simp only [i64_w, i32_w]; rw [c39b0]) | skip)
                  have H' := Aside0.mk H
                  clear H
                  go_wp2
                  go_meet
                  case rel => exact ⟨_, (x11_15), (x17_15), (x23_15), (((t226.size : Int) != t225)), (by first | rfl | (simp; done) | (simp [*]; done)), (by first | rfl | (simp; done) | (simp [*]; done)), (by first | rfl | (simp; done) | (simp [*]; done)), (by first | rfl | (simp; done) | (simp [*]; done)), H', ⟨by have := HJ15.out; first | omega | exact Nat.le_refl _⟩, ⟨by repeat (first | (with_reducible first | exact HB.out | apply below_alloc | apply pw_below_drewN | apply below_drew1) | exact HB.out)⟩⟩
                · rw [if_neg c39] at H
                  have c39b0 : (t247 == t224) = false := beq_eq_false_iff_ne.mpr c39
                  have c39b1 : (t247 != t224) = true := bne_iff_ne.mpr c39
                  (first | rw [c39b0] | (simp only [i64_w, i32_w]; rw [c39b0]) | skip)
                  have H' := Aside0.mk H
                  clear H
                  go_wp2
                  go_meet
                  case rel => exact ⟨_, (x11_15), (x17_15), (x23_15), (true), (by first | rfl | (simp; done) | (simp [*]; done)), (by first | rfl | (simp; done) | (simp [*]; done)), (by first | rfl | (simp; done) | (simp [*]; done)), (by first | rfl | (simp; done) | (simp [*]; done)), H', ⟨by have := HJ15.out; first | omega | exact Nat.le_refl _⟩, ⟨by repeat (first | (with_reducible first | exact HB.out | apply below_alloc | apply pw_below_drewN | apply below_drew1) | exact HB.out)⟩⟩
              · replace c38 := Bool.eq_false_iff.mpr c38
                subst c38
                have H1 : (laws_FnNums.j1 kj15 t230 t231 x11_15 t235 t236 t237 x17_15 t241 t242 t243 x23_15 true) = some r := by rw [if_neg (show ¬ (false = true) by decide)] at H; exact H
                clear H
                have H := H1
                clear H1
                have H' := Aside0.mk H
                clear H
                go_wp2
                go_meet
                case rel => exact ⟨_, (x11_15), (x17_15), (x23_15), (true), (by first | rfl | (simp; done) | (simp [*]; done)), (by first | rfl | (simp; done) | (simp [*]; done)), (by first | rfl | (simp; done) | (simp [*]; done)), (by first | rfl | (simp; done) | (simp [*]; done)), H', ⟨by have := HJ15.out; first | omega | exact Nat.le_refl _⟩, ⟨by repeat (first | (with_reducible first | exact HB.out | apply below_alloc | apply pw_below_drewN | apply below_drew1) | exact HB.out)⟩⟩
            · replace c37 := Bool.eq_false_iff.mpr c37
              subst c37
              have H1 : (laws_FnNums.j1 kj15 t230 t231 x11_15 t235 t236 t237 x17_15 t241 t242 t243 x23_15 false) = some r := by rw [if_neg (show ¬ (false = true) by decide)] at H; exact H
              clear H
              have H := H1
              clear H1
              have H' := Aside0.mk H
              clear H
              go_wp2
              go_meet
              case rel => exact ⟨_, (x11_15), (x17_15), (x23_15), (false), (by first | rfl | (simp; done) | (simp [*]; done)), (by first | rfl | (simp; done) | (simp [*]; done)), (by first | rfl | (simp; done) | (simp [*]; done)), (by first | rfl | (simp; done) | (simp [*]; done)), H', ⟨by have := HJ15.out; first | omega | exact Nat.le_refl _⟩, ⟨by repeat (first | (with_reducible first | exact HB.out | apply below_alloc | apply pw_below_drewN | apply below_drew1) | exact HB.out)⟩⟩
          case rest => as_aux_lemma =>
            clear HC35
            try clear c2
            try clear p2
            try clear c3
            try clear c6
            try clear c7
            try clear c9
            try clear c20
            try clear c21
            try clear c22
            try clear c23
            try clear c26
            try clear c26b0
            try clear c26b1
            try clear c27
            try clear c27b0
            try clear c27b1
            try clear c27b2
            try clear c28
            try clear c28b0
            try clear c28b1
            try clear c29
            try clear c29b0
            try clear c29b1
            try clear c29b2
            try clear c30
            try clear c30b0
            try clear c30b1
            try clear c31
            try clear c31b0
            try clear c31b1
            try clear c31b2
            try clear c32
            try clear c32b0
            try clear c32b1
            try clear c33
            try clear c37
            try clear c38
            try clear c39
            try clear c39b0
            try clear c39b1
            try clear p2
            obtain ⟨kq, x11_34, x17_34, x23_34, x151_34, rfl, rfl, rfl, rfl, HA, HJ34, HB⟩ := hcut
            cases kq with
            | zero => exact absurd HA.out (by simp [laws_FnNums.j1])
            | succ kj34 =>
              have H := HA.out
              clear HA
              simp only [laws_FnNums.j1] at H
              by_cases c40 : x151_34 = true
              · subst c40
                have H1 : (some false) = some r := by rw [if_pos rfl] at H; exact H
                clear H
                have H := H1
                clear H1
                obtain rfl := Option.some.inj H
                go_wp2
                go_ret
                exact ⟨by first | rfl | (simp [errW_none, errW_some] <;> rfl) | (simp [*, errW_none, errW_some] <;> rfl) | (simp only [decide_eq_true_eq] at *; simp [*, bt]; done), by repeat (first | (with_reducible first | exact HB.out | apply below_alloc | apply pw_below_drewN | apply below_drew1) | exact HB.out)⟩
              · replace c40 := Bool.eq_false_iff.mpr c40
                subst c40
                have H1 : ((impl_GetHex.f t231).bind fun bt249 => (if x11_34 = true then (if bt249.2 = true then (if bt249.1 = t230 then (laws_FnNums.j2 kj34 t235 t236 t237 x17_34 t241 t242 t243 x23_34 ((t231.size : Int) != 8)) else (laws_FnNums.j2 kj34 t235 t236 t237 x17_34 t241 t242 t243 x23_34 true)) else (laws_FnNums.j2 kj34 t235 t236 t237 x17_34 t241 t242 t243 x23_34 true)) else (laws_FnNums.j2 kj34 t235 t236 t237 x17_34 t241 t242 t243 x23_34 false))) = some r := by rw [if_neg (show ¬ (false = true) by decide)] at H; exact H
                clear H
                have H := H1
                clear H1
                replace H := Option.bind_eq_some_iff.mp H
                obtain ⟨⟨t249, t250⟩, A410, H⟩ := H
                replace H : (if x11_34 = true then (if t250 = true then (if t249 = t230 then (laws_FnNums.j2 kj34 t235 t236 t237 x17_34 t241 t242 t243 x23_34 ((t231.size : Int) != 8)) else (laws_FnNums.j2 kj34 t235 t236 t237 x17_34 t241 t242 t243 x23_34 true)) else (laws_FnNums.j2 kj34 t235 t236 t237 x17_34 t241 t242 t243 x23_34 true)) else (laws_FnNums.j2 kj34 t235 t236 t237 x17_34 t241 t242 t243 x23_34 false)) = some r := H
                have A41 := Aside0.mk A410
                clear A410
                have HC42 := Aside0.mk H
                clear H
                go_upto_region 21 with (first | ((with_reducible refine gate_callee (f := 12) rfl ?_); refine goesL_ (some 154) rfl rfl Tryz.func12 (by kernel_rfl) rfl #[.string t231] rfl (by (try simp only [List.map_toArray, List.map_cons, List.map_nil]); first | done | rfl | (simp only [List.length_drop, List.length_take]; rfl)) ?_; (with_reducible refine (impl_GetHex.calls t231 t249 t250 _ A41.out).mono ?_); rintro e w43 ⟨rfl, hb⟩; refine ⟨_, rfl, ?_⟩; have n0_ := Aside0.mk (below_step (by repeat (first | (with_reducible first | exact HB.out | apply below_alloc | apply pw_below_drewN | apply below_drew1) | exact HB.out)) hb); clear HB; have HB := n0_; clear n0_; (try clear hb); (try clear hb2); (try clear hk); (try clear hi)))
                (try simp only [Act.put, List.setIfInBounds_toArray, List.set_cons_zero, List.set_cons_succ])
                go_cut [17, 23, 171] (fun v17 v23 v171 wc => ∃ (kq : Nat) (x17_41 : Bool) (x23_41 : Bool) (x171_41 : Bool), v17 = .bool x17_41 ∧ v23 = .bool x23_41 ∧ v171 = .bool x171_41 ∧ Aside0 (laws_FnNums.j2 kq t235 t236 t237 x17_41 t241 t242 t243 x23_41 x171_41 = some r) ∧ Aside0 (kq ≤ kj34) ∧ Aside0 (Below w.heap.size w wc))
                case first => as_aux_lemma =>
                  have H := HC42.out
                  clear HC42
                  by_cases c44 : x11_34 = true
                  · subst c44
                    have H1 : (if t250 = true then (if t249 = t230 then (laws_FnNums.j2 kj34 t235 t236 t237 x17_34 t241 t242 t243 x23_34 ((t231.size : Int) != 8)) else (laws_FnNums.j2 kj34 t235 t236 t237 x17_34 t241 t242 t243 x23_34 true)) else (laws_FnNums.j2 kj34 t235 t236 t237 x17_34 t241 t242 t243 x23_34 true)) = some r := by rw [if_pos rfl] at H; exact H
                    clear H
                    have H := H1
                    clear H1
                    by_cases c45 : t250 = true
                    · subst c45
                      have H1 : (if t249 = t230 then (laws_FnNums.j2 kj34 t235 t236 t237 x17_34 t241 t242 t243 x23_34 ((t231.size : Int) != 8)) else (laws_FnNums.j2 kj34 t235 t236 t237 x17_34 t241 t242 t243 x23_34 true)) = some r := by rw [if_pos rfl] at H; exact H
                      clear H
                      have H := H1
                      clear H1
                      by_cases c46 : t249 = t230
                      · rw [if_pos c46] at H
                        have c46b0 : (t249 == t230) = true := beq_iff_eq.mpr c46
                        have c46b1 : (t249 != t230) = false := bne_eq_false_iff_eq.mpr c46
                        clear c46
                        (first | rw [c46b0] | (simp only [i64_w, i32_w]; rw [c46b0]) | skip)
                        have H' := Aside0.mk H
                        clear H
                        go_wp2
                        go_meet
                        case rel => exact ⟨_, (x17_34), (x23_34), (((t231.size : Int) != 8)), (by first | rfl | (simp; done) | (simp [*]; done)), (by first | rfl | (simp; done) | (simp [*]; done)), (by first | rfl | (simp; done) | (simp [*]; done)), H', ⟨by have := HJ15.out; have := HJ34.out; first | omega | exact Nat.le_refl _⟩, ⟨by repeat (first | (with_reducible first | exact HB.out | apply below_alloc | apply pw_below_drewN | apply below_drew1) | exact HB.out)⟩⟩
                      · rw [if_neg c46] at H
                        have c46b0 : (t249 == t230) = false := beq_eq_false_iff_ne.mpr c46
                        have c46b1 : (t249 != t230) = true := bne_iff_ne.mpr c46
                        (first | rw [c46b0] | (simp only [i64_w, i32_w]; rw [c46b0]) | skip)
                        have H' := Aside0.mk H
                        clear H
                        go_wp2
                        go_meet
                        case rel => exact ⟨_, (x17_34), (x23_34), (true), (by first | rfl | (simp; done) | (simp [*]; done)), (by first | rfl | (simp; done) | (simp [*]; done)), (by first | rfl | (simp; done) | (simp [*]; done)), H', ⟨by have := HJ15.out; have := HJ34.out; first | omega | exact Nat.le_refl _⟩, ⟨by repeat (first | (with_reducible first | exact HB.out | apply below_alloc | apply pw_below_drewN | apply below_drew1) | exact HB.out)⟩⟩
                    · replace c45 := Bool.eq_false_iff.mpr c45
                      subst c45
                      have H1 : (laws_FnNums.j2 kj34 t235 t236 t237 x17_34 t241 t242 t243 x23_34 true) = some r := by rw [if_neg (show ¬ (false = true) by decide)] at H; exact H
                      clear H
                      have H := H1
                      clear H1
                      have H' := Aside0.mk H
                      clear H
                      go_wp2
                      go_meet
                      case rel => exact ⟨_, (x17_34), (x23_34), (true), (by first | rfl | (simp; done) | (simp [*]; done)), (by first | rfl | (simp; done) | (simp [*]; done)), (by first | rfl | (simp; done) | (simp [*]; done)), H', ⟨by have := HJ15.out; have := HJ34.out; first | omega | exact Nat.le_refl _⟩, ⟨by repeat (first | (with_reducible first | exact HB.out | apply below_alloc | apply pw_below_drewN | apply below_drew1) | exact HB.out)⟩⟩
                  · replace c44 := Bool.eq_false_iff.mpr c44
                    subst c44
                    have H1 : (laws_FnNums.j2 kj34 t235 t236 t237 x17_34 t241 t242 t243 x23_34 false) = some r := by rw [if_neg (show ¬ (false = true) by decide)] at H; exact H
                    clear H
                    have H := H1
                    clear H1
                    have H' := Aside0.mk H
                    clear H
                    go_wp2
                    go_meet
                    case rel => exact ⟨_, (x17_34), (x23_34), (false), (by first | rfl | (simp; done) | (simp [*]; done)), (by first | rfl | (simp; done) | (simp [*]; done)), (by first | rfl | (simp; done) | (simp [*]; done)), H', ⟨by have := HJ15.out; have := HJ34.out; first | omega | exact Nat.le_refl _⟩, ⟨by repeat (first | (with_reducible first | exact HB.out | apply below_alloc | apply pw_below_drewN | apply below_drew1) | exact HB.out)⟩⟩
                case rest => as_aux_lemma =>
                  clear HC42
                  try clear c1
                  try clear c2
                  try clear p2
                  try clear c3
                  try clear c4
                  try clear c6
                  try clear c7
                  try clear c9
                  try clear c12
                  try clear c20
                  try clear c21
                  try clear c22
                  try clear c23
                  try clear c26
                  try clear c26b0
                  try clear c26b1
                  try clear c27
                  try clear c27b0
                  try clear c27b1
                  try clear c27b2
                  try clear c28
                  try clear c28b0
                  try clear c28b1
                  try clear c29
                  try clear c29b0
                  try clear c29b1
                  try clear c29b2
                  try clear c30
                  try clear c30b0
                  try clear c30b1
                  try clear c31
                  try clear c31b0
                  try clear c31b1
                  try clear c31b2
                  try clear c32
                  try clear c32b0
                  try clear c32b1
                  try clear c33
                  try clear c37
                  try clear c38
                  try clear c39
                  try clear c39b0
                  try clear c39b1
                  try clear c40
                  try clear c44
                  try clear c45
                  try clear c46
                  try clear c46b0
                  try clear c46b1
                  try clear p2
                  obtain ⟨kq, x17_41, x23_41, x171_41, rfl, rfl, rfl, HA, HJ41, HB⟩ := hcut
                  cases kq with
                  | zero => exact absurd HA.out (by simp [laws_FnNums.j2])
                  | succ kj41 =>
                    have H := HA.out
                    clear HA
                    simp only [laws_FnNums.j2] at H
                    by_cases c47 : x171_41 = true
                    · subst c47
                      have H1 : (some false) = some r := by rw [if_pos rfl] at H; exact H
                      clear H
                      have H := H1
                      clear H1
                      obtain rfl := Option.some.inj H
                      go_wp2
                      go_ret
                      exact ⟨by first | rfl | (simp [errW_none, errW_some] <;> rfl) | (simp [*, errW_none, errW_some] <;> rfl) | (simp only [decide_eq_true_eq] at *; simp [*, bt]; done), by repeat (first | (with_reducible first | exact HB.out | apply below_alloc | apply pw_below_drewN | apply below_drew1) | exact HB.out)⟩
                    · replace c47 := Bool.eq_false_iff.mpr c47
                      subst c47
                      have H1 : ((impl_GetDec.f t237).bind fun bt251 => (if x17_41 = true then (if bt251.2 = true then (if bt251.1 = t235 then (if (t237.size : Int) = t236 then ((impl_GetBig.f kj41 t243).bind fun bt253 => (if x23_41 = true then (if bt253.2 = true then (if bt253.1 = t241 then (some ((t243.size : Int) == t242)) else (some false)) else (some false)) else (some true))) else (some false)) else (some false)) else (some false)) else ((impl_GetBig.f kj41 t243).bind fun bt255 => (if x23_41 = true then (if bt255.2 = true then (if bt255.1 = t241 then (some ((t243.size : Int) == t242)) else (some false)) else (some false)) else (some true))))) = some r := by rw [if_neg (show ¬ (false = true) by decide)] at H; exact H
                      clear H
                      have H := H1
                      clear H1
                      replace H := Option.bind_eq_some_iff.mp H
                      obtain ⟨⟨t251, t252⟩, A480, H⟩ := H
                      replace H : (if x17_41 = true then (if t252 = true then (if t251 = t235 then (if (t237.size : Int) = t236 then ((impl_GetBig.f kj41 t243).bind fun bt253 => (if x23_41 = true then (if bt253.2 = true then (if bt253.1 = t241 then (some ((t243.size : Int) == t242)) else (some false)) else (some false)) else (some true))) else (some false)) else (some false)) else (some false)) else ((impl_GetBig.f kj41 t243).bind fun bt255 => (if x23_41 = true then (if bt255.2 = true then (if bt255.1 = t241 then (some ((t243.size : Int) == t242)) else (some false)) else (some false)) else (some true)))) = some r := H
                      have A48 := Aside0.mk A480
                      clear A480
                      by_cases c49 : x17_41 = true
                      · subst c49
                        have H1 : (if t252 = true then (if t251 = t235 then (if (t237.size : Int) = t236 then ((impl_GetBig.f kj41 t243).bind fun bt253 => (if x23_41 = true then (if bt253.2 = true then (if bt253.1 = t241 then (some ((t243.size : Int) == t242)) else (some false)) else (some false)) else (some true))) else (some false)) else (some false)) else (some false)) = some r := by rw [if_pos rfl] at H; exact H
                        clear H
                        have H := H1
                        clear H1
                        by_cases c50 : t252 = true
                        · subst c50
                          have H1 : (if t251 = t235 then (if (t237.size : Int) = t236 then ((impl_GetBig.f kj41 t243).bind fun bt253 => (if x23_41 = true then (if bt253.2 = true then (if bt253.1 = t241 then (some ((t243.size : Int) == t242)) else (some false)) else (some false)) else (some true))) else (some false)) else (some false)) = some r := by rw [if_pos rfl] at H; exact H
                          clear H
                          have H := H1
                          clear H1
                          by_cases c51 : t251 = t235
                          · rw [if_pos c51] at H
                            have c51b0 : (t251 == t235) = true := beq_iff_eq.mpr c51
                            have c51b1 : (t251 != t235) = false := bne_eq_false_iff_eq.mpr c51
                            clear c51
                            by_cases c52 : (t237.size : Int) = t236
                            · rw [if_pos c52] at H
                              have c52b0 : ((t237.size : Int) == t236) = true := beq_iff_eq.mpr c52
                              have c52b1 : ((t237.size : Int) != t236) = false := bne_eq_false_iff_eq.mpr c52
                              clear c52
                              replace H := Option.bind_eq_some_iff.mp H
                              obtain ⟨⟨t253, t254⟩, A530, H⟩ := H
                              replace H : (if x23_41 = true then (if t254 = true then (if t253 = t241 then (some ((t243.size : Int) == t242)) else (some false)) else (some false)) else (some true)) = some r := H
                              have A53 := Aside0.mk A530
                              clear A530
                              by_cases c54 : x23_41 = true
                              · subst c54
                                have H1 : (if t254 = true then (if t253 = t241 then (some ((t243.size : Int) == t242)) else (some false)) else (some false)) = some r := by rw [if_pos rfl] at H; exact H
                                clear H
                                have H := H1
                                clear H1
                                by_cases c55 : t254 = true
                                · subst c55
                                  have H1 : (if t253 = t241 then (some ((t243.size : Int) == t242)) else (some false)) = some r := by rw [if_pos rfl] at H; exact H
                                  clear H
                                  have H := H1
                                  clear H1
                                  by_cases c56 : t253 = t241
                                  · rw [if_pos c56] at H
                                    have c56b0 : (t253 == t241) = true := beq_iff_eq.mpr c56
                                    have c56b1 : (t253 != t241) = false := bne_eq_false_iff_eq.mpr c56
                                    clear c56
                                    obtain rfl := Option.some.inj H
                                    go_wp2_with (first | ((with_reducible refine gate_callee (f := 15) rfl ?_); refine goesL_ (some 174) rfl rfl Tryz.func15 (by kernel_rfl) rfl #[.string t237] rfl (by (try simp only [List.map_toArray, List.map_cons, List.map_nil]); first | done | rfl | (simp only [List.length_drop, List.length_take]; rfl)) ?_; (with_reducible refine (impl_GetDec.calls t237 t251 true _ A48.out (Tabs.below HL.out (by repeat (first | (with_reducible first | exact HB.out | apply below_alloc | apply pw_below_drewN | apply below_drew1) | exact HB.out)))).mono ?_); rintro e w57 ⟨rfl, hb⟩; refine ⟨_, rfl, ?_⟩; have n0_ := Aside0.mk (below_step (by repeat (first | (with_reducible first | exact HB.out | apply below_alloc | apply pw_below_drewN | apply below_drew1) | exact HB.out)) hb); clear HB; have HB := n0_; clear n0_; (try clear hb); (try clear hb2); (try clear hk); (try clear hi)) | ((with_reducible refine gate_callee (f := 18) rfl ?_); refine goesL_ (some 195) rfl rfl Tryz.func18 (by kernel_rfl) rfl #[.string t243] rfl (by (try simp only [List.map_toArray, List.map_cons, List.map_nil]); first | done | rfl | (simp only [List.length_drop, List.length_take]; rfl)) ?_; (with_reducible refine (impl_GetBig.calls kj41 t243 t253 true _ A53.out).mono ?_); rintro e w' ⟨rfl, ⟨nd, rfl⟩⟩; refine ⟨_, rfl, ?_⟩))
                                    go_ret
                                    exact ⟨by first | rfl | (simp [errW_none, errW_some] <;> rfl) | (simp [*, errW_none, errW_some] <;> rfl) | (simp only [decide_eq_true_eq] at *; simp [*, bt]; done), by repeat (first | (with_reducible first | exact HB.out | apply below_alloc | apply pw_below_drewN | apply below_drew1) | exact HB.out)⟩
                                  · rw [if_neg c56] at H
                                    have c56b0 : (t253 == t241) = false := beq_eq_false_iff_ne.mpr c56
                                    have c56b1 : (t253 != t241) = true := bne_iff_ne.mpr c56
                                    obtain rfl := Option.some.inj H
                                    go_wp2_with (first | ((with_reducible refine gate_callee (f := 15) rfl ?_); refine goesL_ (some 174) rfl rfl Tryz.func15 (by kernel_rfl) rfl #[.string t237] rfl (by (try simp only [List.map_toArray, List.map_cons, List.map_nil]); first | done | rfl | (simp only [List.length_drop, List.length_take]; rfl)) ?_; (with_reducible refine (impl_GetDec.calls t237 t251 true _ A48.out (Tabs.below HL.out (by repeat (first | (with_reducible first | exact HB.out | apply below_alloc | apply pw_below_drewN | apply below_drew1) | exact HB.out)))).mono ?_); rintro e w58 ⟨rfl, hb⟩; refine ⟨_, rfl, ?_⟩; have n0_ := Aside0.mk (below_step (by repeat (first | (with_reducible first | exact HB.out | apply below_alloc | apply pw_below_drewN | apply below_drew1) | exact HB.out)) hb); clear HB; have HB := n0_; clear n0_; (try clear hb); (try clear hb2); (try clear hk); (try clear hi)) | ((with_reducible refine gate_callee (f := 18) rfl ?_); refine goesL_ (some 195) rfl rfl Tryz.func18 (by kernel_rfl) rfl #[.string t243] rfl (by (try simp only [List.map_toArray, List.map_cons, List.map_nil]); first | done | rfl | (simp only [List.length_drop, List.length_take]; rfl)) ?_; (with_reducible refine (impl_GetBig.calls kj41 t243 t253 true _ A53.out).mono ?_); rintro e w' ⟨rfl, ⟨nd, rfl⟩⟩; refine ⟨_, rfl, ?_⟩))
                                    go_ret
                                    exact ⟨by first | rfl | (simp [errW_none, errW_some] <;> rfl) | (simp [*, errW_none, errW_some] <;> rfl) | (simp only [decide_eq_true_eq] at *; simp [*, bt]; done), by repeat (first | (with_reducible first | exact HB.out | apply below_alloc | apply pw_below_drewN | apply below_drew1) | exact HB.out)⟩
                                · replace c55 := Bool.eq_false_iff.mpr c55
                                  subst c55
                                  have H1 : (some false) = some r := by rw [if_neg (show ¬ (false = true) by decide)] at H; exact H
                                  clear H
                                  have H := H1
                                  clear H1
                                  obtain rfl := Option.some.inj H
                                  go_wp2_with (first | ((with_reducible refine gate_callee (f := 15) rfl ?_); refine goesL_ (some 174) rfl rfl Tryz.func15 (by kernel_rfl) rfl #[.string t237] rfl (by (try simp only [List.map_toArray, List.map_cons, List.map_nil]); first | done | rfl | (simp only [List.length_drop, List.length_take]; rfl)) ?_; (with_reducible refine (impl_GetDec.calls t237 t251 true _ A48.out (Tabs.below HL.out (by repeat (first | (with_reducible first | exact HB.out | apply below_alloc | apply pw_below_drewN | apply below_drew1) | exact HB.out)))).mono ?_); rintro e w59 ⟨rfl, hb⟩; refine ⟨_, rfl, ?_⟩; have n0_ := Aside0.mk (below_step (by repeat (first | (with_reducible first | exact HB.out | apply below_alloc | apply pw_below_drewN | apply below_drew1) | exact HB.out)) hb); clear HB; have HB := n0_; clear n0_; (try clear hb); (try clear hb2); (try clear hk); (try clear hi)) | ((with_reducible refine gate_callee (f := 18) rfl ?_); refine goesL_ (some 195) rfl rfl Tryz.func18 (by kernel_rfl) rfl #[.string t243] rfl (by (try simp only [List.map_toArray, List.map_cons, List.map_nil]); first | done | rfl | (simp only [List.length_drop, List.length_take]; rfl)) ?_; (with_reducible refine (impl_GetBig.calls kj41 t243 t253 false _ A53.out).mono ?_); rintro e w' ⟨rfl, ⟨nd, rfl⟩⟩; refine ⟨_, rfl, ?_⟩))
                                  go_ret
                                  exact ⟨by first | rfl | (simp [errW_none, errW_some] <;> rfl) | (simp [*, errW_none, errW_some] <;> rfl) | (simp only [decide_eq_true_eq] at *; simp [*, bt]; done), by repeat (first | (with_reducible first | exact HB.out | apply below_alloc | apply pw_below_drewN | apply below_drew1) | exact HB.out)⟩
                              · replace c54 := Bool.eq_false_iff.mpr c54
                                subst c54
                                have H1 : (some true) = some r := by rw [if_neg (show ¬ (false = true) by decide)] at H; exact H
                                clear H
                                have H := H1
                                clear H1
                                obtain rfl := Option.some.inj H
                                go_wp2_with (first | ((with_reducible refine gate_callee (f := 15) rfl ?_); refine goesL_ (some 174) rfl rfl Tryz.func15 (by kernel_rfl) rfl #[.string t237] rfl (by (try simp only [List.map_toArray, List.map_cons, List.map_nil]); first | done | rfl | (simp only [List.length_drop, List.length_take]; rfl)) ?_; (with_reducible refine (impl_GetDec.calls t237 t251 true _ A48.out (Tabs.below HL.out (by repeat (first | (with_reducible first | exact HB.out | apply below_alloc | apply pw_below_drewN | apply below_drew1) | exact HB.out)))).mono ?_); rintro e w60 ⟨rfl, hb⟩; refine ⟨_, rfl, ?_⟩; have n0_ := Aside0.mk (below_step (by repeat (first | (with_reducible first | exact HB.out | apply below_alloc | apply pw_below_drewN | apply below_drew1) | exact HB.out)) hb); clear HB; have HB := n0_; clear n0_; (try clear hb); (try clear hb2); (try clear hk); (try clear hi)) | ((with_reducible refine gate_callee (f := 18) rfl ?_); refine goesL_ (some 195) rfl rfl Tryz.func18 (by kernel_rfl) rfl #[.string t243] rfl (by (try simp only [List.map_toArray, List.map_cons, List.map_nil]); first | done | rfl | (simp only [List.length_drop, List.length_take]; rfl)) ?_; (with_reducible refine (impl_GetBig.calls kj41 t243 t253 t254 _ A53.out).mono ?_); rintro e w' ⟨rfl, ⟨nd, rfl⟩⟩; refine ⟨_, rfl, ?_⟩))
                                go_ret
                                exact ⟨by first | rfl | (simp [errW_none, errW_some] <;> rfl) | (simp [*, errW_none, errW_some] <;> rfl) | (simp only [decide_eq_true_eq] at *; simp [*, bt]; done), by repeat (first | (with_reducible first | exact HB.out | apply below_alloc | apply pw_below_drewN | apply below_drew1) | exact HB.out)⟩
                            · rw [if_neg c52] at H
                              have c52b0 : ((t237.size : Int) == t236) = false := beq_eq_false_iff_ne.mpr c52
                              have c52b1 : ((t237.size : Int) != t236) = true := bne_iff_ne.mpr c52
                              obtain rfl := Option.some.inj H
                              go_wp2_with (first | ((with_reducible refine gate_callee (f := 15) rfl ?_); refine goesL_ (some 174) rfl rfl Tryz.func15 (by kernel_rfl) rfl #[.string t237] rfl (by (try simp only [List.map_toArray, List.map_cons, List.map_nil]); first | done | rfl | (simp only [List.length_drop, List.length_take]; rfl)) ?_; (with_reducible refine (impl_GetDec.calls t237 t251 true _ A48.out (Tabs.below HL.out (by repeat (first | (with_reducible first | exact HB.out | apply below_alloc | apply pw_below_drewN | apply below_drew1) | exact HB.out)))).mono ?_); rintro e w61 ⟨rfl, hb⟩; refine ⟨_, rfl, ?_⟩; have n0_ := Aside0.mk (below_step (by repeat (first | (with_reducible first | exact HB.out | apply below_alloc | apply pw_below_drewN | apply below_drew1) | exact HB.out)) hb); clear HB; have HB := n0_; clear n0_; (try clear hb); (try clear hb2); (try clear hk); (try clear hi)))
                              go_ret
                              exact ⟨by first | rfl | (simp [errW_none, errW_some] <;> rfl) | (simp [*, errW_none, errW_some] <;> rfl) | (simp only [decide_eq_true_eq] at *; simp [*, bt]; done), by repeat (first | (with_reducible first | exact HB.out | apply below_alloc | apply pw_below_drewN | apply below_drew1) | exact HB.out)⟩
                          · rw [if_neg c51] at H
                            have c51b0 : (t251 == t235) = false := beq_eq_false_iff_ne.mpr c51
                            have c51b1 : (t251 != t235) = true := bne_iff_ne.mpr c51
                            obtain rfl := Option.some.inj H
                            go_wp2_with (first | ((with_reducible refine gate_callee (f := 15) rfl ?_); refine goesL_ (some 174) rfl rfl Tryz.func15 (by kernel_rfl) rfl #[.string t237] rfl (by (try simp only [List.map_toArray, List.map_cons, List.map_nil]); first | done | rfl | (simp only [List.length_drop, List.length_take]; rfl)) ?_; (with_reducible refine (impl_GetDec.calls t237 t251 true _ A48.out (Tabs.below HL.out (by repeat (first | (with_reducible first | exact HB.out | apply below_alloc | apply pw_below_drewN | apply below_drew1) | exact HB.out)))).mono ?_); rintro e w62 ⟨rfl, hb⟩; refine ⟨_, rfl, ?_⟩; have n0_ := Aside0.mk (below_step (by repeat (first | (with_reducible first | exact HB.out | apply below_alloc | apply pw_below_drewN | apply below_drew1) | exact HB.out)) hb); clear HB; have HB := n0_; clear n0_; (try clear hb); (try clear hb2); (try clear hk); (try clear hi)))
                            go_ret
                            exact ⟨by first | rfl | (simp [errW_none, errW_some] <;> rfl) | (simp [*, errW_none, errW_some] <;> rfl) | (simp only [decide_eq_true_eq] at *; simp [*, bt]; done), by repeat (first | (with_reducible first | exact HB.out | apply below_alloc | apply pw_below_drewN | apply below_drew1) | exact HB.out)⟩
                        · replace c50 := Bool.eq_false_iff.mpr c50
                          subst c50
                          have H1 : (some false) = some r := by rw [if_neg (show ¬ (false = true) by decide)] at H; exact H
                          clear H
                          have H := H1
                          clear H1
                          obtain rfl := Option.some.inj H
                          go_wp2_with (first | ((with_reducible refine gate_callee (f := 15) rfl ?_); refine goesL_ (some 174) rfl rfl Tryz.func15 (by kernel_rfl) rfl #[.string t237] rfl (by (try simp only [List.map_toArray, List.map_cons, List.map_nil]); first | done | rfl | (simp only [List.length_drop, List.length_take]; rfl)) ?_; (with_reducible refine (impl_GetDec.calls t237 t251 false _ A48.out (Tabs.below HL.out (by repeat (first | (with_reducible first | exact HB.out | apply below_alloc | apply pw_below_drewN | apply below_drew1) | exact HB.out)))).mono ?_); rintro e w63 ⟨rfl, hb⟩; refine ⟨_, rfl, ?_⟩; have n0_ := Aside0.mk (below_step (by repeat (first | (with_reducible first | exact HB.out | apply below_alloc | apply pw_below_drewN | apply below_drew1) | exact HB.out)) hb); clear HB; have HB := n0_; clear n0_; (try clear hb); (try clear hb2); (try clear hk); (try clear hi)))
                          go_ret
                          exact ⟨by first | rfl | (simp [errW_none, errW_some] <;> rfl) | (simp [*, errW_none, errW_some] <;> rfl) | (simp only [decide_eq_true_eq] at *; simp [*, bt]; done), by repeat (first | (with_reducible first | exact HB.out | apply below_alloc | apply pw_below_drewN | apply below_drew1) | exact HB.out)⟩
                      · replace c49 := Bool.eq_false_iff.mpr c49
                        subst c49
                        have H1 : ((impl_GetBig.f kj41 t243).bind fun bt255 => (if x23_41 = true then (if bt255.2 = true then (if bt255.1 = t241 then (some ((t243.size : Int) == t242)) else (some false)) else (some false)) else (some true))) = some r := by rw [if_neg (show ¬ (false = true) by decide)] at H; exact H
                        clear H
                        have H := H1
                        clear H1
                        replace H := Option.bind_eq_some_iff.mp H
                        obtain ⟨⟨t255, t256⟩, A640, H⟩ := H
                        replace H : (if x23_41 = true then (if t256 = true then (if t255 = t241 then (some ((t243.size : Int) == t242)) else (some false)) else (some false)) else (some true)) = some r := H
                        have A64 := Aside0.mk A640
                        clear A640
                        by_cases c65 : x23_41 = true
                        · subst c65
                          have H1 : (if t256 = true then (if t255 = t241 then (some ((t243.size : Int) == t242)) else (some false)) else (some false)) = some r := by rw [if_pos rfl] at H; exact H
                          clear H
                          have H := H1
                          clear H1
                          by_cases c66 : t256 = true
                          · subst c66
                            have H1 : (if t255 = t241 then (some ((t243.size : Int) == t242)) else (some false)) = some r := by rw [if_pos rfl] at H; exact H
                            clear H
                            have H := H1
                            clear H1
                            by_cases c67 : t255 = t241
                            · rw [if_pos c67] at H
                              have c67b0 : (t255 == t241) = true := beq_iff_eq.mpr c67
                              have c67b1 : (t255 != t241) = false := bne_eq_false_iff_eq.mpr c67
                              clear c67
                              obtain rfl := Option.some.inj H
                              go_wp2_with (first | ((with_reducible refine gate_callee (f := 15) rfl ?_); refine goesL_ (some 174) rfl rfl Tryz.func15 (by kernel_rfl) rfl #[.string t237] rfl (by (try simp only [List.map_toArray, List.map_cons, List.map_nil]); first | done | rfl | (simp only [List.length_drop, List.length_take]; rfl)) ?_; (with_reducible refine (impl_GetDec.calls t237 t251 t252 _ A48.out (Tabs.below HL.out (by repeat (first | (with_reducible first | exact HB.out | apply below_alloc | apply pw_below_drewN | apply below_drew1) | exact HB.out)))).mono ?_); rintro e w68 ⟨rfl, hb⟩; refine ⟨_, rfl, ?_⟩; have n0_ := Aside0.mk (below_step (by repeat (first | (with_reducible first | exact HB.out | apply below_alloc | apply pw_below_drewN | apply below_drew1) | exact HB.out)) hb); clear HB; have HB := n0_; clear n0_; (try clear hb); (try clear hb2); (try clear hk); (try clear hi)) | ((with_reducible refine gate_callee (f := 18) rfl ?_); refine goesL_ (some 195) rfl rfl Tryz.func18 (by kernel_rfl) rfl #[.string t243] rfl (by (try simp only [List.map_toArray, List.map_cons, List.map_nil]); first | done | rfl | (simp only [List.length_drop, List.length_take]; rfl)) ?_; (with_reducible refine (impl_GetBig.calls kj41 t243 t255 true _ A64.out).mono ?_); rintro e w' ⟨rfl, ⟨nd, rfl⟩⟩; refine ⟨_, rfl, ?_⟩))
                              go_ret
                              exact ⟨by first | rfl | (simp [errW_none, errW_some] <;> rfl) | (simp [*, errW_none, errW_some] <;> rfl) | (simp only [decide_eq_true_eq] at *; simp [*, bt]; done), by repeat (first | (with_reducible first | exact HB.out | apply below_alloc | apply pw_below_drewN | apply below_drew1) | exact HB.out)⟩
                            · rw [if_neg c67] at H
                              have c67b0 : (t255 == t241) = false := beq_eq_false_iff_ne.mpr c67
                              have c67b1 : (t255 != t241) = true := bne_iff_ne.mpr c67
                              obtain rfl := Option.some.inj H
                              go_wp2_with (first | ((with_reducible refine gate_callee (f := 15) rfl ?_); refine goesL_ (some 174) rfl rfl Tryz.func15 (by kernel_rfl) rfl #[.string t237] rfl (by (try simp only [List.map_toArray, List.map_cons, List.map_nil]); first | done | rfl | (simp only [List.length_drop, List.length_take]; rfl)) ?_; (with_reducible refine (impl_GetDec.calls t237 t251 t252 _ A48.out (Tabs.below HL.out (by repeat (first | (with_reducible first | exact HB.out | apply below_alloc | apply pw_below_drewN | apply below_drew1) | exact HB.out)))).mono ?_); rintro e w69 ⟨rfl, hb⟩; refine ⟨_, rfl, ?_⟩; have n0_ := Aside0.mk (below_step (by repeat (first | (with_reducible first | exact HB.out | apply below_alloc | apply pw_below_drewN | apply below_drew1) | exact HB.out)) hb); clear HB; have HB := n0_; clear n0_; (try clear hb); (try clear hb2); (try clear hk); (try clear hi)) | ((with_reducible refine gate_callee (f := 18) rfl ?_); refine goesL_ (some 195) rfl rfl Tryz.func18 (by kernel_rfl) rfl #[.string t243] rfl (by (try simp only [List.map_toArray, List.map_cons, List.map_nil]); first | done | rfl | (simp only [List.length_drop, List.length_take]; rfl)) ?_; (with_reducible refine (impl_GetBig.calls kj41 t243 t255 true _ A64.out).mono ?_); rintro e w' ⟨rfl, ⟨nd, rfl⟩⟩; refine ⟨_, rfl, ?_⟩))
                              go_ret
                              exact ⟨by first | rfl | (simp [errW_none, errW_some] <;> rfl) | (simp [*, errW_none, errW_some] <;> rfl) | (simp only [decide_eq_true_eq] at *; simp [*, bt]; done), by repeat (first | (with_reducible first | exact HB.out | apply below_alloc | apply pw_below_drewN | apply below_drew1) | exact HB.out)⟩
                          · replace c66 := Bool.eq_false_iff.mpr c66
                            subst c66
                            have H1 : (some false) = some r := by rw [if_neg (show ¬ (false = true) by decide)] at H; exact H
                            clear H
                            have H := H1
                            clear H1
                            obtain rfl := Option.some.inj H
                            go_wp2_with (first | ((with_reducible refine gate_callee (f := 15) rfl ?_); refine goesL_ (some 174) rfl rfl Tryz.func15 (by kernel_rfl) rfl #[.string t237] rfl (by (try simp only [List.map_toArray, List.map_cons, List.map_nil]); first | done | rfl | (simp only [List.length_drop, List.length_take]; rfl)) ?_; (with_reducible refine (impl_GetDec.calls t237 t251 t252 _ A48.out (Tabs.below HL.out (by repeat (first | (with_reducible first | exact HB.out | apply below_alloc | apply pw_below_drewN | apply below_drew1) | exact HB.out)))).mono ?_); rintro e w70 ⟨rfl, hb⟩; refine ⟨_, rfl, ?_⟩; have n0_ := Aside0.mk (below_step (by repeat (first | (with_reducible first | exact HB.out | apply below_alloc | apply pw_below_drewN | apply below_drew1) | exact HB.out)) hb); clear HB; have HB := n0_; clear n0_; (try clear hb); (try clear hb2); (try clear hk); (try clear hi)) | ((with_reducible refine gate_callee (f := 18) rfl ?_); refine goesL_ (some 195) rfl rfl Tryz.func18 (by kernel_rfl) rfl #[.string t243] rfl (by (try simp only [List.map_toArray, List.map_cons, List.map_nil]); first | done | rfl | (simp only [List.length_drop, List.length_take]; rfl)) ?_; (with_reducible refine (impl_GetBig.calls kj41 t243 t255 false _ A64.out).mono ?_); rintro e w' ⟨rfl, ⟨nd, rfl⟩⟩; refine ⟨_, rfl, ?_⟩))
                            go_ret
                            exact ⟨by first | rfl | (simp [errW_none, errW_some] <;> rfl) | (simp [*, errW_none, errW_some] <;> rfl) | (simp only [decide_eq_true_eq] at *; simp [*, bt]; done), by repeat (first | (with_reducible first | exact HB.out | apply below_alloc | apply pw_below_drewN | apply below_drew1) | exact HB.out)⟩
                        · replace c65 := Bool.eq_false_iff.mpr c65
                          subst c65
                          have H1 : (some true) = some r := by rw [if_neg (show ¬ (false = true) by decide)] at H; exact H
                          clear H
                          have H := H1
                          clear H1
                          obtain rfl := Option.some.inj H
                          go_wp2_with (first | ((with_reducible refine gate_callee (f := 15) rfl ?_); refine goesL_ (some 174) rfl rfl Tryz.func15 (by kernel_rfl) rfl #[.string t237] rfl (by (try simp only [List.map_toArray, List.map_cons, List.map_nil]); first | done | rfl | (simp only [List.length_drop, List.length_take]; rfl)) ?_; (with_reducible refine (impl_GetDec.calls t237 t251 t252 _ A48.out (Tabs.below HL.out (by repeat (first | (with_reducible first | exact HB.out | apply below_alloc | apply pw_below_drewN | apply below_drew1) | exact HB.out)))).mono ?_); rintro e w71 ⟨rfl, hb⟩; refine ⟨_, rfl, ?_⟩; have n0_ := Aside0.mk (below_step (by repeat (first | (with_reducible first | exact HB.out | apply below_alloc | apply pw_below_drewN | apply below_drew1) | exact HB.out)) hb); clear HB; have HB := n0_; clear n0_; (try clear hb); (try clear hb2); (try clear hk); (try clear hi)) | ((with_reducible refine gate_callee (f := 18) rfl ?_); refine goesL_ (some 195) rfl rfl Tryz.func18 (by kernel_rfl) rfl #[.string t243] rfl (by (try simp only [List.map_toArray, List.map_cons, List.map_nil]); first | done | rfl | (simp only [List.length_drop, List.length_take]; rfl)) ?_; (with_reducible refine (impl_GetBig.calls kj41 t243 t255 t256 _ A64.out).mono ?_); rintro e w' ⟨rfl, ⟨nd, rfl⟩⟩; refine ⟨_, rfl, ?_⟩))
                          go_ret
                          exact ⟨by first | rfl | (simp [errW_none, errW_some] <;> rfl) | (simp [*, errW_none, errW_some] <;> rfl) | (simp only [decide_eq_true_eq] at *; simp [*, bt]; done), by repeat (first | (with_reducible first | exact HB.out | apply below_alloc | apply pw_below_drewN | apply below_drew1) | exact HB.out)⟩

/-- THE ONE PURE STATEMENT of laws_FnNums: yours. -/
def laws_FnNums.Pure : Prop := ∀ (l0 : List Int), l0.length ≤ maxLen → l0.length * 1 ≤ 140737488351232 → (∀ x ∈ l0, (Lit.int .u8 x).wf = true) → ∃ k, laws_FnNums.f k l0 = some true

end Go.Proofs.YtdjepilhenijeaaGreatDoor.PFnNums
