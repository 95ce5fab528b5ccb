-- PRINTED for this claim by a program of this session's repo over the kit's printer, with contracts of our own among the functions.
import Derived.Test.YtfmhajlpaelmeaaPFnExactGlobx0
import Derived.Test.YtfmhajlpaelmeaaPFnExactGlobx1
namespace Go.Proofs.Ytfmhajlpaelmeaa.PFnExactGlob
open Go.RowKit Go.Proofs.YtfmhajlpaelmeaaW.PrintWords Go.Proofs.YtfmhajlpaelmeaaW.PrintLast Go.Proofs.YtfmhajlpaelmeaaW.PrintMore
attribute [local go_sem] max2_int min2_int max_two min_two max_three min_three max_four min_four   -- for this text's walks alone
set_option linter.unusedVariables false
set_option linter.unusedSimpArgs false

/-! ### spec_Glob: function 33 -/
def spec_Glob.f (k : Nat) (a0 : ByteArray) (a1 : ByteArray) : Option (Bool) := if (a0.size : Int) ≤ 50 then (if (a1.size : Int) ≤ 300 then ((spec_l02Glob.f k a0 a1).bind fun t124 => (some t124)) else (some false)) else (some false)
theorem spec_Glob.mono : ∀ a0 a1 k, LeO (spec_Glob.f k a0 a1) (spec_Glob.f (k + 1) a0 a1) := by
  intro a0 a1 k
  unfold spec_Glob.f
  repeat' first
      | (with_reducible exact spec_l02Glob.mono _ _ _)
      | (with_reducible exact LeO.refl _)
      | (with_reducible exact LeO.none _)
      | (with_reducible refine LeO.ite ?_ ?_)
      | (with_reducible refine LeO.bind ?_ (fun _ => ?_))
      | exact spec_l02Glob.mono _ _ _
      | exact LeO.none _
      | refine LeO.ite ?_ ?_
      | refine LeO.bind ?_ (fun _ => ?_)
set_option maxHeartbeats 8000000 in
set_option maxRecDepth 100000 in
theorem spec_Glob.calls (k : Nat) (a0 : ByteArray) (a1 : ByteArray) (r : Bool) (w : World) (h : spec_Glob.f k a0 a1 = some r) :
    Calls Try.prog 33 #[.string a0, .string a1] w fun e w' => e = .returned (.bool r) ∧ Below w.heap.size w w' := by
  have HB := Aside0.mk (Below.refl w.heap.size w)
  have H : (if (a0.size : Int) ≤ 50 then (if (a1.size : Int) ≤ 300 then ((spec_l02Glob.f k a0 a1).bind fun t124 => (some t124)) else (some false)) else (some false)) = some r := h
  clear h
  by_cases c3 : (a0.size : Int) ≤ 50
  · rw [if_pos c3] at H
    have c3b0 : decide ((a0.size : Int) ≤ 50) = true := decide_eq_true c3
    have c3b1 : decide (a0.size ≤ 50) = true := decide_eq_true (by omega)
    clear c3
    by_cases c4 : (a1.size : Int) ≤ 300
    · rw [if_pos c4] at H
      have c4b0 : decide ((a1.size : Int) ≤ 300) = true := decide_eq_true c4
      have c4b1 : decide (a1.size ≤ 300) = true := decide_eq_true (by omega)
      clear c4
      replace H := Option.bind_eq_some_iff.mp H
      obtain ⟨t124, A50, H⟩ := H
      replace H : (some t124) = some r := H
      have A5 := Aside0.mk A50
      clear A50
      obtain rfl := Option.some.inj H
      go_enter Try.func33, Try.ntmps33
      go_wp2_with (first | (go_at_call 65; (with_reducible refine (spec_l02Glob.calls k a0 a1 t124 _ A5.out).mono ?_); rintro e w6 ⟨rfl, hb⟩; have n0_ := Aside0.mk (below_step (by repeat (first | (with_reducible first | exact HB.out | apply below_alloc | apply pw_below_drewN | apply below_drew1) | exact HB.out)) hb); clear HB; have HB := n0_; clear n0_; (try clear hb); (try clear hb2); (try clear hk); (try clear hi)))
      go_ret
      exact ⟨by first | rfl | (simp [errW_none, errW_some] <;> rfl) | (simp [*, errW_none, errW_some] <;> rfl), by repeat (first | (with_reducible first | exact HB.out | apply below_alloc | apply pw_below_drewN | apply below_drew1) | exact HB.out)⟩
    · rw [if_neg c4] at H
      have c4b0 : decide ((a1.size : Int) ≤ 300) = false := decide_eq_false c4
      have c4b1 : decide (a1.size ≤ 300) = false := decide_eq_false (by omega)
      clear c4
      obtain rfl := Option.some.inj H
      go_enter Try.func33, Try.ntmps33
      go_wp2
      go_ret
      exact ⟨by first | rfl | (simp [errW_none, errW_some] <;> rfl) | (simp [*, errW_none, errW_some] <;> rfl), by repeat (first | (with_reducible first | exact HB.out | apply below_alloc | apply pw_below_drewN | apply below_drew1) | exact HB.out)⟩
  · rw [if_neg c3] at H
    have c3b0 : decide ((a0.size : Int) ≤ 50) = false := decide_eq_false c3
    have c3b1 : decide (a0.size ≤ 50) = false := decide_eq_false (by omega)
    clear c3
    obtain rfl := Option.some.inj H
    go_enter Try.func33, Try.ntmps33
    go_wp2
    go_ret
    exact ⟨by first | rfl | (simp [errW_none, errW_some] <;> rfl) | (simp [*, errW_none, errW_some] <;> rfl), by repeat (first | (with_reducible first | exact HB.out | apply below_alloc | apply pw_below_drewN | apply below_drew1) | exact HB.out)⟩

end Go.Proofs.Ytfmhajlpaelmeaa.PFnExactGlob
