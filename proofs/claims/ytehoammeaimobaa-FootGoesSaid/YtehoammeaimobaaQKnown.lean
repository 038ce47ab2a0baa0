/- computuslaw11.known answers true. -/
import Derived.Test.YtehoammeaimobaaLKnown
set_option linter.unusedVariables false
namespace Go.Proofs.Ytehoammeaimobaa.Q
open Go Go.RowKit Go.Proofs.Ytehoammeaimobaa.D Go.Proofs.YtehoammeaimobaaW.PrintWords Go.Proofs.YtehoammeaimobaaW.PrintLast Go.Proofs.YtehoammeaimobaaW.PrintMore

theorem kF_right : rightF kF := by decide
theorem kF_first : shF kF 2024 true = kS := by rfl
theorem kF_second : shF kF 2024 false = kT := by rfl
theorem z_wrong : ¬ rightF zfoot := by decide
theorem kF_can : canO kF = some true := by rw [can_is, decide_eq_true kF_right]
theorem known_is (w : World) : Calls Try.prog 13 #[] w fun e w' => e = .returned (.bool true) ∧ Below w.heap.size w w' := by
  obtain ⟨y, hy, hyo⟩ := yearAt_is 1711846800 (by decide) (by decide)
  obtain ⟨y', hy', hyo'⟩ := ryear_is 1711846800 (by decide) (by decide) 2000 (by decide)
  have hY : YearOf (1711846800 / 86400 - 10957) 2024 := .inr (.inr ⟨by decide, by decide, by decide, by decide⟩)
  obtain rfl := yearOf_one hyo hY
  obtain rfl := yearOf_one hyo' hY
  obtain ⟨_, j, a, b, _, _, c, _, d, _⟩ := at_ok kF 1711846800 2024 kF_right hy hyo hy' (by decide)
  have e0 : sq kF 4048 = kS := (sq_even kF 2024).trans kF_first
  have e1 : sq kF (4048 + 1) = kT := (sq_odd kF 2024).trans kF_second
  have hj : j = 4048 := sq_one kF_right a b (by rw [e0]; decide) (by rw [e1]; decide)
  subst hj
  rw [e0] at c
  rw [e1] at d
  obtain ⟨y0, hy0, hyo0⟩ := yearAt_is 0 (by decide) (by decide)
  have hz : canO zfoot = some false := by rw [can_is, decide_eq_false z_wrong]
  refine known_walk kF zfoot b39 zero39 b39z w (fun w => ?_) c d (fun w => At_err zfoot 0 1 w (by decide) (asks_arg zfoot 0 y0 hz hy0))
  exact Year_lit 2000 kF 2024 kS kT w kF_can (by decide) (by decide) (by rw [← kF_first]; exact shift_is kF 2024 true kF_right (by decide) 2000 (by decide)) (by rw [← kF_second]; exact shift_is kF 2024 false kF_right (by decide) 2000 (by decide))
end Go.Proofs.Ytehoammeaimobaa.Q
