-- Laid by wip/tools/handprint.py of this session (a patched run of the kit's print program); not by hand. Not trusted: Lean checks it.
import Derived.Test.YtehoammeaimobaaDx0
namespace Go.Proofs.Ytehoammeaimobaa.D
open Go.RowKit Go.Proofs.YtehoammeaimobaaW.PrintWords Go.Proofs.YtehoammeaimobaaW.PrintLast Go.Proofs.YtehoammeaimobaaW.PrintMore
attribute [local go_sem] max2_int min2_int max_two min_two max_three min_three max_four min_four   -- for this text's walks alone
set_option linter.unusedVariables false
set_option linter.unusedSimpArgs false

/-! ### fire_Instant: function 31 -/
def fire_Instant.f (a0 : Int) (a1 : Int) (a2 : Int) (a3 : Int) (a4 : Int) : Option (Int) := if a2 = 117 then (some (wrap64 ((wrap64 ((wrap64 ((wrap64 ((wrap64 (a0 + 10957)) * 86400)) + a1)) - 0)) - 0))) else (if a2 = 115 then (some (wrap64 ((wrap64 ((wrap64 ((wrap64 ((wrap64 (a0 + 10957)) * 86400)) + a1)) - a3)) - 0))) else (some (wrap64 ((wrap64 ((wrap64 ((wrap64 ((wrap64 (a0 + 10957)) * 86400)) + a1)) - a3)) - a4))))
set_option maxHeartbeats 8000000 in
set_option maxRecDepth 100000 in
theorem fire_Instant.calls (a0 : Int) (a1 : Int) (a2 : Int) (a3 : Int) (a4 : Int) (r : Int) (w : World) (h : fire_Instant.f a0 a1 a2 a3 a4 = some r) :
    Calls Try.prog 31 #[.int .i64 a0, .int .i64 a1, .int .u8 a2, .int .i64 a3, .int .i64 a4] w fun e w' => e = .returned (.int .i64 r) ∧ Drawn0 w w' := by
  have H : (if a2 = 117 then (some (wrap64 ((wrap64 ((wrap64 ((wrap64 ((wrap64 (a0 + 10957)) * 86400)) + a1)) - 0)) - 0))) else (if a2 = 115 then (some (wrap64 ((wrap64 ((wrap64 ((wrap64 ((wrap64 (a0 + 10957)) * 86400)) + a1)) - a3)) - 0))) else (some (wrap64 ((wrap64 ((wrap64 ((wrap64 ((wrap64 (a0 + 10957)) * 86400)) + a1)) - a3)) - a4))))) = some r := h
  clear h
  by_cases c6 : a2 = 117
  · rw [if_pos c6] at H
    have c6b0 : (a2 == 117) = true := beq_iff_eq.mpr c6
    have c6b1 : (a2 != 117) = false := bne_eq_false_iff_eq.mpr c6
    clear c6
    obtain rfl := Option.some.inj H
    go_enter Try.func31, Try.ntmps31
    go_wp2
    go_ret
    exact ⟨by first | rfl | (simp; done) | (simp [*]; done), by repeat (first | exact Drawn0.refl _ | apply Drawn0.step)⟩
  · rw [if_neg c6] at H
    have c6b0 : (a2 == 117) = false := beq_eq_false_iff_ne.mpr c6
    have c6b1 : (a2 != 117) = true := bne_iff_ne.mpr c6
    by_cases c7 : a2 = 115
    · rw [if_pos c7] at H
      have c7b0 : (a2 == 115) = true := beq_iff_eq.mpr c7
      have c7b1 : (a2 != 115) = false := bne_eq_false_iff_eq.mpr c7
      clear c7
      obtain rfl := Option.some.inj H
      go_enter Try.func31, Try.ntmps31
      go_wp2
      go_ret
      exact ⟨by first | rfl | (simp; done) | (simp [*]; done), by repeat (first | exact Drawn0.refl _ | apply Drawn0.step)⟩
    · rw [if_neg c7] at H
      have c7b0 : (a2 == 115) = false := beq_eq_false_iff_ne.mpr c7
      have c7b1 : (a2 != 115) = true := bne_iff_ne.mpr c7
      obtain rfl := Option.some.inj H
      go_enter Try.func31, Try.ntmps31
      go_wp2
      go_ret
      exact ⟨by first | rfl | (simp; done) | (simp [*]; done), by repeat (first | exact Drawn0.refl _ | apply Drawn0.step)⟩

end Go.Proofs.Ytehoammeaimobaa.D
