/- computuslaw11.FootStands answers true. -/
import Derived.Test.YtehoammeaimobaaLStands
import Derived.Test.YtehoammeaimobaaQKnown
set_option linter.unusedVariables false
namespace Go.Proofs.Ytehoammeaimobaa.Q
open Go Go.RowKit Go.Proofs.Ytehoammeaimobaa.D
theorem stands_is (f : FootT) (at_ : Int) (h1 : -9223372036854775808 ≤ at_) (h2 : at_ ≤ 9223372036854775807) (w : World) : Calls Try.prog 4 #[.agg (footA f), .int .i64 at_] w fun e w' => e = .returned (.bool true) ∧ Below w.heap.size w w' := by
  rcases at_cases f at_ h1 h2 with ⟨e0, _, a, b, c, d⟩ | ⟨_, j, _, _, _, _, a, b, c, d⟩
  · exact stands_walk f at_ z46 z46 e0 e0 w a b c d known_is
  · exact stands_walk f at_ _ _ 0 0 w a b c d known_is
end Go.Proofs.Ytehoammeaimobaa.Q
