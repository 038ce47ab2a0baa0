/- Hand contract of dec.ten: for 0 ≤ k ≤ 9 it hands back 10 to the k. -/
import Derived.Test.YtndlhoaigaidbaaDx0
namespace Go.Proofs.Ytndlhoaigaidbaa.D
open Go.RowKit Go.Proofs.YtndlhoaigaidbaaW.PrintWords Go.Proofs.YtndlhoaigaidbaaW.PrintLast Go.Proofs.YtndlhoaigaidbaaW.PrintMore

def dec_ten.f (a0 : Int) : Option Int := if 0 ≤ a0 then (if a0 ≤ 9 then some (10 ^ a0.toNat) else none) else none

set_option maxHeartbeats 4000000 in
theorem dec_ten.calls (a0 r : Int) (w : World) (h : dec_ten.f a0 = some r) : Calls Try.prog 33 #[.int .i64 a0] w fun e w' => e = .returned (.int .i64 r) ∧ Below w.heap.size w w' := by
  unfold dec_ten.f at h
  by_cases h0 : 0 ≤ a0
  · rw [if_pos h0] at h
    by_cases h1 : a0 ≤ 9
    · rw [if_pos h1] at h
      have hr := Option.some.inj h
      clear h
      obtain rfl | rfl | rfl | rfl | rfl | rfl | rfl | rfl | rfl | rfl : a0 = 0 ∨ a0 = 1 ∨ a0 = 2 ∨ a0 = 3 ∨ a0 = 4 ∨ a0 = 5 ∨ a0 = 6 ∨ a0 = 7 ∨ a0 = 8 ∨ a0 = 9 := by omega
      all_goals
        (try simp only [show ((10 : Int) ^ (0 : Int).toNat) = 1 by decide, show ((10 : Int) ^ (1 : Int).toNat) = 10 by decide, show ((10 : Int) ^ (2 : Int).toNat) = 100 by decide, show ((10 : Int) ^ (3 : Int).toNat) = 1000 by decide, show ((10 : Int) ^ (4 : Int).toNat) = 10000 by decide, show ((10 : Int) ^ (5 : Int).toNat) = 100000 by decide, show ((10 : Int) ^ (6 : Int).toNat) = 1000000 by decide, show ((10 : Int) ^ (7 : Int).toNat) = 10000000 by decide, show ((10 : Int) ^ (8 : Int).toNat) = 100000000 by decide, show ((10 : Int) ^ (9 : Int).toNat) = 1000000000 by decide] at hr)
        subst hr
        go_enter Try.func33, Try.ntmps33
        go_wp2
        go_ret
        exact ⟨rfl, below_alloc (Below.refl _ _) _⟩
    · rw [if_neg h1] at h; cases h
  · rw [if_neg h0] at h; cases h
end Go.Proofs.Ytndlhoaigaidbaa.D
