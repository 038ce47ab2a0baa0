/- Hand contract of civil.Len: how many days a month has. -/
import Derived.Test.YtehoammeaimobaaDx5
set_option linter.unusedVariables false
namespace Go.Proofs.Ytehoammeaimobaa.D
open Go.RowKit Go.Proofs.YtehoammeaimobaaW.PrintWords Go.Proofs.YtehoammeaimobaaW.PrintLast Go.Proofs.YtehoammeaimobaaW.PrintMore

def mdays (m : Int) : Int := if m = 2 then 28 else if m = 4 then 30 else if m = 6 then 30 else if m = 9 then 30 else if m = 11 then 30 else 31
def civil_Len.f (a0 a1 : Int) : Option Int :=
  if a1 < 1 then some 0 else if 12 < a1 then some 0 else if a1 = 2 then ((civil_Leap.f a0).bind fun t => some (if t = true then 29 else 28)) else some (mdays a1)

set_option maxHeartbeats 8000000 in
theorem Len_low (y m : Int) (w : World) (h : m < 1) : Calls Try.prog 43 #[.int .i64 y, .int .i64 m] w fun e w' => e = .returned (.int .i64 0) ∧ Below w.heap.size w w' := by
  go_enter Try.func43, Try.ntmps43
  go_wp2_with (fail)
  go_ret
  exact ⟨rfl, below_alloc (Below.refl _ _) _⟩
set_option maxHeartbeats 8000000 in
theorem Len_high (y m : Int) (w : World) (h : 12 < m) : Calls Try.prog 43 #[.int .i64 y, .int .i64 m] w fun e w' => e = .returned (.int .i64 0) ∧ Below w.heap.size w w' := by
  have h1 : ¬ m < 1 := by omega
  go_enter Try.func43, Try.ntmps43
  go_wp2_with (fail)
  go_ret
  exact ⟨rfl, below_alloc (Below.refl _ _) _⟩
set_option maxHeartbeats 8000000 in
theorem Len_mid (y m : Int) (w : World) (h0 : 1 ≤ m) (h1 : m ≤ 12) (h2 : ¬ m = 2) : Calls Try.prog 43 #[.int .i64 y, .int .i64 m] w fun e w' => e = .returned (.int .i64 (mdays m)) ∧ Below w.heap.size w w' := by
  obtain rfl | rfl | rfl | rfl | rfl | rfl | rfl | rfl | rfl | rfl | rfl : m = 1 ∨ m = 3 ∨ m = 4 ∨ m = 5 ∨ m = 6 ∨ m = 7 ∨ m = 8 ∨ m = 9 ∨ m = 10 ∨ m = 11 ∨ m = 12 := by omega
  all_goals
    clear h0 h1 h2
    go_enter Try.func43, Try.ntmps43
    go_wp2_with (fail)
    go_ret
    exact ⟨rfl, below_alloc (Below.refl _ _) _⟩
set_option maxHeartbeats 8000000 in
theorem Len_feb (y : Int) (t : Bool) (w : World) (h : civil_Leap.f y = some t) : Calls Try.prog 43 #[.int .i64 y, .int .i64 2] w fun e w' => e = .returned (.int .i64 (if t = true then 29 else 28)) ∧ Below w.heap.size w w' := by
  have H := Aside0.mk h
  clear h
  cases t
  · rw [if_neg Bool.false_ne_true]
    go_enter Try.func43, Try.ntmps43
    go_wp2_with (fail)
    refine (civil_Leap.calls y false _ H.out).mono ?_
    rintro e w1 ⟨rfl, hd1⟩
    have hb1 := hd1.below
    have k2 : w1.cell? ⟨w.heap.size, 2, none⟩ = some (.int .i64 28) := pw_cell_below hb1 (by simp [go_sem])
    have HB := Aside0.mk (below_then (below_alloc (Below.refl _ _) _) (by simp) hb1)
    clear hb1 hd1
    go_wp2_with (fail)
    go_ret
    exact ⟨rfl, HB.out⟩
  · rw [if_pos rfl]
    go_enter Try.func43, Try.ntmps43
    go_wp2_with (fail)
    refine (civil_Leap.calls y true _ H.out).mono ?_
    rintro e w1 ⟨rfl, hd1⟩
    have hb1 := hd1.below
    have HB := Aside0.mk (below_then (below_alloc (Below.refl _ _) _) (by simp) hb1)
    clear hb1 hd1
    go_wp2_with (fail)
    go_ret
    exact ⟨rfl, HB.out⟩
theorem civil_Len.calls (a0 : Int) (a1 : Int) (r : Int) (w : World) (h : civil_Len.f a0 a1 = some r) :
    Calls Try.prog 43 #[.int .i64 a0, .int .i64 a1] w fun e w' => e = .returned (.int .i64 r) ∧ Below w.heap.size w w' := by
  unfold civil_Len.f at h
  by_cases h0 : a1 < 1
  · rw [if_pos h0] at h; cases h; exact Len_low _ _ _ h0
  rw [if_neg h0] at h
  by_cases h1 : 12 < a1
  · rw [if_pos h1] at h; cases h; exact Len_high _ _ _ h1
  rw [if_neg h1] at h
  by_cases h2 : a1 = 2
  · rw [if_pos h2] at h
    obtain ⟨t, ht, h⟩ := Option.bind_eq_some_iff.1 h
    cases h; subst h2; exact Len_feb _ _ _ ht
  · rw [if_neg h2] at h; cases h; exact Len_mid _ _ _ (by omega) (by omega) h2
end Go.Proofs.Ytehoammeaimobaa.D
