/- Hand contracts of when.On.form and its methods: the form of a day, nil where it can not be. -/
import Derived.Test.YtehoammeaimobaaDx4
import Derived.Handy
namespace Go.Proofs.Ytehoammeaimobaa.D
open Go.RowKit Go.Proofs.YtehoammeaimobaaW.PrintWords Go.Proofs.YtehoammeaimobaaW.PrintLast Go.Proofs.YtehoammeaimobaaW.PrintMore

def dayOk (n : Int) : Bool := decide (1 ≤ n) && decide (n ≤ 31)
def wdOk (n : Int) : Bool := decide (0 ≤ n) && decide (n ≤ 6)

theorem day_calls (n : Int) (w : World) : Calls Try.prog 92 #[.int .i64 n] w fun e w' => e = .returned (.bool (dayOk n)) ∧ Drawn0 w w' := by
  by_cases h0 : 1 ≤ n
  · by_cases h1 : n ≤ 31
    · have hr : dayOk n = true := by simp [dayOk, h0, h1]
      rw [hr]
      go_enter Try.func92, Try.ntmps92
      go_wp2
      go_ret
      exact ⟨rfl, by repeat (first | exact Drawn0.refl _ | apply Drawn0.step)⟩
    · have hr : dayOk n = false := by simp [dayOk, h1]
      rw [hr]
      go_enter Try.func92, Try.ntmps92
      go_wp2
      go_ret
      exact ⟨rfl, by repeat (first | exact Drawn0.refl _ | apply Drawn0.step)⟩
  · have hr : dayOk n = false := by simp [dayOk, h0]
    rw [hr]
    go_enter Try.func92, Try.ntmps92
    go_wp2
    go_ret
    exact ⟨rfl, by repeat (first | exact Drawn0.refl _ | apply Drawn0.step)⟩
theorem wd_calls (n : Int) (w : World) : Calls Try.prog 94 #[.int .i64 n] w fun e w' => e = .returned (.bool (wdOk n)) ∧ Drawn0 w w' := by
  by_cases h0 : 0 ≤ n
  · by_cases h1 : n ≤ 6
    · have hr : wdOk n = true := by simp [wdOk, h0, h1]
      rw [hr]
      go_enter Try.func94, Try.ntmps94
      go_wp2
      go_ret
      exact ⟨rfl, by repeat (first | exact Drawn0.refl _ | apply Drawn0.step)⟩
    · have hr : wdOk n = false := by simp [wdOk, h1]
      rw [hr]
      go_enter Try.func94, Try.ntmps94
      go_wp2
      go_ret
      exact ⟨rfl, by repeat (first | exact Drawn0.refl _ | apply Drawn0.step)⟩
  · have hr : wdOk n = false := by simp [wdOk, h0]
    rw [hr]
    go_enter Try.func94, Try.ntmps94
    go_wp2
    go_ret
    exact ⟨rfl, by repeat (first | exact Drawn0.refl _ | apply Drawn0.step)⟩

theorem fixed_calls (n : Int) (w : World) : Calls Try.prog 91 #[.int .i64 n] w fun e w' => e = .returned (.bool (dayOk n)) ∧ Below w.heap.size w w' := by
  go_enter Try.func91, Try.ntmps91
  go_wp2_with (go_at_call 92; refine (day_calls _ _).mono ?_; rintro e w1 ⟨rfl, hb1⟩)
  go_ret
  exact ⟨rfl, hb1.below⟩
theorem final_calls (n : Int) (w : World) : Calls Try.prog 93 #[.int .i64 n] w fun e w' => e = .returned (.bool (wdOk n)) ∧ Below w.heap.size w w' := by
  go_enter Try.func93, Try.ntmps93
  go_wp2_with (go_at_call 94; refine (wd_calls _ _).mono ?_; rintro e w1 ⟨rfl, hb1⟩)
  go_ret
  exact ⟨rfl, hb1.below⟩
theorem near_calls (d n s : Int) (w : World) : Calls Try.prog 95 #[.agg #[.int .i64 d, .int .i64 n, .int .i64 s]] w fun e w' => e = .returned (.bool (wdOk d && dayOk n)) ∧ Below w.heap.size w w' := by
  by_cases hd : wdOk d = true
  · rw [hd]
    go_enter Try.func95, Try.ntmps95
    go_wp2_with (fail)
    refine (wd_calls _ _).mono ?_
    rintro e w1 ⟨rfl, hb1⟩
    have hB : Below w.heap.size w w1 := below_then (below_alloc (Below.refl _ _) _) (by simp) hb1.below
    have k1 : w1.cell? ⟨w.heap.size, 1, none⟩ = some (.int .i64 n) := pw_cell_below hb1.below (by simp [go_sem])
    rw [hd]
    clear hb1
    go_wp2_with (go_at_call 92; refine (day_calls _ _).mono ?_; rintro e w2 ⟨rfl, hb2⟩)
    go_ret
    exact ⟨rfl, below_then hB hB.size hb2.below⟩
  · have hd : wdOk d = false := by simpa using hd
    rw [hd]
    go_enter Try.func95, Try.ntmps95
    go_wp2_with (fail)
    refine (wd_calls _ _).mono ?_
    rintro e w1 ⟨rfl, hb1⟩
    have hB : Below w.heap.size w w1 := below_then (below_alloc (Below.refl _ _) _) (by simp) hb1.below
    rw [hd]
    clear hb1
    go_wp2_with (fail)
    go_ret
    exact ⟨rfl, hB⟩

/-- The value of a day's form. -/
def formV (k d n : Int) : Value :=
  if k = 0 ∧ d = 0 then (if dayOk n = true then .iface 79 (.int .i64 n) else .nilIface)
  else if k = 1 ∧ n = 0 then (if wdOk d = true then .iface 81 (.int .i64 d) else .nilIface)
  else if k = 2 then (if (wdOk d && dayOk n) = true then .iface 85 (.agg #[.int .i64 d, .int .i64 n, .int .i64 1]) else .nilIface)
  else if k = 3 then (if (wdOk d && dayOk n) = true then .iface 85 (.agg #[.int .i64 d, .int .i64 n, .int .i64 (-1)]) else .nilIface)
  else .nilIface

set_option maxHeartbeats 8000000 in
theorem form0 (n : Int) (w : World) : Calls Try.prog 40 #[.agg #[.int .i64 0, .int .i64 0, .int .i64 n]] w fun e w' => e = .returned (if dayOk n = true then .iface 79 (.int .i64 n) else .nilIface) ∧ Below w.heap.size w w' := by
    by_cases hx : dayOk n = true
    · rw [if_pos hx]
      go_enter Try.func40, Try.ntmps40
      go_wp2_with (fail)
      refine (fixed_calls n _).mono ?_
      rintro e w1 ⟨rfl, hb1⟩
      have hB : Below w.heap.size w w1 := below_then (below_alloc (Below.refl _ _) _) (by simp) hb1
      clear hb1
      rw [hx]
      go_wp2_with (fail)
      go_ret
      exact ⟨rfl, hB⟩
    · rw [if_neg hx]
      have hx : dayOk n = false := by simpa using hx
      go_enter Try.func40, Try.ntmps40
      go_wp2_with (fail)
      refine (fixed_calls n _).mono ?_
      rintro e w1 ⟨rfl, hb1⟩
      have hB : Below w.heap.size w w1 := below_then (below_alloc (Below.refl _ _) _) (by simp) hb1
      clear hb1
      rw [hx]
      go_wp2_with (fail)
      go_ret
      exact ⟨rfl, hB⟩
set_option maxHeartbeats 8000000 in
theorem form0n (d n : Int) (w : World) (h : ¬ d = 0) : Calls Try.prog 40 #[.agg #[.int .i64 0, .int .i64 d, .int .i64 n]] w fun e w' => e = .returned (.nilIface) ∧ Below w.heap.size w w' := by
    go_enter Try.func40, Try.ntmps40
    go_wp2_with (fail)
    go_ret
    exact ⟨rfl, below_alloc (Below.refl _ _) _⟩
set_option maxHeartbeats 8000000 in
theorem form1 (d : Int) (w : World) : Calls Try.prog 40 #[.agg #[.int .i64 1, .int .i64 d, .int .i64 0]] w fun e w' => e = .returned (if wdOk d = true then .iface 81 (.int .i64 d) else .nilIface) ∧ Below w.heap.size w w' := by
    by_cases hx : wdOk d = true
    · rw [if_pos hx]
      go_enter Try.func40, Try.ntmps40
      go_wp2_with (fail)
      refine (final_calls d _).mono ?_
      rintro e w1 ⟨rfl, hb1⟩
      have hB : Below w.heap.size w w1 := below_then (below_alloc (Below.refl _ _) _) (by simp) hb1
      clear hb1
      rw [hx]
      go_wp2_with (fail)
      go_ret
      exact ⟨rfl, hB⟩
    · rw [if_neg hx]
      have hx : wdOk d = false := by simpa using hx
      go_enter Try.func40, Try.ntmps40
      go_wp2_with (fail)
      refine (final_calls d _).mono ?_
      rintro e w1 ⟨rfl, hb1⟩
      have hB : Below w.heap.size w w1 := below_then (below_alloc (Below.refl _ _) _) (by simp) hb1
      clear hb1
      rw [hx]
      go_wp2_with (fail)
      go_ret
      exact ⟨rfl, hB⟩
set_option maxHeartbeats 8000000 in
theorem form1n (d n : Int) (w : World) (h : ¬ n = 0) : Calls Try.prog 40 #[.agg #[.int .i64 1, .int .i64 d, .int .i64 n]] w fun e w' => e = .returned (.nilIface) ∧ Below w.heap.size w w' := by
    go_enter Try.func40, Try.ntmps40
    go_wp2_with (fail)
    go_ret
    exact ⟨rfl, below_alloc (Below.refl _ _) _⟩
set_option maxHeartbeats 8000000 in
theorem form2 (d n : Int) (w : World) : Calls Try.prog 40 #[.agg #[.int .i64 2, .int .i64 d, .int .i64 n]] w fun e w' => e = .returned (if (wdOk d && dayOk n) = true then .iface 85 (.agg #[.int .i64 d, .int .i64 n, .int .i64 1]) else .nilIface) ∧ Below w.heap.size w w' := by
    by_cases hx : (wdOk d && dayOk n) = true
    · rw [if_pos hx]
      go_enter Try.func40, Try.ntmps40
      go_wp2_with (fail)
      refine (near_calls d n 1 _).mono ?_
      rintro e w1 ⟨rfl, hb1⟩
      have hB : Below w.heap.size w w1 := below_then (below_alloc (Below.refl _ _) _) (by simp) hb1
      clear hb1
      rw [hx]
      go_wp2_with (fail)
      go_ret
      exact ⟨rfl, hB⟩
    · rw [if_neg hx]
      have hx : (wdOk d && dayOk n) = false := by simpa using hx
      go_enter Try.func40, Try.ntmps40
      go_wp2_with (fail)
      refine (near_calls d n 1 _).mono ?_
      rintro e w1 ⟨rfl, hb1⟩
      have hB : Below w.heap.size w w1 := below_then (below_alloc (Below.refl _ _) _) (by simp) hb1
      clear hb1
      rw [hx]
      go_wp2_with (fail)
      go_ret
      exact ⟨rfl, hB⟩
set_option maxHeartbeats 8000000 in
theorem form3 (d n : Int) (w : World) : Calls Try.prog 40 #[.agg #[.int .i64 3, .int .i64 d, .int .i64 n]] w fun e w' => e = .returned (if (wdOk d && dayOk n) = true then .iface 85 (.agg #[.int .i64 d, .int .i64 n, .int .i64 (-1)]) else .nilIface) ∧ Below w.heap.size w w' := by
    by_cases hx : (wdOk d && dayOk n) = true
    · rw [if_pos hx]
      go_enter Try.func40, Try.ntmps40
      go_wp2_with (fail)
      refine (near_calls d n (-1) _).mono ?_
      rintro e w1 ⟨rfl, hb1⟩
      have hB : Below w.heap.size w w1 := below_then (below_alloc (Below.refl _ _) _) (by simp) hb1
      clear hb1
      rw [hx]
      go_wp2_with (fail)
      go_ret
      exact ⟨rfl, hB⟩
    · rw [if_neg hx]
      have hx : (wdOk d && dayOk n) = false := by simpa using hx
      go_enter Try.func40, Try.ntmps40
      go_wp2_with (fail)
      refine (near_calls d n (-1) _).mono ?_
      rintro e w1 ⟨rfl, hb1⟩
      have hB : Below w.heap.size w w1 := below_then (below_alloc (Below.refl _ _) _) (by simp) hb1
      clear hb1
      rw [hx]
      go_wp2_with (fail)
      go_ret
      exact ⟨rfl, hB⟩
set_option maxHeartbeats 8000000 in
theorem form4 (k d n : Int) (w : World) (h0 : ¬ k = 0) (h1 : ¬ k = 1) (h2 : ¬ k = 2) (h3 : ¬ k = 3) : Calls Try.prog 40 #[.agg #[.int .i64 k, .int .i64 d, .int .i64 n]] w fun e w' => e = .returned (.nilIface) ∧ Below w.heap.size w w' := by
    go_enter Try.func40, Try.ntmps40
    go_wp2_with (fail)
    go_ret
    exact ⟨rfl, below_alloc (Below.refl _ _) _⟩
theorem form_calls (k d n : Int) (w : World) : Calls Try.prog 40 #[.agg #[.int .i64 k, .int .i64 d, .int .i64 n]] w fun e w' => e = .returned (formV k d n) ∧ Below w.heap.size w w' := by
  unfold formV
  by_cases h0 : k = 0
  · subst h0
    by_cases hd : d = 0
    · subst hd; rw [if_pos ⟨rfl, rfl⟩]; exact form0 n w
    · rw [if_neg (fun h => hd h.2), if_neg (fun h => by cases h.1), if_neg (by decide), if_neg (by decide)]; exact form0n d n w hd
  · rw [if_neg (fun h => h0 h.1)]
    by_cases h1 : k = 1
    · subst h1
      by_cases hn : n = 0
      · subst hn; rw [if_pos ⟨rfl, rfl⟩]; exact form1 d w
      · rw [if_neg (fun h => hn h.2), if_neg (by decide), if_neg (by decide)]; exact form1n d n w hn
    · rw [if_neg (fun h => h1 h.1)]
      by_cases h2 : k = 2
      · subst h2; rw [if_pos rfl]; exact form2 d n w
      · rw [if_neg h2]
        by_cases h3 : k = 3
        · subst h3; rw [if_pos rfl]; exact form3 d n w
        · rw [if_neg h3]; exact form4 k d n w h0 h1 h2 h3
end Go.Proofs.Ytehoammeaimobaa.D
