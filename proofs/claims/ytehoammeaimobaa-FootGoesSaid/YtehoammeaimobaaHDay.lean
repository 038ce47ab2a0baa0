/- Hand contract of when.Day: which day it is, of a month. -/
import Derived.Test.YtehoammeaimobaaHTextOn
import Derived.Test.YtehoammeaimobaaDx6
import Derived.Deep.MidRow
set_option linter.unusedVariables false
namespace Go.Proofs.Ytehoammeaimobaa.D
open Go.RowKit Go.Proofs.YtehoammeaimobaaW.PrintWords Go.Proofs.YtehoammeaimobaaW.PrintLast Go.Proofs.YtehoammeaimobaaW.PrintMore

def when_Day.f (k : Nat) (y m a0 a1 a2 : Int) : Option (Int × Int) :=
  if formOk a0 a1 a2 = false then some (0, 1) else if m < 1 then some (0, 1) else if 12 < m then some (0, 1)
  else if y ≤ -4718 then some (0, 10) else if 294282 ≤ y then some (0, 10)
  else (civil_Days.f y m 1).bind fun d =>
    if a0 = 0 then some (wrap64 (wrap64 (d.1 + a2) - 1), 0)
    else if a0 = 1 then ((civil_Len.f y m).bind fun l => ((when_to.f k (wrap64 (wrap64 (d.1 + l) - 1)) a1 (-1)).bind fun t => some (t, 0)))
    else ((when_to.f k (wrap64 (wrap64 (d.1 + a2) - 1)) a1 (if a0 = 2 then 1 else -1)).bind fun t => some (t, 0))

theorem when_Day.mono : ∀ a0 a1 a2 a3 a4 k, LeO (when_Day.f k a0 a1 a2 a3 a4) (when_Day.f (k + 1) a0 a1 a2 a3 a4) := by
  intro a0 a1 a2 a3 a4 k r h
  unfold when_Day.f at h ⊢
  by_cases h1 : formOk a2 a3 a4 = false
  · rw [if_pos h1] at h ⊢; exact h
  rw [if_neg h1] at h ⊢
  by_cases h2 : a1 < 1
  · rw [if_pos h2] at h ⊢; exact h
  rw [if_neg h2] at h ⊢
  by_cases h3 : 12 < a1
  · rw [if_pos h3] at h ⊢; exact h
  rw [if_neg h3] at h ⊢
  by_cases h4 : a0 ≤ -4718
  · rw [if_pos h4] at h ⊢; exact h
  rw [if_neg h4] at h ⊢
  by_cases h5 : 294282 ≤ a0
  · rw [if_pos h5] at h ⊢; exact h
  rw [if_neg h5] at h ⊢
  obtain ⟨d, hd, h⟩ := Option.bind_eq_some_iff.1 h
  rw [hd, Option.bind_some]
  by_cases h6 : a2 = 0
  · rw [if_pos h6] at h ⊢; exact h
  rw [if_neg h6] at h ⊢
  by_cases h7 : a2 = 1
  · rw [if_pos h7] at h ⊢
    obtain ⟨l, hl, h⟩ := Option.bind_eq_some_iff.1 h
    obtain ⟨t, ht, h⟩ := Option.bind_eq_some_iff.1 h
    rw [hl, Option.bind_some, when_to.mono _ _ _ _ _ ht, Option.bind_some]; exact h
  · rw [if_neg h7] at h ⊢
    obtain ⟨t, ht, h⟩ := Option.bind_eq_some_iff.1 h
    rw [when_to.mono _ _ _ _ _ ht, Option.bind_some]; exact h

theorem formV_shape {k d n : Int} (h : formOk k d n = true) : (∃ x, formV k d n = .iface 79 (.int .i64 x)) ∨ (∃ x, formV k d n = .iface 81 (.int .i64 x)) ∨ (∃ x y z, formV k d n = .iface 85 (.agg #[.int .i64 x, .int .i64 y, .int .i64 z])) := by
  rcases formOk_cases h with ⟨rfl, rfl, hq⟩ | ⟨rfl, rfl, hq⟩ | ⟨rfl | rfl, hq⟩
  · exact .inl ⟨n, by unfold formV; rw [if_pos ⟨rfl, rfl⟩, if_pos hq]⟩
  · exact .inr (.inl ⟨d, by unfold formV; rw [if_neg (fun h => by cases h.1), if_pos ⟨rfl, rfl⟩, if_pos hq]⟩)
  · exact .inr (.inr ⟨d, n, 1, by unfold formV; rw [if_neg (fun h => by cases h.1), if_neg (fun h => by cases h.1), if_pos rfl, if_pos hq]⟩)
  · exact .inr (.inr ⟨d, n, -1, by unfold formV; rw [if_neg (fun h => by cases h.1), if_neg (fun h => by cases h.1), if_neg (by decide), if_pos rfl, if_pos hq]⟩)
theorem ta79 (n : Int) (w : World) : (Instr.typeAssert (.iface 79 (.int .i64 n)) 76 79 true).run Try.prog w = .ok (.tuple #[.int .i64 n, .bool true]) w := by kernel_rfl
theorem ta81a (n : Int) (w : World) : (Instr.typeAssert (.iface 81 (.int .i64 n)) 76 79 true).run Try.prog w = .ok (.tuple #[.int .i64 0, .bool false]) w := by kernel_rfl
theorem ta81b (n : Int) (w : World) : (Instr.typeAssert (.iface 81 (.int .i64 n)) 76 81 true).run Try.prog w = .ok (.tuple #[.int .i64 n, .bool true]) w := by kernel_rfl
theorem ta85a (d n s : Int) (w : World) : (Instr.typeAssert (.iface 85 (.agg #[.int .i64 d, .int .i64 n, .int .i64 s])) 76 79 true).run Try.prog w = .ok (.tuple #[.int .i64 0, .bool false]) w := by kernel_rfl
theorem ta85b (d n s : Int) (w : World) : (Instr.typeAssert (.iface 85 (.agg #[.int .i64 d, .int .i64 n, .int .i64 s])) 76 81 true).run Try.prog w = .ok (.tuple #[.int .i64 0, .bool false]) w := by kernel_rfl
theorem ta85c (d n s : Int) (w : World) : (Instr.typeAssert (.iface 85 (.agg #[.int .i64 d, .int .i64 n, .int .i64 s])) 76 85 false).run Try.prog w = .ok (.agg #[.int .i64 d, .int .i64 n, .int .i64 s]) w := by kernel_rfl
set_option maxHeartbeats 8000000 in
set_option maxRecDepth 100000 in
theorem Day_no (y m k d n : Int) (w : World) (h : formOk k d n = false) : Calls Try.prog 30 #[.int .i64 y, .int .i64 m, .agg #[.int .i64 k, .int .i64 d, .int .i64 n]] w fun e w' => e = .returned (.tuple #[.int .i64 0, .int .i64 1]) ∧ Below w.heap.size w w' := by
  have HF := Aside0.mk (formV_nil h)
  clear h
  go_enter Try.func30, Try.ntmps30
  go_wp2_with (fail)
  refine (form_calls k d n _).mono ?_
  rintro e w1 ⟨rfl, hb1⟩
  rw [HF.out]
  have HB := Aside0.mk (below_then (below_alloc (Below.refl _ _) _) (by simp) hb1)
  clear hb1
  go_wp2_with (fail)
  go_ret2
  exact ⟨rfl, HB.out⟩
set_option maxHeartbeats 8000000 in
set_option maxRecDepth 100000 in
theorem Day_m0 (y m k d n : Int) (w : World) (h : formOk k d n = true) (h1 : m < 1) : Calls Try.prog 30 #[.int .i64 y, .int .i64 m, .agg #[.int .i64 k, .int .i64 d, .int .i64 n]] w fun e w' => e = .returned (.tuple #[.int .i64 0, .int .i64 1]) ∧ Below w.heap.size w w' := by
  rcases formV_shape h with ⟨x, hV⟩ | ⟨x, hV⟩ | ⟨x, x2, x3, hV⟩
  all_goals
    have HF := Aside0.mk hV
    clear hV h
    go_enter Try.func30, Try.ntmps30
    go_wp2_with (fail)
    refine (form_calls k d n _).mono ?_
    rintro e w1 ⟨rfl, hb1⟩
    rw [HF.out]
    have HB := Aside0.mk (below_then (below_alloc (Below.refl _ _) _) (by simp) hb1)
    clear hb1
    go_wp2_with (fail)
    go_ret2
    exact ⟨rfl, HB.out⟩
set_option maxHeartbeats 8000000 in
set_option maxRecDepth 100000 in
theorem Day_m1 (y m k d n : Int) (w : World) (h : formOk k d n = true) (h1 : ¬ m < 1) (h2 : 12 < m) : Calls Try.prog 30 #[.int .i64 y, .int .i64 m, .agg #[.int .i64 k, .int .i64 d, .int .i64 n]] w fun e w' => e = .returned (.tuple #[.int .i64 0, .int .i64 1]) ∧ Below w.heap.size w w' := by
  rcases formV_shape h with ⟨x, hV⟩ | ⟨x, hV⟩ | ⟨x, x2, x3, hV⟩
  all_goals
    have HF := Aside0.mk hV
    clear hV h
    go_enter Try.func30, Try.ntmps30
    go_wp2_with (fail)
    refine (form_calls k d n _).mono ?_
    rintro e w1 ⟨rfl, hb1⟩
    rw [HF.out]
    have HB := Aside0.mk (below_then (below_alloc (Below.refl _ _) _) (by simp) hb1)
    clear hb1
    go_wp2_with (fail)
    go_ret2
    exact ⟨rfl, HB.out⟩
set_option maxHeartbeats 8000000 in
set_option maxRecDepth 100000 in
theorem Day_y0 (y m k d n : Int) (w : World) (h : formOk k d n = true) (h1 : ¬ m < 1) (h2 : ¬ 12 < m) (h3 : y ≤ -4718) : Calls Try.prog 30 #[.int .i64 y, .int .i64 m, .agg #[.int .i64 k, .int .i64 d, .int .i64 n]] w fun e w' => e = .returned (.tuple #[.int .i64 0, .int .i64 10]) ∧ Below w.heap.size w w' := by
  rcases formV_shape h with ⟨x, hV⟩ | ⟨x, hV⟩ | ⟨x, x2, x3, hV⟩
  all_goals
    have HF := Aside0.mk hV
    clear hV h
    go_enter Try.func30, Try.ntmps30
    go_wp2_with (fail)
    refine (form_calls k d n _).mono ?_
    rintro e w1 ⟨rfl, hb1⟩
    rw [HF.out]
    have HB := Aside0.mk (below_then (below_alloc (Below.refl _ _) _) (by simp) hb1)
    clear hb1
    go_wp2_with (fail)
    go_ret2
    exact ⟨rfl, HB.out⟩
set_option maxHeartbeats 8000000 in
set_option maxRecDepth 100000 in
theorem Day_y1 (y m k d n : Int) (w : World) (h : formOk k d n = true) (h1 : ¬ m < 1) (h2 : ¬ 12 < m) (h3 : ¬ y ≤ -4718) (h4 : 294282 ≤ y) : Calls Try.prog 30 #[.int .i64 y, .int .i64 m, .agg #[.int .i64 k, .int .i64 d, .int .i64 n]] w fun e w' => e = .returned (.tuple #[.int .i64 0, .int .i64 10]) ∧ Below w.heap.size w w' := by
  rcases formV_shape h with ⟨x, hV⟩ | ⟨x, hV⟩ | ⟨x, x2, x3, hV⟩
  all_goals
    have HF := Aside0.mk hV
    clear hV h
    go_enter Try.func30, Try.ntmps30
    go_wp2_with (fail)
    refine (form_calls k d n _).mono ?_
    rintro e w1 ⟨rfl, hb1⟩
    rw [HF.out]
    have HB := Aside0.mk (below_then (below_alloc (Below.refl _ _) _) (by simp) hb1)
    clear hb1
    go_wp2_with (fail)
    go_ret2
    exact ⟨rfl, HB.out⟩
set_option maxHeartbeats 8000000 in
set_option maxRecDepth 100000 in
theorem Day_fixed (y m n f e0 : Int) (w : World) (h : dayOk n = true) (h1 : ¬ m < 1) (h2 : ¬ 12 < m) (h3 : ¬ y ≤ -4718) (h4 : ¬ 294282 ≤ y) (hd : civil_Days.f y m 1 = some (f, e0)) : Calls Try.prog 30 #[.int .i64 y, .int .i64 m, .agg #[.int .i64 0, .int .i64 0, .int .i64 n]] w fun e w' => e = .returned (.tuple #[.int .i64 (wrap64 (wrap64 (f + n) - 1)), .int .i64 0]) ∧ Below w.heap.size w w' := by
  have hV : formV 0 0 n = .iface 79 (.int .i64 n) := by unfold formV; rw [if_pos ⟨rfl, rfl⟩, if_pos h]
  have HF := Aside0.mk hV
  have HD := Aside0.mk hd
  have t1 := ta79 n
  clear hV h hd
  go_enter Try.func30, Try.ntmps30
  go_wp2_with (fail)
  refine (form_calls 0 0 n _).mono ?_
  rintro e w1 ⟨rfl, hb1⟩
  rw [HF.out]
  have HB := Aside0.mk (below_then (below_alloc (Below.refl _ _) _) (by simp) hb1)
  clear hb1
  go_wp2_with (fail)
  refine (civil_Days.calls y m 1 f e0 _ HD.out).mono ?_
  rintro e w2 ⟨rfl, hb2⟩
  have HB2 := Aside0.mk (below_then HB.out HB.out.size hb2)
  clear hb2 HB
  go_wp2_with (fail)
  go_ret2
  exact ⟨rfl, HB2.out⟩
set_option maxHeartbeats 8000000 in
set_option maxRecDepth 100000 in
theorem Day_final (k : Nat) (y m d f e0 l t : Int) (w : World) (h : wdOk d = true) (h1 : ¬ m < 1) (h2 : ¬ 12 < m) (h3 : ¬ y ≤ -4718) (h4 : ¬ 294282 ≤ y) (hd : civil_Days.f y m 1 = some (f, e0)) (hl : civil_Len.f y m = some l) (ht : when_to.f k (wrap64 (wrap64 (f + l) - 1)) d (-1) = some t) : Calls Try.prog 30 #[.int .i64 y, .int .i64 m, .agg #[.int .i64 1, .int .i64 d, .int .i64 0]] w fun e w' => e = .returned (.tuple #[.int .i64 t, .int .i64 0]) ∧ Below w.heap.size w w' := by
  have hV : formV 1 d 0 = .iface 81 (.int .i64 d) := by unfold formV; rw [if_neg (fun h => by cases h.1), if_pos ⟨rfl, rfl⟩, if_pos h]
  have HF := Aside0.mk hV
  have HD := Aside0.mk hd
  have HL := Aside0.mk hl
  have HT := Aside0.mk ht
  have t1 := ta81a d
  have t2 := ta81b d
  clear hV h hd hl ht
  go_enter Try.func30, Try.ntmps30
  go_wp2_with (fail)
  refine (form_calls 1 d 0 _).mono ?_
  rintro e w1 ⟨rfl, hb1⟩
  rw [HF.out]
  have HB := Aside0.mk (below_then (below_alloc (Below.refl _ _) _) (by simp) hb1)
  clear hb1
  go_wp2_with (fail)
  refine (civil_Days.calls y m 1 f e0 _ HD.out).mono ?_
  rintro e w2 ⟨rfl, hb2⟩
  have HB2 := Aside0.mk (below_then HB.out HB.out.size hb2)
  clear hb2 HB
  go_wp2_with (fail)
  refine (civil_Len.calls y m l _ HL.out).mono ?_
  rintro e w3 ⟨rfl, hb3⟩
  have HB3 := Aside0.mk (below_then HB2.out HB2.out.size hb3)
  clear hb3 HB2
  go_wp2_with (fail)
  refine (when_to.calls k _ d (-1) t _ HT.out).mono ?_
  rintro e w4 ⟨rfl, hd4⟩
  have HB4 := Aside0.mk (below_then HB3.out HB3.out.size hd4.below)
  clear hd4 HB3
  go_wp2_with (fail)
  go_ret2
  exact ⟨rfl, HB4.out⟩
set_option maxHeartbeats 8000000 in
set_option maxRecDepth 100000 in
theorem Day_behind (k : Nat) (y m d n f e0 t : Int) (w : World) (h : (wdOk d && dayOk n) = true) (h1 : ¬ m < 1) (h2 : ¬ 12 < m) (h3 : ¬ y ≤ -4718) (h4 : ¬ 294282 ≤ y) (hd : civil_Days.f y m 1 = some (f, e0)) (ht : when_to.f k (wrap64 (wrap64 (f + n) - 1)) d 1 = some t) : Calls Try.prog 30 #[.int .i64 y, .int .i64 m, .agg #[.int .i64 2, .int .i64 d, .int .i64 n]] w fun e w' => e = .returned (.tuple #[.int .i64 t, .int .i64 0]) ∧ Below w.heap.size w w' := by
  have hV : formV 2 d n = .iface 85 (.agg #[.int .i64 d, .int .i64 n, .int .i64 1]) := by unfold formV; rw [if_neg (fun h => by cases h.1), if_neg (fun h => by cases h.1), if_pos rfl, if_pos h]
  have HF := Aside0.mk hV
  have HD := Aside0.mk hd
  have HT := Aside0.mk ht
  have t1 := ta85a d n 1
  have t2 := ta85b d n 1
  have t3 := ta85c d n 1
  clear hV h hd ht
  go_enter Try.func30, Try.ntmps30
  go_wp2_with (fail)
  refine (form_calls 2 d n _).mono ?_
  rintro e w1 ⟨rfl, hb1⟩
  rw [HF.out]
  have HB := Aside0.mk (below_then (below_alloc (Below.refl _ _) _) (by simp) hb1)
  clear hb1
  go_wp2_with (fail)
  refine (civil_Days.calls y m 1 f e0 _ HD.out).mono ?_
  rintro e w2 ⟨rfl, hb2⟩
  have HB2 := Aside0.mk (below_then HB.out HB.out.size hb2)
  clear hb2 HB
  go_wp2_with (fail)
  refine (when_to.calls k _ d 1 t _ HT.out).mono ?_
  rintro e w4 ⟨rfl, hd4⟩
  have HB4 := Aside0.mk (below_then (below_alloc HB2.out _) (by simp; exact Nat.le_trans HB2.out.size (Nat.le_succ _)) hd4.below)
  clear hd4 HB2
  go_wp2_with (fail)
  go_ret2
  exact ⟨rfl, HB4.out⟩
set_option maxHeartbeats 8000000 in
set_option maxRecDepth 100000 in
theorem Day_ahead (k : Nat) (y m d n f e0 t : Int) (w : World) (h : (wdOk d && dayOk n) = true) (h1 : ¬ m < 1) (h2 : ¬ 12 < m) (h3 : ¬ y ≤ -4718) (h4 : ¬ 294282 ≤ y) (hd : civil_Days.f y m 1 = some (f, e0)) (ht : when_to.f k (wrap64 (wrap64 (f + n) - 1)) d (-1) = some t) : Calls Try.prog 30 #[.int .i64 y, .int .i64 m, .agg #[.int .i64 3, .int .i64 d, .int .i64 n]] w fun e w' => e = .returned (.tuple #[.int .i64 t, .int .i64 0]) ∧ Below w.heap.size w w' := by
  have hV : formV 3 d n = .iface 85 (.agg #[.int .i64 d, .int .i64 n, .int .i64 (-1)]) := by unfold formV; rw [if_neg (fun h => by cases h.1), if_neg (fun h => by cases h.1), if_neg (by decide), if_pos rfl, if_pos h]
  have HF := Aside0.mk hV
  have HD := Aside0.mk hd
  have HT := Aside0.mk ht
  have t1 := ta85a d n (-1)
  have t2 := ta85b d n (-1)
  have t3 := ta85c d n (-1)
  clear hV h hd ht
  go_enter Try.func30, Try.ntmps30
  go_wp2_with (fail)
  refine (form_calls 3 d n _).mono ?_
  rintro e w1 ⟨rfl, hb1⟩
  rw [HF.out]
  have HB := Aside0.mk (below_then (below_alloc (Below.refl _ _) _) (by simp) hb1)
  clear hb1
  go_wp2_with (fail)
  refine (civil_Days.calls y m 1 f e0 _ HD.out).mono ?_
  rintro e w2 ⟨rfl, hb2⟩
  have HB2 := Aside0.mk (below_then HB.out HB.out.size hb2)
  clear hb2 HB
  go_wp2_with (fail)
  refine (when_to.calls k _ d (-1) t _ HT.out).mono ?_
  rintro e w4 ⟨rfl, hd4⟩
  have HB4 := Aside0.mk (below_then (below_alloc HB2.out _) (by simp; exact Nat.le_trans HB2.out.size (Nat.le_succ _)) hd4.below)
  clear hd4 HB2
  go_wp2_with (fail)
  go_ret2
  exact ⟨rfl, HB4.out⟩
theorem when_Day.calls (k : Nat) (a0 : Int) (a1 : Int) (a2_0 : Int) (a2_1 : Int) (a2_2 : Int) (r1 : Int) (r2 : Int) (w : World) (h : when_Day.f k a0 a1 a2_0 a2_1 a2_2 = some (r1, r2)) :
    Calls Try.prog 30 #[.int .i64 a0, .int .i64 a1, .agg #[.int .i64 a2_0, .int .i64 a2_1, .int .i64 a2_2]] w fun e w' => e = .returned (.tuple #[.int .i64 r1, .int .i64 r2]) ∧ Below w.heap.size w w' := by
  unfold when_Day.f at h
  by_cases hok : formOk a2_0 a2_1 a2_2 = false
  · rw [if_pos hok] at h; cases h; exact Day_no _ _ _ _ _ w hok
  rw [if_neg hok] at h
  have hok : formOk a2_0 a2_1 a2_2 = true := by simpa using hok
  by_cases h1 : a1 < 1
  · rw [if_pos h1] at h; cases h; exact Day_m0 _ _ _ _ _ w hok h1
  rw [if_neg h1] at h
  by_cases h2 : 12 < a1
  · rw [if_pos h2] at h; cases h; exact Day_m1 _ _ _ _ _ w hok h1 h2
  rw [if_neg h2] at h
  by_cases h3 : a0 ≤ -4718
  · rw [if_pos h3] at h; cases h; exact Day_y0 _ _ _ _ _ w hok h1 h2 h3
  rw [if_neg h3] at h
  by_cases h4 : 294282 ≤ a0
  · rw [if_pos h4] at h; cases h; exact Day_y1 _ _ _ _ _ w hok h1 h2 h3 h4
  rw [if_neg h4] at h
  obtain ⟨⟨f, e0⟩, hd, h⟩ := Option.bind_eq_some_iff.1 h
  rcases formOk_cases hok with ⟨rfl, rfl, hq⟩ | ⟨rfl, rfl, hq⟩ | ⟨rfl | rfl, hq⟩
  · rw [if_pos rfl] at h; cases h; exact Day_fixed _ _ _ _ _ w hq h1 h2 h3 h4 hd
  · rw [if_neg (by decide), if_pos rfl] at h
    obtain ⟨l, hl, h⟩ := Option.bind_eq_some_iff.1 h
    obtain ⟨t, ht, h⟩ := Option.bind_eq_some_iff.1 h
    cases h; exact Day_final k _ _ _ _ _ _ _ w hq h1 h2 h3 h4 hd hl ht
  · rw [if_neg (by decide), if_neg (by decide), if_pos rfl] at h
    obtain ⟨t, ht, h⟩ := Option.bind_eq_some_iff.1 h
    cases h; exact Day_behind k _ _ _ _ _ _ _ w hq h1 h2 h3 h4 hd ht
  · rw [if_neg (by decide), if_neg (by decide), if_neg (by decide)] at h
    obtain ⟨t, ht, h⟩ := Option.bind_eq_some_iff.1 h
    cases h; exact Day_ahead k _ _ _ _ _ _ _ w hq h1 h2 h3 h4 hd ht
end Go.Proofs.Ytehoammeaimobaa.D
