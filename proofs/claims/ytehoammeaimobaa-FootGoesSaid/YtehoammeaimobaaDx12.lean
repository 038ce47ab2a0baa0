-- Laid by wip/tools/handprint.py of this session (a patched run of the kit's print program); not by hand. Not trusted: Lean checks it.
import Derived.Test.YtehoammeaimobaaDx0
import Derived.Test.YtehoammeaimobaaDx1
import Derived.Test.YtehoammeaimobaaDx6
import Derived.Test.YtehoammeaimobaaDx10
namespace Go.Proofs.Ytehoammeaimobaa.D
open Go.RowKit Go.Proofs.YtehoammeaimobaaW.PrintWords Go.Proofs.YtehoammeaimobaaW.PrintLast Go.Proofs.YtehoammeaimobaaW.PrintMore
attribute [local go_sem] max2_int min2_int max_two min_two max_three min_three max_four min_four   -- for this text's walks alone
set_option linter.unusedVariables false
set_option linter.unusedSimpArgs false

attribute [local go_sem high] eqA46
/-! ### computusref11_Same: function 12 -/
def computusref11_Same.l0 : Nat → List (S46) → List (S46) → Int → Option (Bool)
  | 0, _, _, _ => none
  | k + 1, x0, x1, x5 => if x5 < (x0.length : Int) then (if 0 ≤ x5 then (if x5 < (x1.length : Int) then (if (!(((rd_T46 x0 x5).f0) == ((rd_T46 x1 x5).f0)) || (!(((rd_T46 x0 x5).f1) == ((rd_T46 x1 x5).f1)) || (!(((rd_T46 x0 x5).f2) == ((rd_T46 x1 x5).f2)) || (!((((rd_T46 x0 x5).f3).toList) == (((rd_T46 x1 x5).f3).toList)))))) = true then (some false) else (computusref11_Same.l0 k x0 x1 (wrap64 (x5 + 1)))) else (none)) else (none)) else (some true)
def computusref11_Same.f (k : Nat) (l0 : List (S46)) (l1 : List (S46)) : Option (Bool) := if (l0.length : Int) = (l1.length : Int) then (computusref11_Same.l0 k l0 l1 0) else (some false)
theorem computusref11_Same.mono_l : ∀ k, (∀ y0 y1 y2, LeO (computusref11_Same.l0 k y0 y1 y2) (computusref11_Same.l0 (k + 1) y0 y1 y2))
  | 0 => fun _ _ _ r h => by simp [computusref11_Same.l0] at h
  | k + 1 => by
    have ih0 := computusref11_Same.mono_l k
    · intro y0 y1 y2
      unfold computusref11_Same.l0
      repeat' first
      | (with_reducible exact ih0 _ _ _)
      | (with_reducible exact LeO.refl _)
      | (with_reducible exact LeO.none _)
      | (with_reducible refine LeO.ite ?_ ?_)
      | (with_reducible refine LeO.bind ?_ (fun _ => ?_))
      | exact ih0 _ _ _
      | exact LeO.none _
      | refine LeO.ite ?_ ?_
      | refine LeO.bind ?_ (fun _ => ?_)
theorem computusref11_Same.mono : ∀ a0 a1 k, LeO (computusref11_Same.f k a0 a1) (computusref11_Same.f (k + 1) a0 a1) := by
  intro a0 a1 k
  have ih0 := computusref11_Same.mono_l k
  unfold computusref11_Same.f
  repeat' first
      | (with_reducible exact ih0 _ _ _)
      | (with_reducible exact LeO.refl _)
      | (with_reducible exact LeO.none _)
      | (with_reducible refine LeO.ite ?_ ?_)
      | (with_reducible refine LeO.bind ?_ (fun _ => ?_))
      | exact ih0 _ _ _
      | exact LeO.none _
      | refine LeO.ite ?_ ?_
      | refine LeO.bind ?_ (fun _ => ?_)
set_option maxHeartbeats 8000000 in
set_option maxRecDepth 100000 in
theorem computusref11_Same.calls (k : Nat) (A0 : Option Addr) (c0 : Nat) (l0 : List (S46)) (A1 : Option Addr) (c1 : Nat) (l1 : List (S46)) (r : Bool) (w : World) (hr0 : Kd.C k46 w A0 l0.length l0) (hc0 : l0.length ≤ c0) (hr1 : Kd.C k46 w A1 l1.length l1) (hc1 : l1.length ≤ c1) (h : computusref11_Same.f k l0 l1 = some r) :
    Calls Try.prog 12 #[.slice A0 l0.length c0, .slice A1 l1.length c1] w fun e w' => e = .returned (.bool r) ∧ Drawn0 w w' := by
  have hu46 := Try.underlying46
  have HR0 := Aside0.mk hr0
  have HC0 := Aside0.mk hc0
  clear hr0 hc0
  have HR1 := Aside0.mk hr1
  have HC1 := Aside0.mk hc1
  clear hr1 hc1
  have H : (if (l0.length : Int) = (l1.length : Int) then (computusref11_Same.l0 k l0 l1 0) else (some false)) = some r := h
  clear h
  by_cases c3 : (l0.length : Int) = (l1.length : Int)
  · rw [if_pos c3] at H
    have c3b0 : ((l0.length : Int) == (l1.length : Int)) = true := beq_iff_eq.mpr c3
    have c3b1 : ((l0.length : Int) != (l1.length : Int)) = false := bne_eq_false_iff_eq.mpr c3
    have c3b2 : (l0.length == l1.length) = true := by first | simpa using c3 | (simp at c3 ⊢; omega)
    clear c3
    have H' := Aside0.mk H
    clear H
    go_enter Try.func12, Try.ntmps12
    go_wp2
    repeat (go_quiet (fail); try go_wp2)
    go_loopg [5] k (fun kq v5 w' => ∃ (x5_1 : Int), v5 = .int .i64 x5_1 ∧ Aside0 (computusref11_Same.l0 kq l0 l1 x5_1 = some r) ∧ Aside0 (kq ≤ k) ∧ Drawn0 w w')
    case atStart => exact ⟨(0), (by first | rfl | (simp; done) | (simp [*]; done)), H', ⟨Nat.le_refl _⟩, by repeat (first | exact Drawn0.refl _ | apply Drawn0.step)⟩
    case round =>
      clear H'
      try clear c1
      try clear p2
      try clear c3
      try clear c3b0
      try clear c3b1
      try clear c3b2
      obtain ⟨x5_1, rfl, HA, HK1, ⟨m1, rfl⟩⟩ := hrel
      cases gk with
      | zero => exact absurd HA.out (by simp [computusref11_Same.l0])
      | succ k1 =>
        have H := HA.out
        clear HA
        simp only [computusref11_Same.l0] at H
        by_cases c4 : x5_1 < (l0.length : Int)
        · rw [if_pos c4] at H
          have c4b0 : decide (x5_1 < (l0.length : Int)) = true := decide_eq_true c4
          clear c4
          by_cases c5 : 0 ≤ x5_1
          · rw [if_pos c5] at H
            have c5b0 : decide (0 ≤ x5_1) = true := decide_eq_true c5
            clear c5
            by_cases c6 : x5_1 < (l1.length : Int)
            · rw [if_pos c6] at H
              have c6b0 : decide (x5_1 < (l1.length : Int)) = true := decide_eq_true c6
              clear c6
              by_cases c7 : (!(((rd_T46 l0 x5_1).f0) == ((rd_T46 l1 x5_1).f0)) || (!(((rd_T46 l0 x5_1).f1) == ((rd_T46 l1 x5_1).f1)) || (!(((rd_T46 l0 x5_1).f2) == ((rd_T46 l1 x5_1).f2)) || (!((((rd_T46 l0 x5_1).f3).toList) == (((rd_T46 l1 x5_1).f3).toList)))))) = true
              · rw [if_pos c7] at H
                have c7b0 : (!(((rd_T46 l0 x5_1).f0) == ((rd_T46 l1 x5_1).f0)) || (!(((rd_T46 l0 x5_1).f1) == ((rd_T46 l1 x5_1).f1)) || (!(((rd_T46 l0 x5_1).f2) == ((rd_T46 l1 x5_1).f2)) || (!((((rd_T46 l0 x5_1).f3).toList) == (((rd_T46 l1 x5_1).f3).toList)))))) = true := c7
                clear c7
                obtain rfl := Option.some.inj H
                have p159 : 0 ≤ (x5_1 : Int) := of_decide_eq_true (by first | (with_reducible assumption) | assumption)
                have q159 : x5_1 < (l0.length : Int) := of_decide_eq_true (by first | (with_reducible assumption) | assumption)
                obtain ⟨ad159, e159, hx159_0, hx159_1, hx159_2, hx159_3⟩ := at_T46 HR0.out x5_1 p159 q159
                cases e159
                replace p159 := eq_true p159
                replace q159 := eq_true q159
                have p160 : 0 ≤ (x5_1 : Int) := of_decide_eq_true (by first | (with_reducible assumption) | assumption)
                have q160 : x5_1 < (l1.length : Int) := of_decide_eq_true (by first | (with_reducible assumption) | assumption)
                obtain ⟨ad160, e160, hx160_0, hx160_1, hx160_2, hx160_3⟩ := at_T46 HR1.out x5_1 p160 q160
                cases e160
                replace p160 := eq_true p160
                replace q160 := eq_true q160
                go_wp2
                repeat (go_quiet (fail); try go_wp2)
                go_ret
                exact ⟨by first | rfl | (simp; done) | (simp [*]; done), by repeat (first | exact Drawn0.refl _ | apply Drawn0.step)⟩
              · rw [if_neg c7] at H
                have c7b0 : (!(((rd_T46 l0 x5_1).f0) == ((rd_T46 l1 x5_1).f0)) || (!(((rd_T46 l0 x5_1).f1) == ((rd_T46 l1 x5_1).f1)) || (!(((rd_T46 l0 x5_1).f2) == ((rd_T46 l1 x5_1).f2)) || (!((((rd_T46 l0 x5_1).f3).toList) == (((rd_T46 l1 x5_1).f3).toList)))))) = false := by simpa using c7
                clear c7
                have H' := Aside0.mk H
                clear H
                have p159 : 0 ≤ (x5_1 : Int) := of_decide_eq_true (by first | (with_reducible assumption) | assumption)
                have q159 : x5_1 < (l0.length : Int) := of_decide_eq_true (by first | (with_reducible assumption) | assumption)
                obtain ⟨ad159, e159, hx159_0, hx159_1, hx159_2, hx159_3⟩ := at_T46 HR0.out x5_1 p159 q159
                cases e159
                replace p159 := eq_true p159
                replace q159 := eq_true q159
                have p160 : 0 ≤ (x5_1 : Int) := of_decide_eq_true (by first | (with_reducible assumption) | assumption)
                have q160 : x5_1 < (l1.length : Int) := of_decide_eq_true (by first | (with_reducible assumption) | assumption)
                obtain ⟨ad160, e160, hx160_0, hx160_1, hx160_2, hx160_3⟩ := at_T46 HR1.out x5_1 p160 q160
                cases e160
                replace p160 := eq_true p160
                replace q160 := eq_true q160
                go_wp2
                repeat (go_quiet (fail); try go_wp2)
                go_roundg k1
                case measure => have := HK1.out; omega
                case rel => exact ⟨(wrap64 (x5_1 + 1)), (by first | rfl | (simp; done) | (simp [*]; done)), H', ⟨by have := HK1.out; omega⟩, by repeat (first | exact Drawn0.refl _ | apply Drawn0.step)⟩
            · rw [if_neg c6] at H
              exact absurd H (by simp)
          · rw [if_neg c5] at H
            exact absurd H (by simp)
        · rw [if_neg c4] at H
          have c4b0 : decide (x5_1 < (l0.length : Int)) = false := decide_eq_false c4
          clear c4
          obtain rfl := Option.some.inj H
          go_wp2
          repeat (go_quiet (fail); try go_wp2)
          go_ret
          exact ⟨by first | rfl | (simp; done) | (simp [*]; done), by repeat (first | exact Drawn0.refl _ | apply Drawn0.step)⟩
  · rw [if_neg c3] at H
    have c3b0 : ((l0.length : Int) == (l1.length : Int)) = false := beq_eq_false_iff_ne.mpr c3
    have c3b1 : ((l0.length : Int) != (l1.length : Int)) = true := bne_iff_ne.mpr c3
    have c3b2 : (l0.length == l1.length) = false := by first | simpa using c3 | (simp at c3 ⊢; omega)
    obtain rfl := Option.some.inj H
    go_enter Try.func12, Try.ntmps12
    go_wp2
    repeat (go_quiet (fail); try go_wp2)
    go_ret
    exact ⟨by first | rfl | (simp; done) | (simp [*]; done), by repeat (first | exact Drawn0.refl _ | apply Drawn0.step)⟩

/-! ### fire_floor: function 49 -/
def fire_floor.f (a0 : Int) : Option (Int) := if (Int.tmod a0 86400) < 0 then (some (wrap64 ((wrap64 (Int.tdiv a0 86400)) - 1))) else (some (wrap64 (Int.tdiv a0 86400)))
set_option maxHeartbeats 8000000 in
set_option maxRecDepth 100000 in
theorem fire_floor.calls (a0 : Int) (r : Int) (w : World) (h : fire_floor.f a0 = some r) :
    Calls Try.prog 49 #[.int .i64 a0] w fun e w' => e = .returned (.int .i64 r) ∧ Drawn0 w w' := by
  have H : (if (Int.tmod a0 86400) < 0 then (some (wrap64 ((wrap64 (Int.tdiv a0 86400)) - 1))) else (some (wrap64 (Int.tdiv a0 86400)))) = some r := h
  clear h
  by_cases c2 : (Int.tmod a0 86400) < 0
  · rw [if_pos c2] at H
    have c2b0 : decide ((Int.tmod a0 86400) < 0) = true := decide_eq_true c2
    clear c2
    obtain rfl := Option.some.inj H
    go_enter Try.func49, Try.ntmps49
    go_wp2
    go_ret
    exact ⟨by first | rfl | (simp; done) | (simp [*]; done), by repeat (first | exact Drawn0.refl _ | apply Drawn0.step)⟩
  · rw [if_neg c2] at H
    have c2b0 : decide ((Int.tmod a0 86400) < 0) = false := decide_eq_false c2
    clear c2
    obtain rfl := Option.some.inj H
    go_enter Try.func49, Try.ntmps49
    go_wp2
    go_ret
    exact ⟨by first | rfl | (simp; done) | (simp [*]; done), by repeat (first | exact Drawn0.refl _ | apply Drawn0.step)⟩

/-! ### civil_First: function 50 -/
def civil_First.f  : Option (Int) := (civil_day.f (-4718) 1 1).bind fun t161 => (some t161)
set_option maxHeartbeats 8000000 in
set_option maxRecDepth 100000 in
theorem civil_First.calls  (r : Int) (w : World) (h : civil_First.f  = some r) :
    Calls Try.prog 50 #[] w fun e w' => e = .returned (.int .i64 r) ∧ Drawn0 w w' := by
  have H : ((civil_day.f (-4718) 1 1).bind fun t161 => (some t161)) = some r := h
  clear h
  replace H := Option.bind_eq_some_iff.mp H
  obtain ⟨t161, A10, H⟩ := H
  replace H : (some t161) = some r := H
  have A1 := Aside0.mk A10
  clear A10
  obtain rfl := Option.some.inj H
  go_enter Try.func50, Try.ntmps50
  go_wp2_with (first | ((with_reducible refine gate_callee (f := 59) rfl ?_); refine goesL_ (some 1) rfl rfl Try.func59 (by kernel_rfl) rfl #[.int .i64 (-4718), .int .i64 1, .int .i64 1] rfl (by (try simp only [List.map_toArray, List.map_cons, List.map_nil]); first | done | rfl | (simp only [List.length_drop, List.length_take]; rfl)) ?_; (with_reducible refine (civil_day.calls (-4718) 1 1 t161 _ A1.out).mono ?_); rintro e w' ⟨rfl, ⟨nd, rfl⟩⟩; refine ⟨_, rfl, ?_⟩))
  go_ret
  exact ⟨by first | rfl | (simp; done) | (simp [*]; done), by repeat (first | exact Drawn0.refl _ | apply Drawn0.step)⟩

/-! ### civil_Last: function 51 -/
def civil_Last.f  : Option (Int) := (civil_day.f 294282 12 31).bind fun t162 => (some t162)
set_option maxHeartbeats 8000000 in
set_option maxRecDepth 100000 in
theorem civil_Last.calls  (r : Int) (w : World) (h : civil_Last.f  = some r) :
    Calls Try.prog 51 #[] w fun e w' => e = .returned (.int .i64 r) ∧ Drawn0 w w' := by
  have H : ((civil_day.f 294282 12 31).bind fun t162 => (some t162)) = some r := h
  clear h
  replace H := Option.bind_eq_some_iff.mp H
  obtain ⟨t162, A10, H⟩ := H
  replace H : (some t162) = some r := H
  have A1 := Aside0.mk A10
  clear A10
  obtain rfl := Option.some.inj H
  go_enter Try.func51, Try.ntmps51
  go_wp2_with (first | ((with_reducible refine gate_callee (f := 59) rfl ?_); refine goesL_ (some 1) rfl rfl Try.func59 (by kernel_rfl) rfl #[.int .i64 294282, .int .i64 12, .int .i64 31] rfl (by (try simp only [List.map_toArray, List.map_cons, List.map_nil]); first | done | rfl | (simp only [List.length_drop, List.length_take]; rfl)) ?_; (with_reducible refine (civil_day.calls 294282 12 31 t162 _ A1.out).mono ?_); rintro e w' ⟨rfl, ⟨nd, rfl⟩⟩; refine ⟨_, rfl, ?_⟩))
  go_ret
  exact ⟨by first | rfl | (simp; done) | (simp [*]; done), by repeat (first | exact Drawn0.refl _ | apply Drawn0.step)⟩

/-! ### civil_can: function 64 -/
def civil_can.f (a0 : Int) : Option (Bool) := (civil_First.f).bind fun t163 => (if a0 ≥ t163 then ((civil_Last.f).bind fun t164 => (some (decide (a0 ≤ t164)))) else (some false))
set_option maxHeartbeats 8000000 in
set_option maxRecDepth 100000 in
theorem civil_can.calls (a0 : Int) (r : Bool) (w : World) (h : civil_can.f a0 = some r) :
    Calls Try.prog 64 #[.int .i64 a0] w fun e w' => e = .returned (.bool r) ∧ Drawn0 w w' := by
  have H : ((civil_First.f).bind fun t163 => (if a0 ≥ t163 then ((civil_Last.f).bind fun t164 => (some (decide (a0 ≤ t164)))) else (some false))) = some r := h
  clear h
  replace H := Option.bind_eq_some_iff.mp H
  obtain ⟨t163, A20, H⟩ := H
  replace H : (if a0 ≥ t163 then ((civil_Last.f).bind fun t164 => (some (decide (a0 ≤ t164)))) else (some false)) = some r := H
  have A2 := Aside0.mk A20
  clear A20
  by_cases c3 : a0 ≥ t163
  · rw [if_pos c3] at H
    have c3b0 : decide (t163 ≤ a0) = true := decide_eq_true c3
    clear c3
    replace H := Option.bind_eq_some_iff.mp H
    obtain ⟨t164, A40, H⟩ := H
    replace H : (some (decide (a0 ≤ t164))) = some r := H
    have A4 := Aside0.mk A40
    clear A40
    obtain rfl := Option.some.inj H
    go_enter Try.func64, Try.ntmps64
    go_wp2_with (first | ((with_reducible refine gate_callee (f := 50) rfl ?_); refine goesL_ (some 4) rfl rfl Try.func50 (by kernel_rfl) rfl #[] rfl (by (try simp only [List.map_toArray, List.map_cons, List.map_nil]); first | done | rfl | (simp only [List.length_drop, List.length_take]; rfl)) ?_; (with_reducible refine (civil_First.calls  t163 _ A2.out).mono ?_); rintro e w' ⟨rfl, ⟨nd, rfl⟩⟩; refine ⟨_, rfl, ?_⟩) | (go_at_call 51; (with_reducible refine (civil_Last.calls  t164 _ A4.out).mono ?_); rintro e w' ⟨rfl, ⟨nd, rfl⟩⟩))
    go_ret
    exact ⟨by first | rfl | (simp; done) | (simp [*]; done), by repeat (first | exact Drawn0.refl _ | apply Drawn0.step)⟩
  · rw [if_neg c3] at H
    have c3b0 : decide (t163 ≤ a0) = false := decide_eq_false c3
    clear c3
    obtain rfl := Option.some.inj H
    go_enter Try.func64, Try.ntmps64
    go_wp2_with (first | ((with_reducible refine gate_callee (f := 50) rfl ?_); refine goesL_ (some 4) rfl rfl Try.func50 (by kernel_rfl) rfl #[] rfl (by (try simp only [List.map_toArray, List.map_cons, List.map_nil]); first | done | rfl | (simp only [List.length_drop, List.length_take]; rfl)) ?_; (with_reducible refine (civil_First.calls  t163 _ A2.out).mono ?_); rintro e w' ⟨rfl, ⟨nd, rfl⟩⟩; refine ⟨_, rfl, ?_⟩))
    go_ret
    exact ⟨by first | rfl | (simp; done) | (simp [*]; done), by repeat (first | exact Drawn0.refl _ | apply Drawn0.step)⟩

/-! ### civil_parts: function 65 -/
def civil_parts.f (a0 : Int) : Option (Int × Int × Int) := (civil_floor.f (wrap64 (a0 + 730425)) 146097).bind fun bt165 => (if (wrap64 (Int.tdiv (wrap64 ((wrap64 (5 * (wrap64 ((wrap64 ((wrap64 (bt165.2 - (wrap64 ((mn (wrap64 (Int.tdiv bt165.2 36524)) 3) * 36524)))) - (wrap64 ((wrap64 (Int.tdiv (wrap64 (bt165.2 - (wrap64 ((mn (wrap64 (Int.tdiv bt165.2 36524)) 3) * 36524)))) 1461)) * 1461)))) - (wrap64 ((mn (wrap64 (Int.tdiv (wrap64 ((wrap64 (bt165.2 - (wrap64 ((mn (wrap64 (Int.tdiv bt165.2 36524)) 3) * 36524)))) - (wrap64 ((wrap64 (Int.tdiv (wrap64 (bt165.2 - (wrap64 ((mn (wrap64 (Int.tdiv bt165.2 36524)) 3) * 36524)))) 1461)) * 1461)))) 365)) 3) * 365)))))) + 2)) 153)) ≥ 10 then (some (wrap64 ((wrap64 ((wrap64 ((wrap64 ((wrap64 (bt165.1 * 400)) + (wrap64 ((mn (wrap64 (Int.tdiv bt165.2 36524)) 3) * 100)))) + (wrap64 ((wrap64 (Int.tdiv (wrap64 (bt165.2 - (wrap64 ((mn (wrap64 (Int.tdiv bt165.2 36524)) 3) * 36524)))) 1461)) * 4)))) + (mn (wrap64 (Int.tdiv (wrap64 ((wrap64 (bt165.2 - (wrap64 ((mn (wrap64 (Int.tdiv bt165.2 36524)) 3) * 36524)))) - (wrap64 ((wrap64 (Int.tdiv (wrap64 (bt165.2 - (wrap64 ((mn (wrap64 (Int.tdiv bt165.2 36524)) 3) * 36524)))) 1461)) * 1461)))) 365)) 3))) + 1), wrap64 ((wrap64 (Int.tdiv (wrap64 ((wrap64 (5 * (wrap64 ((wrap64 ((wrap64 (bt165.2 - (wrap64 ((mn (wrap64 (Int.tdiv bt165.2 36524)) 3) * 36524)))) - (wrap64 ((wrap64 (Int.tdiv (wrap64 (bt165.2 - (wrap64 ((mn (wrap64 (Int.tdiv bt165.2 36524)) 3) * 36524)))) 1461)) * 1461)))) - (wrap64 ((mn (wrap64 (Int.tdiv (wrap64 ((wrap64 (bt165.2 - (wrap64 ((mn (wrap64 (Int.tdiv bt165.2 36524)) 3) * 36524)))) - (wrap64 ((wrap64 (Int.tdiv (wrap64 (bt165.2 - (wrap64 ((mn (wrap64 (Int.tdiv bt165.2 36524)) 3) * 36524)))) 1461)) * 1461)))) 365)) 3) * 365)))))) + 2)) 153)) - 9), wrap64 ((wrap64 ((wrap64 ((wrap64 ((wrap64 (bt165.2 - (wrap64 ((mn (wrap64 (Int.tdiv bt165.2 36524)) 3) * 36524)))) - (wrap64 ((wrap64 (Int.tdiv (wrap64 (bt165.2 - (wrap64 ((mn (wrap64 (Int.tdiv bt165.2 36524)) 3) * 36524)))) 1461)) * 1461)))) - (wrap64 ((mn (wrap64 (Int.tdiv (wrap64 ((wrap64 (bt165.2 - (wrap64 ((mn (wrap64 (Int.tdiv bt165.2 36524)) 3) * 36524)))) - (wrap64 ((wrap64 (Int.tdiv (wrap64 (bt165.2 - (wrap64 ((mn (wrap64 (Int.tdiv bt165.2 36524)) 3) * 36524)))) 1461)) * 1461)))) 365)) 3) * 365)))) - (wrap64 (Int.tdiv (wrap64 ((wrap64 (153 * (wrap64 (Int.tdiv (wrap64 ((wrap64 (5 * (wrap64 ((wrap64 ((wrap64 (bt165.2 - (wrap64 ((mn (wrap64 (Int.tdiv bt165.2 36524)) 3) * 36524)))) - (wrap64 ((wrap64 (Int.tdiv (wrap64 (bt165.2 - (wrap64 ((mn (wrap64 (Int.tdiv bt165.2 36524)) 3) * 36524)))) 1461)) * 1461)))) - (wrap64 ((mn (wrap64 (Int.tdiv (wrap64 ((wrap64 (bt165.2 - (wrap64 ((mn (wrap64 (Int.tdiv bt165.2 36524)) 3) * 36524)))) - (wrap64 ((wrap64 (Int.tdiv (wrap64 (bt165.2 - (wrap64 ((mn (wrap64 (Int.tdiv bt165.2 36524)) 3) * 36524)))) 1461)) * 1461)))) 365)) 3) * 365)))))) + 2)) 153)))) + 2)) 5)))) + 1))) else (some (wrap64 ((wrap64 ((wrap64 ((wrap64 (bt165.1 * 400)) + (wrap64 ((mn (wrap64 (Int.tdiv bt165.2 36524)) 3) * 100)))) + (wrap64 ((wrap64 (Int.tdiv (wrap64 (bt165.2 - (wrap64 ((mn (wrap64 (Int.tdiv bt165.2 36524)) 3) * 36524)))) 1461)) * 4)))) + (mn (wrap64 (Int.tdiv (wrap64 ((wrap64 (bt165.2 - (wrap64 ((mn (wrap64 (Int.tdiv bt165.2 36524)) 3) * 36524)))) - (wrap64 ((wrap64 (Int.tdiv (wrap64 (bt165.2 - (wrap64 ((mn (wrap64 (Int.tdiv bt165.2 36524)) 3) * 36524)))) 1461)) * 1461)))) 365)) 3)), wrap64 ((wrap64 (Int.tdiv (wrap64 ((wrap64 (5 * (wrap64 ((wrap64 ((wrap64 (bt165.2 - (wrap64 ((mn (wrap64 (Int.tdiv bt165.2 36524)) 3) * 36524)))) - (wrap64 ((wrap64 (Int.tdiv (wrap64 (bt165.2 - (wrap64 ((mn (wrap64 (Int.tdiv bt165.2 36524)) 3) * 36524)))) 1461)) * 1461)))) - (wrap64 ((mn (wrap64 (Int.tdiv (wrap64 ((wrap64 (bt165.2 - (wrap64 ((mn (wrap64 (Int.tdiv bt165.2 36524)) 3) * 36524)))) - (wrap64 ((wrap64 (Int.tdiv (wrap64 (bt165.2 - (wrap64 ((mn (wrap64 (Int.tdiv bt165.2 36524)) 3) * 36524)))) 1461)) * 1461)))) 365)) 3) * 365)))))) + 2)) 153)) + 3), wrap64 ((wrap64 ((wrap64 ((wrap64 ((wrap64 (bt165.2 - (wrap64 ((mn (wrap64 (Int.tdiv bt165.2 36524)) 3) * 36524)))) - (wrap64 ((wrap64 (Int.tdiv (wrap64 (bt165.2 - (wrap64 ((mn (wrap64 (Int.tdiv bt165.2 36524)) 3) * 36524)))) 1461)) * 1461)))) - (wrap64 ((mn (wrap64 (Int.tdiv (wrap64 ((wrap64 (bt165.2 - (wrap64 ((mn (wrap64 (Int.tdiv bt165.2 36524)) 3) * 36524)))) - (wrap64 ((wrap64 (Int.tdiv (wrap64 (bt165.2 - (wrap64 ((mn (wrap64 (Int.tdiv bt165.2 36524)) 3) * 36524)))) 1461)) * 1461)))) 365)) 3) * 365)))) - (wrap64 (Int.tdiv (wrap64 ((wrap64 (153 * (wrap64 (Int.tdiv (wrap64 ((wrap64 (5 * (wrap64 ((wrap64 ((wrap64 (bt165.2 - (wrap64 ((mn (wrap64 (Int.tdiv bt165.2 36524)) 3) * 36524)))) - (wrap64 ((wrap64 (Int.tdiv (wrap64 (bt165.2 - (wrap64 ((mn (wrap64 (Int.tdiv bt165.2 36524)) 3) * 36524)))) 1461)) * 1461)))) - (wrap64 ((mn (wrap64 (Int.tdiv (wrap64 ((wrap64 (bt165.2 - (wrap64 ((mn (wrap64 (Int.tdiv bt165.2 36524)) 3) * 36524)))) - (wrap64 ((wrap64 (Int.tdiv (wrap64 (bt165.2 - (wrap64 ((mn (wrap64 (Int.tdiv bt165.2 36524)) 3) * 36524)))) 1461)) * 1461)))) 365)) 3) * 365)))))) + 2)) 153)))) + 2)) 5)))) + 1))))
set_option maxHeartbeats 8000000 in
set_option maxRecDepth 100000 in
theorem civil_parts.calls (a0 : Int) (r1 : Int) (r2 : Int) (r3 : Int) (w : World) (h : civil_parts.f a0 = some (r1, r2, r3)) :
    Calls Try.prog 65 #[.int .i64 a0] w fun e w' => e = .returned (.tuple #[.int .i64 r1, .int .i64 r2, .int .i64 r3]) ∧ Below w.heap.size w w' := by
  have HB := Aside0.mk (Below.refl w.heap.size w)
  have H : ((civil_floor.f (wrap64 (a0 + 730425)) 146097).bind fun bt165 => (if (wrap64 (Int.tdiv (wrap64 ((wrap64 (5 * (wrap64 ((wrap64 ((wrap64 (bt165.2 - (wrap64 ((mn (wrap64 (Int.tdiv bt165.2 36524)) 3) * 36524)))) - (wrap64 ((wrap64 (Int.tdiv (wrap64 (bt165.2 - (wrap64 ((mn (wrap64 (Int.tdiv bt165.2 36524)) 3) * 36524)))) 1461)) * 1461)))) - (wrap64 ((mn (wrap64 (Int.tdiv (wrap64 ((wrap64 (bt165.2 - (wrap64 ((mn (wrap64 (Int.tdiv bt165.2 36524)) 3) * 36524)))) - (wrap64 ((wrap64 (Int.tdiv (wrap64 (bt165.2 - (wrap64 ((mn (wrap64 (Int.tdiv bt165.2 36524)) 3) * 36524)))) 1461)) * 1461)))) 365)) 3) * 365)))))) + 2)) 153)) ≥ 10 then (some (wrap64 ((wrap64 ((wrap64 ((wrap64 ((wrap64 (bt165.1 * 400)) + (wrap64 ((mn (wrap64 (Int.tdiv bt165.2 36524)) 3) * 100)))) + (wrap64 ((wrap64 (Int.tdiv (wrap64 (bt165.2 - (wrap64 ((mn (wrap64 (Int.tdiv bt165.2 36524)) 3) * 36524)))) 1461)) * 4)))) + (mn (wrap64 (Int.tdiv (wrap64 ((wrap64 (bt165.2 - (wrap64 ((mn (wrap64 (Int.tdiv bt165.2 36524)) 3) * 36524)))) - (wrap64 ((wrap64 (Int.tdiv (wrap64 (bt165.2 - (wrap64 ((mn (wrap64 (Int.tdiv bt165.2 36524)) 3) * 36524)))) 1461)) * 1461)))) 365)) 3))) + 1), wrap64 ((wrap64 (Int.tdiv (wrap64 ((wrap64 (5 * (wrap64 ((wrap64 ((wrap64 (bt165.2 - (wrap64 ((mn (wrap64 (Int.tdiv bt165.2 36524)) 3) * 36524)))) - (wrap64 ((wrap64 (Int.tdiv (wrap64 (bt165.2 - (wrap64 ((mn (wrap64 (Int.tdiv bt165.2 36524)) 3) * 36524)))) 1461)) * 1461)))) - (wrap64 ((mn (wrap64 (Int.tdiv (wrap64 ((wrap64 (bt165.2 - (wrap64 ((mn (wrap64 (Int.tdiv bt165.2 36524)) 3) * 36524)))) - (wrap64 ((wrap64 (Int.tdiv (wrap64 (bt165.2 - (wrap64 ((mn (wrap64 (Int.tdiv bt165.2 36524)) 3) * 36524)))) 1461)) * 1461)))) 365)) 3) * 365)))))) + 2)) 153)) - 9), wrap64 ((wrap64 ((wrap64 ((wrap64 ((wrap64 (bt165.2 - (wrap64 ((mn (wrap64 (Int.tdiv bt165.2 36524)) 3) * 36524)))) - (wrap64 ((wrap64 (Int.tdiv (wrap64 (bt165.2 - (wrap64 ((mn (wrap64 (Int.tdiv bt165.2 36524)) 3) * 36524)))) 1461)) * 1461)))) - (wrap64 ((mn (wrap64 (Int.tdiv (wrap64 ((wrap64 (bt165.2 - (wrap64 ((mn (wrap64 (Int.tdiv bt165.2 36524)) 3) * 36524)))) - (wrap64 ((wrap64 (Int.tdiv (wrap64 (bt165.2 - (wrap64 ((mn (wrap64 (Int.tdiv bt165.2 36524)) 3) * 36524)))) 1461)) * 1461)))) 365)) 3) * 365)))) - (wrap64 (Int.tdiv (wrap64 ((wrap64 (153 * (wrap64 (Int.tdiv (wrap64 ((wrap64 (5 * (wrap64 ((wrap64 ((wrap64 (bt165.2 - (wrap64 ((mn (wrap64 (Int.tdiv bt165.2 36524)) 3) * 36524)))) - (wrap64 ((wrap64 (Int.tdiv (wrap64 (bt165.2 - (wrap64 ((mn (wrap64 (Int.tdiv bt165.2 36524)) 3) * 36524)))) 1461)) * 1461)))) - (wrap64 ((mn (wrap64 (Int.tdiv (wrap64 ((wrap64 (bt165.2 - (wrap64 ((mn (wrap64 (Int.tdiv bt165.2 36524)) 3) * 36524)))) - (wrap64 ((wrap64 (Int.tdiv (wrap64 (bt165.2 - (wrap64 ((mn (wrap64 (Int.tdiv bt165.2 36524)) 3) * 36524)))) 1461)) * 1461)))) 365)) 3) * 365)))))) + 2)) 153)))) + 2)) 5)))) + 1))) else (some (wrap64 ((wrap64 ((wrap64 ((wrap64 (bt165.1 * 400)) + (wrap64 ((mn (wrap64 (Int.tdiv bt165.2 36524)) 3) * 100)))) + (wrap64 ((wrap64 (Int.tdiv (wrap64 (bt165.2 - (wrap64 ((mn (wrap64 (Int.tdiv bt165.2 36524)) 3) * 36524)))) 1461)) * 4)))) + (mn (wrap64 (Int.tdiv (wrap64 ((wrap64 (bt165.2 - (wrap64 ((mn (wrap64 (Int.tdiv bt165.2 36524)) 3) * 36524)))) - (wrap64 ((wrap64 (Int.tdiv (wrap64 (bt165.2 - (wrap64 ((mn (wrap64 (Int.tdiv bt165.2 36524)) 3) * 36524)))) 1461)) * 1461)))) 365)) 3)), wrap64 ((wrap64 (Int.tdiv (wrap64 ((wrap64 (5 * (wrap64 ((wrap64 ((wrap64 (bt165.2 - (wrap64 ((mn (wrap64 (Int.tdiv bt165.2 36524)) 3) * 36524)))) - (wrap64 ((wrap64 (Int.tdiv (wrap64 (bt165.2 - (wrap64 ((mn (wrap64 (Int.tdiv bt165.2 36524)) 3) * 36524)))) 1461)) * 1461)))) - (wrap64 ((mn (wrap64 (Int.tdiv (wrap64 ((wrap64 (bt165.2 - (wrap64 ((mn (wrap64 (Int.tdiv bt165.2 36524)) 3) * 36524)))) - (wrap64 ((wrap64 (Int.tdiv (wrap64 (bt165.2 - (wrap64 ((mn (wrap64 (Int.tdiv bt165.2 36524)) 3) * 36524)))) 1461)) * 1461)))) 365)) 3) * 365)))))) + 2)) 153)) + 3), wrap64 ((wrap64 ((wrap64 ((wrap64 ((wrap64 (bt165.2 - (wrap64 ((mn (wrap64 (Int.tdiv bt165.2 36524)) 3) * 36524)))) - (wrap64 ((wrap64 (Int.tdiv (wrap64 (bt165.2 - (wrap64 ((mn (wrap64 (Int.tdiv bt165.2 36524)) 3) * 36524)))) 1461)) * 1461)))) - (wrap64 ((mn (wrap64 (Int.tdiv (wrap64 ((wrap64 (bt165.2 - (wrap64 ((mn (wrap64 (Int.tdiv bt165.2 36524)) 3) * 36524)))) - (wrap64 ((wrap64 (Int.tdiv (wrap64 (bt165.2 - (wrap64 ((mn (wrap64 (Int.tdiv bt165.2 36524)) 3) * 36524)))) 1461)) * 1461)))) 365)) 3) * 365)))) - (wrap64 (Int.tdiv (wrap64 ((wrap64 (153 * (wrap64 (Int.tdiv (wrap64 ((wrap64 (5 * (wrap64 ((wrap64 ((wrap64 (bt165.2 - (wrap64 ((mn (wrap64 (Int.tdiv bt165.2 36524)) 3) * 36524)))) - (wrap64 ((wrap64 (Int.tdiv (wrap64 (bt165.2 - (wrap64 ((mn (wrap64 (Int.tdiv bt165.2 36524)) 3) * 36524)))) 1461)) * 1461)))) - (wrap64 ((mn (wrap64 (Int.tdiv (wrap64 ((wrap64 (bt165.2 - (wrap64 ((mn (wrap64 (Int.tdiv bt165.2 36524)) 3) * 36524)))) - (wrap64 ((wrap64 (Int.tdiv (wrap64 (bt165.2 - (wrap64 ((mn (wrap64 (Int.tdiv bt165.2 36524)) 3) * 36524)))) 1461)) * 1461)))) 365)) 3) * 365)))))) + 2)) 153)))) + 2)) 5)))) + 1))))) = some (r1, r2, r3) := h
  clear h
  replace H := Option.bind_eq_some_iff.mp H
  obtain ⟨⟨t165, t166⟩, A20, H⟩ := H
  replace H : (if (wrap64 (Int.tdiv (wrap64 ((wrap64 (5 * (wrap64 ((wrap64 ((wrap64 (t166 - (wrap64 ((mn (wrap64 (Int.tdiv t166 36524)) 3) * 36524)))) - (wrap64 ((wrap64 (Int.tdiv (wrap64 (t166 - (wrap64 ((mn (wrap64 (Int.tdiv t166 36524)) 3) * 36524)))) 1461)) * 1461)))) - (wrap64 ((mn (wrap64 (Int.tdiv (wrap64 ((wrap64 (t166 - (wrap64 ((mn (wrap64 (Int.tdiv t166 36524)) 3) * 36524)))) - (wrap64 ((wrap64 (Int.tdiv (wrap64 (t166 - (wrap64 ((mn (wrap64 (Int.tdiv t166 36524)) 3) * 36524)))) 1461)) * 1461)))) 365)) 3) * 365)))))) + 2)) 153)) ≥ 10 then (some (wrap64 ((wrap64 ((wrap64 ((wrap64 ((wrap64 (t165 * 400)) + (wrap64 ((mn (wrap64 (Int.tdiv t166 36524)) 3) * 100)))) + (wrap64 ((wrap64 (Int.tdiv (wrap64 (t166 - (wrap64 ((mn (wrap64 (Int.tdiv t166 36524)) 3) * 36524)))) 1461)) * 4)))) + (mn (wrap64 (Int.tdiv (wrap64 ((wrap64 (t166 - (wrap64 ((mn (wrap64 (Int.tdiv t166 36524)) 3) * 36524)))) - (wrap64 ((wrap64 (Int.tdiv (wrap64 (t166 - (wrap64 ((mn (wrap64 (Int.tdiv t166 36524)) 3) * 36524)))) 1461)) * 1461)))) 365)) 3))) + 1), wrap64 ((wrap64 (Int.tdiv (wrap64 ((wrap64 (5 * (wrap64 ((wrap64 ((wrap64 (t166 - (wrap64 ((mn (wrap64 (Int.tdiv t166 36524)) 3) * 36524)))) - (wrap64 ((wrap64 (Int.tdiv (wrap64 (t166 - (wrap64 ((mn (wrap64 (Int.tdiv t166 36524)) 3) * 36524)))) 1461)) * 1461)))) - (wrap64 ((mn (wrap64 (Int.tdiv (wrap64 ((wrap64 (t166 - (wrap64 ((mn (wrap64 (Int.tdiv t166 36524)) 3) * 36524)))) - (wrap64 ((wrap64 (Int.tdiv (wrap64 (t166 - (wrap64 ((mn (wrap64 (Int.tdiv t166 36524)) 3) * 36524)))) 1461)) * 1461)))) 365)) 3) * 365)))))) + 2)) 153)) - 9), wrap64 ((wrap64 ((wrap64 ((wrap64 ((wrap64 (t166 - (wrap64 ((mn (wrap64 (Int.tdiv t166 36524)) 3) * 36524)))) - (wrap64 ((wrap64 (Int.tdiv (wrap64 (t166 - (wrap64 ((mn (wrap64 (Int.tdiv t166 36524)) 3) * 36524)))) 1461)) * 1461)))) - (wrap64 ((mn (wrap64 (Int.tdiv (wrap64 ((wrap64 (t166 - (wrap64 ((mn (wrap64 (Int.tdiv t166 36524)) 3) * 36524)))) - (wrap64 ((wrap64 (Int.tdiv (wrap64 (t166 - (wrap64 ((mn (wrap64 (Int.tdiv t166 36524)) 3) * 36524)))) 1461)) * 1461)))) 365)) 3) * 365)))) - (wrap64 (Int.tdiv (wrap64 ((wrap64 (153 * (wrap64 (Int.tdiv (wrap64 ((wrap64 (5 * (wrap64 ((wrap64 ((wrap64 (t166 - (wrap64 ((mn (wrap64 (Int.tdiv t166 36524)) 3) * 36524)))) - (wrap64 ((wrap64 (Int.tdiv (wrap64 (t166 - (wrap64 ((mn (wrap64 (Int.tdiv t166 36524)) 3) * 36524)))) 1461)) * 1461)))) - (wrap64 ((mn (wrap64 (Int.tdiv (wrap64 ((wrap64 (t166 - (wrap64 ((mn (wrap64 (Int.tdiv t166 36524)) 3) * 36524)))) - (wrap64 ((wrap64 (Int.tdiv (wrap64 (t166 - (wrap64 ((mn (wrap64 (Int.tdiv t166 36524)) 3) * 36524)))) 1461)) * 1461)))) 365)) 3) * 365)))))) + 2)) 153)))) + 2)) 5)))) + 1))) else (some (wrap64 ((wrap64 ((wrap64 ((wrap64 (t165 * 400)) + (wrap64 ((mn (wrap64 (Int.tdiv t166 36524)) 3) * 100)))) + (wrap64 ((wrap64 (Int.tdiv (wrap64 (t166 - (wrap64 ((mn (wrap64 (Int.tdiv t166 36524)) 3) * 36524)))) 1461)) * 4)))) + (mn (wrap64 (Int.tdiv (wrap64 ((wrap64 (t166 - (wrap64 ((mn (wrap64 (Int.tdiv t166 36524)) 3) * 36524)))) - (wrap64 ((wrap64 (Int.tdiv (wrap64 (t166 - (wrap64 ((mn (wrap64 (Int.tdiv t166 36524)) 3) * 36524)))) 1461)) * 1461)))) 365)) 3)), wrap64 ((wrap64 (Int.tdiv (wrap64 ((wrap64 (5 * (wrap64 ((wrap64 ((wrap64 (t166 - (wrap64 ((mn (wrap64 (Int.tdiv t166 36524)) 3) * 36524)))) - (wrap64 ((wrap64 (Int.tdiv (wrap64 (t166 - (wrap64 ((mn (wrap64 (Int.tdiv t166 36524)) 3) * 36524)))) 1461)) * 1461)))) - (wrap64 ((mn (wrap64 (Int.tdiv (wrap64 ((wrap64 (t166 - (wrap64 ((mn (wrap64 (Int.tdiv t166 36524)) 3) * 36524)))) - (wrap64 ((wrap64 (Int.tdiv (wrap64 (t166 - (wrap64 ((mn (wrap64 (Int.tdiv t166 36524)) 3) * 36524)))) 1461)) * 1461)))) 365)) 3) * 365)))))) + 2)) 153)) + 3), wrap64 ((wrap64 ((wrap64 ((wrap64 ((wrap64 (t166 - (wrap64 ((mn (wrap64 (Int.tdiv t166 36524)) 3) * 36524)))) - (wrap64 ((wrap64 (Int.tdiv (wrap64 (t166 - (wrap64 ((mn (wrap64 (Int.tdiv t166 36524)) 3) * 36524)))) 1461)) * 1461)))) - (wrap64 ((mn (wrap64 (Int.tdiv (wrap64 ((wrap64 (t166 - (wrap64 ((mn (wrap64 (Int.tdiv t166 36524)) 3) * 36524)))) - (wrap64 ((wrap64 (Int.tdiv (wrap64 (t166 - (wrap64 ((mn (wrap64 (Int.tdiv t166 36524)) 3) * 36524)))) 1461)) * 1461)))) 365)) 3) * 365)))) - (wrap64 (Int.tdiv (wrap64 ((wrap64 (153 * (wrap64 (Int.tdiv (wrap64 ((wrap64 (5 * (wrap64 ((wrap64 ((wrap64 (t166 - (wrap64 ((mn (wrap64 (Int.tdiv t166 36524)) 3) * 36524)))) - (wrap64 ((wrap64 (Int.tdiv (wrap64 (t166 - (wrap64 ((mn (wrap64 (Int.tdiv t166 36524)) 3) * 36524)))) 1461)) * 1461)))) - (wrap64 ((mn (wrap64 (Int.tdiv (wrap64 ((wrap64 (t166 - (wrap64 ((mn (wrap64 (Int.tdiv t166 36524)) 3) * 36524)))) - (wrap64 ((wrap64 (Int.tdiv (wrap64 (t166 - (wrap64 ((mn (wrap64 (Int.tdiv t166 36524)) 3) * 36524)))) 1461)) * 1461)))) 365)) 3) * 365)))))) + 2)) 153)))) + 2)) 5)))) + 1)))) = some (r1, r2, r3) := H
  have A2 := Aside0.mk A20
  clear A20
  obtain ⟨ji3, hji3⟩ : ∃ j_ : Int, (mn (wrap64 (Int.tdiv t166 36524)) 3) = j_ := ⟨_, rfl⟩
  replace H : (if (wrap64 (Int.tdiv (wrap64 ((wrap64 (5 * (wrap64 ((wrap64 ((wrap64 (t166 - (wrap64 ((ji3) * 36524)))) - (wrap64 ((wrap64 (Int.tdiv (wrap64 (t166 - (wrap64 ((ji3) * 36524)))) 1461)) * 1461)))) - (wrap64 ((mn (wrap64 (Int.tdiv (wrap64 ((wrap64 (t166 - (wrap64 ((ji3) * 36524)))) - (wrap64 ((wrap64 (Int.tdiv (wrap64 (t166 - (wrap64 ((ji3) * 36524)))) 1461)) * 1461)))) 365)) 3) * 365)))))) + 2)) 153)) ≥ 10 then (some (wrap64 ((wrap64 ((wrap64 ((wrap64 ((wrap64 (t165 * 400)) + (wrap64 ((ji3) * 100)))) + (wrap64 ((wrap64 (Int.tdiv (wrap64 (t166 - (wrap64 ((ji3) * 36524)))) 1461)) * 4)))) + (mn (wrap64 (Int.tdiv (wrap64 ((wrap64 (t166 - (wrap64 ((ji3) * 36524)))) - (wrap64 ((wrap64 (Int.tdiv (wrap64 (t166 - (wrap64 ((ji3) * 36524)))) 1461)) * 1461)))) 365)) 3))) + 1), wrap64 ((wrap64 (Int.tdiv (wrap64 ((wrap64 (5 * (wrap64 ((wrap64 ((wrap64 (t166 - (wrap64 ((ji3) * 36524)))) - (wrap64 ((wrap64 (Int.tdiv (wrap64 (t166 - (wrap64 ((ji3) * 36524)))) 1461)) * 1461)))) - (wrap64 ((mn (wrap64 (Int.tdiv (wrap64 ((wrap64 (t166 - (wrap64 ((ji3) * 36524)))) - (wrap64 ((wrap64 (Int.tdiv (wrap64 (t166 - (wrap64 ((ji3) * 36524)))) 1461)) * 1461)))) 365)) 3) * 365)))))) + 2)) 153)) - 9), wrap64 ((wrap64 ((wrap64 ((wrap64 ((wrap64 (t166 - (wrap64 ((ji3) * 36524)))) - (wrap64 ((wrap64 (Int.tdiv (wrap64 (t166 - (wrap64 ((ji3) * 36524)))) 1461)) * 1461)))) - (wrap64 ((mn (wrap64 (Int.tdiv (wrap64 ((wrap64 (t166 - (wrap64 ((ji3) * 36524)))) - (wrap64 ((wrap64 (Int.tdiv (wrap64 (t166 - (wrap64 ((ji3) * 36524)))) 1461)) * 1461)))) 365)) 3) * 365)))) - (wrap64 (Int.tdiv (wrap64 ((wrap64 (153 * (wrap64 (Int.tdiv (wrap64 ((wrap64 (5 * (wrap64 ((wrap64 ((wrap64 (t166 - (wrap64 ((ji3) * 36524)))) - (wrap64 ((wrap64 (Int.tdiv (wrap64 (t166 - (wrap64 ((ji3) * 36524)))) 1461)) * 1461)))) - (wrap64 ((mn (wrap64 (Int.tdiv (wrap64 ((wrap64 (t166 - (wrap64 ((ji3) * 36524)))) - (wrap64 ((wrap64 (Int.tdiv (wrap64 (t166 - (wrap64 ((ji3) * 36524)))) 1461)) * 1461)))) 365)) 3) * 365)))))) + 2)) 153)))) + 2)) 5)))) + 1))) else (some (wrap64 ((wrap64 ((wrap64 ((wrap64 (t165 * 400)) + (wrap64 ((ji3) * 100)))) + (wrap64 ((wrap64 (Int.tdiv (wrap64 (t166 - (wrap64 ((ji3) * 36524)))) 1461)) * 4)))) + (mn (wrap64 (Int.tdiv (wrap64 ((wrap64 (t166 - (wrap64 ((ji3) * 36524)))) - (wrap64 ((wrap64 (Int.tdiv (wrap64 (t166 - (wrap64 ((ji3) * 36524)))) 1461)) * 1461)))) 365)) 3)), wrap64 ((wrap64 (Int.tdiv (wrap64 ((wrap64 (5 * (wrap64 ((wrap64 ((wrap64 (t166 - (wrap64 ((ji3) * 36524)))) - (wrap64 ((wrap64 (Int.tdiv (wrap64 (t166 - (wrap64 ((ji3) * 36524)))) 1461)) * 1461)))) - (wrap64 ((mn (wrap64 (Int.tdiv (wrap64 ((wrap64 (t166 - (wrap64 ((ji3) * 36524)))) - (wrap64 ((wrap64 (Int.tdiv (wrap64 (t166 - (wrap64 ((ji3) * 36524)))) 1461)) * 1461)))) 365)) 3) * 365)))))) + 2)) 153)) + 3), wrap64 ((wrap64 ((wrap64 ((wrap64 ((wrap64 (t166 - (wrap64 ((ji3) * 36524)))) - (wrap64 ((wrap64 (Int.tdiv (wrap64 (t166 - (wrap64 ((ji3) * 36524)))) 1461)) * 1461)))) - (wrap64 ((mn (wrap64 (Int.tdiv (wrap64 ((wrap64 (t166 - (wrap64 ((ji3) * 36524)))) - (wrap64 ((wrap64 (Int.tdiv (wrap64 (t166 - (wrap64 ((ji3) * 36524)))) 1461)) * 1461)))) 365)) 3) * 365)))) - (wrap64 (Int.tdiv (wrap64 ((wrap64 (153 * (wrap64 (Int.tdiv (wrap64 ((wrap64 (5 * (wrap64 ((wrap64 ((wrap64 (t166 - (wrap64 ((ji3) * 36524)))) - (wrap64 ((wrap64 (Int.tdiv (wrap64 (t166 - (wrap64 ((ji3) * 36524)))) 1461)) * 1461)))) - (wrap64 ((mn (wrap64 (Int.tdiv (wrap64 ((wrap64 (t166 - (wrap64 ((ji3) * 36524)))) - (wrap64 ((wrap64 (Int.tdiv (wrap64 (t166 - (wrap64 ((ji3) * 36524)))) 1461)) * 1461)))) 365)) 3) * 365)))))) + 2)) 153)))) + 2)) 5)))) + 1)))) = some (r1, r2, r3) := by first | (rw [hji3] at H; exact H) | (simp only [hji3] at H ⊢; exact H)
  (try rw [hji3] at A2)
  (try (have hji3h : ji3 ≤ 3 := by (rw [← hji3]; unfold mn; (repeat' split) <;> omega)))
  (try (have hji3g : ji3 ≤ 64 := by omega))
  have hji3_ : (if 3 < (wrap64 (Int.tdiv t166 36524)) then 3 else (wrap64 (Int.tdiv t166 36524))) = ji3 := hji3
  obtain ⟨ji4, hji4⟩ : ∃ j_ : Int, (mn (wrap64 (Int.tdiv (wrap64 ((wrap64 (t166 - (wrap64 ((ji3) * 36524)))) - (wrap64 ((wrap64 (Int.tdiv (wrap64 (t166 - (wrap64 ((ji3) * 36524)))) 1461)) * 1461)))) 365)) 3) = j_ := ⟨_, rfl⟩
  replace H : (if (wrap64 (Int.tdiv (wrap64 ((wrap64 (5 * (wrap64 ((wrap64 ((wrap64 (t166 - (wrap64 ((ji3) * 36524)))) - (wrap64 ((wrap64 (Int.tdiv (wrap64 (t166 - (wrap64 ((ji3) * 36524)))) 1461)) * 1461)))) - (wrap64 ((ji4) * 365)))))) + 2)) 153)) ≥ 10 then (some (wrap64 ((wrap64 ((wrap64 ((wrap64 ((wrap64 (t165 * 400)) + (wrap64 ((ji3) * 100)))) + (wrap64 ((wrap64 (Int.tdiv (wrap64 (t166 - (wrap64 ((ji3) * 36524)))) 1461)) * 4)))) + (ji4))) + 1), wrap64 ((wrap64 (Int.tdiv (wrap64 ((wrap64 (5 * (wrap64 ((wrap64 ((wrap64 (t166 - (wrap64 ((ji3) * 36524)))) - (wrap64 ((wrap64 (Int.tdiv (wrap64 (t166 - (wrap64 ((ji3) * 36524)))) 1461)) * 1461)))) - (wrap64 ((ji4) * 365)))))) + 2)) 153)) - 9), wrap64 ((wrap64 ((wrap64 ((wrap64 ((wrap64 (t166 - (wrap64 ((ji3) * 36524)))) - (wrap64 ((wrap64 (Int.tdiv (wrap64 (t166 - (wrap64 ((ji3) * 36524)))) 1461)) * 1461)))) - (wrap64 ((ji4) * 365)))) - (wrap64 (Int.tdiv (wrap64 ((wrap64 (153 * (wrap64 (Int.tdiv (wrap64 ((wrap64 (5 * (wrap64 ((wrap64 ((wrap64 (t166 - (wrap64 ((ji3) * 36524)))) - (wrap64 ((wrap64 (Int.tdiv (wrap64 (t166 - (wrap64 ((ji3) * 36524)))) 1461)) * 1461)))) - (wrap64 ((ji4) * 365)))))) + 2)) 153)))) + 2)) 5)))) + 1))) else (some (wrap64 ((wrap64 ((wrap64 ((wrap64 (t165 * 400)) + (wrap64 ((ji3) * 100)))) + (wrap64 ((wrap64 (Int.tdiv (wrap64 (t166 - (wrap64 ((ji3) * 36524)))) 1461)) * 4)))) + (ji4)), wrap64 ((wrap64 (Int.tdiv (wrap64 ((wrap64 (5 * (wrap64 ((wrap64 ((wrap64 (t166 - (wrap64 ((ji3) * 36524)))) - (wrap64 ((wrap64 (Int.tdiv (wrap64 (t166 - (wrap64 ((ji3) * 36524)))) 1461)) * 1461)))) - (wrap64 ((ji4) * 365)))))) + 2)) 153)) + 3), wrap64 ((wrap64 ((wrap64 ((wrap64 ((wrap64 (t166 - (wrap64 ((ji3) * 36524)))) - (wrap64 ((wrap64 (Int.tdiv (wrap64 (t166 - (wrap64 ((ji3) * 36524)))) 1461)) * 1461)))) - (wrap64 ((ji4) * 365)))) - (wrap64 (Int.tdiv (wrap64 ((wrap64 (153 * (wrap64 (Int.tdiv (wrap64 ((wrap64 (5 * (wrap64 ((wrap64 ((wrap64 (t166 - (wrap64 ((ji3) * 36524)))) - (wrap64 ((wrap64 (Int.tdiv (wrap64 (t166 - (wrap64 ((ji3) * 36524)))) 1461)) * 1461)))) - (wrap64 ((ji4) * 365)))))) + 2)) 153)))) + 2)) 5)))) + 1)))) = some (r1, r2, r3) := by first | (rw [hji4] at H; exact H) | (simp only [hji4] at H ⊢; exact H)
  (try rw [hji4] at A2)
  have hji4_ : (if 3 < (wrap64 (Int.tdiv (wrap64 ((wrap64 (t166 - (wrap64 ((ji3) * 36524)))) - (wrap64 ((wrap64 (Int.tdiv (wrap64 (t166 - (wrap64 ((ji3) * 36524)))) 1461)) * 1461)))) 365)) then 3 else (wrap64 (Int.tdiv (wrap64 ((wrap64 (t166 - (wrap64 ((ji3) * 36524)))) - (wrap64 ((wrap64 (Int.tdiv (wrap64 (t166 - (wrap64 ((ji3) * 36524)))) 1461)) * 1461)))) 365))) = ji4 := hji4
  by_cases c5 : (wrap64 (Int.tdiv (wrap64 ((wrap64 (5 * (wrap64 ((wrap64 ((wrap64 (t166 - (wrap64 ((ji3) * 36524)))) - (wrap64 ((wrap64 (Int.tdiv (wrap64 (t166 - (wrap64 ((ji3) * 36524)))) 1461)) * 1461)))) - (wrap64 ((ji4) * 365)))))) + 2)) 153)) ≥ 10
  · rw [if_pos c5] at H
    have c5b0 : decide (10 ≤ (wrap64 (Int.tdiv (wrap64 ((wrap64 (5 * (wrap64 ((wrap64 ((wrap64 (t166 - (wrap64 ((ji3) * 36524)))) - (wrap64 ((wrap64 (Int.tdiv (wrap64 (t166 - (wrap64 ((ji3) * 36524)))) 1461)) * 1461)))) - (wrap64 ((ji4) * 365)))))) + 2)) 153))) = true := decide_eq_true c5
    clear c5
    simp only [Option.some.injEq, Prod.mk.injEq] at H
    obtain ⟨rfl, rfl, rfl⟩ := H
    go_enter Try.func65, Try.ntmps65
    go_wp2_with (first | ((with_reducible refine gate_callee (f := 71) rfl ?_); refine goesL_ (some 16) rfl rfl Try.func71 (by kernel_rfl) rfl #[.int .i64 (wrap64 (a0 + 730425)), .int .i64 146097] rfl (by (try simp only [List.map_toArray, List.map_cons, List.map_nil]); first | done | rfl | (simp only [List.length_drop, List.length_take]; rfl)) ?_; (with_reducible refine (civil_floor.calls (wrap64 (a0 + 730425)) 146097 t165 t166 _ A2.out).mono ?_); rintro e w' ⟨rfl, ⟨nd, rfl⟩⟩; refine ⟨_, rfl, ?_⟩))
    go_ret3
    exact ⟨by first | rfl | (simp [errW_none, errW_some] <;> rfl) | (simp only [← hji3, ← hji4]; first | rfl | (simp [errW_none, errW_some] <;> rfl)) | (simp [*, errW_none, errW_some] <;> rfl), by repeat (first | (with_reducible first | exact HB.out | apply below_alloc | apply pw_below_drewN | apply below_drew1) | exact HB.out)⟩
  · rw [if_neg c5] at H
    have c5b0 : decide (10 ≤ (wrap64 (Int.tdiv (wrap64 ((wrap64 (5 * (wrap64 ((wrap64 ((wrap64 (t166 - (wrap64 ((ji3) * 36524)))) - (wrap64 ((wrap64 (Int.tdiv (wrap64 (t166 - (wrap64 ((ji3) * 36524)))) 1461)) * 1461)))) - (wrap64 ((ji4) * 365)))))) + 2)) 153))) = false := decide_eq_false c5
    clear c5
    simp only [Option.some.injEq, Prod.mk.injEq] at H
    obtain ⟨rfl, rfl, rfl⟩ := H
    go_enter Try.func65, Try.ntmps65
    go_wp2_with (first | ((with_reducible refine gate_callee (f := 71) rfl ?_); refine goesL_ (some 16) rfl rfl Try.func71 (by kernel_rfl) rfl #[.int .i64 (wrap64 (a0 + 730425)), .int .i64 146097] rfl (by (try simp only [List.map_toArray, List.map_cons, List.map_nil]); first | done | rfl | (simp only [List.length_drop, List.length_take]; rfl)) ?_; (with_reducible refine (civil_floor.calls (wrap64 (a0 + 730425)) 146097 t165 t166 _ A2.out).mono ?_); rintro e w' ⟨rfl, ⟨nd, rfl⟩⟩; refine ⟨_, rfl, ?_⟩))
    go_ret3
    exact ⟨by first | rfl | (simp [errW_none, errW_some] <;> rfl) | (simp only [← hji3, ← hji4]; first | rfl | (simp [errW_none, errW_some] <;> rfl)) | (simp [*, errW_none, errW_some] <;> rfl), by repeat (first | (with_reducible first | exact HB.out | apply below_alloc | apply pw_below_drewN | apply below_drew1) | exact HB.out)⟩

/-! ### civil_Date: function 52 -/
def civil_Date.f (a0 : Int) : Option (Int × Int × Int × Int) := (civil_can.f a0).bind fun t167 => (if t167 = true then ((civil_parts.f a0).bind fun bt168 => (some (bt168.1, bt168.2.1, bt168.2.2, 0))) else (some (0, 0, 0, 10)))
set_option maxHeartbeats 8000000 in
set_option maxRecDepth 100000 in
theorem civil_Date.calls (a0 : Int) (r1 : Int) (r2 : Int) (r3 : Int) (r4 : Int) (w : World) (h : civil_Date.f a0 = some (r1, r2, r3, r4)) :
    Calls Try.prog 52 #[.int .i64 a0] w fun e w' => e = .returned (.tuple #[.int .i64 r1, .int .i64 r2, .int .i64 r3, .int .i64 r4]) ∧ Below w.heap.size w w' := by
  have HB := Aside0.mk (Below.refl w.heap.size w)
  have H : ((civil_can.f a0).bind fun t167 => (if t167 = true then ((civil_parts.f a0).bind fun bt168 => (some (bt168.1, bt168.2.1, bt168.2.2, 0))) else (some (0, 0, 0, 10)))) = some (r1, r2, r3, r4) := h
  clear h
  replace H := Option.bind_eq_some_iff.mp H
  obtain ⟨t167, A20, H⟩ := H
  replace H : (if t167 = true then ((civil_parts.f a0).bind fun bt168 => (some (bt168.1, bt168.2.1, bt168.2.2, 0))) else (some (0, 0, 0, 10))) = some (r1, r2, r3, r4) := H
  have A2 := Aside0.mk A20
  clear A20
  by_cases c3 : t167 = true
  · subst c3
    have H1 : ((civil_parts.f a0).bind fun bt168 => (some (bt168.1, bt168.2.1, bt168.2.2, 0))) = some (r1, r2, r3, r4) := by rw [if_pos rfl] at H; exact H
    clear H
    have H := H1
    clear H1
    replace H := Option.bind_eq_some_iff.mp H
    obtain ⟨⟨t168, t169, t170⟩, A40, H⟩ := H
    replace H : (some (t168, t169, t170, 0)) = some (r1, r2, r3, r4) := H
    have A4 := Aside0.mk A40
    clear A40
    simp only [Option.some.injEq, Prod.mk.injEq] at H
    obtain ⟨rfl, rfl, rfl, rfl⟩ := H
    go_enter Try.func52, Try.ntmps52
    go_wp2_with (first | ((with_reducible refine gate_callee (f := 64) rfl ?_); refine goesL_ (some 10) rfl rfl Try.func64 (by kernel_rfl) rfl #[.int .i64 a0] rfl (by (try simp only [List.map_toArray, List.map_cons, List.map_nil]); first | done | rfl | (simp only [List.length_drop, List.length_take]; rfl)) ?_; (with_reducible refine (civil_can.calls a0 true _ A2.out).mono ?_); rintro e w' ⟨rfl, ⟨nd, rfl⟩⟩; refine ⟨_, rfl, ?_⟩) | ((with_reducible refine gate_callee (f := 65) rfl ?_); refine goesL_ (some 14) rfl rfl Try.func65 (by kernel_rfl) rfl #[.int .i64 a0] rfl (by (try simp only [List.map_toArray, List.map_cons, List.map_nil]); first | done | rfl | (simp only [List.length_drop, List.length_take]; rfl)) ?_; (with_reducible refine (civil_parts.calls a0 t168 t169 t170 _ A4.out).mono ?_); rintro e w5 ⟨rfl, hb⟩; refine ⟨_, rfl, ?_⟩; have n0_ := Aside0.mk (below_step (by repeat (first | (with_reducible first | exact HB.out | apply below_alloc | apply pw_below_drewN | apply below_drew1) | exact HB.out)) hb); clear HB; have HB := n0_; clear n0_; (try clear hb); (try clear hb2); (try clear hk); (try clear hi)))
    refine bodyPost_ret (results_list (rs := [.tmp 2, .tmp 3, .tmp 4, .tmp 5]) rfl (by simp) (.tmp (.tmp (.tmp (.tmp .nil))))) rfl ?_
    exact ⟨by first | rfl | (simp [errW_none, errW_some] <;> rfl) | (simp [*, errW_none, errW_some] <;> rfl), by repeat (first | (with_reducible first | exact HB.out | apply below_alloc | apply pw_below_drewN | apply below_drew1) | exact HB.out)⟩
  · replace c3 := Bool.eq_false_iff.mpr c3
    subst c3
    have H1 : (some (0, 0, 0, 10)) = some (r1, r2, r3, r4) := by rw [if_neg (show ¬ (false = true) by decide)] at H; exact H
    clear H
    have H := H1
    clear H1
    simp only [Option.some.injEq, Prod.mk.injEq] at H
    obtain ⟨rfl, rfl, rfl, rfl⟩ := H
    go_enter Try.func52, Try.ntmps52
    go_wp2_with (first | ((with_reducible refine gate_callee (f := 64) rfl ?_); refine goesL_ (some 10) rfl rfl Try.func64 (by kernel_rfl) rfl #[.int .i64 a0] rfl (by (try simp only [List.map_toArray, List.map_cons, List.map_nil]); first | done | rfl | (simp only [List.length_drop, List.length_take]; rfl)) ?_; (with_reducible refine (civil_can.calls a0 false _ A2.out).mono ?_); rintro e w' ⟨rfl, ⟨nd, rfl⟩⟩; refine ⟨_, rfl, ?_⟩))
    refine bodyPost_ret (results_list (rs := [.tmp 2, .tmp 3, .tmp 4, .tmp 5]) rfl (by simp) (.tmp (.tmp (.tmp (.tmp .nil))))) rfl ?_
    exact ⟨by first | rfl | (simp [errW_none, errW_some] <;> rfl) | (simp [*, errW_none, errW_some] <;> rfl), by repeat (first | (with_reducible first | exact HB.out | apply below_alloc | apply pw_below_drewN | apply below_drew1) | exact HB.out)⟩

/-! ### fire_YearAt: function 35 -/
def fire_YearAt.f (a0 : Int) : Option (Int) := (fire_floor.f a0).bind fun t171 => ((civil_First.f).bind fun t172 => ((civil_Last.f).bind fun t173 => ((civil_Date.f (mn (mx (wrap64 (t171 - 10957)) t172) t173)).bind fun bt174 => (some bt174.1))))
set_option maxHeartbeats 8000000 in
set_option maxRecDepth 100000 in
theorem fire_YearAt.calls (a0 : Int) (r : Int) (w : World) (h : fire_YearAt.f a0 = some r) :
    Calls Try.prog 35 #[.int .i64 a0] w fun e w' => e = .returned (.int .i64 r) ∧ Below w.heap.size w w' := by
  have HB := Aside0.mk (Below.refl w.heap.size w)
  have H : ((fire_floor.f a0).bind fun t171 => ((civil_First.f).bind fun t172 => ((civil_Last.f).bind fun t173 => ((civil_Date.f (mn (mx (wrap64 (t171 - 10957)) t172) t173)).bind fun bt174 => (some bt174.1))))) = some r := h
  clear h
  replace H := Option.bind_eq_some_iff.mp H
  obtain ⟨t171, A20, H⟩ := H
  replace H : ((civil_First.f).bind fun t172 => ((civil_Last.f).bind fun t173 => ((civil_Date.f (mn (mx (wrap64 (t171 - 10957)) t172) t173)).bind fun bt174 => (some bt174.1)))) = some r := H
  have A2 := Aside0.mk A20
  clear A20
  replace H := Option.bind_eq_some_iff.mp H
  obtain ⟨t172, A30, H⟩ := H
  replace H : ((civil_Last.f).bind fun t173 => ((civil_Date.f (mn (mx (wrap64 (t171 - 10957)) t172) t173)).bind fun bt174 => (some bt174.1))) = some r := H
  have A3 := Aside0.mk A30
  clear A30
  obtain ⟨ji4, hji4⟩ : ∃ j_ : Int, (mx (wrap64 (t171 - 10957)) t172) = j_ := ⟨_, rfl⟩
  replace H : ((civil_Last.f).bind fun t173 => ((civil_Date.f (mn (ji4) t173)).bind fun bt174 => (some bt174.1))) = some r := by first | (rw [hji4] at H; exact H) | (simp only [hji4] at H ⊢; exact H)
  (try rw [hji4] at A2)
  (try rw [hji4] at A3)
  have hji4_ : (if (wrap64 (t171 - 10957)) < t172 then t172 else (wrap64 (t171 - 10957))) = ji4 := hji4
  replace H := Option.bind_eq_some_iff.mp H
  obtain ⟨t173, A50, H⟩ := H
  replace H : ((civil_Date.f (mn (ji4) t173)).bind fun bt174 => (some bt174.1)) = some r := H
  have A5 := Aside0.mk A50
  clear A50
  obtain ⟨ji6, hji6⟩ : ∃ j_ : Int, (mn (ji4) t173) = j_ := ⟨_, rfl⟩
  replace H : ((civil_Date.f (ji6)).bind fun bt174 => (some bt174.1)) = some r := by first | (rw [hji6] at H; exact H) | (simp only [hji6] at H ⊢; exact H)
  (try rw [hji6] at A2)
  (try rw [hji6] at A3)
  (try rw [hji6] at A5)
  have hji6_ : (if t173 < (ji4) then t173 else (ji4)) = ji6 := hji6
  replace H := Option.bind_eq_some_iff.mp H
  obtain ⟨⟨t174, t175, t176, t177⟩, A70, H⟩ := H
  replace H : (some t174) = some r := H
  have A7 := Aside0.mk A70
  clear A70
  obtain rfl := Option.some.inj H
  go_enter Try.func35, Try.ntmps35
  go_wp2_with (first | ((with_reducible refine gate_callee (f := 49) rfl ?_); refine goesL_ (some 9) rfl rfl Try.func49 (by kernel_rfl) rfl #[.int .i64 a0] rfl (by (try simp only [List.map_toArray, List.map_cons, List.map_nil]); first | done | rfl | (simp only [List.length_drop, List.length_take]; rfl)) ?_; (with_reducible refine (fire_floor.calls a0 t171 _ A2.out).mono ?_); rintro e w' ⟨rfl, ⟨nd, rfl⟩⟩; refine ⟨_, rfl, ?_⟩) | ((with_reducible refine gate_callee (f := 50) rfl ?_); refine goesL_ (some 12) rfl rfl Try.func50 (by kernel_rfl) rfl #[] rfl (by (try simp only [List.map_toArray, List.map_cons, List.map_nil]); first | done | rfl | (simp only [List.length_drop, List.length_take]; rfl)) ?_; (with_reducible refine (civil_First.calls  t172 _ A3.out).mono ?_); rintro e w' ⟨rfl, ⟨nd, rfl⟩⟩; refine ⟨_, rfl, ?_⟩) | ((with_reducible refine gate_callee (f := 51) rfl ?_); refine goesL_ (some 14) rfl rfl Try.func51 (by kernel_rfl) rfl #[] rfl (by (try simp only [List.map_toArray, List.map_cons, List.map_nil]); first | done | rfl | (simp only [List.length_drop, List.length_take]; rfl)) ?_; (with_reducible refine (civil_Last.calls  t173 _ A5.out).mono ?_); rintro e w' ⟨rfl, ⟨nd, rfl⟩⟩; refine ⟨_, rfl, ?_⟩) | ((with_reducible refine gate_callee (f := 52) rfl ?_); refine goesL_ (some 18) rfl rfl Try.func52 (by kernel_rfl) rfl #[.int .i64 ji6] rfl (by (try simp only [List.map_toArray, List.map_cons, List.map_nil]); first | done | (simp only [hji6]; rfl) | rfl | (simp only [List.length_drop, List.length_take]; rfl)) ?_; (with_reducible refine (civil_Date.calls ji6 t174 t175 t176 t177 _ A7.out).mono ?_); rintro e w8 ⟨rfl, hb⟩; refine ⟨_, rfl, ?_⟩; have n0_ := Aside0.mk (below_step (by repeat (first | (with_reducible first | exact HB.out | apply below_alloc | apply pw_below_drewN | apply below_drew1) | exact HB.out)) hb); clear HB; have HB := n0_; clear n0_; (try clear hb); (try clear hb2); (try clear hk); (try clear hi)))
  go_ret
  exact ⟨by first | rfl | (simp [errW_none, errW_some] <;> rfl) | (simp only [← hji4, ← hji6]; first | rfl | (simp [errW_none, errW_some] <;> rfl)) | (simp [*, errW_none, errW_some] <;> rfl), by repeat (first | (with_reducible first | exact HB.out | apply below_alloc | apply pw_below_drewN | apply below_drew1) | exact HB.out)⟩

-- NOT PRINTED: function 24 (foot_asked)

-- NOT PRINTED: function 25 (foot_about)

-- NOT PRINTED: function 14 (foot_At)

-- NOT PRINTED: function 16 (foot_Next)

-- NOT PRINTED: function 13 (computuslaw11_known)

-- NOT PRINTED: function 3 (computuslaw11_FootYears)

/-! ### computusref02_First: function 53 -/
def computusref02_First.f (k : Nat)  : Option (Int) := (computusref02_day.f k (-4718) 1 1).bind fun t179 => (some t179)
theorem computusref02_First.mono : ∀ k, LeO (computusref02_First.f k ) (computusref02_First.f (k + 1) ) := by
  intro  k
  unfold computusref02_First.f
  repeat' first
      | (with_reducible exact computusref02_day.mono _ _ _ _)
      | (with_reducible exact LeO.refl _)
      | (with_reducible exact LeO.none _)
      | (with_reducible refine LeO.ite ?_ ?_)
      | (with_reducible refine LeO.bind ?_ (fun _ => ?_))
      | exact computusref02_day.mono _ _ _ _
      | exact LeO.none _
      | refine LeO.ite ?_ ?_
      | refine LeO.bind ?_ (fun _ => ?_)
set_option maxHeartbeats 8000000 in
set_option maxRecDepth 100000 in
theorem computusref02_First.calls (k : Nat)  (r : Int) (w : World) (h : computusref02_First.f k  = some r) :
    Calls Try.prog 53 #[] w fun e w' => e = .returned (.int .i64 r) ∧ Drawn0 w w' := by
  have H : ((computusref02_day.f k (-4718) 1 1).bind fun t179 => (some t179)) = some r := h
  clear h
  replace H := Option.bind_eq_some_iff.mp H
  obtain ⟨t179, A10, H⟩ := H
  replace H : (some t179) = some r := H
  have A1 := Aside0.mk A10
  clear A10
  obtain rfl := Option.some.inj H
  go_enter Try.func53, Try.ntmps53
  go_wp2_with (first | ((with_reducible refine gate_callee (f := 63) rfl ?_); refine goesL_ (some 1) rfl rfl Try.func63 (by kernel_rfl) rfl #[.int .i64 (-4718), .int .i64 1, .int .i64 1] rfl (by (try simp only [List.map_toArray, List.map_cons, List.map_nil]); first | done | rfl | (simp only [List.length_drop, List.length_take]; rfl)) ?_; (with_reducible refine (computusref02_day.calls k (-4718) 1 1 t179 _ A1.out).mono ?_); rintro e w' ⟨rfl, ⟨nd, rfl⟩⟩; refine ⟨_, rfl, ?_⟩))
  go_ret
  exact ⟨by first | rfl | (simp; done) | (simp [*]; done), by repeat (first | exact Drawn0.refl _ | apply Drawn0.step)⟩

/-! ### computusref02_Last: function 73 -/
def computusref02_Last.f (k : Nat)  : Option (Int) := (computusref02_day.f k 294282 12 31).bind fun t180 => (some t180)
theorem computusref02_Last.mono : ∀ k, LeO (computusref02_Last.f k ) (computusref02_Last.f (k + 1) ) := by
  intro  k
  unfold computusref02_Last.f
  repeat' first
      | (with_reducible exact computusref02_day.mono _ _ _ _)
      | (with_reducible exact LeO.refl _)
      | (with_reducible exact LeO.none _)
      | (with_reducible refine LeO.ite ?_ ?_)
      | (with_reducible refine LeO.bind ?_ (fun _ => ?_))
      | exact computusref02_day.mono _ _ _ _
      | exact LeO.none _
      | refine LeO.ite ?_ ?_
      | refine LeO.bind ?_ (fun _ => ?_)
set_option maxHeartbeats 8000000 in
set_option maxRecDepth 100000 in
theorem computusref02_Last.calls (k : Nat)  (r : Int) (w : World) (h : computusref02_Last.f k  = some r) :
    Calls Try.prog 73 #[] w fun e w' => e = .returned (.int .i64 r) ∧ Drawn0 w w' := by
  have H : ((computusref02_day.f k 294282 12 31).bind fun t180 => (some t180)) = some r := h
  clear h
  replace H := Option.bind_eq_some_iff.mp H
  obtain ⟨t180, A10, H⟩ := H
  replace H : (some t180) = some r := H
  have A1 := Aside0.mk A10
  clear A10
  obtain rfl := Option.some.inj H
  go_enter Try.func73, Try.ntmps73
  go_wp2_with (first | ((with_reducible refine gate_callee (f := 63) rfl ?_); refine goesL_ (some 1) rfl rfl Try.func63 (by kernel_rfl) rfl #[.int .i64 294282, .int .i64 12, .int .i64 31] rfl (by (try simp only [List.map_toArray, List.map_cons, List.map_nil]); first | done | rfl | (simp only [List.length_drop, List.length_take]; rfl)) ?_; (with_reducible refine (computusref02_day.calls k 294282 12 31 t180 _ A1.out).mono ?_); rintro e w' ⟨rfl, ⟨nd, rfl⟩⟩; refine ⟨_, rfl, ?_⟩))
  go_ret
  exact ⟨by first | rfl | (simp; done) | (simp [*]; done), by repeat (first | exact Drawn0.refl _ | apply Drawn0.step)⟩

/-! ### computusref02_Can: function 66 -/
def computusref02_Can.f (k : Nat) (a0 : Int) : Option (Bool) := (computusref02_First.f k).bind fun t181 => (if a0 ≥ t181 then ((computusref02_Last.f k).bind fun t182 => (some (decide (a0 ≤ t182)))) else (some false))
theorem computusref02_Can.mono : ∀ a0 k, LeO (computusref02_Can.f k a0) (computusref02_Can.f (k + 1) a0) := by
  intro a0 k
  unfold computusref02_Can.f
  repeat' first
      | (with_reducible exact computusref02_First.mono _)
      | (with_reducible exact computusref02_Last.mono _)
      | (with_reducible exact LeO.refl _)
      | (with_reducible exact LeO.none _)
      | (with_reducible refine LeO.ite ?_ ?_)
      | (with_reducible refine LeO.bind ?_ (fun _ => ?_))
      | exact computusref02_First.mono _
      | exact computusref02_Last.mono _
      | exact LeO.none _
      | refine LeO.ite ?_ ?_
      | refine LeO.bind ?_ (fun _ => ?_)
set_option maxHeartbeats 8000000 in
set_option maxRecDepth 100000 in
theorem computusref02_Can.calls (k : Nat) (a0 : Int) (r : Bool) (w : World) (h : computusref02_Can.f k a0 = some r) :
    Calls Try.prog 66 #[.int .i64 a0] w fun e w' => e = .returned (.bool r) ∧ Drawn0 w w' := by
  have H : ((computusref02_First.f k).bind fun t181 => (if a0 ≥ t181 then ((computusref02_Last.f k).bind fun t182 => (some (decide (a0 ≤ t182)))) else (some false))) = some r := h
  clear h
  replace H := Option.bind_eq_some_iff.mp H
  obtain ⟨t181, A20, H⟩ := H
  replace H : (if a0 ≥ t181 then ((computusref02_Last.f k).bind fun t182 => (some (decide (a0 ≤ t182)))) else (some false)) = some r := H
  have A2 := Aside0.mk A20
  clear A20
  by_cases c3 : a0 ≥ t181
  · rw [if_pos c3] at H
    have c3b0 : decide (t181 ≤ a0) = true := decide_eq_true c3
    clear c3
    replace H := Option.bind_eq_some_iff.mp H
    obtain ⟨t182, A40, H⟩ := H
    replace H : (some (decide (a0 ≤ t182))) = some r := H
    have A4 := Aside0.mk A40
    clear A40
    obtain rfl := Option.some.inj H
    go_enter Try.func66, Try.ntmps66
    go_wp2_with (first | ((with_reducible refine gate_callee (f := 53) rfl ?_); refine goesL_ (some 4) rfl rfl Try.func53 (by kernel_rfl) rfl #[] rfl (by (try simp only [List.map_toArray, List.map_cons, List.map_nil]); first | done | rfl | (simp only [List.length_drop, List.length_take]; rfl)) ?_; (with_reducible refine (computusref02_First.calls k  t181 _ A2.out).mono ?_); rintro e w' ⟨rfl, ⟨nd, rfl⟩⟩; refine ⟨_, rfl, ?_⟩) | (go_at_call 73; (with_reducible refine (computusref02_Last.calls k  t182 _ A4.out).mono ?_); rintro e w' ⟨rfl, ⟨nd, rfl⟩⟩))
    go_ret
    exact ⟨by first | rfl | (simp; done) | (simp [*]; done), by repeat (first | exact Drawn0.refl _ | apply Drawn0.step)⟩
  · rw [if_neg c3] at H
    have c3b0 : decide (t181 ≤ a0) = false := decide_eq_false c3
    clear c3
    obtain rfl := Option.some.inj H
    go_enter Try.func66, Try.ntmps66
    go_wp2_with (first | ((with_reducible refine gate_callee (f := 53) rfl ?_); refine goesL_ (some 4) rfl rfl Try.func53 (by kernel_rfl) rfl #[] rfl (by (try simp only [List.map_toArray, List.map_cons, List.map_nil]); first | done | rfl | (simp only [List.length_drop, List.length_take]; rfl)) ?_; (with_reducible refine (computusref02_First.calls k  t181 _ A2.out).mono ?_); rintro e w' ⟨rfl, ⟨nd, rfl⟩⟩; refine ⟨_, rfl, ?_⟩))
    go_ret
    exact ⟨by first | rfl | (simp; done) | (simp [*]; done), by repeat (first | exact Drawn0.refl _ | apply Drawn0.step)⟩

/-! ### computusref02_Date: function 54 -/
mutual
def computusref02_Date.j1 : Nat → Int → Int → Option (Int × Int × Int × Int)
  | 0, _, _ => none
  | k + 1, x6, x7 => computusref02_Date.l1 k x6 x7 1
def computusref02_Date.l1 : Nat → Int → Int → Int → Option (Int × Int × Int × Int)
  | 0, _, _, _ => none
  | k + 1, x6, x7, x9 => (computusref02_Len.f k x6 x9).bind fun t187 => (if x7 ≥ t187 then ((computusref02_Len.f k x6 x9).bind fun t188 => (computusref02_Date.l1 k x6 (wrap64 (x7 - t188)) (wrap64 (x9 + 1)))) else (some (x6, x9, wrap64 (x7 + 1), 0)))
def computusref02_Date.l0 : Nat → Int → Int → Option (Int × Int × Int × Int)
  | 0, _, _ => none
  | k + 1, x6, x7 => (computusref02_Leap.f x6).bind fun t186 => (if t186 = true then (if x7 < 366 then (computusref02_Date.j1 k x6 x7) else (computusref02_Date.l0 k (wrap64 (x6 + 1)) (wrap64 (x7 - 366)))) else (if x7 < 365 then (computusref02_Date.j1 k x6 x7) else (computusref02_Date.l0 k (wrap64 (x6 + 1)) (wrap64 (x7 - 365)))))
end
def computusref02_Date.f (k : Nat) (a0 : Int) : Option (Int × Int × Int × Int) := (computusref02_Can.f k a0).bind fun t183 => (if t183 = true then ((computusref02_div.f a0 146097).bind fun t184 => ((computusref02_mod.f a0 146097).bind fun t185 => (computusref02_Date.l0 k (wrap64 (2000 + (wrap64 (t184 * 400)))) t185))) else (some (0, 0, 0, 10)))
theorem computusref02_Date.mono_l : ∀ k, (∀ y0 y1, LeO (computusref02_Date.j1 k y0 y1) (computusref02_Date.j1 (k + 1) y0 y1)) ∧ (∀ y0 y1 y2, LeO (computusref02_Date.l1 k y0 y1 y2) (computusref02_Date.l1 (k + 1) y0 y1 y2)) ∧ (∀ y0 y1, LeO (computusref02_Date.l0 k y0 y1) (computusref02_Date.l0 (k + 1) y0 y1))
  | 0 => ⟨fun _ _ r h => by simp [computusref02_Date.j1] at h, fun _ _ _ r h => by simp [computusref02_Date.l1] at h, fun _ _ r h => by simp [computusref02_Date.l0] at h⟩
  | k + 1 => by
    obtain ⟨ih0, ih1, ih2⟩ := computusref02_Date.mono_l k
    refine ⟨?_, ?_, ?_⟩
    · intro y0 y1
      unfold computusref02_Date.j1
      repeat' first
      | (with_reducible exact ih0 _ _)
      | (with_reducible exact ih1 _ _ _)
      | (with_reducible exact ih2 _ _)
      | (with_reducible exact computusref02_Can.mono _ _)
      | (with_reducible exact computusref02_Len.mono _ _ _)
      | (with_reducible exact LeO.refl _)
      | (with_reducible exact LeO.none _)
      | (with_reducible refine LeO.ite ?_ ?_)
      | (with_reducible refine LeO.bind ?_ (fun _ => ?_))
      | exact ih0 _ _
      | exact ih1 _ _ _
      | exact ih2 _ _
      | exact computusref02_Can.mono _ _
      | exact computusref02_Len.mono _ _ _
      | exact LeO.none _
      | refine LeO.ite ?_ ?_
      | refine LeO.bind ?_ (fun _ => ?_)
    · intro y0 y1 y2
      unfold computusref02_Date.l1
      repeat' first
      | (with_reducible exact ih0 _ _)
      | (with_reducible exact ih1 _ _ _)
      | (with_reducible exact ih2 _ _)
      | (with_reducible exact computusref02_Can.mono _ _)
      | (with_reducible exact computusref02_Len.mono _ _ _)
      | (with_reducible exact LeO.refl _)
      | (with_reducible exact LeO.none _)
      | (with_reducible refine LeO.ite ?_ ?_)
      | (with_reducible refine LeO.bind ?_ (fun _ => ?_))
      | exact ih0 _ _
      | exact ih1 _ _ _
      | exact ih2 _ _
      | exact computusref02_Can.mono _ _
      | exact computusref02_Len.mono _ _ _
      | exact LeO.none _
      | refine LeO.ite ?_ ?_
      | refine LeO.bind ?_ (fun _ => ?_)
    · intro y0 y1
      unfold computusref02_Date.l0
      repeat' first
      | (with_reducible exact ih0 _ _)
      | (with_reducible exact ih1 _ _ _)
      | (with_reducible exact ih2 _ _)
      | (with_reducible exact computusref02_Can.mono _ _)
      | (with_reducible exact computusref02_Len.mono _ _ _)
      | (with_reducible exact LeO.refl _)
      | (with_reducible exact LeO.none _)
      | (with_reducible refine LeO.ite ?_ ?_)
      | (with_reducible refine LeO.bind ?_ (fun _ => ?_))
      | exact ih0 _ _
      | exact ih1 _ _ _
      | exact ih2 _ _
      | exact computusref02_Can.mono _ _
      | exact computusref02_Len.mono _ _ _
      | exact LeO.none _
      | refine LeO.ite ?_ ?_
      | refine LeO.bind ?_ (fun _ => ?_)
theorem computusref02_Date.mono : ∀ a0 k, LeO (computusref02_Date.f k a0) (computusref02_Date.f (k + 1) a0) := by
  intro a0 k
  obtain ⟨ih0, ih1, ih2⟩ := computusref02_Date.mono_l k
  unfold computusref02_Date.f
  repeat' first
      | (with_reducible exact ih0 _ _)
      | (with_reducible exact ih1 _ _ _)
      | (with_reducible exact ih2 _ _)
      | (with_reducible exact computusref02_Can.mono _ _)
      | (with_reducible exact computusref02_Len.mono _ _ _)
      | (with_reducible exact LeO.refl _)
      | (with_reducible exact LeO.none _)
      | (with_reducible refine LeO.ite ?_ ?_)
      | (with_reducible refine LeO.bind ?_ (fun _ => ?_))
      | exact ih0 _ _
      | exact ih1 _ _ _
      | exact ih2 _ _
      | exact computusref02_Can.mono _ _
      | exact computusref02_Len.mono _ _ _
      | exact LeO.none _
      | refine LeO.ite ?_ ?_
      | refine LeO.bind ?_ (fun _ => ?_)
set_option maxHeartbeats 8000000 in
set_option maxRecDepth 100000 in
theorem computusref02_Date.calls (k : Nat) (a0 : Int) (r1 : Int) (r2 : Int) (r3 : Int) (r4 : Int) (w : World) (h : computusref02_Date.f k a0 = some (r1, r2, r3, r4)) :
    Calls Try.prog 54 #[.int .i64 a0] w fun e w' => e = .returned (.tuple #[.int .i64 r1, .int .i64 r2, .int .i64 r3, .int .i64 r4]) ∧ Drawn0 w w' := by
  have H : ((computusref02_Can.f k a0).bind fun t183 => (if t183 = true then ((computusref02_div.f a0 146097).bind fun t184 => ((computusref02_mod.f a0 146097).bind fun t185 => (computusref02_Date.l0 k (wrap64 (2000 + (wrap64 (t184 * 400)))) t185))) else (some (0, 0, 0, 10)))) = some (r1, r2, r3, r4) := h
  clear h
  replace H := Option.bind_eq_some_iff.mp H
  obtain ⟨t183, A20, H⟩ := H
  replace H : (if t183 = true then ((computusref02_div.f a0 146097).bind fun t184 => ((computusref02_mod.f a0 146097).bind fun t185 => (computusref02_Date.l0 k (wrap64 (2000 + (wrap64 (t184 * 400)))) t185))) else (some (0, 0, 0, 10))) = some (r1, r2, r3, r4) := H
  have A2 := Aside0.mk A20
  clear A20
  by_cases c3 : t183 = true
  · subst c3
    have H1 : ((computusref02_div.f a0 146097).bind fun t184 => ((computusref02_mod.f a0 146097).bind fun t185 => (computusref02_Date.l0 k (wrap64 (2000 + (wrap64 (t184 * 400)))) t185))) = some (r1, r2, r3, r4) := by rw [if_pos rfl] at H; exact H
    clear H
    have H := H1
    clear H1
    replace H := Option.bind_eq_some_iff.mp H
    obtain ⟨t184, A40, H⟩ := H
    replace H : ((computusref02_mod.f a0 146097).bind fun t185 => (computusref02_Date.l0 k (wrap64 (2000 + (wrap64 (t184 * 400)))) t185)) = some (r1, r2, r3, r4) := H
    have A4 := Aside0.mk A40
    clear A40
    replace H := Option.bind_eq_some_iff.mp H
    obtain ⟨t185, A50, H⟩ := H
    replace H : (computusref02_Date.l0 k (wrap64 (2000 + (wrap64 (t184 * 400)))) t185) = some (r1, r2, r3, r4) := H
    have A5 := Aside0.mk A50
    clear A50
    have HC6 := Aside0.mk H
    clear H
    go_enter Try.func54, Try.ntmps54
    go_upto_block 0 with (first | ((with_reducible refine gate_callee (f := 66) rfl ?_); refine goesL_ (some 11) rfl rfl Try.func66 (by kernel_rfl) rfl #[.int .i64 a0] rfl (by (try simp only [List.map_toArray, List.map_cons, List.map_nil]); first | done | rfl | (simp only [List.length_drop, List.length_take]; rfl)) ?_; (with_reducible refine (computusref02_Can.calls k a0 true _ A2.out).mono ?_); rintro e w' ⟨rfl, ⟨nd, rfl⟩⟩; refine ⟨_, rfl, ?_⟩) | ((with_reducible refine gate_callee (f := 67) rfl ?_); refine goesL_ (some 14) rfl rfl Try.func67 (by kernel_rfl) rfl #[.int .i64 a0, .int .i64 146097] rfl (by (try simp only [List.map_toArray, List.map_cons, List.map_nil]); first | done | rfl | (simp only [List.length_drop, List.length_take]; rfl)) ?_; (with_reducible refine (computusref02_div.calls a0 146097 t184 _ A4.out).mono ?_); rintro e w' ⟨rfl, ⟨nd, rfl⟩⟩; refine ⟨_, rfl, ?_⟩) | ((with_reducible refine gate_callee (f := 27) rfl ?_); refine goesL_ (some 18) rfl rfl Try.func27 (by kernel_rfl) rfl #[.int .i64 a0, .int .i64 146097] rfl (by (try simp only [List.map_toArray, List.map_cons, List.map_nil]); first | done | rfl | (simp only [List.length_drop, List.length_take]; rfl)) ?_; (with_reducible refine (computusref02_mod.calls a0 146097 t185 _ A5.out).mono ?_); rintro e w' ⟨rfl, ⟨nd, rfl⟩⟩; refine ⟨_, rfl, ?_⟩))
    (try simp only [Act.put, List.setIfInBounds_toArray, List.set_cons_zero, List.set_cons_succ])
    go_cut [6, 7] (fun v6 v7 wc => ∃ (kq : Nat) (x6_5 : Int) (x7_5 : Int), v6 = .int .i64 x6_5 ∧ v7 = .int .i64 x7_5 ∧ Aside0 (computusref02_Date.j1 kq x6_5 x7_5 = some (r1, r2, r3, r4)) ∧ Aside0 (kq ≤ k) ∧ Drawn0 w wc)
    case first =>
      have H := HC6.out
      clear HC6
      have H' := Aside0.mk H
      clear H
      go_wp2
      go_loopg [6, 7] k (fun kq v6 v7 w' => ∃ (x6_1 : Int) (x7_1 : Int), v6 = .int .i64 x6_1 ∧ v7 = .int .i64 x7_1 ∧ Aside0 (computusref02_Date.l0 kq x6_1 x7_1 = some (r1, r2, r3, r4)) ∧ Aside0 (kq ≤ k) ∧ Drawn0 w w')
      case atStart => exact ⟨(wrap64 (2000 + (wrap64 (t184 * 400)))), (t185), (by first | rfl | (simp; done) | (simp [*]; done)), (by first | rfl | (simp; done) | (simp [*]; done)), H', ⟨Nat.le_refl _⟩, by repeat (first | exact Drawn0.refl _ | apply Drawn0.step)⟩
      case round =>
        clear H'
        try clear c2
        try clear p2
        try clear c3
        try clear c5
        try clear c6
        try clear p6
        obtain ⟨x6_1, x7_1, rfl, rfl, HA, HK1, ⟨m1, rfl⟩⟩ := hrel
        cases gk with
        | zero => exact absurd HA.out (by simp [computusref02_Date.l0])
        | succ k1 =>
          have H := HA.out
          clear HA
          simp only [computusref02_Date.l0] at H
          replace H := Option.bind_eq_some_iff.mp H
          obtain ⟨t186, A70, H⟩ := H
          replace H : (if t186 = true then (if x7_1 < 366 then (computusref02_Date.j1 k1 x6_1 x7_1) else (computusref02_Date.l0 k1 (wrap64 (x6_1 + 1)) (wrap64 (x7_1 - 366)))) else (if x7_1 < 365 then (computusref02_Date.j1 k1 x6_1 x7_1) else (computusref02_Date.l0 k1 (wrap64 (x6_1 + 1)) (wrap64 (x7_1 - 365))))) = some (r1, r2, r3, r4) := H
          have A7 := Aside0.mk A70
          clear A70
          by_cases c8 : t186 = true
          · subst c8
            have H1 : (if x7_1 < 366 then (computusref02_Date.j1 k1 x6_1 x7_1) else (computusref02_Date.l0 k1 (wrap64 (x6_1 + 1)) (wrap64 (x7_1 - 366)))) = some (r1, r2, r3, r4) := by rw [if_pos rfl] at H; exact H
            clear H
            have H := H1
            clear H1
            by_cases c9 : x7_1 < 366
            · rw [if_pos c9] at H
              have c9b0 : decide (x7_1 < 366) = true := decide_eq_true c9
              clear c9
              (first | rw [c9b0] | (simp only [i64_w, i32_w]; rw [c9b0]) | skip)
              have H' := Aside0.mk H
              clear H
              go_wp2_with (first | ((with_reducible refine gate_callee (f := 18) rfl ?_); refine goesL_ (some 20) rfl rfl Try.func18 (by kernel_rfl) rfl #[.int .i64 x6_1] rfl (by (try simp only [List.map_toArray, List.map_cons, List.map_nil]); first | done | rfl | (simp only [List.length_drop, List.length_take]; rfl)) ?_; (with_reducible refine (computusref02_Leap.calls x6_1 true _ A7.out).mono ?_); rintro e w' ⟨rfl, ⟨nd, rfl⟩⟩; refine ⟨_, rfl, ?_⟩))
              go_meet
              case rel => exact ⟨_, (x6_1), (x7_1), (by first | rfl | (simp; done) | (simp [*]; done)), (by first | rfl | (simp; done) | (simp [*]; done)), H', ⟨by have := HK1.out; first | omega | exact Nat.le_refl _⟩, by repeat (first | exact Drawn0.refl _ | apply Drawn0.step)⟩
            · rw [if_neg c9] at H
              have c9b0 : decide (x7_1 < 366) = false := decide_eq_false c9
              clear c9
              (first | rw [c9b0] | (simp only [i64_w, i32_w]; rw [c9b0]) | skip)
              have H' := Aside0.mk H
              clear H
              go_wp2_with (first | ((with_reducible refine gate_callee (f := 18) rfl ?_); refine goesL_ (some 20) rfl rfl Try.func18 (by kernel_rfl) rfl #[.int .i64 x6_1] rfl (by (try simp only [List.map_toArray, List.map_cons, List.map_nil]); first | done | rfl | (simp only [List.length_drop, List.length_take]; rfl)) ?_; (with_reducible refine (computusref02_Leap.calls x6_1 true _ A7.out).mono ?_); rintro e w' ⟨rfl, ⟨nd, rfl⟩⟩; refine ⟨_, rfl, ?_⟩))
              go_roundg k1
              case measure => have := HK1.out; omega
              case rel => exact ⟨(wrap64 (x6_1 + 1)), (wrap64 (x7_1 - 366)), (by first | rfl | (simp; done) | (simp [*]; done)), (by first | rfl | (simp; done) | (simp [*]; done)), H', ⟨by have := HK1.out; omega⟩, by repeat (first | exact Drawn0.refl _ | apply Drawn0.step)⟩
          · replace c8 := Bool.eq_false_iff.mpr c8
            subst c8
            have H1 : (if x7_1 < 365 then (computusref02_Date.j1 k1 x6_1 x7_1) else (computusref02_Date.l0 k1 (wrap64 (x6_1 + 1)) (wrap64 (x7_1 - 365)))) = some (r1, r2, r3, r4) := by rw [if_neg (show ¬ (false = true) by decide)] at H; exact H
            clear H
            have H := H1
            clear H1
            by_cases c10 : x7_1 < 365
            · rw [if_pos c10] at H
              have c10b0 : decide (x7_1 < 365) = true := decide_eq_true c10
              clear c10
              have H' := Aside0.mk H
              clear H
              go_wp2_with (first | ((with_reducible refine gate_callee (f := 18) rfl ?_); refine goesL_ (some 20) rfl rfl Try.func18 (by kernel_rfl) rfl #[.int .i64 x6_1] rfl (by (try simp only [List.map_toArray, List.map_cons, List.map_nil]); first | done | rfl | (simp only [List.length_drop, List.length_take]; rfl)) ?_; (with_reducible refine (computusref02_Leap.calls x6_1 false _ A7.out).mono ?_); rintro e w' ⟨rfl, ⟨nd, rfl⟩⟩; refine ⟨_, rfl, ?_⟩))
              go_meet
              case rel => exact ⟨_, (x6_1), (x7_1), (by first | rfl | (simp; done) | (simp [*]; done)), (by first | rfl | (simp; done) | (simp [*]; done)), H', ⟨by have := HK1.out; first | omega | exact Nat.le_refl _⟩, by repeat (first | exact Drawn0.refl _ | apply Drawn0.step)⟩
            · rw [if_neg c10] at H
              have c10b0 : decide (x7_1 < 365) = false := decide_eq_false c10
              clear c10
              have H' := Aside0.mk H
              clear H
              go_wp2_with (first | ((with_reducible refine gate_callee (f := 18) rfl ?_); refine goesL_ (some 20) rfl rfl Try.func18 (by kernel_rfl) rfl #[.int .i64 x6_1] rfl (by (try simp only [List.map_toArray, List.map_cons, List.map_nil]); first | done | rfl | (simp only [List.length_drop, List.length_take]; rfl)) ?_; (with_reducible refine (computusref02_Leap.calls x6_1 false _ A7.out).mono ?_); rintro e w' ⟨rfl, ⟨nd, rfl⟩⟩; refine ⟨_, rfl, ?_⟩))
              go_roundg k1
              case measure => have := HK1.out; omega
              case rel => exact ⟨(wrap64 (x6_1 + 1)), (wrap64 (x7_1 - 365)), (by first | rfl | (simp; done) | (simp [*]; done)), (by first | rfl | (simp; done) | (simp [*]; done)), H', ⟨by have := HK1.out; omega⟩, by repeat (first | exact Drawn0.refl _ | apply Drawn0.step)⟩
    case rest =>
      clear HC6
      try clear c1
      try clear c2
      try clear p2
      try clear c3
      try clear c5
      try clear c6
      try clear p6
      try clear c8
      try clear c9
      try clear c9b0
      try clear c10
      try clear c10b0
      try clear p2
      try clear p6
      obtain ⟨kq, x6_5, x7_5, rfl, rfl, HA, HJ5, ⟨mc5, rfl⟩⟩ := hcut
      cases kq with
      | zero => exact absurd HA.out (by simp [computusref02_Date.j1])
      | succ kj5 =>
        have H := HA.out
        clear HA
        simp only [computusref02_Date.j1] at H
        have H' := Aside0.mk H
        clear H
        go_wp2
        go_loopg [7, 9] kj5 (fun kq v7 v9 w' => ∃ (x7_2 : Int) (x9_2 : Int), v7 = .int .i64 x7_2 ∧ v9 = .int .i64 x9_2 ∧ Aside0 (computusref02_Date.l1 kq x6_5 x7_2 x9_2 = some (r1, r2, r3, r4)) ∧ Aside0 (kq ≤ kj5) ∧ Drawn0 w w')
        case atStart => exact ⟨(x7_5), (1), (by first | rfl | (simp; done) | (simp [*]; done)), (by first | rfl | (simp; done) | (simp [*]; done)), H', ⟨Nat.le_refl _⟩, by repeat (first | exact Drawn0.refl _ | apply Drawn0.step)⟩
        case round =>
          clear H'
          try clear c1
          try clear c2
          try clear p2
          try clear c3
          try clear c5
          try clear c6
          try clear p6
          try clear c8
          try clear c9
          try clear c9b0
          try clear c10
          try clear c10b0
          try clear p2
          try clear p6
          obtain ⟨x7_2, x9_2, rfl, rfl, HA, HK2, ⟨m2, rfl⟩⟩ := hrel
          cases gk with
          | zero => exact absurd HA.out (by simp [computusref02_Date.l1])
          | succ k2 =>
            have H := HA.out
            clear HA
            simp only [computusref02_Date.l1] at H
            replace H := Option.bind_eq_some_iff.mp H
            obtain ⟨t187, A110, H⟩ := H
            replace H : (if x7_2 ≥ t187 then ((computusref02_Len.f k2 x6_5 x9_2).bind fun t188 => (computusref02_Date.l1 k2 x6_5 (wrap64 (x7_2 - t188)) (wrap64 (x9_2 + 1)))) else (some (x6_5, x9_2, wrap64 (x7_2 + 1), 0))) = some (r1, r2, r3, r4) := H
            have A11 := Aside0.mk A110
            clear A110
            by_cases c12 : x7_2 ≥ t187
            · rw [if_pos c12] at H
              have c12b0 : decide (t187 ≤ x7_2) = true := decide_eq_true c12
              clear c12
              replace H := Option.bind_eq_some_iff.mp H
              obtain ⟨t188, A130, H⟩ := H
              replace H : (computusref02_Date.l1 k2 x6_5 (wrap64 (x7_2 - t188)) (wrap64 (x9_2 + 1))) = some (r1, r2, r3, r4) := H
              have A13 := Aside0.mk A130
              clear A130
              have H' := Aside0.mk H
              clear H
              go_wp2_with (first | ((with_reducible refine gate_callee (f := 47) rfl ?_); refine goesL_ (some 32) rfl rfl Try.func47 (by kernel_rfl) rfl #[.int .i64 x6_5, .int .i64 x9_2] rfl (by (try simp only [List.map_toArray, List.map_cons, List.map_nil]); first | done | rfl | (simp only [List.length_drop, List.length_take]; rfl)) ?_; (with_reducible refine (computusref02_Len.calls k2 x6_5 x9_2 t187 _ A11.out).mono ?_); rintro e w' ⟨rfl, ⟨nd, rfl⟩⟩; refine ⟨_, rfl, ?_⟩) | ((with_reducible refine gate_callee (f := 47) rfl ?_); refine goesL_ (some 37) rfl rfl Try.func47 (by kernel_rfl) rfl #[.int .i64 x6_5, .int .i64 x9_2] rfl (by (try simp only [List.map_toArray, List.map_cons, List.map_nil]); first | done | rfl | (simp only [List.length_drop, List.length_take]; rfl)) ?_; (with_reducible refine (computusref02_Len.calls k2 x6_5 x9_2 t188 _ A13.out).mono ?_); rintro e w' ⟨rfl, ⟨nd, rfl⟩⟩; refine ⟨_, rfl, ?_⟩))
              go_roundg k2
              case measure => have := HJ5.out; have := HK2.out; omega
              case rel => exact ⟨(wrap64 (x7_2 - t188)), (wrap64 (x9_2 + 1)), (by first | rfl | (simp; done) | (simp [*]; done)), (by first | rfl | (simp; done) | (simp [*]; done)), H', ⟨by have := HJ5.out; have := HK2.out; omega⟩, by repeat (first | exact Drawn0.refl _ | apply Drawn0.step)⟩
            · rw [if_neg c12] at H
              have c12b0 : decide (t187 ≤ x7_2) = false := decide_eq_false c12
              clear c12
              simp only [Option.some.injEq, Prod.mk.injEq] at H
              obtain ⟨rfl, rfl, rfl, rfl⟩ := H
              go_wp2_with (first | ((with_reducible refine gate_callee (f := 47) rfl ?_); refine goesL_ (some 32) rfl rfl Try.func47 (by kernel_rfl) rfl #[.int .i64 x6_5, .int .i64 x9_2] rfl (by (try simp only [List.map_toArray, List.map_cons, List.map_nil]); first | done | rfl | (simp only [List.length_drop, List.length_take]; rfl)) ?_; (with_reducible refine (computusref02_Len.calls k2 x6_5 x9_2 t187 _ A11.out).mono ?_); rintro e w' ⟨rfl, ⟨nd, rfl⟩⟩; refine ⟨_, rfl, ?_⟩))
              refine bodyPost_ret (results_list (rs := [.tmp 2, .tmp 3, .tmp 4, .tmp 5]) rfl (by simp) (.tmp (.tmp (.tmp (.tmp .nil))))) rfl ?_
              exact ⟨by first | rfl | (simp; done) | (simp [*]; done), by repeat (first | exact Drawn0.refl _ | apply Drawn0.step)⟩
  · replace c3 := Bool.eq_false_iff.mpr c3
    subst c3
    have H1 : (some (0, 0, 0, 10)) = some (r1, r2, r3, r4) := by rw [if_neg (show ¬ (false = true) by decide)] at H; exact H
    clear H
    have H := H1
    clear H1
    simp only [Option.some.injEq, Prod.mk.injEq] at H
    obtain ⟨rfl, rfl, rfl, rfl⟩ := H
    go_enter Try.func54, Try.ntmps54
    go_wp2_with (first | ((with_reducible refine gate_callee (f := 66) rfl ?_); refine goesL_ (some 11) rfl rfl Try.func66 (by kernel_rfl) rfl #[.int .i64 a0] rfl (by (try simp only [List.map_toArray, List.map_cons, List.map_nil]); first | done | rfl | (simp only [List.length_drop, List.length_take]; rfl)) ?_; (with_reducible refine (computusref02_Can.calls k a0 false _ A2.out).mono ?_); rintro e w' ⟨rfl, ⟨nd, rfl⟩⟩; refine ⟨_, rfl, ?_⟩))
    refine bodyPost_ret (results_list (rs := [.tmp 2, .tmp 3, .tmp 4, .tmp 5]) rfl (by simp) (.tmp (.tmp (.tmp (.tmp .nil))))) rfl ?_
    exact ⟨by first | rfl | (simp; done) | (simp [*]; done), by repeat (first | exact Drawn0.refl _ | apply Drawn0.step)⟩

end Go.Proofs.Ytehoammeaimobaa.D
