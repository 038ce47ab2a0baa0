-- Laid by wip/tools/handprint.py of this session (a patched run of the kit's print program); not by hand. Not trusted: Lean checks it.
import Derived.Test.YtehoammeaimobaaDx0
import Derived.Test.YtehoammeaimobaaDx12
namespace Go.Proofs.Ytehoammeaimobaa.D
open Go.RowKit Go.Proofs.YtehoammeaimobaaW.PrintWords Go.Proofs.YtehoammeaimobaaW.PrintLast Go.Proofs.YtehoammeaimobaaW.PrintMore
attribute [local go_sem] max2_int min2_int max_two min_two max_three min_three max_four min_four   -- for this text's walks alone
set_option linter.unusedVariables false
set_option linter.unusedSimpArgs false

/-! ### computusref09_YearAt: function 37 -/
def computusref09_YearAt.j0 : Nat → Int → Option (Int)
  | 0, _ => none
  | k + 1, x3 => (computusref02_First.f k).bind fun t189 => (if (wrap64 (x3 - 10957)) < t189 then (some (-4718)) else ((computusref02_Date.f k (wrap64 (x3 - 10957))).bind fun bt190 => (if bt190.2.2.2 = 0 then (some bt190.1) else (some 294282))))
def computusref09_YearAt.f (k : Nat) (a0 : Int) : Option (Int) := if (Int.tmod a0 86400) < 0 then (computusref09_YearAt.j0 k (wrap64 ((wrap64 (Int.tdiv a0 86400)) - 1))) else (computusref09_YearAt.j0 k (wrap64 (Int.tdiv a0 86400)))
theorem computusref09_YearAt.mono_l : ∀ k, (∀ y0, LeO (computusref09_YearAt.j0 k y0) (computusref09_YearAt.j0 (k + 1) y0))
  | 0 => fun _ r h => by simp [computusref09_YearAt.j0] at h
  | k + 1 => by
    have ih0 := computusref09_YearAt.mono_l k
    · intro y0
      unfold computusref09_YearAt.j0
      repeat' first
      | (with_reducible exact ih0 _)
      | (with_reducible exact computusref02_Date.mono _ _)
      | (with_reducible exact computusref02_First.mono _)
      | (with_reducible exact LeO.refl _)
      | (with_reducible exact LeO.none _)
      | (with_reducible refine LeO.ite ?_ ?_)
      | (with_reducible refine LeO.bind ?_ (fun _ => ?_))
      | exact ih0 _
      | exact computusref02_Date.mono _ _
      | exact computusref02_First.mono _
      | exact LeO.none _
      | refine LeO.ite ?_ ?_
      | refine LeO.bind ?_ (fun _ => ?_)
theorem computusref09_YearAt.mono : ∀ a0 k, LeO (computusref09_YearAt.f k a0) (computusref09_YearAt.f (k + 1) a0) := by
  intro a0 k
  have ih0 := computusref09_YearAt.mono_l k
  unfold computusref09_YearAt.f
  repeat' first
      | (with_reducible exact ih0 _)
      | (with_reducible exact computusref02_Date.mono _ _)
      | (with_reducible exact computusref02_First.mono _)
      | (with_reducible exact LeO.refl _)
      | (with_reducible exact LeO.none _)
      | (with_reducible refine LeO.ite ?_ ?_)
      | (with_reducible refine LeO.bind ?_ (fun _ => ?_))
      | exact ih0 _
      | exact computusref02_Date.mono _ _
      | exact computusref02_First.mono _
      | exact LeO.none _
      | refine LeO.ite ?_ ?_
      | refine LeO.bind ?_ (fun _ => ?_)
set_option maxHeartbeats 8000000 in
set_option maxRecDepth 100000 in
theorem computusref09_YearAt.calls (k : Nat) (a0 : Int) (r : Int) (w : World) (h : computusref09_YearAt.f k a0 = some r) :
    Calls Try.prog 37 #[.int .i64 a0] w fun e w' => e = .returned (.int .i64 r) ∧ Drawn0 w w' := by
  have H : (if (Int.tmod a0 86400) < 0 then (computusref09_YearAt.j0 k (wrap64 ((wrap64 (Int.tdiv a0 86400)) - 1))) else (computusref09_YearAt.j0 k (wrap64 (Int.tdiv a0 86400)))) = some r := h
  clear h
  have HC2 := Aside0.mk H
  clear H
  go_enter Try.func37, Try.ntmps37
  go_upto_if 12 with (fail)
  go_cut [3] (fun v3 wc => ∃ (kq : Nat) (x3_1 : Int), v3 = .int .i64 x3_1 ∧ Aside0 (computusref09_YearAt.j0 kq x3_1 = some r) ∧ Aside0 (kq ≤ k) ∧ Drawn0 w wc)
  case first =>
    have H := HC2.out
    clear HC2
    by_cases c3 : (Int.tmod a0 86400) < 0
    · rw [if_pos c3] at H
      have c3b0 : decide ((Int.tmod a0 86400) < 0) = true := decide_eq_true c3
      clear c3
      (first | rw [c3b0] | (simp only [i64_w, i32_w]; rw [c3b0]) | skip)
      have H' := Aside0.mk H
      clear H
      go_wp2
      go_meet
      case rel => exact ⟨_, (wrap64 ((wrap64 (Int.tdiv a0 86400)) - 1)), (by first | rfl | (simp; done) | (simp [*]; done)), H', ⟨by first | omega | exact Nat.le_refl _⟩, by repeat (first | exact Drawn0.refl _ | apply Drawn0.step)⟩
    · rw [if_neg c3] at H
      have c3b0 : decide ((Int.tmod a0 86400) < 0) = false := decide_eq_false c3
      clear c3
      (first | rw [c3b0] | (simp only [i64_w, i32_w]; rw [c3b0]) | skip)
      have H' := Aside0.mk H
      clear H
      go_wp2
      go_meet
      case rel => exact ⟨_, (wrap64 (Int.tdiv a0 86400)), (by first | rfl | (simp; done) | (simp [*]; done)), H', ⟨by first | omega | exact Nat.le_refl _⟩, by repeat (first | exact Drawn0.refl _ | apply Drawn0.step)⟩
  case rest =>
    clear HC2
    try clear p2
    try clear c3
    try clear c3b0
    obtain ⟨kq, x3_1, rfl, HA, HJ1, ⟨mc1, rfl⟩⟩ := hcut
    cases kq with
    | zero => exact absurd HA.out (by simp [computusref09_YearAt.j0])
    | succ kj1 =>
      have H := HA.out
      clear HA
      simp only [computusref09_YearAt.j0] at H
      replace H := Option.bind_eq_some_iff.mp H
      obtain ⟨t189, A40, H⟩ := H
      replace H : (if (wrap64 (x3_1 - 10957)) < t189 then (some (-4718)) else ((computusref02_Date.f kj1 (wrap64 (x3_1 - 10957))).bind fun bt190 => (if bt190.2.2.2 = 0 then (some bt190.1) else (some 294282)))) = some r := H
      have A4 := Aside0.mk A40
      clear A40
      by_cases c5 : (wrap64 (x3_1 - 10957)) < t189
      · rw [if_pos c5] at H
        have c5b0 : decide ((wrap64 (x3_1 - 10957)) < t189) = true := decide_eq_true c5
        clear c5
        obtain rfl := Option.some.inj H
        go_wp2_with (first | ((with_reducible refine gate_callee (f := 53) rfl ?_); refine goesL_ (some 18) rfl rfl Try.func53 (by kernel_rfl) rfl #[] rfl (by (try simp only [List.map_toArray, List.map_cons, List.map_nil]); first | done | rfl | (simp only [List.length_drop, List.length_take]; rfl)) ?_; (with_reducible refine (computusref02_First.calls kj1  t189 _ A4.out).mono ?_); rintro e w' ⟨rfl, ⟨nd, rfl⟩⟩; refine ⟨_, rfl, ?_⟩))
        go_ret
        exact ⟨by first | rfl | (simp; done) | (simp [*]; done), by repeat (first | exact Drawn0.refl _ | apply Drawn0.step)⟩
      · rw [if_neg c5] at H
        have c5b0 : decide ((wrap64 (x3_1 - 10957)) < t189) = false := decide_eq_false c5
        clear c5
        replace H := Option.bind_eq_some_iff.mp H
        obtain ⟨⟨t190, t191, t192, t193⟩, A60, H⟩ := H
        replace H : (if t193 = 0 then (some t190) else (some 294282)) = some r := H
        have A6 := Aside0.mk A60
        clear A60
        by_cases c7 : t193 = 0
        · rw [if_pos c7] at H
          have c7b0 : (t193 == 0) = true := beq_iff_eq.mpr c7
          have c7b1 : (t193 != 0) = false := bne_eq_false_iff_eq.mpr c7
          clear c7
          obtain rfl := Option.some.inj H
          go_wp2_with (first | ((with_reducible refine gate_callee (f := 53) rfl ?_); refine goesL_ (some 18) rfl rfl Try.func53 (by kernel_rfl) rfl #[] rfl (by (try simp only [List.map_toArray, List.map_cons, List.map_nil]); first | done | rfl | (simp only [List.length_drop, List.length_take]; rfl)) ?_; (with_reducible refine (computusref02_First.calls kj1  t189 _ A4.out).mono ?_); rintro e w' ⟨rfl, ⟨nd, rfl⟩⟩; refine ⟨_, rfl, ?_⟩) | ((with_reducible refine gate_callee (f := 54) rfl ?_); refine goesL_ (some 22) rfl rfl Try.func54 (by kernel_rfl) rfl #[.int .i64 (wrap64 (x3_1 - 10957))] rfl (by (try simp only [List.map_toArray, List.map_cons, List.map_nil]); first | done | rfl | (simp only [List.length_drop, List.length_take]; rfl)) ?_; (with_reducible refine (computusref02_Date.calls kj1 (wrap64 (x3_1 - 10957)) t190 t191 t192 t193 _ A6.out).mono ?_); rintro e w' ⟨rfl, ⟨nd, rfl⟩⟩; refine ⟨_, rfl, ?_⟩))
          go_ret
          exact ⟨by first | rfl | (simp; done) | (simp [*]; done), by repeat (first | exact Drawn0.refl _ | apply Drawn0.step)⟩
        · rw [if_neg c7] at H
          have c7b0 : (t193 == 0) = false := beq_eq_false_iff_ne.mpr c7
          have c7b1 : (t193 != 0) = true := bne_iff_ne.mpr c7
          obtain rfl := Option.some.inj H
          go_wp2_with (first | ((with_reducible refine gate_callee (f := 53) rfl ?_); refine goesL_ (some 18) rfl rfl Try.func53 (by kernel_rfl) rfl #[] rfl (by (try simp only [List.map_toArray, List.map_cons, List.map_nil]); first | done | rfl | (simp only [List.length_drop, List.length_take]; rfl)) ?_; (with_reducible refine (computusref02_First.calls kj1  t189 _ A4.out).mono ?_); rintro e w' ⟨rfl, ⟨nd, rfl⟩⟩; refine ⟨_, rfl, ?_⟩) | ((with_reducible refine gate_callee (f := 54) rfl ?_); refine goesL_ (some 22) rfl rfl Try.func54 (by kernel_rfl) rfl #[.int .i64 (wrap64 (x3_1 - 10957))] rfl (by (try simp only [List.map_toArray, List.map_cons, List.map_nil]); first | done | rfl | (simp only [List.length_drop, List.length_take]; rfl)) ?_; (with_reducible refine (computusref02_Date.calls kj1 (wrap64 (x3_1 - 10957)) t190 t191 t192 t193 _ A6.out).mono ?_); rintro e w' ⟨rfl, ⟨nd, rfl⟩⟩; refine ⟨_, rfl, ?_⟩))
          go_ret
          exact ⟨by first | rfl | (simp; done) | (simp [*]; done), by repeat (first | exact Drawn0.refl _ | apply Drawn0.step)⟩

-- NOT PRINTED: function 26 (computusref11_near)

-- NOT PRINTED: function 15 (computusref11_At)

-- NOT PRINTED: function 17 (computusref11_Next)

-- NOT PRINTED: function 4 (computuslaw11_FootStands)

-- NOT PRINTED: function 5 (computuslaw11_FootGoes)

-- NOT PRINTED: function 6 (computuslaw11_FootAgain)

-- NOT PRINTED: function 7 (computuslaw11_FootOrder)

-- NOT PRINTED: function 8 (computuslaw11_FootSave)

end Go.Proofs.Ytehoammeaimobaa.D
