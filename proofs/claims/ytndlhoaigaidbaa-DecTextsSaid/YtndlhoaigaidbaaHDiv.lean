/- Hand contracts of math/bits.Div64 with nothing in the upper half, num.Scale by 1, num.Div. -/
import Derived.Test.YtndlhoaigaidbaaHNum
import Derived.Laws.Externs
namespace Go.Proofs.Ytndlhoaigaidbaa.D
open Go.RowKit Go.Proofs.YtndlhoaigaidbaaW.PrintWords Go.Proofs.YtndlhoaigaidbaaW.PrintLast Go.Proofs.YtndlhoaigaidbaaW.PrintMore

set_option maxRecDepth 100000 in
theorem div64_0 (lo y : Int) (w : World) (h0 : 0 ≤ lo) (h1 : lo < 18446744073709551616) (hy0 : 0 < y) (hy1 : y < 18446744073709551616) :
    Calls Try.prog 40 #[.int .u64 0, .int .u64 lo, .int .u64 y] w fun e w' => e = .returned (.tuple #[.int .u64 (lo / y), .int .u64 (lo % y)]) ∧ Drawn0 w w' := by
  have e1 : (y == 0) = false := by simp; omega
  have e2 : ¬ y = 0 := by omega
  have e3 : ¬ y ≤ 0 := by omega
  go_enter Try.func40, Try.ntmps40
  go_wp2
  go_quiet (fail)
  go_wp2
  go_ret2
  exact ⟨rfl, Drawn0.step (Drawn0.refl _) _⟩

theorem add64_run (x y c : Int) (hx : 0 ≤ x) (hy : 0 ≤ y) (hc0 : 0 ≤ c) (hc : c ≤ 1) (w : World) :
    (callFunc 41 #[.int .u64 x, .int .u64 y, .int .u64 c]).run Try.prog w = .ok (.value (.tuple #[.int .u64 ((x + y + c) % 18446744073709551616), .int .u64 ((x + y + c) / 18446744073709551616)])) w := by
  rw [run_callFunc_extern Try.func41 (by kernel_rfl) (by kernel_rfl) (by kernel_rfl) (e := add64Entry) (by kernel_rfl), run_add64 x y c hx hy hc0 hc]
  rfl
/-- num.Scale by 1: the quotient, the greatest whole number that is not above. -/
theorem num_Scale1 (a c : Int) (w : World) (x y z : Bool) (s0 s2 : Int) (hx : decide (a < 0) = x) (hy : decide (c < 0) = y) (h0 : num_size.f a = some s0) (h2 : num_size.f c = some s2)
    (b0 : s0 < 9223372036854775809) (b2 : s2 < 18446744073709551616) (ha0 : 0 ≤ s0) (hc0 : 0 < s2) (hz : (s0 % s2 == 0) = z) (hc : (c == 0) = false) :
    Calls Try.prog 39 #[.int .i64 a, .int .i64 1, .int .i64 c] w fun e w' => e = .returned (.tuple #[.int .i64 (sgn (x != y) 0 (if ((x != y) && !z) = true then s0 / s2 + 1 else s0 / s2)).1, .int .i64 (sgn (x != y) 0 (if ((x != y) && !z) = true then s0 / s2 + 1 else s0 / s2)).2]) ∧ Below w.heap.size w w' := by
  have hs1 : num_size.f 1 = some 1 := size_f 1 ⟨by decide, by decide⟩
  have hm := mul64_f s0 1 (by omega) (by omega) (by omega) (by decide)
  rw [Int.mul_one, show s0 / 18446744073709551616 = 0 by omega, show s0 % 18446744073709551616 = s0 by omega] at hm
  have hq0 : 0 ≤ s0 / s2 := Int.ediv_nonneg ha0 (by omega)
  have hq1 : s0 / s2 < 9223372036854775809 := by have := Int.ediv_le_self s2 ha0; omega
  have hadd := fun w => add64_run (s0 / s2) 1 0 hq0 (by decide) (by decide) (by decide) w
  rw [show s0 / s2 + 1 + 0 = s0 / s2 + 1 by omega, show (s0 / s2 + 1) % 18446744073709551616 = s0 / s2 + 1 by omega, show (s0 / s2 + 1) / 18446744073709551616 = 0 by omega] at hadd
  generalize hq : s0 / s2 = q at *
  generalize hr : s0 % s2 = r at *
  have b0' : s0 < 18446744073709551616 := by omega
  have HS0 := Aside0.mk h0
  have HS1 := Aside0.mk hs1
  have HS2 := Aside0.mk h2
  have HM := Aside0.mk hm
  have HD := Aside0.mk (fun w => div64_0 s0 s2 w ha0 b0' hc0 b2)
  rw [hq, hr] at HD
  have hc1 : ¬ s2 ≤ 0 := by omega
  clear h0 hs1 h2 hm hq hr
  cases x <;> cases y <;> cases z
  all_goals
    simp only [bne_self_eq_false, Bool.and_true, Bool.and_false, Bool.not_true, Bool.not_false, Bool.true_bne, Bool.false_bne, if_true, Bool.false_eq_true, if_false]
    go_enter Try.func39, Try.ntmps39
    go_wp2_with (fail)
    refine (num_product.calls a 1 s0 1 0 s0 _ HS0.out HS1.out HM.out).mono ?_
    rintro e w1 ⟨rfl, hb1⟩
    go_wp2_with (fail)
    refine (num_size.calls c s2 _ HS2.out).mono ?_
    rintro e w2 ⟨rfl, hd2⟩
    have HB2 := Aside0.mk (below_then hb1 hb1.size hd2.below)
    clear hb1 hd2
    go_wp2_with (fail)
    refine (HD.out _).mono ?_
    rintro e w3 ⟨rfl, hd3⟩
    have HB3 := Aside0.mk (below_then (below_alloc HB2.out _) (below_alloc HB2.out _).size hd3.below)
    clear hd3
    go_wp2_with (fail)
    refine (num_signed.calls _ 0 _ _ (by omega) (by omega) (by decide) (by decide)).mono ?_
    rintro e w4 ⟨rfl, hb4⟩
    go_wp2
    go_ret2
    exact ⟨rfl, below_then HB3.out HB3.out.size hb4⟩

/-- num.Div: the greatest whole number that is not above. -/
def num_Div.f (a0 a1 : Int) : Option (Int × Int) := if inI64 a0 then (if inI64 a1 then some (if a1 = 0 then (0, 11) else if inI64 (a0.fdiv a1) then (a0.fdiv a1, 0) else (0, 10)) else none) else none

theorem fdiv_sgn (a c : Int) (ha : inI64 a) (hc : inI64 c) (hz : c ≠ 0) :
    sgn (decide (a < 0) != decide (c < 0)) 0 (if ((decide (a < 0) != decide (c < 0)) && !((a.natAbs : Int) % c.natAbs == 0)) = true then (a.natAbs : Int) / c.natAbs + 1 else (a.natAbs : Int) / c.natAbs) =
      if inI64 (a.fdiv c) then (a.fdiv c, 0) else (0, 10) := by
  obtain ⟨a1, a2⟩ := ha
  obtain ⟨c1, c2⟩ := hc
  have key : ∀ n d : Nat, 0 < d → (-(n : Int)).fdiv (d : Int) = -((if ((n : Int) % d == 0) then (n : Int) / d else (n : Int) / d + 1)) := by
    intro n d hd
    rw [Int.fdiv_eq_ediv_of_nonneg _ (by omega)]
    have hd' : (0 : Int) < d := by omega
    have e := Int.mul_ediv_add_emod (n : Int) d
    have e3 := Int.emod_nonneg (n : Int) (show (d : Int) ≠ 0 by omega)
    have e4 := Int.emod_lt_of_pos (n : Int) hd'
    by_cases hr : (n : Int) % d = 0
    · simp only [hr, beq_self_eq_true, if_true]
      rw [Int.ediv_eq_iff_of_pos hd']
      have : (d : Int) * ((n : Int) / d) = n := by omega
      rw [Int.neg_mul, Int.mul_comm ((n : Int) / d) d]
      omega
    · have hb : ((n : Int) % d == 0) = false := by simpa using hr
      rw [hb]
      simp only [Bool.false_eq_true, if_false]
      rw [Int.ediv_eq_iff_of_pos hd', Int.neg_mul, Int.add_mul, Int.one_mul, Int.mul_comm ((n : Int) / d) d]
      omega
  have pos : ∀ q : Int, 0 ≤ q → q ≤ 9223372036854775808 → sgn false 0 q = if inI64 q then (q, 0) else (0, 10) := by
    intro q h0 h1
    unfold sgn
    rw [if_pos rfl, if_neg (by decide)]
    by_cases c : q ≤ 9223372036854775807
    · rw [if_pos c, if_pos (show inI64 q from ⟨by omega, c⟩)]
    · rw [if_neg c, if_neg (show ¬ inI64 q from fun h => by obtain ⟨h1, h2⟩ := h; omega)]
  have neg : ∀ q : Int, 0 ≤ q → q ≤ 9223372036854775808 → sgn true 0 q = if inI64 (-q) then (-q, 0) else (0, 10) := by
    intro q h0 h1
    unfold sgn
    rw [if_pos rfl, if_pos rfl, if_pos h1, if_pos (show inI64 (-q) from ⟨by omega, by omega⟩)]
  have dle : ∀ n d : Nat, 0 < d → n ≤ 9223372036854775808 → 0 ≤ (n : Int) / d ∧ (n : Int) / d ≤ 9223372036854775808 := fun n d hd hn =>
    ⟨Int.ediv_nonneg (by omega) (by omega), Int.le_trans (Int.ediv_le_self (d : Int) (by omega : (0 : Int) ≤ n)) (by omega)⟩
  have dlt : ∀ n d : Nat, 0 < d → n ≤ 9223372036854775808 → ¬ (n : Int) % d = 0 → (n : Int) / d + 1 ≤ 9223372036854775808 := by
    intro n d hd hn hr
    have e := Int.mul_ediv_add_emod (n : Int) d
    have e3 := Int.emod_nonneg (n : Int) (show (d : Int) ≠ 0 by omega)
    have h1 := (dle n d hd hn).1
    have e5 : (n : Int) / d ≤ d * ((n : Int) / d) := by
      have := Int.mul_le_mul_of_nonneg_right (show (1 : Int) ≤ d by omega) h1
      rwa [Int.one_mul] at this
    omega
  have both : ∀ n d : Nat, 0 < d → n ≤ 9223372036854775808 →
      sgn true 0 (if (true && !((n : Int) % d == 0)) = true then (n : Int) / d + 1 else (n : Int) / d) = if inI64 ((-(n : Int)).fdiv d) then ((-(n : Int)).fdiv d, 0) else (0, 10) := by
    intro n d hd hn
    rw [key n d hd]
    obtain ⟨h1, h2⟩ := dle n d hd hn
    by_cases hr : (n : Int) % d = 0
    · simp only [hr, beq_self_eq_true, if_true, Bool.not_true, Bool.and_false, Bool.false_eq_true, if_false]
      exact neg _ h1 h2
    · have hb : ((n : Int) % d == 0) = false := by simpa using hr
      simp only [hb, Bool.not_false, Bool.and_true, if_true, Bool.false_eq_true, if_false]
      exact neg _ (by omega) (dlt n d hd hn hr)
  by_cases ha : a < 0 <;> by_cases hc : c < 0
  · obtain ⟨n, rfl⟩ : ∃ n : Nat, a = -(n : Int) := ⟨a.natAbs, by omega⟩
    obtain ⟨d, rfl⟩ : ∃ d : Nat, c = -(d : Int) := ⟨c.natAbs, by omega⟩
    have hd : 0 < d := by omega
    rw [Int.neg_fdiv_neg, Int.fdiv_eq_ediv_of_nonneg _ (by omega)]
    simp only [ha, hc, decide_true, bne_self_eq_false, Bool.false_and, Bool.false_eq_true, if_false, Int.natAbs_neg, Int.natAbs_natCast]
    obtain ⟨h1, h2⟩ := dle n d hd (by omega)
    exact pos _ h1 h2
  · obtain ⟨n, rfl⟩ : ∃ n : Nat, a = -(n : Int) := ⟨a.natAbs, by omega⟩
    obtain ⟨d, rfl⟩ : ∃ d : Nat, c = (d : Int) := ⟨c.natAbs, by omega⟩
    have h := both n d (by omega) (by omega)
    simp only [ha, hc, decide_true, decide_false, Bool.bne_false, Int.natAbs_neg, Int.natAbs_natCast]
    exact h
  · obtain ⟨n, rfl⟩ : ∃ n : Nat, a = (n : Int) := ⟨a.natAbs, by omega⟩
    obtain ⟨d, rfl⟩ : ∃ d : Nat, c = -(d : Int) := ⟨c.natAbs, by omega⟩
    have h := both n d (by omega) (by omega)
    have e : (n : Int).fdiv (-(d : Int)) = (-(n : Int)).fdiv d := by rw [← Int.neg_fdiv_neg, Int.neg_neg]
    rw [e]
    simp only [ha, hc, decide_true, decide_false, Bool.false_bne, Int.natAbs_neg, Int.natAbs_natCast]
    exact h
  · obtain ⟨n, rfl⟩ : ∃ n : Nat, a = (n : Int) := ⟨a.natAbs, by omega⟩
    obtain ⟨d, rfl⟩ : ∃ d : Nat, c = (d : Int) := ⟨c.natAbs, by omega⟩
    have hd : 0 < d := by omega
    rw [Int.fdiv_eq_ediv_of_nonneg _ (by omega)]
    simp only [ha, hc, decide_false, bne_self_eq_false, Bool.false_and, Bool.false_eq_true, if_false, Int.natAbs_natCast]
    obtain ⟨h1, h2⟩ := dle n d hd (by omega)
    exact pos _ h1 h2

theorem num_Div.calls (a0 a1 r1 r2 : Int) (w : World) (h : num_Div.f a0 a1 = some (r1, r2)) :
    Calls Try.prog 37 #[.int .i64 a0, .int .i64 a1] w fun e w' => e = .returned (.tuple #[.int .i64 r1, .int .i64 r2]) ∧ Below w.heap.size w w' := by
  unfold num_Div.f at h
  by_cases h0 : inI64 a0
  · rw [if_pos h0] at h
    by_cases h1 : inI64 a1
    · rw [if_pos h1] at h
      by_cases hz : a1 = 0
      · subst hz
        rw [if_pos rfl] at h
        obtain ⟨rfl, rfl⟩ : 0 = r1 ∧ 11 = r2 := by simpa using h
        clear h
        go_enter Try.func37, Try.ntmps37
        go_wp2
        go_ret2
        exact ⟨rfl, Below.refl _ _⟩
      · rw [if_neg hz, ← fdiv_sgn a0 a1 h0 h1 hz] at h
        have hs := num_Scale1 a0 a1 w _ _ _ _ _ rfl rfl (size_f a0 h0) (size_f a1 h1) (by obtain ⟨z1, z2⟩ := h0; omega) (by obtain ⟨z1, z2⟩ := h1; omega) (by omega) (by omega) rfl (by simpa using hz)
        rw [Option.some.inj h] at hs
        have HS := Aside0.mk hs
        clear hs h h0 h1 hz
        go_enter Try.func37, Try.ntmps37
        go_wp2_with (fail)
        refine HS.out.mono ?_
        rintro e w1 ⟨rfl, hb1⟩
        go_wp2
        go_ret2
        exact ⟨rfl, hb1⟩
    · rw [if_neg h1] at h; cases h
  · rw [if_neg h0] at h; cases h

end Go.Proofs.Ytndlhoaigaidbaa.D
