/- Hand contracts of num.product, num.signed and num.Mul: the product of two int64, or the range error. -/
import Derived.Test.YtndlhoaigaidbaaDx3
import Derived.Test.YtndlhoaigaidbaaDx4
import Derived.Laws.MathBits
import Derived.Laws.Bits64
namespace Go.Proofs.Ytndlhoaigaidbaa.D
open Go.RowKit Go.Proofs.YtndlhoaigaidbaaW.PrintWords Go.Proofs.YtndlhoaigaidbaaW.PrintLast Go.Proofs.YtndlhoaigaidbaaW.PrintMore

theorem num_product.calls (a0 a1 s0 s1 h l : Int) (w : World) (h0 : num_size.f a0 = some s0) (h1 : num_size.f a1 = some s1) (hm : bits_Mul64.f s0 s1 = some (h, l)) :
    Calls Try.prog 27 #[.int .i64 a0, .int .i64 a1] w fun e w' => e = .returned (.agg #[.int .u64 h, .int .u64 l]) ∧ Below w.heap.size w w' := by
  have H0 := Aside0.mk h0
  have H1 := Aside0.mk h1
  have HM := Aside0.mk hm
  clear h0 h1 hm
  go_enter Try.func27, Try.ntmps27
  go_wp2_with (fail)
  refine (num_size.calls a0 s0 _ H0.out).mono ?_
  rintro e w1 ⟨rfl, ⟨⟨n1, rfl⟩⟩⟩
  go_wp2_with (fail)
  refine (num_size.calls a1 s1 _ H1.out).mono ?_
  rintro e w2 ⟨rfl, ⟨⟨n2, rfl⟩⟩⟩
  go_wp2_with (fail)
  refine (bits_Mul64.calls s0 s1 h l _ HM.out).mono ?_
  rintro e w3 ⟨rfl, ⟨⟨n3, rfl⟩⟩⟩
  go_wp2
  refine bodyPost_ret (v := .agg #[.int .u64 h, .int .u64 l]) (by simp [results, Try.results27, go_sem]) rfl ⟨rfl, ?_⟩
  exact ((pw_below_drewN (below_alloc (Below.refl _ _) _) _).setCell (p := ⟨w.heap.size, 0, none⟩) (Nat.le_refl _) _).setCell (p := ⟨w.heap.size, 1, none⟩) (Nat.le_refl _) _

/-- What num.signed hands back. -/
def sgn (neg : Bool) (h l : Int) : Int × Int :=
  if h = 0 then (if neg = true then (if l ≤ 9223372036854775808 then (-l, 0) else (0, 10)) else if l ≤ 9223372036854775807 then (l, 0) else (0, 10)) else (0, 10)

theorem wrap_neg (l : Int) (h0 : 0 ≤ l) (h : l ≤ 9223372036854775808) : IntKind.i64.wrap (IntKind.u64.wrap (-l)) = -l := by
  rw [IntKind.wrap_u64, IntKind.wrap_i64]; omega

theorem num_signed.calls (neg : Bool) (h l : Int) (w : World) (hl : 0 ≤ l) (hl2 : l < 18446744073709551616) (_hh : 0 ≤ h) (_hh2 : h < 18446744073709551616) :
    Calls Try.prog 26 #[.bool neg, .agg #[.int .u64 h, .int .u64 l]] w fun e w' => e = .returned (.tuple #[.int .i64 (sgn neg h l).1, .int .i64 (sgn neg h l).2]) ∧ Below w.heap.size w w' := by
  by_cases c : h = 0
  · have e1 : (h != 0) = false := by simp [c]
    cases neg
    · by_cases c2 : l ≤ 9223372036854775807
      · have e : sgn false h l = (l, 0) := by simp [sgn, c, c2]
        rw [e]
        clear c e
        go_enter Try.func26, Try.ntmps26
        go_wp2
        go_ret2
        exact ⟨rfl, below_alloc (Below.refl _ _) _⟩
      · have e : sgn false h l = (0, 10) := by simp [sgn, c, c2]
        rw [e]
        clear c e
        go_enter Try.func26, Try.ntmps26
        go_wp2
        go_ret2
        exact ⟨rfl, below_alloc (Below.refl _ _) _⟩
    · by_cases c2 : l ≤ 9223372036854775808
      · have e : sgn true h l = (-l, 0) := by simp [sgn, c, c2]
        have ew := wrap_neg l hl c2
        rw [e, ← ew]
        clear c e ew
        go_enter Try.func26, Try.ntmps26
        go_wp2
        go_ret2
        exact ⟨by first | rfl | (simp [i64_w]), below_alloc (Below.refl _ _) _⟩
      · have e : sgn true h l = (0, 10) := by simp [sgn, c, c2]
        rw [e]
        clear c e
        go_enter Try.func26, Try.ntmps26
        go_wp2
        go_ret2
        exact ⟨rfl, below_alloc (Below.refl _ _) _⟩
  · have e1 : (h != 0) = true := by simp [c]
    have e : sgn neg h l = (0, 10) := by simp [sgn, c]
    rw [e]
    clear e c
    go_enter Try.func26, Try.ntmps26
    go_wp2
    go_ret2
    exact ⟨rfl, below_alloc (Below.refl _ _) _⟩

/-- Is it an int64? -/
def inI64 (x : Int) : Prop := -9223372036854775808 ≤ x ∧ x ≤ 9223372036854775807
instance (x : Int) : Decidable (inI64 x) := by unfold inI64; infer_instance
theorem inI64_of (x : Int) (h : -9223372036854775808 ≤ x) (k : x ≤ 9223372036854775807) : inI64 x := ⟨h, k⟩

def num_Mul.f (a0 : Int) (a1 : Int) : Option (Int × Int) := if inI64 a0 then (if inI64 a1 then some (if inI64 (a0 * a1) then (a0 * a1, 0) else (0, 10)) else none) else none

theorem mul64_f (x y : Int) (hx0 : 0 ≤ x) (hx : x < 18446744073709551616) (hy0 : 0 ≤ y) (hy : y < 18446744073709551616) :
    bits_Mul64.f x y = some (x * y / 18446744073709551616, x * y % 18446744073709551616) := by
  have h := mul64_arith x y hx0 hx hy0 hy
  unfold bits_Mul64.f
  simp only [IntKind.wrap_u64, and_low32 x hx0 hx, and_low32 y hy0 hy]
  rw [and_low32 _ (Int.emod_nonneg _ (by decide)) (Int.emod_lt_of_pos _ (by decide)), h]

theorem size_f (a : Int) (h : inI64 a) : num_size.f a = some (a.natAbs : Int) := by
  obtain ⟨h1, h2⟩ := h
  unfold num_size.f
  simp only [IntKind.wrap_u64]
  split
  · congr 1; omega
  · congr 1; omega

theorem sgn_mul (a b : Int) (_ha : inI64 a) (_hb : inI64 b) :
    sgn (decide (a < 0) != decide (b < 0)) ((a.natAbs : Int) * b.natAbs / 18446744073709551616) ((a.natAbs : Int) * b.natAbs % 18446744073709551616) = if inI64 (a * b) then (a * b, 0) else (0, 10) := by
  have hp : (a.natAbs : Int) * b.natAbs = if (decide (a < 0) != decide (b < 0)) = true then -(a * b) else a * b := by
    by_cases h1 : a < 0 <;> by_cases h2 : b < 0
    · have e1 : (a.natAbs : Int) = -a := by omega
      have e2 : (b.natAbs : Int) = -b := by omega
      rw [e1, e2]; simp [h1, h2, Int.neg_mul_neg]
    · have e1 : (a.natAbs : Int) = -a := by omega
      have e2 : (b.natAbs : Int) = b := by omega
      rw [e1, e2]; simp [h1, h2, Int.neg_mul]
    · have e1 : (a.natAbs : Int) = a := by omega
      have e2 : (b.natAbs : Int) = -b := by omega
      rw [e1, e2]; simp [h1, h2, Int.mul_neg]
    · have e1 : (a.natAbs : Int) = a := by omega
      have e2 : (b.natAbs : Int) = b := by omega
      rw [e1, e2]; simp [h1, h2]
  have hp0 : 0 ≤ (a.natAbs : Int) * b.natAbs := Int.mul_nonneg (by omega) (by omega)
  have hz : (decide (a < 0) != decide (b < 0)) = false → 0 ≤ a * b := by
    intro h; rw [hp, h] at hp0; simpa using hp0
  have hz2 : (decide (a < 0) != decide (b < 0)) = true → a * b ≤ 0 := by
    intro h; rw [hp, h] at hp0; simp at hp0; omega
  rw [hp]
  cases hn : (decide (a < 0) != decide (b < 0))
  · have := hz hn
    simp only [sgn, Bool.false_eq_true, if_false]
    generalize a * b = p at *
    by_cases c : p / 18446744073709551616 = 0
    · rw [if_pos c]
      have e : p % 18446744073709551616 = p := by omega
      rw [e]
      by_cases c2 : p ≤ 9223372036854775807
      · rw [if_pos c2, if_pos (show inI64 p from ⟨by omega, c2⟩)]
      · rw [if_neg c2, if_neg (show ¬ inI64 p from fun h => by obtain ⟨h1, h2⟩ := h; omega)]
    · rw [if_neg c, if_neg (show ¬ inI64 p from fun h => by obtain ⟨h1, h2⟩ := h; omega)]
  · have := hz2 hn
    simp only [sgn, if_true]
    generalize a * b = p at *
    by_cases c : -p / 18446744073709551616 = 0
    · rw [if_pos c]
      have e : -p % 18446744073709551616 = -p := by omega
      rw [e]
      by_cases c2 : -p ≤ 9223372036854775808
      · rw [if_pos c2, if_pos (show inI64 p from ⟨by omega, by omega⟩)]; simp
      · rw [if_neg c2, if_neg (show ¬ inI64 p from fun h => by obtain ⟨h1, h2⟩ := h; omega)]
    · rw [if_neg c, if_neg (show ¬ inI64 p from fun h => by obtain ⟨h1, h2⟩ := h; omega)]

theorem num_Mul.calls (a0 : Int) (a1 : Int) (r1 : Int) (r2 : Int) (w : World) (h : num_Mul.f a0 a1 = some (r1, r2)) :
    Calls Try.prog 13 #[.int .i64 a0, .int .i64 a1] w fun e w' => e = .returned (.tuple #[.int .i64 r1, .int .i64 r2]) ∧ Below w.heap.size w w' := by
  unfold num_Mul.f at h
  by_cases h0 : inI64 a0
  · rw [if_pos h0] at h
    by_cases h1 : inI64 a1
    · rw [if_pos h1, ← sgn_mul a0 a1 h0 h1] at h
      have hs0 := size_f a0 h0
      have hs1 := size_f a1 h1
      have b0 : (a0.natAbs : Int) < 18446744073709551616 := by obtain ⟨z1, z2⟩ := h0; omega
      have b1 : (a1.natAbs : Int) < 18446744073709551616 := by obtain ⟨z1, z2⟩ := h1; omega
      have hm := mul64_f (a0.natAbs : Int) (a1.natAbs : Int) (by omega) b0 (by omega) b1
      have hlo : 0 ≤ (a0.natAbs : Int) * a1.natAbs % 18446744073709551616 := Int.emod_nonneg _ (by decide)
      have hlo2 : (a0.natAbs : Int) * a1.natAbs % 18446744073709551616 < 18446744073709551616 := Int.emod_lt_of_pos _ (by decide)
      have hp0 : 0 ≤ (a0.natAbs : Int) * a1.natAbs := Int.mul_nonneg (by omega) (by omega)
      have hp1 : (a0.natAbs : Int) * a1.natAbs ≤ 18446744073709551616 * 18446744073709551615 := Int.mul_le_mul (by omega) (by omega) (by omega) (by decide)
      have hhi : 0 ≤ (a0.natAbs : Int) * a1.natAbs / 18446744073709551616 := Int.ediv_nonneg hp0 (by decide)
      have hhi2 : (a0.natAbs : Int) * a1.natAbs / 18446744073709551616 < 18446744073709551616 := by omega
      generalize (a0.natAbs : Int) * a1.natAbs / 18446744073709551616 = hi at *
      generalize (a0.natAbs : Int) * a1.natAbs % 18446744073709551616 = lo at *
      generalize (a0.natAbs : Int) = s0 at *
      generalize (a1.natAbs : Int) = s1 at *
      have hq := Option.some.inj h
      have HS0 := Aside0.mk hs0
      have HS1 := Aside0.mk hs1
      have HM := Aside0.mk hm
      have HQ := Aside0.mk hq
      clear h h0 h1 hs0 hs1 hm hq hp0 hp1 b0 b1
      go_enter Try.func13, Try.ntmps13
      go_wp2_with (fail)
      refine (num_product.calls a0 a1 s0 s1 hi lo _ HS0.out HS1.out HM.out).mono ?_
      rintro e w1 ⟨rfl, hb1⟩
      go_wp2_with (fail)
      refine (num_signed.calls (decide (a0 < 0) != decide (a1 < 0)) hi lo _ hlo hlo2 hhi hhi2).mono ?_
      rintro e w2 ⟨rfl, hb2⟩
      rw [HQ.out]
      go_wp2
      go_ret2
      exact ⟨rfl, below_then hb1 hb1.size hb2⟩
    · rw [if_neg h1] at h; cases h
  · rw [if_neg h0] at h; cases h

end Go.Proofs.Ytndlhoaigaidbaa.D
