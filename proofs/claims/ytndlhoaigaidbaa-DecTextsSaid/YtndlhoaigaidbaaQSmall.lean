/- Limbs of a number, and what the reference's wide numbers make of them: plain laws. -/
import Derived.Test.YtndlhoaigaidbaaQWide
set_option linter.unusedVariables false
namespace Go.Proofs.Ytndlhoaigaidbaa.Q
open Go.RowKit Go.Proofs.Ytndlhoaigaidbaa.D Go.Proofs.YtndlhoaigaidbaaW.PrintWords Go.Proofs.YtndlhoaigaidbaaW.PrintLast

/-- The limbs of a number. -/
def L (v : Int) : List Int := [v % 4294967296, v / 4294967296 % 4294967296, v / 18446744073709551616, 0, 0, 0]

theorem L_small (d : Int) (h0 : 0 ≤ d) (h1 : d < 4294967296) : [d, 0, 0, 0, 0, 0] = L d := by
  unfold L
  rw [show d % 4294967296 = d by omega, show d / 4294967296 % 4294967296 = 0 by omega, show d / 18446744073709551616 = 0 by omega]

theorem times_L (k : Nat) (hk : 30 ≤ k) (v : Int) (h0 : 0 ≤ v) (h1 : v < 18446744073709551616) : computusref01_Times.f k false (L v) false [10, 0, 0, 0, 0, 0] = some (false, L (v * 10)) := by
  refine at_rounds (g := fun k => computusref01_Times.f k false (L v) false [10, 0, 0, 0, 0, 0]) (fun k => computusref01_Times.mono _ _ _ _ k) hk ?_
  have e2 : v / 18446744073709551616 = 0 := by omega
  have e := times10 (v % 4294967296) (v / 4294967296 % 4294967296) (by omega) (by omega)
  unfold L
  rw [e2]
  refine e.trans ?_
  have q1 : v / 4294967296 % 4294967296 = v / 4294967296 := by omega
  have q2 : v * 10 / 4294967296 = v % 4294967296 * 10 / 4294967296 + v / 4294967296 * 10 := by omega
  have q3 : v * 10 / 18446744073709551616 = v * 10 / 4294967296 / 4294967296 := by omega
  rw [q1, q3, q2, show v % 4294967296 * 10 % 4294967296 = v * 10 % 4294967296 by omega]
  generalize v / 4294967296 = q
  generalize v % 4294967296 * 10 / 4294967296 = c
  rw [show (c + q * 10 % 4294967296) % 4294967296 = (c + q * 10) % 4294967296 by omega,
    show (c + q * 10 % 4294967296) / 4294967296 + q * 10 / 4294967296 = (c + q * 10) / 4294967296 by omega]

theorem plus_L (k : Nat) (hk : 7 ≤ k) (v d : Int) (h0 : 0 ≤ v) (h1 : v < 184467440737095516160) (hd0 : 0 ≤ d) (hd1 : d ≤ 10) : computusref01_Plus.f k false (L v) false [d, 0, 0, 0, 0, 0] = some (false, L (v + d)) := by
  have e := add3 (v % 4294967296) (v / 4294967296 % 4294967296) (v / 18446744073709551616) d 0 0 (by omega) (by omega) (by omega) (by omega) (by omega) (by omega)
  unfold computusref01_Plus.f
  rw [if_pos (by decide)]
  unfold L
  rw [add_any k hk e, Option.bind_some]
  rw [show (v % 4294967296 + d) % 4294967296 = (v + d) % 4294967296 by omega,
    show ((v % 4294967296 + d) / 4294967296 + v / 4294967296 % 4294967296 + 0) % 4294967296 = (v + d) / 4294967296 % 4294967296 by omega,
    show ((v % 4294967296 + d) / 4294967296 + v / 4294967296 % 4294967296 + 0) / 4294967296 + v / 18446744073709551616 + 0 = (v + d) / 18446744073709551616 by omega]

/-- The loop that asks whether a number is large. -/
theorem large_L (k : Nat) (s : ByteArray) (neg : Bool) (x7 x8 v : Int) (h0 : 0 ≤ v) :
    computusref04_Read.l1 (k + 5) s neg false x7 x8 2 false (L v) = computusref04_Read.l0 k s neg (v / 18446744073709551616 != 0) x7 (wrap64 (x8 + 1)) false (L v) := by
  have hl : ((L v).length : Int) = 6 := rfl
  have r2 : rd (L v) 2 = v / 18446744073709551616 := rfl
  have r3 : rd (L v) 3 = 0 := rfl
  have r4 : rd (L v) 4 = 0 := rfl
  have r5 : rd (L v) 5 = 0 := rfl
  have w2 : wrap64 (2 + 1) = 3 := by decide +kernel
  have w3 : wrap64 (3 + 1) = 4 := by decide +kernel
  have w4 : wrap64 (4 + 1) = 5 := by decide +kernel
  have w5 : wrap64 (5 + 1) = 6 := by decide +kernel
  by_cases hz : v / 18446744073709551616 = 0
  · rw [computusref04_Read.l1, hl, if_pos (by decide), if_neg (by decide), if_pos (by decide), r2, w2, hz]
    rw [show ((0 : Int) != 0) = false by decide]
    rw [computusref04_Read.l1, hl, if_pos (by decide), if_neg (by decide), if_pos (by decide), r3, w3]
    rw [show ((0 : Int) != 0) = false by decide]
    rw [computusref04_Read.l1, hl, if_pos (by decide), if_neg (by decide), if_pos (by decide), r4, w4]
    rw [show ((0 : Int) != 0) = false by decide]
    rw [computusref04_Read.l1, hl, if_pos (by decide), if_neg (by decide), if_pos (by decide), r5, w5]
    rw [show ((0 : Int) != 0) = false by decide]
    rw [computusref04_Read.l1, hl, if_neg (by decide)]
  · have hb : (v / 18446744073709551616 != 0) = true := bne_iff_ne.2 hz
    rw [computusref04_Read.l1, hl, if_pos (by decide), if_neg (by decide), if_pos (by decide), r2, w2, hb]
    rw [computusref04_Read.l1, hl, if_pos (by decide), if_pos (by decide), w3]
    rw [computusref04_Read.l1, hl, if_pos (by decide), if_pos (by decide), w4]
    rw [computusref04_Read.l1, hl, if_pos (by decide), if_pos (by decide), w5]
    rw [computusref04_Read.l1, hl, if_neg (by decide)]

theorem cmp_L (k : Nat) (v : Int) (h0 : 0 ≤ v) : computusref01_cmp.f (k + 7) (L v) (List.replicate 6 0) = some (if v = 0 then 0 else 1) := by
  have hl : ((L v).length : Int) = 6 := rfl
  have hm : ((List.replicate 6 (0 : Int)).length : Int) = 6 := rfl
  have r0 : rd (L v) 0 = v % 4294967296 := rfl
  have r1 : rd (L v) 1 = v / 4294967296 % 4294967296 := rfl
  have r2 : rd (L v) 2 = v / 18446744073709551616 := rfl
  have r3 : rd (L v) 3 = 0 := rfl
  have r4 : rd (L v) 4 = 0 := rfl
  have r5 : rd (L v) 5 = 0 := rfl
  have z0 : rd (List.replicate 6 (0 : Int)) 0 = 0 := rfl
  have z1 : rd (List.replicate 6 (0 : Int)) 1 = 0 := rfl
  have z2 : rd (List.replicate 6 (0 : Int)) 2 = 0 := rfl
  have z3 : rd (List.replicate 6 (0 : Int)) 3 = 0 := rfl
  have z4 : rd (List.replicate 6 (0 : Int)) 4 = 0 := rfl
  have z5 : rd (List.replicate 6 (0 : Int)) 5 = 0 := rfl
  have w5 : wrap64 (5 - 1) = 4 := by decide +kernel
  have w4 : wrap64 (4 - 1) = 3 := by decide +kernel
  have w3 : wrap64 (3 - 1) = 2 := by decide +kernel
  have w2 : wrap64 (2 - 1) = 1 := by decide +kernel
  have w1 : wrap64 (1 - 1) = 0 := by decide +kernel
  have w0 : wrap64 (0 - 1) = -1 := by decide +kernel
  generalize hA : L v = A at *
  unfold computusref01_cmp.f
  rw [computusref01_cmp.l0, hl, hm, if_pos (by decide), if_pos (by decide), if_pos (by decide), if_pos (by decide), r5, z5, if_neg (by decide), if_neg (by decide), w5]
  rw [computusref01_cmp.l0, hl, hm, if_pos (by decide), if_pos (by decide), if_pos (by decide), if_pos (by decide), r4, z4, if_neg (by decide), if_neg (by decide), w4]
  rw [computusref01_cmp.l0, hl, hm, if_pos (by decide), if_pos (by decide), if_pos (by decide), if_pos (by decide), r3, z3, if_neg (by decide), if_neg (by decide), w3]
  rw [computusref01_cmp.l0, hl, hm, if_pos (by decide), if_pos (by decide), if_pos (by decide), if_pos (by decide), r2, z2, if_neg (by omega)]
  by_cases c2 : v / 18446744073709551616 > 0
  · rw [if_pos c2, if_neg (by omega)]
  rw [if_neg c2, w2]
  rw [computusref01_cmp.l0, hl, hm, if_pos (by decide), if_pos (by decide), if_pos (by decide), if_pos (by decide), r1, z1, if_neg (by omega)]
  by_cases c1 : v / 4294967296 % 4294967296 > 0
  · rw [if_pos c1, if_neg (by omega)]
  rw [if_neg c1, w1]
  rw [computusref01_cmp.l0, hl, hm, if_pos (by decide), if_pos (by decide), if_pos (by decide), if_pos (by decide), r0, z0, if_neg (by omega)]
  by_cases c0 : v % 4294967296 > 0
  · rw [if_pos c0, if_neg (by omega)]
  rw [if_neg c0, w0, computusref01_cmp.l0, if_neg (by decide), if_pos (by omega)]

theorem minus_L (k : Nat) (v : Int) (h0 : 0 ≤ v) : computusref01_Minus.f (k + 7) false (L v) = some (!(v == 0), L v) := by
  unfold computusref01_Minus.f computusref01_zero.f
  rw [if_neg (by decide), if_pos (by decide), cmp_L k v h0]
  simp only [Option.bind_some]
  by_cases hz : v = 0
  · subst hz; rfl
  · rw [if_neg hz, show (v == 0) = false from beq_eq_false_iff_ne.2 hz]; rfl

theorem or_limbs (v : Int) (h0 : 0 ≤ v) (h1 : v < 18446744073709551616) : bits .or .u64 (IntKind.u64.wrap (v / 4294967296 % 4294967296 * 4294967296)) (v % 4294967296) = v := by
  rw [u64_id _ (by omega) (by omega), u64_or _ _ (by omega) (by omega) (by omega) (by omega)]
  have e1 : (v / 4294967296 % 4294967296 * 4294967296).toNat = 2 ^ 32 * (v / 4294967296).toNat := by omega
  have e2 : (v % 4294967296).toNat < 2 ^ 32 := by omega
  rw [e1, ← Nat.two_pow_add_eq_or_of_lt e2]
  omega

theorem small_L (k : Nat) (neg : Bool) (v : Int) (h0 : 0 ≤ v) (hn : neg = true → 0 < v) : computusref01_Small.f (k + 6) neg (L v) =
    some (if neg = true then (if v ≤ 9223372036854775808 then (-v, 0) else (0, 10)) else (if v < 9223372036854775808 then (v, 0) else (0, 10))) := by
  have hl : ((L v).length : Int) = 6 := rfl
  have r0 : rd (L v) 0 = v % 4294967296 := rfl
  have r1 : rd (L v) 1 = v / 4294967296 % 4294967296 := rfl
  have r2 : rd (L v) 2 = v / 18446744073709551616 := rfl
  have r3 : rd (L v) 3 = 0 := rfl
  have r4 : rd (L v) 4 = 0 := rfl
  have r5 : rd (L v) 5 = 0 := rfl
  have w2 : wrap64 (2 + 1) = 3 := by decide +kernel
  have w3 : wrap64 (3 + 1) = 4 := by decide +kernel
  have w4 : wrap64 (4 + 1) = 5 := by decide +kernel
  have w5 : wrap64 (5 + 1) = 6 := by decide +kernel
  generalize hA : L v = A at *
  unfold computusref01_Small.f
  rw [computusref01_Small.l0, hl, if_pos (by decide), if_pos (by decide), if_pos (by decide), r2, w2]
  by_cases c2 : v / 18446744073709551616 = 0
  case neg =>
    rw [if_neg c2]
    cases neg
    · rw [if_neg (by decide), if_neg (by omega)]
    · rw [if_pos rfl, if_neg (by omega)]
  have hv : v < 18446744073709551616 := by omega
  rw [if_pos c2]
  rw [computusref01_Small.l0, hl, if_pos (by decide), if_pos (by decide), if_pos (by decide), r3, w3, if_pos rfl]
  rw [computusref01_Small.l0, hl, if_pos (by decide), if_pos (by decide), if_pos (by decide), r4, w4, if_pos rfl]
  rw [computusref01_Small.l0, hl, if_pos (by decide), if_pos (by decide), if_pos (by decide), r5, w5, if_pos rfl]
  rw [computusref01_Small.l0, hl, if_neg (by decide), if_pos (by decide), if_pos (by decide), r1, r0, or_limbs v h0 hv]
  cases neg
  · rw [if_neg (by decide), if_neg (by decide), computusref01_Small.j1, if_neg (by decide), if_neg (by decide)]
    by_cases hh : v < 9223372036854775808
    · rw [if_neg (by omega), if_pos hh, show wrap64 v = v by unfold wrap64; omega]
    · rw [if_pos (by omega), if_neg hh]
  · rw [if_pos rfl, if_pos rfl, computusref01_Small.j1]
    have hp := hn rfl
    by_cases hh : v ≤ 9223372036854775808
    · rw [if_pos (decide_eq_true hh), if_pos hh, show wrap64 (IntKind.u64.wrap (-v)) = -v by rw [IntKind.wrap_u64]; unfold wrap64; omega]
    · rw [if_neg (by rw [decide_eq_false hh]; decide), if_pos rfl, if_neg hh]

end Go.Proofs.Ytndlhoaigaidbaa.Q
