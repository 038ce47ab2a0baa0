/- The reference's wide numbers, as far as its Read uses them: plain laws. -/
import Derived.Test.YtndlhoaigaidbaaDx9
import Derived.Laws.MathBits
set_option linter.unusedVariables false
namespace Go.Proofs.Ytndlhoaigaidbaa.Q
open Go.RowKit Go.Proofs.Ytndlhoaigaidbaa.D Go.Proofs.YtndlhoaigaidbaaW.PrintWords Go.Proofs.YtndlhoaigaidbaaW.PrintLast

theorem u64_id (x : Int) (h0 : 0 ≤ x) (h : x < 18446744073709551616) : IntKind.u64.wrap x = x := by rw [IntKind.wrap_u64]; omega
theorem rd0 (a : Int) (l : List Int) : rd (a :: l) 0 = a := rfl
theorem rd1 (a b : Int) (l : List Int) : rd (a :: b :: l) 1 = b := rfl
theorem rd2 (a b c : Int) (l : List Int) : rd (a :: b :: c :: l) 2 = c := rfl
theorem rd3 (a b c d : Int) (l : List Int) : rd (a :: b :: c :: d :: l) 3 = d := rfl
theorem rd4 (a b c d e : Int) (l : List Int) : rd (a :: b :: c :: d :: e :: l) 4 = e := rfl
theorem rd5 (a b c d e f : Int) (l : List Int) : rd (a :: b :: c :: d :: e :: f :: l) 5 = f := rfl

/-- A number of so many digits, as Of has it. -/
theorem of_small (d : Int) (h0 : 0 ≤ d) (h1 : d ≤ 10) : computusref01_Of.f d = some (false, [d, 0, 0, 0, 0, 0]) := by
  unfold computusref01_Of.f
  rw [if_neg (by omega), if_pos (by decide)]
  simp only [Option.bind_some, List.length_replicate]
  rw [if_pos (by decide), if_pos (by decide), u64_id d h0 (by omega), and_low32 d h0 (by omega)]
  have e1 : d % 4294967296 = d := by omega
  have e2 : d / 4294967296 = 0 := by omega
  rw [e1, e2]; rfl

theorem add_step (k : Nat) (l0 l1 x5 : List Int) (c : Int) (i : Nat) (a b : Int) (h0 : l0[i]? = some a) (h1 : l1[i]? = some b) (hi : i < 6) (hl : x5.length = 6) (ha : 0 ≤ a ∧ a < 4294967296) (hb : 0 ≤ b ∧ b < 4294967296) (hc : 0 ≤ c ∧ c ≤ 1) :
    computusref01_add.l0 (k + 1) l0 l1 x5 c (i : Int) = computusref01_add.l0 k l0 l1 (x5.set i ((c + a + b) % 4294967296)) ((c + a + b) / 4294967296) ((i + 1 : Nat) : Int) := by
  have e0 : i < l0.length := (List.getElem?_eq_some_iff.1 h0).1
  have e1 : i < l1.length := (List.getElem?_eq_some_iff.1 h1).1
  have r0 : rd l0 (i : Int) = a := by unfold rd; rw [Int.toNat_natCast, List.getD_eq_getElem?_getD, h0]; rfl
  have r1 : rd l1 (i : Int) = b := by unfold rd; rw [Int.toNat_natCast, List.getD_eq_getElem?_getD, h1]; rfl
  have w : wrap64 ((i : Int) + 1) = ((i + 1 : Nat) : Int) := by unfold wrap64; omega
  rw [computusref01_add.l0, if_pos (by omega), if_pos (by omega), if_pos (by omega), if_pos (by omega), if_pos (by omega), r0, r1, w, u64_id (c + a) (by omega) (by omega), u64_id (c + a + b) (by omega) (by omega), and_low32 _ (by omega) (by omega), Int.toNat_natCast]

theorem add3 (a0 a1 a2 b0 b1 b2 : Int) (ha0 : 0 ≤ a0 ∧ a0 < 4294967296) (ha1 : 0 ≤ a1 ∧ a1 < 4294967296) (ha2 : 0 ≤ a2 ∧ a2 < 2147483647) (hb0 : 0 ≤ b0 ∧ b0 < 4294967296) (hb1 : 0 ≤ b1 ∧ b1 < 4294967296) (hb2 : 0 ≤ b2 ∧ b2 < 2147483647) :
    computusref01_add.f 7 [a0, a1, a2, 0, 0, 0] [b0, b1, b2, 0, 0, 0] = some [(a0 + b0) % 4294967296, ((a0 + b0) / 4294967296 + a1 + b1) % 4294967296, ((a0 + b0) / 4294967296 + a1 + b1) / 4294967296 + a2 + b2, 0, 0, 0] := by
  have q0 : 0 ≤ (a0 + b0) / 4294967296 ∧ (a0 + b0) / 4294967296 ≤ 1 := by omega
  have q1 : 0 ≤ ((a0 + b0) / 4294967296 + a1 + b1) / 4294967296 ∧ ((a0 + b0) / 4294967296 + a1 + b1) / 4294967296 ≤ 1 := by omega
  have q2 : (((a0 + b0) / 4294967296 + a1 + b1) / 4294967296 + a2 + b2) / 4294967296 = 0 := by omega
  have q3 : (((a0 + b0) / 4294967296 + a1 + b1) / 4294967296 + a2 + b2) % 4294967296 = ((a0 + b0) / 4294967296 + a1 + b1) / 4294967296 + a2 + b2 := by omega
  have s0 := add_step 6 [a0, a1, a2, 0, 0, 0] [b0, b1, b2, 0, 0, 0] [0, 0, 0, 0, 0, 0] 0 0 a0 b0 rfl rfl (by decide) rfl ha0 hb0 ⟨by decide, by decide⟩
  have s1 := add_step 5 [a0, a1, a2, 0, 0, 0] [b0, b1, b2, 0, 0, 0] [(0 + a0 + b0) % 4294967296, 0, 0, 0, 0, 0] ((0 + a0 + b0) / 4294967296) 1 a1 b1 rfl rfl (by decide) rfl ha1 hb1 (by rw [Int.zero_add]; exact q0)
  have s2 := add_step 4 [a0, a1, a2, 0, 0, 0] [b0, b1, b2, 0, 0, 0] [(0 + a0 + b0) % 4294967296, ((0 + a0 + b0) / 4294967296 + a1 + b1) % 4294967296, 0, 0, 0, 0] (((0 + a0 + b0) / 4294967296 + a1 + b1) / 4294967296) 2 a2 b2 rfl rfl (by decide) rfl (by omega) (by omega) (by rw [Int.zero_add]; exact q1)
  rw [Int.zero_add] at s0 s1 s2
  rw [q2, q3] at s2
  have s3 := add_step 3 [a0, a1, a2, 0, 0, 0] [b0, b1, b2, 0, 0, 0] [(a0 + b0) % 4294967296, ((a0 + b0) / 4294967296 + a1 + b1) % 4294967296, ((a0 + b0) / 4294967296 + a1 + b1) / 4294967296 + a2 + b2, 0, 0, 0] 0 3 0 0 rfl rfl (by decide) rfl ⟨by decide, by decide⟩ ⟨by decide, by decide⟩ ⟨by decide, by decide⟩
  have s4 := add_step 2 [a0, a1, a2, 0, 0, 0] [b0, b1, b2, 0, 0, 0] [(a0 + b0) % 4294967296, ((a0 + b0) / 4294967296 + a1 + b1) % 4294967296, ((a0 + b0) / 4294967296 + a1 + b1) / 4294967296 + a2 + b2, 0, 0, 0] 0 4 0 0 rfl rfl (by decide) rfl ⟨by decide, by decide⟩ ⟨by decide, by decide⟩ ⟨by decide, by decide⟩
  have s5 := add_step 1 [a0, a1, a2, 0, 0, 0] [b0, b1, b2, 0, 0, 0] [(a0 + b0) % 4294967296, ((a0 + b0) / 4294967296 + a1 + b1) % 4294967296, ((a0 + b0) / 4294967296 + a1 + b1) / 4294967296 + a2 + b2, 0, 0, 0] 0 5 0 0 rfl rfl (by decide) rfl ⟨by decide, by decide⟩ ⟨by decide, by decide⟩ ⟨by decide, by decide⟩
  unfold computusref01_add.f
  rw [if_pos (by decide)]
  refine (show _ = _ from s0).trans ((show _ = _ from s1).trans ((show _ = _ from s2).trans ((show _ = _ from s3).trans ((show _ = _ from s4).trans ((show _ = _ from s5).trans ?_)))))
  rw [computusref01_add.l0, if_neg (by decide)]
  rfl

theorem add_any (k : Nat) (hk : 7 ≤ k) {l0 l1 r : List Int} (h : computusref01_add.f 7 l0 l1 = some r) : computusref01_add.f k l0 l1 = some r :=
  at_rounds (g := fun k => computusref01_add.f k l0 l1) (fun k => computusref01_add.mono _ _ k) hk h

theorem w1 (i : Nat) (h : i < 100) : wrap64 ((i : Int) + 1) = ((i + 1 : Nat) : Int) := by unfold wrap64; omega
theorem w2 (i j : Nat) (h : i < 100) (h' : j < 100) : wrap64 ((i : Int) + (j : Int)) = ((i + j : Nat) : Int) := by unfold wrap64; omega
theorem rd_at {A : List Int} {i : Nat} {a : Int} (h : A[i]? = some a) : rd A (i : Int) = a := by unfold rd; rw [Int.toNat_natCast, List.getD_eq_getElem?_getD, h]; rfl
theorem at_lt {A : List Int} {i : Nat} {a : Int} (h : A[i]? = some a) : i < A.length := (List.getElem?_eq_some_iff.1 h).1
theorem in_len {n i : Nat} (h : i < n) : (0 : Int) ≤ (i : Int) ∧ (i : Int) < (n : Int) := by omega

theorem times_step (k : Nat) (out row A B : List Int) (n0 n1 : Bool) (i j : Nat) (c a b : Int) (h0 : A[i]? = some a) (h1 : B[j]? = some b) (hi : i < 2) (hj : j < 3) (hl : row.length = 6) (hab : 0 ≤ a * b ∧ a * b < 18446744065119617025) (hc : 0 ≤ c ∧ c < 4294967296) :
    computusref01_Times.l1 (k + 1) out (i : Int) row c (j : Int) n0 A n1 B = computusref01_Times.l1 k out (i : Int) (row.set (i + j) ((c + a * b) % 4294967296)) ((c + a * b) / 4294967296) ((j + 1 : Nat) : Int) n0 A n1 B := by
  have e0 := in_len (at_lt h0)
  have e1 := in_len (at_lt h1)
  have r0 := rd_at h0
  have r1 := rd_at h1
  have e2 : (j : Int) < 3 := by clear hab hc; omega
  have e3 : i + j < row.length := by clear hab hc; omega
  have e3 := in_len e3
  have u1 : IntKind.u64.wrap (a * b) = a * b := u64_id _ hab.1 (Int.lt_trans hab.2 (by decide))
  have u2 : IntKind.u64.wrap (c + a * b) = c + a * b := by generalize a * b = p at *; exact u64_id _ (by omega) (by omega)
  have u4 : bits .and .u64 (c + a * b) 4294967295 = (c + a * b) % 4294967296 := by generalize a * b = p at *; exact and_low32 _ (by omega) (by omega)
  rw [computusref01_Times.l1]
  rw [if_pos e2, if_pos e0.1, if_pos e0.2, if_pos e1.1, if_pos e1.2, w2 i j (by omega) (by omega), if_pos e3.1, if_pos e3.2, r0, r1, w1 j (by omega), u1, u2, u4, Int.toNat_natCast]
theorem times_row (k : Nat) (out row A B t : List Int) (n0 n1 : Bool) (i : Nat) (c : Int) (hi : i < 2) (h : computusref01_add.f k out row = some t) :
    computusref01_Times.l1 (k + 1) out (i : Int) row c 3 n0 A n1 B = computusref01_Times.l0 k t ((i + 1 : Nat) : Int) n0 A n1 B := by
  rw [computusref01_Times.l1, if_neg (by decide), h, Option.bind_some, w1 i (by omega)]
theorem times_begin (k : Nat) (out A B : List Int) (n0 n1 : Bool) (i : Nat) (hi : i < 2) :
    computusref01_Times.l0 (k + 1) out (i : Int) n0 A n1 B = computusref01_Times.l1 k out (i : Int) [0, 0, 0, 0, 0, 0] 0 0 n0 A n1 B := by
  rw [computusref01_Times.l0, if_pos (by omega), if_pos (by decide)]; rfl

/-- Ten times. -/
theorem times10 (a0 a1 : Int) (h0 : 0 ≤ a0 ∧ a0 < 4294967296) (h1 : 0 ≤ a1 ∧ a1 < 4294967296) :
    computusref01_Times.f 30 false [a0, a1, 0, 0, 0, 0] false [10, 0, 0, 0, 0, 0] =
      some (false, [(a0 * 10) % 4294967296, ((a0 * 10) / 4294967296 + (a1 * 10) % 4294967296) % 4294967296, ((a0 * 10) / 4294967296 + (a1 * 10) % 4294967296) / 4294967296 + (a1 * 10) / 4294967296, 0, 0, 0]) := by
  unfold computusref01_Times.f
  rw [if_pos (by decide)]
  have c0 : 0 ≤ (a0 * 10) / 4294967296 ∧ (a0 * 10) / 4294967296 < 10 := by omega
  have c1 : 0 ≤ (a1 * 10) / 4294967296 ∧ (a1 * 10) / 4294967296 < 10 := by omega
  have d0 : (a0 * 10) / 4294967296 % 4294967296 = (a0 * 10) / 4294967296 := by omega
  have d1 : (a0 * 10) / 4294967296 / 4294967296 = 0 := by omega
  have d2 : (a1 * 10) / 4294967296 % 4294967296 = (a1 * 10) / 4294967296 := by omega
  have d3 : (a1 * 10) / 4294967296 / 4294967296 = 0 := by omega
  have z : ∀ x : Int, 0 ≤ x * 0 ∧ x * 0 < 18446744065119617025 := fun x => by rw [Int.mul_zero]; decide
  have s0 := times_begin 29 (List.replicate 6 0) [a0, a1, 0, 0, 0, 0] [10, 0, 0, 0, 0, 0] false false 0 (by decide)
  have s1 := times_step 28 (List.replicate 6 0) [0, 0, 0, 0, 0, 0] [a0, a1, 0, 0, 0, 0] [10, 0, 0, 0, 0, 0] false false 0 0 0 a0 10 rfl rfl (by decide) (by decide) rfl (by omega) (by decide)
  rw [Int.zero_add] at s1
  have s2 := times_step 27 (List.replicate 6 0) [(a0 * 10) % 4294967296, 0, 0, 0, 0, 0] [a0, a1, 0, 0, 0, 0] [10, 0, 0, 0, 0, 0] false false 0 1 ((a0 * 10) / 4294967296) a0 0 rfl rfl (by decide) (by decide) rfl (z _) (by omega)
  rw [Int.mul_zero, Int.add_zero, d0, d1] at s2
  have s3 := times_step 26 (List.replicate 6 0) [(a0 * 10) % 4294967296, (a0 * 10) / 4294967296, 0, 0, 0, 0] [a0, a1, 0, 0, 0, 0] [10, 0, 0, 0, 0, 0] false false 0 2 0 a0 0 rfl rfl (by decide) (by decide) rfl (z _) (by omega)
  rw [Int.mul_zero, Int.add_zero] at s3
  have a4 := add3 0 0 0 ((a0 * 10) % 4294967296) ((a0 * 10) / 4294967296) 0 ⟨by decide, by decide⟩ ⟨by decide, by decide⟩ ⟨by decide, by decide⟩ (by omega) (by omega) ⟨by decide, by decide⟩
  have s4 := times_row 25 (List.replicate 6 0) [(a0 * 10) % 4294967296, (a0 * 10) / 4294967296, 0, 0, 0, 0] [a0, a1, 0, 0, 0, 0] [10, 0, 0, 0, 0, 0] _ false false 0 0 (by decide) (add_any 25 (by decide) a4)
  rw [show (0 + a0 * 10 % 4294967296) % 4294967296 = a0 * 10 % 4294967296 by omega, show (0 + a0 * 10 % 4294967296) / 4294967296 = 0 by omega, show (0 + 0 + a0 * 10 / 4294967296) % 4294967296 = a0 * 10 / 4294967296 by omega, show (0 + 0 + a0 * 10 / 4294967296) / 4294967296 + 0 + 0 = 0 by omega] at s4
  have s5 := times_begin 24 [a0 * 10 % 4294967296, a0 * 10 / 4294967296, 0, 0, 0, 0] [a0, a1, 0, 0, 0, 0] [10, 0, 0, 0, 0, 0] false false 1 (by decide)
  have s6 := times_step 23 [a0 * 10 % 4294967296, a0 * 10 / 4294967296, 0, 0, 0, 0] [0, 0, 0, 0, 0, 0] [a0, a1, 0, 0, 0, 0] [10, 0, 0, 0, 0, 0] false false 1 0 0 a1 10 rfl rfl (by decide) (by decide) rfl (by omega) (by decide)
  rw [Int.zero_add] at s6
  have s7 := times_step 22 [a0 * 10 % 4294967296, a0 * 10 / 4294967296, 0, 0, 0, 0] [0, (a1 * 10) % 4294967296, 0, 0, 0, 0] [a0, a1, 0, 0, 0, 0] [10, 0, 0, 0, 0, 0] false false 1 1 ((a1 * 10) / 4294967296) a1 0 rfl rfl (by decide) (by decide) rfl (z _) (by omega)
  rw [Int.mul_zero, Int.add_zero, d2, d3] at s7
  have s8 := times_step 21 [a0 * 10 % 4294967296, a0 * 10 / 4294967296, 0, 0, 0, 0] [0, (a1 * 10) % 4294967296, (a1 * 10) / 4294967296, 0, 0, 0] [a0, a1, 0, 0, 0, 0] [10, 0, 0, 0, 0, 0] false false 1 2 0 a1 0 rfl rfl (by decide) (by decide) rfl (z _) (by omega)
  rw [Int.mul_zero, Int.add_zero] at s8
  have a9 := add3 (a0 * 10 % 4294967296) (a0 * 10 / 4294967296) 0 0 ((a1 * 10) % 4294967296) ((a1 * 10) / 4294967296) (by omega) (by omega) ⟨by decide, by decide⟩ ⟨by decide, by decide⟩ (by omega) (by omega)
  have s9 := times_row 20 [a0 * 10 % 4294967296, a0 * 10 / 4294967296, 0, 0, 0, 0] [0, (a1 * 10) % 4294967296, (a1 * 10) / 4294967296, 0, 0, 0] [a0, a1, 0, 0, 0, 0] [10, 0, 0, 0, 0, 0] _ false false 1 0 (by decide) (add_any 20 (by decide) a9)
  refine (show _ = _ from s0).trans ((show _ = _ from s1).trans ((show _ = _ from s2).trans ((show _ = _ from s3).trans ((show _ = _ from s4).trans ((show _ = _ from s5).trans ((show _ = _ from s6).trans ((show _ = _ from s7).trans ((show _ = _ from s8).trans ((show _ = _ from s9).trans ?_)))))))))
  rw [computusref01_Times.l0, if_neg (by decide), if_neg (by decide)]
  rw [show (a0 * 10 % 4294967296 + 0) % 4294967296 = a0 * 10 % 4294967296 by omega, show (a0 * 10 % 4294967296 + 0) / 4294967296 + a0 * 10 / 4294967296 + a1 * 10 % 4294967296 = a0 * 10 / 4294967296 + a1 * 10 % 4294967296 by omega]
  simp only [Int.add_zero]

end Go.Proofs.Ytndlhoaigaidbaa.Q
