/- The shifts of a foot in a row, and what At and Next answer, in the program and in the reference. -/
import Derived.Test.YtehoammeaimobaaQFoot
import Derived.Test.YtehoammeaimobaaHNext
import Derived.Test.YtehoammeaimobaaHRefAt
set_option linter.unusedVariables false
namespace Go.Proofs.Ytehoammeaimobaa.Q
open Go Go.RowKit Go.Proofs.Ytehoammeaimobaa.D Go.Proofs.YtehoammeaimobaaW.PrintWords Go.Proofs.YtehoammeaimobaaW.PrintLast Go.Proofs.YtehoammeaimobaaW.PrintMore

theorem fine_of {off : Int} {h o : HalfT} (hh : rightH h) (ho : rightH o) (hoff : -50400 ≤ off ∧ off ≤ 50400) : Fine off h.m h.k h.wd h.n h.sec h.kd o.sv := ⟨hh.1, hh.2.1, hh.2.2.1, hoff, ho.2.2.2⟩
/-- The half that shifts first in a year, and the other one. -/
theorem order_is {f : FootT} (hf : rightF f) : ∃ E L : HalfT, rightH E ∧ rightH L ∧ E.m + 2 ≤ L.m ∧ L.m ≤ E.m + 10 ∧ (∀ y, shF f y true = shP f.off E L y) ∧ (∀ y, shF f y false = shP f.off L E y) := by
  obtain ⟨h0, hA, hB, hoff, hm⟩ := hf
  by_cases h : f.A.m < f.B.m
  · refine ⟨f.A, f.B, hA, hB, by omega, by omega, fun y => ?_, fun y => ?_⟩
    · unfold shF; rw [if_pos (decide_eq_true h).symm]
    · unfold shF; rw [if_neg (by rw [decide_eq_true h]; decide)]
  · refine ⟨f.B, f.A, hB, hA, by omega, by omega, fun y => ?_, fun y => ?_⟩
    · unfold shF; rw [if_neg (by rw [decide_eq_false h]; decide)]
    · unfold shF; rw [if_pos (decide_eq_false h).symm]
theorem up_year {f : FootT} (hf : rightF f) (y : Int) : (shF f y true).f0 < (shF f y false).f0 := by
  obtain ⟨E, L, hE, hL, h1, h2, e1, e2⟩ := order_is hf
  rw [e1, e2]
  exact sh_year y (fine_of hE hL hf.2.2.2.1) (fine_of hL hE hf.2.2.2.1) h1
theorem up_next {f : FootT} (hf : rightF f) (y : Int) : (shF f y false).f0 < (shF f (y + 1) true).f0 := by
  obtain ⟨E, L, hE, hL, h1, h2, e1, e2⟩ := order_is hf
  rw [e1, e2]
  exact sh_next y (fine_of hL hE hf.2.2.2.1) (fine_of hE hL hf.2.2.2.1) h2
theorem gap_year {f : FootT} (hf : rightF f) (y : Int) : (shF f y false).f0 - (shF f y true).f0 < 400 * 86400 := by
  obtain ⟨E, L, hE, hL, h1, h2, e1, e2⟩ := order_is hf
  rw [e1, e2]
  exact sh_gap_year y (fine_of hE hL hf.2.2.2.1) (fine_of hL hE hf.2.2.2.1) h2
theorem gap_next {f : FootT} (hf : rightF f) (y : Int) : (shF f (y + 1) true).f0 - (shF f y false).f0 < 400 * 86400 := by
  obtain ⟨E, L, hE, hL, h1, h2, e1, e2⟩ := order_is hf
  rw [e1, e2]
  exact sh_gap_next y (fine_of hL hE hf.2.2.2.1) (fine_of hE hL hf.2.2.2.1) h1
theorem far_is {f : FootT} (hf : rightF f) (y : Int) (b : Bool) (at_ : Int) (h1 : (st y + 10957) * 86400 ≤ at_) (h2 : at_ < (st (y + 1) + 10957) * 86400) : (shF f (y - 2) b).f0 ≤ at_ ∧ at_ < (shF f (y + 2) b).f0 := by
  obtain ⟨E, L, hE, hL, h3, h4, e1, e2⟩ := order_is hf
  cases b
  · rw [e2, e2]; exact sh_far y (fine_of hL hE hf.2.2.2.1) at_ h1 h2
  · rw [e1, e1]; exact sh_far y (fine_of hE hL hf.2.2.2.1) at_ h1 h2
theorem shF_400 (f : FootT) (y : Int) (b : Bool) : (shF f (y + 400) b).f0 = (shF f y b).f0 + 146097 * 86400 ∧ (shF f (y + 400) b).f1 = (shF f y b).f1 ∧ (shF f (y + 400) b).f2 = (shF f y b).f2 ∧ (shF f (y + 400) b).f3 = (shF f y b).f3 := by
  unfold shF
  split
  · exact ⟨shAt_400 _ _ _ _ _ _ _ _ _, rfl, rfl, rfl⟩
  · exact ⟨shAt_400 _ _ _ _ _ _ _ _ _, rfl, rfl, rfl⟩
theorem shF_of (f : FootT) (y : Int) (b : Bool) : ((shF f y b).f1 = f.off + f.A.sv ∧ (shF f y b).f2 = (f.A.sv != 0) ∧ (shF f y b).f3 = f.A.ab) ∨ ((shF f y b).f1 = f.off + f.B.sv ∧ (shF f y b).f2 = (f.B.sv != 0) ∧ (shF f y b).f3 = f.B.ab) := by
  unfold shF
  split
  · exact .inl ⟨rfl, rfl, rfl⟩
  · exact .inr ⟨rfl, rfl, rfl⟩
/-- The shifts in a row: number 2 y is the earlier one of the year y. -/
def sq (f : FootT) (i : Int) : S46 := shF f (i / 2) (decide (i % 2 = 0))
theorem sq_even (f : FootT) (y : Int) : sq f (2 * y) = shF f y true := by
  unfold sq
  rw [show 2 * y / 2 = y by omega, decide_eq_true (by omega)]
theorem sq_odd (f : FootT) (y : Int) : sq f (2 * y + 1) = shF f y false := by
  unfold sq
  rw [show (2 * y + 1) / 2 = y by omega, decide_eq_false (by omega)]
theorem sq_up {f : FootT} (hf : rightF f) (i : Int) : (sq f i).f0 < (sq f (i + 1)).f0 ∧ (sq f (i + 1)).f0 - (sq f i).f0 < 400 * 86400 := by
  rcases (show i = 2 * (i / 2) ∨ i = 2 * (i / 2) + 1 by omega) with h | h
  · have e1 : sq f i = shF f (i / 2) true := by rw [← sq_even]; congr 1
    have e2 : sq f (i + 1) = shF f (i / 2) false := by rw [← sq_odd]; congr 1; omega
    rw [e1, e2]
    exact ⟨up_year hf _, gap_year hf _⟩
  · have e1 : sq f i = shF f (i / 2) false := by rw [← sq_odd]; congr 1
    have e2 : sq f (i + 1) = shF f (i / 2 + 1) true := by rw [← sq_even]; congr 1; omega
    rw [e1, e2]
    exact ⟨up_next hf _, gap_next hf _⟩
theorem sq_nat {f : FootT} (hf : rightF f) (i : Int) (k : Nat) : (sq f i).f0 ≤ (sq f (i + k)).f0 := by
  induction k with
  | zero => simp
  | succ k ih =>
    have := (sq_up hf (i + k)).1
    rw [show i + ((k + 1 : Nat) : Int) = i + k + 1 by omega]
    omega
theorem sq_le {f : FootT} (hf : rightF f) {i j : Int} (h : i ≤ j) : (sq f i).f0 ≤ (sq f j).f0 := by
  have := sq_nat hf i (j - i).toNat
  rwa [show i + ((j - i).toNat : Int) = j by omega] at this
/-- One number alone fits an instant. -/
theorem sq_one {f : FootT} (hf : rightF f) {i j at_ : Int} (h1 : (sq f i).f0 ≤ at_) (h2 : at_ < (sq f (i + 1)).f0) (h3 : (sq f j).f0 ≤ at_) (h4 : at_ < (sq f (j + 1)).f0) : i = j := by
  rcases Int.lt_trichotomy i j with h | h | h
  · have := sq_le hf (i := i + 1) (j := j) (by omega); omega
  · exact h
  · have := sq_le hf (i := j + 1) (j := i) (by omega); omega
theorem sq_find (f : FootT) (at_ : Int) : ∀ (n : Nat) (i : Int), 0 < n → (sq f i).f0 ≤ at_ → at_ < (sq f (i + n)).f0 → ∃ j : Int, i ≤ j ∧ j < i + n ∧ (sq f j).f0 ≤ at_ ∧ at_ < (sq f (j + 1)).f0 := by
  intro n
  induction n with
  | zero => intro i h; omega
  | succ n ih =>
    intro i _ h1 h2
    by_cases h : at_ < (sq f (i + 1)).f0
    · exact ⟨i, by omega, by omega, h1, h⟩
    · have hn : 0 < n := by
        rcases Nat.eq_zero_or_pos n with e | e
        · subst e; exact absurd h2 h
        · exact e
      obtain ⟨j, a, b, c, d⟩ := ih (i + 1) hn (by omega) (by rw [show i + 1 + (n : Int) = i + ((n + 1 : Nat) : Int) by omega]; exact h2)
      exact ⟨j, by omega, by omega, c, d⟩
/-- The ten shifts about a year. -/
def ten (f : FootT) (y : Int) : List S46 := pairs (fun j b => shF f (y - 2 + j) b) 5
theorem ten_len (f : FootT) (y : Int) : (ten f y).length = 10 := pairs_len _ 5
theorem ten_get (f : FootT) (y : Int) (q : Nat) (hq : q < 10) : (ten f y)[q]? = some (sq f (2 * (y - 2) + q)) := by
  have e : ten f y = [sq f (2 * (y - 2) + 0), sq f (2 * (y - 2) + 1), sq f (2 * (y - 2) + 2), sq f (2 * (y - 2) + 3), sq f (2 * (y - 2) + 4), sq f (2 * (y - 2) + 5), sq f (2 * (y - 2) + 6), sq f (2 * (y - 2) + 7), sq f (2 * (y - 2) + 8), sq f (2 * (y - 2) + 9)] := by
    have a : ∀ j : Int, sq f (2 * (y - 2) + 2 * j) = shF f (y - 2 + j) true := fun j => by rw [← sq_even]; congr 1; omega
    have b : ∀ j : Int, sq f (2 * (y - 2) + (2 * j + 1)) = shF f (y - 2 + j) false := fun j => by rw [← sq_odd]; congr 1; omega
    have a0 := a 0
    have a1 := a 1
    have a2 := a 2
    have a3 := a 3
    have a4 := a 4
    have b0 := b 0
    have b1 := b 1
    have b2 := b 2
    have b3 := b 3
    have b4 := b 4
    simp only [Int.mul_zero, Int.mul_one, Int.reduceMul, Int.reduceAdd, Int.zero_add] at a0 a1 a2 a3 a4 b0 b1 b2 b3 b4
    rw [a0, a1, a2, a3, a4, b0, b1, b2, b3, b4]
    rfl
  rw [e]
  rcases (show q = 0 ∨ q = 1 ∨ q = 2 ∨ q = 3 ∨ q = 4 ∨ q = 5 ∨ q = 6 ∨ q = 7 ∨ q = 8 ∨ q = 9 by omega) with rfl | rfl | rfl | rfl | rfl | rfl | rfl | rfl | rfl | rfl <;> rfl
theorem rd_ten (f : FootT) (y : Int) (i : Int) (h0 : 0 ≤ i) (h1 : i < 10) : rd_T46 (ten f y) i = sq f (2 * (y - 2) + i) := by
  unfold rd_T46
  rw [List.getD_eq_getElem?_getD, ten_get f y i.toNat (by omega), Option.getD_some]
  congr 1
  omega
/-- What a prefix of the ten that ends at the first one behind an instant is. -/
theorem ten_split (f : FootT) (hf : rightF f) (y at_ j : Int) (hj : 2 * (y - 2) ≤ j) (hj2 : j + 1 < 2 * (y - 2) + 10) (h1 : (sq f j).f0 ≤ at_) (h2 : at_ < (sq f (j + 1)).f0) (pre : List S46) (x : S46) (hp : pre ++ [x] <+: ten f y) (ha : ∀ z ∈ pre, z.f0 ≤ at_) (hx : at_ < x.f0) :
    lastOf pre = sq f j ∧ x = sq f (j + 1) := by
  obtain ⟨t, ht⟩ := hp
  have hl := ten_len f y
  have hlen : pre.length + 1 ≤ 10 := by rw [← hl, ← ht]; simp
  have gx : (ten f y)[pre.length]? = some x := by rw [← ht]; simp
  have gq : ∀ q, q < pre.length → (ten f y)[q]? = pre[q]? := by
    intro q hq
    rw [← ht, List.append_assoc, List.getElem?_append_left hq]
  have ex : x = sq f (2 * (y - 2) + (pre.length : Nat)) := by
    rw [ten_get f y _ (by omega)] at gx
    exact (Option.some.inj gx).symm
  have hle : j + 1 ≤ 2 * (y - 2) + (pre.length : Nat) := by
    by_cases h : j + 1 ≤ 2 * (y - 2) + (pre.length : Nat)
    · exact h
    · have := sq_le hf (i := 2 * (y - 2) + (pre.length : Nat)) (j := j) (by omega)
      rw [← ex] at this
      omega
  have hge : 2 * (y - 2) + (pre.length : Nat) ≤ j + 1 := by
    by_cases h : 2 * (y - 2) + (pre.length : Nat) ≤ j + 1
    · exact h
    · exfalso
      have hq : (j + 1 - 2 * (y - 2)).toNat < pre.length := by omega
      have g := gq _ hq
      rw [ten_get f y _ (by omega)] at g
      have hm := List.mem_of_getElem? g.symm
      have := ha _ hm
      rw [show 2 * (y - 2) + (((j + 1 - 2 * (y - 2)).toNat : Nat) : Int) = j + 1 by omega] at this
      omega
  have hpl : pre.length = (j + 1 - 2 * (y - 2)).toNat := by omega
  refine ⟨?_, by rw [ex]; congr 1; omega⟩
  unfold lastOf
  have hpos : 0 < pre.length := by omega
  rw [List.getLast?_eq_getElem?, ← gq (pre.length - 1) (by omega), ten_get f y _ (by omega), Option.getD_some]
  congr 1
  omega
end Go.Proofs.Ytehoammeaimobaa.Q
