/- What the reference's calendar computes, by the plain laws; and the year of an instant, in both. -/
import Derived.Test.YtehoammeaimobaaQDate
set_option linter.unusedVariables false
namespace Go.Proofs.Ytehoammeaimobaa.Q
open Go Go.RowKit Go.Proofs.Ytehoammeaimobaa.D Go.Proofs.YtehoammeaimobaaW.PrintWords Go.Proofs.YtehoammeaimobaaW.PrintLast Go.Proofs.YtehoammeaimobaaW.PrintMore

theorem mod_is (a b : Int) (hb : 0 < b) (hb2 : b ≤ 1000000) (h1 : -4000000000000 ≤ a) (h2 : a ≤ 4000000000000) : computusref02_mod.f a b = some (a % b) := by
  have e1 := Int.emod_nonneg a (b := b) (by omega)
  have e2 := Int.emod_lt_of_pos a hb
  have e3 : ((b.natAbs : Nat) : Int) = b := by omega
  unfold computusref02_mod.f
  rw [if_neg (by omega), Int.tmod_eq_emod]
  by_cases h : 0 ≤ a ∨ b ∣ a
  · rw [if_pos h, if_neg (by simp; omega)]
    exact some1 (by simp)
  · rw [if_neg h, e3, if_pos (by omega), w64 _ (by omega) (by omega)]
    exact some1 (by omega)
theorem div400 (a : Int) (h1 : -4000000000000 ≤ a) (h2 : a ≤ 4000000000000) : computusref02_div.f a 400 = some (a / 400) := by
  unfold computusref02_div.f
  rw [if_neg (by decide), Int.tdiv_eq_ediv, Int.tmod_eq_emod]
  by_cases h : 0 ≤ a ∨ (400 : Int) ∣ a
  · rw [if_pos h, if_pos h, if_neg (by simp; omega), w64 _ (by omega) (by omega)]
    exact some1 (by omega)
  · rw [if_neg h, if_neg h, show Int.sign 400 = 1 from rfl, show (((400 : Int).natAbs : Nat) : Int) = 400 from rfl, if_pos (by omega)]
    simp (disch := omega) only [w64]
    exact some1 (by omega)
theorem divEra (a : Int) (h1 : -4000000000000 ≤ a) (h2 : a ≤ 4000000000000) : computusref02_div.f a 146097 = some (a / 146097) := by
  unfold computusref02_div.f
  rw [if_neg (by decide), Int.tdiv_eq_ediv, Int.tmod_eq_emod]
  by_cases h : 0 ≤ a ∨ (146097 : Int) ∣ a
  · rw [if_pos h, if_pos h, if_neg (by simp; omega), w64 _ (by omega) (by omega)]
    exact some1 (by omega)
  · rw [if_neg h, if_neg h, show Int.sign 146097 = 1 from rfl, show (((146097 : Int).natAbs : Nat) : Int) = 146097 from rfl, if_pos (by omega)]
    simp (disch := omega) only [w64]
    exact some1 (by omega)
theorem rleap_is (y : Int) (h1 : -4000000000 ≤ y) (h2 : y ≤ 4000000000) : computusref02_Leap.f y = some (decide (lp y = 1)) := by
  unfold computusref02_Leap.f
  rw [mod_is y 4 (by decide) (by decide) (by omega) (by omega), mod_is y 100 (by decide) (by decide) (by omega) (by omega), mod_is y 400 (by decide) (by decide) (by omega) (by omega)]
  simp only [Option.bind_some]
  unfold lp
  by_cases h4 : y % 4 = 0
  · rw [if_pos h4]
    by_cases h100 : y % 100 = 0
    · rw [if_pos h100]
      by_cases h400 : y % 400 = 0
      · rw [if_pos ⟨h4, .inr h400⟩, beq_iff_eq.2 h400]; rfl
      · rw [if_neg (by omega), beq_eq_false_iff_ne.2 h400]; rfl
    · rw [if_neg h100, if_pos ⟨h4, .inl h100⟩]; rfl
  · rw [if_neg h4, if_neg (by omega)]; rfl
theorem rlen_is (y m : Int) (hy : -4000000000 ≤ y ∧ y ≤ 4000000000) (hm : 1 ≤ m ∧ m ≤ 12) (k : Nat) (hk : 2 ≤ k) : computusref02_Len.f k y m = some (mlen y m) := by
  obtain ⟨k, rfl⟩ : ∃ q, k = q + 2 := ⟨k - 2, by omega⟩
  have hl := rleap_is y hy.1 hy.2
  have h01 := lp_01 y
  have h2 : (computusref02_Leap.f y).bind (fun t173 => (if t173 = true then (some 29 : Option Int) else (some 28))) = some (28 + lp y) := by
    rw [hl, Option.bind_some]
    by_cases h : lp y = 1
    · rw [if_pos (decide_eq_true h), h]; rfl
    · rw [if_neg (by simpa using h), show lp y = 0 by omega]; rfl
  rcases months hm.1 hm.2 with rfl | rfl | rfl | rfl | rfl | rfl | rfl | rfl | rfl | rfl | rfl | rfl
  all_goals simp [computusref02_Len.f, computusref02_Len.j0, computusref02_Len.j1, mlen]
  exact h2
theorem start_loop (y : Int) (hy : -1000000 ≤ y ∧ y ≤ 1000000) (B : Int) (hB : -1000000000 ≤ B ∧ B ≤ 1000000000) : ∀ (d k : Nat) (j : Int), 0 ≤ j → j + d = (y - 2000) % 400 → d < k → computusref02_start.l0 k y (B + st (2000 + j)) j = some (B + st (2000 + (y - 2000) % 400)) := by
  intro d
  induction d with
  | zero =>
    intro k j h0 hj hk
    obtain ⟨k, rfl⟩ : ∃ q, k = q + 1 := ⟨k - 1, by omega⟩
    rw [computusref02_start.l0, w64 (y - 2000) (by omega) (by omega), mod_is _ 400 (by decide) (by decide) (by omega) (by omega), Option.bind_some, if_neg (by omega), show j = (y - 2000) % 400 by omega]
  | succ d ih =>
    intro k j h0 hj hk
    obtain ⟨k, rfl⟩ : ∃ q, k = q + 1 := ⟨k - 1, by omega⟩
    have hs := st_succ (2000 + j)
    have h01 := lp_01 (2000 + j)
    have hb := st_le (y := 2000) (z := 2000 + j) (by omega)
    rw [st_2000] at hb
    have hi := ih k (j + 1) (by omega) (by omega) (by omega)
    rw [show 2000 + (j + 1) = 2000 + j + 1 by omega, hs] at hi
    rw [computusref02_start.l0, w64 (y - 2000) (by omega) (by omega), mod_is _ 400 (by decide) (by decide) (by omega) (by omega), Option.bind_some, if_pos (by omega), w64 (2000 + j) (by omega) (by omega), rleap_is _ (by omega) (by omega), Option.bind_some]
    by_cases h : lp (2000 + j) = 1
    · rw [if_pos (decide_eq_true h), w64 (_ + 365) (by omega) (by omega), w64 (_ + 1) (by omega) (by omega), w64 (j + 1) (by omega) (by omega)]
      rw [h] at hi
      rw [← hi]
      congr 1
      omega
    · rw [if_neg (by simpa using h), w64 (_ + 365) (by omega) (by omega), w64 (j + 1) (by omega) (by omega)]
      rw [show lp (2000 + j) = 0 by omega] at hi
      rw [← hi]
      congr 1
      omega
theorem start_is (y : Int) (hy : -1000000 ≤ y ∧ y ≤ 1000000) (k : Nat) (hk : 400 ≤ k) : computusref02_start.f k y = some (st y) := by
  unfold computusref02_start.f
  rw [w64 (y - 2000) (by omega) (by omega), div400 _ (by omega) (by omega), Option.bind_some, w64 _ (by omega) (by omega)]
  have h := start_loop y hy ((y - 2000) / 400 * 146097) (by omega) ((y - 2000) % 400).toNat k 0 (by omega) (by omega) (by omega)
  rw [show (2000 : Int) + 0 = 2000 from rfl, st_2000, Int.add_zero] at h
  rw [h]
  refine some1 ?_
  unfold st
  omega
theorem day_loop (y : Int) (hy : -1000000 ≤ y ∧ y ≤ 1000000) (B : Int) (hB : -1000000000 ≤ B ∧ B ≤ 1000000000) (m : Int) (hm : m ≤ 12) : ∀ (d k : Nat) (j : Int), 1 ≤ j → j + d = m → d + 3 < k → computusref02_day.l0 k y m (B + cum y j) j = some (B + cum y m) := by
  intro d
  induction d with
  | zero =>
    intro k j h0 hj hk
    obtain ⟨k, rfl⟩ : ∃ q, k = q + 1 := ⟨k - 1, by omega⟩
    rw [computusref02_day.l0, if_neg (by omega), show j = m by omega]
  | succ d ih =>
    intro k j h0 hj hk
    obtain ⟨k, rfl⟩ : ∃ q, k = q + 1 := ⟨k - 1, by omega⟩
    have hc := cum_succ y j h0 (by omega)
    have hb := cum_bd y j h0 (by omega)
    have hl := mlen_bd y j
    have hi := ih k (j + 1) (by omega) (by omega) (by omega)
    rw [hc] at hi
    rw [computusref02_day.l0, if_pos (by omega), rlen_is y j (by omega) (by omega) k (by omega), Option.bind_some, w64 _ (by omega) (by omega), w64 (j + 1) (by omega) (by omega), show B + cum y j + mlen y j = B + (cum y j + mlen y j) by omega]
    exact hi
theorem st_bd (y : Int) (hy : -1000000 ≤ y ∧ y ≤ 1000000) : -400000000 ≤ st y ∧ st y ≤ 400000000 := by unfold st; omega
theorem rday_is (y m d : Int) (hy : -1000000 ≤ y ∧ y ≤ 1000000) (hm : 1 ≤ m ∧ m ≤ 12) (hd : 0 ≤ d ∧ d ≤ 100) (k : Nat) (hk : 400 ≤ k) : computusref02_day.f k y m d = some (dno y m d) := by
  have hb := st_bd y hy
  unfold computusref02_day.f
  rw [start_is y hy k hk, Option.bind_some, w64 (st y + d) (by omega) (by omega), w64 (st y + d - 1) (by omega) (by omega)]
  have h := day_loop y hy (st y + d - 1) (by omega) m hm.2 (m - 1).toNat k 1 (by omega) (by omega) (by omega)
  rw [cum_1, Int.add_zero] at h
  rw [h]
  refine some1 ?_
  unfold dno
  omega
theorem rdays_is (y m d : Int) (hy : -4718 ≤ y ∧ y ≤ 294282) (hm : 1 ≤ m ∧ m ≤ 12) (hd : 1 ≤ d ∧ d ≤ mlen y m) (k : Nat) (hk : 400 ≤ k) : computusref02_Days.f k y m d = some (dno y m d, 0) := by
  have := mlen_bd y m
  unfold computusref02_Days.f computusref02_Right.f
  rw [if_pos (by omega), if_pos (by omega), if_pos (by omega), if_pos (by omega), if_pos (by omega), rlen_is y m (by omega) hm k (by omega), Option.bind_some, Option.bind_some, if_pos (decide_eq_true hd.2), rday_is y m d (by omega) hm (by omega) k hk, Option.bind_some]
theorem rweekday_is (n : Int) (h1 : -4000000000000 ≤ n) (h2 : n ≤ 4000000000000) : computusref02_Weekday.f n = some (wday n) := by
  unfold computusref02_Weekday.f
  rw [mod_is n 7 (by decide) (by decide) h1 h2, Option.bind_some, w64 _ (by omega) (by omega), mod_is _ 7 (by decide) (by decide) (by omega) (by omega), Option.bind_some]
  refine some1 ?_
  unfold wday
  omega
end Go.Proofs.Ytehoammeaimobaa.Q
