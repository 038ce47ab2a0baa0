/- The year of an instant, in the program and in the reference. -/
import Derived.Test.YtehoammeaimobaaQRef
set_option linter.unusedVariables false
namespace Go.Proofs.Ytehoammeaimobaa.Q
open Go Go.RowKit Go.Proofs.Ytehoammeaimobaa.D Go.Proofs.YtehoammeaimobaaW.PrintWords Go.Proofs.YtehoammeaimobaaW.PrintLast Go.Proofs.YtehoammeaimobaaW.PrintMore

theorem first_no : dno (-4718) 1 1 = -2453698 := by simp [dno, cum, st]
theorem last_no : dno 294282 12 31 = 106754173 := by simp [dno, cum, st, lp]
theorem st_first : st (-4718) = -2453698 := by simp [st]
theorem st_last : st 294283 = 106754174 := by simp [st]
/-- The year of day n, or the nearest that can be. -/
def YearOf (n y : Int) : Prop := (n < -2453698 ∧ y = -4718) ∨ (106754173 < n ∧ y = 294282) ∨ (-2453698 ≤ n ∧ n ≤ 106754173 ∧ st y ≤ n ∧ n < st (y + 1))
theorem yearOf_one {n y z : Int} (h1 : YearOf n y) (h2 : YearOf n z) : y = z := by
  unfold YearOf at h1 h2
  rcases h1 with ⟨a, rfl⟩ | ⟨a, rfl⟩ | ⟨a, b, c, d⟩ <;> rcases h2 with ⟨e, rfl⟩ | ⟨e, rfl⟩ | ⟨e, f, g, h⟩ <;> first | rfl | (exfalso; omega) | exact year_one c d g h
theorem yearOf_bd {n y : Int} (h : YearOf n y) : -4718 ≤ y ∧ y ≤ 294282 := by
  rcases h with ⟨a, rfl⟩ | ⟨a, rfl⟩ | ⟨a, b, c, d⟩
  · omega
  · omega
  · have e1 := st_first
    have e2 := st_last
    constructor
    · by_cases h : y < -4718
      · have := (st_le (y := y + 1) (z := -4718) (by omega)).1; omega
      · omega
    · by_cases h : 294282 < y
      · have := (st_le (y := 294283) (z := y) (by omega)).1; omega
      · omega
theorem dno_year {y m d : Int} (hm : 1 ≤ m ∧ m ≤ 12) (hd : 1 ≤ d ∧ d ≤ mlen y m) : st y ≤ dno y m d ∧ dno y m d < st (y + 1) := by
  have h1 := cum_bd y m hm.1 (by omega)
  have h2 := cum_succ y m hm.1 hm.2
  have h3 := st_succ y
  have h4 : cum y (m + 1) ≤ cum y 13 := by
    by_cases h : m = 12
    · rw [h]; exact Int.le_refl _
    · have := lp_01 y
      unfold cum
      split <;> split <;> omega
  rw [cum_13] at h4
  unfold dno
  omega
theorem firstf : civil_First.f = some (-2453698) := by
  unfold civil_First.f
  rw [day_is (-4718) 1 1 (by omega) (by omega) (by omega), first_no]; rfl
theorem lastf : civil_Last.f = some 106754173 := by
  unfold civil_Last.f
  rw [day_is 294282 12 31 (by omega) (by omega) (by omega), last_no]; rfl
theorem i64_q (a : Int) (h1 : -9223372036854775808 ≤ a) (h2 : a ≤ 9223372036854775807) : fire_floor.f a = some (a / 86400) := by
  unfold fire_floor.f
  rw [Int.tdiv_eq_ediv, Int.tmod_eq_emod]
  by_cases h : 0 ≤ a ∨ (86400 : Int) ∣ a
  · rw [if_pos h, if_pos h, if_neg (by simp; omega), w64 _ (by omega) (by omega)]
    exact some1 (by omega)
  · rw [if_neg h, if_neg h, show Int.sign 86400 = 1 from rfl, show (((86400 : Int).natAbs : Nat) : Int) = 86400 from rfl, if_pos (by omega)]
    simp (disch := omega) only [w64]
    exact some1 (by omega)
theorem yearAt_is (a : Int) (h1 : -9223372036854775808 ≤ a) (h2 : a ≤ 9223372036854775807) : ∃ y, fire_YearAt.f a = some y ∧ YearOf (a / 86400 - 10957) y := by
  unfold fire_YearAt.f
  rw [i64_q a h1 h2, firstf, lastf]
  simp only [Option.bind_some]
  rw [w64 _ (by omega) (by omega)]
  generalize hn : a / 86400 - 10957 = n
  have hd : mn (mx n (-2453698)) 106754173 = if n < -2453698 then -2453698 else if 106754173 < n then 106754173 else n := by
    unfold mn mx
    split <;> split <;> omega
  have hd1 : -2453698 ≤ mn (mx n (-2453698)) 106754173 ∧ mn (mx n (-2453698)) 106754173 ≤ 106754173 := by
    rw [hd]; split
    · omega
    · split <;> omega
  generalize mn (mx n (-2453698)) 106754173 = d at hd hd1 ⊢
  obtain ⟨Y, M, D, hp, m1, m2, d1, d2, hdn⟩ := parts_is d (by omega)
  refine ⟨Y, ?_, ?_⟩
  · unfold civil_Date.f civil_can.f
    rw [firstf, lastf]
    simp only [Option.bind_some]
    rw [if_pos (by omega), Option.bind_some, if_pos (decide_eq_true (by omega)), hp]
    rfl
  · have hy := dno_year (y := Y) ⟨m1, m2⟩ ⟨d1, d2⟩
    rw [hdn] at hy
    unfold YearOf
    by_cases a1 : n < -2453698
    · left
      rw [if_pos a1] at hd
      refine ⟨a1, year_one hy.1 hy.2 ?_ ?_⟩
      · rw [hd, st_first]; omega
      · rw [hd]; have := (st_le (y := -4718) (z := -4718 + 1) (by omega)).1; rw [st_first] at this; omega
    · rw [if_neg a1] at hd
      by_cases a2 : 106754173 < n
      · right; left
        rw [if_pos a2] at hd
        refine ⟨a2, year_one hy.1 hy.2 ?_ ?_⟩
        · rw [hd]; have := (dno_year (y := 294282) (m := 12) (d := 31) (by omega) (by simp [mlen])).1; rw [last_no] at this; exact this
        · rw [hd, show (294282 : Int) + 1 = 294283 from rfl, st_last]; omega
      · right; right
        rw [if_neg a2] at hd
        subst hd
        exact ⟨by omega, by omega, hy.1, hy.2⟩
theorem date_loop (k0 : Nat) : ∀ (d k : Nat) (y l : Int), -10000 ≤ y → y ≤ 400000 - d → 0 ≤ l → l < st (y + d + 1) - st y → d + k0 < k → ∃ (Y L : Int) (q : Nat), k0 ≤ q ∧ computusref02_Date.l0 k y l = computusref02_Date.j1 q Y L ∧ st Y + L = st y + l ∧ 0 ≤ L ∧ L < 365 + lp Y ∧ y ≤ Y ∧ Y ≤ y + d := by
  intro d
  induction d with
  | zero =>
    intro k y l hy hy2 hl hl2 hk
    obtain ⟨k, rfl⟩ : ∃ q, k = q + 1 := ⟨k - 1, by omega⟩
    have hs := st_succ y
    have h01 := lp_01 y
    rw [show y + ((0 : Nat) : Int) + 1 = y + 1 by omega, hs] at hl2
    refine ⟨y, l, k, by omega, ?_, rfl, hl, by omega, by omega, by omega⟩
    rw [computusref02_Date.l0, rleap_is y (by omega) (by omega), Option.bind_some]
    by_cases h : lp y = 1
    · rw [if_pos (decide_eq_true h), if_pos (by omega)]
    · rw [if_neg (by simpa using h), if_pos (by omega)]
  | succ d ih =>
    intro k y l hy hy2 hl hl2 hk
    obtain ⟨k, rfl⟩ : ∃ q, k = q + 1 := ⟨k - 1, by omega⟩
    have hs := st_succ y
    have h01 := lp_01 y
    by_cases hlt : l < 365 + lp y
    · refine ⟨y, l, k, by omega, ?_, rfl, hl, hlt, by omega, by omega⟩
      rw [computusref02_Date.l0, rleap_is y (by omega) (by omega), Option.bind_some]
      by_cases h : lp y = 1
      · rw [if_pos (decide_eq_true h), if_pos (by omega)]
      · rw [if_neg (by simpa using h), if_pos (by omega)]
    · rw [show y + ((d + 1 : Nat) : Int) + 1 = y + 1 + d + 1 by omega] at hl2
      obtain ⟨Y, L, q, hq, he, h1, h2, h3, h4, h5⟩ := ih k (y + 1) (l - (365 + lp y)) (by omega) (by omega) (by omega) (by omega) (by omega)
      have hbig := st_le (y := y + 1) (z := y + 1 + d + 1) (by omega)
      refine ⟨Y, L, q, hq, ?_, by omega, h2, h3, by omega, by omega⟩
      rw [computusref02_Date.l0, rleap_is y (by omega) (by omega), Option.bind_some]
      by_cases h : lp y = 1
      · rw [if_pos (decide_eq_true h), if_neg (by omega), w64 (y + 1) (by omega) (by omega), w64 (l - 366) (by omega) (by omega), ← he, h, show (365 : Int) + 1 = 366 from rfl]
      · rw [if_neg (by simpa using h), if_neg (by omega), w64 (y + 1) (by omega) (by omega), w64 (l - 365) (by omega) (by omega), ← he, show lp y = 0 by omega, Int.add_zero]
theorem month_loop (y : Int) (hy : -1000000 ≤ y ∧ y ≤ 1000000) : ∀ (d k : Nat) (l m : Int), 1 ≤ m → m + d = 12 → 0 ≤ l → l < cum y 13 - cum y m → d + 3 < k → ∃ M D, computusref02_Date.l1 k y l m = some (y, M, D, 0) ∧ 1 ≤ M ∧ M ≤ 12 ∧ 1 ≤ D ∧ D ≤ mlen y M ∧ cum y M + D - 1 = cum y m + l := by
  intro d
  induction d with
  | zero =>
    intro k l m hm hmd hl hl2 hk
    obtain ⟨k, rfl⟩ : ∃ q, k = q + 1 := ⟨k - 1, by omega⟩
    obtain rfl : m = 12 := by omega
    have hc := cum_succ y 12 (by omega) (by omega)
    rw [show (12 : Int) + 1 = 13 from rfl] at hc
    have hb := mlen_bd y 12
    refine ⟨12, l + 1, ?_, by omega, by omega, by omega, by omega, by omega⟩
    rw [computusref02_Date.l1, rlen_is y 12 (by omega) (by omega) k (by omega), Option.bind_some, if_neg (by omega), w64 _ (by omega) (by omega)]
  | succ d ih =>
    intro k l m hm hmd hl hl2 hk
    obtain ⟨k, rfl⟩ : ∃ q, k = q + 1 := ⟨k - 1, by omega⟩
    have hc := cum_succ y m hm (by omega)
    have hb := mlen_bd y m
    have hcb := cum_bd y 13 (by omega) (by omega)
    have hcm := cum_bd y m hm (by omega)
    by_cases hlt : l < mlen y m
    · refine ⟨m, l + 1, ?_, by omega, by omega, by omega, by omega, by omega⟩
      rw [computusref02_Date.l1, rlen_is y m (by omega) (by omega) k (by omega), Option.bind_some, if_neg (by omega), w64 _ (by omega) (by omega)]
    · obtain ⟨M, D, he, a, b, c, e, f⟩ := ih k (l - mlen y m) (m + 1) (by omega) (by omega) (by omega) (by omega) (by omega)
      refine ⟨M, D, ?_, a, b, c, e, by omega⟩
      rw [computusref02_Date.l1, rlen_is y m (by omega) (by omega) k (by omega), Option.bind_some, if_pos (by omega), Option.bind_some, w64 _ (by omega) (by omega), w64 _ (by omega) (by omega)]
      exact he
theorem rfirst (k : Nat) (hk : 400 ≤ k) : computusref02_First.f k = some (-2453698) := by
  unfold computusref02_First.f
  rw [rday_is (-4718) 1 1 (by omega) (by omega) (by omega) k hk, first_no]; rfl
theorem rlast (k : Nat) (hk : 400 ≤ k) : computusref02_Last.f k = some 106754173 := by
  unfold computusref02_Last.f
  rw [rday_is 294282 12 31 (by omega) (by omega) (by omega) k hk, last_no]; rfl
theorem rdate_no (n : Int) (h : n < -2453698 ∨ 106754173 < n) (k : Nat) (hk : 1000 ≤ k) : computusref02_Date.f k n = some (0, 0, 0, 10) := by
  unfold computusref02_Date.f computusref02_Can.f
  rw [rfirst k (by omega), rlast k (by omega)]
  simp only [Option.bind_some]
  by_cases h1 : n < -2453698
  · rw [if_neg (by omega), Option.bind_some, if_neg (by decide)]
  · rw [if_pos (by omega), Option.bind_some, if_neg (by simp; omega)]
theorem rdate_is (n : Int) (h1 : -2453698 ≤ n) (h2 : n ≤ 106754173) (k : Nat) (hk : 1000 ≤ k) : ∃ Y M D, computusref02_Date.f k n = some (Y, M, D, 0) ∧ 1 ≤ M ∧ M ≤ 12 ∧ 1 ≤ D ∧ D ≤ mlen Y M ∧ dno Y M D = n := by
  unfold computusref02_Date.f computusref02_Can.f
  rw [rfirst k (by omega), rlast k (by omega)]
  simp only [Option.bind_some]
  rw [if_pos (by omega), Option.bind_some, if_pos (decide_eq_true h2), divEra n (by omega) (by omega), mod_is n 146097 (by decide) (by decide) (by omega) (by omega)]
  simp only [Option.bind_some]
  simp (disch := omega) only [w64]
  have e4 : st (2000 + n / 146097 * 400 + (399 : Nat) + 1) = st (2000 + n / 146097 * 400) + 146097 := by
    rw [show 2000 + n / 146097 * 400 + ((399 : Nat) : Int) + 1 = 2000 + n / 146097 * 400 + 400 by omega, st_400]
  have e5 : st (2000 + n / 146097 * 400) = n / 146097 * 146097 := by unfold st; omega
  obtain ⟨Y, L, q, hq, he, a, b, c, d, e⟩ := date_loop 40 399 k (2000 + n / 146097 * 400) (n % 146097) (by omega) (by omega) (by omega) (by omega) (by omega)
  obtain ⟨q, rfl⟩ : ∃ r, q = r + 1 := ⟨q - 1, by omega⟩
  rw [he, computusref02_Date.j1]
  obtain ⟨M, D, hm, f, g, h, i, j⟩ := month_loop Y (by omega) 11 q L 1 (by omega) (by omega) b (by rw [cum_13, cum_1]; omega) (by omega)
  refine ⟨Y, M, D, hm, f, g, h, i, ?_⟩
  rw [cum_1] at j
  unfold dno
  omega
theorem ryear_is (a : Int) (h1 : -9223372036854775808 ≤ a) (h2 : a ≤ 9223372036854775807) (k : Nat) (hk : 1001 ≤ k) : ∃ y, computusref09_YearAt.f k a = some y ∧ YearOf (a / 86400 - 10957) y := by
  obtain ⟨k, rfl⟩ : ∃ q, k = q + 1 := ⟨k - 1, by omega⟩
  have hj : computusref09_YearAt.f (k + 1) a = computusref09_YearAt.j0 (k + 1) (a / 86400) := by
    unfold computusref09_YearAt.f
    rw [Int.tdiv_eq_ediv, Int.tmod_eq_emod]
    by_cases h : 0 ≤ a ∨ (86400 : Int) ∣ a
    · rw [if_pos h, if_pos h, if_neg (by simp; omega), w64 _ (by omega) (by omega), Int.add_zero]
    · rw [if_neg h, if_neg h, show Int.sign 86400 = 1 from rfl, show (((86400 : Int).natAbs : Nat) : Int) = 86400 from rfl, if_pos (by omega)]
      simp (disch := omega) only [w64]
      rw [show a / 86400 + 1 - 1 = a / 86400 by omega]
  rw [hj, computusref09_YearAt.j0, rfirst k (by omega), Option.bind_some, w64 _ (by omega) (by omega)]
  generalize a / 86400 - 10957 = n
  by_cases a1 : n < -2453698
  · exact ⟨_, by rw [if_pos a1], .inl ⟨a1, rfl⟩⟩
  · rw [if_neg a1]
    by_cases a2 : 106754173 < n
    · rw [rdate_no n (.inr a2) k (by omega)]
      exact ⟨_, rfl, .inr (.inl ⟨a2, rfl⟩)⟩
    · obtain ⟨Y, M, D, hd, m1, m2, d1, d2, hdn⟩ := rdate_is n (by omega) (by omega) k (by omega)
      rw [hd]
      have hy := dno_year (y := Y) ⟨m1, m2⟩ ⟨d1, d2⟩
      rw [hdn] at hy
      exact ⟨_, rfl, .inr (.inr ⟨by omega, by omega, hy.1, hy.2⟩)⟩
end Go.Proofs.Ytehoammeaimobaa.Q
