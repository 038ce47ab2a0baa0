/- The day that a rule names, and whether a foot can be: the program and the reference, by the plain laws. -/
import Derived.Test.YtehoammeaimobaaQYear
import Derived.Test.YtehoammeaimobaaHShift
import Derived.Test.YtehoammeaimobaaHOpq
import Derived.Test.YtehoammeaimobaaHRefYear
set_option linter.unusedVariables false
namespace Go.Proofs.Ytehoammeaimobaa.Q
open Go Go.RowKit Go.Proofs.Ytehoammeaimobaa.D Go.Proofs.YtehoammeaimobaaW.PrintWords Go.Proofs.YtehoammeaimobaaW.PrintLast Go.Proofs.YtehoammeaimobaaW.PrintMore

theorem wday_up (x : Int) : wday (x + 1) = (wday x + 1) % 7 := by unfold wday; omega
theorem wday_down (x : Int) : wday (x - 1) = (wday x + 6) % 7 := by unfold wday; omega
theorem formOk_is (k wd n : Int) : formOk k wd n = decide (rightOn k wd n) := by
  rw [Bool.eq_iff_iff, decide_eq_true_eq]
  unfold formOk dayOk wdOk rightOn
  simp only [Bool.or_eq_true, Bool.and_eq_true, beq_iff_eq, decide_eq_true_eq]
  omega
theorem dno_bd (y m d : Int) (hy : -1000000 ≤ y ∧ y ≤ 1000000) (hm : 1 ≤ m ∧ m ≤ 12) (hd : -100 ≤ d ∧ d ≤ 100) : -500000000 ≤ dno y m d ∧ dno y m d ≤ 500000000 := by
  have h1 := st_bd y hy
  have h2 := cum_bd y m hm.1 (by omega)
  unfold dno
  omega
theorem dno_shift (y m d : Int) : dno y m 1 + d - 1 = dno y m d := by unfold dno; omega
theorem when_is (y m k wd n : Int) (h : rightOn k wd n) (hm : 1 ≤ m ∧ m ≤ 12) (hy : -4718 < y ∧ y < 294282) (q : Nat) (hq : 8 ≤ q) : when_Day.f q y m k wd n = some (ruleDay y m k wd n, 0) := by
  have hml := mlen_bd y m
  have hb := dno_bd y m 1 (by omega) hm (by omega)
  unfold when_Day.f
  rw [if_neg (by rw [formOk_is, decide_eq_true h]; decide), if_neg (by omega), if_neg (by omega), if_neg (by omega), if_neg (by omega), days_is y m 1 (by omega) hm (by omega), Option.bind_some]
  simp only []
  unfold rightOn at h
  unfold ruleDay
  rcases h with ⟨rfl, rfl, h1, h2⟩ | ⟨rfl, rfl, h1, h2⟩ | ⟨rfl | rfl, h1, h2, h3, h4⟩
  · rw [if_pos rfl, if_pos rfl, w64 (dno y m 1 + n) (by omega) (by omega), w64 _ (by omega) (by omega), dno_shift]
  · rw [if_neg (by omega), if_pos rfl, if_neg (by omega), if_pos rfl, len_is y m hm, Option.bind_some, w64 (dno y m 1 + mlen y m) (by omega) (by omega), w64 _ (by omega) (by omega), dno_shift]
    have hb2 := dno_bd y m (mlen y m) (by omega) hm (by omega)
    rw [to_down _ wd ⟨h1, h2⟩ (by omega) q hq]; rfl
  · rw [if_neg (by decide), if_neg (by decide), if_pos rfl, if_neg (by decide), if_neg (by decide), if_pos rfl, w64 (dno y m 1 + n) (by omega) (by omega), w64 _ (by omega) (by omega), dno_shift]
    have hb2 := dno_bd y m n (by omega) hm (by omega)
    rw [to_up _ wd ⟨h1, h2⟩ (by omega) q hq]; rfl
  · rw [if_neg (by decide), if_neg (by decide), if_neg (by decide), if_neg (by decide), if_neg (by decide), if_neg (by decide), w64 (dno y m 1 + n) (by omega) (by omega), w64 _ (by omega) (by omega), dno_shift]
    have hb2 := dno_bd y m n (by omega) hm (by omega)
    rw [to_down _ wd ⟨h1, h2⟩ (by omega) q hq]; rfl
theorem ron_is (k wd n : Int) (q : Nat) (hq : 2 ≤ q) : computusref07_RightOn.f q k wd n = some (decide (rightOn k wd n)) := by
  obtain ⟨q, rfl⟩ : ∃ r, q = r + 2 := ⟨q - 2, by omega⟩
  have e : ∀ (a b : Bool), computusref07_RightOn.j1 (q + 1) a b k wd n = some (if k = 0 then (b && decide (wd = 0)) else if k = 1 then (a && decide (n = 0)) else if k = 2 then (a && b) else if k = 3 then (a && b) else false) := by
    intro a b
    rw [computusref07_RightOn.j1]
    by_cases h0 : k = 0
    · rw [if_pos h0, if_pos h0]; cases b <;> simp <;> rfl
    · rw [if_neg h0, if_neg h0]
      by_cases h1 : k = 1
      · rw [if_pos h1, if_pos h1]; cases a <;> simp <;> rfl
      · rw [if_neg h1, if_neg h1]
        by_cases h2 : k = 2
        · rw [if_pos h2, if_pos h2]; cases a <;> simp
        · rw [if_neg h2, if_neg h2]
          by_cases h3 : k = 3
          · rw [if_pos h3, if_pos h3]; cases a <;> simp
          · rw [if_neg h3, if_neg h3]
  have e0 : ∀ a : Bool, computusref07_RightOn.j0 (q + 2) a k wd n = computusref07_RightOn.j1 (q + 1) a (decide (1 ≤ n ∧ n ≤ 31)) k wd n := by
    intro a
    rw [computusref07_RightOn.j0]
    by_cases h : n ≥ 1
    · rw [if_pos h, show decide (n ≤ 31) = decide (1 ≤ n ∧ n ≤ 31) by simp; omega]
    · rw [if_neg h, show decide (1 ≤ n ∧ n ≤ 31) = false by simp; omega]
  have e1 : computusref07_RightOn.f (q + 2) k wd n = computusref07_RightOn.j0 (q + 2) (decide (0 ≤ wd ∧ wd ≤ 6)) k wd n := by
    unfold computusref07_RightOn.f
    by_cases h : wd ≥ 0
    · rw [if_pos h, show decide (wd ≤ 6) = decide (0 ≤ wd ∧ wd ≤ 6) by simp; omega]
    · rw [if_neg h, show decide (0 ≤ wd ∧ wd ≤ 6) = false by simp; omega]
  rw [e1, e0, e]
  refine congrArg some ?_
  rw [Bool.eq_iff_iff, decide_eq_true_eq]
  unfold rightOn
  by_cases h0 : k = 0
  · rw [if_pos h0]; simp only [Bool.and_eq_true, decide_eq_true_eq]; omega
  · rw [if_neg h0]
    by_cases h1 : k = 1
    · rw [if_pos h1]; simp only [Bool.and_eq_true, decide_eq_true_eq]; omega
    · rw [if_neg h1]
      by_cases h2 : k = 2
      · rw [if_pos h2]; simp only [Bool.and_eq_true, decide_eq_true_eq]; omega
      · rw [if_neg h2]
        by_cases h3 : k = 3
        · rw [if_pos h3]; simp only [Bool.and_eq_true, decide_eq_true_eq]; omega
        · rw [if_neg h3]; simp only [Bool.false_eq_true, false_iff]; omega
theorem rat_is (s k : Int) : computusref07_RightAt.f s k = some (decide (rightAt s k)) := by
  unfold computusref07_RightAt.f
  by_cases h1 : s ≥ 0
  · rw [if_pos h1]
    by_cases h2 : s ≤ 86400
    · rw [if_pos h2]
      by_cases h3 : k = 119
      · rw [if_pos h3]; exact congrArg some (decide_eq_true (p := rightAt s k) ⟨h1, h2, .inl h3⟩).symm
      · rw [if_neg h3]
        by_cases h4 : k = 115
        · rw [if_pos h4]; exact congrArg some (decide_eq_true (p := rightAt s k) ⟨h1, h2, .inr (.inl h4)⟩).symm
        · rw [if_neg h4]
          refine congrArg some ?_
          rw [Bool.eq_iff_iff, decide_eq_true_eq, beq_iff_eq]
          unfold rightAt
          omega
    · rw [if_neg h2]; exact congrArg some (decide_eq_false (p := rightAt s k) (fun h => h2 h.2.1)).symm
  · rw [if_neg h1]; exact congrArg some (decide_eq_false (p := rightAt s k) (fun h => h1 h.1)).symm
theorem at_is (s k : Int) : when_At_right.f s k = some (decide (rightAt s k)) := rat_is s k
/-- The reference's day. -/
theorem rwhen_loop (y m wd n : Int) (hw : 0 ≤ wd ∧ wd ≤ 6) (up : Bool) (k : Int) (hk : k = if up then 2 else 3) : ∀ (r q : Nat) (x : Int) (i : Int), -1000000100 + r ≤ x → x ≤ 1000000100 - r → 0 ≤ i → i + r ≤ 6 → 2 * r + 2 < q → (if up then (wd - wday x) % 7 else (wday x - wd) % 7) = r →
    computusref07_Day.l0 q x i k wd n = some (if up then x + r else x - r, 0) := by
  intro r
  induction r with
  | zero =>
    intro q x i h1 h2 h3 h4 hq hr
    obtain ⟨q, rfl⟩ : ∃ s, q = s + 2 := ⟨q - 2, by omega⟩
    have := wday_bd x
    have e : wday x = wd := by cases up <;> simp at hr <;> omega
    rw [computusref07_Day.l0, if_pos (by omega), if_pos (by cases up <;> simp at hk <;> omega), rweekday_is x (by omega) (by omega), Option.bind_some, e, computusref07_Day.j4, if_neg (by simp)]
    cases up <;> simp
  | succ r ih =>
    intro q x i h1 h2 h3 h4 hq hr
    obtain ⟨q, rfl⟩ : ∃ s, q = s + 2 := ⟨q - 2, by omega⟩
    have := wday_bd x
    have e : wday x ≠ wd := by intro e; cases up <;> simp at hr <;> omega
    rw [computusref07_Day.l0, if_pos (by omega), if_pos (by cases up <;> simp at hk <;> omega), rweekday_is x (by omega) (by omega), Option.bind_some, bne_iff_ne.2 e, computusref07_Day.j4, if_pos rfl]
    cases up with
    | true =>
      simp at hk hr
      rw [if_pos hk, w64 _ (by omega) (by omega), w64 _ (by omega) (by omega), ih q (x + 1) (i + 1) (by omega) (by omega) (by omega) (by omega) (by omega) (by simp; rw [wday_up]; omega)]
      simp; omega
    | false =>
      simp at hk hr
      rw [if_neg (by omega), w64 _ (by omega) (by omega), w64 _ (by omega) (by omega), ih q (x - 1) (i + 1) (by omega) (by omega) (by omega) (by omega) (by omega) (by simp; rw [wday_down]; omega)]
      simp; omega
/-- Likewise, of the last weekday. -/
theorem rwhen_last (y m wd n : Int) (hw : 0 ≤ wd ∧ wd ≤ 6) : ∀ (r q : Nat) (x : Int) (i : Int), -1000000100 + r ≤ x → x ≤ 1000000100 - r → 0 ≤ i → i + r ≤ 6 → 2 * r + 2 < q → (wday x - wd) % 7 = r →
    computusref07_Day.l0 q x i 1 wd n = some (x - r, 0) := by
  intro r
  induction r with
  | zero =>
    intro q x i h1 h2 h3 h4 hq hr
    obtain ⟨q, rfl⟩ : ∃ s, q = s + 2 := ⟨q - 2, by omega⟩
    have := wday_bd x
    have e : wday x = wd := by omega
    rw [computusref07_Day.l0, if_pos (by omega), if_pos (by decide), rweekday_is x (by omega) (by omega), Option.bind_some, e, computusref07_Day.j4, if_neg (by simp)]
    simp
  | succ r ih =>
    intro q x i h1 h2 h3 h4 hq hr
    obtain ⟨q, rfl⟩ : ∃ s, q = s + 2 := ⟨q - 2, by omega⟩
    have := wday_bd x
    have e : wday x ≠ wd := by intro e; omega
    rw [computusref07_Day.l0, if_pos (by omega), if_pos (by decide), rweekday_is x (by omega) (by omega), Option.bind_some, bne_iff_ne.2 e, computusref07_Day.j4, if_pos rfl, if_neg (by decide), w64 _ (by omega) (by omega), w64 _ (by omega) (by omega), ih q (x - 1) (i + 1) (by omega) (by omega) (by omega) (by omega) (by omega) (by rw [wday_down]; omega)]
    simp; omega
theorem rwhen_is (y m k wd n : Int) (h : rightOn k wd n) (hm : 1 ≤ m ∧ m ≤ 12) (hy : -4718 < y ∧ y < 294282) (q : Nat) (hq : 500 ≤ q) : computusref07_Day.f q y m k wd n = some (ruleDay y m k wd n, 0) := by
  have hml := mlen_bd y m
  have hb := dno_bd y m 1 (by omega) hm (by omega)
  obtain ⟨q, rfl⟩ : ∃ r, q = r + 3 := ⟨q - 3, by omega⟩
  unfold computusref07_Day.f
  rw [ron_is k wd n _ (by omega), Option.bind_some, if_pos (decide_eq_true h), if_neg (by omega), decide_eq_false (by omega), computusref07_Day.j0, if_neg (by decide), if_neg (by omega), decide_eq_false (by omega), computusref07_Day.j1, if_neg (by decide), rdays_is y m 1 (by omega) hm (by omega) _ (by omega), Option.bind_some]
  simp only []
  unfold rightOn at h
  unfold ruleDay
  rcases h with ⟨rfl, rfl, h1, h2⟩ | ⟨rfl, rfl, h1, h2⟩ | ⟨rfl | rfl, h1, h2, h3, h4⟩
  · rw [if_neg (by decide), if_pos rfl, w64 (dno y m 1 + n) (by omega) (by omega), w64 _ (by omega) (by omega), dno_shift, computusref07_Day.j2]
    obtain ⟨q, rfl⟩ : ∃ r, q = r + 2 := ⟨q - 2, by omega⟩
    rw [computusref07_Day.l0, if_pos (by decide), if_neg (by decide), computusref07_Day.j4, if_neg (by decide)]
  · rw [if_pos rfl, if_neg (by omega), if_pos rfl, rlen_is y m (by omega) hm _ (by omega), Option.bind_some, w64 (dno y m 1 + mlen y m) (by omega) (by omega), w64 _ (by omega) (by omega), dno_shift, computusref07_Day.j2]
    have hb2 := dno_bd y m (mlen y m) (by omega) hm (by omega)
    rw [rwhen_last y m wd 0 ⟨h1, h2⟩ ((wday (dno y m (mlen y m)) - wd) % 7).toNat q _ 0 (by omega) (by omega) (by omega) (by omega) (by omega) (by omega)]
    exact some2 (by omega) rfl
  · rw [if_neg (by omega), if_neg (by omega), if_neg (by omega), if_pos rfl, w64 (dno y m 1 + n) (by omega) (by omega), w64 _ (by omega) (by omega), dno_shift, computusref07_Day.j2]
    have hb2 := dno_bd y m n (by omega) hm (by omega)
    rw [rwhen_loop y m wd n ⟨h1, h2⟩ true 2 rfl ((wd - wday (dno y m n)) % 7).toNat q _ 0 (by omega) (by omega) (by omega) (by omega) (by omega) (by simp; omega)]
    exact some2 (by simp; omega) rfl
  · rw [if_neg (by omega), if_neg (by omega), if_neg (by omega), if_neg (by omega), w64 (dno y m 1 + n) (by omega) (by omega), w64 _ (by omega) (by omega), dno_shift, computusref07_Day.j2]
    have hb2 := dno_bd y m n (by omega) hm (by omega)
    rw [rwhen_loop y m wd n ⟨h1, h2⟩ false 3 rfl ((wday (dno y m n) - wd) % 7).toNat q _ 0 (by omega) (by omega) (by omega) (by omega) (by omega) (by simp; omega)]
    exact some2 (by simp; omega) rfl
end Go.Proofs.Ytehoammeaimobaa.Q
