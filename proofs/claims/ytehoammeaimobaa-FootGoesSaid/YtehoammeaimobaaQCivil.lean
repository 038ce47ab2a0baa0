/- What the program's calendar computes, and the reference's, by the plain laws. -/
import Derived.Test.YtehoammeaimobaaQCal
import Derived.Test.YtehoammeaimobaaDx6
import Derived.Test.YtehoammeaimobaaDx10
import Derived.Test.YtehoammeaimobaaDx12
import Derived.Test.YtehoammeaimobaaDx13
set_option linter.unusedVariables false
namespace Go.Proofs.Ytehoammeaimobaa.Q
open Go Go.RowKit Go.Proofs.Ytehoammeaimobaa.D Go.Proofs.YtehoammeaimobaaW.PrintWords Go.Proofs.YtehoammeaimobaaW.PrintLast Go.Proofs.YtehoammeaimobaaW.PrintMore

theorem w64 (x : Int) (h0 : -9223372036854775808 ≤ x) (h1 : x ≤ 9223372036854775807) : wrap64 x = x := by unfold wrap64; omega
theorem some2 {a b c d : Int} (h1 : a = c) (h2 : b = d) : (some (a, b) : Option (Int × Int)) = some (c, d) := by rw [h1, h2]
theorem floor400 (a : Int) (h1 : -4000000000000 ≤ a) (h2 : a ≤ 4000000000000) : civil_floor.f a 400 = some (a / 400, a % 400) := by
  unfold civil_floor.f
  rw [if_neg (by decide), Int.tdiv_eq_ediv, Int.tmod_eq_emod]
  by_cases h : 0 ≤ a ∨ (400 : Int) ∣ a
  · rw [if_pos h, if_pos h, if_neg (by simp; omega), w64 _ (by omega) (by omega)]
    exact some2 (by omega) (by omega)
  · rw [if_neg h, if_neg h, show Int.sign 400 = 1 from rfl, show (((400 : Int).natAbs : Nat) : Int) = 400 from rfl, if_pos (by omega)]
    simp (disch := omega) only [w64]
    exact some2 (by omega) (by omega)
theorem floor7 (a : Int) (h1 : -4000000000000 ≤ a) (h2 : a ≤ 4000000000000) : civil_floor.f a 7 = some (a / 7, a % 7) := by
  unfold civil_floor.f
  rw [if_neg (by decide), Int.tdiv_eq_ediv, Int.tmod_eq_emod]
  by_cases h : 0 ≤ a ∨ (7 : Int) ∣ a
  · rw [if_pos h, if_pos h, if_neg (by simp; omega), w64 _ (by omega) (by omega)]
    exact some2 (by omega) (by omega)
  · rw [if_neg h, if_neg h, show Int.sign 7 = 1 from rfl, show (((7 : Int).natAbs : Nat) : Int) = 7 from rfl, if_pos (by omega)]
    simp (disch := omega) only [w64]
    exact some2 (by omega) (by omega)
theorem floorEra (a : Int) (h1 : -4000000000000 ≤ a) (h2 : a ≤ 4000000000000) : civil_floor.f a 146097 = some (a / 146097, a % 146097) := by
  unfold civil_floor.f
  rw [if_neg (by decide), Int.tdiv_eq_ediv, Int.tmod_eq_emod]
  by_cases h : 0 ≤ a ∨ (146097 : Int) ∣ a
  · rw [if_pos h, if_pos h, if_neg (by simp; omega), w64 _ (by omega) (by omega)]
    exact some2 (by omega) (by omega)
  · rw [if_neg h, if_neg h, show Int.sign 146097 = 1 from rfl, show (((146097 : Int).natAbs : Nat) : Int) = 146097 from rfl, if_pos (by omega)]
    simp (disch := omega) only [w64]
    exact some2 (by omega) (by omega)
theorem some1 {a b : Int} (h : a = b) : (some a : Option Int) = some b := by rw [h]
theorem tdivn {a b : Int} (h : 0 ≤ a) : Int.tdiv a b = a / b := Int.tdiv_eq_ediv_of_nonneg h
theorem tmodn {a b : Int} (h : 0 ≤ a) : Int.tmod a b = a % b := Int.tmod_eq_emod_of_nonneg h
/-- The program's day of a date is the plain one. -/
theorem day_is (y m d : Int) (hy : -1000000 ≤ y ∧ y ≤ 1000000) (hm : 1 ≤ m ∧ m ≤ 12) (hd : 0 ≤ d ∧ d ≤ 100) : civil_day.f y m d = some (dno y m d) := by
  unfold civil_day.f
  by_cases h : m ≤ 2
  · rw [if_pos h, w64 (y - 1) (by omega) (by omega), floor400 (y - 1) (by omega) (by omega), Option.bind_some]
    simp (disch := omega) only [w64, tdivn]
    refine some1 ?_
    unfold dno st cum
    rw [if_pos h]
    rcases (show m = 1 ∨ m = 2 by omega) with rfl | rfl <;> omega
  · rw [if_neg h, floor400 y (by omega) (by omega), Option.bind_some]
    simp (disch := omega) only [w64, tdivn]
    refine some1 ?_
    unfold dno st cum lp
    rw [if_neg h]
    split <;> omega
theorem tmod0 (y b : Int) (hb : 0 < b) : Int.tmod y b = 0 ↔ y % b = 0 := by
  rw [← Int.dvd_iff_tmod_eq_zero, ← Int.dvd_iff_emod_eq_zero]
theorem leap_is (y : Int) : civil_Leap.f y = some (decide (lp y = 1)) := by
  unfold civil_Leap.f
  have e4 := tmod0 y 4 (by decide)
  have e100 := tmod0 y 100 (by decide)
  have e400 := tmod0 y 400 (by decide)
  unfold lp
  by_cases h4 : y % 4 = 0
  · rw [if_pos (e4.2 h4)]
    by_cases h100 : y % 100 = 0
    · rw [if_pos (e100.2 h100)]
      by_cases h400 : y % 400 = 0
      · rw [if_pos ⟨h4, .inr h400⟩, beq_iff_eq.2 (e400.2 h400)]; rfl
      · rw [if_neg (by omega), beq_eq_false_iff_ne.2 (fun h => h400 (e400.1 h))]; rfl
    · rw [if_neg (fun h => h100 (e100.1 h)), if_pos ⟨h4, .inl h100⟩]; rfl
  · rw [if_neg (fun h => h4 (e4.1 h)), if_neg (by omega)]; rfl
theorem len_is (y m : Int) (hm : 1 ≤ m ∧ m ≤ 12) : civil_Len.f y m = some (mlen y m) := by
  unfold civil_Len.f
  rw [if_neg (by omega), if_neg (by omega), leap_is, Option.bind_some]
  unfold mlen
  have := lp_01 y
  by_cases h : m = 2
  · rw [if_pos h, if_pos h]
    by_cases hl : lp y = 1
    · rw [if_pos (decide_eq_true hl), hl]; rfl
    · rw [if_neg (by simpa using hl), show lp y = 0 by omega]; rfl
  · rw [if_neg h, if_neg h]
    refine some1 ?_
    unfold mdays
    rcases months hm.1 hm.2 with rfl | rfl | rfl | rfl | rfl | rfl | rfl | rfl | rfl | rfl | rfl | rfl <;> simp at h ⊢
theorem days_is (y m d : Int) (hy : -4718 ≤ y ∧ y ≤ 294282) (hm : 1 ≤ m ∧ m ≤ 12) (hd : 1 ≤ d ∧ d ≤ mlen y m) : civil_Days.f y m d = some (dno y m d, 0) := by
  have := mlen_bd y m
  unfold civil_Days.f civil_Right.f
  rw [if_pos (by omega), if_pos (by omega), if_pos (by omega), len_is y m hm, Option.bind_some, Option.bind_some, if_pos (decide_eq_true hd.2), day_is y m d (by omega) hm (by omega), Option.bind_some]
theorem weekday_is (n : Int) (h1 : -4000000000000 ≤ n) (h2 : n ≤ 4000000000000) : civil_Weekday.f n = some (wday n) := by
  unfold civil_Weekday.f
  rw [floor7 n h1 h2, Option.bind_some]
  refine some1 ?_
  show Int.tmod (wrap64 (n % 7 + 6)) 7 = _
  rw [w64 _ (by omega) (by omega), Int.tmod_eq_emod_of_nonneg (by omega)]
  unfold wday
  omega
theorem to_up (n wd : Int) (hw : 0 ≤ wd ∧ wd ≤ 6) (hn : -1000000000 ≤ n ∧ n ≤ 1000000000) (k : Nat) (hk : 8 ≤ k) : when_to.f k n wd 1 = some (n + (wd - wday n) % 7) := by
  unfold when_to.f
  have key : ∀ (r k : Nat) (n : Int), -1000000000 ≤ n → n ≤ 1000000100 - r → (wd - wday n) % 7 = r → r < k → when_to.l0 k n wd 1 = some (n + r) := by
    intro r
    induction r with
    | zero =>
      intro k n h1 h2 hr hk
      obtain ⟨k, rfl⟩ : ∃ m, k = m + 1 := ⟨k - 1, by omega⟩
      have := wday_bd n
      rw [when_to.l0, weekday_is n (by omega) (by omega), Option.bind_some, if_pos (by omega)]
      exact some1 (by simp)
    | succ r ih =>
      intro k n h1 h2 hr hk
      obtain ⟨k, rfl⟩ : ∃ m, k = m + 1 := ⟨k - 1, by omega⟩
      have := wday_bd n
      rw [when_to.l0, weekday_is n (by omega) (by omega), Option.bind_some, if_neg (by omega), w64 _ (by omega) (by omega), ih k (n + 1) (by omega) (by omega) (by unfold wday at *; omega) (by omega)]
      exact some1 (by omega)
  have hr : (wd - wday n) % 7 = (((wd - wday n) % 7).toNat : Nat) := by omega
  rw [key ((wd - wday n) % 7).toNat k n hn.1 (by omega) hr (by omega)]
  exact some1 (by omega)
theorem to_down (n wd : Int) (hw : 0 ≤ wd ∧ wd ≤ 6) (hn : -1000000000 ≤ n ∧ n ≤ 1000000000) (k : Nat) (hk : 8 ≤ k) : when_to.f k n wd (-1) = some (n - (wday n - wd) % 7) := by
  unfold when_to.f
  have key : ∀ (r k : Nat) (n : Int), -1000000100 + r ≤ n → n ≤ 1000000000 → (wday n - wd) % 7 = r → r < k → when_to.l0 k n wd (-1) = some (n - r) := by
    intro r
    induction r with
    | zero =>
      intro k n h1 h2 hr hk
      obtain ⟨k, rfl⟩ : ∃ m, k = m + 1 := ⟨k - 1, by omega⟩
      have := wday_bd n
      rw [when_to.l0, weekday_is n (by omega) (by omega), Option.bind_some, if_pos (by omega)]
      exact some1 (by simp)
    | succ r ih =>
      intro k n h1 h2 hr hk
      obtain ⟨k, rfl⟩ : ∃ m, k = m + 1 := ⟨k - 1, by omega⟩
      have := wday_bd n
      rw [when_to.l0, weekday_is n (by omega) (by omega), Option.bind_some, if_neg (by omega), w64 _ (by omega) (by omega), ih k (n + -1) (by omega) (by omega) (by unfold wday at *; omega) (by omega)]
      exact some1 (by omega)
  have hr : (wday n - wd) % 7 = (((wday n - wd) % 7).toNat : Nat) := by omega
  rw [key ((wday n - wd) % 7).toNat k n (by omega) hn.2 hr (by omega)]
  exact some1 (by omega)
end Go.Proofs.Ytehoammeaimobaa.Q
