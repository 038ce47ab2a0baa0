/- The year of a day and of an instant, as the program computes it. -/
import Derived.Test.YtehoammeaimobaaQCivil
set_option linter.unusedVariables false
namespace Go.Proofs.Ytehoammeaimobaa.Q
open Go Go.RowKit Go.Proofs.Ytehoammeaimobaa.D Go.Proofs.YtehoammeaimobaaW.PrintWords Go.Proofs.YtehoammeaimobaaW.PrintLast Go.Proofs.YtehoammeaimobaaW.PrintMore

theorem some3 {a b c a' b' c' : Int} (h1 : a = a') (h2 : b = b') (h3 : c = c') : (some (a, b, c) : Option (Int × Int × Int)) = some (a', b', c') := by rw [h1, h2, h3]
/-- March 1 of the year 400 e + 100 c + 4 f + k. -/
theorem march (e c f k : Int) (hc : 0 ≤ c ∧ c ≤ 3) (hf : 0 ≤ f ∧ f ≤ 24) (hk : 0 ≤ k ∧ k ≤ 3) : e * 146097 + c * 36524 + f * 1461 + k * 365 - 730425 = st (400 * e + 100 * c + 4 * f + k) + 59 + lp (400 * e + 100 * c + 4 * f + k) := by
  unfold st lp
  split <;> omega
theorem march_leap (e c f : Int) (hc : 0 ≤ c ∧ c ≤ 3) (hf : 0 ≤ f ∧ f ≤ 24) (h : f = 24 → c = 3) : lp (400 * e + 100 * c + 4 * f + 3 + 1) = 1 := by
  unfold lp
  rw [if_pos]
  omega
theorem parts_is (n : Int) (hn : -1000000000 ≤ n ∧ n ≤ 1000000000) : ∃ Y M D, civil_parts.f n = some (Y, M, D) ∧ 1 ≤ M ∧ M ≤ 12 ∧ 1 ≤ D ∧ D ≤ mlen Y M ∧ dno Y M D = n := by
  unfold civil_parts.f
  rw [w64 (n + 730425) (by omega) (by omega), floorEra _ (by omega) (by omega), Option.bind_some]
  simp only []
  have e0 : n + 730425 = 146097 * ((n + 730425) / 146097) + (n + 730425) % 146097 := by omega
  have e1 : 0 ≤ (n + 730425) % 146097 ∧ (n + 730425) % 146097 < 146097 := by omega
  have e2 : -100000 ≤ (n + 730425) / 146097 ∧ (n + 730425) / 146097 ≤ 100000 := by omega
  generalize (n + 730425) / 146097 = e at e0 e2 ⊢
  generalize (n + 730425) % 146097 = l0 at e0 e1 ⊢
  rw [tdivn e1.1, w64 (l0 / 36524) (by omega) (by omega)]
  have c1 : 0 ≤ mn (l0 / 36524) 3 ∧ mn (l0 / 36524) 3 ≤ 3 ∧ 0 ≤ l0 - mn (l0 / 36524) 3 * 36524 ∧ l0 - mn (l0 / 36524) 3 * 36524 ≤ 36524 ∧ (l0 - mn (l0 / 36524) 3 * 36524 = 36524 → mn (l0 / 36524) 3 = 3) := by unfold mn; omega
  generalize mn (l0 / 36524) 3 = c at c1 ⊢
  rw [w64 (c * 36524) (by omega) (by omega), w64 (l0 - c * 36524) (by omega) (by omega)]
  generalize hl1 : l0 - c * 36524 = l1 at c1 ⊢
  rw [tdivn c1.2.2.1, w64 (l1 / 1461) (by omega) (by omega), w64 (l1 / 1461 * 1461) (by omega) (by omega), w64 (l1 - l1 / 1461 * 1461) (by omega) (by omega)]
  have f1 : 0 ≤ l1 / 1461 ∧ l1 / 1461 ≤ 24 ∧ 0 ≤ l1 - l1 / 1461 * 1461 ∧ l1 - l1 / 1461 * 1461 ≤ 1460 := by omega
  generalize hf : l1 / 1461 = f at f1 ⊢
  generalize hl2 : l1 - f * 1461 = l2 at f1 ⊢
  rw [tdivn f1.2.2.1, w64 (l2 / 365) (by omega) (by omega)]
  have k1 : 0 ≤ mn (l2 / 365) 3 ∧ mn (l2 / 365) 3 ≤ 3 ∧ 0 ≤ l2 - mn (l2 / 365) 3 * 365 ∧ l2 - mn (l2 / 365) 3 * 365 ≤ 365 ∧ (l2 - mn (l2 / 365) 3 * 365 = 365 → mn (l2 / 365) 3 = 3) := by unfold mn; omega
  generalize mn (l2 / 365) 3 = k at k1 ⊢
  rw [w64 (k * 365) (by omega) (by omega), w64 (l2 - k * 365) (by omega) (by omega)]
  generalize hl3 : l2 - k * 365 = l3 at k1 ⊢
  rw [w64 (5 * l3) (by omega) (by omega), w64 (5 * l3 + 2) (by omega) (by omega), tdivn (by omega), w64 ((5 * l3 + 2) / 153) (by omega) (by omega)]
  have m1 : 0 ≤ (5 * l3 + 2) / 153 ∧ (5 * l3 + 2) / 153 ≤ 11 := by omega
  have m2 : 153 * ((5 * l3 + 2) / 153) ≤ 5 * l3 + 2 ∧ 5 * l3 + 2 ≤ 153 * ((5 * l3 + 2) / 153) + 152 := by omega
  generalize (5 * l3 + 2) / 153 = m at m1 m2 ⊢
  have hmar := march e c f k ⟨c1.1, c1.2.1⟩ ⟨f1.1, f1.2.1⟩ ⟨k1.1, k1.2.1⟩
  have hY : n = st (400 * e + 100 * c + 4 * f + k) + 59 + lp (400 * e + 100 * c + 4 * f + k) + l3 := by omega
  have hl : l3 = 365 → lp (400 * e + 100 * c + 4 * f + k + 1) = 1 := by
    intro h
    have hk3 := k1.2.2.2.2 h
    subst hk3
    exact march_leap e c f ⟨c1.1, c1.2.1⟩ ⟨f1.1, f1.2.1⟩ (by omega)
  simp (disch := omega) only [w64, tdivn]
  rw [show e * 400 + c * 100 + f * 4 + k = 400 * e + 100 * c + 4 * f + k by omega]
  generalize 400 * e + 100 * c + 4 * f + k = y at hY hl hmar ⊢
  have hs := st_succ y
  have h01 := lp_01 (y + 1)
  clear hmar hl1 hl2 hl3 hf e0 c1 f1 hn
  by_cases hm : m ≥ 10
  · rw [if_pos hm]
    refine ⟨_, _, _, rfl, by omega, by omega, by omega, ?_, ?_⟩
    · rcases (show m = 10 ∨ m = 11 by omega) with rfl | rfl
      · simp [mlen]; omega
      · simp [mlen]; omega
    · rcases (show m = 10 ∨ m = 11 by omega) with rfl | rfl <;> simp [dno, cum] <;> omega
  · rw [if_neg hm]
    refine ⟨_, _, _, rfl, by omega, by omega, by omega, ?_, ?_⟩
    · rcases (show m = 0 ∨ m = 1 ∨ m = 2 ∨ m = 3 ∨ m = 4 ∨ m = 5 ∨ m = 6 ∨ m = 7 ∨ m = 8 ∨ m = 9 by omega) with rfl | rfl | rfl | rfl | rfl | rfl | rfl | rfl | rfl | rfl <;> simp [mlen] <;> omega
    · rcases (show m = 0 ∨ m = 1 ∨ m = 2 ∨ m = 3 ∨ m = 4 ∨ m = 5 ∨ m = 6 ∨ m = 7 ∨ m = 8 ∨ m = 9 by omega) with rfl | rfl | rfl | rfl | rfl | rfl | rfl | rfl | rfl | rfl <;> simp [dno, cum] <;> omega
end Go.Proofs.Ytehoammeaimobaa.Q
