/- A foot by the plain laws: whether it can be, and its shifts; the program and the reference. -/
import Derived.Test.YtehoammeaimobaaQDay
set_option linter.unusedVariables false
namespace Go.Proofs.Ytehoammeaimobaa.Q
open Go Go.RowKit Go.Proofs.Ytehoammeaimobaa.D Go.Proofs.YtehoammeaimobaaW.PrintWords Go.Proofs.YtehoammeaimobaaW.PrintLast Go.Proofs.YtehoammeaimobaaW.PrintMore

theorem dgt_len (S : Nat) : ∀ (k n j : Nat) (acc : List Int), (dgt S k n j acc).length ≤ k + acc.length := by
  intro k
  induction k with
  | zero => intro n j acc; simp [dgt]
  | succ k ih =>
    intro n j acc
    rw [dgt]
    split
    · have := ih (n / 10) (j + 1) ((48 + (n % 10 : Nat) : Int) :: acc)
      first | (simp at this ⊢; omega) | (refine Nat.le_trans (ih _ _ _) ?_; simp; omega)
    · omega
theorem two_is (n : Int) (h : 0 ≤ n ∧ n ≤ 100000) : ∃ t, clock_Two.f n = some t ∧ t.size ≤ 21 := by
  refine ⟨strOfNums (dgt 2 21 n.toNat 0 []), ?_, ?_⟩
  · unfold clock_Two.f clock_digits.f
    have e : IntKind.u64.wrap n = n := by rw [IntKind.wrap_u64]; omega
    rw [if_pos h.1, e, if_pos (by omega)]
    rfl
  · rw [size_strOfNums]
    have := dgt_len 2 21 n.toNat 0 []
    simpa using this
theorem trim_is (t p : ByteArray) : ∃ u, strings_TrimPrefix.f t p = some u ∧ u.size ≤ t.size := by
  unfold strings_TrimPrefix.f stringslite_TrimPrefix.f stringslite_HasPrefix.f
  by_cases h : (t.size : Int) ≥ (p.size : Int)
  · rw [if_pos h, if_pos (by omega), if_pos (by omega)]
    simp only [Option.bind_some]
    by_cases h2 : ((t.extract 0 (p.size : Int).toNat).toList == p.toList) = true
    · rw [if_pos h2, if_pos (by omega), if_pos (by omega)]
      exact ⟨_, rfl, by rw [ByteArray.size_extract]; omega⟩
    · rw [if_neg h2]
      exact ⟨_, rfl, Nat.le_refl _⟩
  · rw [if_neg h]
    exact ⟨_, rfl, Nat.le_refl _⟩
theorem textOn_is (k wd n : Int) : ∃ t, when_TextOn.f k wd n = some (t, if rightOn k wd n then 0 else 1) := by
  unfold when_TextOn.f
  rw [formOk_is]
  by_cases h : rightOn k wd n
  · rw [if_pos (decide_eq_true h), if_pos h]
    obtain ⟨t, ht, hs⟩ := two_is n (by unfold rightOn at h; omega)
    obtain ⟨u, hu, hs2⟩ := trim_is t ⟨#[48]⟩
    rw [ht, Option.bind_some, hu, Option.bind_some, if_pos (by omega)]
    exact ⟨_, rfl⟩
  · rw [if_neg (by simpa using h), if_neg h]
    exact ⟨_, rfl⟩
theorem textAt_is (s k : Int) : ∃ t, when_TextAt.f s k = some (t, if rightAt s k then 0 else 1) := by
  unfold when_TextAt.f
  rw [at_is, Option.bind_some]
  by_cases h : rightAt s k
  · rw [if_pos (decide_eq_true h), if_pos h]
    have h1 := h.1
    have h2 := h.2.1
    rw [tdivn h1, tdivn h1, tmodn (by omega), tmodn h1]
    obtain ⟨a, ha, hsa⟩ := two_is (s / 3600) (by omega)
    obtain ⟨b, hb, hsb⟩ := two_is (s / 60 % 60) (by omega)
    obtain ⟨c, hc, hsc⟩ := two_is (s % 60) (by omega)
    rw [ha, hb, hc]
    simp only [Option.bind_some]
    rw [if_pos (by omega)]
    exact ⟨_, rfl⟩
  · rw [if_neg (by simpa using h), if_neg h]
    exact ⟨_, rfl⟩
/-- Can a half be? -/
def rightH (h : HalfT) : Prop := (1 ≤ h.m ∧ h.m ≤ 12) ∧ rightOn h.k h.wd h.n ∧ rightAt h.sec h.kd ∧ 0 ≤ h.sv ∧ h.sv ≤ 7200
/-- Can a foot be? -/
def rightF (f : FootT) : Prop := f.has = true ∧ rightH f.A ∧ rightH f.B ∧ (-50400 ≤ f.off ∧ f.off ≤ 50400) ∧ ((2 ≤ f.A.m - f.B.m ∧ f.A.m - f.B.m ≤ 10) ∨ (2 ≤ f.B.m - f.A.m ∧ f.B.m - f.A.m ≤ 10))
instance (h : HalfT) : Decidable (rightH h) := by unfold rightH; infer_instance
instance (f : FootT) : Decidable (rightF f) := by unfold rightF; infer_instance
theorem someB {b c : Bool} (h : b = true ↔ c = true) : (some b : Option Bool) = some c := by rw [Bool.eq_iff_iff.2 h]
theorem right_is (h : HalfT) : foot_right.f h.m h.k h.wd h.n h.sec h.kd h.sv h.ab = some (decide (rightH h)) := by
  unfold foot_right.f
  obtain ⟨t, ht⟩ := textOn_is h.k h.wd h.n
  obtain ⟨u, hu⟩ := textAt_is h.sec h.kd
  rw [ht, hu]
  simp only [Option.bind_some]
  by_cases h1 : h.m ≥ 1
  · rw [if_pos h1]
    by_cases h2 : h.m ≤ 12
    · rw [if_pos h2]
      by_cases h3 : rightOn h.k h.wd h.n
      · rw [if_pos (by rw [if_pos h3])]
        by_cases h4 : rightAt h.sec h.kd
        · rw [if_pos (by rw [if_pos h4])]
          by_cases h5 : h.sv ≥ 0
          · rw [if_pos h5]
            exact someB (by rw [decide_eq_true_eq, decide_eq_true_eq]; exact ⟨fun h6 => ⟨⟨h1, h2⟩, h3, h4, h5, h6⟩, fun h6 => h6.2.2.2.2⟩)
          · rw [if_neg h5, decide_eq_false (fun h6 => h5 h6.2.2.2.1)]
        · rw [if_neg (by rw [if_neg h4]; decide), decide_eq_false (fun h6 => h4 h6.2.2.1)]
      · rw [if_neg (by rw [if_neg h3]; decide), decide_eq_false (fun h6 => h3 h6.2.1)]
    · rw [if_neg h2, decide_eq_false (fun h6 => h2 h6.1.2)]
  · rw [if_neg h1, decide_eq_false (fun h6 => h1 h6.1.1)]
theorem can_is (f : FootT) : canO f = some (decide (rightF f)) := by
  unfold canO foot_can.f
  rw [right_is f.A, right_is f.B]
  simp only [Option.bind_some]
  by_cases h0 : f.has = true
  · rw [if_pos h0]
    by_cases h1 : rightH f.A
    · rw [if_pos (decide_eq_true h1)]
      by_cases h2 : rightH f.B
      · rw [if_pos (decide_eq_true h2)]
        by_cases h3 : f.off < -50400
        · rw [if_pos h3, decide_eq_false (fun h6 => by have := h6.2.2.2.1; omega)]
        · rw [if_neg h3]
          by_cases h4 : f.off > 50400
          · rw [if_pos h4, decide_eq_false (fun h6 => by have := h6.2.2.2.1; omega)]
          · rw [if_neg h4]
            have m1 := h1.1
            have m2 := h2.1
            have e : mx (wrap64 (f.A.m - f.B.m)) (wrap64 (-wrap64 (f.A.m - f.B.m))) = if f.A.m < f.B.m then f.B.m - f.A.m else f.A.m - f.B.m := by
              rw [w64 (f.A.m - f.B.m) (by omega) (by omega), w64 _ (by omega) (by omega)]
              unfold mx
              split <;> split <;> omega
            rw [e]
            by_cases h5 : (if f.A.m < f.B.m then f.B.m - f.A.m else f.A.m - f.B.m) ≥ 2
            · rw [if_pos h5]
              refine someB ?_
              rw [decide_eq_true_eq, decide_eq_true_eq]
              constructor
              · intro h6; exact ⟨h0, h1, h2, ⟨by omega, by omega⟩, by split at h5 <;> split at h6 <;> omega⟩
              · intro h6; have := h6.2.2.2.2; split <;> omega
            · rw [if_neg h5, decide_eq_false]
              intro h6
              have := h6.2.2.2.2
              split at h5 <;> omega
      · rw [if_neg (by simpa using h2), decide_eq_false (fun h6 => h2 h6.2.2.1)]
    · rw [if_neg (by simpa using h1), decide_eq_false (fun h6 => h1 h6.2.1)]
  · rw [if_neg h0, decide_eq_false (fun h6 => h0 h6.1)]
theorem rhalf_is (h : HalfT) (k : Nat) (hk : 2 ≤ k) : computusref11_right.f k h.m h.k h.wd h.n h.sec h.kd h.sv h.ab = some (decide (rightH h)) := by
  unfold computusref11_right.f
  rw [ron_is _ _ _ k hk, rat_is]
  simp only [Option.bind_some]
  by_cases h1 : h.m ≥ 1
  · rw [if_pos h1]
    by_cases h2 : h.m ≤ 12
    · rw [if_pos h2]
      by_cases h3 : rightOn h.k h.wd h.n
      · rw [if_pos (decide_eq_true h3)]
        by_cases h4 : rightAt h.sec h.kd
        · rw [if_pos (decide_eq_true h4)]
          by_cases h5 : h.sv ≥ 0
          · rw [if_pos h5]
            exact someB (by rw [decide_eq_true_eq, decide_eq_true_eq]; exact ⟨fun h6 => ⟨⟨h1, h2⟩, h3, h4, h5, h6⟩, fun h6 => h6.2.2.2.2⟩)
          · rw [if_neg h5, decide_eq_false (fun h6 => h5 h6.2.2.2.1)]
        · rw [if_neg (by simpa using h4), decide_eq_false (fun h6 => h4 h6.2.2.1)]
      · rw [if_neg (by simpa using h3), decide_eq_false (fun h6 => h3 h6.2.1)]
    · rw [if_neg h2, decide_eq_false (fun h6 => h2 h6.1.2)]
  · rw [if_neg h1, decide_eq_false (fun h6 => h1 h6.1.1)]
theorem rright_is (f : FootT) (k : Nat) (hk : 2 ≤ k) : rightO k f = some (decide (rightF f)) := by
  obtain ⟨k, rfl⟩ : ∃ q, k = q + 1 := ⟨k - 1, by omega⟩
  have hA := rhalf_is f.A (k + 1) hk
  have hB := rhalf_is f.B (k + 1) hk
  have ht : ∀ b, b = true → computusref11_Right.j0 (k + 1) b f.has f.fr f.off f.A.m f.A.k f.A.wd f.A.n f.A.sec f.A.kd f.A.sv f.A.ab f.B.m f.B.k f.B.wd f.B.n f.B.sec f.B.kd f.B.sv f.B.ab = some false := by
    intro b hb
    rw [computusref11_Right.j0, if_pos hb]
  unfold rightO computusref11_Right.f
  rw [hA, hB]
  simp only [Option.bind_some]
  by_cases h0 : f.has = true
  · rw [if_pos h0]
    by_cases h1 : rightH f.A
    · rw [if_pos (decide_eq_true h1)]
      by_cases h2 : rightH f.B
      · rw [if_pos (decide_eq_true h2)]
        by_cases h3 : f.off < -50400
        · rw [if_pos h3, ht _ rfl, decide_eq_false (fun h6 => by have := h6.2.2.2.1; omega)]
        · rw [if_neg h3]
          by_cases h4 : f.off > 50400
          · rw [ht _ (decide_eq_true h4), decide_eq_false (fun h6 => by have := h6.2.2.2.1; omega)]
          · have m1 := h1.1
            have m2 := h2.1
            rw [decide_eq_false h4, computusref11_Right.j0, if_neg (by decide), w64 (f.A.m - f.B.m) (by omega) (by omega), w64 _ (by omega) (by omega)]
            by_cases h5 : f.A.m - f.B.m < 0
            · rw [if_pos h5]
              by_cases h6 : -(f.A.m - f.B.m) ≥ 2
              · rw [if_pos h6]
                refine someB ?_
                rw [decide_eq_true_eq, decide_eq_true_eq]
                exact ⟨fun h7 => ⟨h0, h1, h2, ⟨by omega, by omega⟩, by omega⟩, fun h7 => by have := h7.2.2.2.2; omega⟩
              · rw [if_neg h6, decide_eq_false (fun h7 => by have := h7.2.2.2.2; omega)]
            · rw [if_neg h5]
              by_cases h6 : f.A.m - f.B.m ≥ 2
              · rw [if_pos h6]
                refine someB ?_
                rw [decide_eq_true_eq, decide_eq_true_eq]
                exact ⟨fun h7 => ⟨h0, h1, h2, ⟨by omega, by omega⟩, by omega⟩, fun h7 => by have := h7.2.2.2.2; omega⟩
              · rw [if_neg h6, decide_eq_false (fun h7 => by have := h7.2.2.2.2; omega)]
      · rw [if_neg (by simpa using h2), ht _ rfl, decide_eq_false (fun h6 => h2 h6.2.2.1)]
    · rw [if_neg (by simpa using h1), ht _ rfl, decide_eq_false (fun h6 => h1 h6.2.1)]
  · rw [if_neg h0, ht _ rfl, decide_eq_false (fun h6 => h0 h6.1)]
/-- A half's shift in a year. -/
def shP (off : Int) (h o : HalfT) (y : Int) : S46 := ⟨shAt off y h.m h.k h.wd h.n h.sec h.kd o.sv, off + h.sv, h.sv != 0, h.ab⟩
theorem inst_is (day sec kd off sv : Int) (h0 : -1000000000 ≤ day ∧ day ≤ 1000000000) (h1 : 0 ≤ sec ∧ sec ≤ 86400) (h2 : -50400 ≤ off ∧ off ≤ 50400) (h3 : 0 ≤ sv ∧ sv ≤ 7200) : fire_Instant.f day sec kd off sv = some (inst day sec kd off sv) := by
  unfold fire_Instant.f inst
  simp (disch := omega) only [w64]
  by_cases h : kd = 117
  · rw [if_pos h, if_pos h, if_pos (.inl h)]
  · rw [if_neg h, if_neg h]
    by_cases h' : kd = 115
    · rw [if_pos h', if_pos (.inr h')]
    · rw [if_neg h', if_neg (by omega)]
theorem rinst_is (day sec kd off sv : Int) (h0 : -1000000000 ≤ day ∧ day ≤ 1000000000) (h1 : 0 ≤ sec ∧ sec ≤ 86400) (h2 : -50400 ≤ off ∧ off ≤ 50400) (h3 : 0 ≤ sv ∧ sv ≤ 7200) : computusref09_Instant.f day sec kd off sv = some (inst day sec kd off sv) := by
  unfold computusref09_Instant.f inst
  simp (disch := omega) only [w64]
  by_cases h : kd = 117
  · rw [if_pos h, if_pos h, if_pos (.inl h)]; refine some1 ?_; omega
  · rw [if_neg h, if_neg h]
    by_cases h' : kd = 115
    · rw [if_pos h', if_pos (.inr h')]; refine some1 ?_; omega
    · rw [if_neg h', if_neg (by omega)]
theorem ruleDay_abs (y m k wd n : Int) (h : rightOn k wd n) (hm : 1 ≤ m ∧ m ≤ 12) (hy : -1000000 ≤ y ∧ y ≤ 1000000) : -1000000000 ≤ ruleDay y m k wd n ∧ ruleDay y m k wd n ≤ 1000000000 := by
  have h1 := ruleDay_bd y m k wd n h
  have h2 := dno_bd y m 1 hy hm (by omega)
  omega
theorem half_is (off : Int) (h o : HalfT) (y : Int) (hh : rightH h) (ho : rightH o) (hoff : -50400 ≤ off ∧ off ≤ 50400) (hy : -4718 < y ∧ y < 294282) (k : Nat) (hk : 8 ≤ k) :
    halfShift k off y h.m h.k h.wd h.n h.sec h.kd h.sv h.ab o.sv = some ((shP off h o y).f0, (shP off h o y).f1, (shP off h o y).f2, (shP off h o y).f3) := by
  unfold halfShift
  have hb := ruleDay_abs y h.m h.k h.wd h.n hh.2.1 hh.1 (by omega)
  rw [when_is y h.m h.k h.wd h.n hh.2.1 hh.1 hy k hk, Option.bind_some, inst_is _ _ _ _ _ hb ⟨hh.2.2.1.1, hh.2.2.1.2.1⟩ hoff ⟨ho.2.2.2.1, ho.2.2.2.2⟩, Option.bind_some, w64 (off + h.sv) (by have := hh.2.2.2; omega) (by have := hh.2.2.2; omega)]
  rfl
/-- The earlier shift of a year, or the later one. -/
def shF (f : FootT) (y : Int) (first : Bool) : S46 := if first = decide (f.A.m < f.B.m) then shP f.off f.A f.B y else shP f.off f.B f.A y
theorem shift_is (f : FootT) (y : Int) (first : Bool) (hf : rightF f) (hy : -4718 < y ∧ y < 294282) (k : Nat) (hk : 8 ≤ k) : shiftO k f y first = some ((shF f y first).f0, (shF f y first).f1, (shF f y first).f2, (shF f y first).f3) := by
  unfold shiftO foot_shift.f shF
  obtain ⟨h0, hA, hB, hoff, _⟩ := hf
  by_cases h : first = decide (f.A.m < f.B.m)
  · rw [if_pos h, if_pos h]
    exact half_is f.off f.A f.B y hA hB hoff hy k hk
  · rw [if_neg h, if_neg h]
    exact half_is f.off f.B f.A y hB hA hoff hy k hk
theorem rshift_is (off : Int) (h o : HalfT) (y : Int) (hh : rightH h) (ho : rightH o) (hoff : -50400 ≤ off ∧ off ≤ 50400) (hy : -4718 < y ∧ y < 294282) (k : Nat) (hk : 500 ≤ k) : RefShiftIs k h o off y (shP off h o y) := by
  have hb := ruleDay_abs y h.m h.k h.wd h.n hh.2.1 hh.1 (by omega)
  refine ⟨_, _, _, rwhen_is y h.m h.k h.wd h.n hh.2.1 hh.1 hy k hk, rinst_is _ _ _ _ _ hb ⟨hh.2.2.1.1, hh.2.2.1.2.1⟩ hoff ⟨ho.2.2.2.1, ho.2.2.2.2⟩, ?_⟩
  unfold shP shAt
  rw [w64 (off + h.sv) (by have := hh.2.2.2; omega) (by have := hh.2.2.2; omega)]
end Go.Proofs.Ytehoammeaimobaa.Q
