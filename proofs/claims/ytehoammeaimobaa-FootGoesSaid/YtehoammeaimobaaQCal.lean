/- Plain laws of the calendar: years, months, weekdays, days that rules name, the shifts of a foot. No program in sight. -/
namespace Go.Proofs.Ytehoammeaimobaa.Q

/-- 1 in a leap year. -/
def lp (y : Int) : Int := if y % 4 = 0 ∧ (y % 100 ≠ 0 ∨ y % 400 = 0) then 1 else 0
/-- The day of a year's January 1, from January 1, 2000. -/
def st (y : Int) : Int := 365 * y + (y + 3) / 4 - (y + 99) / 100 + (y + 399) / 400 - 730485
theorem lp_01 (y : Int) : 0 ≤ lp y ∧ lp y ≤ 1 := by unfold lp; split <;> omega
theorem st_succ (y : Int) : st (y + 1) = st y + 365 + lp y := by unfold st lp; split <;> omega
theorem st_400 (y : Int) : st (y + 400) = st y + 146097 := by unfold st; omega
theorem lp_400 (y : Int) : lp (y + 400) = lp y := by
  unfold lp
  rw [show (y + 400) % 4 = y % 4 by omega, show (y + 400) % 100 = y % 100 by omega, show (y + 400) % 400 = y % 400 by omega]
theorem st_2000 : st 2000 = 0 := by unfold st; omega
theorem st_le_nat (y : Int) (k : Nat) : st y + 365 * k ≤ st (y + k) ∧ st (y + k) ≤ st y + 366 * k := by
  induction k with
  | zero => simp
  | succ k ih =>
    have h := st_succ (y + k)
    have := lp_01 (y + k)
    rw [show y + ((k + 1 : Nat) : Int) = y + k + 1 by omega, h]
    omega
theorem st_le {y z : Int} (h : y ≤ z) : st y + 365 * (z - y) ≤ st z ∧ st z ≤ st y + 366 * (z - y) := by
  have := st_le_nat y (z - y).toNat
  rw [show y + ((z - y).toNat : Int) = z by omega] at this
  omega
/-- A day has one year. -/
theorem year_one {y z n : Int} (h1 : st y ≤ n) (h2 : n < st (y + 1)) (h3 : st z ≤ n) (h4 : n < st (z + 1)) : y = z := by
  rcases Int.lt_trichotomy y z with h | h | h
  · have := (st_le (y := y + 1) (z := z) (by omega)).1; omega
  · exact h
  · have := (st_le (y := z + 1) (z := y) (by omega)).1; omega
/-- How many days a month has. -/
def mlen (y m : Int) : Int := if m = 2 then 28 + lp y else if m = 4 ∨ m = 6 ∨ m = 9 ∨ m = 11 then 30 else 31
/-- The days of a year ahead of a month. -/
def cum (y m : Int) : Int := if m ≤ 2 then 31 * (m - 1) else (153 * (m - 3) + 2) / 5 + 59 + lp y
theorem months {m : Int} (h1 : 1 ≤ m) (h2 : m ≤ 12) : m = 1 ∨ m = 2 ∨ m = 3 ∨ m = 4 ∨ m = 5 ∨ m = 6 ∨ m = 7 ∨ m = 8 ∨ m = 9 ∨ m = 10 ∨ m = 11 ∨ m = 12 := by omega
theorem cum_succ (y m : Int) (h1 : 1 ≤ m) (h2 : m ≤ 12) : cum y (m + 1) = cum y m + mlen y m := by
  rcases months h1 h2 with rfl | rfl | rfl | rfl | rfl | rfl | rfl | rfl | rfl | rfl | rfl | rfl <;> simp [cum, mlen] <;> omega
theorem cum_13 (y : Int) : cum y 13 = 365 + lp y := by unfold cum; rw [if_neg (by omega)]; omega
theorem cum_1 (y : Int) : cum y 1 = 0 := by simp [cum]
theorem mlen_bd (y m : Int) : 28 ≤ mlen y m ∧ mlen y m ≤ 31 := by
  have := lp_01 y
  unfold mlen; split
  · omega
  · split <;> omega
/-- Months that are two apart at least have 59 days at least between them. -/
theorem cum_gap (y m k : Int) (h1 : 1 ≤ m) (h : m + 2 ≤ k) : cum y m + 59 ≤ cum y k := by
  have := lp_01 y
  unfold cum
  split <;> split <;> omega
theorem cum_bd (y m : Int) (h1 : 1 ≤ m) (h2 : m ≤ 13) : 0 ≤ cum y m ∧ cum y m ≤ 366 := by
  have := lp_01 y
  unfold cum
  split <;> omega
/-- A date's day. -/
def dno (y m d : Int) : Int := st y + cum y m + d - 1
/-- 0 is Sunday. -/
def wday (n : Int) : Int := (n + 6) % 7
theorem wday_bd (n : Int) : 0 ≤ wday n ∧ wday n ≤ 6 := by unfold wday; omega

/-- Which day a rule names, of a month. -/
def ruleDay (y m k wd n : Int) : Int :=
  if k = 0 then dno y m n
  else if k = 1 then dno y m (mlen y m) - (wday (dno y m (mlen y m)) - wd) % 7
  else if k = 2 then dno y m n + (wd - wday (dno y m n)) % 7
  else dno y m n - (wday (dno y m n) - wd) % 7
def rightOn (k wd n : Int) : Prop := (k = 0 ∧ wd = 0 ∧ 1 ≤ n ∧ n ≤ 31) ∨ (k = 1 ∧ n = 0 ∧ 0 ≤ wd ∧ wd ≤ 6) ∨ ((k = 2 ∨ k = 3) ∧ 0 ≤ wd ∧ wd ≤ 6 ∧ 1 ≤ n ∧ n ≤ 31)
def rightAt (sec kd : Int) : Prop := 0 ≤ sec ∧ sec ≤ 86400 ∧ (kd = 119 ∨ kd = 115 ∨ kd = 117)
instance (k wd n : Int) : Decidable (rightOn k wd n) := by unfold rightOn; infer_instance
instance (sec kd : Int) : Decidable (rightAt sec kd) := by unfold rightAt; infer_instance
theorem ruleDay_bd (y m k wd n : Int) (h : rightOn k wd n) : dno y m 1 - 6 ≤ ruleDay y m k wd n ∧ ruleDay y m k wd n ≤ dno y m 1 + 36 := by
  have hm := mlen_bd y m
  unfold rightOn at h
  unfold ruleDay
  rcases h with ⟨rfl, _⟩ | ⟨rfl, _⟩ | ⟨rfl | rfl, _⟩
  · rw [if_pos rfl]; unfold dno; omega
  · rw [if_neg (by omega), if_pos rfl]
    have h1 : 0 ≤ (wday (dno y m (mlen y m)) - wd) % 7 := by omega
    have h2 : (wday (dno y m (mlen y m)) - wd) % 7 ≤ 6 := by omega
    generalize (wday (dno y m (mlen y m)) - wd) % 7 = r at h1 h2 ⊢
    unfold dno; omega
  · rw [if_neg (by omega), if_neg (by omega), if_pos rfl]
    have h1 : 0 ≤ (wd - wday (dno y m n)) % 7 := by omega
    have h2 : (wd - wday (dno y m n)) % 7 ≤ 6 := by omega
    generalize (wd - wday (dno y m n)) % 7 = r at h1 h2 ⊢
    unfold dno; omega
  · rw [if_neg (by omega), if_neg (by omega), if_neg (by omega)]
    have h1 : 0 ≤ (wday (dno y m n) - wd) % 7 := by omega
    have h2 : (wday (dno y m n) - wd) % 7 ≤ 6 := by omega
    generalize (wday (dno y m n) - wd) % 7 = r at h1 h2 ⊢
    unfold dno; omega
theorem dno_400 (y m d : Int) : dno (y + 400) m d = dno y m d + 146097 := by
  unfold dno cum
  rw [st_400, lp_400]
  split <;> omega
theorem mlen_400 (y m : Int) : mlen (y + 400) m = mlen y m := by unfold mlen; rw [lp_400]
theorem wday_146097 (n : Int) : wday (n + 146097) = wday n := by unfold wday; omega
theorem ruleDay_400 (y m k wd n : Int) : ruleDay (y + 400) m k wd n = ruleDay y m k wd n + 146097 := by
  unfold ruleDay
  rw [dno_400, mlen_400, dno_400, wday_146097, wday_146097]
  split
  · rfl
  · split
    · omega
    · split <;> omega
/-- The instant of a day and seconds by a clock. -/
def inst (day sec kd off sv : Int) : Int := (day + 10957) * 86400 + sec - (if kd = 117 then 0 else off) - (if kd = 117 ∨ kd = 115 then 0 else sv)
/-- The instant of a half's shift. -/
def shAt (off y m k wd n sec kd osv : Int) : Int := inst (ruleDay y m k wd n) sec kd off osv
theorem inst_bd (day sec kd off sv : Int) (h1 : 0 ≤ sec ∧ sec ≤ 86400) (h2 : -50400 ≤ off ∧ off ≤ 50400) (h3 : 0 ≤ sv ∧ sv ≤ 7200) : (day + 10957) * 86400 - 57600 ≤ inst day sec kd off sv ∧ inst day sec kd off sv ≤ (day + 10957) * 86400 + 136800 := by
  unfold inst
  split <;> split <;> omega
/-- Bounds of what a half may say. -/
structure Fine (off m k wd n sec kd osv : Int) : Prop where
  hm : 1 ≤ m ∧ m ≤ 12
  on : rightOn k wd n
  hat : rightAt sec kd
  hoff : -50400 ≤ off ∧ off ≤ 50400
  hsv : 0 ≤ osv ∧ osv ≤ 7200
theorem shAt_bd {off m k wd n sec kd osv : Int} (y : Int) (h : Fine off m k wd n sec kd osv) :
    (dno y m 1 + 10951) * 86400 - 57600 ≤ shAt off y m k wd n sec kd osv ∧ shAt off y m k wd n sec kd osv ≤ (dno y m 1 + 10993) * 86400 + 136800 := by
  have h1 := ruleDay_bd y m k wd n h.on
  have h2 := inst_bd (ruleDay y m k wd n) sec kd off osv ⟨h.hat.1, h.hat.2.1⟩ h.hoff h.hsv
  unfold shAt
  omega
/-- How far instants of one foot's halves may stray from their days: the same clocks' offset on both sides. -/
theorem inst_near (day day' sec sec' kd kd' off sv sv' : Int) (h1 : 0 ≤ sec ∧ sec ≤ 86400) (h1' : 0 ≤ sec' ∧ sec' ≤ 86400) (h2 : -50400 ≤ off ∧ off ≤ 50400) (h3 : 0 ≤ sv ∧ sv ≤ 7200) (h3' : 0 ≤ sv' ∧ sv' ≤ 7200) (h : day + 17 ≤ day') : inst day sec kd off sv < inst day' sec' kd' off sv' := by
  have a := inst_bd day sec kd off sv h1 h2 h3
  have b := inst_bd day' sec' kd' off sv' h1' h2 h3'
  omega
theorem sh_year {off m k wd n sec kd osv m' k' wd' n' sec' kd' osv' : Int} (y : Int) (h : Fine off m k wd n sec kd osv) (h' : Fine off m' k' wd' n' sec' kd' osv') (hm : m + 2 ≤ m') : shAt off y m k wd n sec kd osv < shAt off y m' k' wd' n' sec' kd' osv' := by
  have h1 := ruleDay_bd y m k wd n h.on
  have h2 := ruleDay_bd y m' k' wd' n' h'.on
  have h3 := cum_gap y m m' h.hm.1 hm
  refine inst_near _ _ _ _ _ _ _ _ _ ⟨h.hat.1, h.hat.2.1⟩ ⟨h'.hat.1, h'.hat.2.1⟩ h.hoff h.hsv h'.hsv ?_
  unfold dno at h1 h2
  omega
theorem sh_next {off m k wd n sec kd osv m' k' wd' n' sec' kd' osv' : Int} (y : Int) (h : Fine off m k wd n sec kd osv) (h' : Fine off m' k' wd' n' sec' kd' osv') (hm : m ≤ m' + 10) : shAt off y m k wd n sec kd osv < shAt off (y + 1) m' k' wd' n' sec' kd' osv' := by
  have h1 := ruleDay_bd y m k wd n h.on
  have h2 := ruleDay_bd (y + 1) m' k' wd' n' h'.on
  have h3 := st_succ y
  have h4 := lp_01 y
  have h5 : 59 ≤ 365 + lp y - cum y m + cum (y + 1) m' := by
    have a := lp_01 (y + 1)
    have hm1 := h.hm
    have hm2 := h'.hm
    unfold cum
    split <;> split <;> omega
  refine inst_near _ _ _ _ _ _ _ _ _ ⟨h.hat.1, h.hat.2.1⟩ ⟨h'.hat.1, h'.hat.2.1⟩ h.hoff h.hsv h'.hsv ?_
  unfold dno at h1 h2
  omega
theorem shAt_400 (off y m k wd n sec kd osv : Int) : shAt off (y + 400) m k wd n sec kd osv = shAt off y m k wd n sec kd osv + 146097 * 86400 := by
  unfold shAt
  rw [ruleDay_400]
  unfold inst
  omega
/-- The shifts of a year two ahead lie ahead of the year, those of two behind lie behind it. -/
theorem sh_far {off m k wd n sec kd osv : Int} (y : Int) (h : Fine off m k wd n sec kd osv) (at_ : Int) (h1 : (st y + 10957) * 86400 ≤ at_) (h2 : at_ < (st (y + 1) + 10957) * 86400) :
    shAt off (y - 2) m k wd n sec kd osv ≤ at_ ∧ at_ < shAt off (y + 2) m k wd n sec kd osv := by
  have a := shAt_bd (y - 2) h
  have b := shAt_bd (y + 2) h
  have c := cum_bd (y - 2) m h.hm.1 (by have := h.hm; omega)
  have d := cum_bd (y + 2) m h.hm.1 (by have := h.hm; omega)
  have e := (st_le (y := y - 2) (z := y) (by omega)).1
  have f := (st_le (y := y + 1) (z := y + 2) (by omega)).1
  unfold dno at a b
  omega
theorem sh_gap_year {off m k wd n sec kd osv m' k' wd' n' sec' kd' osv' : Int} (y : Int) (h : Fine off m k wd n sec kd osv) (h' : Fine off m' k' wd' n' sec' kd' osv') (hm : m' ≤ m + 10) : shAt off y m' k' wd' n' sec' kd' osv' - shAt off y m k wd n sec kd osv < 400 * 86400 := by
  have a := shAt_bd y h
  have b := shAt_bd y h'
  have c : cum y m' ≤ cum y m + 310 := by
    have e := lp_01 y
    have hm1 := h.hm
    have hm2 := h'.hm
    unfold cum
    split <;> split <;> omega
  unfold dno at a b
  omega
theorem sh_gap_next {off m k wd n sec kd osv m' k' wd' n' sec' kd' osv' : Int} (y : Int) (h : Fine off m k wd n sec kd osv) (h' : Fine off m' k' wd' n' sec' kd' osv') (hm : m' + 2 ≤ m) : shAt off (y + 1) m' k' wd' n' sec' kd' osv' - shAt off y m k wd n sec kd osv < 400 * 86400 := by
  have a := shAt_bd y h
  have b := shAt_bd (y + 1) h'
  have s := st_succ y
  have e := lp_01 y
  have c : 365 + lp y - cum y m + cum (y + 1) m' ≤ 310 := by
    have e' := lp_01 (y + 1)
    have hm1 := h.hm
    have hm2 := h'.hm
    unfold cum
    split <;> split <;> omega
  unfold dno at a b
  omega
end Go.Proofs.Ytehoammeaimobaa.Q
