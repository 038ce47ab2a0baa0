/- The reference's Read is the program's: by going along the text. -/
import Derived.Test.YtndlhoaigaidbaaQSmall
import Derived.Test.YtndlhoaigaidbaaHRead
set_option linter.unusedVariables false
namespace Go.Proofs.Ytndlhoaigaidbaa.Q
open Go.RowKit Go.Proofs.Ytndlhoaigaidbaa.D Go.Proofs.YtndlhoaigaidbaaW.PrintWords Go.Proofs.YtndlhoaigaidbaaW.PrintLast

/-- The program's N and why stand for the reference's number. -/
def Same (why N v : Int) : Prop := (why = 0 ∧ N = -v ∧ v ≤ 9223372036854775808) ∨ (why = 10 ∧ 9223372036854775808 < v)

/-- The number with a digit behind it, unless it is large. -/
def more (v d : Int) : Int := if v < 18446744073709551616 then v * 10 + d else v

theorem mulT_small (v : Int) (h0 : 0 ≤ v) (h1 : v ≤ 9223372036854775808) : mulT (-v) 10 = if v * 10 ≤ 9223372036854775808 then (-(v * 10), 0) else (0, 10) := by
  unfold mulT
  by_cases h : v * 10 ≤ 9223372036854775808
  · rw [if_pos h, if_pos (show inI64 _ from ⟨by omega, by omega⟩), Int.neg_mul]
  · rw [if_neg h, if_neg (fun hi => by obtain ⟨a, b⟩ := hi; omega)]
theorem subT_small (u d : Int) (h0 : 0 ≤ u) (h1 : u ≤ 9223372036854775808) (hd : 0 ≤ d) : subT (-u) d = if u + d ≤ 9223372036854775808 then (-(u + d), 0) else (0, 10) := by
  unfold subT
  by_cases h : u + d ≤ 9223372036854775808
  · rw [if_pos h, if_pos (show inI64 _ from ⟨by omega, by omega⟩), show -u - d = -(u + d) by omega]
  · rw [if_neg h, if_neg (fun hi => by obtain ⟨a, b⟩ := hi; omega)]

theorem same_step (N v c : Int) (h0 : 0 ≤ v) (h : Same 0 N v) (hc : 48 ≤ c) (hc' : c ≤ 57) : Same (stepN N c).2 (stepN N c).1 (more v (c - 48)) := by
  obtain ⟨-, rfl, hv⟩ | ⟨h, -⟩ := h
  case inr => exact absurd h (by decide)
  have hm : more v (c - 48) = v * 10 + (c - 48) := by unfold more; rw [if_pos (by omega)]
  rw [hm]
  unfold stepN
  rw [mulT_small v h0 hv]
  by_cases h1 : v * 10 ≤ 9223372036854775808
  · rw [if_pos h1, if_pos rfl]
    show Same (subT (-(v * 10)) (c - 48)).2 (subT (-(v * 10)) (c - 48)).1 _
    rw [subT_small (v * 10) (c - 48) (by omega) h1 (by omega)]
    by_cases h2 : v * 10 + (c - 48) ≤ 9223372036854775808
    · rw [if_pos h2]; exact .inl ⟨rfl, rfl, h2⟩
    · rw [if_neg h2]; exact .inr ⟨rfl, by omega⟩
  · rw [if_neg h1, if_neg (by decide)]; exact .inr ⟨rfl, by omega⟩
theorem same_more (why N v c : Int) (h0 : 0 ≤ v) (hw : ¬ why = 0) (h : Same why N v) (hc : 48 ≤ c) : Same why N (more v (c - 48)) := by
  obtain ⟨h, -⟩ | ⟨h, hv⟩ := h
  · exact absurd h hw
  · refine .inr ⟨h, ?_⟩
    unfold more; split <;> omega

/-- A digit. -/
theorem digit_L (k : Nat) (s : ByteArray) (neg : Bool) (x7 c v : Int) (p : Nat) (hp : p < s.size) (hc : bt s p = c) (h48 : 48 ≤ c) (h57 : c ≤ 57) (h0 : 0 ≤ v) (h1 : v < 184467440737095516160) (hs : s.size ≤ 140737488351232) :
    computusref04_Read.l0 (k + 40) s neg (v / 18446744073709551616 != 0) x7 p false (L v) = computusref04_Read.l0 (if v / 18446744073709551616 = 0 then k + 32 else k + 37) s neg (more v (c - 48) / 18446744073709551616 != 0) x7 ((p + 1 : Nat) : Int) false (L (more v (c - 48))) := by
  have hp' : (p : Int) < (s.size : Int) := by omega
  have w : wrap64 ((p : Int) + 1) = ((p + 1 : Nat) : Int) := by unfold wrap64; omega
  rw [show k + 40 = (k + 39) + 1 from rfl, computusref04_Read.l0, if_pos hp', if_pos (by omega), hc, if_neg (by omega)]
  rw [show k + 39 = (k + 38) + 1 from rfl, computusref04_Read.j3, if_neg (by decide), if_pos (by omega), if_pos hp', hc, if_neg (by omega), decide_eq_false (by omega)]
  rw [show k + 38 = (k + 37) + 1 from rfl, computusref04_Read.j4, if_neg (by decide)]
  by_cases hl : v / 18446744073709551616 = 0
  · have hv : v < 18446744073709551616 := by omega
    have hm : more v (c - 48) = v * 10 + (c - 48) := by unfold more; rw [if_pos hv]
    rw [hm, if_pos hl, hl, show ((0 : Int) != 0) = false by decide, if_neg (by decide)]
    rw [of_small 10 (by decide) (by decide), Option.bind_some, times_L (k + 37) (by omega) v h0 hv, Option.bind_some, if_pos (by omega), if_pos hp', hc, show (c - 48) % 256 = c - 48 by omega, of_small (c - 48) (by omega) (by omega), Option.bind_some, plus_L (k + 37) (by omega) _ _ (by omega) (by omega) (by omega) (by omega), Option.bind_some]
    rw [show k + 37 = (k + 32) + 5 from rfl, large_L (k + 32) s neg x7 p _ (by omega), w]
  · have hv : ¬ v < 18446744073709551616 := by omega
    have hm : more v (c - 48) = v := by unfold more; rw [if_neg hv]
    rw [hm, if_neg hl, show (v / 18446744073709551616 != 0) = true from bne_iff_ne.2 hl, if_pos rfl, w]

/-- Something else. -/
theorem bad_L (k : Nat) (s : ByteArray) (neg large : Bool) (x7 : Int) (c : Int) (l : List Int) (p : Nat) (hp : p < s.size) (hc : bt s p = c) (hdot : ¬ (c = 46 ∧ x7 < 0 ∧ 0 < p)) (hb : c < 48 ∨ 57 < c) :
    computusref04_Read.l0 (k + 3) s neg large x7 p false l = some (0, 0, 13) := by
  have hp' : (p : Int) < (s.size : Int) := by omega
  have key : ∀ k, computusref04_Read.j3 (k + 2) s neg large x7 p false false l = some (0, 0, 13) := by
    intro k
    rw [show k + 2 = (k + 1) + 1 from rfl, computusref04_Read.j3, if_neg (by decide), if_pos (by omega), if_pos hp', hc]
    by_cases h : c < 48
    · rw [if_pos h, computusref04_Read.j4, if_pos rfl]
    · rw [if_neg h, decide_eq_true (by omega : c > 57), computusref04_Read.j4, if_pos rfl]
  rw [show k + 3 = (k + 2) + 1 from rfl, computusref04_Read.l0, if_pos hp', if_pos (by omega), hc]
  by_cases h46 : c = 46
  · rw [if_pos h46]
    by_cases h7 : x7 < 0
    · rw [if_pos h7, decide_eq_false (by omega)]; exact key k
    · rw [if_neg h7]; exact key k
  · rw [if_neg h46]; exact key k

/-- The point. -/
theorem dot_L (k : Nat) (s : ByteArray) (neg large : Bool) (x7 : Int) (l : List Int) (p : Nat) (hp : p < s.size) (hc : bt s p = 46) (h7 : x7 < 0) (h0 : 0 < p) (hs : s.size ≤ 140737488351232) :
    computusref04_Read.l0 (k + 2) s neg large x7 p false l = computusref04_Read.l0 k s neg large p ((p + 1 : Nat) : Int) false l := by
  have hp' : (p : Int) < (s.size : Int) := by omega
  have w : wrap64 ((p : Int) + 1) = ((p + 1 : Nat) : Int) := by unfold wrap64; omega
  rw [show k + 2 = (k + 1) + 1 from rfl, computusref04_Read.l0, if_pos hp', if_pos (by omega), hc, if_pos rfl, if_pos h7, decide_eq_true (by omega : (p : Int) > 0), computusref04_Read.j3, if_pos rfl, w]

/-- What stands behind the loop. -/
theorem end_L (k : Nat) (s : ByteArray) (neg : Bool) (S v why N : Int) (h0 : 0 ≤ v) (hs : Same why N v) (hz : 0 < s.size) :
    computusref04_Read.j6 (k + 8) s neg (v / 18446744073709551616 != 0) S false (L v) = some (if neg = false ∧ why = 0 then (if (subT 0 N).2 = 0 then ((subT 0 N).1, S, 0) else (0, 0, (subT 0 N).2)) else if why = 0 then (N, S, 0) else (0, 0, why)) := by
  have lz : v < 18446744073709551616 → (v / 18446744073709551616 != 0) = false := fun h => by
    rw [show v / 18446744073709551616 = 0 by omega]; decide
  have sf := small_L (k + 1) false v h0 (fun h => absurd h (by decide))
  rw [if_neg Bool.false_ne_true] at sf
  rw [show k + 8 = (k + 7) + 1 from rfl, computusref04_Read.j6, if_neg (by omega)]
  cases neg
  · rw [if_neg Bool.false_ne_true, show k + 7 = (k + 1) + 6 from rfl, sf, Option.bind_some]
    obtain ⟨rfl, rfl, hv⟩ | ⟨rfl, hv⟩ := hs
    · rw [if_pos (⟨rfl, rfl⟩ : false = false ∧ (0 : Int) = 0)]
      by_cases h : v < 9223372036854775808
      · have e : subT 0 (-v) = (v, 0) := by
          unfold subT; rw [if_pos (show inI64 _ from ⟨by omega, by omega⟩), show 0 - -v = v by omega]
        rw [if_pos h, e, lz (by omega)]; rfl
      · have e : subT 0 (-v) = (0, 10) := by
          unfold subT; rw [if_neg (fun hi => by obtain ⟨a, b⟩ := hi; omega)]
        rw [if_neg h, e]; rfl
    · rw [if_neg (by decide : ¬ (false = false ∧ (10 : Int) = 0)), if_neg (by omega : ¬ v < 9223372036854775808)]; rfl
  · rw [if_pos rfl, minus_L k v h0, Option.bind_some, show k + 7 = (k + 1) + 6 from rfl]
    by_cases hv0 : v = 0
    · subst hv0
      obtain ⟨rfl, rfl, hv⟩ | ⟨rfl, hv⟩ := hs
      · rw [show (!((0 : Int) == 0)) = false by decide, sf]
        rfl
      · exact absurd hv (by decide)
    · have st := small_L (k + 1) true v h0 (fun _ => by omega)
      rw [if_pos rfl] at st
      rw [show (!(v == 0)) = true by rw [beq_eq_false_iff_ne.2 hv0]; rfl, st, Option.bind_some]
      obtain ⟨rfl, rfl, hv⟩ | ⟨rfl, hv⟩ := hs
      · rw [if_pos hv, lz (by omega)]; rfl
      · rw [if_neg (by omega : ¬ v ≤ 9223372036854775808)]; rfl

/-- What the text comes to from a place on. -/
def told (neg : Bool) : Option (Int × Bool × Int × Int × Int) → Int × Int × Int
  | none => (0, 0, 13)
  | some (dg, pt, why, N, S) => fin neg dg pt why N S

theorem bt_drop (s : ByteArray) (p : Nat) (h : p < s.size) : (bytesOf s).drop p = bt s p :: (bytesOf s).drop (p + 1) := by
  rw [drop_bytes s p h]
  unfold bt
  rw [dif_pos (by simpa using h)]
  simp

theorem more_bound (v d : Int) (h0 : 0 ≤ v) (h1 : v < 184467440737095516160) (hd : 0 ≤ d) (hd' : d ≤ 9) : 0 ≤ more v d ∧ more v d < 184467440737095516160 := by
  unfold more; split <;> omega

theorem sim (s : ByteArray) (neg : Bool) (hs : s.size ≤ 140737488351232) : ∀ (n p k : Nat) (dg why N S x7 v : Int) (pt : Bool), p + n = s.size → 40 + 10 * n ≤ k → 0 ≤ v → v < 184467440737095516160 → Same why N v →
    ((pt = false ∧ x7 = -1 ∧ dg = p ∧ S = 0) ∨ (pt = true ∧ 1 ≤ x7 ∧ x7 < p ∧ dg = p - 1 ∧ S = p - x7 - 1)) →
    computusref04_Read.l0 k s neg (v / 18446744073709551616 != 0) x7 p false (L v) = some (told neg (rdl ((bytesOf s).drop p) dg pt why N S)) := by
  intro n
  induction n with
  | zero =>
    intro p k dg why N S x7 v pt hp hk h0 h1 hsame hpt
    have hd : (bytesOf s).drop p = [] := List.drop_eq_nil_of_le (by rw [bytesOf_length]; omega)
    obtain ⟨k, rfl⟩ : ∃ k', k = k' + 9 := ⟨k - 9, by omega⟩
    rw [hd, rdl, told, show k + 9 = (k + 8) + 1 from rfl, computusref04_Read.l0, if_neg (by omega)]
    obtain ⟨rfl, rfl, rfl, rfl⟩ | ⟨rfl, hx, hxp, hdg, rfl⟩ := hpt
    · rw [if_neg (by decide)]
      by_cases hz : s.size = 0
      · rw [show k + 8 = (k + 7) + 1 from rfl, computusref04_Read.j6, if_pos (by omega), fin_13 (.inl (by omega))]
      · rw [end_L k s neg 0 v why N h0 hsame (by omega), fin_ok (by omega) (by decide) (by decide)]
    · have hw : wrap64 (wrap64 ((s.size : Int) - x7) - 1) = p - x7 - 1 := by unfold wrap64; omega
      rw [if_pos (by omega), hw]
      by_cases c1 : (p : Int) - x7 - 1 < 1
      · rw [if_pos c1, fin_13 (.inr (.inl ⟨rfl, by omega⟩))]
      · rw [if_neg c1]
        by_cases c9 : (p : Int) - x7 - 1 > 9
        · rw [if_pos c9, fin_13 (.inr (.inr (by omega)))]
        · rw [if_neg c9, end_L k s neg _ v why N h0 hsame (by omega), fin_ok (by omega) (by omega) (by omega)]
  | succ n ih =>
    intro p k dg why N S x7 v pt hp hk h0 h1 hsame hpt
    have hps : p < s.size := by omega
    rw [bt_drop s p hps, rdl]
    obtain ⟨b0, b1⟩ := bt_range s p
    by_cases cd : bt s p = 46 ∧ pt = false ∧ 0 < dg
    · obtain ⟨e46, rfl, hdg⟩ := cd
      rw [if_pos ⟨e46, rfl, hdg⟩]
      obtain ⟨-, rfl, rfl, rfl⟩ | ⟨h, -⟩ := hpt
      case inr => exact absurd h (by decide)
      obtain ⟨k, rfl⟩ : ∃ k', k = k' + 2 := ⟨k - 2, by omega⟩
      rw [dot_L k s neg _ (-1) _ p hps e46 (by decide) (by omega) hs]
      exact ih (p + 1) k p why N 0 p v true (by omega) (by omega) h0 h1 hsame (.inr ⟨rfl, by omega, by omega, by omega, by omega⟩)
    rw [if_neg cd]
    by_cases cb : bt s p < 48 ∨ 57 < bt s p
    · rw [if_pos cb, told]
      obtain ⟨k, rfl⟩ : ∃ k', k = k' + 3 := ⟨k - 3, by omega⟩
      refine bad_L k s neg _ x7 _ _ p hps rfl (fun h => cd ?_) cb
      obtain ⟨rfl, rfl, rfl, rfl⟩ | ⟨rfl, hx, hxp, hdg, rfl⟩ := hpt
      · exact ⟨h.1, rfl, by omega⟩
      · omega
    rw [if_neg cb]
    have h48 : 48 ≤ bt s p := by omega
    have h57 : bt s p ≤ 57 := by omega
    obtain ⟨m0, m1⟩ := more_bound v (bt s p - 48) h0 h1 (by omega) (by omega)
    have hnext : ((pt = false ∧ x7 = -1 ∧ dg + 1 = ((p + 1 : Nat) : Int) ∧ (if pt = true then S + 1 else S) = 0) ∨ (pt = true ∧ 1 ≤ x7 ∧ x7 < ((p + 1 : Nat) : Int) ∧ dg + 1 = ((p + 1 : Nat) : Int) - 1 ∧ (if pt = true then S + 1 else S) = ((p + 1 : Nat) : Int) - x7 - 1)) := by
      obtain ⟨rfl, rfl, rfl, rfl⟩ | ⟨rfl, hx, hxp, hdg, rfl⟩ := hpt
      · exact .inl ⟨rfl, rfl, by omega, rfl⟩
      · refine .inr ⟨rfl, hx, by omega, by omega, ?_⟩
        rw [if_pos rfl]; omega
    obtain ⟨k, rfl⟩ : ∃ k', k = k' + 40 := ⟨k - 40, by omega⟩
    rw [digit_L k s neg x7 (bt s p) v p hps rfl h48 h57 h0 h1 hs]
    have hk' : 40 + 10 * n ≤ (if v / 18446744073709551616 = 0 then k + 32 else k + 37) := by split <;> omega
    by_cases hw : why = 0
    · subst hw
      rw [if_pos rfl]
      exact ih (p + 1) _ (dg + 1) _ _ _ x7 _ pt (by omega) hk' m0 m1 (same_step N v _ h0 hsame h48 h57) hnext
    · rw [if_neg hw]
      exact ih (p + 1) _ (dg + 1) _ _ _ x7 _ pt (by omega) hk' m0 m1 (same_more why N v _ h0 hw hsame h48) hnext

theorem of_zero : computusref01_Of.f 0 = some (false, L 0) := by rw [of_small 0 (by decide) (by decide)]; rfl

theorem from_start (s : ByteArray) (neg : Bool) (hs : s.size ≤ 140737488351232) (k : Nat) (hk : 41 + 10 * s.size ≤ k) : computusref04_Read.j1 k s neg = some (readL neg (bytesOf s)) := by
  obtain ⟨k, rfl⟩ : ∃ k', k = k' + 1 := ⟨k - 1, by omega⟩
  rw [computusref04_Read.j1, of_zero, Option.bind_some]
  have e := sim s neg hs s.size 0 k 0 0 0 0 (-1) 0 false (by omega) (by omega) (by decide) (by decide) (.inl ⟨rfl, rfl, by decide⟩) (.inl ⟨rfl, rfl, rfl, rfl⟩)
  rw [List.drop_zero] at e
  refine e.trans ?_
  unfold readL
  cases rdl (bytesOf s) 0 false 0 0 0 <;> rfl

theorem read_same (s : ByteArray) (hs : s.size ≤ 140737488351232) (k : Nat) (hk : 42 + 10 * s.size ≤ k) : computusref04_Read.f k s = dec_Read.f s := by
  obtain ⟨k, rfl⟩ : ∃ k', k = k' + 1 := ⟨k - 1, by omega⟩
  unfold computusref04_Read.f dec_Read.f
  rw [if_pos hs]
  by_cases h0 : 0 < s.size
  · have hx : (s.extract 1 s.size).size = s.size - 1 := by simp
    rw [if_pos (by omega), if_pos (by omega), if_pos h0]
    by_cases c45 : bt s 0 = 45
    · rw [if_pos c45, if_pos c45, computusref04_Read.j0, if_pos rfl, if_pos (by omega), if_pos (by omega), c45]
      exact from_start _ true (by omega) k (by omega)
    · rw [if_neg c45, if_neg c45, computusref04_Read.j0]
      by_cases c43 : bt s 0 = 43
      · rw [if_pos c43, c43, if_pos (by decide), if_pos (by omega), if_pos (by omega)]
        exact from_start _ false (by omega) k (by omega)
      · rw [if_neg c43, if_neg (by rw [beq_eq_false_iff_ne.2 c43]; decide)]
        exact from_start _ false (by omega) k (by omega)
  · rw [if_neg (by omega), if_neg h0, computusref04_Read.j0, if_neg (by decide)]
    exact from_start _ false (by omega) k (by omega)

end Go.Proofs.Ytndlhoaigaidbaa.Q
