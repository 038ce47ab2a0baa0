/- Read of a Text is the number again; the law's answer is true. -/
import Derived.Test.YtndlhoaigaidbaaQText
import Derived.Test.YtndlhoaigaidbaaQRead
import Derived.Test.YtndlhoaigaidbaaDx13
set_option linter.unusedVariables false
namespace Go.Proofs.Ytndlhoaigaidbaa.Q
open Go.RowKit Go.Proofs.Ytndlhoaigaidbaa.D Go.Proofs.YtndlhoaigaidbaaW.PrintWords Go.Proofs.YtndlhoaigaidbaaW.PrintLast

theorem step_digit (a : Int) (d : Int) (h0 : 0 ≤ a) (hd : 0 ≤ d) (hd' : d ≤ 9) (h : a * 10 + d ≤ 9223372036854775808) : stepN (-a) (48 + d) = (-(a * 10 + d), 0) := by
  unfold stepN
  rw [mulT_small a h0 (by omega), if_pos (show a * 10 ≤ 9223372036854775808 by omega), if_pos rfl]
  show subT (-(a * 10)) (48 + d - 48) = _
  rw [show 48 + d - 48 = d by omega, subT_small _ d (by omega) (by omega) hd, if_pos h]

theorem rdl_D (pt : Bool) : ∀ (m u : Nat) (rest : List Int) (dg a S : Int), 0 ≤ a → a * 10 ^ m + ((u % 10 ^ m : Nat) : Int) ≤ 9223372036854775808 →
    rdl (D m u ++ rest) dg pt 0 (-a) S = rdl rest (dg + m) pt 0 (-(a * 10 ^ m + ((u % 10 ^ m : Nat) : Int))) (if pt = true then S + m else S)
  | 0, u, rest, dg, a, S, h0, h => by
    rw [Nat.pow_zero, Nat.mod_one, D]
    cases pt <;> simp
  | m + 1, u, rest, dg, a, S, h0, h => by
    have hp : (0 : Nat) < 10 ^ m := Nat.pow_pos (by decide)
    have e1 : u % 10 ^ (m + 1) = (u / 10 % 10 ^ m) * 10 + u % 10 := by
      rw [Nat.pow_succ, Nat.mul_comm, Nat.mod_mul]; omega
    have e2 : a * (10 : Int) ^ (m + 1) = a * 10 ^ m * 10 := by rw [Int.pow_succ, Int.mul_assoc]
    have ap : 0 ≤ a * (10 : Int) ^ m := Int.mul_nonneg h0 (Int.le_of_lt (Int.pow_pos (by decide)))
    rw [e1, e2] at h ⊢
    rw [D, List.append_assoc, rdl_D pt m (u / 10) _ dg a S h0 (by omega)]
    generalize hx : a * 10 ^ m + ((u / 10 % 10 ^ m : Nat) : Int) = x at *
    have hc : ¬ (48 + (u : Int) % 10 < 48 ∨ 57 < 48 + (u : Int) % 10) := by omega
    rw [show ([48 + (u : Int) % 10] ++ rest) = (48 + (u : Int) % 10) :: rest from rfl, rdl, if_neg (by omega), if_neg hc, if_pos rfl, step_digit x _ (by omega) (by omega) (by omega) (by omega)]
    have e3 : x * 10 + (u : Int) % 10 = a * 10 ^ m * 10 + ((u / 10 % 10 ^ m * 10 + u % 10 : Nat) : Int) := by omega
    rw [e3]
    cases pt
    · rw [if_neg Bool.false_ne_true, if_neg Bool.false_ne_true, if_neg Bool.false_ne_true, show dg + (m : Int) + 1 = dg + ((m + 1 : Nat) : Int) by omega]
    · rw [if_pos rfl, if_pos rfl, if_pos rfl, show dg + (m : Int) + 1 = dg + ((m + 1 : Nat) : Int) by omega, show S + (m : Int) + 1 = S + ((m + 1 : Nat) : Int) by omega]

theorem body_whole (S m u : Nat) (hm : 1 ≤ m) (hS : S ≤ 9) (hu : u < 10 ^ (m + S)) (hb : u ≤ 9223372036854775808) : rdl (body S m u) 0 false 0 0 0 = some (((m + S : Nat) : Int), decide (0 < S), 0, -(u : Int), (S : Int)) := by
  have hq : u / 10 ^ S < 10 ^ m := by
    rw [Nat.pow_add] at hu
    exact (Nat.div_lt_iff_lt_mul (Nat.pow_pos (by decide))).2 hu
  have hqb : u / 10 ^ S ≤ 9223372036854775808 := Nat.le_trans (Nat.div_le_self _ _) hb
  unfold body
  have e := rdl_D false m (u / 10 ^ S) (if 0 < S then 46 :: D S u else []) 0 0 0 (by decide) (by rw [Int.zero_mul, Nat.mod_eq_of_lt hq]; omega)
  rw [Int.zero_mul, Nat.mod_eq_of_lt hq, Int.zero_add, Int.zero_add, if_neg Bool.false_ne_true] at e
  refine e.trans ?_
  by_cases h : 0 < S
  · rw [if_pos h, decide_eq_true h, rdl, if_pos ⟨rfl, rfl, by omega⟩]
    have hs : ((u / 10 ^ S : Nat) : Int) * 10 ^ S + ((u % 10 ^ S : Nat) : Int) = (u : Int) := by
      have := Nat.div_add_mod u (10 ^ S)
      have e : ((10 : Int) ^ S) = ((10 ^ S : Nat) : Int) := by rw [Int.natCast_pow]; rfl
      rw [e, ← Int.natCast_mul, ← Int.natCast_add, Nat.mul_comm, this]
    have e := rdl_D true S u [] (m : Int) ((u / 10 ^ S : Nat) : Int) 0 (Int.natCast_nonneg _) (by rw [hs]; omega)
    rw [hs, List.append_nil, if_pos rfl, Int.zero_add] at e
    rw [e, rdl]
    simp
  · have hz : S = 0 := by omega
    subst hz
    rw [if_neg h, decide_eq_false h, rdl]
    simp

theorem body_in (S m u : Nat) (c : Int) (h : c ∈ body S m u) : 0 ≤ c ∧ c < 256 := by
  unfold body at h
  rw [List.mem_append] at h
  cases h with
  | inl h => have := D_in _ _ _ h; omega
  | inr h =>
    by_cases hs : 0 < S
    · rw [if_pos hs, List.mem_cons] at h
      cases h with
      | inl h => omega
      | inr h => have := D_in _ _ _ h; omega
    · rw [if_neg hs] at h; cases h

theorem body_length (S m u : Nat) : (body S m u).length ≤ m + S + 1 := by
  unfold body
  rw [List.length_append, D_length]
  by_cases hs : 0 < S
  · rw [if_pos hs, List.length_cons, D_length]; omega
  · rw [if_neg hs]; simp; omega

theorem bt_str (l : List Int) (i : Nat) (h : i < l.length) (hl : ∀ c ∈ l, 0 ≤ c ∧ c < 256) : bt (strOfNums l) i = l[i] := by
  have e := bt_drop (strOfNums l) i (by rw [str_size]; exact h)
  rw [str_bytes l hl, List.drop_eq_getElem_cons h] at e
  exact (List.cons.inj e).1.symm

theorem head_body (S m u : Nat) (hm : 1 ≤ m) : ∃ h : 0 < (body S m u).length, 48 ≤ (body S m u)[0] ∧ (body S m u)[0] ≤ 57 := by
  have hl : 0 < (D m (u / 10 ^ S)).length := by rw [D_length]; omega
  refine ⟨by unfold body; rw [List.length_append]; omega, ?_⟩
  have e : (body S m u)[0]'(by unfold body; rw [List.length_append]; omega) = (D m (u / 10 ^ S))[0] := by
    unfold body; exact List.getElem_append_left hl
  rw [e]
  exact D_in _ _ _ (List.getElem_mem hl)

theorem fin_back (neg : Bool) (N : Int) (u m S : Nat) (hm : 1 ≤ m) (hS : S ≤ 9) (hN : inI64 N) (h : if neg = true then N = -(u : Int) else N = (u : Int)) : fin neg ((m + S : Nat) : Int) (decide (0 < S)) 0 (-(u : Int)) S = (N, (S : Int), 0) := by
  rw [fin_ok (by omega) (fun h => by have := of_decide_eq_true h.1; omega) (by omega)]
  obtain ⟨b1, b2⟩ := hN
  cases neg
  · rw [if_neg Bool.false_ne_true] at h
    subst h
    rw [if_pos ⟨rfl, rfl⟩]
    have e : subT 0 (-(u : Int)) = ((u : Int), 0) := by
      unfold subT; rw [if_pos (show inI64 _ from ⟨by omega, by omega⟩), show 0 - -(u : Int) = u by omega]
    rw [e]; rfl
  · rw [if_pos rfl] at h
    subst h
    rfl

theorem back (N : Int) (S : Nat) (hS : S ≤ 9) (hN : inI64 N) : ∃ t, dec_Text.f N S = some t ∧ t.size ≤ 100 ∧ dec_Read.f t = some (N, (S : Int), 0) := by
  obtain ⟨n, hn⟩ := has N.natAbs
  have hN' := hN
  obtain ⟨b1, b2⟩ := hN'
  have hle := has_le hn (by omega)
  refine ⟨_, text_body N S n hS hN hn, ?_, ?_⟩
  · have := body_length S (max n (S + 1) - S) N.natAbs
    rw [ByteArray.size_append, str_size]
    by_cases hneg : N < 0
    · rw [if_pos hneg]; show 1 + _ ≤ _; omega
    · rw [if_neg hneg]; show 0 + _ ≤ _; omega
  obtain ⟨h1, h2, h3⟩ := hn
  have hm : 1 ≤ max n (S + 1) - S := by omega
  have hlen := body_length S (max n (S + 1) - S) N.natAbs
  have hu : N.natAbs < 10 ^ ((max n (S + 1) - S) + S) := Nat.lt_of_lt_of_le h2 (Nat.pow_le_pow_right (by decide) (by omega))
  have hr := body_whole S _ N.natAbs hm hS hu (by omega)
  have hin := body_in S (max n (S + 1) - S) N.natAbs
  obtain ⟨hp, hc0, hc1⟩ := head_body S (max n (S + 1) - S) N.natAbs hm
  have hm30 : max n (S + 1) - S ≤ 30 := by omega
  generalize max n (S + 1) - S = m at *
  unfold dec_Read.f
  by_cases hneg : N < 0
  · have e : ((⟨#[45]⟩ : ByteArray) ++ strOfNums (body S m N.natAbs)) = strOfNums (45 :: body S m N.natAbs) := by
      rw [show 45 :: body S m N.natAbs = [45] ++ body S m N.natAbs from rfl, str_append]; rfl
    have hx : (strOfNums (45 :: body S m N.natAbs)).extract 1 (strOfNums (45 :: body S m N.natAbs)).size = strOfNums (body S m N.natAbs) := by
      rw [str_extract, str_size, List.take_length]; rfl
    have hb : bt (strOfNums (45 :: body S m N.natAbs)) 0 = 45 := bt_str (45 :: body S m N.natAbs) 0 (by simp) (by
      intro c hc
      cases List.mem_cons.1 hc with
      | inl h => omega
      | inr h => exact hin c h)
    rw [if_pos hneg, e, hx, hb, str_size, List.length_cons, if_pos (by omega), if_pos (by omega), if_pos rfl, str_bytes _ hin, read_some true hr]
    rw [fin_back true N N.natAbs m S hm hS hN (by rw [if_pos rfl]; omega)]
  · have e : ((⟨#[]⟩ : ByteArray) ++ strOfNums (body S m N.natAbs)) = strOfNums (body S m N.natAbs) := by
      rw [show strOfNums (body S m N.natAbs) = strOfNums ([] ++ body S m N.natAbs) from rfl, str_append]; rfl
    have hb : bt (strOfNums (body S m N.natAbs)) 0 = (body S m N.natAbs)[0] := bt_str _ 0 hp hin
    rw [if_neg hneg, e, hb, str_size, if_pos (by omega), if_pos (by omega), if_neg (by omega), if_neg (by omega), str_bytes _ hin, read_some false hr]
    rw [fin_back false N N.natAbs m S hm hS hN (by rw [if_neg Bool.false_ne_true]; omega)]

theorem known_yes : computuslaw04_known.f 100 = some true := by decide +kernel

end Go.Proofs.Ytndlhoaigaidbaa.Q
