/- What Year, At and Next answer, in the program and in the reference alike. -/
import Derived.Test.YtehoammeaimobaaQSeq
import Derived.Test.YtehoammeaimobaaHGiven
set_option linter.unusedVariables false
namespace Go.Proofs.Ytehoammeaimobaa.Q
open Go Go.RowKit Go.Proofs.Ytehoammeaimobaa.D Go.Proofs.YtehoammeaimobaaW.PrintWords Go.Proofs.YtehoammeaimobaaW.PrintLast Go.Proofs.YtehoammeaimobaaW.PrintMore

/-- Function fn answers the transition s and the error e0, of a foot and a number. -/
def TranGives (fn : FuncId) (f : FootT) (x : Int) (s : S46) (e0 : Int) : Prop := ∀ w : World, Calls Try.prog fn #[.agg (footA f), .int .i64 x] w fun e w' => e = .returned (.tuple #[tranV s, .int .i64 e0]) ∧ Below w.heap.size w w'
theorem tran_calls {fn : FuncId} {f : FootT} {x : Int} {s : S46} {e0 : Int} (h : TranGives fn f x s e0) (w : World) : Calls Try.prog fn #[.agg (footA f), .int .i64 x] w fun e w' => e = .returned (.tuple #[tranV s, .int .i64 e0]) ∧ Below w.heap.size w w' := h w
theorem shF_bd {f : FootT} (hf : rightF f) (y : Int) (b : Bool) (hy : -4718 ≤ y ∧ y ≤ 294282) : -100000000000000 ≤ (shF f y b).f0 ∧ (shF f y b).f0 ≤ 100000000000000 := by
  obtain ⟨E, L, hE, hL, h3, h4, e1, e2⟩ := order_is hf
  have a := shAt_bd y (fine_of hE hL hf.2.2.2.1)
  have c := shAt_bd y (fine_of hL hE hf.2.2.2.1)
  have d1 := dno_bd y E.m 1 (by omega) hE.1 (by omega)
  have d2 := dno_bd y L.m 1 (by omega) hL.1 (by omega)
  cases b
  · rw [e2]; exact ⟨by show _ ≤ shAt _ _ _ _ _ _ _ _ _; omega, by show shAt _ _ _ _ _ _ _ _ _ ≤ _; omega⟩
  · rw [e1]; exact ⟨by show _ ≤ shAt _ _ _ _ _ _ _ _ _; omega, by show shAt _ _ _ _ _ _ _ _ _ ≤ _; omega⟩
theorem shF_off {f : FootT} (hf : rightF f) (y : Int) (b : Bool) : -100000 ≤ (shF f y b).f1 ∧ (shF f y b).f1 ≤ 100000 := by
  obtain ⟨_, hA, hB, hoff, _⟩ := hf
  have a := hA.2.2.2
  have c := hB.2.2.2
  rcases shF_of f y b with h | h <;> omega
theorem refs_of (f : FootT) (hf : rightF f) (y : Int) (hy : -4718 < y ∧ y < 294282) : ListGives 11 f y [shF f y true, shF f y false] := by
  obtain ⟨h0, hA, hB, hoff, hm⟩ := hf
  have sA := rshift_is f.off f.A f.B y hA hB hoff hy 2000 (by omega)
  have sB := rshift_is f.off f.B f.A y hB hA hoff hy 2000 (by omega)
  have hr : rightO 2000 f = some true := by rw [rright_is f 2000 (by omega), decide_eq_true ⟨h0, hA, hB, hoff, hm⟩]
  intro w
  by_cases h : f.A.m < f.B.m
  · have e1 : shF f y true = shP f.off f.A f.B y := by unfold shF; rw [if_pos (decide_eq_true h).symm]
    have e2 : shF f y false = shP f.off f.B f.A y := by unfold shF; rw [if_neg (by rw [decide_eq_true h]; decide)]
    rw [e1, e2]
    exact refYear_up 2000 f y _ _ w hr hy.1 hy.2 (decide_eq_true h) sA sB
  · have e1 : shF f y true = shP f.off f.B f.A y := by unfold shF; rw [if_neg (by rw [decide_eq_false h]; decide)]
    have e2 : shF f y false = shP f.off f.A f.B y := by unfold shF; rw [if_pos (decide_eq_false h).symm]
    rw [e1, e2]
    exact refYear_down 2000 f y _ _ w hr hy.1 hy.2 (decide_eq_false h) sA sB
theorem year_cases (f : FootT) (y : Int) : (∃ e0 : Int, e0 ≠ 0 ∧ ListFails 9 f y e0 ∧ ListFails 11 f y e0 ∧ ¬ (rightF f ∧ -4718 < y ∧ y < 294282)) ∨ (rightF f ∧ (-4718 < y ∧ y < 294282) ∧ ListGives 9 f y [shF f y true, shF f y false] ∧ ListGives 11 f y [shF f y true, shF f y false]) := by
  by_cases hf : rightF f
  · have hc : canO f = some true := by rw [can_is, decide_eq_true hf]
    have hr : rightO 2000 f = some true := by rw [rright_is f 2000 (by omega), decide_eq_true hf]
    by_cases hy : -4718 < y ∧ y < 294282
    · exact .inr ⟨hf, hy, fun w => Year_ok 2000 f y _ _ w hc hy.1 hy.2 (shift_is f y true hf hy 2000 (by omega)) (shift_is f y false hf hy 2000 (by omega)), refs_of f hf y hy⟩
    · exact .inl ⟨10, by decide, fun w => Year_range f y w hc (by omega), fun w => refYear_range 2000 f y w hr (by omega), fun h => hy h.2⟩
  · have hc : canO f = some false := by rw [can_is, decide_eq_false hf]
    have hr : rightO 2000 f = some false := by rw [rright_is f 2000 (by omega), decide_eq_false hf]
    exact .inl ⟨1, by decide, fun w => Year_arg f y w hc, fun w => refYear_arg 2000 f y w hr, fun h => hf h.1⟩
theorem at_ok (f : FootT) (at_ y : Int) (hf : rightF f) (hy : fire_YearAt.f at_ = some y) (hyo : YearOf (at_ / 86400 - 10957) y) (hy' : computusref09_YearAt.f 2000 at_ = some y) (hb : -4714 ≤ y ∧ y ≤ 294278) :
    rightF f ∧ ∃ j : Int, (sq f j).f0 ≤ at_ ∧ at_ < (sq f (j + 1)).f0 ∧ -100000000000000 ≤ (sq f j).f0 ∧ (sq f (j + 1)).f0 ≤ 100000000000000 ∧
      TranGives 14 f at_ (sq f j) 0 ∧ TranGives 15 f at_ (sq f j) 0 ∧ TranGives 16 f at_ (sq f (j + 1)) 0 ∧ TranGives 17 f at_ (sq f (j + 1)) 0 := by
      have hc : canO f = some true := by rw [can_is, decide_eq_true hf]
      have hr : rightO 2000 f = some true := by rw [rright_is f 2000 (by omega), decide_eq_true hf]
      have hst : st y ≤ at_ / 86400 - 10957 ∧ at_ / 86400 - 10957 < st (y + 1) := by
        rcases hyo with h | h | h
        · omega
        · omega
        · exact h.2.2
      have hfar := fun b => far_is hf y b at_ (by omega) (by omega)
      have hk : 2 * (y - 2) + 1 + ((7 : Nat) : Int) = 2 * (y + 2) := by omega
      obtain ⟨j, a, b, c, d⟩ := sq_find f at_ 7 (2 * (y - 2) + 1) (by decide) (by rw [sq_odd]; exact (hfar false).1) (by rw [hk, sq_even]; exact (hfar true).2)
      have hT : ∀ q : Nat, q < 5 → ∀ b, shiftO 2000 f (y - 2 + q) b = some ((shF f (y - 2 + q) b).f0, (shF f (y - 2 + q) b).f1, (shF f (y - 2 + q) b).f2, (shF f (y - 2 + q) b).f3) :=
        fun q hq b => shift_is f _ b hf (by omega) 2000 (by omega)
      have hne : ∃ x ∈ ten f y, at_ < x.f0 := ⟨sq f (j + 1), by
        have g := ten_get f y (j + 1 - 2 * (y - 2)).toNat (by omega)
        rw [show 2 * (y - 2) + (((j + 1 - 2 * (y - 2)).toNat : Nat) : Int) = j + 1 by omega] at g
        exact List.mem_of_getElem? g, d⟩
      have hsp := fun pre x hp ha hx => ten_split f hf y at_ j (by omega) (by omega) c d pre x hp ha hx
      have hask := asks_ok f at_ y hc hb.1 hb.2 hy
      have hnear : ListGives 26 f at_ (ten f y) := by
        have := near_ok 2000 f at_ y (fun q => [shF f (y - 2 + q) true, shF f (y - 2 + q) false]) (fun _ => rfl) hr hy' hb.1 hb.2 (fun q hq => refs_of f hf _ (by omega))
        exact this
      have hl : (ten f y).length ≤ 100 := by rw [ten_len]; decide
      have hi0 : 0 ≤ j - 2 * (y - 2) := by omega
      have hi1 : j - 2 * (y - 2) + 1 < 10 := by omega
      have hlen : ((ten f y).length : Int) = 10 := by rw [ten_len]; rfl
      have g0 : rd_T46 (ten f y) (j - 2 * (y - 2)) = sq f j := by rw [rd_ten f y _ hi0 (by omega)]; congr 1; omega
      have g1 : rd_T46 (ten f y) (j - 2 * (y - 2) + 1) = sq f (j + 1) := by rw [rd_ten f y _ (by omega) hi1]; congr 1; omega
      refine ⟨hf, j, c, d, ?_, ?_, ?_, ?_, ?_, ?_⟩
      · exact (shF_bd hf (j / 2) _ (by omega)).1
      · exact (shF_bd hf ((j + 1) / 2) _ (by omega)).2
      · exact fun w => At_ok 2000 f at_ y (fun q b => shF f (y - 2 + q) b) w hy hb.1 hb.2 hask hT (sq f j) (fun pre x hp ha hx => (hsp pre x hp ha hx).1) hne
      · intro w
        have := refAt_ok f at_ (ten f y) (j - 2 * (y - 2)) w hnear hl hi0 (by omega) (by rw [g0]; exact c) (fun q hq hq2 => by
          rw [rd_ten f y q (by omega) (by omega)]
          have := sq_le hf (i := j + 1) (j := 2 * (y - 2) + q) (by omega)
          omega)
        rw [g0] at this
        exact this
      · exact fun w => Next_ok 2000 f at_ y (fun q b => shF f (y - 2 + q) b) w hy hb.1 hb.2 hask hT (sq f (j + 1)) (fun pre x hp ha hx => (hsp pre x hp ha hx).2) hne
      · intro w
        have := refNext_ok f at_ (ten f y) (j - 2 * (y - 2) + 1) w hnear hl (by omega) (by omega) (by rw [g1]; exact d) (fun q hq hq2 => by
          rw [rd_ten f y q (by omega) (by omega)]
          have := sq_le hf (i := 2 * (y - 2) + q) (j := j) (by omega)
          omega)
        rw [g1] at this
        exact this
theorem at_cases (f : FootT) (at_ : Int) (h1 : -9223372036854775808 ≤ at_) (h2 : at_ ≤ 9223372036854775807) :
    (∃ e0 : Int, e0 ≠ 0 ∧ TranGives 14 f at_ z46 e0 ∧ TranGives 15 f at_ z46 e0 ∧ TranGives 16 f at_ z46 e0 ∧ TranGives 17 f at_ z46 e0) ∨
    (rightF f ∧ ∃ j : Int, (sq f j).f0 ≤ at_ ∧ at_ < (sq f (j + 1)).f0 ∧ -100000000000000 ≤ (sq f j).f0 ∧ (sq f (j + 1)).f0 ≤ 100000000000000 ∧
      TranGives 14 f at_ (sq f j) 0 ∧ TranGives 15 f at_ (sq f j) 0 ∧ TranGives 16 f at_ (sq f (j + 1)) 0 ∧ TranGives 17 f at_ (sq f (j + 1)) 0) := by
  obtain ⟨y, hy, hyo⟩ := yearAt_is at_ h1 h2
  obtain ⟨y', hy', hyo'⟩ := ryear_is at_ h1 h2 2000 (by omega)
  obtain rfl := yearOf_one hyo hyo'
  by_cases hf : rightF f
  · have hc : canO f = some true := by rw [can_is, decide_eq_true hf]
    have hr : rightO 2000 f = some true := by rw [rright_is f 2000 (by omega), decide_eq_true hf]
    by_cases hb : -4714 ≤ y ∧ y ≤ 294278
    · exact .inr (at_ok f at_ y hf hy hyo hy' hb)
    · left
      have hask : Asks f at_ 10 := by
        by_cases h : y < -4714
        · exact asks_low f at_ y hc h hy
        · exact asks_high f at_ y hc (by omega) hy
      have hn : ListFails 26 f at_ 10 := fun w => near_range 2000 f at_ y w hr hy' (by omega)
      exact ⟨10, by decide, fun w => At_err f at_ 10 w (by decide) hask, fun w => refAt_err f at_ 10 w hn, fun w => Next_err f at_ 10 w (by decide) hask, fun w => refNext_err f at_ 10 w hn⟩
  · left
    have hc : canO f = some false := by rw [can_is, decide_eq_false hf]
    have hr : rightO 2000 f = some false := by rw [rright_is f 2000 (by omega), decide_eq_false hf]
    have hask := asks_arg f at_ y hc hy
    have hn : ListFails 26 f at_ 1 := fun w => near_arg 2000 f at_ w hr
    exact ⟨1, by decide, fun w => At_err f at_ 1 w (by decide) hask, fun w => refAt_err f at_ 1 w hn, fun w => Next_err f at_ 1 w (by decide) hask, fun w => refNext_err f at_ 1 w hn⟩
end Go.Proofs.Ytehoammeaimobaa.Q
