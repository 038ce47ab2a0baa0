/- Hand contract of the iterator that foot.about hands back: the shifts of the five years about an instant, one by one. -/
import Derived.Test.YtehoammeaimobaaHBoxIn
import Derived.Test.YtehoammeaimobaaHAsked
set_option linter.unusedVariables false
namespace Go.Proofs.Ytehoammeaimobaa.D
open Go Go.RowKit Go.Shelf Go.Proofs.YtehoammeaimobaaW.PrintWords Go.Proofs.YtehoammeaimobaaW.PrintLast Go.Proofs.YtehoammeaimobaaW.PrintMore
attribute [local go_sem] Oper.semAt_some wide_fn wide_depth wide_fn' wide_depth'

/-- The shifts of the first j years. -/
def pairs (T : Nat → Bool → S46) (j : Nat) : List S46 := ((List.range j).map fun i => [T i true, T i false]).flatten
theorem pairs_succ (T : Nat → Bool → S46) (j : Nat) : pairs T (j + 1) = pairs T j ++ [T j true] ++ [T j false] := by simp [pairs, List.range_succ]
theorem pairs_len (T : Nat → Bool → S46) (j : Nat) : (pairs T j).length = 2 * j := by
  induction j with
  | zero => rfl
  | succ j ih => rw [pairs_succ]; simp [ih]; omega
theorem pairs_pre (T : Nat → Bool → S46) {j m : Nat} (h : j ≤ m) : pairs T j <+: pairs T m := by
  induction m with
  | zero => obtain rfl : j = 0 := by omega
            exact List.prefix_refl _
  | succ m ih =>
    by_cases e : j = m + 1
    · subst e; exact List.prefix_refl _
    · rw [pairs_succ, List.append_assoc]; exact (ih (by omega)).trans (List.prefix_append _ _)
theorem pairs_pre1 (T : Nat → Bool → S46) {j m : Nat} (h : j < m) : pairs T j ++ [T j true] <+: pairs T m := by
  have h1 := pairs_pre T (j := j + 1) (m := m) h
  rw [pairs_succ] at h1
  exact (List.prefix_append _ _).trans h1
/-- Blocks g and h lie as they lay. -/
def Same2 (g h : Nat) (W W' : World) : Prop := W'.heap[g]? = W.heap[g]? ∧ W'.heap[h]? = W.heap[h]?
theorem same2_t {g h : Nat} {A B C : World} (a : Same2 g h A B) (b : Same2 g h B C) : Same2 g h A C := ⟨b.1.trans a.1, b.2.trans a.2⟩
theorem shift_in (k : Nat) (f : FootT) (y : Int) (first : Bool) (s : S46) (n : Nat) (w : World) (h : shiftO k f y first = some (s.f0, s.f1, s.f2, s.f3)) :
    CallsIn Fence.wide n Try.prog 20 #[.agg (footA f), .int .i64 y, .bool first] w fun e w' => e = .returned (tranV s) ∧ Below w.heap.size w w' := callsIn_wide.2 (shift_calls k f y first s w h)
theorem yearAt_in (at_ y : Int) (n : Nat) (w : World) (h : fire_YearAt.f at_ = some y) :
    CallsIn Fence.wide n Try.prog 35 #[.int .i64 at_] w fun e w' => e = .returned (.int .i64 y) ∧ Below w.heap.size w w' := callsIn_wide.2 (fire_YearAt.calls at_ y w h)

set_option maxHeartbeats 4000000 in
set_option maxRecDepth 100000 in
theorem about_stops (k : Nat) (f : FootT) (at_ y : Int) (T : Nat → Bool → S46) (n g h : Nat) (w : World) (hy : fire_YearAt.f at_ = some y) (h1 : -4714 ≤ y) (h2 : y ≤ 294278)
    (hT : ∀ j : Nat, j < 5 → ∀ b, shiftO k f (y - 2 + j) b = some ((T j b).f0, (T j b).f1, (T j b).f2, (T j b).f3)) (hg : w.heap[g]? = some (.cells (footA f) 39 (0, 0))) (hh : w.heap[h]? = some (.cells #[.int .i64 at_] 2 (0, 0))) :
    SeqStopsK Fence.wide n Try.prog 36 #[.pointer (some ⟨h, 0, none⟩), .pointer (some ⟨g, 0, none⟩)] (fun s : S46 => #[tranV s]) (Same2 g h) (fun ys => ys = pairs T 5) (fun pre => pre <+: pairs T 5) 10 w := fun l J Jx W hW hJA hJxA hY h0 => by
  have HY := Aside0.mk hy
  have HT := Aside0.mk hT
  have HYY := Aside0.mk hY
  have HA := Aside0.mk hJA
  have HK := Aside0.mk (blk_below hg hW)
  have hc0 : W.cell? ⟨h, 0, none⟩ = some (.int .i64 at_) := (blk_cell (blk_below hh hW) 0).trans rfl
  have HH := Aside0.mk (blk_below hh hW)
  have H0 := Aside0.mk h0
  clear hy hT hY hJA hJxA hg hh hW h0
  refine callsIn_of_wp Try.func36 rfl trivial ?_ rfl
  simp only [Try.ntmps36, List.size_toArray, List.length_cons, List.length_nil, Nat.reduceAdd, Nat.reduceSub, Array.replicate_succ, Array.replicate_zero, List.push_toArray, List.append_toArray, List.nil_append, List.cons_append]
  gi_wp2_with (((with_reducible refine (yearAt_in at_ y _ _ HY.out).mono ?_); rintro e w3 ⟨rfl, hb3⟩; have HK3 := Aside0.mk (blk_below HK.out hb3); have HH3 := Aside0.mk (blk_below HH.out hb3); have HJ3 := Aside0.mk (abides_below HA.out H0.out hb3); clear hb3 hc0))
  gi_loopw [5] (fun v wr => ∃ (j : Nat) (x : Int), v = .int .i64 x ∧ Aside0 (x = y - 2 + j) ∧ Aside0 (j ≤ 5) ∧ Aside0 (wr.heap[g]? = some (.cells (footA f) 39 (0, 0))) ∧ Aside0 (wr.heap[h]? = some (.cells #[.int .i64 at_] 2 (0, 0))) ∧ Aside0 (J (pairs T j) wr)) (fun v wr => (y + 3 - intOf v).toNat)
  case atStart => exact ⟨0, y - 2, rfl, ⟨by simp⟩, ⟨by omega⟩, HK3, HH3, HJ3⟩
  case round =>
    obtain ⟨j, x, rfl, HX, HJ5, HK4, HH4, HJ4⟩ := hrel
    have x1 : -4716 ≤ x := by have := HX.out; omega
    have x2 : x ≤ 294281 := by have := HX.out; have := HJ5.out; omega
    clear HK HK3 HH HH3 H0 HJ3
    by_cases hj : j = 5
    · have t1 : decide (x ≤ y + 2) = false := decide_eq_false (by have := HX.out; omega)
      subst hj
      gi_wp2
      go_end0
      exact ⟨⟨_, rfl⟩, .inl ⟨_, rfl, HJ4.out⟩⟩
    · have t1 : decide (x ≤ y + 2) = true := decide_eq_true (by have := HX.out; have := HJ5.out; omega)
      have HLT := Aside0.mk (show j < 5 from by have := HJ5.out; omega)
      have HS1 := Aside0.mk (show shiftO k f x true = some ((T j true).f0, (T j true).f1, (T j true).f2, (T j true).f3) from by rw [HX.out]; exact HT.out j HLT.out true)
      have HS2 := Aside0.mk (show shiftO k f x false = some ((T j false).f0, (T j false).f1, (T j false).f2, (T j false).f3) from by rw [HX.out]; exact HT.out j HLT.out false)
      clear hj
      gi_wp2_with (first
        | ((with_reducible refine gate_in (N := 17) rfl ?_); refine load_in rfl 39 _ rfl rfl HK4 Try.underlying39 rfl (size39 f) ?_)
        | ((with_reducible refine (shift_in k f x true (T j true) _ _ HS1.out).mono ?_); rintro e w5 ⟨rfl, hb5⟩; have HK5 := Aside0.mk (blk_below HK4.out hb5); have HH5 := Aside0.mk (blk_below HH4.out hb5); have hJ5 := abides_below HA.out HJ4.out hb5; clear hb5; obtain ⟨fn1, tm1, as1, bo1, hy1, hR1⟩ := HYY.out (pairs T j) (T j true) w5 hJ5 (by rw [pairs_len]; have := HLT.out; omega); (try dsimp only at hy1); have HR1 := Aside0.mk hR1; clear hR1 hJ5))
      refine HR1.out.mono ?_
      rintro e W6 (⟨rfl, hJ6, hk6⟩ | ⟨rfl, hJx6⟩)
      · have HK6 := Aside0.mk (hk6.1.trans HK5.out)
        have HH6 := Aside0.mk (hk6.2.trans HH5.out)
        have HJ6 := Aside0.mk hJ6
        clear hy1 HR1 hk6 hJ6
        gi_wp2_with (first
          | ((with_reducible refine gate_in (N := 24) rfl ?_); refine load_inG (by rfl) 39 _ rfl rfl HK6 Try.underlying39 rfl (size39 f) ?_)
          | ((with_reducible refine (shift_in k f x false (T j false) _ _ HS2.out).mono ?_); rintro e w7 ⟨rfl, hb7⟩; have HK7 := Aside0.mk (blk_below HK6.out hb7); have HH7 := Aside0.mk (blk_below HH6.out hb7); have hJ7 := abides_below HA.out HJ6.out hb7; clear hb7; obtain ⟨fn2, tm2, as2, bo2, hy2, hR2⟩ := HYY.out (pairs T j ++ [T j true]) (T j false) w7 hJ7 (by rw [List.length_append, pairs_len]; have := HLT.out; simp; omega); (try dsimp only at hy2); have HR2 := Aside0.mk hR2; clear hR2 hJ7))
        refine HR2.out.mono ?_
        rintro e W8 (⟨rfl, hJ8, hk8⟩ | ⟨rfl, hJx8⟩)
        · have HK8 := Aside0.mk (hk8.1.trans HK7.out)
          have HH8 := Aside0.mk (hk8.2.trans HH7.out)
          have HJ8 := Aside0.mk hJ8
          clear hy2 HR2 hk8 hJ8
          gi_wp2
          go_roundw
          case measure => have := HX.out; have := HLT.out; simp [intOf]; omega
          case rel => exact ⟨j + 1, x + 1, rfl, ⟨by have := HX.out; omega⟩, ⟨by have := HLT.out; omega⟩, HK8, HH8, ⟨by rw [pairs_succ]; exact HJ8.out⟩⟩
        · have HJ8 := Aside0.mk hJx8
          clear hy2 HR2 hJx8
          gi_wp2
          refine bodyPost_ret (results_none rfl _ _ _) rfl ?_
          exact ⟨⟨_, rfl⟩, .inr ⟨_, by rw [← pairs_succ]; exact pairs_pre T HLT.out, HJ8.out⟩⟩
      · have HJ6 := Aside0.mk hJx6
        clear hy1 HR1 hJx6
        gi_wp2
        refine bodyPost_ret (results_none rfl _ _ _) rfl ?_
        exact ⟨⟨_, rfl⟩, .inr ⟨_, pairs_pre1 T HLT.out, HJ6.out⟩⟩
end Go.Proofs.Ytehoammeaimobaa.D
