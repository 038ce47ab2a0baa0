/- computuslaw11.FootSave: its walk, and that it answers true. -/
import Derived.Test.YtehoammeaimobaaQKnown
set_option linter.unusedVariables false
set_option linter.unusedSimpArgs false
namespace Go.Proofs.Ytehoammeaimobaa.Q
open Go Go.RowKit Go.Proofs.Ytehoammeaimobaa.D Go.Proofs.YtehoammeaimobaaW.PrintWords Go.Proofs.YtehoammeaimobaaW.PrintLast Go.Proofs.YtehoammeaimobaaW.PrintMore
set_option maxHeartbeats 4000000 in
set_option maxRecDepth 100000 in
theorem save_err (f : FootT) (at_ e0 : Int) (w : World) (he : e0 ≠ 0) (hA : TranGives 14 f at_ z46 e0) (hK : ∀ w : World, Calls Try.prog 13 #[] w fun e w' => e = .returned (.bool true) ∧ Below w.heap.size w w') :
    Calls Try.prog 8 #[.agg (footA f), .int .i64 at_] w fun e w' => e = .returned (.bool true) ∧ Below w.heap.size w w' := by
  have HA := Aside0.mk hA
  have HK := Aside0.mk hK
  have t0 : (e0 != 0) = true := bne_iff_ne.2 he
  clear hA hK he
  go_enter Try.func8, Try.ntmps8
  go_wp2_with (first
    | ((with_reducible refine gate_dst (N := 2) rfl ?_); refine box_agg rfl 29 _ rfl (footA f) rfl ?_; intro g_f hg4 w1 hx3 hb2; have G_f := Aside0.mk (show w.heap.size ≤ g_f from by rw [hg4]; exact Nat.le_refl _); have B5 := Aside0.mk (hb2); have K6 := Aside0.mk hx3; clear hb2 hx3 hg4; (try simp only [Act.put, List.setIfInBounds_toArray, List.set_cons_zero, List.set_cons_succ]))
    | ((with_reducible refine gate_dst (N := 10) rfl ?_); refine load_opq rfl 29 _ rfl rfl K6 Try.underlying29 rfl (size29 f) ?_; (try simp only [Act.put, List.setIfInBounds_toArray, List.set_cons_zero, List.set_cons_succ])))
  refine (given_calls f _).mono ?_
  rintro e w7 ⟨rfl, hb⟩
  have K8 := Aside0.mk (blk_below K6.out hb)
  have B9 := Aside0.mk (below_step B5.out hb)
  clear hb
  go_wp2_with (fail)
  refine (tran_calls HA.out _).mono ?_
  rintro e w10 ⟨rfl, hb⟩
  have K11 := Aside0.mk (blk_below K8.out hb)
  have B12 := Aside0.mk (below_step B9.out hb)
  clear hb
  go_wp2_with (first
    | ((with_reducible refine gate_dst (N := 5) rfl ?_); refine alloc_agg rfl 46 rfl (tranA z46) zero46 ?_; intro g_x hg16 w13 hx15 hb14; have G_x := Aside0.mk (show w.heap.size ≤ g_x ∧ g_f < g_x from by rw [hg16]; exact ⟨B12.out.size, (Array.getElem?_eq_some_iff.1 K11.out).1⟩); have K17 := Aside0.mk (blk_below K11.out hb14); have B18 := Aside0.mk (below_step B12.out hb14); have K19 := Aside0.mk hx15; clear hb14 hx15 hg16; (try simp only [Act.put, List.setIfInBounds_toArray, List.set_cons_zero, List.set_cons_succ]))
    | ((with_reducible refine gate_store (t := 46) (p := 5) rfl ?_); refine store_agg rfl 46 (.tmp 5) (.tmp 14) rfl (D := tranA z46) rfl rfl K19 rfl (size46 _) (one_tran _) ?_; intro w20 hp21; have K22 := Aside0.mk ((hp21.other _ (by have h_ := G_x.out; omega)).trans K17.out); have B23 := Aside0.mk (hp21.below _ _ G_x.out.1 B18.out); have K24 := Aside0.mk hp21.box; clear hp21; (try simp only [Act.put, List.setIfInBounds_toArray, List.set_cons_zero, List.set_cons_succ])))
  refine (HK.out _).mono ?_
  rintro e w25 ⟨rfl, hb⟩
  have K26 := Aside0.mk (blk_below K22.out hb)
  have K27 := Aside0.mk (blk_below K24.out hb)
  have B28 := Aside0.mk (below_step B23.out hb)
  clear hb
  go_wp2_with (fail)
  go_ret
  exact ⟨rfl, B28.out⟩
set_option maxHeartbeats 4000000 in
set_option maxRecDepth 100000 in
theorem save_A (f : FootT) (at_ z0 : Int) (w : World) (h1 : -50400 ≤ f.off) (h2 : f.off ≤ 50400) (h3 : 0 ≤ f.A.sv) (h4 : f.A.sv ≤ 7200) (h5 : 0 ≤ f.B.sv) (h6 : f.B.sv ≤ 7200) (hA : TranGives 14 f at_ ⟨z0, f.off + f.A.sv, f.A.sv != 0, f.A.ab⟩ 0) (hK : ∀ w : World, Calls Try.prog 13 #[] w fun e w' => e = .returned (.bool true) ∧ Below w.heap.size w w') :
    Calls Try.prog 8 #[.agg (footA f), .int .i64 at_] w fun e w' => e = .returned (.bool true) ∧ Below w.heap.size w w' := by
  have HA := Aside0.mk hA
  have HK := Aside0.mk hK
  clear hA hK
  go_enter Try.func8, Try.ntmps8
  go_wp2_with (first
    | ((with_reducible refine gate_dst (N := 2) rfl ?_); refine box_agg rfl 29 _ rfl (footA f) rfl ?_; intro g_f hg4 w1 hx3 hb2; have G_f := Aside0.mk (show w.heap.size ≤ g_f from by rw [hg4]; exact Nat.le_refl _); have B5 := Aside0.mk (hb2); have K6 := Aside0.mk hx3; clear hb2 hx3 hg4; (try simp only [Act.put, List.setIfInBounds_toArray, List.set_cons_zero, List.set_cons_succ]))
    | ((with_reducible refine gate_dst (N := 10) rfl ?_); refine load_opq rfl 29 _ rfl rfl K6 Try.underlying29 rfl (size29 f) ?_; (try simp only [Act.put, List.setIfInBounds_toArray, List.set_cons_zero, List.set_cons_succ])))
  refine (given_calls f _).mono ?_
  rintro e w7 ⟨rfl, hb⟩
  have K8 := Aside0.mk (blk_below K6.out hb)
  have B9 := Aside0.mk (below_step B5.out hb)
  clear hb
  go_wp2_with (fail)
  refine (tran_calls HA.out _).mono ?_
  rintro e w10 ⟨rfl, hb⟩
  have K11 := Aside0.mk (blk_below K8.out hb)
  have B12 := Aside0.mk (below_step B9.out hb)
  clear hb
  go_wp2_with (first
    | ((with_reducible refine gate_dst (N := 5) rfl ?_); refine alloc_agg rfl 46 rfl (tranA z46) zero46 ?_; intro g_x hg16 w13 hx15 hb14; have G_x := Aside0.mk (show w.heap.size ≤ g_x ∧ g_f < g_x from by rw [hg16]; exact ⟨B12.out.size, (Array.getElem?_eq_some_iff.1 K11.out).1⟩); have K17 := Aside0.mk (blk_below K11.out hb14); have B18 := Aside0.mk (below_step B12.out hb14); have K19 := Aside0.mk hx15; clear hb14 hx15 hg16; (try simp only [Act.put, List.setIfInBounds_toArray, List.set_cons_zero, List.set_cons_succ]))
    | ((with_reducible refine gate_store (t := 46) (p := 5) rfl ?_); refine store_agg rfl 46 (.tmp 5) (.tmp 14) rfl (D := tranA ⟨z0, f.off + f.A.sv, f.A.sv != 0, f.A.ab⟩) rfl rfl K19 rfl (size46 _) (one_tran _) ?_; intro w20 hp21; have K22 := Aside0.mk ((hp21.other _ (by have h_ := G_x.out; omega)).trans K17.out); have B23 := Aside0.mk (hp21.below _ _ G_x.out.1 B18.out); have K24 := Aside0.mk hp21.box; have q2 : w20.cell? ⟨g_f, 2, none⟩ = some (.int .i64 f.off) := (blk_cell K22.out 2).trans rfl; have q9 : w20.cell? ⟨g_f, 9, none⟩ = some (.int .i64 f.A.sv) := (blk_cell K22.out 9).trans rfl; have q10 : w20.cell? ⟨g_f, 10, none⟩ = some (.string f.A.ab) := (blk_cell K22.out 10).trans rfl; have q17 : w20.cell? ⟨g_f, 17, none⟩ = some (.int .i64 f.B.sv) := (blk_cell K22.out 17).trans rfl; have q18 : w20.cell? ⟨g_f, 18, none⟩ = some (.string f.B.ab) := (blk_cell K22.out 18).trans rfl; have x1 : w20.cell? ⟨g_x, 1, none⟩ = some (.int .i64 (f.off + f.A.sv)) := (blk_cell K24.out 1).trans rfl; have x2 : w20.cell? ⟨g_x, 2, none⟩ = some (.bool (f.A.sv != 0)) := (blk_cell K24.out 2).trans rfl; have x3 : w20.cell? ⟨g_x, 3, none⟩ = some (.string f.A.ab) := (blk_cell K24.out 3).trans rfl; clear hp21; (try simp only [Act.put, List.setIfInBounds_toArray, List.set_cons_zero, List.set_cons_succ]))
    | ((with_reducible refine (HK.out _).mono ?_); rintro e w99 ⟨rfl, hb⟩; have B99 := Aside0.mk (below_step B23.out hb); clear hb))
  all_goals (go_ret; exact ⟨by first | rfl | (simp; done) | (simp [*]; done), B99.out⟩)
set_option maxHeartbeats 4000000 in
set_option maxRecDepth 100000 in
theorem save_B (f : FootT) (at_ z0 : Int) (w : World) (h1 : -50400 ≤ f.off) (h2 : f.off ≤ 50400) (h3 : 0 ≤ f.A.sv) (h4 : f.A.sv ≤ 7200) (h5 : 0 ≤ f.B.sv) (h6 : f.B.sv ≤ 7200) (hA : TranGives 14 f at_ ⟨z0, f.off + f.B.sv, f.B.sv != 0, f.B.ab⟩ 0) (hK : ∀ w : World, Calls Try.prog 13 #[] w fun e w' => e = .returned (.bool true) ∧ Below w.heap.size w w') :
    Calls Try.prog 8 #[.agg (footA f), .int .i64 at_] w fun e w' => e = .returned (.bool true) ∧ Below w.heap.size w w' := by
  have HA := Aside0.mk hA
  have HK := Aside0.mk hK
  clear hA hK
  go_enter Try.func8, Try.ntmps8
  go_wp2_with (first
    | ((with_reducible refine gate_dst (N := 2) rfl ?_); refine box_agg rfl 29 _ rfl (footA f) rfl ?_; intro g_f hg4 w1 hx3 hb2; have G_f := Aside0.mk (show w.heap.size ≤ g_f from by rw [hg4]; exact Nat.le_refl _); have B5 := Aside0.mk (hb2); have K6 := Aside0.mk hx3; clear hb2 hx3 hg4; (try simp only [Act.put, List.setIfInBounds_toArray, List.set_cons_zero, List.set_cons_succ]))
    | ((with_reducible refine gate_dst (N := 10) rfl ?_); refine load_opq rfl 29 _ rfl rfl K6 Try.underlying29 rfl (size29 f) ?_; (try simp only [Act.put, List.setIfInBounds_toArray, List.set_cons_zero, List.set_cons_succ])))
  refine (given_calls f _).mono ?_
  rintro e w7 ⟨rfl, hb⟩
  have K8 := Aside0.mk (blk_below K6.out hb)
  have B9 := Aside0.mk (below_step B5.out hb)
  clear hb
  go_wp2_with (fail)
  refine (tran_calls HA.out _).mono ?_
  rintro e w10 ⟨rfl, hb⟩
  have K11 := Aside0.mk (blk_below K8.out hb)
  have B12 := Aside0.mk (below_step B9.out hb)
  clear hb
  go_wp2_with (first
    | ((with_reducible refine gate_dst (N := 5) rfl ?_); refine alloc_agg rfl 46 rfl (tranA z46) zero46 ?_; intro g_x hg16 w13 hx15 hb14; have G_x := Aside0.mk (show w.heap.size ≤ g_x ∧ g_f < g_x from by rw [hg16]; exact ⟨B12.out.size, (Array.getElem?_eq_some_iff.1 K11.out).1⟩); have K17 := Aside0.mk (blk_below K11.out hb14); have B18 := Aside0.mk (below_step B12.out hb14); have K19 := Aside0.mk hx15; clear hb14 hx15 hg16; (try simp only [Act.put, List.setIfInBounds_toArray, List.set_cons_zero, List.set_cons_succ]))
    | ((with_reducible refine gate_store (t := 46) (p := 5) rfl ?_); refine store_agg rfl 46 (.tmp 5) (.tmp 14) rfl (D := tranA ⟨z0, f.off + f.B.sv, f.B.sv != 0, f.B.ab⟩) rfl rfl K19 rfl (size46 _) (one_tran _) ?_; intro w20 hp21; have K22 := Aside0.mk ((hp21.other _ (by have h_ := G_x.out; omega)).trans K17.out); have B23 := Aside0.mk (hp21.below _ _ G_x.out.1 B18.out); have K24 := Aside0.mk hp21.box; have q2 : w20.cell? ⟨g_f, 2, none⟩ = some (.int .i64 f.off) := (blk_cell K22.out 2).trans rfl; have q9 : w20.cell? ⟨g_f, 9, none⟩ = some (.int .i64 f.A.sv) := (blk_cell K22.out 9).trans rfl; have q10 : w20.cell? ⟨g_f, 10, none⟩ = some (.string f.A.ab) := (blk_cell K22.out 10).trans rfl; have q17 : w20.cell? ⟨g_f, 17, none⟩ = some (.int .i64 f.B.sv) := (blk_cell K22.out 17).trans rfl; have q18 : w20.cell? ⟨g_f, 18, none⟩ = some (.string f.B.ab) := (blk_cell K22.out 18).trans rfl; have x1 : w20.cell? ⟨g_x, 1, none⟩ = some (.int .i64 (f.off + f.B.sv)) := (blk_cell K24.out 1).trans rfl; have x2 : w20.cell? ⟨g_x, 2, none⟩ = some (.bool (f.B.sv != 0)) := (blk_cell K24.out 2).trans rfl; have x3 : w20.cell? ⟨g_x, 3, none⟩ = some (.string f.B.ab) := (blk_cell K24.out 3).trans rfl; clear hp21; (try simp only [Act.put, List.setIfInBounds_toArray, List.set_cons_zero, List.set_cons_succ]))
    | ((with_reducible refine (HK.out _).mono ?_); rintro e w99 ⟨rfl, hb⟩; have B99 := Aside0.mk (below_step B23.out hb); clear hb))
  all_goals (go_ret; exact ⟨by first | rfl | (simp; done) | (simp [*]; done), B99.out⟩)
theorem save_is (f : FootT) (at_ : Int) (h1 : -9223372036854775808 ≤ at_) (h2 : at_ ≤ 9223372036854775807) (w : World) : Calls Try.prog 8 #[.agg (footA f), .int .i64 at_] w fun e w' => e = .returned (.bool true) ∧ Below w.heap.size w w' := by
  rcases at_cases f at_ h1 h2 with ⟨e0, he, a, _⟩ | ⟨⟨_, hA, hB, hoff, _⟩, j, _, _, _, _, a, _⟩
  · exact save_err f at_ e0 w he a known_is
  · have wA := hA.2.2.2
    have wB := hB.2.2.2
    have e : sq f j = ⟨(sq f j).f0, (sq f j).f1, (sq f j).f2, (sq f j).f3⟩ := rfl
    rcases (show _ ∨ _ from shF_of f (j / 2) (decide (j % 2 = 0))) with ⟨b, c, d⟩ | ⟨b, c, d⟩
    · refine save_A f at_ (sq f j).f0 w hoff.1 hoff.2 wA.1 wA.2 wB.1 wB.2 ?_ known_is
      rw [e, show (sq f j).f1 = _ from b, show (sq f j).f2 = _ from c, show (sq f j).f3 = _ from d] at a
      exact a
    · refine save_B f at_ (sq f j).f0 w hoff.1 hoff.2 wA.1 wA.2 wB.1 wB.2 ?_ known_is
      rw [e, show (sq f j).f1 = _ from b, show (sq f j).f2 = _ from c, show (sq f j).f3 = _ from d] at a
      exact a
end Go.Proofs.Ytehoammeaimobaa.Q
