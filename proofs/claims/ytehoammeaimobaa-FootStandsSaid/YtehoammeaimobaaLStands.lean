/- The walk of computuslaw11.FootStands. -/
import Derived.Test.YtehoammeaimobaaQAt
import Derived.Test.YtehoammeaimobaaHEq
set_option linter.unusedVariables false
set_option linter.unusedSimpArgs false
namespace Go.Proofs.Ytehoammeaimobaa.Q
open Go Go.RowKit Go.Proofs.Ytehoammeaimobaa.D Go.Proofs.YtehoammeaimobaaW.PrintWords Go.Proofs.YtehoammeaimobaaW.PrintLast Go.Proofs.YtehoammeaimobaaW.PrintMore

set_option maxHeartbeats 4000000 in
set_option maxRecDepth 100000 in
theorem stands_walk (f : FootT) (at_ : Int) (a b : S46) (e1 e2 : Int) (w : World) (hA : TranGives 14 f at_ a e1) (hB : TranGives 15 f at_ a e1) (hC : TranGives 16 f at_ b e2) (hD : TranGives 17 f at_ b e2) (hK : ∀ w : World, Calls Try.prog 13 #[] w fun e w' => e = .returned (.bool true) ∧ Below w.heap.size w w') :
    Calls Try.prog 4 #[.agg (footA f), .int .i64 at_] w fun e w' => e = .returned (.bool true) ∧ Below w.heap.size w w' := by
  have HA := Aside0.mk hA
  have HB := Aside0.mk hB
  have HC := Aside0.mk hC
  have HD := Aside0.mk hD
  have HK := Aside0.mk hK
  clear hA hB hC hD hK
  go_enter Try.func4, Try.ntmps4
  go_wp2_with (first
    | ((with_reducible refine gate_dst (N := 2) rfl ?_); refine box_agg rfl 29 _ rfl (footA f) rfl ?_; intro g_f hg4 w1 hx3 hb2; have G_f := Aside0.mk (show w.heap.size ≤ g_f from by rw [hg4]; exact Nat.le_refl _); have B5 := Aside0.mk (hb2); have K6 := Aside0.mk hx3; clear hb2 hx3 hg4; (try simp only [Act.put, List.setIfInBounds_toArray, List.set_cons_zero, List.set_cons_succ]))
    | ((with_reducible refine gate_dst (N := 14) rfl ?_); refine load_opq rfl 29 _ rfl rfl K6 Try.underlying29 rfl (size29 f) ?_; (try simp only [Act.put, List.setIfInBounds_toArray, List.set_cons_zero, List.set_cons_succ])))
  refine (given_calls f _).mono ?_
  rintro e w7 ⟨rfl, hb⟩
  have K8 := Aside0.mk (blk_below K6.out hb)
  have B9 := Aside0.mk (below_step B5.out hb)
  clear hb
  go_wp2_with (fail)
  refine (tran_calls HA.out _).mono ?_
  rintro e w10 ⟨rfl, hb⟩
  have K11 := Aside0.mk (blk_below K8.out hb)
  have B12 := Aside0.mk (below_step B9.out hb)
  clear hb
  go_wp2_with (first
    | ((with_reducible refine gate_dst (N := 5) rfl ?_); refine alloc_agg rfl 46 rfl (tranA z46) zero46 ?_; intro g_a hg16 w13 hx15 hb14; have G_a := Aside0.mk (show w.heap.size ≤ g_a ∧ g_f < g_a from by rw [hg16]; exact ⟨B12.out.size, (Array.getElem?_eq_some_iff.1 K11.out).1⟩); have K17 := Aside0.mk (blk_below K11.out hb14); have B18 := Aside0.mk (below_step B12.out hb14); have K19 := Aside0.mk hx15; clear hb14 hx15 hg16; (try simp only [Act.put, List.setIfInBounds_toArray, List.set_cons_zero, List.set_cons_succ]))
    | ((with_reducible refine gate_store (t := 46) (p := 5) rfl ?_); refine store_agg rfl 46 (.tmp 5) (.tmp 18) rfl (D := tranA a) rfl rfl K19 rfl (size46 _) (one_tran _) ?_; intro w20 hp21; have K22 := Aside0.mk ((hp21.other _ (by have h_ := G_a.out; omega)).trans K17.out); have B23 := Aside0.mk (hp21.below _ _ G_a.out.1 B18.out); have K24 := Aside0.mk hp21.box; clear hp21; (try simp only [Act.put, List.setIfInBounds_toArray, List.set_cons_zero, List.set_cons_succ]))
    | ((with_reducible refine gate_dst (N := 21) rfl ?_); refine load_opq rfl 29 _ rfl rfl K22 Try.underlying29 rfl (size29 f) ?_; (try simp only [Act.put, List.setIfInBounds_toArray, List.set_cons_zero, List.set_cons_succ])))
  refine (tran_calls HB.out _).mono ?_
  rintro e w25 ⟨rfl, hb⟩
  have K26 := Aside0.mk (blk_below K22.out hb)
  have K27 := Aside0.mk (blk_below K24.out hb)
  have B28 := Aside0.mk (below_step B23.out hb)
  clear hb
  go_wp2_with (first
    | ((with_reducible refine gate_dst (N := 7) rfl ?_); refine alloc_agg rfl 46 rfl (tranA z46) zero46 ?_; intro g_b hg32 w29 hx31 hb30; have G_b := Aside0.mk (show w.heap.size ≤ g_b ∧ g_f < g_b ∧ g_a < g_b from by rw [hg32]; exact ⟨B28.out.size, (Array.getElem?_eq_some_iff.1 K26.out).1, (Array.getElem?_eq_some_iff.1 K27.out).1⟩); have K33 := Aside0.mk (blk_below K26.out hb30); have K34 := Aside0.mk (blk_below K27.out hb30); have B35 := Aside0.mk (below_step B28.out hb30); have K36 := Aside0.mk hx31; clear hb30 hx31 hg32; (try simp only [Act.put, List.setIfInBounds_toArray, List.set_cons_zero, List.set_cons_succ]))
    | ((with_reducible refine gate_store (t := 46) (p := 7) rfl ?_); refine store_agg rfl 46 (.tmp 7) (.tmp 24) rfl (D := tranA a) rfl rfl K36 rfl (size46 _) (one_tran _) ?_; intro w37 hp38; have K39 := Aside0.mk ((hp38.other _ (by have h_ := G_b.out; omega)).trans K33.out); have K40 := Aside0.mk ((hp38.other _ (by have h_ := G_b.out; omega)).trans K34.out); have B41 := Aside0.mk (hp38.below _ _ G_b.out.1 B35.out); have K42 := Aside0.mk hp38.box; clear hp38; (try simp only [Act.put, List.setIfInBounds_toArray, List.set_cons_zero, List.set_cons_succ]))
    | ((with_reducible refine gate_dst (N := 27) rfl ?_); refine load_opq rfl 29 _ rfl rfl K39 Try.underlying29 rfl (size29 f) ?_; (try simp only [Act.put, List.setIfInBounds_toArray, List.set_cons_zero, List.set_cons_succ])))
  refine (given_calls f _).mono ?_
  rintro e w43 ⟨rfl, hb⟩
  have K44 := Aside0.mk (blk_below K39.out hb)
  have K45 := Aside0.mk (blk_below K40.out hb)
  have K46 := Aside0.mk (blk_below K42.out hb)
  have B47 := Aside0.mk (below_step B41.out hb)
  clear hb
  go_wp2_with (fail)
  refine (tran_calls HC.out _).mono ?_
  rintro e w48 ⟨rfl, hb⟩
  have K49 := Aside0.mk (blk_below K44.out hb)
  have K50 := Aside0.mk (blk_below K45.out hb)
  have K51 := Aside0.mk (blk_below K46.out hb)
  have B52 := Aside0.mk (below_step B47.out hb)
  clear hb
  go_wp2_with (first
    | ((with_reducible refine gate_dst (N := 9) rfl ?_); refine alloc_agg rfl 46 rfl (tranA z46) zero46 ?_; intro g_c hg56 w53 hx55 hb54; have G_c := Aside0.mk (show w.heap.size ≤ g_c ∧ g_f < g_c ∧ g_a < g_c ∧ g_b < g_c from by rw [hg56]; exact ⟨B52.out.size, (Array.getElem?_eq_some_iff.1 K49.out).1, (Array.getElem?_eq_some_iff.1 K50.out).1, (Array.getElem?_eq_some_iff.1 K51.out).1⟩); have K57 := Aside0.mk (blk_below K49.out hb54); have K58 := Aside0.mk (blk_below K50.out hb54); have K59 := Aside0.mk (blk_below K51.out hb54); have B60 := Aside0.mk (below_step B52.out hb54); have K61 := Aside0.mk hx55; clear hb54 hx55 hg56; (try simp only [Act.put, List.setIfInBounds_toArray, List.set_cons_zero, List.set_cons_succ]))
    | ((with_reducible refine gate_store (t := 46) (p := 9) rfl ?_); refine store_agg rfl 46 (.tmp 9) (.tmp 31) rfl (D := tranA b) rfl rfl K61 rfl (size46 _) (one_tran _) ?_; intro w62 hp63; have K64 := Aside0.mk ((hp63.other _ (by have h_ := G_c.out; omega)).trans K57.out); have K65 := Aside0.mk ((hp63.other _ (by have h_ := G_c.out; omega)).trans K58.out); have K66 := Aside0.mk ((hp63.other _ (by have h_ := G_c.out; omega)).trans K59.out); have B67 := Aside0.mk (hp63.below _ _ G_c.out.1 B60.out); have K68 := Aside0.mk hp63.box; clear hp63; (try simp only [Act.put, List.setIfInBounds_toArray, List.set_cons_zero, List.set_cons_succ]))
    | ((with_reducible refine gate_dst (N := 34) rfl ?_); refine load_opq rfl 29 _ rfl rfl K64 Try.underlying29 rfl (size29 f) ?_; (try simp only [Act.put, List.setIfInBounds_toArray, List.set_cons_zero, List.set_cons_succ])))
  refine (tran_calls HD.out _).mono ?_
  rintro e w69 ⟨rfl, hb⟩
  have K70 := Aside0.mk (blk_below K64.out hb)
  have K71 := Aside0.mk (blk_below K65.out hb)
  have K72 := Aside0.mk (blk_below K66.out hb)
  have K73 := Aside0.mk (blk_below K68.out hb)
  have B74 := Aside0.mk (below_step B67.out hb)
  clear hb
  go_wp2_with (first
    | ((with_reducible refine gate_dst (N := 11) rfl ?_); refine alloc_agg rfl 46 rfl (tranA z46) zero46 ?_; intro g_d hg78 w75 hx77 hb76; have G_d := Aside0.mk (show w.heap.size ≤ g_d ∧ g_f < g_d ∧ g_a < g_d ∧ g_b < g_d ∧ g_c < g_d from by rw [hg78]; exact ⟨B74.out.size, (Array.getElem?_eq_some_iff.1 K70.out).1, (Array.getElem?_eq_some_iff.1 K71.out).1, (Array.getElem?_eq_some_iff.1 K72.out).1, (Array.getElem?_eq_some_iff.1 K73.out).1⟩); have K79 := Aside0.mk (blk_below K70.out hb76); have K80 := Aside0.mk (blk_below K71.out hb76); have K81 := Aside0.mk (blk_below K72.out hb76); have K82 := Aside0.mk (blk_below K73.out hb76); have B83 := Aside0.mk (below_step B74.out hb76); have K84 := Aside0.mk hx77; clear hb76 hx77 hg78; (try simp only [Act.put, List.setIfInBounds_toArray, List.set_cons_zero, List.set_cons_succ]))
    | ((with_reducible refine gate_store (t := 46) (p := 11) rfl ?_); refine store_agg rfl 46 (.tmp 11) (.tmp 37) rfl (D := tranA b) rfl rfl K84 rfl (size46 _) (one_tran _) ?_; intro w85 hp86; have K87 := Aside0.mk ((hp86.other _ (by have h_ := G_d.out; omega)).trans K79.out); have K88 := Aside0.mk ((hp86.other _ (by have h_ := G_d.out; omega)).trans K80.out); have K89 := Aside0.mk ((hp86.other _ (by have h_ := G_d.out; omega)).trans K81.out); have K90 := Aside0.mk ((hp86.other _ (by have h_ := G_d.out; omega)).trans K82.out); have B91 := Aside0.mk (hp86.below _ _ G_d.out.1 B83.out); have K92 := Aside0.mk hp86.box; clear hp86; (try simp only [Act.put, List.setIfInBounds_toArray, List.set_cons_zero, List.set_cons_succ]))
    | ((with_reducible refine gate_dst (N := 39) rfl ?_); refine load_opq rfl 46 _ rfl rfl K88 Try.underlying46 rfl (size46 _) ?_; (try simp only [Act.put, List.setIfInBounds_toArray, List.set_cons_zero, List.set_cons_succ]))
    | ((with_reducible refine gate_dst (N := 40) rfl ?_); refine load_opq rfl 46 _ rfl rfl K89 Try.underlying46 rfl (size46 _) ?_; (try simp only [Act.put, List.setIfInBounds_toArray, List.set_cons_zero, List.set_cons_succ]))
    | ((with_reducible refine gate_dst (N := 41) rfl ?_); refine Kd.event_run rfl (exec_same46 (.tmp 39) (.tmp 40) _ rfl rfl rfl _) ?_; (try simp only [Act.put, List.setIfInBounds_toArray, List.set_cons_zero, List.set_cons_succ]))
    | ((with_reducible refine gate_dst (N := 48) rfl ?_); refine load_W (by rfl) 46 _ rfl rfl K90 Try.underlying46 rfl (size46 _) ?_; (try simp only [Act.put, List.setIfInBounds_toArray, List.set_cons_zero, List.set_cons_succ]))
    | ((with_reducible refine gate_dst (N := 49) rfl ?_); refine load_W (by rfl) 46 _ rfl rfl K92 Try.underlying46 rfl (size46 _) ?_; (try simp only [Act.put, List.setIfInBounds_toArray, List.set_cons_zero, List.set_cons_succ]))
    | ((with_reducible refine gate_dst (N := 50) rfl ?_); refine event_W (by rfl) (exec_same46 (.tmp 48) (.tmp 49) _ rfl rfl rfl _) ?_; (try simp only [Act.put, List.setIfInBounds_toArray, List.set_cons_zero, List.set_cons_succ])))
  refine (HK.out _).mono ?_
  rintro e w93 ⟨rfl, hb⟩
  have K94 := Aside0.mk (blk_below K87.out hb)
  have K95 := Aside0.mk (blk_below K88.out hb)
  have K96 := Aside0.mk (blk_below K89.out hb)
  have K97 := Aside0.mk (blk_below K90.out hb)
  have K98 := Aside0.mk (blk_below K92.out hb)
  have B99 := Aside0.mk (below_step B91.out hb)
  clear hb
  go_wp2_with (fail)
  go_ret
  exact ⟨rfl, B99.out⟩
end Go.Proofs.Ytehoammeaimobaa.Q
