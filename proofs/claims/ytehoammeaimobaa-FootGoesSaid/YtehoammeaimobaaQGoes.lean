/- computuslaw11.FootGoes answers true. -/
import Derived.Test.YtehoammeaimobaaLGoes1
set_option linter.unusedVariables false
set_option linter.unusedSimpArgs false
namespace Go.Proofs.Ytehoammeaimobaa.Q
open Go Go.RowKit Go.Proofs.Ytehoammeaimobaa.D Go.Proofs.YtehoammeaimobaaW.PrintWords Go.Proofs.YtehoammeaimobaaW.PrintLast Go.Proofs.YtehoammeaimobaaW.PrintMore

set_option maxHeartbeats 8000000 in
set_option maxRecDepth 100000 in
theorem goes_big (f : FootT) (at_ more za oa zb ob gap q e1 e2 : Int) (da db : Bool) (sa sb : ByteArray) (c d : S46) (w : World) (h1 : za ≤ at_) (h2 : at_ < zb) (h3 : 0 < gap) (h4 : gap < 34560000) (hm0 : ¬ more < 0) (hm : gap ≤ more) (hG : wrap64 (zb - za) = gap) (hQ : wrap64 (za + (gap - 1)) = q)
    (hA : TranGives 14 f at_ ⟨za, oa, da, sa⟩ 0) (hB : TranGives 16 f at_ ⟨zb, ob, db, sb⟩ 0) (hC : TranGives 14 f zb c e1) (hE1 : (e1 = 0 ∧ c = ⟨zb, ob, db, sb⟩) ∨ e1 ≠ 0) (hD : TranGives 14 f q d e2) (hE2 : (e2 = 0 ∧ d = ⟨za, oa, da, sa⟩) ∨ e2 ≠ 0) (hK : ∀ w : World, Calls Try.prog 13 #[] w fun e w' => e = .returned (.bool true) ∧ Below w.heap.size w w') :
    Calls Try.prog 5 #[.agg (footA f), .int .i64 at_, .int .i64 more] w fun e w' => e = .returned (.bool true) ∧ Below w.heap.size w w' := by
  have HA := Aside0.mk hA
  have HB := Aside0.mk hB
  have HC := Aside0.mk hC
  have HD := Aside0.mk hD
  have HE1 := Aside0.mk hE1
  have HE2 := Aside0.mk hE2
  have HG := Aside0.mk hG
  have HQ := Aside0.mk hQ
  have HK := Aside0.mk hK
  have t3 : decide (za > at_) = false := decide_eq_false (by omega)
  have t4 : decide (zb ≤ at_) = false := decide_eq_false (by omega)
  have t5 : decide (gap > 0) = true := decide_eq_true h3
  have t6 : decide (gap < 34560000) = true := decide_eq_true h4
  have t1 : decide (more < 0) = false := decide_eq_false hm0
  have t2 : decide (more ≥ gap) = true := decide_eq_true hm
  clear hA hB hC hD hE1 hE2 hG hQ hK
  go_enter Try.func5, Try.ntmps5
  go_wp2_with (first
    | ((with_reducible refine gate_dst (N := 3) rfl ?_); refine box_agg rfl 29 _ rfl (footA f) rfl ?_; intro g_f hg4 w1 hx3 hb2; have G_f := Aside0.mk (show w.heap.size ≤ g_f from by rw [hg4]; exact Nat.le_refl _); have B5 := Aside0.mk (hb2); have K6 := Aside0.mk hx3; clear hb2 hx3 hg4; (try simp only [Act.put, List.setIfInBounds_toArray, List.set_cons_zero, List.set_cons_succ]))
    | ((with_reducible refine gate_dst (N := 17) rfl ?_); refine load_opq rfl 29 _ rfl rfl K6 Try.underlying29 rfl (size29 f) ?_; (try simp only [Act.put, List.setIfInBounds_toArray, List.set_cons_zero, List.set_cons_succ])))
  refine (given_calls f _).mono ?_
  rintro e w7 ⟨rfl, hb⟩
  have K8 := Aside0.mk (blk_below K6.out hb)
  have B9 := Aside0.mk (below_step B5.out hb)
  clear hb
  go_wp2_with (first
    | ((with_reducible refine gate_dst (N := 7) rfl ?_); refine alloc_agg rfl 39 rfl (footA zfoot) zero39 ?_; intro g_x hg13 w10 hx12 hb11; have G_x := Aside0.mk (show w.heap.size ≤ g_x ∧ g_f < g_x from by rw [hg13]; exact ⟨B9.out.size, (Array.getElem?_eq_some_iff.1 K8.out).1⟩); have K14 := Aside0.mk (blk_below K8.out hb11); have B15 := Aside0.mk (below_step B9.out hb11); have K16 := Aside0.mk hx12; clear hb11 hx12 hg13; (try simp only [Act.put, List.setIfInBounds_toArray, List.set_cons_zero, List.set_cons_succ]))
    | ((with_reducible refine gate_store (t := 39) (p := 7) rfl ?_); refine store_agg rfl 39 (.tmp 7) (.tmp 18) rfl (D := footA f) rfl rfl K16 ((footA_size f).trans (footA_size zfoot).symm) (size39 f) (one_foot f) ?_; intro w17 hp18; have K19 := Aside0.mk ((hp18.other _ (by have h_ := G_x.out; omega)).trans K14.out); have B20 := Aside0.mk (hp18.below _ _ G_x.out.1 B15.out); have K21 := Aside0.mk hp18.box; clear hp18; (try simp only [Act.put, List.setIfInBounds_toArray, List.set_cons_zero, List.set_cons_succ]))
    | ((with_reducible refine gate_dst (N := 20) rfl ?_); refine load_opq rfl 39 _ rfl rfl K21 Try.underlying39 rfl (size39 f) ?_; (try simp only [Act.put, List.setIfInBounds_toArray, List.set_cons_zero, List.set_cons_succ])))
  refine (tran_calls HA.out _).mono ?_
  rintro e w22 ⟨rfl, hb⟩
  have K23 := Aside0.mk (blk_below K19.out hb)
  have K24 := Aside0.mk (blk_below K21.out hb)
  have B25 := Aside0.mk (below_step B20.out hb)
  clear hb
  go_wp2_with (first
    | ((with_reducible refine gate_dst (N := 8) rfl ?_); refine alloc_agg rfl 46 rfl (tranA z46) zero46 ?_; intro g_a hg29 w26 hx28 hb27; have G_a := Aside0.mk (show w.heap.size ≤ g_a ∧ g_f < g_a ∧ g_x < g_a from by rw [hg29]; exact ⟨B25.out.size, (Array.getElem?_eq_some_iff.1 K23.out).1, (Array.getElem?_eq_some_iff.1 K24.out).1⟩); have K30 := Aside0.mk (blk_below K23.out hb27); have K31 := Aside0.mk (blk_below K24.out hb27); have B32 := Aside0.mk (below_step B25.out hb27); have K33 := Aside0.mk hx28; clear hb27 hx28 hg29; (try simp only [Act.put, List.setIfInBounds_toArray, List.set_cons_zero, List.set_cons_succ]))
    | ((with_reducible refine gate_store (t := 46) (p := 8) rfl ?_); refine store_agg rfl 46 (.tmp 8) (.tmp 23) rfl (D := tranA ⟨za, oa, da, sa⟩) rfl rfl K33 rfl (size46 _) (one_tran _) ?_; intro w34 hp35; have K36 := Aside0.mk ((hp35.other _ (by have h_ := G_a.out; omega)).trans K30.out); have K37 := Aside0.mk ((hp35.other _ (by have h_ := G_a.out; omega)).trans K31.out); have B38 := Aside0.mk (hp35.below _ _ G_a.out.1 B32.out); have K39 := Aside0.mk hp35.box; clear hp35; (try simp only [Act.put, List.setIfInBounds_toArray, List.set_cons_zero, List.set_cons_succ]))
    | ((with_reducible refine gate_dst (N := 26) rfl ?_); refine load_opq rfl 39 _ rfl rfl K37 Try.underlying39 rfl (size39 f) ?_; (try simp only [Act.put, List.setIfInBounds_toArray, List.set_cons_zero, List.set_cons_succ])))
  refine (tran_calls HB.out _).mono ?_
  rintro e w40 ⟨rfl, hb⟩
  have K41 := Aside0.mk (blk_below K36.out hb)
  have K42 := Aside0.mk (blk_below K37.out hb)
  have K43 := Aside0.mk (blk_below K39.out hb)
  have B44 := Aside0.mk (below_step B38.out hb)
  clear hb
  go_wp2_with (first
    | ((with_reducible refine gate_dst (N := 10) rfl ?_); refine alloc_agg rfl 46 rfl (tranA z46) zero46 ?_; intro g_b hg48 w45 hx47 hb46; have G_b := Aside0.mk (show w.heap.size ≤ g_b ∧ g_f < g_b ∧ g_x < g_b ∧ g_a < g_b from by rw [hg48]; exact ⟨B44.out.size, (Array.getElem?_eq_some_iff.1 K41.out).1, (Array.getElem?_eq_some_iff.1 K42.out).1, (Array.getElem?_eq_some_iff.1 K43.out).1⟩); have K49 := Aside0.mk (blk_below K41.out hb46); have K50 := Aside0.mk (blk_below K42.out hb46); have K51 := Aside0.mk (blk_below K43.out hb46); have B52 := Aside0.mk (below_step B44.out hb46); have K53 := Aside0.mk hx47; clear hb46 hx47 hg48; (try simp only [Act.put, List.setIfInBounds_toArray, List.set_cons_zero, List.set_cons_succ]))
    | ((with_reducible refine gate_store (t := 46) (p := 10) rfl ?_); refine store_agg rfl 46 (.tmp 10) (.tmp 29) rfl (D := tranA ⟨zb, ob, db, sb⟩) rfl rfl K53 rfl (size46 _) (one_tran _) ?_; intro w54 hp55; have K56 := Aside0.mk ((hp55.other _ (by have h_ := G_b.out; omega)).trans K49.out); have K57 := Aside0.mk ((hp55.other _ (by have h_ := G_b.out; omega)).trans K50.out); have K58 := Aside0.mk ((hp55.other _ (by have h_ := G_b.out; omega)).trans K51.out); have B59 := Aside0.mk (hp55.below _ _ G_b.out.1 B52.out); have K60 := Aside0.mk hp55.box; clear hp55; (try simp only [Act.put, List.setIfInBounds_toArray, List.set_cons_zero, List.set_cons_succ]))
    | ((with_reducible refine gate_dst (N := 31) rfl ?_); refine event_W (by rfl) ?hr ?_; (case hr => (go_simp; with_reducible rfl)); (try simp only [Act.put, List.setIfInBounds_toArray, List.set_cons_zero, List.set_cons_succ]))
    | ((with_reducible refine gate_dst (N := 32) rfl ?_); refine event_W (by rfl) ?hr ?_; (case hr => (go_simp; with_reducible rfl)); (try simp only [Act.put, List.setIfInBounds_toArray, List.set_cons_zero, List.set_cons_succ]))
    | ((with_reducible refine gate_dst (N := 33) rfl ?_); refine event_W (by rfl) ?hr ?_; (case hr => (go_simp; with_reducible rfl)); (try simp only [Act.put, List.setIfInBounds_toArray, List.set_cons_zero, List.set_cons_succ]))
    | ((with_reducible refine gate_dst (N := 34) rfl ?_); refine event_W (by rfl) ?hr ?_; (case hr => (go_simp; with_reducible rfl)); (try simp only [Act.put, List.setIfInBounds_toArray, List.set_cons_zero, List.set_cons_succ]))
    | ((with_reducible refine gate_dst (N := 35) rfl ?_); refine event_W (by rfl) ?hr ?_; (case hr => (go_simp; with_reducible rfl)); (try simp only [Act.put, List.setIfInBounds_toArray, List.set_cons_zero, List.set_cons_succ]))
    | ((with_reducible refine gate_dst (N := 36) rfl ?_); refine event_W (by rfl) ?hr ?_; (case hr => (go_simp; with_reducible rfl)); (try simp only [Act.put, List.setIfInBounds_toArray, List.set_cons_zero, List.set_cons_succ]))
    | ((with_reducible refine gate_dst (N := 44) rfl ?_); refine event_W (by rfl) (exec_prim load2 (b := g_a) (k := 0) (v := .int .i64 za) (.tmp 43) rfl rfl ((blk_cell K58.out 0).trans rfl)) ?_; (try simp only [Act.put, List.setIfInBounds_toArray, List.set_cons_zero, List.set_cons_succ]))
    | ((with_reducible refine gate_dst (N := 45) rfl ?_); refine event_W (by rfl) ?hr ?_; (case hr => (go_simp; with_reducible rfl)); (try simp only [Act.put, List.setIfInBounds_toArray, List.set_cons_zero, List.set_cons_succ]))
    | ((with_reducible refine gate_dst (N := 46) rfl ?_); refine event_W (by rfl) ?hr ?_; (case hr => (go_simp; with_reducible rfl)); (try simp only [Act.put, List.setIfInBounds_toArray, List.set_cons_zero, List.set_cons_succ]))
    | ((with_reducible refine gate_dst (N := 47) rfl ?_); refine event_W (by rfl) ?hr ?_; (case hr => (go_simp; with_reducible rfl)); (try simp only [Act.put, List.setIfInBounds_toArray, List.set_cons_zero, List.set_cons_succ]))
    | ((with_reducible refine gate_dst (N := 48) rfl ?_); refine event_W (by rfl) ?hr ?_; (case hr => (go_simp; with_reducible rfl)); (try simp only [Act.put, List.setIfInBounds_toArray, List.set_cons_zero, List.set_cons_succ]))
    | ((with_reducible refine gate_dst (N := 49) rfl ?_); refine event_W (by rfl) (exec_prim load2 (b := g_b) (k := 0) (v := .int .i64 zb) (.tmp 48) rfl rfl ((blk_cell K60.out 0).trans rfl)) ?_; (try simp only [Act.put, List.setIfInBounds_toArray, List.set_cons_zero, List.set_cons_succ]))
    | ((with_reducible refine gate_dst (N := 50) rfl ?_); refine event_W (by rfl) ?hr ?_; (case hr => (go_simp; with_reducible rfl)); (try simp only [Act.put, List.setIfInBounds_toArray, List.set_cons_zero, List.set_cons_succ]))
    | ((with_reducible refine gate_dst (N := 51) rfl ?_); refine event_W (by rfl) ?hr ?_; (case hr => (go_simp; with_reducible rfl)); (try simp only [Act.put, List.setIfInBounds_toArray, List.set_cons_zero, List.set_cons_succ]))
    | ((with_reducible refine gate_dst (N := 52) rfl ?_); refine event_W (by rfl) ?hr ?_; (case hr => (go_simp; with_reducible rfl)); (try simp only [Act.put, List.setIfInBounds_toArray, List.set_cons_zero, List.set_cons_succ]))
    | ((with_reducible refine gate_dst (N := 54) rfl ?_); refine load_opq rfl 39 _ rfl rfl K57 Try.underlying39 rfl (size39 f) ?_; (try simp only [Act.put, List.setIfInBounds_toArray, List.set_cons_zero, List.set_cons_succ]))
    | ((with_reducible refine gate_dst (N := 56) rfl ?_); refine event_W (by rfl) (exec_prim load2 (b := g_b) (k := 0) (v := .int .i64 zb) (.tmp 55) rfl rfl ((blk_cell K60.out 0).trans rfl)) ?_; (try simp only [Act.put, List.setIfInBounds_toArray, List.set_cons_zero, List.set_cons_succ])))
  refine (tran_calls HC.out _).mono ?_
  rintro e w61 ⟨rfl, hb⟩
  have K62 := Aside0.mk (blk_below K56.out hb)
  have K63 := Aside0.mk (blk_below K57.out hb)
  have K64 := Aside0.mk (blk_below K58.out hb)
  have K65 := Aside0.mk (blk_below K60.out hb)
  have B66 := Aside0.mk (below_step B59.out hb)
  clear hb
  rcases HE1.out with ⟨rfl, rfl⟩ | ht
  · skip
    go_wp2_with (first
      | ((with_reducible refine gate_dst (N := 12) rfl ?_); refine alloc_agg rfl 46 rfl (tranA z46) zero46 ?_; intro g_c hg70 w67 hx69 hb68; have G_c := Aside0.mk (show w.heap.size ≤ g_c ∧ g_f < g_c ∧ g_x < g_c ∧ g_a < g_c ∧ g_b < g_c from by rw [hg70]; exact ⟨B66.out.size, (Array.getElem?_eq_some_iff.1 K62.out).1, (Array.getElem?_eq_some_iff.1 K63.out).1, (Array.getElem?_eq_some_iff.1 K64.out).1, (Array.getElem?_eq_some_iff.1 K65.out).1⟩); have K71 := Aside0.mk (blk_below K62.out hb68); have K72 := Aside0.mk (blk_below K63.out hb68); have K73 := Aside0.mk (blk_below K64.out hb68); have K74 := Aside0.mk (blk_below K65.out hb68); have B75 := Aside0.mk (below_step B66.out hb68); have K76 := Aside0.mk hx69; clear hb68 hx69 hg70; (try simp only [Act.put, List.setIfInBounds_toArray, List.set_cons_zero, List.set_cons_succ]))
      | ((with_reducible refine gate_store (t := 46) (p := 12) rfl ?_); refine store_agg rfl 46 (.tmp 12) (.tmp 58) rfl (D := tranA ⟨zb, ob, db, sb⟩) rfl rfl K76 rfl (size46 _) (one_tran _) ?_; intro w77 hp78; have K79 := Aside0.mk ((hp78.other _ (by have h_ := G_c.out; omega)).trans K71.out); have K80 := Aside0.mk ((hp78.other _ (by have h_ := G_c.out; omega)).trans K72.out); have K81 := Aside0.mk ((hp78.other _ (by have h_ := G_c.out; omega)).trans K73.out); have K82 := Aside0.mk ((hp78.other _ (by have h_ := G_c.out; omega)).trans K74.out); have B83 := Aside0.mk (hp78.below _ _ G_c.out.1 B75.out); have K84 := Aside0.mk hp78.box; clear hp78; (try simp only [Act.put, List.setIfInBounds_toArray, List.set_cons_zero, List.set_cons_succ]))
      | ((with_reducible refine gate_dst (N := 60) rfl ?_); refine event_W (by rfl) ?hr ?_; (case hr => (go_simp; with_reducible rfl)); (try simp only [Act.put, List.setIfInBounds_toArray, List.set_cons_zero, List.set_cons_succ]))
      | ((with_reducible refine gate_dst (N := 61) rfl ?_); refine event_W (by rfl) ?hr ?_; (case hr => (go_simp; with_reducible rfl)); (try simp only [Act.put, List.setIfInBounds_toArray, List.set_cons_zero, List.set_cons_succ]))
      | ((with_reducible refine gate_dst (N := 62) rfl ?_); refine event_W (by rfl) ?hr ?_; (case hr => (go_simp; with_reducible rfl)); (try simp only [Act.put, List.setIfInBounds_toArray, List.set_cons_zero, List.set_cons_succ]))
      | ((with_reducible refine gate_dst (N := 63) rfl ?_); refine load_W (by rfl) 46 _ rfl rfl K84 Try.underlying46 rfl (size46 _) ?_; (try simp only [Act.put, List.setIfInBounds_toArray, List.set_cons_zero, List.set_cons_succ]))
      | ((with_reducible refine gate_dst (N := 64) rfl ?_); refine load_W (by rfl) 46 _ rfl rfl K82 Try.underlying46 rfl (size46 _) ?_; (try simp only [Act.put, List.setIfInBounds_toArray, List.set_cons_zero, List.set_cons_succ]))
      | ((with_reducible refine gate_dst (N := 65) rfl ?_); refine event_W (by rfl) (exec_ne46 (.tmp 63) (.tmp 64) _ rfl rfl rfl _) ?_; (try simp only [Act.put, List.setIfInBounds_toArray, List.set_cons_zero, List.set_cons_succ]))
      | ((with_reducible refine gate_dst (N := 66) rfl ?_); refine event_W (by rfl) ?hr ?_; (case hr => (go_simp; with_reducible rfl)); (try simp only [Act.put, List.setIfInBounds_toArray, List.set_cons_zero, List.set_cons_succ]))
      | ((with_reducible refine gate_dst (N := 68) rfl ?_); refine event_W (by rfl) (exec_prim load2 (b := g_b) (k := 0) (v := .int .i64 zb) (.tmp 67) rfl rfl ((blk_cell K82.out 0).trans rfl)) ?_; (try simp only [Act.put, List.setIfInBounds_toArray, List.set_cons_zero, List.set_cons_succ]))
      | ((with_reducible refine gate_dst (N := 70) rfl ?_); refine event_W (by rfl) (exec_prim load2 (b := g_a) (k := 0) (v := .int .i64 za) (.tmp 69) rfl rfl ((blk_cell K81.out 0).trans rfl)) ?_; (try simp only [Act.put, List.setIfInBounds_toArray, List.set_cons_zero, List.set_cons_succ]))
      | ((with_reducible refine gate_dst (N := 71) rfl ?_); refine Kd.event_run rfl (exec_sub (.tmp 68) (.tmp 70) _ rfl rfl rfl HG.out) ?_; (try simp only [Act.put, List.setIfInBounds_toArray, List.set_cons_zero, List.set_cons_succ]))
      | ((with_reducible refine gate_dst (N := 72) rfl ?_); refine event_W (by rfl) ?hr ?_; (case hr => (go_simp; with_reducible rfl)); (try simp only [Act.put, List.setIfInBounds_toArray, List.set_cons_zero, List.set_cons_succ]))
      | ((with_reducible refine gate_dst (N := 73) rfl ?_); refine event_W (by rfl) ?hr ?_; (case hr => (go_simp; with_reducible rfl)); (try simp only [Act.put, List.setIfInBounds_toArray, List.set_cons_zero, List.set_cons_succ]))
      | ((with_reducible refine gate_dst (N := 74) rfl ?_); refine event_W (by rfl) ?hr ?_; (case hr => (go_simp; with_reducible rfl)); (try simp only [Act.put, List.setIfInBounds_toArray, List.set_cons_zero, List.set_cons_succ]))
      | ((with_reducible refine gate_dst (N := 75) rfl ?_); refine event_W (by rfl) ?hr ?_; (case hr => (go_simp; with_reducible rfl)); (try simp only [Act.put, List.setIfInBounds_toArray, List.set_cons_zero, List.set_cons_succ]))
      | ((with_reducible refine gate_dst (N := 76) rfl ?_); refine event_W (by rfl) ?hr ?_; (case hr => (go_simp; with_reducible rfl)); (try simp only [Act.put, List.setIfInBounds_toArray, List.set_cons_zero, List.set_cons_succ]))
      | ((with_reducible refine gate_dst (N := 77) rfl ?_); refine event_W (by rfl) ?hr ?_; (case hr => (go_simp; with_reducible rfl)); (try simp only [Act.put, List.setIfInBounds_toArray, List.set_cons_zero, List.set_cons_succ]))
      | ((with_reducible refine gate_dst (N := 78) rfl ?_); refine event_W (by rfl) ?hr ?_; (case hr => (go_simp; with_reducible rfl)); (try simp only [Act.put, List.setIfInBounds_toArray, List.set_cons_zero, List.set_cons_succ]))
      | ((with_reducible refine gate_dst (N := 79) rfl ?_); refine event_W (by rfl) ?hr ?_; (case hr => (go_simp; with_reducible rfl)); (try simp only [Act.put, List.setIfInBounds_toArray, List.set_cons_zero, List.set_cons_succ]))
      | ((with_reducible refine gate_dst (N := 80) rfl ?_); refine event_W (by rfl) ?hr ?_; (case hr => (go_simp; with_reducible rfl)); (try simp only [Act.put, List.setIfInBounds_toArray, List.set_cons_zero, List.set_cons_succ]))
      | ((with_reducible refine gate_dst (N := 82) rfl ?_); refine load_opq rfl 39 _ rfl rfl K80 Try.underlying39 rfl (size39 f) ?_; (try simp only [Act.put, List.setIfInBounds_toArray, List.set_cons_zero, List.set_cons_succ]))
      | ((with_reducible refine gate_dst (N := 84) rfl ?_); refine event_W (by rfl) (exec_prim load2 (b := g_a) (k := 0) (v := .int .i64 za) (.tmp 83) rfl rfl ((blk_cell K81.out 0).trans rfl)) ?_; (try simp only [Act.put, List.setIfInBounds_toArray, List.set_cons_zero, List.set_cons_succ]))
      | ((with_reducible refine gate_dst (N := 86) rfl ?_); refine Kd.event_run rfl (exec_add (.tmp 84) (.tmp 85) _ rfl rfl rfl HQ.out) ?_; (try simp only [Act.put, List.setIfInBounds_toArray, List.set_cons_zero, List.set_cons_succ])))
    refine (tran_calls HD.out _).mono ?_
    rintro e w85 ⟨rfl, hb⟩
    have K86 := Aside0.mk (blk_below K79.out hb)
    have K87 := Aside0.mk (blk_below K80.out hb)
    have K88 := Aside0.mk (blk_below K81.out hb)
    have K89 := Aside0.mk (blk_below K82.out hb)
    have K90 := Aside0.mk (blk_below K84.out hb)
    have B91 := Aside0.mk (below_step B83.out hb)
    clear hb
    rcases HE2.out with ⟨rfl, rfl⟩ | ht
    · go_wp2_with (first
        | ((with_reducible refine gate_dst (N := 15) rfl ?_); refine alloc_agg rfl 46 rfl (tranA z46) zero46 ?_; intro g_d hg95 w92 hx94 hb93; have G_d := Aside0.mk (show w.heap.size ≤ g_d ∧ g_f < g_d ∧ g_x < g_d ∧ g_a < g_d ∧ g_b < g_d ∧ g_c < g_d from by rw [hg95]; exact ⟨B91.out.size, (Array.getElem?_eq_some_iff.1 K86.out).1, (Array.getElem?_eq_some_iff.1 K87.out).1, (Array.getElem?_eq_some_iff.1 K88.out).1, (Array.getElem?_eq_some_iff.1 K89.out).1, (Array.getElem?_eq_some_iff.1 K90.out).1⟩); have K96 := Aside0.mk (blk_below K86.out hb93); have K97 := Aside0.mk (blk_below K87.out hb93); have K98 := Aside0.mk (blk_below K88.out hb93); have K99 := Aside0.mk (blk_below K89.out hb93); have K100 := Aside0.mk (blk_below K90.out hb93); have B101 := Aside0.mk (below_step B91.out hb93); have K102 := Aside0.mk hx94; clear hb93 hx94 hg95; (try simp only [Act.put, List.setIfInBounds_toArray, List.set_cons_zero, List.set_cons_succ]))
        | ((with_reducible refine gate_store (t := 46) (p := 15) rfl ?_); refine store_agg rfl 46 (.tmp 15) (.tmp 88) rfl (D := tranA ⟨za, oa, da, sa⟩) rfl rfl K102 rfl (size46 _) (one_tran _) ?_; intro w103 hp104; have K105 := Aside0.mk ((hp104.other _ (by have h_ := G_d.out; omega)).trans K96.out); have K106 := Aside0.mk ((hp104.other _ (by have h_ := G_d.out; omega)).trans K97.out); have K107 := Aside0.mk ((hp104.other _ (by have h_ := G_d.out; omega)).trans K98.out); have K108 := Aside0.mk ((hp104.other _ (by have h_ := G_d.out; omega)).trans K99.out); have K109 := Aside0.mk ((hp104.other _ (by have h_ := G_d.out; omega)).trans K100.out); have B110 := Aside0.mk (hp104.below _ _ G_d.out.1 B101.out); have K111 := Aside0.mk hp104.box; clear hp104; (try simp only [Act.put, List.setIfInBounds_toArray, List.set_cons_zero, List.set_cons_succ]))
        | ((with_reducible refine gate_dst (N := 90) rfl ?_); refine event_W (by rfl) ?hr ?_; (case hr => (go_simp; with_reducible rfl)); (try simp only [Act.put, List.setIfInBounds_toArray, List.set_cons_zero, List.set_cons_succ]))
        | ((with_reducible refine gate_dst (N := 91) rfl ?_); refine event_W (by rfl) ?hr ?_; (case hr => (go_simp; with_reducible rfl)); (try simp only [Act.put, List.setIfInBounds_toArray, List.set_cons_zero, List.set_cons_succ]))
        | ((with_reducible refine gate_dst (N := 92) rfl ?_); refine event_W (by rfl) ?hr ?_; (case hr => (go_simp; with_reducible rfl)); (try simp only [Act.put, List.setIfInBounds_toArray, List.set_cons_zero, List.set_cons_succ]))
        | ((with_reducible refine gate_dst (N := 93) rfl ?_); refine load_W (by rfl) 46 _ rfl rfl K111 Try.underlying46 rfl (size46 _) ?_; (try simp only [Act.put, List.setIfInBounds_toArray, List.set_cons_zero, List.set_cons_succ]))
        | ((with_reducible refine gate_dst (N := 94) rfl ?_); refine load_W (by rfl) 46 _ rfl rfl K107 Try.underlying46 rfl (size46 _) ?_; (try simp only [Act.put, List.setIfInBounds_toArray, List.set_cons_zero, List.set_cons_succ]))
        | ((with_reducible refine gate_dst (N := 95) rfl ?_); refine event_W (by rfl) (exec_same46 (.tmp 93) (.tmp 94) _ rfl rfl rfl _) ?_; (try simp only [Act.put, List.setIfInBounds_toArray, List.set_cons_zero, List.set_cons_succ]))
        | ((with_reducible refine gate_dst (N := 96) rfl ?_); refine event_W (by rfl) ?hr ?_; (case hr => (go_simp; with_reducible rfl)); (try simp only [Act.put, List.setIfInBounds_toArray, List.set_cons_zero, List.set_cons_succ]))
        | ((with_reducible refine gate_dst (N := 97) rfl ?_); refine event_W (by rfl) ?hr ?_; (case hr => (go_simp; with_reducible rfl)); (try simp only [Act.put, List.setIfInBounds_toArray, List.set_cons_zero, List.set_cons_succ]))
        | ((with_reducible refine gate_dst (N := 98) rfl ?_); refine event_W (by rfl) ?hr ?_; (case hr => (go_simp; with_reducible rfl)); (try simp only [Act.put, List.setIfInBounds_toArray, List.set_cons_zero, List.set_cons_succ]))
        | ((with_reducible refine gate_dst (N := 99) rfl ?_); refine event_W (by rfl) ?hr ?_; (case hr => (go_simp; with_reducible rfl)); (try simp only [Act.put, List.setIfInBounds_toArray, List.set_cons_zero, List.set_cons_succ]))
        | ((with_reducible refine gate_dst (N := 100) rfl ?_); refine event_W (by rfl) ?hr ?_; (case hr => (go_simp; with_reducible rfl)); (try simp only [Act.put, List.setIfInBounds_toArray, List.set_cons_zero, List.set_cons_succ]))
        | ((with_reducible refine gate_dst (N := 101) rfl ?_); refine event_W (by rfl) ?hr ?_; (case hr => (go_simp; with_reducible rfl)); (try simp only [Act.put, List.setIfInBounds_toArray, List.set_cons_zero, List.set_cons_succ]))
        | ((with_reducible refine gate_dst (N := 102) rfl ?_); refine event_W (by rfl) ?hr ?_; (case hr => (go_simp; with_reducible rfl)); (try simp only [Act.put, List.setIfInBounds_toArray, List.set_cons_zero, List.set_cons_succ]))
        | ((with_reducible refine gate_dst (N := 103) rfl ?_); refine event_W (by rfl) ?hr ?_; (case hr => (go_simp; with_reducible rfl)); (try simp only [Act.put, List.setIfInBounds_toArray, List.set_cons_zero, List.set_cons_succ]))
        | ((with_reducible refine gate_dst (N := 104) rfl ?_); refine event_W (by rfl) ?hr ?_; (case hr => (go_simp; with_reducible rfl)); (try simp only [Act.put, List.setIfInBounds_toArray, List.set_cons_zero, List.set_cons_succ]))
        | ((with_reducible refine gate_dst (N := 105) rfl ?_); refine event_W (by rfl) ?hr ?_; (case hr => (go_simp; with_reducible rfl)); (try simp only [Act.put, List.setIfInBounds_toArray, List.set_cons_zero, List.set_cons_succ])))
      refine (HK.out _).mono ?_
      rintro e w112 ⟨rfl, hb⟩
      have K113 := Aside0.mk (blk_below K105.out hb)
      have K114 := Aside0.mk (blk_below K106.out hb)
      have K115 := Aside0.mk (blk_below K107.out hb)
      have K116 := Aside0.mk (blk_below K108.out hb)
      have K117 := Aside0.mk (blk_below K109.out hb)
      have K118 := Aside0.mk (blk_below K111.out hb)
      have B119 := Aside0.mk (below_step B110.out hb)
      clear hb
      go_wp2_with (fail)
      go_ret
      exact ⟨rfl, B119.out⟩
    · have t8 : (e2 != 0) = true := bne_iff_ne.2 ht
      go_wp2_with (first
        | ((with_reducible refine gate_dst (N := 15) rfl ?_); refine alloc_agg rfl 46 rfl (tranA z46) zero46 ?_; intro g_d hg95 w92 hx94 hb93; have G_d := Aside0.mk (show w.heap.size ≤ g_d ∧ g_f < g_d ∧ g_x < g_d ∧ g_a < g_d ∧ g_b < g_d ∧ g_c < g_d from by rw [hg95]; exact ⟨B91.out.size, (Array.getElem?_eq_some_iff.1 K86.out).1, (Array.getElem?_eq_some_iff.1 K87.out).1, (Array.getElem?_eq_some_iff.1 K88.out).1, (Array.getElem?_eq_some_iff.1 K89.out).1, (Array.getElem?_eq_some_iff.1 K90.out).1⟩); have K96 := Aside0.mk (blk_below K86.out hb93); have K97 := Aside0.mk (blk_below K87.out hb93); have K98 := Aside0.mk (blk_below K88.out hb93); have K99 := Aside0.mk (blk_below K89.out hb93); have K100 := Aside0.mk (blk_below K90.out hb93); have B101 := Aside0.mk (below_step B91.out hb93); have K102 := Aside0.mk hx94; clear hb93 hx94 hg95; (try simp only [Act.put, List.setIfInBounds_toArray, List.set_cons_zero, List.set_cons_succ]))
        | ((with_reducible refine gate_store (t := 46) (p := 15) rfl ?_); refine store_agg rfl 46 (.tmp 15) (.tmp 88) rfl (D := tranA d) rfl rfl K102 rfl (size46 _) (one_tran _) ?_; intro w103 hp104; have K105 := Aside0.mk ((hp104.other _ (by have h_ := G_d.out; omega)).trans K96.out); have K106 := Aside0.mk ((hp104.other _ (by have h_ := G_d.out; omega)).trans K97.out); have K107 := Aside0.mk ((hp104.other _ (by have h_ := G_d.out; omega)).trans K98.out); have K108 := Aside0.mk ((hp104.other _ (by have h_ := G_d.out; omega)).trans K99.out); have K109 := Aside0.mk ((hp104.other _ (by have h_ := G_d.out; omega)).trans K100.out); have B110 := Aside0.mk (hp104.below _ _ G_d.out.1 B101.out); have K111 := Aside0.mk hp104.box; clear hp104; (try simp only [Act.put, List.setIfInBounds_toArray, List.set_cons_zero, List.set_cons_succ]))
        | ((with_reducible refine gate_dst (N := 90) rfl ?_); refine event_W (by rfl) ?hr ?_; (case hr => (go_simp; with_reducible rfl)); (try simp only [Act.put, List.setIfInBounds_toArray, List.set_cons_zero, List.set_cons_succ]))
        | ((with_reducible refine gate_dst (N := 91) rfl ?_); refine event_W (by rfl) ?hr ?_; (case hr => (go_simp; with_reducible rfl)); (try simp only [Act.put, List.setIfInBounds_toArray, List.set_cons_zero, List.set_cons_succ]))
        | ((with_reducible refine gate_dst (N := 92) rfl ?_); refine event_W (by rfl) ?hr ?_; (case hr => (go_simp; with_reducible rfl)); (try simp only [Act.put, List.setIfInBounds_toArray, List.set_cons_zero, List.set_cons_succ]))
        | ((with_reducible refine gate_dst (N := 96) rfl ?_); refine event_W (by rfl) ?hr ?_; (case hr => (go_simp; with_reducible rfl)); (try simp only [Act.put, List.setIfInBounds_toArray, List.set_cons_zero, List.set_cons_succ]))
        | ((with_reducible refine gate_dst (N := 97) rfl ?_); refine event_W (by rfl) ?hr ?_; (case hr => (go_simp; with_reducible rfl)); (try simp only [Act.put, List.setIfInBounds_toArray, List.set_cons_zero, List.set_cons_succ]))
        | ((with_reducible refine gate_dst (N := 98) rfl ?_); refine event_W (by rfl) ?hr ?_; (case hr => (go_simp; with_reducible rfl)); (try simp only [Act.put, List.setIfInBounds_toArray, List.set_cons_zero, List.set_cons_succ]))
        | ((with_reducible refine gate_dst (N := 99) rfl ?_); refine event_W (by rfl) ?hr ?_; (case hr => (go_simp; with_reducible rfl)); (try simp only [Act.put, List.setIfInBounds_toArray, List.set_cons_zero, List.set_cons_succ]))
        | ((with_reducible refine gate_dst (N := 100) rfl ?_); refine event_W (by rfl) ?hr ?_; (case hr => (go_simp; with_reducible rfl)); (try simp only [Act.put, List.setIfInBounds_toArray, List.set_cons_zero, List.set_cons_succ]))
        | ((with_reducible refine gate_dst (N := 101) rfl ?_); refine event_W (by rfl) ?hr ?_; (case hr => (go_simp; with_reducible rfl)); (try simp only [Act.put, List.setIfInBounds_toArray, List.set_cons_zero, List.set_cons_succ]))
        | ((with_reducible refine gate_dst (N := 102) rfl ?_); refine event_W (by rfl) ?hr ?_; (case hr => (go_simp; with_reducible rfl)); (try simp only [Act.put, List.setIfInBounds_toArray, List.set_cons_zero, List.set_cons_succ]))
        | ((with_reducible refine gate_dst (N := 103) rfl ?_); refine event_W (by rfl) ?hr ?_; (case hr => (go_simp; with_reducible rfl)); (try simp only [Act.put, List.setIfInBounds_toArray, List.set_cons_zero, List.set_cons_succ]))
        | ((with_reducible refine gate_dst (N := 104) rfl ?_); refine event_W (by rfl) ?hr ?_; (case hr => (go_simp; with_reducible rfl)); (try simp only [Act.put, List.setIfInBounds_toArray, List.set_cons_zero, List.set_cons_succ]))
        | ((with_reducible refine gate_dst (N := 105) rfl ?_); refine event_W (by rfl) ?hr ?_; (case hr => (go_simp; with_reducible rfl)); (try simp only [Act.put, List.setIfInBounds_toArray, List.set_cons_zero, List.set_cons_succ])))
      refine (HK.out _).mono ?_
      rintro e w112 ⟨rfl, hb⟩
      have K113 := Aside0.mk (blk_below K105.out hb)
      have K114 := Aside0.mk (blk_below K106.out hb)
      have K115 := Aside0.mk (blk_below K107.out hb)
      have K116 := Aside0.mk (blk_below K108.out hb)
      have K117 := Aside0.mk (blk_below K109.out hb)
      have K118 := Aside0.mk (blk_below K111.out hb)
      have B119 := Aside0.mk (below_step B110.out hb)
      clear hb
      go_wp2_with (fail)
      go_ret
      exact ⟨rfl, B119.out⟩
  · have t9 : (e1 == 0) = false := beq_eq_false_iff_ne.2 ht
    go_wp2_with (first
      | ((with_reducible refine gate_dst (N := 12) rfl ?_); refine alloc_agg rfl 46 rfl (tranA z46) zero46 ?_; intro g_c hg70 w67 hx69 hb68; have G_c := Aside0.mk (show w.heap.size ≤ g_c ∧ g_f < g_c ∧ g_x < g_c ∧ g_a < g_c ∧ g_b < g_c from by rw [hg70]; exact ⟨B66.out.size, (Array.getElem?_eq_some_iff.1 K62.out).1, (Array.getElem?_eq_some_iff.1 K63.out).1, (Array.getElem?_eq_some_iff.1 K64.out).1, (Array.getElem?_eq_some_iff.1 K65.out).1⟩); have K71 := Aside0.mk (blk_below K62.out hb68); have K72 := Aside0.mk (blk_below K63.out hb68); have K73 := Aside0.mk (blk_below K64.out hb68); have K74 := Aside0.mk (blk_below K65.out hb68); have B75 := Aside0.mk (below_step B66.out hb68); have K76 := Aside0.mk hx69; clear hb68 hx69 hg70; (try simp only [Act.put, List.setIfInBounds_toArray, List.set_cons_zero, List.set_cons_succ]))
      | ((with_reducible refine gate_store (t := 46) (p := 12) rfl ?_); refine store_agg rfl 46 (.tmp 12) (.tmp 58) rfl (D := tranA c) rfl rfl K76 rfl (size46 _) (one_tran _) ?_; intro w77 hp78; have K79 := Aside0.mk ((hp78.other _ (by have h_ := G_c.out; omega)).trans K71.out); have K80 := Aside0.mk ((hp78.other _ (by have h_ := G_c.out; omega)).trans K72.out); have K81 := Aside0.mk ((hp78.other _ (by have h_ := G_c.out; omega)).trans K73.out); have K82 := Aside0.mk ((hp78.other _ (by have h_ := G_c.out; omega)).trans K74.out); have B83 := Aside0.mk (hp78.below _ _ G_c.out.1 B75.out); have K84 := Aside0.mk hp78.box; clear hp78; (try simp only [Act.put, List.setIfInBounds_toArray, List.set_cons_zero, List.set_cons_succ]))
      | ((with_reducible refine gate_dst (N := 60) rfl ?_); refine event_W (by rfl) ?hr ?_; (case hr => (go_simp; with_reducible rfl)); (try simp only [Act.put, List.setIfInBounds_toArray, List.set_cons_zero, List.set_cons_succ]))
      | ((with_reducible refine gate_dst (N := 61) rfl ?_); refine event_W (by rfl) ?hr ?_; (case hr => (go_simp; with_reducible rfl)); (try simp only [Act.put, List.setIfInBounds_toArray, List.set_cons_zero, List.set_cons_succ]))
      | ((with_reducible refine gate_dst (N := 62) rfl ?_); refine event_W (by rfl) ?hr ?_; (case hr => (go_simp; with_reducible rfl)); (try simp only [Act.put, List.setIfInBounds_toArray, List.set_cons_zero, List.set_cons_succ]))
      | ((with_reducible refine gate_dst (N := 66) rfl ?_); refine event_W (by rfl) ?hr ?_; (case hr => (go_simp; with_reducible rfl)); (try simp only [Act.put, List.setIfInBounds_toArray, List.set_cons_zero, List.set_cons_succ]))
      | ((with_reducible refine gate_dst (N := 68) rfl ?_); refine event_W (by rfl) (exec_prim load2 (b := g_b) (k := 0) (v := .int .i64 zb) (.tmp 67) rfl rfl ((blk_cell K82.out 0).trans rfl)) ?_; (try simp only [Act.put, List.setIfInBounds_toArray, List.set_cons_zero, List.set_cons_succ]))
      | ((with_reducible refine gate_dst (N := 70) rfl ?_); refine event_W (by rfl) (exec_prim load2 (b := g_a) (k := 0) (v := .int .i64 za) (.tmp 69) rfl rfl ((blk_cell K81.out 0).trans rfl)) ?_; (try simp only [Act.put, List.setIfInBounds_toArray, List.set_cons_zero, List.set_cons_succ]))
      | ((with_reducible refine gate_dst (N := 71) rfl ?_); refine Kd.event_run rfl (exec_sub (.tmp 68) (.tmp 70) _ rfl rfl rfl HG.out) ?_; (try simp only [Act.put, List.setIfInBounds_toArray, List.set_cons_zero, List.set_cons_succ]))
      | ((with_reducible refine gate_dst (N := 72) rfl ?_); refine event_W (by rfl) ?hr ?_; (case hr => (go_simp; with_reducible rfl)); (try simp only [Act.put, List.setIfInBounds_toArray, List.set_cons_zero, List.set_cons_succ]))
      | ((with_reducible refine gate_dst (N := 73) rfl ?_); refine event_W (by rfl) ?hr ?_; (case hr => (go_simp; with_reducible rfl)); (try simp only [Act.put, List.setIfInBounds_toArray, List.set_cons_zero, List.set_cons_succ]))
      | ((with_reducible refine gate_dst (N := 74) rfl ?_); refine event_W (by rfl) ?hr ?_; (case hr => (go_simp; with_reducible rfl)); (try simp only [Act.put, List.setIfInBounds_toArray, List.set_cons_zero, List.set_cons_succ]))
      | ((with_reducible refine gate_dst (N := 75) rfl ?_); refine event_W (by rfl) ?hr ?_; (case hr => (go_simp; with_reducible rfl)); (try simp only [Act.put, List.setIfInBounds_toArray, List.set_cons_zero, List.set_cons_succ]))
      | ((with_reducible refine gate_dst (N := 76) rfl ?_); refine event_W (by rfl) ?hr ?_; (case hr => (go_simp; with_reducible rfl)); (try simp only [Act.put, List.setIfInBounds_toArray, List.set_cons_zero, List.set_cons_succ]))
      | ((with_reducible refine gate_dst (N := 77) rfl ?_); refine event_W (by rfl) ?hr ?_; (case hr => (go_simp; with_reducible rfl)); (try simp only [Act.put, List.setIfInBounds_toArray, List.set_cons_zero, List.set_cons_succ]))
      | ((with_reducible refine gate_dst (N := 78) rfl ?_); refine event_W (by rfl) ?hr ?_; (case hr => (go_simp; with_reducible rfl)); (try simp only [Act.put, List.setIfInBounds_toArray, List.set_cons_zero, List.set_cons_succ]))
      | ((with_reducible refine gate_dst (N := 79) rfl ?_); refine event_W (by rfl) ?hr ?_; (case hr => (go_simp; with_reducible rfl)); (try simp only [Act.put, List.setIfInBounds_toArray, List.set_cons_zero, List.set_cons_succ]))
      | ((with_reducible refine gate_dst (N := 80) rfl ?_); refine event_W (by rfl) ?hr ?_; (case hr => (go_simp; with_reducible rfl)); (try simp only [Act.put, List.setIfInBounds_toArray, List.set_cons_zero, List.set_cons_succ]))
      | ((with_reducible refine gate_dst (N := 82) rfl ?_); refine load_opq rfl 39 _ rfl rfl K80 Try.underlying39 rfl (size39 f) ?_; (try simp only [Act.put, List.setIfInBounds_toArray, List.set_cons_zero, List.set_cons_succ]))
      | ((with_reducible refine gate_dst (N := 84) rfl ?_); refine event_W (by rfl) (exec_prim load2 (b := g_a) (k := 0) (v := .int .i64 za) (.tmp 83) rfl rfl ((blk_cell K81.out 0).trans rfl)) ?_; (try simp only [Act.put, List.setIfInBounds_toArray, List.set_cons_zero, List.set_cons_succ]))
      | ((with_reducible refine gate_dst (N := 86) rfl ?_); refine Kd.event_run rfl (exec_add (.tmp 84) (.tmp 85) _ rfl rfl rfl HQ.out) ?_; (try simp only [Act.put, List.setIfInBounds_toArray, List.set_cons_zero, List.set_cons_succ])))
    refine (tran_calls HD.out _).mono ?_
    rintro e w85 ⟨rfl, hb⟩
    have K86 := Aside0.mk (blk_below K79.out hb)
    have K87 := Aside0.mk (blk_below K80.out hb)
    have K88 := Aside0.mk (blk_below K81.out hb)
    have K89 := Aside0.mk (blk_below K82.out hb)
    have K90 := Aside0.mk (blk_below K84.out hb)
    have B91 := Aside0.mk (below_step B83.out hb)
    clear hb
    rcases HE2.out with ⟨rfl, rfl⟩ | ht
    · go_wp2_with (first
        | ((with_reducible refine gate_dst (N := 15) rfl ?_); refine alloc_agg rfl 46 rfl (tranA z46) zero46 ?_; intro g_d hg95 w92 hx94 hb93; have G_d := Aside0.mk (show w.heap.size ≤ g_d ∧ g_f < g_d ∧ g_x < g_d ∧ g_a < g_d ∧ g_b < g_d ∧ g_c < g_d from by rw [hg95]; exact ⟨B91.out.size, (Array.getElem?_eq_some_iff.1 K86.out).1, (Array.getElem?_eq_some_iff.1 K87.out).1, (Array.getElem?_eq_some_iff.1 K88.out).1, (Array.getElem?_eq_some_iff.1 K89.out).1, (Array.getElem?_eq_some_iff.1 K90.out).1⟩); have K96 := Aside0.mk (blk_below K86.out hb93); have K97 := Aside0.mk (blk_below K87.out hb93); have K98 := Aside0.mk (blk_below K88.out hb93); have K99 := Aside0.mk (blk_below K89.out hb93); have K100 := Aside0.mk (blk_below K90.out hb93); have B101 := Aside0.mk (below_step B91.out hb93); have K102 := Aside0.mk hx94; clear hb93 hx94 hg95; (try simp only [Act.put, List.setIfInBounds_toArray, List.set_cons_zero, List.set_cons_succ]))
        | ((with_reducible refine gate_store (t := 46) (p := 15) rfl ?_); refine store_agg rfl 46 (.tmp 15) (.tmp 88) rfl (D := tranA ⟨za, oa, da, sa⟩) rfl rfl K102 rfl (size46 _) (one_tran _) ?_; intro w103 hp104; have K105 := Aside0.mk ((hp104.other _ (by have h_ := G_d.out; omega)).trans K96.out); have K106 := Aside0.mk ((hp104.other _ (by have h_ := G_d.out; omega)).trans K97.out); have K107 := Aside0.mk ((hp104.other _ (by have h_ := G_d.out; omega)).trans K98.out); have K108 := Aside0.mk ((hp104.other _ (by have h_ := G_d.out; omega)).trans K99.out); have K109 := Aside0.mk ((hp104.other _ (by have h_ := G_d.out; omega)).trans K100.out); have B110 := Aside0.mk (hp104.below _ _ G_d.out.1 B101.out); have K111 := Aside0.mk hp104.box; clear hp104; (try simp only [Act.put, List.setIfInBounds_toArray, List.set_cons_zero, List.set_cons_succ]))
        | ((with_reducible refine gate_dst (N := 90) rfl ?_); refine event_W (by rfl) ?hr ?_; (case hr => (go_simp; with_reducible rfl)); (try simp only [Act.put, List.setIfInBounds_toArray, List.set_cons_zero, List.set_cons_succ]))
        | ((with_reducible refine gate_dst (N := 91) rfl ?_); refine event_W (by rfl) ?hr ?_; (case hr => (go_simp; with_reducible rfl)); (try simp only [Act.put, List.setIfInBounds_toArray, List.set_cons_zero, List.set_cons_succ]))
        | ((with_reducible refine gate_dst (N := 92) rfl ?_); refine event_W (by rfl) ?hr ?_; (case hr => (go_simp; with_reducible rfl)); (try simp only [Act.put, List.setIfInBounds_toArray, List.set_cons_zero, List.set_cons_succ]))
        | ((with_reducible refine gate_dst (N := 93) rfl ?_); refine load_W (by rfl) 46 _ rfl rfl K111 Try.underlying46 rfl (size46 _) ?_; (try simp only [Act.put, List.setIfInBounds_toArray, List.set_cons_zero, List.set_cons_succ]))
        | ((with_reducible refine gate_dst (N := 94) rfl ?_); refine load_W (by rfl) 46 _ rfl rfl K107 Try.underlying46 rfl (size46 _) ?_; (try simp only [Act.put, List.setIfInBounds_toArray, List.set_cons_zero, List.set_cons_succ]))
        | ((with_reducible refine gate_dst (N := 95) rfl ?_); refine event_W (by rfl) (exec_same46 (.tmp 93) (.tmp 94) _ rfl rfl rfl _) ?_; (try simp only [Act.put, List.setIfInBounds_toArray, List.set_cons_zero, List.set_cons_succ]))
        | ((with_reducible refine gate_dst (N := 96) rfl ?_); refine event_W (by rfl) ?hr ?_; (case hr => (go_simp; with_reducible rfl)); (try simp only [Act.put, List.setIfInBounds_toArray, List.set_cons_zero, List.set_cons_succ]))
        | ((with_reducible refine gate_dst (N := 97) rfl ?_); refine event_W (by rfl) ?hr ?_; (case hr => (go_simp; with_reducible rfl)); (try simp only [Act.put, List.setIfInBounds_toArray, List.set_cons_zero, List.set_cons_succ]))
        | ((with_reducible refine gate_dst (N := 98) rfl ?_); refine event_W (by rfl) ?hr ?_; (case hr => (go_simp; with_reducible rfl)); (try simp only [Act.put, List.setIfInBounds_toArray, List.set_cons_zero, List.set_cons_succ]))
        | ((with_reducible refine gate_dst (N := 99) rfl ?_); refine event_W (by rfl) ?hr ?_; (case hr => (go_simp; with_reducible rfl)); (try simp only [Act.put, List.setIfInBounds_toArray, List.set_cons_zero, List.set_cons_succ]))
        | ((with_reducible refine gate_dst (N := 100) rfl ?_); refine event_W (by rfl) ?hr ?_; (case hr => (go_simp; with_reducible rfl)); (try simp only [Act.put, List.setIfInBounds_toArray, List.set_cons_zero, List.set_cons_succ]))
        | ((with_reducible refine gate_dst (N := 101) rfl ?_); refine event_W (by rfl) ?hr ?_; (case hr => (go_simp; with_reducible rfl)); (try simp only [Act.put, List.setIfInBounds_toArray, List.set_cons_zero, List.set_cons_succ]))
        | ((with_reducible refine gate_dst (N := 102) rfl ?_); refine event_W (by rfl) ?hr ?_; (case hr => (go_simp; with_reducible rfl)); (try simp only [Act.put, List.setIfInBounds_toArray, List.set_cons_zero, List.set_cons_succ]))
        | ((with_reducible refine gate_dst (N := 103) rfl ?_); refine event_W (by rfl) ?hr ?_; (case hr => (go_simp; with_reducible rfl)); (try simp only [Act.put, List.setIfInBounds_toArray, List.set_cons_zero, List.set_cons_succ]))
        | ((with_reducible refine gate_dst (N := 104) rfl ?_); refine event_W (by rfl) ?hr ?_; (case hr => (go_simp; with_reducible rfl)); (try simp only [Act.put, List.setIfInBounds_toArray, List.set_cons_zero, List.set_cons_succ]))
        | ((with_reducible refine gate_dst (N := 105) rfl ?_); refine event_W (by rfl) ?hr ?_; (case hr => (go_simp; with_reducible rfl)); (try simp only [Act.put, List.setIfInBounds_toArray, List.set_cons_zero, List.set_cons_succ])))
      refine (HK.out _).mono ?_
      rintro e w112 ⟨rfl, hb⟩
      have K113 := Aside0.mk (blk_below K105.out hb)
      have K114 := Aside0.mk (blk_below K106.out hb)
      have K115 := Aside0.mk (blk_below K107.out hb)
      have K116 := Aside0.mk (blk_below K108.out hb)
      have K117 := Aside0.mk (blk_below K109.out hb)
      have K118 := Aside0.mk (blk_below K111.out hb)
      have B119 := Aside0.mk (below_step B110.out hb)
      clear hb
      go_wp2_with (fail)
      go_ret
      exact ⟨rfl, B119.out⟩
    · have t8 : (e2 != 0) = true := bne_iff_ne.2 ht
      go_wp2_with (first
        | ((with_reducible refine gate_dst (N := 15) rfl ?_); refine alloc_agg rfl 46 rfl (tranA z46) zero46 ?_; intro g_d hg95 w92 hx94 hb93; have G_d := Aside0.mk (show w.heap.size ≤ g_d ∧ g_f < g_d ∧ g_x < g_d ∧ g_a < g_d ∧ g_b < g_d ∧ g_c < g_d from by rw [hg95]; exact ⟨B91.out.size, (Array.getElem?_eq_some_iff.1 K86.out).1, (Array.getElem?_eq_some_iff.1 K87.out).1, (Array.getElem?_eq_some_iff.1 K88.out).1, (Array.getElem?_eq_some_iff.1 K89.out).1, (Array.getElem?_eq_some_iff.1 K90.out).1⟩); have K96 := Aside0.mk (blk_below K86.out hb93); have K97 := Aside0.mk (blk_below K87.out hb93); have K98 := Aside0.mk (blk_below K88.out hb93); have K99 := Aside0.mk (blk_below K89.out hb93); have K100 := Aside0.mk (blk_below K90.out hb93); have B101 := Aside0.mk (below_step B91.out hb93); have K102 := Aside0.mk hx94; clear hb93 hx94 hg95; (try simp only [Act.put, List.setIfInBounds_toArray, List.set_cons_zero, List.set_cons_succ]))
        | ((with_reducible refine gate_store (t := 46) (p := 15) rfl ?_); refine store_agg rfl 46 (.tmp 15) (.tmp 88) rfl (D := tranA d) rfl rfl K102 rfl (size46 _) (one_tran _) ?_; intro w103 hp104; have K105 := Aside0.mk ((hp104.other _ (by have h_ := G_d.out; omega)).trans K96.out); have K106 := Aside0.mk ((hp104.other _ (by have h_ := G_d.out; omega)).trans K97.out); have K107 := Aside0.mk ((hp104.other _ (by have h_ := G_d.out; omega)).trans K98.out); have K108 := Aside0.mk ((hp104.other _ (by have h_ := G_d.out; omega)).trans K99.out); have K109 := Aside0.mk ((hp104.other _ (by have h_ := G_d.out; omega)).trans K100.out); have B110 := Aside0.mk (hp104.below _ _ G_d.out.1 B101.out); have K111 := Aside0.mk hp104.box; clear hp104; (try simp only [Act.put, List.setIfInBounds_toArray, List.set_cons_zero, List.set_cons_succ]))
        | ((with_reducible refine gate_dst (N := 90) rfl ?_); refine event_W (by rfl) ?hr ?_; (case hr => (go_simp; with_reducible rfl)); (try simp only [Act.put, List.setIfInBounds_toArray, List.set_cons_zero, List.set_cons_succ]))
        | ((with_reducible refine gate_dst (N := 91) rfl ?_); refine event_W (by rfl) ?hr ?_; (case hr => (go_simp; with_reducible rfl)); (try simp only [Act.put, List.setIfInBounds_toArray, List.set_cons_zero, List.set_cons_succ]))
        | ((with_reducible refine gate_dst (N := 92) rfl ?_); refine event_W (by rfl) ?hr ?_; (case hr => (go_simp; with_reducible rfl)); (try simp only [Act.put, List.setIfInBounds_toArray, List.set_cons_zero, List.set_cons_succ]))
        | ((with_reducible refine gate_dst (N := 96) rfl ?_); refine event_W (by rfl) ?hr ?_; (case hr => (go_simp; with_reducible rfl)); (try simp only [Act.put, List.setIfInBounds_toArray, List.set_cons_zero, List.set_cons_succ]))
        | ((with_reducible refine gate_dst (N := 97) rfl ?_); refine event_W (by rfl) ?hr ?_; (case hr => (go_simp; with_reducible rfl)); (try simp only [Act.put, List.setIfInBounds_toArray, List.set_cons_zero, List.set_cons_succ]))
        | ((with_reducible refine gate_dst (N := 98) rfl ?_); refine event_W (by rfl) ?hr ?_; (case hr => (go_simp; with_reducible rfl)); (try simp only [Act.put, List.setIfInBounds_toArray, List.set_cons_zero, List.set_cons_succ]))
        | ((with_reducible refine gate_dst (N := 99) rfl ?_); refine event_W (by rfl) ?hr ?_; (case hr => (go_simp; with_reducible rfl)); (try simp only [Act.put, List.setIfInBounds_toArray, List.set_cons_zero, List.set_cons_succ]))
        | ((with_reducible refine gate_dst (N := 100) rfl ?_); refine event_W (by rfl) ?hr ?_; (case hr => (go_simp; with_reducible rfl)); (try simp only [Act.put, List.setIfInBounds_toArray, List.set_cons_zero, List.set_cons_succ]))
        | ((with_reducible refine gate_dst (N := 101) rfl ?_); refine event_W (by rfl) ?hr ?_; (case hr => (go_simp; with_reducible rfl)); (try simp only [Act.put, List.setIfInBounds_toArray, List.set_cons_zero, List.set_cons_succ]))
        | ((with_reducible refine gate_dst (N := 102) rfl ?_); refine event_W (by rfl) ?hr ?_; (case hr => (go_simp; with_reducible rfl)); (try simp only [Act.put, List.setIfInBounds_toArray, List.set_cons_zero, List.set_cons_succ]))
        | ((with_reducible refine gate_dst (N := 103) rfl ?_); refine event_W (by rfl) ?hr ?_; (case hr => (go_simp; with_reducible rfl)); (try simp only [Act.put, List.setIfInBounds_toArray, List.set_cons_zero, List.set_cons_succ]))
        | ((with_reducible refine gate_dst (N := 104) rfl ?_); refine event_W (by rfl) ?hr ?_; (case hr => (go_simp; with_reducible rfl)); (try simp only [Act.put, List.setIfInBounds_toArray, List.set_cons_zero, List.set_cons_succ]))
        | ((with_reducible refine gate_dst (N := 105) rfl ?_); refine event_W (by rfl) ?hr ?_; (case hr => (go_simp; with_reducible rfl)); (try simp only [Act.put, List.setIfInBounds_toArray, List.set_cons_zero, List.set_cons_succ])))
      refine (HK.out _).mono ?_
      rintro e w112 ⟨rfl, hb⟩
      have K113 := Aside0.mk (blk_below K105.out hb)
      have K114 := Aside0.mk (blk_below K106.out hb)
      have K115 := Aside0.mk (blk_below K107.out hb)
      have K116 := Aside0.mk (blk_below K108.out hb)
      have K117 := Aside0.mk (blk_below K109.out hb)
      have K118 := Aside0.mk (blk_below K111.out hb)
      have B119 := Aside0.mk (below_step B110.out hb)
      clear hb
      go_wp2_with (fail)
      go_ret
      exact ⟨rfl, B119.out⟩
end Go.Proofs.Ytehoammeaimobaa.Q
namespace Go.Proofs.Ytehoammeaimobaa.Q
open Go Go.RowKit Go.Proofs.Ytehoammeaimobaa.D Go.Proofs.YtehoammeaimobaaW.PrintWords Go.Proofs.YtehoammeaimobaaW.PrintLast Go.Proofs.YtehoammeaimobaaW.PrintMore

set_option maxHeartbeats 8000000 in
set_option maxRecDepth 100000 in
theorem goes_mid (f : FootT) (at_ more za oa zb ob gap q e1 e2 : Int) (da db : Bool) (sa sb : ByteArray) (c d : S46) (w : World) (h1 : za ≤ at_) (h2 : at_ < zb) (h3 : 0 < gap) (h4 : gap < 34560000) (hm0 : 0 ≤ more) (hm : more < gap) (hG : wrap64 (zb - za) = gap) (hQ : wrap64 (za + more) = q)
    (hA : TranGives 14 f at_ ⟨za, oa, da, sa⟩ 0) (hB : TranGives 16 f at_ ⟨zb, ob, db, sb⟩ 0) (hC : TranGives 14 f zb c e1) (hE1 : (e1 = 0 ∧ c = ⟨zb, ob, db, sb⟩) ∨ e1 ≠ 0) (hD : TranGives 14 f q d e2) (hE2 : (e2 = 0 ∧ d = ⟨za, oa, da, sa⟩) ∨ e2 ≠ 0) (hK : ∀ w : World, Calls Try.prog 13 #[] w fun e w' => e = .returned (.bool true) ∧ Below w.heap.size w w') :
    Calls Try.prog 5 #[.agg (footA f), .int .i64 at_, .int .i64 more] w fun e w' => e = .returned (.bool true) ∧ Below w.heap.size w w' := by
  have HA := Aside0.mk hA
  have HB := Aside0.mk hB
  have HC := Aside0.mk hC
  have HD := Aside0.mk hD
  have HE1 := Aside0.mk hE1
  have HE2 := Aside0.mk hE2
  have HG := Aside0.mk hG
  have HQ := Aside0.mk hQ
  have HK := Aside0.mk hK
  have t3 : decide (za > at_) = false := decide_eq_false (by omega)
  have t4 : decide (zb ≤ at_) = false := decide_eq_false (by omega)
  have t5 : decide (gap > 0) = true := decide_eq_true h3
  have t6 : decide (gap < 34560000) = true := decide_eq_true h4
  have t1 : decide (more < 0) = false := decide_eq_false (by omega)
  have t2 : decide (more ≥ gap) = false := decide_eq_false (by omega)
  clear hA hB hC hD hE1 hE2 hG hQ hK
  go_enter Try.func5, Try.ntmps5
  go_wp2_with (first
    | ((with_reducible refine gate_dst (N := 3) rfl ?_); refine box_agg rfl 29 _ rfl (footA f) rfl ?_; intro g_f hg4 w1 hx3 hb2; have G_f := Aside0.mk (show w.heap.size ≤ g_f from by rw [hg4]; exact Nat.le_refl _); have B5 := Aside0.mk (hb2); have K6 := Aside0.mk hx3; clear hb2 hx3 hg4; (try simp only [Act.put, List.setIfInBounds_toArray, List.set_cons_zero, List.set_cons_succ]))
    | ((with_reducible refine gate_dst (N := 17) rfl ?_); refine load_opq rfl 29 _ rfl rfl K6 Try.underlying29 rfl (size29 f) ?_; (try simp only [Act.put, List.setIfInBounds_toArray, List.set_cons_zero, List.set_cons_succ])))
  refine (given_calls f _).mono ?_
  rintro e w7 ⟨rfl, hb⟩
  have K8 := Aside0.mk (blk_below K6.out hb)
  have B9 := Aside0.mk (below_step B5.out hb)
  clear hb
  go_wp2_with (first
    | ((with_reducible refine gate_dst (N := 7) rfl ?_); refine alloc_agg rfl 39 rfl (footA zfoot) zero39 ?_; intro g_x hg13 w10 hx12 hb11; have G_x := Aside0.mk (show w.heap.size ≤ g_x ∧ g_f < g_x from by rw [hg13]; exact ⟨B9.out.size, (Array.getElem?_eq_some_iff.1 K8.out).1⟩); have K14 := Aside0.mk (blk_below K8.out hb11); have B15 := Aside0.mk (below_step B9.out hb11); have K16 := Aside0.mk hx12; clear hb11 hx12 hg13; (try simp only [Act.put, List.setIfInBounds_toArray, List.set_cons_zero, List.set_cons_succ]))
    | ((with_reducible refine gate_store (t := 39) (p := 7) rfl ?_); refine store_agg rfl 39 (.tmp 7) (.tmp 18) rfl (D := footA f) rfl rfl K16 ((footA_size f).trans (footA_size zfoot).symm) (size39 f) (one_foot f) ?_; intro w17 hp18; have K19 := Aside0.mk ((hp18.other _ (by have h_ := G_x.out; omega)).trans K14.out); have B20 := Aside0.mk (hp18.below _ _ G_x.out.1 B15.out); have K21 := Aside0.mk hp18.box; clear hp18; (try simp only [Act.put, List.setIfInBounds_toArray, List.set_cons_zero, List.set_cons_succ]))
    | ((with_reducible refine gate_dst (N := 20) rfl ?_); refine load_opq rfl 39 _ rfl rfl K21 Try.underlying39 rfl (size39 f) ?_; (try simp only [Act.put, List.setIfInBounds_toArray, List.set_cons_zero, List.set_cons_succ])))
  refine (tran_calls HA.out _).mono ?_
  rintro e w22 ⟨rfl, hb⟩
  have K23 := Aside0.mk (blk_below K19.out hb)
  have K24 := Aside0.mk (blk_below K21.out hb)
  have B25 := Aside0.mk (below_step B20.out hb)
  clear hb
  go_wp2_with (first
    | ((with_reducible refine gate_dst (N := 8) rfl ?_); refine alloc_agg rfl 46 rfl (tranA z46) zero46 ?_; intro g_a hg29 w26 hx28 hb27; have G_a := Aside0.mk (show w.heap.size ≤ g_a ∧ g_f < g_a ∧ g_x < g_a from by rw [hg29]; exact ⟨B25.out.size, (Array.getElem?_eq_some_iff.1 K23.out).1, (Array.getElem?_eq_some_iff.1 K24.out).1⟩); have K30 := Aside0.mk (blk_below K23.out hb27); have K31 := Aside0.mk (blk_below K24.out hb27); have B32 := Aside0.mk (below_step B25.out hb27); have K33 := Aside0.mk hx28; clear hb27 hx28 hg29; (try simp only [Act.put, List.setIfInBounds_toArray, List.set_cons_zero, List.set_cons_succ]))
    | ((with_reducible refine gate_store (t := 46) (p := 8) rfl ?_); refine store_agg rfl 46 (.tmp 8) (.tmp 23) rfl (D := tranA ⟨za, oa, da, sa⟩) rfl rfl K33 rfl (size46 _) (one_tran _) ?_; intro w34 hp35; have K36 := Aside0.mk ((hp35.other _ (by have h_ := G_a.out; omega)).trans K30.out); have K37 := Aside0.mk ((hp35.other _ (by have h_ := G_a.out; omega)).trans K31.out); have B38 := Aside0.mk (hp35.below _ _ G_a.out.1 B32.out); have K39 := Aside0.mk hp35.box; clear hp35; (try simp only [Act.put, List.setIfInBounds_toArray, List.set_cons_zero, List.set_cons_succ]))
    | ((with_reducible refine gate_dst (N := 26) rfl ?_); refine load_opq rfl 39 _ rfl rfl K37 Try.underlying39 rfl (size39 f) ?_; (try simp only [Act.put, List.setIfInBounds_toArray, List.set_cons_zero, List.set_cons_succ])))
  refine (tran_calls HB.out _).mono ?_
  rintro e w40 ⟨rfl, hb⟩
  have K41 := Aside0.mk (blk_below K36.out hb)
  have K42 := Aside0.mk (blk_below K37.out hb)
  have K43 := Aside0.mk (blk_below K39.out hb)
  have B44 := Aside0.mk (below_step B38.out hb)
  clear hb
  go_wp2_with (first
    | ((with_reducible refine gate_dst (N := 10) rfl ?_); refine alloc_agg rfl 46 rfl (tranA z46) zero46 ?_; intro g_b hg48 w45 hx47 hb46; have G_b := Aside0.mk (show w.heap.size ≤ g_b ∧ g_f < g_b ∧ g_x < g_b ∧ g_a < g_b from by rw [hg48]; exact ⟨B44.out.size, (Array.getElem?_eq_some_iff.1 K41.out).1, (Array.getElem?_eq_some_iff.1 K42.out).1, (Array.getElem?_eq_some_iff.1 K43.out).1⟩); have K49 := Aside0.mk (blk_below K41.out hb46); have K50 := Aside0.mk (blk_below K42.out hb46); have K51 := Aside0.mk (blk_below K43.out hb46); have B52 := Aside0.mk (below_step B44.out hb46); have K53 := Aside0.mk hx47; clear hb46 hx47 hg48; (try simp only [Act.put, List.setIfInBounds_toArray, List.set_cons_zero, List.set_cons_succ]))
    | ((with_reducible refine gate_store (t := 46) (p := 10) rfl ?_); refine store_agg rfl 46 (.tmp 10) (.tmp 29) rfl (D := tranA ⟨zb, ob, db, sb⟩) rfl rfl K53 rfl (size46 _) (one_tran _) ?_; intro w54 hp55; have K56 := Aside0.mk ((hp55.other _ (by have h_ := G_b.out; omega)).trans K49.out); have K57 := Aside0.mk ((hp55.other _ (by have h_ := G_b.out; omega)).trans K50.out); have K58 := Aside0.mk ((hp55.other _ (by have h_ := G_b.out; omega)).trans K51.out); have B59 := Aside0.mk (hp55.below _ _ G_b.out.1 B52.out); have K60 := Aside0.mk hp55.box; clear hp55; (try simp only [Act.put, List.setIfInBounds_toArray, List.set_cons_zero, List.set_cons_succ]))
    | ((with_reducible refine gate_dst (N := 31) rfl ?_); refine event_W (by rfl) ?hr ?_; (case hr => (go_simp; with_reducible rfl)); (try simp only [Act.put, List.setIfInBounds_toArray, List.set_cons_zero, List.set_cons_succ]))
    | ((with_reducible refine gate_dst (N := 32) rfl ?_); refine event_W (by rfl) ?hr ?_; (case hr => (go_simp; with_reducible rfl)); (try simp only [Act.put, List.setIfInBounds_toArray, List.set_cons_zero, List.set_cons_succ]))
    | ((with_reducible refine gate_dst (N := 33) rfl ?_); refine event_W (by rfl) ?hr ?_; (case hr => (go_simp; with_reducible rfl)); (try simp only [Act.put, List.setIfInBounds_toArray, List.set_cons_zero, List.set_cons_succ]))
    | ((with_reducible refine gate_dst (N := 34) rfl ?_); refine event_W (by rfl) ?hr ?_; (case hr => (go_simp; with_reducible rfl)); (try simp only [Act.put, List.setIfInBounds_toArray, List.set_cons_zero, List.set_cons_succ]))
    | ((with_reducible refine gate_dst (N := 35) rfl ?_); refine event_W (by rfl) ?hr ?_; (case hr => (go_simp; with_reducible rfl)); (try simp only [Act.put, List.setIfInBounds_toArray, List.set_cons_zero, List.set_cons_succ]))
    | ((with_reducible refine gate_dst (N := 36) rfl ?_); refine event_W (by rfl) ?hr ?_; (case hr => (go_simp; with_reducible rfl)); (try simp only [Act.put, List.setIfInBounds_toArray, List.set_cons_zero, List.set_cons_succ]))
    | ((with_reducible refine gate_dst (N := 44) rfl ?_); refine event_W (by rfl) (exec_prim load2 (b := g_a) (k := 0) (v := .int .i64 za) (.tmp 43) rfl rfl ((blk_cell K58.out 0).trans rfl)) ?_; (try simp only [Act.put, List.setIfInBounds_toArray, List.set_cons_zero, List.set_cons_succ]))
    | ((with_reducible refine gate_dst (N := 45) rfl ?_); refine event_W (by rfl) ?hr ?_; (case hr => (go_simp; with_reducible rfl)); (try simp only [Act.put, List.setIfInBounds_toArray, List.set_cons_zero, List.set_cons_succ]))
    | ((with_reducible refine gate_dst (N := 46) rfl ?_); refine event_W (by rfl) ?hr ?_; (case hr => (go_simp; with_reducible rfl)); (try simp only [Act.put, List.setIfInBounds_toArray, List.set_cons_zero, List.set_cons_succ]))
    | ((with_reducible refine gate_dst (N := 47) rfl ?_); refine event_W (by rfl) ?hr ?_; (case hr => (go_simp; with_reducible rfl)); (try simp only [Act.put, List.setIfInBounds_toArray, List.set_cons_zero, List.set_cons_succ]))
    | ((with_reducible refine gate_dst (N := 48) rfl ?_); refine event_W (by rfl) ?hr ?_; (case hr => (go_simp; with_reducible rfl)); (try simp only [Act.put, List.setIfInBounds_toArray, List.set_cons_zero, List.set_cons_succ]))
    | ((with_reducible refine gate_dst (N := 49) rfl ?_); refine event_W (by rfl) (exec_prim load2 (b := g_b) (k := 0) (v := .int .i64 zb) (.tmp 48) rfl rfl ((blk_cell K60.out 0).trans rfl)) ?_; (try simp only [Act.put, List.setIfInBounds_toArray, List.set_cons_zero, List.set_cons_succ]))
    | ((with_reducible refine gate_dst (N := 50) rfl ?_); refine event_W (by rfl) ?hr ?_; (case hr => (go_simp; with_reducible rfl)); (try simp only [Act.put, List.setIfInBounds_toArray, List.set_cons_zero, List.set_cons_succ]))
    | ((with_reducible refine gate_dst (N := 51) rfl ?_); refine event_W (by rfl) ?hr ?_; (case hr => (go_simp; with_reducible rfl)); (try simp only [Act.put, List.setIfInBounds_toArray, List.set_cons_zero, List.set_cons_succ]))
    | ((with_reducible refine gate_dst (N := 52) rfl ?_); refine event_W (by rfl) ?hr ?_; (case hr => (go_simp; with_reducible rfl)); (try simp only [Act.put, List.setIfInBounds_toArray, List.set_cons_zero, List.set_cons_succ]))
    | ((with_reducible refine gate_dst (N := 54) rfl ?_); refine load_opq rfl 39 _ rfl rfl K57 Try.underlying39 rfl (size39 f) ?_; (try simp only [Act.put, List.setIfInBounds_toArray, List.set_cons_zero, List.set_cons_succ]))
    | ((with_reducible refine gate_dst (N := 56) rfl ?_); refine event_W (by rfl) (exec_prim load2 (b := g_b) (k := 0) (v := .int .i64 zb) (.tmp 55) rfl rfl ((blk_cell K60.out 0).trans rfl)) ?_; (try simp only [Act.put, List.setIfInBounds_toArray, List.set_cons_zero, List.set_cons_succ])))
  refine (tran_calls HC.out _).mono ?_
  rintro e w61 ⟨rfl, hb⟩
  have K62 := Aside0.mk (blk_below K56.out hb)
  have K63 := Aside0.mk (blk_below K57.out hb)
  have K64 := Aside0.mk (blk_below K58.out hb)
  have K65 := Aside0.mk (blk_below K60.out hb)
  have B66 := Aside0.mk (below_step B59.out hb)
  clear hb
  rcases HE1.out with ⟨rfl, rfl⟩ | ht
  · skip
    go_wp2_with (first
      | ((with_reducible refine gate_dst (N := 12) rfl ?_); refine alloc_agg rfl 46 rfl (tranA z46) zero46 ?_; intro g_c hg70 w67 hx69 hb68; have G_c := Aside0.mk (show w.heap.size ≤ g_c ∧ g_f < g_c ∧ g_x < g_c ∧ g_a < g_c ∧ g_b < g_c from by rw [hg70]; exact ⟨B66.out.size, (Array.getElem?_eq_some_iff.1 K62.out).1, (Array.getElem?_eq_some_iff.1 K63.out).1, (Array.getElem?_eq_some_iff.1 K64.out).1, (Array.getElem?_eq_some_iff.1 K65.out).1⟩); have K71 := Aside0.mk (blk_below K62.out hb68); have K72 := Aside0.mk (blk_below K63.out hb68); have K73 := Aside0.mk (blk_below K64.out hb68); have K74 := Aside0.mk (blk_below K65.out hb68); have B75 := Aside0.mk (below_step B66.out hb68); have K76 := Aside0.mk hx69; clear hb68 hx69 hg70; (try simp only [Act.put, List.setIfInBounds_toArray, List.set_cons_zero, List.set_cons_succ]))
      | ((with_reducible refine gate_store (t := 46) (p := 12) rfl ?_); refine store_agg rfl 46 (.tmp 12) (.tmp 58) rfl (D := tranA ⟨zb, ob, db, sb⟩) rfl rfl K76 rfl (size46 _) (one_tran _) ?_; intro w77 hp78; have K79 := Aside0.mk ((hp78.other _ (by have h_ := G_c.out; omega)).trans K71.out); have K80 := Aside0.mk ((hp78.other _ (by have h_ := G_c.out; omega)).trans K72.out); have K81 := Aside0.mk ((hp78.other _ (by have h_ := G_c.out; omega)).trans K73.out); have K82 := Aside0.mk ((hp78.other _ (by have h_ := G_c.out; omega)).trans K74.out); have B83 := Aside0.mk (hp78.below _ _ G_c.out.1 B75.out); have K84 := Aside0.mk hp78.box; clear hp78; (try simp only [Act.put, List.setIfInBounds_toArray, List.set_cons_zero, List.set_cons_succ]))
      | ((with_reducible refine gate_dst (N := 60) rfl ?_); refine event_W (by rfl) ?hr ?_; (case hr => (go_simp; with_reducible rfl)); (try simp only [Act.put, List.setIfInBounds_toArray, List.set_cons_zero, List.set_cons_succ]))
      | ((with_reducible refine gate_dst (N := 61) rfl ?_); refine event_W (by rfl) ?hr ?_; (case hr => (go_simp; with_reducible rfl)); (try simp only [Act.put, List.setIfInBounds_toArray, List.set_cons_zero, List.set_cons_succ]))
      | ((with_reducible refine gate_dst (N := 62) rfl ?_); refine event_W (by rfl) ?hr ?_; (case hr => (go_simp; with_reducible rfl)); (try simp only [Act.put, List.setIfInBounds_toArray, List.set_cons_zero, List.set_cons_succ]))
      | ((with_reducible refine gate_dst (N := 63) rfl ?_); refine load_W (by rfl) 46 _ rfl rfl K84 Try.underlying46 rfl (size46 _) ?_; (try simp only [Act.put, List.setIfInBounds_toArray, List.set_cons_zero, List.set_cons_succ]))
      | ((with_reducible refine gate_dst (N := 64) rfl ?_); refine load_W (by rfl) 46 _ rfl rfl K82 Try.underlying46 rfl (size46 _) ?_; (try simp only [Act.put, List.setIfInBounds_toArray, List.set_cons_zero, List.set_cons_succ]))
      | ((with_reducible refine gate_dst (N := 65) rfl ?_); refine event_W (by rfl) (exec_ne46 (.tmp 63) (.tmp 64) _ rfl rfl rfl _) ?_; (try simp only [Act.put, List.setIfInBounds_toArray, List.set_cons_zero, List.set_cons_succ]))
      | ((with_reducible refine gate_dst (N := 66) rfl ?_); refine event_W (by rfl) ?hr ?_; (case hr => (go_simp; with_reducible rfl)); (try simp only [Act.put, List.setIfInBounds_toArray, List.set_cons_zero, List.set_cons_succ]))
      | ((with_reducible refine gate_dst (N := 68) rfl ?_); refine event_W (by rfl) (exec_prim load2 (b := g_b) (k := 0) (v := .int .i64 zb) (.tmp 67) rfl rfl ((blk_cell K82.out 0).trans rfl)) ?_; (try simp only [Act.put, List.setIfInBounds_toArray, List.set_cons_zero, List.set_cons_succ]))
      | ((with_reducible refine gate_dst (N := 70) rfl ?_); refine event_W (by rfl) (exec_prim load2 (b := g_a) (k := 0) (v := .int .i64 za) (.tmp 69) rfl rfl ((blk_cell K81.out 0).trans rfl)) ?_; (try simp only [Act.put, List.setIfInBounds_toArray, List.set_cons_zero, List.set_cons_succ]))
      | ((with_reducible refine gate_dst (N := 71) rfl ?_); refine Kd.event_run rfl (exec_sub (.tmp 68) (.tmp 70) _ rfl rfl rfl HG.out) ?_; (try simp only [Act.put, List.setIfInBounds_toArray, List.set_cons_zero, List.set_cons_succ]))
      | ((with_reducible refine gate_dst (N := 72) rfl ?_); refine event_W (by rfl) ?hr ?_; (case hr => (go_simp; with_reducible rfl)); (try simp only [Act.put, List.setIfInBounds_toArray, List.set_cons_zero, List.set_cons_succ]))
      | ((with_reducible refine gate_dst (N := 73) rfl ?_); refine event_W (by rfl) ?hr ?_; (case hr => (go_simp; with_reducible rfl)); (try simp only [Act.put, List.setIfInBounds_toArray, List.set_cons_zero, List.set_cons_succ]))
      | ((with_reducible refine gate_dst (N := 74) rfl ?_); refine event_W (by rfl) ?hr ?_; (case hr => (go_simp; with_reducible rfl)); (try simp only [Act.put, List.setIfInBounds_toArray, List.set_cons_zero, List.set_cons_succ]))
      | ((with_reducible refine gate_dst (N := 75) rfl ?_); refine event_W (by rfl) ?hr ?_; (case hr => (go_simp; with_reducible rfl)); (try simp only [Act.put, List.setIfInBounds_toArray, List.set_cons_zero, List.set_cons_succ]))
      | ((with_reducible refine gate_dst (N := 76) rfl ?_); refine event_W (by rfl) ?hr ?_; (case hr => (go_simp; with_reducible rfl)); (try simp only [Act.put, List.setIfInBounds_toArray, List.set_cons_zero, List.set_cons_succ]))
      | ((with_reducible refine gate_dst (N := 77) rfl ?_); refine event_W (by rfl) ?hr ?_; (case hr => (go_simp; with_reducible rfl)); (try simp only [Act.put, List.setIfInBounds_toArray, List.set_cons_zero, List.set_cons_succ]))
      | ((with_reducible refine gate_dst (N := 78) rfl ?_); refine event_W (by rfl) ?hr ?_; (case hr => (go_simp; with_reducible rfl)); (try simp only [Act.put, List.setIfInBounds_toArray, List.set_cons_zero, List.set_cons_succ]))
      | ((with_reducible refine gate_dst (N := 79) rfl ?_); refine event_W (by rfl) ?hr ?_; (case hr => (go_simp; with_reducible rfl)); (try simp only [Act.put, List.setIfInBounds_toArray, List.set_cons_zero, List.set_cons_succ]))
      | ((with_reducible refine gate_dst (N := 80) rfl ?_); refine event_W (by rfl) ?hr ?_; (case hr => (go_simp; with_reducible rfl)); (try simp only [Act.put, List.setIfInBounds_toArray, List.set_cons_zero, List.set_cons_succ]))
      | ((with_reducible refine gate_dst (N := 82) rfl ?_); refine load_opq rfl 39 _ rfl rfl K80 Try.underlying39 rfl (size39 f) ?_; (try simp only [Act.put, List.setIfInBounds_toArray, List.set_cons_zero, List.set_cons_succ]))
      | ((with_reducible refine gate_dst (N := 84) rfl ?_); refine event_W (by rfl) (exec_prim load2 (b := g_a) (k := 0) (v := .int .i64 za) (.tmp 83) rfl rfl ((blk_cell K81.out 0).trans rfl)) ?_; (try simp only [Act.put, List.setIfInBounds_toArray, List.set_cons_zero, List.set_cons_succ]))
      | ((with_reducible refine gate_dst (N := 86) rfl ?_); refine Kd.event_run rfl (exec_add (.tmp 84) (.tmp 85) _ rfl rfl rfl HQ.out) ?_; (try simp only [Act.put, List.setIfInBounds_toArray, List.set_cons_zero, List.set_cons_succ])))
    refine (tran_calls HD.out _).mono ?_
    rintro e w85 ⟨rfl, hb⟩
    have K86 := Aside0.mk (blk_below K79.out hb)
    have K87 := Aside0.mk (blk_below K80.out hb)
    have K88 := Aside0.mk (blk_below K81.out hb)
    have K89 := Aside0.mk (blk_below K82.out hb)
    have K90 := Aside0.mk (blk_below K84.out hb)
    have B91 := Aside0.mk (below_step B83.out hb)
    clear hb
    rcases HE2.out with ⟨rfl, rfl⟩ | ht
    · go_wp2_with (first
        | ((with_reducible refine gate_dst (N := 15) rfl ?_); refine alloc_agg rfl 46 rfl (tranA z46) zero46 ?_; intro g_d hg95 w92 hx94 hb93; have G_d := Aside0.mk (show w.heap.size ≤ g_d ∧ g_f < g_d ∧ g_x < g_d ∧ g_a < g_d ∧ g_b < g_d ∧ g_c < g_d from by rw [hg95]; exact ⟨B91.out.size, (Array.getElem?_eq_some_iff.1 K86.out).1, (Array.getElem?_eq_some_iff.1 K87.out).1, (Array.getElem?_eq_some_iff.1 K88.out).1, (Array.getElem?_eq_some_iff.1 K89.out).1, (Array.getElem?_eq_some_iff.1 K90.out).1⟩); have K96 := Aside0.mk (blk_below K86.out hb93); have K97 := Aside0.mk (blk_below K87.out hb93); have K98 := Aside0.mk (blk_below K88.out hb93); have K99 := Aside0.mk (blk_below K89.out hb93); have K100 := Aside0.mk (blk_below K90.out hb93); have B101 := Aside0.mk (below_step B91.out hb93); have K102 := Aside0.mk hx94; clear hb93 hx94 hg95; (try simp only [Act.put, List.setIfInBounds_toArray, List.set_cons_zero, List.set_cons_succ]))
        | ((with_reducible refine gate_store (t := 46) (p := 15) rfl ?_); refine store_agg rfl 46 (.tmp 15) (.tmp 88) rfl (D := tranA ⟨za, oa, da, sa⟩) rfl rfl K102 rfl (size46 _) (one_tran _) ?_; intro w103 hp104; have K105 := Aside0.mk ((hp104.other _ (by have h_ := G_d.out; omega)).trans K96.out); have K106 := Aside0.mk ((hp104.other _ (by have h_ := G_d.out; omega)).trans K97.out); have K107 := Aside0.mk ((hp104.other _ (by have h_ := G_d.out; omega)).trans K98.out); have K108 := Aside0.mk ((hp104.other _ (by have h_ := G_d.out; omega)).trans K99.out); have K109 := Aside0.mk ((hp104.other _ (by have h_ := G_d.out; omega)).trans K100.out); have B110 := Aside0.mk (hp104.below _ _ G_d.out.1 B101.out); have K111 := Aside0.mk hp104.box; clear hp104; (try simp only [Act.put, List.setIfInBounds_toArray, List.set_cons_zero, List.set_cons_succ]))
        | ((with_reducible refine gate_dst (N := 90) rfl ?_); refine event_W (by rfl) ?hr ?_; (case hr => (go_simp; with_reducible rfl)); (try simp only [Act.put, List.setIfInBounds_toArray, List.set_cons_zero, List.set_cons_succ]))
        | ((with_reducible refine gate_dst (N := 91) rfl ?_); refine event_W (by rfl) ?hr ?_; (case hr => (go_simp; with_reducible rfl)); (try simp only [Act.put, List.setIfInBounds_toArray, List.set_cons_zero, List.set_cons_succ]))
        | ((with_reducible refine gate_dst (N := 92) rfl ?_); refine event_W (by rfl) ?hr ?_; (case hr => (go_simp; with_reducible rfl)); (try simp only [Act.put, List.setIfInBounds_toArray, List.set_cons_zero, List.set_cons_succ]))
        | ((with_reducible refine gate_dst (N := 93) rfl ?_); refine load_W (by rfl) 46 _ rfl rfl K111 Try.underlying46 rfl (size46 _) ?_; (try simp only [Act.put, List.setIfInBounds_toArray, List.set_cons_zero, List.set_cons_succ]))
        | ((with_reducible refine gate_dst (N := 94) rfl ?_); refine load_W (by rfl) 46 _ rfl rfl K107 Try.underlying46 rfl (size46 _) ?_; (try simp only [Act.put, List.setIfInBounds_toArray, List.set_cons_zero, List.set_cons_succ]))
        | ((with_reducible refine gate_dst (N := 95) rfl ?_); refine event_W (by rfl) (exec_same46 (.tmp 93) (.tmp 94) _ rfl rfl rfl _) ?_; (try simp only [Act.put, List.setIfInBounds_toArray, List.set_cons_zero, List.set_cons_succ]))
        | ((with_reducible refine gate_dst (N := 96) rfl ?_); refine event_W (by rfl) ?hr ?_; (case hr => (go_simp; with_reducible rfl)); (try simp only [Act.put, List.setIfInBounds_toArray, List.set_cons_zero, List.set_cons_succ]))
        | ((with_reducible refine gate_dst (N := 97) rfl ?_); refine event_W (by rfl) ?hr ?_; (case hr => (go_simp; with_reducible rfl)); (try simp only [Act.put, List.setIfInBounds_toArray, List.set_cons_zero, List.set_cons_succ]))
        | ((with_reducible refine gate_dst (N := 98) rfl ?_); refine event_W (by rfl) ?hr ?_; (case hr => (go_simp; with_reducible rfl)); (try simp only [Act.put, List.setIfInBounds_toArray, List.set_cons_zero, List.set_cons_succ]))
        | ((with_reducible refine gate_dst (N := 99) rfl ?_); refine event_W (by rfl) ?hr ?_; (case hr => (go_simp; with_reducible rfl)); (try simp only [Act.put, List.setIfInBounds_toArray, List.set_cons_zero, List.set_cons_succ]))
        | ((with_reducible refine gate_dst (N := 100) rfl ?_); refine event_W (by rfl) ?hr ?_; (case hr => (go_simp; with_reducible rfl)); (try simp only [Act.put, List.setIfInBounds_toArray, List.set_cons_zero, List.set_cons_succ]))
        | ((with_reducible refine gate_dst (N := 101) rfl ?_); refine event_W (by rfl) ?hr ?_; (case hr => (go_simp; with_reducible rfl)); (try simp only [Act.put, List.setIfInBounds_toArray, List.set_cons_zero, List.set_cons_succ]))
        | ((with_reducible refine gate_dst (N := 102) rfl ?_); refine event_W (by rfl) ?hr ?_; (case hr => (go_simp; with_reducible rfl)); (try simp only [Act.put, List.setIfInBounds_toArray, List.set_cons_zero, List.set_cons_succ]))
        | ((with_reducible refine gate_dst (N := 103) rfl ?_); refine event_W (by rfl) ?hr ?_; (case hr => (go_simp; with_reducible rfl)); (try simp only [Act.put, List.setIfInBounds_toArray, List.set_cons_zero, List.set_cons_succ]))
        | ((with_reducible refine gate_dst (N := 104) rfl ?_); refine event_W (by rfl) ?hr ?_; (case hr => (go_simp; with_reducible rfl)); (try simp only [Act.put, List.setIfInBounds_toArray, List.set_cons_zero, List.set_cons_succ]))
        | ((with_reducible refine gate_dst (N := 105) rfl ?_); refine event_W (by rfl) ?hr ?_; (case hr => (go_simp; with_reducible rfl)); (try simp only [Act.put, List.setIfInBounds_toArray, List.set_cons_zero, List.set_cons_succ])))
      refine (HK.out _).mono ?_
      rintro e w112 ⟨rfl, hb⟩
      have K113 := Aside0.mk (blk_below K105.out hb)
      have K114 := Aside0.mk (blk_below K106.out hb)
      have K115 := Aside0.mk (blk_below K107.out hb)
      have K116 := Aside0.mk (blk_below K108.out hb)
      have K117 := Aside0.mk (blk_below K109.out hb)
      have K118 := Aside0.mk (blk_below K111.out hb)
      have B119 := Aside0.mk (below_step B110.out hb)
      clear hb
      go_wp2_with (fail)
      go_ret
      exact ⟨rfl, B119.out⟩
    · have t8 : (e2 != 0) = true := bne_iff_ne.2 ht
      go_wp2_with (first
        | ((with_reducible refine gate_dst (N := 15) rfl ?_); refine alloc_agg rfl 46 rfl (tranA z46) zero46 ?_; intro g_d hg95 w92 hx94 hb93; have G_d := Aside0.mk (show w.heap.size ≤ g_d ∧ g_f < g_d ∧ g_x < g_d ∧ g_a < g_d ∧ g_b < g_d ∧ g_c < g_d from by rw [hg95]; exact ⟨B91.out.size, (Array.getElem?_eq_some_iff.1 K86.out).1, (Array.getElem?_eq_some_iff.1 K87.out).1, (Array.getElem?_eq_some_iff.1 K88.out).1, (Array.getElem?_eq_some_iff.1 K89.out).1, (Array.getElem?_eq_some_iff.1 K90.out).1⟩); have K96 := Aside0.mk (blk_below K86.out hb93); have K97 := Aside0.mk (blk_below K87.out hb93); have K98 := Aside0.mk (blk_below K88.out hb93); have K99 := Aside0.mk (blk_below K89.out hb93); have K100 := Aside0.mk (blk_below K90.out hb93); have B101 := Aside0.mk (below_step B91.out hb93); have K102 := Aside0.mk hx94; clear hb93 hx94 hg95; (try simp only [Act.put, List.setIfInBounds_toArray, List.set_cons_zero, List.set_cons_succ]))
        | ((with_reducible refine gate_store (t := 46) (p := 15) rfl ?_); refine store_agg rfl 46 (.tmp 15) (.tmp 88) rfl (D := tranA d) rfl rfl K102 rfl (size46 _) (one_tran _) ?_; intro w103 hp104; have K105 := Aside0.mk ((hp104.other _ (by have h_ := G_d.out; omega)).trans K96.out); have K106 := Aside0.mk ((hp104.other _ (by have h_ := G_d.out; omega)).trans K97.out); have K107 := Aside0.mk ((hp104.other _ (by have h_ := G_d.out; omega)).trans K98.out); have K108 := Aside0.mk ((hp104.other _ (by have h_ := G_d.out; omega)).trans K99.out); have K109 := Aside0.mk ((hp104.other _ (by have h_ := G_d.out; omega)).trans K100.out); have B110 := Aside0.mk (hp104.below _ _ G_d.out.1 B101.out); have K111 := Aside0.mk hp104.box; clear hp104; (try simp only [Act.put, List.setIfInBounds_toArray, List.set_cons_zero, List.set_cons_succ]))
        | ((with_reducible refine gate_dst (N := 90) rfl ?_); refine event_W (by rfl) ?hr ?_; (case hr => (go_simp; with_reducible rfl)); (try simp only [Act.put, List.setIfInBounds_toArray, List.set_cons_zero, List.set_cons_succ]))
        | ((with_reducible refine gate_dst (N := 91) rfl ?_); refine event_W (by rfl) ?hr ?_; (case hr => (go_simp; with_reducible rfl)); (try simp only [Act.put, List.setIfInBounds_toArray, List.set_cons_zero, List.set_cons_succ]))
        | ((with_reducible refine gate_dst (N := 92) rfl ?_); refine event_W (by rfl) ?hr ?_; (case hr => (go_simp; with_reducible rfl)); (try simp only [Act.put, List.setIfInBounds_toArray, List.set_cons_zero, List.set_cons_succ]))
        | ((with_reducible refine gate_dst (N := 96) rfl ?_); refine event_W (by rfl) ?hr ?_; (case hr => (go_simp; with_reducible rfl)); (try simp only [Act.put, List.setIfInBounds_toArray, List.set_cons_zero, List.set_cons_succ]))
        | ((with_reducible refine gate_dst (N := 97) rfl ?_); refine event_W (by rfl) ?hr ?_; (case hr => (go_simp; with_reducible rfl)); (try simp only [Act.put, List.setIfInBounds_toArray, List.set_cons_zero, List.set_cons_succ]))
        | ((with_reducible refine gate_dst (N := 98) rfl ?_); refine event_W (by rfl) ?hr ?_; (case hr => (go_simp; with_reducible rfl)); (try simp only [Act.put, List.setIfInBounds_toArray, List.set_cons_zero, List.set_cons_succ]))
        | ((with_reducible refine gate_dst (N := 99) rfl ?_); refine event_W (by rfl) ?hr ?_; (case hr => (go_simp; with_reducible rfl)); (try simp only [Act.put, List.setIfInBounds_toArray, List.set_cons_zero, List.set_cons_succ]))
        | ((with_reducible refine gate_dst (N := 100) rfl ?_); refine event_W (by rfl) ?hr ?_; (case hr => (go_simp; with_reducible rfl)); (try simp only [Act.put, List.setIfInBounds_toArray, List.set_cons_zero, List.set_cons_succ]))
        | ((with_reducible refine gate_dst (N := 101) rfl ?_); refine event_W (by rfl) ?hr ?_; (case hr => (go_simp; with_reducible rfl)); (try simp only [Act.put, List.setIfInBounds_toArray, List.set_cons_zero, List.set_cons_succ]))
        | ((with_reducible refine gate_dst (N := 102) rfl ?_); refine event_W (by rfl) ?hr ?_; (case hr => (go_simp; with_reducible rfl)); (try simp only [Act.put, List.setIfInBounds_toArray, List.set_cons_zero, List.set_cons_succ]))
        | ((with_reducible refine gate_dst (N := 103) rfl ?_); refine event_W (by rfl) ?hr ?_; (case hr => (go_simp; with_reducible rfl)); (try simp only [Act.put, List.setIfInBounds_toArray, List.set_cons_zero, List.set_cons_succ]))
        | ((with_reducible refine gate_dst (N := 104) rfl ?_); refine event_W (by rfl) ?hr ?_; (case hr => (go_simp; with_reducible rfl)); (try simp only [Act.put, List.setIfInBounds_toArray, List.set_cons_zero, List.set_cons_succ]))
        | ((with_reducible refine gate_dst (N := 105) rfl ?_); refine event_W (by rfl) ?hr ?_; (case hr => (go_simp; with_reducible rfl)); (try simp only [Act.put, List.setIfInBounds_toArray, List.set_cons_zero, List.set_cons_succ])))
      refine (HK.out _).mono ?_
      rintro e w112 ⟨rfl, hb⟩
      have K113 := Aside0.mk (blk_below K105.out hb)
      have K114 := Aside0.mk (blk_below K106.out hb)
      have K115 := Aside0.mk (blk_below K107.out hb)
      have K116 := Aside0.mk (blk_below K108.out hb)
      have K117 := Aside0.mk (blk_below K109.out hb)
      have K118 := Aside0.mk (blk_below K111.out hb)
      have B119 := Aside0.mk (below_step B110.out hb)
      clear hb
      go_wp2_with (fail)
      go_ret
      exact ⟨rfl, B119.out⟩
  · have t9 : (e1 == 0) = false := beq_eq_false_iff_ne.2 ht
    go_wp2_with (first
      | ((with_reducible refine gate_dst (N := 12) rfl ?_); refine alloc_agg rfl 46 rfl (tranA z46) zero46 ?_; intro g_c hg70 w67 hx69 hb68; have G_c := Aside0.mk (show w.heap.size ≤ g_c ∧ g_f < g_c ∧ g_x < g_c ∧ g_a < g_c ∧ g_b < g_c from by rw [hg70]; exact ⟨B66.out.size, (Array.getElem?_eq_some_iff.1 K62.out).1, (Array.getElem?_eq_some_iff.1 K63.out).1, (Array.getElem?_eq_some_iff.1 K64.out).1, (Array.getElem?_eq_some_iff.1 K65.out).1⟩); have K71 := Aside0.mk (blk_below K62.out hb68); have K72 := Aside0.mk (blk_below K63.out hb68); have K73 := Aside0.mk (blk_below K64.out hb68); have K74 := Aside0.mk (blk_below K65.out hb68); have B75 := Aside0.mk (below_step B66.out hb68); have K76 := Aside0.mk hx69; clear hb68 hx69 hg70; (try simp only [Act.put, List.setIfInBounds_toArray, List.set_cons_zero, List.set_cons_succ]))
      | ((with_reducible refine gate_store (t := 46) (p := 12) rfl ?_); refine store_agg rfl 46 (.tmp 12) (.tmp 58) rfl (D := tranA c) rfl rfl K76 rfl (size46 _) (one_tran _) ?_; intro w77 hp78; have K79 := Aside0.mk ((hp78.other _ (by have h_ := G_c.out; omega)).trans K71.out); have K80 := Aside0.mk ((hp78.other _ (by have h_ := G_c.out; omega)).trans K72.out); have K81 := Aside0.mk ((hp78.other _ (by have h_ := G_c.out; omega)).trans K73.out); have K82 := Aside0.mk ((hp78.other _ (by have h_ := G_c.out; omega)).trans K74.out); have B83 := Aside0.mk (hp78.below _ _ G_c.out.1 B75.out); have K84 := Aside0.mk hp78.box; clear hp78; (try simp only [Act.put, List.setIfInBounds_toArray, List.set_cons_zero, List.set_cons_succ]))
      | ((with_reducible refine gate_dst (N := 60) rfl ?_); refine event_W (by rfl) ?hr ?_; (case hr => (go_simp; with_reducible rfl)); (try simp only [Act.put, List.setIfInBounds_toArray, List.set_cons_zero, List.set_cons_succ]))
      | ((with_reducible refine gate_dst (N := 61) rfl ?_); refine event_W (by rfl) ?hr ?_; (case hr => (go_simp; with_reducible rfl)); (try simp only [Act.put, List.setIfInBounds_toArray, List.set_cons_zero, List.set_cons_succ]))
      | ((with_reducible refine gate_dst (N := 62) rfl ?_); refine event_W (by rfl) ?hr ?_; (case hr => (go_simp; with_reducible rfl)); (try simp only [Act.put, List.setIfInBounds_toArray, List.set_cons_zero, List.set_cons_succ]))
      | ((with_reducible refine gate_dst (N := 66) rfl ?_); refine event_W (by rfl) ?hr ?_; (case hr => (go_simp; with_reducible rfl)); (try simp only [Act.put, List.setIfInBounds_toArray, List.set_cons_zero, List.set_cons_succ]))
      | ((with_reducible refine gate_dst (N := 68) rfl ?_); refine event_W (by rfl) (exec_prim load2 (b := g_b) (k := 0) (v := .int .i64 zb) (.tmp 67) rfl rfl ((blk_cell K82.out 0).trans rfl)) ?_; (try simp only [Act.put, List.setIfInBounds_toArray, List.set_cons_zero, List.set_cons_succ]))
      | ((with_reducible refine gate_dst (N := 70) rfl ?_); refine event_W (by rfl) (exec_prim load2 (b := g_a) (k := 0) (v := .int .i64 za) (.tmp 69) rfl rfl ((blk_cell K81.out 0).trans rfl)) ?_; (try simp only [Act.put, List.setIfInBounds_toArray, List.set_cons_zero, List.set_cons_succ]))
      | ((with_reducible refine gate_dst (N := 71) rfl ?_); refine Kd.event_run rfl (exec_sub (.tmp 68) (.tmp 70) _ rfl rfl rfl HG.out) ?_; (try simp only [Act.put, List.setIfInBounds_toArray, List.set_cons_zero, List.set_cons_succ]))
      | ((with_reducible refine gate_dst (N := 72) rfl ?_); refine event_W (by rfl) ?hr ?_; (case hr => (go_simp; with_reducible rfl)); (try simp only [Act.put, List.setIfInBounds_toArray, List.set_cons_zero, List.set_cons_succ]))
      | ((with_reducible refine gate_dst (N := 73) rfl ?_); refine event_W (by rfl) ?hr ?_; (case hr => (go_simp; with_reducible rfl)); (try simp only [Act.put, List.setIfInBounds_toArray, List.set_cons_zero, List.set_cons_succ]))
      | ((with_reducible refine gate_dst (N := 74) rfl ?_); refine event_W (by rfl) ?hr ?_; (case hr => (go_simp; with_reducible rfl)); (try simp only [Act.put, List.setIfInBounds_toArray, List.set_cons_zero, List.set_cons_succ]))
      | ((with_reducible refine gate_dst (N := 75) rfl ?_); refine event_W (by rfl) ?hr ?_; (case hr => (go_simp; with_reducible rfl)); (try simp only [Act.put, List.setIfInBounds_toArray, List.set_cons_zero, List.set_cons_succ]))
      | ((with_reducible refine gate_dst (N := 76) rfl ?_); refine event_W (by rfl) ?hr ?_; (case hr => (go_simp; with_reducible rfl)); (try simp only [Act.put, List.setIfInBounds_toArray, List.set_cons_zero, List.set_cons_succ]))
      | ((with_reducible refine gate_dst (N := 77) rfl ?_); refine event_W (by rfl) ?hr ?_; (case hr => (go_simp; with_reducible rfl)); (try simp only [Act.put, List.setIfInBounds_toArray, List.set_cons_zero, List.set_cons_succ]))
      | ((with_reducible refine gate_dst (N := 78) rfl ?_); refine event_W (by rfl) ?hr ?_; (case hr => (go_simp; with_reducible rfl)); (try simp only [Act.put, List.setIfInBounds_toArray, List.set_cons_zero, List.set_cons_succ]))
      | ((with_reducible refine gate_dst (N := 79) rfl ?_); refine event_W (by rfl) ?hr ?_; (case hr => (go_simp; with_reducible rfl)); (try simp only [Act.put, List.setIfInBounds_toArray, List.set_cons_zero, List.set_cons_succ]))
      | ((with_reducible refine gate_dst (N := 80) rfl ?_); refine event_W (by rfl) ?hr ?_; (case hr => (go_simp; with_reducible rfl)); (try simp only [Act.put, List.setIfInBounds_toArray, List.set_cons_zero, List.set_cons_succ]))
      | ((with_reducible refine gate_dst (N := 82) rfl ?_); refine load_opq rfl 39 _ rfl rfl K80 Try.underlying39 rfl (size39 f) ?_; (try simp only [Act.put, List.setIfInBounds_toArray, List.set_cons_zero, List.set_cons_succ]))
      | ((with_reducible refine gate_dst (N := 84) rfl ?_); refine event_W (by rfl) (exec_prim load2 (b := g_a) (k := 0) (v := .int .i64 za) (.tmp 83) rfl rfl ((blk_cell K81.out 0).trans rfl)) ?_; (try simp only [Act.put, List.setIfInBounds_toArray, List.set_cons_zero, List.set_cons_succ]))
      | ((with_reducible refine gate_dst (N := 86) rfl ?_); refine Kd.event_run rfl (exec_add (.tmp 84) (.tmp 85) _ rfl rfl rfl HQ.out) ?_; (try simp only [Act.put, List.setIfInBounds_toArray, List.set_cons_zero, List.set_cons_succ])))
    refine (tran_calls HD.out _).mono ?_
    rintro e w85 ⟨rfl, hb⟩
    have K86 := Aside0.mk (blk_below K79.out hb)
    have K87 := Aside0.mk (blk_below K80.out hb)
    have K88 := Aside0.mk (blk_below K81.out hb)
    have K89 := Aside0.mk (blk_below K82.out hb)
    have K90 := Aside0.mk (blk_below K84.out hb)
    have B91 := Aside0.mk (below_step B83.out hb)
    clear hb
    rcases HE2.out with ⟨rfl, rfl⟩ | ht
    · go_wp2_with (first
        | ((with_reducible refine gate_dst (N := 15) rfl ?_); refine alloc_agg rfl 46 rfl (tranA z46) zero46 ?_; intro g_d hg95 w92 hx94 hb93; have G_d := Aside0.mk (show w.heap.size ≤ g_d ∧ g_f < g_d ∧ g_x < g_d ∧ g_a < g_d ∧ g_b < g_d ∧ g_c < g_d from by rw [hg95]; exact ⟨B91.out.size, (Array.getElem?_eq_some_iff.1 K86.out).1, (Array.getElem?_eq_some_iff.1 K87.out).1, (Array.getElem?_eq_some_iff.1 K88.out).1, (Array.getElem?_eq_some_iff.1 K89.out).1, (Array.getElem?_eq_some_iff.1 K90.out).1⟩); have K96 := Aside0.mk (blk_below K86.out hb93); have K97 := Aside0.mk (blk_below K87.out hb93); have K98 := Aside0.mk (blk_below K88.out hb93); have K99 := Aside0.mk (blk_below K89.out hb93); have K100 := Aside0.mk (blk_below K90.out hb93); have B101 := Aside0.mk (below_step B91.out hb93); have K102 := Aside0.mk hx94; clear hb93 hx94 hg95; (try simp only [Act.put, List.setIfInBounds_toArray, List.set_cons_zero, List.set_cons_succ]))
        | ((with_reducible refine gate_store (t := 46) (p := 15) rfl ?_); refine store_agg rfl 46 (.tmp 15) (.tmp 88) rfl (D := tranA ⟨za, oa, da, sa⟩) rfl rfl K102 rfl (size46 _) (one_tran _) ?_; intro w103 hp104; have K105 := Aside0.mk ((hp104.other _ (by have h_ := G_d.out; omega)).trans K96.out); have K106 := Aside0.mk ((hp104.other _ (by have h_ := G_d.out; omega)).trans K97.out); have K107 := Aside0.mk ((hp104.other _ (by have h_ := G_d.out; omega)).trans K98.out); have K108 := Aside0.mk ((hp104.other _ (by have h_ := G_d.out; omega)).trans K99.out); have K109 := Aside0.mk ((hp104.other _ (by have h_ := G_d.out; omega)).trans K100.out); have B110 := Aside0.mk (hp104.below _ _ G_d.out.1 B101.out); have K111 := Aside0.mk hp104.box; clear hp104; (try simp only [Act.put, List.setIfInBounds_toArray, List.set_cons_zero, List.set_cons_succ]))
        | ((with_reducible refine gate_dst (N := 90) rfl ?_); refine event_W (by rfl) ?hr ?_; (case hr => (go_simp; with_reducible rfl)); (try simp only [Act.put, List.setIfInBounds_toArray, List.set_cons_zero, List.set_cons_succ]))
        | ((with_reducible refine gate_dst (N := 91) rfl ?_); refine event_W (by rfl) ?hr ?_; (case hr => (go_simp; with_reducible rfl)); (try simp only [Act.put, List.setIfInBounds_toArray, List.set_cons_zero, List.set_cons_succ]))
        | ((with_reducible refine gate_dst (N := 92) rfl ?_); refine event_W (by rfl) ?hr ?_; (case hr => (go_simp; with_reducible rfl)); (try simp only [Act.put, List.setIfInBounds_toArray, List.set_cons_zero, List.set_cons_succ]))
        | ((with_reducible refine gate_dst (N := 93) rfl ?_); refine load_W (by rfl) 46 _ rfl rfl K111 Try.underlying46 rfl (size46 _) ?_; (try simp only [Act.put, List.setIfInBounds_toArray, List.set_cons_zero, List.set_cons_succ]))
        | ((with_reducible refine gate_dst (N := 94) rfl ?_); refine load_W (by rfl) 46 _ rfl rfl K107 Try.underlying46 rfl (size46 _) ?_; (try simp only [Act.put, List.setIfInBounds_toArray, List.set_cons_zero, List.set_cons_succ]))
        | ((with_reducible refine gate_dst (N := 95) rfl ?_); refine event_W (by rfl) (exec_same46 (.tmp 93) (.tmp 94) _ rfl rfl rfl _) ?_; (try simp only [Act.put, List.setIfInBounds_toArray, List.set_cons_zero, List.set_cons_succ]))
        | ((with_reducible refine gate_dst (N := 96) rfl ?_); refine event_W (by rfl) ?hr ?_; (case hr => (go_simp; with_reducible rfl)); (try simp only [Act.put, List.setIfInBounds_toArray, List.set_cons_zero, List.set_cons_succ]))
        | ((with_reducible refine gate_dst (N := 97) rfl ?_); refine event_W (by rfl) ?hr ?_; (case hr => (go_simp; with_reducible rfl)); (try simp only [Act.put, List.setIfInBounds_toArray, List.set_cons_zero, List.set_cons_succ]))
        | ((with_reducible refine gate_dst (N := 98) rfl ?_); refine event_W (by rfl) ?hr ?_; (case hr => (go_simp; with_reducible rfl)); (try simp only [Act.put, List.setIfInBounds_toArray, List.set_cons_zero, List.set_cons_succ]))
        | ((with_reducible refine gate_dst (N := 99) rfl ?_); refine event_W (by rfl) ?hr ?_; (case hr => (go_simp; with_reducible rfl)); (try simp only [Act.put, List.setIfInBounds_toArray, List.set_cons_zero, List.set_cons_succ]))
        | ((with_reducible refine gate_dst (N := 100) rfl ?_); refine event_W (by rfl) ?hr ?_; (case hr => (go_simp; with_reducible rfl)); (try simp only [Act.put, List.setIfInBounds_toArray, List.set_cons_zero, List.set_cons_succ]))
        | ((with_reducible refine gate_dst (N := 101) rfl ?_); refine event_W (by rfl) ?hr ?_; (case hr => (go_simp; with_reducible rfl)); (try simp only [Act.put, List.setIfInBounds_toArray, List.set_cons_zero, List.set_cons_succ]))
        | ((with_reducible refine gate_dst (N := 102) rfl ?_); refine event_W (by rfl) ?hr ?_; (case hr => (go_simp; with_reducible rfl)); (try simp only [Act.put, List.setIfInBounds_toArray, List.set_cons_zero, List.set_cons_succ]))
        | ((with_reducible refine gate_dst (N := 103) rfl ?_); refine event_W (by rfl) ?hr ?_; (case hr => (go_simp; with_reducible rfl)); (try simp only [Act.put, List.setIfInBounds_toArray, List.set_cons_zero, List.set_cons_succ]))
        | ((with_reducible refine gate_dst (N := 104) rfl ?_); refine event_W (by rfl) ?hr ?_; (case hr => (go_simp; with_reducible rfl)); (try simp only [Act.put, List.setIfInBounds_toArray, List.set_cons_zero, List.set_cons_succ]))
        | ((with_reducible refine gate_dst (N := 105) rfl ?_); refine event_W (by rfl) ?hr ?_; (case hr => (go_simp; with_reducible rfl)); (try simp only [Act.put, List.setIfInBounds_toArray, List.set_cons_zero, List.set_cons_succ])))
      refine (HK.out _).mono ?_
      rintro e w112 ⟨rfl, hb⟩
      have K113 := Aside0.mk (blk_below K105.out hb)
      have K114 := Aside0.mk (blk_below K106.out hb)
      have K115 := Aside0.mk (blk_below K107.out hb)
      have K116 := Aside0.mk (blk_below K108.out hb)
      have K117 := Aside0.mk (blk_below K109.out hb)
      have K118 := Aside0.mk (blk_below K111.out hb)
      have B119 := Aside0.mk (below_step B110.out hb)
      clear hb
      go_wp2_with (fail)
      go_ret
      exact ⟨rfl, B119.out⟩
    · have t8 : (e2 != 0) = true := bne_iff_ne.2 ht
      go_wp2_with (first
        | ((with_reducible refine gate_dst (N := 15) rfl ?_); refine alloc_agg rfl 46 rfl (tranA z46) zero46 ?_; intro g_d hg95 w92 hx94 hb93; have G_d := Aside0.mk (show w.heap.size ≤ g_d ∧ g_f < g_d ∧ g_x < g_d ∧ g_a < g_d ∧ g_b < g_d ∧ g_c < g_d from by rw [hg95]; exact ⟨B91.out.size, (Array.getElem?_eq_some_iff.1 K86.out).1, (Array.getElem?_eq_some_iff.1 K87.out).1, (Array.getElem?_eq_some_iff.1 K88.out).1, (Array.getElem?_eq_some_iff.1 K89.out).1, (Array.getElem?_eq_some_iff.1 K90.out).1⟩); have K96 := Aside0.mk (blk_below K86.out hb93); have K97 := Aside0.mk (blk_below K87.out hb93); have K98 := Aside0.mk (blk_below K88.out hb93); have K99 := Aside0.mk (blk_below K89.out hb93); have K100 := Aside0.mk (blk_below K90.out hb93); have B101 := Aside0.mk (below_step B91.out hb93); have K102 := Aside0.mk hx94; clear hb93 hx94 hg95; (try simp only [Act.put, List.setIfInBounds_toArray, List.set_cons_zero, List.set_cons_succ]))
        | ((with_reducible refine gate_store (t := 46) (p := 15) rfl ?_); refine store_agg rfl 46 (.tmp 15) (.tmp 88) rfl (D := tranA d) rfl rfl K102 rfl (size46 _) (one_tran _) ?_; intro w103 hp104; have K105 := Aside0.mk ((hp104.other _ (by have h_ := G_d.out; omega)).trans K96.out); have K106 := Aside0.mk ((hp104.other _ (by have h_ := G_d.out; omega)).trans K97.out); have K107 := Aside0.mk ((hp104.other _ (by have h_ := G_d.out; omega)).trans K98.out); have K108 := Aside0.mk ((hp104.other _ (by have h_ := G_d.out; omega)).trans K99.out); have K109 := Aside0.mk ((hp104.other _ (by have h_ := G_d.out; omega)).trans K100.out); have B110 := Aside0.mk (hp104.below _ _ G_d.out.1 B101.out); have K111 := Aside0.mk hp104.box; clear hp104; (try simp only [Act.put, List.setIfInBounds_toArray, List.set_cons_zero, List.set_cons_succ]))
        | ((with_reducible refine gate_dst (N := 90) rfl ?_); refine event_W (by rfl) ?hr ?_; (case hr => (go_simp; with_reducible rfl)); (try simp only [Act.put, List.setIfInBounds_toArray, List.set_cons_zero, List.set_cons_succ]))
        | ((with_reducible refine gate_dst (N := 91) rfl ?_); refine event_W (by rfl) ?hr ?_; (case hr => (go_simp; with_reducible rfl)); (try simp only [Act.put, List.setIfInBounds_toArray, List.set_cons_zero, List.set_cons_succ]))
        | ((with_reducible refine gate_dst (N := 92) rfl ?_); refine event_W (by rfl) ?hr ?_; (case hr => (go_simp; with_reducible rfl)); (try simp only [Act.put, List.setIfInBounds_toArray, List.set_cons_zero, List.set_cons_succ]))
        | ((with_reducible refine gate_dst (N := 96) rfl ?_); refine event_W (by rfl) ?hr ?_; (case hr => (go_simp; with_reducible rfl)); (try simp only [Act.put, List.setIfInBounds_toArray, List.set_cons_zero, List.set_cons_succ]))
        | ((with_reducible refine gate_dst (N := 97) rfl ?_); refine event_W (by rfl) ?hr ?_; (case hr => (go_simp; with_reducible rfl)); (try simp only [Act.put, List.setIfInBounds_toArray, List.set_cons_zero, List.set_cons_succ]))
        | ((with_reducible refine gate_dst (N := 98) rfl ?_); refine event_W (by rfl) ?hr ?_; (case hr => (go_simp; with_reducible rfl)); (try simp only [Act.put, List.setIfInBounds_toArray, List.set_cons_zero, List.set_cons_succ]))
        | ((with_reducible refine gate_dst (N := 99) rfl ?_); refine event_W (by rfl) ?hr ?_; (case hr => (go_simp; with_reducible rfl)); (try simp only [Act.put, List.setIfInBounds_toArray, List.set_cons_zero, List.set_cons_succ]))
        | ((with_reducible refine gate_dst (N := 100) rfl ?_); refine event_W (by rfl) ?hr ?_; (case hr => (go_simp; with_reducible rfl)); (try simp only [Act.put, List.setIfInBounds_toArray, List.set_cons_zero, List.set_cons_succ]))
        | ((with_reducible refine gate_dst (N := 101) rfl ?_); refine event_W (by rfl) ?hr ?_; (case hr => (go_simp; with_reducible rfl)); (try simp only [Act.put, List.setIfInBounds_toArray, List.set_cons_zero, List.set_cons_succ]))
        | ((with_reducible refine gate_dst (N := 102) rfl ?_); refine event_W (by rfl) ?hr ?_; (case hr => (go_simp; with_reducible rfl)); (try simp only [Act.put, List.setIfInBounds_toArray, List.set_cons_zero, List.set_cons_succ]))
        | ((with_reducible refine gate_dst (N := 103) rfl ?_); refine event_W (by rfl) ?hr ?_; (case hr => (go_simp; with_reducible rfl)); (try simp only [Act.put, List.setIfInBounds_toArray, List.set_cons_zero, List.set_cons_succ]))
        | ((with_reducible refine gate_dst (N := 104) rfl ?_); refine event_W (by rfl) ?hr ?_; (case hr => (go_simp; with_reducible rfl)); (try simp only [Act.put, List.setIfInBounds_toArray, List.set_cons_zero, List.set_cons_succ]))
        | ((with_reducible refine gate_dst (N := 105) rfl ?_); refine event_W (by rfl) ?hr ?_; (case hr => (go_simp; with_reducible rfl)); (try simp only [Act.put, List.setIfInBounds_toArray, List.set_cons_zero, List.set_cons_succ])))
      refine (HK.out _).mono ?_
      rintro e w112 ⟨rfl, hb⟩
      have K113 := Aside0.mk (blk_below K105.out hb)
      have K114 := Aside0.mk (blk_below K106.out hb)
      have K115 := Aside0.mk (blk_below K107.out hb)
      have K116 := Aside0.mk (blk_below K108.out hb)
      have K117 := Aside0.mk (blk_below K109.out hb)
      have K118 := Aside0.mk (blk_below K111.out hb)
      have B119 := Aside0.mk (below_step B110.out hb)
      clear hb
      go_wp2_with (fail)
      go_ret
      exact ⟨rfl, B119.out⟩
end Go.Proofs.Ytehoammeaimobaa.Q
namespace Go.Proofs.Ytehoammeaimobaa.Q
open Go Go.RowKit Go.Proofs.Ytehoammeaimobaa.D
/-- At, asked where number j fits: that one, or why it can not be. -/
theorem at_one (f : FootT) (hf : rightF f) (x j : Int) (hx : -9223372036854775808 ≤ x ∧ x ≤ 9223372036854775807) (h1 : (sq f j).f0 ≤ x) (h2 : x < (sq f (j + 1)).f0) : ∃ (c : S46) (e0 : Int), TranGives 14 f x c e0 ∧ ((e0 = 0 ∧ c = sq f j) ∨ e0 ≠ 0) := by
  rcases at_cases f x hx.1 hx.2 with ⟨e0, he, a, _⟩ | ⟨_, i, a, b, _, _, c, _⟩
  · exact ⟨_, _, a, .inr he⟩
  · obtain rfl := sq_one hf a b h1 h2
    exact ⟨_, _, c, .inl ⟨rfl, rfl⟩⟩
theorem goes_is (f : FootT) (at_ more : Int) (h1 : -9223372036854775808 ≤ at_) (h2 : at_ ≤ 9223372036854775807) (w : World) : Calls Try.prog 5 #[.agg (footA f), .int .i64 at_, .int .i64 more] w fun e w' => e = .returned (.bool true) ∧ Below w.heap.size w w' := by
  rcases at_cases f at_ h1 h2 with ⟨e0, he, a, _, b, _⟩ | ⟨hf, j, a, b, b1, b2, c, _, d, _⟩
  · exact goes_err f at_ more e0 w he a b known_is
  · have u := sq_up hf j
    have v := sq_up hf (j + 1)
    obtain ⟨c1, e1, hC, hE1⟩ := at_one f hf (sq f (j + 1)).f0 (j + 1) (by omega) (by omega) v.1
    have hG : wrap64 ((sq f (j + 1)).f0 - (sq f j).f0) = (sq f (j + 1)).f0 - (sq f j).f0 := w64 _ (by omega) (by omega)
    by_cases hm : more < 0
    · obtain ⟨d1, e2, hD, hE2⟩ := at_one f hf ((sq f j).f0 + ((sq f (j + 1)).f0 - (sq f j).f0 - 1)) j (by omega) (by omega) (by omega)
      exact goes_neg f at_ more _ _ _ _ _ _ e1 e2 _ _ _ _ c1 d1 w a b (by omega) (by omega) hm hG (w64 _ (by omega) (by omega)) c d hC hE1 hD hE2 known_is
    · by_cases hm2 : (sq f (j + 1)).f0 - (sq f j).f0 ≤ more
      · obtain ⟨d1, e2, hD, hE2⟩ := at_one f hf ((sq f j).f0 + ((sq f (j + 1)).f0 - (sq f j).f0 - 1)) j (by omega) (by omega) (by omega)
        exact goes_big f at_ more _ _ _ _ _ _ e1 e2 _ _ _ _ c1 d1 w a b (by omega) (by omega) hm hm2 hG (w64 _ (by omega) (by omega)) c d hC hE1 hD hE2 known_is
      · obtain ⟨d1, e2, hD, hE2⟩ := at_one f hf ((sq f j).f0 + more) j (by omega) (by omega) (by omega)
        exact goes_mid f at_ more _ _ _ _ _ _ e1 e2 _ _ _ _ c1 d1 w a b (by omega) (by omega) (by omega) (by omega) hG (w64 _ (by omega) (by omega)) c d hC hE1 hD hE2 known_is
end Go.Proofs.Ytehoammeaimobaa.Q
