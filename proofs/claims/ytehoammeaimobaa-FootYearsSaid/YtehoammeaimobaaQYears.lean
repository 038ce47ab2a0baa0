/- computuslaw11.FootYears: its walk, and that it answers true. -/
import Derived.Test.YtehoammeaimobaaQKnown
set_option linter.unusedVariables false
set_option linter.unusedSimpArgs false
namespace Go.Proofs.Ytehoammeaimobaa.Q
open Go Go.RowKit Go.Proofs.Ytehoammeaimobaa.D Go.Proofs.YtehoammeaimobaaW.PrintWords Go.Proofs.YtehoammeaimobaaW.PrintLast Go.Proofs.YtehoammeaimobaaW.PrintMore

/-- Function fn answers the list l and the error e0. -/
def SliceGives (fn : FuncId) (f : FootT) (y : Int) (l : List S46) (e0 : Int) : Prop := ∀ w : World, Calls Try.prog fn #[.agg (footA f), .int .i64 y] w fun e w' => ∃ (A : Option Addr) (c : Nat), e = .returned (.tuple #[.slice A l.length c, .int .i64 e0]) ∧ Kd.R k46 46 w' w.heap.size (fun _ => True) (.slice A l.length c) l ∧ Below w.heap.size w w'
theorem slice_calls {fn : FuncId} {f : FootT} {y : Int} {l : List S46} {e0 : Int} (h : SliceGives fn f y l e0) (w : World) : Calls Try.prog fn #[.agg (footA f), .int .i64 y] w fun e w' => ∃ (A : Option Addr) (c : Nat), e = .returned (.tuple #[.slice A l.length c, .int .i64 e0]) ∧ Kd.R k46 46 w' w.heap.size (fun _ => True) (.slice A l.length c) l ∧ Below w.heap.size w w' := h w
theorem slice_of {fn : FuncId} {f : FootT} {y : Int} {l : List S46} (h : ListGives fn f y l) : SliceGives fn f y l 0 := fun w => (h w).mono fun e w' ⟨v, he, hr, hb⟩ => by
  obtain ⟨A, c, e1⟩ := Kd.R_slice hr
  subst e1
  exact ⟨A, c, he, hr, hb⟩
theorem slice_no {fn : FuncId} {f : FootT} {y e0 : Int} (h : ListFails fn f y e0) : SliceGives fn f y [] e0 := fun w => (h w).mono fun e w' ⟨he, hb⟩ => ⟨none, 0, he, Kd.R_nil _ _ _ _ _, hb⟩
theorem same_loop (l : List S46) (hl : l.length ≤ 1000) : ∀ (d k : Nat) (i : Int), 0 ≤ i → i + d = l.length → d < k → computusref11_Same.l0 k l l i = some true := by
  intro d
  induction d with
  | zero =>
    intro k i h0 h1 hk
    obtain ⟨k, rfl⟩ : ∃ q, k = q + 1 := ⟨k - 1, by omega⟩
    rw [computusref11_Same.l0, if_neg (by omega)]
  | succ d ih =>
    intro k i h0 h1 hk
    obtain ⟨k, rfl⟩ : ∃ q, k = q + 1 := ⟨k - 1, by omega⟩
    rw [computusref11_Same.l0, if_pos (by omega), if_pos h0, if_pos (by omega), if_neg (by simp), w64 _ (by omega) (by omega)]
    exact ih k (i + 1) (by omega) (by omega) (by omega)
theorem same_self (l : List S46) (hl : l.length ≤ 1000) : computusref11_Same.f 2000 l l = some true := by
  unfold computusref11_Same.f
  rw [if_pos rfl]
  exact same_loop l hl l.length 2000 0 (by omega) (by omega) (by omega)
set_option maxHeartbeats 4000000 in
set_option maxRecDepth 100000 in
theorem years_walk (f : FootT) (y : Int) (l : List S46) (e0 : Int) (w : World) (hA : SliceGives 9 f y l e0) (hB : SliceGives 11 f y l e0) (hl : l.length ≤ 1000) (hK : ∀ w : World, Calls Try.prog 13 #[] w fun e w' => e = .returned (.bool true) ∧ Below w.heap.size w w') :
    Calls Try.prog 3 #[.agg (footA f), .int .i64 y] w fun e w' => e = .returned (.bool true) ∧ Below w.heap.size w w' := by
  have HA := Aside0.mk hA
  have HB := Aside0.mk hB
  have HS := Aside0.mk (same_self l hl)
  have HK := Aside0.mk hK
  clear hA hB hK hl
  go_enter Try.func3, Try.ntmps3
  go_wp2_with (first
    | ((with_reducible refine gate_dst (N := 2) rfl ?_); refine box_agg rfl 29 _ rfl (footA f) rfl ?_; intro g_f hg4 w1 hx3 hb2; have G_f := Aside0.mk (show w.heap.size ≤ g_f from by rw [hg4]; exact Nat.le_refl _); have B5 := Aside0.mk (hb2); have K6 := Aside0.mk hx3; clear hb2 hx3 hg4; (try simp only [Act.put, List.setIfInBounds_toArray, List.set_cons_zero, List.set_cons_succ]))
    | ((with_reducible refine gate_dst (N := 10) rfl ?_); refine load_opq rfl 29 _ rfl rfl K6 Try.underlying29 rfl (size29 f) ?_; (try simp only [Act.put, List.setIfInBounds_toArray, List.set_cons_zero, List.set_cons_succ])))
  refine (given_calls f _).mono ?_
  rintro e w7 ⟨rfl, hb⟩
  have K8 := Aside0.mk (blk_below K6.out hb)
  have B9 := Aside0.mk (below_step B5.out hb)
  clear hb
  go_wp2_with (fail)
  refine (slice_calls HA.out _).mono ?_
  rintro e w10 ⟨A0, c0, rfl, hr, hb⟩
  have K11 := Aside0.mk (blk_below K8.out hb)
  have B12 := Aside0.mk (below_step B9.out hb)
  clear hb
  have R0 := Aside0.mk hr
  clear hr
  go_wp2_with (first
    | ((with_reducible refine gate_dst (N := 17) rfl ?_); refine load_opq rfl 29 _ rfl rfl K11 Try.underlying29 rfl (size29 f) ?_; (try simp only [Act.put, List.setIfInBounds_toArray, List.set_cons_zero, List.set_cons_succ])))
  refine (slice_calls HB.out _).mono ?_
  rintro e w13 ⟨A1, c1, rfl, hr, hb⟩
  have R1 := Aside0.mk (Kd.R_below R0.out hb)
  have K14 := Aside0.mk (blk_below K11.out hb)
  have B15 := Aside0.mk (below_step B12.out hb)
  clear hb
  have R2 := Aside0.mk hr
  clear hr R0
  go_wp2_with (fail)
  refine (computusref11_Same.calls 2000 A0 c0 l A1 c1 l true _ (Kd.R_reads' R1.out).2.2 (Kd.R_reads' R1.out).2.1 (Kd.R_reads' R2.out).2.2 (Kd.R_reads' R2.out).2.1 HS.out).mono ?_
  rintro e w16 ⟨rfl, hd⟩
  have hb := hd.below
  clear hd
  have K17 := Aside0.mk (blk_below K14.out hb)
  have B18 := Aside0.mk (below_step B15.out hb)
  clear hb
  go_wp2_with (fail)
  refine (HK.out _).mono ?_
  rintro e w19 ⟨rfl, hb⟩
  have K20 := Aside0.mk (blk_below K17.out hb)
  have B21 := Aside0.mk (below_step B18.out hb)
  clear hb
  go_wp2_with (fail)
  go_ret
  exact ⟨rfl, B21.out⟩
theorem years_is (f : FootT) (y : Int) (w : World) : Calls Try.prog 3 #[.agg (footA f), .int .i64 y] w fun e w' => e = .returned (.bool true) ∧ Below w.heap.size w w' := by
  rcases year_cases f y with ⟨e0, _, a, b, _⟩ | ⟨_, _, a, b⟩
  · exact years_walk f y [] e0 w (slice_no a) (slice_no b) (by decide) known_is
  · exact years_walk f y _ 0 w (slice_of a) (slice_of b) (by simp) known_is
end Go.Proofs.Ytehoammeaimobaa.Q
