/- Hand contract of computusref11.near: the shifts of the five years about an instant. -/
import Derived.Test.YtehoammeaimobaaHRefYear
import Derived.Test.YtehoammeaimobaaDx13
set_option linter.unusedVariables false
namespace Go.Proofs.Ytehoammeaimobaa.D
open Go Go.RowKit Go.Proofs.YtehoammeaimobaaW.PrintWords Go.Proofs.YtehoammeaimobaaW.PrintLast Go.Proofs.YtehoammeaimobaaW.PrintMore

/-- Function fn, a list of transitions and an error of a foot and a number, gives l. -/
def ListGives (fn : FuncId) (f : FootT) (y : Int) (l : List S46) : Prop := ∀ w : World, Calls Try.prog fn #[.agg (footA f), .int .i64 y] w fun e w' => ∃ v0_ : Value, e = .returned (.tuple #[v0_, .int .i64 0]) ∧ Kd.R k46 46 w' w.heap.size (fun _ => True) v0_ l ∧ Below w.heap.size w w'
theorem list_calls {fn : FuncId} {f : FootT} {y : Int} {l : List S46} (h : ListGives fn f y l) (w : World) : Calls Try.prog fn #[.agg (footA f), .int .i64 y] w fun e w' => ∃ v0_ : Value, e = .returned (.tuple #[v0_, .int .i64 0]) ∧ Kd.R k46 46 w' w.heap.size (fun _ => True) v0_ l ∧ Below w.heap.size w w' := h w
theorem info46' : (Try.prog.info? 46).map (fun i => (i.zero, i.size, i.bytes)) = some (some (.agg #[(.int .i64 0), (.int .i64 0), (.bool false), (.string ⟨#[]⟩)]), 4, 40) := by kernel_rfl
def upTo (g : Nat → List S46) (j : Nat) : List S46 := ((List.range j).map g).flatten
theorem upTo_succ (g : Nat → List S46) (j : Nat) : upTo g (j + 1) = upTo g j ++ g j := by simp [upTo, List.range_succ]
theorem upTo_len (g : Nat → List S46) (hl : ∀ j, (g j).length = 2) (j : Nat) : (upTo g j).length = 2 * j := by
  induction j with
  | zero => rfl
  | succ j ih => rw [upTo_succ, List.length_append, ih, hl]; omega
set_option maxHeartbeats 4000000 in
set_option maxRecDepth 100000 in
theorem near_arg (k : Nat) (f : FootT) (at_ : Int) (w : World) (hc : rightO k f = some false) :
    Calls Try.prog 26 #[.agg (footA f), .int .i64 at_] w fun e w' => e = .returned (.tuple #[.slice none 0 0, .int .i64 1]) ∧ Below w.heap.size w w' := by
  have HC := Aside0.mk hc
  clear hc
  go_enter Try.func26, Try.ntmps26
  go_wp2_with (first
    | ((with_reducible refine gate_dst (N := 2) rfl ?_); refine box_agg rfl 29 _ rfl (footA f) rfl ?_; intro g hg w1 hbox hb1; have HK := Aside0.mk hbox; have HB1 := Aside0.mk hb1; clear hbox hb1; subst hg)
    | ((with_reducible refine gate_dst (N := 11) rfl ?_); refine load_opq rfl 29 _ rfl rfl HK Try.underlying29 rfl (size29 f) ?_)
    | ((with_reducible refine (right_calls k f _ _ HC.out).mono ?_); rintro e w2 ⟨rfl, hb2⟩; have HB2 := Aside0.mk (below_step HB1.out hb2); clear hb2))
  go_ret2
  exact ⟨rfl, HB2.out⟩
set_option maxHeartbeats 4000000 in
set_option maxRecDepth 100000 in
theorem near_range (k : Nat) (f : FootT) (at_ y : Int) (w : World) (hc : rightO k f = some true) (hy : computusref09_YearAt.f k at_ = some y) (h : y < -4714 ∨ 294278 < y) :
    Calls Try.prog 26 #[.agg (footA f), .int .i64 at_] w fun e w' => e = .returned (.tuple #[.slice none 0 0, .int .i64 10]) ∧ Below w.heap.size w w' := by
  have HC := Aside0.mk hc
  have HY := Aside0.mk hy
  clear hc hy
  by_cases h1 : y < -4714
  · have h1b : decide (y < -4714) = true := decide_eq_true h1
    clear h
    go_enter Try.func26, Try.ntmps26
    go_wp2_with (first
      | ((with_reducible refine gate_dst (N := 2) rfl ?_); refine box_agg rfl 29 _ rfl (footA f) rfl ?_; intro g hg w1 hbox hb1; have HK := Aside0.mk hbox; have HB1 := Aside0.mk hb1; clear hbox hb1; subst hg)
      | ((with_reducible refine gate_dst (N := 11) rfl ?_); refine load_opq rfl 29 _ rfl rfl HK Try.underlying29 rfl (size29 f) ?_)
      | ((with_reducible refine (right_calls k f _ _ HC.out).mono ?_); rintro e w2 ⟨rfl, hb2⟩; have HB2 := Aside0.mk (below_step HB1.out hb2); have HK2 := Aside0.mk (blk_below HK.out hb2); clear hb2)
      | ((with_reducible refine (computusref09_YearAt.calls k at_ y _ HY.out).mono ?_); rintro e w3 ⟨rfl, hb3⟩; have HB3 := Aside0.mk (below_step HB2.out hb3.below); clear hb3))
    go_ret2
    exact ⟨rfl, HB3.out⟩
  · have h2 : 294278 < y := by omega
    have h1b : decide (y < -4714) = false := decide_eq_false h1
    have h2b : decide (y > 294278) = true := decide_eq_true h2
    clear h
    go_enter Try.func26, Try.ntmps26
    go_wp2_with (first
      | ((with_reducible refine gate_dst (N := 2) rfl ?_); refine box_agg rfl 29 _ rfl (footA f) rfl ?_; intro g hg w1 hbox hb1; have HK := Aside0.mk hbox; have HB1 := Aside0.mk hb1; clear hbox hb1; subst hg)
      | ((with_reducible refine gate_dst (N := 11) rfl ?_); refine load_opq rfl 29 _ rfl rfl HK Try.underlying29 rfl (size29 f) ?_)
      | ((with_reducible refine (right_calls k f _ _ HC.out).mono ?_); rintro e w2 ⟨rfl, hb2⟩; have HB2 := Aside0.mk (below_step HB1.out hb2); have HK2 := Aside0.mk (blk_below HK.out hb2); clear hb2)
      | ((with_reducible refine (computusref09_YearAt.calls k at_ y _ HY.out).mono ?_); rintro e w3 ⟨rfl, hb3⟩; have HB3 := Aside0.mk (below_step HB2.out hb3.below); clear hb3))
    go_ret2
    exact ⟨rfl, HB3.out⟩
set_option maxHeartbeats 4000000 in
set_option maxRecDepth 100000 in
theorem near_ok (k : Nat) (f : FootT) (at_ y : Int) (g : Nat → List S46) (hl : ∀ j, (g j).length = 2) (hc : rightO k f = some true) (hy : computusref09_YearAt.f k at_ = some y) (h1 : -4714 ≤ y) (h2 : y ≤ 294278) (hg : ∀ j : Nat, j < 5 → ListGives 11 f (y - 2 + j) (g j)) : ListGives 26 f at_ (upTo g 5) := by
  intro w
  have HC := Aside0.mk hc
  have HY := Aside0.mk hy
  have HL := Aside0.mk hl
  have HG := Aside0.mk hg
  have h1b : decide (y < -4714) = false := decide_eq_false (by omega)
  have h2b : decide (y > 294278) = false := decide_eq_false (by omega)
  clear hc hy hl hg
  go_enter Try.func26, Try.ntmps26
  go_wp2_with (first
      | ((with_reducible refine gate_dst (N := 2) rfl ?_); refine box_agg rfl 29 _ rfl (footA f) rfl ?_; intro g hg w1 hbox hb1; have HK := Aside0.mk hbox; have HB1 := Aside0.mk hb1; clear hbox hb1; subst hg)
      | ((with_reducible refine gate_dst (N := 11) rfl ?_); refine load_opq rfl 29 _ rfl rfl HK Try.underlying29 rfl (size29 f) ?_)
      | ((with_reducible refine (right_calls k f _ _ HC.out).mono ?_); rintro e w2 ⟨rfl, hb2⟩; have HB2 := Aside0.mk (below_step HB1.out hb2); have HK2 := Aside0.mk (blk_below HK.out hb2); clear hb2)
      | ((with_reducible refine (computusref09_YearAt.calls k at_ y _ HY.out).mono ?_); rintro e w3 ⟨rfl, hb3⟩; have HB3 := Aside0.mk (below_step HB2.out hb3.below); have HK3 := Aside0.mk (blk_below HK2.out hb3.below); clear hb3))
  go_loopg [7, 8] 5 (fun gk v7 v8 w' => ∃ (j : Nat) (x : Int), v8 = .int .i64 x ∧ Aside0 (x = y - 2 + j) ∧ Aside0 (j + gk = 5) ∧ Aside0 (Kd.R k46 46 w' w.heap.size (fun _ => True) v7 (upTo g j)) ∧ Aside0 (w'.heap[w.heap.size]? = some (.cells (footA f) 29 (0, 0))) ∧ Aside0 (Below w.heap.size w w'))
  case atStart => exact ⟨0, y - 2, rfl, ⟨by simp⟩, ⟨rfl⟩, ⟨Kd.R_nil _ _ _ _ _⟩, HK3, HB3⟩
  case round =>
    obtain ⟨j, x, rfl, HX, HJ, HO, HK4, HB4⟩ := hrel
    have x1 : -4716 ≤ x := by have := HX.out; omega
    have x2 : x ≤ 294281 := by have := HX.out; have := HJ.out; omega
    clear HK HK2 HK3 HB1 HB2 HB3 h1b h2b
    cases gk with
    | zero =>
      have hj : j = 5 := by have := HJ.out; omega
      have t1 : decide (x ≤ y + 2) = false := decide_eq_false (by have := HX.out; omega)
      subst hj
      go_wp2
      go_ret2
      exact ⟨_, rfl, HO.out, HB4.out⟩
    | succ k2 =>
      have t1 : decide (x ≤ y + 2) = true := decide_eq_true (by have := HX.out; have := HJ.out; omega)
      have HS := Aside0.mk (show upTo g (j + 1) = upTo g j ++ g j from upTo_succ g j)
      have HLL := Aside0.mk (show (upTo g j).length + (g j).length ≤ 12 from by rw [upTo_len g HL.out, HL.out]; have := HJ.out; omega)
      have HGj := Aside0.mk (show ListGives 11 f x (g j) from by rw [HX.out]; exact HG.out j (by have := HJ.out; omega))
      have HR4 := Aside0.mk (Kd.R_lt HO.out)
      go_wp2_with (first
        | ((with_reducible refine gate_dst (N := 31) rfl ?_); refine load_opq rfl 29 _ rfl rfl HK4 Try.underlying29 rfl (size29 f) ?_)
        | ((with_reducible refine (list_calls HGj.out _).mono ?_); rintro e w5 ⟨v0, rfl, ho0, hb⟩; have HO5 := Aside0.mk (Kd.R_elder' HO.out (Kd.R_base ho0) hb); have HN := Aside0.mk (Kd.R_lower (Kd.R_new' ho0 (Kd.R_lt HO.out)) (below_size HB4.out)); have HK5 := Aside0.mk (blk_below HK4.out hb); have HB5 := Aside0.mk (below_step HB4.out hb); obtain ⟨A0, c0, e0⟩ := Kd.R_slice ho0; clear ho0 hb; subst e0)
        | (at_builtin; refine Kd.R_append_rows k46 (w0 := w) w.heap.size rfl (.tmp 36) (.tmp 37) 30 46 (.agg #[(.int .i64 0), (.int .i64 0), (.bool false), (.string ⟨#[]⟩)]) 40 rfl Try.underlying30 info46' rfl (by decide) (by omega) u7 (upTo g j) (g j) _ _ _ (fun k_ => some k_ ≠ (.slice A0 (g j).length c0 : Value).ownBlock) (fun _ => False) rfl rfl (Kd.R_mono HO5.out (fun _ hk => hk.2)) (Kd.R_reads' HN.out).2.2 (fun _ _ h => h) (fun _ h => h.elim) (fun k_ hk => Kd.fresh' (Kd.R_lt HN.out) k_ hk) HB5.out (below_size HB5.out) (by have := HLL.out; omega) ?_; intro v1 w6 ho hb hg hat; have HO6 := Aside0.mk ho; have HB6 := Aside0.mk hb; have HK6 := Aside0.mk (blk_grown HK5.out hg (Kd.R_ne HO5.out HK5.out (by decide))); clear ho hb hg hat))
      go_roundg k2
      case measure => omega
      case rel => exact ⟨j + 1, x + 1, rfl, ⟨by have := HX.out; omega⟩, ⟨by have := HJ.out; omega⟩, ⟨by rw [HS.out]; exact Kd.R_mono HO6.out (fun _ _ => trivial)⟩, HK6, HB6⟩
end Go.Proofs.Ytehoammeaimobaa.D
