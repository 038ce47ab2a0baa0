/- Hand contracts of computusref11.At and Next: the last shift that is not behind an instant, and the first one behind it. -/
import Derived.Test.YtehoammeaimobaaHNear
set_option linter.unusedVariables false
namespace Go.Proofs.Ytehoammeaimobaa.D
open Go Go.RowKit Go.Proofs.YtehoammeaimobaaW.PrintWords Go.Proofs.YtehoammeaimobaaW.PrintLast Go.Proofs.YtehoammeaimobaaW.PrintMore

/-- Function fn gives no list, and an error. -/
def ListFails (fn : FuncId) (f : FootT) (y e0 : Int) : Prop := ∀ w : World, Calls Try.prog fn #[.agg (footA f), .int .i64 y] w fun e w' => e = .returned (.tuple #[.slice none 0 0, .int .i64 e0]) ∧ Below w.heap.size w w'
theorem fail_calls {fn : FuncId} {f : FootT} {y e0 : Int} (h : ListFails fn f y e0) (w : World) : Calls Try.prog fn #[.agg (footA f), .int .i64 y] w fun e w' => e = .returned (.tuple #[.slice none 0 0, .int .i64 e0]) ∧ Below w.heap.size w w' := h w
set_option maxHeartbeats 4000000 in
set_option maxRecDepth 100000 in
theorem refAt_err (f : FootT) (at_ e0 : Int) (w : World) (hn : ListFails 26 f at_ e0) :
    Calls Try.prog 15 #[.agg (footA f), .int .i64 at_] w fun e w' => e = .returned (.tuple #[tranV z46, .int .i64 e0]) ∧ Below w.heap.size w w' := by
  have HN := Aside0.mk hn
  clear hn
  go_enter Try.func15, Try.ntmps15
  go_wp2_with (first
    | ((with_reducible refine gate_dst (N := 2) rfl ?_); refine box_agg rfl 29 _ rfl (footA f) rfl ?_; intro g hg w1 hbox hb1; have HK := Aside0.mk hbox; have HB1 := Aside0.mk hb1; clear hbox hb1; subst hg)
    | ((with_reducible refine gate_dst (N := 4) rfl ?_); refine alloc_agg rfl 46 rfl (tranA z46) zero46 ?_; intro g4 hg w2 hbox hb2; have HR := Aside0.mk hbox; have HK2 := Aside0.mk (blk_below HK.out hb2); have HB2 := Aside0.mk (below_step HB1.out hb2); have HG := Aside0.mk (show w.heap.size < g4 from by rw [hg]; exact (Array.getElem?_eq_some_iff.1 HK.out).1); clear hbox hb2 hg)
    | ((with_reducible refine gate_dst (N := 10) rfl ?_); refine load_opq rfl 29 _ rfl rfl HK2 Try.underlying29 rfl (size29 f) ?_)
    | ((with_reducible refine (fail_calls HN.out _).mono ?_); rintro e w3 ⟨rfl, hb⟩; have HB3 := Aside0.mk (below_step HB2.out hb); have HR3 := Aside0.mk (blk_below HR.out hb); clear hb))
  go_loopg [8] 0 (fun gk v8 w' => v8 = .int .i64 (-1) ∧ Aside0 (w'.heap[g4]? = some (.cells (tranA z46) 46 (0, 0))) ∧ Aside0 (Below w.heap.size w w'))
  case atStart => exact ⟨rfl, HR3, HB3⟩
  case round =>
    obtain ⟨rfl, HR4, HB4⟩ := hrel
    go_wp2_with (first
      | ((with_reducible refine gate_dst (N := 33) rfl ?_); refine Kd.event_run rfl (exec_build (parts := #[]) rfl #[] rfl build46z _) ?_)
      | ((with_reducible refine gate_store (t := 46) (p := 4) rfl ?_); refine store_agg rfl 46 (.tmp 4) (.tmp 33) rfl (D := tranA z46) rfl rfl HR4 rfl (size46 _) (one_tran _) ?_; intro w6 hput; have HP := Aside0.mk hput; clear hput))
    refine bodyPost_ret (results_ct rfl _ _ g4 46 (tranA z46) (0, 0) _ rfl HP.out.box Try.underlying46 rfl (size46 _)) rfl ⟨rfl, ?_⟩
    exact HP.out.below _ _ (Nat.le_of_lt HG.out) HB4.out
set_option maxHeartbeats 4000000 in
set_option maxRecDepth 100000 in
theorem refAt_ok (f : FootT) (at_ : Int) (l : List S46) (i : Int) (w : World) (hn : ListGives 26 f at_ l) (hl : l.length ≤ 100) (h0 : 0 ≤ i) (h1 : i < l.length) (hle : (rd_T46 l i).f0 ≤ at_) (hgt : ∀ j : Int, i < j → j < l.length → at_ < (rd_T46 l j).f0) :
    Calls Try.prog 15 #[.agg (footA f), .int .i64 at_] w fun e w' => e = .returned (.tuple #[tranV (rd_T46 l i), .int .i64 0]) ∧ Below w.heap.size w w' := by
  have HN := Aside0.mk hn
  have HGT := Aside0.mk hgt
  have HLE := Aside0.mk hle
  clear hn hgt hle
  go_enter Try.func15, Try.ntmps15
  go_wp2_with (first
    | ((with_reducible refine gate_dst (N := 2) rfl ?_); refine box_agg rfl 29 _ rfl (footA f) rfl ?_; intro g hg w1 hbox hb1; have HK := Aside0.mk hbox; have HB1 := Aside0.mk hb1; clear hbox hb1; subst hg)
    | ((with_reducible refine gate_dst (N := 4) rfl ?_); refine alloc_agg rfl 46 rfl (tranA z46) zero46 ?_; intro g4 hg w2 hbox hb2; have HR := Aside0.mk hbox; have HK2 := Aside0.mk (blk_below HK.out hb2); have HB2 := Aside0.mk (below_step HB1.out hb2); have HG := Aside0.mk (show w.heap.size < g4 from by rw [hg]; exact (Array.getElem?_eq_some_iff.1 HK.out).1); clear hbox hb2 hg)
    | ((with_reducible refine gate_dst (N := 10) rfl ?_); refine load_opq rfl 29 _ rfl rfl HK2 Try.underlying29 rfl (size29 f) ?_)
    | ((with_reducible refine (list_calls HN.out _).mono ?_); rintro e w3 ⟨v0, rfl, ho, hb⟩; have HO := Aside0.mk (Kd.R_lower ho (below_size HB2.out)); have HB3 := Aside0.mk (below_step HB2.out hb); have HR3 := Aside0.mk (blk_below HR.out hb); clear hb ho; obtain ⟨A0, c0, e0⟩ := Kd.R_slice HO.out; subst e0))
  go_loopg [8] 100 (fun gk v8 w' => ∃ x : Int, v8 = .int .i64 x ∧ Aside0 (i ≤ x ∧ x < l.length ∧ x ≤ gk) ∧ Aside0 (Kd.R k46 46 w' w.heap.size (fun _ => True) (.slice A0 l.length c0) l) ∧ Aside0 (w'.heap[g4]? = some (.cells (tranA z46) 46 (0, 0))) ∧ Aside0 (Below w.heap.size w w'))
  case atStart => exact ⟨(l.length : Int) - 1, by first | rfl | (simp; done) | (simp [*]; done), ⟨by omega⟩, HO, HR3, HB3⟩
  case round =>
    obtain ⟨x, rfl, HX, HO4, HR4, HB4⟩ := hrel
    clear HO HR3 HB3 HR HB1 HB2 HK HK2
    have p1 : 0 ≤ x := by have := HX.out; omega
    have p2 : x < (l.length : Int) := HX.out.2.1
    have t0 : decide (x ≥ 0) = true := decide_eq_true p1
    obtain ⟨ad, ead, hx0, hx1, hx2, hx3⟩ := at_T46 (Kd.R_reads' HO4.out).2.2 x p1 p2
    cases ead
    by_cases hc : x = i
    · have t1 : decide ((rd_T46 l x).f0 ≤ at_) = true := decide_eq_true (by rw [hc]; exact HLE.out)
      have HC := Aside0.mk hc
      clear hc
      go_wp2_with (first
        | ((with_reducible refine gate_store (t := 46) (p := 4) rfl ?_); refine store_agg rfl 46 (.tmp 4) (.tmp 32) rfl (D := tranA (rd_T46 l x)) rfl rfl HR4 rfl (size46 _) (one_tran _) ?_; intro w6 hput; have HP := Aside0.mk hput; clear hput))
      refine bodyPost_ret (results_ct rfl _ _ g4 46 (tranA (rd_T46 l x)) (0, 0) _ rfl HP.out.box Try.underlying46 rfl (size46 _)) rfl ⟨by rw [← HC.out]; rfl, ?_⟩
      exact HP.out.below _ _ (Nat.le_of_lt HG.out) HB4.out
    · have hlt : i < x := by have := HX.out; omega
      have t1 : decide ((rd_T46 l x).f0 ≤ at_) = false := decide_eq_false (by have := HGT.out x hlt p2; omega)
      clear hc
      cases gk with
      | zero => exfalso; have := HX.out; omega
      | succ k2 =>
        go_wp2
        go_roundg k2
        case measure => omega
        case rel => exact ⟨x - 1, by first | rfl | (simp; done) | (simp [*]; done), ⟨by have := HX.out; omega⟩, HO4, HR4, HB4⟩
set_option maxHeartbeats 4000000 in
set_option maxRecDepth 100000 in
theorem refNext_err (f : FootT) (at_ e0 : Int) (w : World) (hn : ListFails 26 f at_ e0) :
    Calls Try.prog 17 #[.agg (footA f), .int .i64 at_] w fun e w' => e = .returned (.tuple #[tranV z46, .int .i64 e0]) ∧ Below w.heap.size w w' := by
  have HN := Aside0.mk hn
  clear hn
  go_enter Try.func17, Try.ntmps17
  go_wp2_with (first
    | ((with_reducible refine gate_dst (N := 2) rfl ?_); refine box_agg rfl 29 _ rfl (footA f) rfl ?_; intro g hg w1 hbox hb1; have HK := Aside0.mk hbox; have HB1 := Aside0.mk hb1; clear hbox hb1; subst hg)
    | ((with_reducible refine gate_dst (N := 4) rfl ?_); refine alloc_agg rfl 46 rfl (tranA z46) zero46 ?_; intro g4 hg w2 hbox hb2; have HR := Aside0.mk hbox; have HK2 := Aside0.mk (blk_below HK.out hb2); have HB2 := Aside0.mk (below_step HB1.out hb2); have HG := Aside0.mk (show w.heap.size < g4 from by rw [hg]; exact (Array.getElem?_eq_some_iff.1 HK.out).1); clear hbox hb2 hg)
    | ((with_reducible refine gate_dst (N := 10) rfl ?_); refine load_opq rfl 29 _ rfl rfl HK2 Try.underlying29 rfl (size29 f) ?_)
    | ((with_reducible refine (fail_calls HN.out _).mono ?_); rintro e w3 ⟨rfl, hb⟩; have HB3 := Aside0.mk (below_step HB2.out hb); have HR3 := Aside0.mk (blk_below HR.out hb); clear hb))
  go_loopg [8] 0 (fun gk v8 w' => v8 = .int .i64 0 ∧ Aside0 (w'.heap[g4]? = some (.cells (tranA z46) 46 (0, 0))) ∧ Aside0 (Below w.heap.size w w'))
  case atStart => exact ⟨rfl, HR3, HB3⟩
  case round =>
    obtain ⟨rfl, HR4, HB4⟩ := hrel
    go_wp2_with (first
      | ((with_reducible refine gate_dst (N := 32) rfl ?_); refine Kd.event_run rfl (exec_build (parts := #[]) rfl #[] rfl build46z _) ?_)
      | ((with_reducible refine gate_store (t := 46) (p := 4) rfl ?_); refine store_agg rfl 46 (.tmp 4) (.tmp 32) rfl (D := tranA z46) rfl rfl HR4 rfl (size46 _) (one_tran _) ?_; intro w6 hput; have HP := Aside0.mk hput; clear hput))
    refine bodyPost_ret (results_ct rfl _ _ g4 46 (tranA z46) (0, 0) _ rfl HP.out.box Try.underlying46 rfl (size46 _)) rfl ⟨rfl, ?_⟩
    exact HP.out.below _ _ (Nat.le_of_lt HG.out) HB4.out
set_option maxHeartbeats 4000000 in
set_option maxRecDepth 100000 in
theorem refNext_ok (f : FootT) (at_ : Int) (l : List S46) (i : Int) (w : World) (hn : ListGives 26 f at_ l) (hl : l.length ≤ 100) (h0 : 0 ≤ i) (h1 : i < l.length) (hle : at_ < (rd_T46 l i).f0) (hgt : ∀ j : Int, 0 ≤ j → j < i → (rd_T46 l j).f0 ≤ at_) :
    Calls Try.prog 17 #[.agg (footA f), .int .i64 at_] w fun e w' => e = .returned (.tuple #[tranV (rd_T46 l i), .int .i64 0]) ∧ Below w.heap.size w w' := by
  have HN := Aside0.mk hn
  have HGT := Aside0.mk hgt
  have HLE := Aside0.mk hle
  clear hn hgt hle
  go_enter Try.func17, Try.ntmps17
  go_wp2_with (first
    | ((with_reducible refine gate_dst (N := 2) rfl ?_); refine box_agg rfl 29 _ rfl (footA f) rfl ?_; intro g hg w1 hbox hb1; have HK := Aside0.mk hbox; have HB1 := Aside0.mk hb1; clear hbox hb1; subst hg)
    | ((with_reducible refine gate_dst (N := 4) rfl ?_); refine alloc_agg rfl 46 rfl (tranA z46) zero46 ?_; intro g4 hg w2 hbox hb2; have HR := Aside0.mk hbox; have HK2 := Aside0.mk (blk_below HK.out hb2); have HB2 := Aside0.mk (below_step HB1.out hb2); have HG := Aside0.mk (show w.heap.size < g4 from by rw [hg]; exact (Array.getElem?_eq_some_iff.1 HK.out).1); clear hbox hb2 hg)
    | ((with_reducible refine gate_dst (N := 10) rfl ?_); refine load_opq rfl 29 _ rfl rfl HK2 Try.underlying29 rfl (size29 f) ?_)
    | ((with_reducible refine (list_calls HN.out _).mono ?_); rintro e w3 ⟨v0, rfl, ho, hb⟩; have HO := Aside0.mk (Kd.R_lower ho (below_size HB2.out)); have HB3 := Aside0.mk (below_step HB2.out hb); have HR3 := Aside0.mk (blk_below HR.out hb); clear hb ho; obtain ⟨A0, c0, e0⟩ := Kd.R_slice HO.out; subst e0))
  go_loopg [8] 100 (fun gk v8 w' => ∃ x : Int, v8 = .int .i64 x ∧ Aside0 (0 ≤ x ∧ x ≤ i ∧ i - x ≤ gk) ∧ Aside0 (Kd.R k46 46 w' w.heap.size (fun _ => True) (.slice A0 l.length c0) l) ∧ Aside0 (w'.heap[g4]? = some (.cells (tranA z46) 46 (0, 0))) ∧ Aside0 (Below w.heap.size w w'))
  case atStart => exact ⟨0, rfl, ⟨by omega⟩, HO, HR3, HB3⟩
  case round =>
    obtain ⟨x, rfl, HX, HO4, HR4, HB4⟩ := hrel
    clear HO HR3 HB3 HR HB1 HB2 HK HK2
    have p1 : 0 ≤ x := by have := HX.out; omega
    have p2 : x < (l.length : Int) := by have := HX.out; omega
    have t0 : decide (x < (l.length : Int)) = true := decide_eq_true p2
    obtain ⟨ad, ead, hx0, hx1, hx2, hx3⟩ := at_T46 (Kd.R_reads' HO4.out).2.2 x p1 p2
    cases ead
    by_cases hc : x = i
    · have t1 : decide ((rd_T46 l x).f0 > at_) = true := decide_eq_true (by rw [hc]; exact HLE.out)
      have HC := Aside0.mk hc
      clear hc
      go_wp2_with (first
        | ((with_reducible refine gate_store (t := 46) (p := 4) rfl ?_); refine store_agg rfl 46 (.tmp 4) (.tmp 31) rfl (D := tranA (rd_T46 l x)) rfl rfl HR4 rfl (size46 _) (one_tran _) ?_; intro w6 hput; have HP := Aside0.mk hput; clear hput))
      refine bodyPost_ret (results_ct rfl _ _ g4 46 (tranA (rd_T46 l x)) (0, 0) _ rfl HP.out.box Try.underlying46 rfl (size46 _)) rfl ⟨by rw [← HC.out]; rfl, ?_⟩
      exact HP.out.below _ _ (Nat.le_of_lt HG.out) HB4.out
    · have hlt : x < i := by have := HX.out; omega
      have t1 : decide ((rd_T46 l x).f0 > at_) = false := decide_eq_false (by have := HGT.out x p1 hlt; omega)
      clear hc
      cases gk with
      | zero => exfalso; have := HX.out; omega
      | succ k2 =>
        go_wp2
        go_roundg k2
        case measure => omega
        case rel => exact ⟨x + 1, by first | rfl | (simp; done) | (simp [*]; done), ⟨by have := HX.out; omega⟩, HO4, HR4, HB4⟩
end Go.Proofs.Ytehoammeaimobaa.D
