/- Hand contracts of foot.asked (why an instant can not be) and foot.about (the iterator's value). -/
import Derived.Test.YtehoammeaimobaaHYear
import Derived.Test.YtehoammeaimobaaHBox
import Derived.Test.YtehoammeaimobaaDx12
set_option linter.unusedVariables false
namespace Go.Proofs.Ytehoammeaimobaa.D
open Go Go.RowKit Go.Proofs.YtehoammeaimobaaW.PrintWords Go.Proofs.YtehoammeaimobaaW.PrintLast Go.Proofs.YtehoammeaimobaaW.PrintMore

/-- Function 24 answers e0. -/
def Asks (f : FootT) (at_ e0 : Int) : Prop := ∀ w : World, Calls Try.prog 24 #[.agg (footA f), .int .i64 at_] w fun e w' => e = .returned (.int .i64 e0) ∧ Below w.heap.size w w'
theorem asks_calls {f : FootT} {at_ e0 : Int} (h : Asks f at_ e0) (w : World) : Calls Try.prog 24 #[.agg (footA f), .int .i64 at_] w fun e w' => e = .returned (.int .i64 e0) ∧ Below w.heap.size w w' := h w
set_option maxHeartbeats 2000000 in
set_option maxRecDepth 100000 in
theorem asks_arg (f : FootT) (at_ y : Int) (hc : canO f = some false) (hy : fire_YearAt.f at_ = some y) : Asks f at_ 1 := by
  intro w
  have HC := Aside0.mk hc
  have HY := Aside0.mk hy
  clear hc hy
  go_enter Try.func24, Try.ntmps24
  go_wp2_with (first
      | ((with_reducible refine gate_dst (N := 2) rfl ?_); refine box_agg rfl 39 _ rfl (footA f) rfl ?_; intro g hg w1 hbox hb1; have HK := Aside0.mk hbox; have HB1 := Aside0.mk hb1; clear hbox hb1; subst hg)
      | ((with_reducible refine (fire_YearAt.calls at_ y _ HY.out).mono ?_); rintro e w3 ⟨rfl, hb3⟩; have HB2 := Aside0.mk (below_step HB1.out hb3); have HK2 := Aside0.mk (blk_below HK.out hb3); clear hb3)
      | ((with_reducible refine gate_dst (N := 9) rfl ?_); refine load_opq rfl 39 _ rfl rfl HK2 Try.underlying39 rfl (size39 f) ?_)
      | ((with_reducible refine (can_calls f _ _ HC.out).mono ?_); rintro e w4 ⟨rfl, hb2⟩; have HB3 := Aside0.mk (below_step HB2.out hb2); clear hb2))
  go_ret
  exact ⟨rfl, HB3.out⟩
set_option maxHeartbeats 2000000 in
set_option maxRecDepth 100000 in
theorem asks_low (f : FootT) (at_ y : Int) (hc : canO f = some true) (h1 : y < -4714) (hy : fire_YearAt.f at_ = some y) : Asks f at_ 10 := by
  intro w
  have HC := Aside0.mk hc
  have HY := Aside0.mk hy
  clear hc hy
  have h1b : decide (y < -4714) = true := decide_eq_true h1
  go_enter Try.func24, Try.ntmps24
  go_wp2_with (first
      | ((with_reducible refine gate_dst (N := 2) rfl ?_); refine box_agg rfl 39 _ rfl (footA f) rfl ?_; intro g hg w1 hbox hb1; have HK := Aside0.mk hbox; have HB1 := Aside0.mk hb1; clear hbox hb1; subst hg)
      | ((with_reducible refine (fire_YearAt.calls at_ y _ HY.out).mono ?_); rintro e w3 ⟨rfl, hb3⟩; have HB2 := Aside0.mk (below_step HB1.out hb3); have HK2 := Aside0.mk (blk_below HK.out hb3); clear hb3)
      | ((with_reducible refine gate_dst (N := 9) rfl ?_); refine load_opq rfl 39 _ rfl rfl HK2 Try.underlying39 rfl (size39 f) ?_)
      | ((with_reducible refine (can_calls f _ _ HC.out).mono ?_); rintro e w4 ⟨rfl, hb2⟩; have HB3 := Aside0.mk (below_step HB2.out hb2); clear hb2))
  go_ret
  exact ⟨rfl, HB3.out⟩
set_option maxHeartbeats 2000000 in
set_option maxRecDepth 100000 in
theorem asks_high (f : FootT) (at_ y : Int) (hc : canO f = some true) (h1 : 294278 < y) (hy : fire_YearAt.f at_ = some y) : Asks f at_ 10 := by
  intro w
  have HC := Aside0.mk hc
  have HY := Aside0.mk hy
  clear hc hy
  have h1b : decide (y < -4714) = false := decide_eq_false (by omega)
  have h2b : decide (y > 294278) = true := decide_eq_true h1
  go_enter Try.func24, Try.ntmps24
  go_wp2_with (first
      | ((with_reducible refine gate_dst (N := 2) rfl ?_); refine box_agg rfl 39 _ rfl (footA f) rfl ?_; intro g hg w1 hbox hb1; have HK := Aside0.mk hbox; have HB1 := Aside0.mk hb1; clear hbox hb1; subst hg)
      | ((with_reducible refine (fire_YearAt.calls at_ y _ HY.out).mono ?_); rintro e w3 ⟨rfl, hb3⟩; have HB2 := Aside0.mk (below_step HB1.out hb3); have HK2 := Aside0.mk (blk_below HK.out hb3); clear hb3)
      | ((with_reducible refine gate_dst (N := 9) rfl ?_); refine load_opq rfl 39 _ rfl rfl HK2 Try.underlying39 rfl (size39 f) ?_)
      | ((with_reducible refine (can_calls f _ _ HC.out).mono ?_); rintro e w4 ⟨rfl, hb2⟩; have HB3 := Aside0.mk (below_step HB2.out hb2); clear hb2))
  go_ret
  exact ⟨rfl, HB3.out⟩
set_option maxHeartbeats 2000000 in
set_option maxRecDepth 100000 in
theorem asks_ok (f : FootT) (at_ y : Int) (hc : canO f = some true) (h1 : -4714 ≤ y) (h2 : y ≤ 294278) (hy : fire_YearAt.f at_ = some y) : Asks f at_ 0 := by
  intro w
  have HC := Aside0.mk hc
  have HY := Aside0.mk hy
  clear hc hy
  have h1b : decide (y < -4714) = false := decide_eq_false (by omega)
  have h2b : decide (y > 294278) = false := decide_eq_false (by omega)
  go_enter Try.func24, Try.ntmps24
  go_wp2_with (first
      | ((with_reducible refine gate_dst (N := 2) rfl ?_); refine box_agg rfl 39 _ rfl (footA f) rfl ?_; intro g hg w1 hbox hb1; have HK := Aside0.mk hbox; have HB1 := Aside0.mk hb1; clear hbox hb1; subst hg)
      | ((with_reducible refine (fire_YearAt.calls at_ y _ HY.out).mono ?_); rintro e w3 ⟨rfl, hb3⟩; have HB2 := Aside0.mk (below_step HB1.out hb3); have HK2 := Aside0.mk (blk_below HK.out hb3); clear hb3)
      | ((with_reducible refine gate_dst (N := 9) rfl ?_); refine load_opq rfl 39 _ rfl rfl HK2 Try.underlying39 rfl (size39 f) ?_)
      | ((with_reducible refine (can_calls f _ _ HC.out).mono ?_); rintro e w4 ⟨rfl, hb2⟩; have HB3 := Aside0.mk (below_step HB2.out hb2); clear hb2))
  go_ret
  exact ⟨rfl, HB3.out⟩
set_option maxHeartbeats 2000000 in
set_option maxRecDepth 100000 in
theorem about_calls (f : FootT) (at_ : Int) (w : World) : Calls Try.prog 25 #[.agg (footA f), .int .i64 at_] w fun e w' => ∃ g h : Nat, e = .returned (.func (.func 36) #[] #[.pointer (some ⟨h, 0, none⟩), .pointer (some ⟨g, 0, none⟩)]) ∧ w.heap.size ≤ g ∧ w.heap.size ≤ h ∧ w'.heap[g]? = some (.cells (footA f) 39 (0, 0)) ∧ w'.heap[h]? = some (.cells #[.int .i64 at_] 2 (0, 0)) ∧ Below w.heap.size w w' := by
  go_enter Try.func25, Try.ntmps25
  go_wp2_with (first
      | ((with_reducible refine gate_dst (N := 2) rfl ?_); refine box_agg rfl 39 _ rfl (footA f) rfl ?_; intro g hg w1 hbox hb1; have HK := Aside0.mk hbox; have HB1 := Aside0.mk hb1; clear hbox hb1; subst hg))
  go_ret
  exact ⟨w.heap.size, w1.heap.size, rfl, Nat.le_refl _, HB1.out.size, blk_alloc HK.out _, heap_alloc_new _ _, HB1.out.alloc HB1.out.size _⟩
end Go.Proofs.Ytehoammeaimobaa.D
