/- Hand contract of computusref11.Year: the reference's both shifts of a year, in the ways it can end. -/
import Derived.Test.YtehoammeaimobaaHRefShift
import Derived.Test.YtehoammeaimobaaDx9
set_option linter.unusedVariables false
namespace Go.Proofs.Ytehoammeaimobaa.D
open Go Go.RowKit Go.Proofs.YtehoammeaimobaaW.PrintWords Go.Proofs.YtehoammeaimobaaW.PrintLast Go.Proofs.YtehoammeaimobaaW.PrintMore

def rightO (k : Nat) (f : FootT) : Option Bool := computusref11_Right.f k f.has f.fr f.off f.A.m f.A.k f.A.wd f.A.n f.A.sec f.A.kd f.A.sv f.A.ab f.B.m f.B.k f.B.wd f.B.n f.B.sec f.B.kd f.B.sv f.B.ab
theorem right_calls (k : Nat) (f : FootT) (b : Bool) (w : World) (h : rightO k f = some b) : Calls Try.prog 22 #[.agg (footA f)] w fun e w' => e = .returned (.bool b) ∧ Below w.heap.size w w' :=
  computusref11_Right.calls k _ _ _ _ _ _ _ _ _ _ _ _ _ _ _ _ _ _ _ b w h
/-- What a half's shift is, by the reference. -/
def RefShiftIs (k : Nat) (h o : HalfT) (off y : Int) (s : S46) : Prop := ∃ day e0 i, computusref07_Day.f k y h.m h.k h.wd h.n = some (day, e0) ∧ computusref09_Instant.f day h.sec h.kd off o.sv = some i ∧ s = ⟨i, wrap64 (off + h.sv), h.sv != 0, h.ab⟩
theorem refShift_is (k : Nat) (h o : HalfT) (off y : Int) (s : S46) (w : World) (hs : RefShiftIs k h o off y s) : Calls Try.prog 23 #[.agg (halfA h), .agg (halfA o), .int .i64 off, .int .i64 y] w fun e w' => e = .returned (tranV s) ∧ Below w.heap.size w w' := by
  obtain ⟨day, e0, i, h1, h2, rfl⟩ := hs
  exact refShift_calls k h o off y day e0 i w h1 h2
set_option maxHeartbeats 4000000 in
set_option maxRecDepth 100000 in
theorem refYear_arg (k : Nat) (f : FootT) (y : Int) (w : World) (hc : rightO k f = some false) :
    Calls Try.prog 11 #[.agg (footA f), .int .i64 y] w fun e w' => e = .returned (.tuple #[.slice none 0 0, .int .i64 1]) ∧ Below w.heap.size w w' := by
  have HC := Aside0.mk hc
  clear hc
  go_enter Try.func11, Try.ntmps11
  go_wp2_with (first
    | ((with_reducible refine gate_dst (N := 2) rfl ?_); refine box_agg rfl 29 _ rfl (footA f) rfl ?_; intro g hg w1 hbox hb1; have HK := Aside0.mk hbox; have HB1 := Aside0.mk hb1; clear hbox hb1; subst hg)
    | ((with_reducible refine gate_dst (N := 8) rfl ?_); refine load_opq rfl 29 _ rfl rfl HK Try.underlying29 rfl (size29 f) ?_)
    | ((with_reducible refine (right_calls k f _ _ HC.out).mono ?_); rintro e w2 ⟨rfl, hb2⟩; have HB2 := Aside0.mk (below_step HB1.out hb2); have HK2 := Aside0.mk (blk_below HK.out hb2); clear hb2))
  go_ret2
  exact ⟨rfl, HB2.out⟩
set_option maxHeartbeats 4000000 in
set_option maxRecDepth 100000 in
theorem refYear_range (k : Nat) (f : FootT) (y : Int) (w : World) (hc : rightO k f = some true) (hy : y ≤ -4718 ∨ 294282 ≤ y) :
    Calls Try.prog 11 #[.agg (footA f), .int .i64 y] w fun e w' => e = .returned (.tuple #[.slice none 0 0, .int .i64 10]) ∧ Below w.heap.size w w' := by
  have HC := Aside0.mk hc
  clear hc
  by_cases h1 : y ≤ -4718
  · have h1b : decide (y ≤ -4718) = true := decide_eq_true h1
    clear hy
    go_enter Try.func11, Try.ntmps11
    go_wp2_with (first
    | ((with_reducible refine gate_dst (N := 2) rfl ?_); refine box_agg rfl 29 _ rfl (footA f) rfl ?_; intro g hg w1 hbox hb1; have HK := Aside0.mk hbox; have HB1 := Aside0.mk hb1; clear hbox hb1; subst hg)
    | ((with_reducible refine gate_dst (N := 8) rfl ?_); refine load_opq rfl 29 _ rfl rfl HK Try.underlying29 rfl (size29 f) ?_)
    | ((with_reducible refine (right_calls k f _ _ HC.out).mono ?_); rintro e w2 ⟨rfl, hb2⟩; have HB2 := Aside0.mk (below_step HB1.out hb2); have HK2 := Aside0.mk (blk_below HK.out hb2); clear hb2))
    go_ret2
    exact ⟨rfl, HB2.out⟩
  · have h2 : y ≥ 294282 := by omega
    have h1b : decide (y ≤ -4718) = false := decide_eq_false h1
    have h2b : decide (y ≥ 294282) = true := decide_eq_true h2
    clear hy
    go_enter Try.func11, Try.ntmps11
    go_wp2_with (first
    | ((with_reducible refine gate_dst (N := 2) rfl ?_); refine box_agg rfl 29 _ rfl (footA f) rfl ?_; intro g hg w1 hbox hb1; have HK := Aside0.mk hbox; have HB1 := Aside0.mk hb1; clear hbox hb1; subst hg)
    | ((with_reducible refine gate_dst (N := 8) rfl ?_); refine load_opq rfl 29 _ rfl rfl HK Try.underlying29 rfl (size29 f) ?_)
    | ((with_reducible refine (right_calls k f _ _ HC.out).mono ?_); rintro e w2 ⟨rfl, hb2⟩; have HB2 := Aside0.mk (below_step HB1.out hb2); have HK2 := Aside0.mk (blk_below HK.out hb2); clear hb2))
    go_ret2
    exact ⟨rfl, HB2.out⟩
set_option maxHeartbeats 4000000 in
set_option maxRecDepth 100000 in
theorem refYear_up (k : Nat) (f : FootT) (y : Int) (s t : S46) (w : World) (hc : rightO k f = some true) (h1 : -4718 < y) (h2 : y < 294282) (hm : decide (f.A.m < f.B.m) = true) (hs : RefShiftIs k f.A f.B f.off y s) (ht : RefShiftIs k f.B f.A f.off y t) :
    Calls Try.prog 11 #[.agg (footA f), .int .i64 y] w fun e w' => ∃ v0_ : Value, e = .returned (.tuple #[v0_, .int .i64 0]) ∧ Kd.R k46 46 w' w.heap.size (fun _ => True) v0_ [s, t] ∧ Below w.heap.size w w' := by
  have HC := Aside0.mk hc
  have HS := Aside0.mk hs
  have HT := Aside0.mk ht
  have h1b : decide (y ≤ -4718) = false := decide_eq_false (by omega)
  have h2b : decide (y ≥ 294282) = false := decide_eq_false (by omega)
  clear hc hs ht
  go_enter Try.func11, Try.ntmps11
  go_wp2_with (first
    | ((with_reducible refine gate_dst (N := 2) rfl ?_); refine box_agg rfl 29 _ rfl (footA f) rfl ?_; intro g hg w1 hbox hb1; have HK := Aside0.mk hbox; have HB1 := Aside0.mk hb1; clear hbox hb1; subst hg)
    | ((with_reducible refine gate_dst (N := 8) rfl ?_); refine load_opq rfl 29 _ rfl rfl HK Try.underlying29 rfl (size29 f) ?_)
    | ((with_reducible refine (right_calls k f _ _ HC.out).mono ?_); rintro e w2 ⟨rfl, hb2⟩; have HB2 := Aside0.mk (below_step HB1.out hb2); have HK2 := Aside0.mk (blk_below HK.out hb2); clear hb2; have q2 : w2.cell? ⟨w.heap.size, 2, none⟩ = some (.int .i64 f.off) := (blk_cell HK2.out 2).trans rfl)
    | ((with_reducible refine gate_dst (N := 18) rfl ?_); refine load_partL (D := halfA f.A) rfl 27 (.tmp 17) rfl rfl HK2 (part3 f) Try.underlying27 rfl (size27 _) ?_)
    | ((with_reducible refine gate_dst (N := 20) rfl ?_); refine load_partL (D := halfA f.B) rfl 27 (.tmp 19) rfl rfl HK2 (part11 f) Try.underlying27 rfl (size27 _) ?_)
    | ((with_reducible refine (refShift_is k f.A f.B f.off y s _ HS.out).mono ?_); rintro e w3 ⟨rfl, hb3⟩; have HB3 := Aside0.mk (below_step HB2.out hb3); have HK3 := Aside0.mk (blk_below HK2.out hb3); clear hb3 q2)
    | ((with_reducible refine gate_dst (N := 6) rfl ?_); refine alloc_agg rfl 46 rfl (tranA z46) zero46 ?_; intro g6 hg w4 hbox hb; have H6 := Aside0.mk hbox; have HB4 := Aside0.mk (below_step HB3.out hb); have HK4 := Aside0.mk (blk_below HK3.out hb); have G6 := Aside0.mk (show w.heap.size < g6 from by rw [hg]; exact (Array.getElem?_eq_some_iff.1 HK3.out).1); clear hbox hb hg)
    | ((with_reducible refine gate_store (t := 46) (p := 6) rfl ?_); refine store_agg rfl 46 (.tmp 6) (.tmp 24) rfl (D := tranA s) rfl rfl H6 rfl (size46 _) (one_tran _) ?_; intro w5 hput; have H65 := Aside0.mk hput.box; have HB5 := Aside0.mk (hput.below _ _ (Nat.le_of_lt G6.out) HB4.out); have HK5 := Aside0.mk ((hput.other _ (Nat.ne_of_lt G6.out)).trans HK4.out); clear hput; have q2 : w5.cell? ⟨w.heap.size, 2, none⟩ = some (.int .i64 f.off) := (blk_cell HK5.out 2).trans rfl)
    | ((with_reducible refine gate_dst (N := 26) rfl ?_); refine load_partL (D := halfA f.B) rfl 27 (.tmp 25) rfl rfl HK5 (part11 f) Try.underlying27 rfl (size27 _) ?_)
    | ((with_reducible refine gate_dst (N := 28) rfl ?_); refine load_partL (D := halfA f.A) rfl 27 (.tmp 27) rfl rfl HK5 (part3 f) Try.underlying27 rfl (size27 _) ?_)
    | ((with_reducible refine (refShift_is k f.B f.A f.off y t _ HT.out).mono ?_); rintro e w6 ⟨rfl, hb6⟩; have HB6 := Aside0.mk (below_step HB5.out hb6); have HK6 := Aside0.mk (blk_below HK5.out hb6); have H66 := Aside0.mk (blk_below H65.out hb6); clear hb6 q2)
    | ((with_reducible refine gate_dst (N := 7) rfl ?_); refine alloc_agg rfl 46 rfl (tranA z46) zero46 ?_; intro g7 hg w7 hbox hb; have H7 := Aside0.mk hbox; have HB7 := Aside0.mk (below_step HB6.out hb); have HK7 := Aside0.mk (blk_below HK6.out hb); have H67 := Aside0.mk (blk_below H66.out hb); have G7 := Aside0.mk (show w.heap.size < g7 ∧ g6 < g7 from by rw [hg]; exact ⟨(Array.getElem?_eq_some_iff.1 HK6.out).1, (Array.getElem?_eq_some_iff.1 H66.out).1⟩); clear hbox hb hg)
    | ((with_reducible refine gate_store (t := 46) (p := 7) rfl ?_); refine store_agg rfl 46 (.tmp 7) (.tmp 32) rfl (D := tranA t) rfl rfl H7 rfl (size46 _) (one_tran _) ?_; intro w8 hput; have H78 := Aside0.mk hput.box; have HB8 := Aside0.mk (hput.below _ _ (Nat.le_of_lt G7.out.1) HB7.out); have HK8 := Aside0.mk ((hput.other _ (Nat.ne_of_lt G7.out.1)).trans HK7.out); have H68 := Aside0.mk ((hput.other _ (Nat.ne_of_lt G7.out.2)).trans H67.out); clear hput; have q3 : w8.cell? ⟨w.heap.size, 3, none⟩ = some (.int .i64 f.A.m) := (blk_cell HK8.out 3).trans rfl; have q11 : w8.cell? ⟨w.heap.size, 11, none⟩ = some (.int .i64 f.B.m) := (blk_cell HK8.out 11).trans rfl)
    | ((with_reducible refine gate_dst (N := 40) rfl ?_); refine load_opq rfl 46 _ rfl rfl H68 Try.underlying46 rfl (size46 _) ?_)
    | ((with_reducible refine gate_dst (N := 41) rfl ?_); refine load_opq rfl 46 _ rfl rfl H78 Try.underlying46 rfl (size46 _) ?_)
    | ((with_reducible refine gate_dst (N := 42) rfl ?_); refine lit2 rfl rfl s t (.tmp 40) (.tmp 41) rfl rfl rfl ?_; intro v w9 hv hb; have HV := Aside0.mk (Kd.R_lower hv (below_size HB8.out)); have HB9 := Aside0.mk (below_step HB8.out hb); clear hv hb))
  go_ret2
  exact ⟨_, rfl, HV.out, HB9.out⟩
set_option maxHeartbeats 4000000 in
set_option maxRecDepth 100000 in
theorem refYear_down (k : Nat) (f : FootT) (y : Int) (s t : S46) (w : World) (hc : rightO k f = some true) (h1 : -4718 < y) (h2 : y < 294282) (hm : decide (f.A.m < f.B.m) = false) (hs : RefShiftIs k f.A f.B f.off y s) (ht : RefShiftIs k f.B f.A f.off y t) :
    Calls Try.prog 11 #[.agg (footA f), .int .i64 y] w fun e w' => ∃ v0_ : Value, e = .returned (.tuple #[v0_, .int .i64 0]) ∧ Kd.R k46 46 w' w.heap.size (fun _ => True) v0_ [t, s] ∧ Below w.heap.size w w' := by
  have HC := Aside0.mk hc
  have HS := Aside0.mk hs
  have HT := Aside0.mk ht
  have h1b : decide (y ≤ -4718) = false := decide_eq_false (by omega)
  have h2b : decide (y ≥ 294282) = false := decide_eq_false (by omega)
  clear hc hs ht
  go_enter Try.func11, Try.ntmps11
  go_wp2_with (first
    | ((with_reducible refine gate_dst (N := 2) rfl ?_); refine box_agg rfl 29 _ rfl (footA f) rfl ?_; intro g hg w1 hbox hb1; have HK := Aside0.mk hbox; have HB1 := Aside0.mk hb1; clear hbox hb1; subst hg)
    | ((with_reducible refine gate_dst (N := 8) rfl ?_); refine load_opq rfl 29 _ rfl rfl HK Try.underlying29 rfl (size29 f) ?_)
    | ((with_reducible refine (right_calls k f _ _ HC.out).mono ?_); rintro e w2 ⟨rfl, hb2⟩; have HB2 := Aside0.mk (below_step HB1.out hb2); have HK2 := Aside0.mk (blk_below HK.out hb2); clear hb2; have q2 : w2.cell? ⟨w.heap.size, 2, none⟩ = some (.int .i64 f.off) := (blk_cell HK2.out 2).trans rfl)
    | ((with_reducible refine gate_dst (N := 18) rfl ?_); refine load_partL (D := halfA f.A) rfl 27 (.tmp 17) rfl rfl HK2 (part3 f) Try.underlying27 rfl (size27 _) ?_)
    | ((with_reducible refine gate_dst (N := 20) rfl ?_); refine load_partL (D := halfA f.B) rfl 27 (.tmp 19) rfl rfl HK2 (part11 f) Try.underlying27 rfl (size27 _) ?_)
    | ((with_reducible refine (refShift_is k f.A f.B f.off y s _ HS.out).mono ?_); rintro e w3 ⟨rfl, hb3⟩; have HB3 := Aside0.mk (below_step HB2.out hb3); have HK3 := Aside0.mk (blk_below HK2.out hb3); clear hb3 q2)
    | ((with_reducible refine gate_dst (N := 6) rfl ?_); refine alloc_agg rfl 46 rfl (tranA z46) zero46 ?_; intro g6 hg w4 hbox hb; have H6 := Aside0.mk hbox; have HB4 := Aside0.mk (below_step HB3.out hb); have HK4 := Aside0.mk (blk_below HK3.out hb); have G6 := Aside0.mk (show w.heap.size < g6 from by rw [hg]; exact (Array.getElem?_eq_some_iff.1 HK3.out).1); clear hbox hb hg)
    | ((with_reducible refine gate_store (t := 46) (p := 6) rfl ?_); refine store_agg rfl 46 (.tmp 6) (.tmp 24) rfl (D := tranA s) rfl rfl H6 rfl (size46 _) (one_tran _) ?_; intro w5 hput; have H65 := Aside0.mk hput.box; have HB5 := Aside0.mk (hput.below _ _ (Nat.le_of_lt G6.out) HB4.out); have HK5 := Aside0.mk ((hput.other _ (Nat.ne_of_lt G6.out)).trans HK4.out); clear hput; have q2 : w5.cell? ⟨w.heap.size, 2, none⟩ = some (.int .i64 f.off) := (blk_cell HK5.out 2).trans rfl)
    | ((with_reducible refine gate_dst (N := 26) rfl ?_); refine load_partL (D := halfA f.B) rfl 27 (.tmp 25) rfl rfl HK5 (part11 f) Try.underlying27 rfl (size27 _) ?_)
    | ((with_reducible refine gate_dst (N := 28) rfl ?_); refine load_partL (D := halfA f.A) rfl 27 (.tmp 27) rfl rfl HK5 (part3 f) Try.underlying27 rfl (size27 _) ?_)
    | ((with_reducible refine (refShift_is k f.B f.A f.off y t _ HT.out).mono ?_); rintro e w6 ⟨rfl, hb6⟩; have HB6 := Aside0.mk (below_step HB5.out hb6); have HK6 := Aside0.mk (blk_below HK5.out hb6); have H66 := Aside0.mk (blk_below H65.out hb6); clear hb6 q2)
    | ((with_reducible refine gate_dst (N := 7) rfl ?_); refine alloc_agg rfl 46 rfl (tranA z46) zero46 ?_; intro g7 hg w7 hbox hb; have H7 := Aside0.mk hbox; have HB7 := Aside0.mk (below_step HB6.out hb); have HK7 := Aside0.mk (blk_below HK6.out hb); have H67 := Aside0.mk (blk_below H66.out hb); have G7 := Aside0.mk (show w.heap.size < g7 ∧ g6 < g7 from by rw [hg]; exact ⟨(Array.getElem?_eq_some_iff.1 HK6.out).1, (Array.getElem?_eq_some_iff.1 H66.out).1⟩); clear hbox hb hg)
    | ((with_reducible refine gate_store (t := 46) (p := 7) rfl ?_); refine store_agg rfl 46 (.tmp 7) (.tmp 32) rfl (D := tranA t) rfl rfl H7 rfl (size46 _) (one_tran _) ?_; intro w8 hput; have H78 := Aside0.mk hput.box; have HB8 := Aside0.mk (hput.below _ _ (Nat.le_of_lt G7.out.1) HB7.out); have HK8 := Aside0.mk ((hput.other _ (Nat.ne_of_lt G7.out.1)).trans HK7.out); have H68 := Aside0.mk ((hput.other _ (Nat.ne_of_lt G7.out.2)).trans H67.out); clear hput; have q3 : w8.cell? ⟨w.heap.size, 3, none⟩ = some (.int .i64 f.A.m) := (blk_cell HK8.out 3).trans rfl; have q11 : w8.cell? ⟨w.heap.size, 11, none⟩ = some (.int .i64 f.B.m) := (blk_cell HK8.out 11).trans rfl)
    | ((with_reducible refine gate_dst (N := 43) rfl ?_); refine load_opq rfl 46 _ rfl rfl H78 Try.underlying46 rfl (size46 _) ?_)
    | ((with_reducible refine gate_dst (N := 44) rfl ?_); refine load_opq rfl 46 _ rfl rfl H68 Try.underlying46 rfl (size46 _) ?_)
    | ((with_reducible refine gate_dst (N := 45) rfl ?_); refine lit2 rfl rfl t s (.tmp 43) (.tmp 44) rfl rfl rfl ?_; intro v w9 hv hb; have HV := Aside0.mk (Kd.R_lower hv (below_size HB8.out)); have HB9 := Aside0.mk (below_step HB8.out hb); clear hv hb))
  go_ret2
  exact ⟨_, rfl, HV.out, HB9.out⟩
end Go.Proofs.Ytehoammeaimobaa.D
