/- Hand contract of foot.Year: both shifts of a year, in the three ways it can end. -/
import Derived.Test.YtehoammeaimobaaHOpq
set_option linter.unusedVariables false
namespace Go.Proofs.Ytehoammeaimobaa.D
open Go Go.RowKit Go.Proofs.YtehoammeaimobaaW.PrintWords Go.Proofs.YtehoammeaimobaaW.PrintLast Go.Proofs.YtehoammeaimobaaW.PrintMore

def Year.T5 : Bool × List (List Nat × List Nat) := (true, [([], []), ([], []), ([0, 1], [0, 1]), ([], []), ([], []), ([3, 4, 2], [3, 4]), ([2, 5], [2, 5]), ([6, 5, 0, 1, 2, 3, 4, 5, 6], [6]), ([7, 0, 1, 2, 3, 4, 5, 6, 7], [])])
def Year.B5 : List Nat := [0, 0, 3, 0, 0, 31, 63, 127, 255]
theorem Year.tab5 : rtab .any (opsOf Try.f9 5) = Year.T5 := by kernel_rfl
theorem Year.bits5 : waitsOk Year.T5.2 Year.B5 = true := by kernel_rfl
set_option maxHeartbeats 2000000 in
set_option maxRecDepth 100000 in
theorem Year_arg (f : FootT) (y : Int) (w : World) (hc : canO f = some false) :
    Calls Try.prog 9 #[.agg (footA f), .int .i64 y] w fun e w' => e = .returned (.tuple #[.slice none 0 0, .int .i64 1]) ∧ Below w.heap.size w w' := by
  have HC := Aside0.mk hc
  clear hc
  go_enter Try.func9, Try.ntmps9
  go_wp2_with (first
    | ((with_reducible refine gate_dst (N := 2) rfl ?_); refine box_agg rfl 39 _ rfl (footA f) rfl ?_; intro g hg w1 hbox hb1; have HK := Aside0.mk hbox; have HB1 := Aside0.mk hb1; clear hbox hb1; subst hg)
    | ((with_reducible refine gate_dst (N := 7) rfl ?_); refine load_opq rfl 39 _ rfl rfl HK Try.underlying39 rfl (size39 f) ?_)
    | ((with_reducible refine (can_calls f _ _ HC.out).mono ?_); rintro e w2 ⟨rfl, hb2⟩; have HB2 := Aside0.mk (below_step HB1.out hb2); have HK2 := Aside0.mk (blk_below HK.out hb2); clear hb2))
  go_ret2
  exact ⟨rfl, HB2.out⟩
set_option maxHeartbeats 2000000 in
set_option maxRecDepth 100000 in
theorem Year_range (f : FootT) (y : Int) (w : World) (hc : canO f = some true) (hy : y ≤ -4718 ∨ 294282 ≤ y) :
    Calls Try.prog 9 #[.agg (footA f), .int .i64 y] w fun e w' => e = .returned (.tuple #[.slice none 0 0, .int .i64 10]) ∧ Below w.heap.size w w' := by
  have HC := Aside0.mk hc
  clear hc
  by_cases h1 : y ≤ -4718
  · have h1b : decide (y ≤ -4718) = true := decide_eq_true h1
    clear hy
    go_enter Try.func9, Try.ntmps9
    go_wp2_with (first
      | ((with_reducible refine gate_dst (N := 2) rfl ?_); refine box_agg rfl 39 _ rfl (footA f) rfl ?_; intro g hg w1 hbox hb1; have HK := Aside0.mk hbox; have HB1 := Aside0.mk hb1; clear hbox hb1; subst hg)
      | ((with_reducible refine gate_dst (N := 7) rfl ?_); refine load_opq rfl 39 _ rfl rfl HK Try.underlying39 rfl (size39 f) ?_)
      | ((with_reducible refine (can_calls f _ _ HC.out).mono ?_); rintro e w2 ⟨rfl, hb2⟩; have HB2 := Aside0.mk (below_step HB1.out hb2); have HK2 := Aside0.mk (blk_below HK.out hb2); clear hb2))
    go_ret2
    exact ⟨rfl, HB2.out⟩
  · have h2 : y ≥ 294282 := by omega
    have h1b : decide (y ≤ -4718) = false := decide_eq_false h1
    have h2b : decide (y ≥ 294282) = true := decide_eq_true h2
    clear hy
    go_enter Try.func9, Try.ntmps9
    go_wp2_with (first
      | ((with_reducible refine gate_dst (N := 2) rfl ?_); refine box_agg rfl 39 _ rfl (footA f) rfl ?_; intro g hg w1 hbox hb1; have HK := Aside0.mk hbox; have HB1 := Aside0.mk hb1; clear hbox hb1; subst hg)
      | ((with_reducible refine gate_dst (N := 7) rfl ?_); refine load_opq rfl 39 _ rfl rfl HK Try.underlying39 rfl (size39 f) ?_)
      | ((with_reducible refine (can_calls f _ _ HC.out).mono ?_); rintro e w2 ⟨rfl, hb2⟩; have HB2 := Aside0.mk (below_step HB1.out hb2); have HK2 := Aside0.mk (blk_below HK.out hb2); clear hb2))
    go_ret2
    exact ⟨rfl, HB2.out⟩
set_option maxHeartbeats 2000000 in
set_option maxRecDepth 100000 in
theorem Year_ok (k : Nat) (f : FootT) (y : Int) (s t : S46) (w : World) (hc : canO f = some true) (h1 : -4718 < y) (h2 : y < 294282) (hs : shiftO k f y true = some (s.f0, s.f1, s.f2, s.f3)) (ht : shiftO k f y false = some (t.f0, t.f1, t.f2, t.f3)) :
    Calls Try.prog 9 #[.agg (footA f), .int .i64 y] w fun e w' => ∃ v0_ : Value, e = .returned (.tuple #[v0_, .int .i64 0]) ∧ Kd.R k46 46 w' w.heap.size (fun _ => True) v0_ [s, t] ∧ Below w.heap.size w w' := by
  have HC := Aside0.mk hc
  have HS := Aside0.mk hs
  have HT := Aside0.mk ht
  have h1b : decide (y ≤ -4718) = false := decide_eq_false (by omega)
  have h2b : decide (y ≥ 294282) = false := decide_eq_false (by omega)
  clear hc hs ht
  go_enter Try.func9, Try.ntmps9
  go_wp2_with (first
    | ((with_reducible refine gate_dst (N := 2) rfl ?_); refine box_agg rfl 39 _ rfl (footA f) rfl ?_; intro g hg w1 hbox hb1; have HK := Aside0.mk hbox; have HB1 := Aside0.mk hb1; clear hbox hb1; subst hg)
    | ((with_reducible refine gate_dst (N := 7) rfl ?_); refine load_opq rfl 39 _ rfl rfl HK Try.underlying39 rfl (size39 f) ?_)
    | ((with_reducible refine (can_calls f _ _ HC.out).mono ?_); rintro e w2 ⟨rfl, hb2⟩; have HB2 := Aside0.mk (below_step HB1.out hb2); have HK2 := Aside0.mk (blk_below HK.out hb2); clear hb2))
  have HKd := Aside0.mk (blk_drew HK2.out)
  have HBd := Aside0.mk (below_drew1 HB2.out)
  clear HK HK2 HB1 HB2 h1b h2b
  refine start_ (n := 9) (S := fun w' => w'.rangeAt w.heap.size 0 (footA f).toList) (ds := []) #[false, false, false, false, false, false, false, false, false] (by kernel_rfl) rfl rfl (rng_blk HKd.out) (fun hHeld => ?_)
  refine with_tabW Year.tab5 Year.bits5 (fun HT_ HW_ => ?_)
  generalize w2.drew = w3 at HKd HBd hHeld ⊢
  refine pure_ (i := 1) (N := some 18) (v := ?_) (a' := ?_) #[false, true, false, false, false, false, false, false, false] rfl rfl (any_of HT_.out (by kernel_rfl)) (fun _ _ _ h => h) (Or.inl ⟨by rfl, ?_⟩) ?_ ?_
  rotate_left
  · intro w'
    go_simp
    with_reducible rfl
  rotate_left
  · simp only [Act.put, List.setIfInBounds_toArray, List.set_cons_zero, List.set_cons_succ]
    rfl
  refine pure_ (i := 4) (N := some 21) (v := ?_) (a' := ?_) #[false, true, false, false, true, false, false, false, false] rfl rfl (any_of HT_.out (by kernel_rfl)) (fun _ _ _ h => h) (Or.inl ⟨by rfl, ?_⟩) ?_ ?_
  rotate_left
  · intro w'
    go_simp
    with_reducible rfl
  rotate_left
  · simp only [Act.put, List.setIfInBounds_toArray, List.set_cons_zero, List.set_cons_succ]
    rfl
  refine take_ (i := 0) (N := some 17) (v := ?_) (a' := ?_) #[true, true, false, false, true, false, false, false, false] rfl rfl (take_ofW HT_.out HW_.out (by kernel_rfl)) (fun _ _ _ h => h) (Or.inl ⟨by rfl, ?_⟩) hHeld ?_ ?_
  rotate_left
  · intro w' hs
    refine load_held (C := footA f) (b := w.heap.size) 39 (.tmp 2) ?_ ?_ hs Try.underlying39 rfl (size39 f)
    · rfl
    · rfl
  rotate_left
  · simp only [Act.put, List.setIfInBounds_toArray, List.set_cons_zero, List.set_cons_succ]
    rfl
  refine take_ (i := 3) (N := some 20) (v := ?_) (a' := ?_) #[true, true, false, true, true, false, false, false, false] rfl rfl (take_ofW HT_.out HW_.out (by kernel_rfl)) (fun _ _ _ h => h) (Or.inl ⟨by rfl, ?_⟩) hHeld ?_ ?_
  rotate_left
  · intro w' hs
    refine load_held (C := footA f) (b := w.heap.size) 39 (.tmp 2) ?_ ?_ hs Try.underlying39 rfl (size39 f)
    · rfl
    · rfl
  rotate_left
  · simp only [Act.put, List.setIfInBounds_toArray, List.set_cons_zero, List.set_cons_succ]
    rfl
  refine one_ (i := 2) (N := some 19) #[true, true, true, true, true, false, false, false, false] rfl rfl (one_of HT_.out (by kernel_rfl)) (by decide) (fun K hK => ?_)
  refine goes_ Try.func20 (by kernel_rfl) rfl #[.agg (footA f), .int .i64 y, .bool true] (by rfl) rfl rfl (by (try simp only [List.map_toArray, List.map_cons, List.map_nil]); first | done | rfl) ?_
  with_reducible refine (shift_calls k f y true s _ HS.out).mono ?_
  rintro e w4 ⟨rfl, hb⟩
  refine ⟨_, rfl, ?_⟩
  have HK4 := Aside0.mk (blk_below HKd.out hb)
  have HB4 := Aside0.mk (below_step HBd.out hb)
  clear hb HKd HBd
  refine hK.out _ _ (rng_blk HK4.out) (fun hHeld => ?_)
  clear hK K
  refine norm_ (a' := ?_) ?_ ?_
  rotate_left
  · show Act.put _ (some 19) _ = _
    simp only [Act.put, List.setIfInBounds_toArray, List.set_cons_zero, List.set_cons_succ]
    rfl
  refine one_ (i := 5) (N := some 22) #[true, true, true, true, true, true, false, false, false] rfl rfl (one_of HT_.out (by kernel_rfl)) (by decide) (fun K hK => ?_)
  refine goes_ Try.func20 (by kernel_rfl) rfl #[.agg (footA f), .int .i64 y, .bool false] (by rfl) rfl rfl (by (try simp only [List.map_toArray, List.map_cons, List.map_nil]); first | done | rfl) ?_
  with_reducible refine (shift_calls k f y false t _ HT.out).mono ?_
  rintro e w5 ⟨rfl, hb⟩
  refine ⟨_, rfl, ?_⟩
  have HK5 := Aside0.mk (blk_below HK4.out hb)
  have HB5 := Aside0.mk (below_step HB4.out hb)
  clear hb HK4 HB4
  refine hK.out _ _ (rng_blk HK5.out) (fun hHeld => ?_)
  clear hK K
  refine norm_ (a' := ?_) ?_ ?_
  rotate_left
  · show Act.put _ (some 22) _ = _
    simp only [Act.put, List.setIfInBounds_toArray, List.set_cons_zero, List.set_cons_succ]
    rfl
  refine one_ (i := 6) (N := some 23) #[true, true, true, true, true, true, true, false, false] rfl rfl (one_of HT_.out (by kernel_rfl)) (by decide) (fun K hK => ?_)
  refine Kd.R_lit_step k46 _ 46 ?hg (N := 23) ?hd (xs := [s, t]) (inner := [.int .i64 s.f0, .int .i64 s.f1, .bool s.f2, .string s.f3, .int .i64 t.f0, .int .i64 t.f1, .bool t.f2, .string t.f3]) (ok := fun _ => True) (okp := fun _ => True) ?hr ?hp (fun _ hk => hk) trivial (Below.refl _ _) (Nat.le_refl _) (by simp) ?_
  (case hd => rfl)
  (case hg => rfl)
  (case hr => unfold tranV; first | (go_simp; done) | (go_simp; rfl))
  (case hp => exact (Reps.c4 (show Kd.M k46 _ _ _ s [.int .i64 s.f0, .int .i64 s.f1, .bool s.f2, .string s.f3] from (k46_mkM _ _ _ s)) (Reps.c4 (show Kd.M k46 _ _ _ t [.int .i64 t.f0, .int .i64 t.f1, .bool t.f2, .string t.f3] from (k46_mkM _ _ _ t)) (Reps.none _ _))))
  intro v140 w16 ho17 hb hg_ hnew_
  clear hg_ hnew_
  have HO := Aside0.mk (Kd.R_lower ho17 (below_size HB5.out))
  have HK6 := Aside0.mk (blk_below HK5.out hb)
  have HB6 := Aside0.mk (below_step HB5.out hb)
  clear hb ho17 HK5 HB5
  refine hK.out _ _ (rng_blk HK6.out) (fun hHeld => ?_)
  clear hK K
  refine norm_ (a' := ?_) ?_ ?_
  rotate_left
  · show Act.put _ (some 23) _ = _
    simp only [Act.put, List.setIfInBounds_toArray, List.set_cons_zero, List.set_cons_succ]
    rfl
  refine pure_ (i := 7) (N := some 4) (v := ?_) (a' := ?_) #[true, true, true, true, true, true, true, true, false] rfl rfl (any_of HT_.out (by kernel_rfl)) (fun _ _ _ h => h) (Or.inl ⟨by rfl, ?_⟩) ?_ ?_
  rotate_left
  · intro w'
    go_simp
    with_reducible rfl
  rotate_left
  · simp only [Act.put, List.setIfInBounds_toArray, List.set_cons_zero, List.set_cons_succ]
    rfl
  refine pure_ (i := 8) (N := some 5) (v := ?_) (a' := ?_) #[true, true, true, true, true, true, true, true, true] rfl rfl (any_of HT_.out (by kernel_rfl)) (fun _ _ _ h => h) (Or.inl ⟨by rfl, ?_⟩) ?_ ?_
  rotate_left
  · intro w'
    go_simp
    with_reducible rfl
  rotate_left
  · simp only [Act.put, List.setIfInBounds_toArray, List.set_cons_zero, List.set_cons_succ]
    rfl
  refine done_ (done_of HT_.out (by kernel_rfl)) ?_
  go_wp2
  go_ret2
  exact ⟨_, rfl, HO.out, HB6.out⟩
end Go.Proofs.Ytehoammeaimobaa.D
