/- foot.Year once more: the slice's block is told. -/
import Derived.Test.YtehoammeaimobaaHYear
import Derived.Test.YtehoammeaimobaaHBox
set_option linter.unusedVariables false
namespace Go.Proofs.Ytehoammeaimobaa.D
open Go Go.RowKit Go.Proofs.YtehoammeaimobaaW.PrintWords Go.Proofs.YtehoammeaimobaaW.PrintLast Go.Proofs.YtehoammeaimobaaW.PrintMore

def twoA (s t : S46) : Array Value := #[.int .i64 s.f0, .int .i64 s.f1, .bool s.f2, .string s.f3, .int .i64 t.f0, .int .i64 t.f1, .bool t.f2, .string t.f3]
set_option maxHeartbeats 2000000 in
set_option maxRecDepth 100000 in
theorem Year_lit (k : Nat) (f : FootT) (y : Int) (s t : S46) (w : World) (hc : canO f = some true) (h1 : -4718 < y) (h2 : y < 294282) (hs : shiftO k f y true = some (s.f0, s.f1, s.f2, s.f3)) (ht : shiftO k f y false = some (t.f0, t.f1, t.f2, t.f3)) :
    Calls Try.prog 9 #[.agg (footA f), .int .i64 y] w fun e w' => ∃ g : Nat, e = .returned (.tuple #[.slice (some ⟨g, 0, none⟩) 2 2, .int .i64 0]) ∧ w.heap.size ≤ g ∧ w'.heap[g]? = some (.cells (twoA s t) 46 (0, 0)) ∧ Below w.heap.size w w' := by
  have HC := Aside0.mk hc
  have HS := Aside0.mk hs
  have HT := Aside0.mk ht
  have h1b : decide (y ≤ -4718) = false := decide_eq_false (by omega)
  have h2b : decide (y ≥ 294282) = false := decide_eq_false (by omega)
  clear hc hs ht
  go_enter Try.func9, Try.ntmps9
  go_wp2_with (first
    | ((with_reducible refine gate_dst (N := 2) rfl ?_); refine box_agg rfl 39 _ rfl (footA f) rfl ?_; intro g hg w1 hbox hb1; have HK := Aside0.mk hbox; have HB1 := Aside0.mk hb1; clear hbox hb1; subst hg)
    | ((with_reducible refine gate_dst (N := 7) rfl ?_); refine load_opq rfl 39 _ rfl rfl HK Try.underlying39 rfl (size39 f) ?_)
    | ((with_reducible refine (can_calls f _ _ HC.out).mono ?_); rintro e w2 ⟨rfl, hb2⟩; have HB2 := Aside0.mk (below_step HB1.out hb2); have HK2 := Aside0.mk (blk_below HK.out hb2); clear hb2))
  have HKd := Aside0.mk (blk_drew HK2.out)
  have HBd := Aside0.mk (below_drew1 HB2.out)
  clear HK HK2 HB1 HB2 h1b h2b
  refine start_ (n := 9) (S := fun w' => w'.rangeAt w.heap.size 0 (footA f).toList) (ds := []) #[false, false, false, false, false, false, false, false, false] (by kernel_rfl) rfl rfl (rng_blk HKd.out) (fun hHeld => ?_)
  refine with_tabW Year.tab5 Year.bits5 (fun HT_ HW_ => ?_)
  generalize w2.drew = w3 at HKd HBd hHeld ⊢
  refine pure_ (i := 1) (N := some 18) (v := ?_) (a' := ?_) #[false, true, false, false, false, false, false, false, false] rfl rfl (any_of HT_.out (by kernel_rfl)) (fun _ _ _ h => h) (Or.inl ⟨by rfl, ?_⟩) ?_ ?_
  rotate_left
  · intro w'
    go_simp
    with_reducible rfl
  rotate_left
  · simp only [Act.put, List.setIfInBounds_toArray, List.set_cons_zero, List.set_cons_succ]
    rfl
  refine pure_ (i := 4) (N := some 21) (v := ?_) (a' := ?_) #[false, true, false, false, true, false, false, false, false] rfl rfl (any_of HT_.out (by kernel_rfl)) (fun _ _ _ h => h) (Or.inl ⟨by rfl, ?_⟩) ?_ ?_
  rotate_left
  · intro w'
    go_simp
    with_reducible rfl
  rotate_left
  · simp only [Act.put, List.setIfInBounds_toArray, List.set_cons_zero, List.set_cons_succ]
    rfl
  refine take_ (i := 0) (N := some 17) (v := ?_) (a' := ?_) #[true, true, false, false, true, false, false, false, false] rfl rfl (take_ofW HT_.out HW_.out (by kernel_rfl)) (fun _ _ _ h => h) (Or.inl ⟨by rfl, ?_⟩) hHeld ?_ ?_
  rotate_left
  · intro w' hs
    refine load_held (C := footA f) (b := w.heap.size) 39 (.tmp 2) ?_ ?_ hs Try.underlying39 rfl (size39 f)
    · rfl
    · rfl
  rotate_left
  · simp only [Act.put, List.setIfInBounds_toArray, List.set_cons_zero, List.set_cons_succ]
    rfl
  refine take_ (i := 3) (N := some 20) (v := ?_) (a' := ?_) #[true, true, false, true, true, false, false, false, false] rfl rfl (take_ofW HT_.out HW_.out (by kernel_rfl)) (fun _ _ _ h => h) (Or.inl ⟨by rfl, ?_⟩) hHeld ?_ ?_
  rotate_left
  · intro w' hs
    refine load_held (C := footA f) (b := w.heap.size) 39 (.tmp 2) ?_ ?_ hs Try.underlying39 rfl (size39 f)
    · rfl
    · rfl
  rotate_left
  · simp only [Act.put, List.setIfInBounds_toArray, List.set_cons_zero, List.set_cons_succ]
    rfl
  refine one_ (i := 2) (N := some 19) #[true, true, true, true, true, false, false, false, false] rfl rfl (one_of HT_.out (by kernel_rfl)) (by decide) (fun K hK => ?_)
  refine goes_ Try.func20 (by kernel_rfl) rfl #[.agg (footA f), .int .i64 y, .bool true] (by rfl) rfl rfl (by (try simp only [List.map_toArray, List.map_cons, List.map_nil]); first | done | rfl) ?_
  with_reducible refine (shift_calls k f y true s _ HS.out).mono ?_
  rintro e w4 ⟨rfl, hb⟩
  refine ⟨_, rfl, ?_⟩
  have HK4 := Aside0.mk (blk_below HKd.out hb)
  have HB4 := Aside0.mk (below_step HBd.out hb)
  clear hb HKd HBd
  refine hK.out _ _ (rng_blk HK4.out) (fun hHeld => ?_)
  clear hK K
  refine norm_ (a' := ?_) ?_ ?_
  rotate_left
  · show Act.put _ (some 19) _ = _
    simp only [Act.put, List.setIfInBounds_toArray, List.set_cons_zero, List.set_cons_succ]
    rfl
  refine one_ (i := 5) (N := some 22) #[true, true, true, true, true, true, false, false, false] rfl rfl (one_of HT_.out (by kernel_rfl)) (by decide) (fun K hK => ?_)
  refine goes_ Try.func20 (by kernel_rfl) rfl #[.agg (footA f), .int .i64 y, .bool false] (by rfl) rfl rfl (by (try simp only [List.map_toArray, List.map_cons, List.map_nil]); first | done | rfl) ?_
  with_reducible refine (shift_calls k f y false t _ HT.out).mono ?_
  rintro e w5 ⟨rfl, hb⟩
  refine ⟨_, rfl, ?_⟩
  have HK5 := Aside0.mk (blk_below HK4.out hb)
  have HB5 := Aside0.mk (below_step HB4.out hb)
  clear hb HK4 HB4
  refine hK.out _ _ (rng_blk HK5.out) (fun hHeld => ?_)
  clear hK K
  refine norm_ (a' := ?_) ?_ ?_
  rotate_left
  · show Act.put _ (some 22) _ = _
    simp only [Act.put, List.setIfInBounds_toArray, List.set_cons_zero, List.set_cons_succ]
    rfl
  refine one_ (i := 6) (N := some 23) #[true, true, true, true, true, true, true, false, false] rfl rfl (one_of HT_.out (by kernel_rfl)) (by decide) (fun K hK => ?_)
  refine event_step (by rfl) (lit2_run (s := s) (t := t) (.tmp 19) (.tmp 22) rfl rfl rfl) ?_
  have HV := Aside0.mk (show (w5.alloc (.cells (twoA s t) 46)).heap[w5.heap.size]? = some (.cells (twoA s t) 46 (0, 0)) from blk_new _ _)
  have HK6 := Aside0.mk (blk_alloc HK5.out (.cells (twoA s t) 46))
  have HB6 := Aside0.mk (below_alloc HB5.out (.cells (twoA s t) 46))
  have HG6 := Aside0.mk HB5.out.size
  change K _ (w5.alloc (.cells (twoA s t) 46))
  generalize w5.heap.size = g at HV HG6 ⊢
  generalize w5.alloc (.cells (twoA s t) 46) = w16 at HV HK6 HB6 ⊢
  refine hK.out _ _ (rng_blk HK6.out) (fun hHeld => ?_)
  clear hK K
  refine norm_ (a' := ?_) ?_ ?_
  rotate_left
  · show Act.put _ (some 23) _ = _
    simp only [Act.put, List.setIfInBounds_toArray, List.set_cons_zero, List.set_cons_succ]
    rfl
  refine pure_ (i := 7) (N := some 4) (v := ?_) (a' := ?_) #[true, true, true, true, true, true, true, true, false] rfl rfl (any_of HT_.out (by kernel_rfl)) (fun _ _ _ h => h) (Or.inl ⟨by rfl, ?_⟩) ?_ ?_
  rotate_left
  · intro w'
    go_simp
    with_reducible rfl
  rotate_left
  · simp only [Act.put, List.setIfInBounds_toArray, List.set_cons_zero, List.set_cons_succ]
    rfl
  refine pure_ (i := 8) (N := some 5) (v := ?_) (a' := ?_) #[true, true, true, true, true, true, true, true, true] rfl rfl (any_of HT_.out (by kernel_rfl)) (fun _ _ _ h => h) (Or.inl ⟨by rfl, ?_⟩) ?_ ?_
  rotate_left
  · intro w'
    go_simp
    with_reducible rfl
  rotate_left
  · simp only [Act.put, List.setIfInBounds_toArray, List.set_cons_zero, List.set_cons_succ]
    rfl
  refine done_ (done_of HT_.out (by kernel_rfl)) ?_
  go_wp2
  go_ret2
  exact ⟨g, rfl, HG6.out, HV.out, HB6.out⟩
end Go.Proofs.Ytehoammeaimobaa.D
