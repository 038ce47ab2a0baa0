/- Hand contracts of computuslaw11.given (the program's own foot of the reference's). -/
import Derived.Test.YtehoammeaimobaaHBox
import Derived.Test.YtehoammeaimobaaDx8
set_option linter.unusedVariables false
namespace Go.Proofs.Ytehoammeaimobaa.D
open Go Go.RowKit Go.Proofs.YtehoammeaimobaaW.PrintWords Go.Proofs.YtehoammeaimobaaW.PrintLast Go.Proofs.YtehoammeaimobaaW.PrintMore

theorem half_calls (h : HalfT) (w : World) : Calls Try.prog 21 #[.agg (halfA h)] w fun e w' => e = .returned (.agg (halfA h)) ∧ Below w.heap.size w w' :=
  computuslaw11_half.calls _ _ _ _ _ _ _ _ _ _ _ _ _ _ _ _ w rfl
def given.T1 : Bool × List (List Nat × List Nat) := (true, [([], []), ([0], [0]), ([], []), ([2], [2]), ([], []), ([4], [4]), ([], []), ([6], [6]), ([7], [7]), ([], []), ([9], [9]), ([10, 8], [10]), ([1, 3, 5, 8, 11], [1, 3, 5, 8, 11]), ([12, 11, 0, 1, 2, 3, 4, 5, 6, 7, 8, 9, 10, 11, 12], [12])])
def given.B1 : List Nat := [0, 1, 0, 4, 0, 16, 0, 64, 192, 0, 512, 1984, 4095, 8191]
theorem given.tab1 : rtab .any (opsOf Try.f10 1) = given.T1 := by kernel_rfl
theorem given.bits1 : waitsOk given.T1.2 given.B1 = true := by kernel_rfl
theorem build39 (f : FootT) (W : World) : (Instr.build 39 #[(0, .bool f.has), (1, .int .i64 f.fr), (2, .int .i64 f.off), (3, .agg (halfA f.A)), (4, .agg (halfA f.B))]).run Try.prog W = .ok (.agg (footA f)) W := by kernel_rfl
set_option maxHeartbeats 2000000 in
set_option maxRecDepth 100000 in
theorem given_calls (f : FootT) (w : World) :
    Calls Try.prog 10 #[.agg (footA f)] w fun e w' => e = .returned (.agg (footA f)) ∧ Below w.heap.size w w' := by
  go_enter Try.func10, Try.ntmps10
  go_wp2_with (first
    | ((with_reducible refine gate_dst (N := 1) rfl ?_); refine box_agg rfl 29 _ rfl (footA f) rfl ?_; intro g hg w1 hbox hb1; have HK := Aside0.mk hbox; have HB1 := Aside0.mk hb1; clear hbox hb1; subst hg)
    | ((with_reducible refine gate_dst (N := 2) rfl ?_); refine alloc_agg rfl 39 rfl (footA zfoot) zero39 ?_; intro g hg w2 hbox hb2; have HR := Aside0.mk hbox; have HK2 := Aside0.mk (blk_below HK.out hb2); have HB2 := Aside0.mk (below_step HB1.out hb2); have HG := Aside0.mk (show w.heap.size < g from by rw [hg]; exact (Array.getElem?_eq_some_iff.1 HK.out).1); clear hbox hb2 hg))
  have HKd := Aside0.mk (blk_drew HK2.out)
  have HRd := Aside0.mk (blk_drew HR.out)
  have HBd := Aside0.mk (below_drew1 HB2.out)
  clear HK HK2 HB1 HB2 HR
  refine start_ (n := 14) (S := fun w' => w'.heap[w.heap.size]? = some (.cells (footA f) 29 (0, 0)) ∧ True) (ds := []) #[false, false, false, false, false, false, false, false, false, false, false, false, false, false] (by kernel_rfl) rfl rfl ⟨HKd.out, trivial⟩ (fun hHeld => ?_)
  refine with_tabW given.tab1 given.bits1 (fun HT_ HW_ => ?_)
  generalize w2.drew = w3 at HKd HRd HBd hHeld ⊢
  refine pure_ (i := 0) (N := some 3) (v := ?_) (a' := ?_) #[true, false, false, false, false, false, false, false, false, false, false, false, false, false] rfl rfl (any_of HT_.out (by kernel_rfl)) (fun _ _ _ h => h) (Or.inl ⟨by rfl, ?_⟩) ?_ ?_
  rotate_left
  · intro w'
    go_simp
    with_reducible rfl
  rotate_left
  · simp only [Act.put, List.setIfInBounds_toArray, List.set_cons_zero, List.set_cons_succ]
    rfl
  refine pure_ (i := 2) (N := some 5) (v := ?_) (a' := ?_) #[true, false, true, false, false, false, false, false, false, false, false, false, false, false] rfl rfl (any_of HT_.out (by kernel_rfl)) (fun _ _ _ h => h) (Or.inl ⟨by rfl, ?_⟩) ?_ ?_
  rotate_left
  · intro w'
    go_simp
    with_reducible rfl
  rotate_left
  · simp only [Act.put, List.setIfInBounds_toArray, List.set_cons_zero, List.set_cons_succ]
    rfl
  refine pure_ (i := 4) (N := some 7) (v := ?_) (a' := ?_) #[true, false, true, false, true, false, false, false, false, false, false, false, false, false] rfl rfl (any_of HT_.out (by kernel_rfl)) (fun _ _ _ h => h) (Or.inl ⟨by rfl, ?_⟩) ?_ ?_
  rotate_left
  · intro w'
    go_simp
    with_reducible rfl
  rotate_left
  · simp only [Act.put, List.setIfInBounds_toArray, List.set_cons_zero, List.set_cons_succ]
    rfl
  refine pure_ (i := 6) (N := some 9) (v := ?_) (a' := ?_) #[true, false, true, false, true, false, true, false, false, false, false, false, false, false] rfl rfl (any_of HT_.out (by kernel_rfl)) (fun _ _ _ h => h) (Or.inl ⟨by rfl, ?_⟩) ?_ ?_
  rotate_left
  · intro w'
    go_simp
    with_reducible rfl
  rotate_left
  · simp only [Act.put, List.setIfInBounds_toArray, List.set_cons_zero, List.set_cons_succ]
    rfl
  refine pure_ (i := 9) (N := some 12) (v := ?_) (a' := ?_) #[true, false, true, false, true, false, true, false, false, true, false, false, false, false] rfl rfl (any_of HT_.out (by kernel_rfl)) (fun _ _ _ h => h) (Or.inl ⟨by rfl, ?_⟩) ?_ ?_
  rotate_left
  · intro w'
    go_simp
    with_reducible rfl
  rotate_left
  · simp only [Act.put, List.setIfInBounds_toArray, List.set_cons_zero, List.set_cons_succ]
    rfl
  refine take_ (i := 1) (N := some 4) (v := ?_) (a' := ?_) #[true, true, true, false, true, false, true, false, false, true, false, false, false, false] rfl rfl (take_ofW HT_.out HW_.out (by kernel_rfl)) (fun _ _ _ h => h) (Or.inl ⟨by rfl, ?_⟩) hHeld ?_ ?_
  rotate_left
  · intro w' hs
    have hc : w'.cell? ⟨w.heap.size, 0, none⟩ = some (.bool f.has) := (blk_cell hs.1 0).trans rfl
    go_simp
    with_reducible rfl
  rotate_left
  · simp only [Act.put, List.setIfInBounds_toArray, List.set_cons_zero, List.set_cons_succ]
    rfl
  refine take_ (i := 3) (N := some 6) (v := ?_) (a' := ?_) #[true, true, true, true, true, false, true, false, false, true, false, false, false, false] rfl rfl (take_ofW HT_.out HW_.out (by kernel_rfl)) (fun _ _ _ h => h) (Or.inl ⟨by rfl, ?_⟩) hHeld ?_ ?_
  rotate_left
  · intro w' hs
    have hc : w'.cell? ⟨w.heap.size, 1, none⟩ = some (.int .i64 f.fr) := (blk_cell hs.1 1).trans rfl
    go_simp
    with_reducible rfl
  rotate_left
  · simp only [Act.put, List.setIfInBounds_toArray, List.set_cons_zero, List.set_cons_succ]
    rfl
  refine take_ (i := 5) (N := some 8) (v := ?_) (a' := ?_) #[true, true, true, true, true, true, true, false, false, true, false, false, false, false] rfl rfl (take_ofW HT_.out HW_.out (by kernel_rfl)) (fun _ _ _ h => h) (Or.inl ⟨by rfl, ?_⟩) hHeld ?_ ?_
  rotate_left
  · intro w' hs
    have hc : w'.cell? ⟨w.heap.size, 2, none⟩ = some (.int .i64 f.off) := (blk_cell hs.1 2).trans rfl
    go_simp
    with_reducible rfl
  rotate_left
  · simp only [Act.put, List.setIfInBounds_toArray, List.set_cons_zero, List.set_cons_succ]
    rfl
  refine take_ (i := 7) (N := some 10) (v := ?_) (a' := ?_) #[true, true, true, true, true, true, true, true, false, true, false, false, false, false] rfl rfl (take_ofW HT_.out HW_.out (by kernel_rfl)) (fun _ _ _ h => h) (Or.inl ⟨by rfl, ?_⟩) hHeld ?_ ?_
  rotate_left
  · intro w' hs
    refine load_part (D := halfA f.A) (b := w.heap.size) (k := 3) 27 (.tmp 9) ?_ ?_ hs.1 (part3 f) Try.underlying27 rfl (size27 _)
    · rfl
    · rfl
  rotate_left
  · simp only [Act.put, List.setIfInBounds_toArray, List.set_cons_zero, List.set_cons_succ]
    rfl
  refine take_ (i := 10) (N := some 13) (v := ?_) (a' := ?_) #[true, true, true, true, true, true, true, true, false, true, true, false, false, false] rfl rfl (take_ofW HT_.out HW_.out (by kernel_rfl)) (fun _ _ _ h => h) (Or.inl ⟨by rfl, ?_⟩) hHeld ?_ ?_
  rotate_left
  · intro w' hs
    refine load_part (D := halfA f.B) (b := w.heap.size) (k := 11) 27 (.tmp 12) ?_ ?_ hs.1 (part11 f) Try.underlying27 rfl (size27 _)
    · rfl
    · rfl
  rotate_left
  · simp only [Act.put, List.setIfInBounds_toArray, List.set_cons_zero, List.set_cons_succ]
    rfl
  refine one_ (i := 8) (N := some 11) #[true, true, true, true, true, true, true, true, true, true, true, false, false, false] rfl rfl (one_of HT_.out (by kernel_rfl)) (by decide) (fun K hK => ?_)
  refine goes_ Try.func21 (by kernel_rfl) rfl #[.agg (halfA f.A)] (by rfl) rfl rfl (by (try simp only [List.map_toArray, List.map_cons, List.map_nil]); first | done | rfl) ?_
  with_reducible refine (half_calls f.A _).mono ?_
  rintro e w4 ⟨rfl, hb⟩
  refine ⟨_, rfl, ?_⟩
  have HK4 := Aside0.mk (blk_below HKd.out hb)
  have HR4 := Aside0.mk (blk_below HRd.out hb)
  have HB4 := Aside0.mk (below_step HBd.out hb)
  clear hb HKd HRd HBd
  refine hK.out _ _ ⟨HK4.out, trivial⟩ (fun hHeld => ?_)
  clear hK K
  refine norm_ (a' := ?_) ?_ ?_
  rotate_left
  · show Act.put _ (some 11) _ = _
    simp only [Act.put, List.setIfInBounds_toArray, List.set_cons_zero, List.set_cons_succ]
    rfl
  refine one_ (i := 11) (N := some 14) #[true, true, true, true, true, true, true, true, true, true, true, true, false, false] rfl rfl (one_of HT_.out (by kernel_rfl)) (by decide) (fun K hK => ?_)
  refine goes_ Try.func21 (by kernel_rfl) rfl #[.agg (halfA f.B)] (by rfl) rfl rfl (by (try simp only [List.map_toArray, List.map_cons, List.map_nil]); first | done | rfl) ?_
  with_reducible refine (half_calls f.B _).mono ?_
  rintro e w5 ⟨rfl, hb⟩
  refine ⟨_, rfl, ?_⟩
  have HK5 := Aside0.mk (blk_below HK4.out hb)
  have HR5 := Aside0.mk (blk_below HR4.out hb)
  have HB5 := Aside0.mk (below_step HB4.out hb)
  clear hb HK4 HR4 HB4
  refine hK.out _ _ ⟨HK5.out, trivial⟩ (fun hHeld => ?_)
  clear hK K
  refine norm_ (a' := ?_) ?_ ?_
  rotate_left
  · show Act.put _ (some 14) _ = _
    simp only [Act.put, List.setIfInBounds_toArray, List.set_cons_zero, List.set_cons_succ]
    rfl
  refine pure_ (i := 12) (N := some 15) (v := ?_) (a' := ?_) #[true, true, true, true, true, true, true, true, true, true, true, true, true, false] rfl rfl (any_of HT_.out (by kernel_rfl)) (fun _ _ _ h => h) (Or.inl ⟨by rfl, ?_⟩) ?_ ?_
  rotate_left
  · intro w'
    refine exec_build (parts := #[(0, .tmp 4), (1, .tmp 6), (2, .tmp 8), (3, .tmp 11), (4, .tmp 14)]) ?_ #[(0, .bool f.has), (1, .int .i64 f.fr), (2, .int .i64 f.off), (3, .agg (halfA f.A)), (4, .agg (halfA f.B))] ?_ (build39 f) w'
    · rfl
    · simp only [List.map_toArray, List.map_cons, List.map_nil]; rfl
  rotate_left
  · simp only [Act.put, List.setIfInBounds_toArray, List.set_cons_zero, List.set_cons_succ]
    rfl
  refine one_ (i := 13) (N := none) #[true, true, true, true, true, true, true, true, true, true, true, true, true, true] rfl rfl (one_of HT_.out (by kernel_rfl)) (by decide) (fun K hK => ?_)
  refine store_agg_step (by rfl) 39 (.tmp 2) (.tmp 15) rfl rfl rfl HR5 rfl (size39 f) (one_foot f) ?_
  intro w6 hput
  refine hK.out _ _ ⟨(hput.other _ (Nat.ne_of_lt HG.out)).trans HK5.out, trivial⟩ (fun hHeld => ?_)
  clear hK K
  refine done_ (done_of HT_.out (by kernel_rfl)) ?_
  have HP := Aside0.mk hput
  clear hput
  go_wp2
  refine bodyPost_ret (results_cell_row rfl _ _ _ 39 (footA f) (0, 0) _ rfl HP.out.box Try.underlying39 rfl (size39 f)) rfl ⟨rfl, ?_⟩
  exact HP.out.below _ _ (Nat.le_of_lt HG.out) HB5.out
end Go.Proofs.Ytehoammeaimobaa.D
