/- computuslaw11.known: what comes of its fixed calls. -/
import Derived.Test.YtehoammeaimobaaQAt
import Derived.Test.YtehoammeaimobaaHEq
import Derived.Test.YtehoammeaimobaaHYearLit
set_option linter.unusedVariables false
set_option linter.unusedSimpArgs false
namespace Go.Proofs.Ytehoammeaimobaa.Q
open Go Go.RowKit Go.Proofs.Ytehoammeaimobaa.D Go.Proofs.YtehoammeaimobaaW.PrintWords Go.Proofs.YtehoammeaimobaaW.PrintLast Go.Proofs.YtehoammeaimobaaW.PrintMore
attribute [local go_sem high] eqA46

def kA : HalfT := ⟨3, 1, 0, 0, 3600, 117, 3600, ⟨#[67, 69, 83, 84]⟩⟩
def kB : HalfT := ⟨10, 1, 0, 0, 3600, 117, 0, ⟨#[67, 69, 84]⟩⟩
def kF : FootT := ⟨true, 0, 3600, kA, kB⟩
def kS : S46 := ⟨1711846800, 7200, true, ⟨#[67, 69, 83, 84]⟩⟩
def kT : S46 := ⟨1729990800, 3600, false, ⟨#[67, 69, 84]⟩⟩
theorem zero37 (W : World) : (zeroValue 37).run Try.prog W = .ok (.agg (halfA zhalf)) W := by kernel_rfl
theorem size37 (h : HalfT) : (Try.prog.info? 37).map (·.size) = some (halfA h).size := by show _ = some 8; kernel_rfl
theorem one_half (h : HalfT) : (halfA h).all (·.oneCell') = true := by simp [halfA, Value.oneCell']
theorem bA34 (W : World) : (Instr.build 34 #[(0, .int .i64 1)]).run Try.prog W = .ok (.agg #[.int .i64 1, .int .i64 0, .int .i64 0]) W := by kernel_rfl
theorem bA35 (W : World) : (Instr.build 35 #[(0, .int .i64 3600), (1, .int .u8 117)]).run Try.prog W = .ok (.agg #[.int .i64 3600, .int .u8 117]) W := by kernel_rfl
theorem bA37 (W : World) : (Instr.build 37 #[(0, .int .i64 3), (1, .agg #[.int .i64 1, .int .i64 0, .int .i64 0]), (2, .agg #[.int .i64 3600, .int .u8 117]), (3, .int .i64 3600), (4, .string ⟨#[67, 69, 83, 84]⟩)]).run Try.prog W = .ok (.agg (halfA kA)) W := by kernel_rfl
theorem bB37 (W : World) : (Instr.build 37 #[(0, .int .i64 10), (1, .agg #[.int .i64 1, .int .i64 0, .int .i64 0]), (2, .agg #[.int .i64 3600, .int .u8 117]), (4, .string ⟨#[67, 69, 84]⟩)]).run Try.prog W = .ok (.agg (halfA kB)) W := by kernel_rfl
theorem b39 (W : World) : (Instr.build 39 #[(0, .bool true), (2, .int .i64 3600), (3, .agg (halfA kA)), (4, .agg (halfA kB))]).run Try.prog W = .ok (.agg (footA kF)) W := by kernel_rfl
theorem b39z (W : World) : (Instr.build 39 #[]).run Try.prog W = .ok (.agg (footA zfoot)) W := by kernel_rfl
theorem two_calls {f : FootT} {y : Int} {s t : S46} (h : ∀ w : World, Calls Try.prog 9 #[.agg (footA f), .int .i64 y] w fun e w' => ∃ g : Nat, e = .returned (.tuple #[.slice (some ⟨g, 0, none⟩) 2 2, .int .i64 0]) ∧ w.heap.size ≤ g ∧ w'.heap[g]? = some (.cells (twoA s t) 46 (0, 0)) ∧ Below w.heap.size w w') (w : World) :
    Calls Try.prog 9 #[.agg (footA f), .int .i64 y] w fun e w' => ∃ g : Nat, e = .returned (.tuple #[.slice (some ⟨g, 0, none⟩) 2 2, .int .i64 0]) ∧ w.heap.size ≤ g ∧ w'.heap[g]? = some (.cells (twoA s t) 46 (0, 0)) ∧ Below w.heap.size w w' := h w
def known.T10 : Bool × List (List Nat × List Nat) := (true, [([], []), ([0], [0]), ([1], [1]), ([2], [2]), ([3], [3]), ([4], [4]), ([5], [5]), ([6, 5], [5, 6]), ([7, 5], [5, 7]), ([8, 5], [5, 8]), ([9, 5], [5, 9]), ([5, 10], [5, 10]), ([11, 5], [11]), ([12], [12]), ([13, 12], [12, 13]), ([14, 12], [12, 14]), ([15, 12], [12, 15]), ([12, 16], [12, 16]), ([17, 12], [17]), ([18], [18]), ([19, 18], [18, 19]), ([20, 18], [18, 20]), ([21, 18], [18, 21]), ([22, 18], [18, 22]), ([18, 23], [18, 23]), ([24, 18], [24]), ([25], [25]), ([26, 25], [25, 26]), ([27, 25], [25, 27]), ([28, 25], [25, 28]), ([29, 25], [25, 29]), ([25, 30], [25, 30]), ([31, 25], [31]), ([32], [32]), ([32], [32]), ([34, 32], [32, 34]), ([35, 32], [32, 35]), ([33, 36, 32], [32, 33, 36]), ([32, 37], [32, 37]), ([38, 32], [38]), ([39], [39]), ([39], [39]), ([41, 39], [39, 41]), ([42, 39], [39, 42]), ([40, 43, 39], [39, 40, 43]), ([39, 44], [39, 44]), ([45, 39], [45]), ([46], [46]), ([47, 46], [46, 47]), ([46, 48], [46, 48]), ([49, 46, 0, 1, 2, 3, 4, 5, 6, 7, 8, 9, 10, 11, 12, 13, 14, 15, 16, 17, 18, 19, 20, 21, 22, 23, 24, 25, 26, 27, 28, 29, 30, 31, 32, 33, 34, 35, 36, 37, 38, 39, 40, 41, 42, 43, 44, 45, 46, 47, 48, 49], [49])])
def known.B10 : List Nat := [0, 1, 3, 7, 15, 31, 63, 127, 255, 511, 1023, 2047, 4095, 8191, 16383, 32767, 65535, 131071, 262143, 524287, 1048575, 2097151, 4194303, 8388607, 16777215, 33554431, 67108863, 134217727, 268435455, 536870911, 1073741823, 2147483647, 4294967295, 8589934591, 8589934591, 25769803775, 60129542143, 137438953471, 274877906943, 549755813887, 1099511627775, 1099511627775, 3298534883327, 7696581394431, 17592186044415, 35184372088831, 70368744177663, 140737488355327, 281474976710655, 562949953421311, 1125899906842623]
theorem known.tab10 : rtab .any (opsOf Try.f13 10) = known.T10 := by kernel_rfl
theorem known.bits10 : waitsOk known.T10.2 known.B10 = true := by kernel_rfl
theorem load2 {w : World} {a : Addr} {v : Value} (hc : w.cell? a = some v) : (loadVar 2 a).run Try.prog w = .ok v w := by go_simp
theorem load4 {w : World} {a : Addr} {v : Value} (hc : w.cell? a = some v) : (loadVar 4 a).run Try.prog w = .ok v w := by go_simp
theorem load9 {w : World} {a : Addr} {v : Value} (hc : w.cell? a = some v) : (loadVar 9 a).run Try.prog w = .ok v w := by go_simp
theorem exec_prim {t : TypeId} (hl : ∀ {w : World} {a : Addr} {v : Value}, w.cell? a = some v → (loadVar t a).run Try.prog w = .ok v w) {o : Oper} {e : Operand → Value} {b k : Nat} {v : Value} {w : World} (x : Operand) (ho : o.op = .load t x) (hx : e x = .pointer (some ⟨b, k, none⟩)) (hc : w.cell? ⟨b, k, none⟩ = some v) : (execOp e o).run Try.prog w = .ok (.value v) w := by
  unfold execOp
  simp only [ho, hx, Instr.loadAt, Instr.sureAddr, Sem.run_bind, Sem.run_pure, Result.andThen_ok, hl hc]
set_option maxHeartbeats 4000000 in
set_option maxRecDepth 100000 in
theorem known_walk (F Z : FootT) (hF : ∀ W : World, (Instr.build 39 #[(0, .bool true), (2, .int .i64 3600), (3, .agg (halfA kA)), (4, .agg (halfA kB))]).run Try.prog W = .ok (.agg (footA F)) W) (hZ : ∀ W : World, (zeroValue 39).run Try.prog W = .ok (.agg (footA Z)) W) (hZ2 : ∀ W : World, (Instr.build 39 #[]).run Try.prog W = .ok (.agg (footA Z)) W) (w : World) (h9 : ∀ w : World, Calls Try.prog 9 #[.agg (footA F), .int .i64 2024] w fun e w' => ∃ g : Nat, e = .returned (.tuple #[.slice (some ⟨g, 0, none⟩) 2 2, .int .i64 0]) ∧ w.heap.size ≤ g ∧ w'.heap[g]? = some (.cells (twoA kS kT) 46 (0, 0)) ∧ Below w.heap.size w w') (h14 : TranGives 14 F 1711846800 kS 0) (h16 : TranGives 16 F 1711846800 kT 0) (h0 : TranGives 14 Z 0 z46 1) :
    Calls Try.prog 13 #[] w fun e w' => e = .returned (.bool true) ∧ Below w.heap.size w w' := by
  have H9 := Aside0.mk h9
  have HF := Aside0.mk hF
  have HZ := Aside0.mk hZ
  have HZ2 := Aside0.mk hZ2
  have H14 := Aside0.mk h14
  have H16 := Aside0.mk h16
  have H0 := Aside0.mk h0
  clear hF hZ hZ2 h9 h14 h16 h0
  go_enter Try.func13, Try.ntmps13
  go_wp2_with (first
    | ((with_reducible refine gate_dst (N := 12) rfl ?_); refine Kd.event_run rfl (exec_build (parts := #[(0, .const (.int .i64 1))]) rfl #[(0, .int .i64 1)] (by simp only [List.map_toArray, List.map_cons, List.map_nil]; rfl) bA34 _) ?_; (try simp only [Act.put, List.setIfInBounds_toArray, List.set_cons_zero, List.set_cons_succ]))
    | ((with_reducible refine gate_dst (N := 13) rfl ?_); refine Kd.event_run rfl (exec_build (parts := #[(0, .const (.int .i64 3600)), (1, .const (.int .u8 117))]) rfl #[(0, .int .i64 3600), (1, .int .u8 117)] (by simp only [List.map_toArray, List.map_cons, List.map_nil]; rfl) bA35 _) ?_; (try simp only [Act.put, List.setIfInBounds_toArray, List.set_cons_zero, List.set_cons_succ]))
    | ((with_reducible refine gate_dst (N := 14) rfl ?_); refine Kd.event_run rfl (exec_build (parts := #[(0, .const (.int .i64 3)), (1, .tmp 12), (2, .tmp 13), (3, .const (.int .i64 3600)), (4, .const (.string ⟨#[67, 69, 83, 84]⟩))]) rfl #[(0, .int .i64 3), (1, .agg #[.int .i64 1, .int .i64 0, .int .i64 0]), (2, .agg #[.int .i64 3600, .int .u8 117]), (3, .int .i64 3600), (4, .string ⟨#[67, 69, 83, 84]⟩)] (by simp only [List.map_toArray, List.map_cons, List.map_nil]; rfl) bA37 _) ?_; (try simp only [Act.put, List.setIfInBounds_toArray, List.set_cons_zero, List.set_cons_succ]))
    | ((with_reducible refine gate_dst (N := 1) rfl ?_); refine alloc_agg rfl 37 rfl (halfA zhalf) zero37 ?_; intro g_h1 hg4 w1 hx3 hb2; have G_h1 := Aside0.mk (show w.heap.size ≤ g_h1 from by rw [hg4]; exact Nat.le_refl _); have B5 := Aside0.mk (hb2); have K6 := Aside0.mk hx3; clear hb2 hx3 hg4; (try simp only [Act.put, List.setIfInBounds_toArray, List.set_cons_zero, List.set_cons_succ]))
    | ((with_reducible refine gate_store (t := 37) (p := 1) rfl ?_); refine store_agg rfl 37 (.tmp 1) (.tmp 14) rfl (D := halfA kA) rfl rfl K6 rfl (size37 _) (one_half _) ?_; intro w7 hp8; have B9 := Aside0.mk (hp8.below _ _ G_h1.out B5.out); have K10 := Aside0.mk hp8.box; clear hp8; (try simp only [Act.put, List.setIfInBounds_toArray, List.set_cons_zero, List.set_cons_succ]))
    | ((with_reducible refine gate_dst (N := 15) rfl ?_); refine Kd.event_run rfl (exec_build (parts := #[(0, .const (.int .i64 1))]) rfl #[(0, .int .i64 1)] (by simp only [List.map_toArray, List.map_cons, List.map_nil]; rfl) bA34 _) ?_; (try simp only [Act.put, List.setIfInBounds_toArray, List.set_cons_zero, List.set_cons_succ]))
    | ((with_reducible refine gate_dst (N := 16) rfl ?_); refine Kd.event_run rfl (exec_build (parts := #[(0, .const (.int .i64 3600)), (1, .const (.int .u8 117))]) rfl #[(0, .int .i64 3600), (1, .int .u8 117)] (by simp only [List.map_toArray, List.map_cons, List.map_nil]; rfl) bA35 _) ?_; (try simp only [Act.put, List.setIfInBounds_toArray, List.set_cons_zero, List.set_cons_succ]))
    | ((with_reducible refine gate_dst (N := 17) rfl ?_); refine Kd.event_run rfl (exec_build (parts := #[(0, .const (.int .i64 10)), (1, .tmp 15), (2, .tmp 16), (4, .const (.string ⟨#[67, 69, 84]⟩))]) rfl #[(0, .int .i64 10), (1, .agg #[.int .i64 1, .int .i64 0, .int .i64 0]), (2, .agg #[.int .i64 3600, .int .u8 117]), (4, .string ⟨#[67, 69, 84]⟩)] (by simp only [List.map_toArray, List.map_cons, List.map_nil]; rfl) bB37 _) ?_; (try simp only [Act.put, List.setIfInBounds_toArray, List.set_cons_zero, List.set_cons_succ]))
    | ((with_reducible refine gate_dst (N := 2) rfl ?_); refine alloc_agg rfl 37 rfl (halfA zhalf) zero37 ?_; intro g_h2 hg14 w11 hx13 hb12; have G_h2 := Aside0.mk (show w.heap.size ≤ g_h2 ∧ g_h1 < g_h2 from by rw [hg14]; exact ⟨B9.out.size, (Array.getElem?_eq_some_iff.1 K10.out).1⟩); have K15 := Aside0.mk (blk_below K10.out hb12); have B16 := Aside0.mk (below_step B9.out hb12); have K17 := Aside0.mk hx13; clear hb12 hx13 hg14; (try simp only [Act.put, List.setIfInBounds_toArray, List.set_cons_zero, List.set_cons_succ]))
    | ((with_reducible refine gate_store (t := 37) (p := 2) rfl ?_); refine store_agg rfl 37 (.tmp 2) (.tmp 17) rfl (D := halfA kB) rfl rfl K17 rfl (size37 _) (one_half _) ?_; intro w18 hp19; have K20 := Aside0.mk ((hp19.other _ (by have h_ := G_h2.out; omega)).trans K15.out); have B21 := Aside0.mk (hp19.below _ _ G_h2.out.1 B16.out); have K22 := Aside0.mk hp19.box; clear hp19; (try simp only [Act.put, List.setIfInBounds_toArray, List.set_cons_zero, List.set_cons_succ]))
    | ((with_reducible refine gate_dst (N := 18) rfl ?_); refine load_opq rfl 37 _ rfl rfl K20 Try.underlying37 rfl (size37 _) ?_; (try simp only [Act.put, List.setIfInBounds_toArray, List.set_cons_zero, List.set_cons_succ]))
    | ((with_reducible refine gate_dst (N := 19) rfl ?_); refine load_opq rfl 37 _ rfl rfl K22 Try.underlying37 rfl (size37 _) ?_; (try simp only [Act.put, List.setIfInBounds_toArray, List.set_cons_zero, List.set_cons_succ]))
    | ((with_reducible refine gate_dst (N := 20) rfl ?_); refine Kd.event_run rfl (exec_build (parts := #[(0, .const (.bool true)), (2, .const (.int .i64 3600)), (3, .tmp 18), (4, .tmp 19)]) rfl #[(0, .bool true), (2, .int .i64 3600), (3, .agg (halfA kA)), (4, .agg (halfA kB))] (by simp only [List.map_toArray, List.map_cons, List.map_nil]; rfl) HF.out _) ?_; (try simp only [Act.put, List.setIfInBounds_toArray, List.set_cons_zero, List.set_cons_succ]))
    | ((with_reducible refine gate_dst (N := 3) rfl ?_); refine alloc_agg rfl 39 rfl (footA Z) HZ.out ?_; intro g_f hg26 w23 hx25 hb24; have G_f := Aside0.mk (show w.heap.size ≤ g_f ∧ g_h1 < g_f ∧ g_h2 < g_f from by rw [hg26]; exact ⟨B21.out.size, (Array.getElem?_eq_some_iff.1 K20.out).1, (Array.getElem?_eq_some_iff.1 K22.out).1⟩); have K27 := Aside0.mk (blk_below K20.out hb24); have K28 := Aside0.mk (blk_below K22.out hb24); have B29 := Aside0.mk (below_step B21.out hb24); have K30 := Aside0.mk hx25; clear hb24 hx25 hg26; (try simp only [Act.put, List.setIfInBounds_toArray, List.set_cons_zero, List.set_cons_succ]))
    | ((with_reducible refine gate_store (t := 39) (p := 3) rfl ?_); refine store_agg rfl 39 (.tmp 3) (.tmp 20) rfl (D := footA F) rfl rfl K30 ((footA_size F).trans (footA_size Z).symm) (size39 F) (one_foot F) ?_; intro w31 hp32; have K33 := Aside0.mk ((hp32.other _ (by have h_ := G_f.out; omega)).trans K27.out); have K34 := Aside0.mk ((hp32.other _ (by have h_ := G_f.out; omega)).trans K28.out); have B35 := Aside0.mk (hp32.below _ _ G_f.out.1 B29.out); have K36 := Aside0.mk hp32.box; clear hp32; (try simp only [Act.put, List.setIfInBounds_toArray, List.set_cons_zero, List.set_cons_succ]))
    | ((with_reducible refine gate_dst (N := 22) rfl ?_); refine load_opq rfl 39 _ rfl rfl K36 Try.underlying39 rfl (size39 _) ?_; (try simp only [Act.put, List.setIfInBounds_toArray, List.set_cons_zero, List.set_cons_succ])))
  refine (two_calls H9.out _).mono ?_
  rintro e w37 ⟨gl, rfl, hle, hblk, hb⟩
  have K38 := Aside0.mk (blk_below K33.out hb)
  have K39 := Aside0.mk (blk_below K34.out hb)
  have K40 := Aside0.mk (blk_below K36.out hb)
  have B41 := Aside0.mk (below_step B35.out hb)
  have K42 := Aside0.mk hblk
  have G_l := Aside0.mk (show w.heap.size ≤ gl ∧ g_h1 < gl ∧ g_h2 < gl ∧ g_f < gl from ⟨Nat.le_trans B35.out.size hle, Nat.lt_of_lt_of_le (Array.getElem?_eq_some_iff.1 K33.out).1 hle, Nat.lt_of_lt_of_le (Array.getElem?_eq_some_iff.1 K34.out).1 hle, Nat.lt_of_lt_of_le (Array.getElem?_eq_some_iff.1 K36.out).1 hle⟩)
  clear hle hblk
  clear hb
  go_wp2_with (first
    | ((with_reducible refine gate_dst (N := 27) rfl ?_); refine load_opq rfl 39 _ rfl rfl K40 Try.underlying39 rfl (size39 _) ?_; (try simp only [Act.put, List.setIfInBounds_toArray, List.set_cons_zero, List.set_cons_succ])))
  refine (tran_calls H14.out _).mono ?_
  rintro e w43 ⟨rfl, hb⟩
  have K44 := Aside0.mk (blk_below K38.out hb)
  have K45 := Aside0.mk (blk_below K39.out hb)
  have K46 := Aside0.mk (blk_below K40.out hb)
  have K47 := Aside0.mk (blk_below K42.out hb)
  have B48 := Aside0.mk (below_step B41.out hb)
  clear hb
  go_wp2_with (first
    | ((with_reducible refine gate_dst (N := 6) rfl ?_); refine alloc_agg rfl 46 rfl (tranA z46) zero46 ?_; intro g_x hg52 w49 hx51 hb50; have G_x := Aside0.mk (show w.heap.size ≤ g_x ∧ g_h1 < g_x ∧ g_h2 < g_x ∧ g_f < g_x ∧ gl < g_x from by rw [hg52]; exact ⟨B48.out.size, (Array.getElem?_eq_some_iff.1 K44.out).1, (Array.getElem?_eq_some_iff.1 K45.out).1, (Array.getElem?_eq_some_iff.1 K46.out).1, (Array.getElem?_eq_some_iff.1 K47.out).1⟩); have K53 := Aside0.mk (blk_below K44.out hb50); have K54 := Aside0.mk (blk_below K45.out hb50); have K55 := Aside0.mk (blk_below K46.out hb50); have K56 := Aside0.mk (blk_below K47.out hb50); have B57 := Aside0.mk (below_step B48.out hb50); have K58 := Aside0.mk hx51; clear hb50 hx51 hg52; (try simp only [Act.put, List.setIfInBounds_toArray, List.set_cons_zero, List.set_cons_succ]))
    | ((with_reducible refine gate_store (t := 46) (p := 6) rfl ?_); refine store_agg rfl 46 (.tmp 6) (.tmp 29) rfl (D := tranA kS) rfl rfl K58 rfl (size46 _) (one_tran _) ?_; intro w59 hp60; have K61 := Aside0.mk ((hp60.other _ (by have h_ := G_x.out; omega)).trans K53.out); have K62 := Aside0.mk ((hp60.other _ (by have h_ := G_x.out; omega)).trans K54.out); have K63 := Aside0.mk ((hp60.other _ (by have h_ := G_x.out; omega)).trans K55.out); have K64 := Aside0.mk ((hp60.other _ (by have h_ := G_x.out; omega)).trans K56.out); have B65 := Aside0.mk (hp60.below _ _ G_x.out.1 B57.out); have K66 := Aside0.mk hp60.box; clear hp60; (try simp only [Act.put, List.setIfInBounds_toArray, List.set_cons_zero, List.set_cons_succ]))
    | ((with_reducible refine gate_dst (N := 32) rfl ?_); refine load_opq rfl 39 _ rfl rfl K63 Try.underlying39 rfl (size39 _) ?_; (try simp only [Act.put, List.setIfInBounds_toArray, List.set_cons_zero, List.set_cons_succ])))
  refine (tran_calls H16.out _).mono ?_
  rintro e w67 ⟨rfl, hb⟩
  have K68 := Aside0.mk (blk_below K61.out hb)
  have K69 := Aside0.mk (blk_below K62.out hb)
  have K70 := Aside0.mk (blk_below K63.out hb)
  have K71 := Aside0.mk (blk_below K64.out hb)
  have K72 := Aside0.mk (blk_below K66.out hb)
  have B73 := Aside0.mk (below_step B65.out hb)
  clear hb
  go_wp2_with (first
    | ((with_reducible refine gate_dst (N := 8) rfl ?_); refine alloc_agg rfl 46 rfl (tranA z46) zero46 ?_; intro g_y hg77 w74 hx76 hb75; have G_y := Aside0.mk (show w.heap.size ≤ g_y ∧ g_h1 < g_y ∧ g_h2 < g_y ∧ g_f < g_y ∧ gl < g_y ∧ g_x < g_y from by rw [hg77]; exact ⟨B73.out.size, (Array.getElem?_eq_some_iff.1 K68.out).1, (Array.getElem?_eq_some_iff.1 K69.out).1, (Array.getElem?_eq_some_iff.1 K70.out).1, (Array.getElem?_eq_some_iff.1 K71.out).1, (Array.getElem?_eq_some_iff.1 K72.out).1⟩); have K78 := Aside0.mk (blk_below K68.out hb75); have K79 := Aside0.mk (blk_below K69.out hb75); have K80 := Aside0.mk (blk_below K70.out hb75); have K81 := Aside0.mk (blk_below K71.out hb75); have K82 := Aside0.mk (blk_below K72.out hb75); have B83 := Aside0.mk (below_step B73.out hb75); have K84 := Aside0.mk hx76; clear hb75 hx76 hg77; (try simp only [Act.put, List.setIfInBounds_toArray, List.set_cons_zero, List.set_cons_succ]))
    | ((with_reducible refine gate_store (t := 46) (p := 8) rfl ?_); refine store_agg rfl 46 (.tmp 8) (.tmp 34) rfl (D := tranA kT) rfl rfl K84 rfl (size46 _) (one_tran _) ?_; intro w85 hp86; have K87 := Aside0.mk ((hp86.other _ (by have h_ := G_y.out; omega)).trans K78.out); have K88 := Aside0.mk ((hp86.other _ (by have h_ := G_y.out; omega)).trans K79.out); have K89 := Aside0.mk ((hp86.other _ (by have h_ := G_y.out; omega)).trans K80.out); have K90 := Aside0.mk ((hp86.other _ (by have h_ := G_y.out; omega)).trans K81.out); have K91 := Aside0.mk ((hp86.other _ (by have h_ := G_y.out; omega)).trans K82.out); have B92 := Aside0.mk (hp86.below _ _ G_y.out.1 B83.out); have K93 := Aside0.mk hp86.box; clear hp86; (try simp only [Act.put, List.setIfInBounds_toArray, List.set_cons_zero, List.set_cons_succ]))
    | ((with_reducible refine gate_dst (N := 37) rfl ?_); refine Kd.event_run rfl (exec_build (parts := #[]) rfl #[] (by simp) HZ2.out _) ?_; (try simp only [Act.put, List.setIfInBounds_toArray, List.set_cons_zero, List.set_cons_succ])))
  refine (tran_calls H0.out _).mono ?_
  rintro e w94 ⟨rfl, hb⟩
  have K95 := Aside0.mk (blk_below K87.out hb)
  have K96 := Aside0.mk (blk_below K88.out hb)
  have K97 := Aside0.mk (blk_below K89.out hb)
  have K98 := Aside0.mk (blk_below K90.out hb)
  have K99 := Aside0.mk (blk_below K91.out hb)
  have K100 := Aside0.mk (blk_below K93.out hb)
  have B101 := Aside0.mk (below_step B92.out hb)
  clear hb
  go_wp2_with (first
    | ((with_reducible refine gate_dst (N := 10) rfl ?_); refine alloc_agg rfl 46 rfl (tranA z46) zero46 ?_; intro g_z hg105 w102 hx104 hb103; have G_z := Aside0.mk (show w.heap.size ≤ g_z ∧ g_h1 < g_z ∧ g_h2 < g_z ∧ g_f < g_z ∧ gl < g_z ∧ g_x < g_z ∧ g_y < g_z from by rw [hg105]; exact ⟨B101.out.size, (Array.getElem?_eq_some_iff.1 K95.out).1, (Array.getElem?_eq_some_iff.1 K96.out).1, (Array.getElem?_eq_some_iff.1 K97.out).1, (Array.getElem?_eq_some_iff.1 K98.out).1, (Array.getElem?_eq_some_iff.1 K99.out).1, (Array.getElem?_eq_some_iff.1 K100.out).1⟩); have K106 := Aside0.mk (blk_below K95.out hb103); have K107 := Aside0.mk (blk_below K96.out hb103); have K108 := Aside0.mk (blk_below K97.out hb103); have K109 := Aside0.mk (blk_below K98.out hb103); have K110 := Aside0.mk (blk_below K99.out hb103); have K111 := Aside0.mk (blk_below K100.out hb103); have B112 := Aside0.mk (below_step B101.out hb103); have K113 := Aside0.mk hx104; clear hb103 hx104 hg105; (try simp only [Act.put, List.setIfInBounds_toArray, List.set_cons_zero, List.set_cons_succ]))
    | ((with_reducible refine gate_store (t := 46) (p := 10) rfl ?_); refine store_agg rfl 46 (.tmp 10) (.tmp 39) rfl (D := tranA z46) rfl rfl K113 rfl (size46 _) (one_tran _) ?_; intro w114 hp115; have K116 := Aside0.mk ((hp115.other _ (by have h_ := G_z.out; omega)).trans K106.out); have K117 := Aside0.mk ((hp115.other _ (by have h_ := G_z.out; omega)).trans K107.out); have K118 := Aside0.mk ((hp115.other _ (by have h_ := G_z.out; omega)).trans K108.out); have K119 := Aside0.mk ((hp115.other _ (by have h_ := G_z.out; omega)).trans K109.out); have K120 := Aside0.mk ((hp115.other _ (by have h_ := G_z.out; omega)).trans K110.out); have K121 := Aside0.mk ((hp115.other _ (by have h_ := G_z.out; omega)).trans K111.out); have B122 := Aside0.mk (hp115.below _ _ G_z.out.1 B112.out); have K123 := Aside0.mk hp115.box; clear hp115; (try simp only [Act.put, List.setIfInBounds_toArray, List.set_cons_zero, List.set_cons_succ]))
    | ((with_reducible refine gate_dst (N := 11) rfl ?_); refine event_W (by rfl) ?hr ?_; (case hr => (go_simp; with_reducible rfl)); (try simp only [Act.put, List.setIfInBounds_toArray, List.set_cons_zero, List.set_cons_succ]))
    | ((with_reducible refine gate_dst (N := 41) rfl ?_); refine event_W (by rfl) ?hr ?_; (case hr => (go_simp; with_reducible rfl)); (try simp only [Act.put, List.setIfInBounds_toArray, List.set_cons_zero, List.set_cons_succ]))
    | ((with_reducible refine gate_dst (N := 42) rfl ?_); refine event_W (by rfl) ?hr ?_; (case hr => (go_simp; with_reducible rfl)); (try simp only [Act.put, List.setIfInBounds_toArray, List.set_cons_zero, List.set_cons_succ]))
    | ((with_reducible refine gate_dst (N := 43) rfl ?_); refine event_W (by rfl) ?hr ?_; (case hr => (go_simp; with_reducible rfl)); (try simp only [Act.put, List.setIfInBounds_toArray, List.set_cons_zero, List.set_cons_succ]))
    | ((with_reducible refine gate_dst (N := 44) rfl ?_); refine event_W (by rfl) ?hr ?_; (case hr => (go_simp; with_reducible rfl)); (try simp only [Act.put, List.setIfInBounds_toArray, List.set_cons_zero, List.set_cons_succ]))
    | ((with_reducible refine gate_dst (N := 45) rfl ?_); refine event_W (by rfl) ?hr ?_; (case hr => (go_simp; with_reducible rfl)); (try simp only [Act.put, List.setIfInBounds_toArray, List.set_cons_zero, List.set_cons_succ]))
    | ((with_reducible refine gate_dst (N := 46) rfl ?_); refine event_W (by rfl) ?hr ?_; (case hr => (go_simp; with_reducible rfl)); (try simp only [Act.put, List.setIfInBounds_toArray, List.set_cons_zero, List.set_cons_succ]))
    | ((with_reducible refine gate_dst (N := 47) rfl ?_); refine event_W (by rfl) ?hr ?_; (case hr => (go_simp; with_reducible rfl)); (try simp only [Act.put, List.setIfInBounds_toArray, List.set_cons_zero, List.set_cons_succ]))
    | ((with_reducible refine gate_dst (N := 48) rfl ?_); refine event_W (by rfl) ?hr ?_; (case hr => (go_simp; with_reducible rfl)); (try simp only [Act.put, List.setIfInBounds_toArray, List.set_cons_zero, List.set_cons_succ]))
    | ((with_reducible refine gate_dst (N := 49) rfl ?_); refine event_W (by rfl) ?hr ?_; (case hr => (go_simp; with_reducible rfl)); (try simp only [Act.put, List.setIfInBounds_toArray, List.set_cons_zero, List.set_cons_succ]))
    | ((with_reducible refine gate_dst (N := 50) rfl ?_); refine event_W (by rfl) ?hr ?_; (case hr => (go_simp; with_reducible rfl)); (try simp only [Act.put, List.setIfInBounds_toArray, List.set_cons_zero, List.set_cons_succ]))
    | ((with_reducible refine gate_dst (N := 51) rfl ?_); refine event_W (by rfl) ?hr ?_; (case hr => (go_simp; with_reducible rfl)); (try simp only [Act.put, List.setIfInBounds_toArray, List.set_cons_zero, List.set_cons_succ]))
    | ((with_reducible refine gate_dst (N := 52) rfl ?_); refine event_W (by rfl) ?hr ?_; (case hr => (go_simp; with_reducible rfl)); (try simp only [Act.put, List.setIfInBounds_toArray, List.set_cons_zero, List.set_cons_succ]))
    | ((with_reducible refine gate_dst (N := 53) rfl ?_); refine event_W (by rfl) ?hr ?_; (case hr => (go_simp; with_reducible rfl)); (try simp only [Act.put, List.setIfInBounds_toArray, List.set_cons_zero, List.set_cons_succ]))
    | ((with_reducible refine gate_dst (N := 54) rfl ?_); refine event_W (by rfl) ?hr ?_; (case hr => (go_simp; with_reducible rfl)); (try simp only [Act.put, List.setIfInBounds_toArray, List.set_cons_zero, List.set_cons_succ]))
    | ((with_reducible refine gate_dst (N := 55) rfl ?_); refine event_W (by rfl) ?hr ?_; (case hr => (go_simp; with_reducible rfl)); (try simp only [Act.put, List.setIfInBounds_toArray, List.set_cons_zero, List.set_cons_succ])))
  refine start_ (n := 51) (S := fun w' => w'.heap[gl]? = some (.cells (twoA kS kT) 46 (0, 0)) ∧ w'.heap[g_x]? = some (.cells (tranA kS) 46 (0, 0)) ∧ w'.heap[g_y]? = some (.cells (tranA kT) 46 (0, 0))) (ds := []) #[false, false, false, false, false, false, false, false, false, false, false, false, false, false, false, false, false, false, false, false, false, false, false, false, false, false, false, false, false, false, false, false, false, false, false, false, false, false, false, false, false, false, false, false, false, false, false, false, false, false, false] (by kernel_rfl) rfl rfl ⟨blk_drew K119.out, blk_drew K120.out, blk_drew K121.out⟩ (fun hHeld => ?_)
  refine with_tabW known.tab10 known.bits10 (fun HT_ HW_ => ?_)
  refine pure_ (i := 0) (N := (some 56)) (v := ?_) (a' := ?_) #[true, false, false, false, false, false, false, false, false, false, false, false, false, false, false, false, false, false, false, false, false, false, false, false, false, false, false, false, false, false, false, false, false, false, false, false, false, false, false, false, false, false, false, false, false, false, false, false, false, false, false] rfl rfl (any_of HT_.out (by kernel_rfl)) (fun _ _ _ h => h) (Or.inl ⟨by rfl, ?_⟩) ?_ ?_
  rotate_left
  · intro w'
    go_simp
    with_reducible rfl
  rotate_left
  · simp only [Act.put, List.setIfInBounds_toArray, List.set_cons_zero, List.set_cons_succ]
    rfl
  refine pure_ (i := 1) (N := (some 57)) (v := ?_) (a' := ?_) #[true, true, false, false, false, false, false, false, false, false, false, false, false, false, false, false, false, false, false, false, false, false, false, false, false, false, false, false, false, false, false, false, false, false, false, false, false, false, false, false, false, false, false, false, false, false, false, false, false, false, false] rfl rfl (any_of HT_.out (by kernel_rfl)) (fun _ _ _ h => h) (Or.inl ⟨by rfl, ?_⟩) ?_ ?_
  rotate_left
  · intro w'
    go_simp
    with_reducible rfl
  rotate_left
  · simp only [Act.put, List.setIfInBounds_toArray, List.set_cons_zero, List.set_cons_succ]
    rfl
  refine pure_ (i := 2) (N := (some 58)) (v := ?_) (a' := ?_) #[true, true, true, false, false, false, false, false, false, false, false, false, false, false, false, false, false, false, false, false, false, false, false, false, false, false, false, false, false, false, false, false, false, false, false, false, false, false, false, false, false, false, false, false, false, false, false, false, false, false, false] rfl rfl (any_of HT_.out (by kernel_rfl)) (fun _ _ _ h => h) (Or.inl ⟨by rfl, ?_⟩) ?_ ?_
  rotate_left
  · intro w'
    go_simp
    with_reducible rfl
  rotate_left
  · simp only [Act.put, List.setIfInBounds_toArray, List.set_cons_zero, List.set_cons_succ]
    rfl
  refine take_ (i := 3) (N := (some 59)) (v := ?_) (a' := ?_) #[true, true, true, true, false, false, false, false, false, false, false, false, false, false, false, false, false, false, false, false, false, false, false, false, false, false, false, false, false, false, false, false, false, false, false, false, false, false, false, false, false, false, false, false, false, false, false, false, false, false, false] rfl rfl (take_ofW HT_.out HW_.out (by kernel_rfl)) (fun _ _ _ h => h) (Or.inl ⟨by rfl, ?_⟩) hHeld ?_ ?_
  rotate_left
  · intro w' hs
    refine exec_prim load2 (b := gl) (k := 0) (v := .int .i64 1711846800) (.tmp 58) ?_ ?_ ((blk_cell hs.1 0).trans rfl)
    · rfl
    · rfl
  rotate_left
  · simp only [Act.put, List.setIfInBounds_toArray, List.set_cons_zero, List.set_cons_succ]
    rfl
  refine pure_ (i := 4) (N := (some 60)) (v := ?_) (a' := ?_) #[true, true, true, true, true, false, false, false, false, false, false, false, false, false, false, false, false, false, false, false, false, false, false, false, false, false, false, false, false, false, false, false, false, false, false, false, false, false, false, false, false, false, false, false, false, false, false, false, false, false, false] rfl rfl (any_of HT_.out (by kernel_rfl)) (fun _ _ _ h => h) (Or.inl ⟨by rfl, ?_⟩) ?_ ?_
  rotate_left
  · intro w'
    go_simp
    with_reducible rfl
  rotate_left
  · simp only [Act.put, List.setIfInBounds_toArray, List.set_cons_zero, List.set_cons_succ]
    rfl
  refine pure_ (i := 5) (N := (some 61)) (v := ?_) (a' := ?_) #[true, true, true, true, true, true, false, false, false, false, false, false, false, false, false, false, false, false, false, false, false, false, false, false, false, false, false, false, false, false, false, false, false, false, false, false, false, false, false, false, false, false, false, false, false, false, false, false, false, false, false] rfl rfl (any_of HT_.out (by kernel_rfl)) (fun _ _ _ h => h) (Or.inl ⟨by rfl, ?_⟩) ?_ ?_
  rotate_left
  · intro w'
    go_simp
    with_reducible rfl
  rotate_left
  · simp only [Act.put, List.setIfInBounds_toArray, List.set_cons_zero, List.set_cons_succ]
    rfl
  refine pure_ (i := 6) (N := (some 62)) (v := ?_) (a' := ?_) #[true, true, true, true, true, true, true, false, false, false, false, false, false, false, false, false, false, false, false, false, false, false, false, false, false, false, false, false, false, false, false, false, false, false, false, false, false, false, false, false, false, false, false, false, false, false, false, false, false, false, false] rfl rfl (any_of HT_.out (by kernel_rfl)) (fun _ _ _ h => h) (Or.inl ⟨by rfl, ?_⟩) ?_ ?_
  rotate_left
  · intro w'
    go_simp
    with_reducible rfl
  rotate_left
  · simp only [Act.put, List.setIfInBounds_toArray, List.set_cons_zero, List.set_cons_succ]
    rfl
  refine pure_ (i := 7) (N := (some 63)) (v := ?_) (a' := ?_) #[true, true, true, true, true, true, true, true, false, false, false, false, false, false, false, false, false, false, false, false, false, false, false, false, false, false, false, false, false, false, false, false, false, false, false, false, false, false, false, false, false, false, false, false, false, false, false, false, false, false, false] rfl rfl (any_of HT_.out (by kernel_rfl)) (fun _ _ _ h => h) (Or.inl ⟨by rfl, ?_⟩) ?_ ?_
  rotate_left
  · intro w'
    go_simp
    with_reducible rfl
  rotate_left
  · simp only [Act.put, List.setIfInBounds_toArray, List.set_cons_zero, List.set_cons_succ]
    rfl
  refine pure_ (i := 8) (N := (some 64)) (v := ?_) (a' := ?_) #[true, true, true, true, true, true, true, true, true, false, false, false, false, false, false, false, false, false, false, false, false, false, false, false, false, false, false, false, false, false, false, false, false, false, false, false, false, false, false, false, false, false, false, false, false, false, false, false, false, false, false] rfl rfl (any_of HT_.out (by kernel_rfl)) (fun _ _ _ h => h) (Or.inl ⟨by rfl, ?_⟩) ?_ ?_
  rotate_left
  · intro w'
    go_simp
    with_reducible rfl
  rotate_left
  · simp only [Act.put, List.setIfInBounds_toArray, List.set_cons_zero, List.set_cons_succ]
    rfl
  refine take_ (i := 9) (N := (some 65)) (v := ?_) (a' := ?_) #[true, true, true, true, true, true, true, true, true, true, false, false, false, false, false, false, false, false, false, false, false, false, false, false, false, false, false, false, false, false, false, false, false, false, false, false, false, false, false, false, false, false, false, false, false, false, false, false, false, false, false] rfl rfl (take_ofW HT_.out HW_.out (by kernel_rfl)) (fun _ _ _ h => h) (Or.inl ⟨by rfl, ?_⟩) hHeld ?_ ?_
  rotate_left
  · intro w' hs
    refine exec_prim load9 (b := gl) (k := 3) (v := .string ⟨#[67, 69, 83, 84]⟩) (.tmp 64) ?_ ?_ ((blk_cell hs.1 3).trans rfl)
    · rfl
    · rfl
  rotate_left
  · simp only [Act.put, List.setIfInBounds_toArray, List.set_cons_zero, List.set_cons_succ]
    rfl
  refine pure_ (i := 10) (N := (some 66)) (v := ?_) (a' := ?_) #[true, true, true, true, true, true, true, true, true, true, true, false, false, false, false, false, false, false, false, false, false, false, false, false, false, false, false, false, false, false, false, false, false, false, false, false, false, false, false, false, false, false, false, false, false, false, false, false, false, false, false] rfl rfl (any_of HT_.out (by kernel_rfl)) (fun _ _ _ h => h) (Or.inl ⟨by rfl, ?_⟩) ?_ ?_
  rotate_left
  · intro w'
    go_simp
    with_reducible rfl
  rotate_left
  · simp only [Act.put, List.setIfInBounds_toArray, List.set_cons_zero, List.set_cons_succ]
    rfl
  refine pure_ (i := 11) (N := (some 67)) (v := ?_) (a' := ?_) #[true, true, true, true, true, true, true, true, true, true, true, true, false, false, false, false, false, false, false, false, false, false, false, false, false, false, false, false, false, false, false, false, false, false, false, false, false, false, false, false, false, false, false, false, false, false, false, false, false, false, false] rfl rfl (any_of HT_.out (by kernel_rfl)) (fun _ _ _ h => h) (Or.inl ⟨by rfl, ?_⟩) ?_ ?_
  rotate_left
  · intro w'
    go_simp
    with_reducible rfl
  rotate_left
  · simp only [Act.put, List.setIfInBounds_toArray, List.set_cons_zero, List.set_cons_succ]
    rfl
  refine pure_ (i := 12) (N := (some 68)) (v := ?_) (a' := ?_) #[true, true, true, true, true, true, true, true, true, true, true, true, true, false, false, false, false, false, false, false, false, false, false, false, false, false, false, false, false, false, false, false, false, false, false, false, false, false, false, false, false, false, false, false, false, false, false, false, false, false, false] rfl rfl (any_of HT_.out (by kernel_rfl)) (fun _ _ _ h => h) (Or.inl ⟨by rfl, ?_⟩) ?_ ?_
  rotate_left
  · intro w'
    go_simp
    with_reducible rfl
  rotate_left
  · simp only [Act.put, List.setIfInBounds_toArray, List.set_cons_zero, List.set_cons_succ]
    rfl
  refine pure_ (i := 13) (N := (some 69)) (v := ?_) (a' := ?_) #[true, true, true, true, true, true, true, true, true, true, true, true, true, true, false, false, false, false, false, false, false, false, false, false, false, false, false, false, false, false, false, false, false, false, false, false, false, false, false, false, false, false, false, false, false, false, false, false, false, false, false] rfl rfl (any_of HT_.out (by kernel_rfl)) (fun _ _ _ h => h) (Or.inl ⟨by rfl, ?_⟩) ?_ ?_
  rotate_left
  · intro w'
    go_simp
    with_reducible rfl
  rotate_left
  · simp only [Act.put, List.setIfInBounds_toArray, List.set_cons_zero, List.set_cons_succ]
    rfl
  refine pure_ (i := 14) (N := (some 70)) (v := ?_) (a' := ?_) #[true, true, true, true, true, true, true, true, true, true, true, true, true, true, true, false, false, false, false, false, false, false, false, false, false, false, false, false, false, false, false, false, false, false, false, false, false, false, false, false, false, false, false, false, false, false, false, false, false, false, false] rfl rfl (any_of HT_.out (by kernel_rfl)) (fun _ _ _ h => h) (Or.inl ⟨by rfl, ?_⟩) ?_ ?_
  rotate_left
  · intro w'
    go_simp
    with_reducible rfl
  rotate_left
  · simp only [Act.put, List.setIfInBounds_toArray, List.set_cons_zero, List.set_cons_succ]
    rfl
  refine pure_ (i := 15) (N := (some 71)) (v := ?_) (a' := ?_) #[true, true, true, true, true, true, true, true, true, true, true, true, true, true, true, true, false, false, false, false, false, false, false, false, false, false, false, false, false, false, false, false, false, false, false, false, false, false, false, false, false, false, false, false, false, false, false, false, false, false, false] rfl rfl (any_of HT_.out (by kernel_rfl)) (fun _ _ _ h => h) (Or.inl ⟨by rfl, ?_⟩) ?_ ?_
  rotate_left
  · intro w'
    go_simp
    with_reducible rfl
  rotate_left
  · simp only [Act.put, List.setIfInBounds_toArray, List.set_cons_zero, List.set_cons_succ]
    rfl
  refine take_ (i := 16) (N := (some 72)) (v := ?_) (a' := ?_) #[true, true, true, true, true, true, true, true, true, true, true, true, true, true, true, true, true, false, false, false, false, false, false, false, false, false, false, false, false, false, false, false, false, false, false, false, false, false, false, false, false, false, false, false, false, false, false, false, false, false, false] rfl rfl (take_ofW HT_.out HW_.out (by kernel_rfl)) (fun _ _ _ h => h) (Or.inl ⟨by rfl, ?_⟩) hHeld ?_ ?_
  rotate_left
  · intro w' hs
    refine exec_prim load4 (b := gl) (k := 2) (v := .bool true) (.tmp 71) ?_ ?_ ((blk_cell hs.1 2).trans rfl)
    · rfl
    · rfl
  rotate_left
  · simp only [Act.put, List.setIfInBounds_toArray, List.set_cons_zero, List.set_cons_succ]
    rfl
  refine pure_ (i := 17) (N := (some 73)) (v := ?_) (a' := ?_) #[true, true, true, true, true, true, true, true, true, true, true, true, true, true, true, true, true, true, false, false, false, false, false, false, false, false, false, false, false, false, false, false, false, false, false, false, false, false, false, false, false, false, false, false, false, false, false, false, false, false, false] rfl rfl (any_of HT_.out (by kernel_rfl)) (fun _ _ _ h => h) (Or.inl ⟨by rfl, ?_⟩) ?_ ?_
  rotate_left
  · intro w'
    go_simp
    with_reducible rfl
  rotate_left
  · simp only [Act.put, List.setIfInBounds_toArray, List.set_cons_zero, List.set_cons_succ]
    rfl
  refine pure_ (i := 18) (N := (some 74)) (v := ?_) (a' := ?_) #[true, true, true, true, true, true, true, true, true, true, true, true, true, true, true, true, true, true, true, false, false, false, false, false, false, false, false, false, false, false, false, false, false, false, false, false, false, false, false, false, false, false, false, false, false, false, false, false, false, false, false] rfl rfl (any_of HT_.out (by kernel_rfl)) (fun _ _ _ h => h) (Or.inl ⟨by rfl, ?_⟩) ?_ ?_
  rotate_left
  · intro w'
    go_simp
    with_reducible rfl
  rotate_left
  · simp only [Act.put, List.setIfInBounds_toArray, List.set_cons_zero, List.set_cons_succ]
    rfl
  refine pure_ (i := 19) (N := (some 75)) (v := ?_) (a' := ?_) #[true, true, true, true, true, true, true, true, true, true, true, true, true, true, true, true, true, true, true, true, false, false, false, false, false, false, false, false, false, false, false, false, false, false, false, false, false, false, false, false, false, false, false, false, false, false, false, false, false, false, false] rfl rfl (any_of HT_.out (by kernel_rfl)) (fun _ _ _ h => h) (Or.inl ⟨by rfl, ?_⟩) ?_ ?_
  rotate_left
  · intro w'
    go_simp
    with_reducible rfl
  rotate_left
  · simp only [Act.put, List.setIfInBounds_toArray, List.set_cons_zero, List.set_cons_succ]
    rfl
  refine pure_ (i := 20) (N := (some 76)) (v := ?_) (a' := ?_) #[true, true, true, true, true, true, true, true, true, true, true, true, true, true, true, true, true, true, true, true, true, false, false, false, false, false, false, false, false, false, false, false, false, false, false, false, false, false, false, false, false, false, false, false, false, false, false, false, false, false, false] rfl rfl (any_of HT_.out (by kernel_rfl)) (fun _ _ _ h => h) (Or.inl ⟨by rfl, ?_⟩) ?_ ?_
  rotate_left
  · intro w'
    go_simp
    with_reducible rfl
  rotate_left
  · simp only [Act.put, List.setIfInBounds_toArray, List.set_cons_zero, List.set_cons_succ]
    rfl
  refine pure_ (i := 21) (N := (some 77)) (v := ?_) (a' := ?_) #[true, true, true, true, true, true, true, true, true, true, true, true, true, true, true, true, true, true, true, true, true, true, false, false, false, false, false, false, false, false, false, false, false, false, false, false, false, false, false, false, false, false, false, false, false, false, false, false, false, false, false] rfl rfl (any_of HT_.out (by kernel_rfl)) (fun _ _ _ h => h) (Or.inl ⟨by rfl, ?_⟩) ?_ ?_
  rotate_left
  · intro w'
    go_simp
    with_reducible rfl
  rotate_left
  · simp only [Act.put, List.setIfInBounds_toArray, List.set_cons_zero, List.set_cons_succ]
    rfl
  refine take_ (i := 22) (N := (some 78)) (v := ?_) (a' := ?_) #[true, true, true, true, true, true, true, true, true, true, true, true, true, true, true, true, true, true, true, true, true, true, true, false, false, false, false, false, false, false, false, false, false, false, false, false, false, false, false, false, false, false, false, false, false, false, false, false, false, false, false] rfl rfl (take_ofW HT_.out HW_.out (by kernel_rfl)) (fun _ _ _ h => h) (Or.inl ⟨by rfl, ?_⟩) hHeld ?_ ?_
  rotate_left
  · intro w' hs
    refine exec_prim load2 (b := gl) (k := 4) (v := .int .i64 1729990800) (.tmp 77) ?_ ?_ ((blk_cell hs.1 4).trans rfl)
    · rfl
    · rfl
  rotate_left
  · simp only [Act.put, List.setIfInBounds_toArray, List.set_cons_zero, List.set_cons_succ]
    rfl
  refine pure_ (i := 23) (N := (some 79)) (v := ?_) (a' := ?_) #[true, true, true, true, true, true, true, true, true, true, true, true, true, true, true, true, true, true, true, true, true, true, true, true, false, false, false, false, false, false, false, false, false, false, false, false, false, false, false, false, false, false, false, false, false, false, false, false, false, false, false] rfl rfl (any_of HT_.out (by kernel_rfl)) (fun _ _ _ h => h) (Or.inl ⟨by rfl, ?_⟩) ?_ ?_
  rotate_left
  · intro w'
    go_simp
    with_reducible rfl
  rotate_left
  · simp only [Act.put, List.setIfInBounds_toArray, List.set_cons_zero, List.set_cons_succ]
    rfl
  refine pure_ (i := 24) (N := (some 80)) (v := ?_) (a' := ?_) #[true, true, true, true, true, true, true, true, true, true, true, true, true, true, true, true, true, true, true, true, true, true, true, true, true, false, false, false, false, false, false, false, false, false, false, false, false, false, false, false, false, false, false, false, false, false, false, false, false, false, false] rfl rfl (any_of HT_.out (by kernel_rfl)) (fun _ _ _ h => h) (Or.inl ⟨by rfl, ?_⟩) ?_ ?_
  rotate_left
  · intro w'
    go_simp
    with_reducible rfl
  rotate_left
  · simp only [Act.put, List.setIfInBounds_toArray, List.set_cons_zero, List.set_cons_succ]
    rfl
  refine pure_ (i := 25) (N := (some 81)) (v := ?_) (a' := ?_) #[true, true, true, true, true, true, true, true, true, true, true, true, true, true, true, true, true, true, true, true, true, true, true, true, true, true, false, false, false, false, false, false, false, false, false, false, false, false, false, false, false, false, false, false, false, false, false, false, false, false, false] rfl rfl (any_of HT_.out (by kernel_rfl)) (fun _ _ _ h => h) (Or.inl ⟨by rfl, ?_⟩) ?_ ?_
  rotate_left
  · intro w'
    go_simp
    with_reducible rfl
  rotate_left
  · simp only [Act.put, List.setIfInBounds_toArray, List.set_cons_zero, List.set_cons_succ]
    rfl
  refine pure_ (i := 26) (N := (some 82)) (v := ?_) (a' := ?_) #[true, true, true, true, true, true, true, true, true, true, true, true, true, true, true, true, true, true, true, true, true, true, true, true, true, true, true, false, false, false, false, false, false, false, false, false, false, false, false, false, false, false, false, false, false, false, false, false, false, false, false] rfl rfl (any_of HT_.out (by kernel_rfl)) (fun _ _ _ h => h) (Or.inl ⟨by rfl, ?_⟩) ?_ ?_
  rotate_left
  · intro w'
    go_simp
    with_reducible rfl
  rotate_left
  · simp only [Act.put, List.setIfInBounds_toArray, List.set_cons_zero, List.set_cons_succ]
    rfl
  refine pure_ (i := 27) (N := (some 83)) (v := ?_) (a' := ?_) #[true, true, true, true, true, true, true, true, true, true, true, true, true, true, true, true, true, true, true, true, true, true, true, true, true, true, true, true, false, false, false, false, false, false, false, false, false, false, false, false, false, false, false, false, false, false, false, false, false, false, false] rfl rfl (any_of HT_.out (by kernel_rfl)) (fun _ _ _ h => h) (Or.inl ⟨by rfl, ?_⟩) ?_ ?_
  rotate_left
  · intro w'
    go_simp
    with_reducible rfl
  rotate_left
  · simp only [Act.put, List.setIfInBounds_toArray, List.set_cons_zero, List.set_cons_succ]
    rfl
  refine pure_ (i := 28) (N := (some 84)) (v := ?_) (a' := ?_) #[true, true, true, true, true, true, true, true, true, true, true, true, true, true, true, true, true, true, true, true, true, true, true, true, true, true, true, true, true, false, false, false, false, false, false, false, false, false, false, false, false, false, false, false, false, false, false, false, false, false, false] rfl rfl (any_of HT_.out (by kernel_rfl)) (fun _ _ _ h => h) (Or.inl ⟨by rfl, ?_⟩) ?_ ?_
  rotate_left
  · intro w'
    go_simp
    with_reducible rfl
  rotate_left
  · simp only [Act.put, List.setIfInBounds_toArray, List.set_cons_zero, List.set_cons_succ]
    rfl
  refine take_ (i := 29) (N := (some 85)) (v := ?_) (a' := ?_) #[true, true, true, true, true, true, true, true, true, true, true, true, true, true, true, true, true, true, true, true, true, true, true, true, true, true, true, true, true, true, false, false, false, false, false, false, false, false, false, false, false, false, false, false, false, false, false, false, false, false, false] rfl rfl (take_ofW HT_.out HW_.out (by kernel_rfl)) (fun _ _ _ h => h) (Or.inl ⟨by rfl, ?_⟩) hHeld ?_ ?_
  rotate_left
  · intro w' hs
    refine exec_prim load2 (b := gl) (k := 5) (v := .int .i64 3600) (.tmp 84) ?_ ?_ ((blk_cell hs.1 5).trans rfl)
    · rfl
    · rfl
  rotate_left
  · simp only [Act.put, List.setIfInBounds_toArray, List.set_cons_zero, List.set_cons_succ]
    rfl
  refine pure_ (i := 30) (N := (some 86)) (v := ?_) (a' := ?_) #[true, true, true, true, true, true, true, true, true, true, true, true, true, true, true, true, true, true, true, true, true, true, true, true, true, true, true, true, true, true, true, false, false, false, false, false, false, false, false, false, false, false, false, false, false, false, false, false, false, false, false] rfl rfl (any_of HT_.out (by kernel_rfl)) (fun _ _ _ h => h) (Or.inl ⟨by rfl, ?_⟩) ?_ ?_
  rotate_left
  · intro w'
    go_simp
    with_reducible rfl
  rotate_left
  · simp only [Act.put, List.setIfInBounds_toArray, List.set_cons_zero, List.set_cons_succ]
    rfl
  refine pure_ (i := 31) (N := (some 87)) (v := ?_) (a' := ?_) #[true, true, true, true, true, true, true, true, true, true, true, true, true, true, true, true, true, true, true, true, true, true, true, true, true, true, true, true, true, true, true, true, false, false, false, false, false, false, false, false, false, false, false, false, false, false, false, false, false, false, false] rfl rfl (any_of HT_.out (by kernel_rfl)) (fun _ _ _ h => h) (Or.inl ⟨by rfl, ?_⟩) ?_ ?_
  rotate_left
  · intro w'
    go_simp
    with_reducible rfl
  rotate_left
  · simp only [Act.put, List.setIfInBounds_toArray, List.set_cons_zero, List.set_cons_succ]
    rfl
  refine pure_ (i := 32) (N := (some 88)) (v := ?_) (a' := ?_) #[true, true, true, true, true, true, true, true, true, true, true, true, true, true, true, true, true, true, true, true, true, true, true, true, true, true, true, true, true, true, true, true, true, false, false, false, false, false, false, false, false, false, false, false, false, false, false, false, false, false, false] rfl rfl (any_of HT_.out (by kernel_rfl)) (fun _ _ _ h => h) (Or.inl ⟨by rfl, ?_⟩) ?_ ?_
  rotate_left
  · intro w'
    go_simp
    with_reducible rfl
  rotate_left
  · simp only [Act.put, List.setIfInBounds_toArray, List.set_cons_zero, List.set_cons_succ]
    rfl
  refine take_ (i := 33) (N := (some 89)) (v := ?_) (a' := ?_) #[true, true, true, true, true, true, true, true, true, true, true, true, true, true, true, true, true, true, true, true, true, true, true, true, true, true, true, true, true, true, true, true, true, true, false, false, false, false, false, false, false, false, false, false, false, false, false, false, false, false, false] rfl rfl (take_ofW HT_.out HW_.out (by kernel_rfl)) (fun _ _ _ h => h) (Or.inl ⟨by rfl, ?_⟩) hHeld ?_ ?_
  rotate_left
  · intro w' hs
    refine load_held (C := tranA kS) (b := g_x) 46 (.tmp 6) ?_ ?_ (rng_blk hs.2.1) Try.underlying46 rfl (size46 _)
    · rfl
    · rfl
  rotate_left
  · simp only [Act.put, List.setIfInBounds_toArray, List.set_cons_zero, List.set_cons_succ]
    rfl
  refine pure_ (i := 34) (N := (some 90)) (v := ?_) (a' := ?_) #[true, true, true, true, true, true, true, true, true, true, true, true, true, true, true, true, true, true, true, true, true, true, true, true, true, true, true, true, true, true, true, true, true, true, true, false, false, false, false, false, false, false, false, false, false, false, false, false, false, false, false] rfl rfl (any_of HT_.out (by kernel_rfl)) (fun _ _ _ h => h) (Or.inl ⟨by rfl, ?_⟩) ?_ ?_
  rotate_left
  · intro w'
    go_simp
    with_reducible rfl
  rotate_left
  · simp only [Act.put, List.setIfInBounds_toArray, List.set_cons_zero, List.set_cons_succ]
    rfl
  refine pure_ (i := 35) (N := (some 91)) (v := ?_) (a' := ?_) #[true, true, true, true, true, true, true, true, true, true, true, true, true, true, true, true, true, true, true, true, true, true, true, true, true, true, true, true, true, true, true, true, true, true, true, true, false, false, false, false, false, false, false, false, false, false, false, false, false, false, false] rfl rfl (any_of HT_.out (by kernel_rfl)) (fun _ _ _ h => h) (Or.inl ⟨by rfl, ?_⟩) ?_ ?_
  rotate_left
  · intro w'
    go_simp
    with_reducible rfl
  rotate_left
  · simp only [Act.put, List.setIfInBounds_toArray, List.set_cons_zero, List.set_cons_succ]
    rfl
  refine take_ (i := 36) (N := (some 92)) (v := ?_) (a' := ?_) #[true, true, true, true, true, true, true, true, true, true, true, true, true, true, true, true, true, true, true, true, true, true, true, true, true, true, true, true, true, true, true, true, true, true, true, true, true, false, false, false, false, false, false, false, false, false, false, false, false, false, false] rfl rfl (take_ofW HT_.out HW_.out (by kernel_rfl)) (fun _ _ _ h => h) (Or.inl ⟨by rfl, ?_⟩) hHeld ?_ ?_
  rotate_left
  · intro w' hs
    refine load_part (D := tranA kS) (b := gl) (k := 0) 46 (.tmp 91) ?_ ?_ hs.1 (by rfl) Try.underlying46 rfl (size46 _)
    · rfl
    · rfl
  rotate_left
  · simp only [Act.put, List.setIfInBounds_toArray, List.set_cons_zero, List.set_cons_succ]
    rfl
  refine pure_ (i := 37) (N := (some 93)) (v := ?_) (a' := ?_) #[true, true, true, true, true, true, true, true, true, true, true, true, true, true, true, true, true, true, true, true, true, true, true, true, true, true, true, true, true, true, true, true, true, true, true, true, true, true, false, false, false, false, false, false, false, false, false, false, false, false, false] rfl rfl (any_of HT_.out (by kernel_rfl)) (fun _ _ _ h => h) (Or.inl ⟨by rfl, ?_⟩) ?_ ?_
  rotate_left
  · intro w'
    refine exec_same46 (s := kS) (.tmp 89) (.tmp 92) 46 ?_ ?_ ?_ _
    · rfl
    · rfl
    · rfl
  rotate_left
  · simp only [Act.put, List.setIfInBounds_toArray, List.set_cons_zero, List.set_cons_succ]
    rfl
  refine pure_ (i := 38) (N := (some 94)) (v := ?_) (a' := ?_) #[true, true, true, true, true, true, true, true, true, true, true, true, true, true, true, true, true, true, true, true, true, true, true, true, true, true, true, true, true, true, true, true, true, true, true, true, true, true, true, false, false, false, false, false, false, false, false, false, false, false, false] rfl rfl (any_of HT_.out (by kernel_rfl)) (fun _ _ _ h => h) (Or.inl ⟨by rfl, ?_⟩) ?_ ?_
  rotate_left
  · intro w'
    go_simp
    with_reducible rfl
  rotate_left
  · simp only [Act.put, List.setIfInBounds_toArray, List.set_cons_zero, List.set_cons_succ]
    rfl
  refine pure_ (i := 39) (N := (some 95)) (v := ?_) (a' := ?_) #[true, true, true, true, true, true, true, true, true, true, true, true, true, true, true, true, true, true, true, true, true, true, true, true, true, true, true, true, true, true, true, true, true, true, true, true, true, true, true, true, false, false, false, false, false, false, false, false, false, false, false] rfl rfl (any_of HT_.out (by kernel_rfl)) (fun _ _ _ h => h) (Or.inl ⟨by rfl, ?_⟩) ?_ ?_
  rotate_left
  · intro w'
    go_simp
    with_reducible rfl
  rotate_left
  · simp only [Act.put, List.setIfInBounds_toArray, List.set_cons_zero, List.set_cons_succ]
    rfl
  refine take_ (i := 40) (N := (some 96)) (v := ?_) (a' := ?_) #[true, true, true, true, true, true, true, true, true, true, true, true, true, true, true, true, true, true, true, true, true, true, true, true, true, true, true, true, true, true, true, true, true, true, true, true, true, true, true, true, true, false, false, false, false, false, false, false, false, false, false] rfl rfl (take_ofW HT_.out HW_.out (by kernel_rfl)) (fun _ _ _ h => h) (Or.inl ⟨by rfl, ?_⟩) hHeld ?_ ?_
  rotate_left
  · intro w' hs
    refine load_held (C := tranA kT) (b := g_y) 46 (.tmp 8) ?_ ?_ (rng_blk hs.2.2) Try.underlying46 rfl (size46 _)
    · rfl
    · rfl
  rotate_left
  · simp only [Act.put, List.setIfInBounds_toArray, List.set_cons_zero, List.set_cons_succ]
    rfl
  refine pure_ (i := 41) (N := (some 97)) (v := ?_) (a' := ?_) #[true, true, true, true, true, true, true, true, true, true, true, true, true, true, true, true, true, true, true, true, true, true, true, true, true, true, true, true, true, true, true, true, true, true, true, true, true, true, true, true, true, true, false, false, false, false, false, false, false, false, false] rfl rfl (any_of HT_.out (by kernel_rfl)) (fun _ _ _ h => h) (Or.inl ⟨by rfl, ?_⟩) ?_ ?_
  rotate_left
  · intro w'
    go_simp
    with_reducible rfl
  rotate_left
  · simp only [Act.put, List.setIfInBounds_toArray, List.set_cons_zero, List.set_cons_succ]
    rfl
  refine pure_ (i := 42) (N := (some 98)) (v := ?_) (a' := ?_) #[true, true, true, true, true, true, true, true, true, true, true, true, true, true, true, true, true, true, true, true, true, true, true, true, true, true, true, true, true, true, true, true, true, true, true, true, true, true, true, true, true, true, true, false, false, false, false, false, false, false, false] rfl rfl (any_of HT_.out (by kernel_rfl)) (fun _ _ _ h => h) (Or.inl ⟨by rfl, ?_⟩) ?_ ?_
  rotate_left
  · intro w'
    go_simp
    with_reducible rfl
  rotate_left
  · simp only [Act.put, List.setIfInBounds_toArray, List.set_cons_zero, List.set_cons_succ]
    rfl
  refine take_ (i := 43) (N := (some 99)) (v := ?_) (a' := ?_) #[true, true, true, true, true, true, true, true, true, true, true, true, true, true, true, true, true, true, true, true, true, true, true, true, true, true, true, true, true, true, true, true, true, true, true, true, true, true, true, true, true, true, true, true, false, false, false, false, false, false, false] rfl rfl (take_ofW HT_.out HW_.out (by kernel_rfl)) (fun _ _ _ h => h) (Or.inl ⟨by rfl, ?_⟩) hHeld ?_ ?_
  rotate_left
  · intro w' hs
    refine load_part (D := tranA kT) (b := gl) (k := 4) 46 (.tmp 98) ?_ ?_ hs.1 (by rfl) Try.underlying46 rfl (size46 _)
    · rfl
    · rfl
  rotate_left
  · simp only [Act.put, List.setIfInBounds_toArray, List.set_cons_zero, List.set_cons_succ]
    rfl
  refine pure_ (i := 44) (N := (some 100)) (v := ?_) (a' := ?_) #[true, true, true, true, true, true, true, true, true, true, true, true, true, true, true, true, true, true, true, true, true, true, true, true, true, true, true, true, true, true, true, true, true, true, true, true, true, true, true, true, true, true, true, true, true, false, false, false, false, false, false] rfl rfl (any_of HT_.out (by kernel_rfl)) (fun _ _ _ h => h) (Or.inl ⟨by rfl, ?_⟩) ?_ ?_
  rotate_left
  · intro w'
    refine exec_same46 (s := kT) (.tmp 96) (.tmp 99) 46 ?_ ?_ ?_ _
    · rfl
    · rfl
    · rfl
  rotate_left
  · simp only [Act.put, List.setIfInBounds_toArray, List.set_cons_zero, List.set_cons_succ]
    rfl
  refine pure_ (i := 45) (N := (some 101)) (v := ?_) (a' := ?_) #[true, true, true, true, true, true, true, true, true, true, true, true, true, true, true, true, true, true, true, true, true, true, true, true, true, true, true, true, true, true, true, true, true, true, true, true, true, true, true, true, true, true, true, true, true, true, false, false, false, false, false] rfl rfl (any_of HT_.out (by kernel_rfl)) (fun _ _ _ h => h) (Or.inl ⟨by rfl, ?_⟩) ?_ ?_
  rotate_left
  · intro w'
    go_simp
    with_reducible rfl
  rotate_left
  · simp only [Act.put, List.setIfInBounds_toArray, List.set_cons_zero, List.set_cons_succ]
    rfl
  refine pure_ (i := 46) (N := (some 102)) (v := ?_) (a' := ?_) #[true, true, true, true, true, true, true, true, true, true, true, true, true, true, true, true, true, true, true, true, true, true, true, true, true, true, true, true, true, true, true, true, true, true, true, true, true, true, true, true, true, true, true, true, true, true, true, false, false, false, false] rfl rfl (any_of HT_.out (by kernel_rfl)) (fun _ _ _ h => h) (Or.inl ⟨by rfl, ?_⟩) ?_ ?_
  rotate_left
  · intro w'
    go_simp
    with_reducible rfl
  rotate_left
  · simp only [Act.put, List.setIfInBounds_toArray, List.set_cons_zero, List.set_cons_succ]
    rfl
  refine pure_ (i := 47) (N := (some 103)) (v := ?_) (a' := ?_) #[true, true, true, true, true, true, true, true, true, true, true, true, true, true, true, true, true, true, true, true, true, true, true, true, true, true, true, true, true, true, true, true, true, true, true, true, true, true, true, true, true, true, true, true, true, true, true, true, false, false, false] rfl rfl (any_of HT_.out (by kernel_rfl)) (fun _ _ _ h => h) (Or.inl ⟨by rfl, ?_⟩) ?_ ?_
  rotate_left
  · intro w'
    go_simp
    with_reducible rfl
  rotate_left
  · simp only [Act.put, List.setIfInBounds_toArray, List.set_cons_zero, List.set_cons_succ]
    rfl
  refine pure_ (i := 48) (N := (some 104)) (v := ?_) (a' := ?_) #[true, true, true, true, true, true, true, true, true, true, true, true, true, true, true, true, true, true, true, true, true, true, true, true, true, true, true, true, true, true, true, true, true, true, true, true, true, true, true, true, true, true, true, true, true, true, true, true, true, false, false] rfl rfl (any_of HT_.out (by kernel_rfl)) (fun _ _ _ h => h) (Or.inl ⟨by rfl, ?_⟩) ?_ ?_
  rotate_left
  · intro w'
    go_simp
    with_reducible rfl
  rotate_left
  · simp only [Act.put, List.setIfInBounds_toArray, List.set_cons_zero, List.set_cons_succ]
    rfl
  refine pure_ (i := 49) (N := (some 105)) (v := ?_) (a' := ?_) #[true, true, true, true, true, true, true, true, true, true, true, true, true, true, true, true, true, true, true, true, true, true, true, true, true, true, true, true, true, true, true, true, true, true, true, true, true, true, true, true, true, true, true, true, true, true, true, true, true, true, false] rfl rfl (any_of HT_.out (by kernel_rfl)) (fun _ _ _ h => h) (Or.inl ⟨by rfl, ?_⟩) ?_ ?_
  rotate_left
  · intro w'
    go_simp
    with_reducible rfl
  rotate_left
  · simp only [Act.put, List.setIfInBounds_toArray, List.set_cons_zero, List.set_cons_succ]
    rfl
  refine pure_ (i := 50) (N := (some 0)) (v := ?_) (a' := ?_) #[true, true, true, true, true, true, true, true, true, true, true, true, true, true, true, true, true, true, true, true, true, true, true, true, true, true, true, true, true, true, true, true, true, true, true, true, true, true, true, true, true, true, true, true, true, true, true, true, true, true, true] rfl rfl (any_of HT_.out (by kernel_rfl)) (fun _ _ _ h => h) (Or.inl ⟨by rfl, ?_⟩) ?_ ?_
  rotate_left
  · intro w'
    go_simp
    with_reducible rfl
  rotate_left
  · simp only [Act.put, List.setIfInBounds_toArray, List.set_cons_zero, List.set_cons_succ]
    rfl
  refine done_ (done_of HT_.out (by kernel_rfl)) ?_
  go_wp2
  go_ret
  exact ⟨rfl, below_drew1 B122.out⟩
end Go.Proofs.Ytehoammeaimobaa.Q
