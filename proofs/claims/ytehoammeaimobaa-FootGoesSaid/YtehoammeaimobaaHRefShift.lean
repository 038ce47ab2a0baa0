/- Hand contract of computusref11.shift: the reference's shift of a half in a year. -/
import Derived.Test.YtehoammeaimobaaHBox
import Derived.Test.YtehoammeaimobaaDx11
set_option linter.unusedVariables false
namespace Go.Proofs.Ytehoammeaimobaa.D
open Go Go.RowKit Go.Proofs.YtehoammeaimobaaW.PrintWords Go.Proofs.YtehoammeaimobaaW.PrintLast Go.Proofs.YtehoammeaimobaaW.PrintMore

theorem build46 (i o : Int) (d : Bool) (s : ByteArray) (W : World) : (Instr.build 46 #[(0, .int .i64 i), (1, .int .i64 o), (2, .bool d), (3, .string s)]).run Try.prog W = .ok (.agg (tranA ⟨i, o, d, s⟩)) W := by kernel_rfl
set_option maxHeartbeats 4000000 in
set_option maxRecDepth 100000 in
theorem refShift_calls (k : Nat) (h o : HalfT) (off y day e0 i : Int) (w : World) (hd : computusref07_Day.f k y h.m h.k h.wd h.n = some (day, e0)) (hi : computusref09_Instant.f day h.sec h.kd off o.sv = some i) :
    Calls Try.prog 23 #[.agg (halfA h), .agg (halfA o), .int .i64 off, .int .i64 y] w fun e w' => e = .returned (tranV ⟨i, wrap64 (off + h.sv), h.sv != 0, h.ab⟩) ∧ Below w.heap.size w w' := by
  have HD := Aside0.mk hd
  have HI := Aside0.mk hi
  clear hd hi
  go_enter Try.func23, Try.ntmps23
  go_wp2_with (first
    | ((with_reducible refine gate_dst (N := 4) rfl ?_); refine box_agg rfl 27 _ rfl (halfA h) rfl ?_; intro g hg w1 hbox hb1; have HK := Aside0.mk hbox; have HB1 := Aside0.mk hb1; clear hbox hb1; subst hg)
    | ((with_reducible refine gate_dst (N := 5) rfl ?_); refine box_agg rfl 27 _ rfl (halfA o) rfl ?_; intro g2 hg w2 hbox hb2; have HO := Aside0.mk hbox; have HK2 := Aside0.mk (blk_below HK.out hb2); have HB2 := Aside0.mk (below_step HB1.out hb2); clear hbox hb2 hg)
    | ((with_reducible refine gate_dst (N := 8) rfl ?_); refine alloc_agg rfl 46 rfl (tranA z46) zero46 ?_; intro g3 hg w3 hbox hb3; have HR := Aside0.mk hbox; have HK3 := Aside0.mk (blk_below HK2.out hb3); have HO3 := Aside0.mk (blk_below HO.out hb3); have HB3 := Aside0.mk (below_step HB2.out hb3); have HG := Aside0.mk (show w.heap.size < g3 from by rw [hg]; exact (Array.getElem?_eq_some_iff.1 HK2.out).1); clear hbox hb3 hg; have q0 : w3.cell? ⟨w.heap.size, 0, none⟩ = some (.int .i64 h.m) := (blk_cell HK3.out 0).trans rfl; have q1 : w3.cell? ⟨w.heap.size, 1, none⟩ = some (.int .i64 h.k) := (blk_cell HK3.out 1).trans rfl; have q2 : w3.cell? ⟨w.heap.size, 2, none⟩ = some (.int .i64 h.wd) := (blk_cell HK3.out 2).trans rfl; have q3 : w3.cell? ⟨w.heap.size, 3, none⟩ = some (.int .i64 h.n) := (blk_cell HK3.out 3).trans rfl)
    | ((with_reducible refine (computusref07_Day.calls k y h.m h.k h.wd h.n day e0 _ HD.out).mono ?_); rintro e w4 ⟨rfl, hb⟩; have HK4 := Aside0.mk (blk_below HK3.out hb); have HO4 := Aside0.mk (blk_below HO3.out hb); have HR4 := Aside0.mk (blk_below HR.out hb); have HB4 := Aside0.mk (below_step HB3.out hb); clear hb q0 q1 q2 q3; have q4 : w4.cell? ⟨w.heap.size, 4, none⟩ = some (.int .i64 h.sec) := (blk_cell HK4.out 4).trans rfl; have q5 : w4.cell? ⟨w.heap.size, 5, none⟩ = some (.int .u8 h.kd) := (blk_cell HK4.out 5).trans rfl; have q6 : w4.cell? ⟨g2, 6, none⟩ = some (.int .i64 o.sv) := (blk_cell HO4.out 6).trans rfl)
    | ((with_reducible refine (computusref09_Instant.calls day h.sec h.kd off o.sv i _ HI.out).mono ?_); rintro e w5 ⟨rfl, hd⟩; have HK5 := Aside0.mk (blk_below HK4.out hd.below); have HR5 := Aside0.mk (blk_below HR4.out hd.below); have HB5 := Aside0.mk (below_step HB4.out hd.below); clear hd q4 q5 q6; have q4 : w5.cell? ⟨w.heap.size, 6, none⟩ = some (.int .i64 h.sv) := (blk_cell HK5.out 6).trans rfl; have q5 : w5.cell? ⟨w.heap.size, 7, none⟩ = some (.string h.ab) := (blk_cell HK5.out 7).trans rfl)
    | ((with_reducible refine gate_dst (N := 42) rfl ?_); refine Kd.event_run rfl (exec_build (parts := #[(0, .tmp 32), (1, .tmp 36), (2, .tmp 39), (3, .tmp 41)]) rfl #[(0, .int .i64 i), (1, .int .i64 (wrap64 (off + h.sv))), (2, .bool (h.sv != 0)), (3, .string h.ab)] (by simp only [List.map_toArray, List.map_cons, List.map_nil]; rfl) (build46 _ _ _ _) _) ?_)
    | ((with_reducible refine gate_store (t := 46) (p := 8) rfl ?_); refine store_agg rfl 46 (.tmp 8) (.tmp 42) rfl (D := tranA ⟨i, wrap64 (off + h.sv), h.sv != 0, h.ab⟩) rfl rfl HR5 rfl (size46 _) (one_tran _) ?_; intro w6 hput; have HP := Aside0.mk hput; clear hput))
  refine bodyPost_ret (results_cell_row rfl _ _ _ 46 (tranA ⟨i, wrap64 (off + h.sv), h.sv != 0, h.ab⟩) (0, 0) _ rfl HP.out.box Try.underlying46 rfl (size46 _)) rfl ⟨rfl, ?_⟩
  exact HP.out.below _ _ (Nat.le_of_lt HG.out) HB5.out
end Go.Proofs.Ytehoammeaimobaa.D
