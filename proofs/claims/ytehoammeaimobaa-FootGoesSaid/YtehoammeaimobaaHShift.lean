/- Hand contract of foot.shift: a half's shift in a year. -/
import Derived.Test.YtehoammeaimobaaHHalves
import Derived.Test.YtehoammeaimobaaHDay
import Derived.Test.YtehoammeaimobaaDx7
import Derived.Test.YtehoammeaimobaaHLoad
import Derived.Deep.QuietTactic
import Derived.BigQuiet
import Derived.StillTailTactics
set_option linter.unusedVariables false
namespace Go.Proofs.Ytehoammeaimobaa.D
open Go.RowKit Go.Proofs.YtehoammeaimobaaW.PrintWords Go.Proofs.YtehoammeaimobaaW.PrintLast Go.Proofs.YtehoammeaimobaaW.PrintMore

/-- A half's shift in a year; os: what the other one saves. -/
def halfShift (k : Nat) (off y hm h0 h1 h2 h3 hk hsv : Int) (hab : ByteArray) (osv : Int) : Option (Int × Int × Bool × ByteArray) :=
  (when_Day.f k y hm h0 h1 h2).bind fun d => ((fire_Instant.f d.1 h3 hk off osv).bind fun i => some (i, wrap64 (off + hsv), hsv != 0, hab))

def foot_shift.f (k : Nat) (has : Bool) (fr off am a0 a1 a2 a3 : Int) (ak asv : Int) (ab : ByteArray) (bm b0 b1 b2 b3 : Int) (bk bsv : Int) (bb : ByteArray) (y : Int) (first : Bool) : Option (Int × Int × Bool × ByteArray) :=
  if first = decide (am < bm) then halfShift k off y am a0 a1 a2 a3 ak asv ab bsv else halfShift k off y bm b0 b1 b2 b3 bk bsv bb asv

theorem halfShift.mono (k : Nat) (off y hm h0 h1 h2 h3 hk hsv : Int) (hab : ByteArray) (osv : Int) : LeO (halfShift k off y hm h0 h1 h2 h3 hk hsv hab osv) (halfShift (k + 1) off y hm h0 h1 h2 h3 hk hsv hab osv) := by
  unfold halfShift
  exact LeO.bind (when_Day.mono _ _ _ _ _ _) (fun _ => LeO.refl _)
theorem foot_shift.mono : ∀ has fr off am a0 a1 a2 a3 ak asv ab bm b0 b1 b2 b3 bk bsv bb y first k, LeO (foot_shift.f k has fr off am a0 a1 a2 a3 ak asv ab bm b0 b1 b2 b3 bk bsv bb y first) (foot_shift.f (k + 1) has fr off am a0 a1 a2 a3 ak asv ab bm b0 b1 b2 b3 bk bsv bb y first) := by
  intro has fr off am a0 a1 a2 a3 ak asv ab bm b0 b1 b2 b3 bk bsv bb y first k
  unfold foot_shift.f
  exact LeO.ite (halfShift.mono _ _ _ _ _ _ _ _ _ _ _ _) (halfShift.mono _ _ _ _ _ _ _ _ _ _ _ _)

theorem look_same {w w' : World} {g : Nat} {b : Bool} {f : Bool} {A B V : Value} (h : Halves w g f A B) (hV : V = if b = f then A else B) (hw : w'.heap[g]? = w.heap[g]?) : (Instr.lookup 63 (.map (some g)) (.bool b) false).run Try.prog w' = .ok V w' := by
  have h' : Halves w' g f A B := by
    rcases h with h | h
    · exact .inl (hw.trans h)
    · exact .inr (hw.trans h)
  subst hV
  by_cases hb : b = f
  · rw [if_pos hb, hb]; exact h'.first
  · rw [if_neg hb]
    have e : b = !f := by cases b <;> cases f <;> simp_all
    rw [e]; exact h'.other
set_option maxHeartbeats 8000000 in
set_option maxRecDepth 100000 in
theorem Instant_still (a0 : Int) (a1 : Int) (a2 : Int) (a3 : Int) (a4 : Int) (r : Int) (w : World) (h : fire_Instant.f a0 a1 a2 a3 a4 = some r) :
    Calls Try.prog 31 #[.int .i64 a0, .int .i64 a1, .int .u8 a2, .int .i64 a3, .int .i64 a4] w fun e w' => e = .returned (.int .i64 r) ∧ w' = w := by
  have H : (if a2 = 117 then (some (wrap64 ((wrap64 ((wrap64 ((wrap64 ((wrap64 (a0 + 10957)) * 86400)) + a1)) - 0)) - 0))) else (if a2 = 115 then (some (wrap64 ((wrap64 ((wrap64 ((wrap64 ((wrap64 (a0 + 10957)) * 86400)) + a1)) - a3)) - 0))) else (some (wrap64 ((wrap64 ((wrap64 ((wrap64 ((wrap64 (a0 + 10957)) * 86400)) + a1)) - a3)) - a4))))) = some r := h
  clear h
  by_cases c6 : a2 = 117
  · rw [if_pos c6] at H
    have c6b0 : (a2 == 117) = true := beq_iff_eq.mpr c6
    have c6b1 : (a2 != 117) = false := bne_eq_false_iff_eq.mpr c6
    clear c6
    obtain rfl := Option.some.inj H
    go_enter Try.func31, Try.ntmps31
    go_wp2
    go_ret
    exact ⟨by first | rfl | (simp; done) | (simp [*]; done), rfl⟩
  · rw [if_neg c6] at H
    have c6b0 : (a2 == 117) = false := beq_eq_false_iff_ne.mpr c6
    have c6b1 : (a2 != 117) = true := bne_iff_ne.mpr c6
    by_cases c7 : a2 = 115
    · rw [if_pos c7] at H
      have c7b0 : (a2 == 115) = true := beq_iff_eq.mpr c7
      have c7b1 : (a2 != 115) = false := bne_eq_false_iff_eq.mpr c7
      clear c7
      obtain rfl := Option.some.inj H
      go_enter Try.func31, Try.ntmps31
      go_wp2
      go_ret
      exact ⟨by first | rfl | (simp; done) | (simp [*]; done), rfl⟩
    · rw [if_neg c7] at H
      have c7b0 : (a2 == 115) = false := beq_eq_false_iff_ne.mpr c7
      have c7b1 : (a2 != 115) = true := bne_iff_ne.mpr c7
      obtain rfl := Option.some.inj H
      go_enter Try.func31, Try.ntmps31
      go_wp2
      go_ret
      exact ⟨by first | rfl | (simp; done) | (simp [*]; done), rfl⟩

set_option maxHeartbeats 16000000 in
set_option maxRecDepth 100000 in
theorem shift_A (k : Nat) (has : Bool) (fr off am a0 a1 a2 a3 : Int) (ak asv : Int) (ab : ByteArray) (bm b0 b1 b2 b3 : Int) (bk bsv : Int) (bb : ByteArray) (y : Int) (first : Bool) (day e0 i : Int) (w : World) (hf : first = decide (am < bm)) (hd : when_Day.f k y am a0 a1 a2 = some (day, e0)) (hi : fire_Instant.f day a3 ak off bsv = some i) :
    Calls Try.prog 20 #[.agg #[.bool has, .int .i64 fr, .int .i64 off, .int .i64 am, .int .i64 a0, .int .i64 a1, .int .i64 a2, .int .i64 a3, .int .u8 ak, .int .i64 asv, .string ab, .int .i64 bm, .int .i64 b0, .int .i64 b1, .int .i64 b2, .int .i64 b3, .int .u8 bk, .int .i64 bsv, .string bb], .int .i64 y, .bool first] w fun e w' => e = .returned (.agg #[.int .i64 i, .int .i64 (wrap64 (off + asv)), .bool (asv != 0), .string ab]) ∧ Below w.heap.size w w' := by
  have hF := Aside0.mk hf
  have HD := Aside0.mk hd
  have HI := Aside0.mk hi
  clear hf hd hi
  go_enter Try.func20, Try.ntmps20
  go_wp2_with (first
    | ((with_reducible refine gate_dst (N := 3) rfl ?_); refine box_event ?hg (N := 3) ?hd (cs := #[.bool has, .int .i64 fr, .int .i64 off, .int .i64 am, .int .i64 a0, .int .i64 a1, .int .i64 a2, .int .i64 a3, .int .u8 ak, .int .i64 asv, .string ab, .int .i64 bm, .int .i64 b0, .int .i64 b1, .int .i64 b2, .int .i64 b3, .int .u8 bk, .int .i64 bsv, .string bb]) (t := 39) ?hr ?_; (case hd => rfl); (case hg => rfl); (case hr => first | (go_simp; done) | (go_simp; rfl)); intro gb hg wb hbox hb; subst hg)
    | ((with_reducible refine gate_dst (N := 6) rfl ?_); refine box_event ?hg (N := 6) ?hd (cs := #[.int .i64 0, .int .i64 0, .bool false, .string ⟨#[]⟩]) (t := 46) ?hr ?_; (case hd => rfl); (case hg => rfl); (case hr => first | (go_simp; done) | (go_simp; rfl)); intro gr hgr W hr hb2; have hbx := (hb2.block _ (Array.getElem?_eq_some_iff.1 hbox).1).trans hbox)
    | ((with_reducible refine gate_dst (N := 11) rfl ?_); refine load_box rfl 39 _ rfl rfl hbx Try.underlying39 rfl (by kernel_rfl) ?_))
  have hB : Below w.heap.size w W := below_then hb hb.size hb2
  have hlt : w.heap.size < wb.heap.size := (Array.getElem?_eq_some_iff.1 hbox).1
  have hlt2 : gr < W.heap.size := (Array.getElem?_eq_some_iff.1 hr).1
  have hng : w.heap.size ≤ gr := by omega
  have c2 : W.cell? ⟨w.heap.size, 2, none⟩ = some (.int .i64 off) := (blk_cell hbx 2).trans rfl
  have HGR := Aside0.mk hgr
  clear hbox hb hb2 hgr
  rw [← HGR.out] at *
  refine (halves_calls has fr off am a0 a1 a2 a3 ak asv ab bm b0 b1 b2 b3 bk bsv bb _).mono ?_
  rintro e w1 ⟨rfl, hb1, hg1, hh1⟩
  have HB1 := Aside0.mk (below_then hB hB.size hb1)
  have d2 : w1.cell? ⟨w.heap.size, 2, none⟩ = some (.int .i64 off) := pw_cell_below hb1 c2
  have hr1 : w1.heap[gr]? = some (.cells #[.int .i64 0, .int .i64 0, .bool false, .string ⟨#[]⟩] 46 (0, 0)) := (hb1.block _ hlt2).trans hr
  have hl1 : ∀ w', w'.heap[W.heap.size + 1]? = w1.heap[W.heap.size + 1]? → (Instr.lookup 63 (.map (some (W.heap.size + 1))) (.bool first) false).run Try.prog w' = .ok (.agg #[.int .i64 am, .int .i64 a0, .int .i64 a1, .int .i64 a2, .int .i64 a3, .int .u8 ak, .int .i64 asv, .string ab]) w' := fun w' h => look_same hh1 (by rw [if_pos hF.out]) h
  have hl2 : ∀ w', w'.heap[W.heap.size + 1]? = w1.heap[W.heap.size + 1]? → (Instr.lookup 63 (.map (some (W.heap.size + 1))) (.bool (!first)) false).run Try.prog w' = .ok (.agg #[.int .i64 bm, .int .i64 b0, .int .i64 b1, .int .i64 b2, .int .i64 b3, .int .u8 bk, .int .i64 bsv, .string bb]) w' := fun w' h => look_same hh1 (by rw [if_neg (by rw [hF.out]; cases decide (am < bm) <;> decide)]) h
  have hq := hl1 w1 rfl
  have HL2 := Aside0.mk hl2
  have HS := Aside0.mk (show w.heap.size ≤ gr ∧ W.heap.size + 1 < w1.heap.size from ⟨hng, hg1⟩)
  have HR1 := Aside0.mk hr1
  clear hb1 c2 hr hB hl1 hl2 hh1 hF hg1 hbx hlt hlt2 hng HGR hr1
  generalize W.heap.size + 1 = g at *
  go_wp2_with (fail)
  have hbl : (w1.alloc (.cells #[.int .i64 am, .int .i64 a0, .int .i64 a1, .int .i64 a2, .int .i64 a3, .int .u8 ak, .int .i64 asv, .string ab] 37)).heap[w1.heap.size]? = some (.cells #[.int .i64 am, .int .i64 a0, .int .i64 a1, .int .i64 a2, .int .i64 a3, .int .u8 ak, .int .i64 asv, .string ab] 37 (0, 0)) := heap_alloc_new _ _
  refine (when_Day.calls k y am a0 a1 a2 day e0 _ HD.out).mono ?_
  rintro e w3 ⟨rfl, hb3⟩
  have hs1 : w1.heap.size < (w1.alloc (.cells #[.int .i64 am, .int .i64 a0, .int .i64 a1, .int .i64 a2, .int .i64 a3, .int .u8 ak, .int .i64 asv, .string ab] 37)).heap.size := by simp
  have hbl3 := (hb3.block _ hs1).trans hbl
  have k4 : w3.cell? ⟨w1.heap.size, 4, none⟩ = some (.int .i64 a3) := (blk_cell hbl3 4).trans rfl
  have k5 : w3.cell? ⟨w1.heap.size, 5, none⟩ = some (.int .u8 ak) := (blk_cell hbl3 5).trans rfl
  have k6 : w3.cell? ⟨w1.heap.size, 6, none⟩ = some (.int .i64 asv) := (blk_cell hbl3 6).trans rfl
  have k7 : w3.cell? ⟨w1.heap.size, 7, none⟩ = some (.string ab) := (blk_cell hbl3 7).trans rfl
  have hb13 : Below w1.heap.size w1 w3 := below_then (below_alloc (Below.refl _ _) _) (by simp) hb3
  have d3 : w3.cell? ⟨w.heap.size, 2, none⟩ = some (.int .i64 off) := pw_cell_below hb13 d2
  have hgr1 : gr < w1.heap.size := (Array.getElem?_eq_some_iff.1 HR1.out).1
  have hr3 : w3.heap[gr]? = some (.cells #[.int .i64 0, .int .i64 0, .bool false, .string ⟨#[]⟩] 46 (0, 0)) := (hb13.block _ hgr1).trans HR1.out
  have hlk : ∀ n, (Instr.lookup 63 (.map (some g)) (.bool (!first)) false).run Try.prog (w3.drewN n) = .ok (.agg #[.int .i64 bm, .int .i64 b0, .int .i64 b1, .int .i64 b2, .int .i64 b3, .int .u8 bk, .int .i64 bsv, .string bb]) (w3.drewN n) := fun n => HL2.out _ (hb13.block _ HS.out.2)
  have hlk0 : (Instr.lookup 63 (.map (some g)) (.bool (!first)) false).run Try.prog w3.drew = .ok (.agg #[.int .i64 bm, .int .i64 b0, .int .i64 b1, .int .i64 b2, .int .i64 b3, .int .u8 bk, .int .i64 bsv, .string bb]) w3.drew := HL2.out _ (hb13.block _ HS.out.2)
  have HB3 := Aside0.mk (below_then HB1.out HB1.out.size hb13)
  have HGR := Aside0.mk HS.out.1
  have z0 : w3.cell? ⟨gr, 0, none⟩ = some (.int .i64 0) := (blk_cell hr3 0).trans rfl
  have z1 : w3.cell? ⟨gr, 1, none⟩ = some (.int .i64 0) := (blk_cell hr3 1).trans rfl
  have z2 : w3.cell? ⟨gr, 2, none⟩ = some (.bool false) := (blk_cell hr3 2).trans rfl
  have z3 : w3.cell? ⟨gr, 3, none⟩ = some (.string ⟨#[]⟩) := (blk_cell hr3 3).trans rfl
  have f0 := blk_frozen hr3 0
  have f1 := blk_frozen hr3 1
  have f2 := blk_frozen hr3 2
  have f3 := blk_frozen hr3 3
  have HR3 := Aside0.mk hr3
  have hfd : ∀ w, (Instr.field 37 (.agg #[.int .i64 bm, .int .i64 b0, .int .i64 b1, .int .i64 b2, .int .i64 b3, .int .u8 bk, .int .i64 bsv, .string bb]) 3).run Try.prog w = .ok (.int .i64 bsv) w := fun w => by kernel_rfl
  clear hb3 hs1 hbl hbl3 hb13 d2 hgr1 HR1 HL2 HS HB1 hq hr3
  go_wp2_with (fail)
  have IS := fun w => Instant_still day a3 ak off bsv i w HI.out
  refine wp_region_still_tail 26 (by kernel_rfl) (by kernel_rfl) ?_
  simp only [List.take_succ_cons, List.take_zero, List.drop_succ_cons, List.drop_zero]
  repeat still_step
  still_call (IS _)
  repeat still_step
  refine wpStill_nil ?_
  change wpList _ _ _ _ _ w3.drew
  have y0 : w3.drew.cell? ⟨gr, 0, none⟩ = some (.int .i64 0) := z0
  have y1 : w3.drew.cell? ⟨gr, 1, none⟩ = some (.int .i64 0) := z1
  have y2 : w3.drew.cell? ⟨gr, 2, none⟩ = some (.bool false) := z2
  have y3 : w3.drew.cell? ⟨gr, 3, none⟩ = some (.string ⟨#[]⟩) := z3
  have g0 : w3.drew.frozen? ⟨gr, 0, none⟩ = false := f0
  have g1 : w3.drew.frozen? ⟨gr, 1, none⟩ = false := f1
  have g2 : w3.drew.frozen? ⟨gr, 2, none⟩ = false := f2
  have g3 : w3.drew.frozen? ⟨gr, 3, none⟩ = false := f3
  have HRD := Aside0.mk (show w3.drew.heap[gr]? = some (.cells #[.int .i64 0, .int .i64 0, .bool false, .string ⟨#[]⟩] 46 (0, 0)) from HR3.out)
  have HBD := Aside0.mk (below_drew HB3.out)
  clear hlk hlk0 hfd k4 k5 k6 k7 d3 z0 z1 z2 z3 f0 f1 f2 f3 HR3 HB3 IS
  generalize w3.drew = w4 at *
  go_wp2
  refine bodyPost_ret (v := .agg #[.int .i64 i, .int .i64 (wrap64 (off + asv)), .bool (asv != 0), .string ab]) (by simp [results, Try.results20, go_sem, y0, y1, y2, y3]) rfl ⟨rfl, ?_⟩
  exact (((HBD.out.setCell (p := ⟨gr, 0, none⟩) HGR.out _).setCell (p := ⟨gr, 1, none⟩) HGR.out _).setCell (p := ⟨gr, 2, none⟩) HGR.out _).setCell (p := ⟨gr, 3, none⟩) HGR.out _
set_option maxHeartbeats 16000000 in
set_option maxRecDepth 100000 in
theorem shift_B (k : Nat) (has : Bool) (fr off am a0 a1 a2 a3 : Int) (ak asv : Int) (ab : ByteArray) (bm b0 b1 b2 b3 : Int) (bk bsv : Int) (bb : ByteArray) (y : Int) (first : Bool) (day e0 i : Int) (w : World) (hf : ¬ first = decide (am < bm)) (hd : when_Day.f k y bm b0 b1 b2 = some (day, e0)) (hi : fire_Instant.f day b3 bk off asv = some i) :
    Calls Try.prog 20 #[.agg #[.bool has, .int .i64 fr, .int .i64 off, .int .i64 am, .int .i64 a0, .int .i64 a1, .int .i64 a2, .int .i64 a3, .int .u8 ak, .int .i64 asv, .string ab, .int .i64 bm, .int .i64 b0, .int .i64 b1, .int .i64 b2, .int .i64 b3, .int .u8 bk, .int .i64 bsv, .string bb], .int .i64 y, .bool first] w fun e w' => e = .returned (.agg #[.int .i64 i, .int .i64 (wrap64 (off + bsv)), .bool (bsv != 0), .string bb]) ∧ Below w.heap.size w w' := by
  have hF := Aside0.mk hf
  have HD := Aside0.mk hd
  have HI := Aside0.mk hi
  clear hf hd hi
  go_enter Try.func20, Try.ntmps20
  go_wp2_with (first
    | ((with_reducible refine gate_dst (N := 3) rfl ?_); refine box_event ?hg (N := 3) ?hd (cs := #[.bool has, .int .i64 fr, .int .i64 off, .int .i64 am, .int .i64 a0, .int .i64 a1, .int .i64 a2, .int .i64 a3, .int .u8 ak, .int .i64 asv, .string ab, .int .i64 bm, .int .i64 b0, .int .i64 b1, .int .i64 b2, .int .i64 b3, .int .u8 bk, .int .i64 bsv, .string bb]) (t := 39) ?hr ?_; (case hd => rfl); (case hg => rfl); (case hr => first | (go_simp; done) | (go_simp; rfl)); intro gb hg wb hbox hb; subst hg)
    | ((with_reducible refine gate_dst (N := 6) rfl ?_); refine box_event ?hg (N := 6) ?hd (cs := #[.int .i64 0, .int .i64 0, .bool false, .string ⟨#[]⟩]) (t := 46) ?hr ?_; (case hd => rfl); (case hg => rfl); (case hr => first | (go_simp; done) | (go_simp; rfl)); intro gr hgr W hr hb2; have hbx := (hb2.block _ (Array.getElem?_eq_some_iff.1 hbox).1).trans hbox)
    | ((with_reducible refine gate_dst (N := 11) rfl ?_); refine load_box rfl 39 _ rfl rfl hbx Try.underlying39 rfl (by kernel_rfl) ?_))
  have hB : Below w.heap.size w W := below_then hb hb.size hb2
  have hlt : w.heap.size < wb.heap.size := (Array.getElem?_eq_some_iff.1 hbox).1
  have hlt2 : gr < W.heap.size := (Array.getElem?_eq_some_iff.1 hr).1
  have hng : w.heap.size ≤ gr := by omega
  have c2 : W.cell? ⟨w.heap.size, 2, none⟩ = some (.int .i64 off) := (blk_cell hbx 2).trans rfl
  have HGR := Aside0.mk hgr
  clear hbox hb hb2 hgr
  rw [← HGR.out] at *
  refine (halves_calls has fr off am a0 a1 a2 a3 ak asv ab bm b0 b1 b2 b3 bk bsv bb _).mono ?_
  rintro e w1 ⟨rfl, hb1, hg1, hh1⟩
  have HB1 := Aside0.mk (below_then hB hB.size hb1)
  have d2 : w1.cell? ⟨w.heap.size, 2, none⟩ = some (.int .i64 off) := pw_cell_below hb1 c2
  have hr1 : w1.heap[gr]? = some (.cells #[.int .i64 0, .int .i64 0, .bool false, .string ⟨#[]⟩] 46 (0, 0)) := (hb1.block _ hlt2).trans hr
  have hl1 : ∀ w', w'.heap[W.heap.size + 1]? = w1.heap[W.heap.size + 1]? → (Instr.lookup 63 (.map (some (W.heap.size + 1))) (.bool first) false).run Try.prog w' = .ok (.agg #[.int .i64 bm, .int .i64 b0, .int .i64 b1, .int .i64 b2, .int .i64 b3, .int .u8 bk, .int .i64 bsv, .string bb]) w' := fun w' h => look_same hh1 (by rw [if_neg hF.out]) h
  have hl2 : ∀ w', w'.heap[W.heap.size + 1]? = w1.heap[W.heap.size + 1]? → (Instr.lookup 63 (.map (some (W.heap.size + 1))) (.bool (!first)) false).run Try.prog w' = .ok (.agg #[.int .i64 am, .int .i64 a0, .int .i64 a1, .int .i64 a2, .int .i64 a3, .int .u8 ak, .int .i64 asv, .string ab]) w' := fun w' h => look_same hh1 (by rw [if_pos (by have h_ := hF.out; revert h_; cases first <;> cases decide (am < bm) <;> decide)]) h
  have hq := hl1 w1 rfl
  have HL2 := Aside0.mk hl2
  have HS := Aside0.mk (show w.heap.size ≤ gr ∧ W.heap.size + 1 < w1.heap.size from ⟨hng, hg1⟩)
  have HR1 := Aside0.mk hr1
  clear hb1 c2 hr hB hl1 hl2 hh1 hF hg1 hbx hlt hlt2 hng HGR hr1
  generalize W.heap.size + 1 = g at *
  go_wp2_with (fail)
  have hbl : (w1.alloc (.cells #[.int .i64 bm, .int .i64 b0, .int .i64 b1, .int .i64 b2, .int .i64 b3, .int .u8 bk, .int .i64 bsv, .string bb] 37)).heap[w1.heap.size]? = some (.cells #[.int .i64 bm, .int .i64 b0, .int .i64 b1, .int .i64 b2, .int .i64 b3, .int .u8 bk, .int .i64 bsv, .string bb] 37 (0, 0)) := heap_alloc_new _ _
  refine (when_Day.calls k y bm b0 b1 b2 day e0 _ HD.out).mono ?_
  rintro e w3 ⟨rfl, hb3⟩
  have hs1 : w1.heap.size < (w1.alloc (.cells #[.int .i64 bm, .int .i64 b0, .int .i64 b1, .int .i64 b2, .int .i64 b3, .int .u8 bk, .int .i64 bsv, .string bb] 37)).heap.size := by simp
  have hbl3 := (hb3.block _ hs1).trans hbl
  have k4 : w3.cell? ⟨w1.heap.size, 4, none⟩ = some (.int .i64 b3) := (blk_cell hbl3 4).trans rfl
  have k5 : w3.cell? ⟨w1.heap.size, 5, none⟩ = some (.int .u8 bk) := (blk_cell hbl3 5).trans rfl
  have k6 : w3.cell? ⟨w1.heap.size, 6, none⟩ = some (.int .i64 bsv) := (blk_cell hbl3 6).trans rfl
  have k7 : w3.cell? ⟨w1.heap.size, 7, none⟩ = some (.string bb) := (blk_cell hbl3 7).trans rfl
  have hb13 : Below w1.heap.size w1 w3 := below_then (below_alloc (Below.refl _ _) _) (by simp) hb3
  have d3 : w3.cell? ⟨w.heap.size, 2, none⟩ = some (.int .i64 off) := pw_cell_below hb13 d2
  have hgr1 : gr < w1.heap.size := (Array.getElem?_eq_some_iff.1 HR1.out).1
  have hr3 : w3.heap[gr]? = some (.cells #[.int .i64 0, .int .i64 0, .bool false, .string ⟨#[]⟩] 46 (0, 0)) := (hb13.block _ hgr1).trans HR1.out
  have hlk : ∀ n, (Instr.lookup 63 (.map (some g)) (.bool (!first)) false).run Try.prog (w3.drewN n) = .ok (.agg #[.int .i64 am, .int .i64 a0, .int .i64 a1, .int .i64 a2, .int .i64 a3, .int .u8 ak, .int .i64 asv, .string ab]) (w3.drewN n) := fun n => HL2.out _ (hb13.block _ HS.out.2)
  have hlk0 : (Instr.lookup 63 (.map (some g)) (.bool (!first)) false).run Try.prog w3.drew = .ok (.agg #[.int .i64 am, .int .i64 a0, .int .i64 a1, .int .i64 a2, .int .i64 a3, .int .u8 ak, .int .i64 asv, .string ab]) w3.drew := HL2.out _ (hb13.block _ HS.out.2)
  have HB3 := Aside0.mk (below_then HB1.out HB1.out.size hb13)
  have HGR := Aside0.mk HS.out.1
  have z0 : w3.cell? ⟨gr, 0, none⟩ = some (.int .i64 0) := (blk_cell hr3 0).trans rfl
  have z1 : w3.cell? ⟨gr, 1, none⟩ = some (.int .i64 0) := (blk_cell hr3 1).trans rfl
  have z2 : w3.cell? ⟨gr, 2, none⟩ = some (.bool false) := (blk_cell hr3 2).trans rfl
  have z3 : w3.cell? ⟨gr, 3, none⟩ = some (.string ⟨#[]⟩) := (blk_cell hr3 3).trans rfl
  have f0 := blk_frozen hr3 0
  have f1 := blk_frozen hr3 1
  have f2 := blk_frozen hr3 2
  have f3 := blk_frozen hr3 3
  have HR3 := Aside0.mk hr3
  have hfd : ∀ w, (Instr.field 37 (.agg #[.int .i64 am, .int .i64 a0, .int .i64 a1, .int .i64 a2, .int .i64 a3, .int .u8 ak, .int .i64 asv, .string ab]) 3).run Try.prog w = .ok (.int .i64 asv) w := fun w => by kernel_rfl
  clear hb3 hs1 hbl hbl3 hb13 d2 hgr1 HR1 HL2 HS HB1 hq hr3
  go_wp2_with (fail)
  have IS := fun w => Instant_still day b3 bk off asv i w HI.out
  refine wp_region_still_tail 26 (by kernel_rfl) (by kernel_rfl) ?_
  simp only [List.take_succ_cons, List.take_zero, List.drop_succ_cons, List.drop_zero]
  repeat still_step
  still_call (IS _)
  repeat still_step
  refine wpStill_nil ?_
  change wpList _ _ _ _ _ w3.drew
  have y0 : w3.drew.cell? ⟨gr, 0, none⟩ = some (.int .i64 0) := z0
  have y1 : w3.drew.cell? ⟨gr, 1, none⟩ = some (.int .i64 0) := z1
  have y2 : w3.drew.cell? ⟨gr, 2, none⟩ = some (.bool false) := z2
  have y3 : w3.drew.cell? ⟨gr, 3, none⟩ = some (.string ⟨#[]⟩) := z3
  have g0 : w3.drew.frozen? ⟨gr, 0, none⟩ = false := f0
  have g1 : w3.drew.frozen? ⟨gr, 1, none⟩ = false := f1
  have g2 : w3.drew.frozen? ⟨gr, 2, none⟩ = false := f2
  have g3 : w3.drew.frozen? ⟨gr, 3, none⟩ = false := f3
  have HRD := Aside0.mk (show w3.drew.heap[gr]? = some (.cells #[.int .i64 0, .int .i64 0, .bool false, .string ⟨#[]⟩] 46 (0, 0)) from HR3.out)
  have HBD := Aside0.mk (below_drew HB3.out)
  clear hlk hlk0 hfd k4 k5 k6 k7 d3 z0 z1 z2 z3 f0 f1 f2 f3 HR3 HB3 IS
  generalize w3.drew = w4 at *
  go_wp2
  refine bodyPost_ret (v := .agg #[.int .i64 i, .int .i64 (wrap64 (off + bsv)), .bool (bsv != 0), .string bb]) (by simp [results, Try.results20, go_sem, y0, y1, y2, y3]) rfl ⟨rfl, ?_⟩
  exact (((HBD.out.setCell (p := ⟨gr, 0, none⟩) HGR.out _).setCell (p := ⟨gr, 1, none⟩) HGR.out _).setCell (p := ⟨gr, 2, none⟩) HGR.out _).setCell (p := ⟨gr, 3, none⟩) HGR.out _
theorem foot_shift.calls (k : Nat) (a0_0 : Bool) (a0_1 : Int) (a0_2 : Int) (a0_3 : Int) (a0_4 : Int) (a0_5 : Int) (a0_6 : Int) (a0_7 : Int) (a0_8 : Int) (a0_9 : Int) (a0_10 : ByteArray) (a0_11 : Int) (a0_12 : Int) (a0_13 : Int) (a0_14 : Int) (a0_15 : Int) (a0_16 : Int) (a0_17 : Int) (a0_18 : ByteArray) (a1 : Int) (a2 : Bool) (r1 : Int) (r2 : Int) (r3 : Bool) (r4 : ByteArray) (w : World) (h : foot_shift.f k a0_0 a0_1 a0_2 a0_3 a0_4 a0_5 a0_6 a0_7 a0_8 a0_9 a0_10 a0_11 a0_12 a0_13 a0_14 a0_15 a0_16 a0_17 a0_18 a1 a2 = some (r1, r2, r3, r4)) :
    Calls Try.prog 20 #[.agg #[.bool a0_0, .int .i64 a0_1, .int .i64 a0_2, .int .i64 a0_3, .int .i64 a0_4, .int .i64 a0_5, .int .i64 a0_6, .int .i64 a0_7, .int .u8 a0_8, .int .i64 a0_9, .string a0_10, .int .i64 a0_11, .int .i64 a0_12, .int .i64 a0_13, .int .i64 a0_14, .int .i64 a0_15, .int .u8 a0_16, .int .i64 a0_17, .string a0_18], .int .i64 a1, .bool a2] w fun e w' => e = .returned (.agg #[.int .i64 r1, .int .i64 r2, .bool r3, .string r4]) ∧ Below w.heap.size w w' := by
  unfold foot_shift.f at h
  by_cases hf : a2 = decide (a0_3 < a0_11)
  · rw [if_pos hf] at h
    unfold halfShift at h
    obtain ⟨⟨day, e0⟩, hd, h⟩ := Option.bind_eq_some_iff.1 h
    obtain ⟨i, hi, h⟩ := Option.bind_eq_some_iff.1 h
    simp only [Option.some.injEq, Prod.mk.injEq] at h
    obtain ⟨rfl, rfl, rfl, rfl⟩ := h
    exact shift_A k _ _ _ _ _ _ _ _ _ _ _ _ _ _ _ _ _ _ _ a1 a2 day e0 _ w hf hd hi
  · rw [if_neg hf] at h
    unfold halfShift at h
    obtain ⟨⟨day, e0⟩, hd, h⟩ := Option.bind_eq_some_iff.1 h
    obtain ⟨i, hi, h⟩ := Option.bind_eq_some_iff.1 h
    simp only [Option.some.injEq, Prod.mk.injEq] at h
    obtain ⟨rfl, rfl, rfl, rfl⟩ := h
    exact shift_B k _ _ _ _ _ _ _ _ _ _ _ _ _ _ _ _ _ _ _ a1 a2 day e0 _ w hf hd hi
end Go.Proofs.Ytehoammeaimobaa.D
