/- Boxes of aggregates, made, written and read whole. -/
import Derived.Test.YtehoammeaimobaaHOpq
set_option linter.unusedVariables false
namespace Go.Proofs.Ytehoammeaimobaa.D
open Go Go.RowKit Go.Proofs.YtehoammeaimobaaW.PrintWords Go.Proofs.YtehoammeaimobaaW.PrintLast Go.Proofs.YtehoammeaimobaaW.PrintMore

theorem heap_setCell_self (w : World) (b o : Nat) (v : Value) (C : Array Value) (t : TypeId) (fr : Nat × Nat) (h : w.heap[b]? = some (.cells C t fr)) : (w.setCell ⟨b, o, none⟩ v).heap[b]? = some (.cells (C.setIfInBounds o v) t fr) := by
  obtain ⟨hlt, hk⟩ := Array.getElem?_eq_some_iff.1 h
  show (w.heap.modify b _)[b]? = _
  rw [Array.getElem?_eq_getElem (by rw [Array.size_modify]; exact hlt), Array.getElem_modify_self, hk]
  rfl
theorem heap_setCells_self (b : Nat) (t : TypeId) (fr : Nat × Nat) : ∀ (vs : List Value) (o : Nat) (w : World) (C : Array Value), w.heap[b]? = some (.cells C t fr) → ∃ C', (w.setCells b o vs).heap[b]? = some (.cells C' t fr) ∧ C'.size = C.size
  | [], _, w, C, h => ⟨C, h, rfl⟩
  | v :: r, o, w, C, h => by
    obtain ⟨C', h1, h2⟩ := heap_setCells_self b t fr r (o + 1) _ _ (heap_setCell_self w b o v C t fr h)
    exact ⟨C', h1, h2.trans (Array.size_setIfInBounds)⟩
theorem heap_setCells_other (b : Nat) (k : Nat) (hk : k ≠ b) : ∀ (vs : List Value) (o : Nat) (w : World), (w.setCells b o vs).heap[k]? = w.heap[k]?
  | [], _, w => rfl
  | v :: r, o, w => (heap_setCells_other b k hk r (o + 1) _).trans (Below.heap_setCell w ⟨b, o, none⟩ v k hk)
theorem below_setCells' {B b : Nat} {a : World} (hb : B ≤ b) : ∀ (vs : List Value) (o : Nat) (w : World), Below B a w → Below B a (w.setCells b o vs)
  | [], _, _, h => h
  | v :: r, o, w, h => below_setCells' hb r (o + 1) _ (h.setCell (p := ⟨b, o, none⟩) hb v)
theorem there_blk {w : World} {b : Nat} {C : Array Value} {t : TypeId} (h : w.heap[b]? = some (.cells C t (0, 0))) : w.there b 0 C.size := fun j hj => by
  refine ⟨?_, blk_frozen h _⟩
  rw [blk_cell h, Array.getElem?_eq_getElem (by omega)]
  rfl
theorem size_setCells (b : Nat) : ∀ (vs : List Value) (o : Nat) (w : World), (w.setCells b o vs).heap.size = w.heap.size
  | [], _, _ => rfl
  | v :: r, o, w => by
    rw [World.setCells, size_setCells b r (o + 1)]
    exact Array.size_modify
theorem blk_setCells {w : World} {b : Nat} {C : Array Value} {t : TypeId} (h : w.heap[b]? = some (.cells C t (0, 0))) (D : Array Value) (hs : D.size = C.size) : (w.setCells b 0 D.toList).heap[b]? = some (.cells D t (0, 0)) := by
  obtain ⟨C', h1, h2⟩ := heap_setCells_self b t (0, 0) D.toList 0 w C h
  rw [h1]
  have hr := World.rangeAt_setCells_same w b 0 D.toList (by have := there_blk h; rw [Array.length_toList, hs]; exact this)
  have e : C' = D := by
    apply Array.ext
    · rw [h2, hs]
    · intro i hi1 hi2
      have := hr i D[i] (by rw [Array.getElem?_toList, Array.getElem?_eq_getElem hi2])
      rw [Nat.zero_add, blk_cell h1, Array.getElem?_eq_getElem hi1] at this
      exact Option.some.inj this
  rw [e]
/-- What a store into a whole box leaves: the box holds the value, all else is as it was. -/
structure Put (W w1 : World) (b : Nat) (D : Array Value) (t : TypeId) : Prop where
  box : w1.heap[b]? = some (.cells D t (0, 0))
  other : ∀ k, k ≠ b → w1.heap[k]? = W.heap[k]?
  below : ∀ (n : Nat) (w0 : World), n ≤ b → Below n w0 W → Below n w0 w1
  size : w1.heap.size = W.heap.size
theorem put_mk {w : World} {b : Nat} {C : Array Value} {t : TypeId} (h : w.heap[b]? = some (.cells C t (0, 0))) (D : Array Value) (hs : D.size = C.size) : Put w (w.setCells b 0 D.toList) b D t :=
  ⟨blk_setCells h D hs, fun k hk => heap_setCells_other b k hk _ _ _, fun n w0 hn hb => below_setCells' hn _ _ _ hb, size_setCells b _ _ _⟩
theorem store_agg {ops : Array Oper} {rest : List Oper} {op : Oper} {a : Act} {W : World} {Q : Exit → Act → World → Prop} (hgd : op.guard = none) (ty : TypeId) (x y : Operand) (ho : op.op = .store ty x y)
    {b : Nat} {D : Array Value} (hx : a.eval x = .pointer (some ⟨b, 0, none⟩)) (hy : a.eval y = .agg D) {C : Array Value} {t : TypeId} (hb : Aside0 (W.heap[b]? = some (.cells C t (0, 0)))) (hs : D.size = C.size)
    (hi : (Try.prog.info? ty).map (·.size) = some D.size) (h1 : D.all (·.oneCell') = true)
    (h : ∀ w1, Put W w1 b D t → wpList Try.prog ops Q rest (a.put op.dst undef) w1) : wpList Try.prog ops Q (op :: rest) a W :=
  wpList_store_mid hgd ty x y ho b 0 D hx hy (by rw [hs]; exact there_blk hb.out) hi h1 (h _ (put_mk hb.out D hs))
theorem store_agg_step {ops : Array Oper} {o : Oper} {a : Act} {W : World} {Q : Exit → Act → World → Prop} {Kc : Act → World → Prop} (hw : Region.wanted o (yielded ops a.tmps) = true) (ty : TypeId) (x y : Operand) (ho : o.op = .store ty x y)
    {b : Nat} {D : Array Value} (hx : a.eval x = .pointer (some ⟨b, 0, none⟩)) (hy : a.eval y = .agg D) {C : Array Value} {t : TypeId} (hb : Aside0 (W.heap[b]? = some (.cells C t (0, 0)))) (hs : D.size = C.size)
    (hi : (Try.prog.info? ty).map (·.size) = some D.size) (h1 : D.all (·.oneCell') = true)
    (h : ∀ w1, Put W w1 b D t → Kc (a.put o.dst undef) w1) : if Region.wanted o (yielded ops a.tmps) = true then Oper.wp Try.prog o a W Kc Q else Kc (a.put o.dst undef) W := by
  rw [if_pos hw]
  exact wp_store_mid ty x y ho b 0 D hx hy (by rw [hs]; exact there_blk hb.out) hi h1 (h _ (put_mk hb.out D hs))
theorem alloc_agg {ops : Array Oper} {rest : List Oper} {op : Oper} {a : Act} {W : World} {Q : Exit → Act → World → Prop} (hgd : op.guard = none) (t : TypeId) (ho : op.op = .alloc t) (C : Array Value) (hz : ∀ W : World, (zeroValue t).run Try.prog W = .ok (.agg C) W)
    (h : ∀ g, g = W.heap.size → ∀ w1, w1.heap[g]? = some (.cells C t (0, 0)) → Below W.heap.size W w1 → wpList Try.prog ops Q rest (a.put op.dst (.pointer (some ⟨g, 0, none⟩))) w1) : wpList Try.prog ops Q (op :: rest) a W := by
  refine Kd.event_run (v := .pointer (some ⟨W.heap.size, 0, none⟩)) (w1 := W.alloc (.cells C t (0, 0))) hgd ?_ (h _ rfl _ (blk_new W _) (below_alloc (Below.refl _ _) _))
  simp only [execOp, ho, Instr.alloc, hz, Sem.run_bind, newVar, newRow, run_newObj_alloc, Sem.run_pure, Result.andThen_ok]
  rfl
def zhalf : HalfT := ⟨0, 0, 0, 0, 0, 0, 0, ⟨#[]⟩⟩
def zfoot : FootT := ⟨false, 0, 0, zhalf, zhalf⟩
theorem zero39 (W : World) : (zeroValue 39).run Try.prog W = .ok (.agg (footA zfoot)) W := by kernel_rfl
def tranA (s : S46) : Array Value := #[.int .i64 s.f0, .int .i64 s.f1, .bool s.f2, .string s.f3]
theorem tranV_eq (s : S46) : tranV s = .agg (tranA s) := rfl
theorem zero46 (W : World) : (zeroValue 46).run Try.prog W = .ok (.agg (tranA z46)) W := by kernel_rfl
theorem size46 (s : S46) : (Try.prog.info? 46).map (·.size) = some (tranA s).size := by show _ = some 4; kernel_rfl
theorem one_foot (f : FootT) : (footA f).all (·.oneCell') = true := by simp [footA, Value.oneCell']
theorem one_tran (s : S46) : (tranA s).all (·.oneCell') = true := by simp [tranA, Value.oneCell']
theorem exec_build {o : Oper} {e : Operand → Value} {t : TypeId} {parts : Array (Nat × Operand)} (ho : o.op = .build t parts) (PS : Array (Nat × Value)) (hp : (parts.map fun (i, x) => (i, e x)) = PS) {V : Value} (hb : ∀ W : World, (Instr.build t PS).run Try.prog W = .ok V W) (w : World) :
    (execOp e o).run Try.prog w = .ok (.value V) w := by
  unfold execOp
  simp only [ho, Sem.run_bind]
  rw [hp, hb]
  rfl
/-- A part of a block, loaded whole. -/
theorem load_part {w : World} {o : Oper} {e : Operand → Value} {b k : Nat} {C D : Array Value} {t' : TypeId} (t : TypeId) (x : Operand) (ho : o.op = .load t x) (hx : e x = .pointer (some ⟨b, k, none⟩)) (hb : w.heap[b]? = some (.cells C t' (0, 0))) (hD : D = C.extract k (k + D.size)) {d : TypeDesc}
    (hu : Try.prog.underlying t = some d) (hd : d.isRow = true) (hi : (Try.prog.info? t).map (·.size) = some D.size) : (execOp e o).run Try.prog w = .ok (.value (.agg D)) w := by
  unfold execOp
  have hr := World.rangeAt_of_block hb k D.size
  rw [← hD] at hr
  simp only [ho, hx, Instr.loadAt, Instr.sureAddr, Sem.run_bind, Sem.run_pure, Result.andThen_ok, run_loadVar_mid w b k t D.toList d hr hu hd (by rw [Array.length_toList]; exact hi)]
theorem load_partL {ops : Array Oper} {rest : List Oper} {op : Oper} {a : Act} {W : World} {Q : Exit → Act → World → Prop} (hgd : op.guard = none) (t : TypeId) (x : Operand) (ho : op.op = .load t x)
    {b k : Nat} (hx : a.eval x = .pointer (some ⟨b, k, none⟩)) {C D : Array Value} {t' : TypeId} (hb : Aside0 (W.heap[b]? = some (.cells C t' (0, 0)))) (hD : D = C.extract k (k + D.size)) {d : TypeDesc}
    (hu : Try.prog.underlying t = some d) (hd : d.isRow = true) (hi : (Try.prog.info? t).map (·.size) = some D.size)
    (h : wpList Try.prog ops Q rest (a.put op.dst (.agg D)) W) : wpList Try.prog ops Q (op :: rest) a W :=
  Kd.event_run hgd (load_part t x ho hx hb.out hD hu hd hi) h
/-- A slice of two transitions. -/
theorem lit2_run {o : Oper} {e : Operand → Value} {W : World} {s t : S46} (x y : Operand) (ho : o.op = .buildSlice 30 2 #[(0, x), (1, y)]) (hx : e x = tranV s) (hy : e y = tranV t) :
    (execOp e o).run Try.prog W = .ok (.value (.slice (some ⟨W.heap.size, 0, none⟩) 2 2)) (W.alloc (.cells [.int .i64 s.f0, .int .i64 s.f1, .bool s.f2, .string s.f3, .int .i64 t.f0, .int .i64 t.f1, .bool t.f2, .string t.f3].toArray 46)) := by
  unfold execOp
  simp only [ho, List.map_toArray, List.map_cons, List.map_nil, hx, hy]
  unfold tranV
  first | (go_simp; done) | (go_simp; rfl)
theorem lit2_reps (s t : S46) (W : World) (base : Nat) (okp : Nat → Prop) : Reps (k46.M W base okp) k46.sz [s, t] [.int .i64 s.f0, .int .i64 s.f1, .bool s.f2, .string s.f3, .int .i64 t.f0, .int .i64 t.f1, .bool t.f2, .string t.f3] :=
  Reps.c4 (show Kd.M k46 _ _ _ s [.int .i64 s.f0, .int .i64 s.f1, .bool s.f2, .string s.f3] from (k46_mkM _ _ _ s)) (Reps.c4 (show Kd.M k46 _ _ _ t [.int .i64 t.f0, .int .i64 t.f1, .bool t.f2, .string t.f3] from (k46_mkM _ _ _ t)) (Reps.none _ _))
theorem lit2 {ops : Array Oper} {rest : List Oper} {op : Oper} {a : Act} {W : World} {Q : Exit → Act → World → Prop} (hgd : op.guard = none) {N : Tmp} (hd : op.dst = some N) (s t : S46) (x y : Operand) (ho : op.op = .buildSlice 30 2 #[(0, x), (1, y)]) (hx : a.eval x = tranV s) (hy : a.eval y = tranV t)
    (h : ∀ v1 w1, Kd.R k46 46 w1 W.heap.size (fun _ => True) v1 [s, t] → Below W.heap.size W w1 → wpList Try.prog ops Q rest (a.put op.dst v1) w1) : wpList Try.prog ops Q (op :: rest) a W :=
  Kd.R_lit k46 _ 46 hgd hd (xs := [s, t]) (ok := fun _ => True) (okp := fun _ => True) (lit2_run x y ho hx hy) (lit2_reps s t _ _ _) (fun _ hk => hk) trivial (Below.refl _ _) (Nat.le_refl _) (by simp) (fun v1 w1 h1 h2 _ _ => h v1 w1 h1 h2)
theorem size27 (h : HalfT) : (Try.prog.info? 27).map (·.size) = some (halfA h).size := by show _ = some 8; kernel_rfl
theorem part3 (f : FootT) : halfA f.A = (footA f).extract 3 (3 + (halfA f.A).size) := by simp [halfA, footA]
theorem part11 (f : FootT) : halfA f.B = (footA f).extract 11 (11 + (halfA f.B).size) := by simp [halfA, footA]
theorem build46z (W : World) : (Instr.build 46 #[]).run Try.prog W = .ok (.agg (tranA z46)) W := by kernel_rfl
end Go.Proofs.Ytehoammeaimobaa.D
