/- Boxes of aggregates inside a fence (for a range over a function). -/
import Derived.Test.YtehoammeaimobaaHBox
import Derived.RangeFuncNested
import Derived.RangeFuncBound
import Derived.RangeFuncCalls
import Derived.RangeFuncLeaves
import Derived.RangeFuncBox
import Derived.Shelf.Abstract
import Derived.Shelf.RegionOpen
import Derived.OwnWalkIn
import Derived.TacticsInMore
import Derived.LoopNIn
import Derived.LoopIn
set_option linter.unusedVariables false
namespace Go.Proofs.Ytehoammeaimobaa.D
open Go Go.RowKit Go.Proofs.YtehoammeaimobaaW.PrintWords Go.Proofs.YtehoammeaimobaaW.PrintLast Go.Proofs.YtehoammeaimobaaW.PrintMore

section
variable {F : Fence} {n : Nat} {ops : Array Oper} {rest : List Oper} {op : Oper} {a : Act} {W : World} {Q : Exit → Act → World → Prop}
theorem event_in {v : Value} {w1 : World} (hgd : op.guard = none) (hab : op.about Try.prog W a.eval = none) (hnd : ∀ c, op.op ≠ .defer c) (hrun : (execOp a.eval op).run Try.prog W = .ok (.value v) w1) (h : wpListIn F n Try.prog ops Q rest (a.put op.dst v) w1) :
    wpListIn F n Try.prog ops Q (op :: rest) a W := by
  refine wpListIn_plain hgd fun K hK => ?_
  unfold Oper.wpIn
  refine ⟨(by rw [hab]; intro f hf; cases hf), ?_⟩
  rw [Oper.semAt_plain F _ _ hnd, hrun]
  exact hK _ _ h
theorem skip_in {w1 : World} (hgd : op.guard = none) (hab : op.about Try.prog W a.eval = none) (hnd : ∀ c, op.op ≠ .defer c) (hrun : (execOp a.eval op).run Try.prog W = .ok .skip w1) (h : wpListIn F n Try.prog ops Q rest (a.put op.dst undef) w1) :
    wpListIn F n Try.prog ops Q (op :: rest) a W := by
  refine wpListIn_plain hgd fun K hK => ?_
  unfold Oper.wpIn
  refine ⟨(by rw [hab]; intro f hf; cases hf), ?_⟩
  rw [Oper.semAt_plain F _ _ hnd, hrun]
  exact hK _ _ h
theorem gate_in {N : Tmp} (_hN : op.dst = some N) (h : wpListIn F n Try.prog ops Q (op :: rest) a W) : wpListIn F n Try.prog ops Q (op :: rest) a W := h
theorem gate_sin {t : TypeId} {p : Tmp} {v : Operand} (_ho : op.op = .store t (.tmp p) v) (h : wpListIn F n Try.prog ops Q (op :: rest) a W) : wpListIn F n Try.prog ops Q (op :: rest) a W := h
theorem box_in (hgd : op.guard = none) (t : TypeId) (x : Operand) (ho : op.op = .box t x) (C : Array Value) (hx : a.eval x = .agg C)
    (h : ∀ g, g = W.heap.size → ∀ w1, w1.heap[g]? = some (.cells C t (0, 0)) → Below W.heap.size W w1 → wpListIn F n Try.prog ops Q rest (a.put op.dst (.pointer (some ⟨g, 0, none⟩))) w1) : wpListIn F n Try.prog ops Q (op :: rest) a W := by
  refine event_in (v := .pointer (some ⟨W.heap.size, 0, none⟩)) (w1 := W.alloc (.cells C t (0, 0))) hgd (by simp [Oper.about, ho]) (by rw [ho]; intro c hc; cases hc) ?_ (h _ rfl _ (blk_new W _) (below_alloc (Below.refl _ _) _))
  simp only [execOp, ho, hx, Sem.run_bind, Instr.box, newVar, newRow, run_newObj_alloc, Sem.run_pure, Result.andThen_ok]
  rfl
theorem boxint_in (hgd : op.guard = none) (t : TypeId) (x : Operand) (ho : op.op = .box t x) (k : IntKind) (i : Int) (hx : a.eval x = .int k i)
    (h : ∀ g, g = W.heap.size → ∀ w1, w1.heap[g]? = some (.cells #[.int k i] t (0, 0)) → Below W.heap.size W w1 → wpListIn F n Try.prog ops Q rest (a.put op.dst (.pointer (some ⟨g, 0, none⟩))) w1) : wpListIn F n Try.prog ops Q (op :: rest) a W := by
  refine event_in (v := .pointer (some ⟨W.heap.size, 0, none⟩)) (w1 := W.alloc (.cells #[.int k i] t (0, 0))) hgd (by simp [Oper.about, ho]) (by rw [ho]; intro c hc; cases hc) ?_ (h _ rfl _ (blk_new W _) (below_alloc (Below.refl _ _) _))
  simp only [execOp, ho, hx, Sem.run_bind, Instr.box, newVar, newRow, run_newObj_alloc, Sem.run_pure, Result.andThen_ok]
  rfl
theorem alloc_in (hgd : op.guard = none) (t : TypeId) (ho : op.op = .alloc t) (C : Array Value) (hz : ∀ W : World, (zeroValue t).run Try.prog W = .ok (.agg C) W)
    (h : ∀ g, g = W.heap.size → ∀ w1, w1.heap[g]? = some (.cells C t (0, 0)) → Below W.heap.size W w1 → wpListIn F n Try.prog ops Q rest (a.put op.dst (.pointer (some ⟨g, 0, none⟩))) w1) : wpListIn F n Try.prog ops Q (op :: rest) a W := by
  refine event_in (v := .pointer (some ⟨W.heap.size, 0, none⟩)) (w1 := W.alloc (.cells C t (0, 0))) hgd (by simp [Oper.about, ho]) (by rw [ho]; intro c hc; cases hc) ?_ (h _ rfl _ (blk_new W _) (below_alloc (Below.refl _ _) _))
  simp only [execOp, ho, Instr.alloc, hz, Sem.run_bind, newVar, newRow, run_newObj_alloc, Sem.run_pure, Result.andThen_ok]
  rfl
theorem allocint_in (hgd : op.guard = none) (t : TypeId) (ho : op.op = .alloc t) (k : IntKind) (hz : ∀ W : World, (zeroValue t).run Try.prog W = .ok (.int k 0) W)
    (h : ∀ g, g = W.heap.size → ∀ w1, w1.heap[g]? = some (.cells #[.int k 0] t (0, 0)) → Below W.heap.size W w1 → wpListIn F n Try.prog ops Q rest (a.put op.dst (.pointer (some ⟨g, 0, none⟩))) w1) : wpListIn F n Try.prog ops Q (op :: rest) a W := by
  refine event_in (v := .pointer (some ⟨W.heap.size, 0, none⟩)) (w1 := W.alloc (.cells #[.int k 0] t (0, 0))) hgd (by simp [Oper.about, ho]) (by rw [ho]; intro c hc; cases hc) ?_ (h _ rfl _ (blk_new W _) (below_alloc (Below.refl _ _) _))
  simp only [execOp, ho, Instr.alloc, hz, Sem.run_bind, newVar, newRow, run_newObj_alloc, Sem.run_pure, Result.andThen_ok]
  rfl
theorem load_in (hgd : op.guard = none) (t : TypeId) (x : Operand) (ho : op.op = .load t x)
    {b : Nat} (hx : a.eval x = .pointer (some ⟨b, 0, none⟩)) {C : Array Value} {t' : TypeId} (hb : Aside0 (W.heap[b]? = some (.cells C t' (0, 0)))) {d : TypeDesc}
    (hu : Try.prog.underlying t = some d) (hd : d.isRow = true) (hi : (Try.prog.info? t).map (·.size) = some C.size)
    (h : wpListIn F n Try.prog ops Q rest (a.put op.dst (.agg C)) W) : wpListIn F n Try.prog ops Q (op :: rest) a W :=
  event_in hgd (by simp [Oper.about, ho]) (by rw [ho]; intro c hc; cases hc) (load_held t x ho hx (rng_blk hb.out) hu hd hi) h
theorem store_in (hgd : op.guard = none) (ty : TypeId) (x y : Operand) (ho : op.op = .store ty x y)
    {b : Nat} {D : Array Value} (hx : a.eval x = .pointer (some ⟨b, 0, none⟩)) (hy : a.eval y = .agg D) {C : Array Value} {t : TypeId} (hb : Aside0 (W.heap[b]? = some (.cells C t (0, 0)))) (hs : D.size = C.size)
    (hi : (Try.prog.info? ty).map (·.size) = some D.size) (h1 : D.all (·.oneCell') = true)
    (h : ∀ w1, Put W w1 b D t → KeepsOthers W w1 → wpListIn F n Try.prog ops Q rest (a.put op.dst undef) w1) : wpListIn F n Try.prog ops Q (op :: rest) a W := by
  refine skip_in (w1 := W.setCells b 0 D.toList) hgd (by simp [Oper.about, ho]) (by rw [ho]; intro c hc; cases hc) ?_ (h _ (put_mk hb.out D hs) ⟨Nat.le_of_eq (size_setCells b _ _ _).symm, fun k o hk ho' => ?_⟩)
  · unfold execOp
    simp only [ho, hx, hy, Instr.storeAt, Instr.sureAddr, Sem.run_bind, Sem.run_pure, Result.andThen_ok, run_storeVar_mid W b 0 ty D (by rw [hs]; exact there_blk hb.out) hi h1]
  · have hne : k ≠ b := by
      rintro rfl
      rw [hb.out] at hk
      cases hk
      cases ho'
    rw [heap_setCells_other b k hne]
    exact hk
theorem load_inG (hw : Region.wanted op (yielded ops a.tmps) = true) (t : TypeId) (x : Operand) (ho : op.op = .load t x)
    {b : Nat} (hx : a.eval x = .pointer (some ⟨b, 0, none⟩)) {C : Array Value} {t' : TypeId} (hb : Aside0 (W.heap[b]? = some (.cells C t' (0, 0)))) {d : TypeDesc}
    (hu : Try.prog.underlying t = some d) (hd : d.isRow = true) (hi : (Try.prog.info? t).map (·.size) = some C.size)
    (h : wpListIn F n Try.prog ops Q rest (a.put op.dst (.agg C)) W) : wpListIn F n Try.prog ops Q (op :: rest) a W := by
  unfold wpListIn
  rw [if_pos hw]
  unfold Oper.wpIn
  refine ⟨by simp [Oper.about, ho], ?_⟩
  rw [Oper.semAt_plain F _ _ (by rw [ho]; intro c hc; cases hc), load_held t x ho hx (rng_blk hb.out) hu hd hi]
  exact h
end
theorem put_cell {w : World} {b : Nat} {v0 v : Value} {t : TypeId} (h : w.heap[b]? = some (.cells #[v0] t (0, 0))) : Put w (w.setCell ⟨b, 0, none⟩ v) b #[v] t := put_mk h #[v] rfl
theorem keeps_put {W w1 : World} {b : Nat} {D C : Array Value} {t t' : TypeId} (hp : Put W w1 b D t) (hb : W.heap[b]? = some (.cells C t' (0, 0))) : KeepsOthers W w1 :=
  ⟨Nat.le_of_eq hp.size.symm, fun k o hk ho => (hp.other k (by rintro rfl; rw [hb] at hk; cases hk; cases ho)).trans hk⟩
theorem zero31 (W : World) : (zeroValue 31).run Try.prog W = .ok (.int .i64 0) W := by kernel_rfl
theorem grown_below {w w' : World} (h : Below w.heap.size w w') : w.grownBy w' none := ⟨h.os, h.tape, h.output, h.size, fun k hk _ => h.block k hk⟩
theorem abides_below {β : Type} {B : Nat} {J : β → World → Prop} (h : AbidesFrom B J) {s : β} {w w' : World} (hs : J s w) (hb : Below w.heap.size w w') : J s w' :=
  h s w w' none hs (grown_below hb) (fun r e => by cases e)
theorem wide_fn (f : FuncId) : Fence.wide.fn f = True := rfl
theorem wide_depth : Fence.wide.depth.isSome = false := rfl
theorem wide_fn' (f : FuncId) (l : Nat) : (Fence.wide.inRound l).fn f = True := rfl
theorem wide_depth' (l : Nat) : (Fence.wide.inRound l).depth.isSome = false := rfl
end Go.Proofs.Ytehoammeaimobaa.D
