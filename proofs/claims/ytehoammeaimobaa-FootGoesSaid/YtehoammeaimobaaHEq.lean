/- Transitions compared. -/
import Derived.Test.YtehoammeaimobaaHBox
import Derived.Test.YtehoammeaimobaaDx1
set_option linter.unusedVariables false
namespace Go.Proofs.Ytehoammeaimobaa.D
open Go Go.RowKit Go.Proofs.YtehoammeaimobaaW.PrintWords Go.Proofs.YtehoammeaimobaaW.PrintLast Go.Proofs.YtehoammeaimobaaW.PrintMore
def tranEq (s t : S46) : Bool := (s.f0 == t.f0) && ((s.f1 == t.f1) && ((s.f2 == t.f2) && (s.f3.toList == t.f3.toList)))
theorem tranEq_self (s : S46) : tranEq s s = true := by simp [tranEq]
theorem equal46 (s t : S46) (w : World) : (Op.equal 46 (tranV s) (tranV t)).run Try.prog w = .ok (tranEq s t) w := by
  unfold Op.equal
  exact eqA46 _ w s.f0 t.f0 s.f1 t.f1 s.f2 t.f2 s.f3 t.f3
theorem eqguard46 : Try.prog.eqGuardType Try.prog.depth 46 = false := by kernel_rfl
theorem exec_eq46 {o : Oper} {e : Operand → Value} {s t : S46} (x y : Operand) (T : TypeId) (ho : o.op = .binOp .eql 46 x y T) (hx : e x = tranV s) (hy : e y = tranV t) (w : World) : (execOp e o).run Try.prog w = .ok (.value (.bool (tranEq s t))) w := by
  unfold execOp
  have h := equal46 s t w
  unfold tranV at hx hy h
  simp [ho, hx, hy, binOp, eqGuard, h, Result.andThen]
theorem exec_same46 {o : Oper} {e : Operand → Value} {s : S46} (x y : Operand) (T : TypeId) (ho : o.op = .binOp .eql 46 x y T) (hx : e x = .agg (tranA s)) (hy : e y = .agg (tranA s)) (w : World) : (execOp e o).run Try.prog w = .ok (.value (.bool true)) w := by
  have h := exec_eq46 x y T ho hx hy w
  rwa [tranEq_self] at h
theorem event_W {ops : Array Oper} {rest : List Oper} {op : Oper} {a : Act} {W : World} {Q : Exit → Act → World → Prop} {v : Value} {w1 : World} (hw : Region.wanted op (yielded ops a.tmps) = true) (hrun : (execOp a.eval op).run Try.prog W = .ok (.value v) w1)
    (h : wpList Try.prog ops Q rest (a.put op.dst v) w1) : wpList Try.prog ops Q (op :: rest) a W := by
  unfold wpList
  rw [if_pos hw]
  unfold Oper.wp
  rw [hrun]
  first | exact h | exact .inl h
theorem load_W {ops : Array Oper} {rest : List Oper} {op : Oper} {a : Act} {W : World} {Q : Exit → Act → World → Prop} (hw : Region.wanted op (yielded ops a.tmps) = true) (t : TypeId) (x : Operand) (ho : op.op = .load t x)
    {b : Nat} (hx : a.eval x = .pointer (some ⟨b, 0, none⟩)) {C : Array Value} {t' : TypeId} (hb : Aside0 (W.heap[b]? = some (.cells C t' (0, 0)))) {d : TypeDesc}
    (hu : Try.prog.underlying t = some d) (hd : d.isRow = true) (hi : (Try.prog.info? t).map (·.size) = some C.size)
    (h : wpList Try.prog ops Q rest (a.put op.dst (.agg C)) W) : wpList Try.prog ops Q (op :: rest) a W :=
  event_W hw (load_held t x ho hx (rng_blk hb.out) hu hd hi) h
end Go.Proofs.Ytehoammeaimobaa.D
