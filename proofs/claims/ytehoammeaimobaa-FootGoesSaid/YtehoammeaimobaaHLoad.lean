/- A struct of many cells that lies whole in a block is loaded by one step. -/
import Derived.Test.YtehoammeaimobaaDx0
import Derived.Deep.MidRow
set_option linter.unusedVariables false
namespace Go.Proofs.Ytehoammeaimobaa.D
open Go Go.RowKit Go.Proofs.YtehoammeaimobaaW.PrintWords Go.Proofs.YtehoammeaimobaaW.PrintLast Go.Proofs.YtehoammeaimobaaW.PrintMore

theorem gate_load {ops : Array Oper} {rest : List Oper} {op : Oper} {a : Act} {W : World} {Q : Exit → Act → World → Prop} {t : TypeId} {x : Operand} (_ho : op.op = .load t x) (h : wpList Try.prog ops Q (op :: rest) a W) : wpList Try.prog ops Q (op :: rest) a W := h
theorem load_box {ops : Array Oper} {rest : List Oper} {op : Oper} {a : Act} {W : World} {Q : Exit → Act → World → Prop} (hgd : op.guard = none) (t : TypeId) (x : Operand) (ho : op.op = .load t x)
    {b : Nat} (hx : a.eval x = .pointer (some ⟨b, 0, none⟩)) {C : Array Value} {t' : TypeId} (hb : W.heap[b]? = some (.cells C t' (0, 0))) {d : TypeDesc}
    (hu : Try.prog.underlying t = some d) (hd : d.isRow = true) (hi : (Try.prog.info? t).map (·.size) = some C.size)
    (h : wpList Try.prog ops Q rest (a.put op.dst (.agg C)) W) : wpList Try.prog ops Q (op :: rest) a W := by
  refine wpList_load_mid hgd t x ho b 0 hx C.toList d (fun j v hv => ?_) hu hd (by rw [Array.length_toList]; exact hi) (by simpa using h)
  rw [Nat.zero_add, blk_cell hb j]
  simpa using hv
theorem rng_nil (w : World) (b o : Nat) : w.rangeAt b o [] := fun j v hv => by simp at hv
theorem rng_cons {w : World} {b o : Nat} {v : Value} {vs : List Value} (h : w.cell? ⟨b, o, none⟩ = some v) (hs : w.rangeAt b (o + 1) vs) : w.rangeAt b o (v :: vs) := fun j u hu => by
  cases j with
  | zero => simp at hu; subst hu; exact h
  | succ j => rw [List.getElem?_cons_succ] at hu; rw [show o + (j + 1) = o + 1 + j by omega]; exact hs j u hu
theorem load_run {w : World} {o : Oper} {e : Operand → Value} (t : TypeId) (x : Operand) (ho : o.op = .load t x) {b : Nat} (hx : e x = .pointer (some ⟨b, 0, none⟩)) {cs : List Value} (hr : w.rangeAt b 0 cs) {d : TypeDesc}
    (hu : Try.prog.underlying t = some d) (hd : d.isRow = true) (hi : (Try.prog.info? t).map (·.size) = some cs.length) : (execOp e o).run Try.prog w = .ok (.value (.agg cs.toArray)) w := by
  unfold execOp
  simp only [ho, hx, Instr.loadAt, Instr.sureAddr, Sem.run_bind, Sem.run_pure, Result.andThen_ok, run_loadVar_mid w b 0 t cs d hr hu hd hi]
end Go.Proofs.Ytehoammeaimobaa.D
