/- A foot as one word: its array of cells is a name of its own, so that the walks carry no array of nineteen cells. -/
import Derived.Test.YtehoammeaimobaaHShift
import Derived.Test.YtehoammeaimobaaDx5
set_option linter.unusedVariables false
namespace Go.Proofs.Ytehoammeaimobaa.D
open Go Go.RowKit Go.Proofs.YtehoammeaimobaaW.PrintWords Go.Proofs.YtehoammeaimobaaW.PrintLast Go.Proofs.YtehoammeaimobaaW.PrintMore

structure HalfT where
  m : Int
  k : Int
  wd : Int
  n : Int
  sec : Int
  kd : Int
  sv : Int
  ab : ByteArray
structure FootT where
  has : Bool
  fr : Int
  off : Int
  A : HalfT
  B : HalfT
def halfA (h : HalfT) : Array Value := #[.int .i64 h.m, .int .i64 h.k, .int .i64 h.wd, .int .i64 h.n, .int .i64 h.sec, .int .u8 h.kd, .int .i64 h.sv, .string h.ab]
def footA (f : FootT) : Array Value := #[.bool f.has, .int .i64 f.fr, .int .i64 f.off, .int .i64 f.A.m, .int .i64 f.A.k, .int .i64 f.A.wd, .int .i64 f.A.n, .int .i64 f.A.sec, .int .u8 f.A.kd, .int .i64 f.A.sv, .string f.A.ab, .int .i64 f.B.m, .int .i64 f.B.k, .int .i64 f.B.wd, .int .i64 f.B.n, .int .i64 f.B.sec, .int .u8 f.B.kd, .int .i64 f.B.sv, .string f.B.ab]
theorem footA_size (f : FootT) : (footA f).size = 19 := rfl
def tranV (s : S46) : Value := .agg #[.int .i64 s.f0, .int .i64 s.f1, .bool s.f2, .string s.f3]
def canO (f : FootT) : Option Bool := foot_can.f f.has f.fr f.off f.A.m f.A.k f.A.wd f.A.n f.A.sec f.A.kd f.A.sv f.A.ab f.B.m f.B.k f.B.wd f.B.n f.B.sec f.B.kd f.B.sv f.B.ab
def shiftO (k : Nat) (f : FootT) (y : Int) (first : Bool) : Option (Int × Int × Bool × ByteArray) := foot_shift.f k f.has f.fr f.off f.A.m f.A.k f.A.wd f.A.n f.A.sec f.A.kd f.A.sv f.A.ab f.B.m f.B.k f.B.wd f.B.n f.B.sec f.B.kd f.B.sv f.B.ab y first
theorem can_calls (f : FootT) (b : Bool) (w : World) (h : canO f = some b) : Calls Try.prog 19 #[.agg (footA f)] w fun e w' => e = .returned (.bool b) ∧ Below w.heap.size w w' :=
  foot_can.calls _ _ _ _ _ _ _ _ _ _ _ _ _ _ _ _ _ _ _ b w h
theorem shift_calls (k : Nat) (f : FootT) (y : Int) (first : Bool) (s : S46) (w : World) (h : shiftO k f y first = some (s.f0, s.f1, s.f2, s.f3)) :
    Calls Try.prog 20 #[.agg (footA f), .int .i64 y, .bool first] w fun e w' => e = .returned (tranV s) ∧ Below w.heap.size w w' :=
  foot_shift.calls k _ _ _ _ _ _ _ _ _ _ _ _ _ _ _ _ _ _ _ y first _ _ _ _ w h
/-- An aggregate's box. -/
theorem box_agg {ops : Array Oper} {rest : List Oper} {op : Oper} {a : Act} {W : World} {Q : Exit → Act → World → Prop} (hgd : op.guard = none) (t : TypeId) (x : Operand) (ho : op.op = .box t x) (C : Array Value) (hx : a.eval x = .agg C)
    (h : ∀ g, g = W.heap.size → ∀ w1, w1.heap[g]? = some (.cells C t (0, 0)) → Below W.heap.size W w1 → wpList Try.prog ops Q rest (a.put op.dst (.pointer (some ⟨g, 0, none⟩))) w1) : wpList Try.prog ops Q (op :: rest) a W := by
  refine Kd.event_run (v := .pointer (some ⟨W.heap.size, 0, none⟩)) (w1 := W.alloc (.cells C t (0, 0))) hgd ?_ (h _ rfl _ (blk_new W _) (below_alloc (Below.refl _ _) _))
  simp only [execOp, ho, hx, Sem.run_bind, Instr.box, newVar, newRow, run_newObj_alloc, Sem.run_pure, Result.andThen_ok]
  rfl
theorem gate_box {ops : Array Oper} {rest : List Oper} {op : Oper} {a : Act} {W : World} {Q : Exit → Act → World → Prop} {t : TypeId} {x : Operand} (_ho : op.op = .box t x) (h : wpList Try.prog ops Q (op :: rest) a W) : wpList Try.prog ops Q (op :: rest) a W := h
theorem load_opq {ops : Array Oper} {rest : List Oper} {op : Oper} {a : Act} {W : World} {Q : Exit → Act → World → Prop} (hgd : op.guard = none) (t : TypeId) (x : Operand) (ho : op.op = .load t x)
    {b : Nat} (hx : a.eval x = .pointer (some ⟨b, 0, none⟩)) {C : Array Value} {t' : TypeId} (hb : Aside0 (W.heap[b]? = some (.cells C t' (0, 0)))) {d : TypeDesc}
    (hu : Try.prog.underlying t = some d) (hd : d.isRow = true) (hi : (Try.prog.info? t).map (·.size) = some C.size)
    (h : wpList Try.prog ops Q rest (a.put op.dst (.agg C)) W) : wpList Try.prog ops Q (op :: rest) a W := load_box hgd t x ho hx hb.out hu hd hi h
theorem rng_blk {w : World} {b : Nat} {C : Array Value} {t : TypeId} (hb : w.heap[b]? = some (.cells C t (0, 0))) : w.rangeAt b 0 C.toList := fun j v hv => by
  rw [Nat.zero_add, blk_cell hb j]; simpa using hv
theorem load_held {C : Array Value} {w : World} {o : Oper} {e : Operand → Value} {b : Nat} (t : TypeId) (x : Operand) (ho : o.op = .load t x) (hx : e x = .pointer (some ⟨b, 0, none⟩)) (hr : w.rangeAt b 0 C.toList) {d : TypeDesc}
    (hu : Try.prog.underlying t = some d) (hd : d.isRow = true) (hi : (Try.prog.info? t).map (·.size) = some C.size) : (execOp e o).run Try.prog w = .ok (.value (.agg C)) w :=
  load_run t x ho hx hr hu hd hi
theorem size39 (f : FootT) : (Try.prog.info? 39).map (·.size) = some (footA f).size := by rw [footA_size]; kernel_rfl
theorem size29 (f : FootT) : (Try.prog.info? 29).map (·.size) = some (footA f).size := by rw [footA_size]; kernel_rfl
end Go.Proofs.Ytehoammeaimobaa.D
