/- Hand contract of foot.halves: a map from 'is it the earlier one' to the half. -/
import Derived.Test.YtehoammeaimobaaDx0
import Derived.RegionTactic
import Derived.BigRegion
import Derived.Carry
import Derived.Maps.Keyed
import Derived.ChangeMaps4
set_option linter.unusedVariables false
namespace Go.Proofs.Ytehoammeaimobaa.D
open Go Go.RowKit Go.Proofs.YtehoammeaimobaaW.PrintWords Go.Proofs.YtehoammeaimobaaW.PrintLast Go.Proofs.YtehoammeaimobaaW.PrintMore

theorem hu63 : Try.prog.underlying 63 = some (.map 4 37) := Try.underlying63
theorem check4 (w : World) (em b : Bool) : (Instr.checkKey em 10000 4 (.bool b)).run Try.prog w = .ok () w := by kernel_rfl
theorem alloc_setBlock (W : World) (o o' : Obj) : ChangeMaps.setBlock (W.alloc o) W.heap.size o' = W.alloc o' := by
  show (⟨(W.heap.push o).setIfInBounds W.heap.size o', W.tape, W.drawn, W.os, W.output⟩ : World) = ⟨W.heap.push o', W.tape, W.drawn, W.os, W.output⟩
  rw [show (W.heap.push o).setIfInBounds W.heap.size o' = W.heap.push o' from by
    apply Array.toList_inj.1
    rw [Array.toList_setIfInBounds, Array.toList_push, Array.toList_push, List.set_append_right _ _ (by simp)]
    simp]
theorem alloc_setBlock_d (W : World) (o o' : Obj) : ChangeMaps.setBlock (W.alloc o).drew W.heap.size o' = (W.alloc o').drew := congrArg World.drew (alloc_setBlock W o o')
theorem heap_next (w : World) (o1 o2 : Obj) : ((w.alloc o1).alloc o2).heap[w.heap.size + 1]? = some o2 := by
  have h := heap_alloc_new (w.alloc o1) o2
  rwa [World.size_alloc] at h
theorem ins_run (w : World) (g : Nat) (es : Array MapEntry) (clock : Nat) (b : Bool) (v : Value) (h : w.heap[g]? = some (.map es clock)) (hf : (Instr.findKey 4 (.bool b) es.toList).run Try.prog w = .ok none w) :
    (Instr.mapUpdate 63 (.map (some g)) (.bool b) v).run Try.prog w = .ok () (ChangeMaps.setBlock w g (.map (es.push ⟨.bool b, v, clock⟩) (clock + 1))) := by
  simp [Instr.mapUpdate, run_underlying hu63, MapKept.run_getObj_map h, check4, hf, MapKept.run_setObj_map _ h, Result.andThen, ChangeMaps.setBlock]
theorem look_run (w : World) (g : Nat) (es : Array MapEntry) (clock : Nat) (b : Bool) (v : Value) (i : Nat) (h : w.heap[g]? = some (.map es clock)) (hf : (Instr.findKey 4 (.bool b) es.toList).run Try.prog w = .ok (some (i, v)) w) :
    (Instr.lookup 63 (.map (some g)) (.bool b) false).run Try.prog w = .ok v w := by
  simp [Instr.lookup, run_underlying hu63, MapKept.run_getObj_map h, check4, hf, Result.andThen]
theorem find0 (w : World) (b : Bool) : (Instr.findKey 4 (.bool b) []).run Try.prog w = .ok none w := by kernel_rfl
theorem find_tf (w : World) (v : Value) (n : Nat) : (Instr.findKey 4 (.bool false) [⟨.bool true, v, n⟩]).run Try.prog w = .ok none w := by kernel_rfl
theorem find_ft (w : World) (v : Value) (n : Nat) : (Instr.findKey 4 (.bool true) [⟨.bool false, v, n⟩]).run Try.prog w = .ok none w := by kernel_rfl

theorem ins_1 (W : World) (b : Bool) (v : Value) : (Instr.mapUpdate 63 (.map (some W.heap.size)) (.bool b) v).run Try.prog (W.alloc (.map #[] 0)) = .ok () (W.alloc (.map #[⟨.bool b, v, 0⟩] 1)) := by
  rw [ins_run _ _ #[] 0 b v (heap_alloc_new W _) (find0 _ b), alloc_setBlock]; rfl
theorem ins_tf (W : World) (v0 v : Value) : (Instr.mapUpdate 63 (.map (some W.heap.size)) (.bool false) v).run Try.prog (W.alloc (.map #[⟨.bool true, v0, 0⟩] 1)) = .ok () (W.alloc (.map #[⟨.bool true, v0, 0⟩, ⟨.bool false, v, 1⟩] 2)) := by
  rw [ins_run _ _ _ _ false v (heap_alloc_new W _) (find_tf _ v0 0), alloc_setBlock]; rfl
theorem ins_ft (W : World) (v0 v : Value) : (Instr.mapUpdate 63 (.map (some W.heap.size)) (.bool true) v).run Try.prog (W.alloc (.map #[⟨.bool false, v0, 0⟩] 1)) = .ok () (W.alloc (.map #[⟨.bool false, v0, 0⟩, ⟨.bool true, v, 1⟩] 2)) := by
  rw [ins_run _ _ _ _ true v (heap_alloc_new W _) (find_ft _ v0 0), alloc_setBlock]; rfl

theorem ins_1d (W : World) (n : Nat) (hn : n = W.heap.size) (b : Bool) (v : Value) : (Instr.mapUpdate 63 (.map (some n)) (.bool b) v).run Try.prog (W.alloc (.map #[] 0)).drew = .ok () (W.alloc (.map #[⟨.bool b, v, 0⟩] 1)).drew := by
  subst hn
  rw [ins_run (W.alloc (.map #[] 0)).drew _ #[] 0 b v (show (W.alloc (.map #[] 0)).heap[W.heap.size]? = _ from heap_alloc_new W _) (find0 _ b)]
  rw [alloc_setBlock_d]; rfl
theorem ins_tfd (W : World) (n : Nat) (hn : n = W.heap.size) (v0 v : Value) : (Instr.mapUpdate 63 (.map (some n)) (.bool false) v).run Try.prog (W.alloc (.map #[⟨.bool true, v0, 0⟩] 1)).drew = .ok () (W.alloc (.map #[⟨.bool true, v0, 0⟩, ⟨.bool false, v, 1⟩] 2)).drew := by
  subst hn
  rw [ins_run (W.alloc (.map #[⟨.bool true, v0, 0⟩] 1)).drew _ _ _ false v (show (W.alloc _).heap[W.heap.size]? = _ from heap_alloc_new W _) (find_tf _ v0 0), alloc_setBlock_d]; rfl
theorem ins_ftd (W : World) (n : Nat) (hn : n = W.heap.size) (v0 v : Value) : (Instr.mapUpdate 63 (.map (some n)) (.bool true) v).run Try.prog (W.alloc (.map #[⟨.bool false, v0, 0⟩] 1)).drew = .ok () (W.alloc (.map #[⟨.bool false, v0, 0⟩, ⟨.bool true, v, 1⟩] 2)).drew := by
  subst hn
  rw [ins_run (W.alloc (.map #[⟨.bool false, v0, 0⟩] 1)).drew _ _ _ true v (show (W.alloc _).heap[W.heap.size]? = _ from heap_alloc_new W _) (find_ft _ v0 0), alloc_setBlock_d]; rfl

/-- Block g is the map of both halves. -/
def Halves (w : World) (g : Nat) (f : Bool) (A B : Value) : Prop :=
  w.heap[g]? = some (.map #[⟨.bool f, A, 0⟩, ⟨.bool (!f), B, 1⟩] 2) ∨ w.heap[g]? = some (.map #[⟨.bool (!f), B, 0⟩, ⟨.bool f, A, 1⟩] 2)

theorem Halves.first {w : World} {g : Nat} {f : Bool} {A B : Value} (h : Halves w g f A B) : (Instr.lookup 63 (.map (some g)) (.bool f) false).run Try.prog w = .ok A w := by
  cases f <;> rcases h with h | h
  · exact look_run w g _ 2 _ A 0 h (by kernel_rfl)
  · exact look_run w g _ 2 _ A 1 h (by kernel_rfl)
  · exact look_run w g _ 2 _ A 0 h (by kernel_rfl)
  · exact look_run w g _ 2 _ A 1 h (by kernel_rfl)
theorem Halves.other {w : World} {g : Nat} {f : Bool} {A B : Value} (h : Halves w g f A B) : (Instr.lookup 63 (.map (some g)) (.bool (!f)) false).run Try.prog w = .ok B w := by
  cases f <;> rcases h with h | h
  · exact look_run w g _ 2 _ B 1 h (by kernel_rfl)
  · exact look_run w g _ 2 _ B 0 h (by kernel_rfl)
  · exact look_run w g _ 2 _ B 1 h (by kernel_rfl)
  · exact look_run w g _ 2 _ B 0 h (by kernel_rfl)
theorem Halves.below {w w' : World} {g : Nat} {f : Bool} {A B : Value} (h : Halves w g f A B) {n : Nat} (hb : Below n w w') (hg : g < n) : Halves w' g f A B := by
  have e := hb.block g hg
  rcases h with h | h
  · exact .inl (e.trans h)
  · exact .inr (e.trans h)

set_option maxHeartbeats 8000000 in
set_option maxRecDepth 100000 in
theorem halves_yes (has : Bool) (fr off am a0 a1 a2 a3 : Int) (ak asv : Int) (ab : ByteArray) (bm b0 b1 b2 b3 : Int) (bk bsv : Int) (bb : ByteArray) (w : World) (hm : am < bm) :
    Calls Try.prog 29 #[.agg #[.bool has, .int .i64 fr, .int .i64 off, .int .i64 am, .int .i64 a0, .int .i64 a1, .int .i64 a2, .int .i64 a3, .int .u8 ak, .int .i64 asv, .string ab, .int .i64 bm, .int .i64 b0, .int .i64 b1, .int .i64 b2, .int .i64 b3, .int .u8 bk, .int .i64 bsv, .string bb]] w fun e w' =>
      e = .returned (.map (some (w.heap.size + 1))) ∧ Below w.heap.size w w' ∧ w.heap.size + 1 < w'.heap.size ∧ Halves w' (w.heap.size + 1) true (.agg #[.int .i64 am, .int .i64 a0, .int .i64 a1, .int .i64 a2, .int .i64 a3, .int .u8 ak, .int .i64 asv, .string ab]) (.agg #[.int .i64 bm, .int .i64 b0, .int .i64 b1, .int .i64 b2, .int .i64 b3, .int .u8 bk, .int .i64 bsv, .string bb]) := by
  go_enter Try.func29, Try.ntmps29
  go_wp2_with (fail)
  have i1 := fun b v => ins_1d (w.alloc (.cells #[.bool has, .int .i64 fr, .int .i64 off, .int .i64 am, .int .i64 a0, .int .i64 a1, .int .i64 a2, .int .i64 a3, .int .u8 ak, .int .i64 asv, .string ab, .int .i64 bm, .int .i64 b0, .int .i64 b1, .int .i64 b2, .int .i64 b3, .int .u8 bk, .int .i64 bsv, .string bb] 39)) (w.heap.size + 1) (by simp) b v
  have i2 := fun v0 v => ins_tfd (w.alloc (.cells #[.bool has, .int .i64 fr, .int .i64 off, .int .i64 am, .int .i64 a0, .int .i64 a1, .int .i64 a2, .int .i64 a3, .int .u8 ak, .int .i64 asv, .string ab, .int .i64 bm, .int .i64 b0, .int .i64 b1, .int .i64 b2, .int .i64 b3, .int .u8 bk, .int .i64 bsv, .string bb] 39)) (w.heap.size + 1) (by simp) v0 v
  have i3 := fun v0 v => ins_ftd (w.alloc (.cells #[.bool has, .int .i64 fr, .int .i64 off, .int .i64 am, .int .i64 a0, .int .i64 a1, .int .i64 a2, .int .i64 a3, .int .u8 ak, .int .i64 asv, .string ab, .int .i64 bm, .int .i64 b0, .int .i64 b1, .int .i64 b2, .int .i64 b3, .int .u8 bk, .int .i64 bsv, .string bb] 39)) (w.heap.size + 1) (by simp) v0 v
  have hmm := @run_makeMap Try.prog
  have hnew := fun o => heap_next w (.cells #[.bool has, .int .i64 fr, .int .i64 off, .int .i64 am, .int .i64 a0, .int .i64 a1, .int .i64 a2, .int .i64 a3, .int .u8 ak, .int .i64 asv, .string ab, .int .i64 bm, .int .i64 b0, .int .i64 b1, .int .i64 b2, .int .i64 b3, .int .u8 bk, .int .i64 bsv, .string bb] 39) o
  have hbel := fun o => below_drew (below_alloc (below_alloc (Below.refl w.heap.size w) (.cells #[.bool has, .int .i64 fr, .int .i64 off, .int .i64 am, .int .i64 a0, .int .i64 a1, .int .i64 a2, .int .i64 a3, .int .u8 ak, .int .i64 asv, .string ab, .int .i64 bm, .int .i64 b0, .int .i64 b1, .int .i64 b2, .int .i64 b3, .int .u8 bk, .int .i64 bsv, .string bb] 39)) o)
  go_region
  all_goals
    clear i1 i2 i3 hmm
    go_wp2
    go_ret
    refine ⟨rfl, hbel _, by simp, ?_⟩
    first | exact .inl (hnew _) | exact .inr (hnew _)
set_option maxHeartbeats 8000000 in
set_option maxRecDepth 100000 in
theorem halves_no (has : Bool) (fr off am a0 a1 a2 a3 : Int) (ak asv : Int) (ab : ByteArray) (bm b0 b1 b2 b3 : Int) (bk bsv : Int) (bb : ByteArray) (w : World) (hm : ¬ am < bm) :
    Calls Try.prog 29 #[.agg #[.bool has, .int .i64 fr, .int .i64 off, .int .i64 am, .int .i64 a0, .int .i64 a1, .int .i64 a2, .int .i64 a3, .int .u8 ak, .int .i64 asv, .string ab, .int .i64 bm, .int .i64 b0, .int .i64 b1, .int .i64 b2, .int .i64 b3, .int .u8 bk, .int .i64 bsv, .string bb]] w fun e w' =>
      e = .returned (.map (some (w.heap.size + 1))) ∧ Below w.heap.size w w' ∧ w.heap.size + 1 < w'.heap.size ∧ Halves w' (w.heap.size + 1) false (.agg #[.int .i64 am, .int .i64 a0, .int .i64 a1, .int .i64 a2, .int .i64 a3, .int .u8 ak, .int .i64 asv, .string ab]) (.agg #[.int .i64 bm, .int .i64 b0, .int .i64 b1, .int .i64 b2, .int .i64 b3, .int .u8 bk, .int .i64 bsv, .string bb]) := by
  go_enter Try.func29, Try.ntmps29
  go_wp2_with (fail)
  have i1 := fun b v => ins_1d (w.alloc (.cells #[.bool has, .int .i64 fr, .int .i64 off, .int .i64 am, .int .i64 a0, .int .i64 a1, .int .i64 a2, .int .i64 a3, .int .u8 ak, .int .i64 asv, .string ab, .int .i64 bm, .int .i64 b0, .int .i64 b1, .int .i64 b2, .int .i64 b3, .int .u8 bk, .int .i64 bsv, .string bb] 39)) (w.heap.size + 1) (by simp) b v
  have i2 := fun v0 v => ins_tfd (w.alloc (.cells #[.bool has, .int .i64 fr, .int .i64 off, .int .i64 am, .int .i64 a0, .int .i64 a1, .int .i64 a2, .int .i64 a3, .int .u8 ak, .int .i64 asv, .string ab, .int .i64 bm, .int .i64 b0, .int .i64 b1, .int .i64 b2, .int .i64 b3, .int .u8 bk, .int .i64 bsv, .string bb] 39)) (w.heap.size + 1) (by simp) v0 v
  have i3 := fun v0 v => ins_ftd (w.alloc (.cells #[.bool has, .int .i64 fr, .int .i64 off, .int .i64 am, .int .i64 a0, .int .i64 a1, .int .i64 a2, .int .i64 a3, .int .u8 ak, .int .i64 asv, .string ab, .int .i64 bm, .int .i64 b0, .int .i64 b1, .int .i64 b2, .int .i64 b3, .int .u8 bk, .int .i64 bsv, .string bb] 39)) (w.heap.size + 1) (by simp) v0 v
  have hmm := @run_makeMap Try.prog
  have hnew := fun o => heap_next w (.cells #[.bool has, .int .i64 fr, .int .i64 off, .int .i64 am, .int .i64 a0, .int .i64 a1, .int .i64 a2, .int .i64 a3, .int .u8 ak, .int .i64 asv, .string ab, .int .i64 bm, .int .i64 b0, .int .i64 b1, .int .i64 b2, .int .i64 b3, .int .u8 bk, .int .i64 bsv, .string bb] 39) o
  have hbel := fun o => below_drew (below_alloc (below_alloc (Below.refl w.heap.size w) (.cells #[.bool has, .int .i64 fr, .int .i64 off, .int .i64 am, .int .i64 a0, .int .i64 a1, .int .i64 a2, .int .i64 a3, .int .u8 ak, .int .i64 asv, .string ab, .int .i64 bm, .int .i64 b0, .int .i64 b1, .int .i64 b2, .int .i64 b3, .int .u8 bk, .int .i64 bsv, .string bb] 39)) o)
  go_region
  all_goals
    clear i1 i2 i3 hmm
    go_wp2
    go_ret
    refine ⟨rfl, hbel _, by simp, ?_⟩
    first | exact .inl (hnew _) | exact .inr (hnew _)
theorem halves_calls (has : Bool) (fr off am a0 a1 a2 a3 : Int) (ak asv : Int) (ab : ByteArray) (bm b0 b1 b2 b3 : Int) (bk bsv : Int) (bb : ByteArray) (w : World) :
    Calls Try.prog 29 #[.agg #[.bool has, .int .i64 fr, .int .i64 off, .int .i64 am, .int .i64 a0, .int .i64 a1, .int .i64 a2, .int .i64 a3, .int .u8 ak, .int .i64 asv, .string ab, .int .i64 bm, .int .i64 b0, .int .i64 b1, .int .i64 b2, .int .i64 b3, .int .u8 bk, .int .i64 bsv, .string bb]] w fun e w' =>
      e = .returned (.map (some (w.heap.size + 1))) ∧ Below w.heap.size w w' ∧ w.heap.size + 1 < w'.heap.size ∧ Halves w' (w.heap.size + 1) (decide (am < bm)) (.agg #[.int .i64 am, .int .i64 a0, .int .i64 a1, .int .i64 a2, .int .i64 a3, .int .u8 ak, .int .i64 asv, .string ab]) (.agg #[.int .i64 bm, .int .i64 b0, .int .i64 b1, .int .i64 b2, .int .i64 b3, .int .u8 bk, .int .i64 bsv, .string bb]) := by
  by_cases hm : am < bm
  · rw [decide_eq_true hm]; exact halves_yes _ _ _ _ _ _ _ _ _ _ _ _ _ _ _ _ _ _ _ w hm
  · rw [decide_eq_false hm]; exact halves_no _ _ _ _ _ _ _ _ _ _ _ _ _ _ _ _ _ _ _ w hm
end Go.Proofs.Ytehoammeaimobaa.D
