/- A foot that comes in by value: its cells, its reading, and back. -/
import Derived.Test.YtehoammeaimobaaRows
import Derived.Test.YtehoammeaimobaaHOpq
import Derived.WalkKit
import Derived.ProofKit
import Derived.OpenShut
import Derived.ShutString
import Derived.ChangeOld
import Derived.Below
import Derived.SizedLaws
import Derived.Lib.SmallJoins
set_option linter.unusedVariables false
namespace Go.Proofs.Ytehoammeaimobaa.Q
open Go Go.ChangeShapes Go.WideShapes Go.ChangeAt Go.RowKit Go.Joins Go.Proofs.Ytehoammeaimobaa.D
open Go.ChangeMaps (open_string shut_string)

section
variable {H : Type} {enc : TypeId × Value → H} {w : World} {base : Nat} {spare : Nat → Bool} {held : Bool}
theorem co2 : Try.prog.cellsOf 2 = 1 := by kernel_rfl
theorem co3 : Try.prog.cellsOf 3 = 1 := by kernel_rfl
theorem co4 : Try.prog.cellsOf 4 = 1 := by kernel_rfl
theorem co5 : Try.prog.cellsOf 5 = 1 := by kernel_rfl
theorem co9 : Try.prog.cellsOf 9 = 1 := by kernel_rfl
theorem co23 : Try.prog.cellsOf 23 = 3 := by kernel_rfl
theorem co25 : Try.prog.cellsOf 25 = 2 := by kernel_rfl
theorem co27 : Try.prog.cellsOf 27 = 8 := by kernel_rfl
theorem co29 : Try.prog.cellsOf 29 = 19 := by kernel_rfl
def iw (a : Int) : Prop := (Lit.int .i64 a).wf = true
def halfW (h : HalfT) : Prop := iw h.m ∧ iw h.k ∧ iw h.wd ∧ iw h.n ∧ iw h.sec ∧ (Lit.int .u8 h.kd).wf = true ∧ iw h.sv ∧ h.ab.size ≤ maxLen
def footW (f : FootT) : Prop := iw f.fr ∧ iw f.off ∧ halfW f.A ∧ halfW f.B
def li (a : Int) : DataW H := .lit (.int .i64 a)
def halfD (h : HalfT) : DataW H := .agg [li h.m, .agg [li h.k, li h.wd, li h.n], .agg [li h.sec, .lit (.int .u8 h.kd)], li h.sv, .lit (.string h.ab.data.toList)]
def footD (f : FootT) : DataW H := .agg [.lit (.bool f.has), li f.fr, li f.off, halfD f.A, halfD f.B]

theorem leaf2 {n : Nat} {c : Value} {y : DataW H × List MemPlace} (h : DataW.trod enc Try.prog w base spare held n 2 [c] = some y) : ∃ a : Int, c = .int .i64 a ∧ y = (li a, []) ∧ iw a := by
  obtain ⟨a, e0, rfl, wa⟩ := DataW.trod_int Try.underlying2 h
  simp at e0
  exact ⟨a, e0, rfl, wa⟩
theorem leaf3 {n : Nat} {c : Value} {y : DataW H × List MemPlace} (h : DataW.trod enc Try.prog w base spare held n 3 [c] = some y) : ∃ a : Int, c = .int .i64 a ∧ y = (li a, []) ∧ iw a := by
  obtain ⟨a, e0, rfl, wa⟩ := DataW.trod_int Try.underlying3 h
  simp at e0
  exact ⟨a, e0, rfl, wa⟩
theorem leaf5 {n : Nat} {c : Value} {y : DataW H × List MemPlace} (h : DataW.trod enc Try.prog w base spare held n 5 [c] = some y) : ∃ a : Int, c = .int .u8 a ∧ y = (.lit (.int .u8 a), []) ∧ (Lit.int .u8 a).wf = true := by
  obtain ⟨a, e0, rfl, wa⟩ := DataW.trod_int Try.underlying5 h
  simp at e0
  exact ⟨a, e0, rfl, wa⟩
theorem leaf4 {n : Nat} {c : Value} {y : DataW H × List MemPlace} (h : DataW.trod enc Try.prog w base spare held n 4 [c] = some y) : ∃ b : Bool, c = .bool b ∧ y = (.lit (.bool b), []) := by
  cases n with
  | zero => simp [DataW.trod] at h
  | succ n =>
    cases c <;> simp [DataW.trod, Try.underlying4] at h
    exact ⟨_, rfl, h.symm⟩
theorem leaf9 {n : Nat} {c : Value} {y : DataW H × List MemPlace} (h : DataW.trod enc Try.prog w base spare held n 9 [c] = some y) : ∃ s : ByteArray, c = .string s ∧ y = (.lit (.string s.data.toList), []) ∧ s.size ≤ maxLen := by
  cases n with
  | zero => simp [DataW.trod] at h
  | succ n =>
    cases c <;> simp [DataW.trod, Try.underlying9] at h
    exact ⟨_, rfl, h.2.symm, h.1⟩
theorem open_on {fuel : Nat} {c0 c1 c2 : Value} {x : DataW H × List MemPlace} (h : DataW.trod enc Try.prog w base spare held fuel 23 [c0, c1, c2] = some x) : ∃ a b c : Int, c0 = .int .i64 a ∧ c1 = .int .i64 b ∧ c2 = .int .i64 c ∧ x = (.agg [li a, li b, li c], []) ∧ iw a ∧ iw b ∧ iw c := by
  obtain ⟨xs, n, _, rfl, _, hlen, hg⟩ := DataW.trod_struct Try.underlying23 h
  match xs, hlen with
  | [y0, y1, y2], _ =>
    have g0 : DataW.trod enc Try.prog w base spare held n 3 (([c0, c1, c2].drop 0).take (Try.prog.cellsOf 3)) = some y0 := hg 0 _ rfl
    rw [co3] at g0
    have g1 : DataW.trod enc Try.prog w base spare held n 2 (([c0, c1, c2].drop 1).take (Try.prog.cellsOf 2)) = some y1 := hg 1 _ rfl
    rw [co2] at g1
    have g2 : DataW.trod enc Try.prog w base spare held n 2 (([c0, c1, c2].drop 2).take (Try.prog.cellsOf 2)) = some y2 := hg 2 _ rfl
    rw [co2] at g2
    obtain ⟨a, rfl, rfl, wa⟩ := leaf3 (c := c0) (y := y0) (by simpa using g0)
    obtain ⟨b, rfl, rfl, wb⟩ := leaf2 (c := c1) (y := y1) (by simpa using g1)
    obtain ⟨c, rfl, rfl, wc⟩ := leaf2 (c := c2) (y := y2) (by simpa using g2)
    exact ⟨a, b, c, rfl, rfl, rfl, rfl, wa, wb, wc⟩
theorem open_at {fuel : Nat} {c0 c1 : Value} {x : DataW H × List MemPlace} (h : DataW.trod enc Try.prog w base spare held fuel 25 [c0, c1] = some x) : ∃ a b : Int, c0 = .int .i64 a ∧ c1 = .int .u8 b ∧ x = (.agg [li a, .lit (.int .u8 b)], []) ∧ iw a ∧ (Lit.int .u8 b).wf = true := by
  obtain ⟨xs, n, _, rfl, _, hlen, hg⟩ := DataW.trod_struct Try.underlying25 h
  match xs, hlen with
  | [y0, y1], _ =>
    have g0 : DataW.trod enc Try.prog w base spare held n 2 (([c0, c1].drop 0).take (Try.prog.cellsOf 2)) = some y0 := hg 0 _ rfl
    rw [co2] at g0
    have g1 : DataW.trod enc Try.prog w base spare held n 5 (([c0, c1].drop 1).take (Try.prog.cellsOf 5)) = some y1 := hg 1 _ rfl
    rw [co5] at g1
    obtain ⟨a, rfl, rfl, wa⟩ := leaf2 (c := c0) (y := y0) (by simpa using g0)
    obtain ⟨b, rfl, rfl, wb⟩ := leaf5 (c := c1) (y := y1) (by simpa using g1)
    exact ⟨a, b, rfl, rfl, rfl, wa, wb⟩
theorem open_half {fuel : Nat} {c0 c1 c2 c3 c4 c5 c6 c7 : Value} {x : DataW H × List MemPlace} (h : DataW.trod enc Try.prog w base spare held fuel 27 [c0, c1, c2, c3, c4, c5, c6, c7] = some x) : ∃ hh : HalfT, #[c0, c1, c2, c3, c4, c5, c6, c7] = halfA hh ∧ x = (halfD hh, []) ∧ halfW hh := by
  obtain ⟨xs, n, _, rfl, _, hlen, hg⟩ := DataW.trod_struct Try.underlying27 h
  match xs, hlen with
  | [y0, y1, y2, y3, y4], _ =>
    have g0 : DataW.trod enc Try.prog w base spare held n 2 (([c0, c1, c2, c3, c4, c5, c6, c7].drop 0).take (Try.prog.cellsOf 2)) = some y0 := hg 0 _ rfl
    rw [co2] at g0
    have g1 : DataW.trod enc Try.prog w base spare held n 23 (([c0, c1, c2, c3, c4, c5, c6, c7].drop 1).take (Try.prog.cellsOf 23)) = some y1 := hg 1 _ rfl
    rw [co23] at g1
    have g2 : DataW.trod enc Try.prog w base spare held n 25 (([c0, c1, c2, c3, c4, c5, c6, c7].drop 4).take (Try.prog.cellsOf 25)) = some y2 := hg 2 _ rfl
    rw [co25] at g2
    have g3 : DataW.trod enc Try.prog w base spare held n 2 (([c0, c1, c2, c3, c4, c5, c6, c7].drop 6).take (Try.prog.cellsOf 2)) = some y3 := hg 3 _ rfl
    rw [co2] at g3
    have g4 : DataW.trod enc Try.prog w base spare held n 9 (([c0, c1, c2, c3, c4, c5, c6, c7].drop 7).take (Try.prog.cellsOf 9)) = some y4 := hg 4 _ rfl
    rw [co9] at g4
    obtain ⟨m, rfl, rfl, wm⟩ := leaf2 (c := c0) (y := y0) (by simpa using g0)
    obtain ⟨k, wd, d, rfl, rfl, rfl, rfl, wk, ww, wn⟩ := open_on (c0 := c1) (c1 := c2) (c2 := c3) (x := y1) (by simpa using g1)
    obtain ⟨s, q, rfl, rfl, rfl, ws, wq⟩ := open_at (c0 := c4) (c1 := c5) (x := y2) (by simpa using g2)
    obtain ⟨v, rfl, rfl, wv⟩ := leaf2 (c := c6) (y := y3) (by simpa using g3)
    obtain ⟨t, rfl, rfl, wt⟩ := leaf9 (c := c7) (y := y4) (by simpa using g4)
    exact ⟨⟨m, k, wd, d, s, q, v, t⟩, rfl, rfl, wm, wk, ww, wn, ws, wq, wv, wt⟩
set_option maxRecDepth 100000 in
set_option maxHeartbeats 1000000 in
theorem open_foot {r : Reach} {b0 : Nat} {v : Value} {d : DataW H} {p : List MemPlace} (hv : Value.okWide Try.prog w r b0 29 v) (h : DataW.Trod enc Try.prog w base spare held 29 v d p) : ∃ f : FootT, v = .agg (footA f) ∧ d = footD f ∧ p = [] ∧ footW f := by
  obtain ⟨cs, rfl, hsz⟩ := okWide_struct Try.underlying29 hv
  obtain ⟨l⟩ := cs
  match l, hsz.trans co29 with
  | [c0, c1, c2, c3, c4, c5, c6, c7, c8, c9, c10, c11, c12, c13, c14, c15, c16, c17, c18], _ =>
    obtain ⟨fuel, hf⟩ := h
    obtain ⟨xs, n, _, hx, _, hlen, hg⟩ := DataW.trod_struct Try.underlying29 hf
    match xs, hlen with
    | [y0, y1, y2, y3, y4], _ =>
      have g0 : DataW.trod enc Try.prog w base spare held n 4 (([c0, c1, c2, c3, c4, c5, c6, c7, c8, c9, c10, c11, c12, c13, c14, c15, c16, c17, c18].drop 0).take (Try.prog.cellsOf 4)) = some y0 := hg 0 _ rfl
      rw [co4] at g0
      have g1 : DataW.trod enc Try.prog w base spare held n 2 (([c0, c1, c2, c3, c4, c5, c6, c7, c8, c9, c10, c11, c12, c13, c14, c15, c16, c17, c18].drop 1).take (Try.prog.cellsOf 2)) = some y1 := hg 1 _ rfl
      rw [co2] at g1
      have g2 : DataW.trod enc Try.prog w base spare held n 2 (([c0, c1, c2, c3, c4, c5, c6, c7, c8, c9, c10, c11, c12, c13, c14, c15, c16, c17, c18].drop 2).take (Try.prog.cellsOf 2)) = some y2 := hg 2 _ rfl
      rw [co2] at g2
      have g3 : DataW.trod enc Try.prog w base spare held n 27 (([c0, c1, c2, c3, c4, c5, c6, c7, c8, c9, c10, c11, c12, c13, c14, c15, c16, c17, c18].drop 3).take (Try.prog.cellsOf 27)) = some y3 := hg 3 _ rfl
      rw [co27] at g3
      have g4 : DataW.trod enc Try.prog w base spare held n 27 (([c0, c1, c2, c3, c4, c5, c6, c7, c8, c9, c10, c11, c12, c13, c14, c15, c16, c17, c18].drop 11).take (Try.prog.cellsOf 27)) = some y4 := hg 4 _ rfl
      rw [co27] at g4
      obtain ⟨b, rfl, rfl⟩ := leaf4 (c := c0) (y := y0) (by simpa using g0)
      obtain ⟨fr, rfl, rfl, wf⟩ := leaf2 (c := c1) (y := y1) (by simpa using g1)
      obtain ⟨off, rfl, rfl, wo⟩ := leaf2 (c := c2) (y := y2) (by simpa using g2)
      obtain ⟨A, eA, rfl, wA⟩ := open_half (c0 := c3) (c1 := c4) (c2 := c5) (c3 := c6) (c4 := c7) (c5 := c8) (c6 := c9) (c7 := c10) (x := y3) (by simpa using g3)
      obtain ⟨B, eB, rfl, wB⟩ := open_half (c0 := c11) (c1 := c12) (c2 := c13) (c3 := c14) (c4 := c15) (c5 := c16) (c6 := c17) (c7 := c18) (x := y4) (by simpa using g4)
      simp only [Prod.mk.injEq] at hx
      simp [halfA] at eA eB
      obtain ⟨rfl, rfl, rfl, rfl, rfl, rfl, rfl, rfl⟩ := eA
      obtain ⟨rfl, rfl, rfl, rfl, rfl, rfl, rfl, rfl⟩ := eB
      exact ⟨⟨b, fr, off, A, B⟩, rfl, by simpa [footD] using hx.1, by simpa using hx.2, wf, wo, wA, wB⟩
set_option maxRecDepth 100000 in
set_option maxHeartbeats 1000000 in
theorem shut_foot (f : FootT) (hw : footW f) : DataW.Trod enc Try.prog w base spare held 29 (.agg (footA f)) (footD f) [] := by
  obtain ⟨w1, w2, ⟨a1, a2, a3, a4, a5, a6, a7, a8⟩, ⟨b1, b2, b3, b4, b5, b6, b7, b8⟩⟩ := hw
  unfold iw at *
  refine ⟨4, ?_⟩
  simp [DataW.trod, Try.underlying29, Try.underlying27, Try.underlying25, Try.underlying23, Try.underlying2, Try.underlying3, Try.underlying4, Try.underlying5, Try.underlying9, co2, co3, co4, co5, co9, co23, co25, co27, co29, footA, footD, halfD, li, Value.cells, w1, w2, a1, a2, a3, a4, a5, a6, a7, a8, b1, b2, b3, b4, b5, b6, b7, b8]
end
end Go.Proofs.Ytehoammeaimobaa.Q
