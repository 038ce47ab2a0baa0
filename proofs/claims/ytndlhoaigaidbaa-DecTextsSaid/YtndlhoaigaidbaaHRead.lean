/- Hand contract of dec.Read: a text as a decimal number. -/
import Derived.Test.YtndlhoaigaidbaaHNum
import Derived.Lib.OthersKept
import Derived.WalkSmall
namespace Go.Proofs.Ytndlhoaigaidbaa.D
open Go.RowKit Go.Proofs.YtndlhoaigaidbaaW.PrintWords Go.Proofs.YtndlhoaigaidbaaW.PrintLast Go.Proofs.YtndlhoaigaidbaaW.PrintMore

def mulT (a b : Int) : Int × Int := if inI64 (a * b) then (a * b, 0) else (0, 10)
def subT (a b : Int) : Int × Int := if inI64 (a - b) then (a - b, 0) else (0, 10)

/-- One digit more: N goes below 0. -/
def stepN (N c : Int) : Int × Int := if (mulT N 10).2 = 0 then subT (mulT N 10).1 (c - 48) else mulT N 10

/-- The loop of dec.Read over the bytes that are left; none: something else stands there. -/
def rdl : List Int → Int → Bool → Int → Int → Int → Option (Int × Bool × Int × Int × Int)
  | [], dg, pt, why, N, S => some (dg, pt, why, N, S)
  | c :: cs, dg, pt, why, N, S =>
    if c = 46 ∧ pt = false ∧ 0 < dg then rdl cs dg true why N S
    else if c < 48 ∨ 57 < c then none
    else if why = 0 then rdl cs (dg + 1) pt (stepN N c).2 (stepN N c).1 (if pt = true then S + 1 else S)
    else rdl cs (dg + 1) pt why N (if pt = true then S + 1 else S)

/-- What stands behind the loop. -/
def fin (neg : Bool) (dg : Int) (pt : Bool) (why N S : Int) : Int × Int × Int :=
  if dg = 0 ∨ (pt = true ∧ S = 0) ∨ 9 < S then (0, 0, 13)
  else if neg = false ∧ why = 0 then (if (subT 0 N).2 = 0 then ((subT 0 N).1, S, 0) else (0, 0, (subT 0 N).2))
  else if why = 0 then (N, S, 0) else (0, 0, why)

def readL (neg : Bool) (l : List Int) : Int × Int × Int := match rdl l 0 false 0 0 0 with
  | none => (0, 0, 13)
  | some (dg, pt, why, N, S) => fin neg dg pt why N S

def dec_Read.f (a0 : ByteArray) : Option (Int × Int × Int) :=
  if a0.size ≤ 140737488351232 then
    some (if 0 < a0.size then (if bt a0 0 = 45 then readL true (bytesOf (a0.extract 1 a0.size)) else if bt a0 0 = 43 then readL false (bytesOf (a0.extract 1 a0.size)) else readL false (bytesOf a0)) else readL false (bytesOf a0))
  else none

theorem mulT_f (a b : Int) (ha : inI64 a) (hb : inI64 b) : num_Mul.f a b = some (mulT a b) := by
  unfold num_Mul.f mulT; rw [if_pos ha, if_pos hb]
theorem subT_f (a b : Int) (ha : inI64 a) (hb : inI64 b) : num_Sub.f a b = some (subT a b) := by
  obtain ⟨a1, a2⟩ := ha
  obtain ⟨b1, b2⟩ := hb
  unfold num_Sub.f subT
  by_cases h : inI64 (a - b)
  · have hw : wrap64 (a - b) = a - b := by obtain ⟨h1, h2⟩ := h; unfold wrap64; omega
    rw [if_pos h, hw, if_neg]
    by_cases hb0 : b > 0
    · rw [decide_eq_true hb0, decide_eq_true (by omega : a - b < a)]; decide
    · rw [decide_eq_false hb0, decide_eq_false (by omega : ¬ a - b < a)]; decide
  · rw [if_neg h, if_pos]
    by_cases hb0 : b > 0
    · have : ¬ wrap64 (a - b) < a := by
        have h' : a - b < -9223372036854775808 := Int.not_le.1 fun h1 => h ⟨h1, by omega⟩
        unfold wrap64; omega
      rw [decide_eq_true hb0, decide_eq_false this]; decide
    · have : wrap64 (a - b) < a := by
        have h' : 9223372036854775807 < a - b := Int.not_le.1 fun h1 => h ⟨by omega, h1⟩
        unfold wrap64; omega
      rw [decide_eq_false hb0, decide_eq_true this]; decide
theorem mulT_in (a b : Int) : inI64 (mulT a b).1 := by unfold mulT; split <;> first | assumption | exact ⟨by decide, by decide⟩
theorem subT_in (a b : Int) : inI64 (subT a b).1 := by unfold subT; split <;> first | assumption | exact ⟨by decide, by decide⟩
theorem stepN_in (a b : Int) : inI64 (stepN a b).1 := by unfold stepN; split <;> first | exact subT_in _ _ | exact mulT_in _ _

/-- The memory of dec.Read: its result, its x, the text's iterator. -/
structure RW (sp : ByteArray) (N S : Int) (pos : Nat) (w wr : World) : Prop where
  res : wr.heap[w.heap.size]? = some (.cells #[.int .i64 0, .int .i64 0] 25 (0, 0))
  x : wr.heap[w.heap.size + 1]? = some (.cells #[.int .i64 N, .int .i64 S] 25 (0, 0))
  it : wr.heap[w.heap.size + 1 + 1]? = some (.stringIter sp pos)
  bel : Below w.heap.size w wr

theorem RW.next {sp : ByteArray} {N S : Int} {pos : Nat} {w wr : World} (h : RW sp N S pos w wr) (q : Nat) : RW sp N S q w (wr.iterAt (w.heap.size + 1 + 1) sp q) :=
  ⟨(Lib.iterAt_other _ _ _ _ _ (by omega)).trans h.res, (Lib.iterAt_other _ _ _ _ _ (by omega)).trans h.x, Lib.iterAt_heap _ _ _ _ _ h.it, Lib.below_iterAt h.bel (by omega) _ _⟩
theorem RW.setS {sp : ByteArray} {N S : Int} {pos : Nat} {w wr : World} (h : RW sp N S pos w wr) (S' : Int) : RW sp N S' pos w (wr.setCell ⟨w.heap.size + 1, 1, none⟩ (.int .i64 S')) :=
  ⟨(Below.heap_setCell _ _ _ _ (by simp)).trans h.res, blk_put h.x 1 _ rfl, (Below.heap_setCell _ _ _ _ (by simp)).trans h.it, h.bel.setCell (p := ⟨w.heap.size + 1, 1, none⟩) (by simp) _⟩
theorem RW.setN {sp : ByteArray} {N S : Int} {pos : Nat} {w wr : World} (h : RW sp N S pos w wr) (N' : Int) : RW sp N' S pos w (wr.setCell ⟨w.heap.size + 1, 0, none⟩ (.int .i64 N')) :=
  ⟨(Below.heap_setCell _ _ _ _ (by simp)).trans h.res, blk_put h.x 0 _ rfl, (Below.heap_setCell _ _ _ _ (by simp)).trans h.it, h.bel.setCell (p := ⟨w.heap.size + 1, 0, none⟩) (by simp) _⟩
theorem RW.call {sp : ByteArray} {N S : Int} {pos : Nat} {w wr w' : World} (h : RW sp N S pos w wr) (hb : Below wr.heap.size wr w') : RW sp N S pos w w' :=
  ⟨(hb.block _ (Array.getElem?_eq_some_iff.1 h.res).1).trans h.res, (hb.block _ (Array.getElem?_eq_some_iff.1 h.x).1).trans h.x, (hb.block _ (Array.getElem?_eq_some_iff.1 h.it).1).trans h.it, below_then h.bel h.bel.size hb⟩
theorem RW.facts {sp : ByteArray} {N S : Int} {pos : Nat} {w wr : World} (h : RW sp N S pos w wr) :
    wr.cell? ⟨w.heap.size, 0, none⟩ = some (.int .i64 0) ∧ wr.cell? ⟨w.heap.size, 1, none⟩ = some (.int .i64 0) ∧ wr.frozen? ⟨w.heap.size, 0, none⟩ = false ∧ wr.frozen? ⟨w.heap.size, 1, none⟩ = false ∧
    wr.cell? ⟨w.heap.size + 1, 0, none⟩ = some (.int .i64 N) ∧ wr.cell? ⟨w.heap.size + 1, 1, none⟩ = some (.int .i64 S) ∧ wr.frozen? ⟨w.heap.size + 1, 0, none⟩ = false ∧ wr.frozen? ⟨w.heap.size + 1, 1, none⟩ = false :=
  ⟨(blk_cell h.res 0).trans rfl, (blk_cell h.res 1).trans rfl, blk_frozen h.res 0, blk_frozen h.res 1, (blk_cell h.x 0).trans rfl, (blk_cell h.x 1).trans rfl, blk_frozen h.x 0, blk_frozen h.x 1⟩
theorem RW.start (sp : ByteArray) (w : World) : RW sp 0 0 0 w (((w.alloc (.cells #[.int .i64 0, .int .i64 0] 25 (0, 0))).alloc (.cells #[.int .i64 0, .int .i64 0] 25 (0, 0))).iter sp 0) := by
  have h1 := heap_alloc_new w (.cells #[.int .i64 0, .int .i64 0] 25 (0, 0))
  have h2 := heap_alloc_new (w.alloc (.cells #[.int .i64 0, .int .i64 0] 25 (0, 0))) (.cells #[.int .i64 0, .int .i64 0] 25 (0, 0))
  have h3 := heap_alloc_new ((w.alloc (.cells #[.int .i64 0, .int .i64 0] 25 (0, 0))).alloc (.cells #[.int .i64 0, .int .i64 0] 25 (0, 0))) (.stringIter sp 0)
  rw [World.size_alloc] at h2
  rw [World.size_alloc, World.size_alloc] at h3
  refine ⟨?_, ?_, h3, below_alloc (below_alloc (below_alloc (Below.refl _ _) _) _) _⟩
  · exact (Lib.alloc_old _ _ _ (by rw [World.size_alloc, World.size_alloc]; omega)).trans ((Lib.alloc_old _ _ _ (by rw [World.size_alloc]; omega)).trans h1)
  · exact (Lib.alloc_old _ _ _ (by rw [World.size_alloc, World.size_alloc]; omega)).trans h2

/-- The loop's relation. -/
def RInv (sp : ByteArray) (R : Option (Int × Bool × Int × Int × Int)) (w wr : World) (v6 v7 v8 : Value) : Prop :=
  ∃ (pos : Nat) (dg why N S : Int) (pt : Bool), v6 = .int .i64 dg ∧ v7 = .bool pt ∧ v8 = .int .i64 why ∧ pos ≤ sp.size ∧ 0 ≤ dg ∧ dg ≤ pos ∧ 0 ≤ S ∧ S ≤ pos ∧ inI64 N ∧ rdl ((bytesOf sp).drop pos) dg pt why N S = R ∧ RW sp N S pos w wr

theorem rdl_dot {sp : ByteArray} {pos : Nat} {dg why N S : Int} {R : Option (Int × Bool × Int × Int × Int)} (hdg : 0 < dg) (hd : (bytesOf sp).drop pos = 46 :: (bytesOf sp).drop (pos + 1)) (h : rdl ((bytesOf sp).drop pos) dg false why N S = R) :
    rdl ((bytesOf sp).drop (pos + 1)) dg true why N S = R := by
  rw [hd, rdl, if_pos ⟨rfl, rfl, hdg⟩] at h; exact h
theorem rdl_bad {sp : ByteArray} {pos : Nat} {c dg why N S : Int} {pt : Bool} {R : Option (Int × Bool × Int × Int × Int)} (hdot : ¬ (c = 46 ∧ pt = false ∧ 0 < dg)) (hb : c < 48 ∨ 57 < c) (hd : (bytesOf sp).drop pos = c :: (bytesOf sp).drop (pos + 1)) (h : rdl ((bytesOf sp).drop pos) dg pt why N S = R) :
    R = none := by
  rw [hd, rdl, if_neg hdot, if_pos hb] at h; exact h.symm
theorem rdl_digit0 {sp : ByteArray} {pos : Nat} {c dg N S : Int} {pt : Bool} {R : Option (Int × Bool × Int × Int × Int)} (h1 : 48 ≤ c) (h2 : c ≤ 57) (hd : (bytesOf sp).drop pos = c :: (bytesOf sp).drop (pos + 1)) (h : rdl ((bytesOf sp).drop pos) dg pt 0 N S = R) :
    rdl ((bytesOf sp).drop (pos + 1)) (dg + 1) pt (stepN N c).2 (stepN N c).1 (if pt = true then S + 1 else S) = R := by
  rw [hd, rdl, if_neg (by omega), if_neg (by omega), if_pos rfl] at h; exact h
theorem rdl_digit1 {sp : ByteArray} {pos : Nat} {c dg why N S : Int} {pt : Bool} {R : Option (Int × Bool × Int × Int × Int)} (h1 : 48 ≤ c) (h2 : c ≤ 57) (hw : ¬ why = 0) (hd : (bytesOf sp).drop pos = c :: (bytesOf sp).drop (pos + 1)) (h : rdl ((bytesOf sp).drop pos) dg pt why N S = R) :
    rdl ((bytesOf sp).drop (pos + 1)) (dg + 1) pt why N (if pt = true then S + 1 else S) = R := by
  rw [hd, rdl, if_neg (by omega), if_neg (by omega), if_neg hw] at h; exact h
theorem rdl_end {l : List Int} {dg why N S : Int} {pt : Bool} {R : Option (Int × Bool × Int × Int × Int)} (hl : l = []) (h : rdl l dg pt why N S = R) : R = some (dg, pt, why, N, S) := by
  rw [hl, rdl] at h; exact h.symm
theorem fin_13 {neg : Bool} {dg why N S : Int} {pt : Bool} (h : dg = 0 ∨ (pt = true ∧ S = 0) ∨ 9 < S) : fin neg dg pt why N S = (0, 0, 13) := by unfold fin; rw [if_pos h]
theorem fin_ok {neg : Bool} {dg why N S : Int} {pt : Bool} (h1 : ¬ dg = 0) (h2 : ¬ (pt = true ∧ S = 0)) (h3 : ¬ 9 < S) :
    fin neg dg pt why N S = if neg = false ∧ why = 0 then (if (subT 0 N).2 = 0 then ((subT 0 N).1, S, 0) else (0, 0, (subT 0 N).2)) else if why = 0 then (N, S, 0) else (0, 0, why) := by
  unfold fin; rw [if_neg (fun h => h.elim h1 (fun h => h.elim h2 h3))]
theorem read_none (neg : Bool) {l : List Int} (h : rdl l 0 false 0 0 0 = none) : readL neg l = (0, 0, 13) := by unfold readL; rw [h]
theorem read_some (neg : Bool) {l : List Int} {dg why N S : Int} {pt : Bool} (h : rdl l 0 false 0 0 0 = some (dg, pt, why, N, S)) : readL neg l = fin neg dg pt why N S := by unfold readL; rw [h]

theorem toList_full (s : ByteArray) (h : 0 < s.size) : s.toList.isEmpty = false := by
  rw [ByteArray.toList_eq]
  have : 0 < s.data.toList.length := by rw [data_length]; exact h
  cases hd : s.data.toList with
  | nil => rw [hd] at this; exact absurd this (by simp)
  | cons a l => rfl
theorem toList_none (s : ByteArray) (h : s.size = 0) : s.toList.isEmpty = true := by
  rw [ByteArray.toList_eq]
  have : s.data.toList.length = 0 := by rw [data_length]; exact h
  rw [List.length_eq_zero_iff.1 this]; rfl

theorem drop_bytes (s : ByteArray) (pos : Nat) (h : pos < s.size) : (bytesOf s).drop pos = ((s[pos]'h).toNat : Int) :: (bytesOf s).drop (pos + 1) := by
  have h' : pos < (bytesOf s).length := by rw [bytesOf_length]; exact h
  rw [List.drop_eq_getElem_cons h']
  congr 1
  simp [bytesOf]
  rfl

set_option maxHeartbeats 8000000 in
set_option maxRecDepth 100000 in
theorem dec_Read.plain (s : ByteArray) (w : World) (hs : s.size ≤ 140737488351232) (h0 : 0 < s.size) (c45 : ¬ bt s 0 = 45) (c43 : ¬ bt s 0 = 43) (r1 r2 r3 : Int) (hr : readL false (bytesOf s) = (r1, r2, r3)) : 
    Calls Try.prog 6 #[.string s] w fun e w' => e = .returned (.tuple #[.agg #[.int .i64 r1, .int .i64 r2], .int .i64 r3]) ∧ Below w.heap.size w w' := by
  have hl : s.toList.isEmpty = false := toList_full s h0
  have hb0 : ((s[0]'h0).toNat : Int) = bt s 0 := bt_at s 0 h0
  have e45 : (bt s 0 == 45) = false := by simpa using c45
  have e43 : (bt s 0 == 43) = false := by simpa using c43
  have HR := Aside0.mk hr
  clear hr c45 c43
  go_enter Try.func6, Try.ntmps6
  go_wp2_with (fail)
  generalize s = sp at *
  generalize hR : rdl (bytesOf sp) 0 false 0 0 0 = R
  have HRd := Aside0.mk hR
  have HRR := Aside0.mk hR
  clear hR
  go_loopw [6, 7, 8] (fun v6 v7 v8 wr => RInv sp R w wr v6 v7 v8) (fun _ _ _ wr => sp.size - wr.iterPos (w.heap.size + 1 + 1))
  case atStart => exact ⟨0, 0, 0, 0, 0, false, rfl, rfl, rfl, by omega, by omega, by omega, by omega, by omega, ⟨by decide, by decide⟩, HRd.out, RW.start sp w⟩
  case round =>
    obtain ⟨pos, dg, why, N, S, pt, rfl, rfl, rfl, hp, hd0, hd1, hS0, hS1, hN, hrd, hw⟩ := hrel
    have HRD := Aside0.mk hrd
    have HW := Aside0.mk hw
    have hpos := iterPos_of hw.it
    have HPOS := Aside0.mk hpos
    have HN := Aside0.mk hN
    clear hrd hpos HRd hN hb0 e45 e43 hl
    by_cases hlt : pos < sp.size
    · have hw1 := fun q => hw.next q
      by_cases ha : (sp[pos]'hlt).toNat < 128
      · have hnx : ∀ ty, (Instr.next (.pointer (some ⟨w.heap.size + 1 + 1, 0, none⟩)) true ty).run Try.prog wr = _ := fun ty => Lib.run_next_ascii_at wr _ sp pos ty hw.it hlt ha
        have hdr := drop_bytes sp pos hlt
        have hc0 : (0 : Int) ≤ ((sp[pos]'hlt).toNat : Int) := by omega
        have hc1 : ((sp[pos]'hlt).toNat : Int) < 128 := by omega
        generalize ((sp[pos]'hlt).toNat : Int) = c at hnx hdr hc0 hc1
        have hw2 := hw1 (pos + 1)
        have HDR := Aside0.mk hdr
        have HW2 := Aside0.mk hw2
        obtain ⟨k0, k1, f0, f1, x0, x1, g0, g1⟩ := hw2.facts
        clear hw hw1 hdr hw2 ha
        by_cases hdot : c = 46 ∧ pt = false ∧ 0 < dg
        · obtain ⟨rfl, rfl, hdg⟩ := hdot
          go_wp2
          go_roundw
          case measure => rw [iterPos_of HW2.out.it, HPOS.out]; omega
          case rel => exact ⟨pos + 1, dg, why, N, S, true, rfl, rfl, rfl, by omega, hd0, by omega, hS0, by omega, HN.out, rdl_dot hdg HDR.out HRD.out, HW2.out⟩
        · by_cases hbad : c < 48 ∨ 57 < c
          · have hRn := rdl_bad hdot hbad HDR.out HRD.out
            subst hRn
            have hr2 := read_none false HRR.out
            rw [HR.out] at hr2
            obtain ⟨rfl, rfl, rfl⟩ : r1 = 0 ∧ r2 = 0 ∧ r3 = 13 := by simpa using hr2
            clear hr2
            have HB2 := Aside0.mk HW2.out.bel
            clear x0 x1 g0 g1
            by_cases h46 : c = 46
            · subst h46
              cases pt
              · have hdg : ¬ 0 < dg := fun h => hdot ⟨rfl, rfl, h⟩
                clear hdot hbad
                go_wp2
                refine bodyPost_ret (v := .tuple #[.agg #[.int .i64 0, .int .i64 0], .int .i64 13]) (by simp [results, Try.results6, go_sem, k0, k1]) rfl ⟨rfl, ?_⟩
                exact (HB2.out.setCell (p := ⟨w.heap.size, 0, none⟩) (Nat.le_refl _) _).setCell (p := ⟨w.heap.size, 1, none⟩) (Nat.le_refl _) _
              · clear hdot hbad
                go_wp2
                refine bodyPost_ret (v := .tuple #[.agg #[.int .i64 0, .int .i64 0], .int .i64 13]) (by simp [results, Try.results6, go_sem, k0, k1]) rfl ⟨rfl, ?_⟩
                exact (HB2.out.setCell (p := ⟨w.heap.size, 0, none⟩) (Nat.le_refl _) _).setCell (p := ⟨w.heap.size, 1, none⟩) (Nat.le_refl _) _
            · have e46 : (c == 46) = false := by simpa using h46
              clear hdot h46
              by_cases hlo : c < 48
              · clear hbad
                go_wp2
                refine bodyPost_ret (v := .tuple #[.agg #[.int .i64 0, .int .i64 0], .int .i64 13]) (by simp [results, Try.results6, go_sem, k0, k1]) rfl ⟨rfl, ?_⟩
                exact (HB2.out.setCell (p := ⟨w.heap.size, 0, none⟩) (Nat.le_refl _) _).setCell (p := ⟨w.heap.size, 1, none⟩) (Nat.le_refl _) _
              · have hhi : 57 < c := by omega
                clear hbad
                go_wp2
                refine bodyPost_ret (v := .tuple #[.agg #[.int .i64 0, .int .i64 0], .int .i64 13]) (by simp [results, Try.results6, go_sem, k0, k1]) rfl ⟨rfl, ?_⟩
                exact (HB2.out.setCell (p := ⟨w.heap.size, 0, none⟩) (Nat.le_refl _) _).setCell (p := ⟨w.heap.size, 1, none⟩) (Nat.le_refl _) _
          · have hlo : 48 ≤ c := by omega
            have hhi : c ≤ 57 := by omega
            have e46 : (c == 46) = false := by simp; omega
            clear hdot hbad f0 f1 k0 k1
            by_cases hwhy : why = 0
            · subst hwhy
              have hst := rdl_digit0 hlo hhi HDR.out HRD.out
              have hm := mulT_f N 10 HN.out ⟨by decide, by decide⟩
              have hin := mulT_in N 10
              unfold stepN at hst
              generalize mulT N 10 = m at hst hm hin
              obtain ⟨m1, m2⟩ := m
              have HM := Aside0.mk hm
              clear hm
              by_cases hm2 : m2 = 0
              · subst hm2
                rw [if_pos rfl] at hst
                have hq := subT_f m1 (c - 48) hin ⟨by omega, by omega⟩
                have hin2 := subT_in m1 (c - 48)
                generalize subT m1 (c - 48) = q at hst hq hin2
                obtain ⟨q1, q2⟩ := q
                have HQ := Aside0.mk hq
                have HST := Aside0.mk hst
                have HIN2 := Aside0.mk hin2
                clear hq hst hin hin2
                cases pt
                · go_wp2_with (fail)
                  refine (num_Mul.calls N 10 m1 0 _ HM.out).mono ?_
                  rintro e w3 ⟨rfl, hb3⟩
                  have HW3 := Aside0.mk (HW2.out.call hb3)
                  obtain ⟨-, -, -, -, y0, y1, z0, z1⟩ := HW3.out.facts
                  clear hb3 x0 x1 g0 g1
                  go_wp2_with (fail)
                  refine (num_Sub.calls m1 (c - 48) q1 q2 _ HQ.out).mono ?_
                  rintro e w4 ⟨rfl, hd4⟩
                  have HW4 := Aside0.mk ((HW3.out.setN m1).call hd4.below)
                  obtain ⟨-, -, -, -, v0, v1, u0, u1⟩ := HW4.out.facts
                  clear hd4 y0 y1 z0 z1
                  go_wp2
                  go_roundw
                  case measure => rw [iterPos_of (HW4.out.setN q1).it, HPOS.out]; omega
                  case rel => exact ⟨pos + 1, dg + 1, q2, q1, S, false, rfl, rfl, rfl, by omega, by omega, by omega, by omega, by omega, HIN2.out, HST.out, HW4.out.setN q1⟩
                · go_wp2_with (fail)
                  refine (num_Mul.calls N 10 m1 0 _ HM.out).mono ?_
                  rintro e w3 ⟨rfl, hb3⟩
                  have HW3 := Aside0.mk ((HW2.out.setS (S + 1)).call hb3)
                  obtain ⟨-, -, -, -, y0, y1, z0, z1⟩ := HW3.out.facts
                  clear hb3 x0 x1 g0 g1
                  go_wp2_with (fail)
                  refine (num_Sub.calls m1 (c - 48) q1 q2 _ HQ.out).mono ?_
                  rintro e w4 ⟨rfl, hd4⟩
                  have HW4 := Aside0.mk ((HW3.out.setN m1).call hd4.below)
                  obtain ⟨-, -, -, -, v0, v1, u0, u1⟩ := HW4.out.facts
                  clear hd4 y0 y1 z0 z1
                  go_wp2
                  go_roundw
                  case measure => rw [iterPos_of (HW4.out.setN q1).it, HPOS.out]; omega
                  case rel => exact ⟨pos + 1, dg + 1, q2, q1, S + 1, true, rfl, rfl, rfl, by omega, by omega, by omega, by omega, by omega, HIN2.out, HST.out, HW4.out.setN q1⟩
              · rw [if_neg hm2] at hst
                have em2 : (m2 == 0) = false := by simpa using hm2
                have HST := Aside0.mk hst
                have HIN := Aside0.mk hin
                clear hst hin hm2
                cases pt
                · go_wp2_with (fail)
                  refine (num_Mul.calls N 10 m1 m2 _ HM.out).mono ?_
                  rintro e w3 ⟨rfl, hb3⟩
                  have HW3 := Aside0.mk (HW2.out.call hb3)
                  obtain ⟨-, -, -, -, y0, y1, z0, z1⟩ := HW3.out.facts
                  clear hb3 x0 x1 g0 g1
                  go_wp2
                  go_roundw
                  case measure => rw [iterPos_of (HW3.out.setN m1).it, HPOS.out]; omega
                  case rel => exact ⟨pos + 1, dg + 1, m2, m1, S, false, rfl, rfl, rfl, by omega, by omega, by omega, by omega, by omega, HIN.out, HST.out, HW3.out.setN m1⟩
                · go_wp2_with (fail)
                  refine (num_Mul.calls N 10 m1 m2 _ HM.out).mono ?_
                  rintro e w3 ⟨rfl, hb3⟩
                  have HW3 := Aside0.mk ((HW2.out.setS (S + 1)).call hb3)
                  obtain ⟨-, -, -, -, y0, y1, z0, z1⟩ := HW3.out.facts
                  clear hb3 x0 x1 g0 g1
                  go_wp2
                  go_roundw
                  case measure => rw [iterPos_of (HW3.out.setN m1).it, HPOS.out]; omega
                  case rel => exact ⟨pos + 1, dg + 1, m2, m1, S + 1, true, rfl, rfl, rfl, by omega, by omega, by omega, by omega, by omega, HIN.out, HST.out, HW3.out.setN m1⟩
            · have hst := rdl_digit1 hlo hhi hwhy HDR.out HRD.out
              have ewhy : (why == 0) = false := by simpa using hwhy
              have HST := Aside0.mk hst
              clear hst hwhy
              cases pt
              · go_wp2
                go_roundw
                case measure => rw [iterPos_of HW2.out.it, HPOS.out]; omega
                case rel => exact ⟨pos + 1, dg + 1, why, N, S, false, rfl, rfl, rfl, by omega, by omega, by omega, by omega, by omega, HN.out, HST.out, HW2.out⟩
              · go_wp2
                go_roundw
                case measure => rw [iterPos_of (HW2.out.setS (S + 1)).it, HPOS.out]; omega
                case rel => exact ⟨pos + 1, dg + 1, why, N, S + 1, true, rfl, rfl, rfl, by omega, by omega, by omega, by omega, by omega, HN.out, HST.out, HW2.out.setS (S + 1)⟩
      · have hnx : ∀ ty, (Instr.next (.pointer (some ⟨w.heap.size + 1 + 1, 0, none⟩)) true ty).run Try.prog wr = _ := fun ty => Lib.run_next_any_at wr _ sp pos ty hw.it hlt
        have hdr := drop_bytes sp pos hlt
        have hhigh := (decode_high sp pos hlt (by omega)).1
        have hle := decode_le sp pos
        have hw2 := hw1 (pos + (Utf8.decode sp pos).2)
        have hRn := rdl_bad (fun h => by omega) (.inr (by omega)) hdr HRD.out
        generalize (Utf8.decode sp pos).1 = c at hnx hhigh hle
        generalize pos + (Utf8.decode sp pos).2 = pos2 at hnx hw2
        have HB2 := Aside0.mk hw2.bel
        obtain ⟨k0, k1, f0, f1, x0, x1, g0, g1⟩ := hw2.facts
        subst hRn
        have hr2 := read_none false HRR.out
        rw [HR.out] at hr2
        obtain ⟨rfl, rfl, rfl⟩ : r1 = 0 ∧ r2 = 0 ∧ r3 = 13 := by simpa using hr2
        have e46 : (((c : Nat) : Int) == 46) = false := by simp; omega
        have ehi : (57 : Int) < (c : Int) := by omega
        clear hw hw1 hdr hw2 ha hr2 x0 x1 g0 g1
        go_wp2
        refine bodyPost_ret (v := .tuple #[.agg #[.int .i64 0, .int .i64 0], .int .i64 13]) (by simp [results, Try.results6, go_sem, k0, k1]) rfl ⟨rfl, ?_⟩
        exact (HB2.out.setCell (p := ⟨w.heap.size, 0, none⟩) (Nat.le_refl _) _).setCell (p := ⟨w.heap.size, 1, none⟩) (Nat.le_refl _) _
    · have hnx : ∀ ty, (Instr.next (.pointer (some ⟨w.heap.size + 1 + 1, 0, none⟩)) true ty).run Try.prog wr = _ := fun ty => Lib.run_next_end_at wr _ sp pos ty hw.it hlt
      have hRs := rdl_end (by rw [List.drop_eq_nil_of_le (by rw [bytesOf_length]; omega)]) HRD.out
      subst hRs
      have hr2 := read_some false HRR.out
      rw [HR.out] at hr2
      have HR2 := Aside0.mk hr2
      have HB2 := Aside0.mk hw.bel
      have HWE := Aside0.mk hw
      obtain ⟨k0, k1, f0, f1, x0, x1, g0, g1⟩ := hw.facts
      clear hw hr2 hlt
      by_cases hdg : dg = 0
      · have hr3 := HR2.out
        rw [fin_13 (.inl hdg)] at hr3
        obtain ⟨rfl, rfl, rfl⟩ : r1 = 0 ∧ r2 = 0 ∧ r3 = 13 := by simpa using hr3
        have edg : (dg == 0) = true := by simpa using hdg
        clear hr3 hdg HR2
        go_wp2
        refine bodyPost_ret (v := .tuple #[.agg #[.int .i64 0, .int .i64 0], .int .i64 13]) (by simp [results, Try.results6, go_sem, k0, k1]) rfl ⟨rfl, ?_⟩
        exact (HB2.out.setCell (p := ⟨w.heap.size, 0, none⟩) (Nat.le_refl _) _).setCell (p := ⟨w.heap.size, 1, none⟩) (Nat.le_refl _) _
      · have edg : (dg == 0) = false := by simpa using hdg
        by_cases hS9 : 9 < S
        · have hr3 := HR2.out
          rw [fin_13 (.inr (.inr hS9))] at hr3
          obtain ⟨rfl, rfl, rfl⟩ : r1 = 0 ∧ r2 = 0 ∧ r3 = 13 := by simpa using hr3
          have eS : (S == 0) = false := by simp; omega
          clear hr3 hdg HR2
          cases pt
          · go_wp2
            refine bodyPost_ret (v := .tuple #[.agg #[.int .i64 0, .int .i64 0], .int .i64 13]) (by simp [results, Try.results6, go_sem, k0, k1]) rfl ⟨rfl, ?_⟩
            exact (HB2.out.setCell (p := ⟨w.heap.size, 0, none⟩) (Nat.le_refl _) _).setCell (p := ⟨w.heap.size, 1, none⟩) (Nat.le_refl _) _
          · go_wp2
            refine bodyPost_ret (v := .tuple #[.agg #[.int .i64 0, .int .i64 0], .int .i64 13]) (by simp [results, Try.results6, go_sem, k0, k1]) rfl ⟨rfl, ?_⟩
            exact (HB2.out.setCell (p := ⟨w.heap.size, 0, none⟩) (Nat.le_refl _) _).setCell (p := ⟨w.heap.size, 1, none⟩) (Nat.le_refl _) _
        · by_cases hpS : pt = true ∧ S = 0
          · have hr3 := HR2.out
            rw [fin_13 (.inr (.inl hpS))] at hr3
            obtain ⟨rfl, rfl, rfl⟩ : r1 = 0 ∧ r2 = 0 ∧ r3 = 13 := by simpa using hr3
            obtain ⟨rfl, rfl⟩ := hpS
            clear hr3 hdg HR2 hS9
            go_wp2
            refine bodyPost_ret (v := .tuple #[.agg #[.int .i64 0, .int .i64 0], .int .i64 13]) (by simp [results, Try.results6, go_sem, k0, k1]) rfl ⟨rfl, ?_⟩
            exact (HB2.out.setCell (p := ⟨w.heap.size, 0, none⟩) (Nat.le_refl _) _).setCell (p := ⟨w.heap.size, 1, none⟩) (Nat.le_refl _) _
          · have hr3 := HR2.out
            rw [fin_ok hdg hpS hS9] at hr3
            have eS : pt = true → (S == 0) = false := by intro h; simp; exact fun h2 => hpS ⟨h, h2⟩
            have hS9' : S ≤ 9 := by omega
            clear HR2 hpS hS9 hdg
            by_cases hwhy : why = 0
            · subst hwhy
              rw [if_pos ⟨rfl, rfl⟩] at hr3
              have hq := subT_f 0 N ⟨by decide, by decide⟩ HN.out
              generalize subT 0 N = q at hr3 hq
              obtain ⟨q1, q2⟩ := q
              have hng : num_Neg.f N = some (q1, q2) := by unfold num_Neg.f; rw [hq]; rfl
              dsimp only at hr3
              have hmd : dec_made.f q1 S q2 = some (r1, r2, r3) := by
                unfold dec_made.f
                by_cases h : q2 = 0
                · rw [if_pos h] at hr3 ⊢; rw [← hr3]
                · rw [if_neg h] at hr3 ⊢; rw [← hr3]
              have HNG := Aside0.mk hng
              have HMD := Aside0.mk hmd
              clear hr3 hq hng hmd
              cases pt
              all_goals
                (try have eS := eS rfl)
                go_wp2_with (fail)
                refine (num_Neg.calls N q1 q2 _ HNG.out).mono ?_
                rintro e w3 ⟨rfl, hb3⟩
                have HW3 := Aside0.mk (HWE.out.call hb3.below)
                obtain ⟨m0, m1, n0, n1, y0, y1, z0, z1⟩ := HW3.out.facts
                clear hb3 x0 x1 g0 g1 k0 k1 f0 f1
                go_wp2_with (fail)
                refine (dec_made.calls q1 S q2 r1 r2 r3 _ HMD.out).mono ?_
                rintro e w4 ⟨rfl, hb4⟩
                have HW4 := Aside0.mk ((HW3.out.setN q1).call hb4)
                obtain ⟨m0, m1, n0, n1, -, -, -, -⟩ := HW4.out.facts
                clear hb4 y0 y1 z0 z1
                go_wp2
                refine bodyPost_ret (v := .tuple #[.agg #[.int .i64 r1, .int .i64 r2], .int .i64 r3]) (by simp [results, Try.results6, go_sem, m0, m1]) rfl ⟨rfl, ?_⟩
                exact (HW4.out.bel.setCell (p := ⟨w.heap.size, 0, none⟩) (Nat.le_refl _) _).setCell (p := ⟨w.heap.size, 1, none⟩) (Nat.le_refl _) _
            · rw [if_neg (fun h => hwhy h.2), if_neg hwhy] at hr3
              have hmd : dec_made.f N S why = some (r1, r2, r3) := by unfold dec_made.f; rw [if_neg hwhy, hr3]
              have HMD := Aside0.mk hmd
              have ewhy : (why == 0) = false := by simpa using hwhy
              clear hr3 hmd hwhy
              cases pt
              all_goals
                (try have eS := eS rfl)
                go_wp2_with (fail)
                refine (dec_made.calls N S why r1 r2 r3 _ HMD.out).mono ?_
                rintro e w4 ⟨rfl, hb4⟩
                have HW4 := Aside0.mk (HWE.out.call hb4)
                obtain ⟨m0, m1, n0, n1, -, -, -, -⟩ := HW4.out.facts
                clear hb4 x0 x1 g0 g1 k0 k1 f0 f1
                go_wp2
                refine bodyPost_ret (v := .tuple #[.agg #[.int .i64 r1, .int .i64 r2], .int .i64 r3]) (by simp [results, Try.results6, go_sem, m0, m1]) rfl ⟨rfl, ?_⟩
                exact (HW4.out.bel.setCell (p := ⟨w.heap.size, 0, none⟩) (Nat.le_refl _) _).setCell (p := ⟨w.heap.size, 1, none⟩) (Nat.le_refl _) _

set_option maxHeartbeats 8000000 in
set_option maxRecDepth 100000 in
theorem dec_Read.empty (s : ByteArray) (w : World) (hs : s.size ≤ 140737488351232) (h0 : ¬ 0 < s.size) (r1 r2 r3 : Int) (hr : readL false (bytesOf s) = (r1, r2, r3)) : 
    Calls Try.prog 6 #[.string s] w fun e w' => e = .returned (.tuple #[.agg #[.int .i64 r1, .int .i64 r2], .int .i64 r3]) ∧ Below w.heap.size w w' := by
  have hl : s.toList.isEmpty = true := toList_none s (by omega)
  have hb0 : True := trivial
  have e45 : True := trivial
  have e43 : True := trivial
  have HR := Aside0.mk hr
  clear hr
  go_enter Try.func6, Try.ntmps6
  go_wp2_with (fail)
  generalize s = sp at *
  clear h0
  generalize hR : rdl (bytesOf sp) 0 false 0 0 0 = R
  have HRd := Aside0.mk hR
  have HRR := Aside0.mk hR
  clear hR
  go_loopw [6, 7, 8] (fun v6 v7 v8 wr => RInv sp R w wr v6 v7 v8) (fun _ _ _ wr => sp.size - wr.iterPos (w.heap.size + 1 + 1))
  case atStart => exact ⟨0, 0, 0, 0, 0, false, rfl, rfl, rfl, by omega, by omega, by omega, by omega, by omega, ⟨by decide, by decide⟩, HRd.out, RW.start sp w⟩
  case round =>
    obtain ⟨pos, dg, why, N, S, pt, rfl, rfl, rfl, hp, hd0, hd1, hS0, hS1, hN, hrd, hw⟩ := hrel
    have HRD := Aside0.mk hrd
    have HW := Aside0.mk hw
    have hpos := iterPos_of hw.it
    have HPOS := Aside0.mk hpos
    have HN := Aside0.mk hN
    clear hrd hpos HRd hN hb0 e45 e43 hl
    by_cases hlt : pos < sp.size
    · have hw1 := fun q => hw.next q
      by_cases ha : (sp[pos]'hlt).toNat < 128
      · have hnx : ∀ ty, (Instr.next (.pointer (some ⟨w.heap.size + 1 + 1, 0, none⟩)) true ty).run Try.prog wr = _ := fun ty => Lib.run_next_ascii_at wr _ sp pos ty hw.it hlt ha
        have hdr := drop_bytes sp pos hlt
        have hc0 : (0 : Int) ≤ ((sp[pos]'hlt).toNat : Int) := by omega
        have hc1 : ((sp[pos]'hlt).toNat : Int) < 128 := by omega
        generalize ((sp[pos]'hlt).toNat : Int) = c at hnx hdr hc0 hc1
        have hw2 := hw1 (pos + 1)
        have HDR := Aside0.mk hdr
        have HW2 := Aside0.mk hw2
        obtain ⟨k0, k1, f0, f1, x0, x1, g0, g1⟩ := hw2.facts
        clear hw hw1 hdr hw2 ha
        by_cases hdot : c = 46 ∧ pt = false ∧ 0 < dg
        · obtain ⟨rfl, rfl, hdg⟩ := hdot
          go_wp2
          go_roundw
          case measure => rw [iterPos_of HW2.out.it, HPOS.out]; omega
          case rel => exact ⟨pos + 1, dg, why, N, S, true, rfl, rfl, rfl, by omega, hd0, by omega, hS0, by omega, HN.out, rdl_dot hdg HDR.out HRD.out, HW2.out⟩
        · by_cases hbad : c < 48 ∨ 57 < c
          · have hRn := rdl_bad hdot hbad HDR.out HRD.out
            subst hRn
            have hr2 := read_none false HRR.out
            rw [HR.out] at hr2
            obtain ⟨rfl, rfl, rfl⟩ : r1 = 0 ∧ r2 = 0 ∧ r3 = 13 := by simpa using hr2
            clear hr2
            have HB2 := Aside0.mk HW2.out.bel
            clear x0 x1 g0 g1
            by_cases h46 : c = 46
            · subst h46
              cases pt
              · have hdg : ¬ 0 < dg := fun h => hdot ⟨rfl, rfl, h⟩
                clear hdot hbad
                go_wp2
                refine bodyPost_ret (v := .tuple #[.agg #[.int .i64 0, .int .i64 0], .int .i64 13]) (by simp [results, Try.results6, go_sem, k0, k1]) rfl ⟨rfl, ?_⟩
                exact (HB2.out.setCell (p := ⟨w.heap.size, 0, none⟩) (Nat.le_refl _) _).setCell (p := ⟨w.heap.size, 1, none⟩) (Nat.le_refl _) _
              · clear hdot hbad
                go_wp2
                refine bodyPost_ret (v := .tuple #[.agg #[.int .i64 0, .int .i64 0], .int .i64 13]) (by simp [results, Try.results6, go_sem, k0, k1]) rfl ⟨rfl, ?_⟩
                exact (HB2.out.setCell (p := ⟨w.heap.size, 0, none⟩) (Nat.le_refl _) _).setCell (p := ⟨w.heap.size, 1, none⟩) (Nat.le_refl _) _
            · have e46 : (c == 46) = false := by simpa using h46
              clear hdot h46
              by_cases hlo : c < 48
              · clear hbad
                go_wp2
                refine bodyPost_ret (v := .tuple #[.agg #[.int .i64 0, .int .i64 0], .int .i64 13]) (by simp [results, Try.results6, go_sem, k0, k1]) rfl ⟨rfl, ?_⟩
                exact (HB2.out.setCell (p := ⟨w.heap.size, 0, none⟩) (Nat.le_refl _) _).setCell (p := ⟨w.heap.size, 1, none⟩) (Nat.le_refl _) _
              · have hhi : 57 < c := by omega
                clear hbad
                go_wp2
                refine bodyPost_ret (v := .tuple #[.agg #[.int .i64 0, .int .i64 0], .int .i64 13]) (by simp [results, Try.results6, go_sem, k0, k1]) rfl ⟨rfl, ?_⟩
                exact (HB2.out.setCell (p := ⟨w.heap.size, 0, none⟩) (Nat.le_refl _) _).setCell (p := ⟨w.heap.size, 1, none⟩) (Nat.le_refl _) _
          · have hlo : 48 ≤ c := by omega
            have hhi : c ≤ 57 := by omega
            have e46 : (c == 46) = false := by simp; omega
            clear hdot hbad f0 f1 k0 k1
            by_cases hwhy : why = 0
            · subst hwhy
              have hst := rdl_digit0 hlo hhi HDR.out HRD.out
              have hm := mulT_f N 10 HN.out ⟨by decide, by decide⟩
              have hin := mulT_in N 10
              unfold stepN at hst
              generalize mulT N 10 = m at hst hm hin
              obtain ⟨m1, m2⟩ := m
              have HM := Aside0.mk hm
              clear hm
              by_cases hm2 : m2 = 0
              · subst hm2
                rw [if_pos rfl] at hst
                have hq := subT_f m1 (c - 48) hin ⟨by omega, by omega⟩
                have hin2 := subT_in m1 (c - 48)
                generalize subT m1 (c - 48) = q at hst hq hin2
                obtain ⟨q1, q2⟩ := q
                have HQ := Aside0.mk hq
                have HST := Aside0.mk hst
                have HIN2 := Aside0.mk hin2
                clear hq hst hin hin2
                cases pt
                · go_wp2_with (fail)
                  refine (num_Mul.calls N 10 m1 0 _ HM.out).mono ?_
                  rintro e w3 ⟨rfl, hb3⟩
                  have HW3 := Aside0.mk (HW2.out.call hb3)
                  obtain ⟨-, -, -, -, y0, y1, z0, z1⟩ := HW3.out.facts
                  clear hb3 x0 x1 g0 g1
                  go_wp2_with (fail)
                  refine (num_Sub.calls m1 (c - 48) q1 q2 _ HQ.out).mono ?_
                  rintro e w4 ⟨rfl, hd4⟩
                  have HW4 := Aside0.mk ((HW3.out.setN m1).call hd4.below)
                  obtain ⟨-, -, -, -, v0, v1, u0, u1⟩ := HW4.out.facts
                  clear hd4 y0 y1 z0 z1
                  go_wp2
                  go_roundw
                  case measure => rw [iterPos_of (HW4.out.setN q1).it, HPOS.out]; omega
                  case rel => exact ⟨pos + 1, dg + 1, q2, q1, S, false, rfl, rfl, rfl, by omega, by omega, by omega, by omega, by omega, HIN2.out, HST.out, HW4.out.setN q1⟩
                · go_wp2_with (fail)
                  refine (num_Mul.calls N 10 m1 0 _ HM.out).mono ?_
                  rintro e w3 ⟨rfl, hb3⟩
                  have HW3 := Aside0.mk ((HW2.out.setS (S + 1)).call hb3)
                  obtain ⟨-, -, -, -, y0, y1, z0, z1⟩ := HW3.out.facts
                  clear hb3 x0 x1 g0 g1
                  go_wp2_with (fail)
                  refine (num_Sub.calls m1 (c - 48) q1 q2 _ HQ.out).mono ?_
                  rintro e w4 ⟨rfl, hd4⟩
                  have HW4 := Aside0.mk ((HW3.out.setN m1).call hd4.below)
                  obtain ⟨-, -, -, -, v0, v1, u0, u1⟩ := HW4.out.facts
                  clear hd4 y0 y1 z0 z1
                  go_wp2
                  go_roundw
                  case measure => rw [iterPos_of (HW4.out.setN q1).it, HPOS.out]; omega
                  case rel => exact ⟨pos + 1, dg + 1, q2, q1, S + 1, true, rfl, rfl, rfl, by omega, by omega, by omega, by omega, by omega, HIN2.out, HST.out, HW4.out.setN q1⟩
              · rw [if_neg hm2] at hst
                have em2 : (m2 == 0) = false := by simpa using hm2
                have HST := Aside0.mk hst
                have HIN := Aside0.mk hin
                clear hst hin hm2
                cases pt
                · go_wp2_with (fail)
                  refine (num_Mul.calls N 10 m1 m2 _ HM.out).mono ?_
                  rintro e w3 ⟨rfl, hb3⟩
                  have HW3 := Aside0.mk (HW2.out.call hb3)
                  obtain ⟨-, -, -, -, y0, y1, z0, z1⟩ := HW3.out.facts
                  clear hb3 x0 x1 g0 g1
                  go_wp2
                  go_roundw
                  case measure => rw [iterPos_of (HW3.out.setN m1).it, HPOS.out]; omega
                  case rel => exact ⟨pos + 1, dg + 1, m2, m1, S, false, rfl, rfl, rfl, by omega, by omega, by omega, by omega, by omega, HIN.out, HST.out, HW3.out.setN m1⟩
                · go_wp2_with (fail)
                  refine (num_Mul.calls N 10 m1 m2 _ HM.out).mono ?_
                  rintro e w3 ⟨rfl, hb3⟩
                  have HW3 := Aside0.mk ((HW2.out.setS (S + 1)).call hb3)
                  obtain ⟨-, -, -, -, y0, y1, z0, z1⟩ := HW3.out.facts
                  clear hb3 x0 x1 g0 g1
                  go_wp2
                  go_roundw
                  case measure => rw [iterPos_of (HW3.out.setN m1).it, HPOS.out]; omega
                  case rel => exact ⟨pos + 1, dg + 1, m2, m1, S + 1, true, rfl, rfl, rfl, by omega, by omega, by omega, by omega, by omega, HIN.out, HST.out, HW3.out.setN m1⟩
            · have hst := rdl_digit1 hlo hhi hwhy HDR.out HRD.out
              have ewhy : (why == 0) = false := by simpa using hwhy
              have HST := Aside0.mk hst
              clear hst hwhy
              cases pt
              · go_wp2
                go_roundw
                case measure => rw [iterPos_of HW2.out.it, HPOS.out]; omega
                case rel => exact ⟨pos + 1, dg + 1, why, N, S, false, rfl, rfl, rfl, by omega, by omega, by omega, by omega, by omega, HN.out, HST.out, HW2.out⟩
              · go_wp2
                go_roundw
                case measure => rw [iterPos_of (HW2.out.setS (S + 1)).it, HPOS.out]; omega
                case rel => exact ⟨pos + 1, dg + 1, why, N, S + 1, true, rfl, rfl, rfl, by omega, by omega, by omega, by omega, by omega, HN.out, HST.out, HW2.out.setS (S + 1)⟩
      · have hnx : ∀ ty, (Instr.next (.pointer (some ⟨w.heap.size + 1 + 1, 0, none⟩)) true ty).run Try.prog wr = _ := fun ty => Lib.run_next_any_at wr _ sp pos ty hw.it hlt
        have hdr := drop_bytes sp pos hlt
        have hhigh := (decode_high sp pos hlt (by omega)).1
        have hle := decode_le sp pos
        have hw2 := hw1 (pos + (Utf8.decode sp pos).2)
        have hRn := rdl_bad (fun h => by omega) (.inr (by omega)) hdr HRD.out
        generalize (Utf8.decode sp pos).1 = c at hnx hhigh hle
        generalize pos + (Utf8.decode sp pos).2 = pos2 at hnx hw2
        have HB2 := Aside0.mk hw2.bel
        obtain ⟨k0, k1, f0, f1, x0, x1, g0, g1⟩ := hw2.facts
        subst hRn
        have hr2 := read_none false HRR.out
        rw [HR.out] at hr2
        obtain ⟨rfl, rfl, rfl⟩ : r1 = 0 ∧ r2 = 0 ∧ r3 = 13 := by simpa using hr2
        have e46 : (((c : Nat) : Int) == 46) = false := by simp; omega
        have ehi : (57 : Int) < (c : Int) := by omega
        clear hw hw1 hdr hw2 ha hr2 x0 x1 g0 g1
        go_wp2
        refine bodyPost_ret (v := .tuple #[.agg #[.int .i64 0, .int .i64 0], .int .i64 13]) (by simp [results, Try.results6, go_sem, k0, k1]) rfl ⟨rfl, ?_⟩
        exact (HB2.out.setCell (p := ⟨w.heap.size, 0, none⟩) (Nat.le_refl _) _).setCell (p := ⟨w.heap.size, 1, none⟩) (Nat.le_refl _) _
    · have hnx : ∀ ty, (Instr.next (.pointer (some ⟨w.heap.size + 1 + 1, 0, none⟩)) true ty).run Try.prog wr = _ := fun ty => Lib.run_next_end_at wr _ sp pos ty hw.it hlt
      have hRs := rdl_end (by rw [List.drop_eq_nil_of_le (by rw [bytesOf_length]; omega)]) HRD.out
      subst hRs
      have hr2 := read_some false HRR.out
      rw [HR.out] at hr2
      have HR2 := Aside0.mk hr2
      have HB2 := Aside0.mk hw.bel
      have HWE := Aside0.mk hw
      obtain ⟨k0, k1, f0, f1, x0, x1, g0, g1⟩ := hw.facts
      clear hw hr2 hlt
      by_cases hdg : dg = 0
      · have hr3 := HR2.out
        rw [fin_13 (.inl hdg)] at hr3
        obtain ⟨rfl, rfl, rfl⟩ : r1 = 0 ∧ r2 = 0 ∧ r3 = 13 := by simpa using hr3
        have edg : (dg == 0) = true := by simpa using hdg
        clear hr3 hdg HR2
        go_wp2
        refine bodyPost_ret (v := .tuple #[.agg #[.int .i64 0, .int .i64 0], .int .i64 13]) (by simp [results, Try.results6, go_sem, k0, k1]) rfl ⟨rfl, ?_⟩
        exact (HB2.out.setCell (p := ⟨w.heap.size, 0, none⟩) (Nat.le_refl _) _).setCell (p := ⟨w.heap.size, 1, none⟩) (Nat.le_refl _) _
      · have edg : (dg == 0) = false := by simpa using hdg
        by_cases hS9 : 9 < S
        · have hr3 := HR2.out
          rw [fin_13 (.inr (.inr hS9))] at hr3
          obtain ⟨rfl, rfl, rfl⟩ : r1 = 0 ∧ r2 = 0 ∧ r3 = 13 := by simpa using hr3
          have eS : (S == 0) = false := by simp; omega
          clear hr3 hdg HR2
          cases pt
          · go_wp2
            refine bodyPost_ret (v := .tuple #[.agg #[.int .i64 0, .int .i64 0], .int .i64 13]) (by simp [results, Try.results6, go_sem, k0, k1]) rfl ⟨rfl, ?_⟩
            exact (HB2.out.setCell (p := ⟨w.heap.size, 0, none⟩) (Nat.le_refl _) _).setCell (p := ⟨w.heap.size, 1, none⟩) (Nat.le_refl _) _
          · go_wp2
            refine bodyPost_ret (v := .tuple #[.agg #[.int .i64 0, .int .i64 0], .int .i64 13]) (by simp [results, Try.results6, go_sem, k0, k1]) rfl ⟨rfl, ?_⟩
            exact (HB2.out.setCell (p := ⟨w.heap.size, 0, none⟩) (Nat.le_refl _) _).setCell (p := ⟨w.heap.size, 1, none⟩) (Nat.le_refl _) _
        · by_cases hpS : pt = true ∧ S = 0
          · have hr3 := HR2.out
            rw [fin_13 (.inr (.inl hpS))] at hr3
            obtain ⟨rfl, rfl, rfl⟩ : r1 = 0 ∧ r2 = 0 ∧ r3 = 13 := by simpa using hr3
            obtain ⟨rfl, rfl⟩ := hpS
            clear hr3 hdg HR2 hS9
            go_wp2
            refine bodyPost_ret (v := .tuple #[.agg #[.int .i64 0, .int .i64 0], .int .i64 13]) (by simp [results, Try.results6, go_sem, k0, k1]) rfl ⟨rfl, ?_⟩
            exact (HB2.out.setCell (p := ⟨w.heap.size, 0, none⟩) (Nat.le_refl _) _).setCell (p := ⟨w.heap.size, 1, none⟩) (Nat.le_refl _) _
          · have hr3 := HR2.out
            rw [fin_ok hdg hpS hS9] at hr3
            have eS : pt = true → (S == 0) = false := by intro h; simp; exact fun h2 => hpS ⟨h, h2⟩
            have hS9' : S ≤ 9 := by omega
            clear HR2 hpS hS9 hdg
            by_cases hwhy : why = 0
            · subst hwhy
              rw [if_pos ⟨rfl, rfl⟩] at hr3
              have hq := subT_f 0 N ⟨by decide, by decide⟩ HN.out
              generalize subT 0 N = q at hr3 hq
              obtain ⟨q1, q2⟩ := q
              have hng : num_Neg.f N = some (q1, q2) := by unfold num_Neg.f; rw [hq]; rfl
              dsimp only at hr3
              have hmd : dec_made.f q1 S q2 = some (r1, r2, r3) := by
                unfold dec_made.f
                by_cases h : q2 = 0
                · rw [if_pos h] at hr3 ⊢; rw [← hr3]
                · rw [if_neg h] at hr3 ⊢; rw [← hr3]
              have HNG := Aside0.mk hng
              have HMD := Aside0.mk hmd
              clear hr3 hq hng hmd
              cases pt
              all_goals
                (try have eS := eS rfl)
                go_wp2_with (fail)
                refine (num_Neg.calls N q1 q2 _ HNG.out).mono ?_
                rintro e w3 ⟨rfl, hb3⟩
                have HW3 := Aside0.mk (HWE.out.call hb3.below)
                obtain ⟨m0, m1, n0, n1, y0, y1, z0, z1⟩ := HW3.out.facts
                clear hb3 x0 x1 g0 g1 k0 k1 f0 f1
                go_wp2_with (fail)
                refine (dec_made.calls q1 S q2 r1 r2 r3 _ HMD.out).mono ?_
                rintro e w4 ⟨rfl, hb4⟩
                have HW4 := Aside0.mk ((HW3.out.setN q1).call hb4)
                obtain ⟨m0, m1, n0, n1, -, -, -, -⟩ := HW4.out.facts
                clear hb4 y0 y1 z0 z1
                go_wp2
                refine bodyPost_ret (v := .tuple #[.agg #[.int .i64 r1, .int .i64 r2], .int .i64 r3]) (by simp [results, Try.results6, go_sem, m0, m1]) rfl ⟨rfl, ?_⟩
                exact (HW4.out.bel.setCell (p := ⟨w.heap.size, 0, none⟩) (Nat.le_refl _) _).setCell (p := ⟨w.heap.size, 1, none⟩) (Nat.le_refl _) _
            · rw [if_neg (fun h => hwhy h.2), if_neg hwhy] at hr3
              have hmd : dec_made.f N S why = some (r1, r2, r3) := by unfold dec_made.f; rw [if_neg hwhy, hr3]
              have HMD := Aside0.mk hmd
              have ewhy : (why == 0) = false := by simpa using hwhy
              clear hr3 hmd hwhy
              cases pt
              all_goals
                (try have eS := eS rfl)
                go_wp2_with (fail)
                refine (dec_made.calls N S why r1 r2 r3 _ HMD.out).mono ?_
                rintro e w4 ⟨rfl, hb4⟩
                have HW4 := Aside0.mk (HWE.out.call hb4)
                obtain ⟨m0, m1, n0, n1, -, -, -, -⟩ := HW4.out.facts
                clear hb4 x0 x1 g0 g1 k0 k1 f0 f1
                go_wp2
                refine bodyPost_ret (v := .tuple #[.agg #[.int .i64 r1, .int .i64 r2], .int .i64 r3]) (by simp [results, Try.results6, go_sem, m0, m1]) rfl ⟨rfl, ?_⟩
                exact (HW4.out.bel.setCell (p := ⟨w.heap.size, 0, none⟩) (Nat.le_refl _) _).setCell (p := ⟨w.heap.size, 1, none⟩) (Nat.le_refl _) _

set_option maxHeartbeats 8000000 in
set_option maxRecDepth 100000 in
theorem dec_Read.minus (s : ByteArray) (w : World) (hs : s.size ≤ 140737488351232) (h0 : 0 < s.size) (c45 : bt s 0 = 45) (r1 r2 r3 : Int) (hr : readL true (bytesOf (s.extract 1 s.size)) = (r1, r2, r3)) : 
    Calls Try.prog 6 #[.string s] w fun e w' => e = .returned (.tuple #[.agg #[.int .i64 r1, .int .i64 r2], .int .i64 r3]) ∧ Below w.heap.size w w' := by
  have hl : s.toList.isEmpty = false := toList_full s h0
  have hb0 : ((s[0]'h0).toNat : Int) = bt s 0 := bt_at s 0 h0
  have e45 : (bt s 0 == 45) = true := by simpa using c45
  have e43 : True := trivial
  have HR := Aside0.mk hr
  have hk : 1 ≤ s.size := h0
  clear hr c45
  go_enter Try.func6, Try.ntmps6
  go_wp2_with (fail)
  have hs2 : (s.extract 1 s.size).size ≤ 140737488351232 := by rw [ByteArray.size_extract]; omega
  generalize s.extract 1 s.size = sp at HR hs2 ⊢
  clear hs
  have hs := hs2
  clear hs2
  generalize hR : rdl (bytesOf sp) 0 false 0 0 0 = R
  have HRd := Aside0.mk hR
  have HRR := Aside0.mk hR
  clear hR
  go_loopw [6, 7, 8] (fun v6 v7 v8 wr => RInv sp R w wr v6 v7 v8) (fun _ _ _ wr => sp.size - wr.iterPos (w.heap.size + 1 + 1))
  case atStart => exact ⟨0, 0, 0, 0, 0, false, rfl, rfl, rfl, by omega, by omega, by omega, by omega, by omega, ⟨by decide, by decide⟩, HRd.out, RW.start sp w⟩
  case round =>
    obtain ⟨pos, dg, why, N, S, pt, rfl, rfl, rfl, hp, hd0, hd1, hS0, hS1, hN, hrd, hw⟩ := hrel
    have HRD := Aside0.mk hrd
    have HW := Aside0.mk hw
    have hpos := iterPos_of hw.it
    have HPOS := Aside0.mk hpos
    have HN := Aside0.mk hN
    clear hrd hpos HRd hN hb0 e45 e43 hl
    by_cases hlt : pos < sp.size
    · have hw1 := fun q => hw.next q
      by_cases ha : (sp[pos]'hlt).toNat < 128
      · have hnx : ∀ ty, (Instr.next (.pointer (some ⟨w.heap.size + 1 + 1, 0, none⟩)) true ty).run Try.prog wr = _ := fun ty => Lib.run_next_ascii_at wr _ sp pos ty hw.it hlt ha
        have hdr := drop_bytes sp pos hlt
        have hc0 : (0 : Int) ≤ ((sp[pos]'hlt).toNat : Int) := by omega
        have hc1 : ((sp[pos]'hlt).toNat : Int) < 128 := by omega
        generalize ((sp[pos]'hlt).toNat : Int) = c at hnx hdr hc0 hc1
        have hw2 := hw1 (pos + 1)
        have HDR := Aside0.mk hdr
        have HW2 := Aside0.mk hw2
        obtain ⟨k0, k1, f0, f1, x0, x1, g0, g1⟩ := hw2.facts
        clear hw hw1 hdr hw2 ha
        by_cases hdot : c = 46 ∧ pt = false ∧ 0 < dg
        · obtain ⟨rfl, rfl, hdg⟩ := hdot
          go_wp2
          go_roundw
          case measure => rw [iterPos_of HW2.out.it, HPOS.out]; omega
          case rel => exact ⟨pos + 1, dg, why, N, S, true, rfl, rfl, rfl, by omega, hd0, by omega, hS0, by omega, HN.out, rdl_dot hdg HDR.out HRD.out, HW2.out⟩
        · by_cases hbad : c < 48 ∨ 57 < c
          · have hRn := rdl_bad hdot hbad HDR.out HRD.out
            subst hRn
            have hr2 := read_none true HRR.out
            rw [HR.out] at hr2
            obtain ⟨rfl, rfl, rfl⟩ : r1 = 0 ∧ r2 = 0 ∧ r3 = 13 := by simpa using hr2
            clear hr2
            have HB2 := Aside0.mk HW2.out.bel
            clear x0 x1 g0 g1
            by_cases h46 : c = 46
            · subst h46
              cases pt
              · have hdg : ¬ 0 < dg := fun h => hdot ⟨rfl, rfl, h⟩
                clear hdot hbad
                go_wp2
                refine bodyPost_ret (v := .tuple #[.agg #[.int .i64 0, .int .i64 0], .int .i64 13]) (by simp [results, Try.results6, go_sem, k0, k1]) rfl ⟨rfl, ?_⟩
                exact (HB2.out.setCell (p := ⟨w.heap.size, 0, none⟩) (Nat.le_refl _) _).setCell (p := ⟨w.heap.size, 1, none⟩) (Nat.le_refl _) _
              · clear hdot hbad
                go_wp2
                refine bodyPost_ret (v := .tuple #[.agg #[.int .i64 0, .int .i64 0], .int .i64 13]) (by simp [results, Try.results6, go_sem, k0, k1]) rfl ⟨rfl, ?_⟩
                exact (HB2.out.setCell (p := ⟨w.heap.size, 0, none⟩) (Nat.le_refl _) _).setCell (p := ⟨w.heap.size, 1, none⟩) (Nat.le_refl _) _
            · have e46 : (c == 46) = false := by simpa using h46
              clear hdot h46
              by_cases hlo : c < 48
              · clear hbad
                go_wp2
                refine bodyPost_ret (v := .tuple #[.agg #[.int .i64 0, .int .i64 0], .int .i64 13]) (by simp [results, Try.results6, go_sem, k0, k1]) rfl ⟨rfl, ?_⟩
                exact (HB2.out.setCell (p := ⟨w.heap.size, 0, none⟩) (Nat.le_refl _) _).setCell (p := ⟨w.heap.size, 1, none⟩) (Nat.le_refl _) _
              · have hhi : 57 < c := by omega
                clear hbad
                go_wp2
                refine bodyPost_ret (v := .tuple #[.agg #[.int .i64 0, .int .i64 0], .int .i64 13]) (by simp [results, Try.results6, go_sem, k0, k1]) rfl ⟨rfl, ?_⟩
                exact (HB2.out.setCell (p := ⟨w.heap.size, 0, none⟩) (Nat.le_refl _) _).setCell (p := ⟨w.heap.size, 1, none⟩) (Nat.le_refl _) _
          · have hlo : 48 ≤ c := by omega
            have hhi : c ≤ 57 := by omega
            have e46 : (c == 46) = false := by simp; omega
            clear hdot hbad f0 f1 k0 k1
            by_cases hwhy : why = 0
            · subst hwhy
              have hst := rdl_digit0 hlo hhi HDR.out HRD.out
              have hm := mulT_f N 10 HN.out ⟨by decide, by decide⟩
              have hin := mulT_in N 10
              unfold stepN at hst
              generalize mulT N 10 = m at hst hm hin
              obtain ⟨m1, m2⟩ := m
              have HM := Aside0.mk hm
              clear hm
              by_cases hm2 : m2 = 0
              · subst hm2
                rw [if_pos rfl] at hst
                have hq := subT_f m1 (c - 48) hin ⟨by omega, by omega⟩
                have hin2 := subT_in m1 (c - 48)
                generalize subT m1 (c - 48) = q at hst hq hin2
                obtain ⟨q1, q2⟩ := q
                have HQ := Aside0.mk hq
                have HST := Aside0.mk hst
                have HIN2 := Aside0.mk hin2
                clear hq hst hin hin2
                cases pt
                · go_wp2_with (fail)
                  refine (num_Mul.calls N 10 m1 0 _ HM.out).mono ?_
                  rintro e w3 ⟨rfl, hb3⟩
                  have HW3 := Aside0.mk (HW2.out.call hb3)
                  obtain ⟨-, -, -, -, y0, y1, z0, z1⟩ := HW3.out.facts
                  clear hb3 x0 x1 g0 g1
                  go_wp2_with (fail)
                  refine (num_Sub.calls m1 (c - 48) q1 q2 _ HQ.out).mono ?_
                  rintro e w4 ⟨rfl, hd4⟩
                  have HW4 := Aside0.mk ((HW3.out.setN m1).call hd4.below)
                  obtain ⟨-, -, -, -, v0, v1, u0, u1⟩ := HW4.out.facts
                  clear hd4 y0 y1 z0 z1
                  go_wp2
                  go_roundw
                  case measure => rw [iterPos_of (HW4.out.setN q1).it, HPOS.out]; omega
                  case rel => exact ⟨pos + 1, dg + 1, q2, q1, S, false, rfl, rfl, rfl, by omega, by omega, by omega, by omega, by omega, HIN2.out, HST.out, HW4.out.setN q1⟩
                · go_wp2_with (fail)
                  refine (num_Mul.calls N 10 m1 0 _ HM.out).mono ?_
                  rintro e w3 ⟨rfl, hb3⟩
                  have HW3 := Aside0.mk ((HW2.out.setS (S + 1)).call hb3)
                  obtain ⟨-, -, -, -, y0, y1, z0, z1⟩ := HW3.out.facts
                  clear hb3 x0 x1 g0 g1
                  go_wp2_with (fail)
                  refine (num_Sub.calls m1 (c - 48) q1 q2 _ HQ.out).mono ?_
                  rintro e w4 ⟨rfl, hd4⟩
                  have HW4 := Aside0.mk ((HW3.out.setN m1).call hd4.below)
                  obtain ⟨-, -, -, -, v0, v1, u0, u1⟩ := HW4.out.facts
                  clear hd4 y0 y1 z0 z1
                  go_wp2
                  go_roundw
                  case measure => rw [iterPos_of (HW4.out.setN q1).it, HPOS.out]; omega
                  case rel => exact ⟨pos + 1, dg + 1, q2, q1, S + 1, true, rfl, rfl, rfl, by omega, by omega, by omega, by omega, by omega, HIN2.out, HST.out, HW4.out.setN q1⟩
              · rw [if_neg hm2] at hst
                have em2 : (m2 == 0) = false := by simpa using hm2
                have HST := Aside0.mk hst
                have HIN := Aside0.mk hin
                clear hst hin hm2
                cases pt
                · go_wp2_with (fail)
                  refine (num_Mul.calls N 10 m1 m2 _ HM.out).mono ?_
                  rintro e w3 ⟨rfl, hb3⟩
                  have HW3 := Aside0.mk (HW2.out.call hb3)
                  obtain ⟨-, -, -, -, y0, y1, z0, z1⟩ := HW3.out.facts
                  clear hb3 x0 x1 g0 g1
                  go_wp2
                  go_roundw
                  case measure => rw [iterPos_of (HW3.out.setN m1).it, HPOS.out]; omega
                  case rel => exact ⟨pos + 1, dg + 1, m2, m1, S, false, rfl, rfl, rfl, by omega, by omega, by omega, by omega, by omega, HIN.out, HST.out, HW3.out.setN m1⟩
                · go_wp2_with (fail)
                  refine (num_Mul.calls N 10 m1 m2 _ HM.out).mono ?_
                  rintro e w3 ⟨rfl, hb3⟩
                  have HW3 := Aside0.mk ((HW2.out.setS (S + 1)).call hb3)
                  obtain ⟨-, -, -, -, y0, y1, z0, z1⟩ := HW3.out.facts
                  clear hb3 x0 x1 g0 g1
                  go_wp2
                  go_roundw
                  case measure => rw [iterPos_of (HW3.out.setN m1).it, HPOS.out]; omega
                  case rel => exact ⟨pos + 1, dg + 1, m2, m1, S + 1, true, rfl, rfl, rfl, by omega, by omega, by omega, by omega, by omega, HIN.out, HST.out, HW3.out.setN m1⟩
            · have hst := rdl_digit1 hlo hhi hwhy HDR.out HRD.out
              have ewhy : (why == 0) = false := by simpa using hwhy
              have HST := Aside0.mk hst
              clear hst hwhy
              cases pt
              · go_wp2
                go_roundw
                case measure => rw [iterPos_of HW2.out.it, HPOS.out]; omega
                case rel => exact ⟨pos + 1, dg + 1, why, N, S, false, rfl, rfl, rfl, by omega, by omega, by omega, by omega, by omega, HN.out, HST.out, HW2.out⟩
              · go_wp2
                go_roundw
                case measure => rw [iterPos_of (HW2.out.setS (S + 1)).it, HPOS.out]; omega
                case rel => exact ⟨pos + 1, dg + 1, why, N, S + 1, true, rfl, rfl, rfl, by omega, by omega, by omega, by omega, by omega, HN.out, HST.out, HW2.out.setS (S + 1)⟩
      · have hnx : ∀ ty, (Instr.next (.pointer (some ⟨w.heap.size + 1 + 1, 0, none⟩)) true ty).run Try.prog wr = _ := fun ty => Lib.run_next_any_at wr _ sp pos ty hw.it hlt
        have hdr := drop_bytes sp pos hlt
        have hhigh := (decode_high sp pos hlt (by omega)).1
        have hle := decode_le sp pos
        have hw2 := hw1 (pos + (Utf8.decode sp pos).2)
        have hRn := rdl_bad (fun h => by omega) (.inr (by omega)) hdr HRD.out
        generalize (Utf8.decode sp pos).1 = c at hnx hhigh hle
        generalize pos + (Utf8.decode sp pos).2 = pos2 at hnx hw2
        have HB2 := Aside0.mk hw2.bel
        obtain ⟨k0, k1, f0, f1, x0, x1, g0, g1⟩ := hw2.facts
        subst hRn
        have hr2 := read_none true HRR.out
        rw [HR.out] at hr2
        obtain ⟨rfl, rfl, rfl⟩ : r1 = 0 ∧ r2 = 0 ∧ r3 = 13 := by simpa using hr2
        have e46 : (((c : Nat) : Int) == 46) = false := by simp; omega
        have ehi : (57 : Int) < (c : Int) := by omega
        clear hw hw1 hdr hw2 ha hr2 x0 x1 g0 g1
        go_wp2
        refine bodyPost_ret (v := .tuple #[.agg #[.int .i64 0, .int .i64 0], .int .i64 13]) (by simp [results, Try.results6, go_sem, k0, k1]) rfl ⟨rfl, ?_⟩
        exact (HB2.out.setCell (p := ⟨w.heap.size, 0, none⟩) (Nat.le_refl _) _).setCell (p := ⟨w.heap.size, 1, none⟩) (Nat.le_refl _) _
    · have hnx : ∀ ty, (Instr.next (.pointer (some ⟨w.heap.size + 1 + 1, 0, none⟩)) true ty).run Try.prog wr = _ := fun ty => Lib.run_next_end_at wr _ sp pos ty hw.it hlt
      have hRs := rdl_end (by rw [List.drop_eq_nil_of_le (by rw [bytesOf_length]; omega)]) HRD.out
      subst hRs
      have hr2 := read_some true HRR.out
      rw [HR.out] at hr2
      have HR2 := Aside0.mk hr2
      have HB2 := Aside0.mk hw.bel
      have HWE := Aside0.mk hw
      obtain ⟨k0, k1, f0, f1, x0, x1, g0, g1⟩ := hw.facts
      clear hw hr2 hlt
      by_cases hdg : dg = 0
      · have hr3 := HR2.out
        rw [fin_13 (.inl hdg)] at hr3
        obtain ⟨rfl, rfl, rfl⟩ : r1 = 0 ∧ r2 = 0 ∧ r3 = 13 := by simpa using hr3
        have edg : (dg == 0) = true := by simpa using hdg
        clear hr3 hdg HR2
        go_wp2
        refine bodyPost_ret (v := .tuple #[.agg #[.int .i64 0, .int .i64 0], .int .i64 13]) (by simp [results, Try.results6, go_sem, k0, k1]) rfl ⟨rfl, ?_⟩
        exact (HB2.out.setCell (p := ⟨w.heap.size, 0, none⟩) (Nat.le_refl _) _).setCell (p := ⟨w.heap.size, 1, none⟩) (Nat.le_refl _) _
      · have edg : (dg == 0) = false := by simpa using hdg
        by_cases hS9 : 9 < S
        · have hr3 := HR2.out
          rw [fin_13 (.inr (.inr hS9))] at hr3
          obtain ⟨rfl, rfl, rfl⟩ : r1 = 0 ∧ r2 = 0 ∧ r3 = 13 := by simpa using hr3
          have eS : (S == 0) = false := by simp; omega
          clear hr3 hdg HR2
          cases pt
          · go_wp2
            refine bodyPost_ret (v := .tuple #[.agg #[.int .i64 0, .int .i64 0], .int .i64 13]) (by simp [results, Try.results6, go_sem, k0, k1]) rfl ⟨rfl, ?_⟩
            exact (HB2.out.setCell (p := ⟨w.heap.size, 0, none⟩) (Nat.le_refl _) _).setCell (p := ⟨w.heap.size, 1, none⟩) (Nat.le_refl _) _
          · go_wp2
            refine bodyPost_ret (v := .tuple #[.agg #[.int .i64 0, .int .i64 0], .int .i64 13]) (by simp [results, Try.results6, go_sem, k0, k1]) rfl ⟨rfl, ?_⟩
            exact (HB2.out.setCell (p := ⟨w.heap.size, 0, none⟩) (Nat.le_refl _) _).setCell (p := ⟨w.heap.size, 1, none⟩) (Nat.le_refl _) _
        · by_cases hpS : pt = true ∧ S = 0
          · have hr3 := HR2.out
            rw [fin_13 (.inr (.inl hpS))] at hr3
            obtain ⟨rfl, rfl, rfl⟩ : r1 = 0 ∧ r2 = 0 ∧ r3 = 13 := by simpa using hr3
            obtain ⟨rfl, rfl⟩ := hpS
            clear hr3 hdg HR2 hS9
            go_wp2
            refine bodyPost_ret (v := .tuple #[.agg #[.int .i64 0, .int .i64 0], .int .i64 13]) (by simp [results, Try.results6, go_sem, k0, k1]) rfl ⟨rfl, ?_⟩
            exact (HB2.out.setCell (p := ⟨w.heap.size, 0, none⟩) (Nat.le_refl _) _).setCell (p := ⟨w.heap.size, 1, none⟩) (Nat.le_refl _) _
          · have hr3 := HR2.out
            rw [fin_ok hdg hpS hS9] at hr3
            have eS : pt = true → (S == 0) = false := by intro h; simp; exact fun h2 => hpS ⟨h, h2⟩
            have hS9' : S ≤ 9 := by omega
            clear HR2 hpS hS9 hdg
            rw [if_neg (fun h => by cases h.1)] at hr3
            have hmd : dec_made.f N S why = some (r1, r2, r3) := by
              unfold dec_made.f
              by_cases h : why = 0
              · rw [if_pos h] at hr3 ⊢; rw [← hr3]
              · rw [if_neg h] at hr3 ⊢; rw [← hr3]
            have HMD := Aside0.mk hmd
            clear hr3 hmd
            cases pt
            all_goals
              (try have eS := eS rfl)
              go_wp2_with (fail)
              refine (dec_made.calls N S why r1 r2 r3 _ HMD.out).mono ?_
              rintro e w4 ⟨rfl, hb4⟩
              have HW4 := Aside0.mk (HWE.out.call hb4)
              obtain ⟨m0, m1, n0, n1, -, -, -, -⟩ := HW4.out.facts
              clear hb4 x0 x1 g0 g1 k0 k1 f0 f1
              go_wp2
              refine bodyPost_ret (v := .tuple #[.agg #[.int .i64 r1, .int .i64 r2], .int .i64 r3]) (by simp [results, Try.results6, go_sem, m0, m1]) rfl ⟨rfl, ?_⟩
              exact (HW4.out.bel.setCell (p := ⟨w.heap.size, 0, none⟩) (Nat.le_refl _) _).setCell (p := ⟨w.heap.size, 1, none⟩) (Nat.le_refl _) _

set_option maxHeartbeats 8000000 in
set_option maxRecDepth 100000 in
theorem dec_Read.plus (s : ByteArray) (w : World) (hs : s.size ≤ 140737488351232) (h0 : 0 < s.size) (c43 : bt s 0 = 43) (r1 r2 r3 : Int) (hr : readL false (bytesOf (s.extract 1 s.size)) = (r1, r2, r3)) : 
    Calls Try.prog 6 #[.string s] w fun e w' => e = .returned (.tuple #[.agg #[.int .i64 r1, .int .i64 r2], .int .i64 r3]) ∧ Below w.heap.size w w' := by
  have hl : s.toList.isEmpty = false := toList_full s h0
  have hb0 : ((s[0]'h0).toNat : Int) = bt s 0 := bt_at s 0 h0
  have e45 : (bt s 0 == 45) = false := by simp; omega
  have e43 : (bt s 0 == 43) = true := by simpa using c43
  have HR := Aside0.mk hr
  have hk : 1 ≤ s.size := h0
  clear hr c43
  go_enter Try.func6, Try.ntmps6
  go_wp2_with (fail)
  have hs2 : (s.extract 1 s.size).size ≤ 140737488351232 := by rw [ByteArray.size_extract]; omega
  generalize s.extract 1 s.size = sp at HR hs2 ⊢
  clear hs
  have hs := hs2
  clear hs2
  generalize hR : rdl (bytesOf sp) 0 false 0 0 0 = R
  have HRd := Aside0.mk hR
  have HRR := Aside0.mk hR
  clear hR
  go_loopw [6, 7, 8] (fun v6 v7 v8 wr => RInv sp R w wr v6 v7 v8) (fun _ _ _ wr => sp.size - wr.iterPos (w.heap.size + 1 + 1))
  case atStart => exact ⟨0, 0, 0, 0, 0, false, rfl, rfl, rfl, by omega, by omega, by omega, by omega, by omega, ⟨by decide, by decide⟩, HRd.out, RW.start sp w⟩
  case round =>
    obtain ⟨pos, dg, why, N, S, pt, rfl, rfl, rfl, hp, hd0, hd1, hS0, hS1, hN, hrd, hw⟩ := hrel
    have HRD := Aside0.mk hrd
    have HW := Aside0.mk hw
    have hpos := iterPos_of hw.it
    have HPOS := Aside0.mk hpos
    have HN := Aside0.mk hN
    clear hrd hpos HRd hN hb0 e45 e43 hl
    by_cases hlt : pos < sp.size
    · have hw1 := fun q => hw.next q
      by_cases ha : (sp[pos]'hlt).toNat < 128
      · have hnx : ∀ ty, (Instr.next (.pointer (some ⟨w.heap.size + 1 + 1, 0, none⟩)) true ty).run Try.prog wr = _ := fun ty => Lib.run_next_ascii_at wr _ sp pos ty hw.it hlt ha
        have hdr := drop_bytes sp pos hlt
        have hc0 : (0 : Int) ≤ ((sp[pos]'hlt).toNat : Int) := by omega
        have hc1 : ((sp[pos]'hlt).toNat : Int) < 128 := by omega
        generalize ((sp[pos]'hlt).toNat : Int) = c at hnx hdr hc0 hc1
        have hw2 := hw1 (pos + 1)
        have HDR := Aside0.mk hdr
        have HW2 := Aside0.mk hw2
        obtain ⟨k0, k1, f0, f1, x0, x1, g0, g1⟩ := hw2.facts
        clear hw hw1 hdr hw2 ha
        by_cases hdot : c = 46 ∧ pt = false ∧ 0 < dg
        · obtain ⟨rfl, rfl, hdg⟩ := hdot
          go_wp2
          go_roundw
          case measure => rw [iterPos_of HW2.out.it, HPOS.out]; omega
          case rel => exact ⟨pos + 1, dg, why, N, S, true, rfl, rfl, rfl, by omega, hd0, by omega, hS0, by omega, HN.out, rdl_dot hdg HDR.out HRD.out, HW2.out⟩
        · by_cases hbad : c < 48 ∨ 57 < c
          · have hRn := rdl_bad hdot hbad HDR.out HRD.out
            subst hRn
            have hr2 := read_none false HRR.out
            rw [HR.out] at hr2
            obtain ⟨rfl, rfl, rfl⟩ : r1 = 0 ∧ r2 = 0 ∧ r3 = 13 := by simpa using hr2
            clear hr2
            have HB2 := Aside0.mk HW2.out.bel
            clear x0 x1 g0 g1
            by_cases h46 : c = 46
            · subst h46
              cases pt
              · have hdg : ¬ 0 < dg := fun h => hdot ⟨rfl, rfl, h⟩
                clear hdot hbad
                go_wp2
                refine bodyPost_ret (v := .tuple #[.agg #[.int .i64 0, .int .i64 0], .int .i64 13]) (by simp [results, Try.results6, go_sem, k0, k1]) rfl ⟨rfl, ?_⟩
                exact (HB2.out.setCell (p := ⟨w.heap.size, 0, none⟩) (Nat.le_refl _) _).setCell (p := ⟨w.heap.size, 1, none⟩) (Nat.le_refl _) _
              · clear hdot hbad
                go_wp2
                refine bodyPost_ret (v := .tuple #[.agg #[.int .i64 0, .int .i64 0], .int .i64 13]) (by simp [results, Try.results6, go_sem, k0, k1]) rfl ⟨rfl, ?_⟩
                exact (HB2.out.setCell (p := ⟨w.heap.size, 0, none⟩) (Nat.le_refl _) _).setCell (p := ⟨w.heap.size, 1, none⟩) (Nat.le_refl _) _
            · have e46 : (c == 46) = false := by simpa using h46
              clear hdot h46
              by_cases hlo : c < 48
              · clear hbad
                go_wp2
                refine bodyPost_ret (v := .tuple #[.agg #[.int .i64 0, .int .i64 0], .int .i64 13]) (by simp [results, Try.results6, go_sem, k0, k1]) rfl ⟨rfl, ?_⟩
                exact (HB2.out.setCell (p := ⟨w.heap.size, 0, none⟩) (Nat.le_refl _) _).setCell (p := ⟨w.heap.size, 1, none⟩) (Nat.le_refl _) _
              · have hhi : 57 < c := by omega
                clear hbad
                go_wp2
                refine bodyPost_ret (v := .tuple #[.agg #[.int .i64 0, .int .i64 0], .int .i64 13]) (by simp [results, Try.results6, go_sem, k0, k1]) rfl ⟨rfl, ?_⟩
                exact (HB2.out.setCell (p := ⟨w.heap.size, 0, none⟩) (Nat.le_refl _) _).setCell (p := ⟨w.heap.size, 1, none⟩) (Nat.le_refl _) _
          · have hlo : 48 ≤ c := by omega
            have hhi : c ≤ 57 := by omega
            have e46 : (c == 46) = false := by simp; omega
            clear hdot hbad f0 f1 k0 k1
            by_cases hwhy : why = 0
            · subst hwhy
              have hst := rdl_digit0 hlo hhi HDR.out HRD.out
              have hm := mulT_f N 10 HN.out ⟨by decide, by decide⟩
              have hin := mulT_in N 10
              unfold stepN at hst
              generalize mulT N 10 = m at hst hm hin
              obtain ⟨m1, m2⟩ := m
              have HM := Aside0.mk hm
              clear hm
              by_cases hm2 : m2 = 0
              · subst hm2
                rw [if_pos rfl] at hst
                have hq := subT_f m1 (c - 48) hin ⟨by omega, by omega⟩
                have hin2 := subT_in m1 (c - 48)
                generalize subT m1 (c - 48) = q at hst hq hin2
                obtain ⟨q1, q2⟩ := q
                have HQ := Aside0.mk hq
                have HST := Aside0.mk hst
                have HIN2 := Aside0.mk hin2
                clear hq hst hin hin2
                cases pt
                · go_wp2_with (fail)
                  refine (num_Mul.calls N 10 m1 0 _ HM.out).mono ?_
                  rintro e w3 ⟨rfl, hb3⟩
                  have HW3 := Aside0.mk (HW2.out.call hb3)
                  obtain ⟨-, -, -, -, y0, y1, z0, z1⟩ := HW3.out.facts
                  clear hb3 x0 x1 g0 g1
                  go_wp2_with (fail)
                  refine (num_Sub.calls m1 (c - 48) q1 q2 _ HQ.out).mono ?_
                  rintro e w4 ⟨rfl, hd4⟩
                  have HW4 := Aside0.mk ((HW3.out.setN m1).call hd4.below)
                  obtain ⟨-, -, -, -, v0, v1, u0, u1⟩ := HW4.out.facts
                  clear hd4 y0 y1 z0 z1
                  go_wp2
                  go_roundw
                  case measure => rw [iterPos_of (HW4.out.setN q1).it, HPOS.out]; omega
                  case rel => exact ⟨pos + 1, dg + 1, q2, q1, S, false, rfl, rfl, rfl, by omega, by omega, by omega, by omega, by omega, HIN2.out, HST.out, HW4.out.setN q1⟩
                · go_wp2_with (fail)
                  refine (num_Mul.calls N 10 m1 0 _ HM.out).mono ?_
                  rintro e w3 ⟨rfl, hb3⟩
                  have HW3 := Aside0.mk ((HW2.out.setS (S + 1)).call hb3)
                  obtain ⟨-, -, -, -, y0, y1, z0, z1⟩ := HW3.out.facts
                  clear hb3 x0 x1 g0 g1
                  go_wp2_with (fail)
                  refine (num_Sub.calls m1 (c - 48) q1 q2 _ HQ.out).mono ?_
                  rintro e w4 ⟨rfl, hd4⟩
                  have HW4 := Aside0.mk ((HW3.out.setN m1).call hd4.below)
                  obtain ⟨-, -, -, -, v0, v1, u0, u1⟩ := HW4.out.facts
                  clear hd4 y0 y1 z0 z1
                  go_wp2
                  go_roundw
                  case measure => rw [iterPos_of (HW4.out.setN q1).it, HPOS.out]; omega
                  case rel => exact ⟨pos + 1, dg + 1, q2, q1, S + 1, true, rfl, rfl, rfl, by omega, by omega, by omega, by omega, by omega, HIN2.out, HST.out, HW4.out.setN q1⟩
              · rw [if_neg hm2] at hst
                have em2 : (m2 == 0) = false := by simpa using hm2
                have HST := Aside0.mk hst
                have HIN := Aside0.mk hin
                clear hst hin hm2
                cases pt
                · go_wp2_with (fail)
                  refine (num_Mul.calls N 10 m1 m2 _ HM.out).mono ?_
                  rintro e w3 ⟨rfl, hb3⟩
                  have HW3 := Aside0.mk (HW2.out.call hb3)
                  obtain ⟨-, -, -, -, y0, y1, z0, z1⟩ := HW3.out.facts
                  clear hb3 x0 x1 g0 g1
                  go_wp2
                  go_roundw
                  case measure => rw [iterPos_of (HW3.out.setN m1).it, HPOS.out]; omega
                  case rel => exact ⟨pos + 1, dg + 1, m2, m1, S, false, rfl, rfl, rfl, by omega, by omega, by omega, by omega, by omega, HIN.out, HST.out, HW3.out.setN m1⟩
                · go_wp2_with (fail)
                  refine (num_Mul.calls N 10 m1 m2 _ HM.out).mono ?_
                  rintro e w3 ⟨rfl, hb3⟩
                  have HW3 := Aside0.mk ((HW2.out.setS (S + 1)).call hb3)
                  obtain ⟨-, -, -, -, y0, y1, z0, z1⟩ := HW3.out.facts
                  clear hb3 x0 x1 g0 g1
                  go_wp2
                  go_roundw
                  case measure => rw [iterPos_of (HW3.out.setN m1).it, HPOS.out]; omega
                  case rel => exact ⟨pos + 1, dg + 1, m2, m1, S + 1, true, rfl, rfl, rfl, by omega, by omega, by omega, by omega, by omega, HIN.out, HST.out, HW3.out.setN m1⟩
            · have hst := rdl_digit1 hlo hhi hwhy HDR.out HRD.out
              have ewhy : (why == 0) = false := by simpa using hwhy
              have HST := Aside0.mk hst
              clear hst hwhy
              cases pt
              · go_wp2
                go_roundw
                case measure => rw [iterPos_of HW2.out.it, HPOS.out]; omega
                case rel => exact ⟨pos + 1, dg + 1, why, N, S, false, rfl, rfl, rfl, by omega, by omega, by omega, by omega, by omega, HN.out, HST.out, HW2.out⟩
              · go_wp2
                go_roundw
                case measure => rw [iterPos_of (HW2.out.setS (S + 1)).it, HPOS.out]; omega
                case rel => exact ⟨pos + 1, dg + 1, why, N, S + 1, true, rfl, rfl, rfl, by omega, by omega, by omega, by omega, by omega, HN.out, HST.out, HW2.out.setS (S + 1)⟩
      · have hnx : ∀ ty, (Instr.next (.pointer (some ⟨w.heap.size + 1 + 1, 0, none⟩)) true ty).run Try.prog wr = _ := fun ty => Lib.run_next_any_at wr _ sp pos ty hw.it hlt
        have hdr := drop_bytes sp pos hlt
        have hhigh := (decode_high sp pos hlt (by omega)).1
        have hle := decode_le sp pos
        have hw2 := hw1 (pos + (Utf8.decode sp pos).2)
        have hRn := rdl_bad (fun h => by omega) (.inr (by omega)) hdr HRD.out
        generalize (Utf8.decode sp pos).1 = c at hnx hhigh hle
        generalize pos + (Utf8.decode sp pos).2 = pos2 at hnx hw2
        have HB2 := Aside0.mk hw2.bel
        obtain ⟨k0, k1, f0, f1, x0, x1, g0, g1⟩ := hw2.facts
        subst hRn
        have hr2 := read_none false HRR.out
        rw [HR.out] at hr2
        obtain ⟨rfl, rfl, rfl⟩ : r1 = 0 ∧ r2 = 0 ∧ r3 = 13 := by simpa using hr2
        have e46 : (((c : Nat) : Int) == 46) = false := by simp; omega
        have ehi : (57 : Int) < (c : Int) := by omega
        clear hw hw1 hdr hw2 ha hr2 x0 x1 g0 g1
        go_wp2
        refine bodyPost_ret (v := .tuple #[.agg #[.int .i64 0, .int .i64 0], .int .i64 13]) (by simp [results, Try.results6, go_sem, k0, k1]) rfl ⟨rfl, ?_⟩
        exact (HB2.out.setCell (p := ⟨w.heap.size, 0, none⟩) (Nat.le_refl _) _).setCell (p := ⟨w.heap.size, 1, none⟩) (Nat.le_refl _) _
    · have hnx : ∀ ty, (Instr.next (.pointer (some ⟨w.heap.size + 1 + 1, 0, none⟩)) true ty).run Try.prog wr = _ := fun ty => Lib.run_next_end_at wr _ sp pos ty hw.it hlt
      have hRs := rdl_end (by rw [List.drop_eq_nil_of_le (by rw [bytesOf_length]; omega)]) HRD.out
      subst hRs
      have hr2 := read_some false HRR.out
      rw [HR.out] at hr2
      have HR2 := Aside0.mk hr2
      have HB2 := Aside0.mk hw.bel
      have HWE := Aside0.mk hw
      obtain ⟨k0, k1, f0, f1, x0, x1, g0, g1⟩ := hw.facts
      clear hw hr2 hlt
      by_cases hdg : dg = 0
      · have hr3 := HR2.out
        rw [fin_13 (.inl hdg)] at hr3
        obtain ⟨rfl, rfl, rfl⟩ : r1 = 0 ∧ r2 = 0 ∧ r3 = 13 := by simpa using hr3
        have edg : (dg == 0) = true := by simpa using hdg
        clear hr3 hdg HR2
        go_wp2
        refine bodyPost_ret (v := .tuple #[.agg #[.int .i64 0, .int .i64 0], .int .i64 13]) (by simp [results, Try.results6, go_sem, k0, k1]) rfl ⟨rfl, ?_⟩
        exact (HB2.out.setCell (p := ⟨w.heap.size, 0, none⟩) (Nat.le_refl _) _).setCell (p := ⟨w.heap.size, 1, none⟩) (Nat.le_refl _) _
      · have edg : (dg == 0) = false := by simpa using hdg
        by_cases hS9 : 9 < S
        · have hr3 := HR2.out
          rw [fin_13 (.inr (.inr hS9))] at hr3
          obtain ⟨rfl, rfl, rfl⟩ : r1 = 0 ∧ r2 = 0 ∧ r3 = 13 := by simpa using hr3
          have eS : (S == 0) = false := by simp; omega
          clear hr3 hdg HR2
          cases pt
          · go_wp2
            refine bodyPost_ret (v := .tuple #[.agg #[.int .i64 0, .int .i64 0], .int .i64 13]) (by simp [results, Try.results6, go_sem, k0, k1]) rfl ⟨rfl, ?_⟩
            exact (HB2.out.setCell (p := ⟨w.heap.size, 0, none⟩) (Nat.le_refl _) _).setCell (p := ⟨w.heap.size, 1, none⟩) (Nat.le_refl _) _
          · go_wp2
            refine bodyPost_ret (v := .tuple #[.agg #[.int .i64 0, .int .i64 0], .int .i64 13]) (by simp [results, Try.results6, go_sem, k0, k1]) rfl ⟨rfl, ?_⟩
            exact (HB2.out.setCell (p := ⟨w.heap.size, 0, none⟩) (Nat.le_refl _) _).setCell (p := ⟨w.heap.size, 1, none⟩) (Nat.le_refl _) _
        · by_cases hpS : pt = true ∧ S = 0
          · have hr3 := HR2.out
            rw [fin_13 (.inr (.inl hpS))] at hr3
            obtain ⟨rfl, rfl, rfl⟩ : r1 = 0 ∧ r2 = 0 ∧ r3 = 13 := by simpa using hr3
            obtain ⟨rfl, rfl⟩ := hpS
            clear hr3 hdg HR2 hS9
            go_wp2
            refine bodyPost_ret (v := .tuple #[.agg #[.int .i64 0, .int .i64 0], .int .i64 13]) (by simp [results, Try.results6, go_sem, k0, k1]) rfl ⟨rfl, ?_⟩
            exact (HB2.out.setCell (p := ⟨w.heap.size, 0, none⟩) (Nat.le_refl _) _).setCell (p := ⟨w.heap.size, 1, none⟩) (Nat.le_refl _) _
          · have hr3 := HR2.out
            rw [fin_ok hdg hpS hS9] at hr3
            have eS : pt = true → (S == 0) = false := by intro h; simp; exact fun h2 => hpS ⟨h, h2⟩
            have hS9' : S ≤ 9 := by omega
            clear HR2 hpS hS9 hdg
            by_cases hwhy : why = 0
            · subst hwhy
              rw [if_pos ⟨rfl, rfl⟩] at hr3
              have hq := subT_f 0 N ⟨by decide, by decide⟩ HN.out
              generalize subT 0 N = q at hr3 hq
              obtain ⟨q1, q2⟩ := q
              have hng : num_Neg.f N = some (q1, q2) := by unfold num_Neg.f; rw [hq]; rfl
              dsimp only at hr3
              have hmd : dec_made.f q1 S q2 = some (r1, r2, r3) := by
                unfold dec_made.f
                by_cases h : q2 = 0
                · rw [if_pos h] at hr3 ⊢; rw [← hr3]
                · rw [if_neg h] at hr3 ⊢; rw [← hr3]
              have HNG := Aside0.mk hng
              have HMD := Aside0.mk hmd
              clear hr3 hq hng hmd
              cases pt
              all_goals
                (try have eS := eS rfl)
                go_wp2_with (fail)
                refine (num_Neg.calls N q1 q2 _ HNG.out).mono ?_
                rintro e w3 ⟨rfl, hb3⟩
                have HW3 := Aside0.mk (HWE.out.call hb3.below)
                obtain ⟨m0, m1, n0, n1, y0, y1, z0, z1⟩ := HW3.out.facts
                clear hb3 x0 x1 g0 g1 k0 k1 f0 f1
                go_wp2_with (fail)
                refine (dec_made.calls q1 S q2 r1 r2 r3 _ HMD.out).mono ?_
                rintro e w4 ⟨rfl, hb4⟩
                have HW4 := Aside0.mk ((HW3.out.setN q1).call hb4)
                obtain ⟨m0, m1, n0, n1, -, -, -, -⟩ := HW4.out.facts
                clear hb4 y0 y1 z0 z1
                go_wp2
                refine bodyPost_ret (v := .tuple #[.agg #[.int .i64 r1, .int .i64 r2], .int .i64 r3]) (by simp [results, Try.results6, go_sem, m0, m1]) rfl ⟨rfl, ?_⟩
                exact (HW4.out.bel.setCell (p := ⟨w.heap.size, 0, none⟩) (Nat.le_refl _) _).setCell (p := ⟨w.heap.size, 1, none⟩) (Nat.le_refl _) _
            · rw [if_neg (fun h => hwhy h.2), if_neg hwhy] at hr3
              have hmd : dec_made.f N S why = some (r1, r2, r3) := by unfold dec_made.f; rw [if_neg hwhy, hr3]
              have HMD := Aside0.mk hmd
              have ewhy : (why == 0) = false := by simpa using hwhy
              clear hr3 hmd hwhy
              cases pt
              all_goals
                (try have eS := eS rfl)
                go_wp2_with (fail)
                refine (dec_made.calls N S why r1 r2 r3 _ HMD.out).mono ?_
                rintro e w4 ⟨rfl, hb4⟩
                have HW4 := Aside0.mk (HWE.out.call hb4)
                obtain ⟨m0, m1, n0, n1, -, -, -, -⟩ := HW4.out.facts
                clear hb4 x0 x1 g0 g1 k0 k1 f0 f1
                go_wp2
                refine bodyPost_ret (v := .tuple #[.agg #[.int .i64 r1, .int .i64 r2], .int .i64 r3]) (by simp [results, Try.results6, go_sem, m0, m1]) rfl ⟨rfl, ?_⟩
                exact (HW4.out.bel.setCell (p := ⟨w.heap.size, 0, none⟩) (Nat.le_refl _) _).setCell (p := ⟨w.heap.size, 1, none⟩) (Nat.le_refl _) _

theorem dec_Read.calls (a0 : ByteArray) (r1 : Int) (r2 : Int) (r3 : Int) (w : World) (h : dec_Read.f a0 = some (r1, r2, r3)) :
    Calls Try.prog 6 #[.string a0] w fun e w' => e = .returned (.tuple #[.agg #[.int .i64 r1, .int .i64 r2], .int .i64 r3]) ∧ Below w.heap.size w w' := by
  unfold dec_Read.f at h
  by_cases hs : a0.size ≤ 140737488351232
  · rw [if_pos hs] at h
    have h := Option.some.inj h
    by_cases h0 : 0 < a0.size
    · rw [if_pos h0] at h
      by_cases c45 : bt a0 0 = 45
      · rw [if_pos c45] at h; exact dec_Read.minus a0 w hs h0 c45 r1 r2 r3 h
      · rw [if_neg c45] at h
        by_cases c43 : bt a0 0 = 43
        · rw [if_pos c43] at h; exact dec_Read.plus a0 w hs h0 c43 r1 r2 r3 h
        · rw [if_neg c43] at h; exact dec_Read.plain a0 w hs h0 c45 c43 r1 r2 r3 h
    · rw [if_neg h0] at h; exact dec_Read.empty a0 w hs h0 r1 r2 r3 h
  · rw [if_neg hs] at h; cases h

end Go.Proofs.Ytndlhoaigaidbaa.D
