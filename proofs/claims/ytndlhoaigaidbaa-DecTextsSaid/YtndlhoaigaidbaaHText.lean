/- Hand contract of dec.Text: sign, digits, point. -/
import Derived.Test.YtndlhoaigaidbaaHNum
import Derived.Test.YtndlhoaigaidbaaDx2
namespace Go.Proofs.Ytndlhoaigaidbaa.D
open Go.RowKit Go.Proofs.YtndlhoaigaidbaaW.PrintWords Go.Proofs.YtndlhoaigaidbaaW.PrintLast Go.Proofs.YtndlhoaigaidbaaW.PrintMore

/-- The loop of dec.Text: what is written ahead of acc. -/
def txt (S : Nat) : Nat → Nat → Nat → List Int → List Int
  | 0, _, _, acc => acc
  | f + 1, u, i, acc => if 0 < u ∨ i ≤ S then txt S f (u / 10) (i + 1) ((48 + (u : Int) % 10) :: (if i = S ∧ 0 < i then 46 :: acc else acc)) else acc

def dec_Text.f (a0 : Int) (a1 : Int) : Option ByteArray :=
  if inI64 a0 then (if 0 ≤ a1 ∧ a1 ≤ 9 then some ((if a0 < 0 then (⟨#[45]⟩ : ByteArray) else ⟨#[]⟩) ++ strOfNums (txt a1.toNat 21 a0.natAbs 0 [])) else some ⟨#[]⟩) else none

/-- The array's cells: noughts, and behind them what is written. -/
def tcells (acc : List Int) : Array Value := (List.replicate (32 - acc.length) (Value.int .u8 0) ++ acc.map (Value.int .u8)).toArray

theorem tcells_zero : tcells [] = (List.replicate 32 (Value.int .u8 0)).toArray := by simp [tcells]
theorem tcells_get (acc : List Int) (j : Nat) (h : j + acc.length < 32) : (tcells acc)[j]? = some (.int .u8 0) := by
  simp only [tcells, List.getElem?_toArray]
  rw [List.getElem?_append_left (by simp; omega), List.getElem?_replicate, if_pos (by omega)]
theorem tcells_get2 (acc : List Int) (j : Nat) (h : j < acc.length)  : (tcells acc)[32 - acc.length + j]? = some (.int .u8 (acc.getD j 0)) := by
  simp only [tcells, List.getElem?_toArray]
  rw [List.getElem?_append_right (by simp), List.length_replicate, Nat.add_sub_cancel_left, List.getElem?_map, List.getElem?_eq_getElem h]
  simp [List.getD_eq_getElem?_getD, List.getElem?_eq_getElem h]
theorem tcells_set (acc : List Int) (d : Int) (h : acc.length < 32) : (tcells acc).setIfInBounds (31 - acc.length) (.int .u8 d) = tcells (d :: acc) := by
  apply Array.toList_inj.1
  simp only [tcells, Array.toList_setIfInBounds, List.length_cons, List.map_cons]
  have e : 32 - acc.length = (31 - acc.length) + 1 := by omega
  rw [e, show 32 - (acc.length + 1) = 31 - acc.length by omega]
  apply List.ext_getElem?
  intro i
  rw [List.getElem?_set]
  by_cases hi : i < 31 - acc.length
  · rw [if_neg (by omega), List.getElem?_append_left (by simp; omega), List.getElem?_append_left (by simp; omega)]
    rw [List.getElem?_replicate, List.getElem?_replicate, if_pos (by omega), if_pos (by omega)]
  · by_cases hj : 31 - acc.length = i
    · rw [if_pos hj, if_pos (by simp; omega)]
      subst hj
      rw [List.getElem?_append_right (by simp)]
      simp
    · rw [if_neg hj, List.getElem?_append_right (by simp; omega), List.getElem?_append_right (by simp; omega)]
      simp only [List.length_replicate]
      obtain ⟨m, rfl⟩ : ∃ m, i = 31 - acc.length + 1 + m := ⟨i - (31 - acc.length + 1), by omega⟩
      rw [Nat.add_sub_cancel_left, show 31 - acc.length + 1 + m - (31 - acc.length) = m + 1 by omega, List.getElem?_cons_succ]

theorem tcells_put {w : World} {g : Nat} {acc : List Int} (h : w.heap[g]? = some (.cells (tcells acc) 39 (0, 0))) (d : Int) (hl : acc.length < 32) (j : Nat) (hj : j = 31 - acc.length) :
    (w.setCell ⟨g, j, none⟩ (.int .u8 d)).heap[g]? = some (.cells (tcells (d :: acc)) 39 (0, 0)) := by
  subst hj
  exact blk_put h _ _ (tcells_set acc d hl)

theorem slice39 (g a : Nat) (h : a ≤ 32) (h0 : 0 < a) (w : World) : (Instr.sliceAt 39 (.pointer (some ⟨g, 0, none⟩)) (some (.int .i64 (32 - (a : Int)))) none none).run Try.prog w = .ok (.slice (some ⟨g, 32 - a, none⟩) a a) w := by
  have e1 : (32 - (a : Int)).toNat = 32 - a := by omega
  have hn : Try.prog.arrayLen 39 = 32 := by kernel_rfl
  have hs : (sizeOf (Try.prog.elem 39)).run Try.prog w = .ok 1 w := by kernel_rfl
  rw [run_sliceAt_array_l w 39 _ Try.underlying39 _ _ (by omega) (by rw [hn]; omega), hs, hn, e1]
  simp only [Result.andThen, slicedAt]
  rw [if_neg (by omega), add_plain, Nat.mul_one, show 32 - (32 - a) = a by omega]

theorem size_strOfNums (xs : List Int) : (strOfNums xs).size = xs.length := by simp [strOfNums, ByteArray.size]

/-- The walk from behind the sign on is one: the relation of its loop. -/
def TInv (S g bx : Nat) (M : Nat) (R : List Int) (W0 w : World) (u k i : Value) : Prop :=
  ∃ (n j : Nat) (acc : List Int), u = .int .u64 (n : Int) ∧ i = .int .i64 (j : Int) ∧ k = .int .i64 (32 - (acc.length : Int)) ∧ j ≤ 20 ∧ n * 10 ^ j ≤ M ∧ acc.length ≤ j + 1 ∧ j ≤ acc.length ∧ (j ≤ S → acc.length = j) ∧ txt S (21 - j) n j acc = R ∧
    w.heap[g]? = some (.cells (tcells acc) 39 (0, 0)) ∧ w.cell? ⟨bx, 1, none⟩ = some (.int .i64 S) ∧ Below W0.heap.size W0 w

theorem pow_room {n j M : Nat} (hn : 0 < n) (h : n * 10 ^ j ≤ M) (hM : M < 10 ^ 19) : j < 19 := by
  have h1 : 10 ^ j ≤ n * 10 ^ j := Nat.le_mul_of_pos_left _ hn
  exact (Nat.pow_lt_pow_iff_right (show 1 < 10 by decide)).1 (by omega)

theorem TInv.step {S g bx M : Nat} {R : List Int} {W0 wr : World} {n j : Nat} {acc : List Int} (hM : M < 10 ^ 19) (hS : S ≤ 9) (hj : j ≤ 20) (hnM : n * 10 ^ j ≤ M) (hl1 : acc.length ≤ j + 1) (hl0 : j ≤ acc.length) (hl2 : j ≤ S → acc.length = j) (hR : txt S (21 - j) n j acc = R)
    (hg : wr.heap[g]? = some (.cells (tcells acc) 39 (0, 0))) (hx : wr.cell? ⟨bx, 1, none⟩ = some (.int .i64 S)) (hB : Below W0.heap.size W0 wr) (hgn : W0.heap.size ≤ g) (hbg : bx ≠ g)
    (hc : 0 < n ∨ j ≤ S) (hd : ¬ (j = S ∧ 0 < j)) (d : Int) (hdd : d = 48 + (n : Int) % 10) (o : Nat) (ho : o = 32 - acc.length - 1) (k i u : Int) (hk : k = 32 - (acc.length : Int) - 1) (hi : i = (j : Int) + 1) (hu : u = (n : Int) / 10) :
    TInv S g bx M R W0 (wr.setCell ⟨g, o, none⟩ (.int .u8 d)) (.int .u64 u) (.int .i64 k) (.int .i64 i) := by
  subst hdd ho hk hi hu
  have hj2 : j < 20 := by
    rcases hc with h | h
    · have := pow_room h hnM hM; omega
    · omega
  refine ⟨n / 10, j + 1, (48 + (n : Int) % 10) :: acc, by simp, by simp, by simp; omega, by omega, ?_, by simp; omega, by simp; omega, ?_, ?_, ?_, ?_, ?_⟩
  · refine Nat.le_trans ?_ hnM
    rw [Nat.pow_succ, Nat.mul_comm (10 ^ j) 10, ← Nat.mul_assoc]
    exact Nat.mul_le_mul_right _ (Nat.div_mul_le_self n 10)
  · intro h; have := hl2 (by omega); simp; omega
  · rw [← hR, show 21 - j = (21 - (j + 1)) + 1 by omega, txt, if_pos hc, if_neg hd]
  · exact tcells_put hg _ (by omega) _ (by omega)
  · rw [World.cell?_setCell_other _ _ _ _ (by intro h; exact hbg (congrArg Addr.block h).symm)]; exact hx
  · exact hB.setCell (p := ⟨g, _, none⟩) hgn _

theorem TInv.dot {S g bx M : Nat} {R : List Int} {W0 wr : World} {n j : Nat} {acc : List Int} (hS : S ≤ 9) (hnM : n * 10 ^ j ≤ M) (hl2 : j ≤ S → acc.length = j) (hR : txt S (21 - j) n j acc = R)
    (hg : wr.heap[g]? = some (.cells (tcells acc) 39 (0, 0))) (hx : wr.cell? ⟨bx, 1, none⟩ = some (.int .i64 S)) (hB : Below W0.heap.size W0 wr) (hgn : W0.heap.size ≤ g) (hbg : bx ≠ g)
    (hjS : j = S) (hj0 : 0 < j) (d : Int) (hdd : d = 48 + (n : Int) % 10) (o o2 : Nat) (ho : o = 32 - acc.length - 1) (ho2 : o2 = 32 - acc.length - 1 - 1) (k i u : Int) (hk : k = 32 - (acc.length : Int) - 1 - 1) (hi : i = (j : Int) + 1) (hu : u = (n : Int) / 10) :
    TInv S g bx M R W0 ((wr.setCell ⟨g, o, none⟩ (.int .u8 46)).setCell ⟨g, o2, none⟩ (.int .u8 d)) (.int .u64 u) (.int .i64 k) (.int .i64 i) := by
  subst hdd ho ho2 hk hi hu
  have hl := hl2 (by omega)
  have h1 := tcells_put hg 46 (by omega) (32 - acc.length - 1) (by omega)
  refine ⟨n / 10, j + 1, (48 + (n : Int) % 10) :: 46 :: acc, by simp, by simp, by simp; omega, by omega, ?_, by simp; omega, by simp; omega, ?_, ?_, ?_, ?_, ?_⟩
  · refine Nat.le_trans ?_ hnM
    rw [Nat.pow_succ, Nat.mul_comm (10 ^ j) 10, ← Nat.mul_assoc]
    exact Nat.mul_le_mul_right _ (Nat.div_mul_le_self n 10)
  · intro h; omega
  · rw [← hR, show 21 - j = (21 - (j + 1)) + 1 by omega, txt, if_pos (.inr (by omega)), if_pos ⟨hjS, hj0⟩]
  · exact tcells_put h1 _ (by simp; omega) _ (by simp; omega)
  · rw [World.cell?_setCell_other _ _ _ _ (by intro h; exact hbg (congrArg Addr.block h).symm), World.cell?_setCell_other _ _ _ _ (by intro h; exact hbg (congrArg Addr.block h).symm)]; exact hx
  · exact (hB.setCell (p := ⟨g, _, none⟩) hgn _).setCell (p := ⟨g, _, none⟩) hgn _

set_option maxHeartbeats 8000000 in
theorem dec_Text.walk (N : Int) (S : Nat) (w : World) (hN : inI64 N) (hS : S ≤ 9) (hneg : 0 ≤ N) :
    Calls Try.prog 4 #[.agg #[.int .i64 N, .int .i64 S]] w fun e w' => e = .returned (.string (⟨#[]⟩ ++ strOfNums (txt S 21 N.natAbs 0 []))) ∧ Below w.heap.size w w' := by
  have hR : dec_Right.f N (S : Int) = some true := by unfold dec_Right.f; rw [if_pos (by omega), decide_eq_true (by omega)]
  have HR := Aside0.mk hR
  have hn : ¬ N < 0 := by omega
  clear hR
  go_enter Try.func4, Try.ntmps4
  go_wp2_with (fail)
  refine (dec_Right.calls N S true _ HR.out).mono ?_
  rintro e w1 ⟨rfl, hb1⟩
  have hB : Below w.heap.size w w1 := below_then (below_alloc (Below.refl _ _) _) (by simp) hb1
  have k0 : w1.cell? ⟨w.heap.size, 0, none⟩ = some (.int .i64 N) := pw_cell_below hb1 (by simp [go_sem])
  have k1 : w1.cell? ⟨w.heap.size, 1, none⟩ = some (.int .i64 S) := pw_cell_below hb1 (by simp [go_sem])
  have hlt : w.heap.size < w1.heap.size := World.block_lt_of_cell? w1 _ k1
  have HB := Aside0.mk hB
  clear hB hb1
  go_wp2_with (fail)
  have hu : IntKind.u64.wrap N = (N.natAbs : Int) := by obtain ⟨n1, n2⟩ := hN; rw [IntKind.wrap_u64]; omega
  have hM : N.natAbs * 10 ^ 0 ≤ 9223372036854775808 := by obtain ⟨n1, n2⟩ := hN; omega
  rw [hu]
  change Code.wp Try.prog _ _ _ (w1.alloc (.cells (tcells []) 39 (0, 0)))
  obtain ⟨W, hW, hg, hx, hB⟩ : ∃ W, w1.alloc (.cells (tcells []) 39 (0, 0)) = W ∧ W.heap[w1.heap.size]? = some (.cells (tcells []) 39 (0, 0)) ∧ W.cell? ⟨w.heap.size, 1, none⟩ = some (.int .i64 S) ∧ Below w.heap.size w W :=
    ⟨_, rfl, heap_alloc_new _ _, (World.cell?_alloc_lt _ _ _ (World.block_lt_of_cell? w1 _ k1)).trans k1, below_alloc HB.out _⟩
  rw [hW]
  generalize hR : txt S 21 N.natAbs 0 [] = R
  have HRR := Aside0.mk hR
  have HRR2 := Aside0.mk hR
  clear hW HB k0 k1 hu hR
  generalize hgg : w1.heap.size = g at *
  generalize hbb : w.heap.size = bx at *
  clear hgg
  go_loopw [3, 6, 7] (fun u k i wr => TInv S g bx 9223372036854775808 R w wr u k i) (fun _ _ i _ => 30 - (intOf i).toNat)
  case atStart => exact ⟨N.natAbs, 0, [], rfl, rfl, rfl, by omega, hM, by simp, by simp, fun _ => rfl, HRR.out, hg, hx, by rw [hbb]; exact hB⟩
  case round =>
    obtain ⟨n, j, acc, rfl, rfl, rfl, hj, hnM, hl1, hl0, hl2, hRR, hgr, hxr, hBr⟩ := hrel
    have hlen : acc.length ≤ 21 := by omega
    have hpow : 1 ≤ 10 ^ j := Nat.one_le_iff_ne_zero.2 (Nat.pos_iff_ne_zero.1 (Nat.pow_pos (by decide)))
    have hnb : n ≤ 9223372036854775808 := Nat.le_trans (Nat.le_mul_of_pos_right n hpow) hnM
    have STEP := fun hc hd => Aside0.mk (@TInv.step S g bx 9223372036854775808 R w wr n j acc (by decide) hS hj hnM hl1 hl0 hl2 hRR hgr hxr hBr (by omega) (by omega) hc hd)
    have DOT := fun h1 h2 => Aside0.mk (@TInv.dot S g bx 9223372036854775808 R w wr n j acc hS hnM hl2 hRR hgr hxr hBr (by omega) (by omega) h1 h2)
    have HG := Aside0.mk hgr
    have HNM := Aside0.mk hnM
    have HL := Aside0.mk hl2
    have HTX := Aside0.mk hRR
    have HBR := Aside0.mk hBr
    have c1 : wr.cell? ⟨g, 32 - acc.length - 1, none⟩ = some (.int .u8 0) := (blk_cell hgr _).trans (tcells_get acc _ (by omega))
    have f1 := blk_frozen hgr (32 - acc.length - 1)
    clear hgr hnM hl2 hRR hBr HRR HR hg hx hB
    have c2 : wr.cell? ⟨g, 32 - acc.length - 1 - 1, none⟩ = some (.int .u8 0) := (blk_cell HG.out _).trans (tcells_get acc _ (by omega))
    have f2 := blk_frozen HG.out (32 - acc.length - 1 - 1)
    by_cases hc : 0 < n ∨ j ≤ S
    · by_cases hd : j = S ∧ 0 < j
      · have hst := DOT hd.1 hd.2
        obtain ⟨rfl, hj0⟩ := hd
        clear STEP DOT hc
        have ne12 : ¬ (32 - acc.length - 1 = 32 - acc.length - 1 - 1) := by omega
        by_cases hn0 : 0 < n
        all_goals
          go_wp2
          go_roundw
          case measure => simp [intOf]; omega
          case rel => exact hst.out _ rfl _ _ rfl rfl _ _ _ rfl rfl rfl
      · have hst := STEP hc hd
        by_cases hjS : j = S
        · have hj0 : j = 0 := by omega
          subst hjS hj0
          clear STEP DOT hc hd
          by_cases hn0 : 0 < n
          all_goals
            go_wp2
            go_roundw
            case measure => simp [intOf]
            case rel => exact hst.out _ rfl _ rfl _ _ _ rfl rfl rfl
        · have e1 : ((j : Int) == (S : Int)) = false := by simp; omega
          clear hd STEP DOT
          by_cases hn0 : 0 < n
          · clear hjS hc
            go_wp2
            go_roundw
            case measure => simp [intOf]; omega
            case rel => exact hst.out _ rfl _ rfl _ _ _ rfl rfl rfl
          · have hjS2 : j ≤ S := by omega
            clear hjS hc
            go_wp2
            go_roundw
            case measure => simp [intOf]; omega
            case rel => exact hst.out _ rfl _ rfl _ _ _ rfl rfl rfl
    · have hn0 : ¬ 0 < n := by omega
      have hjS : ¬ j ≤ S := by omega
      have hac : txt S (21 - j) n j acc = acc := by rw [show 21 - j = (20 - j) + 1 by omega, txt, if_neg hc]
      have hRa : acc = R := by rw [← HTX.out, hac]
      have HRA := Aside0.mk hRa
      have hsl := slice39 g acc.length (by omega) (by omega) wr
      have hcv := run_convert_bytes_arg (P := Try.prog) wr 40 5 Try.underlying40 Try.underlying5 g (32 - acc.length) acc.length acc.length acc rfl (fun i hi => (blk_cell HG.out _).trans (tcells_get2 acc i hi)) 9 Try.underlying9
      have hsz : (strOfNums acc).size ≤ 21 := by rw [size_strOfNums]; exact hlen
      clear STEP DOT hc c2 f2 c1 f1 hac hRa
      go_wp2
      go_ret
      exact ⟨by rw [HRR2.out, HRA.out]; rfl, HBR.out⟩

set_option maxHeartbeats 8000000 in
theorem dec_Text.walkN (N : Int) (S : Nat) (w : World) (hN : inI64 N) (hS : S ≤ 9) (hneg : N < 0) :
    Calls Try.prog 4 #[.agg #[.int .i64 N, .int .i64 S]] w fun e w' => e = .returned (.string (⟨#[45]⟩ ++ strOfNums (txt S 21 N.natAbs 0 []))) ∧ Below w.heap.size w w' := by
  have hR : dec_Right.f N (S : Int) = some true := by unfold dec_Right.f; rw [if_pos (by omega), decide_eq_true (by omega)]
  have HR := Aside0.mk hR
  clear hR
  go_enter Try.func4, Try.ntmps4
  go_wp2_with (fail)
  refine (dec_Right.calls N S true _ HR.out).mono ?_
  rintro e w1 ⟨rfl, hb1⟩
  have hB : Below w.heap.size w w1 := below_then (below_alloc (Below.refl _ _) _) (by simp) hb1
  have k0 : w1.cell? ⟨w.heap.size, 0, none⟩ = some (.int .i64 N) := pw_cell_below hb1 (by simp [go_sem])
  have k1 : w1.cell? ⟨w.heap.size, 1, none⟩ = some (.int .i64 S) := pw_cell_below hb1 (by simp [go_sem])
  have hlt : w.heap.size < w1.heap.size := World.block_lt_of_cell? w1 _ k1
  have HB := Aside0.mk hB
  clear hB hb1
  go_wp2_with (fail)
  have hu : IntKind.u64.wrap (-IntKind.u64.wrap N) = (N.natAbs : Int) := by obtain ⟨n1, n2⟩ := hN; rw [IntKind.wrap_u64, IntKind.wrap_u64]; omega
  have hM : N.natAbs * 10 ^ 0 ≤ 9223372036854775808 := by obtain ⟨n1, n2⟩ := hN; omega
  rw [hu]
  change Code.wp Try.prog _ _ _ (w1.alloc (.cells (tcells []) 39 (0, 0)))
  obtain ⟨W, hW, hg, hx, hB⟩ : ∃ W, w1.alloc (.cells (tcells []) 39 (0, 0)) = W ∧ W.heap[w1.heap.size]? = some (.cells (tcells []) 39 (0, 0)) ∧ W.cell? ⟨w.heap.size, 1, none⟩ = some (.int .i64 S) ∧ Below w.heap.size w W :=
    ⟨_, rfl, heap_alloc_new _ _, (World.cell?_alloc_lt _ _ _ (World.block_lt_of_cell? w1 _ k1)).trans k1, below_alloc HB.out _⟩
  rw [hW]
  generalize hR : txt S 21 N.natAbs 0 [] = R
  have HRR := Aside0.mk hR
  have HRR2 := Aside0.mk hR
  clear hW HB k0 k1 hu hR
  generalize hgg : w1.heap.size = g at *
  generalize hbb : w.heap.size = bx at *
  clear hgg
  go_loopw [3, 6, 7] (fun u k i wr => TInv S g bx 9223372036854775808 R w wr u k i) (fun _ _ i _ => 30 - (intOf i).toNat)
  case atStart => exact ⟨N.natAbs, 0, [], rfl, rfl, rfl, by omega, hM, by simp, by simp, fun _ => rfl, HRR.out, hg, hx, by rw [hbb]; exact hB⟩
  case round =>
    obtain ⟨n, j, acc, rfl, rfl, rfl, hj, hnM, hl1, hl0, hl2, hRR, hgr, hxr, hBr⟩ := hrel
    have hlen : acc.length ≤ 21 := by omega
    have hpow : 1 ≤ 10 ^ j := Nat.one_le_iff_ne_zero.2 (Nat.pos_iff_ne_zero.1 (Nat.pow_pos (by decide)))
    have hnb : n ≤ 9223372036854775808 := Nat.le_trans (Nat.le_mul_of_pos_right n hpow) hnM
    have STEP := fun hc hd => Aside0.mk (@TInv.step S g bx 9223372036854775808 R w wr n j acc (by decide) hS hj hnM hl1 hl0 hl2 hRR hgr hxr hBr (by omega) (by omega) hc hd)
    have DOT := fun h1 h2 => Aside0.mk (@TInv.dot S g bx 9223372036854775808 R w wr n j acc hS hnM hl2 hRR hgr hxr hBr (by omega) (by omega) h1 h2)
    have HG := Aside0.mk hgr
    have HNM := Aside0.mk hnM
    have HL := Aside0.mk hl2
    have HTX := Aside0.mk hRR
    have HBR := Aside0.mk hBr
    have c1 : wr.cell? ⟨g, 32 - acc.length - 1, none⟩ = some (.int .u8 0) := (blk_cell hgr _).trans (tcells_get acc _ (by omega))
    have f1 := blk_frozen hgr (32 - acc.length - 1)
    clear hgr hnM hl2 hRR hBr HRR HR hg hx hB
    have c2 : wr.cell? ⟨g, 32 - acc.length - 1 - 1, none⟩ = some (.int .u8 0) := (blk_cell HG.out _).trans (tcells_get acc _ (by omega))
    have f2 := blk_frozen HG.out (32 - acc.length - 1 - 1)
    by_cases hc : 0 < n ∨ j ≤ S
    · by_cases hd : j = S ∧ 0 < j
      · have hst := DOT hd.1 hd.2
        obtain ⟨rfl, hj0⟩ := hd
        clear STEP DOT hc
        have ne12 : ¬ (32 - acc.length - 1 = 32 - acc.length - 1 - 1) := by omega
        by_cases hn0 : 0 < n
        all_goals
          go_wp2
          go_roundw
          case measure => simp [intOf]; omega
          case rel => exact hst.out _ rfl _ _ rfl rfl _ _ _ rfl rfl rfl
      · have hst := STEP hc hd
        by_cases hjS : j = S
        · have hj0 : j = 0 := by omega
          subst hjS hj0
          clear STEP DOT hc hd
          by_cases hn0 : 0 < n
          all_goals
            go_wp2
            go_roundw
            case measure => simp [intOf]
            case rel => exact hst.out _ rfl _ rfl _ _ _ rfl rfl rfl
        · have e1 : ((j : Int) == (S : Int)) = false := by simp; omega
          clear hd STEP DOT
          by_cases hn0 : 0 < n
          · clear hjS hc
            go_wp2
            go_roundw
            case measure => simp [intOf]; omega
            case rel => exact hst.out _ rfl _ rfl _ _ _ rfl rfl rfl
          · have hjS2 : j ≤ S := by omega
            clear hjS hc
            go_wp2
            go_roundw
            case measure => simp [intOf]; omega
            case rel => exact hst.out _ rfl _ rfl _ _ _ rfl rfl rfl
    · have hn0 : ¬ 0 < n := by omega
      have hjS : ¬ j ≤ S := by omega
      have hac : txt S (21 - j) n j acc = acc := by rw [show 21 - j = (20 - j) + 1 by omega, txt, if_neg hc]
      have hRa : acc = R := by rw [← HTX.out, hac]
      have HRA := Aside0.mk hRa
      have hsl := slice39 g acc.length (by omega) (by omega) wr
      have hcv := run_convert_bytes_arg (P := Try.prog) wr 40 5 Try.underlying40 Try.underlying5 g (32 - acc.length) acc.length acc.length acc rfl (fun i hi => (blk_cell HG.out _).trans (tcells_get2 acc i hi)) 9 Try.underlying9
      have hsz : (strOfNums acc).size ≤ 21 := by rw [size_strOfNums]; exact hlen
      clear STEP DOT hc c2 f2 c1 f1 hac hRa
      go_wp2
      go_ret
      exact ⟨by rw [HRR2.out, HRA.out]; rfl, HBR.out⟩

theorem dec_Text.calls (a0_0 : Int) (a0_1 : Int) (r : ByteArray) (w : World) (h : dec_Text.f a0_0 a0_1 = some r) :
    Calls Try.prog 4 #[.agg #[.int .i64 a0_0, .int .i64 a0_1]] w fun e w' => e = .returned (.string r) ∧ Below w.heap.size w w' := by
  unfold dec_Text.f at h
  by_cases hN : inI64 a0_0
  · rw [if_pos hN] at h
    by_cases hS : 0 ≤ a0_1 ∧ a0_1 ≤ 9
    · rw [if_pos hS] at h
      have hr := Option.some.inj h
      subst hr
      obtain ⟨S, rfl⟩ := Int.eq_ofNat_of_zero_le hS.1
      rw [Int.toNat_natCast]
      by_cases hneg : a0_0 < 0
      · rw [if_pos hneg]; exact dec_Text.walkN a0_0 S w hN (by omega) hneg
      · rw [if_neg hneg]; exact dec_Text.walk a0_0 S w hN (by omega) (by omega)
    · rw [if_neg hS] at h
      have hr := Option.some.inj h
      subst hr
      have hR : dec_Right.f a0_0 a0_1 = some false := by
        unfold dec_Right.f
        by_cases h0 : a0_1 ≥ 0
        · rw [if_pos h0, decide_eq_false (fun h9 => hS ⟨h0, h9⟩)]
        · rw [if_neg h0]
      have HR := Aside0.mk hR
      clear h hR hS hN
      go_enter Try.func4, Try.ntmps4
      go_wp2_with (fail)
      refine (dec_Right.calls a0_0 a0_1 false _ HR.out).mono ?_
      rintro e w1 ⟨rfl, hb1⟩
      go_wp2
      go_ret
      exact ⟨rfl, below_then (below_alloc (Below.refl _ _) _) (by simp) hb1⟩
  · rw [if_neg hN] at h; cases h

end Go.Proofs.Ytndlhoaigaidbaa.D
