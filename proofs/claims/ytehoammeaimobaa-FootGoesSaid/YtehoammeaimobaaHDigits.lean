/- Hand contract of clock.digits: a number's digits, so many at least. -/
import Derived.Test.YtehoammeaimobaaDx0
import Derived.Lib.OthersKept
import Derived.WalkSmall
namespace Go.Proofs.Ytehoammeaimobaa.D
open Go.RowKit Go.Proofs.YtehoammeaimobaaW.PrintWords Go.Proofs.YtehoammeaimobaaW.PrintLast Go.Proofs.YtehoammeaimobaaW.PrintMore

/-- The loop of clock.digits: what is written ahead of acc. -/
def dgt (S : Nat) : Nat → Nat → Nat → List Int → List Int
  | 0, _, _, acc => acc
  | f + 1, u, i, acc => if 0 < u ∨ i < S then dgt S f (u / 10) (i + 1) ((48 + (u : Int) % 10) :: acc) else acc

def clock_digits.f (a0 : Int) (a1 : Int) : Option ByteArray :=
  if 0 ≤ a0 ∧ a0 < 18446744073709551616 ∧ 1 ≤ a1 ∧ a1 ≤ 20 then some (strOfNums (dgt a1.toNat 21 a0.toNat 0 [])) else none

def tcells (acc : List Int) : Array Value := (List.replicate (20 - acc.length) (Value.int .u8 0) ++ acc.map (Value.int .u8)).toArray

theorem tcells_zero : tcells [] = (List.replicate 20 (Value.int .u8 0)).toArray := by simp [tcells]
theorem tcells_get (acc : List Int) (j : Nat) (h : j + acc.length < 20) : (tcells acc)[j]? = some (.int .u8 0) := by
  simp only [tcells, List.getElem?_toArray]
  rw [List.getElem?_append_left (by simp; omega), List.getElem?_replicate, if_pos (by omega)]
theorem tcells_get2 (acc : List Int) (j : Nat) (h : j < acc.length)  : (tcells acc)[20 - acc.length + j]? = some (.int .u8 (acc.getD j 0)) := by
  simp only [tcells, List.getElem?_toArray]
  rw [List.getElem?_append_right (by simp), List.length_replicate, Nat.add_sub_cancel_left, List.getElem?_map, List.getElem?_eq_getElem h]
  simp [List.getD_eq_getElem?_getD, List.getElem?_eq_getElem h]
theorem tcells_set (acc : List Int) (d : Int) (h : acc.length < 20) : (tcells acc).setIfInBounds (19 - acc.length) (.int .u8 d) = tcells (d :: acc) := by
  apply Array.toList_inj.1
  simp only [tcells, Array.toList_setIfInBounds, List.length_cons, List.map_cons]
  have e : 20 - acc.length = (19 - acc.length) + 1 := by omega
  rw [e, show 20 - (acc.length + 1) = 19 - acc.length by omega]
  apply List.ext_getElem?
  intro i
  rw [List.getElem?_set]
  by_cases hi : i < 19 - acc.length
  · rw [if_neg (by omega), List.getElem?_append_left (by simp; omega), List.getElem?_append_left (by simp; omega)]
    rw [List.getElem?_replicate, List.getElem?_replicate, if_pos (by omega), if_pos (by omega)]
  · by_cases hj : 19 - acc.length = i
    · rw [if_pos hj, if_pos (by simp; omega)]
      subst hj
      rw [List.getElem?_append_right (by simp)]
      simp
    · rw [if_neg hj, List.getElem?_append_right (by simp; omega), List.getElem?_append_right (by simp; omega)]
      simp only [List.length_replicate]
      obtain ⟨m, rfl⟩ : ∃ m, i = 19 - acc.length + 1 + m := ⟨i - (19 - acc.length + 1), by omega⟩
      rw [Nat.add_sub_cancel_left, show 19 - acc.length + 1 + m - (19 - acc.length) = m + 1 by omega, List.getElem?_cons_succ]

theorem tcells_put {w : World} {g : Nat} {acc : List Int} (h : w.heap[g]? = some (.cells (tcells acc) 104 (0, 0))) (d : Int) (hl : acc.length < 20) (j : Nat) (hj : j = 19 - acc.length) :
    (w.setCell ⟨g, j, none⟩ (.int .u8 d)).heap[g]? = some (.cells (tcells (d :: acc)) 104 (0, 0)) := by
  subst hj
  exact blk_put h _ _ (tcells_set acc d hl)

set_option maxRecDepth 100000 in
theorem slice104 (g a : Nat) (h : a ≤ 20) (h0 : 0 < a) (w : World) : (Instr.sliceAt 104 (.pointer (some ⟨g, 0, none⟩)) (some (.int .i64 (20 - (a : Int)))) none none).run Try.prog w = .ok (.slice (some ⟨g, 20 - a, none⟩) a a) w := by
  have e1 : (20 - (a : Int)).toNat = 20 - a := by omega
  have hn : Try.prog.arrayLen 104 = 20 := by kernel_rfl
  have hs : (sizeOf (Try.prog.elem 104)).run Try.prog w = .ok 1 w := by kernel_rfl
  rw [run_sliceAt_array_l w 104 _ Try.underlying104 _ _ (by omega) (by rw [hn]; omega), hs, hn, e1]
  simp only [Result.andThen, slicedAt]
  rw [if_neg (by omega), add_plain, Nat.mul_one, show 20 - (20 - a) = a by omega]

theorem size_strOfNums (xs : List Int) : (strOfNums xs).size = xs.length := by simp [strOfNums, ByteArray.size]

def TInv (S g : Nat) (M : Nat) (R : List Int) (W0 w : World) (u k : Value) : Prop :=
  ∃ (n j : Nat) (acc : List Int), u = .int .u64 (n : Int) ∧ k = .int .i64 (20 - (acc.length : Int)) ∧ j ≤ 20 ∧ n * 10 ^ j ≤ M ∧ acc.length = j ∧ dgt S (21 - j) n j acc = R ∧
    w.heap[g]? = some (.cells (tcells acc) 104 (0, 0)) ∧ Below W0.heap.size W0 w

theorem pow_room {n j M : Nat} (hn : 0 < n) (h : n * 10 ^ j ≤ M) (hM : M < 10 ^ 20) : j < 20 := by
  have h1 : 10 ^ j ≤ n * 10 ^ j := Nat.le_mul_of_pos_left _ hn
  exact (Nat.pow_lt_pow_iff_right (show 1 < 10 by decide)).1 (by omega)

theorem TInv.step {S g M : Nat} {R : List Int} {W0 wr : World} {n j : Nat} {acc : List Int} (hM : M < 10 ^ 20) (hS : S ≤ 20) (hj : j ≤ 20) (hnM : n * 10 ^ j ≤ M) (hl : acc.length = j) (hR : dgt S (21 - j) n j acc = R)
    (hg : wr.heap[g]? = some (.cells (tcells acc) 104 (0, 0))) (hB : Below W0.heap.size W0 wr) (hgn : W0.heap.size ≤ g)
    (hc : 0 < n ∨ j < S) (d : Int) (hdd : d = 48 + (n : Int) % 10) (o : Nat) (ho : o = 20 - acc.length - 1) (k u : Int) (hk : k = 20 - (acc.length : Int) - 1) (hu : u = (n : Int) / 10) :
    TInv S g M R W0 (wr.setCell ⟨g, o, none⟩ (.int .u8 d)) (.int .u64 u) (.int .i64 k) := by
  subst hdd ho hk hu
  have hj2 : j < 20 := by
    rcases hc with h | h
    · exact pow_room h hnM hM
    · omega
  refine ⟨n / 10, j + 1, (48 + (n : Int) % 10) :: acc, by simp, by simp; omega, by omega, ?_, by simp; omega, ?_, ?_, ?_⟩
  · refine Nat.le_trans ?_ hnM
    rw [Nat.pow_succ, Nat.mul_comm (10 ^ j) 10, ← Nat.mul_assoc]
    exact Nat.mul_le_mul_right _ (Nat.div_mul_le_self n 10)
  · rw [← hR, show 21 - j = (21 - (j + 1)) + 1 by omega, dgt, if_pos hc]
  · exact tcells_put hg _ (by omega) _ (by omega)
  · exact hB.setCell (p := ⟨g, _, none⟩) hgn _

set_option maxHeartbeats 8000000 in
theorem clock_digits.walk (N S : Nat) (w : World) (hN : N < 18446744073709551616) (hS : S ≤ 20) (hS0 : 1 ≤ S) :
    Calls Try.prog 69 #[.int .u64 N, .int .i64 S] w fun e w' => e = .returned (.string (strOfNums (dgt S 21 N 0 []))) ∧ Below w.heap.size w w' := by
  have hM : N * 10 ^ 0 ≤ 18446744073709551615 := by omega
  go_enter Try.func69, Try.ntmps69
  go_wp2_with (fail)
  change Code.wp Try.prog _ _ _ (w.alloc (.cells (tcells []) 104 (0, 0)))
  obtain ⟨W, hW, hg, hB⟩ : ∃ W, w.alloc (.cells (tcells []) 104 (0, 0)) = W ∧ W.heap[w.heap.size]? = some (.cells (tcells []) 104 (0, 0)) ∧ Below w.heap.size w W :=
    ⟨_, rfl, heap_alloc_new _ _, below_alloc (Below.refl _ _) _⟩
  rw [hW]
  generalize hR : dgt S 21 N 0 [] = R
  have HRR := Aside0.mk hR
  have HRR2 := Aside0.mk hR
  clear hW hR
  generalize hgg : w.heap.size = g at *
  go_loopw [0, 6] (fun u k wr => TInv S g 18446744073709551615 R w wr u k) (fun _ k _ => (intOf k).toNat)
  case atStart => exact ⟨N, 0, [], rfl, rfl, by omega, hM, rfl, HRR.out, hg, by rw [hgg]; exact hB⟩
  case round =>
    obtain ⟨n, j, acc, rfl, rfl, hj, hnM, hl, hRR, hgr, hBr⟩ := hrel
    have hpow : 1 ≤ 10 ^ j := Nat.one_le_iff_ne_zero.2 (Nat.pos_iff_ne_zero.1 (Nat.pow_pos (by decide)))
    have hnb : n ≤ 18446744073709551615 := Nat.le_trans (Nat.le_mul_of_pos_right n hpow) hnM
    have STEP := fun hc => Aside0.mk (@TInv.step S g 18446744073709551615 R w wr n j acc (by decide) hS hj hnM hl hRR hgr hBr (by omega) hc)
    have HG := Aside0.mk hgr
    have HNM := Aside0.mk hnM
    have HTX := Aside0.mk hRR
    have HBR := Aside0.mk hBr
    have hroom : (0 < n ∨ j < S) → j < 20 := fun h => by
      rcases h with h | h
      · exact pow_room h hnM (by decide)
      · omega
    clear hnM hRR hBr HRR hg hB hpow
    subst hl
    by_cases hc : 0 < n ∨ acc.length < S
    · have hst := STEP hc
      have hj20 := hroom hc
      have c1 : wr.cell? ⟨g, 20 - acc.length - 1, none⟩ = some (.int .u8 0) := (blk_cell hgr _).trans (tcells_get acc _ (by omega))
      have f1 := blk_frozen hgr (20 - acc.length - 1)
      clear STEP hroom hgr
      by_cases hn0 : 0 < n
      · clear hc
        go_wp2

        go_roundw
        case measure => simp [intOf]; omega
        case rel => exact hst.out _ rfl _ rfl _ _ rfl rfl
      · have hjS : acc.length < S := by omega
        clear hc
        go_wp2
        go_roundw
        case measure => simp [intOf]; omega
        case rel => exact hst.out _ rfl _ rfl _ _ rfl rfl
    · have hn0 : ¬ 0 < n := by omega
      have hjS : ¬ acc.length < S := by omega
      have hac : dgt S (21 - acc.length) n acc.length acc = acc := by rw [show 21 - acc.length = (20 - acc.length) + 1 by omega, dgt, if_neg hc]
      have hRa : acc = R := by rw [← HTX.out, hac]
      have HRA := Aside0.mk hRa
      have hsl := slice104 g acc.length (by omega) (by omega) wr
      have hcv := run_convert_bytes_arg (P := Try.prog) wr 105 5 Try.underlying105 Try.underlying5 g (20 - acc.length) acc.length acc.length acc rfl (fun i hi => (blk_cell HG.out _).trans (tcells_get2 acc i hi)) 9 Try.underlying9
      have hsz : (strOfNums acc).size ≤ 21 := by rw [size_strOfNums]; omega
      clear STEP hc hac hRa hgr hroom
      go_wp2
      go_ret
      exact ⟨by rw [HRR2.out, HRA.out]; rfl, HBR.out⟩

theorem clock_digits.calls (a0 : Int) (a1 : Int) (r : ByteArray) (w : World) (h : clock_digits.f a0 a1 = some r) :
    Calls Try.prog 69 #[.int .u64 a0, .int .i64 a1] w fun e w' => e = .returned (.string r) ∧ Below w.heap.size w w' := by
  unfold clock_digits.f at h
  by_cases c : 0 ≤ a0 ∧ a0 < 18446744073709551616 ∧ 1 ≤ a1 ∧ a1 ≤ 20
  · rw [if_pos c] at h
    obtain ⟨c0, c1, c2, c3⟩ := c
    have hr := Option.some.inj h
    subst hr
    have e := clock_digits.walk a0.toNat a1.toNat w (by omega) (by omega) (by omega)
    rw [Int.toNat_of_nonneg c0, Int.toNat_of_nonneg (by omega)] at e
    exact e
  · rw [if_neg c] at h; cases h
end Go.Proofs.Ytehoammeaimobaa.D
