/- Hand contract of dec.Floor. -/
import Derived.Test.YtndlhoaigaidbaaHDiv
import Derived.Test.YtndlhoaigaidbaaHTen
import Derived.Test.YtndlhoaigaidbaaDx2
import Derived.Test.YtndlhoaigaidbaaDx11
import Derived.Deep.MidRow
namespace Go.Proofs.Ytndlhoaigaidbaa.D
open Go.RowKit Go.Proofs.YtndlhoaigaidbaaW.PrintWords Go.Proofs.YtndlhoaigaidbaaW.PrintLast Go.Proofs.YtndlhoaigaidbaaW.PrintMore

def dec_Floor.f (a0_0 : Int) (a0_1 : Int) : Option (Int × Int) := if 0 ≤ a0_1 ∧ a0_1 ≤ 9 ∧ inI64 a0_0 then some (a0_0 / 10 ^ a0_1.toNat, 0) else none

set_option maxHeartbeats 2000000 in
theorem dec_split.calls (N S T q r u : Int) (w : World) (ht : dec_ten.f S = some T) (hd : num_Div.f N T = some (q, 0)) (hm : num_Mod.f N T = some (r, 0)) (hu : dec_ten.f (9 - S) = some u)
    (hs : -9223372036854775808 ≤ 9 - S ∧ 9 - S ≤ 9223372036854775807) (hru : -9223372036854775808 ≤ r * u ∧ r * u ≤ 9223372036854775807) :
    Calls Try.prog 34 #[.agg #[.int .i64 N, .int .i64 S]] w fun e w' => e = .returned (.agg #[.int .i64 q, .int .i64 (r * u)]) ∧ Below w.heap.size w w' := by
  obtain ⟨s1, s2⟩ := hs
  obtain ⟨u1, u2⟩ := hru
  have HT := Aside0.mk ht
  have HD := Aside0.mk hd
  have HM := Aside0.mk hm
  have HU := Aside0.mk hu
  clear ht hd hm hu
  go_enter Try.func34, Try.ntmps34
  go_wp2_with (fail)
  obtain ⟨W, hW, hc0, hc1, hf, hB⟩ : ∃ W, ((w.alloc (.cells #[.int .i64 N, .int .i64 S] 25)).alloc (.cells #[.int .i64 0, .int .i64 0] 65)) = W ∧ W.cell? ⟨w.heap.size, 0, none⟩ = some (.int .i64 N) ∧ W.cell? ⟨w.heap.size, 1, none⟩ = some (.int .i64 S) ∧
      W.heap[w.heap.size + 1]? = some (.cells #[.int .i64 0, .int .i64 0] 65 (0, 0)) ∧ Below w.heap.size w W := ⟨_, rfl, by simp [go_sem], by simp [go_sem], (by have h_ := heap_alloc_new (w.alloc (.cells #[.int .i64 N, .int .i64 S] 25)) (.cells #[.int .i64 0, .int .i64 0] 65); rwa [World.size_alloc] at h_), below_alloc (below_alloc (Below.refl _ _) _) _⟩
  rw [hW]
  clear hW
  go_region_held3 (fun w' => w'.cell? ⟨w.heap.size, 0, none⟩ = some (.int .i64 N) ∧ w'.cell? ⟨w.heap.size, 1, none⟩ = some (.int .i64 S) ∧ Below W.heap.size W w')
    (first | exact ⟨hc0, hc1, below_drew (Below.refl _ _)⟩ | (go_split_ands; refine ⟨pw_cell_below hb1 (by assumption), pw_cell_below hb1 (by assumption), below_then (w1 := _) (by assumption) (Below.size (by assumption)) hb1⟩))
    (first | (go_at_call 33; refine (dec_ten.calls S T _ HT.out).mono ?_; rintro e w1 ⟨rfl, hb1⟩) | (go_at_call 37; refine (num_Div.calls N T q 0 _ HD.out).mono ?_; rintro e w1 ⟨rfl, hb1⟩))
  go_split_ands
  have d0 : w1.cell? ⟨w.heap.size, 0, none⟩ = some (.int .i64 N) := by assumption
  have d1 : w1.cell? ⟨w.heap.size, 1, none⟩ = some (.int .i64 S) := by assumption
  have hB1 : Below W.heap.size W w1 := by assumption
  have HB1 := Aside0.mk (below_then hB hB.size hB1)
  have hf1 := (hB1.block _ (Array.getElem?_eq_some_iff.1 hf).1).trans hf
  clear hB hB1 hc0 hc1 hf
  clear hb1
  obtain ⟨W, hW⟩ : ∃ W, W = w1 := ⟨_, rfl⟩
  rw [← hW] at d0 d1 HB1 hf1 ⊢
  clear hW
  go_wp2_with (fail)
  go_region_held3 (fun w' => w'.cell? ⟨w.heap.size, 0, none⟩ = some (.int .i64 N) ∧ w'.cell? ⟨w.heap.size, 1, none⟩ = some (.int .i64 S) ∧ Below W.heap.size W w')
    (first | exact ⟨d0, d1, below_drew (Below.refl _ _)⟩ | (go_split_ands; refine ⟨pw_cell_below hb2 (by assumption), pw_cell_below hb2 (by assumption), below_then (w1 := _) (by assumption) (Below.size (by assumption)) hb2⟩))
    (first | (go_at_call 33; refine (dec_ten.calls S T _ HT.out).mono ?_; rintro e w2 ⟨rfl, hb2⟩) | (go_at_call 38; refine (num_Mod.calls N T r 0 _ HM.out).mono ?_; rintro e w2 ⟨rfl, hd2⟩; have hb2 := hd2.below))
  go_split_ands
  have e1 : w2.cell? ⟨w.heap.size, 1, none⟩ = some (.int .i64 S) := by assumption
  have hB2 : Below W.heap.size W w2 := by assumption
  have HB2 := Aside0.mk (below_then HB1.out HB1.out.size hB2)
  have hf2 := (hB2.block _ (Array.getElem?_eq_some_iff.1 hf1).1).trans hf1
  clear hB2 HB1 d0 d1 hf1
  go_wp2_with (fail)
  refine (dec_ten.calls (9 - S) u _ HU.out).mono ?_
  rintro e w3 ⟨rfl, hb3⟩
  have HB3 := Aside0.mk (below_then HB2.out HB2.out.size hb3)
  have hf3 := (hb3.block _ (Array.getElem?_eq_some_iff.1 hf2).1).trans hf2
  clear HB2 hf2 hb3 e1
  have k0 : w3.cell? ⟨w.heap.size + 1, 0, none⟩ = some (.int .i64 0) := (blk_cell hf3 0).trans rfl
  have k1 : w3.cell? ⟨w.heap.size + 1, 1, none⟩ = some (.int .i64 0) := (blk_cell hf3 1).trans rfl
  have z0 := blk_frozen hf3 0
  have z1 := blk_frozen hf3 1
  have HF3 := Aside0.mk hf3
  clear hf3
  go_wp2
  refine bodyPost_ret (v := .agg #[.int .i64 q, .int .i64 (r * u)]) (by simp [results, Try.results34, go_sem, k0, k1]) rfl ⟨rfl, ?_⟩
  exact (HB3.out.setCell (p := ⟨w.heap.size + 1, 0, none⟩) (by simp) _).setCell (p := ⟨w.heap.size + 1, 1, none⟩) (by simp) _
theorem mod_f (N T : Int) (hN : inI64 N) (hT : 0 < T) (hT2 : T ≤ 9223372036854775807) : num_Mod.f N T = some (N % T, 0) := by
  obtain ⟨n1, n2⟩ := hN
  unfold num_Mod.f
  rw [if_neg (by omega), if_neg (by omega)]
  have hb : decide (T < 0) = false := decide_eq_false (by omega)
  rw [hb]
  by_cases h0 : 0 ≤ N
  · rw [Int.tmod_eq_emod_of_nonneg h0]
    have e3 := Int.emod_nonneg N (show T ≠ 0 by omega)
    split
    · rename_i h; rw [h]
    · rw [if_neg (by simp; omega)]
  · obtain ⟨n, rfl⟩ : ∃ n : Nat, N = -(n : Int) := ⟨N.natAbs, by omega⟩
    have e := Int.mul_ediv_add_emod (n : Int) T
    have e3 := Int.emod_nonneg (n : Int) (show T ≠ 0 by omega)
    have e4 := Int.emod_lt_of_pos (n : Int) hT
    rw [Int.neg_tmod, Int.tmod_eq_emod_of_nonneg (by omega)]
    by_cases hr : (n : Int) % T = 0
    · rw [if_pos (by omega)]
      have := (Int.ediv_emod_unique (a := -(n : Int)) (b := T) (q := -((n : Int) / T)) (r := 0) hT).2 ⟨by rw [Int.mul_neg]; omega, by omega, by omega⟩
      rw [this.2, hr]; rfl
    · rw [if_neg (by omega), if_pos (by simp; omega)]
      have := (Int.ediv_emod_unique (a := -(n : Int)) (b := T) (q := -((n : Int) / T) - 1) (r := T - (n : Int) % T) hT).2 ⟨by rw [Int.mul_sub, Int.mul_neg, Int.mul_one]; omega, by omega, by omega⟩
      rw [this.2]
      congr 2
      unfold wrap64
      omega

theorem div_f (N T : Int) (hN : inI64 N) (hT : 0 < T) (hT2 : T ≤ 9223372036854775807) : num_Div.f N T = some (N / T, 0) := by
  have hT' : inI64 T := ⟨by omega, hT2⟩
  have hq : inI64 (N / T) := by
    obtain ⟨n1, n2⟩ := hN
    refine ⟨?_, ?_⟩
    · rw [Int.le_ediv_iff_mul_le hT]; have := Int.mul_le_mul_of_nonneg_left (show (1 : Int) ≤ T by omega) (show (0 : Int) ≤ 9223372036854775808 by decide); omega
    · by_cases h0 : 0 ≤ N
      · exact Int.le_trans (Int.ediv_le_self T h0) n2
      · have : N / T < 0 := Int.ediv_neg_of_neg_of_pos (by omega) hT
        omega
  unfold num_Div.f
  rw [if_pos hN, if_pos hT', if_neg (by omega), Int.fdiv_eq_ediv_of_nonneg _ (by omega), if_pos hq]

theorem ten_bounds (S : Int) (h0 : 0 ≤ S) (h9 : S ≤ 9) : ∃ T u : Int, (10 : Int) ^ S.toNat = T ∧ dec_ten.f S = some T ∧ dec_ten.f (9 - S) = some u ∧ 0 < T ∧ T ≤ 1000000000 ∧ ∀ r, 0 ≤ r → r < T → 0 ≤ r * u ∧ r * u ≤ 1000000000 := by
  obtain rfl | rfl | rfl | rfl | rfl | rfl | rfl | rfl | rfl | rfl : S = 0 ∨ S = 1 ∨ S = 2 ∨ S = 3 ∨ S = 4 ∨ S = 5 ∨ S = 6 ∨ S = 7 ∨ S = 8 ∨ S = 9 := by omega
  all_goals exact ⟨_, _, rfl, rfl, rfl, by decide, by decide, fun r h1 h2 => by simp at h2 ⊢; omega⟩

theorem index2_0 (a b : Int) (w : World) : (Instr.index 65 (.agg #[.int .i64 a, .int .i64 b]) (.int .i64 0)).run Try.prog w = .ok (.int .i64 a) w := by kernel_rfl

theorem dec_Floor.calls (a0_0 : Int) (a0_1 : Int) (r1 : Int) (r2 : Int) (w : World) (h : dec_Floor.f a0_0 a0_1 = some (r1, r2)) :
    Calls Try.prog 24 #[.agg #[.int .i64 a0_0, .int .i64 a0_1]] w fun e w' => e = .returned (.tuple #[.int .i64 r1, .int .i64 r2]) ∧ Below w.heap.size w w' := by
  unfold dec_Floor.f at h
  by_cases hc : 0 ≤ a0_1 ∧ a0_1 ≤ 9 ∧ inI64 a0_0
  · rw [if_pos hc] at h
    obtain ⟨c0, c9, cN⟩ := hc
    obtain ⟨T, u, hT, ht, hu, T0, T9, hru⟩ := ten_bounds a0_1 c0 c9
    rw [hT] at h
    obtain ⟨rfl, rfl⟩ : a0_0 / T = r1 ∧ 0 = r2 := by simpa using h
    have hs := fun w => dec_split.calls a0_0 a0_1 T _ _ u w ht (div_f a0_0 T cN T0 (by omega)) (mod_f a0_0 T cN T0 (by omega)) hu (by omega)
      (by have := hru (a0_0 % T) (Int.emod_nonneg _ (by omega)) (Int.emod_lt_of_pos _ T0); omega)
    have hR : dec_Right.f a0_0 a0_1 = some true := by unfold dec_Right.f; rw [if_pos (by omega), decide_eq_true c9]
    have HS := Aside0.mk hs
    have HR := Aside0.mk hR
    have hix := fun w => index2_0 (a0_0 / T) (a0_0 % T * u) w
    clear h hs hR hT ht hu hru c0 c9 cN
    go_enter Try.func24, Try.ntmps24
    go_wp2_with (fail)
    refine (dec_Right.calls a0_0 a0_1 true _ HR.out).mono ?_
    rintro e w1 ⟨rfl, hb1⟩
    have hB : Below w.heap.size w w1 := below_then (below_alloc (Below.refl _ _) _) (by simp) hb1
    have k0 : w1.cell? ⟨w.heap.size, 0, none⟩ = some (.int .i64 a0_0) := pw_cell_below hb1 (by simp [go_sem])
    have k1 : w1.cell? ⟨w.heap.size, 1, none⟩ = some (.int .i64 a0_1) := pw_cell_below hb1 (by simp [go_sem])
    have HB := Aside0.mk hB
    clear hB hb1
    go_wp2_with (fail)
    refine (HS.out _).mono ?_
    rintro e w2 ⟨rfl, hb2⟩
    go_wp2
    go_ret2
    exact ⟨rfl, below_then HB.out HB.out.size hb2⟩
  · rw [if_neg hc] at h; cases h

end Go.Proofs.Ytndlhoaigaidbaa.D
