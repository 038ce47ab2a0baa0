-- Laid by wip/tools/handprint.py of this session (a patched run of the kit's print program); not by hand. Not trusted: Lean checks it.
import Derived.Test.YtehoammeaimobaaDx0
import Derived.Test.YtehoammeaimobaaDx8
namespace Go.Proofs.Ytehoammeaimobaa.D
open Go.RowKit Go.Proofs.YtehoammeaimobaaW.PrintWords Go.Proofs.YtehoammeaimobaaW.PrintLast Go.Proofs.YtehoammeaimobaaW.PrintMore
attribute [local go_sem] max2_int min2_int max_two min_two max_three min_three max_four min_four   -- for this text's walks alone
set_option linter.unusedVariables false
set_option linter.unusedSimpArgs false

/-! ### computusref11_Right: function 22 -/
def computusref11_Right.j0 : Nat → Bool → Bool → Int → Int → Int → Int → Int → Int → Int → Int → Int → ByteArray → Int → Int → Int → Int → Int → Int → Int → ByteArray → Option (Bool)
  | 0, _, _, _, _, _, _, _, _, _, _, _, _, _, _, _, _, _, _, _, _ => none
  | k + 1, x28, x137000, x137001, x137002, x137003, x137004, x137005, x137006, x137007, x137008, x137009, x137010, x137011, x137012, x137013, x137014, x137015, x137016, x137017, x137018 => if x28 = true then (some false) else (if (wrap64 (x137003 - x137011)) < 0 then (if (wrap64 (-(wrap64 (x137003 - x137011)))) ≥ 2 then (some (decide ((wrap64 (-(wrap64 (x137003 - x137011)))) ≤ 10))) else (some false)) else (if (wrap64 (x137003 - x137011)) ≥ 2 then (some (decide ((wrap64 (x137003 - x137011)) ≤ 10))) else (some false)))
def computusref11_Right.f (k : Nat) (a0_0 : Bool) (a0_1 : Int) (a0_2 : Int) (a0_3 : Int) (a0_4 : Int) (a0_5 : Int) (a0_6 : Int) (a0_7 : Int) (a0_8 : Int) (a0_9 : Int) (a0_10 : ByteArray) (a0_11 : Int) (a0_12 : Int) (a0_13 : Int) (a0_14 : Int) (a0_15 : Int) (a0_16 : Int) (a0_17 : Int) (a0_18 : ByteArray) : Option (Bool) := if a0_0 = true then ((computusref11_right.f k a0_3 a0_4 a0_5 a0_6 a0_7 a0_8 a0_9 a0_10).bind fun t137 => (if t137 = true then ((computusref11_right.f k a0_11 a0_12 a0_13 a0_14 a0_15 a0_16 a0_17 a0_18).bind fun t138 => (if t138 = true then (if a0_2 < (-50400) then (computusref11_Right.j0 k true a0_0 a0_1 a0_2 a0_3 a0_4 a0_5 a0_6 a0_7 a0_8 a0_9 a0_10 a0_11 a0_12 a0_13 a0_14 a0_15 a0_16 a0_17 a0_18) else (computusref11_Right.j0 k (decide (a0_2 > 50400)) a0_0 a0_1 a0_2 a0_3 a0_4 a0_5 a0_6 a0_7 a0_8 a0_9 a0_10 a0_11 a0_12 a0_13 a0_14 a0_15 a0_16 a0_17 a0_18)) else (computusref11_Right.j0 k true a0_0 a0_1 a0_2 a0_3 a0_4 a0_5 a0_6 a0_7 a0_8 a0_9 a0_10 a0_11 a0_12 a0_13 a0_14 a0_15 a0_16 a0_17 a0_18))) else (computusref11_Right.j0 k true a0_0 a0_1 a0_2 a0_3 a0_4 a0_5 a0_6 a0_7 a0_8 a0_9 a0_10 a0_11 a0_12 a0_13 a0_14 a0_15 a0_16 a0_17 a0_18))) else (computusref11_Right.j0 k true a0_0 a0_1 a0_2 a0_3 a0_4 a0_5 a0_6 a0_7 a0_8 a0_9 a0_10 a0_11 a0_12 a0_13 a0_14 a0_15 a0_16 a0_17 a0_18)
theorem computusref11_Right.mono_l : ∀ k, (∀ y0 y1 y2 y3 y4 y5 y6 y7 y8 y9 y10 y11 y12 y13 y14 y15 y16 y17 y18 y19, LeO (computusref11_Right.j0 k y0 y1 y2 y3 y4 y5 y6 y7 y8 y9 y10 y11 y12 y13 y14 y15 y16 y17 y18 y19) (computusref11_Right.j0 (k + 1) y0 y1 y2 y3 y4 y5 y6 y7 y8 y9 y10 y11 y12 y13 y14 y15 y16 y17 y18 y19))
  | 0 => fun _ _ _ _ _ _ _ _ _ _ _ _ _ _ _ _ _ _ _ _ r h => by simp [computusref11_Right.j0] at h
  | k + 1 => by
    have ih0 := computusref11_Right.mono_l k
    · intro y0 y1 y2 y3 y4 y5 y6 y7 y8 y9 y10 y11 y12 y13 y14 y15 y16 y17 y18 y19
      unfold computusref11_Right.j0
      repeat' first
      | (with_reducible exact ih0 _ _ _ _ _ _ _ _ _ _ _ _ _ _ _ _ _ _ _ _)
      | (with_reducible exact computusref11_right.mono _ _ _ _ _ _ _ _ _)
      | (with_reducible exact LeO.refl _)
      | (with_reducible exact LeO.none _)
      | (with_reducible refine LeO.ite ?_ ?_)
      | (with_reducible refine LeO.bind ?_ (fun _ => ?_))
      | exact ih0 _ _ _ _ _ _ _ _ _ _ _ _ _ _ _ _ _ _ _ _
      | exact computusref11_right.mono _ _ _ _ _ _ _ _ _
      | exact LeO.none _
      | refine LeO.ite ?_ ?_
      | refine LeO.bind ?_ (fun _ => ?_)
theorem computusref11_Right.mono : ∀ a0 a1 a2 a3 a4 a5 a6 a7 a8 a9 a10 a11 a12 a13 a14 a15 a16 a17 a18 k, LeO (computusref11_Right.f k a0 a1 a2 a3 a4 a5 a6 a7 a8 a9 a10 a11 a12 a13 a14 a15 a16 a17 a18) (computusref11_Right.f (k + 1) a0 a1 a2 a3 a4 a5 a6 a7 a8 a9 a10 a11 a12 a13 a14 a15 a16 a17 a18) := by
  intro a0 a1 a2 a3 a4 a5 a6 a7 a8 a9 a10 a11 a12 a13 a14 a15 a16 a17 a18 k
  have ih0 := computusref11_Right.mono_l k
  unfold computusref11_Right.f
  repeat' first
      | (with_reducible exact ih0 _ _ _ _ _ _ _ _ _ _ _ _ _ _ _ _ _ _ _ _)
      | (with_reducible exact computusref11_right.mono _ _ _ _ _ _ _ _ _)
      | (with_reducible exact LeO.refl _)
      | (with_reducible exact LeO.none _)
      | (with_reducible refine LeO.ite ?_ ?_)
      | (with_reducible refine LeO.bind ?_ (fun _ => ?_))
      | exact ih0 _ _ _ _ _ _ _ _ _ _ _ _ _ _ _ _ _ _ _ _
      | exact computusref11_right.mono _ _ _ _ _ _ _ _ _
      | exact LeO.none _
      | refine LeO.ite ?_ ?_
      | refine LeO.bind ?_ (fun _ => ?_)
set_option maxHeartbeats 8000000 in
set_option maxRecDepth 100000 in
theorem computusref11_Right.calls (k : Nat) (a0_0 : Bool) (a0_1 : Int) (a0_2 : Int) (a0_3 : Int) (a0_4 : Int) (a0_5 : Int) (a0_6 : Int) (a0_7 : Int) (a0_8 : Int) (a0_9 : Int) (a0_10 : ByteArray) (a0_11 : Int) (a0_12 : Int) (a0_13 : Int) (a0_14 : Int) (a0_15 : Int) (a0_16 : Int) (a0_17 : Int) (a0_18 : ByteArray) (r : Bool) (w : World) (h : computusref11_Right.f k a0_0 a0_1 a0_2 a0_3 a0_4 a0_5 a0_6 a0_7 a0_8 a0_9 a0_10 a0_11 a0_12 a0_13 a0_14 a0_15 a0_16 a0_17 a0_18 = some r) :
    Calls Try.prog 22 #[.agg #[.bool a0_0, .int .i64 a0_1, .int .i64 a0_2, .int .i64 a0_3, .int .i64 a0_4, .int .i64 a0_5, .int .i64 a0_6, .int .i64 a0_7, .int .u8 a0_8, .int .i64 a0_9, .string a0_10, .int .i64 a0_11, .int .i64 a0_12, .int .i64 a0_13, .int .i64 a0_14, .int .i64 a0_15, .int .u8 a0_16, .int .i64 a0_17, .string a0_18]] w fun e w' => e = .returned (.bool r) ∧ Below w.heap.size w w' := by
  have hu29 := Try.underlying29
  have hu27 := Try.underlying27
  have HB := Aside0.mk (Below.refl w.heap.size w)
  have H : (if a0_0 = true then ((computusref11_right.f k a0_3 a0_4 a0_5 a0_6 a0_7 a0_8 a0_9 a0_10).bind fun t137 => (if t137 = true then ((computusref11_right.f k a0_11 a0_12 a0_13 a0_14 a0_15 a0_16 a0_17 a0_18).bind fun t138 => (if t138 = true then (if a0_2 < (-50400) then (computusref11_Right.j0 k true a0_0 a0_1 a0_2 a0_3 a0_4 a0_5 a0_6 a0_7 a0_8 a0_9 a0_10 a0_11 a0_12 a0_13 a0_14 a0_15 a0_16 a0_17 a0_18) else (computusref11_Right.j0 k (decide (a0_2 > 50400)) a0_0 a0_1 a0_2 a0_3 a0_4 a0_5 a0_6 a0_7 a0_8 a0_9 a0_10 a0_11 a0_12 a0_13 a0_14 a0_15 a0_16 a0_17 a0_18)) else (computusref11_Right.j0 k true a0_0 a0_1 a0_2 a0_3 a0_4 a0_5 a0_6 a0_7 a0_8 a0_9 a0_10 a0_11 a0_12 a0_13 a0_14 a0_15 a0_16 a0_17 a0_18))) else (computusref11_Right.j0 k true a0_0 a0_1 a0_2 a0_3 a0_4 a0_5 a0_6 a0_7 a0_8 a0_9 a0_10 a0_11 a0_12 a0_13 a0_14 a0_15 a0_16 a0_17 a0_18))) else (computusref11_Right.j0 k true a0_0 a0_1 a0_2 a0_3 a0_4 a0_5 a0_6 a0_7 a0_8 a0_9 a0_10 a0_11 a0_12 a0_13 a0_14 a0_15 a0_16 a0_17 a0_18)) = some r := h
  clear h
  have HC2 := Aside0.mk H
  clear H
  go_enter Try.func22, Try.ntmps22
  go_upto_region 1 with (first | ((with_reducible refine gate_dst (N := 1) rfl ?_); refine box_event ?hg (N := 1) ?hd (cs := #[.bool a0_0, .int .i64 a0_1, .int .i64 a0_2, .int .i64 a0_3, .int .i64 a0_4, .int .i64 a0_5, .int .i64 a0_6, .int .i64 a0_7, .int .u8 a0_8, .int .i64 a0_9, .string a0_10, .int .i64 a0_11, .int .i64 a0_12, .int .i64 a0_13, .int .i64 a0_14, .int .i64 a0_15, .int .u8 a0_16, .int .i64 a0_17, .string a0_18]) (t := 29) ?hr ?_; (case hd => rfl); (case hg => rfl); (case hr => first | (go_simp; done) | (go_simp; rfl)); intro gb136 hg w3 hbox hb; have n0_ := Aside0.mk (below_step (by repeat (first | (with_reducible first | exact HB.out | apply below_alloc | apply pw_below_drewN | apply below_drew1) | exact HB.out)) hb); have n1_ := Aside0.mk (hbox); have n2_ := Aside0.mk ((by rw [hg]; exact (below_size (by repeat (first | (with_reducible first | exact HB.out | apply below_alloc | apply pw_below_drewN | apply below_drew1) | exact HB.out))) : w.heap.size ≤ gb136)); have n3_ := Aside0.mk ((by rw [hg]; exact (below_size (by repeat (first | (with_reducible first | exact HB.out | apply below_alloc | apply pw_below_drewN | apply below_drew1) | exact HB.out))) : w.heap.size ≤ gb136)); clear HB; have HB := n0_; have BK136 := n1_; have GW136 := n2_; have GE136 := n3_; clear n0_ n1_ n2_ n3_; clear hb hbox hg))
  (try simp only [Act.put, List.setIfInBounds_toArray, List.set_cons_zero, List.set_cons_succ])
  go_cut [28] (fun v28 wc => ∃ (kq : Nat) (x28_1 : Bool), v28 = .bool x28_1 ∧ Aside0 (computusref11_Right.j0 kq x28_1 a0_0 a0_1 a0_2 a0_3 a0_4 a0_5 a0_6 a0_7 a0_8 a0_9 a0_10 a0_11 a0_12 a0_13 a0_14 a0_15 a0_16 a0_17 a0_18 = some r) ∧ Aside0 (kq ≤ k) ∧ Aside0 (wc.heap[gb136]? = some (.cells #[.bool a0_0, .int .i64 a0_1, .int .i64 a0_2, .int .i64 a0_3, .int .i64 a0_4, .int .i64 a0_5, .int .i64 a0_6, .int .i64 a0_7, .int .u8 a0_8, .int .i64 a0_9, .string a0_10, .int .i64 a0_11, .int .i64 a0_12, .int .i64 a0_13, .int .i64 a0_14, .int .i64 a0_15, .int .u8 a0_16, .int .i64 a0_17, .string a0_18] 29 (0, 0))) ∧ Aside0 (Below w.heap.size w wc))
  case first =>
    have H := HC2.out
    clear HC2
    by_cases c4 : a0_0 = true
    · subst c4
      have H1 : ((computusref11_right.f k a0_3 a0_4 a0_5 a0_6 a0_7 a0_8 a0_9 a0_10).bind fun t137 => (if t137 = true then ((computusref11_right.f k a0_11 a0_12 a0_13 a0_14 a0_15 a0_16 a0_17 a0_18).bind fun t138 => (if t138 = true then (if a0_2 < (-50400) then (computusref11_Right.j0 k true true a0_1 a0_2 a0_3 a0_4 a0_5 a0_6 a0_7 a0_8 a0_9 a0_10 a0_11 a0_12 a0_13 a0_14 a0_15 a0_16 a0_17 a0_18) else (computusref11_Right.j0 k (decide (a0_2 > 50400)) true a0_1 a0_2 a0_3 a0_4 a0_5 a0_6 a0_7 a0_8 a0_9 a0_10 a0_11 a0_12 a0_13 a0_14 a0_15 a0_16 a0_17 a0_18)) else (computusref11_Right.j0 k true true a0_1 a0_2 a0_3 a0_4 a0_5 a0_6 a0_7 a0_8 a0_9 a0_10 a0_11 a0_12 a0_13 a0_14 a0_15 a0_16 a0_17 a0_18))) else (computusref11_Right.j0 k true true a0_1 a0_2 a0_3 a0_4 a0_5 a0_6 a0_7 a0_8 a0_9 a0_10 a0_11 a0_12 a0_13 a0_14 a0_15 a0_16 a0_17 a0_18))) = some r := by rw [if_pos rfl] at H; exact H
      clear H
      have H := H1
      clear H1
      replace H := Option.bind_eq_some_iff.mp H
      obtain ⟨t137, A50, H⟩ := H
      replace H : (if t137 = true then ((computusref11_right.f k a0_11 a0_12 a0_13 a0_14 a0_15 a0_16 a0_17 a0_18).bind fun t138 => (if t138 = true then (if a0_2 < (-50400) then (computusref11_Right.j0 k true true a0_1 a0_2 a0_3 a0_4 a0_5 a0_6 a0_7 a0_8 a0_9 a0_10 a0_11 a0_12 a0_13 a0_14 a0_15 a0_16 a0_17 a0_18) else (computusref11_Right.j0 k (decide (a0_2 > 50400)) true a0_1 a0_2 a0_3 a0_4 a0_5 a0_6 a0_7 a0_8 a0_9 a0_10 a0_11 a0_12 a0_13 a0_14 a0_15 a0_16 a0_17 a0_18)) else (computusref11_Right.j0 k true true a0_1 a0_2 a0_3 a0_4 a0_5 a0_6 a0_7 a0_8 a0_9 a0_10 a0_11 a0_12 a0_13 a0_14 a0_15 a0_16 a0_17 a0_18))) else (computusref11_Right.j0 k true true a0_1 a0_2 a0_3 a0_4 a0_5 a0_6 a0_7 a0_8 a0_9 a0_10 a0_11 a0_12 a0_13 a0_14 a0_15 a0_16 a0_17 a0_18)) = some r := H
      have A5 := Aside0.mk A50
      clear A50
      by_cases c6 : t137 = true
      · subst c6
        have H1 : ((computusref11_right.f k a0_11 a0_12 a0_13 a0_14 a0_15 a0_16 a0_17 a0_18).bind fun t138 => (if t138 = true then (if a0_2 < (-50400) then (computusref11_Right.j0 k true true a0_1 a0_2 a0_3 a0_4 a0_5 a0_6 a0_7 a0_8 a0_9 a0_10 a0_11 a0_12 a0_13 a0_14 a0_15 a0_16 a0_17 a0_18) else (computusref11_Right.j0 k (decide (a0_2 > 50400)) true a0_1 a0_2 a0_3 a0_4 a0_5 a0_6 a0_7 a0_8 a0_9 a0_10 a0_11 a0_12 a0_13 a0_14 a0_15 a0_16 a0_17 a0_18)) else (computusref11_Right.j0 k true true a0_1 a0_2 a0_3 a0_4 a0_5 a0_6 a0_7 a0_8 a0_9 a0_10 a0_11 a0_12 a0_13 a0_14 a0_15 a0_16 a0_17 a0_18))) = some r := by rw [if_pos rfl] at H; exact H
        clear H
        have H := H1
        clear H1
        replace H := Option.bind_eq_some_iff.mp H
        obtain ⟨t138, A70, H⟩ := H
        replace H : (if t138 = true then (if a0_2 < (-50400) then (computusref11_Right.j0 k true true a0_1 a0_2 a0_3 a0_4 a0_5 a0_6 a0_7 a0_8 a0_9 a0_10 a0_11 a0_12 a0_13 a0_14 a0_15 a0_16 a0_17 a0_18) else (computusref11_Right.j0 k (decide (a0_2 > 50400)) true a0_1 a0_2 a0_3 a0_4 a0_5 a0_6 a0_7 a0_8 a0_9 a0_10 a0_11 a0_12 a0_13 a0_14 a0_15 a0_16 a0_17 a0_18)) else (computusref11_Right.j0 k true true a0_1 a0_2 a0_3 a0_4 a0_5 a0_6 a0_7 a0_8 a0_9 a0_10 a0_11 a0_12 a0_13 a0_14 a0_15 a0_16 a0_17 a0_18)) = some r := H
        have A7 := Aside0.mk A70
        clear A70
        by_cases c8 : t138 = true
        · subst c8
          have H1 : (if a0_2 < (-50400) then (computusref11_Right.j0 k true true a0_1 a0_2 a0_3 a0_4 a0_5 a0_6 a0_7 a0_8 a0_9 a0_10 a0_11 a0_12 a0_13 a0_14 a0_15 a0_16 a0_17 a0_18) else (computusref11_Right.j0 k (decide (a0_2 > 50400)) true a0_1 a0_2 a0_3 a0_4 a0_5 a0_6 a0_7 a0_8 a0_9 a0_10 a0_11 a0_12 a0_13 a0_14 a0_15 a0_16 a0_17 a0_18)) = some r := by rw [if_pos rfl] at H; exact H
          clear H
          have H := H1
          clear H1
          by_cases c9 : a0_2 < (-50400)
          · rw [if_pos c9] at H
            have c9b0 : decide (a0_2 < (-50400)) = true := decide_eq_true c9
            clear c9
            (first | rw [c9b0] | (simp only [i64_w, i32_w]; rw [c9b0]) | skip)
            have H' := Aside0.mk H
            clear H
            have hcz10_0 : w3.cell? ⟨gb136, 0, none⟩ = some (.bool true) := (blk_cell BK136.out 0).trans rfl
            have hcz10_1 : w3.cell? ⟨gb136, 1, none⟩ = some (.int .i64 a0_1) := (blk_cell BK136.out 1).trans rfl
            have hcz10_2 : w3.cell? ⟨gb136, 2, none⟩ = some (.int .i64 a0_2) := (blk_cell BK136.out 2).trans rfl
            have hcz10_3 : w3.cell? ⟨gb136, 3, none⟩ = some (.int .i64 a0_3) := (blk_cell BK136.out 3).trans rfl
            have hcz10_4 : w3.cell? ⟨gb136, 4, none⟩ = some (.int .i64 a0_4) := (blk_cell BK136.out 4).trans rfl
            have hcz10_5 : w3.cell? ⟨gb136, 5, none⟩ = some (.int .i64 a0_5) := (blk_cell BK136.out 5).trans rfl
            have hcz10_6 : w3.cell? ⟨gb136, 6, none⟩ = some (.int .i64 a0_6) := (blk_cell BK136.out 6).trans rfl
            have hcz10_7 : w3.cell? ⟨gb136, 7, none⟩ = some (.int .i64 a0_7) := (blk_cell BK136.out 7).trans rfl
            have hcz10_8 : w3.cell? ⟨gb136, 8, none⟩ = some (.int .u8 a0_8) := (blk_cell BK136.out 8).trans rfl
            have hcz10_9 : w3.cell? ⟨gb136, 9, none⟩ = some (.int .i64 a0_9) := (blk_cell BK136.out 9).trans rfl
            have hcz10_10 : w3.cell? ⟨gb136, 10, none⟩ = some (.string a0_10) := (blk_cell BK136.out 10).trans rfl
            have hcz10_11 : w3.cell? ⟨gb136, 11, none⟩ = some (.int .i64 a0_11) := (blk_cell BK136.out 11).trans rfl
            have hcz10_12 : w3.cell? ⟨gb136, 12, none⟩ = some (.int .i64 a0_12) := (blk_cell BK136.out 12).trans rfl
            have hcz10_13 : w3.cell? ⟨gb136, 13, none⟩ = some (.int .i64 a0_13) := (blk_cell BK136.out 13).trans rfl
            have hcz10_14 : w3.cell? ⟨gb136, 14, none⟩ = some (.int .i64 a0_14) := (blk_cell BK136.out 14).trans rfl
            have hcz10_15 : w3.cell? ⟨gb136, 15, none⟩ = some (.int .i64 a0_15) := (blk_cell BK136.out 15).trans rfl
            have hcz10_16 : w3.cell? ⟨gb136, 16, none⟩ = some (.int .u8 a0_16) := (blk_cell BK136.out 16).trans rfl
            have hcz10_17 : w3.cell? ⟨gb136, 17, none⟩ = some (.int .i64 a0_17) := (blk_cell BK136.out 17).trans rfl
            have hcz10_18 : w3.cell? ⟨gb136, 18, none⟩ = some (.string a0_18) := (blk_cell BK136.out 18).trans rfl
            have hfz10_0 := blk_frozen BK136.out 0
            have hfz10_1 := blk_frozen BK136.out 1
            have hfz10_2 := blk_frozen BK136.out 2
            have hfz10_3 := blk_frozen BK136.out 3
            have hfz10_4 := blk_frozen BK136.out 4
            have hfz10_5 := blk_frozen BK136.out 5
            have hfz10_6 := blk_frozen BK136.out 6
            have hfz10_7 := blk_frozen BK136.out 7
            have hfz10_8 := blk_frozen BK136.out 8
            have hfz10_9 := blk_frozen BK136.out 9
            have hfz10_10 := blk_frozen BK136.out 10
            have hfz10_11 := blk_frozen BK136.out 11
            have hfz10_12 := blk_frozen BK136.out 12
            have hfz10_13 := blk_frozen BK136.out 13
            have hfz10_14 := blk_frozen BK136.out 14
            have hfz10_15 := blk_frozen BK136.out 15
            have hfz10_16 := blk_frozen BK136.out 16
            have hfz10_17 := blk_frozen BK136.out 17
            have hfz10_18 := blk_frozen BK136.out 18
            go_wp2_with (first | (go_at_call 32; (with_reducible refine (computusref11_right.calls k a0_3 a0_4 a0_5 a0_6 a0_7 a0_8 a0_9 a0_10 true _ A5.out).mono ?_); rintro e w11 ⟨rfl, hb⟩; have n0_ := Aside0.mk (blk_below (g := gb136) (o := .cells #[.bool true, .int .i64 a0_1, .int .i64 a0_2, .int .i64 a0_3, .int .i64 a0_4, .int .i64 a0_5, .int .i64 a0_6, .int .i64 a0_7, .int .u8 a0_8, .int .i64 a0_9, .string a0_10, .int .i64 a0_11, .int .i64 a0_12, .int .i64 a0_13, .int .i64 a0_14, .int .i64 a0_15, .int .u8 a0_16, .int .i64 a0_17, .string a0_18] 29 (0, 0)) (by (with_reducible repeat (first | refine blk_drewN ?_ _ | refine blk_drew ?_ | refine blk_alloc ?_ _)); exact BK136.out) hb); have n1_ := Aside0.mk (below_step (by repeat (first | (with_reducible first | exact HB.out | apply below_alloc | apply pw_below_drewN | apply below_drew1 | refine below_set ?_ GE136.out) | exact HB.out)) hb); clear BK136; clear HB; have BK136 := n0_; have HB := n1_; clear n0_ n1_; (try clear hb); (try clear hb2); (try clear hk); (try clear hi); have hcz12_0 : w11.cell? ⟨gb136, 0, none⟩ = some (.bool true) := (blk_cell BK136.out 0).trans rfl; have hcz12_1 : w11.cell? ⟨gb136, 1, none⟩ = some (.int .i64 a0_1) := (blk_cell BK136.out 1).trans rfl; have hcz12_2 : w11.cell? ⟨gb136, 2, none⟩ = some (.int .i64 a0_2) := (blk_cell BK136.out 2).trans rfl; have hcz12_3 : w11.cell? ⟨gb136, 3, none⟩ = some (.int .i64 a0_3) := (blk_cell BK136.out 3).trans rfl; have hcz12_4 : w11.cell? ⟨gb136, 4, none⟩ = some (.int .i64 a0_4) := (blk_cell BK136.out 4).trans rfl; have hcz12_5 : w11.cell? ⟨gb136, 5, none⟩ = some (.int .i64 a0_5) := (blk_cell BK136.out 5).trans rfl; have hcz12_6 : w11.cell? ⟨gb136, 6, none⟩ = some (.int .i64 a0_6) := (blk_cell BK136.out 6).trans rfl; have hcz12_7 : w11.cell? ⟨gb136, 7, none⟩ = some (.int .i64 a0_7) := (blk_cell BK136.out 7).trans rfl; have hcz12_8 : w11.cell? ⟨gb136, 8, none⟩ = some (.int .u8 a0_8) := (blk_cell BK136.out 8).trans rfl; have hcz12_9 : w11.cell? ⟨gb136, 9, none⟩ = some (.int .i64 a0_9) := (blk_cell BK136.out 9).trans rfl; have hcz12_10 : w11.cell? ⟨gb136, 10, none⟩ = some (.string a0_10) := (blk_cell BK136.out 10).trans rfl; have hcz12_11 : w11.cell? ⟨gb136, 11, none⟩ = some (.int .i64 a0_11) := (blk_cell BK136.out 11).trans rfl; have hcz12_12 : w11.cell? ⟨gb136, 12, none⟩ = some (.int .i64 a0_12) := (blk_cell BK136.out 12).trans rfl; have hcz12_13 : w11.cell? ⟨gb136, 13, none⟩ = some (.int .i64 a0_13) := (blk_cell BK136.out 13).trans rfl; have hcz12_14 : w11.cell? ⟨gb136, 14, none⟩ = some (.int .i64 a0_14) := (blk_cell BK136.out 14).trans rfl; have hcz12_15 : w11.cell? ⟨gb136, 15, none⟩ = some (.int .i64 a0_15) := (blk_cell BK136.out 15).trans rfl; have hcz12_16 : w11.cell? ⟨gb136, 16, none⟩ = some (.int .u8 a0_16) := (blk_cell BK136.out 16).trans rfl; have hcz12_17 : w11.cell? ⟨gb136, 17, none⟩ = some (.int .i64 a0_17) := (blk_cell BK136.out 17).trans rfl; have hcz12_18 : w11.cell? ⟨gb136, 18, none⟩ = some (.string a0_18) := (blk_cell BK136.out 18).trans rfl; have hfz12_0 := blk_frozen BK136.out 0; have hfz12_1 := blk_frozen BK136.out 1; have hfz12_2 := blk_frozen BK136.out 2; have hfz12_3 := blk_frozen BK136.out 3; have hfz12_4 := blk_frozen BK136.out 4; have hfz12_5 := blk_frozen BK136.out 5; have hfz12_6 := blk_frozen BK136.out 6; have hfz12_7 := blk_frozen BK136.out 7; have hfz12_8 := blk_frozen BK136.out 8; have hfz12_9 := blk_frozen BK136.out 9; have hfz12_10 := blk_frozen BK136.out 10; have hfz12_11 := blk_frozen BK136.out 11; have hfz12_12 := blk_frozen BK136.out 12; have hfz12_13 := blk_frozen BK136.out 13; have hfz12_14 := blk_frozen BK136.out 14; have hfz12_15 := blk_frozen BK136.out 15; have hfz12_16 := blk_frozen BK136.out 16; have hfz12_17 := blk_frozen BK136.out 17; have hfz12_18 := blk_frozen BK136.out 18) | (go_at_call 32; (with_reducible refine (computusref11_right.calls k a0_11 a0_12 a0_13 a0_14 a0_15 a0_16 a0_17 a0_18 true _ A7.out).mono ?_); rintro e w13 ⟨rfl, hb⟩; have n0_ := Aside0.mk (blk_below (g := gb136) (o := .cells #[.bool true, .int .i64 a0_1, .int .i64 a0_2, .int .i64 a0_3, .int .i64 a0_4, .int .i64 a0_5, .int .i64 a0_6, .int .i64 a0_7, .int .u8 a0_8, .int .i64 a0_9, .string a0_10, .int .i64 a0_11, .int .i64 a0_12, .int .i64 a0_13, .int .i64 a0_14, .int .i64 a0_15, .int .u8 a0_16, .int .i64 a0_17, .string a0_18] 29 (0, 0)) (by (with_reducible repeat (first | refine blk_drewN ?_ _ | refine blk_drew ?_ | refine blk_alloc ?_ _)); exact BK136.out) hb); have n1_ := Aside0.mk (below_step (by repeat (first | (with_reducible first | exact HB.out | apply below_alloc | apply pw_below_drewN | apply below_drew1 | refine below_set ?_ GE136.out) | exact HB.out)) hb); clear BK136; clear HB; have BK136 := n0_; have HB := n1_; clear n0_ n1_; (try clear hb); (try clear hb2); (try clear hk); (try clear hi); have hcz14_0 : w13.cell? ⟨gb136, 0, none⟩ = some (.bool true) := (blk_cell BK136.out 0).trans rfl; have hcz14_1 : w13.cell? ⟨gb136, 1, none⟩ = some (.int .i64 a0_1) := (blk_cell BK136.out 1).trans rfl; have hcz14_2 : w13.cell? ⟨gb136, 2, none⟩ = some (.int .i64 a0_2) := (blk_cell BK136.out 2).trans rfl; have hcz14_3 : w13.cell? ⟨gb136, 3, none⟩ = some (.int .i64 a0_3) := (blk_cell BK136.out 3).trans rfl; have hcz14_4 : w13.cell? ⟨gb136, 4, none⟩ = some (.int .i64 a0_4) := (blk_cell BK136.out 4).trans rfl; have hcz14_5 : w13.cell? ⟨gb136, 5, none⟩ = some (.int .i64 a0_5) := (blk_cell BK136.out 5).trans rfl; have hcz14_6 : w13.cell? ⟨gb136, 6, none⟩ = some (.int .i64 a0_6) := (blk_cell BK136.out 6).trans rfl; have hcz14_7 : w13.cell? ⟨gb136, 7, none⟩ = some (.int .i64 a0_7) := (blk_cell BK136.out 7).trans rfl; have hcz14_8 : w13.cell? ⟨gb136, 8, none⟩ = some (.int .u8 a0_8) := (blk_cell BK136.out 8).trans rfl; have hcz14_9 : w13.cell? ⟨gb136, 9, none⟩ = some (.int .i64 a0_9) := (blk_cell BK136.out 9).trans rfl; have hcz14_10 : w13.cell? ⟨gb136, 10, none⟩ = some (.string a0_10) := (blk_cell BK136.out 10).trans rfl; have hcz14_11 : w13.cell? ⟨gb136, 11, none⟩ = some (.int .i64 a0_11) := (blk_cell BK136.out 11).trans rfl; have hcz14_12 : w13.cell? ⟨gb136, 12, none⟩ = some (.int .i64 a0_12) := (blk_cell BK136.out 12).trans rfl; have hcz14_13 : w13.cell? ⟨gb136, 13, none⟩ = some (.int .i64 a0_13) := (blk_cell BK136.out 13).trans rfl; have hcz14_14 : w13.cell? ⟨gb136, 14, none⟩ = some (.int .i64 a0_14) := (blk_cell BK136.out 14).trans rfl; have hcz14_15 : w13.cell? ⟨gb136, 15, none⟩ = some (.int .i64 a0_15) := (blk_cell BK136.out 15).trans rfl; have hcz14_16 : w13.cell? ⟨gb136, 16, none⟩ = some (.int .u8 a0_16) := (blk_cell BK136.out 16).trans rfl; have hcz14_17 : w13.cell? ⟨gb136, 17, none⟩ = some (.int .i64 a0_17) := (blk_cell BK136.out 17).trans rfl; have hcz14_18 : w13.cell? ⟨gb136, 18, none⟩ = some (.string a0_18) := (blk_cell BK136.out 18).trans rfl; have hfz14_0 := blk_frozen BK136.out 0; have hfz14_1 := blk_frozen BK136.out 1; have hfz14_2 := blk_frozen BK136.out 2; have hfz14_3 := blk_frozen BK136.out 3; have hfz14_4 := blk_frozen BK136.out 4; have hfz14_5 := blk_frozen BK136.out 5; have hfz14_6 := blk_frozen BK136.out 6; have hfz14_7 := blk_frozen BK136.out 7; have hfz14_8 := blk_frozen BK136.out 8; have hfz14_9 := blk_frozen BK136.out 9; have hfz14_10 := blk_frozen BK136.out 10; have hfz14_11 := blk_frozen BK136.out 11; have hfz14_12 := blk_frozen BK136.out 12; have hfz14_13 := blk_frozen BK136.out 13; have hfz14_14 := blk_frozen BK136.out 14; have hfz14_15 := blk_frozen BK136.out 15; have hfz14_16 := blk_frozen BK136.out 16; have hfz14_17 := blk_frozen BK136.out 17; have hfz14_18 := blk_frozen BK136.out 18))
            go_meet
            case rel => exact ⟨_, (true), (by first | rfl | (simp; done) | (simp [*]; done)), H', ⟨by first | omega | exact Nat.le_refl _⟩, ⟨by (with_reducible repeat (first | refine blk_drewN ?_ _ | refine blk_drew ?_ | refine blk_alloc ?_ _)); exact BK136.out⟩, ⟨by repeat (first | (with_reducible first | exact HB.out | apply below_alloc | apply pw_below_drewN | apply below_drew1 | refine below_set ?_ GE136.out) | exact HB.out)⟩⟩
          · rw [if_neg c9] at H
            have c9b0 : decide (a0_2 < (-50400)) = false := decide_eq_false c9
            clear c9
            (first | rw [c9b0] | (simp only [i64_w, i32_w]; rw [c9b0]) | skip)
            have H' := Aside0.mk H
            clear H
            have hcz15_0 : w3.cell? ⟨gb136, 0, none⟩ = some (.bool true) := (blk_cell BK136.out 0).trans rfl
            have hcz15_1 : w3.cell? ⟨gb136, 1, none⟩ = some (.int .i64 a0_1) := (blk_cell BK136.out 1).trans rfl
            have hcz15_2 : w3.cell? ⟨gb136, 2, none⟩ = some (.int .i64 a0_2) := (blk_cell BK136.out 2).trans rfl
            have hcz15_3 : w3.cell? ⟨gb136, 3, none⟩ = some (.int .i64 a0_3) := (blk_cell BK136.out 3).trans rfl
            have hcz15_4 : w3.cell? ⟨gb136, 4, none⟩ = some (.int .i64 a0_4) := (blk_cell BK136.out 4).trans rfl
            have hcz15_5 : w3.cell? ⟨gb136, 5, none⟩ = some (.int .i64 a0_5) := (blk_cell BK136.out 5).trans rfl
            have hcz15_6 : w3.cell? ⟨gb136, 6, none⟩ = some (.int .i64 a0_6) := (blk_cell BK136.out 6).trans rfl
            have hcz15_7 : w3.cell? ⟨gb136, 7, none⟩ = some (.int .i64 a0_7) := (blk_cell BK136.out 7).trans rfl
            have hcz15_8 : w3.cell? ⟨gb136, 8, none⟩ = some (.int .u8 a0_8) := (blk_cell BK136.out 8).trans rfl
            have hcz15_9 : w3.cell? ⟨gb136, 9, none⟩ = some (.int .i64 a0_9) := (blk_cell BK136.out 9).trans rfl
            have hcz15_10 : w3.cell? ⟨gb136, 10, none⟩ = some (.string a0_10) := (blk_cell BK136.out 10).trans rfl
            have hcz15_11 : w3.cell? ⟨gb136, 11, none⟩ = some (.int .i64 a0_11) := (blk_cell BK136.out 11).trans rfl
            have hcz15_12 : w3.cell? ⟨gb136, 12, none⟩ = some (.int .i64 a0_12) := (blk_cell BK136.out 12).trans rfl
            have hcz15_13 : w3.cell? ⟨gb136, 13, none⟩ = some (.int .i64 a0_13) := (blk_cell BK136.out 13).trans rfl
            have hcz15_14 : w3.cell? ⟨gb136, 14, none⟩ = some (.int .i64 a0_14) := (blk_cell BK136.out 14).trans rfl
            have hcz15_15 : w3.cell? ⟨gb136, 15, none⟩ = some (.int .i64 a0_15) := (blk_cell BK136.out 15).trans rfl
            have hcz15_16 : w3.cell? ⟨gb136, 16, none⟩ = some (.int .u8 a0_16) := (blk_cell BK136.out 16).trans rfl
            have hcz15_17 : w3.cell? ⟨gb136, 17, none⟩ = some (.int .i64 a0_17) := (blk_cell BK136.out 17).trans rfl
            have hcz15_18 : w3.cell? ⟨gb136, 18, none⟩ = some (.string a0_18) := (blk_cell BK136.out 18).trans rfl
            have hfz15_0 := blk_frozen BK136.out 0
            have hfz15_1 := blk_frozen BK136.out 1
            have hfz15_2 := blk_frozen BK136.out 2
            have hfz15_3 := blk_frozen BK136.out 3
            have hfz15_4 := blk_frozen BK136.out 4
            have hfz15_5 := blk_frozen BK136.out 5
            have hfz15_6 := blk_frozen BK136.out 6
            have hfz15_7 := blk_frozen BK136.out 7
            have hfz15_8 := blk_frozen BK136.out 8
            have hfz15_9 := blk_frozen BK136.out 9
            have hfz15_10 := blk_frozen BK136.out 10
            have hfz15_11 := blk_frozen BK136.out 11
            have hfz15_12 := blk_frozen BK136.out 12
            have hfz15_13 := blk_frozen BK136.out 13
            have hfz15_14 := blk_frozen BK136.out 14
            have hfz15_15 := blk_frozen BK136.out 15
            have hfz15_16 := blk_frozen BK136.out 16
            have hfz15_17 := blk_frozen BK136.out 17
            have hfz15_18 := blk_frozen BK136.out 18
            go_wp2_with (first | (go_at_call 32; (with_reducible refine (computusref11_right.calls k a0_3 a0_4 a0_5 a0_6 a0_7 a0_8 a0_9 a0_10 true _ A5.out).mono ?_); rintro e w16 ⟨rfl, hb⟩; have n0_ := Aside0.mk (blk_below (g := gb136) (o := .cells #[.bool true, .int .i64 a0_1, .int .i64 a0_2, .int .i64 a0_3, .int .i64 a0_4, .int .i64 a0_5, .int .i64 a0_6, .int .i64 a0_7, .int .u8 a0_8, .int .i64 a0_9, .string a0_10, .int .i64 a0_11, .int .i64 a0_12, .int .i64 a0_13, .int .i64 a0_14, .int .i64 a0_15, .int .u8 a0_16, .int .i64 a0_17, .string a0_18] 29 (0, 0)) (by (with_reducible repeat (first | refine blk_drewN ?_ _ | refine blk_drew ?_ | refine blk_alloc ?_ _)); exact BK136.out) hb); have n1_ := Aside0.mk (below_step (by repeat (first | (with_reducible first | exact HB.out | apply below_alloc | apply pw_below_drewN | apply below_drew1 | refine below_set ?_ GE136.out) | exact HB.out)) hb); clear BK136; clear HB; have BK136 := n0_; have HB := n1_; clear n0_ n1_; (try clear hb); (try clear hb2); (try clear hk); (try clear hi); have hcz17_0 : w16.cell? ⟨gb136, 0, none⟩ = some (.bool true) := (blk_cell BK136.out 0).trans rfl; have hcz17_1 : w16.cell? ⟨gb136, 1, none⟩ = some (.int .i64 a0_1) := (blk_cell BK136.out 1).trans rfl; have hcz17_2 : w16.cell? ⟨gb136, 2, none⟩ = some (.int .i64 a0_2) := (blk_cell BK136.out 2).trans rfl; have hcz17_3 : w16.cell? ⟨gb136, 3, none⟩ = some (.int .i64 a0_3) := (blk_cell BK136.out 3).trans rfl; have hcz17_4 : w16.cell? ⟨gb136, 4, none⟩ = some (.int .i64 a0_4) := (blk_cell BK136.out 4).trans rfl; have hcz17_5 : w16.cell? ⟨gb136, 5, none⟩ = some (.int .i64 a0_5) := (blk_cell BK136.out 5).trans rfl; have hcz17_6 : w16.cell? ⟨gb136, 6, none⟩ = some (.int .i64 a0_6) := (blk_cell BK136.out 6).trans rfl; have hcz17_7 : w16.cell? ⟨gb136, 7, none⟩ = some (.int .i64 a0_7) := (blk_cell BK136.out 7).trans rfl; have hcz17_8 : w16.cell? ⟨gb136, 8, none⟩ = some (.int .u8 a0_8) := (blk_cell BK136.out 8).trans rfl; have hcz17_9 : w16.cell? ⟨gb136, 9, none⟩ = some (.int .i64 a0_9) := (blk_cell BK136.out 9).trans rfl; have hcz17_10 : w16.cell? ⟨gb136, 10, none⟩ = some (.string a0_10) := (blk_cell BK136.out 10).trans rfl; have hcz17_11 : w16.cell? ⟨gb136, 11, none⟩ = some (.int .i64 a0_11) := (blk_cell BK136.out 11).trans rfl; have hcz17_12 : w16.cell? ⟨gb136, 12, none⟩ = some (.int .i64 a0_12) := (blk_cell BK136.out 12).trans rfl; have hcz17_13 : w16.cell? ⟨gb136, 13, none⟩ = some (.int .i64 a0_13) := (blk_cell BK136.out 13).trans rfl; have hcz17_14 : w16.cell? ⟨gb136, 14, none⟩ = some (.int .i64 a0_14) := (blk_cell BK136.out 14).trans rfl; have hcz17_15 : w16.cell? ⟨gb136, 15, none⟩ = some (.int .i64 a0_15) := (blk_cell BK136.out 15).trans rfl; have hcz17_16 : w16.cell? ⟨gb136, 16, none⟩ = some (.int .u8 a0_16) := (blk_cell BK136.out 16).trans rfl; have hcz17_17 : w16.cell? ⟨gb136, 17, none⟩ = some (.int .i64 a0_17) := (blk_cell BK136.out 17).trans rfl; have hcz17_18 : w16.cell? ⟨gb136, 18, none⟩ = some (.string a0_18) := (blk_cell BK136.out 18).trans rfl; have hfz17_0 := blk_frozen BK136.out 0; have hfz17_1 := blk_frozen BK136.out 1; have hfz17_2 := blk_frozen BK136.out 2; have hfz17_3 := blk_frozen BK136.out 3; have hfz17_4 := blk_frozen BK136.out 4; have hfz17_5 := blk_frozen BK136.out 5; have hfz17_6 := blk_frozen BK136.out 6; have hfz17_7 := blk_frozen BK136.out 7; have hfz17_8 := blk_frozen BK136.out 8; have hfz17_9 := blk_frozen BK136.out 9; have hfz17_10 := blk_frozen BK136.out 10; have hfz17_11 := blk_frozen BK136.out 11; have hfz17_12 := blk_frozen BK136.out 12; have hfz17_13 := blk_frozen BK136.out 13; have hfz17_14 := blk_frozen BK136.out 14; have hfz17_15 := blk_frozen BK136.out 15; have hfz17_16 := blk_frozen BK136.out 16; have hfz17_17 := blk_frozen BK136.out 17; have hfz17_18 := blk_frozen BK136.out 18) | (go_at_call 32; (with_reducible refine (computusref11_right.calls k a0_11 a0_12 a0_13 a0_14 a0_15 a0_16 a0_17 a0_18 true _ A7.out).mono ?_); rintro e w18 ⟨rfl, hb⟩; have n0_ := Aside0.mk (blk_below (g := gb136) (o := .cells #[.bool true, .int .i64 a0_1, .int .i64 a0_2, .int .i64 a0_3, .int .i64 a0_4, .int .i64 a0_5, .int .i64 a0_6, .int .i64 a0_7, .int .u8 a0_8, .int .i64 a0_9, .string a0_10, .int .i64 a0_11, .int .i64 a0_12, .int .i64 a0_13, .int .i64 a0_14, .int .i64 a0_15, .int .u8 a0_16, .int .i64 a0_17, .string a0_18] 29 (0, 0)) (by (with_reducible repeat (first | refine blk_drewN ?_ _ | refine blk_drew ?_ | refine blk_alloc ?_ _)); exact BK136.out) hb); have n1_ := Aside0.mk (below_step (by repeat (first | (with_reducible first | exact HB.out | apply below_alloc | apply pw_below_drewN | apply below_drew1 | refine below_set ?_ GE136.out) | exact HB.out)) hb); clear BK136; clear HB; have BK136 := n0_; have HB := n1_; clear n0_ n1_; (try clear hb); (try clear hb2); (try clear hk); (try clear hi); have hcz19_0 : w18.cell? ⟨gb136, 0, none⟩ = some (.bool true) := (blk_cell BK136.out 0).trans rfl; have hcz19_1 : w18.cell? ⟨gb136, 1, none⟩ = some (.int .i64 a0_1) := (blk_cell BK136.out 1).trans rfl; have hcz19_2 : w18.cell? ⟨gb136, 2, none⟩ = some (.int .i64 a0_2) := (blk_cell BK136.out 2).trans rfl; have hcz19_3 : w18.cell? ⟨gb136, 3, none⟩ = some (.int .i64 a0_3) := (blk_cell BK136.out 3).trans rfl; have hcz19_4 : w18.cell? ⟨gb136, 4, none⟩ = some (.int .i64 a0_4) := (blk_cell BK136.out 4).trans rfl; have hcz19_5 : w18.cell? ⟨gb136, 5, none⟩ = some (.int .i64 a0_5) := (blk_cell BK136.out 5).trans rfl; have hcz19_6 : w18.cell? ⟨gb136, 6, none⟩ = some (.int .i64 a0_6) := (blk_cell BK136.out 6).trans rfl; have hcz19_7 : w18.cell? ⟨gb136, 7, none⟩ = some (.int .i64 a0_7) := (blk_cell BK136.out 7).trans rfl; have hcz19_8 : w18.cell? ⟨gb136, 8, none⟩ = some (.int .u8 a0_8) := (blk_cell BK136.out 8).trans rfl; have hcz19_9 : w18.cell? ⟨gb136, 9, none⟩ = some (.int .i64 a0_9) := (blk_cell BK136.out 9).trans rfl; have hcz19_10 : w18.cell? ⟨gb136, 10, none⟩ = some (.string a0_10) := (blk_cell BK136.out 10).trans rfl; have hcz19_11 : w18.cell? ⟨gb136, 11, none⟩ = some (.int .i64 a0_11) := (blk_cell BK136.out 11).trans rfl; have hcz19_12 : w18.cell? ⟨gb136, 12, none⟩ = some (.int .i64 a0_12) := (blk_cell BK136.out 12).trans rfl; have hcz19_13 : w18.cell? ⟨gb136, 13, none⟩ = some (.int .i64 a0_13) := (blk_cell BK136.out 13).trans rfl; have hcz19_14 : w18.cell? ⟨gb136, 14, none⟩ = some (.int .i64 a0_14) := (blk_cell BK136.out 14).trans rfl; have hcz19_15 : w18.cell? ⟨gb136, 15, none⟩ = some (.int .i64 a0_15) := (blk_cell BK136.out 15).trans rfl; have hcz19_16 : w18.cell? ⟨gb136, 16, none⟩ = some (.int .u8 a0_16) := (blk_cell BK136.out 16).trans rfl; have hcz19_17 : w18.cell? ⟨gb136, 17, none⟩ = some (.int .i64 a0_17) := (blk_cell BK136.out 17).trans rfl; have hcz19_18 : w18.cell? ⟨gb136, 18, none⟩ = some (.string a0_18) := (blk_cell BK136.out 18).trans rfl; have hfz19_0 := blk_frozen BK136.out 0; have hfz19_1 := blk_frozen BK136.out 1; have hfz19_2 := blk_frozen BK136.out 2; have hfz19_3 := blk_frozen BK136.out 3; have hfz19_4 := blk_frozen BK136.out 4; have hfz19_5 := blk_frozen BK136.out 5; have hfz19_6 := blk_frozen BK136.out 6; have hfz19_7 := blk_frozen BK136.out 7; have hfz19_8 := blk_frozen BK136.out 8; have hfz19_9 := blk_frozen BK136.out 9; have hfz19_10 := blk_frozen BK136.out 10; have hfz19_11 := blk_frozen BK136.out 11; have hfz19_12 := blk_frozen BK136.out 12; have hfz19_13 := blk_frozen BK136.out 13; have hfz19_14 := blk_frozen BK136.out 14; have hfz19_15 := blk_frozen BK136.out 15; have hfz19_16 := blk_frozen BK136.out 16; have hfz19_17 := blk_frozen BK136.out 17; have hfz19_18 := blk_frozen BK136.out 18))
            go_meet
            case rel => exact ⟨_, (decide (a0_2 > 50400)), (by first | rfl | (simp; done) | (simp [*]; done)), H', ⟨by first | omega | exact Nat.le_refl _⟩, ⟨by (with_reducible repeat (first | refine blk_drewN ?_ _ | refine blk_drew ?_ | refine blk_alloc ?_ _)); exact BK136.out⟩, ⟨by repeat (first | (with_reducible first | exact HB.out | apply below_alloc | apply pw_below_drewN | apply below_drew1 | refine below_set ?_ GE136.out) | exact HB.out)⟩⟩
        · replace c8 := Bool.eq_false_iff.mpr c8
          subst c8
          have H1 : (computusref11_Right.j0 k true true a0_1 a0_2 a0_3 a0_4 a0_5 a0_6 a0_7 a0_8 a0_9 a0_10 a0_11 a0_12 a0_13 a0_14 a0_15 a0_16 a0_17 a0_18) = some r := by rw [if_neg (show ¬ (false = true) by decide)] at H; exact H
          clear H
          have H := H1
          clear H1
          have H' := Aside0.mk H
          clear H
          have hcz20_0 : w3.cell? ⟨gb136, 0, none⟩ = some (.bool true) := (blk_cell BK136.out 0).trans rfl
          have hcz20_1 : w3.cell? ⟨gb136, 1, none⟩ = some (.int .i64 a0_1) := (blk_cell BK136.out 1).trans rfl
          have hcz20_2 : w3.cell? ⟨gb136, 2, none⟩ = some (.int .i64 a0_2) := (blk_cell BK136.out 2).trans rfl
          have hcz20_3 : w3.cell? ⟨gb136, 3, none⟩ = some (.int .i64 a0_3) := (blk_cell BK136.out 3).trans rfl
          have hcz20_4 : w3.cell? ⟨gb136, 4, none⟩ = some (.int .i64 a0_4) := (blk_cell BK136.out 4).trans rfl
          have hcz20_5 : w3.cell? ⟨gb136, 5, none⟩ = some (.int .i64 a0_5) := (blk_cell BK136.out 5).trans rfl
          have hcz20_6 : w3.cell? ⟨gb136, 6, none⟩ = some (.int .i64 a0_6) := (blk_cell BK136.out 6).trans rfl
          have hcz20_7 : w3.cell? ⟨gb136, 7, none⟩ = some (.int .i64 a0_7) := (blk_cell BK136.out 7).trans rfl
          have hcz20_8 : w3.cell? ⟨gb136, 8, none⟩ = some (.int .u8 a0_8) := (blk_cell BK136.out 8).trans rfl
          have hcz20_9 : w3.cell? ⟨gb136, 9, none⟩ = some (.int .i64 a0_9) := (blk_cell BK136.out 9).trans rfl
          have hcz20_10 : w3.cell? ⟨gb136, 10, none⟩ = some (.string a0_10) := (blk_cell BK136.out 10).trans rfl
          have hcz20_11 : w3.cell? ⟨gb136, 11, none⟩ = some (.int .i64 a0_11) := (blk_cell BK136.out 11).trans rfl
          have hcz20_12 : w3.cell? ⟨gb136, 12, none⟩ = some (.int .i64 a0_12) := (blk_cell BK136.out 12).trans rfl
          have hcz20_13 : w3.cell? ⟨gb136, 13, none⟩ = some (.int .i64 a0_13) := (blk_cell BK136.out 13).trans rfl
          have hcz20_14 : w3.cell? ⟨gb136, 14, none⟩ = some (.int .i64 a0_14) := (blk_cell BK136.out 14).trans rfl
          have hcz20_15 : w3.cell? ⟨gb136, 15, none⟩ = some (.int .i64 a0_15) := (blk_cell BK136.out 15).trans rfl
          have hcz20_16 : w3.cell? ⟨gb136, 16, none⟩ = some (.int .u8 a0_16) := (blk_cell BK136.out 16).trans rfl
          have hcz20_17 : w3.cell? ⟨gb136, 17, none⟩ = some (.int .i64 a0_17) := (blk_cell BK136.out 17).trans rfl
          have hcz20_18 : w3.cell? ⟨gb136, 18, none⟩ = some (.string a0_18) := (blk_cell BK136.out 18).trans rfl
          have hfz20_0 := blk_frozen BK136.out 0
          have hfz20_1 := blk_frozen BK136.out 1
          have hfz20_2 := blk_frozen BK136.out 2
          have hfz20_3 := blk_frozen BK136.out 3
          have hfz20_4 := blk_frozen BK136.out 4
          have hfz20_5 := blk_frozen BK136.out 5
          have hfz20_6 := blk_frozen BK136.out 6
          have hfz20_7 := blk_frozen BK136.out 7
          have hfz20_8 := blk_frozen BK136.out 8
          have hfz20_9 := blk_frozen BK136.out 9
          have hfz20_10 := blk_frozen BK136.out 10
          have hfz20_11 := blk_frozen BK136.out 11
          have hfz20_12 := blk_frozen BK136.out 12
          have hfz20_13 := blk_frozen BK136.out 13
          have hfz20_14 := blk_frozen BK136.out 14
          have hfz20_15 := blk_frozen BK136.out 15
          have hfz20_16 := blk_frozen BK136.out 16
          have hfz20_17 := blk_frozen BK136.out 17
          have hfz20_18 := blk_frozen BK136.out 18
          go_wp2_with (first | (go_at_call 32; (with_reducible refine (computusref11_right.calls k a0_3 a0_4 a0_5 a0_6 a0_7 a0_8 a0_9 a0_10 true _ A5.out).mono ?_); rintro e w21 ⟨rfl, hb⟩; have n0_ := Aside0.mk (blk_below (g := gb136) (o := .cells #[.bool true, .int .i64 a0_1, .int .i64 a0_2, .int .i64 a0_3, .int .i64 a0_4, .int .i64 a0_5, .int .i64 a0_6, .int .i64 a0_7, .int .u8 a0_8, .int .i64 a0_9, .string a0_10, .int .i64 a0_11, .int .i64 a0_12, .int .i64 a0_13, .int .i64 a0_14, .int .i64 a0_15, .int .u8 a0_16, .int .i64 a0_17, .string a0_18] 29 (0, 0)) (by (with_reducible repeat (first | refine blk_drewN ?_ _ | refine blk_drew ?_ | refine blk_alloc ?_ _)); exact BK136.out) hb); have n1_ := Aside0.mk (below_step (by repeat (first | (with_reducible first | exact HB.out | apply below_alloc | apply pw_below_drewN | apply below_drew1 | refine below_set ?_ GE136.out) | exact HB.out)) hb); clear BK136; clear HB; have BK136 := n0_; have HB := n1_; clear n0_ n1_; (try clear hb); (try clear hb2); (try clear hk); (try clear hi); have hcz22_0 : w21.cell? ⟨gb136, 0, none⟩ = some (.bool true) := (blk_cell BK136.out 0).trans rfl; have hcz22_1 : w21.cell? ⟨gb136, 1, none⟩ = some (.int .i64 a0_1) := (blk_cell BK136.out 1).trans rfl; have hcz22_2 : w21.cell? ⟨gb136, 2, none⟩ = some (.int .i64 a0_2) := (blk_cell BK136.out 2).trans rfl; have hcz22_3 : w21.cell? ⟨gb136, 3, none⟩ = some (.int .i64 a0_3) := (blk_cell BK136.out 3).trans rfl; have hcz22_4 : w21.cell? ⟨gb136, 4, none⟩ = some (.int .i64 a0_4) := (blk_cell BK136.out 4).trans rfl; have hcz22_5 : w21.cell? ⟨gb136, 5, none⟩ = some (.int .i64 a0_5) := (blk_cell BK136.out 5).trans rfl; have hcz22_6 : w21.cell? ⟨gb136, 6, none⟩ = some (.int .i64 a0_6) := (blk_cell BK136.out 6).trans rfl; have hcz22_7 : w21.cell? ⟨gb136, 7, none⟩ = some (.int .i64 a0_7) := (blk_cell BK136.out 7).trans rfl; have hcz22_8 : w21.cell? ⟨gb136, 8, none⟩ = some (.int .u8 a0_8) := (blk_cell BK136.out 8).trans rfl; have hcz22_9 : w21.cell? ⟨gb136, 9, none⟩ = some (.int .i64 a0_9) := (blk_cell BK136.out 9).trans rfl; have hcz22_10 : w21.cell? ⟨gb136, 10, none⟩ = some (.string a0_10) := (blk_cell BK136.out 10).trans rfl; have hcz22_11 : w21.cell? ⟨gb136, 11, none⟩ = some (.int .i64 a0_11) := (blk_cell BK136.out 11).trans rfl; have hcz22_12 : w21.cell? ⟨gb136, 12, none⟩ = some (.int .i64 a0_12) := (blk_cell BK136.out 12).trans rfl; have hcz22_13 : w21.cell? ⟨gb136, 13, none⟩ = some (.int .i64 a0_13) := (blk_cell BK136.out 13).trans rfl; have hcz22_14 : w21.cell? ⟨gb136, 14, none⟩ = some (.int .i64 a0_14) := (blk_cell BK136.out 14).trans rfl; have hcz22_15 : w21.cell? ⟨gb136, 15, none⟩ = some (.int .i64 a0_15) := (blk_cell BK136.out 15).trans rfl; have hcz22_16 : w21.cell? ⟨gb136, 16, none⟩ = some (.int .u8 a0_16) := (blk_cell BK136.out 16).trans rfl; have hcz22_17 : w21.cell? ⟨gb136, 17, none⟩ = some (.int .i64 a0_17) := (blk_cell BK136.out 17).trans rfl; have hcz22_18 : w21.cell? ⟨gb136, 18, none⟩ = some (.string a0_18) := (blk_cell BK136.out 18).trans rfl; have hfz22_0 := blk_frozen BK136.out 0; have hfz22_1 := blk_frozen BK136.out 1; have hfz22_2 := blk_frozen BK136.out 2; have hfz22_3 := blk_frozen BK136.out 3; have hfz22_4 := blk_frozen BK136.out 4; have hfz22_5 := blk_frozen BK136.out 5; have hfz22_6 := blk_frozen BK136.out 6; have hfz22_7 := blk_frozen BK136.out 7; have hfz22_8 := blk_frozen BK136.out 8; have hfz22_9 := blk_frozen BK136.out 9; have hfz22_10 := blk_frozen BK136.out 10; have hfz22_11 := blk_frozen BK136.out 11; have hfz22_12 := blk_frozen BK136.out 12; have hfz22_13 := blk_frozen BK136.out 13; have hfz22_14 := blk_frozen BK136.out 14; have hfz22_15 := blk_frozen BK136.out 15; have hfz22_16 := blk_frozen BK136.out 16; have hfz22_17 := blk_frozen BK136.out 17; have hfz22_18 := blk_frozen BK136.out 18) | (go_at_call 32; (with_reducible refine (computusref11_right.calls k a0_11 a0_12 a0_13 a0_14 a0_15 a0_16 a0_17 a0_18 false _ A7.out).mono ?_); rintro e w23 ⟨rfl, hb⟩; have n0_ := Aside0.mk (blk_below (g := gb136) (o := .cells #[.bool true, .int .i64 a0_1, .int .i64 a0_2, .int .i64 a0_3, .int .i64 a0_4, .int .i64 a0_5, .int .i64 a0_6, .int .i64 a0_7, .int .u8 a0_8, .int .i64 a0_9, .string a0_10, .int .i64 a0_11, .int .i64 a0_12, .int .i64 a0_13, .int .i64 a0_14, .int .i64 a0_15, .int .u8 a0_16, .int .i64 a0_17, .string a0_18] 29 (0, 0)) (by (with_reducible repeat (first | refine blk_drewN ?_ _ | refine blk_drew ?_ | refine blk_alloc ?_ _)); exact BK136.out) hb); have n1_ := Aside0.mk (below_step (by repeat (first | (with_reducible first | exact HB.out | apply below_alloc | apply pw_below_drewN | apply below_drew1 | refine below_set ?_ GE136.out) | exact HB.out)) hb); clear BK136; clear HB; have BK136 := n0_; have HB := n1_; clear n0_ n1_; (try clear hb); (try clear hb2); (try clear hk); (try clear hi)))
          go_meet
          case rel => exact ⟨_, (true), (by first | rfl | (simp; done) | (simp [*]; done)), H', ⟨by first | omega | exact Nat.le_refl _⟩, ⟨by (with_reducible repeat (first | refine blk_drewN ?_ _ | refine blk_drew ?_ | refine blk_alloc ?_ _)); exact BK136.out⟩, ⟨by repeat (first | (with_reducible first | exact HB.out | apply below_alloc | apply pw_below_drewN | apply below_drew1 | refine below_set ?_ GE136.out) | exact HB.out)⟩⟩
      · replace c6 := Bool.eq_false_iff.mpr c6
        subst c6
        have H1 : (computusref11_Right.j0 k true true a0_1 a0_2 a0_3 a0_4 a0_5 a0_6 a0_7 a0_8 a0_9 a0_10 a0_11 a0_12 a0_13 a0_14 a0_15 a0_16 a0_17 a0_18) = some r := by rw [if_neg (show ¬ (false = true) by decide)] at H; exact H
        clear H
        have H := H1
        clear H1
        have H' := Aside0.mk H
        clear H
        have hcz24_0 : w3.cell? ⟨gb136, 0, none⟩ = some (.bool true) := (blk_cell BK136.out 0).trans rfl
        have hcz24_1 : w3.cell? ⟨gb136, 1, none⟩ = some (.int .i64 a0_1) := (blk_cell BK136.out 1).trans rfl
        have hcz24_2 : w3.cell? ⟨gb136, 2, none⟩ = some (.int .i64 a0_2) := (blk_cell BK136.out 2).trans rfl
        have hcz24_3 : w3.cell? ⟨gb136, 3, none⟩ = some (.int .i64 a0_3) := (blk_cell BK136.out 3).trans rfl
        have hcz24_4 : w3.cell? ⟨gb136, 4, none⟩ = some (.int .i64 a0_4) := (blk_cell BK136.out 4).trans rfl
        have hcz24_5 : w3.cell? ⟨gb136, 5, none⟩ = some (.int .i64 a0_5) := (blk_cell BK136.out 5).trans rfl
        have hcz24_6 : w3.cell? ⟨gb136, 6, none⟩ = some (.int .i64 a0_6) := (blk_cell BK136.out 6).trans rfl
        have hcz24_7 : w3.cell? ⟨gb136, 7, none⟩ = some (.int .i64 a0_7) := (blk_cell BK136.out 7).trans rfl
        have hcz24_8 : w3.cell? ⟨gb136, 8, none⟩ = some (.int .u8 a0_8) := (blk_cell BK136.out 8).trans rfl
        have hcz24_9 : w3.cell? ⟨gb136, 9, none⟩ = some (.int .i64 a0_9) := (blk_cell BK136.out 9).trans rfl
        have hcz24_10 : w3.cell? ⟨gb136, 10, none⟩ = some (.string a0_10) := (blk_cell BK136.out 10).trans rfl
        have hcz24_11 : w3.cell? ⟨gb136, 11, none⟩ = some (.int .i64 a0_11) := (blk_cell BK136.out 11).trans rfl
        have hcz24_12 : w3.cell? ⟨gb136, 12, none⟩ = some (.int .i64 a0_12) := (blk_cell BK136.out 12).trans rfl
        have hcz24_13 : w3.cell? ⟨gb136, 13, none⟩ = some (.int .i64 a0_13) := (blk_cell BK136.out 13).trans rfl
        have hcz24_14 : w3.cell? ⟨gb136, 14, none⟩ = some (.int .i64 a0_14) := (blk_cell BK136.out 14).trans rfl
        have hcz24_15 : w3.cell? ⟨gb136, 15, none⟩ = some (.int .i64 a0_15) := (blk_cell BK136.out 15).trans rfl
        have hcz24_16 : w3.cell? ⟨gb136, 16, none⟩ = some (.int .u8 a0_16) := (blk_cell BK136.out 16).trans rfl
        have hcz24_17 : w3.cell? ⟨gb136, 17, none⟩ = some (.int .i64 a0_17) := (blk_cell BK136.out 17).trans rfl
        have hcz24_18 : w3.cell? ⟨gb136, 18, none⟩ = some (.string a0_18) := (blk_cell BK136.out 18).trans rfl
        have hfz24_0 := blk_frozen BK136.out 0
        have hfz24_1 := blk_frozen BK136.out 1
        have hfz24_2 := blk_frozen BK136.out 2
        have hfz24_3 := blk_frozen BK136.out 3
        have hfz24_4 := blk_frozen BK136.out 4
        have hfz24_5 := blk_frozen BK136.out 5
        have hfz24_6 := blk_frozen BK136.out 6
        have hfz24_7 := blk_frozen BK136.out 7
        have hfz24_8 := blk_frozen BK136.out 8
        have hfz24_9 := blk_frozen BK136.out 9
        have hfz24_10 := blk_frozen BK136.out 10
        have hfz24_11 := blk_frozen BK136.out 11
        have hfz24_12 := blk_frozen BK136.out 12
        have hfz24_13 := blk_frozen BK136.out 13
        have hfz24_14 := blk_frozen BK136.out 14
        have hfz24_15 := blk_frozen BK136.out 15
        have hfz24_16 := blk_frozen BK136.out 16
        have hfz24_17 := blk_frozen BK136.out 17
        have hfz24_18 := blk_frozen BK136.out 18
        go_wp2_with (first | (go_at_call 32; (with_reducible refine (computusref11_right.calls k a0_3 a0_4 a0_5 a0_6 a0_7 a0_8 a0_9 a0_10 false _ A5.out).mono ?_); rintro e w25 ⟨rfl, hb⟩; have n0_ := Aside0.mk (blk_below (g := gb136) (o := .cells #[.bool true, .int .i64 a0_1, .int .i64 a0_2, .int .i64 a0_3, .int .i64 a0_4, .int .i64 a0_5, .int .i64 a0_6, .int .i64 a0_7, .int .u8 a0_8, .int .i64 a0_9, .string a0_10, .int .i64 a0_11, .int .i64 a0_12, .int .i64 a0_13, .int .i64 a0_14, .int .i64 a0_15, .int .u8 a0_16, .int .i64 a0_17, .string a0_18] 29 (0, 0)) (by (with_reducible repeat (first | refine blk_drewN ?_ _ | refine blk_drew ?_ | refine blk_alloc ?_ _)); exact BK136.out) hb); have n1_ := Aside0.mk (below_step (by repeat (first | (with_reducible first | exact HB.out | apply below_alloc | apply pw_below_drewN | apply below_drew1 | refine below_set ?_ GE136.out) | exact HB.out)) hb); clear BK136; clear HB; have BK136 := n0_; have HB := n1_; clear n0_ n1_; (try clear hb); (try clear hb2); (try clear hk); (try clear hi)))
        go_meet
        case rel => exact ⟨_, (true), (by first | rfl | (simp; done) | (simp [*]; done)), H', ⟨by first | omega | exact Nat.le_refl _⟩, ⟨by (with_reducible repeat (first | refine blk_drewN ?_ _ | refine blk_drew ?_ | refine blk_alloc ?_ _)); exact BK136.out⟩, ⟨by repeat (first | (with_reducible first | exact HB.out | apply below_alloc | apply pw_below_drewN | apply below_drew1 | refine below_set ?_ GE136.out) | exact HB.out)⟩⟩
    · replace c4 := Bool.eq_false_iff.mpr c4
      subst c4
      have H1 : (computusref11_Right.j0 k true false a0_1 a0_2 a0_3 a0_4 a0_5 a0_6 a0_7 a0_8 a0_9 a0_10 a0_11 a0_12 a0_13 a0_14 a0_15 a0_16 a0_17 a0_18) = some r := by rw [if_neg (show ¬ (false = true) by decide)] at H; exact H
      clear H
      have H := H1
      clear H1
      have H' := Aside0.mk H
      clear H
      have hcz26_0 : w3.cell? ⟨gb136, 0, none⟩ = some (.bool false) := (blk_cell BK136.out 0).trans rfl
      have hcz26_1 : w3.cell? ⟨gb136, 1, none⟩ = some (.int .i64 a0_1) := (blk_cell BK136.out 1).trans rfl
      have hcz26_2 : w3.cell? ⟨gb136, 2, none⟩ = some (.int .i64 a0_2) := (blk_cell BK136.out 2).trans rfl
      have hcz26_3 : w3.cell? ⟨gb136, 3, none⟩ = some (.int .i64 a0_3) := (blk_cell BK136.out 3).trans rfl
      have hcz26_4 : w3.cell? ⟨gb136, 4, none⟩ = some (.int .i64 a0_4) := (blk_cell BK136.out 4).trans rfl
      have hcz26_5 : w3.cell? ⟨gb136, 5, none⟩ = some (.int .i64 a0_5) := (blk_cell BK136.out 5).trans rfl
      have hcz26_6 : w3.cell? ⟨gb136, 6, none⟩ = some (.int .i64 a0_6) := (blk_cell BK136.out 6).trans rfl
      have hcz26_7 : w3.cell? ⟨gb136, 7, none⟩ = some (.int .i64 a0_7) := (blk_cell BK136.out 7).trans rfl
      have hcz26_8 : w3.cell? ⟨gb136, 8, none⟩ = some (.int .u8 a0_8) := (blk_cell BK136.out 8).trans rfl
      have hcz26_9 : w3.cell? ⟨gb136, 9, none⟩ = some (.int .i64 a0_9) := (blk_cell BK136.out 9).trans rfl
      have hcz26_10 : w3.cell? ⟨gb136, 10, none⟩ = some (.string a0_10) := (blk_cell BK136.out 10).trans rfl
      have hcz26_11 : w3.cell? ⟨gb136, 11, none⟩ = some (.int .i64 a0_11) := (blk_cell BK136.out 11).trans rfl
      have hcz26_12 : w3.cell? ⟨gb136, 12, none⟩ = some (.int .i64 a0_12) := (blk_cell BK136.out 12).trans rfl
      have hcz26_13 : w3.cell? ⟨gb136, 13, none⟩ = some (.int .i64 a0_13) := (blk_cell BK136.out 13).trans rfl
      have hcz26_14 : w3.cell? ⟨gb136, 14, none⟩ = some (.int .i64 a0_14) := (blk_cell BK136.out 14).trans rfl
      have hcz26_15 : w3.cell? ⟨gb136, 15, none⟩ = some (.int .i64 a0_15) := (blk_cell BK136.out 15).trans rfl
      have hcz26_16 : w3.cell? ⟨gb136, 16, none⟩ = some (.int .u8 a0_16) := (blk_cell BK136.out 16).trans rfl
      have hcz26_17 : w3.cell? ⟨gb136, 17, none⟩ = some (.int .i64 a0_17) := (blk_cell BK136.out 17).trans rfl
      have hcz26_18 : w3.cell? ⟨gb136, 18, none⟩ = some (.string a0_18) := (blk_cell BK136.out 18).trans rfl
      have hfz26_0 := blk_frozen BK136.out 0
      have hfz26_1 := blk_frozen BK136.out 1
      have hfz26_2 := blk_frozen BK136.out 2
      have hfz26_3 := blk_frozen BK136.out 3
      have hfz26_4 := blk_frozen BK136.out 4
      have hfz26_5 := blk_frozen BK136.out 5
      have hfz26_6 := blk_frozen BK136.out 6
      have hfz26_7 := blk_frozen BK136.out 7
      have hfz26_8 := blk_frozen BK136.out 8
      have hfz26_9 := blk_frozen BK136.out 9
      have hfz26_10 := blk_frozen BK136.out 10
      have hfz26_11 := blk_frozen BK136.out 11
      have hfz26_12 := blk_frozen BK136.out 12
      have hfz26_13 := blk_frozen BK136.out 13
      have hfz26_14 := blk_frozen BK136.out 14
      have hfz26_15 := blk_frozen BK136.out 15
      have hfz26_16 := blk_frozen BK136.out 16
      have hfz26_17 := blk_frozen BK136.out 17
      have hfz26_18 := blk_frozen BK136.out 18
      go_wp2
      go_meet
      case rel => exact ⟨_, (true), (by first | rfl | (simp; done) | (simp [*]; done)), H', ⟨by first | omega | exact Nat.le_refl _⟩, ⟨by (with_reducible repeat (first | refine blk_drewN ?_ _ | refine blk_drew ?_ | refine blk_alloc ?_ _)); exact BK136.out⟩, ⟨by repeat (first | (with_reducible first | exact HB.out | apply below_alloc | apply pw_below_drewN | apply below_drew1 | refine below_set ?_ GE136.out) | exact HB.out)⟩⟩
  case rest =>
    clear HC2
    try clear c2
    try clear p2
    try clear c4
    try clear c6
    try clear c8
    try clear c9
    try clear c9b0
    try clear c22
    try clear hcz10_0
    try clear hcz10_1
    try clear hcz10_10
    try clear hcz10_11
    try clear hcz10_12
    try clear hcz10_13
    try clear hcz10_14
    try clear hcz10_15
    try clear hcz10_16
    try clear hcz10_17
    try clear hcz10_18
    try clear hcz10_2
    try clear hcz10_3
    try clear hcz10_4
    try clear hcz10_5
    try clear hcz10_6
    try clear hcz10_7
    try clear hcz10_8
    try clear hcz10_9
    try clear hcz12_0
    try clear hcz12_1
    try clear hcz12_10
    try clear hcz12_11
    try clear hcz12_12
    try clear hcz12_13
    try clear hcz12_14
    try clear hcz12_15
    try clear hcz12_16
    try clear hcz12_17
    try clear hcz12_18
    try clear hcz12_2
    try clear hcz12_3
    try clear hcz12_4
    try clear hcz12_5
    try clear hcz12_6
    try clear hcz12_7
    try clear hcz12_8
    try clear hcz12_9
    try clear hcz14_0
    try clear hcz14_1
    try clear hcz14_10
    try clear hcz14_11
    try clear hcz14_12
    try clear hcz14_13
    try clear hcz14_14
    try clear hcz14_15
    try clear hcz14_16
    try clear hcz14_17
    try clear hcz14_18
    try clear hcz14_2
    try clear hcz14_3
    try clear hcz14_4
    try clear hcz14_5
    try clear hcz14_6
    try clear hcz14_7
    try clear hcz14_8
    try clear hcz14_9
    try clear hcz15_0
    try clear hcz15_1
    try clear hcz15_10
    try clear hcz15_11
    try clear hcz15_12
    try clear hcz15_13
    try clear hcz15_14
    try clear hcz15_15
    try clear hcz15_16
    try clear hcz15_17
    try clear hcz15_18
    try clear hcz15_2
    try clear hcz15_3
    try clear hcz15_4
    try clear hcz15_5
    try clear hcz15_6
    try clear hcz15_7
    try clear hcz15_8
    try clear hcz15_9
    try clear hcz17_0
    try clear hcz17_1
    try clear hcz17_10
    try clear hcz17_11
    try clear hcz17_12
    try clear hcz17_13
    try clear hcz17_14
    try clear hcz17_15
    try clear hcz17_16
    try clear hcz17_17
    try clear hcz17_18
    try clear hcz17_2
    try clear hcz17_3
    try clear hcz17_4
    try clear hcz17_5
    try clear hcz17_6
    try clear hcz17_7
    try clear hcz17_8
    try clear hcz17_9
    try clear hcz19_0
    try clear hcz19_1
    try clear hcz19_10
    try clear hcz19_11
    try clear hcz19_12
    try clear hcz19_13
    try clear hcz19_14
    try clear hcz19_15
    try clear hcz19_16
    try clear hcz19_17
    try clear hcz19_18
    try clear hcz19_2
    try clear hcz19_3
    try clear hcz19_4
    try clear hcz19_5
    try clear hcz19_6
    try clear hcz19_7
    try clear hcz19_8
    try clear hcz19_9
    try clear hcz20_0
    try clear hcz20_1
    try clear hcz20_10
    try clear hcz20_11
    try clear hcz20_12
    try clear hcz20_13
    try clear hcz20_14
    try clear hcz20_15
    try clear hcz20_16
    try clear hcz20_17
    try clear hcz20_18
    try clear hcz20_2
    try clear hcz20_3
    try clear hcz20_4
    try clear hcz20_5
    try clear hcz20_6
    try clear hcz20_7
    try clear hcz20_8
    try clear hcz20_9
    try clear hcz22_0
    try clear hcz22_1
    try clear hcz22_10
    try clear hcz22_11
    try clear hcz22_12
    try clear hcz22_13
    try clear hcz22_14
    try clear hcz22_15
    try clear hcz22_16
    try clear hcz22_17
    try clear hcz22_18
    try clear hcz22_2
    try clear hcz22_3
    try clear hcz22_4
    try clear hcz22_5
    try clear hcz22_6
    try clear hcz22_7
    try clear hcz22_8
    try clear hcz22_9
    try clear hcz24_0
    try clear hcz24_1
    try clear hcz24_10
    try clear hcz24_11
    try clear hcz24_12
    try clear hcz24_13
    try clear hcz24_14
    try clear hcz24_15
    try clear hcz24_16
    try clear hcz24_17
    try clear hcz24_18
    try clear hcz24_2
    try clear hcz24_3
    try clear hcz24_4
    try clear hcz24_5
    try clear hcz24_6
    try clear hcz24_7
    try clear hcz24_8
    try clear hcz24_9
    try clear hcz26_0
    try clear hcz26_1
    try clear hcz26_10
    try clear hcz26_11
    try clear hcz26_12
    try clear hcz26_13
    try clear hcz26_14
    try clear hcz26_15
    try clear hcz26_16
    try clear hcz26_17
    try clear hcz26_18
    try clear hcz26_2
    try clear hcz26_3
    try clear hcz26_4
    try clear hcz26_5
    try clear hcz26_6
    try clear hcz26_7
    try clear hcz26_8
    try clear hcz26_9
    try clear hfz10_0
    try clear hfz10_1
    try clear hfz10_10
    try clear hfz10_11
    try clear hfz10_12
    try clear hfz10_13
    try clear hfz10_14
    try clear hfz10_15
    try clear hfz10_16
    try clear hfz10_17
    try clear hfz10_18
    try clear hfz10_2
    try clear hfz10_3
    try clear hfz10_4
    try clear hfz10_5
    try clear hfz10_6
    try clear hfz10_7
    try clear hfz10_8
    try clear hfz10_9
    try clear hfz12_0
    try clear hfz12_1
    try clear hfz12_10
    try clear hfz12_11
    try clear hfz12_12
    try clear hfz12_13
    try clear hfz12_14
    try clear hfz12_15
    try clear hfz12_16
    try clear hfz12_17
    try clear hfz12_18
    try clear hfz12_2
    try clear hfz12_3
    try clear hfz12_4
    try clear hfz12_5
    try clear hfz12_6
    try clear hfz12_7
    try clear hfz12_8
    try clear hfz12_9
    try clear hfz14_0
    try clear hfz14_1
    try clear hfz14_10
    try clear hfz14_11
    try clear hfz14_12
    try clear hfz14_13
    try clear hfz14_14
    try clear hfz14_15
    try clear hfz14_16
    try clear hfz14_17
    try clear hfz14_18
    try clear hfz14_2
    try clear hfz14_3
    try clear hfz14_4
    try clear hfz14_5
    try clear hfz14_6
    try clear hfz14_7
    try clear hfz14_8
    try clear hfz14_9
    try clear hfz15_0
    try clear hfz15_1
    try clear hfz15_10
    try clear hfz15_11
    try clear hfz15_12
    try clear hfz15_13
    try clear hfz15_14
    try clear hfz15_15
    try clear hfz15_16
    try clear hfz15_17
    try clear hfz15_18
    try clear hfz15_2
    try clear hfz15_3
    try clear hfz15_4
    try clear hfz15_5
    try clear hfz15_6
    try clear hfz15_7
    try clear hfz15_8
    try clear hfz15_9
    try clear hfz17_0
    try clear hfz17_1
    try clear hfz17_10
    try clear hfz17_11
    try clear hfz17_12
    try clear hfz17_13
    try clear hfz17_14
    try clear hfz17_15
    try clear hfz17_16
    try clear hfz17_17
    try clear hfz17_18
    try clear hfz17_2
    try clear hfz17_3
    try clear hfz17_4
    try clear hfz17_5
    try clear hfz17_6
    try clear hfz17_7
    try clear hfz17_8
    try clear hfz17_9
    try clear hfz19_0
    try clear hfz19_1
    try clear hfz19_10
    try clear hfz19_11
    try clear hfz19_12
    try clear hfz19_13
    try clear hfz19_14
    try clear hfz19_15
    try clear hfz19_16
    try clear hfz19_17
    try clear hfz19_18
    try clear hfz19_2
    try clear hfz19_3
    try clear hfz19_4
    try clear hfz19_5
    try clear hfz19_6
    try clear hfz19_7
    try clear hfz19_8
    try clear hfz19_9
    try clear hfz20_0
    try clear hfz20_1
    try clear hfz20_10
    try clear hfz20_11
    try clear hfz20_12
    try clear hfz20_13
    try clear hfz20_14
    try clear hfz20_15
    try clear hfz20_16
    try clear hfz20_17
    try clear hfz20_18
    try clear hfz20_2
    try clear hfz20_3
    try clear hfz20_4
    try clear hfz20_5
    try clear hfz20_6
    try clear hfz20_7
    try clear hfz20_8
    try clear hfz20_9
    try clear hfz22_0
    try clear hfz22_1
    try clear hfz22_10
    try clear hfz22_11
    try clear hfz22_12
    try clear hfz22_13
    try clear hfz22_14
    try clear hfz22_15
    try clear hfz22_16
    try clear hfz22_17
    try clear hfz22_18
    try clear hfz22_2
    try clear hfz22_3
    try clear hfz22_4
    try clear hfz22_5
    try clear hfz22_6
    try clear hfz22_7
    try clear hfz22_8
    try clear hfz22_9
    try clear hfz24_0
    try clear hfz24_1
    try clear hfz24_10
    try clear hfz24_11
    try clear hfz24_12
    try clear hfz24_13
    try clear hfz24_14
    try clear hfz24_15
    try clear hfz24_16
    try clear hfz24_17
    try clear hfz24_18
    try clear hfz24_2
    try clear hfz24_3
    try clear hfz24_4
    try clear hfz24_5
    try clear hfz24_6
    try clear hfz24_7
    try clear hfz24_8
    try clear hfz24_9
    try clear hfz26_0
    try clear hfz26_1
    try clear hfz26_10
    try clear hfz26_11
    try clear hfz26_12
    try clear hfz26_13
    try clear hfz26_14
    try clear hfz26_15
    try clear hfz26_16
    try clear hfz26_17
    try clear hfz26_18
    try clear hfz26_2
    try clear hfz26_3
    try clear hfz26_4
    try clear hfz26_5
    try clear hfz26_6
    try clear hfz26_7
    try clear hfz26_8
    try clear hfz26_9
    obtain ⟨kq, x28_1, rfl, HA, HJ1, BK136, HB⟩ := hcut
    cases kq with
    | zero => exact absurd HA.out (by simp [computusref11_Right.j0])
    | succ kj1 =>
      have H := HA.out
      clear HA
      simp only [computusref11_Right.j0] at H
      by_cases c27 : x28_1 = true
      · subst c27
        have H1 : (some false) = some r := by rw [if_pos rfl] at H; exact H
        clear H
        have H := H1
        clear H1
        obtain rfl := Option.some.inj H
        go_wp2
        go_ret
        exact ⟨by first | rfl | (simp [errW_none, errW_some] <;> rfl) | (simp [*, errW_none, errW_some] <;> rfl), by repeat (first | (with_reducible first | exact HB.out | apply below_alloc | apply pw_below_drewN | apply below_drew1 | refine below_set ?_ GE136.out) | exact HB.out)⟩
      · replace c27 := Bool.eq_false_iff.mpr c27
        subst c27
        have H1 : (if (wrap64 (a0_3 - a0_11)) < 0 then (if (wrap64 (-(wrap64 (a0_3 - a0_11)))) ≥ 2 then (some (decide ((wrap64 (-(wrap64 (a0_3 - a0_11)))) ≤ 10))) else (some false)) else (if (wrap64 (a0_3 - a0_11)) ≥ 2 then (some (decide ((wrap64 (a0_3 - a0_11)) ≤ 10))) else (some false))) = some r := by rw [if_neg (show ¬ (false = true) by decide)] at H; exact H
        clear H
        have H := H1
        clear H1
        by_cases c28 : (wrap64 (a0_3 - a0_11)) < 0
        · rw [if_pos c28] at H
          have c28b0 : decide ((wrap64 (a0_3 - a0_11)) < 0) = true := decide_eq_true c28
          clear c28
          by_cases c29 : (wrap64 (-(wrap64 (a0_3 - a0_11)))) ≥ 2
          · rw [if_pos c29] at H
            have c29b0 : decide (2 ≤ (wrap64 (-(wrap64 (a0_3 - a0_11))))) = true := decide_eq_true c29
            clear c29
            obtain rfl := Option.some.inj H
            have hcz30_0 : wc.cell? ⟨gb136, 0, none⟩ = some (.bool a0_0) := (blk_cell BK136.out 0).trans rfl
            have hcz30_1 : wc.cell? ⟨gb136, 1, none⟩ = some (.int .i64 a0_1) := (blk_cell BK136.out 1).trans rfl
            have hcz30_2 : wc.cell? ⟨gb136, 2, none⟩ = some (.int .i64 a0_2) := (blk_cell BK136.out 2).trans rfl
            have hcz30_3 : wc.cell? ⟨gb136, 3, none⟩ = some (.int .i64 a0_3) := (blk_cell BK136.out 3).trans rfl
            have hcz30_4 : wc.cell? ⟨gb136, 4, none⟩ = some (.int .i64 a0_4) := (blk_cell BK136.out 4).trans rfl
            have hcz30_5 : wc.cell? ⟨gb136, 5, none⟩ = some (.int .i64 a0_5) := (blk_cell BK136.out 5).trans rfl
            have hcz30_6 : wc.cell? ⟨gb136, 6, none⟩ = some (.int .i64 a0_6) := (blk_cell BK136.out 6).trans rfl
            have hcz30_7 : wc.cell? ⟨gb136, 7, none⟩ = some (.int .i64 a0_7) := (blk_cell BK136.out 7).trans rfl
            have hcz30_8 : wc.cell? ⟨gb136, 8, none⟩ = some (.int .u8 a0_8) := (blk_cell BK136.out 8).trans rfl
            have hcz30_9 : wc.cell? ⟨gb136, 9, none⟩ = some (.int .i64 a0_9) := (blk_cell BK136.out 9).trans rfl
            have hcz30_10 : wc.cell? ⟨gb136, 10, none⟩ = some (.string a0_10) := (blk_cell BK136.out 10).trans rfl
            have hcz30_11 : wc.cell? ⟨gb136, 11, none⟩ = some (.int .i64 a0_11) := (blk_cell BK136.out 11).trans rfl
            have hcz30_12 : wc.cell? ⟨gb136, 12, none⟩ = some (.int .i64 a0_12) := (blk_cell BK136.out 12).trans rfl
            have hcz30_13 : wc.cell? ⟨gb136, 13, none⟩ = some (.int .i64 a0_13) := (blk_cell BK136.out 13).trans rfl
            have hcz30_14 : wc.cell? ⟨gb136, 14, none⟩ = some (.int .i64 a0_14) := (blk_cell BK136.out 14).trans rfl
            have hcz30_15 : wc.cell? ⟨gb136, 15, none⟩ = some (.int .i64 a0_15) := (blk_cell BK136.out 15).trans rfl
            have hcz30_16 : wc.cell? ⟨gb136, 16, none⟩ = some (.int .u8 a0_16) := (blk_cell BK136.out 16).trans rfl
            have hcz30_17 : wc.cell? ⟨gb136, 17, none⟩ = some (.int .i64 a0_17) := (blk_cell BK136.out 17).trans rfl
            have hcz30_18 : wc.cell? ⟨gb136, 18, none⟩ = some (.string a0_18) := (blk_cell BK136.out 18).trans rfl
            have hfz30_0 := blk_frozen BK136.out 0
            have hfz30_1 := blk_frozen BK136.out 1
            have hfz30_2 := blk_frozen BK136.out 2
            have hfz30_3 := blk_frozen BK136.out 3
            have hfz30_4 := blk_frozen BK136.out 4
            have hfz30_5 := blk_frozen BK136.out 5
            have hfz30_6 := blk_frozen BK136.out 6
            have hfz30_7 := blk_frozen BK136.out 7
            have hfz30_8 := blk_frozen BK136.out 8
            have hfz30_9 := blk_frozen BK136.out 9
            have hfz30_10 := blk_frozen BK136.out 10
            have hfz30_11 := blk_frozen BK136.out 11
            have hfz30_12 := blk_frozen BK136.out 12
            have hfz30_13 := blk_frozen BK136.out 13
            have hfz30_14 := blk_frozen BK136.out 14
            have hfz30_15 := blk_frozen BK136.out 15
            have hfz30_16 := blk_frozen BK136.out 16
            have hfz30_17 := blk_frozen BK136.out 17
            have hfz30_18 := blk_frozen BK136.out 18
            go_wp2
            go_ret
            exact ⟨by first | rfl | (simp [errW_none, errW_some] <;> rfl) | (simp [*, errW_none, errW_some] <;> rfl), by repeat (first | (with_reducible first | exact HB.out | apply below_alloc | apply pw_below_drewN | apply below_drew1 | refine below_set ?_ GE136.out) | exact HB.out)⟩
          · rw [if_neg c29] at H
            have c29b0 : decide (2 ≤ (wrap64 (-(wrap64 (a0_3 - a0_11))))) = false := decide_eq_false c29
            clear c29
            obtain rfl := Option.some.inj H
            have hcz31_0 : wc.cell? ⟨gb136, 0, none⟩ = some (.bool a0_0) := (blk_cell BK136.out 0).trans rfl
            have hcz31_1 : wc.cell? ⟨gb136, 1, none⟩ = some (.int .i64 a0_1) := (blk_cell BK136.out 1).trans rfl
            have hcz31_2 : wc.cell? ⟨gb136, 2, none⟩ = some (.int .i64 a0_2) := (blk_cell BK136.out 2).trans rfl
            have hcz31_3 : wc.cell? ⟨gb136, 3, none⟩ = some (.int .i64 a0_3) := (blk_cell BK136.out 3).trans rfl
            have hcz31_4 : wc.cell? ⟨gb136, 4, none⟩ = some (.int .i64 a0_4) := (blk_cell BK136.out 4).trans rfl
            have hcz31_5 : wc.cell? ⟨gb136, 5, none⟩ = some (.int .i64 a0_5) := (blk_cell BK136.out 5).trans rfl
            have hcz31_6 : wc.cell? ⟨gb136, 6, none⟩ = some (.int .i64 a0_6) := (blk_cell BK136.out 6).trans rfl
            have hcz31_7 : wc.cell? ⟨gb136, 7, none⟩ = some (.int .i64 a0_7) := (blk_cell BK136.out 7).trans rfl
            have hcz31_8 : wc.cell? ⟨gb136, 8, none⟩ = some (.int .u8 a0_8) := (blk_cell BK136.out 8).trans rfl
            have hcz31_9 : wc.cell? ⟨gb136, 9, none⟩ = some (.int .i64 a0_9) := (blk_cell BK136.out 9).trans rfl
            have hcz31_10 : wc.cell? ⟨gb136, 10, none⟩ = some (.string a0_10) := (blk_cell BK136.out 10).trans rfl
            have hcz31_11 : wc.cell? ⟨gb136, 11, none⟩ = some (.int .i64 a0_11) := (blk_cell BK136.out 11).trans rfl
            have hcz31_12 : wc.cell? ⟨gb136, 12, none⟩ = some (.int .i64 a0_12) := (blk_cell BK136.out 12).trans rfl
            have hcz31_13 : wc.cell? ⟨gb136, 13, none⟩ = some (.int .i64 a0_13) := (blk_cell BK136.out 13).trans rfl
            have hcz31_14 : wc.cell? ⟨gb136, 14, none⟩ = some (.int .i64 a0_14) := (blk_cell BK136.out 14).trans rfl
            have hcz31_15 : wc.cell? ⟨gb136, 15, none⟩ = some (.int .i64 a0_15) := (blk_cell BK136.out 15).trans rfl
            have hcz31_16 : wc.cell? ⟨gb136, 16, none⟩ = some (.int .u8 a0_16) := (blk_cell BK136.out 16).trans rfl
            have hcz31_17 : wc.cell? ⟨gb136, 17, none⟩ = some (.int .i64 a0_17) := (blk_cell BK136.out 17).trans rfl
            have hcz31_18 : wc.cell? ⟨gb136, 18, none⟩ = some (.string a0_18) := (blk_cell BK136.out 18).trans rfl
            have hfz31_0 := blk_frozen BK136.out 0
            have hfz31_1 := blk_frozen BK136.out 1
            have hfz31_2 := blk_frozen BK136.out 2
            have hfz31_3 := blk_frozen BK136.out 3
            have hfz31_4 := blk_frozen BK136.out 4
            have hfz31_5 := blk_frozen BK136.out 5
            have hfz31_6 := blk_frozen BK136.out 6
            have hfz31_7 := blk_frozen BK136.out 7
            have hfz31_8 := blk_frozen BK136.out 8
            have hfz31_9 := blk_frozen BK136.out 9
            have hfz31_10 := blk_frozen BK136.out 10
            have hfz31_11 := blk_frozen BK136.out 11
            have hfz31_12 := blk_frozen BK136.out 12
            have hfz31_13 := blk_frozen BK136.out 13
            have hfz31_14 := blk_frozen BK136.out 14
            have hfz31_15 := blk_frozen BK136.out 15
            have hfz31_16 := blk_frozen BK136.out 16
            have hfz31_17 := blk_frozen BK136.out 17
            have hfz31_18 := blk_frozen BK136.out 18
            go_wp2
            go_ret
            exact ⟨by first | rfl | (simp [errW_none, errW_some] <;> rfl) | (simp [*, errW_none, errW_some] <;> rfl), by repeat (first | (with_reducible first | exact HB.out | apply below_alloc | apply pw_below_drewN | apply below_drew1 | refine below_set ?_ GE136.out) | exact HB.out)⟩
        · rw [if_neg c28] at H
          have c28b0 : decide ((wrap64 (a0_3 - a0_11)) < 0) = false := decide_eq_false c28
          clear c28
          by_cases c32 : (wrap64 (a0_3 - a0_11)) ≥ 2
          · rw [if_pos c32] at H
            have c32b0 : decide (2 ≤ (wrap64 (a0_3 - a0_11))) = true := decide_eq_true c32
            clear c32
            obtain rfl := Option.some.inj H
            have hcz33_0 : wc.cell? ⟨gb136, 0, none⟩ = some (.bool a0_0) := (blk_cell BK136.out 0).trans rfl
            have hcz33_1 : wc.cell? ⟨gb136, 1, none⟩ = some (.int .i64 a0_1) := (blk_cell BK136.out 1).trans rfl
            have hcz33_2 : wc.cell? ⟨gb136, 2, none⟩ = some (.int .i64 a0_2) := (blk_cell BK136.out 2).trans rfl
            have hcz33_3 : wc.cell? ⟨gb136, 3, none⟩ = some (.int .i64 a0_3) := (blk_cell BK136.out 3).trans rfl
            have hcz33_4 : wc.cell? ⟨gb136, 4, none⟩ = some (.int .i64 a0_4) := (blk_cell BK136.out 4).trans rfl
            have hcz33_5 : wc.cell? ⟨gb136, 5, none⟩ = some (.int .i64 a0_5) := (blk_cell BK136.out 5).trans rfl
            have hcz33_6 : wc.cell? ⟨gb136, 6, none⟩ = some (.int .i64 a0_6) := (blk_cell BK136.out 6).trans rfl
            have hcz33_7 : wc.cell? ⟨gb136, 7, none⟩ = some (.int .i64 a0_7) := (blk_cell BK136.out 7).trans rfl
            have hcz33_8 : wc.cell? ⟨gb136, 8, none⟩ = some (.int .u8 a0_8) := (blk_cell BK136.out 8).trans rfl
            have hcz33_9 : wc.cell? ⟨gb136, 9, none⟩ = some (.int .i64 a0_9) := (blk_cell BK136.out 9).trans rfl
            have hcz33_10 : wc.cell? ⟨gb136, 10, none⟩ = some (.string a0_10) := (blk_cell BK136.out 10).trans rfl
            have hcz33_11 : wc.cell? ⟨gb136, 11, none⟩ = some (.int .i64 a0_11) := (blk_cell BK136.out 11).trans rfl
            have hcz33_12 : wc.cell? ⟨gb136, 12, none⟩ = some (.int .i64 a0_12) := (blk_cell BK136.out 12).trans rfl
            have hcz33_13 : wc.cell? ⟨gb136, 13, none⟩ = some (.int .i64 a0_13) := (blk_cell BK136.out 13).trans rfl
            have hcz33_14 : wc.cell? ⟨gb136, 14, none⟩ = some (.int .i64 a0_14) := (blk_cell BK136.out 14).trans rfl
            have hcz33_15 : wc.cell? ⟨gb136, 15, none⟩ = some (.int .i64 a0_15) := (blk_cell BK136.out 15).trans rfl
            have hcz33_16 : wc.cell? ⟨gb136, 16, none⟩ = some (.int .u8 a0_16) := (blk_cell BK136.out 16).trans rfl
            have hcz33_17 : wc.cell? ⟨gb136, 17, none⟩ = some (.int .i64 a0_17) := (blk_cell BK136.out 17).trans rfl
            have hcz33_18 : wc.cell? ⟨gb136, 18, none⟩ = some (.string a0_18) := (blk_cell BK136.out 18).trans rfl
            have hfz33_0 := blk_frozen BK136.out 0
            have hfz33_1 := blk_frozen BK136.out 1
            have hfz33_2 := blk_frozen BK136.out 2
            have hfz33_3 := blk_frozen BK136.out 3
            have hfz33_4 := blk_frozen BK136.out 4
            have hfz33_5 := blk_frozen BK136.out 5
            have hfz33_6 := blk_frozen BK136.out 6
            have hfz33_7 := blk_frozen BK136.out 7
            have hfz33_8 := blk_frozen BK136.out 8
            have hfz33_9 := blk_frozen BK136.out 9
            have hfz33_10 := blk_frozen BK136.out 10
            have hfz33_11 := blk_frozen BK136.out 11
            have hfz33_12 := blk_frozen BK136.out 12
            have hfz33_13 := blk_frozen BK136.out 13
            have hfz33_14 := blk_frozen BK136.out 14
            have hfz33_15 := blk_frozen BK136.out 15
            have hfz33_16 := blk_frozen BK136.out 16
            have hfz33_17 := blk_frozen BK136.out 17
            have hfz33_18 := blk_frozen BK136.out 18
            go_wp2
            go_ret
            exact ⟨by first | rfl | (simp [errW_none, errW_some] <;> rfl) | (simp [*, errW_none, errW_some] <;> rfl), by repeat (first | (with_reducible first | exact HB.out | apply below_alloc | apply pw_below_drewN | apply below_drew1 | refine below_set ?_ GE136.out) | exact HB.out)⟩
          · rw [if_neg c32] at H
            have c32b0 : decide (2 ≤ (wrap64 (a0_3 - a0_11))) = false := decide_eq_false c32
            clear c32
            obtain rfl := Option.some.inj H
            have hcz34_0 : wc.cell? ⟨gb136, 0, none⟩ = some (.bool a0_0) := (blk_cell BK136.out 0).trans rfl
            have hcz34_1 : wc.cell? ⟨gb136, 1, none⟩ = some (.int .i64 a0_1) := (blk_cell BK136.out 1).trans rfl
            have hcz34_2 : wc.cell? ⟨gb136, 2, none⟩ = some (.int .i64 a0_2) := (blk_cell BK136.out 2).trans rfl
            have hcz34_3 : wc.cell? ⟨gb136, 3, none⟩ = some (.int .i64 a0_3) := (blk_cell BK136.out 3).trans rfl
            have hcz34_4 : wc.cell? ⟨gb136, 4, none⟩ = some (.int .i64 a0_4) := (blk_cell BK136.out 4).trans rfl
            have hcz34_5 : wc.cell? ⟨gb136, 5, none⟩ = some (.int .i64 a0_5) := (blk_cell BK136.out 5).trans rfl
            have hcz34_6 : wc.cell? ⟨gb136, 6, none⟩ = some (.int .i64 a0_6) := (blk_cell BK136.out 6).trans rfl
            have hcz34_7 : wc.cell? ⟨gb136, 7, none⟩ = some (.int .i64 a0_7) := (blk_cell BK136.out 7).trans rfl
            have hcz34_8 : wc.cell? ⟨gb136, 8, none⟩ = some (.int .u8 a0_8) := (blk_cell BK136.out 8).trans rfl
            have hcz34_9 : wc.cell? ⟨gb136, 9, none⟩ = some (.int .i64 a0_9) := (blk_cell BK136.out 9).trans rfl
            have hcz34_10 : wc.cell? ⟨gb136, 10, none⟩ = some (.string a0_10) := (blk_cell BK136.out 10).trans rfl
            have hcz34_11 : wc.cell? ⟨gb136, 11, none⟩ = some (.int .i64 a0_11) := (blk_cell BK136.out 11).trans rfl
            have hcz34_12 : wc.cell? ⟨gb136, 12, none⟩ = some (.int .i64 a0_12) := (blk_cell BK136.out 12).trans rfl
            have hcz34_13 : wc.cell? ⟨gb136, 13, none⟩ = some (.int .i64 a0_13) := (blk_cell BK136.out 13).trans rfl
            have hcz34_14 : wc.cell? ⟨gb136, 14, none⟩ = some (.int .i64 a0_14) := (blk_cell BK136.out 14).trans rfl
            have hcz34_15 : wc.cell? ⟨gb136, 15, none⟩ = some (.int .i64 a0_15) := (blk_cell BK136.out 15).trans rfl
            have hcz34_16 : wc.cell? ⟨gb136, 16, none⟩ = some (.int .u8 a0_16) := (blk_cell BK136.out 16).trans rfl
            have hcz34_17 : wc.cell? ⟨gb136, 17, none⟩ = some (.int .i64 a0_17) := (blk_cell BK136.out 17).trans rfl
            have hcz34_18 : wc.cell? ⟨gb136, 18, none⟩ = some (.string a0_18) := (blk_cell BK136.out 18).trans rfl
            have hfz34_0 := blk_frozen BK136.out 0
            have hfz34_1 := blk_frozen BK136.out 1
            have hfz34_2 := blk_frozen BK136.out 2
            have hfz34_3 := blk_frozen BK136.out 3
            have hfz34_4 := blk_frozen BK136.out 4
            have hfz34_5 := blk_frozen BK136.out 5
            have hfz34_6 := blk_frozen BK136.out 6
            have hfz34_7 := blk_frozen BK136.out 7
            have hfz34_8 := blk_frozen BK136.out 8
            have hfz34_9 := blk_frozen BK136.out 9
            have hfz34_10 := blk_frozen BK136.out 10
            have hfz34_11 := blk_frozen BK136.out 11
            have hfz34_12 := blk_frozen BK136.out 12
            have hfz34_13 := blk_frozen BK136.out 13
            have hfz34_14 := blk_frozen BK136.out 14
            have hfz34_15 := blk_frozen BK136.out 15
            have hfz34_16 := blk_frozen BK136.out 16
            have hfz34_17 := blk_frozen BK136.out 17
            have hfz34_18 := blk_frozen BK136.out 18
            go_wp2
            go_ret
            exact ⟨by first | rfl | (simp [errW_none, errW_some] <;> rfl) | (simp [*, errW_none, errW_some] <;> rfl), by repeat (first | (with_reducible first | exact HB.out | apply below_alloc | apply pw_below_drewN | apply below_drew1 | refine below_set ?_ GE136.out) | exact HB.out)⟩

end Go.Proofs.Ytehoammeaimobaa.D
