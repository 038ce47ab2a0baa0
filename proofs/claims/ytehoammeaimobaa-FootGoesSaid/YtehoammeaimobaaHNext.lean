/- Hand contract of foot.Next: the next shift behind an instant. -/
import Derived.Test.YtehoammeaimobaaHAt
set_option linter.unusedVariables false
namespace Go.Proofs.Ytehoammeaimobaa.D
open Go Go.RowKit Go.Shelf Go.Proofs.YtehoammeaimobaaW.PrintWords Go.Proofs.YtehoammeaimobaaW.PrintLast Go.Proofs.YtehoammeaimobaaW.PrintMore
attribute [local go_sem] Oper.semAt_some wide_fn wide_depth wide_fn' wide_depth'

def NextI (at_ : Int) (w0 : World) (b3 b4 b5 n6 : Nat) (pre : List S46) (W : World) : Prop :=
  (((((∀ z ∈ pre, z.f0 ≤ at_) ∧ W.heap[b5]? = some (.cells #[.int .i64 0] 31 (0, 0))) ∧ W.heap[b4]? = some (.cells (tranA z46) 46 (0, 0))) ∧ W.heap[b3]? = some (.cells #[.int .i64 at_] 2 (0, 0))) ∧ Below w0.heap.size w0 W) ∧ n6 ≤ W.heap.size
def NextX (at_ : Int) (w0 : World) (b4 b5 : Nat) (c : Code) (pre : List S46) (W : World) : Prop :=
  ((c = .ret ∧ ∃ q x, pre = q ++ [x] ∧ (∀ z ∈ q, z.f0 ≤ at_) ∧ at_ < x.f0 ∧ W.heap[b4]? = some (.cells (tranA x) 46 (0, 0))) ∧ W.heap[b5]? = some (.cells #[.int .i64 0] 31 (0, 0))) ∧ Below w0.heap.size w0 W
theorem nextI_own (at_ : Int) (w0 : World) (b3 b4 b5 n6 B : Nat) (hB : w0.heap.size ≤ B) : OwnFrom B (NextI at_ w0 b3 b4 b5 n6) :=
  OwnFrom.and (OwnFrom.and (OwnFrom.and (OwnFrom.and (OwnFrom.and (ownFrom_pure _ _) (Own.from (blk_own b5 31 (fun _ => #[.int .i64 0])) _)) (Own.from (blk_own b4 46 (fun _ => tranA z46)) _)) (Own.from (blk_own b3 2 (fun _ => #[.int .i64 at_])) _)) (ownFrom_below (Nat.le_refl _) hB)) (own_size _ _)
theorem nextX_own (at_ : Int) (w0 : World) (b4 b5 : Nat) (c : Code) (B : Nat) (hB : w0.heap.size ≤ B) : OwnFrom B (NextX at_ w0 b4 b5 c) := by
  refine OwnFrom.and (OwnFrom.and ?_ (Own.from (blk_own b5 31 (fun _ => #[.int .i64 0])) _)) (ownFrom_below (Nat.le_refl _) hB)
  intro pre X Y row hs hg hrow
  obtain ⟨hc, q, x, e1, e2, e3, e4⟩ := hs
  refine ⟨hc, q, x, e1, e2, e3, ?_⟩
  exact blk_own b4 46 (fun (_ : Unit) => tranA x) () X Y row e4 hg (fun r e => (hrow r e).2)
theorem load31 {w : World} {g : Nat} {v : Value} (hc : w.cell? ⟨g, 0, none⟩ = some v) : (loadVar 31 ⟨g, 0, none⟩).run Try.prog w = .ok v w := by
  go_simp
theorem results_ci {fn : Func} {p u : Tmp} {ty : TypeId} (h : fn.results = #[.cell p ty, .cell u 31]) (tmps : Array Value) (w : World) (g g' : Nat) (t t' : TypeId) (cs : Array Value) (v : Value) (d : TypeDesc)
    (hp : tmps.getD p undef = .pointer (some ⟨g, 0, none⟩)) (hu' : tmps.getD u undef = .pointer (some ⟨g', 0, none⟩)) (hg : w.heap[g]? = some (.cells cs t (0, 0))) (hg' : w.heap[g']? = some (.cells #[v] t' (0, 0)))
    (hu : Try.prog.underlying ty = some d) (hd : d.isRow = true) (hi : (Try.prog.info? ty).map (·.size) = some cs.size) :
    (results fn tmps).run Try.prog w = .ok (.tuple #[.agg cs, v]) w := by
  have hc : w.cell? ⟨g', 0, none⟩ = some v := (blk_cell hg' 0).trans rfl
  have h1 : tmps[p]?.getD undef = .pointer (some ⟨g, 0, none⟩) := by simpa using hp
  have h2 : tmps[u]?.getD undef = .pointer (some ⟨g', 0, none⟩) := by simpa using hu'
  have hm := run_loadVar_mid w g 0 ty cs.toList d (rng_blk hg) hu hd (by rw [Array.length_toList]; exact hi)
  simp [results, h, h1, h2, asAddr, hm, load31 hc]
set_option maxHeartbeats 4000000 in
set_option maxRecDepth 100000 in
theorem Next_err (f : FootT) (at_ e0 : Int) (w : World) (he : e0 ≠ 0) (ha : Asks f at_ e0) :
    Calls Try.prog 16 #[.agg (footA f), .int .i64 at_] w fun e w' => e = .returned (.tuple #[tranV z46, .int .i64 e0]) ∧ Below w.heap.size w w' := by
  have HA := Aside0.mk ha
  have t0 : (e0 != 0) = true := bne_iff_ne.2 he
  clear ha he
  refine (callsIn_wide (n := 4)).1 ?_
  refine callsIn_of_wp Try.func16 rfl trivial ?_ rfl
  simp only [Try.ntmps16, List.size_toArray, List.length_cons, List.length_nil, Nat.reduceAdd, Nat.reduceSub, Array.replicate_succ, Array.replicate_zero, List.push_toArray, List.append_toArray, List.nil_append, List.cons_append]
  gi_wp2_with (first
    | ((with_reducible refine gate_in (N := 2) rfl ?_); refine box_in rfl 39 _ rfl (footA f) rfl ?_; intro b2 hg w1 hbox hb1; have HK := Aside0.mk hbox; have HB1 := Aside0.mk hb1; clear hbox hb1; subst hg)
    | ((with_reducible refine gate_in (N := 3) rfl ?_); refine boxint_in rfl 2 _ rfl .i64 at_ rfl ?_; intro b3 hg w2 hbox hb2; have HI := Aside0.mk hbox; have HK2 := Aside0.mk (blk_below HK.out hb2); have HB2 := Aside0.mk (below_step HB1.out hb2); have G3 := Aside0.mk (show w.heap.size < b3 from by rw [hg]; exact (Array.getElem?_eq_some_iff.1 HK.out).1); clear hbox hb2 hg)
    | ((with_reducible refine gate_in (N := 4) rfl ?_); refine alloc_in rfl 46 rfl (tranA z46) zero46 ?_; intro b4 hg w3 hbox hb3; have HR := Aside0.mk hbox; have HK3 := Aside0.mk (blk_below HK2.out hb3); have HI3 := Aside0.mk (blk_below HI.out hb3); have HB3 := Aside0.mk (below_step HB2.out hb3); have G4 := Aside0.mk (show w.heap.size < b4 ∧ b3 < b4 from by rw [hg]; exact ⟨(Array.getElem?_eq_some_iff.1 HK2.out).1, (Array.getElem?_eq_some_iff.1 HI.out).1⟩); clear hbox hb3 hg)
    | ((with_reducible refine gate_in (N := 5) rfl ?_); refine allocint_in rfl 31 rfl .i64 zero31 ?_; intro b5 hg w35 hbox hb3; have HE := Aside0.mk hbox; have HK35 := Aside0.mk (blk_below HK3.out hb3); have HI35 := Aside0.mk (blk_below HI3.out hb3); have HR35 := Aside0.mk (blk_below HR.out hb3); have HB35 := Aside0.mk (below_step HB3.out hb3); have G5 := Aside0.mk (show w.heap.size < b5 ∧ b4 < b5 from by rw [hg]; exact ⟨(Array.getElem?_eq_some_iff.1 HK3.out).1, (Array.getElem?_eq_some_iff.1 HR.out).1⟩); clear hbox hb3 hg; have c3 : w35.cell? ⟨b3, 0, none⟩ = some (.int .i64 at_) := (blk_cell HI35.out 0).trans rfl)
    | ((with_reducible refine gate_in (N := 8) rfl ?_); refine load_in rfl 39 _ rfl rfl HK35 Try.underlying39 rfl (size39 f) ?_)
    | ((with_reducible refine (asks_in HA.out _ _).mono ?_); rintro e w4 ⟨rfl, hb4⟩; have HI4 := Aside0.mk (blk_below HI35.out hb4); have HR4 := Aside0.mk (blk_below HR35.out hb4); have HE4 := Aside0.mk (blk_below HE.out hb4); have HB4 := Aside0.mk (below_step HB35.out hb4); clear hb4 c3)
    | ((with_reducible refine gate_in (N := 13) rfl ?_); refine event_in rfl rfl (by intro c hc; cases hc) (exec_build (parts := #[]) rfl #[] rfl build46z _) ?_)
    | ((with_reducible refine gate_sin (t := 46) (p := 4) rfl ?_); refine store_in rfl 46 (.tmp 4) (.tmp 13) rfl (D := tranA z46) rfl rfl HR4 rfl (size46 _) (one_tran _) ?_; intro w6 hput hko; have HP := Aside0.mk hput; have HE6 := Aside0.mk ((hput.other b5 (by have := G5.out; omega)).trans HE4.out); have HB6 := Aside0.mk (hput.below _ _ (by have := G4.out; omega) HB4.out); clear hput hko; have c5 : w6.cell? ⟨b5, 0, none⟩ = some (.int .i64 0) := (blk_cell HE6.out 0).trans rfl; have f5 := blk_frozen HE6.out 0))
  have hp2 := put_cell (v := .int .i64 e0) HE6.out
  have g4 := G4.out
  have g5 := G5.out
  refine bodyPost_ret (results_ci rfl _ _ b4 b5 46 31 (tranA z46) (.int .i64 e0) _ rfl rfl ((hp2.other b4 (by omega)).trans HP.out.box) hp2.box Try.underlying46 rfl (size46 _)) rfl ⟨rfl, ?_⟩
  exact hp2.below _ _ (by omega) HB6.out
set_option maxHeartbeats 4000000 in
set_option maxRecDepth 100000 in
theorem Next_ok (k : Nat) (f : FootT) (at_ y : Int) (T : Nat → Bool → S46) (w : World) (hy : fire_YearAt.f at_ = some y) (h1 : -4714 ≤ y) (h2 : y ≤ 294278) (ha : Asks f at_ 0)
    (hT : ∀ j : Nat, j < 5 → ∀ b, shiftO k f (y - 2 + j) b = some ((T j b).f0, (T j b).f1, (T j b).f2, (T j b).f3)) (s : S46) (hs : ∀ pre x, pre ++ [x] <+: pairs T 5 → (∀ z ∈ pre, z.f0 ≤ at_) → at_ < x.f0 → x = s) (hne : ∃ x ∈ pairs T 5, at_ < x.f0) :
    Calls Try.prog 16 #[.agg (footA f), .int .i64 at_] w fun e w' => e = .returned (.tuple #[tranV s, .int .i64 0]) ∧ Below w.heap.size w w' := by
  have HA := Aside0.mk ha
  have HY := Aside0.mk hy
  have HT := Aside0.mk hT
  have HS := Aside0.mk hs
  have HN := Aside0.mk hne
  clear ha hy hT hs hne
  refine (callsIn_wide (n := 4)).1 ?_
  refine callsIn_of_wp_marks Try.func16 rfl trivial ?_ rfl
  simp only [Try.ntmps16, List.size_toArray, List.length_cons, List.length_nil, Nat.reduceAdd, Nat.reduceSub, Array.replicate_succ, Array.replicate_zero, List.push_toArray, List.append_toArray, List.nil_append, List.cons_append]
  gi_wp2_with (first
    | ((with_reducible refine gate_in (N := 2) rfl ?_); refine box_in rfl 39 _ rfl (footA f) rfl ?_; intro b2 hg w1 hbox hb1; have HK := Aside0.mk hbox; have HB1 := Aside0.mk hb1; clear hbox hb1; subst hg)
    | ((with_reducible refine gate_in (N := 3) rfl ?_); refine boxint_in rfl 2 _ rfl .i64 at_ rfl ?_; intro b3 hg w2 hbox hb2; have HI := Aside0.mk hbox; have HK2 := Aside0.mk (blk_below HK.out hb2); have HB2 := Aside0.mk (below_step HB1.out hb2); have G3 := Aside0.mk (show w.heap.size < b3 from by rw [hg]; exact (Array.getElem?_eq_some_iff.1 HK.out).1); clear hbox hb2 hg)
    | ((with_reducible refine gate_in (N := 4) rfl ?_); refine alloc_in rfl 46 rfl (tranA z46) zero46 ?_; intro b4 hg w3 hbox hb3; have HR := Aside0.mk hbox; have HK3 := Aside0.mk (blk_below HK2.out hb3); have HI3 := Aside0.mk (blk_below HI.out hb3); have HB3 := Aside0.mk (below_step HB2.out hb3); have G4 := Aside0.mk (show w.heap.size < b4 ∧ b3 < b4 from by rw [hg]; exact ⟨(Array.getElem?_eq_some_iff.1 HK2.out).1, (Array.getElem?_eq_some_iff.1 HI.out).1⟩); clear hbox hb3 hg)
    | ((with_reducible refine gate_in (N := 5) rfl ?_); refine allocint_in rfl 31 rfl .i64 zero31 ?_; intro b5 hg w35 hbox hb3; have HE := Aside0.mk hbox; have HK35 := Aside0.mk (blk_below HK3.out hb3); have HI35 := Aside0.mk (blk_below HI3.out hb3); have HR35 := Aside0.mk (blk_below HR.out hb3); have HB35 := Aside0.mk (below_step HB3.out hb3); have G5 := Aside0.mk (show w.heap.size < b5 ∧ b4 < b5 from by rw [hg]; exact ⟨(Array.getElem?_eq_some_iff.1 HK3.out).1, (Array.getElem?_eq_some_iff.1 HR.out).1⟩); clear hbox hb3 hg; have c3 : w35.cell? ⟨b3, 0, none⟩ = some (.int .i64 at_) := (blk_cell HI35.out 0).trans rfl)
    | ((with_reducible refine gate_in (N := 8) rfl ?_); refine load_in rfl 39 _ rfl rfl HK35 Try.underlying39 rfl (size39 f) ?_)
    | ((with_reducible refine (asks_in HA.out _ _).mono ?_); rintro e w4 ⟨rfl, hb4⟩; have HI4 := Aside0.mk (blk_below HI35.out hb4); have HR4 := Aside0.mk (blk_below HR35.out hb4); have HE4 := Aside0.mk (blk_below HE.out hb4); have HB4 := Aside0.mk (below_step HB35.out hb4); clear c3; have HK4 := Aside0.mk (blk_below HK35.out hb4); clear hb4; have c3 : w4.cell? ⟨b3, 0, none⟩ = some (.int .i64 at_) := (blk_cell HI4.out 0).trans rfl)
    | ((with_reducible refine gate_in (N := 15) rfl ?_); refine load_in rfl 39 _ rfl rfl HK4 Try.underlying39 rfl (size39 f) ?_)
    | ((with_reducible refine (about_in f at_ _ _).mono ?_); rintro e w6 ⟨g, h, rfl, hg6, hh6, hg, hh, hb6⟩; have HGH := Aside0.mk (show w4.heap.size ≤ g ∧ w4.heap.size ≤ h ∧ w6.heap[g]? = some (.cells (footA f) 39 (0, 0)) ∧ w6.heap[h]? = some (.cells #[.int .i64 at_] 2 (0, 0)) from ⟨hg6, hh6, hg, hh⟩); have HI6 := Aside0.mk (blk_below HI4.out hb6); have HR6 := Aside0.mk (blk_below HR4.out hb6); have HE6 := Aside0.mk (blk_below HE4.out hb6); have HB6 := Aside0.mk (below_step HB4.out hb6); clear hb6 c3 hg6 hh6 hg hh))
  have HLT := Aside0.mk (show b3 < w6.heap.size ∧ b4 < w6.heap.size ∧ b5 < w6.heap.size ∧ g < w6.heap.size ∧ h < w6.heap.size ∧ w.heap.size < b3 ∧ b3 < b4 ∧ b4 < b5 ∧ b5 < g ∧ b5 < h from ⟨blk_lt' HI6.out, blk_lt' HR6.out, blk_lt' HE6.out, blk_lt' HGH.out.2.2.1, blk_lt' HGH.out.2.2.2, G3.out, G4.out.2, G5.out.2, Nat.lt_of_lt_of_le (blk_lt' HE4.out) HGH.out.1, Nat.lt_of_lt_of_le (blk_lt' HE4.out) HGH.out.2.1⟩)
  clear HK HK2 HK3 HK35 HK4 HI HI3 HI35 HI4 HR HR35 HR4 HE HE4 HB1 HB2 HB3 HB35 HB4 G3 G4 G5
  have H0 := Aside0.mk (show NextI at_ w b3 b4 b5 w6.heap.size [] w6 from ⟨⟨⟨⟨⟨by simp, HE6.out⟩, HR6.out⟩, HI6.out⟩, HB6.out⟩, Nat.le_refl _⟩)
  refine wpIn_rangeFunc_ownH rfl (by omega) (gf := 36) (lb := #[.pointer (some ⟨h, 0, none⟩), .pointer (some ⟨g, 0, none⟩)]) rfl trivial (enters_of Try.func36 (by kernel_rfl) rfl)
    (about_stops k f at_ y T _ g h w6 HY.out h1 h2 HT.out HGH.out.2.2.1 HGH.out.2.2.2) same2_t (same2_b HLT.out.2.2.2.1 HLT.out.2.2.2.2.1) (Below.refl _ _) (fun _ => rfl)
    (NextI at_ w b3 b4 b5 w6.heap.size) (NextX at_ w b4 b5)
    (nextI_own at_ w b3 b4 b5 _ _ HB6.out.size) (fun c => nextX_own at_ w b4 b5 c _ HB6.out.size) H0.out
    (fun x a' W => ∃ Bx, w6.heap.size ≤ Bx ∧ W.heap[Bx]? = some (.cells (tranA x) 46 (0, 0)) ∧ a' = { tmps := #[.agg (footA f), .int .i64 at_, .pointer (some ⟨w.heap.size, 0, none⟩), .pointer (some ⟨b3, 0, none⟩), .pointer (some ⟨b4, 0, none⟩), .pointer (some ⟨b5, 0, none⟩), .int .i64 0, .pointer (some ⟨Bx, 0, none⟩), .agg (footA f), .int .i64 at_, .int .i64 0, .int .i64 0, .bool false, undef, undef, .agg (footA f), .int .i64 at_, .func (.func 36) #[] #[.pointer (some ⟨h, 0, none⟩), .pointer (some ⟨g, 0, none⟩)], tranV x, undef, undef, undef, undef, undef, undef], defers := [] })
    (fun x a' _ X Y row hs hg hr => by obtain ⟨Bx, e1, e2, e3⟩ := hs; exact ⟨Bx, e1, blk_own Bx 46 (fun (_ : Unit) => tranA x) () X Y row e2 hg (fun r e => (hr r e).2), e3⟩)
    ?assign ?body ?done ?stop
  case assign =>
    rintro l pre x W K hI hK
    have HI0 := Aside0.mk hI
    have HKK := Aside0.mk hK
    clear hI hK
    gi_wp2_with (first
      | ((with_reducible refine gate_in (N := 7) rfl ?_); refine alloc_in rfl 46 rfl (tranA z46) zero46 ?_; intro Bx hg w1 hbox hb1; have HX := Aside0.mk hbox; have HW1 := Aside0.mk hb1; have GX := Aside0.mk hg; clear hbox hb1 hg)
      | ((with_reducible refine gate_sin (t := 46) (p := 7) rfl ?_); refine store_in rfl 46 (.tmp 7) (.tmp 18) rfl (D := tranA x) (by simp [Act.eval, Act.put]) (by simp [Act.eval, Act.put, tranV_eq]) HX rfl (size46 _) (one_tran _) ?_; intro w2 hput hko; have HP := Aside0.mk hput; have HKO := Aside0.mk hko; clear hput hko))
    obtain ⟨⟨⟨⟨⟨e1, e2⟩, e3⟩, e4⟩, e5⟩, e6⟩ := HI0.out
    have hX := GX.out
    have L := HLT.out
    have hne : ∀ k, k < W.heap.size → w2.heap[k]? = W.heap[k]? := fun k hk => (HP.out.other k (by omega)).trans (HW1.out.block k hk)
    exact HKK.out _ _ ((keeps_below HW1.out).trans (HKO.out.from _)) ⟨hne g (by omega), hne h (by omega)⟩
      ⟨⟨⟨⟨⟨e1, (hne b5 (blk_lt' e2)).trans e2⟩, (hne b4 (blk_lt' e3)).trans e3⟩, (hne b3 (blk_lt' e4)).trans e4⟩, HP.out.below _ _ (by have := e5.size; omega) (below_step e5 HW1.out)⟩, by have := HW1.out.size; rw [HP.out.size]; omega⟩
      ⟨Bx, by omega, HP.out.box, by simp [Act.put]⟩
  case body =>
    rintro l pre x a' W hl _ hI ⟨Bx, hBx, hX, rfl⟩ hlen
    have HI0 := Aside0.mk hI
    have HX := Aside0.mk hX
    clear hI hX hBx hl hlen
    have q0 : W.cell? ⟨Bx, 0, none⟩ = some (.int .i64 x.f0) := (blk_cell HX.out 0).trans rfl
    have q3 : W.cell? ⟨b3, 0, none⟩ = some (.int .i64 at_) := (blk_cell HI0.out.1.1.2 0).trans rfl
    have H4 := Aside0.mk HI0.out.1.1.1.2
    by_cases hc : x.f0 > at_
    · have t1 : decide (x.f0 > at_) = true := decide_eq_true hc
      have HC := Aside0.mk hc
      clear hc
      gi_wp2_with (first
        | ((with_reducible refine gate_in (N := 23) rfl ?_); refine load_in rfl 46 _ rfl rfl HX Try.underlying46 rfl (size46 x) ?_)
        | ((with_reducible refine gate_sin (t := 46) (p := 4) rfl ?_); refine store_in rfl 46 (.tmp 4) (.tmp 23) rfl (D := tranA x) rfl rfl H4 rfl (size46 _) (one_tran _) ?_; intro w2 hput hko; have HP := Aside0.mk hput; have HKO := Aside0.mk hko; have HE2 := Aside0.mk ((hput.other b5 (by have := HLT.out; omega)).trans HI0.out.1.1.1.1.2); clear hput hko q0 q3; have c5 : w2.cell? ⟨b5, 0, none⟩ = some (.int .i64 0) := (blk_cell HE2.out 0).trans rfl; have f5 := blk_frozen HE2.out 0))
      have hp2 := put_cell (v := .int .i64 0) HE2.out
      have L := HLT.out
      exact ⟨(HKO.out.trans (keeps_put hp2 HE2.out)).from _, ⟨⟨rfl, pre, x, rfl, HI0.out.1.1.1.1.1, HC.out, (hp2.other b4 (by omega)).trans HP.out.box⟩, hp2.box⟩, hp2.below _ _ (by omega) (HP.out.below _ _ (by omega) HI0.out.1.2)⟩
    · have t1 : decide (x.f0 > at_) = false := decide_eq_false hc
      have HC := Aside0.mk hc
      clear hc
      gi_wp2
      obtain ⟨⟨⟨⟨⟨e1, e2⟩, e3⟩, e4⟩, e5⟩, e6⟩ := HI0.out
      exact ⟨KeepsFrom.refl _ _, ⟨rfl, rfl⟩, ⟨⟨⟨⟨⟨fun z hz => (List.mem_append.1 hz).elim (e1 z) (fun e => by simp at e; subst e; have := HC.out; omega), e2⟩, e3⟩, e4⟩, e5⟩, e6⟩⟩
  case done =>
    rintro D ys W hD rfl ⟨⟨⟨⟨⟨hp, _⟩, _⟩, _⟩, _⟩, _⟩ hK
    obtain ⟨x, hx, hlt⟩ := HN.out
    have := hp x hx
    omega
  case stop =>
    rintro D c pre W hD hpre ⟨⟨⟨rfl, q, x, rfl, e2, e3, e4⟩, e5⟩, e6⟩ hK
    have hx := HS.out q x hpre e2 e3
    gi_wp2
    have L := HLT.out
    refine ⟨by simp, .inl ⟨_, _, rfl, run_takeDeferred hK, ?_⟩⟩
    have hb4 := (grownBy_putObj' W D (.deferred none)).block b4 (blk_lt' e4) (by intro e; cases e; omega)
    have hb5 := (grownBy_putObj' W D (.deferred none)).block b5 (blk_lt' e5) (by intro e; cases e; omega)
    refine ⟨_, results_ci rfl _ _ b4 b5 46 31 (tranA x) (.int .i64 0) _ rfl rfl (hb4.trans e4) (hb5.trans e5) Try.underlying46 rfl (size46 _), by rw [hx]; rfl, ?_⟩
    exact e6.trans (belowK_b (w := w) (Nat.le_refl _) _ D _ _ (by omega) hK rfl rfl)
end Go.Proofs.Ytehoammeaimobaa.D
