/- Hand contract of foot.At: how clocks stand at an instant. -/
import Derived.Test.YtehoammeaimobaaHIter
set_option linter.unusedVariables false
namespace Go.Proofs.Ytehoammeaimobaa.D
open Go Go.RowKit Go.Shelf Go.Proofs.YtehoammeaimobaaW.PrintWords Go.Proofs.YtehoammeaimobaaW.PrintLast Go.Proofs.YtehoammeaimobaaW.PrintMore
attribute [local go_sem] Oper.semAt_some wide_fn wide_depth wide_fn' wide_depth'

theorem blk_own {β : Type} (B : Nat) (t : TypeId) (f : β → Array Value) : Own (fun s (W : World) => W.heap[B]? = some (.cells (f s) t (0, 0))) := fun s X Y row hs hg hrow => by
  have hlt : B < X.heap.size := (Array.getElem?_eq_some_iff.1 hs).1
  refine (hg.block B hlt (fun e => ?_)).trans hs
  obtain ⟨o, ho, hc⟩ := hrow B e.symm
  rw [hs] at ho; cases ho; cases hc
/-- The last one of a list, or the zero value. -/
def lastOf (l : List S46) : S46 := l.getLast?.getD z46
theorem lastOf_snoc (l : List S46) (x : S46) : lastOf (l ++ [x]) = x := by simp [lastOf]
theorem asks_in {f : FootT} {at_ e0 : Int} (h : Asks f at_ e0) (n : Nat) (w : World) : CallsIn Fence.wide n Try.prog 24 #[.agg (footA f), .int .i64 at_] w fun e w' => e = .returned (.int .i64 e0) ∧ Below w.heap.size w w' := callsIn_wide.2 (h w)
theorem about_in (f : FootT) (at_ : Int) (n : Nat) (w : World) : CallsIn Fence.wide n Try.prog 25 #[.agg (footA f), .int .i64 at_] w fun e w' => ∃ g h : Nat, e = .returned (.func (.func 36) #[] #[.pointer (some ⟨h, 0, none⟩), .pointer (some ⟨g, 0, none⟩)]) ∧ w.heap.size ≤ g ∧ w.heap.size ≤ h ∧ w'.heap[g]? = some (.cells (footA f) 39 (0, 0)) ∧ w'.heap[h]? = some (.cells #[.int .i64 at_] 2 (0, 0)) ∧ Below w.heap.size w w' := callsIn_wide.2 (about_calls f at_ w)

theorem same2_b {g h : Nat} {w : World} (hg : g < w.heap.size) (hh : h < w.heap.size) (W : World) (l : Nat) (o o' : Obj) (hl : w.heap.size ≤ l) (ho : W.heap[l]? = some o) (_ : o.isCells = false) (_ : o.isWalk = false) : Same2 g h W (W.putObj l o') := by
  have hlt := (Array.getElem?_eq_some_iff.1 ho).1
  have hb := (grownBy_putObj' W l o').block
  exact ⟨hb g (by omega) (by intro e; cases e; omega), hb h (by omega) (by intro e; cases e; omega)⟩
theorem same2_put {g h b : Nat} {D : Array Value} {t : TypeId} {W w1 : World} (hp : Put W w1 b D t) (hg : g ≠ b) (hh : h ≠ b) : Same2 g h W w1 := ⟨hp.other g hg, hp.other h hh⟩
theorem blk_lt' {w : World} {g : Nat} {o : Obj} (h : w.heap[g]? = some o) : g < w.heap.size := (Array.getElem?_eq_some_iff.1 h).1
/-- What stands between two rounds: the last shift's box, and the other boxes as they were. -/
def AtI (f : FootT) (at_ : Int) (w0 : World) (b3 b4 b7 n6 : Nat) (pre : List S46) (W : World) : Prop :=
  (((((∀ z ∈ pre, z.f0 ≤ at_) ∧ W.heap[b7]? = some (.cells (tranA (lastOf pre)) 46 (0, 0))) ∧ W.heap[b4]? = some (.cells (tranA z46) 46 (0, 0))) ∧ W.heap[b3]? = some (.cells #[.int .i64 at_] 2 (0, 0))) ∧ Below w0.heap.size w0 W) ∧ n6 ≤ W.heap.size
def AtX (f : FootT) (at_ : Int) (w0 : World) (b3 b4 b7 : Nat) (s : S46) (L : List S46) (c : Code) (pre : List S46) (W : World) : Prop :=
  (((c = .exit 0 ∧ (pre <+: L → True) ∧ ∃ q x, pre = q ++ [x] ∧ (∀ z ∈ q, z.f0 ≤ at_) ∧ at_ < x.f0 ∧ W.heap[b7]? = some (.cells (tranA (lastOf q)) 46 (0, 0)))) ∧ W.heap[b4]? = some (.cells (tranA z46) 46 (0, 0))) ∧ Below w0.heap.size w0 W
theorem own_size {β : Type} (B n : Nat) : OwnFrom B (fun (_ : β) (W : World) => n ≤ W.heap.size) := fun _ _ _ _ hs hg _ => Nat.le_trans hs hg.size
theorem keeps_below {B : Nat} {W w1 : World} (h : Below W.heap.size W w1) : KeepsFrom B W w1 := ⟨h.size, fun k o _ hk _ => (h.block k (blk_lt' hk)).trans hk⟩
theorem atI_own (f : FootT) (at_ : Int) (w0 : World) (b3 b4 b7 n6 B : Nat) (hB : w0.heap.size ≤ B) : OwnFrom B (AtI f at_ w0 b3 b4 b7 n6) :=
  OwnFrom.and (OwnFrom.and (OwnFrom.and (OwnFrom.and (OwnFrom.and (ownFrom_pure _ _) (Own.from (blk_own _ _ _) _)) (Own.from (blk_own b4 46 (fun _ => tranA z46)) _)) (Own.from (blk_own b3 2 (fun _ => #[.int .i64 at_])) _)) (ownFrom_below (Nat.le_refl _) hB)) (own_size _ _)
theorem atX_own (f : FootT) (at_ : Int) (w0 : World) (b3 b4 b7 : Nat) (s : S46) (L : List S46) (c : Code) (B : Nat) (hB : w0.heap.size ≤ B) : OwnFrom B (AtX f at_ w0 b3 b4 b7 s L c) := by
  refine OwnFrom.and (OwnFrom.and ?_ (Own.from (blk_own b4 46 (fun _ => tranA z46)) _)) (ownFrom_below (Nat.le_refl _) hB)
  intro pre X Y row hs hg hrow
  obtain ⟨hc, hp, q, x, e1, e2, e3, e4⟩ := hs
  refine ⟨hc, hp, q, x, e1, e2, e3, ?_⟩
  exact blk_own b7 46 (fun (_ : Unit) => tranA (lastOf q)) () X Y row e4 hg (fun r e => (hrow r e).2)
set_option maxHeartbeats 4000000 in
set_option maxRecDepth 100000 in
theorem At_err (f : FootT) (at_ e0 : Int) (w : World) (he : e0 ≠ 0) (ha : Asks f at_ e0) :
    Calls Try.prog 14 #[.agg (footA f), .int .i64 at_] w fun e w' => e = .returned (.tuple #[tranV z46, .int .i64 e0]) ∧ Below w.heap.size w w' := by
  have HA := Aside0.mk ha
  have t0 : (e0 != 0) = true := bne_iff_ne.2 he
  clear ha he
  go_enter Try.func14, Try.ntmps14
  go_wp2_with (first
    | ((with_reducible refine gate_dst (N := 2) rfl ?_); refine box_agg rfl 39 _ rfl (footA f) rfl ?_; intro b2 hg w1 hbox hb1; have HK := Aside0.mk hbox; have HB1 := Aside0.mk hb1; clear hbox hb1; subst hg)
    | ((with_reducible refine gate_dst (N := 4) rfl ?_); refine alloc_agg rfl 46 rfl (tranA z46) zero46 ?_; intro b4 hg w3 hbox hb3; have HR := Aside0.mk hbox; have HK3 := Aside0.mk (blk_below (blk_alloc HK.out _) hb3); have HB3 := Aside0.mk (below_step (below_alloc HB1.out _) hb3); have G4 := Aside0.mk (show w.heap.size < b4 from by rw [hg]; have := (Array.getElem?_eq_some_iff.1 (blk_alloc HK.out (.cells #[.int .i64 at_] 2))).1; exact this); have c3 : w3.cell? ⟨w1.heap.size, 0, none⟩ = some (.int .i64 at_) := (blk_cell (blk_below (blk_new w1 (.cells #[.int .i64 at_] 2)) hb3) 0).trans rfl; clear hbox hb3 hg)
    | ((with_reducible refine gate_dst (N := 9) rfl ?_); refine load_opq rfl 39 _ rfl rfl HK3 Try.underlying39 rfl (size39 f) ?_)
    | ((with_reducible refine (asks_calls HA.out _).mono ?_); rintro e w4 ⟨rfl, hb4⟩; have HR4 := Aside0.mk (blk_below HR.out hb4); have HB4 := Aside0.mk (below_step HB3.out hb4); clear hb4 c3)
    | ((with_reducible refine gate_dst (N := 14) rfl ?_); refine Kd.event_run rfl (exec_build (parts := #[]) rfl #[] rfl build46z _) ?_)
    | ((with_reducible refine gate_store (t := 46) (p := 4) rfl ?_); refine store_agg rfl 46 (.tmp 4) (.tmp 14) rfl (D := tranA z46) rfl rfl HR4 rfl (size46 _) (one_tran _) ?_; intro w6 hput; have HP := Aside0.mk hput; clear hput))
  refine bodyPost_ret (results_ct rfl _ _ b4 46 (tranA z46) (0, 0) _ rfl HP.out.box Try.underlying46 rfl (size46 _)) rfl ⟨rfl, ?_⟩
  exact HP.out.below _ _ (Nat.le_of_lt G4.out) HB4.out
set_option maxHeartbeats 4000000 in
set_option maxRecDepth 100000 in
theorem At_ok (k : Nat) (f : FootT) (at_ y : Int) (T : Nat → Bool → S46) (w : World) (hy : fire_YearAt.f at_ = some y) (h1 : -4714 ≤ y) (h2 : y ≤ 294278) (ha : Asks f at_ 0)
    (hT : ∀ j : Nat, j < 5 → ∀ b, shiftO k f (y - 2 + j) b = some ((T j b).f0, (T j b).f1, (T j b).f2, (T j b).f3)) (s : S46) (hs : ∀ pre x, pre ++ [x] <+: pairs T 5 → (∀ z ∈ pre, z.f0 ≤ at_) → at_ < x.f0 → lastOf pre = s) (hne : ∃ x ∈ pairs T 5, at_ < x.f0) :
    Calls Try.prog 14 #[.agg (footA f), .int .i64 at_] w fun e w' => e = .returned (.tuple #[tranV s, .int .i64 0]) ∧ Below w.heap.size w w' := by
  have HA := Aside0.mk ha
  have HY := Aside0.mk hy
  have HT := Aside0.mk hT
  have HS := Aside0.mk hs
  have HN := Aside0.mk hne
  clear ha hy hT hs hne
  refine (callsIn_wide (n := 4)).1 ?_
  refine callsIn_of_wp_marks Try.func14 rfl trivial ?_ rfl
  simp only [Try.ntmps14, List.size_toArray, List.length_cons, List.length_nil, Nat.reduceAdd, Nat.reduceSub, Array.replicate_succ, Array.replicate_zero, List.push_toArray, List.append_toArray, List.nil_append, List.cons_append]
  gi_wp2_with (first
    | ((with_reducible refine gate_in (N := 2) rfl ?_); refine box_in rfl 39 _ rfl (footA f) rfl ?_; intro b2 hg w1 hbox hb1; have HK := Aside0.mk hbox; have HB1 := Aside0.mk hb1; clear hbox hb1; subst hg)
    | ((with_reducible refine gate_in (N := 3) rfl ?_); refine boxint_in rfl 2 _ rfl .i64 at_ rfl ?_; intro b3 hg w2 hbox hb2; have HI := Aside0.mk hbox; have HK2 := Aside0.mk (blk_below HK.out hb2); have HB2 := Aside0.mk (below_step HB1.out hb2); have G3 := Aside0.mk (show w.heap.size < b3 from by rw [hg]; exact (Array.getElem?_eq_some_iff.1 HK.out).1); clear hbox hb2 hg)
    | ((with_reducible refine gate_in (N := 4) rfl ?_); refine alloc_in rfl 46 rfl (tranA z46) zero46 ?_; intro b4 hg w3 hbox hb3; have HR := Aside0.mk hbox; have HK3 := Aside0.mk (blk_below HK2.out hb3); have HI3 := Aside0.mk (blk_below HI.out hb3); have HB3 := Aside0.mk (below_step HB2.out hb3); have G4 := Aside0.mk (show w.heap.size < b4 ∧ b3 < b4 from by rw [hg]; exact ⟨(Array.getElem?_eq_some_iff.1 HK2.out).1, (Array.getElem?_eq_some_iff.1 HI.out).1⟩); clear hbox hb3 hg; have c3 : w3.cell? ⟨b3, 0, none⟩ = some (.int .i64 at_) := (blk_cell HI3.out 0).trans rfl)
    | ((with_reducible refine gate_in (N := 9) rfl ?_); refine load_in rfl 39 _ rfl rfl HK3 Try.underlying39 rfl (size39 f) ?_)
    | ((with_reducible refine (asks_in HA.out _ _).mono ?_); rintro e w4 ⟨rfl, hb4⟩; have HK4 := Aside0.mk (blk_below HK3.out hb4); have HI4 := Aside0.mk (blk_below HI3.out hb4); have HR4 := Aside0.mk (blk_below HR.out hb4); have HB4 := Aside0.mk (below_step HB3.out hb4); clear hb4 c3)
    | ((with_reducible refine gate_in (N := 7) rfl ?_); refine alloc_in rfl 46 rfl (tranA z46) zero46 ?_; intro b7 hg w5 hbox hb5; have HL := Aside0.mk hbox; have HK5 := Aside0.mk (blk_below HK4.out hb5); have HI5 := Aside0.mk (blk_below HI4.out hb5); have HR5 := Aside0.mk (blk_below HR4.out hb5); have HB5 := Aside0.mk (below_step HB4.out hb5); have G7 := Aside0.mk (show w.heap.size < b7 ∧ b3 < b7 ∧ b4 < b7 from by rw [hg]; exact ⟨(Array.getElem?_eq_some_iff.1 HK4.out).1, (Array.getElem?_eq_some_iff.1 HI4.out).1, (Array.getElem?_eq_some_iff.1 HR4.out).1⟩); clear hbox hb5 hg; have c3 : w5.cell? ⟨b3, 0, none⟩ = some (.int .i64 at_) := (blk_cell HI5.out 0).trans rfl)
    | ((with_reducible refine gate_in (N := 16) rfl ?_); refine load_in rfl 39 _ rfl rfl HK5 Try.underlying39 rfl (size39 f) ?_)
    | ((with_reducible refine (about_in f at_ _ _).mono ?_); rintro e w6 ⟨g, h, rfl, hg6, hh6, hg, hh, hb6⟩; have HGH := Aside0.mk (show w5.heap.size ≤ g ∧ w5.heap.size ≤ h ∧ w6.heap[g]? = some (.cells (footA f) 39 (0, 0)) ∧ w6.heap[h]? = some (.cells #[.int .i64 at_] 2 (0, 0)) from ⟨hg6, hh6, hg, hh⟩); have HI6 := Aside0.mk (blk_below HI5.out hb6); have HR6 := Aside0.mk (blk_below HR5.out hb6); have HL6 := Aside0.mk (blk_below HL.out hb6); have HB6 := Aside0.mk (below_step HB5.out hb6); clear hb6 c3 hg6 hh6 hg hh))
  have HLT := Aside0.mk (show b3 < w6.heap.size ∧ b4 < w6.heap.size ∧ b7 < w6.heap.size ∧ g < w6.heap.size ∧ h < w6.heap.size ∧ w.heap.size < b3 ∧ b3 < b4 ∧ b4 < b7 ∧ b7 < g ∧ b7 < h from ⟨blk_lt' HI6.out, blk_lt' HR6.out, blk_lt' HL6.out, blk_lt' HGH.out.2.2.1, blk_lt' HGH.out.2.2.2, G3.out, G4.out.2, G7.out.2.2, Nat.lt_of_lt_of_le (blk_lt' HL.out) HGH.out.1, Nat.lt_of_lt_of_le (blk_lt' HL.out) HGH.out.2.1⟩)
  clear HK HK2 HK3 HK4 HK5 HI HI3 HI4 HI5 HR HR4 HR5 HB1 HB2 HB3 HB4 HB5 HL G3 G4 G7
  have H0 := Aside0.mk (show AtI f at_ w b3 b4 b7 w6.heap.size [] w6 from ⟨⟨⟨⟨⟨by simp, HL6.out⟩, HR6.out⟩, HI6.out⟩, HB6.out⟩, Nat.le_refl _⟩)
  refine wpIn_rangeFunc_ownH rfl (by omega) (gf := 36) (lb := #[.pointer (some ⟨h, 0, none⟩), .pointer (some ⟨g, 0, none⟩)]) rfl trivial (enters_of Try.func36 (by kernel_rfl) rfl)
    (about_stops k f at_ y T _ g h w6 HY.out h1 h2 HT.out HGH.out.2.2.1 HGH.out.2.2.2) same2_t (same2_b HLT.out.2.2.2.1 HLT.out.2.2.2.2.1) (Below.refl _ _) (fun _ => rfl)
    (AtI f at_ w b3 b4 b7 w6.heap.size) (AtX f at_ w b3 b4 b7 s (pairs T 5))
    (atI_own f at_ w b3 b4 b7 _ _ HB6.out.size) (fun c => atX_own f at_ w b3 b4 b7 s _ c _ HB6.out.size) H0.out
    (fun x a' W => ∃ Bx, w6.heap.size ≤ Bx ∧ W.heap[Bx]? = some (.cells (tranA x) 46 (0, 0)) ∧ a' = { tmps := #[.agg (footA f), .int .i64 at_, .pointer (some ⟨w.heap.size, 0, none⟩), .pointer (some ⟨b3, 0, none⟩), .pointer (some ⟨b4, 0, none⟩), .int .i64 0, .int .i64 0, .pointer (some ⟨b7, 0, none⟩), .pointer (some ⟨Bx, 0, none⟩), .agg (footA f), .int .i64 at_, .int .i64 0, .int .i64 0, .bool false, undef, undef, .agg (footA f), .int .i64 at_, .func (.func 36) #[] #[.pointer (some ⟨h, 0, none⟩), .pointer (some ⟨g, 0, none⟩)], tranV x, undef, undef, undef, undef, undef, undef], defers := [] })
    (fun x a' _ X Y row hs hg hr => by obtain ⟨Bx, e1, e2, e3⟩ := hs; exact ⟨Bx, e1, blk_own Bx 46 (fun (_ : Unit) => tranA x) () X Y row e2 hg (fun r e => (hr r e).2), e3⟩)
    ?assign ?body ?done ?stop
  case assign =>
    rintro l pre x W K hI hK
    have HI0 := Aside0.mk hI
    have HKK := Aside0.mk hK
    clear hI hK
    gi_wp2_with (first
      | ((with_reducible refine gate_in (N := 8) rfl ?_); refine alloc_in rfl 46 rfl (tranA z46) zero46 ?_; intro Bx hg w1 hbox hb1; have HX := Aside0.mk hbox; have HW1 := Aside0.mk hb1; have GX := Aside0.mk hg; clear hbox hb1 hg)
      | ((with_reducible refine gate_sin (t := 46) (p := 8) rfl ?_); refine store_in rfl 46 (.tmp 8) (.tmp 19) rfl (D := tranA x) (by simp [Act.eval, Act.put]) (by simp [Act.eval, Act.put, tranV_eq]) HX rfl (size46 _) (one_tran _) ?_; intro w2 hput hko; have HP := Aside0.mk hput; have HKO := Aside0.mk hko; clear hput hko))
    obtain ⟨⟨⟨⟨⟨e1, e2⟩, e3⟩, e4⟩, e5⟩, e6⟩ := HI0.out
    have hX := GX.out
    have L := HLT.out
    have hne : ∀ k, k < W.heap.size → w2.heap[k]? = W.heap[k]? := fun k hk => (HP.out.other k (by omega)).trans (HW1.out.block k hk)
    exact HKK.out _ _ ((keeps_below HW1.out).trans (HKO.out.from _)) ⟨hne g (by omega), hne h (by omega)⟩
      ⟨⟨⟨⟨⟨e1, (hne b7 (blk_lt' e2)).trans e2⟩, (hne b4 (blk_lt' e3)).trans e3⟩, (hne b3 (blk_lt' e4)).trans e4⟩, HP.out.below _ _ (by have := e5.size; omega) (below_step e5 HW1.out)⟩, by have := HW1.out.size; rw [HP.out.size]; omega⟩
      ⟨Bx, by omega, HP.out.box, by simp [Act.put]⟩
  case body =>
    rintro l pre x a' W hl _ hI ⟨Bx, hBx, hX, rfl⟩ hlen
    have HI0 := Aside0.mk hI
    have HX := Aside0.mk hX
    have GX := Aside0.mk (And.intro hBx hl)
    clear hI hX hBx hl hlen
    have q0 : W.cell? ⟨Bx, 0, none⟩ = some (.int .i64 x.f0) := (blk_cell HX.out 0).trans rfl
    have q3 : W.cell? ⟨b3, 0, none⟩ = some (.int .i64 at_) := (blk_cell HI0.out.1.1.2 0).trans rfl
    have H7 := Aside0.mk HI0.out.1.1.1.1.2
    by_cases hc : x.f0 > at_
    · have t1 : decide (x.f0 > at_) = true := decide_eq_true hc
      have HC := Aside0.mk hc
      clear hc
      gi_wp2
      exact ⟨KeepsFrom.refl _ _, ⟨⟨rfl, fun _ => trivial, pre, x, rfl, HI0.out.1.1.1.1.1, HC.out, HI0.out.1.1.1.1.2⟩, HI0.out.1.1.1.2⟩, HI0.out.1.2⟩
    · have t1 : decide (x.f0 > at_) = false := decide_eq_false hc
      have HC := Aside0.mk hc
      clear hc
      gi_wp2_with (first
        | ((with_reducible refine gate_in (N := 24) rfl ?_); refine load_in rfl 46 _ rfl rfl HX Try.underlying46 rfl (size46 x) ?_)
        | ((with_reducible refine gate_sin (t := 46) (p := 7) rfl ?_); refine store_in rfl 46 (.tmp 7) (.tmp 24) rfl (D := tranA x) rfl rfl H7 rfl (size46 _) (one_tran _) ?_; intro w2 hput hko; have HP := Aside0.mk hput; have HKO := Aside0.mk hko; clear hput hko))
      obtain ⟨⟨⟨⟨⟨e1, e2⟩, e3⟩, e4⟩, e5⟩, e6⟩ := HI0.out
      have L := HLT.out
      have hP := HP.out
      exact ⟨HKO.out.from _, ⟨hP.other g (by omega), hP.other h (by omega)⟩, ⟨⟨⟨⟨fun z hz => (List.mem_append.1 hz).elim (e1 z) (fun e => by simp at e; subst e; have := HC.out; omega), by rw [lastOf_snoc]; exact hP.box⟩, (hP.other b4 (by omega)).trans e3⟩, (hP.other b3 (by omega)).trans e4⟩, hP.below _ _ (by omega) e5⟩, by rw [hP.size]; exact e6⟩
  case done =>
    rintro D ys W hD rfl ⟨⟨⟨⟨⟨hp, _⟩, _⟩, _⟩, _⟩, _⟩ hK
    obtain ⟨x, hx, hlt⟩ := HN.out
    have := hp x hx
    omega
  case stop =>
    rintro D c pre W hD hpre ⟨⟨⟨rfl, _, q, x, rfl, e2, e3, e4⟩, e5⟩, e6⟩ hK
    have HQ := Aside0.mk (HS.out q x hpre e2 e3)
    have H7 := Aside0.mk e4
    have H4 := Aside0.mk e5
    have H6 := Aside0.mk e6
    have HKD := Aside0.mk (And.intro hD hK)
    clear hpre e2 e3 e4 e5 e6 hD hK
    gi_wp2_with (first
      | ((with_reducible refine gate_in (N := 25) rfl ?_); refine load_in rfl 46 _ rfl rfl H7 Try.underlying46 rfl (size46 _) ?_)
      | ((with_reducible refine gate_sin (t := 46) (p := 4) rfl ?_); refine store_in rfl 46 (.tmp 4) (.tmp 25) rfl (D := tranA (lastOf q)) rfl rfl H4 rfl (size46 _) (one_tran _) ?_; intro w2 hput hko; have HP := Aside0.mk hput; have HKO := Aside0.mk hko; clear hput hko))
    have hK' := HKO.out.same D _ HKD.out.2 rfl
    have L := HLT.out
    have hne : b4 ≠ D := by have := HKD.out.1; omega
    refine ⟨by simp, .inl ⟨_, _, rfl, run_takeDeferred hK', ?_⟩⟩
    have hb := (grownBy_putObj' w2 D (.deferred none)).block b4 (blk_lt' HP.out.box) (by intro e; cases e; exact hne rfl)
    refine ⟨_, results_ct rfl _ _ b4 46 (tranA (lastOf q)) (0, 0) _ rfl (hb.trans HP.out.box) Try.underlying46 rfl (size46 _), by rw [HQ.out]; rfl, ?_⟩
    exact (HP.out.below _ _ (by omega) H6.out).trans (belowK_b (w := w) (Nat.le_refl _) _ D _ _ (by have := HKD.out.1; omega) hK' rfl rfl)
end Go.Proofs.Ytehoammeaimobaa.D
