/- Hand contract of when.TextAt: a time as a text, or that it can not be. -/
import Derived.Test.YtehoammeaimobaaDx3
import Derived.Test.YtehoammeaimobaaDx4
import Derived.Deep.MidRow
set_option linter.unusedVariables false
namespace Go.Proofs.Ytehoammeaimobaa.D
open Go.RowKit Go.Proofs.YtehoammeaimobaaW.PrintWords Go.Proofs.YtehoammeaimobaaW.PrintLast Go.Proofs.YtehoammeaimobaaW.PrintMore

def at1 (a b : ByteArray) : ByteArray := if bt ((a ++ ⟨#[58]⟩) ++ b) 0 = 48 then ((a ++ ⟨#[58]⟩) ++ b).extract 1 ((a ++ ⟨#[58]⟩) ++ b).size else (a ++ ⟨#[58]⟩) ++ b
def at2 (s : Int) (a b c : ByteArray) : ByteArray := if Int.tmod s 60 = 0 then at1 a b else at1 a b ++ ((⟨#[58]⟩ : ByteArray) ++ c)
def atText (s k : Int) (a b c : ByteArray) : ByteArray := if k = 119 then at2 s a b c else if k = 115 then at2 s a b c ++ ⟨#[115]⟩ else at2 s a b c ++ ⟨#[117]⟩

def when_TextAt.f (a0 a1 : Int) : Option (ByteArray × Int) :=
  (when_At_right.f a0 a1).bind fun t => if t = true then ((clock_Two.f (Int.tdiv a0 3600)).bind fun a => ((clock_Two.f (Int.tmod (Int.tdiv a0 60) 60)).bind fun b => ((clock_Two.f (Int.tmod a0 60)).bind fun c => if a.size ≤ 1000 ∧ b.size ≤ 1000 ∧ c.size ≤ 1000 then some (atText a0 a1 a b c, 0) else none))) else some (⟨#[]⟩, 1)

set_option maxHeartbeats 8000000 in
theorem TextAt_no (s k : Int) (w : World) (h : when_At_right.f s k = some false) : Calls Try.prog 39 #[.agg #[.int .i64 s, .int .u8 k]] w fun e w' => e = .returned (.tuple #[.string ⟨#[]⟩, .int .i64 1]) ∧ Below w.heap.size w w' := by
  have HF := Aside0.mk h
  clear h
  go_enter Try.func39, Try.ntmps39
  go_wp2_with (fail)
  refine (when_At_right.calls s k false _ HF.out).mono ?_
  rintro e w1 ⟨rfl, hb1⟩
  have HB := Aside0.mk (below_then (below_alloc (Below.refl _ _) _) (by simp) hb1)
  clear hb1
  go_wp2_with (fail)
  go_ret2
  exact ⟨rfl, HB.out⟩

theorem wrap64_id (x : Int) (h0 : -9223372036854775808 ≤ x) (h1 : x ≤ 9223372036854775807) : IntKind.i64.wrap x = x := by
  rw [IntKind.wrap_i64]; omega

theorem cat_ok (a b : ByteArray) (h : a.size + b.size ≤ 9223372036854775807) : ∀ w : World, (Op.stringOp .add a b).run Try.prog w = .ok (.string (a ++ b)) w := fun w => run_string_add_sum w a b h

set_option maxHeartbeats 8000000 in
theorem TextAt_yes (s k : Int) (a b c : ByteArray) (w : World) (h : when_At_right.f s k = some true) (ha : clock_Two.f (Int.tdiv s 3600) = some a) (hb : clock_Two.f (Int.tmod (Int.tdiv s 60) 60) = some b) (hc : clock_Two.f (Int.tmod s 60) = some c)
    (sa : a.size ≤ 1000) (sb : b.size ≤ 1000) (sc : c.size ≤ 1000) (hs0 : 0 ≤ s) (hs1 : s ≤ 86400) (hk : k = 119 ∨ k = 115 ∨ k = 117) : Calls Try.prog 39 #[.agg #[.int .i64 s, .int .u8 k]] w fun e w' => e = .returned (.tuple #[.string (atText s k a b c), .int .i64 0]) ∧ Below w.heap.size w w' := by
  have e1 : IntKind.i64.wrap (s.tdiv 3600) = s.tdiv 3600 := by rw [Int.tdiv_eq_ediv_of_nonneg hs0]; exact wrap64_id _ (by omega) (by omega)
  have e2 : IntKind.i64.wrap (s.tdiv 60) = s.tdiv 60 := by rw [Int.tdiv_eq_ediv_of_nonneg hs0]; exact wrap64_id _ (by omega) (by omega)
  have e3 : s.tdiv 3600 = s / 3600 := Int.tdiv_eq_ediv_of_nonneg hs0
  have e4 : s.tdiv 60 = s / 60 := Int.tdiv_eq_ediv_of_nonneg hs0
  have e5 : (s / 60).tmod 60 = s / 60 % 60 := Int.tmod_eq_emod_of_nonneg (by omega)
  have e6 : s.tmod 60 = s % 60 := Int.tmod_eq_emod_of_nonneg hs0
  have ha2 : clock_Two.f (s / 3600) = some a := by rw [← e3]; exact ha
  have hb2 : clock_Two.f (s / 60 % 60) = some b := by rw [← e5, ← e4]; exact hb
  rw [← e1] at ha
  rw [← e2] at hb
  have HF := Aside0.mk h
  have HA := Aside0.mk ha
  have HA2 := Aside0.mk ha2
  have HBB := Aside0.mk hb
  have HBB2 := Aside0.mk hb2
  have HC := Aside0.mk hc
  have HK := Aside0.mk hk
  clear h ha hb hc hk e1 e2 e3 e4 e5 e6 ha2 hb2
  go_enter Try.func39, Try.ntmps39
  go_wp2_with (fail)
  refine (when_At_right.calls s k true _ HF.out).mono ?_
  rintro e w1 ⟨rfl, hb1⟩
  have k0 : w1.cell? ⟨w.heap.size, 0, none⟩ = some (.int .i64 s) := pw_cell_below hb1 (by simp [go_sem])
  have k1 : w1.cell? ⟨w.heap.size, 1, none⟩ = some (.int .u8 k) := pw_cell_below hb1 (by simp [go_sem])
  have HB := Aside0.mk (below_then (below_alloc (Below.refl _ _) _) (by simp) hb1)
  clear hb1
  have q1 := cat_ok a ⟨#[58]⟩ (by show a.size + 1 ≤ _; omega)
  have q2 := cat_ok (a ++ ⟨#[58]⟩) b (by rw [ByteArray.size_append]; show a.size + 1 + b.size ≤ _; omega)
  go_wp2_with (fail)
  go_region_held3 (fun w' => w'.cell? ⟨w.heap.size, 0, none⟩ = some (.int .i64 s) ∧ w'.cell? ⟨w.heap.size, 1, none⟩ = some (.int .u8 k) ∧ Below w1.heap.size w1 w')
    (first | exact ⟨k0, k1, below_drew (Below.refl _ _)⟩ | (go_split_ands; refine ⟨pw_cell_below hb2 (by assumption), pw_cell_below hb2 (by assumption), below_then (w1 := _) (by assumption) (Below.size (by assumption)) hb2⟩) | (go_split_ands; refine ⟨by assumption, by assumption, by assumption⟩))
    (first | (go_at_call 56; (with_reducible refine (clock_Two.calls _ a _ HA.out).mono ?_); rintro e w2 ⟨rfl, hb2⟩) | (go_at_call 56; (with_reducible refine (clock_Two.calls _ b _ HBB.out).mono ?_); rintro e w2 ⟨rfl, hb2⟩) | (go_at_call 56; (with_reducible refine (clock_Two.calls _ a _ HA2.out).mono ?_); rintro e w2 ⟨rfl, hb2⟩) | (go_at_call 56; (with_reducible refine (clock_Two.calls _ b _ HBB2.out).mono ?_); rintro e w2 ⟨rfl, hb2⟩))
  go_split_ands
  have l0 : w2.cell? ⟨w.heap.size, 0, none⟩ = some (.int .i64 s) := by assumption
  have l1 : w2.cell? ⟨w.heap.size, 1, none⟩ = some (.int .u8 k) := by assumption
  have hB2 : Below w1.heap.size w1 w2 := by assumption
  have HB2 := Aside0.mk (below_then HB.out HB.out.size hB2)
  clear hB2 HB k0 k1 q1 q2
  obtain ⟨W, hW⟩ : ∃ W, W = w2 := ⟨_, rfl⟩
  rw [← hW] at l0 l1 HB2 ⊢
  clear hW
  have hz : ((a ++ ⟨#[58]⟩) ++ b).size = a.size + 1 + b.size := by rw [ByteArray.size_append, ByteArray.size_append]; rfl
  have hA1 : at1 a b = (if bt ((a ++ ⟨#[58]⟩) ++ b) 0 = 48 then ((a ++ ⟨#[58]⟩) ++ b).extract 1 ((a ++ ⟨#[58]⟩) ++ b).size else (a ++ ⟨#[58]⟩) ++ b) := rfl
  generalize hcat : (a ++ ⟨#[58]⟩) ++ b = s1 at *
  have hs1a : 0 < s1.size := by omega
  have hs1b : s1.size ≤ 2001 := by omega
  have h60 : s.tmod 60 = s % 60 := Int.tmod_eq_emod_of_nonneg hs0
  have hbt : bt s1 0 = (s1[0].toNat : Int) := (bt_at s1 0 hs1a).symm
  rw [hbt] at hA1
  clear hz hcat hbt
  have qx := cat_ok ⟨#[58]⟩ c (by show 1 + c.size ≤ _; omega)
  have hcc : ((⟨#[58]⟩ : ByteArray) ++ c).size = 1 + c.size := by rw [ByteArray.size_append]; rfl
  by_cases h48 : (s1[0].toNat : Int) = 48
  · rw [if_pos h48] at hA1
    have e48 : ((s1[0].toNat : Int) == 48) = true := beq_iff_eq.2 h48
    have hE : (s1.extract 1 s1.size).size ≤ 2001 := by rw [ByteArray.size_extract]; omega
    have hE1 : 1 ≤ s1.size := hs1a
    have hE2 := hs1a
    have HE : ∃ E, at1 a b = E ∧ s1.extract 1 s1.size = E ∧ E.size ≤ 2001 := ⟨_, hA1, rfl, hE⟩
    clear hA1 h48
    obtain ⟨E, hA1, hEE, hE3⟩ := HE
    by_cases h0 : s % 60 = 0
    · have e0 : (s % 60 != 0) = false := by rw [h0]; rfl
      have hA2 : at2 s a b c = E := by unfold at2; rw [h60, if_pos h0, hA1]
      clear h0 hA1
      rcases HK.out with rfl | rfl | rfl
      · have hres : atText s 119 a b c = E := by unfold atText; rw [if_pos rfl]; exact hA2
        have HRES := Aside0.mk hres
        clear hres hA2
        go_wp2_with (fail)
        go_ret2
        exact ⟨by rw [HRES.out]; rfl, HB2.out⟩
      · have hres : atText s 115 a b c = E ++ (⟨#[115]⟩ : ByteArray) := by unfold atText; rw [if_neg (by decide), if_pos rfl, hA2]
        have qy := cat_ok (E) ⟨#[115]⟩ (by show E.size + 1 ≤ _; omega)
        have hut : Utf8.encode (wrap32 115) = (⟨#[115]⟩ : ByteArray) := by kernel_rfl
        have hut2 : Utf8.encode 115 = (⟨#[115]⟩ : ByteArray) := by kernel_rfl
        have HRES := Aside0.mk hres
        clear hres hA2
        go_wp2_with (fail)
        go_ret2
        exact ⟨by rw [HRES.out]; rfl, HB2.out⟩
      · have hres : atText s 117 a b c = E ++ (⟨#[117]⟩ : ByteArray) := by unfold atText; rw [if_neg (by decide), if_neg (by decide), hA2]
        have qy := cat_ok (E) ⟨#[117]⟩ (by show E.size + 1 ≤ _; omega)
        have hut : Utf8.encode (wrap32 117) = (⟨#[117]⟩ : ByteArray) := by kernel_rfl
        have hut2 : Utf8.encode 117 = (⟨#[117]⟩ : ByteArray) := by kernel_rfl
        have HRES := Aside0.mk hres
        clear hres hA2
        go_wp2_with (fail)
        go_ret2
        exact ⟨by rw [HRES.out]; rfl, HB2.out⟩
    · have e0 : (s % 60 != 0) = true := bne_iff_ne.2 h0
      have hA2 : at2 s a b c = E ++ ((⟨#[58]⟩ : ByteArray) ++ c) := by unfold at2; rw [h60, if_neg h0, hA1]
      have qz := cat_ok E ((⟨#[58]⟩ : ByteArray) ++ c) (by rw [hcc]; omega)
      have HC2 := Aside0.mk (show clock_Two.f (s % 60) = some c from h60 ▸ HC.out)
      clear h0 hA1
      rcases HK.out with rfl | rfl | rfl
      · have hres : atText s 119 a b c = E ++ ((⟨#[58]⟩ : ByteArray) ++ c) := by unfold atText; rw [if_pos rfl]; exact hA2
        have HRES := Aside0.mk hres
        clear hres hA2
        go_wp2_with (fail)
        refine (clock_Two.calls _ c _ HC2.out).mono ?_
        rintro e w3 ⟨rfl, hb3⟩
        have HB3 := Aside0.mk (below_then HB2.out HB2.out.size hb3)
        have m1 : w3.cell? ⟨w.heap.size, 1, none⟩ = some (.int .u8 119) := pw_cell_below hb3 l1
        clear hb3 HB2 l1 l0
        go_wp2_with (fail)
        go_ret2
        exact ⟨by rw [HRES.out]; rfl, HB3.out⟩
      · have hres : atText s 115 a b c = E ++ ((⟨#[58]⟩ : ByteArray) ++ c) ++ (⟨#[115]⟩ : ByteArray) := by unfold atText; rw [if_neg (by decide), if_pos rfl, hA2]
        have qy := cat_ok (E ++ ((⟨#[58]⟩ : ByteArray) ++ c)) ⟨#[115]⟩ (by rw [ByteArray.size_append, hcc]; show _ + 1 ≤ _; omega)
        have hut : Utf8.encode (wrap32 115) = (⟨#[115]⟩ : ByteArray) := by kernel_rfl
        have hut2 : Utf8.encode 115 = (⟨#[115]⟩ : ByteArray) := by kernel_rfl
        have HRES := Aside0.mk hres
        clear hres hA2
        go_wp2_with (fail)
        refine (clock_Two.calls _ c _ HC2.out).mono ?_
        rintro e w3 ⟨rfl, hb3⟩
        have HB3 := Aside0.mk (below_then HB2.out HB2.out.size hb3)
        have m1 : w3.cell? ⟨w.heap.size, 1, none⟩ = some (.int .u8 115) := pw_cell_below hb3 l1
        clear hb3 HB2 l1 l0
        go_wp2_with (fail)
        go_ret2
        exact ⟨by rw [HRES.out]; rfl, HB3.out⟩
      · have hres : atText s 117 a b c = E ++ ((⟨#[58]⟩ : ByteArray) ++ c) ++ (⟨#[117]⟩ : ByteArray) := by unfold atText; rw [if_neg (by decide), if_neg (by decide), hA2]
        have qy := cat_ok (E ++ ((⟨#[58]⟩ : ByteArray) ++ c)) ⟨#[117]⟩ (by rw [ByteArray.size_append, hcc]; show _ + 1 ≤ _; omega)
        have hut : Utf8.encode (wrap32 117) = (⟨#[117]⟩ : ByteArray) := by kernel_rfl
        have hut2 : Utf8.encode 117 = (⟨#[117]⟩ : ByteArray) := by kernel_rfl
        have HRES := Aside0.mk hres
        clear hres hA2
        go_wp2_with (fail)
        refine (clock_Two.calls _ c _ HC2.out).mono ?_
        rintro e w3 ⟨rfl, hb3⟩
        have HB3 := Aside0.mk (below_then HB2.out HB2.out.size hb3)
        have m1 : w3.cell? ⟨w.heap.size, 1, none⟩ = some (.int .u8 117) := pw_cell_below hb3 l1
        clear hb3 HB2 l1 l0
        go_wp2_with (fail)
        go_ret2
        exact ⟨by rw [HRES.out]; rfl, HB3.out⟩
  · rw [if_neg h48] at hA1
    have e48 : ((s1[0].toNat : Int) == 48) = false := beq_eq_false_iff_ne.2 h48
    have HE : ∃ E, at1 a b = E ∧ s1 = E ∧ E.size ≤ 2001 := ⟨_, hA1, rfl, hs1b⟩
    clear hA1 h48
    obtain ⟨E, hA1, hEE, hE3⟩ := HE
    subst hEE
    by_cases h0 : s % 60 = 0
    · have e0 : (s % 60 != 0) = false := by rw [h0]; rfl
      have hA2 : at2 s a b c = s1 := by unfold at2; rw [h60, if_pos h0, hA1]
      clear h0 hA1
      rcases HK.out with rfl | rfl | rfl
      · have hres : atText s 119 a b c = s1 := by unfold atText; rw [if_pos rfl]; exact hA2
        have HRES := Aside0.mk hres
        clear hres hA2
        go_wp2_with (fail)
        go_ret2
        exact ⟨by rw [HRES.out]; rfl, HB2.out⟩
      · have hres : atText s 115 a b c = s1 ++ (⟨#[115]⟩ : ByteArray) := by unfold atText; rw [if_neg (by decide), if_pos rfl, hA2]
        have qy := cat_ok (s1) ⟨#[115]⟩ (by show s1.size + 1 ≤ _; omega)
        have hut : Utf8.encode (wrap32 115) = (⟨#[115]⟩ : ByteArray) := by kernel_rfl
        have hut2 : Utf8.encode 115 = (⟨#[115]⟩ : ByteArray) := by kernel_rfl
        have HRES := Aside0.mk hres
        clear hres hA2
        go_wp2_with (fail)
        go_ret2
        exact ⟨by rw [HRES.out]; rfl, HB2.out⟩
      · have hres : atText s 117 a b c = s1 ++ (⟨#[117]⟩ : ByteArray) := by unfold atText; rw [if_neg (by decide), if_neg (by decide), hA2]
        have qy := cat_ok (s1) ⟨#[117]⟩ (by show s1.size + 1 ≤ _; omega)
        have hut : Utf8.encode (wrap32 117) = (⟨#[117]⟩ : ByteArray) := by kernel_rfl
        have hut2 : Utf8.encode 117 = (⟨#[117]⟩ : ByteArray) := by kernel_rfl
        have HRES := Aside0.mk hres
        clear hres hA2
        go_wp2_with (fail)
        go_ret2
        exact ⟨by rw [HRES.out]; rfl, HB2.out⟩
    · have e0 : (s % 60 != 0) = true := bne_iff_ne.2 h0
      have hA2 : at2 s a b c = s1 ++ ((⟨#[58]⟩ : ByteArray) ++ c) := by unfold at2; rw [h60, if_neg h0, hA1]
      have qz := cat_ok s1 ((⟨#[58]⟩ : ByteArray) ++ c) (by rw [hcc]; omega)
      have HC2 := Aside0.mk (show clock_Two.f (s % 60) = some c from h60 ▸ HC.out)
      clear h0 hA1
      rcases HK.out with rfl | rfl | rfl
      · have hres : atText s 119 a b c = s1 ++ ((⟨#[58]⟩ : ByteArray) ++ c) := by unfold atText; rw [if_pos rfl]; exact hA2
        have HRES := Aside0.mk hres
        clear hres hA2
        go_wp2_with (fail)
        refine (clock_Two.calls _ c _ HC2.out).mono ?_
        rintro e w3 ⟨rfl, hb3⟩
        have HB3 := Aside0.mk (below_then HB2.out HB2.out.size hb3)
        have m1 : w3.cell? ⟨w.heap.size, 1, none⟩ = some (.int .u8 119) := pw_cell_below hb3 l1
        clear hb3 HB2 l1 l0
        go_wp2_with (fail)
        go_ret2
        exact ⟨by rw [HRES.out]; rfl, HB3.out⟩
      · have hres : atText s 115 a b c = s1 ++ ((⟨#[58]⟩ : ByteArray) ++ c) ++ (⟨#[115]⟩ : ByteArray) := by unfold atText; rw [if_neg (by decide), if_pos rfl, hA2]
        have qy := cat_ok (s1 ++ ((⟨#[58]⟩ : ByteArray) ++ c)) ⟨#[115]⟩ (by rw [ByteArray.size_append, hcc]; show _ + 1 ≤ _; omega)
        have hut : Utf8.encode (wrap32 115) = (⟨#[115]⟩ : ByteArray) := by kernel_rfl
        have hut2 : Utf8.encode 115 = (⟨#[115]⟩ : ByteArray) := by kernel_rfl
        have HRES := Aside0.mk hres
        clear hres hA2
        go_wp2_with (fail)
        refine (clock_Two.calls _ c _ HC2.out).mono ?_
        rintro e w3 ⟨rfl, hb3⟩
        have HB3 := Aside0.mk (below_then HB2.out HB2.out.size hb3)
        have m1 : w3.cell? ⟨w.heap.size, 1, none⟩ = some (.int .u8 115) := pw_cell_below hb3 l1
        clear hb3 HB2 l1 l0
        go_wp2_with (fail)
        go_ret2
        exact ⟨by rw [HRES.out]; rfl, HB3.out⟩
      · have hres : atText s 117 a b c = s1 ++ ((⟨#[58]⟩ : ByteArray) ++ c) ++ (⟨#[117]⟩ : ByteArray) := by unfold atText; rw [if_neg (by decide), if_neg (by decide), hA2]
        have qy := cat_ok (s1 ++ ((⟨#[58]⟩ : ByteArray) ++ c)) ⟨#[117]⟩ (by rw [ByteArray.size_append, hcc]; show _ + 1 ≤ _; omega)
        have hut : Utf8.encode (wrap32 117) = (⟨#[117]⟩ : ByteArray) := by kernel_rfl
        have hut2 : Utf8.encode 117 = (⟨#[117]⟩ : ByteArray) := by kernel_rfl
        have HRES := Aside0.mk hres
        clear hres hA2
        go_wp2_with (fail)
        refine (clock_Two.calls _ c _ HC2.out).mono ?_
        rintro e w3 ⟨rfl, hb3⟩
        have HB3 := Aside0.mk (below_then HB2.out HB2.out.size hb3)
        have m1 : w3.cell? ⟨w.heap.size, 1, none⟩ = some (.int .u8 117) := pw_cell_below hb3 l1
        clear hb3 HB2 l1 l0
        go_wp2_with (fail)
        go_ret2
        exact ⟨by rw [HRES.out]; rfl, HB3.out⟩
theorem At_right_yes {s k : Int} (h : when_At_right.f s k = some true) : 0 ≤ s ∧ s ≤ 86400 ∧ (k = 119 ∨ k = 115 ∨ k = 117) := by
  unfold when_At_right.f at h
  by_cases h0 : s ≥ 0
  · rw [if_pos h0] at h
    by_cases h1 : s ≤ 86400
    · rw [if_pos h1] at h
      refine ⟨h0, h1, ?_⟩
      by_cases h2 : k = 119
      · exact .inl h2
      · rw [if_neg h2] at h
        by_cases h3 : k = 115
        · exact .inr (.inl h3)
        · rw [if_neg h3] at h
          exact .inr (.inr (by simpa using h))
    · rw [if_neg h1] at h; cases h
  · rw [if_neg h0] at h; cases h

theorem when_TextAt.calls (a0_0 : Int) (a0_1 : Int) (r1 : ByteArray) (r2 : Int) (w : World) (h : when_TextAt.f a0_0 a0_1 = some (r1, r2)) :
    Calls Try.prog 39 #[.agg #[.int .i64 a0_0, .int .u8 a0_1]] w fun e w' => e = .returned (.tuple #[.string r1, .int .i64 r2]) ∧ Below w.heap.size w w' := by
  unfold when_TextAt.f at h
  obtain ⟨t, ht, h⟩ := Option.bind_eq_some_iff.1 h
  cases t with
  | false =>
    rw [if_neg Bool.false_ne_true] at h
    simp only [Option.some.injEq, Prod.mk.injEq] at h
    obtain ⟨rfl, rfl⟩ := h
    exact TextAt_no _ _ w ht
  | true =>
    rw [if_pos rfl] at h
    obtain ⟨a, ha, h⟩ := Option.bind_eq_some_iff.1 h
    obtain ⟨b, hb, h⟩ := Option.bind_eq_some_iff.1 h
    obtain ⟨c, hc, h⟩ := Option.bind_eq_some_iff.1 h
    by_cases hsz : a.size ≤ 1000 ∧ b.size ≤ 1000 ∧ c.size ≤ 1000
    · rw [if_pos hsz] at h
      simp only [Option.some.injEq, Prod.mk.injEq] at h
      obtain ⟨rfl, rfl⟩ := h
      obtain ⟨h0, h1, hk⟩ := At_right_yes ht
      exact TextAt_yes _ _ a b c w ht ha hb hc hsz.1 hsz.2.1 hsz.2.2 h0 h1 hk
    · rw [if_neg hsz] at h; cases h
end Go.Proofs.Ytehoammeaimobaa.D
