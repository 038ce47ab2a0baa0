/- Hand contract of when.TextOn: a day of a month as a text, or that it can not be. -/
import Derived.Test.YtehoammeaimobaaHForm
import Derived.Test.YtehoammeaimobaaDx2
import Derived.Test.YtehoammeaimobaaDx3
set_option linter.unusedVariables false
namespace Go.Proofs.Ytehoammeaimobaa.D
open Go.RowKit Go.Proofs.YtehoammeaimobaaW.PrintWords Go.Proofs.YtehoammeaimobaaW.PrintLast Go.Proofs.YtehoammeaimobaaW.PrintMore

/-- Can a day be? -/
def formOk (k d n : Int) : Bool := (k == 0 && d == 0 && dayOk n) || (k == 1 && n == 0 && wdOk d) || ((k == 2 || k == 3) && (wdOk d && dayOk n))

theorem formV_nil {k d n : Int} (h : formOk k d n = false) : formV k d n = .nilIface := by
  unfold formV
  simp only [formOk, Bool.or_eq_false_iff, Bool.and_eq_false_iff, beq_eq_false_iff_ne] at h
  obtain ⟨⟨h0, h1⟩, h2⟩ := h
  by_cases a0 : k = 0 ∧ d = 0
  · rw [if_pos a0, if_neg]; intro hd; rcases h0 with (h0 | h0) | h0
    · exact h0 a0.1
    · exact h0 a0.2
    · rw [hd] at h0; cases h0
  rw [if_neg a0]
  by_cases a1 : k = 1 ∧ n = 0
  · rw [if_pos a1, if_neg]; intro hd; rcases h1 with (h1 | h1) | h1
    · exact h1 a1.1
    · exact h1 a1.2
    · rw [hd] at h1; cases h1
  rw [if_neg a1]
  by_cases a2 : k = 2
  · rw [if_pos a2, if_neg]; intro hd; rcases h2 with h2 | h2
    · exact h2.1 a2
    · rw [Bool.and_eq_true] at hd; rcases h2 with h2 | h2
      · rw [hd.1] at h2; cases h2
      · rw [hd.2] at h2; cases h2
  rw [if_neg a2]
  by_cases a3 : k = 3
  · rw [if_pos a3, if_neg]; intro hd; rcases h2 with h2 | h2
    · exact h2.2 a3
    · rw [Bool.and_eq_true] at hd; rcases h2 with h2 | h2
      · rw [hd.1] at h2; cases h2
      · rw [hd.2] at h2; cases h2
  rw [if_neg a3]

/-- The weekdays' names. -/
def wdName (d : Int) : ByteArray := if d = 0 then ⟨#[83, 117, 110]⟩ else if d = 1 then ⟨#[77, 111, 110]⟩ else if d = 2 then ⟨#[84, 117, 101]⟩ else if d = 3 then ⟨#[87, 101, 100]⟩ else if d = 4 then ⟨#[84, 104, 117]⟩ else if d = 5 then ⟨#[70, 114, 105]⟩ else ⟨#[83, 97, 116]⟩

def onText (k d : Int) (u : ByteArray) : ByteArray := if k = 1 then (⟨#[108, 97, 115, 116]⟩ : ByteArray) ++ wdName d else if k = 2 then (wdName d ++ ⟨#[62, 61]⟩) ++ u else if k = 3 then (wdName d ++ ⟨#[60, 61]⟩) ++ u else u

def when_TextOn.f (a0 a1 a2 : Int) : Option (ByteArray × Int) :=
  if formOk a0 a1 a2 = true then ((clock_Two.f a2).bind fun t => ((strings_TrimPrefix.f t ⟨#[48]⟩).bind fun u => if u.size ≤ 1000 then some (onText a0 a1 u, 0) else none)) else some (⟨#[]⟩, 1)

theorem idx91 (d : Int) (h0 : 0 ≤ d) (h1 : d ≤ 6) (w : World) : (Instr.index 91 (.agg #[.string ⟨#[83, 117, 110]⟩, .string ⟨#[77, 111, 110]⟩, .string ⟨#[84, 117, 101]⟩, .string ⟨#[87, 101, 100]⟩, .string ⟨#[84, 104, 117]⟩, .string ⟨#[70, 114, 105]⟩, .string ⟨#[83, 97, 116]⟩]) (.int .i64 d)).run Try.prog w = .ok (.string (wdName d)) w := by
  obtain rfl | rfl | rfl | rfl | rfl | rfl | rfl : d = 0 ∨ d = 1 ∨ d = 2 ∨ d = 3 ∨ d = 4 ∨ d = 5 ∨ d = 6 := by omega
  all_goals kernel_rfl
theorem wdName_size (d : Int) : (wdName d).size = 3 := by
  unfold wdName
  repeat' split
  all_goals rfl

set_option maxHeartbeats 8000000 in
theorem TextOn_no (k d n : Int) (w : World) (h : formOk k d n = false) : Calls Try.prog 38 #[.agg #[.int .i64 k, .int .i64 d, .int .i64 n]] w fun e w' => e = .returned (.tuple #[.string ⟨#[]⟩, .int .i64 1]) ∧ Below w.heap.size w w' := by
  have HF := Aside0.mk (formV_nil h)
  clear h
  go_enter Try.func38, Try.ntmps38
  go_wp2_with (fail)
  refine (form_calls k d n _).mono ?_
  rintro e w1 ⟨rfl, hb1⟩
  rw [HF.out]
  have HB := Aside0.mk (below_then (below_alloc (Below.refl _ _) _) (by simp) hb1)
  clear hb1
  go_wp2_with (fail)
  go_ret2
  exact ⟨rfl, HB.out⟩

set_option maxHeartbeats 8000000 in
theorem TextOn_plain (n : Int) (t u : ByteArray) (w : World) (h : dayOk n = true) (hsz : u.size ≤ 1000) (ht : clock_Two.f n = some t) (hu : strings_TrimPrefix.f t ⟨#[48]⟩ = some u) :
    Calls Try.prog 38 #[.agg #[.int .i64 0, .int .i64 0, .int .i64 n]] w fun e w' => e = .returned (.tuple #[.string (u), .int .i64 0]) ∧ Below w.heap.size w w' := by
  have hf : formV 0 0 n = .iface 79 (.int .i64 n) := by unfold formV; rw [if_pos ⟨rfl, rfl⟩, if_pos h]
  have HF := Aside0.mk hf
  have HT := Aside0.mk ht
  have HU := Aside0.mk hu
  have hix := idx91 0 (by decide) (by decide)
  rw [show wdName 0 = ⟨#[83, 117, 110]⟩ from rfl] at hix
  clear h hf ht hu
  go_enter Try.func38, Try.ntmps38
  go_wp2_with (fail)
  refine (form_calls 0 0 n _).mono ?_
  rintro e w1 ⟨rfl, hb1⟩
  rw [HF.out]
  have k0 : w1.cell? ⟨w.heap.size, 0, none⟩ = some (.int .i64 0) := pw_cell_below hb1 (by simp [go_sem])
  have k1 : w1.cell? ⟨w.heap.size, 1, none⟩ = some (.int .i64 0) := pw_cell_below hb1 (by simp [go_sem])
  have k2 : w1.cell? ⟨w.heap.size, 2, none⟩ = some (.int .i64 n) := pw_cell_below hb1 (by simp [go_sem])
  have HB := Aside0.mk (below_then (below_alloc (Below.refl _ _) _) (by simp) hb1)
  clear hb1
  go_wp2_with (fail)
  refine (clock_Two.calls _ t _ HT.out).mono ?_
  rintro e w2 ⟨rfl, hb2⟩
  have l0 : w2.cell? ⟨w.heap.size, 0, none⟩ = some (.int .i64 0) := pw_cell_below hb2 k0
  have HB2 := Aside0.mk (below_then HB.out HB.out.size hb2)
  clear hb2 HB k0 k1 k2
  go_wp2_with (fail)
  refine (strings_TrimPrefix.calls t _ u _ HU.out).mono ?_
  rintro e w3 ⟨rfl, hd3⟩
  have hb3 := hd3.below
  have m0 : w3.cell? ⟨w.heap.size, 0, none⟩ = some (.int .i64 0) := pw_cell_below hb3 l0
  have HB3 := Aside0.mk (below_then HB2.out HB2.out.size hb3)
  clear hb3 hd3 HB2 l0
  go_wp2_with (fail)
  go_ret2
  exact ⟨rfl, HB3.out⟩
set_option maxHeartbeats 8000000 in
theorem TextOn_last (d : Int) (t u : ByteArray) (w : World) (h : wdOk d = true) (hsz : u.size ≤ 1000) (ht : clock_Two.f 0 = some t) (hu : strings_TrimPrefix.f t ⟨#[48]⟩ = some u) :
    Calls Try.prog 38 #[.agg #[.int .i64 1, .int .i64 d, .int .i64 0]] w fun e w' => e = .returned (.tuple #[.string ((⟨#[108, 97, 115, 116]⟩ : ByteArray) ++ wdName d), .int .i64 0]) ∧ Below w.heap.size w w' := by
  have hf : formV 1 d 0 = .iface 81 (.int .i64 d) := by unfold formV; rw [if_neg (fun h => by cases h.1), if_pos ⟨rfl, rfl⟩, if_pos h]
  have HF := Aside0.mk hf
  have HT := Aside0.mk ht
  have HU := Aside0.mk hu
  have hd : 0 ≤ d ∧ d ≤ 6 := by simpa [wdOk] using h
  have hix := idx91 d hd.1 hd.2
  have hnm := wdName_size d
  clear h hf ht hu
  go_enter Try.func38, Try.ntmps38
  go_wp2_with (fail)
  refine (form_calls 1 d 0 _).mono ?_
  rintro e w1 ⟨rfl, hb1⟩
  rw [HF.out]
  have k0 : w1.cell? ⟨w.heap.size, 0, none⟩ = some (.int .i64 1) := pw_cell_below hb1 (by simp [go_sem])
  have k1 : w1.cell? ⟨w.heap.size, 1, none⟩ = some (.int .i64 d) := pw_cell_below hb1 (by simp [go_sem])
  have k2 : w1.cell? ⟨w.heap.size, 2, none⟩ = some (.int .i64 0) := pw_cell_below hb1 (by simp [go_sem])
  have HB := Aside0.mk (below_then (below_alloc (Below.refl _ _) _) (by simp) hb1)
  clear hb1
  go_wp2_with (fail)
  refine (clock_Two.calls _ t _ HT.out).mono ?_
  rintro e w2 ⟨rfl, hb2⟩
  have l0 : w2.cell? ⟨w.heap.size, 0, none⟩ = some (.int .i64 1) := pw_cell_below hb2 k0
  have HB2 := Aside0.mk (below_then HB.out HB.out.size hb2)
  clear hb2 HB k0 k1 k2
  go_wp2_with (fail)
  refine (strings_TrimPrefix.calls t _ u _ HU.out).mono ?_
  rintro e w3 ⟨rfl, hd3⟩
  have hb3 := hd3.below
  have m0 : w3.cell? ⟨w.heap.size, 0, none⟩ = some (.int .i64 1) := pw_cell_below hb3 l0
  have HB3 := Aside0.mk (below_then HB2.out HB2.out.size hb3)
  clear hb3 hd3 HB2 l0
  go_wp2_with (fail)
  go_ret2
  exact ⟨rfl, HB3.out⟩
set_option maxHeartbeats 8000000 in
theorem TextOn_behind (d n : Int) (t u : ByteArray) (w : World) (h : (wdOk d && dayOk n) = true) (hsz : u.size ≤ 1000) (ht : clock_Two.f n = some t) (hu : strings_TrimPrefix.f t ⟨#[48]⟩ = some u) :
    Calls Try.prog 38 #[.agg #[.int .i64 2, .int .i64 d, .int .i64 n]] w fun e w' => e = .returned (.tuple #[.string ((wdName d ++ ⟨#[62, 61]⟩) ++ u), .int .i64 0]) ∧ Below w.heap.size w w' := by
  have hf : formV 2 d n = .iface 85 (.agg #[.int .i64 d, .int .i64 n, .int .i64 1]) := by unfold formV; rw [if_neg (fun h => by cases h.1), if_neg (fun h => by cases h.1), if_pos rfl, if_pos h]
  have HF := Aside0.mk hf
  have HT := Aside0.mk ht
  have HU := Aside0.mk hu
  have hd : 0 ≤ d ∧ d ≤ 6 := by simpa [wdOk] using (Bool.and_eq_true _ _ ▸ h : wdOk d = true ∧ dayOk n = true).1
  have hix := idx91 d hd.1 hd.2
  have hnm := wdName_size d
  clear h hf ht hu
  go_enter Try.func38, Try.ntmps38
  go_wp2_with (fail)
  refine (form_calls 2 d n _).mono ?_
  rintro e w1 ⟨rfl, hb1⟩
  rw [HF.out]
  have k0 : w1.cell? ⟨w.heap.size, 0, none⟩ = some (.int .i64 2) := pw_cell_below hb1 (by simp [go_sem])
  have k1 : w1.cell? ⟨w.heap.size, 1, none⟩ = some (.int .i64 d) := pw_cell_below hb1 (by simp [go_sem])
  have k2 : w1.cell? ⟨w.heap.size, 2, none⟩ = some (.int .i64 n) := pw_cell_below hb1 (by simp [go_sem])
  have HB := Aside0.mk (below_then (below_alloc (Below.refl _ _) _) (by simp) hb1)
  clear hb1
  go_wp2_with (fail)
  refine (clock_Two.calls _ t _ HT.out).mono ?_
  rintro e w2 ⟨rfl, hb2⟩
  have l0 : w2.cell? ⟨w.heap.size, 0, none⟩ = some (.int .i64 2) := pw_cell_below hb2 k0
  have HB2 := Aside0.mk (below_then HB.out HB.out.size hb2)
  clear hb2 HB k0 k1 k2
  go_wp2_with (fail)
  refine (strings_TrimPrefix.calls t _ u _ HU.out).mono ?_
  rintro e w3 ⟨rfl, hd3⟩
  have hb3 := hd3.below
  have m0 : w3.cell? ⟨w.heap.size, 0, none⟩ = some (.int .i64 2) := pw_cell_below hb3 l0
  have HB3 := Aside0.mk (below_then HB2.out HB2.out.size hb3)
  clear hb3 hd3 HB2 l0
  go_wp2_with (fail)
  go_ret2
  exact ⟨rfl, HB3.out⟩
set_option maxHeartbeats 8000000 in
theorem TextOn_ahead (d n : Int) (t u : ByteArray) (w : World) (h : (wdOk d && dayOk n) = true) (hsz : u.size ≤ 1000) (ht : clock_Two.f n = some t) (hu : strings_TrimPrefix.f t ⟨#[48]⟩ = some u) :
    Calls Try.prog 38 #[.agg #[.int .i64 3, .int .i64 d, .int .i64 n]] w fun e w' => e = .returned (.tuple #[.string ((wdName d ++ ⟨#[60, 61]⟩) ++ u), .int .i64 0]) ∧ Below w.heap.size w w' := by
  have hf : formV 3 d n = .iface 85 (.agg #[.int .i64 d, .int .i64 n, .int .i64 (-1)]) := by unfold formV; rw [if_neg (fun h => by cases h.1), if_neg (fun h => by cases h.1), if_neg (by decide), if_pos rfl, if_pos h]
  have HF := Aside0.mk hf
  have HT := Aside0.mk ht
  have HU := Aside0.mk hu
  have hd : 0 ≤ d ∧ d ≤ 6 := by simpa [wdOk] using (Bool.and_eq_true _ _ ▸ h : wdOk d = true ∧ dayOk n = true).1
  have hix := idx91 d hd.1 hd.2
  have hnm := wdName_size d
  clear h hf ht hu
  go_enter Try.func38, Try.ntmps38
  go_wp2_with (fail)
  refine (form_calls 3 d n _).mono ?_
  rintro e w1 ⟨rfl, hb1⟩
  rw [HF.out]
  have k0 : w1.cell? ⟨w.heap.size, 0, none⟩ = some (.int .i64 3) := pw_cell_below hb1 (by simp [go_sem])
  have k1 : w1.cell? ⟨w.heap.size, 1, none⟩ = some (.int .i64 d) := pw_cell_below hb1 (by simp [go_sem])
  have k2 : w1.cell? ⟨w.heap.size, 2, none⟩ = some (.int .i64 n) := pw_cell_below hb1 (by simp [go_sem])
  have HB := Aside0.mk (below_then (below_alloc (Below.refl _ _) _) (by simp) hb1)
  clear hb1
  go_wp2_with (fail)
  refine (clock_Two.calls _ t _ HT.out).mono ?_
  rintro e w2 ⟨rfl, hb2⟩
  have l0 : w2.cell? ⟨w.heap.size, 0, none⟩ = some (.int .i64 3) := pw_cell_below hb2 k0
  have HB2 := Aside0.mk (below_then HB.out HB.out.size hb2)
  clear hb2 HB k0 k1 k2
  go_wp2_with (fail)
  refine (strings_TrimPrefix.calls t _ u _ HU.out).mono ?_
  rintro e w3 ⟨rfl, hd3⟩
  have hb3 := hd3.below
  have m0 : w3.cell? ⟨w.heap.size, 0, none⟩ = some (.int .i64 3) := pw_cell_below hb3 l0
  have HB3 := Aside0.mk (below_then HB2.out HB2.out.size hb3)
  clear hb3 hd3 HB2 l0
  go_wp2_with (fail)
  go_ret2
  exact ⟨rfl, HB3.out⟩
theorem formOk_cases {k d n : Int} (h : formOk k d n = true) : (k = 0 ∧ d = 0 ∧ dayOk n = true) ∨ (k = 1 ∧ n = 0 ∧ wdOk d = true) ∨ ((k = 2 ∨ k = 3) ∧ (wdOk d && dayOk n) = true) := by
  simp only [formOk, Bool.or_eq_true, Bool.and_eq_true, beq_iff_eq] at h ⊢
  rcases h with (h | h) | h
  · exact .inl ⟨h.1.1, h.1.2, h.2⟩
  · exact .inr (.inl ⟨h.1.1, h.1.2, h.2⟩)
  · exact .inr (.inr h)

theorem when_TextOn.calls (a0_0 : Int) (a0_1 : Int) (a0_2 : Int) (r1 : ByteArray) (r2 : Int) (w : World) (h : when_TextOn.f a0_0 a0_1 a0_2 = some (r1, r2)) :
    Calls Try.prog 38 #[.agg #[.int .i64 a0_0, .int .i64 a0_1, .int .i64 a0_2]] w fun e w' => e = .returned (.tuple #[.string r1, .int .i64 r2]) ∧ Below w.heap.size w w' := by
  unfold when_TextOn.f at h
  by_cases hok : formOk a0_0 a0_1 a0_2 = true
  · rw [if_pos hok] at h
    obtain ⟨t, ht, h⟩ := Option.bind_eq_some_iff.1 h
    obtain ⟨u, hu, h⟩ := Option.bind_eq_some_iff.1 h
    by_cases hsz : u.size ≤ 1000
    · rw [if_pos hsz] at h
      simp only [Option.some.injEq, Prod.mk.injEq] at h
      obtain ⟨rfl, rfl⟩ := h
      rcases formOk_cases hok with ⟨rfl, rfl, hq⟩ | ⟨rfl, rfl, hq⟩ | ⟨rfl | rfl, hq⟩
      · exact TextOn_plain _ t u w hq hsz ht hu
      · exact TextOn_last _ t u w hq hsz ht hu
      · exact TextOn_behind _ _ t u w hq hsz ht hu
      · exact TextOn_ahead _ _ t u w hq hsz ht hu
    · rw [if_neg hsz] at h; cases h
  · rw [if_neg hok] at h
    simp only [Option.some.injEq, Prod.mk.injEq] at h
    obtain ⟨rfl, rfl⟩ := h
    exact TextOn_no _ _ _ w (by simpa using hok)
end Go.Proofs.Ytehoammeaimobaa.D
