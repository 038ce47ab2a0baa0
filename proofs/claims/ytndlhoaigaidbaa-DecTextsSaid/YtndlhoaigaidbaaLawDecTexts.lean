/- 'computuslaw04.DecTexts': whatever the number and the text, the law returns true, and its input reads on as it did. No further condition. -/
import Derived.Test.YtndlhoaigaidbaaRows
import Derived.Test.YtndlhoaigaidbaaQBack
import Derived.WalkKit
import Derived.ProofKit
import Derived.OpenShut
import Derived.ShutString
import Derived.ChangeOld
import Derived.Below
import Derived.SizedLaws
import Derived.Lib.SmallJoins
namespace Go.Proofs.Ytndlhoaigaidbaa.Q
open Go.RowKit Go.Proofs.Ytndlhoaigaidbaa.D Go.Proofs.YtndlhoaigaidbaaW.PrintWords Go.Proofs.YtndlhoaigaidbaaW.PrintLast

theorem read_some_of (s : ByteArray) (hs : s.size ≤ 140737488351232) : ∃ r, dec_Read.f s = some r := ⟨_, by unfold dec_Read.f; rw [if_pos hs]⟩

/-- What the law computes is true. -/
theorem pure (N S : Int) (s : ByteArray) (hN : inI64 N) (hs : s.size ≤ 140737488351232) : ∃ k, computuslaw04_DecTexts.f k N S s = some true := by
  refine ⟨200 + 10 * s.size + 1, ?_⟩
  have hk : computuslaw04_known.f (200 + 10 * s.size) = some true := at_rounds (g := fun k => computuslaw04_known.f k) (fun k => computuslaw04_known.mono k) (by omega) known_yes
  obtain ⟨⟨r1, r2, r3⟩, hr⟩ := read_some_of s hs
  have hr' := read_same s hs (200 + 10 * s.size + 1) (by omega)
  rw [hr] at hr'
  have ht' := text_same N S (200 + 10 * s.size + 1) hN (by omega)
  unfold computuslaw04_DecTexts.f computuslaw04_given.f
  rw [Option.bind_some]
  by_cases h : 0 ≤ S ∧ S ≤ 9
  · obtain ⟨S, rfl⟩ : ∃ s : Nat, S = s := ⟨S.toNat, by omega⟩
    have hS : S ≤ 9 := by omega
    obtain ⟨t, ht, -, hb⟩ := back N S hS hN
    rw [ht] at ht'
    simp only [ht, ht', hr, hr', Option.bind_some, if_true, computuslaw04_taken.f, beq_self_eq_true, Bool.not_true, Bool.or_false, Bool.false_eq_true, if_false, bne_self_eq_false]
    rw [computuslaw04_DecTexts.j0, if_neg Bool.false_ne_true, right_yes N S hS, Option.bind_some, if_pos rfl]
    simp only [hb, Option.bind_some, computuslaw04_taken.f, beq_self_eq_true, Bool.and_true, if_true, hk]
  · have ht : dec_Text.f N S = some ⟨#[]⟩ := by unfold dec_Text.f; rw [if_pos hN, if_neg h]
    rw [ht] at ht'
    simp only [ht, ht', hr, hr', Option.bind_some, if_true, computuslaw04_taken.f, beq_self_eq_true, Bool.not_true, Bool.or_false, Bool.false_eq_true, if_false, bne_self_eq_false]
    rw [computuslaw04_DecTexts.j0, if_neg Bool.false_ne_true, right_no N S h, Option.bind_some, if_neg Bool.false_ne_true, hk]
    rfl

theorem wf_i64 {a : Int} (h : (Lit.int .i64 a).wf = true) : inI64 a := by
  obtain ⟨h0, h1⟩ := bounds_i64 h
  exact ⟨h0, h1⟩
end Go.Proofs.Ytndlhoaigaidbaa.Q
namespace Go.Proofs.Ytndlhoaigaidbaa.decTexts
open Go.ChangeShapes Go.WideShapes Go.ChangeAt Go.RowKit Go.Joins
open Go.ChangeMaps (open_string shut_string)
set_option linter.unusedVariables false
theorem own : ownKnob Try.prog.godebug = none := by kernel_rfl
set_option maxRecDepth 100000 in
theorem lifted (os : Os) (started : os.Started) (H : Type) (enc : TypeId × Value → H) :
    ReturnsInHanded {} Try.checked os 3 .any (Rows.decTextsSpec.pre6 enc Try.prog Try.f3 Rows.decTextsRow.domain false) (Rows.decTextsSpec.post enc Try.prog Try.f3 false true false false) := by
  refine returnsInHanded_of_change_sized (C := Try.checked) own started (by kernel_rfl) Try.func3
    (ChangeSpec.witness6 (enc := enc) (C := Try.checked) false ⟨#[], #[.agg #[.int .i64 0, .int .i64 0], .string ByteArray.empty], []⟩ 8 (by kernel_rfl) (by kernel_rfl) (by kernel_rfl) (by kernel_rfl)) ?_
  intro W base args ds gs before hval0 hW hcnd hsz0 _
  have hsz : (DataW.weightsEach Try.prog (Try.f3.params.toList ++ Rows.decTextsSpec.plain.varTypes Try.prog) (ds ++ gs)).all (· ≤ reachBytes) = true := hsz0
  have hval : ∀ (j : Nat) t v, Try.f3.params[j]? = some t → args[j]? = some v → Value.okWide Try.prog W .any base t v := hval0
  have hW' := hW
  obtain ⟨p, q, hA0, hV, rfl, hfz, hnd⟩ := hW
  have hA : DataW.TrodAll enc Try.prog W 0 (fun _ => true) true Try.f3.params.toList args.toList ds p := hA0
  rw [Try.params3] at hA hval hsz
  obtain ⟨v0, vs0, d0, ds0, p0, q0, hargs, rfl, rfl, h0, r0⟩ := trodAll_cons hA
  obtain ⟨v1, vs1, d1, ds1, p1, q1, rfl, rfl, rfl, h1, r1⟩ := trodAll_cons r0
  obtain ⟨rfl, rfl, rfl⟩ := trodAll_nil r1
  obtain rfl : args = #[v0, v1] := by cases args; simp_all
  obtain ⟨rfl, rfl⟩ := trodVars_none hV
  obtain ⟨c0, c1, y0, y1, m, rfl, rfl, rfl, hy0, hy1⟩ := open_agg2 Try.underlying23 (by kernel_rfl) (by kernel_rfl) (hval 0 23 v0 rfl rfl) h0
  obtain ⟨a, e0, rfl, wa⟩ := DataW.trod_int Try.underlying2 hy0
  obtain ⟨b, e1, rfl, wb⟩ := DataW.trod_int Try.underlying3 hy1
  simp at e0 e1
  subst e0 e1
  obtain ⟨a1, rfl, rfl, rfl, z1⟩ := open_string Try.underlying9 (hval 1 9 v1 rfl rfl) h1
  have w1 : a1.size ≤ 140737488351232 := by
    have z := sized_string hsz (j := 1) (t := 9) rfl rfl
    rw [Array.length_toList] at z
    exact z
  have back : ∀ (W' : World) (sp : Nat → Bool), DataW.Trod enc Try.prog W' 0 sp true 23 (.agg #[.int .i64 a, .int .i64 b]) (.agg [.lit (.int .i64 a), .lit (.int .i64 b)]) [] := fun W' sp =>
    shut_agg2 (y0 := (.lit (.int .i64 a), [])) (y1 := (.lit (.int .i64 b), [])) Try.underlying23 (by kernel_rfl) (by kernel_rfl) ⟨1, by simp [DataW.trod, Try.underlying2, wa]⟩ ⟨1, by simp [DataW.trod, Try.underlying3, wb]⟩
  clear hA0 hval0 hsz0 hsz
  simp only [List.append_nil] at hW'
  obtain ⟨k, hk⟩ := Q.pure a b a1 (Q.wf_i64 wa) w1
  refine (D.computuslaw04_DecTexts.calls k a b a1 true W hk).mono fun e W' ⟨he, bel⟩ => ?_
  subst he
  exact ⟨_, rfl, _, _, _, [], _, [], hW', trodAll_mk1 (shut_bool Try.underlying4 _), (trodAll_cons_mk (back _ _) (trodAll_cons_mk (shut_string Try.underlying9 z1) trodAll_mk0)), rfl, bel.frame _, fun h => by cases h⟩
theorem over : Rows.decTextsRow.holds Try.pinned (OpenSpec.ofChange Rows.decTextsSpec) :=
  OpenClaim.holds_of_wide 3 Try.f3 rfl rfl rfl rfl rfl rfl rfl ⟨rfl, rfl, rfl, rfl, rfl⟩ rfl rfl rfl rfl rfl (by kernel_rfl) Try.func3 (by kernel_rfl)
    (of_decide_eq_true (by kernel_rfl)) (by unfold Func.isWrapper; first | (rw [if_pos (by decide +kernel)]; kernel_rfl) | (rw [if_neg (by decide +kernel)]; exact ⟨rfl, rfl⟩))
    (fun os started H enc _ => lifted os started H enc)
theorem proved : Rows.DecTextsSaid := over
#print axioms proved
end Go.Proofs.Ytndlhoaigaidbaa.decTexts
namespace Go.Proofs.Ytndlhoaigaidbaa
/-- The row, under a short name, for the claim. -/
theorem decTexts_holds : Rows.DecTextsSaid := decTexts.proved
end Go.Proofs.Ytndlhoaigaidbaa
