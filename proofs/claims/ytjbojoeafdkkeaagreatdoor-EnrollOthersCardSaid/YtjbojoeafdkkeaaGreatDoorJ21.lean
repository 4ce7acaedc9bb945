/- EnrollOthers: from the walk to the given statement. -/
import Derived.Test.YtjbojoeafdkkeaaGreatDoorJ19
import Derived.Test.YtjbojoeafdkkeaaGreatDoorJ20
set_option linter.unusedVariables false
set_option linter.unusedSimpArgs false
namespace Go.Proofs.YtjbojoeafdkkeaaGreatDoor
open Go Go.RowKit Go.Lib Go.WideShapes Go.ChangeShapes

set_option maxRecDepth 100000 in
theorem others_lifted (os : Os) (started : os.Started) (H : Type) (enc : TypeId × Value → H) :
    ReturnsInHanded {} Tryz.checked os 8 .any (fun w args => (Rows.enrollOthersSpec.pre enc Tryz.prog Tryz.f8 [] false w args ∧ laidMetH Tryz.prog Rows.enrollOthersRow.laid w) ∧ sizedMet enc Tryz.prog Tryz.f8 (OpenSpec.ofChange Rows.enrollOthersSpec) false w args)
      (Rows.enrollOthersSpec.post enc Tryz.prog Tryz.f8 false true false false) := by
  refine returnsInHanded_of_change_and (C := Tryz.checked) (X := fun w _ => laidMetH Tryz.prog Rows.enrollOthersRow.laid w) (fun _ _ _ hh h => h.of_heap hh) Tryz.own started (by kernel_rfl) Tryz.func8
    (ChangeSpec.witness_at (enc := enc) (C := Tryz.checked) (os := os) (X := fun w _ => laidMetH Tryz.prog Rows.enrollOthersRow.laid w) false (laidWorld os) #[.agg #[.int .i64 0, .int .i64 0, .int .i64 0, .int .i64 0, .int .i64 0, .bool false], .agg (reqL 0 0 0 0 z32).toArray, .int .i64 0, .int .i64 0, .int .i64 0] 8 rfl (by kernel_rfl) (by kernel_rfl) (by kernel_rfl) (by kernel_rfl) (by kernel_rfl) (laidWorld_met os _)) ?_
  intro W base args ds gs before hval0 hW _ _ hL _
  have hval : ∀ (j : Nat) t v, Tryz.f8.params[j]? = some t → args[j]? = some v → Value.okWide Tryz.prog W .any base t v := hval0
  have hW' := hW
  obtain ⟨p, q, hA0, hV0, rfl, hfz, hnd⟩ := hW
  have hA : DataW.TrodAll enc Tryz.prog W 0 (fun _ => true) true Tryz.f8.params.toList args.toList ds p := hA0
  have hV : DataW.TrodVars enc Tryz.prog W (fun _ => true) [] gs q := hV0
  obtain ⟨rfl, rfl⟩ : gs = [] ∧ q = [] := by
    cases gs with
    | nil => exact ⟨rfl, hV⟩
    | cons g r => exact absurd hV (by intro h; cases h)
  obtain ⟨HL, HE⟩ := facts_of_laid hL
  have hAll := hA
  rw [Tryz.params8] at hA hval
  obtain ⟨v0, r0, d0, s0, p0, t0, e0, rfl, rfl, h0, hA1⟩ := trodAll_cons hA
  obtain ⟨v1, r1, d1, s1, p1, t1, rfl, rfl, rfl, h1, hA2⟩ := trodAll_cons hA1
  obtain ⟨v2, r2, d2, s2, p2, t2, rfl, rfl, rfl, h2, hA3⟩ := trodAll_cons hA2
  obtain ⟨v3, r3, d3, s3, p3, t3, rfl, rfl, rfl, h3, hA4⟩ := trodAll_cons hA3
  obtain ⟨v4, r4, d4, s4, p4, t4, rfl, rfl, rfl, h4, hA5⟩ := trodAll_cons hA4
  obtain ⟨rfl, rfl, rfl⟩ := trodAll_nil hA5
  obtain rfl : args = #[v0, v1, v2, v3, v4] := by cases args; simp_all
  obtain ⟨r, code, x, pe, t, b, rfl⟩ := open_sess (hval 0 25 v0 rfl rfl) h0
  obtain ⟨pt, dv_, vf, lf, pk, rfl, hpk, i0, i1, i2, i3⟩ := open_req (hval 1 37 v1 rfl rfl) h1
  obtain ⟨n2, rfl, _, _, _⟩ := open_int Tryz.under_int (hval 2 3 v2 rfl rfl) h2
  obtain ⟨n3, rfl, _, _, _⟩ := open_int Tryz.under_int (hval 3 3 v3 rfl rfl) h3
  obtain ⟨n4, rfl, _, _, _⟩ := open_int Tryz.under_int (hval 4 3 v4 rfl rfl) h4
  refine (others_c r code x pe t b pt dv_ vf lf pk hpk n2 n3 n4 i0 i2 i3 W HL HE).mono fun e W' ⟨he, hb⟩ => ?_
  subst he
  have hK := args_kept hb (fun u hu => by
    rw [Tryz.params8] at hu
    simp only [List.mem_cons, List.not_mem_nil, or_false] at hu
    rcases hu with rfl | rfl | rfl | rfl | rfl <;> exact ⟨by kernel_rfl, of_decide_eq_true (by kernel_rfl)⟩) hAll
  exact ⟨_, rfl, _, _, _, [], _, [], hW', trodAll_mk1 (shut_bool Tryz.under_bool true), hK, rfl, kept_of_below hb, fun h => by cases h⟩
end Go.Proofs.YtjbojoeafdkkeaaGreatDoor
