/- EnrollAnswerSpec: from the walk to the given statement. -/
import Derived.Test.YtjbojoeafdkkeaaGreatDoorJ19
import Derived.Test.YtjbojoeafdkkeaaGreatDoorJv4
set_option linter.unusedVariables false
set_option linter.unusedSimpArgs false
namespace Go.Proofs.YtjbojoeafdkkeaaGreatDoor
open Go Go.RowKit Go.Lib Go.WideShapes Go.ChangeShapes

set_option maxRecDepth 100000 in
theorem ansspec_open_int {H : Type} {enc : TypeId × Value → H} {w : World} {base : Nat} {sp : Nat → Bool} {held : Bool} {r : Reach} {b0 : Nat} {v : Value} {d : DataW H} {ps : List MemPlace}
    (hval : Value.okWide Tryz.prog w r b0 3 v) (h : DataW.Trod enc Tryz.prog w base sp held 3 v d ps) : ∃ n, v = .int .i64 n ∧ i64R n := by
  obtain ⟨n, e0, _, _, _⟩ := open_int Tryz.under_int hval h
  subst e0
  obtain ⟨fuel, hf⟩ := h
  obtain ⟨m, e, hw⟩ := int_of_trod2 (k := .i64) Tryz.under_int hf
  have e2 : n = m := (Value.int.inj e).2
  subst e2
  exact ⟨n, rfl, wf_i64 hw⟩
set_option maxRecDepth 100000 in
theorem ansspec_lifted (os : Os) (started : os.Started) (H : Type) (enc : TypeId × Value → H) :
    ReturnsInHanded {} Tryz.checked os 5 .any (fun w args => (Rows.enrollAnswerSpecSpec.pre enc Tryz.prog Tryz.f5 [] false w args ∧ laidMetH Tryz.prog Rows.enrollAnswerSpecRow.laid w) ∧ sizedMet enc Tryz.prog Tryz.f5 (OpenSpec.ofChange Rows.enrollAnswerSpecSpec) false w args)
      (Rows.enrollAnswerSpecSpec.post enc Tryz.prog Tryz.f5 false true false false) := by
  refine returnsInHanded_of_change_and (C := Tryz.checked) (X := fun w _ => laidMetH Tryz.prog Rows.enrollAnswerSpecRow.laid w) (fun _ _ _ hh h => h.of_heap hh) Tryz.own started (by kernel_rfl) Tryz.func5
    (ChangeSpec.witness_at (enc := enc) (C := Tryz.checked) (os := os) (X := fun w _ => laidMetH Tryz.prog Rows.enrollAnswerSpecRow.laid w) false (laidWorld os) #[.agg #[.int .i64 0, .int .i64 0, .int .i64 0, .int .i64 0, .int .i64 0, .bool false], .agg (reqL 0 0 0 0 z32).toArray, .int .i64 0, .int .i64 0, .int .i64 0] 8 rfl (by kernel_rfl) (by kernel_rfl) (by kernel_rfl) (by kernel_rfl) (by kernel_rfl) (laidWorld_met os _)) ?_
  intro W base args ds gs before hval0 hW _ _ hL _
  have hval : ∀ (j : Nat) t v, Tryz.f5.params[j]? = some t → args[j]? = some v → Value.okWide Tryz.prog W .any base t v := hval0
  have hW' := hW
  obtain ⟨p, q, hA0, hV0, rfl, hfz, hnd⟩ := hW
  have hA : DataW.TrodAll enc Tryz.prog W 0 (fun _ => true) true Tryz.f5.params.toList args.toList ds p := hA0
  have hV : DataW.TrodVars enc Tryz.prog W (fun _ => true) [] gs q := hV0
  obtain ⟨rfl, rfl⟩ : gs = [] ∧ q = [] := by
    cases gs with
    | nil => exact ⟨rfl, hV⟩
    | cons g r => exact absurd hV (by intro h; cases h)
  obtain ⟨HL, HE⟩ := facts_of_laid hL
  have hAll := hA
  rw [Tryz.params5] at hA hval
  obtain ⟨v0, rr0, d0, s0, p0', t0', e0, rfl, rfl, h0, hA1⟩ := trodAll_cons hA
  obtain ⟨v1, rr1, d1, s1, p1', t1', rfl, rfl, rfl, h1, hA2⟩ := trodAll_cons hA1
  obtain ⟨v2, rr2, d2, s2, p2', t2', rfl, rfl, rfl, h2, hA3⟩ := trodAll_cons hA2
  obtain ⟨v3, rr3, d3, s3, p3', t3', rfl, rfl, rfl, h3, hA4⟩ := trodAll_cons hA3
  obtain ⟨v4, rr4, d4, s4, p4', t4', rfl, rfl, rfl, h4, hA5⟩ := trodAll_cons hA4
  obtain ⟨rfl, rfl, rfl⟩ := trodAll_nil hA5
  obtain rfl : args = #[v0, v1, v2, v3, v4] := by cases args; simp_all
  obtain ⟨r0, code0, x0, p0, t0, b0, rfl⟩ := open_sess (hval 0 25 v0 rfl rfl) h0
  obtain ⟨pt1, dv1, vf1, lf1, pk1, rfl, hpk1, i10, i11, i12, i13⟩ := open_req (hval 1 37 v1 rfl rfl) h1
  obtain ⟨n2, rfl, r2⟩ := ansspec_open_int (hval 2 3 v2 rfl rfl) h2
  obtain ⟨n3, rfl, r3⟩ := ansspec_open_int (hval 3 3 v3 rfl rfl) h3
  obtain ⟨n4, rfl, r4⟩ := ansspec_open_int (hval 4 3 v4 rfl rfl) h4
  refine (ansspec_c r0 code0 x0 p0 t0 b0 pt1 dv1 vf1 lf1 pk1 hpk1 n2 n3 n4 W HL HE i10 i12 i13 i11 r2 r3).mono fun e W' ⟨he, hb⟩ => ?_
  subst he
  have hK := args_kept hb (fun u hu => by
    rw [Tryz.params5] at hu
    simp only [List.mem_cons, List.not_mem_nil, or_false] at hu
    rcases hu with rfl | rfl | rfl | rfl | rfl <;> exact ⟨by kernel_rfl, of_decide_eq_true (by kernel_rfl)⟩) hAll
  exact ⟨_, rfl, _, _, _, [], _, [], hW', trodAll_mk1 (shut_bool Tryz.under_bool true), hK, rfl, kept_of_below hb, fun h => by cases h⟩
end Go.Proofs.YtjbojoeafdkkeaaGreatDoor
