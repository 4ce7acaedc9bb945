/- EnrollExact: the law's walk, all ways together. -/
import Derived.Test.YtjbojoeafdkkeaaGreatDoorJx3
import Derived.Test.YtjbojoeafdkkeaaGreatDoorJ19
set_option linter.unusedVariables false
set_option linter.unusedSimpArgs false
namespace Go.Proofs.YtjbojoeafdkkeaaGreatDoor
open Go Go.RowKit Go.Lib Go.WideShapes Go.ChangeShapes

set_option maxRecDepth 100000 in
theorem open_int2 {H : Type} {enc : TypeId × Value → H} {w : World} {base : Nat} {sp : Nat → Bool} {held : Bool} {r : Reach} {b0 : Nat} {v : Value} {d : DataW H} {ps : List MemPlace}
    (hval : Value.okWide Tryz.prog w r b0 3 v) (h : DataW.Trod enc Tryz.prog w base sp held 3 v d ps) : ∃ n, v = .int .i64 n ∧ i64R n := by
  obtain ⟨n, e0, _, _, _⟩ := open_int Tryz.under_int hval h
  subst e0
  obtain ⟨fuel, hf⟩ := h
  obtain ⟨m, e, hw⟩ := int_of_trod2 (k := .i64) Tryz.under_int hf
  have e2 : n = m := (Value.int.inj e).2
  subst e2
  exact ⟨n, rfl, wf_i64 hw⟩
theorem exact_c (r code x p t : Int) (d : Bool) (pt dv_ vf lf : Int) (pk : List Int) (hpk : pk.length = 32) (ver bY priv : Int) (i1 : i64R pt) (i2 : i64R vf) (i3 : i64R lf) (i4 : i64R dv_) (i5 : i64R ver) (i6 : i64R bY) (w : World) (hL : Laid w) (hE : EType w) :
    Calls Tryz.prog 7 #[sessV r code x p t d, reqV pt dv_ vf lf pk, .int .i64 ver, .int .i64 bY, .int .i64 priv] w fun e w' => e = .returned (.bool true) ∧ Below w.heap.size w w' := by
  cases hs : sessOK r code x p t with
  | false => exact exact_x0 r code x p t d pt dv_ vf lf pk hpk ver bY priv i1 i2 i3 i4 i5 i6 w hL hE hs
  | true =>
    cases d with
    | true => exact exact_x1 r code x p t pt dv_ vf lf pk hpk ver bY priv i1 i2 i3 i4 i5 i6 w hL hE hs
    | false =>
      by_cases ht : 5 ≤ t
      · exact exact_x2 r code x p t pt dv_ vf lf pk hpk ver bY priv i1 i2 i3 i4 i5 i6 w hL hE hs ht
      · cases hd : isDev dv_ with
        | false => exact exact_x3 r code x p t pt dv_ vf lf pk hpk ver bY priv i1 i2 i3 i4 i5 i6 w hL hE hs ht hd
        | true =>
          by_cases hp : dv_ / 8 = p
          · cases h1 : elt pt with
            | false => exact exact_x5 r code x p t pt dv_ vf lf pk hpk ver bY priv i1 i2 i3 i4 i5 i6 w hL hE hs ht hd hp h1
            | true =>
              cases h2 : elt vf with
              | false => exact exact_x6 r code x p t pt dv_ vf lf pk hpk ver bY priv i1 i2 i3 i4 i5 i6 w hL hE hs ht hd hp h1 h2
              | true =>
                cases h3 : elt lf with
                | false => exact exact_x7 r code x p t pt dv_ vf lf pk hpk ver bY priv i1 i2 i3 i4 i5 i6 w hL hE hs ht hd hp h1 h2 h3
                | true =>
                  by_cases hc : (certF 2 dv_ vf lf ver bY priv).2 = 0
                  · exact exact_main r code x p t pt dv_ vf lf pk hpk ver bY priv i1 i2 i3 i4 i5 i6 w hL hE hs ht hd hp h1 h2 h3 _ _ (certF_good hc)
                  · exact exact_x8 r code x p t pt dv_ vf lf pk hpk ver bY priv i1 i2 i3 i4 i5 i6 w hL hE hs ht hd hp h1 h2 h3 _ hc (certF_bad hc)
          · exact exact_x4 r code x p t pt dv_ vf lf pk hpk ver bY priv i1 i2 i3 i4 i5 i6 w hL hE hs ht hd hp
end Go.Proofs.YtjbojoeafdkkeaaGreatDoor

namespace Go.Proofs.YtjbojoeafdkkeaaGreatDoor
open Go Go.RowKit Go.Lib Go.WideShapes Go.ChangeShapes

set_option maxRecDepth 100000 in
theorem exact_lifted (os : Os) (started : os.Started) (H : Type) (enc : TypeId × Value → H) :
    ReturnsInHanded {} Tryz.checked os 7 .any (fun w args => (Rows.enrollExactSpec.pre enc Tryz.prog Tryz.f7 [] false w args ∧ laidMetH Tryz.prog Rows.enrollExactRow.laid w) ∧ sizedMet enc Tryz.prog Tryz.f7 (OpenSpec.ofChange Rows.enrollExactSpec) false w args)
      (Rows.enrollExactSpec.post enc Tryz.prog Tryz.f7 false true false false) := by
  refine returnsInHanded_of_change_and (C := Tryz.checked) (X := fun w _ => laidMetH Tryz.prog Rows.enrollExactRow.laid w) (fun _ _ _ hh h => h.of_heap hh) Tryz.own started (by kernel_rfl) Tryz.func7
    (ChangeSpec.witness_at (enc := enc) (C := Tryz.checked) (os := os) (X := fun w _ => laidMetH Tryz.prog Rows.enrollExactRow.laid w) false (laidWorld os) #[.agg #[.int .i64 0, .int .i64 0, .int .i64 0, .int .i64 0, .int .i64 0, .bool false], .agg (reqL 0 0 0 0 z32).toArray, .int .i64 0, .int .i64 0, .int .i64 0] 8 rfl (by kernel_rfl) (by kernel_rfl) (by kernel_rfl) (by kernel_rfl) (by kernel_rfl) (laidWorld_met os _)) ?_
  intro W base args ds gs before hval0 hW _ _ hL _
  have hval : ∀ (j : Nat) t v, Tryz.f7.params[j]? = some t → args[j]? = some v → Value.okWide Tryz.prog W .any base t v := hval0
  have hW' := hW
  obtain ⟨p, q, hA0, hV0, rfl, hfz, hnd⟩ := hW
  have hA : DataW.TrodAll enc Tryz.prog W 0 (fun _ => true) true Tryz.f7.params.toList args.toList ds p := hA0
  have hV : DataW.TrodVars enc Tryz.prog W (fun _ => true) [] gs q := hV0
  obtain ⟨rfl, rfl⟩ : gs = [] ∧ q = [] := by
    cases gs with
    | nil => exact ⟨rfl, hV⟩
    | cons g r => exact absurd hV (by intro h; cases h)
  obtain ⟨HL, HE⟩ := facts_of_laid hL
  have hAll := hA
  rw [Tryz.params7] at hA hval
  obtain ⟨v0, rr0, d0, s0, p0', t0', e0, rfl, rfl, h0, hA1⟩ := trodAll_cons hA
  obtain ⟨v1, rr1, d1, s1, p1', t1', rfl, rfl, rfl, h1, hA2⟩ := trodAll_cons hA1
  obtain ⟨v2, rr2, d2, s2, p2', t2', rfl, rfl, rfl, h2, hA3⟩ := trodAll_cons hA2
  obtain ⟨v3, rr3, d3, s3, p3', t3', rfl, rfl, rfl, h3, hA4⟩ := trodAll_cons hA3
  obtain ⟨v4, rr4, d4, s4, p4', t4', rfl, rfl, rfl, h4, hA5⟩ := trodAll_cons hA4
  obtain ⟨rfl, rfl, rfl⟩ := trodAll_nil hA5
  obtain rfl : args = #[v0, v1, v2, v3, v4] := by cases args; simp_all
  obtain ⟨r0, code0, x0, p0, t0, b0, rfl⟩ := open_sess (hval 0 25 v0 rfl rfl) h0
  obtain ⟨pt1, dv1, vf1, lf1, pk1, rfl, hpk1, i10, i11, i12, i13⟩ := open_req (hval 1 37 v1 rfl rfl) h1
  obtain ⟨n2, rfl, r2⟩ := open_int2 (hval 2 3 v2 rfl rfl) h2
  obtain ⟨n3, rfl, r3⟩ := open_int2 (hval 3 3 v3 rfl rfl) h3
  obtain ⟨n4, rfl, r4⟩ := open_int2 (hval 4 3 v4 rfl rfl) h4
  refine (exact_c r0 code0 x0 p0 t0 b0 pt1 dv1 vf1 lf1 pk1 hpk1 n2 n3 n4 i10 i12 i13 i11 r2 r3 W HL HE).mono fun e W' ⟨he, hb⟩ => ?_
  subst he
  have hK := args_kept hb (fun u hu => by
    rw [Tryz.params7] at hu
    simp only [List.mem_cons, List.not_mem_nil, or_false] at hu
    rcases hu with rfl | rfl | rfl | rfl | rfl <;> exact ⟨by kernel_rfl, of_decide_eq_true (by kernel_rfl)⟩) hAll
  exact ⟨_, rfl, _, _, _, [], _, [], hW', trodAll_mk1 (shut_bool Tryz.under_bool true), hK, rfl, kept_of_below hb, fun h => by cases h⟩
end Go.Proofs.YtjbojoeafdkkeaaGreatDoor
