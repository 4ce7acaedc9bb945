/- EnrollAnswerSpec: the law's walk. -/
import Derived.Test.YtjbojoeafdkkeaaGreatDoorJv3
set_option linter.unusedVariables false
set_option linter.unusedSimpArgs false
namespace Go.Proofs.YtjbojoeafdkkeaaGreatDoor
open Go Go.RowKit Go.Lib

theorem ans_form (r code x p t : Int) (d : Bool) (pt dv_ vf lf : Int) (pk : List Int) (ver bY priv : Int) :
    ∃ (q0 q1 q2 q3 q4 : Int) (q5 : Bool) (k0 k1 k2 k3 k4 k5 k6 k7 n : Int), ansF r code x p t d pt dv_ vf lf pk ver bY priv = (sessL q0 q1 q2 q3 q4 q5, certV k0 k1 k2 k3 k4 k5 k6 k7, n) := by
  unfold ansF
  by_cases h1 : sessOK r code x p t = true
  · rw [if_pos h1]
    by_cases h2 : openE t d = 0
    · rw [if_pos h2]
      by_cases h3 : fitsB p pt dv_ vf lf = true
      · rw [if_pos h3]
        by_cases h4 : (certF 2 dv_ vf lf ver bY priv).2 = 0
        · rw [if_pos h4, certF_good h4]
          by_cases h5 : pk = rqN (prfN (keyN r code x pt) 2) dv_ vf lf
          · rw [if_pos h5]; exact ⟨_, _, _, _, _, _, _, _, _, _, _, _, _, _, _, rfl⟩
          · rw [if_neg h5]; exact ⟨_, _, _, _, _, _, _, _, _, _, _, _, _, _, _, rfl⟩
        · rw [if_neg h4]; exact ⟨_, _, _, _, _, _, _, _, _, _, _, _, _, _, _, rfl⟩
      · rw [if_neg h3]; exact ⟨_, _, _, _, _, _, _, _, _, _, _, _, _, _, _, rfl⟩
    · rw [if_neg h2]; exact ⟨_, _, _, _, _, _, _, _, _, _, _, _, _, _, _, rfl⟩
  · rw [if_neg h1]; exact ⟨_, _, _, _, _, _, _, _, _, _, _, _, _, _, _, rfl⟩

section
attribute [local irreducible] World.setCell World.setCells World.alloc
set_option maxHeartbeats 6000000 in
set_option maxRecDepth 100000 in
theorem ansspec_c (r code x p t : Int) (d : Bool) (pt dv_ vf lf : Int) (pk : List Int) (hpk : pk.length = 32) (ver bY priv : Int) (w : World) (hL : Laid w) (hE : EType w) (i1 : i64R pt) (i2 : i64R vf) (i3 : i64R lf) (i4 : i64R dv_) (i5 : i64R ver) (i6 : i64R bY) :
    Calls Tryz.prog 5 #[sessV r code x p t d, reqV pt dv_ vf lf pk, .int .i64 ver, .int .i64 bY, .int .i64 priv] w fun e w' => e = .returned (.bool true) ∧ Below w.heap.size w w' := by
  have HS := Bx.mk (fun w hL hE => sane38_c w hL hE)
  have HA := Bx.mk (fun w hL hE => answer_c r code x p t d pt dv_ vf lf pk hpk ver bY priv w hL hE i1 i2 i3 i4 i5 i6)
  have HR := Bx.mk (fun w => rans_c r code x p t d pt dv_ vf lf pk hpk ver bY priv w i2 i3 i4 i5 i6)
  obtain ⟨q0, q1, q2, q3, q4, q5, k0, k1, k2, k3, k4, k5, k6, k7, n, hf⟩ := ans_form r code x p t d pt dv_ vf lf pk ver bY priv
  rw [hf] at HA HR
  dsimp only at HA HR
  have F0 := Bx.mk (fs_args w r code x p t d pt dv_ vf lf pk)
  have HQL := Bx.mk (reqL_len pt dv_ vf lf pk hpk)
  have HL := Bx.mk hL; have HE := Bx.mk hE
  have hse := fun w => eq_sess_self q0 q1 q2 q3 q4 q5 w
  have hce := fun w => eq_cert_self k0 k1 k2 k3 k4 k5 k6 k7 w
  clear hL hE hf i1 i2 i3 i4 i5 i6 hpk
  unfold sessV at hse
  unfold certV at hce HA HR
  unfold sessV reqV at HA HR
  unfold sessV reqV
  go_enter Tryz.func5, Tryz.ntmps5
  go_wp2_with (refine wpList_bxk rfl (.tmp 1) rfl (reqL pt dv_ vf lf pk) rfl ?_)
  refine (HS.out _ (F0.out.laid HL.out) (F0.out.etype HE.out)).mono ?_
  rintro e a1 ⟨rfl, hb1⟩
  have F1 := Bx.mk (F0.out.below hb1)
  clear hb1 F0 HS
  have q := F1.out.get (B := w.heap.size) (cs := sessL r code x p t d) (by simp)
  have s0 : a1.cell? ⟨w.heap.size, 0, none⟩ = some (.int .i64 r) := q.get (i := 0) rfl
  have s1 : a1.cell? ⟨w.heap.size, 1, none⟩ = some (.int .i64 code) := q.get (i := 1) rfl
  have s2 : a1.cell? ⟨w.heap.size, 2, none⟩ = some (.int .i64 x) := q.get (i := 2) rfl
  have s3 : a1.cell? ⟨w.heap.size, 3, none⟩ = some (.int .i64 p) := q.get (i := 3) rfl
  have s4 : a1.cell? ⟨w.heap.size, 4, none⟩ = some (.int .i64 t) := q.get (i := 4) rfl
  have s5 : a1.cell? ⟨w.heap.size, 5, none⟩ = some (.bool d) := q.get (i := 5) rfl
  clear q
  go_wp2_with (refine wpList_ldN rowT_req rfl (.tmp 6) rfl (w.heap.size + 1) 0 rfl (reqL pt dv_ vf lf pk) (F1.out.get (by simp)).range0 HQL.out (.agg (reqL pt dv_ vf lf pk).toArray) rfl ?_)
  refine (HA.out _ (F1.out.laid HL.out) (F1.out.etype HE.out)).mono ?_
  rintro e v2 ⟨rfl, hb2⟩
  have G2 := Bx.mk (F1.out.below hb2)
  clear hb2 F1 s0 s1 s2 s3 s4 s5
  have z0 := row_new v2 sess0 25
  have e1 : (v2.alloc (.cells sess0.toArray 25)).heap.size = v2.heap.size + 1 := World.size_alloc _ _
  have zc := row_new (v2.alloc (.cells sess0.toArray 25)) zC 44
  rw [e1] at zc
  have ZX := Bx.mk (z0.alloc (by rw [e1]; omega) (.cells zC.toArray 44))
  have ZC := Bx.mk zc
  have G3 := Bx.mk ((G2.out.alloc (.cells sess0.toArray 25)).alloc (.cells zC.toArray 44))
  have hM := G2.out.2.1
  have hsz : ((v2.alloc (.cells sess0.toArray 25)).alloc (.cells zC.toArray 44)).heap.size = v2.heap.size + 2 := by rw [World.size_alloc, e1]
  have HSZ := Bx.mk hsz
  clear z0 zc e1 hsz G2
  go_wp2_with (refine wpList_stR rowT_sess rfl (.tmp 11) (.tmp 26) rfl v2.heap.size rfl (sessL q0 q1 q2 q3 q4 q5) rfl (sess_one q0 q1 q2 q3 q4 q5) rfl sess0 ZX.out rfl ?_)
  intro v3 r3 g3
  have ZC3 := Bx.mk (ZC.out.grown g3 (by rw [HSZ.out]; omega) (fun q => by have := Option.some.inj q; omega))
  have G4 := Bx.mk (G3.out.put g3 hM r3 (by simp [sessL]))
  clear r3 g3 ZX ZC G3 HSZ
  go_wp2_with (refine wpList_stR rowT_cert rfl (.tmp 12) (.tmp 27) rfl (v2.heap.size + 1) rfl ([k0, k1, k2, k3, k4, k5, k6, k7].map (.int .i64)) rfl (one_ints .i64 _) rfl zC ZC3.out rfl ?_)
  intro a3 r4 g4
  have G5 := Bx.mk (G4.out.put g4 (Nat.le_refl _) r4 (by simp))
  obtain ⟨X, hX⟩ : ∃ X, X = v2.heap.size := ⟨_, rfl⟩
  rw [← hX] at G5 ⊢
  have F3 := G5
  clear hX r4 g4 G4 G5 ZC3 hM
  have q := F3.out.get (B := w.heap.size) (cs := sessL r code x p t d) (by simp)
  have s0 : a3.cell? ⟨w.heap.size, 0, none⟩ = some (.int .i64 r) := q.get (i := 0) rfl
  have s1 : a3.cell? ⟨w.heap.size, 1, none⟩ = some (.int .i64 code) := q.get (i := 1) rfl
  have s2 : a3.cell? ⟨w.heap.size, 2, none⟩ = some (.int .i64 x) := q.get (i := 2) rfl
  have s3 : a3.cell? ⟨w.heap.size, 3, none⟩ = some (.int .i64 p) := q.get (i := 3) rfl
  have s4 : a3.cell? ⟨w.heap.size, 4, none⟩ = some (.int .i64 t) := q.get (i := 4) rfl
  have s5 : a3.cell? ⟨w.heap.size, 5, none⟩ = some (.bool d) := q.get (i := 5) rfl
  clear q
  go_wp2_with (refine wpList_ldN rowT_req rfl (.tmp 6) rfl (w.heap.size + 1) 0 rfl (reqL pt dv_ vf lf pk) (F3.out.get (by simp)).range0 HQL.out (.agg (reqL pt dv_ vf lf pk).toArray) rfl ?_)
  refine (HR.out _).mono ?_
  rintro e v2 ⟨rfl, hb2⟩
  have G2 := Bx.mk (F3.out.below hb2)
  clear hb2 F3 s0 s1 s2 s3 s4 s5
  have z0 := row_new v2 sess0 25
  have e1 : (v2.alloc (.cells sess0.toArray 25)).heap.size = v2.heap.size + 1 := World.size_alloc _ _
  have zc := row_new (v2.alloc (.cells sess0.toArray 25)) zC 44
  rw [e1] at zc
  have ZX := Bx.mk (z0.alloc (by rw [e1]; omega) (.cells zC.toArray 44))
  have ZC := Bx.mk zc
  have G3 := Bx.mk ((G2.out.alloc (.cells sess0.toArray 25)).alloc (.cells zC.toArray 44))
  have hM := G2.out.2.1
  have hsz : ((v2.alloc (.cells sess0.toArray 25)).alloc (.cells zC.toArray 44)).heap.size = v2.heap.size + 2 := by rw [World.size_alloc, e1]
  have HSZ := Bx.mk hsz
  clear z0 zc e1 hsz G2
  go_wp2_with (refine wpList_stR rowT_sess rfl (.tmp 14) (.tmp 36) rfl v2.heap.size rfl (sessL q0 q1 q2 q3 q4 q5) rfl (sess_one q0 q1 q2 q3 q4 q5) rfl sess0 ZX.out rfl ?_)
  intro v3 r3 g3
  have ZC3 := Bx.mk (ZC.out.grown g3 (by rw [HSZ.out]; omega) (fun q => by have := Option.some.inj q; omega))
  have G4 := Bx.mk (G3.out.put g3 hM r3 (by simp [sessL]))
  clear r3 g3 ZX ZC G3 HSZ
  go_wp2_with (refine wpList_stR rowT_cert rfl (.tmp 15) (.tmp 37) rfl (v2.heap.size + 1) rfl ([k0, k1, k2, k3, k4, k5, k6, k7].map (.int .i64)) rfl (one_ints .i64 _) rfl zC ZC3.out rfl ?_)
  intro a5 r4 g4
  have G5 := Bx.mk (G4.out.put g4 (Nat.le_refl _) r4 (by simp))
  obtain ⟨Y, hX⟩ : ∃ X, X = v2.heap.size := ⟨_, rfl⟩
  rw [← hX] at G5 ⊢
  have F5 := G5
  clear hX r4 g4 G4 G5 ZC3 hM
  have q := F5.out.get (B := X) (cs := sessL q0 q1 q2 q3 q4 q5) (by simp)
  have x0 : a5.cell? ⟨X, 0, none⟩ = some (.int .i64 q0) := q.get (i := 0) rfl
  have x1 : a5.cell? ⟨X, 1, none⟩ = some (.int .i64 q1) := q.get (i := 1) rfl
  have x2 : a5.cell? ⟨X, 2, none⟩ = some (.int .i64 q2) := q.get (i := 2) rfl
  have x3 : a5.cell? ⟨X, 3, none⟩ = some (.int .i64 q3) := q.get (i := 3) rfl
  have x4 : a5.cell? ⟨X, 4, none⟩ = some (.int .i64 q4) := q.get (i := 4) rfl
  have x5 : a5.cell? ⟨X, 5, none⟩ = some (.bool q5) := q.get (i := 5) rfl
  clear q
  have q := F5.out.get (B := Y) (cs := sessL q0 q1 q2 q3 q4 q5) (by simp)
  have y0 : a5.cell? ⟨Y, 0, none⟩ = some (.int .i64 q0) := q.get (i := 0) rfl
  have y1 : a5.cell? ⟨Y, 1, none⟩ = some (.int .i64 q1) := q.get (i := 1) rfl
  have y2 : a5.cell? ⟨Y, 2, none⟩ = some (.int .i64 q2) := q.get (i := 2) rfl
  have y3 : a5.cell? ⟨Y, 3, none⟩ = some (.int .i64 q3) := q.get (i := 3) rfl
  have y4 : a5.cell? ⟨Y, 4, none⟩ = some (.int .i64 q4) := q.get (i := 4) rfl
  have y5 : a5.cell? ⟨Y, 5, none⟩ = some (.bool q5) := q.get (i := 5) rfl
  clear q
  have q := F5.out.get (B := X + 1) (cs := ([k0, k1, k2, k3, k4, k5, k6, k7].map (.int .i64))) (by simp)
  have m0 : a5.cell? ⟨X + 1, 0, none⟩ = some (.int .i64 k0) := q.get (i := 0) rfl
  have m1 : a5.cell? ⟨X + 1, 1, none⟩ = some (.int .i64 k1) := q.get (i := 1) rfl
  have m2 : a5.cell? ⟨X + 1, 2, none⟩ = some (.int .i64 k2) := q.get (i := 2) rfl
  have m3 : a5.cell? ⟨X + 1, 3, none⟩ = some (.int .i64 k3) := q.get (i := 3) rfl
  have m4 : a5.cell? ⟨X + 1, 4, none⟩ = some (.int .i64 k4) := q.get (i := 4) rfl
  have m5 : a5.cell? ⟨X + 1, 5, none⟩ = some (.int .i64 k5) := q.get (i := 5) rfl
  have m6 : a5.cell? ⟨X + 1, 6, none⟩ = some (.int .i64 k6) := q.get (i := 6) rfl
  have m7 : a5.cell? ⟨X + 1, 7, none⟩ = some (.int .i64 k7) := q.get (i := 7) rfl
  clear q
  have q := F5.out.get (B := Y + 1) (cs := ([k0, k1, k2, k3, k4, k5, k6, k7].map (.int .i64))) (by simp)
  have n0 : a5.cell? ⟨Y + 1, 0, none⟩ = some (.int .i64 k0) := q.get (i := 0) rfl
  have n1 : a5.cell? ⟨Y + 1, 1, none⟩ = some (.int .i64 k1) := q.get (i := 1) rfl
  have n2 : a5.cell? ⟨Y + 1, 2, none⟩ = some (.int .i64 k2) := q.get (i := 2) rfl
  have n3 : a5.cell? ⟨Y + 1, 3, none⟩ = some (.int .i64 k3) := q.get (i := 3) rfl
  have n4 : a5.cell? ⟨Y + 1, 4, none⟩ = some (.int .i64 k4) := q.get (i := 4) rfl
  have n5 : a5.cell? ⟨Y + 1, 5, none⟩ = some (.int .i64 k5) := q.get (i := 5) rfl
  have n6 : a5.cell? ⟨Y + 1, 6, none⟩ = some (.int .i64 k6) := q.get (i := 6) rfl
  have n7 : a5.cell? ⟨Y + 1, 7, none⟩ = some (.int .i64 k7) := q.get (i := 7) rfl
  clear q
  have BE := Bx.mk F5.out.1
  clear F5
  go_wp2_with fail
  go_ret
  exact ⟨rfl, BE.out⟩
end
end Go.Proofs.YtjbojoeafdkkeaaGreatDoor
