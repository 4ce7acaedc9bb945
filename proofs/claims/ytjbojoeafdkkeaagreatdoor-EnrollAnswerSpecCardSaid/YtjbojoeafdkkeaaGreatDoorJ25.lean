/- enroll: Answer, where the session is not valid; where no certificate is made; all ways together. -/
import Derived.Test.YtjbojoeafdkkeaaGreatDoorJ16
import Derived.Test.YtjbojoeafdkkeaaGreatDoorJ17
set_option linter.unusedVariables false
set_option linter.unusedSimpArgs false
namespace Go.Proofs.YtjbojoeafdkkeaaGreatDoor
open Go Go.RowKit Go.Lib

theorem k_cert_bad {w W : World} {X C Y F : Nat} {e : Ex} (h : FA w X C Y F e W) (hL : Laid w) (hr : ∀ x ∈ [2, e.dv, e.vf, e.lf, e.ver, e.bY], -9223372036854775808 ≤ x ∧ x ≤ 9223372036854775807) (n : Int) (hn : n ≠ 0)
    (hc : certF 2 e.dv e.vf e.lf e.ver e.bY e.priv = (zeroC, n)) :
    Calls Tryz.prog 57 #[.pointer (some ⟨Y, 0, none⟩)] W fun ev w' => ev = .returned (errV n false) ∧ Kp w X C Y F { e with ct := [0, 0, 0, 0, 0, 0, 0, 0] } W w' := by
  refine (k_cert h hL hr 0 0 0 0 0 0 0 0 n hc).mono ?_
  rintro ev w' ⟨rfl, hk⟩
  exact ⟨by rw [refV, if_neg hn], hk⟩

section
attribute [local irreducible] World.setCell World.setCells World.alloc

set_option maxHeartbeats 8000000 in
set_option maxRecDepth 100000 in
theorem answer_invalid (r code x p t : Int) (d : Bool) (pt dv_ vf lf : Int) (pk : List Int) (hpk : pk.length = 32) (ver bY priv : Int) (w : World) (hL : Laid w) (hE : EType w) (h1 : sessOK r code x p t = false) :
    Calls Tryz.prog 22 #[sessV r code x p t d, reqV pt dv_ vf lf pk, .int .i64 ver, .int .i64 bY, .int .i64 priv] w fun e w' => e = .returned (.tuple #[.agg sess0.toArray, .agg zC.toArray, .int .i64 380]) ∧ Below w.heap.size w w' := by
  obtain ⟨s4, b4, q0, q1, q2, q3⟩ := aw4_facts w (eOf r code x p t d pt dv_ vf lf pk ver bY priv)
  have S4 := Bx.mk s4; have B4 := Bx.mk b4; have Q0 := Bx.mk q0; have Q1 := Bx.mk q1; have Q2 := Bx.mk q2; have Q3 := Bx.mk q3
  obtain ⟨A4, hA4⟩ : ∃ A, A = aw4 w (eOf r code x p t d pt dv_ vf lf pk ver bY priv) := ⟨_, rfl⟩
  rw [← hA4] at S4 B4 Q0 Q1 Q2 Q3
  have HA4 := Bx.mk hA4
  clear s4 b4 q0 q1 q2 q3 hA4
  unfold sessV reqV
  go_enter Tryz.func22, Tryz.ntmps22
  go_wp2_with (first | (refine wpList_bxk rfl (.tmp 1) rfl (reqL pt dv_ vf lf pk) rfl ?_) | (refine wpList_pause 17 rfl ?_))
  intro W hW
  have hW2 : W = A4 := by rw [HA4.out]; exact hW
  clear hW
  subst hW2
  have c0 : W.cell? ⟨w.heap.size, 0, none⟩ = some (.int .i64 r) := Q0.out.get (i := 0) rfl
  have c1 : W.cell? ⟨w.heap.size, 1, none⟩ = some (.int .i64 code) := Q0.out.get (i := 1) rfl
  have c2 : W.cell? ⟨w.heap.size, 2, none⟩ = some (.int .i64 x) := Q0.out.get (i := 2) rfl
  have c3 : W.cell? ⟨w.heap.size, 3, none⟩ = some (.int .i64 p) := Q0.out.get (i := 3) rfl
  have c4 : W.cell? ⟨w.heap.size, 4, none⟩ = some (.int .i64 t) := Q0.out.get (i := 4) rfl
  have c5 : W.cell? ⟨w.heap.size, 5, none⟩ = some (.bool d) := Q0.out.get (i := 5) rfl
  have hbd := fun W => build_exam r code x p t d pt dv_ vf lf pk hpk ver bY priv W
  have E0 := Bx.mk (row_new W ex0.L 93)
  have hone : ∀ u ∈ (eOf r code x p t d pt dv_ vf lf pk ver bY priv).L, u.oneCell' = true := ex_one _
  have HONE := Bx.mk hone
  have HLN := Bx.mk (Ex.len (eOf r code x p t d pt dv_ vf lf pk ver bY priv) hpk rfl)
  have HPK := Bx.mk hpk
  clear hone
  go_wp2_with (first | (refine wpList_bld rfl 93 _ rfl #[(0, .agg #[.int .i64 r, .int .i64 code, .int .i64 x, .int .i64 p, .int .i64 t, .bool d]), (1, .agg (reqL pt dv_ vf lf pk).toArray), (2, .int .i64 ver), (3, .int .i64 bY), (4, .int .i64 priv)] (by kernel_rfl) _ (hbd W) ?_) | (refine wpList_ldN rowT_req rfl (.tmp 6) rfl (w.heap.size + 1) 0 rfl (reqL pt dv_ vf lf pk) Q1.out.range0 (reqL_len _ _ _ _ _ HPK.out) (.agg (reqL pt dv_ vf lf pk).toArray) rfl ?_) | (refine wpList_stR rowT_exam rfl (.tmp 13) (.tmp 22) rfl W.heap.size rfl (eOf r code x p t d pt dv_ vf lf pk ver bY priv).L rfl HONE.out HLN.out ex0.L E0.out rfl ?_))
  intro W5 e5 g5
  obtain ⟨Y, hY⟩ : ∃ Y, Y = W.heap.size := ⟨_, rfl⟩
  rw [← hY] at e5 g5 ⊢
  have hY1 : Y = w.heap.size + 4 := by rw [hY]; exact S4.out
  have g5s := g5.size
  rw [World.size_alloc, ← hY] at g5s
  have n5 : ∀ q, q < Y → some q ≠ some Y := fun q hq e => by have := Option.some.inj e; omega
  have B5 := Bx.mk (Below.grown (B4.out.alloc (by rw [S4.out]; omega) oE0) g5 (by rw [World.size_alloc]; omega) (by intro q hq; cases hq; omega))
  have R0 := (Q0.out.alloc (by rw [S4.out]; omega) oE0).grown g5 (by rw [World.size_alloc]; omega) (n5 _ (by omega))
  have R2 := (Q2.out.alloc (by rw [S4.out]; omega) oE0).grown g5 (by rw [World.size_alloc]; omega) (n5 _ (by omega))
  have R3 := (Q3.out.alloc (by rw [S4.out]; omega) oE0).grown g5 (by rw [World.size_alloc]; omega) (n5 _ (by omega))
  have HF5 : Bx (w.heap.size < w.heap.size + 1 + 1 ∧ w.heap.size + 1 + 1 < w.heap.size + 1 + 1 + 1 ∧ w.heap.size + 1 + 1 + 1 < Y ∧ Y < W5.heap.size) := .mk ⟨by omega, by omega, by omega, by omega⟩
  have R0 := Bx.mk R0; have R2 := Bx.mk R2; have R3 := Bx.mk R3
  have R4 := Bx.mk (show ExAt W5 Y (eOf r code x p t d pt dv_ vf lf pk ver bY priv) from ⟨e5, HPK.out, rfl⟩)
  clear c0 c1 c2 c3 c4 c5 hbd E0 HONE HLN e5 g5 g5s n5 hY hY1 Q0 Q1 Q2 Q3 B4 S4 HA4
  go_wp2_with (refine wpList_pause 29 rfl ?_)
  intro W6 hW6
  obtain ⟨F, hF⟩ : ∃ F, F = W5.heap.size := ⟨_, rfl⟩
  obtain ⟨X, hX⟩ : ∃ X, X = w.heap.size + 1 + 1 := ⟨_, rfl⟩
  obtain ⟨C, hC⟩ : ∃ C, C = X + 1 := ⟨_, rfl⟩
  have hfa : FA w X C Y F (eOf r code x p t d pt dv_ vf lf pk ver bY priv) W6 := by
    have hf := row_new W5 (fnsL Y) 94
    obtain ⟨o1, o2, o3, o4⟩ := HF5.out
    rw [hW6, hF, hC, hX]
    exact ⟨B5.out.alloc B5.out.size _, R0.out.alloc (by omega) _, R2.out.alloc (by show w.heap.size + 2 < _; omega) _, R3.out.alloc (by show w.heap.size + 3 < _; omega) _, ⟨R4.out.row.alloc (by omega) _, R4.out.pk, R4.out.ct⟩, hf, o1, o2, o3, o4⟩
  have HFA := Bx.mk hfa
  clear hfa hW6 HF5 R0 R2 R3 R4 B5
  rw [← hF, ← hX, ← hC]
  clear hF hX hC
  have HF0 := HFA
  clear HFA
  go_wp2_with fail
  refine wp_loop_rounds 1 ?_
  rw [rounds_succ]
  have g0 : W6.cell? ⟨F, 0, none⟩ = some (.func (.func 54) #[.pointer (some ⟨Y, 0, none⟩)] #[]) := HF0.out.fn (i := 0) rfl
  have HA0 := Bx.mk (HF0.out.alloc (.cells #[.int .i64 0, .bool false] 97))
  have T0 := Bx.mk (row_new W6 [.int .i64 0, .bool false] 97)
  have hlt := HF0.out.lt
  go_wp2_with fail
  refine (k_valid_bad HA0.out h1).mono ?_
  rintro ev V ⟨rfl, kp⟩
  obtain ⟨T, hT⟩ : ∃ T, T = W6.heap.size := ⟨_, rfl⟩
  rw [← hT] at T0 hlt ⊢
  have RT := Bx.mk (kp.2 T _ T0.out (by simp) hlt)
  have HV := Bx.mk kp.1
  have HEV := Bx.mk (hE.below kp.1.b (cell_lt hE))
  clear g0 HA0 HF0 kp T0 hT
  go_wp2_with fail
  refine (as_hit2 T 380 false _ _ _ HEV.out RT.out).mono ?_
  rintro ev Z ⟨rfl, rz, gz⟩
  have HZ := Bx.mk (HV.out.grown gz hlt)
  have t0 : Z.cell? ⟨T, 0, none⟩ = some (.int .i64 380) := rz.get (i := 0) rfl
  have t1 : Z.cell? ⟨T, 1, none⟩ = some (.bool false) := rz.get (i := 1) rfl
  have x0 : Z.cell? ⟨X, 0, none⟩ = some (.int .i64 0) := HZ.out.x.get (i := 0) rfl
  have x1 : Z.cell? ⟨X, 1, none⟩ = some (.int .i64 0) := HZ.out.x.get (i := 1) rfl
  have x2 : Z.cell? ⟨X, 2, none⟩ = some (.int .i64 0) := HZ.out.x.get (i := 2) rfl
  have x3 : Z.cell? ⟨X, 3, none⟩ = some (.int .i64 0) := HZ.out.x.get (i := 3) rfl
  have x4 : Z.cell? ⟨X, 4, none⟩ = some (.int .i64 0) := HZ.out.x.get (i := 4) rfl
  have x5 : Z.cell? ⟨X, 5, none⟩ = some (.bool false) := HZ.out.x.get (i := 5) rfl
  have y0 : Z.cell? ⟨C, 0, none⟩ = some (.int .i64 0) := HZ.out.c.get (i := 0) rfl
  have y1 : Z.cell? ⟨C, 1, none⟩ = some (.int .i64 0) := HZ.out.c.get (i := 1) rfl
  have y2 : Z.cell? ⟨C, 2, none⟩ = some (.int .i64 0) := HZ.out.c.get (i := 2) rfl
  have y3 : Z.cell? ⟨C, 3, none⟩ = some (.int .i64 0) := HZ.out.c.get (i := 3) rfl
  have y4 : Z.cell? ⟨C, 4, none⟩ = some (.int .i64 0) := HZ.out.c.get (i := 4) rfl
  have y5 : Z.cell? ⟨C, 5, none⟩ = some (.int .i64 0) := HZ.out.c.get (i := 5) rfl
  have y6 : Z.cell? ⟨C, 6, none⟩ = some (.int .i64 0) := HZ.out.c.get (i := 6) rfl
  have y7 : Z.cell? ⟨C, 7, none⟩ = some (.int .i64 0) := HZ.out.c.get (i := 7) rfl
  have hTT : T ≠ X ∧ T ≠ C := by have := HZ.out.o2; have := HZ.out.o3; have := HZ.out.o4; omega
  clear HV HEV RT rz gz hlt
  go_wp2_with fail
  have hSA : SA w X C T 380 Z.drew := ⟨below_drewN HZ.out.b 1, HZ.out.x, HZ.out.c, t0⟩
  obtain ⟨hX0, hXC, hC0⟩ : w.heap.size ≤ X ∧ X ≠ C ∧ w.heap.size ≤ C := by have := HZ.out.o1; have := HZ.out.o2; omega
  have hTX : T ≠ X ∧ T ≠ C := hTT
  obtain ⟨d1, a1, a2⟩ := rowT_sess.row
  obtain ⟨d2, b1, b2⟩ := rowT_cert.row
  clear x0 x1 x2 x3 x4 x5 y0 y1 y2 y3 y4 y5 y6 y7 t0 t1 HZ hTT
  refine wp_region_noPanic ?_
  refine wp_region_held_drew (S := fun W' => SA w X C T 380 W') (by kernel_rfl) hSA (fun hS0 => ?_)
  refine wpAnyH_take (i := 0) (oi := _) (v := .agg sess0.toArray) rfl (by kernel_rfl) (by kernel_rfl) (by kernel_rfl) (fun _ _ _ h => h) (yieldsIf_load_mid (by rfl) 25 (.tmp 10) rfl X 0 (by kernel_rfl) sess0 d1 (fun _ h => h.2.1.range0) a1 a2 rowT_sess.size) hS0 ?_
  simp only [Act.put, List.setIfInBounds_toArray, List.set_cons_zero, List.set_cons_succ]
  refine wpAnyH_take (i := 1) (oi := _) (v := .agg zC.toArray) rfl (by kernel_rfl) (by kernel_rfl) (by kernel_rfl) (fun _ _ _ h => h) (yieldsIf_load_mid (by rfl) 44 (.tmp 11) rfl C 0 (by kernel_rfl) zC d2 (fun _ h => h.2.2.1.range0) b1 b2 rowT_cert.size) hS0 ?_
  simp only [Act.put, List.setIfInBounds_toArray, List.set_cons_zero, List.set_cons_succ]
  refine wpAnyH_take (i := 2) (oi := _) (v := .pointer (some ⟨T, 0, none⟩)) rfl (by kernel_rfl) (by kernel_rfl) (by kernel_rfl) (fun _ _ _ h => h) (Or.inl ⟨by rfl, by (intro wz hSz; go_simp)⟩) hS0 ?_
  simp only [Act.put, List.setIfInBounds_toArray, List.set_cons_zero, List.set_cons_succ]
  refine wpAnyH_take (i := 3) (oi := _) (v := .int .i64 380) rfl (by kernel_rfl) (by kernel_rfl) (by kernel_rfl) (fun _ _ _ h => h) (Or.inl ⟨by rfl, by (intro wz hSz; have hcz := hSz.2.2.2; go_simp)⟩) hS0 ?_
  simp only [Act.put, List.setIfInBounds_toArray, List.set_cons_zero, List.set_cons_succ]
  refine wpAnyH_ready (rs := [4]) (by kernel_rfl) (by simp) ?_
  refine AllReadyH.cons (o := _) rfl (fun K1 hK1 => ?_) AllReadyH.nil
  rw [if_pos (by rfl)]
  refine wp_store_mid 25 (.tmp 10) (.tmp 46) rfl X 0 sess0.toArray (by kernel_rfl) (by kernel_rfl) (hS0.2.1.there 0 6 (by decide)) rowT_sess.size (all_oneCell_toArray sess0_one) ?_
  have hS1 := sa_x hS0 hX0 hXC hTX.1
  refine hK1.out _ _ hS1 (fun _ => ?_)
  refine wpAnyH_ready (rs := [5]) (by kernel_rfl) (by simp) ?_
  refine AllReadyH.cons (o := _) rfl (fun K2 hK2 => ?_) AllReadyH.nil
  rw [if_pos (by rfl)]
  refine wp_store_mid 44 (.tmp 11) (.tmp 47) rfl C 0 zC.toArray (by kernel_rfl) (by kernel_rfl) (hS1.2.2.1.there 0 8 (by decide)) rowT_cert.size (all_oneCell_toArray (one_ints .i64 _)) ?_
  have hS2 := sa_c hS1 hC0 hXC hTX.2
  refine hK2.out _ _ hS2 (fun _ => ?_)
  refine wpAnyH_ready (rs := [6]) (by kernel_rfl) (by simp) ?_
  refine AllReadyH.cons (o := _) rfl (fun K3 hK3 => ?_) AllReadyH.nil
  go_simp
  refine hK3.out _ _ hS2 (fun _ => ?_)
  refine wpAnyH_done (by kernel_rfl) ?_ _
  refine NoPanic.normal ?_
  have HS := Bx.mk hS2
  clear hS0 hS1 hS2 hK1 hK2 hK3 hSA
  generalize (World.setCells _ C 0 zC.toArray.toList) = Zf at *
  go_wp2_with fail
  (try simp only [Exit.inBlock, Exit.then])
  refine bodyPost_ret (results_ans rfl _ _ X C sess0 zC (.int .i64 380) rfl rfl rfl HS.out.2.1 rfl HS.out.2.2.1 rfl) rfl ?_
  exact ⟨rfl, HS.out.1⟩

set_option maxHeartbeats 8000000 in
set_option maxRecDepth 100000 in
theorem answer_cert (r code x p t : Int) (d : Bool) (pt dv_ vf lf : Int) (pk : List Int) (hpk : pk.length = 32) (ver bY priv : Int) (w : World) (hL : Laid w) (hE : EType w) (i1 : i64R pt) (i2 : i64R vf) (i3 : i64R lf) (n : Int) (hn : n ≠ 0) (h1 : sessOK r code x p t = true) (h2 : openE t d = 0) (h3 : fitsB p pt dv_ vf lf = true) (hr6 : ∀ x ∈ [2, dv_, vf, lf, ver, bY], -9223372036854775808 ≤ x ∧ x ≤ 9223372036854775807) (hc : certF 2 dv_ vf lf ver bY priv = (zeroC, n)) :
    Calls Tryz.prog 22 #[sessV r code x p t d, reqV pt dv_ vf lf pk, .int .i64 ver, .int .i64 bY, .int .i64 priv] w fun e w' => e = .returned (.tuple #[.agg sess0.toArray, .agg zC.toArray, .int .i64 n]) ∧ Below w.heap.size w w' := by
  obtain ⟨s4, b4, q0, q1, q2, q3⟩ := aw4_facts w (eOf r code x p t d pt dv_ vf lf pk ver bY priv)
  have S4 := Bx.mk s4; have B4 := Bx.mk b4; have Q0 := Bx.mk q0; have Q1 := Bx.mk q1; have Q2 := Bx.mk q2; have Q3 := Bx.mk q3
  obtain ⟨A4, hA4⟩ : ∃ A, A = aw4 w (eOf r code x p t d pt dv_ vf lf pk ver bY priv) := ⟨_, rfl⟩
  rw [← hA4] at S4 B4 Q0 Q1 Q2 Q3
  have HA4 := Bx.mk hA4
  clear s4 b4 q0 q1 q2 q3 hA4
  unfold sessV reqV
  go_enter Tryz.func22, Tryz.ntmps22
  go_wp2_with (first | (refine wpList_bxk rfl (.tmp 1) rfl (reqL pt dv_ vf lf pk) rfl ?_) | (refine wpList_pause 17 rfl ?_))
  intro W hW
  have hW2 : W = A4 := by rw [HA4.out]; exact hW
  clear hW
  subst hW2
  have c0 : W.cell? ⟨w.heap.size, 0, none⟩ = some (.int .i64 r) := Q0.out.get (i := 0) rfl
  have c1 : W.cell? ⟨w.heap.size, 1, none⟩ = some (.int .i64 code) := Q0.out.get (i := 1) rfl
  have c2 : W.cell? ⟨w.heap.size, 2, none⟩ = some (.int .i64 x) := Q0.out.get (i := 2) rfl
  have c3 : W.cell? ⟨w.heap.size, 3, none⟩ = some (.int .i64 p) := Q0.out.get (i := 3) rfl
  have c4 : W.cell? ⟨w.heap.size, 4, none⟩ = some (.int .i64 t) := Q0.out.get (i := 4) rfl
  have c5 : W.cell? ⟨w.heap.size, 5, none⟩ = some (.bool d) := Q0.out.get (i := 5) rfl
  have hbd := fun W => build_exam r code x p t d pt dv_ vf lf pk hpk ver bY priv W
  have E0 := Bx.mk (row_new W ex0.L 93)
  have hone : ∀ u ∈ (eOf r code x p t d pt dv_ vf lf pk ver bY priv).L, u.oneCell' = true := ex_one _
  have HONE := Bx.mk hone
  have HLN := Bx.mk (Ex.len (eOf r code x p t d pt dv_ vf lf pk ver bY priv) hpk rfl)
  have HPK := Bx.mk hpk
  clear hone
  go_wp2_with (first | (refine wpList_bld rfl 93 _ rfl #[(0, .agg #[.int .i64 r, .int .i64 code, .int .i64 x, .int .i64 p, .int .i64 t, .bool d]), (1, .agg (reqL pt dv_ vf lf pk).toArray), (2, .int .i64 ver), (3, .int .i64 bY), (4, .int .i64 priv)] (by kernel_rfl) _ (hbd W) ?_) | (refine wpList_ldN rowT_req rfl (.tmp 6) rfl (w.heap.size + 1) 0 rfl (reqL pt dv_ vf lf pk) Q1.out.range0 (reqL_len _ _ _ _ _ HPK.out) (.agg (reqL pt dv_ vf lf pk).toArray) rfl ?_) | (refine wpList_stR rowT_exam rfl (.tmp 13) (.tmp 22) rfl W.heap.size rfl (eOf r code x p t d pt dv_ vf lf pk ver bY priv).L rfl HONE.out HLN.out ex0.L E0.out rfl ?_))
  intro W5 e5 g5
  obtain ⟨Y, hY⟩ : ∃ Y, Y = W.heap.size := ⟨_, rfl⟩
  rw [← hY] at e5 g5 ⊢
  have hY1 : Y = w.heap.size + 4 := by rw [hY]; exact S4.out
  have g5s := g5.size
  rw [World.size_alloc, ← hY] at g5s
  have n5 : ∀ q, q < Y → some q ≠ some Y := fun q hq e => by have := Option.some.inj e; omega
  have B5 := Bx.mk (Below.grown (B4.out.alloc (by rw [S4.out]; omega) oE0) g5 (by rw [World.size_alloc]; omega) (by intro q hq; cases hq; omega))
  have R0 := (Q0.out.alloc (by rw [S4.out]; omega) oE0).grown g5 (by rw [World.size_alloc]; omega) (n5 _ (by omega))
  have R2 := (Q2.out.alloc (by rw [S4.out]; omega) oE0).grown g5 (by rw [World.size_alloc]; omega) (n5 _ (by omega))
  have R3 := (Q3.out.alloc (by rw [S4.out]; omega) oE0).grown g5 (by rw [World.size_alloc]; omega) (n5 _ (by omega))
  have HF5 : Bx (w.heap.size < w.heap.size + 1 + 1 ∧ w.heap.size + 1 + 1 < w.heap.size + 1 + 1 + 1 ∧ w.heap.size + 1 + 1 + 1 < Y ∧ Y < W5.heap.size) := .mk ⟨by omega, by omega, by omega, by omega⟩
  have R0 := Bx.mk R0; have R2 := Bx.mk R2; have R3 := Bx.mk R3
  have R4 := Bx.mk (show ExAt W5 Y (eOf r code x p t d pt dv_ vf lf pk ver bY priv) from ⟨e5, HPK.out, rfl⟩)
  clear c0 c1 c2 c3 c4 c5 hbd E0 HONE HLN e5 g5 g5s n5 hY hY1 Q0 Q1 Q2 Q3 B4 S4 HA4
  go_wp2_with (refine wpList_pause 29 rfl ?_)
  intro W6 hW6
  obtain ⟨F, hF⟩ : ∃ F, F = W5.heap.size := ⟨_, rfl⟩
  obtain ⟨X, hX⟩ : ∃ X, X = w.heap.size + 1 + 1 := ⟨_, rfl⟩
  obtain ⟨C, hC⟩ : ∃ C, C = X + 1 := ⟨_, rfl⟩
  have hfa : FA w X C Y F (eOf r code x p t d pt dv_ vf lf pk ver bY priv) W6 := by
    have hf := row_new W5 (fnsL Y) 94
    obtain ⟨o1, o2, o3, o4⟩ := HF5.out
    rw [hW6, hF, hC, hX]
    exact ⟨B5.out.alloc B5.out.size _, R0.out.alloc (by omega) _, R2.out.alloc (by show w.heap.size + 2 < _; omega) _, R3.out.alloc (by show w.heap.size + 3 < _; omega) _, ⟨R4.out.row.alloc (by omega) _, R4.out.pk, R4.out.ct⟩, hf, o1, o2, o3, o4⟩
  have HFA := Bx.mk hfa
  clear hfa hW6 HF5 R0 R2 R3 R4 B5
  rw [← hF, ← hX, ← hC]
  clear hF hX hC
  have HF0 := HFA
  clear HFA
  go_wp2_with fail
  refine wp_loop_rounds 4 ?_
  rw [rounds_succ]
  have g0 : W6.cell? ⟨F, 0, none⟩ = some (.func (.func 54) #[.pointer (some ⟨Y, 0, none⟩)] #[]) := HF0.out.fn (i := 0) rfl
  have HA0 := Bx.mk (HF0.out.alloc (.cells #[.int .i64 0, .bool false] 97))
  go_wp2_with fail
  refine (k_valid HA0.out h1).mono ?_
  rintro ev V0 ⟨rfl, kp0⟩
  have HF1 := Bx.mk kp0.1
  clear g0 HA0 HF0 kp0
  go_wp2_with fail
  refine (as_nil _ _).mono ?_
  rintro ev Z0 ⟨rfl, rfl⟩
  go_wp2_with fail
  rw [rounds_succ]
  have g1 : Z0.cell? ⟨F, 1, none⟩ = some (.func (.func 55) #[.pointer (some ⟨Y, 0, none⟩)] #[]) := HF1.out.fn (i := 1) rfl
  have HA1 := Bx.mk (HF1.out.alloc (.cells #[.int .i64 0, .bool false] 97))
  go_wp2_with fail
  refine (k_open HA1.out h2).mono ?_
  rintro ev V1 ⟨rfl, kp1⟩
  have HF2 := Bx.mk kp1.1
  clear g1 HA1 HF1 kp1
  go_wp2_with fail
  refine (as_nil _ _).mono ?_
  rintro ev Z1 ⟨rfl, rfl⟩
  go_wp2_with fail
  rw [rounds_succ]
  have g2 : Z1.cell? ⟨F, 2, none⟩ = some (.func (.func 56) #[.pointer (some ⟨Y, 0, none⟩)] #[]) := HF2.out.fn (i := 2) rfl
  have HA2 := Bx.mk (HF2.out.alloc (.cells #[.int .i64 0, .bool false] 97))
  go_wp2_with fail
  refine (k_formed HA2.out i1 i2 i3 h3).mono ?_
  rintro ev V2 ⟨rfl, kp2⟩
  have HF3 := Bx.mk kp2.1
  clear g2 HA2 HF2 kp2
  go_wp2_with fail
  refine (as_nil _ _).mono ?_
  rintro ev Z2 ⟨rfl, rfl⟩
  go_wp2_with fail
  rw [rounds_succ]
  have g3 : Z2.cell? ⟨F, 3, none⟩ = some (.func (.func 57) #[.pointer (some ⟨Y, 0, none⟩)] #[]) := HF3.out.fn (i := 3) rfl
  have HA3 := Bx.mk (HF3.out.alloc (.cells #[.int .i64 0, .bool false] 97))
  have T0 := Bx.mk (row_new Z2 [.int .i64 0, .bool false] 97)
  have hlt := HF3.out.lt
  go_wp2_with fail
  refine (k_cert_bad HA3.out hL hr6 n hn hc).mono ?_
  rintro ev V ⟨rfl, kp⟩
  obtain ⟨T, hT⟩ : ∃ T, T = Z2.heap.size := ⟨_, rfl⟩
  rw [← hT] at T0 hlt ⊢
  have RT := Bx.mk (kp.2 T _ T0.out (by simp) hlt)
  have HV := Bx.mk kp.1
  have HEV := Bx.mk (hE.below kp.1.b (cell_lt hE))
  clear g3 HA3 HF3 kp T0 hT
  go_wp2_with fail
  refine (as_hit2 T n false _ _ _ HEV.out RT.out).mono ?_
  rintro ev Z ⟨rfl, rz, gz⟩
  have HZ := Bx.mk (HV.out.grown gz hlt)
  have t0 : Z.cell? ⟨T, 0, none⟩ = some (.int .i64 n) := rz.get (i := 0) rfl
  have t1 : Z.cell? ⟨T, 1, none⟩ = some (.bool false) := rz.get (i := 1) rfl
  have x0 : Z.cell? ⟨X, 0, none⟩ = some (.int .i64 0) := HZ.out.x.get (i := 0) rfl
  have x1 : Z.cell? ⟨X, 1, none⟩ = some (.int .i64 0) := HZ.out.x.get (i := 1) rfl
  have x2 : Z.cell? ⟨X, 2, none⟩ = some (.int .i64 0) := HZ.out.x.get (i := 2) rfl
  have x3 : Z.cell? ⟨X, 3, none⟩ = some (.int .i64 0) := HZ.out.x.get (i := 3) rfl
  have x4 : Z.cell? ⟨X, 4, none⟩ = some (.int .i64 0) := HZ.out.x.get (i := 4) rfl
  have x5 : Z.cell? ⟨X, 5, none⟩ = some (.bool false) := HZ.out.x.get (i := 5) rfl
  have y0 : Z.cell? ⟨C, 0, none⟩ = some (.int .i64 0) := HZ.out.c.get (i := 0) rfl
  have y1 : Z.cell? ⟨C, 1, none⟩ = some (.int .i64 0) := HZ.out.c.get (i := 1) rfl
  have y2 : Z.cell? ⟨C, 2, none⟩ = some (.int .i64 0) := HZ.out.c.get (i := 2) rfl
  have y3 : Z.cell? ⟨C, 3, none⟩ = some (.int .i64 0) := HZ.out.c.get (i := 3) rfl
  have y4 : Z.cell? ⟨C, 4, none⟩ = some (.int .i64 0) := HZ.out.c.get (i := 4) rfl
  have y5 : Z.cell? ⟨C, 5, none⟩ = some (.int .i64 0) := HZ.out.c.get (i := 5) rfl
  have y6 : Z.cell? ⟨C, 6, none⟩ = some (.int .i64 0) := HZ.out.c.get (i := 6) rfl
  have y7 : Z.cell? ⟨C, 7, none⟩ = some (.int .i64 0) := HZ.out.c.get (i := 7) rfl
  have hTT : T ≠ X ∧ T ≠ C := by have := HZ.out.o2; have := HZ.out.o3; have := HZ.out.o4; omega
  clear HV HEV RT rz gz hlt
  go_wp2_with fail
  have hSA : SA w X C T n Z.drew := ⟨below_drewN HZ.out.b 1, HZ.out.x, HZ.out.c, t0⟩
  obtain ⟨hX0, hXC, hC0⟩ : w.heap.size ≤ X ∧ X ≠ C ∧ w.heap.size ≤ C := by have := HZ.out.o1; have := HZ.out.o2; omega
  have hTX : T ≠ X ∧ T ≠ C := hTT
  obtain ⟨d1, a1, a2⟩ := rowT_sess.row
  obtain ⟨d2, b1, b2⟩ := rowT_cert.row
  clear x0 x1 x2 x3 x4 x5 y0 y1 y2 y3 y4 y5 y6 y7 t0 t1 HZ hTT
  refine wp_region_noPanic ?_
  refine wp_region_held_drew (S := fun W' => SA w X C T n W') (by kernel_rfl) hSA (fun hS0 => ?_)
  refine wpAnyH_take (i := 0) (oi := _) (v := .agg sess0.toArray) rfl (by kernel_rfl) (by kernel_rfl) (by kernel_rfl) (fun _ _ _ h => h) (yieldsIf_load_mid (by rfl) 25 (.tmp 10) rfl X 0 (by kernel_rfl) sess0 d1 (fun _ h => h.2.1.range0) a1 a2 rowT_sess.size) hS0 ?_
  simp only [Act.put, List.setIfInBounds_toArray, List.set_cons_zero, List.set_cons_succ]
  refine wpAnyH_take (i := 1) (oi := _) (v := .agg zC.toArray) rfl (by kernel_rfl) (by kernel_rfl) (by kernel_rfl) (fun _ _ _ h => h) (yieldsIf_load_mid (by rfl) 44 (.tmp 11) rfl C 0 (by kernel_rfl) zC d2 (fun _ h => h.2.2.1.range0) b1 b2 rowT_cert.size) hS0 ?_
  simp only [Act.put, List.setIfInBounds_toArray, List.set_cons_zero, List.set_cons_succ]
  refine wpAnyH_take (i := 2) (oi := _) (v := .pointer (some ⟨T, 0, none⟩)) rfl (by kernel_rfl) (by kernel_rfl) (by kernel_rfl) (fun _ _ _ h => h) (Or.inl ⟨by rfl, by (intro wz hSz; go_simp)⟩) hS0 ?_
  simp only [Act.put, List.setIfInBounds_toArray, List.set_cons_zero, List.set_cons_succ]
  refine wpAnyH_take (i := 3) (oi := _) (v := .int .i64 n) rfl (by kernel_rfl) (by kernel_rfl) (by kernel_rfl) (fun _ _ _ h => h) (Or.inl ⟨by rfl, by (intro wz hSz; have hcz := hSz.2.2.2; go_simp)⟩) hS0 ?_
  simp only [Act.put, List.setIfInBounds_toArray, List.set_cons_zero, List.set_cons_succ]
  refine wpAnyH_ready (rs := [4]) (by kernel_rfl) (by simp) ?_
  refine AllReadyH.cons (o := _) rfl (fun K1 hK1 => ?_) AllReadyH.nil
  rw [if_pos (by rfl)]
  refine wp_store_mid 25 (.tmp 10) (.tmp 46) rfl X 0 sess0.toArray (by kernel_rfl) (by kernel_rfl) (hS0.2.1.there 0 6 (by decide)) rowT_sess.size (all_oneCell_toArray sess0_one) ?_
  have hS1 := sa_x hS0 hX0 hXC hTX.1
  refine hK1.out _ _ hS1 (fun _ => ?_)
  refine wpAnyH_ready (rs := [5]) (by kernel_rfl) (by simp) ?_
  refine AllReadyH.cons (o := _) rfl (fun K2 hK2 => ?_) AllReadyH.nil
  rw [if_pos (by rfl)]
  refine wp_store_mid 44 (.tmp 11) (.tmp 47) rfl C 0 zC.toArray (by kernel_rfl) (by kernel_rfl) (hS1.2.2.1.there 0 8 (by decide)) rowT_cert.size (all_oneCell_toArray (one_ints .i64 _)) ?_
  have hS2 := sa_c hS1 hC0 hXC hTX.2
  refine hK2.out _ _ hS2 (fun _ => ?_)
  refine wpAnyH_ready (rs := [6]) (by kernel_rfl) (by simp) ?_
  refine AllReadyH.cons (o := _) rfl (fun K3 hK3 => ?_) AllReadyH.nil
  go_simp
  refine hK3.out _ _ hS2 (fun _ => ?_)
  refine wpAnyH_done (by kernel_rfl) ?_ _
  refine NoPanic.normal ?_
  have HS := Bx.mk hS2
  clear hS0 hS1 hS2 hK1 hK2 hK3 hSA
  generalize (World.setCells _ C 0 zC.toArray.toList) = Zf at *
  go_wp2_with fail
  (try simp only [Exit.inBlock, Exit.then])
  refine bodyPost_ret (results_ans rfl _ _ X C sess0 zC (.int .i64 n) rfl rfl rfl HS.out.2.1 rfl HS.out.2.2.1 rfl) rfl ?_
  exact ⟨rfl, HS.out.1⟩
end

/-- What Answer answers: the session, the certificate, the error. -/
def ansF (r code x p t : Int) (d : Bool) (pt dv_ vf lf : Int) (pk : List Int) (ver bY priv : Int) : List Value × Value × Int :=
  if sessOK r code x p t then
    if openE t d = 0 then
      if fitsB p pt dv_ vf lf then
        if (certF 2 dv_ vf lf ver bY priv).2 = 0 then
          if pk = rqN (prfN (keyN r code x pt) 2) dv_ vf lf then (sessL r code x p t true, (certF 2 dv_ vf lf ver bY priv).1, 0)
          else (sessL r code x p (t + 1) d, zeroC, 380)
        else (sess0, zeroC, (certF 2 dv_ vf lf ver bY priv).2)
      else (sess0, zeroC, 1)
    else (sess0, zeroC, openE t d)
  else (sess0, zeroC, 380)
theorem certF_bad {k d v l n b x : Int} (h : (certF k d v l n b x).2 ≠ 0) : certF k d v l n b x = (zeroC, (certF k d v l n b x).2) := by
  unfold certF at h ⊢
  split
  · split
    · rename_i h1 h2; simp [h1, h2] at h
    · rfl
  · rfl
theorem certF_good {k d v l n b x : Int} (h : (certF k d v l n b x).2 = 0) : certF k d v l n b x = (certV k d v l n b (sigR x (msgN k d v l n b)) (sigS x (msgN k d v l n b)), 0) := by
  unfold certF at h ⊢
  split
  · split
    · rfl
    · rename_i h1 h2; simp [h1, h2] at h
  · rename_i h1; simp [h1] at h
theorem answer_c (r code x p t : Int) (d : Bool) (pt dv_ vf lf : Int) (pk : List Int) (hpk : pk.length = 32) (ver bY priv : Int) (w : World) (hL : Laid w) (hE : EType w) (i1 : i64R pt) (i2 : i64R vf) (i3 : i64R lf) (i4 : i64R dv_) (i5 : i64R ver) (i6 : i64R bY) :
    Calls Tryz.prog 22 #[sessV r code x p t d, reqV pt dv_ vf lf pk, .int .i64 ver, .int .i64 bY, .int .i64 priv] w fun e w' => e = .returned (.tuple #[.agg (ansF r code x p t d pt dv_ vf lf pk ver bY priv).1.toArray, (ansF r code x p t d pt dv_ vf lf pk ver bY priv).2.1, .int .i64 (ansF r code x p t d pt dv_ vf lf pk ver bY priv).2.2]) ∧ Below w.heap.size w w' := by
  have hr6 : ∀ x ∈ [2, dv_, vf, lf, ver, bY], -9223372036854775808 ≤ x ∧ x ≤ 9223372036854775807 := by
    intro x hx
    simp only [List.mem_cons, List.not_mem_nil, or_false] at hx
    rcases hx with rfl | rfl | rfl | rfl | rfl | rfl
    · decide
    · exact i4
    · exact i2
    · exact i3
    · exact i5
    · exact i6
  have hr3 : ∀ z ∈ [dv_, vf, lf], -9223372036854775808 ≤ z ∧ z ≤ 9223372036854775807 := fun z hz => hr6 z (by simp only [List.mem_cons, List.not_mem_nil, or_false] at hz ⊢; omega)
  unfold ansF
  cases h1 : sessOK r code x p t with
  | false => exact answer_invalid r code x p t d pt dv_ vf lf pk hpk ver bY priv w hL hE h1
  | true =>
    rw [if_pos rfl]
    by_cases h2 : openE t d = 0
    · rw [if_pos h2]
      cases h3 : fitsB p pt dv_ vf lf with
      | false => exact answer_formed r code x p t d pt dv_ vf lf pk hpk ver bY priv w hL hE i1 i2 i3 h1 h2 h3
      | true =>
        rw [if_pos rfl]
        by_cases hc : (certF 2 dv_ vf lf ver bY priv).2 = 0
        · rw [if_pos hc]
          have hg := certF_good hc
          by_cases h5 : pk = rqN (prfN (keyN r code x pt) 2) dv_ vf lf
          · rw [if_pos h5]
            rw [hg]
            exact answer_yes r code x p t d pt dv_ vf lf pk hpk ver bY priv w hL hE i1 i2 i3 _ _ _ _ _ _ _ _ h1 h2 h3 hr6 hg hr3 h5
          · rw [if_neg h5]
            exact answer_no r code x p t d pt dv_ vf lf pk hpk ver bY priv w hL hE i1 i2 i3 _ _ _ _ _ _ _ _ h1 h2 h3 hr6 hg hr3 h5
        · rw [if_neg hc]
          exact answer_cert r code x p t d pt dv_ vf lf pk hpk ver bY priv w hL hE i1 i2 i3 _ hc h1 h2 h3 hr6 (certF_bad hc)
    · rw [if_neg h2]
      exact answer_open r code x p t d pt dv_ vf lf pk hpk ver bY priv w hL hE _ h2 h1 rfl
end Go.Proofs.YtjbojoeafdkkeaaGreatDoor

namespace Go.Proofs.YtjbojoeafdkkeaaGreatDoor
open Go Go.RowKit Go.Lib

theorem fs_args (w : World) (r code x p t : Int) (d : Bool) (pt dv_ vf lf : Int) (pk : List Int) :
    FS w [(w.heap.size + 1, reqL pt dv_ vf lf pk), (w.heap.size, sessL r code x p t d)] (w.heap.size + 2) ((w.alloc (.cells (sessL r code x p t d).toArray 25)).alloc (.cells (reqL pt dv_ vf lf pk).toArray 37)) := by
  have e1 : (w.alloc (.cells (sessL r code x p t d).toArray 25)).heap.size = w.heap.size + 1 := World.size_alloc _ _
  have h2 := row_new (w.alloc (.cells (sessL r code x p t d).toArray 25)) (reqL pt dv_ vf lf pk) 37
  rw [e1] at h2
  refine ⟨((Below.refl _ _).alloc (Nat.le_refl _) _).alloc (by rw [e1]; omega) _, by rw [World.size_alloc, e1]; omega, by omega, fun b hb => ?_⟩
  simp only [List.mem_cons, List.not_mem_nil, or_false] at hb
  rcases hb with rfl | rfl
  · exact ⟨h2, by simp [reqL], by simp⟩
  · exact ⟨(row_new w (sessL r code x p t d) 25).alloc (by rw [e1]; omega) _, by simp [sessL], by simp⟩
theorem fields_of {t : TypeId} {fs : Array Field} (h : Tryz.prog.underlying t = some (.struct fs)) : Tryz.prog.fieldsOf t = fs := by simp [Program.fieldsOf, h]
theorem eq_cert_self (a b c d e f g h : Int) (w : World) : (Op.equalIn 10000 44 (certV a b c d e f g h) (certV a b c d e f g h)).run Tryz.prog w = .ok true w := by
  unfold certV
  rw [run_equalIn_struct _ _ _ _ _ (by kernel_rfl) (by kernel_rfl), fields_of Tryz.underlying44]
  simp [Op.eqFields, go_sem, part]
theorem eq_zC (w : World) : (Op.equalIn 10000 44 (.agg zC.toArray) (.agg zC.toArray)).run Tryz.prog w = .ok true w := eq_cert_self 0 0 0 0 0 0 0 0 w
theorem eq_sess_self (r c x p t : Int) (d : Bool) (w : World) : (Op.equalIn 10000 25 (sessV r c x p t d) (sessV r c x p t d)).run Tryz.prog w = .ok true w := by
  unfold sessV
  rw [run_equalIn_struct _ _ _ _ _ (by kernel_rfl) (by kernel_rfl), fields_of Tryz.underlying25]
  simp [Op.eqFields, go_sem, part]
/-- The literal's function that makes a number a value. -/
theorem number_c (n : Int) (w : World) : Calls Tryz.prog 28 #[.int .i64 n] w fun e w' => e = .returned (vInt n) ∧ Below w.heap.size w w' := by
  go_enter Tryz.func28, Tryz.ntmps28
  go_wp2_with fail
  refine bodyPost_ret (v := vInt n) (by simp [results, Tryz.results28, go_sem]) rfl ⟨rfl, ?_⟩
  exact (Below.refl _ _).alloc (Nat.le_refl _) _
end Go.Proofs.YtjbojoeafdkkeaaGreatDoor
