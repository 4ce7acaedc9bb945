/- enroll: Answer. -/
import Derived.Test.YtjbojoeafdkkeaaGreatDoorJ15
set_option linter.unusedVariables false
set_option linter.unusedSimpArgs false
namespace Go.Proofs.YtjbojoeafdkkeaaGreatDoor
open Go Go.RowKit Go.Lib

def eOf (r code x p t : Int) (d : Bool) (pt dv_ vf lf : Int) (pk : List Int) (ver bY priv : Int) : Ex := ⟨r, code, x, p, t, d, pt, dv_, vf, lf, pk, ver, bY, priv, z8⟩
theorem wpList_bld {w : World} {ops : Array Oper} {rest : List Oper} {o : Oper} {a : Act} {Q : Exit → Act → World → Prop} (hgd : o.guard = none) (T : TypeId) (parts : Array (Nat × Operand)) (ho : o.op = .build T parts) (ps : Array (Nat × Value)) (hps : (parts.map fun (i, x) => (i, a.eval x)) = ps) (v : Value)
    (hr : (Instr.build T ps).run Tryz.prog w = .ok v w) (h : wpList Tryz.prog ops Q rest (a.put o.dst v) w) : wpList Tryz.prog ops Q (o :: rest) a w :=
  wpList_plain hgd fun K hK => by
    unfold Oper.wp execOp
    simp only [ho, hps, Sem.run_bind, hr, Result.andThen_ok]
    exact hK _ _ h
theorem ex_one (e : Ex) : ∀ u ∈ e.L, u.oneCell' = true := by
  intro u hu
  unfold Ex.L at hu
  rcases List.mem_append.1 hu with h | h
  · exact sess_one _ _ _ _ _ _ u h
  · rcases List.mem_append.1 h with h | h
    · exact req_one _ _ _ _ _ u h
    · rcases List.mem_append.1 h with h | h
      · simp only [List.mem_cons, List.not_mem_nil, or_false] at h
        rcases h with rfl | rfl | rfl <;> rfl
      · exact one_ints .i64 _ u h

/-- The frame of Answer's last statement. -/
abbrev SA (w : World) (X C T : Nat) (n : Int) (W : World) : Prop := Below w.heap.size w W ∧ Row W X sess0 ∧ Row W C zC ∧ W.cell? ⟨T, 0, none⟩ = some (.int .i64 n)
theorem sa_x {w W : World} {X C T : Nat} {n : Int} (h : SA w X C T n W) (hX : w.heap.size ≤ X) (hXC : X ≠ C) (hT : T ≠ X) : SA w X C T n (W.setCells X 0 sess0.toArray.toList) := by
  have h0 : Row W X ([] ++ (sess0 ++ [])) := by simpa using h.2.1
  obtain ⟨e1, e2⟩ := h0.store (xs := sess0) rfl
  exact ⟨Below.grown h.1 e2 h.1.size (by intro q hq; cases hq; exact hX), by simpa using e1, h.2.2.1.grown e2 (h.2.2.1.lt (by decide)) (fun q => hXC (Option.some.inj q).symm), e2.cell h.2.2.2 (fun q => hT (Option.some.inj q))⟩
theorem sa_c {w W : World} {X C T : Nat} {n : Int} (h : SA w X C T n W) (hC : w.heap.size ≤ C) (hXC : X ≠ C) (hT : T ≠ C) : SA w X C T n (W.setCells C 0 zC.toArray.toList) := by
  have h0 : Row W C ([] ++ (zC ++ [])) := by simpa using h.2.2.1
  obtain ⟨e1, e2⟩ := h0.store (xs := zC) rfl
  exact ⟨Below.grown h.1 e2 h.1.size (by intro q hq; cases hq; exact hC), h.2.1.grown e2 (h.2.1.lt (by decide)) (fun q => hXC (Option.some.inj q)), by simpa using e1, e2.cell h.2.2.2 (fun q => hT (Option.some.inj q))⟩

attribute [local irreducible] World.setCell World.setCells World.alloc

set_option maxHeartbeats 8000000 in
set_option maxRecDepth 100000 in
theorem answer_formed (r code x p t : Int) (d : Bool) (pt dv_ vf lf : Int) (pk : List Int) (hpk : pk.length = 32) (ver bY priv : Int) (w : World) (hL : Laid w) (hE : EType w) (i1 : i64R pt) (i2 : i64R vf) (i3 : i64R lf) (h1 : sessOK r code x p t = true) (h2 : openE t d = 0) (h3 : fitsB p pt dv_ vf lf = false) :
    Calls Tryz.prog 22 #[sessV r code x p t d, reqV pt dv_ vf lf pk, .int .i64 ver, .int .i64 bY, .int .i64 priv] w fun e w' => e = .returned (.tuple #[.agg sess0.toArray, .agg zC.toArray, .int .i64 1]) ∧ Below w.heap.size w w' := by
  obtain ⟨s4, b4, q0, q1, q2, q3⟩ := aw4_facts w (eOf r code x p t d pt dv_ vf lf pk ver bY priv)
  have S4 := Bx.mk s4; have B4 := Bx.mk b4; have Q0 := Bx.mk q0; have Q1 := Bx.mk q1; have Q2 := Bx.mk q2; have Q3 := Bx.mk q3
  obtain ⟨A4, hA4⟩ : ∃ A, A = aw4 w (eOf r code x p t d pt dv_ vf lf pk ver bY priv) := ⟨_, rfl⟩
  rw [← hA4] at S4 B4 Q0 Q1 Q2 Q3
  have HA4 := Bx.mk hA4
  clear s4 b4 q0 q1 q2 q3 hA4
  unfold sessV reqV
  go_enter Tryz.func22, Tryz.ntmps22
  go_wp2_with (first | (refine wpList_bxk rfl (.tmp 1) rfl (reqL pt dv_ vf lf pk) rfl ?_) | (refine wpList_pause 17 rfl ?_))
  intro W hW
  have hW2 : W = A4 := by rw [HA4.out]; exact hW
  clear hW
  subst hW2
  have c0 : W.cell? ⟨w.heap.size, 0, none⟩ = some (.int .i64 r) := Q0.out.get (i := 0) rfl
  have c1 : W.cell? ⟨w.heap.size, 1, none⟩ = some (.int .i64 code) := Q0.out.get (i := 1) rfl
  have c2 : W.cell? ⟨w.heap.size, 2, none⟩ = some (.int .i64 x) := Q0.out.get (i := 2) rfl
  have c3 : W.cell? ⟨w.heap.size, 3, none⟩ = some (.int .i64 p) := Q0.out.get (i := 3) rfl
  have c4 : W.cell? ⟨w.heap.size, 4, none⟩ = some (.int .i64 t) := Q0.out.get (i := 4) rfl
  have c5 : W.cell? ⟨w.heap.size, 5, none⟩ = some (.bool d) := Q0.out.get (i := 5) rfl
  have hbd := fun W => build_exam r code x p t d pt dv_ vf lf pk hpk ver bY priv W
  have E0 := Bx.mk (row_new W ex0.L 93)
  have hone : ∀ u ∈ (eOf r code x p t d pt dv_ vf lf pk ver bY priv).L, u.oneCell' = true := ex_one _
  have HONE := Bx.mk hone
  have HLN := Bx.mk (Ex.len (eOf r code x p t d pt dv_ vf lf pk ver bY priv) hpk rfl)
  have HPK := Bx.mk hpk
  clear hone
  go_wp2_with (first | (refine wpList_bld rfl 93 _ rfl #[(0, .agg #[.int .i64 r, .int .i64 code, .int .i64 x, .int .i64 p, .int .i64 t, .bool d]), (1, .agg (reqL pt dv_ vf lf pk).toArray), (2, .int .i64 ver), (3, .int .i64 bY), (4, .int .i64 priv)] (by kernel_rfl) _ (hbd W) ?_) | (refine wpList_ldN rowT_req rfl (.tmp 6) rfl (w.heap.size + 1) 0 rfl (reqL pt dv_ vf lf pk) Q1.out.range0 (reqL_len _ _ _ _ _ HPK.out) (.agg (reqL pt dv_ vf lf pk).toArray) rfl ?_) | (refine wpList_stR rowT_exam rfl (.tmp 13) (.tmp 22) rfl W.heap.size rfl (eOf r code x p t d pt dv_ vf lf pk ver bY priv).L rfl HONE.out HLN.out ex0.L E0.out rfl ?_))
  intro W5 e5 g5
  obtain ⟨Y, hY⟩ : ∃ Y, Y = W.heap.size := ⟨_, rfl⟩
  rw [← hY] at e5 g5 ⊢
  have hY1 : Y = w.heap.size + 4 := by rw [hY]; exact S4.out
  have g5s := g5.size
  rw [World.size_alloc, ← hY] at g5s
  have n5 : ∀ q, q < Y → some q ≠ some Y := fun q hq e => by have := Option.some.inj e; omega
  have B5 := Bx.mk (Below.grown (B4.out.alloc (by rw [S4.out]; omega) oE0) g5 (by rw [World.size_alloc]; omega) (by intro q hq; cases hq; omega))
  have R0 := (Q0.out.alloc (by rw [S4.out]; omega) oE0).grown g5 (by rw [World.size_alloc]; omega) (n5 _ (by omega))
  have R2 := (Q2.out.alloc (by rw [S4.out]; omega) oE0).grown g5 (by rw [World.size_alloc]; omega) (n5 _ (by omega))
  have R3 := (Q3.out.alloc (by rw [S4.out]; omega) oE0).grown g5 (by rw [World.size_alloc]; omega) (n5 _ (by omega))
  have HF5 : Bx (w.heap.size < w.heap.size + 1 + 1 ∧ w.heap.size + 1 + 1 < w.heap.size + 1 + 1 + 1 ∧ w.heap.size + 1 + 1 + 1 < Y ∧ Y < W5.heap.size) := .mk ⟨by omega, by omega, by omega, by omega⟩
  have R0 := Bx.mk R0; have R2 := Bx.mk R2; have R3 := Bx.mk R3
  have R4 := Bx.mk (show ExAt W5 Y (eOf r code x p t d pt dv_ vf lf pk ver bY priv) from ⟨e5, HPK.out, rfl⟩)
  clear c0 c1 c2 c3 c4 c5 hbd E0 HONE HLN e5 g5 g5s n5 hY hY1 Q0 Q1 Q2 Q3 B4 S4 HA4
  go_wp2_with (refine wpList_pause 29 rfl ?_)
  intro W6 hW6
  obtain ⟨F, hF⟩ : ∃ F, F = W5.heap.size := ⟨_, rfl⟩
  obtain ⟨X, hX⟩ : ∃ X, X = w.heap.size + 1 + 1 := ⟨_, rfl⟩
  obtain ⟨C, hC⟩ : ∃ C, C = X + 1 := ⟨_, rfl⟩
  have hfa : FA w X C Y F (eOf r code x p t d pt dv_ vf lf pk ver bY priv) W6 := by
    have hf := row_new W5 (fnsL Y) 94
    obtain ⟨o1, o2, o3, o4⟩ := HF5.out
    rw [hW6, hF, hC, hX]
    exact ⟨B5.out.alloc B5.out.size _, R0.out.alloc (by omega) _, R2.out.alloc (by show w.heap.size + 2 < _; omega) _, R3.out.alloc (by show w.heap.size + 3 < _; omega) _, ⟨R4.out.row.alloc (by omega) _, R4.out.pk, R4.out.ct⟩, hf, o1, o2, o3, o4⟩
  have HFA := Bx.mk hfa
  clear hfa hW6 HF5 R0 R2 R3 R4 B5
  rw [← hF, ← hX, ← hC]
  clear hF hX hC
  have HF0 := HFA
  clear HFA
  go_wp2_with fail
  refine wp_loop_rounds 3 ?_
  rw [rounds_succ]
  have g0 : W6.cell? ⟨F, 0, none⟩ = some (.func (.func 54) #[.pointer (some ⟨Y, 0, none⟩)] #[]) := HF0.out.fn (i := 0) rfl
  have HA0 := Bx.mk (HF0.out.alloc (.cells #[.int .i64 0, .bool false] 97))
  go_wp2_with fail
  refine (k_valid HA0.out h1).mono ?_
  rintro ev V0 ⟨rfl, kp0⟩
  have HF1 := Bx.mk kp0.1
  clear g0 HA0 HF0 kp0
  go_wp2_with fail
  refine (as_nil _ _).mono ?_
  rintro ev Z0 ⟨rfl, rfl⟩
  go_wp2_with fail
  rw [rounds_succ]
  have g1 : Z0.cell? ⟨F, 1, none⟩ = some (.func (.func 55) #[.pointer (some ⟨Y, 0, none⟩)] #[]) := HF1.out.fn (i := 1) rfl
  have HA1 := Bx.mk (HF1.out.alloc (.cells #[.int .i64 0, .bool false] 97))
  go_wp2_with fail
  refine (k_open HA1.out h2).mono ?_
  rintro ev V1 ⟨rfl, kp1⟩
  have HF2 := Bx.mk kp1.1
  clear g1 HA1 HF1 kp1
  go_wp2_with fail
  refine (as_nil _ _).mono ?_
  rintro ev Z1 ⟨rfl, rfl⟩
  go_wp2_with fail
  rw [rounds_succ]
  have g2 : Z1.cell? ⟨F, 2, none⟩ = some (.func (.func 56) #[.pointer (some ⟨Y, 0, none⟩)] #[]) := HF2.out.fn (i := 2) rfl
  have HA2 := Bx.mk (HF2.out.alloc (.cells #[.int .i64 0, .bool false] 97))
  have T0 := Bx.mk (row_new Z1 [.int .i64 0, .bool false] 97)
  have hlt := HF2.out.lt
  go_wp2_with fail
  refine (k_formed_bad HA2.out i1 i2 i3 h3).mono ?_
  rintro ev V ⟨rfl, kp⟩
  obtain ⟨T, hT⟩ : ∃ T, T = Z1.heap.size := ⟨_, rfl⟩
  rw [← hT] at T0 hlt ⊢
  have RT := Bx.mk (kp.2 T _ T0.out (by simp) hlt)
  have HV := Bx.mk kp.1
  have HEV := Bx.mk (hE.below kp.1.b (cell_lt hE))
  clear g2 HA2 HF2 kp T0 hT
  go_wp2_with fail
  refine (as_hit2 T 1 false _ _ _ HEV.out RT.out).mono ?_
  rintro ev Z ⟨rfl, rz, gz⟩
  have HZ := Bx.mk (HV.out.grown gz hlt)
  have t0 : Z.cell? ⟨T, 0, none⟩ = some (.int .i64 1) := rz.get (i := 0) rfl
  have t1 : Z.cell? ⟨T, 1, none⟩ = some (.bool false) := rz.get (i := 1) rfl
  have x0 : Z.cell? ⟨X, 0, none⟩ = some (.int .i64 0) := HZ.out.x.get (i := 0) rfl
  have x1 : Z.cell? ⟨X, 1, none⟩ = some (.int .i64 0) := HZ.out.x.get (i := 1) rfl
  have x2 : Z.cell? ⟨X, 2, none⟩ = some (.int .i64 0) := HZ.out.x.get (i := 2) rfl
  have x3 : Z.cell? ⟨X, 3, none⟩ = some (.int .i64 0) := HZ.out.x.get (i := 3) rfl
  have x4 : Z.cell? ⟨X, 4, none⟩ = some (.int .i64 0) := HZ.out.x.get (i := 4) rfl
  have x5 : Z.cell? ⟨X, 5, none⟩ = some (.bool false) := HZ.out.x.get (i := 5) rfl
  have y0 : Z.cell? ⟨C, 0, none⟩ = some (.int .i64 0) := HZ.out.c.get (i := 0) rfl
  have y1 : Z.cell? ⟨C, 1, none⟩ = some (.int .i64 0) := HZ.out.c.get (i := 1) rfl
  have y2 : Z.cell? ⟨C, 2, none⟩ = some (.int .i64 0) := HZ.out.c.get (i := 2) rfl
  have y3 : Z.cell? ⟨C, 3, none⟩ = some (.int .i64 0) := HZ.out.c.get (i := 3) rfl
  have y4 : Z.cell? ⟨C, 4, none⟩ = some (.int .i64 0) := HZ.out.c.get (i := 4) rfl
  have y5 : Z.cell? ⟨C, 5, none⟩ = some (.int .i64 0) := HZ.out.c.get (i := 5) rfl
  have y6 : Z.cell? ⟨C, 6, none⟩ = some (.int .i64 0) := HZ.out.c.get (i := 6) rfl
  have y7 : Z.cell? ⟨C, 7, none⟩ = some (.int .i64 0) := HZ.out.c.get (i := 7) rfl
  have hTT : T ≠ X ∧ T ≠ C := by have := HZ.out.o2; have := HZ.out.o3; have := HZ.out.o4; omega
  clear HV HEV RT rz gz hlt
  go_wp2_with fail
  have hSA : SA w X C T 1 Z.drew := ⟨below_drewN HZ.out.b 1, HZ.out.x, HZ.out.c, t0⟩
  obtain ⟨hX0, hXC, hC0⟩ : w.heap.size ≤ X ∧ X ≠ C ∧ w.heap.size ≤ C := by have := HZ.out.o1; have := HZ.out.o2; omega
  have hTX : T ≠ X ∧ T ≠ C := hTT
  obtain ⟨d1, a1, a2⟩ := rowT_sess.row
  obtain ⟨d2, b1, b2⟩ := rowT_cert.row
  clear x0 x1 x2 x3 x4 x5 y0 y1 y2 y3 y4 y5 y6 y7 t0 t1 HZ hTT
  refine wp_region_noPanic ?_
  refine wp_region_held_drew (S := fun W' => SA w X C T 1 W') (by kernel_rfl) hSA (fun hS0 => ?_)
  refine wpAnyH_take (i := 0) (oi := _) (v := .agg sess0.toArray) rfl (by kernel_rfl) (by kernel_rfl) (by kernel_rfl) (fun _ _ _ h => h) (yieldsIf_load_mid (by rfl) 25 (.tmp 10) rfl X 0 (by kernel_rfl) sess0 d1 (fun _ h => h.2.1.range0) a1 a2 rowT_sess.size) hS0 ?_
  simp only [Act.put, List.setIfInBounds_toArray, List.set_cons_zero, List.set_cons_succ]
  refine wpAnyH_take (i := 1) (oi := _) (v := .agg zC.toArray) rfl (by kernel_rfl) (by kernel_rfl) (by kernel_rfl) (fun _ _ _ h => h) (yieldsIf_load_mid (by rfl) 44 (.tmp 11) rfl C 0 (by kernel_rfl) zC d2 (fun _ h => h.2.2.1.range0) b1 b2 rowT_cert.size) hS0 ?_
  simp only [Act.put, List.setIfInBounds_toArray, List.set_cons_zero, List.set_cons_succ]
  refine wpAnyH_take (i := 2) (oi := _) (v := .pointer (some ⟨T, 0, none⟩)) rfl (by kernel_rfl) (by kernel_rfl) (by kernel_rfl) (fun _ _ _ h => h) (Or.inl ⟨by rfl, by (intro wz hSz; go_simp)⟩) hS0 ?_
  simp only [Act.put, List.setIfInBounds_toArray, List.set_cons_zero, List.set_cons_succ]
  refine wpAnyH_take (i := 3) (oi := _) (v := .int .i64 1) rfl (by kernel_rfl) (by kernel_rfl) (by kernel_rfl) (fun _ _ _ h => h) (Or.inl ⟨by rfl, by (intro wz hSz; have hcz := hSz.2.2.2; go_simp)⟩) hS0 ?_
  simp only [Act.put, List.setIfInBounds_toArray, List.set_cons_zero, List.set_cons_succ]
  refine wpAnyH_ready (rs := [4]) (by kernel_rfl) (by simp) ?_
  refine AllReadyH.cons (o := _) rfl (fun K1 hK1 => ?_) AllReadyH.nil
  rw [if_pos (by rfl)]
  refine wp_store_mid 25 (.tmp 10) (.tmp 46) rfl X 0 sess0.toArray (by kernel_rfl) (by kernel_rfl) (hS0.2.1.there 0 6 (by decide)) rowT_sess.size (all_oneCell_toArray sess0_one) ?_
  have hS1 := sa_x hS0 hX0 hXC hTX.1
  refine hK1.out _ _ hS1 (fun _ => ?_)
  refine wpAnyH_ready (rs := [5]) (by kernel_rfl) (by simp) ?_
  refine AllReadyH.cons (o := _) rfl (fun K2 hK2 => ?_) AllReadyH.nil
  rw [if_pos (by rfl)]
  refine wp_store_mid 44 (.tmp 11) (.tmp 47) rfl C 0 zC.toArray (by kernel_rfl) (by kernel_rfl) (hS1.2.2.1.there 0 8 (by decide)) rowT_cert.size (all_oneCell_toArray (one_ints .i64 _)) ?_
  have hS2 := sa_c hS1 hC0 hXC hTX.2
  refine hK2.out _ _ hS2 (fun _ => ?_)
  refine wpAnyH_ready (rs := [6]) (by kernel_rfl) (by simp) ?_
  refine AllReadyH.cons (o := _) rfl (fun K3 hK3 => ?_) AllReadyH.nil
  go_simp
  refine hK3.out _ _ hS2 (fun _ => ?_)
  refine wpAnyH_done (by kernel_rfl) ?_ _
  refine NoPanic.normal ?_
  have HS := Bx.mk hS2
  clear hS0 hS1 hS2 hK1 hK2 hK3 hSA
  generalize (World.setCells _ C 0 zC.toArray.toList) = Zf at *
  go_wp2_with fail
  (try simp only [Exit.inBlock, Exit.then])
  refine bodyPost_ret (results_ans rfl _ _ X C sess0 zC (.int .i64 1) rfl rfl rfl HS.out.2.1 rfl HS.out.2.2.1 rfl) rfl ?_
  exact ⟨rfl, HS.out.1⟩
end Go.Proofs.YtjbojoeafdkkeaaGreatDoor

namespace Go.Proofs.YtjbojoeafdkkeaaGreatDoor
open Go Go.RowKit Go.Lib

abbrev SB (w : World) (X C T : Nat) (n : Int) (xs : List Value) (W : World) : Prop := Below w.heap.size w W ∧ Row W X xs ∧ Row W C zC ∧ W.cell? ⟨T, 0, none⟩ = some (.int .i64 n)
theorem sb_x {w W : World} {X C T : Nat} {n : Int} {xs : List Value} (h : SB w X C T n xs W) (hl : xs.length = 6) (hX : w.heap.size ≤ X) (hXC : X ≠ C) (hT : T ≠ X) : SB w X C T n xs (W.setCells X 0 xs.toArray.toList) := by
  have h0 : Row W X ([] ++ (xs ++ [])) := by simpa using h.2.1
  obtain ⟨e1, e2⟩ := h0.store (xs := xs) rfl
  exact ⟨Below.grown h.1 e2 h.1.size (by intro q hq; cases hq; exact hX), by simpa using e1, h.2.2.1.grown e2 (h.2.2.1.lt (by decide)) (fun q => hXC (Option.some.inj q).symm), e2.cell h.2.2.2 (fun q => hT (Option.some.inj q))⟩
theorem sb_c {w W : World} {X C T : Nat} {n : Int} {xs : List Value} (h : SB w X C T n xs W) (hl : xs.length = 6) (hC : w.heap.size ≤ C) (hXC : X ≠ C) (hT : T ≠ C) : SB w X C T n xs (W.setCells C 0 zC.toArray.toList) := by
  have h0 : Row W C ([] ++ (zC ++ [])) := by simpa using h.2.2.1
  obtain ⟨e1, e2⟩ := h0.store (xs := zC) rfl
  exact ⟨Below.grown h.1 e2 h.1.size (by intro q hq; cases hq; exact hC), h.2.1.grown e2 (h.2.1.lt (by rw [hl]; decide)) (fun q => hXC (Option.some.inj q)), by simpa using e1, e2.cell h.2.2.2 (fun q => hT (Option.some.inj q))⟩
theorem k_cert_ok {w W : World} {X C Y F : Nat} {e : Ex} (h : FA w X C Y F e W) (hL : Laid w) (hr : ∀ x ∈ [2, e.dv, e.vf, e.lf, e.ver, e.bY], -9223372036854775808 ≤ x ∧ x ≤ 9223372036854775807) (c0 c1 c2 c3 c4 c5 c6 c7 : Int)
    (hc : certF 2 e.dv e.vf e.lf e.ver e.bY e.priv = (certV c0 c1 c2 c3 c4 c5 c6 c7, 0)) :
    Calls Tryz.prog 57 #[.pointer (some ⟨Y, 0, none⟩)] W fun ev w' => ev = .returned .nilIface ∧ Kp w X C Y F { e with ct := [c0, c1, c2, c3, c4, c5, c6, c7] } W w' := k_cert h hL hr c0 c1 c2 c3 c4 c5 c6 c7 0 hc

attribute [local irreducible] World.setCell World.setCells World.alloc

set_option maxHeartbeats 8000000 in
set_option maxRecDepth 100000 in
theorem answer_no (r code x p t : Int) (d : Bool) (pt dv_ vf lf : Int) (pk : List Int) (hpk : pk.length = 32) (ver bY priv : Int) (w : World) (hL : Laid w) (hE : EType w) (i1 : i64R pt) (i2 : i64R vf) (i3 : i64R lf) (c0 c1 c2 c3 c4 c5 c6 c7 : Int) (h1 : sessOK r code x p t = true) (h2 : openE t d = 0) (h3 : fitsB p pt dv_ vf lf = true) (hr6 : ∀ x ∈ [2, dv_, vf, lf, ver, bY], -9223372036854775808 ≤ x ∧ x ≤ 9223372036854775807) (hc : certF 2 dv_ vf lf ver bY priv = (certV c0 c1 c2 c3 c4 c5 c6 c7, 0)) (hr3 : ∀ z ∈ [dv_, vf, lf], -9223372036854775808 ≤ z ∧ z ≤ 9223372036854775807) (h5 : ¬ pk = rqN (prfN (keyN r code x pt) 2) dv_ vf lf) :
    Calls Tryz.prog 22 #[sessV r code x p t d, reqV pt dv_ vf lf pk, .int .i64 ver, .int .i64 bY, .int .i64 priv] w fun e w' => e = .returned (.tuple #[.agg (sessL r code x p (t + 1) d).toArray, .agg zC.toArray, .int .i64 380]) ∧ Below w.heap.size w w' := by
  obtain ⟨s4, b4, q0, q1, q2, q3⟩ := aw4_facts w (eOf r code x p t d pt dv_ vf lf pk ver bY priv)
  have S4 := Bx.mk s4; have B4 := Bx.mk b4; have Q0 := Bx.mk q0; have Q1 := Bx.mk q1; have Q2 := Bx.mk q2; have Q3 := Bx.mk q3
  obtain ⟨A4, hA4⟩ : ∃ A, A = aw4 w (eOf r code x p t d pt dv_ vf lf pk ver bY priv) := ⟨_, rfl⟩
  rw [← hA4] at S4 B4 Q0 Q1 Q2 Q3
  have HA4 := Bx.mk hA4
  clear s4 b4 q0 q1 q2 q3 hA4
  unfold sessV reqV
  go_enter Tryz.func22, Tryz.ntmps22
  go_wp2_with (first | (refine wpList_bxk rfl (.tmp 1) rfl (reqL pt dv_ vf lf pk) rfl ?_) | (refine wpList_pause 17 rfl ?_))
  intro W hW
  have hW2 : W = A4 := by rw [HA4.out]; exact hW
  clear hW
  subst hW2
  have c0 : W.cell? ⟨w.heap.size, 0, none⟩ = some (.int .i64 r) := Q0.out.get (i := 0) rfl
  have c1 : W.cell? ⟨w.heap.size, 1, none⟩ = some (.int .i64 code) := Q0.out.get (i := 1) rfl
  have c2 : W.cell? ⟨w.heap.size, 2, none⟩ = some (.int .i64 x) := Q0.out.get (i := 2) rfl
  have c3 : W.cell? ⟨w.heap.size, 3, none⟩ = some (.int .i64 p) := Q0.out.get (i := 3) rfl
  have c4 : W.cell? ⟨w.heap.size, 4, none⟩ = some (.int .i64 t) := Q0.out.get (i := 4) rfl
  have c5 : W.cell? ⟨w.heap.size, 5, none⟩ = some (.bool d) := Q0.out.get (i := 5) rfl
  have hbd := fun W => build_exam r code x p t d pt dv_ vf lf pk hpk ver bY priv W
  have E0 := Bx.mk (row_new W ex0.L 93)
  have hone : ∀ u ∈ (eOf r code x p t d pt dv_ vf lf pk ver bY priv).L, u.oneCell' = true := ex_one _
  have HONE := Bx.mk hone
  have HLN := Bx.mk (Ex.len (eOf r code x p t d pt dv_ vf lf pk ver bY priv) hpk rfl)
  have HPK := Bx.mk hpk
  clear hone
  go_wp2_with (first | (refine wpList_bld rfl 93 _ rfl #[(0, .agg #[.int .i64 r, .int .i64 code, .int .i64 x, .int .i64 p, .int .i64 t, .bool d]), (1, .agg (reqL pt dv_ vf lf pk).toArray), (2, .int .i64 ver), (3, .int .i64 bY), (4, .int .i64 priv)] (by kernel_rfl) _ (hbd W) ?_) | (refine wpList_ldN rowT_req rfl (.tmp 6) rfl (w.heap.size + 1) 0 rfl (reqL pt dv_ vf lf pk) Q1.out.range0 (reqL_len _ _ _ _ _ HPK.out) (.agg (reqL pt dv_ vf lf pk).toArray) rfl ?_) | (refine wpList_stR rowT_exam rfl (.tmp 13) (.tmp 22) rfl W.heap.size rfl (eOf r code x p t d pt dv_ vf lf pk ver bY priv).L rfl HONE.out HLN.out ex0.L E0.out rfl ?_))
  intro W5 e5 g5
  obtain ⟨Y, hY⟩ : ∃ Y, Y = W.heap.size := ⟨_, rfl⟩
  rw [← hY] at e5 g5 ⊢
  have hY1 : Y = w.heap.size + 4 := by rw [hY]; exact S4.out
  have g5s := g5.size
  rw [World.size_alloc, ← hY] at g5s
  have n5 : ∀ q, q < Y → some q ≠ some Y := fun q hq e => by have := Option.some.inj e; omega
  have B5 := Bx.mk (Below.grown (B4.out.alloc (by rw [S4.out]; omega) oE0) g5 (by rw [World.size_alloc]; omega) (by intro q hq; cases hq; omega))
  have R0 := (Q0.out.alloc (by rw [S4.out]; omega) oE0).grown g5 (by rw [World.size_alloc]; omega) (n5 _ (by omega))
  have R2 := (Q2.out.alloc (by rw [S4.out]; omega) oE0).grown g5 (by rw [World.size_alloc]; omega) (n5 _ (by omega))
  have R3 := (Q3.out.alloc (by rw [S4.out]; omega) oE0).grown g5 (by rw [World.size_alloc]; omega) (n5 _ (by omega))
  have HF5 : Bx (w.heap.size < w.heap.size + 1 + 1 ∧ w.heap.size + 1 + 1 < w.heap.size + 1 + 1 + 1 ∧ w.heap.size + 1 + 1 + 1 < Y ∧ Y < W5.heap.size) := .mk ⟨by omega, by omega, by omega, by omega⟩
  have R0 := Bx.mk R0; have R2 := Bx.mk R2; have R3 := Bx.mk R3
  have R4 := Bx.mk (show ExAt W5 Y (eOf r code x p t d pt dv_ vf lf pk ver bY priv) from ⟨e5, HPK.out, rfl⟩)
  clear c0 c1 c2 c3 c4 c5 hbd E0 HONE HLN e5 g5 g5s n5 hY hY1 Q0 Q1 Q2 Q3 B4 S4 HA4
  go_wp2_with (refine wpList_pause 29 rfl ?_)
  intro W6 hW6
  obtain ⟨F, hF⟩ : ∃ F, F = W5.heap.size := ⟨_, rfl⟩
  obtain ⟨X, hX⟩ : ∃ X, X = w.heap.size + 1 + 1 := ⟨_, rfl⟩
  obtain ⟨C, hC⟩ : ∃ C, C = X + 1 := ⟨_, rfl⟩
  have hfa : FA w X C Y F (eOf r code x p t d pt dv_ vf lf pk ver bY priv) W6 := by
    have hf := row_new W5 (fnsL Y) 94
    obtain ⟨o1, o2, o3, o4⟩ := HF5.out
    rw [hW6, hF, hC, hX]
    exact ⟨B5.out.alloc B5.out.size _, R0.out.alloc (by omega) _, R2.out.alloc (by show w.heap.size + 2 < _; omega) _, R3.out.alloc (by show w.heap.size + 3 < _; omega) _, ⟨R4.out.row.alloc (by omega) _, R4.out.pk, R4.out.ct⟩, hf, o1, o2, o3, o4⟩
  have HFA := Bx.mk hfa
  clear hfa hW6 HF5 R0 R2 R3 R4 B5
  rw [← hF, ← hX, ← hC]
  clear hF hX hC
  have HF0 := HFA
  clear HFA
  go_wp2_with fail
  refine wp_loop_rounds 5 ?_
  rw [rounds_succ]
  have g0 : W6.cell? ⟨F, 0, none⟩ = some (.func (.func 54) #[.pointer (some ⟨Y, 0, none⟩)] #[]) := HF0.out.fn (i := 0) rfl
  have HA0 := Bx.mk (HF0.out.alloc (.cells #[.int .i64 0, .bool false] 97))
  go_wp2_with fail
  refine (k_valid HA0.out h1).mono ?_
  rintro ev V0 ⟨rfl, kp0⟩
  have HF1 := Bx.mk kp0.1
  clear g0 HA0 HF0 kp0
  go_wp2_with fail
  refine (as_nil _ _).mono ?_
  rintro ev Z0 ⟨rfl, rfl⟩
  go_wp2_with fail
  rw [rounds_succ]
  have g1 : Z0.cell? ⟨F, 1, none⟩ = some (.func (.func 55) #[.pointer (some ⟨Y, 0, none⟩)] #[]) := HF1.out.fn (i := 1) rfl
  have HA1 := Bx.mk (HF1.out.alloc (.cells #[.int .i64 0, .bool false] 97))
  go_wp2_with fail
  refine (k_open HA1.out h2).mono ?_
  rintro ev V1 ⟨rfl, kp1⟩
  have HF2 := Bx.mk kp1.1
  clear g1 HA1 HF1 kp1
  go_wp2_with fail
  refine (as_nil _ _).mono ?_
  rintro ev Z1 ⟨rfl, rfl⟩
  go_wp2_with fail
  rw [rounds_succ]
  have g2 : Z1.cell? ⟨F, 2, none⟩ = some (.func (.func 56) #[.pointer (some ⟨Y, 0, none⟩)] #[]) := HF2.out.fn (i := 2) rfl
  have HA2 := Bx.mk (HF2.out.alloc (.cells #[.int .i64 0, .bool false] 97))
  go_wp2_with fail
  refine (k_formed HA2.out i1 i2 i3 h3).mono ?_
  rintro ev V2 ⟨rfl, kp2⟩
  have HF3 := Bx.mk kp2.1
  clear g2 HA2 HF2 kp2
  go_wp2_with fail
  refine (as_nil _ _).mono ?_
  rintro ev Z2 ⟨rfl, rfl⟩
  go_wp2_with fail
  rw [rounds_succ]
  have g3 : Z2.cell? ⟨F, 3, none⟩ = some (.func (.func 57) #[.pointer (some ⟨Y, 0, none⟩)] #[]) := HF3.out.fn (i := 3) rfl
  have HA3 := Bx.mk (HF3.out.alloc (.cells #[.int .i64 0, .bool false] 97))
  go_wp2_with fail
  refine (k_cert_ok HA3.out hL hr6 c0 c1 c2 c3 c4 c5 c6 c7 hc).mono ?_
  rintro ev V3 ⟨rfl, kp3⟩
  have HF4 := Bx.mk kp3.1
  clear g3 HA3 HF3 kp3
  go_wp2_with fail
  refine (as_nil _ _).mono ?_
  rintro ev Z3 ⟨rfl, rfl⟩
  go_wp2_with fail
  rw [rounds_succ]
  have g4 : Z3.cell? ⟨F, 4, none⟩ = some (.func (.func 58) #[.pointer (some ⟨Y, 0, none⟩)] #[]) := HF4.out.fn (i := 4) rfl
  have HA4 := Bx.mk (HF4.out.alloc (.cells #[.int .i64 0, .bool false] 97))
  have T0 := Bx.mk (row_new Z3 [.int .i64 0, .bool false] 97)
  have hlt := HF4.out.lt
  go_wp2_with fail
  refine (k_proved_no HA4.out hL ((sessOK_iff r code x p t).1 h1).1 ((fits_iff p pt dv_ vf lf).1 h3).2.2.1 hr3 h5).mono ?_
  rintro ev V ⟨rfl, kp⟩
  obtain ⟨T, hT⟩ : ∃ T, T = Z3.heap.size := ⟨_, rfl⟩
  rw [← hT] at T0 hlt ⊢
  have RT := Bx.mk (kp.2 T _ T0.out (by simp) hlt)
  have HV := Bx.mk kp.1
  have HEV := Bx.mk (hE.below kp.1.b (cell_lt hE))
  clear g4 HA4 HF4 kp T0 hT
  go_wp2_with fail
  refine (as_hit2 T 380 true _ _ _ HEV.out RT.out).mono ?_
  rintro ev Z ⟨rfl, rz, gz⟩
  have HZ := Bx.mk (HV.out.grown gz hlt)
  have t0 : Z.cell? ⟨T, 0, none⟩ = some (.int .i64 380) := rz.get (i := 0) rfl
  have t1 : Z.cell? ⟨T, 1, none⟩ = some (.bool true) := rz.get (i := 1) rfl
  have x0 : Z.cell? ⟨X, 0, none⟩ = some (.int .i64 0) := HZ.out.x.get (i := 0) rfl
  have x1 : Z.cell? ⟨X, 1, none⟩ = some (.int .i64 0) := HZ.out.x.get (i := 1) rfl
  have x2 : Z.cell? ⟨X, 2, none⟩ = some (.int .i64 0) := HZ.out.x.get (i := 2) rfl
  have x3 : Z.cell? ⟨X, 3, none⟩ = some (.int .i64 0) := HZ.out.x.get (i := 3) rfl
  have x4 : Z.cell? ⟨X, 4, none⟩ = some (.int .i64 0) := HZ.out.x.get (i := 4) rfl
  have x5 : Z.cell? ⟨X, 5, none⟩ = some (.bool false) := HZ.out.x.get (i := 5) rfl
  have y0 : Z.cell? ⟨C, 0, none⟩ = some (.int .i64 0) := HZ.out.c.get (i := 0) rfl
  have y1 : Z.cell? ⟨C, 1, none⟩ = some (.int .i64 0) := HZ.out.c.get (i := 1) rfl
  have y2 : Z.cell? ⟨C, 2, none⟩ = some (.int .i64 0) := HZ.out.c.get (i := 2) rfl
  have y3 : Z.cell? ⟨C, 3, none⟩ = some (.int .i64 0) := HZ.out.c.get (i := 3) rfl
  have y4 : Z.cell? ⟨C, 4, none⟩ = some (.int .i64 0) := HZ.out.c.get (i := 4) rfl
  have y5 : Z.cell? ⟨C, 5, none⟩ = some (.int .i64 0) := HZ.out.c.get (i := 5) rfl
  have y6 : Z.cell? ⟨C, 6, none⟩ = some (.int .i64 0) := HZ.out.c.get (i := 6) rfl
  have y7 : Z.cell? ⟨C, 7, none⟩ = some (.int .i64 0) := HZ.out.c.get (i := 7) rfl
  have hTT : T ≠ X ∧ T ≠ C := by have := HZ.out.o2; have := HZ.out.o3; have := HZ.out.o4; omega
  clear HV HEV RT rz gz hlt
  have s0 : Z.cell? ⟨w.heap.size, 0, none⟩ = some (.int .i64 r) := HZ.out.s.get (i := 0) rfl
  have s1 : Z.cell? ⟨w.heap.size, 1, none⟩ = some (.int .i64 code) := HZ.out.s.get (i := 1) rfl
  have s2 : Z.cell? ⟨w.heap.size, 2, none⟩ = some (.int .i64 x) := HZ.out.s.get (i := 2) rfl
  have s3 : Z.cell? ⟨w.heap.size, 3, none⟩ = some (.int .i64 p) := HZ.out.s.get (i := 3) rfl
  have s4 : Z.cell? ⟨w.heap.size, 4, none⟩ = some (.int .i64 t) := HZ.out.s.get (i := 4) rfl
  have s5 : Z.cell? ⟨w.heap.size, 5, none⟩ = some (.bool d) := HZ.out.s.get (i := 5) rfl
  clear x0 x1 x2 x3 x4 x5 y0 y1 y2 y3 y4 y5 y6 y7
  obtain ⟨hX0, hXC, hC0⟩ : w.heap.size ≤ X ∧ X ≠ C ∧ w.heap.size ≤ C := by have := HZ.out.o1; have := HZ.out.o2; omega
  go_wp2_with (refine wpList_stR rowT_sess rfl (.tmp 10) (.tmp 41) rfl X rfl (sessL r code x p t d) rfl (sess_one r code x p t d) rfl sess0 HZ.out.x rfl ?_)
  intro Zb u1 g1
  have b1 := Below.grown HZ.out.b g1 HZ.out.b.size (by intro q hq; cases hq; exact hX0)
  have cb := HZ.out.c.grown g1 (HZ.out.c.lt (by decide)) (fun q => hXC (Option.some.inj q).symm)
  have tb0 := g1.cell t0 (fun q => hTT.1 (Option.some.inj q))
  have x4 : Zb.cell? ⟨X, 4, none⟩ = some (.int .i64 t) := u1.get (i := 4) rfl
  have f4 : Zb.frozen? ⟨X, 4, none⟩ = false := u1.fr (i := 4) (by simp [sessL])
  have ht5 : 0 ≤ t ∧ t ≤ 5 := by have := (sessOK_iff r code x p t).1 h1; omega
  have g2 := grown_set (grown_refl Zb (some X)) (a := ⟨X, 4, none⟩) rfl (.int .i64 (t + 1))
  have hSA : SB w X C T 380 (sessL r code x p (t + 1) d) (Zb.setCell ⟨X, 4, none⟩ (.int .i64 (t + 1))) := ⟨Below.grown b1 g2 b1.size (by intro q hq; cases hq; exact hX0), u1.set 4 (.int .i64 (t + 1)), cb.grown g2 (cb.lt (by decide)) (fun q => hXC (Option.some.inj q).symm), g2.cell tb0 (fun q => hTT.1 (Option.some.inj q))⟩
  have HSA := Bx.mk hSA
  obtain ⟨ht0, ht6⟩ := ht5
  have hTX : T ≠ X ∧ T ≠ C := hTT
  clear hSA g2 tb0 cb b1 u1 g1 s0 s1 s2 s3 s4 s5 t0 t1 HZ hTT h1 h2 h3 h5 hc
  go_wp2_with fail
  have hSA := HSA.out
  obtain ⟨d1, a1, a2⟩ := rowT_sess.row
  obtain ⟨d2, b1, b2⟩ := rowT_cert.row
  refine wp_region_noPanic ?_
  refine wp_region_held_drew (S := fun W' => SB w X C T 380 (sessL r code x p (t + 1) d) W') (by kernel_rfl) ⟨below_drewN hSA.1 1, hSA.2⟩ (fun hS0 => ?_)
  refine wpAnyH_take (i := 0) (oi := _) (v := .agg (sessL r code x p (t + 1) d).toArray) rfl (by kernel_rfl) (by kernel_rfl) (by kernel_rfl) (fun _ _ _ h => h) (yieldsIf_load_mid (by rfl) 25 (.tmp 10) rfl X 0 (by kernel_rfl) (sessL r code x p (t + 1) d) d1 (fun _ h => h.2.1.range0) a1 a2 rowT_sess.size) hS0 ?_
  simp only [Act.put, List.setIfInBounds_toArray, List.set_cons_zero, List.set_cons_succ]
  refine wpAnyH_take (i := 1) (oi := _) (v := .agg zC.toArray) rfl (by kernel_rfl) (by kernel_rfl) (by kernel_rfl) (fun _ _ _ h => h) (yieldsIf_load_mid (by rfl) 44 (.tmp 11) rfl C 0 (by kernel_rfl) zC d2 (fun _ h => h.2.2.1.range0) b1 b2 rowT_cert.size) hS0 ?_
  simp only [Act.put, List.setIfInBounds_toArray, List.set_cons_zero, List.set_cons_succ]
  refine wpAnyH_take (i := 2) (oi := _) (v := .pointer (some ⟨T, 0, none⟩)) rfl (by kernel_rfl) (by kernel_rfl) (by kernel_rfl) (fun _ _ _ h => h) (Or.inl ⟨by rfl, by (intro wz hSz; go_simp)⟩) hS0 ?_
  simp only [Act.put, List.setIfInBounds_toArray, List.set_cons_zero, List.set_cons_succ]
  refine wpAnyH_take (i := 3) (oi := _) (v := .int .i64 380) rfl (by kernel_rfl) (by kernel_rfl) (by kernel_rfl) (fun _ _ _ h => h) (Or.inl ⟨by rfl, by (intro wz hSz; have hcz := hSz.2.2.2; go_simp)⟩) hS0 ?_
  simp only [Act.put, List.setIfInBounds_toArray, List.set_cons_zero, List.set_cons_succ]
  refine wpAnyH_ready (rs := [4]) (by kernel_rfl) (by simp) ?_
  refine AllReadyH.cons (o := _) rfl (fun K1 hK1 => ?_) AllReadyH.nil
  rw [if_pos (by rfl)]
  refine wp_store_mid 25 (.tmp 10) (.tmp 46) rfl X 0 (sessL r code x p (t + 1) d).toArray (by kernel_rfl) (by kernel_rfl) (hS0.2.1.there 0 6 (Nat.le_refl 6)) rowT_sess.size (all_oneCell_toArray (sess_one r code x p (t + 1) d)) ?_
  have hS1 := sb_x hS0 rfl hX0 hXC hTX.1
  refine hK1.out _ _ hS1 (fun _ => ?_)
  refine wpAnyH_ready (rs := [5]) (by kernel_rfl) (by simp) ?_
  refine AllReadyH.cons (o := _) rfl (fun K2 hK2 => ?_) AllReadyH.nil
  rw [if_pos (by rfl)]
  refine wp_store_mid 44 (.tmp 11) (.tmp 47) rfl C 0 zC.toArray (by kernel_rfl) (by kernel_rfl) (hS1.2.2.1.there 0 8 (by decide)) rowT_cert.size (all_oneCell_toArray (one_ints .i64 _)) ?_
  have hS2 := sb_c hS1 rfl hC0 hXC hTX.2
  refine hK2.out _ _ hS2 (fun _ => ?_)
  refine wpAnyH_ready (rs := [6]) (by kernel_rfl) (by simp) ?_
  refine AllReadyH.cons (o := _) rfl (fun K3 hK3 => ?_) AllReadyH.nil
  go_simp
  refine hK3.out _ _ hS2 (fun _ => ?_)
  refine wpAnyH_done (by kernel_rfl) ?_ _
  refine NoPanic.normal ?_
  have HS := Bx.mk hS2
  clear hS0 hS1 hS2 hK1 hK2 hK3 hSA HSA
  generalize (World.setCells _ C 0 zC.toArray.toList) = Zf at *
  go_wp2_with fail
  (try simp only [Exit.inBlock, Exit.then])
  refine bodyPost_ret (results_ans rfl _ _ X C (sessL r code x p (t + 1) d) zC (.int .i64 380) rfl rfl rfl HS.out.2.1 rfl HS.out.2.2.1 rfl) rfl ?_
  exact ⟨rfl, HS.out.1⟩
end Go.Proofs.YtjbojoeafdkkeaaGreatDoor

namespace Go.Proofs.YtjbojoeafdkkeaaGreatDoor
open Go Go.RowKit Go.Lib

abbrev SD (w : World) (X C Y : Nat) (xs cs zs : List Value) (W : World) : Prop := Below w.heap.size w W ∧ Row W X xs ∧ Row W C zs ∧ W.rangeAt Y 45 cs
theorem sd_x {w W : World} {X C Y : Nat} {xs cs zs : List Value} (h : SD w X C Y xs cs zs W) (hz : zs.length = 8) (hX : w.heap.size ≤ X) (hXC : X ≠ C) (hY : Y ≠ X) : SD w X C Y xs cs zs (W.setCells X 0 xs.toArray.toList) := by
  have h0 : Row W X ([] ++ (xs ++ [])) := by simpa using h.2.1
  obtain ⟨e1, e2⟩ := h0.store (xs := xs) rfl
  exact ⟨Below.grown h.1 e2 h.1.size (by intro q hq; cases hq; exact hX), by simpa using e1, h.2.2.1.grown e2 (h.2.2.1.lt (by rw [hz]; decide)) (fun q => hXC (Option.some.inj q).symm), fun j v hj => e2.cell (h.2.2.2 j v hj) (fun q => hY (Option.some.inj q))⟩
theorem sd_c {w W : World} {X C Y : Nat} {xs cs zs : List Value} (h : SD w X C Y xs cs zs W) (hl : xs.length = 6) (hz : zs.length = cs.length) (hC : w.heap.size ≤ C) (hXC : X ≠ C) (hY : Y ≠ C) : SD w X C Y xs cs cs (W.setCells C 0 cs.toArray.toList) := by
  have h0 : Row W C ([] ++ (zs ++ [])) := by simpa using h.2.2.1
  obtain ⟨e1, e2⟩ := h0.store (xs := cs) hz
  exact ⟨Below.grown h.1 e2 h.1.size (by intro q hq; cases hq; exact hC), h.2.1.grown e2 (h.2.1.lt (by rw [hl]; decide)) (fun q => hXC (Option.some.inj q)), by simpa using e1, fun j v hj => e2.cell (h.2.2.2 j v hj) (fun q => hY (Option.some.inj q))⟩
theorem ct_range {W : World} {Y : Nat} {e : Ex} (h : ExAt W Y e) : W.rangeAt Y 45 (e.ct.map (.int .i64)) := fun j v hj => by
  have := h.tail (i := 3 + j) (v := v) (by rw [List.getElem?_append_right (by simp), show 3 + j - ([Value.int .i64 e.ver, .int .i64 e.bY, .int .i64 e.priv] : List Value).length = j by simp]; exact hj)
  rw [← Nat.add_assoc] at this
  exact this

attribute [local irreducible] World.setCell World.setCells World.alloc

set_option maxHeartbeats 8000000 in
set_option maxRecDepth 100000 in
theorem answer_yes (r code x p t : Int) (d : Bool) (pt dv_ vf lf : Int) (pk : List Int) (hpk : pk.length = 32) (ver bY priv : Int) (w : World) (hL : Laid w) (hE : EType w) (i1 : i64R pt) (i2 : i64R vf) (i3 : i64R lf) (c0 c1 c2 c3 c4 c5 c6 c7 : Int) (h1 : sessOK r code x p t = true) (h2 : openE t d = 0) (h3 : fitsB p pt dv_ vf lf = true) (hr6 : ∀ x ∈ [2, dv_, vf, lf, ver, bY], -9223372036854775808 ≤ x ∧ x ≤ 9223372036854775807) (hc : certF 2 dv_ vf lf ver bY priv = (certV c0 c1 c2 c3 c4 c5 c6 c7, 0)) (hr3 : ∀ z ∈ [dv_, vf, lf], -9223372036854775808 ≤ z ∧ z ≤ 9223372036854775807) (h5 : pk = rqN (prfN (keyN r code x pt) 2) dv_ vf lf) :
    Calls Tryz.prog 22 #[sessV r code x p t d, reqV pt dv_ vf lf pk, .int .i64 ver, .int .i64 bY, .int .i64 priv] w fun e w' => e = .returned (.tuple #[.agg (sessL r code x p t true).toArray, .agg ([c0, c1, c2, c3, c4, c5, c6, c7].map (Value.int .i64)).toArray, .int .i64 0]) ∧ Below w.heap.size w w' := by
  have H5 := Bx.mk h5
  clear h5
  obtain ⟨s4, b4, q0, q1, q2, q3⟩ := aw4_facts w (eOf r code x p t d pt dv_ vf lf pk ver bY priv)
  have S4 := Bx.mk s4; have B4 := Bx.mk b4; have Q0 := Bx.mk q0; have Q1 := Bx.mk q1; have Q2 := Bx.mk q2; have Q3 := Bx.mk q3
  obtain ⟨A4, hA4⟩ : ∃ A, A = aw4 w (eOf r code x p t d pt dv_ vf lf pk ver bY priv) := ⟨_, rfl⟩
  rw [← hA4] at S4 B4 Q0 Q1 Q2 Q3
  have HA4 := Bx.mk hA4
  clear s4 b4 q0 q1 q2 q3 hA4
  unfold sessV reqV
  go_enter Tryz.func22, Tryz.ntmps22
  go_wp2_with (first | (refine wpList_bxk rfl (.tmp 1) rfl (reqL pt dv_ vf lf pk) rfl ?_) | (refine wpList_pause 17 rfl ?_))
  intro W hW
  have hW2 : W = A4 := by rw [HA4.out]; exact hW
  clear hW
  subst hW2
  have c0 : W.cell? ⟨w.heap.size, 0, none⟩ = some (.int .i64 r) := Q0.out.get (i := 0) rfl
  have c1 : W.cell? ⟨w.heap.size, 1, none⟩ = some (.int .i64 code) := Q0.out.get (i := 1) rfl
  have c2 : W.cell? ⟨w.heap.size, 2, none⟩ = some (.int .i64 x) := Q0.out.get (i := 2) rfl
  have c3 : W.cell? ⟨w.heap.size, 3, none⟩ = some (.int .i64 p) := Q0.out.get (i := 3) rfl
  have c4 : W.cell? ⟨w.heap.size, 4, none⟩ = some (.int .i64 t) := Q0.out.get (i := 4) rfl
  have c5 : W.cell? ⟨w.heap.size, 5, none⟩ = some (.bool d) := Q0.out.get (i := 5) rfl
  have hbd := fun W => build_exam r code x p t d pt dv_ vf lf pk hpk ver bY priv W
  have E0 := Bx.mk (row_new W ex0.L 93)
  have hone : ∀ u ∈ (eOf r code x p t d pt dv_ vf lf pk ver bY priv).L, u.oneCell' = true := ex_one _
  have HONE := Bx.mk hone
  have HLN := Bx.mk (Ex.len (eOf r code x p t d pt dv_ vf lf pk ver bY priv) hpk rfl)
  have HPK := Bx.mk hpk
  clear hone
  go_wp2_with (first | (refine wpList_bld rfl 93 _ rfl #[(0, .agg #[.int .i64 r, .int .i64 code, .int .i64 x, .int .i64 p, .int .i64 t, .bool d]), (1, .agg (reqL pt dv_ vf lf pk).toArray), (2, .int .i64 ver), (3, .int .i64 bY), (4, .int .i64 priv)] (by kernel_rfl) _ (hbd W) ?_) | (refine wpList_ldN rowT_req rfl (.tmp 6) rfl (w.heap.size + 1) 0 rfl (reqL pt dv_ vf lf pk) Q1.out.range0 (reqL_len _ _ _ _ _ HPK.out) (.agg (reqL pt dv_ vf lf pk).toArray) rfl ?_) | (refine wpList_stR rowT_exam rfl (.tmp 13) (.tmp 22) rfl W.heap.size rfl (eOf r code x p t d pt dv_ vf lf pk ver bY priv).L rfl HONE.out HLN.out ex0.L E0.out rfl ?_))
  intro W5 e5 g5
  obtain ⟨Y, hY⟩ : ∃ Y, Y = W.heap.size := ⟨_, rfl⟩
  rw [← hY] at e5 g5 ⊢
  have hY1 : Y = w.heap.size + 4 := by rw [hY]; exact S4.out
  have g5s := g5.size
  rw [World.size_alloc, ← hY] at g5s
  have n5 : ∀ q, q < Y → some q ≠ some Y := fun q hq e => by have := Option.some.inj e; omega
  have B5 := Bx.mk (Below.grown (B4.out.alloc (by rw [S4.out]; omega) oE0) g5 (by rw [World.size_alloc]; omega) (by intro q hq; cases hq; omega))
  have R0 := (Q0.out.alloc (by rw [S4.out]; omega) oE0).grown g5 (by rw [World.size_alloc]; omega) (n5 _ (by omega))
  have R2 := (Q2.out.alloc (by rw [S4.out]; omega) oE0).grown g5 (by rw [World.size_alloc]; omega) (n5 _ (by omega))
  have R3 := (Q3.out.alloc (by rw [S4.out]; omega) oE0).grown g5 (by rw [World.size_alloc]; omega) (n5 _ (by omega))
  have HF5 : Bx (w.heap.size < w.heap.size + 1 + 1 ∧ w.heap.size + 1 + 1 < w.heap.size + 1 + 1 + 1 ∧ w.heap.size + 1 + 1 + 1 < Y ∧ Y < W5.heap.size) := .mk ⟨by omega, by omega, by omega, by omega⟩
  have R0 := Bx.mk R0; have R2 := Bx.mk R2; have R3 := Bx.mk R3
  have R4 := Bx.mk (show ExAt W5 Y (eOf r code x p t d pt dv_ vf lf pk ver bY priv) from ⟨e5, HPK.out, rfl⟩)
  clear c0 c1 c2 c3 c4 c5 hbd E0 HONE HLN e5 g5 g5s n5 hY hY1 Q0 Q1 Q2 Q3 B4 S4 HA4
  go_wp2_with (refine wpList_pause 29 rfl ?_)
  intro W6 hW6
  obtain ⟨F, hF⟩ : ∃ F, F = W5.heap.size := ⟨_, rfl⟩
  obtain ⟨X, hX⟩ : ∃ X, X = w.heap.size + 1 + 1 := ⟨_, rfl⟩
  obtain ⟨C, hC⟩ : ∃ C, C = X + 1 := ⟨_, rfl⟩
  have hfa : FA w X C Y F (eOf r code x p t d pt dv_ vf lf pk ver bY priv) W6 := by
    have hf := row_new W5 (fnsL Y) 94
    obtain ⟨o1, o2, o3, o4⟩ := HF5.out
    rw [hW6, hF, hC, hX]
    exact ⟨B5.out.alloc B5.out.size _, R0.out.alloc (by omega) _, R2.out.alloc (by show w.heap.size + 2 < _; omega) _, R3.out.alloc (by show w.heap.size + 3 < _; omega) _, ⟨R4.out.row.alloc (by omega) _, R4.out.pk, R4.out.ct⟩, hf, o1, o2, o3, o4⟩
  have HFA := Bx.mk hfa
  clear hfa hW6 HF5 R0 R2 R3 R4 B5
  rw [← hF, ← hX, ← hC]
  clear hF hX hC
  have HF0 := HFA
  clear HFA
  go_wp2_with fail
  refine wp_loop_rounds 6 ?_
  rw [rounds_succ]
  have g0 : W6.cell? ⟨F, 0, none⟩ = some (.func (.func 54) #[.pointer (some ⟨Y, 0, none⟩)] #[]) := HF0.out.fn (i := 0) rfl
  have HA0 := Bx.mk (HF0.out.alloc (.cells #[.int .i64 0, .bool false] 97))
  go_wp2_with fail
  refine (k_valid HA0.out h1).mono ?_
  rintro ev V0 ⟨rfl, kp0⟩
  have HF1 := Bx.mk kp0.1
  clear g0 HA0 HF0 kp0
  go_wp2_with fail
  refine (as_nil _ _).mono ?_
  rintro ev Z0 ⟨rfl, rfl⟩
  go_wp2_with fail
  rw [rounds_succ]
  have g1 : Z0.cell? ⟨F, 1, none⟩ = some (.func (.func 55) #[.pointer (some ⟨Y, 0, none⟩)] #[]) := HF1.out.fn (i := 1) rfl
  have HA1 := Bx.mk (HF1.out.alloc (.cells #[.int .i64 0, .bool false] 97))
  go_wp2_with fail
  refine (k_open HA1.out h2).mono ?_
  rintro ev V1 ⟨rfl, kp1⟩
  have HF2 := Bx.mk kp1.1
  clear g1 HA1 HF1 kp1
  go_wp2_with fail
  refine (as_nil _ _).mono ?_
  rintro ev Z1 ⟨rfl, rfl⟩
  go_wp2_with fail
  rw [rounds_succ]
  have g2 : Z1.cell? ⟨F, 2, none⟩ = some (.func (.func 56) #[.pointer (some ⟨Y, 0, none⟩)] #[]) := HF2.out.fn (i := 2) rfl
  have HA2 := Bx.mk (HF2.out.alloc (.cells #[.int .i64 0, .bool false] 97))
  go_wp2_with fail
  refine (k_formed HA2.out i1 i2 i3 h3).mono ?_
  rintro ev V2 ⟨rfl, kp2⟩
  have HF3 := Bx.mk kp2.1
  clear g2 HA2 HF2 kp2
  go_wp2_with fail
  refine (as_nil _ _).mono ?_
  rintro ev Z2 ⟨rfl, rfl⟩
  go_wp2_with fail
  rw [rounds_succ]
  have g3 : Z2.cell? ⟨F, 3, none⟩ = some (.func (.func 57) #[.pointer (some ⟨Y, 0, none⟩)] #[]) := HF3.out.fn (i := 3) rfl
  have HA3 := Bx.mk (HF3.out.alloc (.cells #[.int .i64 0, .bool false] 97))
  go_wp2_with fail
  refine (k_cert_ok HA3.out hL hr6 c0 c1 c2 c3 c4 c5 c6 c7 hc).mono ?_
  rintro ev V3 ⟨rfl, kp3⟩
  have HF4 := Bx.mk kp3.1
  clear g3 HA3 HF3 kp3
  go_wp2_with fail
  refine (as_nil _ _).mono ?_
  rintro ev Z3 ⟨rfl, rfl⟩
  go_wp2_with fail
  rw [rounds_succ]
  have g4 : Z3.cell? ⟨F, 4, none⟩ = some (.func (.func 58) #[.pointer (some ⟨Y, 0, none⟩)] #[]) := HF4.out.fn (i := 4) rfl
  have HA4 := Bx.mk (HF4.out.alloc (.cells #[.int .i64 0, .bool false] 97))
  go_wp2_with fail
  refine (k_proved HA4.out hL ((sessOK_iff r code x p t).1 h1).1 ((fits_iff p pt dv_ vf lf).1 h3).2.2.1 hr3 H5.out).mono ?_
  rintro ev V4 ⟨rfl, kp4⟩
  have HF5 := Bx.mk kp4.1
  clear g4 HA4 HF4 kp4
  go_wp2_with fail
  refine (as_nil _ _).mono ?_
  rintro ev Z4 ⟨rfl, rfl⟩
  go_wp2_with fail
  rw [rounds_succ]
  have s0 : Z4.cell? ⟨w.heap.size, 0, none⟩ = some (.int .i64 r) := HF5.out.s.get (i := 0) rfl
  have s1 : Z4.cell? ⟨w.heap.size, 1, none⟩ = some (.int .i64 code) := HF5.out.s.get (i := 1) rfl
  have s2 : Z4.cell? ⟨w.heap.size, 2, none⟩ = some (.int .i64 x) := HF5.out.s.get (i := 2) rfl
  have s3 : Z4.cell? ⟨w.heap.size, 3, none⟩ = some (.int .i64 p) := HF5.out.s.get (i := 3) rfl
  have s4 : Z4.cell? ⟨w.heap.size, 4, none⟩ = some (.int .i64 t) := HF5.out.s.get (i := 4) rfl
  have s5 : Z4.cell? ⟨w.heap.size, 5, none⟩ = some (.bool d) := HF5.out.s.get (i := 5) rfl
  obtain ⟨hX0, hXC, hC0⟩ : w.heap.size ≤ X ∧ X ≠ C ∧ w.heap.size ≤ C := by have := HF5.out.o1; have := HF5.out.o2; omega
  have hYX : Y ≠ X ∧ Y ≠ C := by have := HF5.out.o2; have := HF5.out.o3; omega
  go_wp2_with (refine wpList_stR rowT_sess rfl (.tmp 10) (.tmp 51) rfl X rfl (sessL r code x p t d) rfl (sess_one r code x p t d) rfl sess0 HF5.out.x rfl ?_)
  intro Zb u1 g1
  have b1 := Below.grown HF5.out.b g1 HF5.out.b.size (by intro q hq; cases hq; exact hX0)
  have cb := HF5.out.c.grown g1 (HF5.out.c.lt (by decide)) (fun q => hXC (Option.some.inj q).symm)
  have rb : Zb.rangeAt Y 45 ([c0, c1, c2, c3, c4, c5, c6, c7].map (Value.int .i64)) := fun j v hj => g1.cell (ct_range HF5.out.y j v hj) (fun q => hYX.1 (Option.some.inj q))
  have x5 : Zb.cell? ⟨X, 5, none⟩ = some (.bool d) := u1.get (i := 5) rfl
  have f5 : Zb.frozen? ⟨X, 5, none⟩ = false := u1.fr (i := 5) (by simp [sessL])
  have g2 := grown_set (grown_refl Zb (some X)) (a := ⟨X, 5, none⟩) rfl (.bool true)
  have hSA : SD w X C Y (sessL r code x p t true) ([c0, c1, c2, c3, c4, c5, c6, c7].map (Value.int .i64)) zC (Zb.setCell ⟨X, 5, none⟩ (.bool true)) := ⟨Below.grown b1 g2 b1.size (by intro q hq; cases hq; exact hX0), u1.set 5 (.bool true), cb.grown g2 (cb.lt (by decide)) (fun q => hXC (Option.some.inj q).symm), fun j v hj => g2.cell (rb j v hj) (fun q => hYX.1 (Option.some.inj q))⟩
  have HSA := Bx.mk hSA
  obtain ⟨hY1, hY2⟩ := hYX
  clear hSA g2 rb cb b1 u1 g1 s0 s1 s2 s3 s4 s5 HF5 h1 h2 h3 H5 hc
  go_wp2_with fail
  have hSA := HSA.out
  obtain ⟨d1, a1, a2⟩ := rowT_sess.row
  obtain ⟨d2, b1, b2⟩ := rowT_cert.row
  refine wp_region_noPanic ?_
  refine wp_region_held_drew (S := fun W' => Below w.heap.size w W' ∧ Row W' X (sessL r code x p t true) ∧ W'.rangeAt Y 45 ([c0, c1, c2, c3, c4, c5, c6, c7].map (Value.int .i64)) ∧ (Row W' C zC ∨ Row W' C ([c0, c1, c2, c3, c4, c5, c6, c7].map (Value.int .i64)))) (by kernel_rfl) ⟨below_drewN hSA.1 1, hSA.2.1, hSA.2.2.2, .inl hSA.2.2.1⟩ (fun hS0 => ?_)
  have hS00 : SD w X C Y (sessL r code x p t true) ([c0, c1, c2, c3, c4, c5, c6, c7].map (Value.int .i64)) zC _ := ⟨below_drewN hSA.1 1, hSA.2.1, hSA.2.2.1, hSA.2.2.2⟩
  refine wpAnyH_take (i := 0) (oi := _) (v := .agg (sessL r code x p t true).toArray) rfl (by kernel_rfl) (by kernel_rfl) (by kernel_rfl) (fun _ _ _ h => h) (yieldsIf_load_mid (by rfl) 25 (.tmp 10) rfl X 0 (by kernel_rfl) (sessL r code x p t true) d1 (fun _ h => h.2.1.range0) a1 a2 rowT_sess.size) hS0 ?_
  simp only [Act.put, List.setIfInBounds_toArray, List.set_cons_zero, List.set_cons_succ]
  refine wpAnyH_take (i := 1) (oi := _) (v := .pointer (some ⟨Y, 45, none⟩)) rfl (by kernel_rfl) (by kernel_rfl) (by kernel_rfl) (fun _ _ _ h => h) (Or.inl ⟨by rfl, by (intro wz hSz; go_simp)⟩) hS0 ?_
  simp only [Act.put, List.setIfInBounds_toArray, List.set_cons_zero, List.set_cons_succ]
  refine wpAnyH_take (i := 2) (oi := _) (v := .agg ([c0, c1, c2, c3, c4, c5, c6, c7].map (Value.int .i64)).toArray) rfl (by kernel_rfl) (by kernel_rfl) (by kernel_rfl) (fun _ _ _ h => h) (yieldsIf_load_mid (by rfl) 44 (.tmp 54) rfl Y 45 (by kernel_rfl) ([c0, c1, c2, c3, c4, c5, c6, c7].map (Value.int .i64)) d2 (fun _ h => h.2.2.1) b1 b2 rowT_cert.size) hS0 ?_
  simp only [Act.put, List.setIfInBounds_toArray, List.set_cons_zero, List.set_cons_succ]
  refine wpAnyH_ready (rs := [3]) (by kernel_rfl) (by simp) ?_
  refine AllReadyH.cons (o := _) rfl (fun K1 hK1 => ?_) AllReadyH.nil
  rw [if_pos (by rfl)]
  refine wp_store_mid 25 (.tmp 10) (.tmp 53) rfl X 0 (sessL r code x p t true).toArray (by kernel_rfl) (by kernel_rfl) (hS0.2.1.there 0 6 (Nat.le_refl 6)) rowT_sess.size (all_oneCell_toArray (sess_one r code x p t true)) ?_
  have hS1 := sd_x hS00 rfl hX0 hXC hY1
  refine hK1.out _ _ ⟨hS1.1, hS1.2.1, hS1.2.2.2, .inl hS1.2.2.1⟩ (fun _ => ?_)
  refine wpAnyH_ready (rs := [4]) (by kernel_rfl) (by simp) ?_
  refine AllReadyH.cons (o := _) rfl (fun K2 hK2 => ?_) AllReadyH.nil
  rw [if_pos (by rfl)]
  refine wp_store_mid 44 (.tmp 11) (.tmp 55) rfl C 0 ([c0, c1, c2, c3, c4, c5, c6, c7].map (Value.int .i64)).toArray (by kernel_rfl) (by kernel_rfl) (hS1.2.2.1.there 0 8 (by decide)) rowT_cert.size (all_oneCell_toArray (one_ints .i64 _)) ?_
  have hS2 := sd_c hS1 rfl rfl hC0 hXC hY2
  refine hK2.out _ _ ⟨hS2.1, hS2.2.1, hS2.2.2.2, .inr hS2.2.2.1⟩ (fun _ => ?_)
  refine wpAnyH_ready (rs := [5]) (by kernel_rfl) (by simp) ?_
  refine AllReadyH.cons (o := _) rfl (fun K3 hK3 => ?_) AllReadyH.nil
  go_simp
  refine hK3.out _ _ ⟨hS2.1, hS2.2.1, hS2.2.2.2, .inr hS2.2.2.1⟩ (fun _ => ?_)
  refine wpAnyH_done (by kernel_rfl) ?_ _
  refine NoPanic.normal ?_
  have HS := Bx.mk hS2
  clear hS0 hS00 hS1 hS2 hK1 hK2 hK3 hSA HSA
  generalize (World.setCells _ C 0 ([c0, c1, c2, c3, c4, c5, c6, c7].map (Value.int .i64)).toArray.toList) = Zf at *
  go_wp2_with fail
  (try simp only [Exit.inBlock, Exit.then])
  refine bodyPost_ret (results_ans rfl _ _ X C (sessL r code x p t true) ([c0, c1, c2, c3, c4, c5, c6, c7].map (Value.int .i64)) (.int .i64 0) rfl rfl rfl HS.out.2.1 rfl HS.out.2.2.1 rfl) rfl ?_
  exact ⟨rfl, HS.out.1⟩
end Go.Proofs.YtjbojoeafdkkeaaGreatDoor

namespace Go.Proofs.YtjbojoeafdkkeaaGreatDoor
open Go Go.RowKit Go.Lib

attribute [local irreducible] World.setCell World.setCells World.alloc

set_option maxHeartbeats 8000000 in
set_option maxRecDepth 100000 in
theorem answer_open (r code x p t : Int) (d : Bool) (pt dv_ vf lf : Int) (pk : List Int) (hpk : pk.length = 32) (ver bY priv : Int) (w : World) (hL : Laid w) (hE : EType w) (n : Int) (hn : n ≠ 0) (h1 : sessOK r code x p t = true) (h2 : openE t d = n) :
    Calls Tryz.prog 22 #[sessV r code x p t d, reqV pt dv_ vf lf pk, .int .i64 ver, .int .i64 bY, .int .i64 priv] w fun e w' => e = .returned (.tuple #[.agg sess0.toArray, .agg zC.toArray, .int .i64 n]) ∧ Below w.heap.size w w' := by
  obtain ⟨s4, b4, q0, q1, q2, q3⟩ := aw4_facts w (eOf r code x p t d pt dv_ vf lf pk ver bY priv)
  have S4 := Bx.mk s4; have B4 := Bx.mk b4; have Q0 := Bx.mk q0; have Q1 := Bx.mk q1; have Q2 := Bx.mk q2; have Q3 := Bx.mk q3
  obtain ⟨A4, hA4⟩ : ∃ A, A = aw4 w (eOf r code x p t d pt dv_ vf lf pk ver bY priv) := ⟨_, rfl⟩
  rw [← hA4] at S4 B4 Q0 Q1 Q2 Q3
  have HA4 := Bx.mk hA4
  clear s4 b4 q0 q1 q2 q3 hA4
  unfold sessV reqV
  go_enter Tryz.func22, Tryz.ntmps22
  go_wp2_with (first | (refine wpList_bxk rfl (.tmp 1) rfl (reqL pt dv_ vf lf pk) rfl ?_) | (refine wpList_pause 17 rfl ?_))
  intro W hW
  have hW2 : W = A4 := by rw [HA4.out]; exact hW
  clear hW
  subst hW2
  have c0 : W.cell? ⟨w.heap.size, 0, none⟩ = some (.int .i64 r) := Q0.out.get (i := 0) rfl
  have c1 : W.cell? ⟨w.heap.size, 1, none⟩ = some (.int .i64 code) := Q0.out.get (i := 1) rfl
  have c2 : W.cell? ⟨w.heap.size, 2, none⟩ = some (.int .i64 x) := Q0.out.get (i := 2) rfl
  have c3 : W.cell? ⟨w.heap.size, 3, none⟩ = some (.int .i64 p) := Q0.out.get (i := 3) rfl
  have c4 : W.cell? ⟨w.heap.size, 4, none⟩ = some (.int .i64 t) := Q0.out.get (i := 4) rfl
  have c5 : W.cell? ⟨w.heap.size, 5, none⟩ = some (.bool d) := Q0.out.get (i := 5) rfl
  have hbd := fun W => build_exam r code x p t d pt dv_ vf lf pk hpk ver bY priv W
  have E0 := Bx.mk (row_new W ex0.L 93)
  have hone : ∀ u ∈ (eOf r code x p t d pt dv_ vf lf pk ver bY priv).L, u.oneCell' = true := ex_one _
  have HONE := Bx.mk hone
  have HLN := Bx.mk (Ex.len (eOf r code x p t d pt dv_ vf lf pk ver bY priv) hpk rfl)
  have HPK := Bx.mk hpk
  clear hone
  go_wp2_with (first | (refine wpList_bld rfl 93 _ rfl #[(0, .agg #[.int .i64 r, .int .i64 code, .int .i64 x, .int .i64 p, .int .i64 t, .bool d]), (1, .agg (reqL pt dv_ vf lf pk).toArray), (2, .int .i64 ver), (3, .int .i64 bY), (4, .int .i64 priv)] (by kernel_rfl) _ (hbd W) ?_) | (refine wpList_ldN rowT_req rfl (.tmp 6) rfl (w.heap.size + 1) 0 rfl (reqL pt dv_ vf lf pk) Q1.out.range0 (reqL_len _ _ _ _ _ HPK.out) (.agg (reqL pt dv_ vf lf pk).toArray) rfl ?_) | (refine wpList_stR rowT_exam rfl (.tmp 13) (.tmp 22) rfl W.heap.size rfl (eOf r code x p t d pt dv_ vf lf pk ver bY priv).L rfl HONE.out HLN.out ex0.L E0.out rfl ?_))
  intro W5 e5 g5
  obtain ⟨Y, hY⟩ : ∃ Y, Y = W.heap.size := ⟨_, rfl⟩
  rw [← hY] at e5 g5 ⊢
  have hY1 : Y = w.heap.size + 4 := by rw [hY]; exact S4.out
  have g5s := g5.size
  rw [World.size_alloc, ← hY] at g5s
  have n5 : ∀ q, q < Y → some q ≠ some Y := fun q hq e => by have := Option.some.inj e; omega
  have B5 := Bx.mk (Below.grown (B4.out.alloc (by rw [S4.out]; omega) oE0) g5 (by rw [World.size_alloc]; omega) (by intro q hq; cases hq; omega))
  have R0 := (Q0.out.alloc (by rw [S4.out]; omega) oE0).grown g5 (by rw [World.size_alloc]; omega) (n5 _ (by omega))
  have R2 := (Q2.out.alloc (by rw [S4.out]; omega) oE0).grown g5 (by rw [World.size_alloc]; omega) (n5 _ (by omega))
  have R3 := (Q3.out.alloc (by rw [S4.out]; omega) oE0).grown g5 (by rw [World.size_alloc]; omega) (n5 _ (by omega))
  have HF5 : Bx (w.heap.size < w.heap.size + 1 + 1 ∧ w.heap.size + 1 + 1 < w.heap.size + 1 + 1 + 1 ∧ w.heap.size + 1 + 1 + 1 < Y ∧ Y < W5.heap.size) := .mk ⟨by omega, by omega, by omega, by omega⟩
  have R0 := Bx.mk R0; have R2 := Bx.mk R2; have R3 := Bx.mk R3
  have R4 := Bx.mk (show ExAt W5 Y (eOf r code x p t d pt dv_ vf lf pk ver bY priv) from ⟨e5, HPK.out, rfl⟩)
  clear c0 c1 c2 c3 c4 c5 hbd E0 HONE HLN e5 g5 g5s n5 hY hY1 Q0 Q1 Q2 Q3 B4 S4 HA4
  go_wp2_with (refine wpList_pause 29 rfl ?_)
  intro W6 hW6
  obtain ⟨F, hF⟩ : ∃ F, F = W5.heap.size := ⟨_, rfl⟩
  obtain ⟨X, hX⟩ : ∃ X, X = w.heap.size + 1 + 1 := ⟨_, rfl⟩
  obtain ⟨C, hC⟩ : ∃ C, C = X + 1 := ⟨_, rfl⟩
  have hfa : FA w X C Y F (eOf r code x p t d pt dv_ vf lf pk ver bY priv) W6 := by
    have hf := row_new W5 (fnsL Y) 94
    obtain ⟨o1, o2, o3, o4⟩ := HF5.out
    rw [hW6, hF, hC, hX]
    exact ⟨B5.out.alloc B5.out.size _, R0.out.alloc (by omega) _, R2.out.alloc (by show w.heap.size + 2 < _; omega) _, R3.out.alloc (by show w.heap.size + 3 < _; omega) _, ⟨R4.out.row.alloc (by omega) _, R4.out.pk, R4.out.ct⟩, hf, o1, o2, o3, o4⟩
  have HFA := Bx.mk hfa
  clear hfa hW6 HF5 R0 R2 R3 R4 B5
  rw [← hF, ← hX, ← hC]
  clear hF hX hC
  have HF0 := HFA
  clear HFA
  go_wp2_with fail
  refine wp_loop_rounds 2 ?_
  rw [rounds_succ]
  have g0 : W6.cell? ⟨F, 0, none⟩ = some (.func (.func 54) #[.pointer (some ⟨Y, 0, none⟩)] #[]) := HF0.out.fn (i := 0) rfl
  have HA0 := Bx.mk (HF0.out.alloc (.cells #[.int .i64 0, .bool false] 97))
  go_wp2_with fail
  refine (k_valid HA0.out h1).mono ?_
  rintro ev V0 ⟨rfl, kp0⟩
  have HF1 := Bx.mk kp0.1
  clear g0 HA0 HF0 kp0
  go_wp2_with fail
  refine (as_nil _ _).mono ?_
  rintro ev Z0 ⟨rfl, rfl⟩
  go_wp2_with fail
  rw [rounds_succ]
  have g1 : Z0.cell? ⟨F, 1, none⟩ = some (.func (.func 55) #[.pointer (some ⟨Y, 0, none⟩)] #[]) := HF1.out.fn (i := 1) rfl
  have HA1 := Bx.mk (HF1.out.alloc (.cells #[.int .i64 0, .bool false] 97))
  have T0 := Bx.mk (row_new Z0 [.int .i64 0, .bool false] 97)
  have hlt := HF1.out.lt
  go_wp2_with fail
  refine (k_open_bad HA1.out n hn h2).mono ?_
  rintro ev V ⟨rfl, kp⟩
  obtain ⟨T, hT⟩ : ∃ T, T = Z0.heap.size := ⟨_, rfl⟩
  rw [← hT] at T0 hlt ⊢
  have RT := Bx.mk (kp.2 T _ T0.out (by simp) hlt)
  have HV := Bx.mk kp.1
  have HEV := Bx.mk (hE.below kp.1.b (cell_lt hE))
  clear g1 HA1 HF1 kp T0 hT
  go_wp2_with fail
  refine (as_hit2 T n false _ _ _ HEV.out RT.out).mono ?_
  rintro ev Z ⟨rfl, rz, gz⟩
  have HZ := Bx.mk (HV.out.grown gz hlt)
  have t0 : Z.cell? ⟨T, 0, none⟩ = some (.int .i64 n) := rz.get (i := 0) rfl
  have t1 : Z.cell? ⟨T, 1, none⟩ = some (.bool false) := rz.get (i := 1) rfl
  have x0 : Z.cell? ⟨X, 0, none⟩ = some (.int .i64 0) := HZ.out.x.get (i := 0) rfl
  have x1 : Z.cell? ⟨X, 1, none⟩ = some (.int .i64 0) := HZ.out.x.get (i := 1) rfl
  have x2 : Z.cell? ⟨X, 2, none⟩ = some (.int .i64 0) := HZ.out.x.get (i := 2) rfl
  have x3 : Z.cell? ⟨X, 3, none⟩ = some (.int .i64 0) := HZ.out.x.get (i := 3) rfl
  have x4 : Z.cell? ⟨X, 4, none⟩ = some (.int .i64 0) := HZ.out.x.get (i := 4) rfl
  have x5 : Z.cell? ⟨X, 5, none⟩ = some (.bool false) := HZ.out.x.get (i := 5) rfl
  have y0 : Z.cell? ⟨C, 0, none⟩ = some (.int .i64 0) := HZ.out.c.get (i := 0) rfl
  have y1 : Z.cell? ⟨C, 1, none⟩ = some (.int .i64 0) := HZ.out.c.get (i := 1) rfl
  have y2 : Z.cell? ⟨C, 2, none⟩ = some (.int .i64 0) := HZ.out.c.get (i := 2) rfl
  have y3 : Z.cell? ⟨C, 3, none⟩ = some (.int .i64 0) := HZ.out.c.get (i := 3) rfl
  have y4 : Z.cell? ⟨C, 4, none⟩ = some (.int .i64 0) := HZ.out.c.get (i := 4) rfl
  have y5 : Z.cell? ⟨C, 5, none⟩ = some (.int .i64 0) := HZ.out.c.get (i := 5) rfl
  have y6 : Z.cell? ⟨C, 6, none⟩ = some (.int .i64 0) := HZ.out.c.get (i := 6) rfl
  have y7 : Z.cell? ⟨C, 7, none⟩ = some (.int .i64 0) := HZ.out.c.get (i := 7) rfl
  have hTT : T ≠ X ∧ T ≠ C := by have := HZ.out.o2; have := HZ.out.o3; have := HZ.out.o4; omega
  clear HV HEV RT rz gz hlt
  go_wp2_with fail
  have hSA : SA w X C T n Z.drew := ⟨below_drewN HZ.out.b 1, HZ.out.x, HZ.out.c, t0⟩
  obtain ⟨hX0, hXC, hC0⟩ : w.heap.size ≤ X ∧ X ≠ C ∧ w.heap.size ≤ C := by have := HZ.out.o1; have := HZ.out.o2; omega
  have hTX : T ≠ X ∧ T ≠ C := hTT
  obtain ⟨d1, a1, a2⟩ := rowT_sess.row
  obtain ⟨d2, b1, b2⟩ := rowT_cert.row
  clear x0 x1 x2 x3 x4 x5 y0 y1 y2 y3 y4 y5 y6 y7 t0 t1 HZ hTT
  refine wp_region_noPanic ?_
  refine wp_region_held_drew (S := fun W' => SA w X C T n W') (by kernel_rfl) hSA (fun hS0 => ?_)
  refine wpAnyH_take (i := 0) (oi := _) (v := .agg sess0.toArray) rfl (by kernel_rfl) (by kernel_rfl) (by kernel_rfl) (fun _ _ _ h => h) (yieldsIf_load_mid (by rfl) 25 (.tmp 10) rfl X 0 (by kernel_rfl) sess0 d1 (fun _ h => h.2.1.range0) a1 a2 rowT_sess.size) hS0 ?_
  simp only [Act.put, List.setIfInBounds_toArray, List.set_cons_zero, List.set_cons_succ]
  refine wpAnyH_take (i := 1) (oi := _) (v := .agg zC.toArray) rfl (by kernel_rfl) (by kernel_rfl) (by kernel_rfl) (fun _ _ _ h => h) (yieldsIf_load_mid (by rfl) 44 (.tmp 11) rfl C 0 (by kernel_rfl) zC d2 (fun _ h => h.2.2.1.range0) b1 b2 rowT_cert.size) hS0 ?_
  simp only [Act.put, List.setIfInBounds_toArray, List.set_cons_zero, List.set_cons_succ]
  refine wpAnyH_take (i := 2) (oi := _) (v := .pointer (some ⟨T, 0, none⟩)) rfl (by kernel_rfl) (by kernel_rfl) (by kernel_rfl) (fun _ _ _ h => h) (Or.inl ⟨by rfl, by (intro wz hSz; go_simp)⟩) hS0 ?_
  simp only [Act.put, List.setIfInBounds_toArray, List.set_cons_zero, List.set_cons_succ]
  refine wpAnyH_take (i := 3) (oi := _) (v := .int .i64 n) rfl (by kernel_rfl) (by kernel_rfl) (by kernel_rfl) (fun _ _ _ h => h) (Or.inl ⟨by rfl, by (intro wz hSz; have hcz := hSz.2.2.2; go_simp)⟩) hS0 ?_
  simp only [Act.put, List.setIfInBounds_toArray, List.set_cons_zero, List.set_cons_succ]
  refine wpAnyH_ready (rs := [4]) (by kernel_rfl) (by simp) ?_
  refine AllReadyH.cons (o := _) rfl (fun K1 hK1 => ?_) AllReadyH.nil
  rw [if_pos (by rfl)]
  refine wp_store_mid 25 (.tmp 10) (.tmp 46) rfl X 0 sess0.toArray (by kernel_rfl) (by kernel_rfl) (hS0.2.1.there 0 6 (by decide)) rowT_sess.size (all_oneCell_toArray sess0_one) ?_
  have hS1 := sa_x hS0 hX0 hXC hTX.1
  refine hK1.out _ _ hS1 (fun _ => ?_)
  refine wpAnyH_ready (rs := [5]) (by kernel_rfl) (by simp) ?_
  refine AllReadyH.cons (o := _) rfl (fun K2 hK2 => ?_) AllReadyH.nil
  rw [if_pos (by rfl)]
  refine wp_store_mid 44 (.tmp 11) (.tmp 47) rfl C 0 zC.toArray (by kernel_rfl) (by kernel_rfl) (hS1.2.2.1.there 0 8 (by decide)) rowT_cert.size (all_oneCell_toArray (one_ints .i64 _)) ?_
  have hS2 := sa_c hS1 hC0 hXC hTX.2
  refine hK2.out _ _ hS2 (fun _ => ?_)
  refine wpAnyH_ready (rs := [6]) (by kernel_rfl) (by simp) ?_
  refine AllReadyH.cons (o := _) rfl (fun K3 hK3 => ?_) AllReadyH.nil
  go_simp
  refine hK3.out _ _ hS2 (fun _ => ?_)
  refine wpAnyH_done (by kernel_rfl) ?_ _
  refine NoPanic.normal ?_
  have HS := Bx.mk hS2
  clear hS0 hS1 hS2 hK1 hK2 hK3 hSA
  generalize (World.setCells _ C 0 zC.toArray.toList) = Zf at *
  go_wp2_with fail
  (try simp only [Exit.inBlock, Exit.then])
  refine bodyPost_ret (results_ans rfl _ _ X C sess0 zC (.int .i64 n) rfl rfl rfl HS.out.2.1 rfl HS.out.2.2.1 rfl) rfl ?_
  exact ⟨rfl, HS.out.1⟩
end Go.Proofs.YtjbojoeafdkkeaaGreatDoor

namespace Go.Proofs.YtjbojoeafdkkeaaGreatDoor
open Go Go.RowKit Go.Lib

def req0 : List Value := reqL 0 0 0 0 z32
theorem req0_one : ∀ u ∈ req0, u.oneCell' = true := req_one 0 0 0 0 z32
def rO : Obj := .cells req0.toArray 37

set_option maxHeartbeats 8000000 in
set_option maxRecDepth 100000 in
theorem eask_arg (code x pt dv_ vf lf : Int) (w : World) (h : 512 ≤ dv_) :
    Calls Tryz.prog 20 #[.int .i64 code, .int .i64 x, .int .i64 pt, .int .i64 dv_, .int .i64 vf, .int .i64 lf] w fun e w' => e = .returned (.tuple #[.agg req0.toArray, .int .i64 1]) ∧ Below w.heap.size w w' := by
  have HR := Bx.mk (row_new w req0 37)
  have HB := Bx.mk ((Below.refl w.heap.size w).alloc (Nat.le_refl _) rO)
  go_enter Tryz.func20, Tryz.ntmps20
  go_wp2_with (first | (refine wpList_ldN rowT_req rfl (.tmp 12) rfl w.heap.size 0 rfl req0 HR.out.range0 rfl (.agg req0.toArray) rfl ?_) | (refine wpList_stR rowT_req rfl (.tmp 12) (.tmp 33) rfl w.heap.size rfl req0 rfl req0_one rfl req0 HR.out rfl ?_))
  intro w2 e1 e2
  have B2 := Bx.mk (Below.grown HB.out e2 HB.out.size (by intro q hq; cases hq; omega))
  have E1 := Bx.mk e1
  clear e1 e2
  go_wp2_with fail
  (try simp only [Exit.inBlock, Exit.then])
  refine bodyPost_ret (results_rowN rowT_req rfl _ _ w.heap.size req0 (.agg req0.toArray) (.int .i64 1) rfl rfl E1.out.range0 rfl rfl) rfl ?_
  exact ⟨rfl, B2.out⟩

def sideL (code x : Int) : List Value := [.int .i64 2, .int .i64 code, .int .i64 x]
/-- The frame of Ask: the request's block, the side's. -/
structure FK (w : World) (S : Nat) (code x : Int) (rl : List Value) (W : World) : Prop where
  b : Below w.heap.size w W
  r : Row W w.heap.size rl
  s : Row W S (sideL code x)
  o : w.heap.size < S
theorem FK.below {w W W2 : World} {S : Nat} {code x : Int} {rl : List Value} (h : FK w S code x rl W) (hl : 0 < rl.length) (hb : Below W.heap.size W W2) : FK w S code x rl W2 :=
  ⟨below_step h.b hb (Nat.le_refl _), h.r.below hb (h.r.lt hl), h.s.below hb (h.s.lt (by simp [sideL])), h.o⟩
theorem FK.grown {w W W2 : World} {S T : Nat} {code x : Int} {rl : List Value} (h : FK w S code x rl W) (hl : 0 < rl.length) (hg : W.grownBy W2 (some T)) (hT : S < T) : FK w S code x rl W2 :=
  have o := h.o
  ⟨Below.grown h.b hg h.b.size (by intro q hq; cases hq; omega), h.r.grown hg (h.r.lt hl) (fun q => by have q2 : w.heap.size = T := Option.some.inj q; omega), h.s.grown hg (h.s.lt (by simp [sideL])) (fun q => by have q2 : S = T := Option.some.inj q; omega), h.o⟩
theorem FK.put {w W W2 : World} {S : Nat} {code x : Int} {rl r2 : List Value} (h : FK w S code x rl W) (hg : W.grownBy W2 (some w.heap.size)) (hr : Row W2 w.heap.size r2) : FK w S code x r2 W2 :=
  have o := h.o
  ⟨Below.grown h.b hg h.b.size (by intro q hq; cases hq; omega), hr, h.s.grown hg (h.s.lt (by simp [sideL])) (fun q => by have q2 : S = w.heap.size := Option.some.inj q; omega), h.o⟩
theorem fk_new1 (w : World) : Below w.heap.size w (w.alloc rO) ∧ Row (w.alloc rO) w.heap.size req0 := ⟨(Below.refl _ _).alloc (Nat.le_refl _) _, row_new w req0 37⟩

attribute [local irreducible] World.setCell World.setCells
set_option maxHeartbeats 8000000 in
set_option maxRecDepth 100000 in
theorem eask_ok (code x pt dv_ vf lf : Int) (w : World) (hL : Laid w) (h0 : 0 ≤ dv_) (h1 : dv_ < 512) (hv : elt vf = true) (hl : elt lf = true) (hs : sideOK 2 code x = true) (hp : elt pt = true) :
    Calls Tryz.prog 20 #[.int .i64 code, .int .i64 x, .int .i64 pt, .int .i64 dv_, .int .i64 vf, .int .i64 lf] w fun e w' => e = .returned (.tuple #[reqV (ownN 2 code x) dv_ vf lf (rqN (prfN (keyN 2 code x pt) 2) dv_ vf lf), .int .i64 0]) ∧ Below w.heap.size w w' := by
  have v0 := elt_pos hv; have v1 := elt_lt hv; have l0 := elt_pos hl; have l1 := elt_lt hl
  have G1 := Bx.mk (fun w => gcheck_c vf w (by omega) (by omega))
  have G2 := Bx.mk (fun w => gcheck_c lf w (by omega) (by omega))
  rw [gcheck_0 hv] at G1
  rw [gcheck_0 hl] at G2
  have HPr := Bx.mk (fun w hL => pProof_ok 2 code x pt w hL hs hp)
  have HPt := Bx.mk (fun w hL => ppoint_ok 2 code x w hL hs)
  have HPL := Bx.mk (prfN_len (keyN 2 code x pt) 2)
  obtain ⟨pn, hpn⟩ : ∃ p, p = prfN (keyN 2 code x pt) 2 := ⟨_, rfl⟩
  rw [← hpn] at HPr HPL ⊢
  obtain ⟨o0, ho0⟩ : ∃ p, p = ownN 2 code x := ⟨_, rfl⟩
  rw [← ho0] at HPt ⊢
  have HEp := Bx.mk (fun W (hW : Laid W) => eproof_c pn HPL.out o0 dv_ vf lf z32 rfl W hW (by intro z hz; simp only [List.mem_cons, List.not_mem_nil, or_false] at hz; rcases hz with rfl | rfl | rfl <;> omega))
  have HRL := Bx.mk (show (rqN pn dv_ vf lf).length = 32 by unfold rqN; exact tagged_len _ _)
  obtain ⟨rq, hrq⟩ : ∃ p, p = rqN pn dv_ vf lf := ⟨_, rfl⟩
  rw [← hrq] at HEp HRL ⊢
  have HL := Bx.mk hL
  have N1 := fk_new1 w
  have N1 := Bx.mk N1
  clear hv hl hs hp hL hpn ho0 hrq
  unfold reqV at HEp ⊢
  go_enter Tryz.func20, Tryz.ntmps20
  go_wp2_with fail
  refine (G1.out _).mono ?_
  rintro e w1 ⟨rfl, hb1⟩
  have B1 := Bx.mk (below_step N1.out.1 hb1 (Nat.le_refl _))
  have R1 := Bx.mk (N1.out.2.below hb1 (N1.out.2.lt (by decide)))
  clear hb1 N1
  go_wp2_with fail
  refine (G2.out _).mono ?_
  rintro e w2 ⟨rfl, hb2⟩
  have B2 := Bx.mk (below_step B1.out hb2 (Nat.le_refl _))
  have R2 := Bx.mk (R1.out.below hb2 (R1.out.lt (by decide)))
  have hz2 : w.heap.size < w2.heap.size := R2.out.lt (by decide)
  clear hb2 B1 R1
  have F3 : Bx (FK w w2.heap.size code x req0 (w2.alloc (.cells #[.int .i64 2, .int .i64 code, .int .i64 x] 23))) := .mk ⟨B2.out.alloc B2.out.size _, R2.out.alloc hz2 _, row_new w2 (sideL code x) 23, hz2⟩
  have hLs := F3.out.s.lt (by simp [sideL])
  go_wp2_with fail
  refine (HPr.out _ (HL.out.below F3.out.b (Nat.le_refl _))).mono ?_
  rintro e w4 ⟨rfl, hb4⟩
  have F4 := Bx.mk (F3.out.below (by decide) hb4)
  obtain ⟨S, hS⟩ : ∃ S, S = w2.heap.size := ⟨_, rfl⟩
  rw [← hS] at F4 ⊢
  have hSl := F4.out.s.lt (by simp [sideL])
  have D4 := Bx.mk (blk_new w4 .u8 z32 35)
  have F5 := Bx.mk (F4.out.below (by decide) ((Below.refl w4.heap.size w4).alloc (Nat.le_refl _) (.cells (z32.map (.int .u8)).toArray 35)))
  clear hb4 F3 F4 B2 R2 hLs G1 G2 HPr hS hz2
  go_wp2_with (refine wpList_stB rowT_dig rfl (.tmp 15) (.tmp 41) rfl w4.heap.size rfl .u8 pn rfl HPL.out z32 D4.out rfl ?_)
  intro w6 e6 g6
  have F6 := Bx.mk (F5.out.grown (by decide) g6 hSl)
  have E6 := Bx.mk e6
  obtain ⟨D, hD⟩ : ∃ D, D = w4.heap.size := ⟨_, rfl⟩
  rw [← hD] at E6 hSl ⊢
  have s0 : w6.cell? ⟨S, 0, none⟩ = some (.int .i64 2) := F6.out.s.get (i := 0) rfl
  have s1 : w6.cell? ⟨S, 1, none⟩ = some (.int .i64 code) := F6.out.s.get (i := 1) rfl
  have s2 : w6.cell? ⟨S, 2, none⟩ = some (.int .i64 x) := F6.out.s.get (i := 2) rfl
  clear e6 g6 D4 F5 hD
  go_wp2_with fail
  refine (HPt.out _ (HL.out.below F6.out.b (Nat.le_refl _))).mono ?_
  rintro e w7 ⟨rfl, hb7⟩
  have F7 := Bx.mk (F6.out.below (by decide) hb7)
  have E7 := Bx.mk (E6.out.below hb7 (E6.out.lt (by rw [HPL.out]; decide)))
  clear hb7 F6 E6 s0 s1 s2 HPt
  go_wp2_with (refine wpList_stR rowT_req rfl (.tmp 12) (.tmp 60) rfl w.heap.size rfl (reqL o0 dv_ vf lf z32) (by kernel_rfl) (req_one o0 dv_ vf lf z32) rfl req0 F7.out.r rfl ?_)
  intro w8 e8 g8
  have F8 := Bx.mk (F7.out.put g8 e8)
  have E8 := Bx.mk (E7.out.grown g8 (E7.out.lt (by rw [HPL.out]; decide)) (fun q => by have q2 : D = w.heap.size := Option.some.inj q; have := F7.out.o; omega))
  clear e8 g8 F7 E7
  go_wp2_with (first | (refine wpList_ldN rowT_dig rfl (.tmp 15) rfl D 0 rfl (pn.map (.int .u8)) (range_of_blk E8.out) (by rw [List.length_map]; exact HPL.out) (dv pn) rfl ?_) | (refine wpList_ldN rowT_req rfl (.tmp 12) rfl w.heap.size 0 rfl (reqL o0 dv_ vf lf z32) F8.out.r.range0 rfl (.agg (reqL o0 dv_ vf lf z32).toArray) rfl ?_))
  refine (HEp.out _ (HL.out.below F8.out.b (Nat.le_refl _))).mono ?_
  rintro e w9 ⟨rfl, hb9⟩
  have F9 := Bx.mk (F8.out.below (by show 0 < 36; decide) hb9)
  clear hb9 F8 E8 HEp
  have hst := F9.out.r
  obtain ⟨u1, u2⟩ := Row.store (pre := [.int .i64 o0, .int .i64 dv_, .int .i64 vf, .int .i64 lf]) (ys := z32.map (.int .u8)) (post := []) (xs := rq.map (.int .u8)) (by simpa [reqL] using hst) (by rw [List.length_map, List.length_map, HRL.out]; rfl)
  have U1 : Bx (Row (w9.setCells w.heap.size 4 (rq.map (.int .u8))) w.heap.size (reqL o0 dv_ vf lf rq)) := .mk (by simpa [reqL] using u1)
  have U2 : Bx (w9.grownBy (w9.setCells w.heap.size 4 (rq.map (.int .u8))) (some w.heap.size)) := .mk u2
  have TH := Bx.mk (hst.there 4 32 (by show 4 + 32 ≤ 36; decide))
  clear hst u1 u2
  have FA10 := Bx.mk (F9.out.put U2.out U1.out)
  have HQL := Bx.mk (reqL_len o0 dv_ vf lf rq HRL.out)
  go_wp2_with (first | (refine wpList_stN rowT_dig rfl (.tmp 64) (.tmp 63) rfl w.heap.size 4 rfl (rq.map (.int .u8)) rfl (one_ints .u8 _) (by rw [List.length_map]; exact HRL.out) TH.out ?_) | (refine wpList_ldN rowT_req rfl (.tmp 12) rfl w.heap.size 0 rfl (reqL o0 dv_ vf lf rq) FA10.out.r.range0 HQL.out (.agg (reqL o0 dv_ vf lf rq).toArray) rfl ?_) | (refine wpList_stR rowT_req rfl (.tmp 12) (.tmp 65) rfl w.heap.size rfl (reqL o0 dv_ vf lf rq) rfl (req_one o0 dv_ vf lf rq) HQL.out (reqL o0 dv_ vf lf rq) FA10.out.r HQL.out ?_))
  intro wE e1 e2
  have F11 := Bx.mk (FA10.out.put e2 e1)
  clear e1 e2 FA10 F9 U1 U2 TH
  go_wp2_with fail
  (try simp only [Exit.inBlock, Exit.then])
  refine bodyPost_ret (results_rowN rowT_req rfl _ _ w.heap.size (reqL o0 dv_ vf lf rq) (.agg (reqL o0 dv_ vf lf rq).toArray) (.int .i64 0) rfl rfl F11.out.r.range0 HQL.out rfl) rfl ?_
  exact ⟨rfl, F11.out.b⟩
end Go.Proofs.YtjbojoeafdkkeaaGreatDoor
