/- Ask, the program's and the specification's, all ways. -/
import Derived.Test.YtjbojoeafdkkeaaGreatDoorJa1
import Derived.Test.YtjbojoeafdkkeaaGreatDoorJ24
set_option linter.unusedVariables false
set_option linter.unusedSimpArgs false
namespace Go.Proofs.YtjbojoeafdkkeaaGreatDoor
open Go Go.RowKit Go.Lib

section
attribute [local irreducible] World.setCell World.setCells
set_option maxHeartbeats 16000000 in
set_option maxRecDepth 100000 in
theorem eask_neg (code x pt dv_ vf lf : Int) (w : World) (i_vf : i64R vf) (i_lf : i64R lf) (h : dv_ < 0) :
    Calls Tryz.prog 20 #[.int .i64 code, .int .i64 x, .int .i64 pt, .int .i64 dv_, .int .i64 vf, .int .i64 lf] w fun e w' => e = .returned (.tuple #[.agg req0.toArray, .int .i64 1]) ∧ Below w.heap.size w w' := by
  have R0 := Bx.mk (row_new w req0 37)
  have B0 := Bx.mk ((Below.refl w.heap.size w).alloc (Nat.le_refl _) rO)
  go_enter Tryz.func20, Tryz.ntmps20
  go_wp2_with (first | (refine wpList_ldN rowT_req rfl (.tmp 12) rfl w.heap.size 0 rfl req0 R0.out.range0 rfl (.agg req0.toArray) rfl ?_) | (refine wpList_stR rowT_req rfl (.tmp 12) (.tmp 33) rfl w.heap.size rfl req0 rfl req0_one rfl req0 R0.out rfl ?_))
  intro wz e1 e2
  have BZ := Bx.mk (Below.grown B0.out e2 B0.out.size (by intro q hq; cases hq; omega))
  have E1 := Bx.mk e1
  clear e1 e2
  go_wp2_with fail
  (try simp only [Exit.inBlock, Exit.then])
  refine bodyPost_ret (results_rowN rowT_req rfl _ _ w.heap.size req0 (.agg req0.toArray) (.int .i64 1) rfl rfl E1.out.range0 rfl rfl) rfl ?_
  exact ⟨rfl, BZ.out⟩

set_option maxHeartbeats 16000000 in
set_option maxRecDepth 100000 in
theorem eask_big (code x pt dv_ vf lf : Int) (w : World) (i_vf : i64R vf) (i_lf : i64R lf) (h0 : 0 ≤ dv_) (h : 512 ≤ dv_) :
    Calls Tryz.prog 20 #[.int .i64 code, .int .i64 x, .int .i64 pt, .int .i64 dv_, .int .i64 vf, .int .i64 lf] w fun e w' => e = .returned (.tuple #[.agg req0.toArray, .int .i64 1]) ∧ Below w.heap.size w w' := by
  have R0 := Bx.mk (row_new w req0 37)
  have B0 := Bx.mk ((Below.refl w.heap.size w).alloc (Nat.le_refl _) rO)
  go_enter Tryz.func20, Tryz.ntmps20
  go_wp2_with (first | (refine wpList_ldN rowT_req rfl (.tmp 12) rfl w.heap.size 0 rfl req0 R0.out.range0 rfl (.agg req0.toArray) rfl ?_) | (refine wpList_stR rowT_req rfl (.tmp 12) (.tmp 33) rfl w.heap.size rfl req0 rfl req0_one rfl req0 R0.out rfl ?_))
  intro wz e1 e2
  have BZ := Bx.mk (Below.grown B0.out e2 B0.out.size (by intro q hq; cases hq; omega))
  have E1 := Bx.mk e1
  clear e1 e2
  go_wp2_with fail
  (try simp only [Exit.inBlock, Exit.then])
  refine bodyPost_ret (results_rowN rowT_req rfl _ _ w.heap.size req0 (.agg req0.toArray) (.int .i64 1) rfl rfl E1.out.range0 rfl rfl) rfl ?_
  exact ⟨rfl, BZ.out⟩

set_option maxHeartbeats 16000000 in
set_option maxRecDepth 100000 in
theorem eask_vf (code x pt dv_ vf lf : Int) (w : World) (i_vf : i64R vf) (i_lf : i64R lf) (h0 : 0 ≤ dv_) (h1 : dv_ < 512) (h_vf : ¬ elt vf = true) :
    Calls Tryz.prog 20 #[.int .i64 code, .int .i64 x, .int .i64 pt, .int .i64 dv_, .int .i64 vf, .int .i64 lf] w fun e w' => e = .returned (.tuple #[.agg req0.toArray, .int .i64 1]) ∧ Below w.heap.size w w' := by
  have R0 := Bx.mk (row_new w req0 37)
  have B0 := Bx.mk ((Below.refl w.heap.size w).alloc (Nat.le_refl _) rO)
  have G1 := Bx.mk (fun w => gcheck_c vf w i_vf.1 i_vf.2)
  rw [gcheck_40 h_vf] at G1
  clear h_vf
  go_enter Tryz.func20, Tryz.ntmps20
  go_wp2_with fail
  refine (G1.out _).mono ?_
  rintro e w1 ⟨rfl, hb⟩
  have B1 := Bx.mk (below_step B0.out hb (Nat.le_refl _))
  have R1 := Bx.mk (R0.out.below hb (R0.out.lt (by decide)))
  clear hb B0 R0 G1
  go_wp2_with (first | (refine wpList_ldN rowT_req rfl (.tmp 12) rfl w.heap.size 0 rfl req0 R1.out.range0 rfl (.agg req0.toArray) rfl ?_) | (refine wpList_stR rowT_req rfl (.tmp 12) (.tmp 33) rfl w.heap.size rfl req0 rfl req0_one rfl req0 R1.out rfl ?_))
  intro wz e1 e2
  have BZ := Bx.mk (Below.grown B1.out e2 B1.out.size (by intro q hq; cases hq; omega))
  have E1 := Bx.mk e1
  clear e1 e2
  go_wp2_with fail
  (try simp only [Exit.inBlock, Exit.then])
  refine bodyPost_ret (results_rowN rowT_req rfl _ _ w.heap.size req0 (.agg req0.toArray) (.int .i64 1) rfl rfl E1.out.range0 rfl rfl) rfl ?_
  exact ⟨rfl, BZ.out⟩

set_option maxHeartbeats 16000000 in
set_option maxRecDepth 100000 in
theorem eask_lf (code x pt dv_ vf lf : Int) (w : World) (i_vf : i64R vf) (i_lf : i64R lf) (h0 : 0 ≤ dv_) (h1 : dv_ < 512) (h_vf : elt vf = true) (h_lf : ¬ elt lf = true) :
    Calls Tryz.prog 20 #[.int .i64 code, .int .i64 x, .int .i64 pt, .int .i64 dv_, .int .i64 vf, .int .i64 lf] w fun e w' => e = .returned (.tuple #[.agg req0.toArray, .int .i64 1]) ∧ Below w.heap.size w w' := by
  have R0 := Bx.mk (row_new w req0 37)
  have B0 := Bx.mk ((Below.refl w.heap.size w).alloc (Nat.le_refl _) rO)
  have G1 := Bx.mk (fun w => gcheck_c vf w i_vf.1 i_vf.2)
  rw [gcheck_0 h_vf] at G1
  have G2 := Bx.mk (fun w => gcheck_c lf w i_lf.1 i_lf.2)
  rw [gcheck_40 h_lf] at G2
  clear h_vf h_lf
  go_enter Tryz.func20, Tryz.ntmps20
  go_wp2_with fail
  refine (G1.out _).mono ?_
  rintro e w1 ⟨rfl, hb⟩
  have B1 := Bx.mk (below_step B0.out hb (Nat.le_refl _))
  have R1 := Bx.mk (R0.out.below hb (R0.out.lt (by decide)))
  clear hb B0 R0 G1
  go_wp2_with fail
  refine (G2.out _).mono ?_
  rintro e w2 ⟨rfl, hb⟩
  have B2 := Bx.mk (below_step B1.out hb (Nat.le_refl _))
  have R2 := Bx.mk (R1.out.below hb (R1.out.lt (by decide)))
  clear hb B1 R1 G2
  go_wp2_with (first | (refine wpList_ldN rowT_req rfl (.tmp 12) rfl w.heap.size 0 rfl req0 R2.out.range0 rfl (.agg req0.toArray) rfl ?_) | (refine wpList_stR rowT_req rfl (.tmp 12) (.tmp 33) rfl w.heap.size rfl req0 rfl req0_one rfl req0 R2.out rfl ?_))
  intro wz e1 e2
  have BZ := Bx.mk (Below.grown B2.out e2 B2.out.size (by intro q hq; cases hq; omega))
  have E1 := Bx.mk e1
  clear e1 e2
  go_wp2_with fail
  (try simp only [Exit.inBlock, Exit.then])
  refine bodyPost_ret (results_rowN rowT_req rfl _ _ w.heap.size req0 (.agg req0.toArray) (.int .i64 1) rfl rfl E1.out.range0 rfl rfl) rfl ?_
  exact ⟨rfl, BZ.out⟩

set_option maxHeartbeats 16000000 in
set_option maxRecDepth 100000 in
theorem eask_side (code x pt dv_ vf lf : Int) (w : World) (hL : Laid w) (i_vf : i64R vf) (i_lf : i64R lf) (i_pt : i64R pt) (h0 : 0 ≤ dv_) (h1 : dv_ < 512) (h_vf : elt vf = true) (h_lf : elt lf = true) (hs : ¬ (sideOK 2 code x = true ∧ elt pt = true)) :
    Calls Tryz.prog 20 #[.int .i64 code, .int .i64 x, .int .i64 pt, .int .i64 dv_, .int .i64 vf, .int .i64 lf] w fun e w' => e = .returned (.tuple #[.agg req0.toArray, .int .i64 100]) ∧ Below w.heap.size w w' := by
  have R0 := Bx.mk (fk_new1 w).2
  have B0 := Bx.mk (fk_new1 w).1
  have G1 := Bx.mk (fun w => gcheck_c vf w i_vf.1 i_vf.2)
  rw [gcheck_0 h_vf] at G1
  have G2 := Bx.mk (fun w => gcheck_c lf w i_lf.1 i_lf.2)
  rw [gcheck_0 h_lf] at G2
  have HPr := Bx.mk (fun w hL => pProof_bad 2 code x pt w hL i_pt.1 i_pt.2 hs)
  have HL := Bx.mk hL
  obtain ⟨zk, hzk⟩ : ∃ p, p = z32 := ⟨_, rfl⟩
  rw [← hzk] at HPr
  have HZL := Bx.mk (show zk.length = 32 by rw [hzk]; rfl)
  clear h_vf h_lf hs hzk
  go_enter Tryz.func20, Tryz.ntmps20
  go_wp2_with fail
  refine (G1.out _).mono ?_
  rintro e w1 ⟨rfl, hb⟩
  have B1 := Bx.mk (below_step B0.out hb (Nat.le_refl _))
  have R1 := Bx.mk (R0.out.below hb (R0.out.lt (by decide)))
  clear hb B0 R0 G1
  go_wp2_with fail
  refine (G2.out _).mono ?_
  rintro e w2 ⟨rfl, hb⟩
  have B2 := Bx.mk (below_step B1.out hb (Nat.le_refl _))
  have R2 := Bx.mk (R1.out.below hb (R1.out.lt (by decide)))
  clear hb B1 R1 G2
  have hz2 : w.heap.size < w2.heap.size := R2.out.lt (by decide)
  have F3 : Bx (FK w (w2.heap.size) code x req0 (w2.alloc (.cells #[.int .i64 2, .int .i64 code, .int .i64 x] 23))) := .mk ⟨B2.out.alloc B2.out.size _, R2.out.alloc hz2 _, row_new w2 (sideL code x) 23, hz2⟩
  have hLs := F3.out.s.lt (by simp [sideL])
  go_wp2_with fail
  refine (HPr.out _ (HL.out.below F3.out.b (Nat.le_refl _))).mono ?_
  rintro e w4 ⟨rfl, hb4⟩
  have F4 := Bx.mk (F3.out.below (by decide) hb4)
  obtain ⟨S, hS⟩ : ∃ S, S = w2.heap.size := ⟨_, rfl⟩
  rw [← hS] at F4 ⊢
  have hSl := F4.out.s.lt (by simp [sideL])
  have D4 := Bx.mk (blk_new w4 .u8 z32 35)
  have F5 := Bx.mk (F4.out.below (by decide) ((Below.refl w4.heap.size w4).alloc (Nat.le_refl _) (.cells (z32.map (.int .u8)).toArray 35)))
  clear hb4 F3 F4 B2 R2 hLs HPr hS hz2
  go_wp2_with (refine wpList_stB rowT_dig rfl (.tmp 15) (.tmp 41) rfl w4.heap.size rfl .u8 zk rfl HZL.out z32 D4.out rfl ?_)
  intro w6 e6 g6
  have F6 := Bx.mk (F5.out.grown (by decide) g6 hSl)
  clear e6 g6 D4 F5 hSl
  go_wp2_with (first | (refine wpList_ldN rowT_req rfl (.tmp 12) rfl w.heap.size 0 rfl req0 F6.out.r.range0 rfl (.agg req0.toArray) rfl ?_) | (refine wpList_stR rowT_req rfl (.tmp 12) (.tmp 45) rfl w.heap.size rfl req0 rfl req0_one rfl req0 F6.out.r rfl ?_))
  intro wz e1 e2
  have BZ := Bx.mk (F6.out.put e2 e1).b
  have E1 := Bx.mk e1
  clear e1 e2
  go_wp2_with fail
  (try simp only [Exit.inBlock, Exit.then])
  refine bodyPost_ret (results_rowN rowT_req rfl _ _ w.heap.size req0 (.agg req0.toArray) (.int .i64 100) rfl rfl E1.out.range0 rfl rfl) rfl ?_
  exact ⟨rfl, BZ.out⟩

set_option maxHeartbeats 16000000 in
set_option maxRecDepth 100000 in
theorem rask_neg (code x pt dv_ vf lf : Int) (w : World) (h : dv_ < 0) :
    Calls Tryz.prog 21 #[.int .i64 code, .int .i64 x, .int .i64 pt, .int .i64 dv_, .int .i64 vf, .int .i64 lf] w fun e w' => e = .returned (.tuple #[.agg req0.toArray, .int .i64 1]) ∧ Below w.heap.size w w' := by
  have R0 := Bx.mk (row_new w req0 37)
  have B0 := Bx.mk ((Below.refl w.heap.size w).alloc (Nat.le_refl _) rO)
  have hb0 := build_req0
  go_enter Tryz.func21, Tryz.ntmps21
  go_wp2_with (refine wpList_stR rowT_req rfl (.tmp 12) (.tmp 35) rfl w.heap.size rfl req0 rfl req0_one rfl req0 R0.out rfl ?_)
  intro wz e1 e2
  have BZ := Bx.mk (Below.grown B0.out e2 B0.out.size (by intro q hq; cases hq; omega))
  have E1 := Bx.mk e1
  clear e1 e2
  go_wp2_with fail
  (try simp only [Exit.inBlock, Exit.then])
  refine bodyPost_ret (results_rowN rowT_req rfl _ _ w.heap.size req0 (.agg req0.toArray) (.int .i64 1) rfl rfl E1.out.range0 rfl rfl) rfl ?_
  exact ⟨rfl, BZ.out⟩

set_option maxHeartbeats 16000000 in
set_option maxRecDepth 100000 in
theorem rask_big (code x pt dv_ vf lf : Int) (w : World) (h0 : 0 ≤ dv_) (h : 512 ≤ dv_) :
    Calls Tryz.prog 21 #[.int .i64 code, .int .i64 x, .int .i64 pt, .int .i64 dv_, .int .i64 vf, .int .i64 lf] w fun e w' => e = .returned (.tuple #[.agg req0.toArray, .int .i64 1]) ∧ Below w.heap.size w w' := by
  have R0 := Bx.mk (row_new w req0 37)
  have B0 := Bx.mk ((Below.refl w.heap.size w).alloc (Nat.le_refl _) rO)
  have hb0 := build_req0
  go_enter Tryz.func21, Tryz.ntmps21
  go_wp2_with (refine wpList_stR rowT_req rfl (.tmp 12) (.tmp 35) rfl w.heap.size rfl req0 rfl req0_one rfl req0 R0.out rfl ?_)
  intro wz e1 e2
  have BZ := Bx.mk (Below.grown B0.out e2 B0.out.size (by intro q hq; cases hq; omega))
  have E1 := Bx.mk e1
  clear e1 e2
  go_wp2_with fail
  (try simp only [Exit.inBlock, Exit.then])
  refine bodyPost_ret (results_rowN rowT_req rfl _ _ w.heap.size req0 (.agg req0.toArray) (.int .i64 1) rfl rfl E1.out.range0 rfl rfl) rfl ?_
  exact ⟨rfl, BZ.out⟩

set_option maxHeartbeats 16000000 in
set_option maxRecDepth 100000 in
theorem rask_vf (code x pt dv_ vf lf : Int) (w : World) (h0 : 0 ≤ dv_) (h1 : dv_ < 512) (h_vf : ¬ elt vf = true) :
    Calls Tryz.prog 21 #[.int .i64 code, .int .i64 x, .int .i64 pt, .int .i64 dv_, .int .i64 vf, .int .i64 lf] w fun e w' => e = .returned (.tuple #[.agg req0.toArray, .int .i64 1]) ∧ Below w.heap.size w w' := by
  have R0 := Bx.mk (row_new w req0 37)
  have B0 := Bx.mk ((Below.refl w.heap.size w).alloc (Nat.le_refl _) rO)
  have G1 := Bx.mk (fun w => rcheck_c vf w)
  rw [gcheck_40 h_vf] at G1
  clear h_vf
  have hb0 := build_req0
  go_enter Tryz.func21, Tryz.ntmps21
  go_wp2_with fail
  refine (G1.out _).mono ?_
  rintro e w1 ⟨rfl, rfl⟩
  have B1 := B0
  have R1 := R0
  clear B0 R0 G1
  go_wp2_with (refine wpList_stR rowT_req rfl (.tmp 12) (.tmp 35) rfl w.heap.size rfl req0 rfl req0_one rfl req0 R1.out rfl ?_)
  intro wz e1 e2
  have BZ := Bx.mk (Below.grown B1.out e2 B1.out.size (by intro q hq; cases hq; omega))
  have E1 := Bx.mk e1
  clear e1 e2
  go_wp2_with fail
  (try simp only [Exit.inBlock, Exit.then])
  refine bodyPost_ret (results_rowN rowT_req rfl _ _ w.heap.size req0 (.agg req0.toArray) (.int .i64 1) rfl rfl E1.out.range0 rfl rfl) rfl ?_
  exact ⟨rfl, BZ.out⟩

set_option maxHeartbeats 16000000 in
set_option maxRecDepth 100000 in
theorem rask_lf (code x pt dv_ vf lf : Int) (w : World) (h0 : 0 ≤ dv_) (h1 : dv_ < 512) (h_vf : elt vf = true) (h_lf : ¬ elt lf = true) :
    Calls Tryz.prog 21 #[.int .i64 code, .int .i64 x, .int .i64 pt, .int .i64 dv_, .int .i64 vf, .int .i64 lf] w fun e w' => e = .returned (.tuple #[.agg req0.toArray, .int .i64 1]) ∧ Below w.heap.size w w' := by
  have R0 := Bx.mk (row_new w req0 37)
  have B0 := Bx.mk ((Below.refl w.heap.size w).alloc (Nat.le_refl _) rO)
  have G1 := Bx.mk (fun w => rcheck_c vf w)
  rw [gcheck_0 h_vf] at G1
  have G2 := Bx.mk (fun w => rcheck_c lf w)
  rw [gcheck_40 h_lf] at G2
  clear h_vf h_lf
  have hb0 := build_req0
  go_enter Tryz.func21, Tryz.ntmps21
  go_wp2_with fail
  refine (G1.out _).mono ?_
  rintro e w1 ⟨rfl, rfl⟩
  have B1 := B0
  have R1 := R0
  clear B0 R0 G1
  go_wp2_with fail
  refine (G2.out _).mono ?_
  rintro e w2 ⟨rfl, rfl⟩
  have B2 := B1
  have R2 := R1
  clear B1 R1 G2
  go_wp2_with (refine wpList_stR rowT_req rfl (.tmp 12) (.tmp 35) rfl w.heap.size rfl req0 rfl req0_one rfl req0 R2.out rfl ?_)
  intro wz e1 e2
  have BZ := Bx.mk (Below.grown B2.out e2 B2.out.size (by intro q hq; cases hq; omega))
  have E1 := Bx.mk e1
  clear e1 e2
  go_wp2_with fail
  (try simp only [Exit.inBlock, Exit.then])
  refine bodyPost_ret (results_rowN rowT_req rfl _ _ w.heap.size req0 (.agg req0.toArray) (.int .i64 1) rfl rfl E1.out.range0 rfl rfl) rfl ?_
  exact ⟨rfl, BZ.out⟩

set_option maxHeartbeats 16000000 in
set_option maxRecDepth 100000 in
theorem rask_side (code x pt dv_ vf lf : Int) (w : World) (h0 : 0 ≤ dv_) (h1 : dv_ < 512) (h_vf : elt vf = true) (h_lf : elt lf = true) (hs : ¬ (sideOK 2 code x = true ∧ elt pt = true)) :
    Calls Tryz.prog 21 #[.int .i64 code, .int .i64 x, .int .i64 pt, .int .i64 dv_, .int .i64 vf, .int .i64 lf] w fun e w' => e = .returned (.tuple #[.agg req0.toArray, .int .i64 100]) ∧ Below w.heap.size w w' := by
  have R0 := Bx.mk (fk_new1 w).2
  have B0 := Bx.mk (fk_new1 w).1
  have G1 := Bx.mk (fun w => rcheck_c vf w)
  rw [gcheck_0 h_vf] at G1
  have G2 := Bx.mk (fun w => rcheck_c lf w)
  rw [gcheck_0 h_lf] at G2
  have HPr := Bx.mk (fun w => rProof_bad 2 code x pt w hs)
  have hb0 := build_req0
  obtain ⟨zk, hzk⟩ : ∃ p, p = z32 := ⟨_, rfl⟩
  rw [← hzk] at HPr
  have HZL := Bx.mk (show zk.length = 32 by rw [hzk]; rfl)
  clear h_vf h_lf hs hzk
  go_enter Tryz.func21, Tryz.ntmps21
  go_wp2_with fail
  refine (G1.out _).mono ?_
  rintro e w1 ⟨rfl, rfl⟩
  have B1 := B0
  have R1 := R0
  clear B0 R0 G1
  go_wp2_with fail
  refine (G2.out _).mono ?_
  rintro e w2 ⟨rfl, rfl⟩
  have B2 := B1
  have R2 := R1
  clear B1 R1 G2
  have hz2 : w.heap.size < (w.alloc rO).heap.size := R2.out.lt (by decide)
  have h2n : (w.alloc rO).heap.size = w.heap.size + 1 := World.size_alloc _ _
  have rs2 := row_new (w.alloc rO) (sideL code x) 23
  rw [h2n] at rs2
  have F3 : Bx (FK w (w.heap.size + 1) code x req0 ((w.alloc rO).alloc (.cells #[.int .i64 2, .int .i64 code, .int .i64 x] 23))) := .mk ⟨B2.out.alloc B2.out.size _, R2.out.alloc hz2 _, rs2, by omega⟩
  have hLs := F3.out.s.lt (by simp [sideL])
  go_wp2_with fail
  refine (HPr.out _).mono ?_
  rintro e w4 ⟨rfl, hb4⟩
  have F4 := Bx.mk (F3.out.below (by decide) hb4)
  obtain ⟨S, hS⟩ : ∃ S, S = w.heap.size + 1 := ⟨_, rfl⟩
  rw [← hS] at F4 ⊢
  have hSl := F4.out.s.lt (by simp [sideL])
  have D4 := Bx.mk (blk_new w4 .u8 z32 35)
  have F5 := Bx.mk (F4.out.below (by decide) ((Below.refl w4.heap.size w4).alloc (Nat.le_refl _) (.cells (z32.map (.int .u8)).toArray 35)))
  clear h2n rs2 hb4 F3 F4 B2 R2 hLs HPr hS hz2
  go_wp2_with (refine wpList_stB rowT_dig rfl (.tmp 15) (.tmp 43) rfl w4.heap.size rfl .u8 zk rfl HZL.out z32 D4.out rfl ?_)
  intro w6 e6 g6
  have F6 := Bx.mk (F5.out.grown (by decide) g6 hSl)
  clear e6 g6 D4 F5 hSl
  go_wp2_with (refine wpList_stR rowT_req rfl (.tmp 12) (.tmp 47) rfl w.heap.size rfl req0 rfl req0_one rfl req0 F6.out.r rfl ?_)
  intro wz e1 e2
  have BZ := Bx.mk (F6.out.put e2 e1).b
  have E1 := Bx.mk e1
  clear e1 e2
  go_wp2_with fail
  (try simp only [Exit.inBlock, Exit.then])
  refine bodyPost_ret (results_rowN rowT_req rfl _ _ w.heap.size req0 (.agg req0.toArray) (.int .i64 100) rfl rfl E1.out.range0 rfl rfl) rfl ?_
  exact ⟨rfl, BZ.out⟩

set_option maxHeartbeats 16000000 in
set_option maxRecDepth 100000 in
theorem rask_ok (code x pt dv_ vf lf : Int) (w : World) (h0 : 0 ≤ dv_) (h1 : dv_ < 512) (h_vf : elt vf = true) (h_lf : elt lf = true) (hs : sideOK 2 code x = true) (hp : elt pt = true) :
    Calls Tryz.prog 21 #[.int .i64 code, .int .i64 x, .int .i64 pt, .int .i64 dv_, .int .i64 vf, .int .i64 lf] w fun e w' => e = .returned (.tuple #[reqV (ownN 2 code x) dv_ vf lf (rqN (prfN (keyN 2 code x pt) 2) dv_ vf lf), .int .i64 0]) ∧ Below w.heap.size w w' := by
  have v0 := elt_pos h_vf; have v1 := elt_lt h_vf; have l0 := elt_pos h_lf; have l1 := elt_lt h_lf
  have R0 := Bx.mk (fk_new1 w).2
  have B0 := Bx.mk (fk_new1 w).1
  have G1 := Bx.mk (fun w => rcheck_c vf w)
  rw [gcheck_0 h_vf] at G1
  have G2 := Bx.mk (fun w => rcheck_c lf w)
  rw [gcheck_0 h_lf] at G2
  have HPr := Bx.mk (fun w => rProof_ok 2 code x pt w hs hp)
  have HPt := Bx.mk (fun w => rpoint_ok 2 code x w hs)
  have HPL := Bx.mk (prfN_len (keyN 2 code x pt) 2)
  obtain ⟨pn, hpn⟩ : ∃ p, p = prfN (keyN 2 code x pt) 2 := ⟨_, rfl⟩
  rw [← hpn] at HPr HPL ⊢
  obtain ⟨o0, ho0⟩ : ∃ p, p = ownN 2 code x := ⟨_, rfl⟩
  rw [← ho0] at HPt ⊢
  have HEp := Bx.mk (fun W => rproof_c pn HPL.out dv_ vf lf W (by intro z hz; simp only [List.mem_cons, List.not_mem_nil, or_false] at hz; rcases hz with rfl | rfl | rfl <;> omega))
  have HRL := Bx.mk (show (rqN pn dv_ vf lf).length = 32 by unfold rqN; exact tagged_len _ _)
  obtain ⟨rq, hrq⟩ : ∃ p, p = rqN pn dv_ vf lf := ⟨_, rfl⟩
  rw [← hrq] at HEp HRL ⊢
  have HB := Bx.mk (build_req o0 dv_ vf lf rq HRL.out)
  have HQL := Bx.mk (reqL_len o0 dv_ vf lf rq HRL.out)
  clear h_vf h_lf hs hp hpn ho0 hrq
  unfold reqV
  go_enter Tryz.func21, Tryz.ntmps21
  go_wp2_with fail
  refine (G1.out _).mono ?_
  rintro e w1 ⟨rfl, rfl⟩
  have B1 := B0
  have R1 := R0
  clear B0 R0 G1
  go_wp2_with fail
  refine (G2.out _).mono ?_
  rintro e w2 ⟨rfl, rfl⟩
  have B2 := B1
  have R2 := R1
  clear B1 R1 G2
  have hz2 : w.heap.size < (w.alloc rO).heap.size := R2.out.lt (by decide)
  have h2n : (w.alloc rO).heap.size = w.heap.size + 1 := World.size_alloc _ _
  have rs2 := row_new (w.alloc rO) (sideL code x) 23
  rw [h2n] at rs2
  have F3 : Bx (FK w (w.heap.size + 1) code x req0 ((w.alloc rO).alloc (.cells #[.int .i64 2, .int .i64 code, .int .i64 x] 23))) := .mk ⟨B2.out.alloc B2.out.size _, R2.out.alloc hz2 _, rs2, by omega⟩
  have hLs := F3.out.s.lt (by simp [sideL])
  go_wp2_with fail
  refine (HPr.out _).mono ?_
  rintro e w4 ⟨rfl, hb4⟩
  have F4 := Bx.mk (F3.out.below (by decide) hb4)
  obtain ⟨S, hS⟩ : ∃ S, S = w.heap.size + 1 := ⟨_, rfl⟩
  rw [← hS] at F4 ⊢
  have hSl := F4.out.s.lt (by simp [sideL])
  have D4 := Bx.mk (blk_new w4 .u8 z32 35)
  have F5 := Bx.mk (F4.out.below (by decide) ((Below.refl w4.heap.size w4).alloc (Nat.le_refl _) (.cells (z32.map (.int .u8)).toArray 35)))
  clear h2n rs2 hb4 F3 F4 B2 R2 hLs HPr hS hz2
  go_wp2_with (refine wpList_stB rowT_dig rfl (.tmp 15) (.tmp 43) rfl w4.heap.size rfl .u8 pn rfl HPL.out z32 D4.out rfl ?_)
  intro w6 e6 g6
  have F6 := Bx.mk (F5.out.grown (by decide) g6 hSl)
  have E6 := Bx.mk e6
  obtain ⟨D, hD⟩ : ∃ D, D = w4.heap.size := ⟨_, rfl⟩
  rw [← hD] at E6 hSl ⊢
  have s0 : w6.cell? ⟨S, 0, none⟩ = some (.int .i64 2) := F6.out.s.get (i := 0) rfl
  have s1 : w6.cell? ⟨S, 1, none⟩ = some (.int .i64 code) := F6.out.s.get (i := 1) rfl
  have s2 : w6.cell? ⟨S, 2, none⟩ = some (.int .i64 x) := F6.out.s.get (i := 2) rfl
  clear e6 g6 D4 F5 hD
  go_wp2_with fail
  refine (HPt.out _).mono ?_
  rintro e w7 ⟨rfl, hb7⟩
  have F7 := Bx.mk (F6.out.below (by decide) hb7)
  have E7 := Bx.mk (E6.out.below hb7 (E6.out.lt (by rw [HPL.out]; decide)))
  clear hb7 F6 E6 s0 s1 s2 HPt
  go_wp2_with (refine wpList_ldN rowT_dig rfl (.tmp 15) rfl D 0 rfl (pn.map (.int .u8)) (range_of_blk E7.out) (by rw [List.length_map]; exact HPL.out) (dv pn) rfl ?_)
  refine (HEp.out _).mono ?_
  rintro e w9 ⟨rfl, hb9⟩
  have F9 := Bx.mk (F7.out.below (by decide) hb9)
  clear hb9 F7 E7 HEp
  go_wp2_with (first | (refine wpList_bldS rfl 37 #[(0, .tmp 54), (1, .tmp 55), (2, .tmp 56), (3, .tmp 57), (4, .tmp 62)] rfl #[(0, .int .i64 o0), (1, .int .i64 dv_), (2, .int .i64 vf), (3, .int .i64 lf), (4, dv rq)] (by kernel_rfl) (.agg (reqL o0 dv_ vf lf rq).toArray) (HB.out _) ?_) | (refine wpList_stR rowT_req rfl (.tmp 12) (.tmp 63) rfl w.heap.size rfl (reqL o0 dv_ vf lf rq) rfl (req_one o0 dv_ vf lf rq) HQL.out req0 F9.out.r rfl ?_))
  intro wE e1 e2
  have F11 := Bx.mk (F9.out.put e2 e1)
  clear e1 e2 F9
  go_wp2_with fail
  (try simp only [Exit.inBlock, Exit.then])
  refine bodyPost_ret (results_rowN rowT_req rfl _ _ w.heap.size (reqL o0 dv_ vf lf rq) (.agg (reqL o0 dv_ vf lf rq).toArray) (.int .i64 0) rfl rfl F11.out.r.range0 HQL.out rfl) rfl ?_
  exact ⟨rfl, F11.out.b⟩

end
/-- What Ask makes of its arguments. -/
def askF (code x pt dv_ vf lf : Int) : (Int × Int × Int × Int × List Int) × Int :=
  if dv_ < 0 ∨ 512 ≤ dv_ ∨ ¬ elt vf = true ∨ ¬ elt lf = true then ((0, 0, 0, 0, z32), 1)
  else if sideOK 2 code x = true ∧ elt pt = true then ((ownN 2 code x, dv_, vf, lf, rqN (prfN (keyN 2 code x pt) 2) dv_ vf lf), 0) else ((0, 0, 0, 0, z32), 100)
theorem z32_len : z32.length = 32 := rfl
theorem askF_len (code x pt dv_ vf lf : Int) : (askF code x pt dv_ vf lf).1.2.2.2.2.length = 32 := by
  unfold askF
  by_cases h : dv_ < 0 ∨ 512 ≤ dv_ ∨ ¬ elt vf = true ∨ ¬ elt lf = true
  · rw [if_pos h]
    exact z32_len
  · rw [if_neg h]
    by_cases hs : sideOK 2 code x = true ∧ elt pt = true
    · rw [if_pos hs]
      dsimp only
      unfold rqN
      exact tagged_len _ _
    · rw [if_neg hs]
      exact z32_len
def askL (code x pt dv_ vf lf : Int) : List Value := reqL (askF code x pt dv_ vf lf).1.1 (askF code x pt dv_ vf lf).1.2.1 (askF code x pt dv_ vf lf).1.2.2.1 (askF code x pt dv_ vf lf).1.2.2.2.1 (askF code x pt dv_ vf lf).1.2.2.2.2
theorem eask_c (code x pt dv_ vf lf : Int) (w : World) (hL : Laid w) (i_vf : i64R vf) (i_lf : i64R lf) (i_pt : i64R pt) :
    Calls Tryz.prog 20 #[.int .i64 code, .int .i64 x, .int .i64 pt, .int .i64 dv_, .int .i64 vf, .int .i64 lf] w fun e w' => e = .returned (.tuple #[.agg (askL code x pt dv_ vf lf).toArray, .int .i64 (askF code x pt dv_ vf lf).2]) ∧ Below w.heap.size w w' := by
  unfold askL askF
  by_cases h : dv_ < 0 ∨ 512 ≤ dv_ ∨ ¬ elt vf = true ∨ ¬ elt lf = true
  · rw [if_pos h]
    dsimp only
    by_cases a1 : dv_ < 0
    · exact eask_neg code x pt dv_ vf lf w i_vf i_lf a1
    · by_cases a2 : 512 ≤ dv_
      · exact eask_big code x pt dv_ vf lf w i_vf i_lf (by omega) a2
      · by_cases a3 : elt vf = true
        · exact eask_lf code x pt dv_ vf lf w i_vf i_lf (by omega) (by omega) a3 (by rcases h with h | h | h | h; exact absurd h a1; exact absurd h a2; exact absurd a3 h; exact h)
        · exact eask_vf code x pt dv_ vf lf w i_vf i_lf (by omega) (by omega) a3
  · rw [if_neg h]
    have a3 : elt vf = true := Classical.byContradiction fun q => h (.inr (.inr (.inl q)))
    have a4 : elt lf = true := Classical.byContradiction fun q => h (.inr (.inr (.inr q)))
    have a1 : ¬ dv_ < 0 := fun q => h (.inl q)
    have a2 : ¬ 512 ≤ dv_ := fun q => h (.inr (.inl q))
    by_cases hs : sideOK 2 code x = true ∧ elt pt = true
    · rw [if_pos hs]
      dsimp only
      exact eask_ok code x pt dv_ vf lf w hL (by omega) (by omega) a3 a4 hs.1 hs.2
    · rw [if_neg hs]
      dsimp only
      exact eask_side code x pt dv_ vf lf w hL i_vf i_lf i_pt (by omega) (by omega) a3 a4 hs
theorem rask_c (code x pt dv_ vf lf : Int) (w : World) :
    Calls Tryz.prog 21 #[.int .i64 code, .int .i64 x, .int .i64 pt, .int .i64 dv_, .int .i64 vf, .int .i64 lf] w fun e w' => e = .returned (.tuple #[.agg (askL code x pt dv_ vf lf).toArray, .int .i64 (askF code x pt dv_ vf lf).2]) ∧ Below w.heap.size w w' := by
  unfold askL askF
  by_cases h : dv_ < 0 ∨ 512 ≤ dv_ ∨ ¬ elt vf = true ∨ ¬ elt lf = true
  · rw [if_pos h]
    dsimp only
    by_cases a1 : dv_ < 0
    · exact rask_neg code x pt dv_ vf lf w a1
    · by_cases a2 : 512 ≤ dv_
      · exact rask_big code x pt dv_ vf lf w (by omega) a2
      · by_cases a3 : elt vf = true
        · exact rask_lf code x pt dv_ vf lf w (by omega) (by omega) a3 (by rcases h with h | h | h | h; exact absurd h a1; exact absurd h a2; exact absurd a3 h; exact h)
        · exact rask_vf code x pt dv_ vf lf w (by omega) (by omega) a3
  · rw [if_neg h]
    have a3 : elt vf = true := Classical.byContradiction fun q => h (.inr (.inr (.inl q)))
    have a4 : elt lf = true := Classical.byContradiction fun q => h (.inr (.inr (.inr q)))
    have a1 : ¬ dv_ < 0 := fun q => h (.inl q)
    have a2 : ¬ 512 ≤ dv_ := fun q => h (.inr (.inl q))
    by_cases hs : sideOK 2 code x = true ∧ elt pt = true
    · rw [if_pos hs]
      dsimp only
      exact rask_ok code x pt dv_ vf lf w (by omega) (by omega) a3 a4 hs.1 hs.2
    · rw [if_neg hs]
      dsimp only
      exact rask_side code x pt dv_ vf lf w (by omega) (by omega) a3 a4 hs
end Go.Proofs.YtjbojoeafdkkeaaGreatDoor

namespace Go.Proofs.YtjbojoeafdkkeaaGreatDoor
open Go Go.RowKit Go.Lib

section
attribute [local irreducible] World.setCell World.setCells World.alloc
set_option maxHeartbeats 16000000 in
set_option maxRecDepth 100000 in
theorem askspec_c (code x pt dv_ vf lf : Int) (w : World) (hL : Laid w) (hE : EType w) (i_vf : i64R vf) (i_lf : i64R lf) (i_pt : i64R pt) :
    Calls Tryz.prog 4 #[.int .i64 code, .int .i64 x, .int .i64 pt, .int .i64 dv_, .int .i64 vf, .int .i64 lf] w fun e w' => e = .returned (.bool true) ∧ Below w.heap.size w w' := by
  have HS := Bx.mk (fun w hL hE => sane38_c w hL hE)
  have HA := Bx.mk (fun w hL => eask_c code x pt dv_ vf lf w hL i_vf i_lf i_pt)
  have HR := Bx.mk (fun w => rask_c code x pt dv_ vf lf w)
  have HQ : Bx (∀ w, (Op.equalIn 10000 37 (.agg (askL code x pt dv_ vf lf).toArray) (.agg (askL code x pt dv_ vf lf).toArray)).run Tryz.prog w = .ok true w) := .mk (fun w => by unfold askL; exact eq_req_self _ _ _ _ _ (askF_len _ _ _ _ _ _) w)
  have HLEN : Bx ((askL code x pt dv_ vf lf).length = 36) := .mk (by unfold askL; exact reqL_len _ _ _ _ _ (askF_len _ _ _ _ _ _))
  have HONE : Bx (∀ u ∈ askL code x pt dv_ vf lf, u.oneCell' = true) := .mk (by unfold askL; exact req_one _ _ _ _ _)
  obtain ⟨L, hl⟩ : ∃ L, L = askL code x pt dv_ vf lf := ⟨_, rfl⟩
  rw [← hl] at HA HR HQ HLEN HONE
  obtain ⟨ae, hae⟩ : ∃ z, z = (askF code x pt dv_ vf lf).2 := ⟨_, rfl⟩
  rw [← hae] at HA HR
  have F0 := Bx.mk (FS.start w)
  have HL := Bx.mk hL; have HE := Bx.mk hE
  clear hL hE hl hae i_vf i_lf i_pt
  go_enter Tryz.func4, Tryz.ntmps4
  go_wp2_with fail
  refine (HS.out _ (F0.out.laid HL.out) (F0.out.etype HE.out)).mono ?_
  rintro e a1 ⟨rfl, hb1⟩
  have F1 := Bx.mk (F0.out.below hb1)
  clear hb1 F0 HS
  go_wp2_with fail
  refine (HA.out _ (F1.out.laid HL.out)).mono ?_
  rintro e a2 ⟨rfl, hb2⟩
  have F2 := Bx.mk (F1.out.below hb2)
  clear hb2 F1 HA
  have zr := Bx.mk (row_new a2 req0 37)
  have hM := F2.out.2.1
  go_wp2_with (refine wpList_stR rowT_req rfl (.tmp 13) (.tmp 27) rfl a2.heap.size rfl L rfl HONE.out HLEN.out req0 zr.out rfl ?_)
  intro a3 r3 g3
  obtain ⟨A, hA⟩ : ∃ A, A = a2.heap.size := ⟨_, rfl⟩
  rw [← hA] at r3 g3 hM ⊢
  have F3 := Bx.mk ((F2.out.alloc _).put g3 hM r3 (by rw [HLEN.out]; decide))
  clear hA r3 g3 hM zr F2
  go_wp2_with fail
  refine (HR.out _).mono ?_
  rintro e a4 ⟨rfl, hb4⟩
  have F4 := Bx.mk (F3.out.below hb4)
  clear hb4 F3 HR
  have zr := Bx.mk (row_new a4 req0 37)
  have hM := F4.out.2.1
  go_wp2_with (refine wpList_stR rowT_req rfl (.tmp 15) (.tmp 37) rfl a4.heap.size rfl L rfl HONE.out HLEN.out req0 zr.out rfl ?_)
  intro a5 r3 g3
  obtain ⟨B, hA⟩ : ∃ A, A = a4.heap.size := ⟨_, rfl⟩
  rw [← hA] at r3 g3 hM ⊢
  have F5 := Bx.mk ((F4.out.alloc _).put g3 hM r3 (by rw [HLEN.out]; decide))
  clear hA r3 g3 hM zr F4
  have hq := HQ.out
  go_wp2_with (first | (refine wpList_ldN rowT_req rfl (.tmp 13) rfl A 0 rfl L (F5.out.get (by simp)).range0 HLEN.out (.agg L.toArray) rfl ?_) | (refine wpList_ldN rowT_req rfl (.tmp 15) rfl B 0 rfl L (F5.out.get (by simp)).range0 HLEN.out (.agg L.toArray) rfl ?_))
  go_ret
  exact ⟨rfl, F5.out.1⟩
end
end Go.Proofs.YtjbojoeafdkkeaaGreatDoor
