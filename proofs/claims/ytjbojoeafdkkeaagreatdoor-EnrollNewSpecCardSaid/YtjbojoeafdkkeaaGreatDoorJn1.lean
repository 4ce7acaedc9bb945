/- EnrollNewSpec: the law's walk. -/
import Derived.Test.YtjbojoeafdkkeaaGreatDoorJ24
import Derived.Test.YtjbojoeafdkkeaaGreatDoorJ25
import Derived.Test.YtjbojoeafdkkeaaGreatDoorJ17
set_option linter.unusedVariables false
set_option linter.unusedSimpArgs false
namespace Go.Proofs.YtjbojoeafdkkeaaGreatDoor
open Go Go.RowKit Go.Lib

theorem FS.drewn {w W : World} {L : List (Nat × List Value)} {M : Nat} (h : FS w L M W) (n : Nat) : FS w L M (W.drewN n) := ⟨below_drewN h.1 n, h.2.1, h.2.2.1, h.2.2.2⟩
theorem fs_sess (w : World) (r code x p t : Int) (d : Bool) : FS w [(w.heap.size, sessL r code x p t d)] (w.heap.size + 1) (w.alloc (.cells (sessL r code x p t d).toArray 25)) := by
  refine ⟨(Below.refl _ _).alloc (Nat.le_refl _) _, by rw [World.size_alloc]; omega, by omega, fun b hb => ?_⟩
  simp only [List.mem_cons, List.not_mem_nil, or_false] at hb
  subst hb
  exact ⟨row_new w (sessL r code x p t d) 25, by simp [sessL], by simp⟩

section
attribute [local irreducible] World.setCell World.setCells World.alloc
set_option maxHeartbeats 4000000 in
set_option maxRecDepth 100000 in
theorem newspec_c (a c y r code x p t : Int) (d : Bool) (w : World) (hL : Laid w) (hE : EType w) :
    Calls Tryz.prog 3 #[.int .i64 a, .int .i64 c, .int .i64 y, sessV r code x p t d] w fun e w' => e = .returned (.bool true) ∧ Below w.heap.size w w' := by
  have HS := Bx.mk (fun w hL hE => sane38_c w hL hE)
  have HN := Bx.mk (fun w => enew_c a c y w)
  have HN2 := Bx.mk (fun w => rnew_c a c y w)
  have HP := Bx.mk (fun w hL => epoint_c r code x p t d w hL)
  have HP2 := Bx.mk (fun w => repoint_c r code x p t d w)
  have HK := Bx.mk (fun w => echeck_c r code x p t d w)
  have HK2 := Bx.mk (fun w => rsess_c r code x p t d w)
  have F0 := Bx.mk (fs_sess w r code x p t d)
  have HL := Bx.mk hL; have HE := Bx.mk hE
  clear hL hE
  unfold newV at HN HN2
  obtain ⟨⟨⟨n1, n2, n3, n4⟩, ne⟩, hnf⟩ : ∃ z, z = newF a c y := ⟨_, rfl⟩
  rw [← hnf] at HN HN2
  obtain ⟨⟨p1, pe⟩, hpf⟩ : ∃ z, z = pntF r code x p t := ⟨_, rfl⟩
  rw [← hpf] at HP HP2
  obtain ⟨ke, hke⟩ : ∃ z : Int, z = (if sessOK r code x p t then 0 else 380) := ⟨_, rfl⟩
  rw [← hke] at HK HK2
  dsimp only at HN HN2 HP HP2
  clear hnf hpf hke
  have hce := fun w => eq_sess_self n1 n2 n3 n4 0 false w
  unfold sessV at HN HN2 HP HP2 HK HK2 hce ⊢
  go_enter Tryz.func3, Tryz.ntmps3
  go_wp2_with fail
  refine (HS.out _ (F0.out.laid HL.out) (F0.out.etype HE.out)).mono ?_
  rintro e a1 ⟨rfl, hb1⟩
  have F1 := Bx.mk (F0.out.below hb1)
  clear hb1 F0 HS
  go_wp2_with fail
  refine (HN.out _).mono ?_
  rintro e a2 ⟨rfl, hb2⟩
  have F2 := Bx.mk (F1.out.below hb2)
  clear hb2 F1 HN
  have zr := Bx.mk (row_new a2 sess0 25)
  have hM := F2.out.2.1
  go_wp2_with (refine wpList_stR rowT_sess rfl (.tmp 9) (.tmp 24) rfl a2.heap.size rfl (sessL n1 n2 n3 n4 0 false) rfl (sess_one n1 n2 n3 n4 0 false) rfl sess0 zr.out rfl ?_)
  intro a3 r3 g3
  obtain ⟨A, hA⟩ : ∃ A, A = a2.heap.size := ⟨_, rfl⟩
  rw [← hA] at r3 g3 hM ⊢
  have F3 := Bx.mk ((F2.out.alloc _).put g3 hM r3 (by simp [sessL]))
  clear hA r3 g3 hM zr F2
  go_wp2_with fail
  refine (HN2.out _).mono ?_
  rintro e a4 ⟨rfl, hb4⟩
  have F4 := Bx.mk (F3.out.below hb4)
  clear hb4 F3 HN2
  have zr := Bx.mk (row_new a4 sess0 25)
  have hM := F4.out.2.1
  go_wp2_with (refine wpList_stR rowT_sess rfl (.tmp 11) (.tmp 31) rfl a4.heap.size rfl (sessL n1 n2 n3 n4 0 false) rfl (sess_one n1 n2 n3 n4 0 false) rfl sess0 zr.out rfl ?_)
  intro a5 r3 g3
  obtain ⟨B, hA⟩ : ∃ A, A = a4.heap.size := ⟨_, rfl⟩
  rw [← hA] at r3 g3 hM ⊢
  have F5 := Bx.mk ((F4.out.alloc _).put g3 hM r3 (by simp [sessL]))
  clear hA r3 g3 hM zr F4
  have q := F5.out.get (B := w.heap.size) (cs := sessL r code x p t d) (by simp)
  have s0 : a5.cell? ⟨w.heap.size, 0, none⟩ = some (.int .i64 r) := q.get (i := 0) rfl
  have s1 : a5.cell? ⟨w.heap.size, 1, none⟩ = some (.int .i64 code) := q.get (i := 1) rfl
  have s2 : a5.cell? ⟨w.heap.size, 2, none⟩ = some (.int .i64 x) := q.get (i := 2) rfl
  have s3 : a5.cell? ⟨w.heap.size, 3, none⟩ = some (.int .i64 p) := q.get (i := 3) rfl
  have s4 : a5.cell? ⟨w.heap.size, 4, none⟩ = some (.int .i64 t) := q.get (i := 4) rfl
  have s5 : a5.cell? ⟨w.heap.size, 5, none⟩ = some (.bool d) := q.get (i := 5) rfl
  clear q
  go_wp2_with fail
  refine (HP.out _ (F5.out.laid HL.out)).mono ?_
  rintro e a6 ⟨rfl, hb6⟩
  have F6 := Bx.mk (F5.out.below hb6)
  clear hb6 F5 HP s0 s1 s2 s3 s4 s5
  have q := F6.out.get (B := w.heap.size) (cs := sessL r code x p t d) (by simp)
  have s0 : a6.cell? ⟨w.heap.size, 0, none⟩ = some (.int .i64 r) := q.get (i := 0) rfl
  have s1 : a6.cell? ⟨w.heap.size, 1, none⟩ = some (.int .i64 code) := q.get (i := 1) rfl
  have s2 : a6.cell? ⟨w.heap.size, 2, none⟩ = some (.int .i64 x) := q.get (i := 2) rfl
  have s3 : a6.cell? ⟨w.heap.size, 3, none⟩ = some (.int .i64 p) := q.get (i := 3) rfl
  have s4 : a6.cell? ⟨w.heap.size, 4, none⟩ = some (.int .i64 t) := q.get (i := 4) rfl
  have s5 : a6.cell? ⟨w.heap.size, 5, none⟩ = some (.bool d) := q.get (i := 5) rfl
  clear q
  go_wp2_with fail
  refine (HP2.out _).mono ?_
  rintro e a7 ⟨rfl, hb7⟩
  have F7 := Bx.mk (F6.out.below hb7)
  clear hb7 F6 HP2 s0 s1 s2 s3 s4 s5
  obtain ⟨lrd, lr1, lr2⟩ := rowT_sess.row
  have lr3 : (Tryz.prog.info? 25).map (·.size) = some 6 := rowT_sess.size
  go_wp2_with fail
  refine wp_region_noPanic ?_
  refine wp_region_held_drew (S := fun W' => FS w [(B, sessL n1 n2 n3 n4 0 false), (A, sessL n1 n2 n3 n4 0 false), (w.heap.size, sessL r code x p t d)] (B + 1) W') (by kernel_rfl) (F7.out.drewn 1) (fun hH => ?_)
  refine wpAnyH_take (i := 0) (oi := _) (v := .agg #[.int .i64 n1, .int .i64 n2, .int .i64 n3, .int .i64 n4, .int .i64 0, .bool false]) rfl (by kernel_rfl) (by kernel_rfl) (by kernel_rfl) (fun _ _ _ h => h) (yieldsIf_load_mid (by kernel_rfl) 25 (.tmp 9) rfl A 0 (by kernel_rfl) (sessL n1 n2 n3 n4 0 false) lrd (fun _ h => (FS.get (B := A) (cs := sessL n1 n2 n3 n4 0 false) h (by simp)).range0) lr1 lr2 lr3) hH ?_
  simp only [Act.put, List.setIfInBounds_toArray, List.set_cons_zero, List.set_cons_succ]
  refine wpAnyH_take (i := 1) (oi := _) (v := .agg #[.int .i64 n1, .int .i64 n2, .int .i64 n3, .int .i64 n4, .int .i64 0, .bool false]) rfl (by kernel_rfl) (by kernel_rfl) (by kernel_rfl) (fun _ _ _ h => h) (yieldsIf_load_mid (by kernel_rfl) 25 (.tmp 11) rfl B 0 (by kernel_rfl) (sessL n1 n2 n3 n4 0 false) lrd (fun _ h => (FS.get (B := B) (cs := sessL n1 n2 n3 n4 0 false) h (by simp)).range0) lr1 lr2 lr3) hH ?_
  simp only [Act.put, List.setIfInBounds_toArray, List.set_cons_zero, List.set_cons_succ]
  refine wpAnyH_take (i := 2) (oi := _) (v := .bool true) rfl (by kernel_rfl) (by kernel_rfl) (by kernel_rfl) (fun _ _ _ h => h) (Or.inl ⟨by kernel_rfl, by (intro wz hSz; go_simp)⟩) hH ?_
  simp only [Act.put, List.setIfInBounds_toArray, List.set_cons_zero, List.set_cons_succ]
  refine wpAnyH_take (i := 3) (oi := _) (v := .bool true) rfl (by kernel_rfl) (by kernel_rfl) (by kernel_rfl) (fun _ _ _ h => h) (Or.inl ⟨by kernel_rfl, by (intro wz hSz; go_simp)⟩) hH ?_
  simp only [Act.put, List.setIfInBounds_toArray, List.set_cons_zero, List.set_cons_succ]
  refine wpAnyH_take (i := 4) (oi := _) (v := .int .i64 ne) rfl (by kernel_rfl) (by kernel_rfl) (by kernel_rfl) (fun _ _ _ h => h) (Or.inl ⟨by kernel_rfl, by (intro wz hSz; go_simp)⟩) hH ?_
  simp only [Act.put, List.setIfInBounds_toArray, List.set_cons_zero, List.set_cons_succ]
  refine wpAnyH_take (i := 5) (oi := _) (v := .int .i64 ne) rfl (by kernel_rfl) (by kernel_rfl) (by kernel_rfl) (fun _ _ _ h => h) (Or.inl ⟨by kernel_rfl, by (intro wz hSz; go_simp)⟩) hH ?_
  simp only [Act.put, List.setIfInBounds_toArray, List.set_cons_zero, List.set_cons_succ]
  refine wpAnyH_take (i := 6) (oi := _) (v := .bool true) rfl (by kernel_rfl) (by kernel_rfl) (by kernel_rfl) (fun _ _ _ h => h) (Or.inl ⟨by kernel_rfl, by (intro wz hSz; go_simp)⟩) hH ?_
  simp only [Act.put, List.setIfInBounds_toArray, List.set_cons_zero, List.set_cons_succ]
  refine wpAnyH_take (i := 7) (oi := _) (v := .bool true) rfl (by kernel_rfl) (by kernel_rfl) (by kernel_rfl) (fun _ _ _ h => h) (Or.inl ⟨by kernel_rfl, by (intro wz hSz; go_simp)⟩) hH ?_
  simp only [Act.put, List.setIfInBounds_toArray, List.set_cons_zero, List.set_cons_succ]
  refine wpAnyH_take (i := 8) (oi := _) (v := .bool true) rfl (by kernel_rfl) (by kernel_rfl) (by kernel_rfl) (fun _ _ _ h => h) (Or.inl ⟨by kernel_rfl, by (intro wz hSz; go_simp)⟩) hH ?_
  simp only [Act.put, List.setIfInBounds_toArray, List.set_cons_zero, List.set_cons_succ]
  refine wpAnyH_take (i := 9) (oi := _) (v := .int .i64 p1) rfl (by kernel_rfl) (by kernel_rfl) (by kernel_rfl) (fun _ _ _ h => h) (Or.inl ⟨by kernel_rfl, by (intro wz hSz; go_simp)⟩) hH ?_
  simp only [Act.put, List.setIfInBounds_toArray, List.set_cons_zero, List.set_cons_succ]
  refine wpAnyH_take (i := 10) (oi := _) (v := .int .i64 p1) rfl (by kernel_rfl) (by kernel_rfl) (by kernel_rfl) (fun _ _ _ h => h) (Or.inl ⟨by kernel_rfl, by (intro wz hSz; go_simp)⟩) hH ?_
  simp only [Act.put, List.setIfInBounds_toArray, List.set_cons_zero, List.set_cons_succ]
  refine wpAnyH_take (i := 11) (oi := _) (v := .bool true) rfl (by kernel_rfl) (by kernel_rfl) (by kernel_rfl) (fun _ _ _ h => h) (Or.inl ⟨by kernel_rfl, by (intro wz hSz; go_simp)⟩) hH ?_
  simp only [Act.put, List.setIfInBounds_toArray, List.set_cons_zero, List.set_cons_succ]
  refine wpAnyH_take (i := 12) (oi := _) (v := .bool true) rfl (by kernel_rfl) (by kernel_rfl) (by kernel_rfl) (fun _ _ _ h => h) (Or.inl ⟨by kernel_rfl, by (intro wz hSz; go_simp)⟩) hH ?_
  simp only [Act.put, List.setIfInBounds_toArray, List.set_cons_zero, List.set_cons_succ]
  refine wpAnyH_take (i := 13) (oi := _) (v := .bool true) rfl (by kernel_rfl) (by kernel_rfl) (by kernel_rfl) (fun _ _ _ h => h) (Or.inl ⟨by kernel_rfl, by (intro wz hSz; go_simp)⟩) hH ?_
  simp only [Act.put, List.setIfInBounds_toArray, List.set_cons_zero, List.set_cons_succ]
  refine wpAnyH_take (i := 14) (oi := _) (v := .int .i64 pe) rfl (by kernel_rfl) (by kernel_rfl) (by kernel_rfl) (fun _ _ _ h => h) (Or.inl ⟨by kernel_rfl, by (intro wz hSz; go_simp)⟩) hH ?_
  simp only [Act.put, List.setIfInBounds_toArray, List.set_cons_zero, List.set_cons_succ]
  refine wpAnyH_take (i := 15) (oi := _) (v := .int .i64 pe) rfl (by kernel_rfl) (by kernel_rfl) (by kernel_rfl) (fun _ _ _ h => h) (Or.inl ⟨by kernel_rfl, by (intro wz hSz; go_simp)⟩) hH ?_
  simp only [Act.put, List.setIfInBounds_toArray, List.set_cons_zero, List.set_cons_succ]
  refine wpAnyH_take (i := 16) (oi := _) (v := .bool true) rfl (by kernel_rfl) (by kernel_rfl) (by kernel_rfl) (fun _ _ _ h => h) (Or.inl ⟨by kernel_rfl, by (intro wz hSz; go_simp)⟩) hH ?_
  simp only [Act.put, List.setIfInBounds_toArray, List.set_cons_zero, List.set_cons_succ]
  refine wpAnyH_take (i := 17) (oi := _) (v := .bool true) rfl (by kernel_rfl) (by kernel_rfl) (by kernel_rfl) (fun _ _ _ h => h) (Or.inl ⟨by kernel_rfl, by (intro wz hSz; go_simp)⟩) hH ?_
  simp only [Act.put, List.setIfInBounds_toArray, List.set_cons_zero, List.set_cons_succ]
  refine wpAnyH_take (i := 18) (oi := _) (v := .bool true) rfl (by kernel_rfl) (by kernel_rfl) (by kernel_rfl) (fun _ _ _ h => h) (Or.inl ⟨by kernel_rfl, by (intro wz hSz; go_simp)⟩) hH ?_
  simp only [Act.put, List.setIfInBounds_toArray, List.set_cons_zero, List.set_cons_succ]
  refine wpAnyH_take (i := 19) (oi := _) (v := .agg #[.int .i64 r, .int .i64 code, .int .i64 x, .int .i64 p, .int .i64 t, .bool d]) rfl (by kernel_rfl) (by kernel_rfl) (by kernel_rfl) (fun _ _ _ h => h) (yieldsIf_load_mid (by kernel_rfl) 25 (.tmp 7) rfl w.heap.size 0 (by kernel_rfl) (sessL r code x p t d) lrd (fun _ h => (FS.get (B := w.heap.size) (cs := sessL r code x p t d) h (by simp)).range0) lr1 lr2 lr3) hH ?_
  simp only [Act.put, List.setIfInBounds_toArray, List.set_cons_zero, List.set_cons_succ]
  refine wpAnyH_take (i := 21) (oi := _) (v := .agg #[.int .i64 r, .int .i64 code, .int .i64 x, .int .i64 p, .int .i64 t, .bool d]) rfl (by kernel_rfl) (by kernel_rfl) (by kernel_rfl) (fun _ _ _ h => h) (yieldsIf_load_mid (by kernel_rfl) 25 (.tmp 7) rfl w.heap.size 0 (by kernel_rfl) (sessL r code x p t d) lrd (fun _ h => (FS.get (B := w.heap.size) (cs := sessL r code x p t d) h (by simp)).range0) lr1 lr2 lr3) hH ?_
  simp only [Act.put, List.setIfInBounds_toArray, List.set_cons_zero, List.set_cons_succ]
  refine wpAnyH_ready (rs := [20]) (by kernel_rfl) (by simp) ?_
  refine AllReadyH.cons (o := _) rfl (fun K1 hK1 => ?_) AllReadyH.nil
  go_simp
  refine (HK.out _).mono ?_
  rintro e b1 ⟨rfl, hb⟩
  have hS1 := FS.below hH hb
  clear hb
  (try dsimp only)
  refine hK1.out _ _ hS1 (fun _ => ?_)
  refine wpAnyH_ready (rs := [22]) (by kernel_rfl) (by simp) ?_
  refine AllReadyH.cons (o := _) rfl (fun K2 hK2 => ?_) AllReadyH.nil
  go_simp
  refine (HK2.out _).mono ?_
  rintro e b2 ⟨rfl, hb⟩
  have hS2 := FS.below hS1 hb
  clear hb
  (try dsimp only)
  refine hK2.out _ _ hS2 (fun _ => ?_)
  refine wpAnyH_take (i := 23) (oi := _) (v := .bool true) rfl (by kernel_rfl) (by kernel_rfl) (by kernel_rfl) (fun _ _ _ h => h) (Or.inl ⟨by kernel_rfl, by (intro wz hSz; go_simp)⟩) hS2 ?_
  simp only [Act.put, List.setIfInBounds_toArray, List.set_cons_zero, List.set_cons_succ]
  refine wpAnyH_take (i := 24) (oi := _) (v := .bool true) rfl (by kernel_rfl) (by kernel_rfl) (by kernel_rfl) (fun _ _ _ h => h) (Or.inl ⟨by kernel_rfl, by (intro wz hSz; go_simp)⟩) hS2 ?_
  simp only [Act.put, List.setIfInBounds_toArray, List.set_cons_zero, List.set_cons_succ]
  refine wpAnyH_ready (rs := [25]) (by kernel_rfl) (by simp) ?_
  refine AllReadyH.cons (o := _) rfl (fun K3 hK3 => ?_) AllReadyH.nil
  go_simp
  refine hK3.out _ _ hS2 (fun _ => ?_)
  refine wpAnyH_done (by kernel_rfl) ?_ _
  refine NoPanic.normal ?_
  have BZ := Bx.mk hS2.1
  go_wp2_with fail
  go_ret
  exact ⟨rfl, BZ.out⟩
end
end Go.Proofs.YtjbojoeafdkkeaaGreatDoor
