/- The specification's enrolment (chapter 38): what a request's proof must be. -/
import Derived.Test.YtjbojoeafdkkeaaGreatDoorJv1
import Derived.Test.YtjbojoeafdkkeaaGreatDoorJ25
set_option linter.unusedVariables false
set_option linter.unusedSimpArgs false
namespace Go.Proofs.YtjbojoeafdkkeaaGreatDoor
open Go Go.RowKit Go.Lib

theorem FS.drewk {w W : World} {L : List (Nat × List Value)} {M : Nat} (h : FS w L M W) (n : Nat) : FS w L M (W.drewN n) := ⟨below_drewN h.1 n, h.2.1, h.2.2.1, h.2.2.2⟩
section
attribute [local irreducible] World.setCell World.setCells World.alloc
set_option maxHeartbeats 16000000 in
set_option maxRecDepth 100000 in
theorem rwant_c (r code x p t : Int) (d : Bool) (pt dv_ vf lf : Int) (pk : List Int) (hpk : pk.length = 32) (w : World) (hb : sideOK r code x = true) (hp : elt pt = true) (hr3 : ∀ z ∈ [dv_, vf, lf], -9223372036854775808 ≤ z ∧ z ≤ 9223372036854775807) :
    Calls Tryz.prog 44 #[sessV r code x p t d, reqV pt dv_ vf lf pk] w fun e w' => e = .returned (dv (rqN (prfN (keyN r code x pt) 2) dv_ vf lf)) ∧ Below w.heap.size w w' := by
  have HSh := Bx.mk (fun w => rshared_ok r code x pt w hb hp)
  have HKL := Bx.mk (keyN_len r code x pt)
  obtain ⟨kn, hkn⟩ : ∃ q, q = keyN r code x pt := ⟨_, rfl⟩
  rw [← hkn] at HSh HKL ⊢
  obtain ⟨pn, hpn⟩ : ∃ q, q = prfN kn 2 := ⟨_, rfl⟩
  have HPn := Bx.mk hpn.symm
  have hpl : pn.length = 32 := by rw [hpn]; exact prfN_len kn 2
  have HPf := Bx.mk (fun W => rproof_c pn hpl dv_ vf lf W hr3)
  rw [← hpn]
  have HRL := Bx.mk (show (rqN pn dv_ vf lf).length = 32 by unfold rqN; exact tagged_len _ _)
  obtain ⟨rq, hrq⟩ : ∃ q, q = rqN pn dv_ vf lf := ⟨_, rfl⟩
  rw [← hrq] at HPf HRL
  have HRE := Bx.mk hrq
  have HK := Bx.mk hpk
  have e2 : ((w.alloc (.cells (sessL r code x p t d).toArray 25)).alloc (.cells (reqL pt dv_ vf lf pk).toArray 37)).heap.size = w.heap.size + 2 := by rw [World.size_alloc, World.size_alloc]
  have z0 := blk_new ((w.alloc (.cells (sessL r code x p t d).toArray 25)).alloc (.cells (reqL pt dv_ vf lf pk).toArray 37)) .u8 z32 35
  rw [e2] at z0
  have F0 := Bx.mk ((fs_args w r code x p t d pt dv_ vf lf pk).alloc (.cells (z32.map (.int .u8)).toArray 35))
  have Z0 := Bx.mk z0
  clear hkn hpn hpl hrq hb hp hr3 hpk e2 z0
  unfold sessV reqV
  go_enter Tryz.func44, Tryz.ntmps44
  go_wp2_with (first | (refine wpList_bxk rfl (.tmp 1) rfl (reqL pt dv_ vf lf pk) rfl ?_) | (refine wpList_pause 8 rfl ?_))
  intro W0 hW0
  have F1 : Bx (FS w [(w.heap.size + 1, reqL pt dv_ vf lf pk), (w.heap.size, sessL r code x p t d)] (w.heap.size + 2) W0) := .mk (by rw [hW0]; exact F0.out)
  have Z1 : Bx (Blk W0 (w.heap.size + 2) .u8 z32) := .mk (by rw [hW0]; exact Z0.out)
  clear hW0 F0 Z0
  have q := F1.out.get (B := w.heap.size + 1) (cs := reqL pt dv_ vf lf pk) (by simp)
  have e0 : W0.cell? ⟨w.heap.size + 1, 0, none⟩ = some (.int .i64 pt) := q.get (i := 0) rfl
  have q2 := F1.out.get (B := w.heap.size) (cs := sessL r code x p t d) (by simp)
  have s0 : W0.cell? ⟨w.heap.size, 0, none⟩ = some (.int .i64 r) := q2.get (i := 0) rfl
  have s1 : W0.cell? ⟨w.heap.size, 1, none⟩ = some (.int .i64 code) := q2.get (i := 1) rfl
  have s2 : W0.cell? ⟨w.heap.size, 2, none⟩ = some (.int .i64 x) := q2.get (i := 2) rfl
  clear q q2
  go_wp2_with fail
  refine (HSh.out _).mono ?_
  rintro e w1 ⟨rfl, hb1⟩
  have F2 := Bx.mk (F1.out.below hb1)
  have Z2 := Bx.mk (Z1.out.below hb1 (Z1.out.lt (by decide)))
  clear hb1 F1 Z1 HSh e0 s0 s1 s2
  have zk := Bx.mk (blk_new w1 .u8 z32 54)
  have F3 := Bx.mk (F2.out.alloc (.cells (z32.map (.int .u8)).toArray 54))
  have Z3 := Bx.mk (Z2.out.alloc (Z2.out.lt (by decide)) (.cells (z32.map (.int .u8)).toArray 54))
  have hsz := Z2.out.lt (by decide)
  go_wp2_with (refine wpList_stB rowT_key rfl (.tmp 5) (.tmp 13) rfl w1.heap.size rfl .u8 kn rfl HKL.out z32 zk.out rfl ?_)
  intro w3 k3 g3
  obtain ⟨K, hK⟩ : ∃ K, K = w1.heap.size := ⟨_, rfl⟩
  rw [← hK] at k3 g3 hsz ⊢
  have F4 := Bx.mk (F3.out.keep g3 (by omega))
  have Z4 := Bx.mk (Z3.out.grown g3 (Z3.out.lt (by decide)) (fun q => by have := Option.some.inj q; omega))
  have K4 := Bx.mk k3
  clear k3 g3 hK zk F2 F3 Z2 Z3
  have hsk := slice_key K
  go_wp2_with fail
  have fA : FS w [(w.heap.size + 1, reqL pt dv_ vf lf pk), (w.heap.size, sessL r code x p t d)] (w.heap.size + 2) w3.drew := F4.out.drewk 1
  have zA : Blk w3.drew (w.heap.size + 2) .u8 z32 := Z4.out
  have kA : Blk w3.drew K .u8 kn := K4.out
  refine wp_region_noPanic ?_
  refine wp_region_held_drew (S := fun W' => FS w [(w.heap.size + 1, reqL pt dv_ vf lf pk), (w.heap.size, sessL r code x p t d)] (w.heap.size + 2) W') (by kernel_rfl) fA (fun hH => ?_)
  generalize w3.drew = wd at *
  refine wpAnyH_take (i := 1) (oi := _) (v := .slice (some ⟨K, 0, none⟩) 32 32) rfl (by kernel_rfl) (by kernel_rfl) (by kernel_rfl) (fun _ _ _ h => h) (Or.inl ⟨by kernel_rfl, by (intro wz hSz; go_simp)⟩) hH ?_
  simp only [Act.put, List.setIfInBounds_toArray, List.set_cons_zero, List.set_cons_succ]
  refine wpAnyH_take (i := 6) (oi := _) (v := .pointer (some ⟨w.heap.size + 1, 1, none⟩)) rfl (by kernel_rfl) (by kernel_rfl) (by kernel_rfl) (fun _ _ _ h => h) (Or.inl ⟨by kernel_rfl, by (intro wz hSz; go_simp)⟩) hH ?_
  simp only [Act.put, List.setIfInBounds_toArray, List.set_cons_zero, List.set_cons_succ]
  refine wpAnyH_take (i := 7) (oi := _) (v := .int .i64 dv_) rfl (by kernel_rfl) (by kernel_rfl) (by kernel_rfl) (fun _ _ _ h => h) (Or.inl ⟨by kernel_rfl, by (intro wz hSz; have zc : wz.cell? ⟨w.heap.size + 1, 1, none⟩ = some (.int .i64 dv_) := (FS.get (B := w.heap.size + 1) (cs := reqL pt dv_ vf lf pk) hSz (by simp)).get (i := 1) rfl; go_simp)⟩) hH ?_
  simp only [Act.put, List.setIfInBounds_toArray, List.set_cons_zero, List.set_cons_succ]
  refine wpAnyH_take (i := 8) (oi := _) (v := .pointer (some ⟨w.heap.size + 1, 2, none⟩)) rfl (by kernel_rfl) (by kernel_rfl) (by kernel_rfl) (fun _ _ _ h => h) (Or.inl ⟨by kernel_rfl, by (intro wz hSz; go_simp)⟩) hH ?_
  simp only [Act.put, List.setIfInBounds_toArray, List.set_cons_zero, List.set_cons_succ]
  refine wpAnyH_take (i := 9) (oi := _) (v := .int .i64 vf) rfl (by kernel_rfl) (by kernel_rfl) (by kernel_rfl) (fun _ _ _ h => h) (Or.inl ⟨by kernel_rfl, by (intro wz hSz; have zc : wz.cell? ⟨w.heap.size + 1, 2, none⟩ = some (.int .i64 vf) := (FS.get (B := w.heap.size + 1) (cs := reqL pt dv_ vf lf pk) hSz (by simp)).get (i := 2) rfl; go_simp)⟩) hH ?_
  simp only [Act.put, List.setIfInBounds_toArray, List.set_cons_zero, List.set_cons_succ]
  refine wpAnyH_take (i := 10) (oi := _) (v := .pointer (some ⟨w.heap.size + 1, 3, none⟩)) rfl (by kernel_rfl) (by kernel_rfl) (by kernel_rfl) (fun _ _ _ h => h) (Or.inl ⟨by kernel_rfl, by (intro wz hSz; go_simp)⟩) hH ?_
  simp only [Act.put, List.setIfInBounds_toArray, List.set_cons_zero, List.set_cons_succ]
  refine wpAnyH_take (i := 11) (oi := _) (v := .int .i64 lf) rfl (by kernel_rfl) (by kernel_rfl) (by kernel_rfl) (fun _ _ _ h => h) (Or.inl ⟨by kernel_rfl, by (intro wz hSz; have zc : wz.cell? ⟨w.heap.size + 1, 3, none⟩ = some (.int .i64 lf) := (FS.get (B := w.heap.size + 1) (cs := reqL pt dv_ vf lf pk) hSz (by simp)).get (i := 3) rfl; go_simp)⟩) hH ?_
  simp only [Act.put, List.setIfInBounds_toArray, List.set_cons_zero, List.set_cons_succ]
  refine wpAnyH_ready (rs := [0, 3]) (by kernel_rfl) (by simp) ?_
  refine AllReadyH.cons (o := _) rfl (fun K0 hK0 => ?_) (AllReadyH.cons (o := _) rfl (fun K1 hK1 => ?_) AllReadyH.nil)
  · skip
    go_simp
    have hA1 := FS.alloc fA (.cells #[] 5)
    have zA2 := zA.alloc (zA.lt (by decide)) (.cells #[] 5)
    have kA3 := kA.alloc (kA.lt (by rw [HKL.out]; decide)) (.cells #[] 5)
    refine hK0.out _ _ hA1 (fun _ => ?_)
    refine wpAnyH_ready (rs := [2, 3]) (by kernel_rfl) (by simp) ?_
    refine AllReadyH.cons (o := _) rfl (fun K2 hK2 => ?_) (AllReadyH.cons (o := _) rfl (fun K3 hK3 => ?_) AllReadyH.nil)
    · skip
      have hnk := news_of_u8 (show U8 (wd.alloc (.cells #[] 5)) K 0 kn from fun i hi => by rw [Nat.zero_add]; exact (kA3 i hi).1)
      refine step_appFull8 rfl (.tmp 15) (.tmp 16) rfl ⟨wd.heap.size, 0, none⟩ 0 [] rfl rfl (fun j hj => absurd hj (Nat.not_lt_zero j)) ⟨K, 0, none⟩ 32 32 kn rfl HKL.out (by omega) hnk (by simp) ?_
      intro u6 x7 hy8 hg ho
      have hy8 : Bytes x7 u6 kn := by simpa using hy8
      have hO9 : ∀ q, u6.ownBlock = some q → w.heap.size + 3 ≤ q := fun q hq => by
        rw [ho] at hq; cases hq
        have hz1 := zA2.lt (by decide)
        omega
      have hbl : Below (wd.alloc (.cells #[] 5)).heap.size (wd.alloc (.cells #[] 5)) x7 := ⟨hg.os, hg.tape, hg.output, hg.size, fun q hq => hg.block q hq (by simp)⟩
      have hB4 := FS.below hA1 hbl
      have zB5 := zA2.below hbl (zA2.lt (by decide))
      simp only [Act.put, List.setIfInBounds_toArray, List.set_cons_zero, List.set_cons_succ]
      refine hK2.out _ _ hB4 (fun _ => ?_)
      refine wpAnyH_ready (rs := [3]) (by kernel_rfl) (by simp) ?_
      refine AllReadyH.cons (o := _) rfl (fun K3b hK3b => ?_) AllReadyH.nil
      go_simp
      have hA10 := FS.alloc hB4 (.cells #[.int .u8 2] 5)
      have zA11 := zB5.alloc (zB5.lt (by decide)) (.cells #[.int .u8 2] 5)
      refine hK3b.out _ _ hA10 (fun _ => ?_)
      have hz13 := hy8.alloc (.cells #[.int .u8 2] 5)
      have hn := one_new x7 5 2
      refine wpAnyH_ready (rs := [4]) (by kernel_rfl) (by simp) ?_
      refine AllReadyH.cons (o := _) rfl (fun K4 hK4 => ?_) AllReadyH.nil
      refine step_app8 rfl (.tmp 17) (.tmp 18) rfl u6 kn rfl hz13 ⟨x7.heap.size, 0, none⟩ 1 1 [2] rfl rfl (by omega) hn (by rw [HKL.out]; decide) ?_
      intro v4 x4 hb4 hs4
      obtain ⟨O4, hO4⟩ : ∃ B, u6.ownBlock = some B := by
        rcases hz13.2 with ⟨_, h⟩ | ⟨g, c, cur, hv1, _⟩
        · rw [HKL.out] at h; omega
        · exact ⟨g, by rw [hv1]; rfl⟩
      have hg4 := hs4.grown
      rw [hO4] at hg4
      have hO5 := hO9 _ hO4
      have f4 := FS.keep hA10 hg4 (by omega)
      have z4 := zA11.grown hg4 (zA11.lt (by decide)) (fun q => by have := Option.some.inj q; omega)
      obtain ⟨g5, c5, e5, ht⟩ := rtagged_own tProof hb4 (by rw [List.length_append, HKL.out]; decide) (by rw [List.length_append, HKL.out]; decide) (by decide) (by decide)
      subst e5
      rw [show tagged tProof (kn ++ [2]) = prfN kn 2 from rfl, HPn.out] at ht
      have h33 : (kn ++ [(2 : Int)]).length = 33 := by rw [List.length_append, HKL.out]; rfl
      rw [h33] at ht
      (try rw [h33])
      simp only [Act.put, List.setIfInBounds_toArray, List.set_cons_zero, List.set_cons_succ]
      refine hK4.out _ _ f4 (fun _ => ?_)
      refine wpAnyH_ready (rs := [5]) (by kernel_rfl) (by simp) ?_
      refine AllReadyH.cons (o := _) rfl (fun K5 hK5 => ?_) AllReadyH.nil
      go_simp
      refine ht.mono ?_
      rintro e x5 ⟨rfl, hb5⟩
      have f5 := FS.below f4 hb5
      have z5 := z4.below hb5 (z4.lt (by decide))
      (try dsimp only)
      refine hK5.out _ _ f5 (fun _ => ?_)
      refine wpAnyH_ready (rs := [12]) (by kernel_rfl) (by simp) ?_
      refine AllReadyH.cons (o := _) rfl (fun K6 hK6 => ?_) AllReadyH.nil
      go_simp
      refine (HPf.out _).mono ?_
      rintro e x6 ⟨rfl, hb6⟩
      have f6 := FS.below f5 hb6
      have z6 := z5.below hb6 (z5.lt (by decide))
      (try dsimp only)
      refine hK6.out _ _ f6 (fun _ => ?_)
      refine wpAnyH_ready (rs := [13]) (by kernel_rfl) (by simp) ?_
      refine AllReadyH.cons (o := _) rfl (fun K7 hK7 => ?_) AllReadyH.nil
      rw [if_pos (by kernel_rfl)]
      refine wp_store_mid 35 (.tmp 4) (.tmp 27) rfl (w.heap.size + 2) 0 (rq.map (.int .u8)).toArray (by kernel_rfl) (by kernel_rfl) (by rw [show ((rq.map (Value.int .u8)).toArray).size = 32 by simp [HRL.out]]; exact there_of_blk z6) (by rw [show ((rq.map (Value.int .u8)).toArray).size = 32 by simp [HRL.out]]; exact rowT_dig.size) (all_oneCell_toArray (one_ints .u8 _)) ?_
      obtain ⟨z7, g7⟩ := blk_store (m := rq) z6 (by rw [HRL.out]; rfl)
      have f7 := FS.keep f6 g7 (Nat.le_refl _)
      refine hK7.out _ _ f7 (fun _ => ?_)
      refine wpAnyH_done (by kernel_rfl) ?_ _
      refine NoPanic.normal ?_
      have ZE := Bx.mk z7
      have BE := Bx.mk f7.1
      clear f4 f5 f6 f7 z4 z5 z6 z7 g7 ht hb4 hs4 hg4 hb5 hb6
      (try simp only [List.toList_toArray])
      go_wp2_with fail
      (try simp only [Exit.inBlock, Exit.then])
      refine bodyPost_ret (results_dig rfl _ _ (w.heap.size + 2) rq rfl ZE.out HRL.out) rfl ?_
      exact ⟨by rw [HRE.out], BE.out⟩
    · skip
      go_simp
      have hA14 := FS.alloc hA1 (.cells #[.int .u8 2] 5)
      have zA15 := zA2.alloc (zA2.lt (by decide)) (.cells #[.int .u8 2] 5)
      have kA16 := kA3.alloc (kA3.lt (by rw [HKL.out]; decide)) (.cells #[.int .u8 2] 5)
      refine hK3.out _ _ hA14 (fun _ => ?_)
      have hn0 := one_new (wd.alloc (.cells #[] 5)) 5 2
      rw [World.size_alloc] at hn0
      refine wpAnyH_ready (rs := [2]) (by kernel_rfl) (by simp) ?_
      refine AllReadyH.cons (o := _) rfl (fun K2b hK2b => ?_) AllReadyH.nil
      have hnk := news_of_u8 (show U8 ((wd.alloc (.cells #[] 5)).alloc (.cells #[.int .u8 2] 5)) K 0 kn from fun i hi => by rw [Nat.zero_add]; exact (kA16 i hi).1)
      refine step_appFull8 rfl (.tmp 15) (.tmp 16) rfl ⟨wd.heap.size, 0, none⟩ 0 [] rfl rfl (fun j hj => absurd hj (Nat.not_lt_zero j)) ⟨K, 0, none⟩ 32 32 kn rfl HKL.out (by omega) hnk (by simp) ?_
      intro u19 x20 hy21 hg ho
      have hy21 : Bytes x20 u19 kn := by simpa using hy21
      have hO22 : ∀ q, u19.ownBlock = some q → w.heap.size + 3 ≤ q := fun q hq => by
        rw [ho] at hq; cases hq
        have hz1 := zA15.lt (by decide)
        omega
      have hbl : Below ((wd.alloc (.cells #[] 5)).alloc (.cells #[.int .u8 2] 5)).heap.size ((wd.alloc (.cells #[] 5)).alloc (.cells #[.int .u8 2] 5)) x20 := ⟨hg.os, hg.tape, hg.output, hg.size, fun q hq => hg.block q hq (by simp)⟩
      have hB17 := FS.below hA14 hbl
      have zB18 := zA15.below hbl (zA15.lt (by decide))
      have hn : ∀ j, (hj : j < ([2] : List Int).length) → x20.cell? ((⟨wd.heap.size + 1, 0, none⟩ : Addr).add j) = some (.int .u8 ([2] : List Int)[j]) := fun j hj => hg.cell (hn0 j hj) (by simp)
      simp only [Act.put, List.setIfInBounds_toArray, List.set_cons_zero, List.set_cons_succ]
      refine hK2b.out _ _ hB17 (fun _ => ?_)
      refine wpAnyH_ready (rs := [4]) (by kernel_rfl) (by simp) ?_
      refine AllReadyH.cons (o := _) rfl (fun K4 hK4 => ?_) AllReadyH.nil
      refine step_app8 rfl (.tmp 17) (.tmp 18) rfl u19 kn rfl hy21 ⟨wd.heap.size + 1, 0, none⟩ 1 1 [2] rfl rfl (by omega) hn (by rw [HKL.out]; decide) ?_
      intro v4 x4 hb4 hs4
      obtain ⟨O4, hO4⟩ : ∃ B, u19.ownBlock = some B := by
        rcases hy21.2 with ⟨_, h⟩ | ⟨g, c, cur, hv1, _⟩
        · rw [HKL.out] at h; omega
        · exact ⟨g, by rw [hv1]; rfl⟩
      have hg4 := hs4.grown
      rw [hO4] at hg4
      have hO5 := hO22 _ hO4
      have f4 := FS.keep hB17 hg4 (by omega)
      have z4 := zB18.grown hg4 (zB18.lt (by decide)) (fun q => by have := Option.some.inj q; omega)
      obtain ⟨g5, c5, e5, ht⟩ := rtagged_own tProof hb4 (by rw [List.length_append, HKL.out]; decide) (by rw [List.length_append, HKL.out]; decide) (by decide) (by decide)
      subst e5
      rw [show tagged tProof (kn ++ [2]) = prfN kn 2 from rfl, HPn.out] at ht
      have h33 : (kn ++ [(2 : Int)]).length = 33 := by rw [List.length_append, HKL.out]; rfl
      rw [h33] at ht
      (try rw [h33])
      simp only [Act.put, List.setIfInBounds_toArray, List.set_cons_zero, List.set_cons_succ]
      refine hK4.out _ _ f4 (fun _ => ?_)
      refine wpAnyH_ready (rs := [5]) (by kernel_rfl) (by simp) ?_
      refine AllReadyH.cons (o := _) rfl (fun K5 hK5 => ?_) AllReadyH.nil
      go_simp
      refine ht.mono ?_
      rintro e x5 ⟨rfl, hb5⟩
      have f5 := FS.below f4 hb5
      have z5 := z4.below hb5 (z4.lt (by decide))
      (try dsimp only)
      refine hK5.out _ _ f5 (fun _ => ?_)
      refine wpAnyH_ready (rs := [12]) (by kernel_rfl) (by simp) ?_
      refine AllReadyH.cons (o := _) rfl (fun K6 hK6 => ?_) AllReadyH.nil
      go_simp
      refine (HPf.out _).mono ?_
      rintro e x6 ⟨rfl, hb6⟩
      have f6 := FS.below f5 hb6
      have z6 := z5.below hb6 (z5.lt (by decide))
      (try dsimp only)
      refine hK6.out _ _ f6 (fun _ => ?_)
      refine wpAnyH_ready (rs := [13]) (by kernel_rfl) (by simp) ?_
      refine AllReadyH.cons (o := _) rfl (fun K7 hK7 => ?_) AllReadyH.nil
      rw [if_pos (by kernel_rfl)]
      refine wp_store_mid 35 (.tmp 4) (.tmp 27) rfl (w.heap.size + 2) 0 (rq.map (.int .u8)).toArray (by kernel_rfl) (by kernel_rfl) (by rw [show ((rq.map (Value.int .u8)).toArray).size = 32 by simp [HRL.out]]; exact there_of_blk z6) (by rw [show ((rq.map (Value.int .u8)).toArray).size = 32 by simp [HRL.out]]; exact rowT_dig.size) (all_oneCell_toArray (one_ints .u8 _)) ?_
      obtain ⟨z7, g7⟩ := blk_store (m := rq) z6 (by rw [HRL.out]; rfl)
      have f7 := FS.keep f6 g7 (Nat.le_refl _)
      refine hK7.out _ _ f7 (fun _ => ?_)
      refine wpAnyH_done (by kernel_rfl) ?_ _
      refine NoPanic.normal ?_
      have ZE := Bx.mk z7
      have BE := Bx.mk f7.1
      clear f4 f5 f6 f7 z4 z5 z6 z7 g7 ht hb4 hs4 hg4 hb5 hb6
      (try simp only [List.toList_toArray])
      go_wp2_with fail
      (try simp only [Exit.inBlock, Exit.then])
      refine bodyPost_ret (results_dig rfl _ _ (w.heap.size + 2) rq rfl ZE.out HRL.out) rfl ?_
      exact ⟨by rw [HRE.out], BE.out⟩
  · skip
    go_simp
    have hA23 := FS.alloc fA (.cells #[.int .u8 2] 5)
    have zA24 := zA.alloc (zA.lt (by decide)) (.cells #[.int .u8 2] 5)
    have kA25 := kA.alloc (kA.lt (by rw [HKL.out]; decide)) (.cells #[.int .u8 2] 5)
    refine hK1.out _ _ hA23 (fun _ => ?_)
    have hn0 := one_new wd 5 2
    refine wpAnyH_ready (rs := [0]) (by kernel_rfl) (by simp) ?_
    refine AllReadyH.cons (o := _) rfl (fun K0b hK0b => ?_) AllReadyH.nil
    go_simp
    have hA26 := FS.alloc hA23 (.cells #[] 5)
    have zA27 := zA24.alloc (zA24.lt (by decide)) (.cells #[] 5)
    have kA28 := kA25.alloc (kA25.lt (by rw [HKL.out]; decide)) (.cells #[] 5)
    refine hK0b.out _ _ hA26 (fun _ => ?_)
    refine wpAnyH_ready (rs := [2]) (by kernel_rfl) (by simp) ?_
    refine AllReadyH.cons (o := _) rfl (fun K2c hK2c => ?_) AllReadyH.nil
    have hnk := news_of_u8 (show U8 ((wd.alloc (.cells #[.int .u8 2] 5)).alloc (.cells #[] 5)) K 0 kn from fun i hi => by rw [Nat.zero_add]; exact (kA28 i hi).1)
    refine step_appFull8 rfl (.tmp 15) (.tmp 16) rfl ⟨wd.heap.size + 1, 0, none⟩ 0 [] rfl rfl (fun j hj => absurd hj (Nat.not_lt_zero j)) ⟨K, 0, none⟩ 32 32 kn rfl HKL.out (by omega) hnk (by simp) ?_
    intro u31 x32 hy33 hg ho
    have hy33 : Bytes x32 u31 kn := by simpa using hy33
    have hO34 : ∀ q, u31.ownBlock = some q → w.heap.size + 3 ≤ q := fun q hq => by
      rw [ho] at hq; cases hq
      have hz1 := zA27.lt (by decide)
      omega
    have hbl : Below ((wd.alloc (.cells #[.int .u8 2] 5)).alloc (.cells #[] 5)).heap.size ((wd.alloc (.cells #[.int .u8 2] 5)).alloc (.cells #[] 5)) x32 := ⟨hg.os, hg.tape, hg.output, hg.size, fun q hq => hg.block q hq (by simp)⟩
    have hB29 := FS.below hA26 hbl
    have zB30 := zA27.below hbl (zA27.lt (by decide))
    have hn : ∀ j, (hj : j < ([2] : List Int).length) → x32.cell? ((⟨wd.heap.size, 0, none⟩ : Addr).add j) = some (.int .u8 ([2] : List Int)[j]) := fun j hj => hg.cell ((World.cell?_alloc_some _ _ _ (by rw [hn0 j hj]; rfl)).trans (hn0 j hj)) (by simp)
    simp only [Act.put, List.setIfInBounds_toArray, List.set_cons_zero, List.set_cons_succ]
    refine hK2c.out _ _ hB29 (fun _ => ?_)
    refine wpAnyH_ready (rs := [4]) (by kernel_rfl) (by simp) ?_
    refine AllReadyH.cons (o := _) rfl (fun K4 hK4 => ?_) AllReadyH.nil
    refine step_app8 rfl (.tmp 17) (.tmp 18) rfl u31 kn rfl hy33 ⟨wd.heap.size, 0, none⟩ 1 1 [2] rfl rfl (by omega) hn (by rw [HKL.out]; decide) ?_
    intro v4 x4 hb4 hs4
    obtain ⟨O4, hO4⟩ : ∃ B, u31.ownBlock = some B := by
      rcases hy33.2 with ⟨_, h⟩ | ⟨g, c, cur, hv1, _⟩
      · rw [HKL.out] at h; omega
      · exact ⟨g, by rw [hv1]; rfl⟩
    have hg4 := hs4.grown
    rw [hO4] at hg4
    have hO5 := hO34 _ hO4
    have f4 := FS.keep hB29 hg4 (by omega)
    have z4 := zB30.grown hg4 (zB30.lt (by decide)) (fun q => by have := Option.some.inj q; omega)
    obtain ⟨g5, c5, e5, ht⟩ := rtagged_own tProof hb4 (by rw [List.length_append, HKL.out]; decide) (by rw [List.length_append, HKL.out]; decide) (by decide) (by decide)
    subst e5
    rw [show tagged tProof (kn ++ [2]) = prfN kn 2 from rfl, HPn.out] at ht
    have h33 : (kn ++ [(2 : Int)]).length = 33 := by rw [List.length_append, HKL.out]; rfl
    rw [h33] at ht
    (try rw [h33])
    simp only [Act.put, List.setIfInBounds_toArray, List.set_cons_zero, List.set_cons_succ]
    refine hK4.out _ _ f4 (fun _ => ?_)
    refine wpAnyH_ready (rs := [5]) (by kernel_rfl) (by simp) ?_
    refine AllReadyH.cons (o := _) rfl (fun K5 hK5 => ?_) AllReadyH.nil
    go_simp
    refine ht.mono ?_
    rintro e x5 ⟨rfl, hb5⟩
    have f5 := FS.below f4 hb5
    have z5 := z4.below hb5 (z4.lt (by decide))
    (try dsimp only)
    refine hK5.out _ _ f5 (fun _ => ?_)
    refine wpAnyH_ready (rs := [12]) (by kernel_rfl) (by simp) ?_
    refine AllReadyH.cons (o := _) rfl (fun K6 hK6 => ?_) AllReadyH.nil
    go_simp
    refine (HPf.out _).mono ?_
    rintro e x6 ⟨rfl, hb6⟩
    have f6 := FS.below f5 hb6
    have z6 := z5.below hb6 (z5.lt (by decide))
    (try dsimp only)
    refine hK6.out _ _ f6 (fun _ => ?_)
    refine wpAnyH_ready (rs := [13]) (by kernel_rfl) (by simp) ?_
    refine AllReadyH.cons (o := _) rfl (fun K7 hK7 => ?_) AllReadyH.nil
    rw [if_pos (by kernel_rfl)]
    refine wp_store_mid 35 (.tmp 4) (.tmp 27) rfl (w.heap.size + 2) 0 (rq.map (.int .u8)).toArray (by kernel_rfl) (by kernel_rfl) (by rw [show ((rq.map (Value.int .u8)).toArray).size = 32 by simp [HRL.out]]; exact there_of_blk z6) (by rw [show ((rq.map (Value.int .u8)).toArray).size = 32 by simp [HRL.out]]; exact rowT_dig.size) (all_oneCell_toArray (one_ints .u8 _)) ?_
    obtain ⟨z7, g7⟩ := blk_store (m := rq) z6 (by rw [HRL.out]; rfl)
    have f7 := FS.keep f6 g7 (Nat.le_refl _)
    refine hK7.out _ _ f7 (fun _ => ?_)
    refine wpAnyH_done (by kernel_rfl) ?_ _
    refine NoPanic.normal ?_
    have ZE := Bx.mk z7
    have BE := Bx.mk f7.1
    clear f4 f5 f6 f7 z4 z5 z6 z7 g7 ht hb4 hs4 hg4 hb5 hb6
    (try simp only [List.toList_toArray])
    go_wp2_with fail
    (try simp only [Exit.inBlock, Exit.then])
    refine bodyPost_ret (results_dig rfl _ _ (w.heap.size + 2) rq rfl ZE.out HRL.out) rfl ?_
    exact ⟨by rw [HRE.out], BE.out⟩
end
end Go.Proofs.YtjbojoeafdkkeaaGreatDoor
