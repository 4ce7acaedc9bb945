/- EnrollOthers: the law's walk. -/
import Derived.Test.YtjbojoeafdkkeaaGreatDoorJ17
set_option linter.unusedVariables false
set_option linter.unusedSimpArgs false
namespace Go.Proofs.YtjbojoeafdkkeaaGreatDoor
open Go Go.RowKit Go.Lib

def oR2 (pt dv_ vf lf : Int) (pk : List Int) : Obj := .cells (reqL pt dv_ vf lf pk).toArray 37
theorem fs_args (w : World) (r code x p t : Int) (d : Bool) (pt dv_ vf lf : Int) (pk : List Int) :
    FS w [(w.heap.size + 1, reqL pt dv_ vf lf pk), (w.heap.size, sessL r code x p t d)] (w.heap.size + 2) ((w.alloc (.cells (sessL r code x p t d).toArray 25)).alloc (.cells (reqL pt dv_ vf lf pk).toArray 37)) := by
  have e1 : (w.alloc (.cells (sessL r code x p t d).toArray 25)).heap.size = w.heap.size + 1 := World.size_alloc _ _
  have h2 := row_new (w.alloc (.cells (sessL r code x p t d).toArray 25)) (reqL pt dv_ vf lf pk) 37
  rw [e1] at h2
  refine ⟨((Below.refl _ _).alloc (Nat.le_refl _) _).alloc (by rw [e1]; omega) _, by rw [World.size_alloc, e1]; omega, by omega, fun b hb => ?_⟩
  simp only [List.mem_cons, List.not_mem_nil, or_false] at hb
  rcases hb with rfl | rfl
  · exact ⟨h2, by simp [reqL], by simp⟩
  · exact ⟨(row_new w (sessL r code x p t d) 25).alloc (by rw [e1]; omega) _, by simp [sessL], by simp⟩
theorem eq_sess0 (w : World) : (Op.equalIn 10000 25 (.agg #[.int .i64 0, .int .i64 0, .int .i64 0, .int .i64 0, .int .i64 0, .bool false]) (.agg #[.int .i64 0, .int .i64 0, .int .i64 0, .int .i64 0, .int .i64 0, .bool false])).run Tryz.prog w = .ok true w := by kernel_rfl
theorem eq_cert0 (w : World) : (Op.equalIn 10000 44 (.agg #[.int .i64 0, .int .i64 0, .int .i64 0, .int .i64 0, .int .i64 0, .int .i64 0, .int .i64 0, .int .i64 0]) (.agg #[.int .i64 0, .int .i64 0, .int .i64 0, .int .i64 0, .int .i64 0, .int .i64 0, .int .i64 0, .int .i64 0])).run Tryz.prog w = .ok true w := by kernel_rfl

attribute [local irreducible] World.setCell World.setCells World.alloc
set_option maxHeartbeats 32000000 in
set_option maxRecDepth 100000 in
theorem others_c (r code x p t : Int) (d : Bool) (pt dv_ vf lf : Int) (pk : List Int) (hpk : pk.length = 32) (ver bY priv : Int) (i1 : i64R pt) (i2 : i64R vf) (i3 : i64R lf) (w : World) (hL : Laid w) (hE : EType w) :
    Calls Tryz.prog 8 #[sessV r code x p t d, reqV pt dv_ vf lf pk, .int .i64 ver, .int .i64 bY, .int .i64 priv] w fun e w' => e = .returned (.bool true) ∧ Below w.heap.size w w' := by
  have HS := Bx.mk (fun w hL hE => sane38_c w hL hE)
  have HO := Bx.mk (fun w => owner_c dv_ w)
  have G0 := Bx.mk (fun w => gcheck_c pt w i1.1 i1.2)
  have G1 := Bx.mk (fun w => gcheck_c vf w i2.1 i2.2)
  have G2 := Bx.mk (fun w => gcheck_c lf w i3.1 i3.2)
  have HCk := Bx.mk (fun w => echeck_c r code x p t d w)
  have HF := Bx.mk (fits_iff p pt dv_ vf lf)
  have HA := Bx.mk (fun w hL hE h1 h2 h3 => answer_formed r code x p t d pt dv_ vf lf pk hpk ver bY priv w hL hE i1 i2 i3 h1 h2 h3)
  have HSO := Bx.mk (sessOK_iff r code x p t)
  have F0 := Bx.mk (fs_args w r code x p t d pt dv_ vf lf pk)
  have HL := Bx.mk hL; have HE := Bx.mk hE
  have HK := Bx.mk hpk
  clear hL hE hpk i1 i2 i3
  cases hd : isDev dv_ with
  | false =>
    rw [show ownV dv_ = .tuple #[.int .i64 0, .int .i64 371] by simp [ownV, hd]] at HO
    have HD := Bx.mk hd
    clear hd
    have HNF := Bx.mk (show fitsB p pt dv_ vf lf = false by
      cases h : fitsB p pt dv_ vf lf
      · rfl
      · exact absurd (HF.out.1 h) (by rintro ⟨h1, _⟩; rw [HD.out] at h1; cases h1))
    cases hs : sessOK r code x p t with
    | false =>
      rw [hs] at HCk
      simp only [Bool.false_eq_true, if_false] at HCk
      clear HA HSO hs HNF HF
      unfold sessV reqV
      unfold sessV at HCk
      (try unfold sessV reqV at HAx)
      go_enter Tryz.func8, Tryz.ntmps8
      go_wp2_with (refine wpList_bxk rfl (.tmp 1) rfl (reqL pt dv_ vf lf pk) rfl ?_)
      refine (HS.out _ (F0.out.laid HL.out) (F0.out.etype HE.out)).mono ?_
      rintro e a1 ⟨rfl, hb1⟩
      have F1 := Bx.mk (F0.out.below hb1)
      have q := F1.out.get (B := w.heap.size + 1) (cs := reqL pt dv_ vf lf pk) (by simp)
      have e1 : a1.cell? ⟨w.heap.size + 1, 1, none⟩ = some (.int .i64 dv_) := q.get (i := 1) rfl
      clear hb1 F0 q HS
      have q := F1.out.get (B := w.heap.size + 1) (cs := reqL pt dv_ vf lf pk) (by simp)
      have e0 : a1.cell? ⟨w.heap.size + 1, 0, none⟩ = some (.int .i64 pt) := q.get (i := 0) rfl
      have e2 : a1.cell? ⟨w.heap.size + 1, 2, none⟩ = some (.int .i64 vf) := q.get (i := 2) rfl
      have e8 : a1.cell? ⟨w.heap.size + 1, 3, none⟩ = some (.int .i64 lf) := q.get (i := 3) rfl
      have q2 := F1.out.get (B := w.heap.size) (cs := sessL r code x p t d) (by simp)
      have s0 : a1.cell? ⟨w.heap.size, 0, none⟩ = some (.int .i64 r) := q2.get (i := 0) rfl
      have s1 : a1.cell? ⟨w.heap.size, 1, none⟩ = some (.int .i64 code) := q2.get (i := 1) rfl
      have s2 : a1.cell? ⟨w.heap.size, 2, none⟩ = some (.int .i64 x) := q2.get (i := 2) rfl
      have e3 : a1.cell? ⟨w.heap.size, 3, none⟩ = some (.int .i64 p) := q2.get (i := 3) rfl
      have e4 : a1.cell? ⟨w.heap.size, 4, none⟩ = some (.int .i64 t) := q2.get (i := 4) rfl
      have e5 : a1.cell? ⟨w.heap.size, 5, none⟩ = some (.bool d) := q2.get (i := 5) rfl
      clear q q2
      go_wp2_with fail
      refine (HO.out _).mono ?_
      rintro e a2 ⟨rfl, rfl⟩
      go_wp2_with fail
      refine (HCk.out _).mono ?_
      rintro e a7 ⟨rfl, hb7⟩
      have F7 := Bx.mk (F1.out.below hb7)
      clear e0 e2 e8 s0 s1 s2 e3 e4 e5
      clear hb7 F1
      have q := F7.out.get (B := w.heap.size + 1) (cs := reqL pt dv_ vf lf pk) (by simp)
      have e0 : a7.cell? ⟨w.heap.size + 1, 0, none⟩ = some (.int .i64 pt) := q.get (i := 0) rfl
      have e2 : a7.cell? ⟨w.heap.size + 1, 2, none⟩ = some (.int .i64 vf) := q.get (i := 2) rfl
      have e8 : a7.cell? ⟨w.heap.size + 1, 3, none⟩ = some (.int .i64 lf) := q.get (i := 3) rfl
      have q2 := F7.out.get (B := w.heap.size) (cs := sessL r code x p t d) (by simp)
      have s0 : a7.cell? ⟨w.heap.size, 0, none⟩ = some (.int .i64 r) := q2.get (i := 0) rfl
      have s1 : a7.cell? ⟨w.heap.size, 1, none⟩ = some (.int .i64 code) := q2.get (i := 1) rfl
      have s2 : a7.cell? ⟨w.heap.size, 2, none⟩ = some (.int .i64 x) := q2.get (i := 2) rfl
      have e3 : a7.cell? ⟨w.heap.size, 3, none⟩ = some (.int .i64 p) := q2.get (i := 3) rfl
      have e4 : a7.cell? ⟨w.heap.size, 4, none⟩ = some (.int .i64 t) := q2.get (i := 4) rfl
      have e5 : a7.cell? ⟨w.heap.size, 5, none⟩ = some (.bool d) := q2.get (i := 5) rfl
      clear q q2
      have BZ := Bx.mk F7.out.1
      go_wp2_with fail
      go_ret
      exact ⟨rfl, BZ.out⟩
    | true =>
      rw [hs] at HCk
      simp only [if_true] at HCk
      have HS1 := Bx.mk hs
      clear hs
      cases d with
      | true =>
        clear HA HSO HNF HF HS1
        unfold sessV reqV
        unfold sessV at HCk
        (try unfold sessV reqV at HAx)
        go_enter Tryz.func8, Tryz.ntmps8
        go_wp2_with (refine wpList_bxk rfl (.tmp 1) rfl (reqL pt dv_ vf lf pk) rfl ?_)
        refine (HS.out _ (F0.out.laid HL.out) (F0.out.etype HE.out)).mono ?_
        rintro e a1 ⟨rfl, hb1⟩
        have F1 := Bx.mk (F0.out.below hb1)
        have q := F1.out.get (B := w.heap.size + 1) (cs := reqL pt dv_ vf lf pk) (by simp)
        have e1 : a1.cell? ⟨w.heap.size + 1, 1, none⟩ = some (.int .i64 dv_) := q.get (i := 1) rfl
        clear hb1 F0 q HS
        have q := F1.out.get (B := w.heap.size + 1) (cs := reqL pt dv_ vf lf pk) (by simp)
        have e0 : a1.cell? ⟨w.heap.size + 1, 0, none⟩ = some (.int .i64 pt) := q.get (i := 0) rfl
        have e2 : a1.cell? ⟨w.heap.size + 1, 2, none⟩ = some (.int .i64 vf) := q.get (i := 2) rfl
        have e8 : a1.cell? ⟨w.heap.size + 1, 3, none⟩ = some (.int .i64 lf) := q.get (i := 3) rfl
        have q2 := F1.out.get (B := w.heap.size) (cs := sessL r code x p t true) (by simp)
        have s0 : a1.cell? ⟨w.heap.size, 0, none⟩ = some (.int .i64 r) := q2.get (i := 0) rfl
        have s1 : a1.cell? ⟨w.heap.size, 1, none⟩ = some (.int .i64 code) := q2.get (i := 1) rfl
        have s2 : a1.cell? ⟨w.heap.size, 2, none⟩ = some (.int .i64 x) := q2.get (i := 2) rfl
        have e3 : a1.cell? ⟨w.heap.size, 3, none⟩ = some (.int .i64 p) := q2.get (i := 3) rfl
        have e4 : a1.cell? ⟨w.heap.size, 4, none⟩ = some (.int .i64 t) := q2.get (i := 4) rfl
        have e5 : a1.cell? ⟨w.heap.size, 5, none⟩ = some (.bool true) := q2.get (i := 5) rfl
        clear q q2
        go_wp2_with fail
        refine (HO.out _).mono ?_
        rintro e a2 ⟨rfl, rfl⟩
        go_wp2_with fail
        refine (HCk.out _).mono ?_
        rintro e a7 ⟨rfl, hb7⟩
        have F7 := Bx.mk (F1.out.below hb7)
        clear e0 e2 e8 s0 s1 s2 e3 e4 e5
        clear hb7 F1
        have q := F7.out.get (B := w.heap.size + 1) (cs := reqL pt dv_ vf lf pk) (by simp)
        have e0 : a7.cell? ⟨w.heap.size + 1, 0, none⟩ = some (.int .i64 pt) := q.get (i := 0) rfl
        have e2 : a7.cell? ⟨w.heap.size + 1, 2, none⟩ = some (.int .i64 vf) := q.get (i := 2) rfl
        have e8 : a7.cell? ⟨w.heap.size + 1, 3, none⟩ = some (.int .i64 lf) := q.get (i := 3) rfl
        have q2 := F7.out.get (B := w.heap.size) (cs := sessL r code x p t true) (by simp)
        have s0 : a7.cell? ⟨w.heap.size, 0, none⟩ = some (.int .i64 r) := q2.get (i := 0) rfl
        have s1 : a7.cell? ⟨w.heap.size, 1, none⟩ = some (.int .i64 code) := q2.get (i := 1) rfl
        have s2 : a7.cell? ⟨w.heap.size, 2, none⟩ = some (.int .i64 x) := q2.get (i := 2) rfl
        have e3 : a7.cell? ⟨w.heap.size, 3, none⟩ = some (.int .i64 p) := q2.get (i := 3) rfl
        have e4 : a7.cell? ⟨w.heap.size, 4, none⟩ = some (.int .i64 t) := q2.get (i := 4) rfl
        have e5 : a7.cell? ⟨w.heap.size, 5, none⟩ = some (.bool true) := q2.get (i := 5) rfl
        clear q q2
        have BZ := Bx.mk F7.out.1
        go_wp2_with fail
        go_ret
        exact ⟨rfl, BZ.out⟩
      | false =>
        by_cases ht : 5 ≤ t
        · clear HA HSO HNF HF HS1
          unfold sessV reqV
          unfold sessV at HCk
          (try unfold sessV reqV at HAx)
          go_enter Tryz.func8, Tryz.ntmps8
          go_wp2_with (refine wpList_bxk rfl (.tmp 1) rfl (reqL pt dv_ vf lf pk) rfl ?_)
          refine (HS.out _ (F0.out.laid HL.out) (F0.out.etype HE.out)).mono ?_
          rintro e a1 ⟨rfl, hb1⟩
          have F1 := Bx.mk (F0.out.below hb1)
          have q := F1.out.get (B := w.heap.size + 1) (cs := reqL pt dv_ vf lf pk) (by simp)
          have e1 : a1.cell? ⟨w.heap.size + 1, 1, none⟩ = some (.int .i64 dv_) := q.get (i := 1) rfl
          clear hb1 F0 q HS
          have q := F1.out.get (B := w.heap.size + 1) (cs := reqL pt dv_ vf lf pk) (by simp)
          have e0 : a1.cell? ⟨w.heap.size + 1, 0, none⟩ = some (.int .i64 pt) := q.get (i := 0) rfl
          have e2 : a1.cell? ⟨w.heap.size + 1, 2, none⟩ = some (.int .i64 vf) := q.get (i := 2) rfl
          have e8 : a1.cell? ⟨w.heap.size + 1, 3, none⟩ = some (.int .i64 lf) := q.get (i := 3) rfl
          have q2 := F1.out.get (B := w.heap.size) (cs := sessL r code x p t false) (by simp)
          have s0 : a1.cell? ⟨w.heap.size, 0, none⟩ = some (.int .i64 r) := q2.get (i := 0) rfl
          have s1 : a1.cell? ⟨w.heap.size, 1, none⟩ = some (.int .i64 code) := q2.get (i := 1) rfl
          have s2 : a1.cell? ⟨w.heap.size, 2, none⟩ = some (.int .i64 x) := q2.get (i := 2) rfl
          have e3 : a1.cell? ⟨w.heap.size, 3, none⟩ = some (.int .i64 p) := q2.get (i := 3) rfl
          have e4 : a1.cell? ⟨w.heap.size, 4, none⟩ = some (.int .i64 t) := q2.get (i := 4) rfl
          have e5 : a1.cell? ⟨w.heap.size, 5, none⟩ = some (.bool false) := q2.get (i := 5) rfl
          clear q q2
          go_wp2_with fail
          refine (HO.out _).mono ?_
          rintro e a2 ⟨rfl, rfl⟩
          go_wp2_with fail
          refine (HCk.out _).mono ?_
          rintro e a7 ⟨rfl, hb7⟩
          have F7 := Bx.mk (F1.out.below hb7)
          clear e0 e2 e8 s0 s1 s2 e3 e4 e5
          clear hb7 F1
          have q := F7.out.get (B := w.heap.size + 1) (cs := reqL pt dv_ vf lf pk) (by simp)
          have e0 : a7.cell? ⟨w.heap.size + 1, 0, none⟩ = some (.int .i64 pt) := q.get (i := 0) rfl
          have e2 : a7.cell? ⟨w.heap.size + 1, 2, none⟩ = some (.int .i64 vf) := q.get (i := 2) rfl
          have e8 : a7.cell? ⟨w.heap.size + 1, 3, none⟩ = some (.int .i64 lf) := q.get (i := 3) rfl
          have q2 := F7.out.get (B := w.heap.size) (cs := sessL r code x p t false) (by simp)
          have s0 : a7.cell? ⟨w.heap.size, 0, none⟩ = some (.int .i64 r) := q2.get (i := 0) rfl
          have s1 : a7.cell? ⟨w.heap.size, 1, none⟩ = some (.int .i64 code) := q2.get (i := 1) rfl
          have s2 : a7.cell? ⟨w.heap.size, 2, none⟩ = some (.int .i64 x) := q2.get (i := 2) rfl
          have e3 : a7.cell? ⟨w.heap.size, 3, none⟩ = some (.int .i64 p) := q2.get (i := 3) rfl
          have e4 : a7.cell? ⟨w.heap.size, 4, none⟩ = some (.int .i64 t) := q2.get (i := 4) rfl
          have e5 : a7.cell? ⟨w.heap.size, 5, none⟩ = some (.bool false) := q2.get (i := 5) rfl
          clear q q2
          have BZ := Bx.mk F7.out.1
          go_wp2_with fail
          go_ret
          exact ⟨rfl, BZ.out⟩
        · have HAx := Bx.mk (fun w hL hE => HA.out w hL hE HS1.out (by unfold openE; rw [if_neg (by omega)]; rfl) HNF.out)
          clear HA HSO HNF HF HS1
          unfold sessV reqV
          unfold sessV at HCk
          (try unfold sessV reqV at HAx)
          go_enter Tryz.func8, Tryz.ntmps8
          go_wp2_with (refine wpList_bxk rfl (.tmp 1) rfl (reqL pt dv_ vf lf pk) rfl ?_)
          refine (HS.out _ (F0.out.laid HL.out) (F0.out.etype HE.out)).mono ?_
          rintro e a1 ⟨rfl, hb1⟩
          have F1 := Bx.mk (F0.out.below hb1)
          have q := F1.out.get (B := w.heap.size + 1) (cs := reqL pt dv_ vf lf pk) (by simp)
          have e1 : a1.cell? ⟨w.heap.size + 1, 1, none⟩ = some (.int .i64 dv_) := q.get (i := 1) rfl
          clear hb1 F0 q HS
          have q := F1.out.get (B := w.heap.size + 1) (cs := reqL pt dv_ vf lf pk) (by simp)
          have e0 : a1.cell? ⟨w.heap.size + 1, 0, none⟩ = some (.int .i64 pt) := q.get (i := 0) rfl
          have e2 : a1.cell? ⟨w.heap.size + 1, 2, none⟩ = some (.int .i64 vf) := q.get (i := 2) rfl
          have e8 : a1.cell? ⟨w.heap.size + 1, 3, none⟩ = some (.int .i64 lf) := q.get (i := 3) rfl
          have q2 := F1.out.get (B := w.heap.size) (cs := sessL r code x p t false) (by simp)
          have s0 : a1.cell? ⟨w.heap.size, 0, none⟩ = some (.int .i64 r) := q2.get (i := 0) rfl
          have s1 : a1.cell? ⟨w.heap.size, 1, none⟩ = some (.int .i64 code) := q2.get (i := 1) rfl
          have s2 : a1.cell? ⟨w.heap.size, 2, none⟩ = some (.int .i64 x) := q2.get (i := 2) rfl
          have e3 : a1.cell? ⟨w.heap.size, 3, none⟩ = some (.int .i64 p) := q2.get (i := 3) rfl
          have e4 : a1.cell? ⟨w.heap.size, 4, none⟩ = some (.int .i64 t) := q2.get (i := 4) rfl
          have e5 : a1.cell? ⟨w.heap.size, 5, none⟩ = some (.bool false) := q2.get (i := 5) rfl
          clear q q2
          go_wp2_with fail
          refine (HO.out _).mono ?_
          rintro e a2 ⟨rfl, rfl⟩
          go_wp2_with fail
          refine (HCk.out _).mono ?_
          rintro e a7 ⟨rfl, hb7⟩
          have F7 := Bx.mk (F1.out.below hb7)
          clear e0 e2 e8 s0 s1 s2 e3 e4 e5
          clear hb7 F1
          have q := F7.out.get (B := w.heap.size + 1) (cs := reqL pt dv_ vf lf pk) (by simp)
          have e0 : a7.cell? ⟨w.heap.size + 1, 0, none⟩ = some (.int .i64 pt) := q.get (i := 0) rfl
          have e2 : a7.cell? ⟨w.heap.size + 1, 2, none⟩ = some (.int .i64 vf) := q.get (i := 2) rfl
          have e8 : a7.cell? ⟨w.heap.size + 1, 3, none⟩ = some (.int .i64 lf) := q.get (i := 3) rfl
          have q2 := F7.out.get (B := w.heap.size) (cs := sessL r code x p t false) (by simp)
          have s0 : a7.cell? ⟨w.heap.size, 0, none⟩ = some (.int .i64 r) := q2.get (i := 0) rfl
          have s1 : a7.cell? ⟨w.heap.size, 1, none⟩ = some (.int .i64 code) := q2.get (i := 1) rfl
          have s2 : a7.cell? ⟨w.heap.size, 2, none⟩ = some (.int .i64 x) := q2.get (i := 2) rfl
          have e3 : a7.cell? ⟨w.heap.size, 3, none⟩ = some (.int .i64 p) := q2.get (i := 3) rfl
          have e4 : a7.cell? ⟨w.heap.size, 4, none⟩ = some (.int .i64 t) := q2.get (i := 4) rfl
          have e5 : a7.cell? ⟨w.heap.size, 5, none⟩ = some (.bool false) := q2.get (i := 5) rfl
          clear q q2
          have HQ := Bx.mk (reqL_len pt dv_ vf lf pk HK.out)
          go_wp2_with (refine wpList_ldN rowT_req rfl (.tmp 6) rfl (w.heap.size + 1) 0 rfl (reqL pt dv_ vf lf pk) (F7.out.get (by simp)).range0 HQ.out (.agg (reqL pt dv_ vf lf pk).toArray) rfl ?_)
          refine (HAx.out _ (F7.out.laid HL.out) (F7.out.etype HE.out)).mono ?_
          rintro e a8 ⟨rfl, hb8⟩
          have F8 := Bx.mk (F7.out.below hb8)
          have tz := Bx.mk (two25 a8)
          have hM := F8.out.2.1
          clear hb8 F7 e0 e2 e8 s0 s1 s2 e3 e4 e5
          go_wp2_with (refine wpList_stR rowT_sess rfl (.tmp 14) (.tmp 73) rfl a8.heap.size rfl sess0 rfl sess0_one rfl sess0 tz.out.1 rfl ?_)
          intro a9 r9 g9
          have zc := Bx.mk (tz.out.2.grown g9 (tz.out.2.lt (by decide)) (fun q => by have q2 : a8.heap.size + 1 = a8.heap.size := Option.some.inj q; omega))
          have P9 := Bx.mk (((F8.out.alloc oS0).alloc (cC 0 0 0 0 0 0 0 0)).put g9 hM r9 (by show 0 < 6; decide))
          clear r9 g9 tz F8 hM
          refine wpList_stR rowT_cert rfl (.tmp 15) (.tmp 74) rfl (a8.heap.size + 1) rfl zC rfl (one_ints .i64 _) rfl zC zc.out rfl ?_
          intro b9 r9 g9
          have F9 := Bx.mk (P9.out.put g9 (Nat.le_refl _) r9 (by show 0 < 8; decide))
          obtain ⟨C, hC⟩ : ∃ C, C = a8.heap.size + 1 := ⟨_, rfl⟩
          rw [← hC] at F9 ⊢
          obtain ⟨X, hX⟩ : ∃ X, X = a8.heap.size := ⟨_, rfl⟩
          rw [← hX] at F9 ⊢
          clear hC hX r9 g9 zc P9
          have u := F9.out.get (B := X) (cs := sess0) (by simp)
          have v := F9.out.get (B := C) (cs := zC) (by simp)
          have x0 : b9.cell? ⟨X, 0, none⟩ = some (.int .i64 0) := u.get (i := 0) rfl
          have x1 : b9.cell? ⟨X, 1, none⟩ = some (.int .i64 0) := u.get (i := 1) rfl
          have x2 : b9.cell? ⟨X, 2, none⟩ = some (.int .i64 0) := u.get (i := 2) rfl
          have x3 : b9.cell? ⟨X, 3, none⟩ = some (.int .i64 0) := u.get (i := 3) rfl
          have x4 : b9.cell? ⟨X, 4, none⟩ = some (.int .i64 0) := u.get (i := 4) rfl
          have x5 : b9.cell? ⟨X, 5, none⟩ = some (.bool false) := u.get (i := 5) rfl
          have y0 : b9.cell? ⟨C, 0, none⟩ = some (.int .i64 0) := v.get (i := 0) rfl
          have y1 : b9.cell? ⟨C, 1, none⟩ = some (.int .i64 0) := v.get (i := 1) rfl
          have y2 : b9.cell? ⟨C, 2, none⟩ = some (.int .i64 0) := v.get (i := 2) rfl
          have y3 : b9.cell? ⟨C, 3, none⟩ = some (.int .i64 0) := v.get (i := 3) rfl
          have y4 : b9.cell? ⟨C, 4, none⟩ = some (.int .i64 0) := v.get (i := 4) rfl
          have y5 : b9.cell? ⟨C, 5, none⟩ = some (.int .i64 0) := v.get (i := 5) rfl
          have y6 : b9.cell? ⟨C, 6, none⟩ = some (.int .i64 0) := v.get (i := 6) rfl
          have y7 : b9.cell? ⟨C, 7, none⟩ = some (.int .i64 0) := v.get (i := 7) rfl
          have BZ := Bx.mk F9.out.1
          have h1 := eq_sess0 b9
          have h2 := eq_cert0 b9
          clear u v F9
          go_wp2_with fail
          go_ret
          exact ⟨rfl, BZ.out⟩
  | true =>
    rw [show ownV dv_ = .tuple #[.int .i64 (dv_ / 8), .int .i64 0] by simp [ownV, hd]] at HO
    have HD := Bx.mk hd
    clear hd
    obtain ⟨ow, how⟩ : ∃ o, o = dv_ / 8 := ⟨_, rfl⟩
    rw [← how] at HO
    have HOw := Bx.mk how
    clear how
    by_cases h1 : ow = p
    · have h1b := h1.symm
      clear h1
      subst h1b
      cases h2 : elt pt with
      | false =>
        rw [gcheck_40 (by rw [h2]; decide)] at G0
        have HD2 := Bx.mk h2
        clear h2
        have HNF := Bx.mk (show fitsB p pt dv_ vf lf = false by
          cases h : fitsB p pt dv_ vf lf
          · rfl
          · exact absurd (HF.out.1 h) (by rintro ⟨_, _, h1, _⟩; rw [HD2.out] at h1; cases h1))
        cases hs : sessOK r code x p t with
        | false =>
          rw [hs] at HCk
          simp only [Bool.false_eq_true, if_false] at HCk
          clear HA HSO hs HNF HF
          unfold sessV reqV
          unfold sessV at HCk
          (try unfold sessV reqV at HAx)
          go_enter Tryz.func8, Tryz.ntmps8
          go_wp2_with (refine wpList_bxk rfl (.tmp 1) rfl (reqL pt dv_ vf lf pk) rfl ?_)
          refine (HS.out _ (F0.out.laid HL.out) (F0.out.etype HE.out)).mono ?_
          rintro e a1 ⟨rfl, hb1⟩
          have F1 := Bx.mk (F0.out.below hb1)
          have q := F1.out.get (B := w.heap.size + 1) (cs := reqL pt dv_ vf lf pk) (by simp)
          have e1 : a1.cell? ⟨w.heap.size + 1, 1, none⟩ = some (.int .i64 dv_) := q.get (i := 1) rfl
          clear hb1 F0 q HS
          have q := F1.out.get (B := w.heap.size + 1) (cs := reqL pt dv_ vf lf pk) (by simp)
          have e0 : a1.cell? ⟨w.heap.size + 1, 0, none⟩ = some (.int .i64 pt) := q.get (i := 0) rfl
          have e2 : a1.cell? ⟨w.heap.size + 1, 2, none⟩ = some (.int .i64 vf) := q.get (i := 2) rfl
          have e8 : a1.cell? ⟨w.heap.size + 1, 3, none⟩ = some (.int .i64 lf) := q.get (i := 3) rfl
          have q2 := F1.out.get (B := w.heap.size) (cs := sessL r code x p t d) (by simp)
          have s0 : a1.cell? ⟨w.heap.size, 0, none⟩ = some (.int .i64 r) := q2.get (i := 0) rfl
          have s1 : a1.cell? ⟨w.heap.size, 1, none⟩ = some (.int .i64 code) := q2.get (i := 1) rfl
          have s2 : a1.cell? ⟨w.heap.size, 2, none⟩ = some (.int .i64 x) := q2.get (i := 2) rfl
          have e3 : a1.cell? ⟨w.heap.size, 3, none⟩ = some (.int .i64 p) := q2.get (i := 3) rfl
          have e4 : a1.cell? ⟨w.heap.size, 4, none⟩ = some (.int .i64 t) := q2.get (i := 4) rfl
          have e5 : a1.cell? ⟨w.heap.size, 5, none⟩ = some (.bool d) := q2.get (i := 5) rfl
          clear q q2
          go_wp2_with fail
          refine (HO.out _).mono ?_
          rintro e a2 ⟨rfl, rfl⟩
          go_wp2_with fail
          refine (G0.out _).mono ?_
          rintro e a3 ⟨rfl, hb3⟩
          have F3 := Bx.mk (F1.out.below hb3)
          clear e0 e2 e8 s0 s1 s2 e3 e4 e5
          clear hb3 F1
          have q := F3.out.get (B := w.heap.size + 1) (cs := reqL pt dv_ vf lf pk) (by simp)
          have e0 : a3.cell? ⟨w.heap.size + 1, 0, none⟩ = some (.int .i64 pt) := q.get (i := 0) rfl
          have e2 : a3.cell? ⟨w.heap.size + 1, 2, none⟩ = some (.int .i64 vf) := q.get (i := 2) rfl
          have e8 : a3.cell? ⟨w.heap.size + 1, 3, none⟩ = some (.int .i64 lf) := q.get (i := 3) rfl
          have q2 := F3.out.get (B := w.heap.size) (cs := sessL r code x p t d) (by simp)
          have s0 : a3.cell? ⟨w.heap.size, 0, none⟩ = some (.int .i64 r) := q2.get (i := 0) rfl
          have s1 : a3.cell? ⟨w.heap.size, 1, none⟩ = some (.int .i64 code) := q2.get (i := 1) rfl
          have s2 : a3.cell? ⟨w.heap.size, 2, none⟩ = some (.int .i64 x) := q2.get (i := 2) rfl
          have e3 : a3.cell? ⟨w.heap.size, 3, none⟩ = some (.int .i64 p) := q2.get (i := 3) rfl
          have e4 : a3.cell? ⟨w.heap.size, 4, none⟩ = some (.int .i64 t) := q2.get (i := 4) rfl
          have e5 : a3.cell? ⟨w.heap.size, 5, none⟩ = some (.bool d) := q2.get (i := 5) rfl
          clear q q2
          go_wp2_with fail
          refine (HCk.out _).mono ?_
          rintro e a7 ⟨rfl, hb7⟩
          have F7 := Bx.mk (F3.out.below hb7)
          clear e0 e2 e8 s0 s1 s2 e3 e4 e5
          clear hb7 F3
          have q := F7.out.get (B := w.heap.size + 1) (cs := reqL pt dv_ vf lf pk) (by simp)
          have e0 : a7.cell? ⟨w.heap.size + 1, 0, none⟩ = some (.int .i64 pt) := q.get (i := 0) rfl
          have e2 : a7.cell? ⟨w.heap.size + 1, 2, none⟩ = some (.int .i64 vf) := q.get (i := 2) rfl
          have e8 : a7.cell? ⟨w.heap.size + 1, 3, none⟩ = some (.int .i64 lf) := q.get (i := 3) rfl
          have q2 := F7.out.get (B := w.heap.size) (cs := sessL r code x p t d) (by simp)
          have s0 : a7.cell? ⟨w.heap.size, 0, none⟩ = some (.int .i64 r) := q2.get (i := 0) rfl
          have s1 : a7.cell? ⟨w.heap.size, 1, none⟩ = some (.int .i64 code) := q2.get (i := 1) rfl
          have s2 : a7.cell? ⟨w.heap.size, 2, none⟩ = some (.int .i64 x) := q2.get (i := 2) rfl
          have e3 : a7.cell? ⟨w.heap.size, 3, none⟩ = some (.int .i64 p) := q2.get (i := 3) rfl
          have e4 : a7.cell? ⟨w.heap.size, 4, none⟩ = some (.int .i64 t) := q2.get (i := 4) rfl
          have e5 : a7.cell? ⟨w.heap.size, 5, none⟩ = some (.bool d) := q2.get (i := 5) rfl
          clear q q2
          have BZ := Bx.mk F7.out.1
          go_wp2_with fail
          go_ret
          exact ⟨rfl, BZ.out⟩
        | true =>
          rw [hs] at HCk
          simp only [if_true] at HCk
          have HS1 := Bx.mk hs
          clear hs
          cases d with
          | true =>
            clear HA HSO HNF HF HS1
            unfold sessV reqV
            unfold sessV at HCk
            (try unfold sessV reqV at HAx)
            go_enter Tryz.func8, Tryz.ntmps8
            go_wp2_with (refine wpList_bxk rfl (.tmp 1) rfl (reqL pt dv_ vf lf pk) rfl ?_)
            refine (HS.out _ (F0.out.laid HL.out) (F0.out.etype HE.out)).mono ?_
            rintro e a1 ⟨rfl, hb1⟩
            have F1 := Bx.mk (F0.out.below hb1)
            have q := F1.out.get (B := w.heap.size + 1) (cs := reqL pt dv_ vf lf pk) (by simp)
            have e1 : a1.cell? ⟨w.heap.size + 1, 1, none⟩ = some (.int .i64 dv_) := q.get (i := 1) rfl
            clear hb1 F0 q HS
            have q := F1.out.get (B := w.heap.size + 1) (cs := reqL pt dv_ vf lf pk) (by simp)
            have e0 : a1.cell? ⟨w.heap.size + 1, 0, none⟩ = some (.int .i64 pt) := q.get (i := 0) rfl
            have e2 : a1.cell? ⟨w.heap.size + 1, 2, none⟩ = some (.int .i64 vf) := q.get (i := 2) rfl
            have e8 : a1.cell? ⟨w.heap.size + 1, 3, none⟩ = some (.int .i64 lf) := q.get (i := 3) rfl
            have q2 := F1.out.get (B := w.heap.size) (cs := sessL r code x p t true) (by simp)
            have s0 : a1.cell? ⟨w.heap.size, 0, none⟩ = some (.int .i64 r) := q2.get (i := 0) rfl
            have s1 : a1.cell? ⟨w.heap.size, 1, none⟩ = some (.int .i64 code) := q2.get (i := 1) rfl
            have s2 : a1.cell? ⟨w.heap.size, 2, none⟩ = some (.int .i64 x) := q2.get (i := 2) rfl
            have e3 : a1.cell? ⟨w.heap.size, 3, none⟩ = some (.int .i64 p) := q2.get (i := 3) rfl
            have e4 : a1.cell? ⟨w.heap.size, 4, none⟩ = some (.int .i64 t) := q2.get (i := 4) rfl
            have e5 : a1.cell? ⟨w.heap.size, 5, none⟩ = some (.bool true) := q2.get (i := 5) rfl
            clear q q2
            go_wp2_with fail
            refine (HO.out _).mono ?_
            rintro e a2 ⟨rfl, rfl⟩
            go_wp2_with fail
            refine (G0.out _).mono ?_
            rintro e a3 ⟨rfl, hb3⟩
            have F3 := Bx.mk (F1.out.below hb3)
            clear e0 e2 e8 s0 s1 s2 e3 e4 e5
            clear hb3 F1
            have q := F3.out.get (B := w.heap.size + 1) (cs := reqL pt dv_ vf lf pk) (by simp)
            have e0 : a3.cell? ⟨w.heap.size + 1, 0, none⟩ = some (.int .i64 pt) := q.get (i := 0) rfl
            have e2 : a3.cell? ⟨w.heap.size + 1, 2, none⟩ = some (.int .i64 vf) := q.get (i := 2) rfl
            have e8 : a3.cell? ⟨w.heap.size + 1, 3, none⟩ = some (.int .i64 lf) := q.get (i := 3) rfl
            have q2 := F3.out.get (B := w.heap.size) (cs := sessL r code x p t true) (by simp)
            have s0 : a3.cell? ⟨w.heap.size, 0, none⟩ = some (.int .i64 r) := q2.get (i := 0) rfl
            have s1 : a3.cell? ⟨w.heap.size, 1, none⟩ = some (.int .i64 code) := q2.get (i := 1) rfl
            have s2 : a3.cell? ⟨w.heap.size, 2, none⟩ = some (.int .i64 x) := q2.get (i := 2) rfl
            have e3 : a3.cell? ⟨w.heap.size, 3, none⟩ = some (.int .i64 p) := q2.get (i := 3) rfl
            have e4 : a3.cell? ⟨w.heap.size, 4, none⟩ = some (.int .i64 t) := q2.get (i := 4) rfl
            have e5 : a3.cell? ⟨w.heap.size, 5, none⟩ = some (.bool true) := q2.get (i := 5) rfl
            clear q q2
            go_wp2_with fail
            refine (HCk.out _).mono ?_
            rintro e a7 ⟨rfl, hb7⟩
            have F7 := Bx.mk (F3.out.below hb7)
            clear e0 e2 e8 s0 s1 s2 e3 e4 e5
            clear hb7 F3
            have q := F7.out.get (B := w.heap.size + 1) (cs := reqL pt dv_ vf lf pk) (by simp)
            have e0 : a7.cell? ⟨w.heap.size + 1, 0, none⟩ = some (.int .i64 pt) := q.get (i := 0) rfl
            have e2 : a7.cell? ⟨w.heap.size + 1, 2, none⟩ = some (.int .i64 vf) := q.get (i := 2) rfl
            have e8 : a7.cell? ⟨w.heap.size + 1, 3, none⟩ = some (.int .i64 lf) := q.get (i := 3) rfl
            have q2 := F7.out.get (B := w.heap.size) (cs := sessL r code x p t true) (by simp)
            have s0 : a7.cell? ⟨w.heap.size, 0, none⟩ = some (.int .i64 r) := q2.get (i := 0) rfl
            have s1 : a7.cell? ⟨w.heap.size, 1, none⟩ = some (.int .i64 code) := q2.get (i := 1) rfl
            have s2 : a7.cell? ⟨w.heap.size, 2, none⟩ = some (.int .i64 x) := q2.get (i := 2) rfl
            have e3 : a7.cell? ⟨w.heap.size, 3, none⟩ = some (.int .i64 p) := q2.get (i := 3) rfl
            have e4 : a7.cell? ⟨w.heap.size, 4, none⟩ = some (.int .i64 t) := q2.get (i := 4) rfl
            have e5 : a7.cell? ⟨w.heap.size, 5, none⟩ = some (.bool true) := q2.get (i := 5) rfl
            clear q q2
            have BZ := Bx.mk F7.out.1
            go_wp2_with fail
            go_ret
            exact ⟨rfl, BZ.out⟩
          | false =>
            by_cases ht : 5 ≤ t
            · clear HA HSO HNF HF HS1
              unfold sessV reqV
              unfold sessV at HCk
              (try unfold sessV reqV at HAx)
              go_enter Tryz.func8, Tryz.ntmps8
              go_wp2_with (refine wpList_bxk rfl (.tmp 1) rfl (reqL pt dv_ vf lf pk) rfl ?_)
              refine (HS.out _ (F0.out.laid HL.out) (F0.out.etype HE.out)).mono ?_
              rintro e a1 ⟨rfl, hb1⟩
              have F1 := Bx.mk (F0.out.below hb1)
              have q := F1.out.get (B := w.heap.size + 1) (cs := reqL pt dv_ vf lf pk) (by simp)
              have e1 : a1.cell? ⟨w.heap.size + 1, 1, none⟩ = some (.int .i64 dv_) := q.get (i := 1) rfl
              clear hb1 F0 q HS
              have q := F1.out.get (B := w.heap.size + 1) (cs := reqL pt dv_ vf lf pk) (by simp)
              have e0 : a1.cell? ⟨w.heap.size + 1, 0, none⟩ = some (.int .i64 pt) := q.get (i := 0) rfl
              have e2 : a1.cell? ⟨w.heap.size + 1, 2, none⟩ = some (.int .i64 vf) := q.get (i := 2) rfl
              have e8 : a1.cell? ⟨w.heap.size + 1, 3, none⟩ = some (.int .i64 lf) := q.get (i := 3) rfl
              have q2 := F1.out.get (B := w.heap.size) (cs := sessL r code x p t false) (by simp)
              have s0 : a1.cell? ⟨w.heap.size, 0, none⟩ = some (.int .i64 r) := q2.get (i := 0) rfl
              have s1 : a1.cell? ⟨w.heap.size, 1, none⟩ = some (.int .i64 code) := q2.get (i := 1) rfl
              have s2 : a1.cell? ⟨w.heap.size, 2, none⟩ = some (.int .i64 x) := q2.get (i := 2) rfl
              have e3 : a1.cell? ⟨w.heap.size, 3, none⟩ = some (.int .i64 p) := q2.get (i := 3) rfl
              have e4 : a1.cell? ⟨w.heap.size, 4, none⟩ = some (.int .i64 t) := q2.get (i := 4) rfl
              have e5 : a1.cell? ⟨w.heap.size, 5, none⟩ = some (.bool false) := q2.get (i := 5) rfl
              clear q q2
              go_wp2_with fail
              refine (HO.out _).mono ?_
              rintro e a2 ⟨rfl, rfl⟩
              go_wp2_with fail
              refine (G0.out _).mono ?_
              rintro e a3 ⟨rfl, hb3⟩
              have F3 := Bx.mk (F1.out.below hb3)
              clear e0 e2 e8 s0 s1 s2 e3 e4 e5
              clear hb3 F1
              have q := F3.out.get (B := w.heap.size + 1) (cs := reqL pt dv_ vf lf pk) (by simp)
              have e0 : a3.cell? ⟨w.heap.size + 1, 0, none⟩ = some (.int .i64 pt) := q.get (i := 0) rfl
              have e2 : a3.cell? ⟨w.heap.size + 1, 2, none⟩ = some (.int .i64 vf) := q.get (i := 2) rfl
              have e8 : a3.cell? ⟨w.heap.size + 1, 3, none⟩ = some (.int .i64 lf) := q.get (i := 3) rfl
              have q2 := F3.out.get (B := w.heap.size) (cs := sessL r code x p t false) (by simp)
              have s0 : a3.cell? ⟨w.heap.size, 0, none⟩ = some (.int .i64 r) := q2.get (i := 0) rfl
              have s1 : a3.cell? ⟨w.heap.size, 1, none⟩ = some (.int .i64 code) := q2.get (i := 1) rfl
              have s2 : a3.cell? ⟨w.heap.size, 2, none⟩ = some (.int .i64 x) := q2.get (i := 2) rfl
              have e3 : a3.cell? ⟨w.heap.size, 3, none⟩ = some (.int .i64 p) := q2.get (i := 3) rfl
              have e4 : a3.cell? ⟨w.heap.size, 4, none⟩ = some (.int .i64 t) := q2.get (i := 4) rfl
              have e5 : a3.cell? ⟨w.heap.size, 5, none⟩ = some (.bool false) := q2.get (i := 5) rfl
              clear q q2
              go_wp2_with fail
              refine (HCk.out _).mono ?_
              rintro e a7 ⟨rfl, hb7⟩
              have F7 := Bx.mk (F3.out.below hb7)
              clear e0 e2 e8 s0 s1 s2 e3 e4 e5
              clear hb7 F3
              have q := F7.out.get (B := w.heap.size + 1) (cs := reqL pt dv_ vf lf pk) (by simp)
              have e0 : a7.cell? ⟨w.heap.size + 1, 0, none⟩ = some (.int .i64 pt) := q.get (i := 0) rfl
              have e2 : a7.cell? ⟨w.heap.size + 1, 2, none⟩ = some (.int .i64 vf) := q.get (i := 2) rfl
              have e8 : a7.cell? ⟨w.heap.size + 1, 3, none⟩ = some (.int .i64 lf) := q.get (i := 3) rfl
              have q2 := F7.out.get (B := w.heap.size) (cs := sessL r code x p t false) (by simp)
              have s0 : a7.cell? ⟨w.heap.size, 0, none⟩ = some (.int .i64 r) := q2.get (i := 0) rfl
              have s1 : a7.cell? ⟨w.heap.size, 1, none⟩ = some (.int .i64 code) := q2.get (i := 1) rfl
              have s2 : a7.cell? ⟨w.heap.size, 2, none⟩ = some (.int .i64 x) := q2.get (i := 2) rfl
              have e3 : a7.cell? ⟨w.heap.size, 3, none⟩ = some (.int .i64 p) := q2.get (i := 3) rfl
              have e4 : a7.cell? ⟨w.heap.size, 4, none⟩ = some (.int .i64 t) := q2.get (i := 4) rfl
              have e5 : a7.cell? ⟨w.heap.size, 5, none⟩ = some (.bool false) := q2.get (i := 5) rfl
              clear q q2
              have BZ := Bx.mk F7.out.1
              go_wp2_with fail
              go_ret
              exact ⟨rfl, BZ.out⟩
            · have HAx := Bx.mk (fun w hL hE => HA.out w hL hE HS1.out (by unfold openE; rw [if_neg (by omega)]; rfl) HNF.out)
              clear HA HSO HNF HF HS1
              unfold sessV reqV
              unfold sessV at HCk
              (try unfold sessV reqV at HAx)
              go_enter Tryz.func8, Tryz.ntmps8
              go_wp2_with (refine wpList_bxk rfl (.tmp 1) rfl (reqL pt dv_ vf lf pk) rfl ?_)
              refine (HS.out _ (F0.out.laid HL.out) (F0.out.etype HE.out)).mono ?_
              rintro e a1 ⟨rfl, hb1⟩
              have F1 := Bx.mk (F0.out.below hb1)
              have q := F1.out.get (B := w.heap.size + 1) (cs := reqL pt dv_ vf lf pk) (by simp)
              have e1 : a1.cell? ⟨w.heap.size + 1, 1, none⟩ = some (.int .i64 dv_) := q.get (i := 1) rfl
              clear hb1 F0 q HS
              have q := F1.out.get (B := w.heap.size + 1) (cs := reqL pt dv_ vf lf pk) (by simp)
              have e0 : a1.cell? ⟨w.heap.size + 1, 0, none⟩ = some (.int .i64 pt) := q.get (i := 0) rfl
              have e2 : a1.cell? ⟨w.heap.size + 1, 2, none⟩ = some (.int .i64 vf) := q.get (i := 2) rfl
              have e8 : a1.cell? ⟨w.heap.size + 1, 3, none⟩ = some (.int .i64 lf) := q.get (i := 3) rfl
              have q2 := F1.out.get (B := w.heap.size) (cs := sessL r code x p t false) (by simp)
              have s0 : a1.cell? ⟨w.heap.size, 0, none⟩ = some (.int .i64 r) := q2.get (i := 0) rfl
              have s1 : a1.cell? ⟨w.heap.size, 1, none⟩ = some (.int .i64 code) := q2.get (i := 1) rfl
              have s2 : a1.cell? ⟨w.heap.size, 2, none⟩ = some (.int .i64 x) := q2.get (i := 2) rfl
              have e3 : a1.cell? ⟨w.heap.size, 3, none⟩ = some (.int .i64 p) := q2.get (i := 3) rfl
              have e4 : a1.cell? ⟨w.heap.size, 4, none⟩ = some (.int .i64 t) := q2.get (i := 4) rfl
              have e5 : a1.cell? ⟨w.heap.size, 5, none⟩ = some (.bool false) := q2.get (i := 5) rfl
              clear q q2
              go_wp2_with fail
              refine (HO.out _).mono ?_
              rintro e a2 ⟨rfl, rfl⟩
              go_wp2_with fail
              refine (G0.out _).mono ?_
              rintro e a3 ⟨rfl, hb3⟩
              have F3 := Bx.mk (F1.out.below hb3)
              clear e0 e2 e8 s0 s1 s2 e3 e4 e5
              clear hb3 F1
              have q := F3.out.get (B := w.heap.size + 1) (cs := reqL pt dv_ vf lf pk) (by simp)
              have e0 : a3.cell? ⟨w.heap.size + 1, 0, none⟩ = some (.int .i64 pt) := q.get (i := 0) rfl
              have e2 : a3.cell? ⟨w.heap.size + 1, 2, none⟩ = some (.int .i64 vf) := q.get (i := 2) rfl
              have e8 : a3.cell? ⟨w.heap.size + 1, 3, none⟩ = some (.int .i64 lf) := q.get (i := 3) rfl
              have q2 := F3.out.get (B := w.heap.size) (cs := sessL r code x p t false) (by simp)
              have s0 : a3.cell? ⟨w.heap.size, 0, none⟩ = some (.int .i64 r) := q2.get (i := 0) rfl
              have s1 : a3.cell? ⟨w.heap.size, 1, none⟩ = some (.int .i64 code) := q2.get (i := 1) rfl
              have s2 : a3.cell? ⟨w.heap.size, 2, none⟩ = some (.int .i64 x) := q2.get (i := 2) rfl
              have e3 : a3.cell? ⟨w.heap.size, 3, none⟩ = some (.int .i64 p) := q2.get (i := 3) rfl
              have e4 : a3.cell? ⟨w.heap.size, 4, none⟩ = some (.int .i64 t) := q2.get (i := 4) rfl
              have e5 : a3.cell? ⟨w.heap.size, 5, none⟩ = some (.bool false) := q2.get (i := 5) rfl
              clear q q2
              go_wp2_with fail
              refine (HCk.out _).mono ?_
              rintro e a7 ⟨rfl, hb7⟩
              have F7 := Bx.mk (F3.out.below hb7)
              clear e0 e2 e8 s0 s1 s2 e3 e4 e5
              clear hb7 F3
              have q := F7.out.get (B := w.heap.size + 1) (cs := reqL pt dv_ vf lf pk) (by simp)
              have e0 : a7.cell? ⟨w.heap.size + 1, 0, none⟩ = some (.int .i64 pt) := q.get (i := 0) rfl
              have e2 : a7.cell? ⟨w.heap.size + 1, 2, none⟩ = some (.int .i64 vf) := q.get (i := 2) rfl
              have e8 : a7.cell? ⟨w.heap.size + 1, 3, none⟩ = some (.int .i64 lf) := q.get (i := 3) rfl
              have q2 := F7.out.get (B := w.heap.size) (cs := sessL r code x p t false) (by simp)
              have s0 : a7.cell? ⟨w.heap.size, 0, none⟩ = some (.int .i64 r) := q2.get (i := 0) rfl
              have s1 : a7.cell? ⟨w.heap.size, 1, none⟩ = some (.int .i64 code) := q2.get (i := 1) rfl
              have s2 : a7.cell? ⟨w.heap.size, 2, none⟩ = some (.int .i64 x) := q2.get (i := 2) rfl
              have e3 : a7.cell? ⟨w.heap.size, 3, none⟩ = some (.int .i64 p) := q2.get (i := 3) rfl
              have e4 : a7.cell? ⟨w.heap.size, 4, none⟩ = some (.int .i64 t) := q2.get (i := 4) rfl
              have e5 : a7.cell? ⟨w.heap.size, 5, none⟩ = some (.bool false) := q2.get (i := 5) rfl
              clear q q2
              have HQ := Bx.mk (reqL_len pt dv_ vf lf pk HK.out)
              go_wp2_with (refine wpList_ldN rowT_req rfl (.tmp 6) rfl (w.heap.size + 1) 0 rfl (reqL pt dv_ vf lf pk) (F7.out.get (by simp)).range0 HQ.out (.agg (reqL pt dv_ vf lf pk).toArray) rfl ?_)
              refine (HAx.out _ (F7.out.laid HL.out) (F7.out.etype HE.out)).mono ?_
              rintro e a8 ⟨rfl, hb8⟩
              have F8 := Bx.mk (F7.out.below hb8)
              have tz := Bx.mk (two25 a8)
              have hM := F8.out.2.1
              clear hb8 F7 e0 e2 e8 s0 s1 s2 e3 e4 e5
              go_wp2_with (refine wpList_stR rowT_sess rfl (.tmp 14) (.tmp 73) rfl a8.heap.size rfl sess0 rfl sess0_one rfl sess0 tz.out.1 rfl ?_)
              intro a9 r9 g9
              have zc := Bx.mk (tz.out.2.grown g9 (tz.out.2.lt (by decide)) (fun q => by have q2 : a8.heap.size + 1 = a8.heap.size := Option.some.inj q; omega))
              have P9 := Bx.mk (((F8.out.alloc oS0).alloc (cC 0 0 0 0 0 0 0 0)).put g9 hM r9 (by show 0 < 6; decide))
              clear r9 g9 tz F8 hM
              refine wpList_stR rowT_cert rfl (.tmp 15) (.tmp 74) rfl (a8.heap.size + 1) rfl zC rfl (one_ints .i64 _) rfl zC zc.out rfl ?_
              intro b9 r9 g9
              have F9 := Bx.mk (P9.out.put g9 (Nat.le_refl _) r9 (by show 0 < 8; decide))
              obtain ⟨C, hC⟩ : ∃ C, C = a8.heap.size + 1 := ⟨_, rfl⟩
              rw [← hC] at F9 ⊢
              obtain ⟨X, hX⟩ : ∃ X, X = a8.heap.size := ⟨_, rfl⟩
              rw [← hX] at F9 ⊢
              clear hC hX r9 g9 zc P9
              have u := F9.out.get (B := X) (cs := sess0) (by simp)
              have v := F9.out.get (B := C) (cs := zC) (by simp)
              have x0 : b9.cell? ⟨X, 0, none⟩ = some (.int .i64 0) := u.get (i := 0) rfl
              have x1 : b9.cell? ⟨X, 1, none⟩ = some (.int .i64 0) := u.get (i := 1) rfl
              have x2 : b9.cell? ⟨X, 2, none⟩ = some (.int .i64 0) := u.get (i := 2) rfl
              have x3 : b9.cell? ⟨X, 3, none⟩ = some (.int .i64 0) := u.get (i := 3) rfl
              have x4 : b9.cell? ⟨X, 4, none⟩ = some (.int .i64 0) := u.get (i := 4) rfl
              have x5 : b9.cell? ⟨X, 5, none⟩ = some (.bool false) := u.get (i := 5) rfl
              have y0 : b9.cell? ⟨C, 0, none⟩ = some (.int .i64 0) := v.get (i := 0) rfl
              have y1 : b9.cell? ⟨C, 1, none⟩ = some (.int .i64 0) := v.get (i := 1) rfl
              have y2 : b9.cell? ⟨C, 2, none⟩ = some (.int .i64 0) := v.get (i := 2) rfl
              have y3 : b9.cell? ⟨C, 3, none⟩ = some (.int .i64 0) := v.get (i := 3) rfl
              have y4 : b9.cell? ⟨C, 4, none⟩ = some (.int .i64 0) := v.get (i := 4) rfl
              have y5 : b9.cell? ⟨C, 5, none⟩ = some (.int .i64 0) := v.get (i := 5) rfl
              have y6 : b9.cell? ⟨C, 6, none⟩ = some (.int .i64 0) := v.get (i := 6) rfl
              have y7 : b9.cell? ⟨C, 7, none⟩ = some (.int .i64 0) := v.get (i := 7) rfl
              have BZ := Bx.mk F9.out.1
              have h1 := eq_sess0 b9
              have h2 := eq_cert0 b9
              clear u v F9
              go_wp2_with fail
              go_ret
              exact ⟨rfl, BZ.out⟩
      | true =>
        rw [gcheck_0 h2] at G0
        have HD2 := Bx.mk h2
        clear h2
        cases h3 : elt vf with
        | false =>
          rw [gcheck_40 (by rw [h3]; decide)] at G1
          have HD3 := Bx.mk h3
          clear h3
          have HNF := Bx.mk (show fitsB p pt dv_ vf lf = false by
            cases h : fitsB p pt dv_ vf lf
            · rfl
            · exact absurd (HF.out.1 h) (by rintro ⟨_, _, _, h1, _⟩; rw [HD3.out] at h1; cases h1))
          cases hs : sessOK r code x p t with
          | false =>
            rw [hs] at HCk
            simp only [Bool.false_eq_true, if_false] at HCk
            clear HA HSO hs HNF HF
            unfold sessV reqV
            unfold sessV at HCk
            (try unfold sessV reqV at HAx)
            go_enter Tryz.func8, Tryz.ntmps8
            go_wp2_with (refine wpList_bxk rfl (.tmp 1) rfl (reqL pt dv_ vf lf pk) rfl ?_)
            refine (HS.out _ (F0.out.laid HL.out) (F0.out.etype HE.out)).mono ?_
            rintro e a1 ⟨rfl, hb1⟩
            have F1 := Bx.mk (F0.out.below hb1)
            have q := F1.out.get (B := w.heap.size + 1) (cs := reqL pt dv_ vf lf pk) (by simp)
            have e1 : a1.cell? ⟨w.heap.size + 1, 1, none⟩ = some (.int .i64 dv_) := q.get (i := 1) rfl
            clear hb1 F0 q HS
            have q := F1.out.get (B := w.heap.size + 1) (cs := reqL pt dv_ vf lf pk) (by simp)
            have e0 : a1.cell? ⟨w.heap.size + 1, 0, none⟩ = some (.int .i64 pt) := q.get (i := 0) rfl
            have e2 : a1.cell? ⟨w.heap.size + 1, 2, none⟩ = some (.int .i64 vf) := q.get (i := 2) rfl
            have e8 : a1.cell? ⟨w.heap.size + 1, 3, none⟩ = some (.int .i64 lf) := q.get (i := 3) rfl
            have q2 := F1.out.get (B := w.heap.size) (cs := sessL r code x p t d) (by simp)
            have s0 : a1.cell? ⟨w.heap.size, 0, none⟩ = some (.int .i64 r) := q2.get (i := 0) rfl
            have s1 : a1.cell? ⟨w.heap.size, 1, none⟩ = some (.int .i64 code) := q2.get (i := 1) rfl
            have s2 : a1.cell? ⟨w.heap.size, 2, none⟩ = some (.int .i64 x) := q2.get (i := 2) rfl
            have e3 : a1.cell? ⟨w.heap.size, 3, none⟩ = some (.int .i64 p) := q2.get (i := 3) rfl
            have e4 : a1.cell? ⟨w.heap.size, 4, none⟩ = some (.int .i64 t) := q2.get (i := 4) rfl
            have e5 : a1.cell? ⟨w.heap.size, 5, none⟩ = some (.bool d) := q2.get (i := 5) rfl
            clear q q2
            go_wp2_with fail
            refine (HO.out _).mono ?_
            rintro e a2 ⟨rfl, rfl⟩
            go_wp2_with fail
            refine (G0.out _).mono ?_
            rintro e a3 ⟨rfl, hb3⟩
            have F3 := Bx.mk (F1.out.below hb3)
            clear e0 e2 e8 s0 s1 s2 e3 e4 e5
            clear hb3 F1
            have q := F3.out.get (B := w.heap.size + 1) (cs := reqL pt dv_ vf lf pk) (by simp)
            have e0 : a3.cell? ⟨w.heap.size + 1, 0, none⟩ = some (.int .i64 pt) := q.get (i := 0) rfl
            have e2 : a3.cell? ⟨w.heap.size + 1, 2, none⟩ = some (.int .i64 vf) := q.get (i := 2) rfl
            have e8 : a3.cell? ⟨w.heap.size + 1, 3, none⟩ = some (.int .i64 lf) := q.get (i := 3) rfl
            have q2 := F3.out.get (B := w.heap.size) (cs := sessL r code x p t d) (by simp)
            have s0 : a3.cell? ⟨w.heap.size, 0, none⟩ = some (.int .i64 r) := q2.get (i := 0) rfl
            have s1 : a3.cell? ⟨w.heap.size, 1, none⟩ = some (.int .i64 code) := q2.get (i := 1) rfl
            have s2 : a3.cell? ⟨w.heap.size, 2, none⟩ = some (.int .i64 x) := q2.get (i := 2) rfl
            have e3 : a3.cell? ⟨w.heap.size, 3, none⟩ = some (.int .i64 p) := q2.get (i := 3) rfl
            have e4 : a3.cell? ⟨w.heap.size, 4, none⟩ = some (.int .i64 t) := q2.get (i := 4) rfl
            have e5 : a3.cell? ⟨w.heap.size, 5, none⟩ = some (.bool d) := q2.get (i := 5) rfl
            clear q q2
            go_wp2_with fail
            refine (G1.out _).mono ?_
            rintro e a4 ⟨rfl, hb4⟩
            have F4 := Bx.mk (F3.out.below hb4)
            clear e0 e2 e8 s0 s1 s2 e3 e4 e5
            clear hb4 F3
            have q := F4.out.get (B := w.heap.size + 1) (cs := reqL pt dv_ vf lf pk) (by simp)
            have e0 : a4.cell? ⟨w.heap.size + 1, 0, none⟩ = some (.int .i64 pt) := q.get (i := 0) rfl
            have e2 : a4.cell? ⟨w.heap.size + 1, 2, none⟩ = some (.int .i64 vf) := q.get (i := 2) rfl
            have e8 : a4.cell? ⟨w.heap.size + 1, 3, none⟩ = some (.int .i64 lf) := q.get (i := 3) rfl
            have q2 := F4.out.get (B := w.heap.size) (cs := sessL r code x p t d) (by simp)
            have s0 : a4.cell? ⟨w.heap.size, 0, none⟩ = some (.int .i64 r) := q2.get (i := 0) rfl
            have s1 : a4.cell? ⟨w.heap.size, 1, none⟩ = some (.int .i64 code) := q2.get (i := 1) rfl
            have s2 : a4.cell? ⟨w.heap.size, 2, none⟩ = some (.int .i64 x) := q2.get (i := 2) rfl
            have e3 : a4.cell? ⟨w.heap.size, 3, none⟩ = some (.int .i64 p) := q2.get (i := 3) rfl
            have e4 : a4.cell? ⟨w.heap.size, 4, none⟩ = some (.int .i64 t) := q2.get (i := 4) rfl
            have e5 : a4.cell? ⟨w.heap.size, 5, none⟩ = some (.bool d) := q2.get (i := 5) rfl
            clear q q2
            go_wp2_with fail
            refine (HCk.out _).mono ?_
            rintro e a7 ⟨rfl, hb7⟩
            have F7 := Bx.mk (F4.out.below hb7)
            clear e0 e2 e8 s0 s1 s2 e3 e4 e5
            clear hb7 F4
            have q := F7.out.get (B := w.heap.size + 1) (cs := reqL pt dv_ vf lf pk) (by simp)
            have e0 : a7.cell? ⟨w.heap.size + 1, 0, none⟩ = some (.int .i64 pt) := q.get (i := 0) rfl
            have e2 : a7.cell? ⟨w.heap.size + 1, 2, none⟩ = some (.int .i64 vf) := q.get (i := 2) rfl
            have e8 : a7.cell? ⟨w.heap.size + 1, 3, none⟩ = some (.int .i64 lf) := q.get (i := 3) rfl
            have q2 := F7.out.get (B := w.heap.size) (cs := sessL r code x p t d) (by simp)
            have s0 : a7.cell? ⟨w.heap.size, 0, none⟩ = some (.int .i64 r) := q2.get (i := 0) rfl
            have s1 : a7.cell? ⟨w.heap.size, 1, none⟩ = some (.int .i64 code) := q2.get (i := 1) rfl
            have s2 : a7.cell? ⟨w.heap.size, 2, none⟩ = some (.int .i64 x) := q2.get (i := 2) rfl
            have e3 : a7.cell? ⟨w.heap.size, 3, none⟩ = some (.int .i64 p) := q2.get (i := 3) rfl
            have e4 : a7.cell? ⟨w.heap.size, 4, none⟩ = some (.int .i64 t) := q2.get (i := 4) rfl
            have e5 : a7.cell? ⟨w.heap.size, 5, none⟩ = some (.bool d) := q2.get (i := 5) rfl
            clear q q2
            have BZ := Bx.mk F7.out.1
            go_wp2_with fail
            go_ret
            exact ⟨rfl, BZ.out⟩
          | true =>
            rw [hs] at HCk
            simp only [if_true] at HCk
            have HS1 := Bx.mk hs
            clear hs
            cases d with
            | true =>
              clear HA HSO HNF HF HS1
              unfold sessV reqV
              unfold sessV at HCk
              (try unfold sessV reqV at HAx)
              go_enter Tryz.func8, Tryz.ntmps8
              go_wp2_with (refine wpList_bxk rfl (.tmp 1) rfl (reqL pt dv_ vf lf pk) rfl ?_)
              refine (HS.out _ (F0.out.laid HL.out) (F0.out.etype HE.out)).mono ?_
              rintro e a1 ⟨rfl, hb1⟩
              have F1 := Bx.mk (F0.out.below hb1)
              have q := F1.out.get (B := w.heap.size + 1) (cs := reqL pt dv_ vf lf pk) (by simp)
              have e1 : a1.cell? ⟨w.heap.size + 1, 1, none⟩ = some (.int .i64 dv_) := q.get (i := 1) rfl
              clear hb1 F0 q HS
              have q := F1.out.get (B := w.heap.size + 1) (cs := reqL pt dv_ vf lf pk) (by simp)
              have e0 : a1.cell? ⟨w.heap.size + 1, 0, none⟩ = some (.int .i64 pt) := q.get (i := 0) rfl
              have e2 : a1.cell? ⟨w.heap.size + 1, 2, none⟩ = some (.int .i64 vf) := q.get (i := 2) rfl
              have e8 : a1.cell? ⟨w.heap.size + 1, 3, none⟩ = some (.int .i64 lf) := q.get (i := 3) rfl
              have q2 := F1.out.get (B := w.heap.size) (cs := sessL r code x p t true) (by simp)
              have s0 : a1.cell? ⟨w.heap.size, 0, none⟩ = some (.int .i64 r) := q2.get (i := 0) rfl
              have s1 : a1.cell? ⟨w.heap.size, 1, none⟩ = some (.int .i64 code) := q2.get (i := 1) rfl
              have s2 : a1.cell? ⟨w.heap.size, 2, none⟩ = some (.int .i64 x) := q2.get (i := 2) rfl
              have e3 : a1.cell? ⟨w.heap.size, 3, none⟩ = some (.int .i64 p) := q2.get (i := 3) rfl
              have e4 : a1.cell? ⟨w.heap.size, 4, none⟩ = some (.int .i64 t) := q2.get (i := 4) rfl
              have e5 : a1.cell? ⟨w.heap.size, 5, none⟩ = some (.bool true) := q2.get (i := 5) rfl
              clear q q2
              go_wp2_with fail
              refine (HO.out _).mono ?_
              rintro e a2 ⟨rfl, rfl⟩
              go_wp2_with fail
              refine (G0.out _).mono ?_
              rintro e a3 ⟨rfl, hb3⟩
              have F3 := Bx.mk (F1.out.below hb3)
              clear e0 e2 e8 s0 s1 s2 e3 e4 e5
              clear hb3 F1
              have q := F3.out.get (B := w.heap.size + 1) (cs := reqL pt dv_ vf lf pk) (by simp)
              have e0 : a3.cell? ⟨w.heap.size + 1, 0, none⟩ = some (.int .i64 pt) := q.get (i := 0) rfl
              have e2 : a3.cell? ⟨w.heap.size + 1, 2, none⟩ = some (.int .i64 vf) := q.get (i := 2) rfl
              have e8 : a3.cell? ⟨w.heap.size + 1, 3, none⟩ = some (.int .i64 lf) := q.get (i := 3) rfl
              have q2 := F3.out.get (B := w.heap.size) (cs := sessL r code x p t true) (by simp)
              have s0 : a3.cell? ⟨w.heap.size, 0, none⟩ = some (.int .i64 r) := q2.get (i := 0) rfl
              have s1 : a3.cell? ⟨w.heap.size, 1, none⟩ = some (.int .i64 code) := q2.get (i := 1) rfl
              have s2 : a3.cell? ⟨w.heap.size, 2, none⟩ = some (.int .i64 x) := q2.get (i := 2) rfl
              have e3 : a3.cell? ⟨w.heap.size, 3, none⟩ = some (.int .i64 p) := q2.get (i := 3) rfl
              have e4 : a3.cell? ⟨w.heap.size, 4, none⟩ = some (.int .i64 t) := q2.get (i := 4) rfl
              have e5 : a3.cell? ⟨w.heap.size, 5, none⟩ = some (.bool true) := q2.get (i := 5) rfl
              clear q q2
              go_wp2_with fail
              refine (G1.out _).mono ?_
              rintro e a4 ⟨rfl, hb4⟩
              have F4 := Bx.mk (F3.out.below hb4)
              clear e0 e2 e8 s0 s1 s2 e3 e4 e5
              clear hb4 F3
              have q := F4.out.get (B := w.heap.size + 1) (cs := reqL pt dv_ vf lf pk) (by simp)
              have e0 : a4.cell? ⟨w.heap.size + 1, 0, none⟩ = some (.int .i64 pt) := q.get (i := 0) rfl
              have e2 : a4.cell? ⟨w.heap.size + 1, 2, none⟩ = some (.int .i64 vf) := q.get (i := 2) rfl
              have e8 : a4.cell? ⟨w.heap.size + 1, 3, none⟩ = some (.int .i64 lf) := q.get (i := 3) rfl
              have q2 := F4.out.get (B := w.heap.size) (cs := sessL r code x p t true) (by simp)
              have s0 : a4.cell? ⟨w.heap.size, 0, none⟩ = some (.int .i64 r) := q2.get (i := 0) rfl
              have s1 : a4.cell? ⟨w.heap.size, 1, none⟩ = some (.int .i64 code) := q2.get (i := 1) rfl
              have s2 : a4.cell? ⟨w.heap.size, 2, none⟩ = some (.int .i64 x) := q2.get (i := 2) rfl
              have e3 : a4.cell? ⟨w.heap.size, 3, none⟩ = some (.int .i64 p) := q2.get (i := 3) rfl
              have e4 : a4.cell? ⟨w.heap.size, 4, none⟩ = some (.int .i64 t) := q2.get (i := 4) rfl
              have e5 : a4.cell? ⟨w.heap.size, 5, none⟩ = some (.bool true) := q2.get (i := 5) rfl
              clear q q2
              go_wp2_with fail
              refine (HCk.out _).mono ?_
              rintro e a7 ⟨rfl, hb7⟩
              have F7 := Bx.mk (F4.out.below hb7)
              clear e0 e2 e8 s0 s1 s2 e3 e4 e5
              clear hb7 F4
              have q := F7.out.get (B := w.heap.size + 1) (cs := reqL pt dv_ vf lf pk) (by simp)
              have e0 : a7.cell? ⟨w.heap.size + 1, 0, none⟩ = some (.int .i64 pt) := q.get (i := 0) rfl
              have e2 : a7.cell? ⟨w.heap.size + 1, 2, none⟩ = some (.int .i64 vf) := q.get (i := 2) rfl
              have e8 : a7.cell? ⟨w.heap.size + 1, 3, none⟩ = some (.int .i64 lf) := q.get (i := 3) rfl
              have q2 := F7.out.get (B := w.heap.size) (cs := sessL r code x p t true) (by simp)
              have s0 : a7.cell? ⟨w.heap.size, 0, none⟩ = some (.int .i64 r) := q2.get (i := 0) rfl
              have s1 : a7.cell? ⟨w.heap.size, 1, none⟩ = some (.int .i64 code) := q2.get (i := 1) rfl
              have s2 : a7.cell? ⟨w.heap.size, 2, none⟩ = some (.int .i64 x) := q2.get (i := 2) rfl
              have e3 : a7.cell? ⟨w.heap.size, 3, none⟩ = some (.int .i64 p) := q2.get (i := 3) rfl
              have e4 : a7.cell? ⟨w.heap.size, 4, none⟩ = some (.int .i64 t) := q2.get (i := 4) rfl
              have e5 : a7.cell? ⟨w.heap.size, 5, none⟩ = some (.bool true) := q2.get (i := 5) rfl
              clear q q2
              have BZ := Bx.mk F7.out.1
              go_wp2_with fail
              go_ret
              exact ⟨rfl, BZ.out⟩
            | false =>
              by_cases ht : 5 ≤ t
              · clear HA HSO HNF HF HS1
                unfold sessV reqV
                unfold sessV at HCk
                (try unfold sessV reqV at HAx)
                go_enter Tryz.func8, Tryz.ntmps8
                go_wp2_with (refine wpList_bxk rfl (.tmp 1) rfl (reqL pt dv_ vf lf pk) rfl ?_)
                refine (HS.out _ (F0.out.laid HL.out) (F0.out.etype HE.out)).mono ?_
                rintro e a1 ⟨rfl, hb1⟩
                have F1 := Bx.mk (F0.out.below hb1)
                have q := F1.out.get (B := w.heap.size + 1) (cs := reqL pt dv_ vf lf pk) (by simp)
                have e1 : a1.cell? ⟨w.heap.size + 1, 1, none⟩ = some (.int .i64 dv_) := q.get (i := 1) rfl
                clear hb1 F0 q HS
                have q := F1.out.get (B := w.heap.size + 1) (cs := reqL pt dv_ vf lf pk) (by simp)
                have e0 : a1.cell? ⟨w.heap.size + 1, 0, none⟩ = some (.int .i64 pt) := q.get (i := 0) rfl
                have e2 : a1.cell? ⟨w.heap.size + 1, 2, none⟩ = some (.int .i64 vf) := q.get (i := 2) rfl
                have e8 : a1.cell? ⟨w.heap.size + 1, 3, none⟩ = some (.int .i64 lf) := q.get (i := 3) rfl
                have q2 := F1.out.get (B := w.heap.size) (cs := sessL r code x p t false) (by simp)
                have s0 : a1.cell? ⟨w.heap.size, 0, none⟩ = some (.int .i64 r) := q2.get (i := 0) rfl
                have s1 : a1.cell? ⟨w.heap.size, 1, none⟩ = some (.int .i64 code) := q2.get (i := 1) rfl
                have s2 : a1.cell? ⟨w.heap.size, 2, none⟩ = some (.int .i64 x) := q2.get (i := 2) rfl
                have e3 : a1.cell? ⟨w.heap.size, 3, none⟩ = some (.int .i64 p) := q2.get (i := 3) rfl
                have e4 : a1.cell? ⟨w.heap.size, 4, none⟩ = some (.int .i64 t) := q2.get (i := 4) rfl
                have e5 : a1.cell? ⟨w.heap.size, 5, none⟩ = some (.bool false) := q2.get (i := 5) rfl
                clear q q2
                go_wp2_with fail
                refine (HO.out _).mono ?_
                rintro e a2 ⟨rfl, rfl⟩
                go_wp2_with fail
                refine (G0.out _).mono ?_
                rintro e a3 ⟨rfl, hb3⟩
                have F3 := Bx.mk (F1.out.below hb3)
                clear e0 e2 e8 s0 s1 s2 e3 e4 e5
                clear hb3 F1
                have q := F3.out.get (B := w.heap.size + 1) (cs := reqL pt dv_ vf lf pk) (by simp)
                have e0 : a3.cell? ⟨w.heap.size + 1, 0, none⟩ = some (.int .i64 pt) := q.get (i := 0) rfl
                have e2 : a3.cell? ⟨w.heap.size + 1, 2, none⟩ = some (.int .i64 vf) := q.get (i := 2) rfl
                have e8 : a3.cell? ⟨w.heap.size + 1, 3, none⟩ = some (.int .i64 lf) := q.get (i := 3) rfl
                have q2 := F3.out.get (B := w.heap.size) (cs := sessL r code x p t false) (by simp)
                have s0 : a3.cell? ⟨w.heap.size, 0, none⟩ = some (.int .i64 r) := q2.get (i := 0) rfl
                have s1 : a3.cell? ⟨w.heap.size, 1, none⟩ = some (.int .i64 code) := q2.get (i := 1) rfl
                have s2 : a3.cell? ⟨w.heap.size, 2, none⟩ = some (.int .i64 x) := q2.get (i := 2) rfl
                have e3 : a3.cell? ⟨w.heap.size, 3, none⟩ = some (.int .i64 p) := q2.get (i := 3) rfl
                have e4 : a3.cell? ⟨w.heap.size, 4, none⟩ = some (.int .i64 t) := q2.get (i := 4) rfl
                have e5 : a3.cell? ⟨w.heap.size, 5, none⟩ = some (.bool false) := q2.get (i := 5) rfl
                clear q q2
                go_wp2_with fail
                refine (G1.out _).mono ?_
                rintro e a4 ⟨rfl, hb4⟩
                have F4 := Bx.mk (F3.out.below hb4)
                clear e0 e2 e8 s0 s1 s2 e3 e4 e5
                clear hb4 F3
                have q := F4.out.get (B := w.heap.size + 1) (cs := reqL pt dv_ vf lf pk) (by simp)
                have e0 : a4.cell? ⟨w.heap.size + 1, 0, none⟩ = some (.int .i64 pt) := q.get (i := 0) rfl
                have e2 : a4.cell? ⟨w.heap.size + 1, 2, none⟩ = some (.int .i64 vf) := q.get (i := 2) rfl
                have e8 : a4.cell? ⟨w.heap.size + 1, 3, none⟩ = some (.int .i64 lf) := q.get (i := 3) rfl
                have q2 := F4.out.get (B := w.heap.size) (cs := sessL r code x p t false) (by simp)
                have s0 : a4.cell? ⟨w.heap.size, 0, none⟩ = some (.int .i64 r) := q2.get (i := 0) rfl
                have s1 : a4.cell? ⟨w.heap.size, 1, none⟩ = some (.int .i64 code) := q2.get (i := 1) rfl
                have s2 : a4.cell? ⟨w.heap.size, 2, none⟩ = some (.int .i64 x) := q2.get (i := 2) rfl
                have e3 : a4.cell? ⟨w.heap.size, 3, none⟩ = some (.int .i64 p) := q2.get (i := 3) rfl
                have e4 : a4.cell? ⟨w.heap.size, 4, none⟩ = some (.int .i64 t) := q2.get (i := 4) rfl
                have e5 : a4.cell? ⟨w.heap.size, 5, none⟩ = some (.bool false) := q2.get (i := 5) rfl
                clear q q2
                go_wp2_with fail
                refine (HCk.out _).mono ?_
                rintro e a7 ⟨rfl, hb7⟩
                have F7 := Bx.mk (F4.out.below hb7)
                clear e0 e2 e8 s0 s1 s2 e3 e4 e5
                clear hb7 F4
                have q := F7.out.get (B := w.heap.size + 1) (cs := reqL pt dv_ vf lf pk) (by simp)
                have e0 : a7.cell? ⟨w.heap.size + 1, 0, none⟩ = some (.int .i64 pt) := q.get (i := 0) rfl
                have e2 : a7.cell? ⟨w.heap.size + 1, 2, none⟩ = some (.int .i64 vf) := q.get (i := 2) rfl
                have e8 : a7.cell? ⟨w.heap.size + 1, 3, none⟩ = some (.int .i64 lf) := q.get (i := 3) rfl
                have q2 := F7.out.get (B := w.heap.size) (cs := sessL r code x p t false) (by simp)
                have s0 : a7.cell? ⟨w.heap.size, 0, none⟩ = some (.int .i64 r) := q2.get (i := 0) rfl
                have s1 : a7.cell? ⟨w.heap.size, 1, none⟩ = some (.int .i64 code) := q2.get (i := 1) rfl
                have s2 : a7.cell? ⟨w.heap.size, 2, none⟩ = some (.int .i64 x) := q2.get (i := 2) rfl
                have e3 : a7.cell? ⟨w.heap.size, 3, none⟩ = some (.int .i64 p) := q2.get (i := 3) rfl
                have e4 : a7.cell? ⟨w.heap.size, 4, none⟩ = some (.int .i64 t) := q2.get (i := 4) rfl
                have e5 : a7.cell? ⟨w.heap.size, 5, none⟩ = some (.bool false) := q2.get (i := 5) rfl
                clear q q2
                have BZ := Bx.mk F7.out.1
                go_wp2_with fail
                go_ret
                exact ⟨rfl, BZ.out⟩
              · have HAx := Bx.mk (fun w hL hE => HA.out w hL hE HS1.out (by unfold openE; rw [if_neg (by omega)]; rfl) HNF.out)
                clear HA HSO HNF HF HS1
                unfold sessV reqV
                unfold sessV at HCk
                (try unfold sessV reqV at HAx)
                go_enter Tryz.func8, Tryz.ntmps8
                go_wp2_with (refine wpList_bxk rfl (.tmp 1) rfl (reqL pt dv_ vf lf pk) rfl ?_)
                refine (HS.out _ (F0.out.laid HL.out) (F0.out.etype HE.out)).mono ?_
                rintro e a1 ⟨rfl, hb1⟩
                have F1 := Bx.mk (F0.out.below hb1)
                have q := F1.out.get (B := w.heap.size + 1) (cs := reqL pt dv_ vf lf pk) (by simp)
                have e1 : a1.cell? ⟨w.heap.size + 1, 1, none⟩ = some (.int .i64 dv_) := q.get (i := 1) rfl
                clear hb1 F0 q HS
                have q := F1.out.get (B := w.heap.size + 1) (cs := reqL pt dv_ vf lf pk) (by simp)
                have e0 : a1.cell? ⟨w.heap.size + 1, 0, none⟩ = some (.int .i64 pt) := q.get (i := 0) rfl
                have e2 : a1.cell? ⟨w.heap.size + 1, 2, none⟩ = some (.int .i64 vf) := q.get (i := 2) rfl
                have e8 : a1.cell? ⟨w.heap.size + 1, 3, none⟩ = some (.int .i64 lf) := q.get (i := 3) rfl
                have q2 := F1.out.get (B := w.heap.size) (cs := sessL r code x p t false) (by simp)
                have s0 : a1.cell? ⟨w.heap.size, 0, none⟩ = some (.int .i64 r) := q2.get (i := 0) rfl
                have s1 : a1.cell? ⟨w.heap.size, 1, none⟩ = some (.int .i64 code) := q2.get (i := 1) rfl
                have s2 : a1.cell? ⟨w.heap.size, 2, none⟩ = some (.int .i64 x) := q2.get (i := 2) rfl
                have e3 : a1.cell? ⟨w.heap.size, 3, none⟩ = some (.int .i64 p) := q2.get (i := 3) rfl
                have e4 : a1.cell? ⟨w.heap.size, 4, none⟩ = some (.int .i64 t) := q2.get (i := 4) rfl
                have e5 : a1.cell? ⟨w.heap.size, 5, none⟩ = some (.bool false) := q2.get (i := 5) rfl
                clear q q2
                go_wp2_with fail
                refine (HO.out _).mono ?_
                rintro e a2 ⟨rfl, rfl⟩
                go_wp2_with fail
                refine (G0.out _).mono ?_
                rintro e a3 ⟨rfl, hb3⟩
                have F3 := Bx.mk (F1.out.below hb3)
                clear e0 e2 e8 s0 s1 s2 e3 e4 e5
                clear hb3 F1
                have q := F3.out.get (B := w.heap.size + 1) (cs := reqL pt dv_ vf lf pk) (by simp)
                have e0 : a3.cell? ⟨w.heap.size + 1, 0, none⟩ = some (.int .i64 pt) := q.get (i := 0) rfl
                have e2 : a3.cell? ⟨w.heap.size + 1, 2, none⟩ = some (.int .i64 vf) := q.get (i := 2) rfl
                have e8 : a3.cell? ⟨w.heap.size + 1, 3, none⟩ = some (.int .i64 lf) := q.get (i := 3) rfl
                have q2 := F3.out.get (B := w.heap.size) (cs := sessL r code x p t false) (by simp)
                have s0 : a3.cell? ⟨w.heap.size, 0, none⟩ = some (.int .i64 r) := q2.get (i := 0) rfl
                have s1 : a3.cell? ⟨w.heap.size, 1, none⟩ = some (.int .i64 code) := q2.get (i := 1) rfl
                have s2 : a3.cell? ⟨w.heap.size, 2, none⟩ = some (.int .i64 x) := q2.get (i := 2) rfl
                have e3 : a3.cell? ⟨w.heap.size, 3, none⟩ = some (.int .i64 p) := q2.get (i := 3) rfl
                have e4 : a3.cell? ⟨w.heap.size, 4, none⟩ = some (.int .i64 t) := q2.get (i := 4) rfl
                have e5 : a3.cell? ⟨w.heap.size, 5, none⟩ = some (.bool false) := q2.get (i := 5) rfl
                clear q q2
                go_wp2_with fail
                refine (G1.out _).mono ?_
                rintro e a4 ⟨rfl, hb4⟩
                have F4 := Bx.mk (F3.out.below hb4)
                clear e0 e2 e8 s0 s1 s2 e3 e4 e5
                clear hb4 F3
                have q := F4.out.get (B := w.heap.size + 1) (cs := reqL pt dv_ vf lf pk) (by simp)
                have e0 : a4.cell? ⟨w.heap.size + 1, 0, none⟩ = some (.int .i64 pt) := q.get (i := 0) rfl
                have e2 : a4.cell? ⟨w.heap.size + 1, 2, none⟩ = some (.int .i64 vf) := q.get (i := 2) rfl
                have e8 : a4.cell? ⟨w.heap.size + 1, 3, none⟩ = some (.int .i64 lf) := q.get (i := 3) rfl
                have q2 := F4.out.get (B := w.heap.size) (cs := sessL r code x p t false) (by simp)
                have s0 : a4.cell? ⟨w.heap.size, 0, none⟩ = some (.int .i64 r) := q2.get (i := 0) rfl
                have s1 : a4.cell? ⟨w.heap.size, 1, none⟩ = some (.int .i64 code) := q2.get (i := 1) rfl
                have s2 : a4.cell? ⟨w.heap.size, 2, none⟩ = some (.int .i64 x) := q2.get (i := 2) rfl
                have e3 : a4.cell? ⟨w.heap.size, 3, none⟩ = some (.int .i64 p) := q2.get (i := 3) rfl
                have e4 : a4.cell? ⟨w.heap.size, 4, none⟩ = some (.int .i64 t) := q2.get (i := 4) rfl
                have e5 : a4.cell? ⟨w.heap.size, 5, none⟩ = some (.bool false) := q2.get (i := 5) rfl
                clear q q2
                go_wp2_with fail
                refine (HCk.out _).mono ?_
                rintro e a7 ⟨rfl, hb7⟩
                have F7 := Bx.mk (F4.out.below hb7)
                clear e0 e2 e8 s0 s1 s2 e3 e4 e5
                clear hb7 F4
                have q := F7.out.get (B := w.heap.size + 1) (cs := reqL pt dv_ vf lf pk) (by simp)
                have e0 : a7.cell? ⟨w.heap.size + 1, 0, none⟩ = some (.int .i64 pt) := q.get (i := 0) rfl
                have e2 : a7.cell? ⟨w.heap.size + 1, 2, none⟩ = some (.int .i64 vf) := q.get (i := 2) rfl
                have e8 : a7.cell? ⟨w.heap.size + 1, 3, none⟩ = some (.int .i64 lf) := q.get (i := 3) rfl
                have q2 := F7.out.get (B := w.heap.size) (cs := sessL r code x p t false) (by simp)
                have s0 : a7.cell? ⟨w.heap.size, 0, none⟩ = some (.int .i64 r) := q2.get (i := 0) rfl
                have s1 : a7.cell? ⟨w.heap.size, 1, none⟩ = some (.int .i64 code) := q2.get (i := 1) rfl
                have s2 : a7.cell? ⟨w.heap.size, 2, none⟩ = some (.int .i64 x) := q2.get (i := 2) rfl
                have e3 : a7.cell? ⟨w.heap.size, 3, none⟩ = some (.int .i64 p) := q2.get (i := 3) rfl
                have e4 : a7.cell? ⟨w.heap.size, 4, none⟩ = some (.int .i64 t) := q2.get (i := 4) rfl
                have e5 : a7.cell? ⟨w.heap.size, 5, none⟩ = some (.bool false) := q2.get (i := 5) rfl
                clear q q2
                have HQ := Bx.mk (reqL_len pt dv_ vf lf pk HK.out)
                go_wp2_with (refine wpList_ldN rowT_req rfl (.tmp 6) rfl (w.heap.size + 1) 0 rfl (reqL pt dv_ vf lf pk) (F7.out.get (by simp)).range0 HQ.out (.agg (reqL pt dv_ vf lf pk).toArray) rfl ?_)
                refine (HAx.out _ (F7.out.laid HL.out) (F7.out.etype HE.out)).mono ?_
                rintro e a8 ⟨rfl, hb8⟩
                have F8 := Bx.mk (F7.out.below hb8)
                have tz := Bx.mk (two25 a8)
                have hM := F8.out.2.1
                clear hb8 F7 e0 e2 e8 s0 s1 s2 e3 e4 e5
                go_wp2_with (refine wpList_stR rowT_sess rfl (.tmp 14) (.tmp 73) rfl a8.heap.size rfl sess0 rfl sess0_one rfl sess0 tz.out.1 rfl ?_)
                intro a9 r9 g9
                have zc := Bx.mk (tz.out.2.grown g9 (tz.out.2.lt (by decide)) (fun q => by have q2 : a8.heap.size + 1 = a8.heap.size := Option.some.inj q; omega))
                have P9 := Bx.mk (((F8.out.alloc oS0).alloc (cC 0 0 0 0 0 0 0 0)).put g9 hM r9 (by show 0 < 6; decide))
                clear r9 g9 tz F8 hM
                refine wpList_stR rowT_cert rfl (.tmp 15) (.tmp 74) rfl (a8.heap.size + 1) rfl zC rfl (one_ints .i64 _) rfl zC zc.out rfl ?_
                intro b9 r9 g9
                have F9 := Bx.mk (P9.out.put g9 (Nat.le_refl _) r9 (by show 0 < 8; decide))
                obtain ⟨C, hC⟩ : ∃ C, C = a8.heap.size + 1 := ⟨_, rfl⟩
                rw [← hC] at F9 ⊢
                obtain ⟨X, hX⟩ : ∃ X, X = a8.heap.size := ⟨_, rfl⟩
                rw [← hX] at F9 ⊢
                clear hC hX r9 g9 zc P9
                have u := F9.out.get (B := X) (cs := sess0) (by simp)
                have v := F9.out.get (B := C) (cs := zC) (by simp)
                have x0 : b9.cell? ⟨X, 0, none⟩ = some (.int .i64 0) := u.get (i := 0) rfl
                have x1 : b9.cell? ⟨X, 1, none⟩ = some (.int .i64 0) := u.get (i := 1) rfl
                have x2 : b9.cell? ⟨X, 2, none⟩ = some (.int .i64 0) := u.get (i := 2) rfl
                have x3 : b9.cell? ⟨X, 3, none⟩ = some (.int .i64 0) := u.get (i := 3) rfl
                have x4 : b9.cell? ⟨X, 4, none⟩ = some (.int .i64 0) := u.get (i := 4) rfl
                have x5 : b9.cell? ⟨X, 5, none⟩ = some (.bool false) := u.get (i := 5) rfl
                have y0 : b9.cell? ⟨C, 0, none⟩ = some (.int .i64 0) := v.get (i := 0) rfl
                have y1 : b9.cell? ⟨C, 1, none⟩ = some (.int .i64 0) := v.get (i := 1) rfl
                have y2 : b9.cell? ⟨C, 2, none⟩ = some (.int .i64 0) := v.get (i := 2) rfl
                have y3 : b9.cell? ⟨C, 3, none⟩ = some (.int .i64 0) := v.get (i := 3) rfl
                have y4 : b9.cell? ⟨C, 4, none⟩ = some (.int .i64 0) := v.get (i := 4) rfl
                have y5 : b9.cell? ⟨C, 5, none⟩ = some (.int .i64 0) := v.get (i := 5) rfl
                have y6 : b9.cell? ⟨C, 6, none⟩ = some (.int .i64 0) := v.get (i := 6) rfl
                have y7 : b9.cell? ⟨C, 7, none⟩ = some (.int .i64 0) := v.get (i := 7) rfl
                have BZ := Bx.mk F9.out.1
                have h1 := eq_sess0 b9
                have h2 := eq_cert0 b9
                clear u v F9
                go_wp2_with fail
                go_ret
                exact ⟨rfl, BZ.out⟩
        | true =>
          rw [gcheck_0 h3] at G1
          have HD3 := Bx.mk h3
          clear h3
          cases h4 : elt lf with
          | false =>
            rw [gcheck_40 (by rw [h4]; decide)] at G2
            have HD4 := Bx.mk h4
            clear h4
            have HNF := Bx.mk (show fitsB p pt dv_ vf lf = false by
              cases h : fitsB p pt dv_ vf lf
              · rfl
              · exact absurd (HF.out.1 h) (by rintro ⟨_, _, _, _, h1⟩; rw [HD4.out] at h1; cases h1))
            cases hs : sessOK r code x p t with
            | false =>
              rw [hs] at HCk
              simp only [Bool.false_eq_true, if_false] at HCk
              clear HA HSO hs HNF HF
              unfold sessV reqV
              unfold sessV at HCk
              (try unfold sessV reqV at HAx)
              go_enter Tryz.func8, Tryz.ntmps8
              go_wp2_with (refine wpList_bxk rfl (.tmp 1) rfl (reqL pt dv_ vf lf pk) rfl ?_)
              refine (HS.out _ (F0.out.laid HL.out) (F0.out.etype HE.out)).mono ?_
              rintro e a1 ⟨rfl, hb1⟩
              have F1 := Bx.mk (F0.out.below hb1)
              have q := F1.out.get (B := w.heap.size + 1) (cs := reqL pt dv_ vf lf pk) (by simp)
              have e1 : a1.cell? ⟨w.heap.size + 1, 1, none⟩ = some (.int .i64 dv_) := q.get (i := 1) rfl
              clear hb1 F0 q HS
              have q := F1.out.get (B := w.heap.size + 1) (cs := reqL pt dv_ vf lf pk) (by simp)
              have e0 : a1.cell? ⟨w.heap.size + 1, 0, none⟩ = some (.int .i64 pt) := q.get (i := 0) rfl
              have e2 : a1.cell? ⟨w.heap.size + 1, 2, none⟩ = some (.int .i64 vf) := q.get (i := 2) rfl
              have e8 : a1.cell? ⟨w.heap.size + 1, 3, none⟩ = some (.int .i64 lf) := q.get (i := 3) rfl
              have q2 := F1.out.get (B := w.heap.size) (cs := sessL r code x p t d) (by simp)
              have s0 : a1.cell? ⟨w.heap.size, 0, none⟩ = some (.int .i64 r) := q2.get (i := 0) rfl
              have s1 : a1.cell? ⟨w.heap.size, 1, none⟩ = some (.int .i64 code) := q2.get (i := 1) rfl
              have s2 : a1.cell? ⟨w.heap.size, 2, none⟩ = some (.int .i64 x) := q2.get (i := 2) rfl
              have e3 : a1.cell? ⟨w.heap.size, 3, none⟩ = some (.int .i64 p) := q2.get (i := 3) rfl
              have e4 : a1.cell? ⟨w.heap.size, 4, none⟩ = some (.int .i64 t) := q2.get (i := 4) rfl
              have e5 : a1.cell? ⟨w.heap.size, 5, none⟩ = some (.bool d) := q2.get (i := 5) rfl
              clear q q2
              go_wp2_with fail
              refine (HO.out _).mono ?_
              rintro e a2 ⟨rfl, rfl⟩
              go_wp2_with fail
              refine (G0.out _).mono ?_
              rintro e a3 ⟨rfl, hb3⟩
              have F3 := Bx.mk (F1.out.below hb3)
              clear e0 e2 e8 s0 s1 s2 e3 e4 e5
              clear hb3 F1
              have q := F3.out.get (B := w.heap.size + 1) (cs := reqL pt dv_ vf lf pk) (by simp)
              have e0 : a3.cell? ⟨w.heap.size + 1, 0, none⟩ = some (.int .i64 pt) := q.get (i := 0) rfl
              have e2 : a3.cell? ⟨w.heap.size + 1, 2, none⟩ = some (.int .i64 vf) := q.get (i := 2) rfl
              have e8 : a3.cell? ⟨w.heap.size + 1, 3, none⟩ = some (.int .i64 lf) := q.get (i := 3) rfl
              have q2 := F3.out.get (B := w.heap.size) (cs := sessL r code x p t d) (by simp)
              have s0 : a3.cell? ⟨w.heap.size, 0, none⟩ = some (.int .i64 r) := q2.get (i := 0) rfl
              have s1 : a3.cell? ⟨w.heap.size, 1, none⟩ = some (.int .i64 code) := q2.get (i := 1) rfl
              have s2 : a3.cell? ⟨w.heap.size, 2, none⟩ = some (.int .i64 x) := q2.get (i := 2) rfl
              have e3 : a3.cell? ⟨w.heap.size, 3, none⟩ = some (.int .i64 p) := q2.get (i := 3) rfl
              have e4 : a3.cell? ⟨w.heap.size, 4, none⟩ = some (.int .i64 t) := q2.get (i := 4) rfl
              have e5 : a3.cell? ⟨w.heap.size, 5, none⟩ = some (.bool d) := q2.get (i := 5) rfl
              clear q q2
              go_wp2_with fail
              refine (G1.out _).mono ?_
              rintro e a4 ⟨rfl, hb4⟩
              have F4 := Bx.mk (F3.out.below hb4)
              clear e0 e2 e8 s0 s1 s2 e3 e4 e5
              clear hb4 F3
              have q := F4.out.get (B := w.heap.size + 1) (cs := reqL pt dv_ vf lf pk) (by simp)
              have e0 : a4.cell? ⟨w.heap.size + 1, 0, none⟩ = some (.int .i64 pt) := q.get (i := 0) rfl
              have e2 : a4.cell? ⟨w.heap.size + 1, 2, none⟩ = some (.int .i64 vf) := q.get (i := 2) rfl
              have e8 : a4.cell? ⟨w.heap.size + 1, 3, none⟩ = some (.int .i64 lf) := q.get (i := 3) rfl
              have q2 := F4.out.get (B := w.heap.size) (cs := sessL r code x p t d) (by simp)
              have s0 : a4.cell? ⟨w.heap.size, 0, none⟩ = some (.int .i64 r) := q2.get (i := 0) rfl
              have s1 : a4.cell? ⟨w.heap.size, 1, none⟩ = some (.int .i64 code) := q2.get (i := 1) rfl
              have s2 : a4.cell? ⟨w.heap.size, 2, none⟩ = some (.int .i64 x) := q2.get (i := 2) rfl
              have e3 : a4.cell? ⟨w.heap.size, 3, none⟩ = some (.int .i64 p) := q2.get (i := 3) rfl
              have e4 : a4.cell? ⟨w.heap.size, 4, none⟩ = some (.int .i64 t) := q2.get (i := 4) rfl
              have e5 : a4.cell? ⟨w.heap.size, 5, none⟩ = some (.bool d) := q2.get (i := 5) rfl
              clear q q2
              go_wp2_with fail
              refine (G2.out _).mono ?_
              rintro e a5 ⟨rfl, hb5⟩
              have F5 := Bx.mk (F4.out.below hb5)
              clear e0 e2 e8 s0 s1 s2 e3 e4 e5
              clear hb5 F4
              have q := F5.out.get (B := w.heap.size + 1) (cs := reqL pt dv_ vf lf pk) (by simp)
              have e0 : a5.cell? ⟨w.heap.size + 1, 0, none⟩ = some (.int .i64 pt) := q.get (i := 0) rfl
              have e2 : a5.cell? ⟨w.heap.size + 1, 2, none⟩ = some (.int .i64 vf) := q.get (i := 2) rfl
              have e8 : a5.cell? ⟨w.heap.size + 1, 3, none⟩ = some (.int .i64 lf) := q.get (i := 3) rfl
              have q2 := F5.out.get (B := w.heap.size) (cs := sessL r code x p t d) (by simp)
              have s0 : a5.cell? ⟨w.heap.size, 0, none⟩ = some (.int .i64 r) := q2.get (i := 0) rfl
              have s1 : a5.cell? ⟨w.heap.size, 1, none⟩ = some (.int .i64 code) := q2.get (i := 1) rfl
              have s2 : a5.cell? ⟨w.heap.size, 2, none⟩ = some (.int .i64 x) := q2.get (i := 2) rfl
              have e3 : a5.cell? ⟨w.heap.size, 3, none⟩ = some (.int .i64 p) := q2.get (i := 3) rfl
              have e4 : a5.cell? ⟨w.heap.size, 4, none⟩ = some (.int .i64 t) := q2.get (i := 4) rfl
              have e5 : a5.cell? ⟨w.heap.size, 5, none⟩ = some (.bool d) := q2.get (i := 5) rfl
              clear q q2
              go_wp2_with fail
              refine (HCk.out _).mono ?_
              rintro e a7 ⟨rfl, hb7⟩
              have F7 := Bx.mk (F5.out.below hb7)
              clear e0 e2 e8 s0 s1 s2 e3 e4 e5
              clear hb7 F5
              have q := F7.out.get (B := w.heap.size + 1) (cs := reqL pt dv_ vf lf pk) (by simp)
              have e0 : a7.cell? ⟨w.heap.size + 1, 0, none⟩ = some (.int .i64 pt) := q.get (i := 0) rfl
              have e2 : a7.cell? ⟨w.heap.size + 1, 2, none⟩ = some (.int .i64 vf) := q.get (i := 2) rfl
              have e8 : a7.cell? ⟨w.heap.size + 1, 3, none⟩ = some (.int .i64 lf) := q.get (i := 3) rfl
              have q2 := F7.out.get (B := w.heap.size) (cs := sessL r code x p t d) (by simp)
              have s0 : a7.cell? ⟨w.heap.size, 0, none⟩ = some (.int .i64 r) := q2.get (i := 0) rfl
              have s1 : a7.cell? ⟨w.heap.size, 1, none⟩ = some (.int .i64 code) := q2.get (i := 1) rfl
              have s2 : a7.cell? ⟨w.heap.size, 2, none⟩ = some (.int .i64 x) := q2.get (i := 2) rfl
              have e3 : a7.cell? ⟨w.heap.size, 3, none⟩ = some (.int .i64 p) := q2.get (i := 3) rfl
              have e4 : a7.cell? ⟨w.heap.size, 4, none⟩ = some (.int .i64 t) := q2.get (i := 4) rfl
              have e5 : a7.cell? ⟨w.heap.size, 5, none⟩ = some (.bool d) := q2.get (i := 5) rfl
              clear q q2
              have BZ := Bx.mk F7.out.1
              go_wp2_with fail
              go_ret
              exact ⟨rfl, BZ.out⟩
            | true =>
              rw [hs] at HCk
              simp only [if_true] at HCk
              have HS1 := Bx.mk hs
              clear hs
              cases d with
              | true =>
                clear HA HSO HNF HF HS1
                unfold sessV reqV
                unfold sessV at HCk
                (try unfold sessV reqV at HAx)
                go_enter Tryz.func8, Tryz.ntmps8
                go_wp2_with (refine wpList_bxk rfl (.tmp 1) rfl (reqL pt dv_ vf lf pk) rfl ?_)
                refine (HS.out _ (F0.out.laid HL.out) (F0.out.etype HE.out)).mono ?_
                rintro e a1 ⟨rfl, hb1⟩
                have F1 := Bx.mk (F0.out.below hb1)
                have q := F1.out.get (B := w.heap.size + 1) (cs := reqL pt dv_ vf lf pk) (by simp)
                have e1 : a1.cell? ⟨w.heap.size + 1, 1, none⟩ = some (.int .i64 dv_) := q.get (i := 1) rfl
                clear hb1 F0 q HS
                have q := F1.out.get (B := w.heap.size + 1) (cs := reqL pt dv_ vf lf pk) (by simp)
                have e0 : a1.cell? ⟨w.heap.size + 1, 0, none⟩ = some (.int .i64 pt) := q.get (i := 0) rfl
                have e2 : a1.cell? ⟨w.heap.size + 1, 2, none⟩ = some (.int .i64 vf) := q.get (i := 2) rfl
                have e8 : a1.cell? ⟨w.heap.size + 1, 3, none⟩ = some (.int .i64 lf) := q.get (i := 3) rfl
                have q2 := F1.out.get (B := w.heap.size) (cs := sessL r code x p t true) (by simp)
                have s0 : a1.cell? ⟨w.heap.size, 0, none⟩ = some (.int .i64 r) := q2.get (i := 0) rfl
                have s1 : a1.cell? ⟨w.heap.size, 1, none⟩ = some (.int .i64 code) := q2.get (i := 1) rfl
                have s2 : a1.cell? ⟨w.heap.size, 2, none⟩ = some (.int .i64 x) := q2.get (i := 2) rfl
                have e3 : a1.cell? ⟨w.heap.size, 3, none⟩ = some (.int .i64 p) := q2.get (i := 3) rfl
                have e4 : a1.cell? ⟨w.heap.size, 4, none⟩ = some (.int .i64 t) := q2.get (i := 4) rfl
                have e5 : a1.cell? ⟨w.heap.size, 5, none⟩ = some (.bool true) := q2.get (i := 5) rfl
                clear q q2
                go_wp2_with fail
                refine (HO.out _).mono ?_
                rintro e a2 ⟨rfl, rfl⟩
                go_wp2_with fail
                refine (G0.out _).mono ?_
                rintro e a3 ⟨rfl, hb3⟩
                have F3 := Bx.mk (F1.out.below hb3)
                clear e0 e2 e8 s0 s1 s2 e3 e4 e5
                clear hb3 F1
                have q := F3.out.get (B := w.heap.size + 1) (cs := reqL pt dv_ vf lf pk) (by simp)
                have e0 : a3.cell? ⟨w.heap.size + 1, 0, none⟩ = some (.int .i64 pt) := q.get (i := 0) rfl
                have e2 : a3.cell? ⟨w.heap.size + 1, 2, none⟩ = some (.int .i64 vf) := q.get (i := 2) rfl
                have e8 : a3.cell? ⟨w.heap.size + 1, 3, none⟩ = some (.int .i64 lf) := q.get (i := 3) rfl
                have q2 := F3.out.get (B := w.heap.size) (cs := sessL r code x p t true) (by simp)
                have s0 : a3.cell? ⟨w.heap.size, 0, none⟩ = some (.int .i64 r) := q2.get (i := 0) rfl
                have s1 : a3.cell? ⟨w.heap.size, 1, none⟩ = some (.int .i64 code) := q2.get (i := 1) rfl
                have s2 : a3.cell? ⟨w.heap.size, 2, none⟩ = some (.int .i64 x) := q2.get (i := 2) rfl
                have e3 : a3.cell? ⟨w.heap.size, 3, none⟩ = some (.int .i64 p) := q2.get (i := 3) rfl
                have e4 : a3.cell? ⟨w.heap.size, 4, none⟩ = some (.int .i64 t) := q2.get (i := 4) rfl
                have e5 : a3.cell? ⟨w.heap.size, 5, none⟩ = some (.bool true) := q2.get (i := 5) rfl
                clear q q2
                go_wp2_with fail
                refine (G1.out _).mono ?_
                rintro e a4 ⟨rfl, hb4⟩
                have F4 := Bx.mk (F3.out.below hb4)
                clear e0 e2 e8 s0 s1 s2 e3 e4 e5
                clear hb4 F3
                have q := F4.out.get (B := w.heap.size + 1) (cs := reqL pt dv_ vf lf pk) (by simp)
                have e0 : a4.cell? ⟨w.heap.size + 1, 0, none⟩ = some (.int .i64 pt) := q.get (i := 0) rfl
                have e2 : a4.cell? ⟨w.heap.size + 1, 2, none⟩ = some (.int .i64 vf) := q.get (i := 2) rfl
                have e8 : a4.cell? ⟨w.heap.size + 1, 3, none⟩ = some (.int .i64 lf) := q.get (i := 3) rfl
                have q2 := F4.out.get (B := w.heap.size) (cs := sessL r code x p t true) (by simp)
                have s0 : a4.cell? ⟨w.heap.size, 0, none⟩ = some (.int .i64 r) := q2.get (i := 0) rfl
                have s1 : a4.cell? ⟨w.heap.size, 1, none⟩ = some (.int .i64 code) := q2.get (i := 1) rfl
                have s2 : a4.cell? ⟨w.heap.size, 2, none⟩ = some (.int .i64 x) := q2.get (i := 2) rfl
                have e3 : a4.cell? ⟨w.heap.size, 3, none⟩ = some (.int .i64 p) := q2.get (i := 3) rfl
                have e4 : a4.cell? ⟨w.heap.size, 4, none⟩ = some (.int .i64 t) := q2.get (i := 4) rfl
                have e5 : a4.cell? ⟨w.heap.size, 5, none⟩ = some (.bool true) := q2.get (i := 5) rfl
                clear q q2
                go_wp2_with fail
                refine (G2.out _).mono ?_
                rintro e a5 ⟨rfl, hb5⟩
                have F5 := Bx.mk (F4.out.below hb5)
                clear e0 e2 e8 s0 s1 s2 e3 e4 e5
                clear hb5 F4
                have q := F5.out.get (B := w.heap.size + 1) (cs := reqL pt dv_ vf lf pk) (by simp)
                have e0 : a5.cell? ⟨w.heap.size + 1, 0, none⟩ = some (.int .i64 pt) := q.get (i := 0) rfl
                have e2 : a5.cell? ⟨w.heap.size + 1, 2, none⟩ = some (.int .i64 vf) := q.get (i := 2) rfl
                have e8 : a5.cell? ⟨w.heap.size + 1, 3, none⟩ = some (.int .i64 lf) := q.get (i := 3) rfl
                have q2 := F5.out.get (B := w.heap.size) (cs := sessL r code x p t true) (by simp)
                have s0 : a5.cell? ⟨w.heap.size, 0, none⟩ = some (.int .i64 r) := q2.get (i := 0) rfl
                have s1 : a5.cell? ⟨w.heap.size, 1, none⟩ = some (.int .i64 code) := q2.get (i := 1) rfl
                have s2 : a5.cell? ⟨w.heap.size, 2, none⟩ = some (.int .i64 x) := q2.get (i := 2) rfl
                have e3 : a5.cell? ⟨w.heap.size, 3, none⟩ = some (.int .i64 p) := q2.get (i := 3) rfl
                have e4 : a5.cell? ⟨w.heap.size, 4, none⟩ = some (.int .i64 t) := q2.get (i := 4) rfl
                have e5 : a5.cell? ⟨w.heap.size, 5, none⟩ = some (.bool true) := q2.get (i := 5) rfl
                clear q q2
                go_wp2_with fail
                refine (HCk.out _).mono ?_
                rintro e a7 ⟨rfl, hb7⟩
                have F7 := Bx.mk (F5.out.below hb7)
                clear e0 e2 e8 s0 s1 s2 e3 e4 e5
                clear hb7 F5
                have q := F7.out.get (B := w.heap.size + 1) (cs := reqL pt dv_ vf lf pk) (by simp)
                have e0 : a7.cell? ⟨w.heap.size + 1, 0, none⟩ = some (.int .i64 pt) := q.get (i := 0) rfl
                have e2 : a7.cell? ⟨w.heap.size + 1, 2, none⟩ = some (.int .i64 vf) := q.get (i := 2) rfl
                have e8 : a7.cell? ⟨w.heap.size + 1, 3, none⟩ = some (.int .i64 lf) := q.get (i := 3) rfl
                have q2 := F7.out.get (B := w.heap.size) (cs := sessL r code x p t true) (by simp)
                have s0 : a7.cell? ⟨w.heap.size, 0, none⟩ = some (.int .i64 r) := q2.get (i := 0) rfl
                have s1 : a7.cell? ⟨w.heap.size, 1, none⟩ = some (.int .i64 code) := q2.get (i := 1) rfl
                have s2 : a7.cell? ⟨w.heap.size, 2, none⟩ = some (.int .i64 x) := q2.get (i := 2) rfl
                have e3 : a7.cell? ⟨w.heap.size, 3, none⟩ = some (.int .i64 p) := q2.get (i := 3) rfl
                have e4 : a7.cell? ⟨w.heap.size, 4, none⟩ = some (.int .i64 t) := q2.get (i := 4) rfl
                have e5 : a7.cell? ⟨w.heap.size, 5, none⟩ = some (.bool true) := q2.get (i := 5) rfl
                clear q q2
                have BZ := Bx.mk F7.out.1
                go_wp2_with fail
                go_ret
                exact ⟨rfl, BZ.out⟩
              | false =>
                by_cases ht : 5 ≤ t
                · clear HA HSO HNF HF HS1
                  unfold sessV reqV
                  unfold sessV at HCk
                  (try unfold sessV reqV at HAx)
                  go_enter Tryz.func8, Tryz.ntmps8
                  go_wp2_with (refine wpList_bxk rfl (.tmp 1) rfl (reqL pt dv_ vf lf pk) rfl ?_)
                  refine (HS.out _ (F0.out.laid HL.out) (F0.out.etype HE.out)).mono ?_
                  rintro e a1 ⟨rfl, hb1⟩
                  have F1 := Bx.mk (F0.out.below hb1)
                  have q := F1.out.get (B := w.heap.size + 1) (cs := reqL pt dv_ vf lf pk) (by simp)
                  have e1 : a1.cell? ⟨w.heap.size + 1, 1, none⟩ = some (.int .i64 dv_) := q.get (i := 1) rfl
                  clear hb1 F0 q HS
                  have q := F1.out.get (B := w.heap.size + 1) (cs := reqL pt dv_ vf lf pk) (by simp)
                  have e0 : a1.cell? ⟨w.heap.size + 1, 0, none⟩ = some (.int .i64 pt) := q.get (i := 0) rfl
                  have e2 : a1.cell? ⟨w.heap.size + 1, 2, none⟩ = some (.int .i64 vf) := q.get (i := 2) rfl
                  have e8 : a1.cell? ⟨w.heap.size + 1, 3, none⟩ = some (.int .i64 lf) := q.get (i := 3) rfl
                  have q2 := F1.out.get (B := w.heap.size) (cs := sessL r code x p t false) (by simp)
                  have s0 : a1.cell? ⟨w.heap.size, 0, none⟩ = some (.int .i64 r) := q2.get (i := 0) rfl
                  have s1 : a1.cell? ⟨w.heap.size, 1, none⟩ = some (.int .i64 code) := q2.get (i := 1) rfl
                  have s2 : a1.cell? ⟨w.heap.size, 2, none⟩ = some (.int .i64 x) := q2.get (i := 2) rfl
                  have e3 : a1.cell? ⟨w.heap.size, 3, none⟩ = some (.int .i64 p) := q2.get (i := 3) rfl
                  have e4 : a1.cell? ⟨w.heap.size, 4, none⟩ = some (.int .i64 t) := q2.get (i := 4) rfl
                  have e5 : a1.cell? ⟨w.heap.size, 5, none⟩ = some (.bool false) := q2.get (i := 5) rfl
                  clear q q2
                  go_wp2_with fail
                  refine (HO.out _).mono ?_
                  rintro e a2 ⟨rfl, rfl⟩
                  go_wp2_with fail
                  refine (G0.out _).mono ?_
                  rintro e a3 ⟨rfl, hb3⟩
                  have F3 := Bx.mk (F1.out.below hb3)
                  clear e0 e2 e8 s0 s1 s2 e3 e4 e5
                  clear hb3 F1
                  have q := F3.out.get (B := w.heap.size + 1) (cs := reqL pt dv_ vf lf pk) (by simp)
                  have e0 : a3.cell? ⟨w.heap.size + 1, 0, none⟩ = some (.int .i64 pt) := q.get (i := 0) rfl
                  have e2 : a3.cell? ⟨w.heap.size + 1, 2, none⟩ = some (.int .i64 vf) := q.get (i := 2) rfl
                  have e8 : a3.cell? ⟨w.heap.size + 1, 3, none⟩ = some (.int .i64 lf) := q.get (i := 3) rfl
                  have q2 := F3.out.get (B := w.heap.size) (cs := sessL r code x p t false) (by simp)
                  have s0 : a3.cell? ⟨w.heap.size, 0, none⟩ = some (.int .i64 r) := q2.get (i := 0) rfl
                  have s1 : a3.cell? ⟨w.heap.size, 1, none⟩ = some (.int .i64 code) := q2.get (i := 1) rfl
                  have s2 : a3.cell? ⟨w.heap.size, 2, none⟩ = some (.int .i64 x) := q2.get (i := 2) rfl
                  have e3 : a3.cell? ⟨w.heap.size, 3, none⟩ = some (.int .i64 p) := q2.get (i := 3) rfl
                  have e4 : a3.cell? ⟨w.heap.size, 4, none⟩ = some (.int .i64 t) := q2.get (i := 4) rfl
                  have e5 : a3.cell? ⟨w.heap.size, 5, none⟩ = some (.bool false) := q2.get (i := 5) rfl
                  clear q q2
                  go_wp2_with fail
                  refine (G1.out _).mono ?_
                  rintro e a4 ⟨rfl, hb4⟩
                  have F4 := Bx.mk (F3.out.below hb4)
                  clear e0 e2 e8 s0 s1 s2 e3 e4 e5
                  clear hb4 F3
                  have q := F4.out.get (B := w.heap.size + 1) (cs := reqL pt dv_ vf lf pk) (by simp)
                  have e0 : a4.cell? ⟨w.heap.size + 1, 0, none⟩ = some (.int .i64 pt) := q.get (i := 0) rfl
                  have e2 : a4.cell? ⟨w.heap.size + 1, 2, none⟩ = some (.int .i64 vf) := q.get (i := 2) rfl
                  have e8 : a4.cell? ⟨w.heap.size + 1, 3, none⟩ = some (.int .i64 lf) := q.get (i := 3) rfl
                  have q2 := F4.out.get (B := w.heap.size) (cs := sessL r code x p t false) (by simp)
                  have s0 : a4.cell? ⟨w.heap.size, 0, none⟩ = some (.int .i64 r) := q2.get (i := 0) rfl
                  have s1 : a4.cell? ⟨w.heap.size, 1, none⟩ = some (.int .i64 code) := q2.get (i := 1) rfl
                  have s2 : a4.cell? ⟨w.heap.size, 2, none⟩ = some (.int .i64 x) := q2.get (i := 2) rfl
                  have e3 : a4.cell? ⟨w.heap.size, 3, none⟩ = some (.int .i64 p) := q2.get (i := 3) rfl
                  have e4 : a4.cell? ⟨w.heap.size, 4, none⟩ = some (.int .i64 t) := q2.get (i := 4) rfl
                  have e5 : a4.cell? ⟨w.heap.size, 5, none⟩ = some (.bool false) := q2.get (i := 5) rfl
                  clear q q2
                  go_wp2_with fail
                  refine (G2.out _).mono ?_
                  rintro e a5 ⟨rfl, hb5⟩
                  have F5 := Bx.mk (F4.out.below hb5)
                  clear e0 e2 e8 s0 s1 s2 e3 e4 e5
                  clear hb5 F4
                  have q := F5.out.get (B := w.heap.size + 1) (cs := reqL pt dv_ vf lf pk) (by simp)
                  have e0 : a5.cell? ⟨w.heap.size + 1, 0, none⟩ = some (.int .i64 pt) := q.get (i := 0) rfl
                  have e2 : a5.cell? ⟨w.heap.size + 1, 2, none⟩ = some (.int .i64 vf) := q.get (i := 2) rfl
                  have e8 : a5.cell? ⟨w.heap.size + 1, 3, none⟩ = some (.int .i64 lf) := q.get (i := 3) rfl
                  have q2 := F5.out.get (B := w.heap.size) (cs := sessL r code x p t false) (by simp)
                  have s0 : a5.cell? ⟨w.heap.size, 0, none⟩ = some (.int .i64 r) := q2.get (i := 0) rfl
                  have s1 : a5.cell? ⟨w.heap.size, 1, none⟩ = some (.int .i64 code) := q2.get (i := 1) rfl
                  have s2 : a5.cell? ⟨w.heap.size, 2, none⟩ = some (.int .i64 x) := q2.get (i := 2) rfl
                  have e3 : a5.cell? ⟨w.heap.size, 3, none⟩ = some (.int .i64 p) := q2.get (i := 3) rfl
                  have e4 : a5.cell? ⟨w.heap.size, 4, none⟩ = some (.int .i64 t) := q2.get (i := 4) rfl
                  have e5 : a5.cell? ⟨w.heap.size, 5, none⟩ = some (.bool false) := q2.get (i := 5) rfl
                  clear q q2
                  go_wp2_with fail
                  refine (HCk.out _).mono ?_
                  rintro e a7 ⟨rfl, hb7⟩
                  have F7 := Bx.mk (F5.out.below hb7)
                  clear e0 e2 e8 s0 s1 s2 e3 e4 e5
                  clear hb7 F5
                  have q := F7.out.get (B := w.heap.size + 1) (cs := reqL pt dv_ vf lf pk) (by simp)
                  have e0 : a7.cell? ⟨w.heap.size + 1, 0, none⟩ = some (.int .i64 pt) := q.get (i := 0) rfl
                  have e2 : a7.cell? ⟨w.heap.size + 1, 2, none⟩ = some (.int .i64 vf) := q.get (i := 2) rfl
                  have e8 : a7.cell? ⟨w.heap.size + 1, 3, none⟩ = some (.int .i64 lf) := q.get (i := 3) rfl
                  have q2 := F7.out.get (B := w.heap.size) (cs := sessL r code x p t false) (by simp)
                  have s0 : a7.cell? ⟨w.heap.size, 0, none⟩ = some (.int .i64 r) := q2.get (i := 0) rfl
                  have s1 : a7.cell? ⟨w.heap.size, 1, none⟩ = some (.int .i64 code) := q2.get (i := 1) rfl
                  have s2 : a7.cell? ⟨w.heap.size, 2, none⟩ = some (.int .i64 x) := q2.get (i := 2) rfl
                  have e3 : a7.cell? ⟨w.heap.size, 3, none⟩ = some (.int .i64 p) := q2.get (i := 3) rfl
                  have e4 : a7.cell? ⟨w.heap.size, 4, none⟩ = some (.int .i64 t) := q2.get (i := 4) rfl
                  have e5 : a7.cell? ⟨w.heap.size, 5, none⟩ = some (.bool false) := q2.get (i := 5) rfl
                  clear q q2
                  have BZ := Bx.mk F7.out.1
                  go_wp2_with fail
                  go_ret
                  exact ⟨rfl, BZ.out⟩
                · have HAx := Bx.mk (fun w hL hE => HA.out w hL hE HS1.out (by unfold openE; rw [if_neg (by omega)]; rfl) HNF.out)
                  clear HA HSO HNF HF HS1
                  unfold sessV reqV
                  unfold sessV at HCk
                  (try unfold sessV reqV at HAx)
                  go_enter Tryz.func8, Tryz.ntmps8
                  go_wp2_with (refine wpList_bxk rfl (.tmp 1) rfl (reqL pt dv_ vf lf pk) rfl ?_)
                  refine (HS.out _ (F0.out.laid HL.out) (F0.out.etype HE.out)).mono ?_
                  rintro e a1 ⟨rfl, hb1⟩
                  have F1 := Bx.mk (F0.out.below hb1)
                  have q := F1.out.get (B := w.heap.size + 1) (cs := reqL pt dv_ vf lf pk) (by simp)
                  have e1 : a1.cell? ⟨w.heap.size + 1, 1, none⟩ = some (.int .i64 dv_) := q.get (i := 1) rfl
                  clear hb1 F0 q HS
                  have q := F1.out.get (B := w.heap.size + 1) (cs := reqL pt dv_ vf lf pk) (by simp)
                  have e0 : a1.cell? ⟨w.heap.size + 1, 0, none⟩ = some (.int .i64 pt) := q.get (i := 0) rfl
                  have e2 : a1.cell? ⟨w.heap.size + 1, 2, none⟩ = some (.int .i64 vf) := q.get (i := 2) rfl
                  have e8 : a1.cell? ⟨w.heap.size + 1, 3, none⟩ = some (.int .i64 lf) := q.get (i := 3) rfl
                  have q2 := F1.out.get (B := w.heap.size) (cs := sessL r code x p t false) (by simp)
                  have s0 : a1.cell? ⟨w.heap.size, 0, none⟩ = some (.int .i64 r) := q2.get (i := 0) rfl
                  have s1 : a1.cell? ⟨w.heap.size, 1, none⟩ = some (.int .i64 code) := q2.get (i := 1) rfl
                  have s2 : a1.cell? ⟨w.heap.size, 2, none⟩ = some (.int .i64 x) := q2.get (i := 2) rfl
                  have e3 : a1.cell? ⟨w.heap.size, 3, none⟩ = some (.int .i64 p) := q2.get (i := 3) rfl
                  have e4 : a1.cell? ⟨w.heap.size, 4, none⟩ = some (.int .i64 t) := q2.get (i := 4) rfl
                  have e5 : a1.cell? ⟨w.heap.size, 5, none⟩ = some (.bool false) := q2.get (i := 5) rfl
                  clear q q2
                  go_wp2_with fail
                  refine (HO.out _).mono ?_
                  rintro e a2 ⟨rfl, rfl⟩
                  go_wp2_with fail
                  refine (G0.out _).mono ?_
                  rintro e a3 ⟨rfl, hb3⟩
                  have F3 := Bx.mk (F1.out.below hb3)
                  clear e0 e2 e8 s0 s1 s2 e3 e4 e5
                  clear hb3 F1
                  have q := F3.out.get (B := w.heap.size + 1) (cs := reqL pt dv_ vf lf pk) (by simp)
                  have e0 : a3.cell? ⟨w.heap.size + 1, 0, none⟩ = some (.int .i64 pt) := q.get (i := 0) rfl
                  have e2 : a3.cell? ⟨w.heap.size + 1, 2, none⟩ = some (.int .i64 vf) := q.get (i := 2) rfl
                  have e8 : a3.cell? ⟨w.heap.size + 1, 3, none⟩ = some (.int .i64 lf) := q.get (i := 3) rfl
                  have q2 := F3.out.get (B := w.heap.size) (cs := sessL r code x p t false) (by simp)
                  have s0 : a3.cell? ⟨w.heap.size, 0, none⟩ = some (.int .i64 r) := q2.get (i := 0) rfl
                  have s1 : a3.cell? ⟨w.heap.size, 1, none⟩ = some (.int .i64 code) := q2.get (i := 1) rfl
                  have s2 : a3.cell? ⟨w.heap.size, 2, none⟩ = some (.int .i64 x) := q2.get (i := 2) rfl
                  have e3 : a3.cell? ⟨w.heap.size, 3, none⟩ = some (.int .i64 p) := q2.get (i := 3) rfl
                  have e4 : a3.cell? ⟨w.heap.size, 4, none⟩ = some (.int .i64 t) := q2.get (i := 4) rfl
                  have e5 : a3.cell? ⟨w.heap.size, 5, none⟩ = some (.bool false) := q2.get (i := 5) rfl
                  clear q q2
                  go_wp2_with fail
                  refine (G1.out _).mono ?_
                  rintro e a4 ⟨rfl, hb4⟩
                  have F4 := Bx.mk (F3.out.below hb4)
                  clear e0 e2 e8 s0 s1 s2 e3 e4 e5
                  clear hb4 F3
                  have q := F4.out.get (B := w.heap.size + 1) (cs := reqL pt dv_ vf lf pk) (by simp)
                  have e0 : a4.cell? ⟨w.heap.size + 1, 0, none⟩ = some (.int .i64 pt) := q.get (i := 0) rfl
                  have e2 : a4.cell? ⟨w.heap.size + 1, 2, none⟩ = some (.int .i64 vf) := q.get (i := 2) rfl
                  have e8 : a4.cell? ⟨w.heap.size + 1, 3, none⟩ = some (.int .i64 lf) := q.get (i := 3) rfl
                  have q2 := F4.out.get (B := w.heap.size) (cs := sessL r code x p t false) (by simp)
                  have s0 : a4.cell? ⟨w.heap.size, 0, none⟩ = some (.int .i64 r) := q2.get (i := 0) rfl
                  have s1 : a4.cell? ⟨w.heap.size, 1, none⟩ = some (.int .i64 code) := q2.get (i := 1) rfl
                  have s2 : a4.cell? ⟨w.heap.size, 2, none⟩ = some (.int .i64 x) := q2.get (i := 2) rfl
                  have e3 : a4.cell? ⟨w.heap.size, 3, none⟩ = some (.int .i64 p) := q2.get (i := 3) rfl
                  have e4 : a4.cell? ⟨w.heap.size, 4, none⟩ = some (.int .i64 t) := q2.get (i := 4) rfl
                  have e5 : a4.cell? ⟨w.heap.size, 5, none⟩ = some (.bool false) := q2.get (i := 5) rfl
                  clear q q2
                  go_wp2_with fail
                  refine (G2.out _).mono ?_
                  rintro e a5 ⟨rfl, hb5⟩
                  have F5 := Bx.mk (F4.out.below hb5)
                  clear e0 e2 e8 s0 s1 s2 e3 e4 e5
                  clear hb5 F4
                  have q := F5.out.get (B := w.heap.size + 1) (cs := reqL pt dv_ vf lf pk) (by simp)
                  have e0 : a5.cell? ⟨w.heap.size + 1, 0, none⟩ = some (.int .i64 pt) := q.get (i := 0) rfl
                  have e2 : a5.cell? ⟨w.heap.size + 1, 2, none⟩ = some (.int .i64 vf) := q.get (i := 2) rfl
                  have e8 : a5.cell? ⟨w.heap.size + 1, 3, none⟩ = some (.int .i64 lf) := q.get (i := 3) rfl
                  have q2 := F5.out.get (B := w.heap.size) (cs := sessL r code x p t false) (by simp)
                  have s0 : a5.cell? ⟨w.heap.size, 0, none⟩ = some (.int .i64 r) := q2.get (i := 0) rfl
                  have s1 : a5.cell? ⟨w.heap.size, 1, none⟩ = some (.int .i64 code) := q2.get (i := 1) rfl
                  have s2 : a5.cell? ⟨w.heap.size, 2, none⟩ = some (.int .i64 x) := q2.get (i := 2) rfl
                  have e3 : a5.cell? ⟨w.heap.size, 3, none⟩ = some (.int .i64 p) := q2.get (i := 3) rfl
                  have e4 : a5.cell? ⟨w.heap.size, 4, none⟩ = some (.int .i64 t) := q2.get (i := 4) rfl
                  have e5 : a5.cell? ⟨w.heap.size, 5, none⟩ = some (.bool false) := q2.get (i := 5) rfl
                  clear q q2
                  go_wp2_with fail
                  refine (HCk.out _).mono ?_
                  rintro e a7 ⟨rfl, hb7⟩
                  have F7 := Bx.mk (F5.out.below hb7)
                  clear e0 e2 e8 s0 s1 s2 e3 e4 e5
                  clear hb7 F5
                  have q := F7.out.get (B := w.heap.size + 1) (cs := reqL pt dv_ vf lf pk) (by simp)
                  have e0 : a7.cell? ⟨w.heap.size + 1, 0, none⟩ = some (.int .i64 pt) := q.get (i := 0) rfl
                  have e2 : a7.cell? ⟨w.heap.size + 1, 2, none⟩ = some (.int .i64 vf) := q.get (i := 2) rfl
                  have e8 : a7.cell? ⟨w.heap.size + 1, 3, none⟩ = some (.int .i64 lf) := q.get (i := 3) rfl
                  have q2 := F7.out.get (B := w.heap.size) (cs := sessL r code x p t false) (by simp)
                  have s0 : a7.cell? ⟨w.heap.size, 0, none⟩ = some (.int .i64 r) := q2.get (i := 0) rfl
                  have s1 : a7.cell? ⟨w.heap.size, 1, none⟩ = some (.int .i64 code) := q2.get (i := 1) rfl
                  have s2 : a7.cell? ⟨w.heap.size, 2, none⟩ = some (.int .i64 x) := q2.get (i := 2) rfl
                  have e3 : a7.cell? ⟨w.heap.size, 3, none⟩ = some (.int .i64 p) := q2.get (i := 3) rfl
                  have e4 : a7.cell? ⟨w.heap.size, 4, none⟩ = some (.int .i64 t) := q2.get (i := 4) rfl
                  have e5 : a7.cell? ⟨w.heap.size, 5, none⟩ = some (.bool false) := q2.get (i := 5) rfl
                  clear q q2
                  have HQ := Bx.mk (reqL_len pt dv_ vf lf pk HK.out)
                  go_wp2_with (refine wpList_ldN rowT_req rfl (.tmp 6) rfl (w.heap.size + 1) 0 rfl (reqL pt dv_ vf lf pk) (F7.out.get (by simp)).range0 HQ.out (.agg (reqL pt dv_ vf lf pk).toArray) rfl ?_)
                  refine (HAx.out _ (F7.out.laid HL.out) (F7.out.etype HE.out)).mono ?_
                  rintro e a8 ⟨rfl, hb8⟩
                  have F8 := Bx.mk (F7.out.below hb8)
                  have tz := Bx.mk (two25 a8)
                  have hM := F8.out.2.1
                  clear hb8 F7 e0 e2 e8 s0 s1 s2 e3 e4 e5
                  go_wp2_with (refine wpList_stR rowT_sess rfl (.tmp 14) (.tmp 73) rfl a8.heap.size rfl sess0 rfl sess0_one rfl sess0 tz.out.1 rfl ?_)
                  intro a9 r9 g9
                  have zc := Bx.mk (tz.out.2.grown g9 (tz.out.2.lt (by decide)) (fun q => by have q2 : a8.heap.size + 1 = a8.heap.size := Option.some.inj q; omega))
                  have P9 := Bx.mk (((F8.out.alloc oS0).alloc (cC 0 0 0 0 0 0 0 0)).put g9 hM r9 (by show 0 < 6; decide))
                  clear r9 g9 tz F8 hM
                  refine wpList_stR rowT_cert rfl (.tmp 15) (.tmp 74) rfl (a8.heap.size + 1) rfl zC rfl (one_ints .i64 _) rfl zC zc.out rfl ?_
                  intro b9 r9 g9
                  have F9 := Bx.mk (P9.out.put g9 (Nat.le_refl _) r9 (by show 0 < 8; decide))
                  obtain ⟨C, hC⟩ : ∃ C, C = a8.heap.size + 1 := ⟨_, rfl⟩
                  rw [← hC] at F9 ⊢
                  obtain ⟨X, hX⟩ : ∃ X, X = a8.heap.size := ⟨_, rfl⟩
                  rw [← hX] at F9 ⊢
                  clear hC hX r9 g9 zc P9
                  have u := F9.out.get (B := X) (cs := sess0) (by simp)
                  have v := F9.out.get (B := C) (cs := zC) (by simp)
                  have x0 : b9.cell? ⟨X, 0, none⟩ = some (.int .i64 0) := u.get (i := 0) rfl
                  have x1 : b9.cell? ⟨X, 1, none⟩ = some (.int .i64 0) := u.get (i := 1) rfl
                  have x2 : b9.cell? ⟨X, 2, none⟩ = some (.int .i64 0) := u.get (i := 2) rfl
                  have x3 : b9.cell? ⟨X, 3, none⟩ = some (.int .i64 0) := u.get (i := 3) rfl
                  have x4 : b9.cell? ⟨X, 4, none⟩ = some (.int .i64 0) := u.get (i := 4) rfl
                  have x5 : b9.cell? ⟨X, 5, none⟩ = some (.bool false) := u.get (i := 5) rfl
                  have y0 : b9.cell? ⟨C, 0, none⟩ = some (.int .i64 0) := v.get (i := 0) rfl
                  have y1 : b9.cell? ⟨C, 1, none⟩ = some (.int .i64 0) := v.get (i := 1) rfl
                  have y2 : b9.cell? ⟨C, 2, none⟩ = some (.int .i64 0) := v.get (i := 2) rfl
                  have y3 : b9.cell? ⟨C, 3, none⟩ = some (.int .i64 0) := v.get (i := 3) rfl
                  have y4 : b9.cell? ⟨C, 4, none⟩ = some (.int .i64 0) := v.get (i := 4) rfl
                  have y5 : b9.cell? ⟨C, 5, none⟩ = some (.int .i64 0) := v.get (i := 5) rfl
                  have y6 : b9.cell? ⟨C, 6, none⟩ = some (.int .i64 0) := v.get (i := 6) rfl
                  have y7 : b9.cell? ⟨C, 7, none⟩ = some (.int .i64 0) := v.get (i := 7) rfl
                  have BZ := Bx.mk F9.out.1
                  have h1 := eq_sess0 b9
                  have h2 := eq_cert0 b9
                  clear u v F9
                  go_wp2_with fail
                  go_ret
                  exact ⟨rfl, BZ.out⟩
          | true =>
            rw [gcheck_0 h4] at G2
            clear h4 HA HSO HF
            unfold sessV reqV
            unfold sessV at HCk
            (try unfold sessV reqV at HAx)
            go_enter Tryz.func8, Tryz.ntmps8
            go_wp2_with (refine wpList_bxk rfl (.tmp 1) rfl (reqL pt dv_ vf lf pk) rfl ?_)
            refine (HS.out _ (F0.out.laid HL.out) (F0.out.etype HE.out)).mono ?_
            rintro e a1 ⟨rfl, hb1⟩
            have F1 := Bx.mk (F0.out.below hb1)
            have q := F1.out.get (B := w.heap.size + 1) (cs := reqL pt dv_ vf lf pk) (by simp)
            have e1 : a1.cell? ⟨w.heap.size + 1, 1, none⟩ = some (.int .i64 dv_) := q.get (i := 1) rfl
            clear hb1 F0 q HS
            have q := F1.out.get (B := w.heap.size + 1) (cs := reqL pt dv_ vf lf pk) (by simp)
            have e0 : a1.cell? ⟨w.heap.size + 1, 0, none⟩ = some (.int .i64 pt) := q.get (i := 0) rfl
            have e2 : a1.cell? ⟨w.heap.size + 1, 2, none⟩ = some (.int .i64 vf) := q.get (i := 2) rfl
            have e8 : a1.cell? ⟨w.heap.size + 1, 3, none⟩ = some (.int .i64 lf) := q.get (i := 3) rfl
            have q2 := F1.out.get (B := w.heap.size) (cs := sessL r code x p t d) (by simp)
            have s0 : a1.cell? ⟨w.heap.size, 0, none⟩ = some (.int .i64 r) := q2.get (i := 0) rfl
            have s1 : a1.cell? ⟨w.heap.size, 1, none⟩ = some (.int .i64 code) := q2.get (i := 1) rfl
            have s2 : a1.cell? ⟨w.heap.size, 2, none⟩ = some (.int .i64 x) := q2.get (i := 2) rfl
            have e3 : a1.cell? ⟨w.heap.size, 3, none⟩ = some (.int .i64 p) := q2.get (i := 3) rfl
            have e4 : a1.cell? ⟨w.heap.size, 4, none⟩ = some (.int .i64 t) := q2.get (i := 4) rfl
            have e5 : a1.cell? ⟨w.heap.size, 5, none⟩ = some (.bool d) := q2.get (i := 5) rfl
            clear q q2
            go_wp2_with fail
            refine (HO.out _).mono ?_
            rintro e a2 ⟨rfl, rfl⟩
            go_wp2_with fail
            refine (G0.out _).mono ?_
            rintro e a3 ⟨rfl, hb3⟩
            have F3 := Bx.mk (F1.out.below hb3)
            clear e0 e2 e8 s0 s1 s2 e3 e4 e5
            clear hb3 F1
            have q := F3.out.get (B := w.heap.size + 1) (cs := reqL pt dv_ vf lf pk) (by simp)
            have e0 : a3.cell? ⟨w.heap.size + 1, 0, none⟩ = some (.int .i64 pt) := q.get (i := 0) rfl
            have e2 : a3.cell? ⟨w.heap.size + 1, 2, none⟩ = some (.int .i64 vf) := q.get (i := 2) rfl
            have e8 : a3.cell? ⟨w.heap.size + 1, 3, none⟩ = some (.int .i64 lf) := q.get (i := 3) rfl
            have q2 := F3.out.get (B := w.heap.size) (cs := sessL r code x p t d) (by simp)
            have s0 : a3.cell? ⟨w.heap.size, 0, none⟩ = some (.int .i64 r) := q2.get (i := 0) rfl
            have s1 : a3.cell? ⟨w.heap.size, 1, none⟩ = some (.int .i64 code) := q2.get (i := 1) rfl
            have s2 : a3.cell? ⟨w.heap.size, 2, none⟩ = some (.int .i64 x) := q2.get (i := 2) rfl
            have e3 : a3.cell? ⟨w.heap.size, 3, none⟩ = some (.int .i64 p) := q2.get (i := 3) rfl
            have e4 : a3.cell? ⟨w.heap.size, 4, none⟩ = some (.int .i64 t) := q2.get (i := 4) rfl
            have e5 : a3.cell? ⟨w.heap.size, 5, none⟩ = some (.bool d) := q2.get (i := 5) rfl
            clear q q2
            go_wp2_with fail
            refine (G1.out _).mono ?_
            rintro e a4 ⟨rfl, hb4⟩
            have F4 := Bx.mk (F3.out.below hb4)
            clear e0 e2 e8 s0 s1 s2 e3 e4 e5
            clear hb4 F3
            have q := F4.out.get (B := w.heap.size + 1) (cs := reqL pt dv_ vf lf pk) (by simp)
            have e0 : a4.cell? ⟨w.heap.size + 1, 0, none⟩ = some (.int .i64 pt) := q.get (i := 0) rfl
            have e2 : a4.cell? ⟨w.heap.size + 1, 2, none⟩ = some (.int .i64 vf) := q.get (i := 2) rfl
            have e8 : a4.cell? ⟨w.heap.size + 1, 3, none⟩ = some (.int .i64 lf) := q.get (i := 3) rfl
            have q2 := F4.out.get (B := w.heap.size) (cs := sessL r code x p t d) (by simp)
            have s0 : a4.cell? ⟨w.heap.size, 0, none⟩ = some (.int .i64 r) := q2.get (i := 0) rfl
            have s1 : a4.cell? ⟨w.heap.size, 1, none⟩ = some (.int .i64 code) := q2.get (i := 1) rfl
            have s2 : a4.cell? ⟨w.heap.size, 2, none⟩ = some (.int .i64 x) := q2.get (i := 2) rfl
            have e3 : a4.cell? ⟨w.heap.size, 3, none⟩ = some (.int .i64 p) := q2.get (i := 3) rfl
            have e4 : a4.cell? ⟨w.heap.size, 4, none⟩ = some (.int .i64 t) := q2.get (i := 4) rfl
            have e5 : a4.cell? ⟨w.heap.size, 5, none⟩ = some (.bool d) := q2.get (i := 5) rfl
            clear q q2
            go_wp2_with fail
            refine (G2.out _).mono ?_
            rintro e a5 ⟨rfl, hb5⟩
            have F5 := Bx.mk (F4.out.below hb5)
            clear e0 e2 e8 s0 s1 s2 e3 e4 e5
            clear hb5 F4
            have q := F5.out.get (B := w.heap.size + 1) (cs := reqL pt dv_ vf lf pk) (by simp)
            have e0 : a5.cell? ⟨w.heap.size + 1, 0, none⟩ = some (.int .i64 pt) := q.get (i := 0) rfl
            have e2 : a5.cell? ⟨w.heap.size + 1, 2, none⟩ = some (.int .i64 vf) := q.get (i := 2) rfl
            have e8 : a5.cell? ⟨w.heap.size + 1, 3, none⟩ = some (.int .i64 lf) := q.get (i := 3) rfl
            have q2 := F5.out.get (B := w.heap.size) (cs := sessL r code x p t d) (by simp)
            have s0 : a5.cell? ⟨w.heap.size, 0, none⟩ = some (.int .i64 r) := q2.get (i := 0) rfl
            have s1 : a5.cell? ⟨w.heap.size, 1, none⟩ = some (.int .i64 code) := q2.get (i := 1) rfl
            have s2 : a5.cell? ⟨w.heap.size, 2, none⟩ = some (.int .i64 x) := q2.get (i := 2) rfl
            have e3 : a5.cell? ⟨w.heap.size, 3, none⟩ = some (.int .i64 p) := q2.get (i := 3) rfl
            have e4 : a5.cell? ⟨w.heap.size, 4, none⟩ = some (.int .i64 t) := q2.get (i := 4) rfl
            have e5 : a5.cell? ⟨w.heap.size, 5, none⟩ = some (.bool d) := q2.get (i := 5) rfl
            clear q q2
            have BZ := Bx.mk F5.out.1
            go_wp2_with fail
            go_ret
            exact ⟨rfl, BZ.out⟩
    · have HD1 := Bx.mk h1
      have HNF := Bx.mk (show fitsB p pt dv_ vf lf = false by
        cases h : fitsB p pt dv_ vf lf
        · rfl
        · exact absurd (HF.out.1 h) (by rintro ⟨_, h2, _⟩; exact HD1.out (HOw.out.trans h2)))
      cases hs : sessOK r code x p t with
      | false =>
        rw [hs] at HCk
        simp only [Bool.false_eq_true, if_false] at HCk
        clear HA HSO hs HNF HF
        unfold sessV reqV
        unfold sessV at HCk
        (try unfold sessV reqV at HAx)
        go_enter Tryz.func8, Tryz.ntmps8
        go_wp2_with (refine wpList_bxk rfl (.tmp 1) rfl (reqL pt dv_ vf lf pk) rfl ?_)
        refine (HS.out _ (F0.out.laid HL.out) (F0.out.etype HE.out)).mono ?_
        rintro e a1 ⟨rfl, hb1⟩
        have F1 := Bx.mk (F0.out.below hb1)
        have q := F1.out.get (B := w.heap.size + 1) (cs := reqL pt dv_ vf lf pk) (by simp)
        have e1 : a1.cell? ⟨w.heap.size + 1, 1, none⟩ = some (.int .i64 dv_) := q.get (i := 1) rfl
        clear hb1 F0 q HS
        have q := F1.out.get (B := w.heap.size + 1) (cs := reqL pt dv_ vf lf pk) (by simp)
        have e0 : a1.cell? ⟨w.heap.size + 1, 0, none⟩ = some (.int .i64 pt) := q.get (i := 0) rfl
        have e2 : a1.cell? ⟨w.heap.size + 1, 2, none⟩ = some (.int .i64 vf) := q.get (i := 2) rfl
        have e8 : a1.cell? ⟨w.heap.size + 1, 3, none⟩ = some (.int .i64 lf) := q.get (i := 3) rfl
        have q2 := F1.out.get (B := w.heap.size) (cs := sessL r code x p t d) (by simp)
        have s0 : a1.cell? ⟨w.heap.size, 0, none⟩ = some (.int .i64 r) := q2.get (i := 0) rfl
        have s1 : a1.cell? ⟨w.heap.size, 1, none⟩ = some (.int .i64 code) := q2.get (i := 1) rfl
        have s2 : a1.cell? ⟨w.heap.size, 2, none⟩ = some (.int .i64 x) := q2.get (i := 2) rfl
        have e3 : a1.cell? ⟨w.heap.size, 3, none⟩ = some (.int .i64 p) := q2.get (i := 3) rfl
        have e4 : a1.cell? ⟨w.heap.size, 4, none⟩ = some (.int .i64 t) := q2.get (i := 4) rfl
        have e5 : a1.cell? ⟨w.heap.size, 5, none⟩ = some (.bool d) := q2.get (i := 5) rfl
        clear q q2
        go_wp2_with fail
        refine (HO.out _).mono ?_
        rintro e a2 ⟨rfl, rfl⟩
        go_wp2_with fail
        refine (HCk.out _).mono ?_
        rintro e a7 ⟨rfl, hb7⟩
        have F7 := Bx.mk (F1.out.below hb7)
        clear e0 e2 e8 s0 s1 s2 e3 e4 e5
        clear hb7 F1
        have q := F7.out.get (B := w.heap.size + 1) (cs := reqL pt dv_ vf lf pk) (by simp)
        have e0 : a7.cell? ⟨w.heap.size + 1, 0, none⟩ = some (.int .i64 pt) := q.get (i := 0) rfl
        have e2 : a7.cell? ⟨w.heap.size + 1, 2, none⟩ = some (.int .i64 vf) := q.get (i := 2) rfl
        have e8 : a7.cell? ⟨w.heap.size + 1, 3, none⟩ = some (.int .i64 lf) := q.get (i := 3) rfl
        have q2 := F7.out.get (B := w.heap.size) (cs := sessL r code x p t d) (by simp)
        have s0 : a7.cell? ⟨w.heap.size, 0, none⟩ = some (.int .i64 r) := q2.get (i := 0) rfl
        have s1 : a7.cell? ⟨w.heap.size, 1, none⟩ = some (.int .i64 code) := q2.get (i := 1) rfl
        have s2 : a7.cell? ⟨w.heap.size, 2, none⟩ = some (.int .i64 x) := q2.get (i := 2) rfl
        have e3 : a7.cell? ⟨w.heap.size, 3, none⟩ = some (.int .i64 p) := q2.get (i := 3) rfl
        have e4 : a7.cell? ⟨w.heap.size, 4, none⟩ = some (.int .i64 t) := q2.get (i := 4) rfl
        have e5 : a7.cell? ⟨w.heap.size, 5, none⟩ = some (.bool d) := q2.get (i := 5) rfl
        clear q q2
        have BZ := Bx.mk F7.out.1
        go_wp2_with fail
        go_ret
        exact ⟨rfl, BZ.out⟩
      | true =>
        rw [hs] at HCk
        simp only [if_true] at HCk
        have HS1 := Bx.mk hs
        clear hs
        cases d with
        | true =>
          clear HA HSO HNF HF HS1
          unfold sessV reqV
          unfold sessV at HCk
          (try unfold sessV reqV at HAx)
          go_enter Tryz.func8, Tryz.ntmps8
          go_wp2_with (refine wpList_bxk rfl (.tmp 1) rfl (reqL pt dv_ vf lf pk) rfl ?_)
          refine (HS.out _ (F0.out.laid HL.out) (F0.out.etype HE.out)).mono ?_
          rintro e a1 ⟨rfl, hb1⟩
          have F1 := Bx.mk (F0.out.below hb1)
          have q := F1.out.get (B := w.heap.size + 1) (cs := reqL pt dv_ vf lf pk) (by simp)
          have e1 : a1.cell? ⟨w.heap.size + 1, 1, none⟩ = some (.int .i64 dv_) := q.get (i := 1) rfl
          clear hb1 F0 q HS
          have q := F1.out.get (B := w.heap.size + 1) (cs := reqL pt dv_ vf lf pk) (by simp)
          have e0 : a1.cell? ⟨w.heap.size + 1, 0, none⟩ = some (.int .i64 pt) := q.get (i := 0) rfl
          have e2 : a1.cell? ⟨w.heap.size + 1, 2, none⟩ = some (.int .i64 vf) := q.get (i := 2) rfl
          have e8 : a1.cell? ⟨w.heap.size + 1, 3, none⟩ = some (.int .i64 lf) := q.get (i := 3) rfl
          have q2 := F1.out.get (B := w.heap.size) (cs := sessL r code x p t true) (by simp)
          have s0 : a1.cell? ⟨w.heap.size, 0, none⟩ = some (.int .i64 r) := q2.get (i := 0) rfl
          have s1 : a1.cell? ⟨w.heap.size, 1, none⟩ = some (.int .i64 code) := q2.get (i := 1) rfl
          have s2 : a1.cell? ⟨w.heap.size, 2, none⟩ = some (.int .i64 x) := q2.get (i := 2) rfl
          have e3 : a1.cell? ⟨w.heap.size, 3, none⟩ = some (.int .i64 p) := q2.get (i := 3) rfl
          have e4 : a1.cell? ⟨w.heap.size, 4, none⟩ = some (.int .i64 t) := q2.get (i := 4) rfl
          have e5 : a1.cell? ⟨w.heap.size, 5, none⟩ = some (.bool true) := q2.get (i := 5) rfl
          clear q q2
          go_wp2_with fail
          refine (HO.out _).mono ?_
          rintro e a2 ⟨rfl, rfl⟩
          go_wp2_with fail
          refine (HCk.out _).mono ?_
          rintro e a7 ⟨rfl, hb7⟩
          have F7 := Bx.mk (F1.out.below hb7)
          clear e0 e2 e8 s0 s1 s2 e3 e4 e5
          clear hb7 F1
          have q := F7.out.get (B := w.heap.size + 1) (cs := reqL pt dv_ vf lf pk) (by simp)
          have e0 : a7.cell? ⟨w.heap.size + 1, 0, none⟩ = some (.int .i64 pt) := q.get (i := 0) rfl
          have e2 : a7.cell? ⟨w.heap.size + 1, 2, none⟩ = some (.int .i64 vf) := q.get (i := 2) rfl
          have e8 : a7.cell? ⟨w.heap.size + 1, 3, none⟩ = some (.int .i64 lf) := q.get (i := 3) rfl
          have q2 := F7.out.get (B := w.heap.size) (cs := sessL r code x p t true) (by simp)
          have s0 : a7.cell? ⟨w.heap.size, 0, none⟩ = some (.int .i64 r) := q2.get (i := 0) rfl
          have s1 : a7.cell? ⟨w.heap.size, 1, none⟩ = some (.int .i64 code) := q2.get (i := 1) rfl
          have s2 : a7.cell? ⟨w.heap.size, 2, none⟩ = some (.int .i64 x) := q2.get (i := 2) rfl
          have e3 : a7.cell? ⟨w.heap.size, 3, none⟩ = some (.int .i64 p) := q2.get (i := 3) rfl
          have e4 : a7.cell? ⟨w.heap.size, 4, none⟩ = some (.int .i64 t) := q2.get (i := 4) rfl
          have e5 : a7.cell? ⟨w.heap.size, 5, none⟩ = some (.bool true) := q2.get (i := 5) rfl
          clear q q2
          have BZ := Bx.mk F7.out.1
          go_wp2_with fail
          go_ret
          exact ⟨rfl, BZ.out⟩
        | false =>
          by_cases ht : 5 ≤ t
          · clear HA HSO HNF HF HS1
            unfold sessV reqV
            unfold sessV at HCk
            (try unfold sessV reqV at HAx)
            go_enter Tryz.func8, Tryz.ntmps8
            go_wp2_with (refine wpList_bxk rfl (.tmp 1) rfl (reqL pt dv_ vf lf pk) rfl ?_)
            refine (HS.out _ (F0.out.laid HL.out) (F0.out.etype HE.out)).mono ?_
            rintro e a1 ⟨rfl, hb1⟩
            have F1 := Bx.mk (F0.out.below hb1)
            have q := F1.out.get (B := w.heap.size + 1) (cs := reqL pt dv_ vf lf pk) (by simp)
            have e1 : a1.cell? ⟨w.heap.size + 1, 1, none⟩ = some (.int .i64 dv_) := q.get (i := 1) rfl
            clear hb1 F0 q HS
            have q := F1.out.get (B := w.heap.size + 1) (cs := reqL pt dv_ vf lf pk) (by simp)
            have e0 : a1.cell? ⟨w.heap.size + 1, 0, none⟩ = some (.int .i64 pt) := q.get (i := 0) rfl
            have e2 : a1.cell? ⟨w.heap.size + 1, 2, none⟩ = some (.int .i64 vf) := q.get (i := 2) rfl
            have e8 : a1.cell? ⟨w.heap.size + 1, 3, none⟩ = some (.int .i64 lf) := q.get (i := 3) rfl
            have q2 := F1.out.get (B := w.heap.size) (cs := sessL r code x p t false) (by simp)
            have s0 : a1.cell? ⟨w.heap.size, 0, none⟩ = some (.int .i64 r) := q2.get (i := 0) rfl
            have s1 : a1.cell? ⟨w.heap.size, 1, none⟩ = some (.int .i64 code) := q2.get (i := 1) rfl
            have s2 : a1.cell? ⟨w.heap.size, 2, none⟩ = some (.int .i64 x) := q2.get (i := 2) rfl
            have e3 : a1.cell? ⟨w.heap.size, 3, none⟩ = some (.int .i64 p) := q2.get (i := 3) rfl
            have e4 : a1.cell? ⟨w.heap.size, 4, none⟩ = some (.int .i64 t) := q2.get (i := 4) rfl
            have e5 : a1.cell? ⟨w.heap.size, 5, none⟩ = some (.bool false) := q2.get (i := 5) rfl
            clear q q2
            go_wp2_with fail
            refine (HO.out _).mono ?_
            rintro e a2 ⟨rfl, rfl⟩
            go_wp2_with fail
            refine (HCk.out _).mono ?_
            rintro e a7 ⟨rfl, hb7⟩
            have F7 := Bx.mk (F1.out.below hb7)
            clear e0 e2 e8 s0 s1 s2 e3 e4 e5
            clear hb7 F1
            have q := F7.out.get (B := w.heap.size + 1) (cs := reqL pt dv_ vf lf pk) (by simp)
            have e0 : a7.cell? ⟨w.heap.size + 1, 0, none⟩ = some (.int .i64 pt) := q.get (i := 0) rfl
            have e2 : a7.cell? ⟨w.heap.size + 1, 2, none⟩ = some (.int .i64 vf) := q.get (i := 2) rfl
            have e8 : a7.cell? ⟨w.heap.size + 1, 3, none⟩ = some (.int .i64 lf) := q.get (i := 3) rfl
            have q2 := F7.out.get (B := w.heap.size) (cs := sessL r code x p t false) (by simp)
            have s0 : a7.cell? ⟨w.heap.size, 0, none⟩ = some (.int .i64 r) := q2.get (i := 0) rfl
            have s1 : a7.cell? ⟨w.heap.size, 1, none⟩ = some (.int .i64 code) := q2.get (i := 1) rfl
            have s2 : a7.cell? ⟨w.heap.size, 2, none⟩ = some (.int .i64 x) := q2.get (i := 2) rfl
            have e3 : a7.cell? ⟨w.heap.size, 3, none⟩ = some (.int .i64 p) := q2.get (i := 3) rfl
            have e4 : a7.cell? ⟨w.heap.size, 4, none⟩ = some (.int .i64 t) := q2.get (i := 4) rfl
            have e5 : a7.cell? ⟨w.heap.size, 5, none⟩ = some (.bool false) := q2.get (i := 5) rfl
            clear q q2
            have BZ := Bx.mk F7.out.1
            go_wp2_with fail
            go_ret
            exact ⟨rfl, BZ.out⟩
          · have HAx := Bx.mk (fun w hL hE => HA.out w hL hE HS1.out (by unfold openE; rw [if_neg (by omega)]; rfl) HNF.out)
            clear HA HSO HNF HF HS1
            unfold sessV reqV
            unfold sessV at HCk
            (try unfold sessV reqV at HAx)
            go_enter Tryz.func8, Tryz.ntmps8
            go_wp2_with (refine wpList_bxk rfl (.tmp 1) rfl (reqL pt dv_ vf lf pk) rfl ?_)
            refine (HS.out _ (F0.out.laid HL.out) (F0.out.etype HE.out)).mono ?_
            rintro e a1 ⟨rfl, hb1⟩
            have F1 := Bx.mk (F0.out.below hb1)
            have q := F1.out.get (B := w.heap.size + 1) (cs := reqL pt dv_ vf lf pk) (by simp)
            have e1 : a1.cell? ⟨w.heap.size + 1, 1, none⟩ = some (.int .i64 dv_) := q.get (i := 1) rfl
            clear hb1 F0 q HS
            have q := F1.out.get (B := w.heap.size + 1) (cs := reqL pt dv_ vf lf pk) (by simp)
            have e0 : a1.cell? ⟨w.heap.size + 1, 0, none⟩ = some (.int .i64 pt) := q.get (i := 0) rfl
            have e2 : a1.cell? ⟨w.heap.size + 1, 2, none⟩ = some (.int .i64 vf) := q.get (i := 2) rfl
            have e8 : a1.cell? ⟨w.heap.size + 1, 3, none⟩ = some (.int .i64 lf) := q.get (i := 3) rfl
            have q2 := F1.out.get (B := w.heap.size) (cs := sessL r code x p t false) (by simp)
            have s0 : a1.cell? ⟨w.heap.size, 0, none⟩ = some (.int .i64 r) := q2.get (i := 0) rfl
            have s1 : a1.cell? ⟨w.heap.size, 1, none⟩ = some (.int .i64 code) := q2.get (i := 1) rfl
            have s2 : a1.cell? ⟨w.heap.size, 2, none⟩ = some (.int .i64 x) := q2.get (i := 2) rfl
            have e3 : a1.cell? ⟨w.heap.size, 3, none⟩ = some (.int .i64 p) := q2.get (i := 3) rfl
            have e4 : a1.cell? ⟨w.heap.size, 4, none⟩ = some (.int .i64 t) := q2.get (i := 4) rfl
            have e5 : a1.cell? ⟨w.heap.size, 5, none⟩ = some (.bool false) := q2.get (i := 5) rfl
            clear q q2
            go_wp2_with fail
            refine (HO.out _).mono ?_
            rintro e a2 ⟨rfl, rfl⟩
            go_wp2_with fail
            refine (HCk.out _).mono ?_
            rintro e a7 ⟨rfl, hb7⟩
            have F7 := Bx.mk (F1.out.below hb7)
            clear e0 e2 e8 s0 s1 s2 e3 e4 e5
            clear hb7 F1
            have q := F7.out.get (B := w.heap.size + 1) (cs := reqL pt dv_ vf lf pk) (by simp)
            have e0 : a7.cell? ⟨w.heap.size + 1, 0, none⟩ = some (.int .i64 pt) := q.get (i := 0) rfl
            have e2 : a7.cell? ⟨w.heap.size + 1, 2, none⟩ = some (.int .i64 vf) := q.get (i := 2) rfl
            have e8 : a7.cell? ⟨w.heap.size + 1, 3, none⟩ = some (.int .i64 lf) := q.get (i := 3) rfl
            have q2 := F7.out.get (B := w.heap.size) (cs := sessL r code x p t false) (by simp)
            have s0 : a7.cell? ⟨w.heap.size, 0, none⟩ = some (.int .i64 r) := q2.get (i := 0) rfl
            have s1 : a7.cell? ⟨w.heap.size, 1, none⟩ = some (.int .i64 code) := q2.get (i := 1) rfl
            have s2 : a7.cell? ⟨w.heap.size, 2, none⟩ = some (.int .i64 x) := q2.get (i := 2) rfl
            have e3 : a7.cell? ⟨w.heap.size, 3, none⟩ = some (.int .i64 p) := q2.get (i := 3) rfl
            have e4 : a7.cell? ⟨w.heap.size, 4, none⟩ = some (.int .i64 t) := q2.get (i := 4) rfl
            have e5 : a7.cell? ⟨w.heap.size, 5, none⟩ = some (.bool false) := q2.get (i := 5) rfl
            clear q q2
            have HQ := Bx.mk (reqL_len pt dv_ vf lf pk HK.out)
            go_wp2_with (refine wpList_ldN rowT_req rfl (.tmp 6) rfl (w.heap.size + 1) 0 rfl (reqL pt dv_ vf lf pk) (F7.out.get (by simp)).range0 HQ.out (.agg (reqL pt dv_ vf lf pk).toArray) rfl ?_)
            refine (HAx.out _ (F7.out.laid HL.out) (F7.out.etype HE.out)).mono ?_
            rintro e a8 ⟨rfl, hb8⟩
            have F8 := Bx.mk (F7.out.below hb8)
            have tz := Bx.mk (two25 a8)
            have hM := F8.out.2.1
            clear hb8 F7 e0 e2 e8 s0 s1 s2 e3 e4 e5
            go_wp2_with (refine wpList_stR rowT_sess rfl (.tmp 14) (.tmp 73) rfl a8.heap.size rfl sess0 rfl sess0_one rfl sess0 tz.out.1 rfl ?_)
            intro a9 r9 g9
            have zc := Bx.mk (tz.out.2.grown g9 (tz.out.2.lt (by decide)) (fun q => by have q2 : a8.heap.size + 1 = a8.heap.size := Option.some.inj q; omega))
            have P9 := Bx.mk (((F8.out.alloc oS0).alloc (cC 0 0 0 0 0 0 0 0)).put g9 hM r9 (by show 0 < 6; decide))
            clear r9 g9 tz F8 hM
            refine wpList_stR rowT_cert rfl (.tmp 15) (.tmp 74) rfl (a8.heap.size + 1) rfl zC rfl (one_ints .i64 _) rfl zC zc.out rfl ?_
            intro b9 r9 g9
            have F9 := Bx.mk (P9.out.put g9 (Nat.le_refl _) r9 (by show 0 < 8; decide))
            obtain ⟨C, hC⟩ : ∃ C, C = a8.heap.size + 1 := ⟨_, rfl⟩
            rw [← hC] at F9 ⊢
            obtain ⟨X, hX⟩ : ∃ X, X = a8.heap.size := ⟨_, rfl⟩
            rw [← hX] at F9 ⊢
            clear hC hX r9 g9 zc P9
            have u := F9.out.get (B := X) (cs := sess0) (by simp)
            have v := F9.out.get (B := C) (cs := zC) (by simp)
            have x0 : b9.cell? ⟨X, 0, none⟩ = some (.int .i64 0) := u.get (i := 0) rfl
            have x1 : b9.cell? ⟨X, 1, none⟩ = some (.int .i64 0) := u.get (i := 1) rfl
            have x2 : b9.cell? ⟨X, 2, none⟩ = some (.int .i64 0) := u.get (i := 2) rfl
            have x3 : b9.cell? ⟨X, 3, none⟩ = some (.int .i64 0) := u.get (i := 3) rfl
            have x4 : b9.cell? ⟨X, 4, none⟩ = some (.int .i64 0) := u.get (i := 4) rfl
            have x5 : b9.cell? ⟨X, 5, none⟩ = some (.bool false) := u.get (i := 5) rfl
            have y0 : b9.cell? ⟨C, 0, none⟩ = some (.int .i64 0) := v.get (i := 0) rfl
            have y1 : b9.cell? ⟨C, 1, none⟩ = some (.int .i64 0) := v.get (i := 1) rfl
            have y2 : b9.cell? ⟨C, 2, none⟩ = some (.int .i64 0) := v.get (i := 2) rfl
            have y3 : b9.cell? ⟨C, 3, none⟩ = some (.int .i64 0) := v.get (i := 3) rfl
            have y4 : b9.cell? ⟨C, 4, none⟩ = some (.int .i64 0) := v.get (i := 4) rfl
            have y5 : b9.cell? ⟨C, 5, none⟩ = some (.int .i64 0) := v.get (i := 5) rfl
            have y6 : b9.cell? ⟨C, 6, none⟩ = some (.int .i64 0) := v.get (i := 6) rfl
            have y7 : b9.cell? ⟨C, 7, none⟩ = some (.int .i64 0) := v.get (i := 7) rfl
            have BZ := Bx.mk F9.out.1
            have h1 := eq_sess0 b9
            have h2 := eq_cert0 b9
            clear u v F9
            go_wp2_with fail
            go_ret
            exact ⟨rfl, BZ.out⟩
end Go.Proofs.YtjbojoeafdkkeaaGreatDoor
