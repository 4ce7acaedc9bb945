/- EnrollExact: the ways on which the law asks nothing. -/
import Derived.Test.YtjbojoeafdkkeaaGreatDoorJx1
set_option linter.unusedVariables false
set_option linter.unusedSimpArgs false
namespace Go.Proofs.YtjbojoeafdkkeaaGreatDoor
open Go Go.RowKit Go.Lib

section
attribute [local irreducible] World.setCell World.setCells World.alloc

set_option maxHeartbeats 32000000 in
set_option maxRecDepth 100000 in
theorem exact_x0 (r code x p t : Int) (d : Bool) (pt dv_ vf lf : Int) (pk : List Int) (hpk : pk.length = 32) (ver bY priv : Int) (i1 : i64R pt) (i2 : i64R vf) (i3 : i64R lf) (i4 : i64R dv_) (i5 : i64R ver) (i6 : i64R bY) (w : World) (hL : Laid w) (hE : EType w) (hs : sessOK r code x p t = false) :
    Calls Tryz.prog 7 #[sessV r code x p t d, reqV pt dv_ vf lf pk, .int .i64 ver, .int .i64 bY, .int .i64 priv] w fun e w' => e = .returned (.bool true) ∧ Below w.heap.size w w' := by
  have HS := Bx.mk (fun w hL hE => sane38_c w hL hE)
  have HO := Bx.mk (fun w => owner_c dv_ w)
  have G0 := Bx.mk (fun w => gcheck_c pt w i1.1 i1.2)
  have G1 := Bx.mk (fun w => gcheck_c vf w i2.1 i2.2)
  have G2 := Bx.mk (fun w => gcheck_c lf w i3.1 i3.2)
  have HCk := Bx.mk (fun w => echeck_c r code x p t d w)
  have F0 := Bx.mk (fs_args w r code x p t d pt dv_ vf lf pk)
  have HL := Bx.mk hL; have HE := Bx.mk hE
  have HK := Bx.mk hpk
  clear hL hE hpk i1 i2 i3 i4 i5 i6
  rw [hs] at HCk
  simp only [Bool.false_eq_true, if_false] at HCk
  clear hs G0 G1 G2 HK
  obtain ⟨ov, hov⟩ : ∃ a b, ownV dv_ = .tuple #[.int .i64 a, .int .i64 b] := by unfold ownV; split <;> exact ⟨_, _, rfl⟩
  obtain ⟨oe, hov⟩ := hov
  rw [hov] at HO
  clear hov
  unfold sessV reqV
  unfold sessV at HCk
  (try unfold sessV reqV at HAx)
  go_enter Tryz.func7, Tryz.ntmps7
  go_wp2_with (refine wpList_bxk rfl (.tmp 1) rfl (reqL pt dv_ vf lf pk) rfl ?_)
  refine (HS.out _ (F0.out.laid HL.out) (F0.out.etype HE.out)).mono ?_
  rintro e a1 ⟨rfl, hb1⟩
  have F1 := Bx.mk (F0.out.below hb1)
  clear hb1 F0 HS
  have q := F1.out.get (B := w.heap.size + 1) (cs := reqL pt dv_ vf lf pk) (by simp)
  have e0 : a1.cell? ⟨w.heap.size + 1, 0, none⟩ = some (.int .i64 pt) := q.get (i := 0) rfl
  have e1 : a1.cell? ⟨w.heap.size + 1, 1, none⟩ = some (.int .i64 dv_) := q.get (i := 1) rfl
  have e2 : a1.cell? ⟨w.heap.size + 1, 2, none⟩ = some (.int .i64 vf) := q.get (i := 2) rfl
  have e8 : a1.cell? ⟨w.heap.size + 1, 3, none⟩ = some (.int .i64 lf) := q.get (i := 3) rfl
  have q2 := F1.out.get (B := w.heap.size) (cs := sessL r code x p t d) (by simp)
  have s0 : a1.cell? ⟨w.heap.size, 0, none⟩ = some (.int .i64 r) := q2.get (i := 0) rfl
  have s1 : a1.cell? ⟨w.heap.size, 1, none⟩ = some (.int .i64 code) := q2.get (i := 1) rfl
  have s2 : a1.cell? ⟨w.heap.size, 2, none⟩ = some (.int .i64 x) := q2.get (i := 2) rfl
  have e3 : a1.cell? ⟨w.heap.size, 3, none⟩ = some (.int .i64 p) := q2.get (i := 3) rfl
  have e4 : a1.cell? ⟨w.heap.size, 4, none⟩ = some (.int .i64 t) := q2.get (i := 4) rfl
  have e5 : a1.cell? ⟨w.heap.size, 5, none⟩ = some (.bool d) := q2.get (i := 5) rfl
  clear q q2
  go_wp2_with fail
  refine (HO.out _).mono ?_
  rintro e a2 ⟨rfl, rfl⟩
  go_wp2_with fail
  refine (HCk.out _).mono ?_
  rintro e a7 ⟨rfl, hb7⟩
  have F7 := Bx.mk (F1.out.below hb7)
  clear e0 e1 e2 e8 s0 s1 s2 e3 e4 e5
  clear hb7 F1
  have q := F7.out.get (B := w.heap.size + 1) (cs := reqL pt dv_ vf lf pk) (by simp)
  have e0 : a7.cell? ⟨w.heap.size + 1, 0, none⟩ = some (.int .i64 pt) := q.get (i := 0) rfl
  have e1 : a7.cell? ⟨w.heap.size + 1, 1, none⟩ = some (.int .i64 dv_) := q.get (i := 1) rfl
  have e2 : a7.cell? ⟨w.heap.size + 1, 2, none⟩ = some (.int .i64 vf) := q.get (i := 2) rfl
  have e8 : a7.cell? ⟨w.heap.size + 1, 3, none⟩ = some (.int .i64 lf) := q.get (i := 3) rfl
  have q2 := F7.out.get (B := w.heap.size) (cs := sessL r code x p t d) (by simp)
  have s0 : a7.cell? ⟨w.heap.size, 0, none⟩ = some (.int .i64 r) := q2.get (i := 0) rfl
  have s1 : a7.cell? ⟨w.heap.size, 1, none⟩ = some (.int .i64 code) := q2.get (i := 1) rfl
  have s2 : a7.cell? ⟨w.heap.size, 2, none⟩ = some (.int .i64 x) := q2.get (i := 2) rfl
  have e3 : a7.cell? ⟨w.heap.size, 3, none⟩ = some (.int .i64 p) := q2.get (i := 3) rfl
  have e4 : a7.cell? ⟨w.heap.size, 4, none⟩ = some (.int .i64 t) := q2.get (i := 4) rfl
  have e5 : a7.cell? ⟨w.heap.size, 5, none⟩ = some (.bool d) := q2.get (i := 5) rfl
  clear q q2
  have BZ := Bx.mk F7.out.1
  go_wp2_with fail
  go_ret
  exact ⟨rfl, BZ.out⟩

set_option maxHeartbeats 32000000 in
set_option maxRecDepth 100000 in
theorem exact_x1 (r code x p t : Int) (pt dv_ vf lf : Int) (pk : List Int) (hpk : pk.length = 32) (ver bY priv : Int) (i1 : i64R pt) (i2 : i64R vf) (i3 : i64R lf) (i4 : i64R dv_) (i5 : i64R ver) (i6 : i64R bY) (w : World) (hL : Laid w) (hE : EType w) (hs : sessOK r code x p t = true) :
    Calls Tryz.prog 7 #[sessV r code x p t true, reqV pt dv_ vf lf pk, .int .i64 ver, .int .i64 bY, .int .i64 priv] w fun e w' => e = .returned (.bool true) ∧ Below w.heap.size w w' := by
  have HS := Bx.mk (fun w hL hE => sane38_c w hL hE)
  have HO := Bx.mk (fun w => owner_c dv_ w)
  have G0 := Bx.mk (fun w => gcheck_c pt w i1.1 i1.2)
  have G1 := Bx.mk (fun w => gcheck_c vf w i2.1 i2.2)
  have G2 := Bx.mk (fun w => gcheck_c lf w i3.1 i3.2)
  have HCk := Bx.mk (fun w => echeck_c r code x p t true w)
  have F0 := Bx.mk (fs_args w r code x p t true pt dv_ vf lf pk)
  have HL := Bx.mk hL; have HE := Bx.mk hE
  have HK := Bx.mk hpk
  clear hL hE hpk i1 i2 i3 i4 i5 i6
  rw [hs] at HCk
  simp only [if_true] at HCk
  clear hs
  clear G0 G1 G2 HK
  obtain ⟨ov, hov⟩ : ∃ a b, ownV dv_ = .tuple #[.int .i64 a, .int .i64 b] := by unfold ownV; split <;> exact ⟨_, _, rfl⟩
  obtain ⟨oe, hov⟩ := hov
  rw [hov] at HO
  clear hov
  unfold sessV reqV
  unfold sessV at HCk
  (try unfold sessV reqV at HAx)
  go_enter Tryz.func7, Tryz.ntmps7
  go_wp2_with (refine wpList_bxk rfl (.tmp 1) rfl (reqL pt dv_ vf lf pk) rfl ?_)
  refine (HS.out _ (F0.out.laid HL.out) (F0.out.etype HE.out)).mono ?_
  rintro e a1 ⟨rfl, hb1⟩
  have F1 := Bx.mk (F0.out.below hb1)
  clear hb1 F0 HS
  have q := F1.out.get (B := w.heap.size + 1) (cs := reqL pt dv_ vf lf pk) (by simp)
  have e0 : a1.cell? ⟨w.heap.size + 1, 0, none⟩ = some (.int .i64 pt) := q.get (i := 0) rfl
  have e1 : a1.cell? ⟨w.heap.size + 1, 1, none⟩ = some (.int .i64 dv_) := q.get (i := 1) rfl
  have e2 : a1.cell? ⟨w.heap.size + 1, 2, none⟩ = some (.int .i64 vf) := q.get (i := 2) rfl
  have e8 : a1.cell? ⟨w.heap.size + 1, 3, none⟩ = some (.int .i64 lf) := q.get (i := 3) rfl
  have q2 := F1.out.get (B := w.heap.size) (cs := sessL r code x p t true) (by simp)
  have s0 : a1.cell? ⟨w.heap.size, 0, none⟩ = some (.int .i64 r) := q2.get (i := 0) rfl
  have s1 : a1.cell? ⟨w.heap.size, 1, none⟩ = some (.int .i64 code) := q2.get (i := 1) rfl
  have s2 : a1.cell? ⟨w.heap.size, 2, none⟩ = some (.int .i64 x) := q2.get (i := 2) rfl
  have e3 : a1.cell? ⟨w.heap.size, 3, none⟩ = some (.int .i64 p) := q2.get (i := 3) rfl
  have e4 : a1.cell? ⟨w.heap.size, 4, none⟩ = some (.int .i64 t) := q2.get (i := 4) rfl
  have e5 : a1.cell? ⟨w.heap.size, 5, none⟩ = some (.bool true) := q2.get (i := 5) rfl
  clear q q2
  go_wp2_with fail
  refine (HO.out _).mono ?_
  rintro e a2 ⟨rfl, rfl⟩
  go_wp2_with fail
  refine (HCk.out _).mono ?_
  rintro e a7 ⟨rfl, hb7⟩
  have F7 := Bx.mk (F1.out.below hb7)
  clear e0 e1 e2 e8 s0 s1 s2 e3 e4 e5
  clear hb7 F1
  have q := F7.out.get (B := w.heap.size + 1) (cs := reqL pt dv_ vf lf pk) (by simp)
  have e0 : a7.cell? ⟨w.heap.size + 1, 0, none⟩ = some (.int .i64 pt) := q.get (i := 0) rfl
  have e1 : a7.cell? ⟨w.heap.size + 1, 1, none⟩ = some (.int .i64 dv_) := q.get (i := 1) rfl
  have e2 : a7.cell? ⟨w.heap.size + 1, 2, none⟩ = some (.int .i64 vf) := q.get (i := 2) rfl
  have e8 : a7.cell? ⟨w.heap.size + 1, 3, none⟩ = some (.int .i64 lf) := q.get (i := 3) rfl
  have q2 := F7.out.get (B := w.heap.size) (cs := sessL r code x p t true) (by simp)
  have s0 : a7.cell? ⟨w.heap.size, 0, none⟩ = some (.int .i64 r) := q2.get (i := 0) rfl
  have s1 : a7.cell? ⟨w.heap.size, 1, none⟩ = some (.int .i64 code) := q2.get (i := 1) rfl
  have s2 : a7.cell? ⟨w.heap.size, 2, none⟩ = some (.int .i64 x) := q2.get (i := 2) rfl
  have e3 : a7.cell? ⟨w.heap.size, 3, none⟩ = some (.int .i64 p) := q2.get (i := 3) rfl
  have e4 : a7.cell? ⟨w.heap.size, 4, none⟩ = some (.int .i64 t) := q2.get (i := 4) rfl
  have e5 : a7.cell? ⟨w.heap.size, 5, none⟩ = some (.bool true) := q2.get (i := 5) rfl
  clear q q2
  have BZ := Bx.mk F7.out.1
  go_wp2_with fail
  go_ret
  exact ⟨rfl, BZ.out⟩

set_option maxHeartbeats 32000000 in
set_option maxRecDepth 100000 in
theorem exact_x2 (r code x p t : Int) (pt dv_ vf lf : Int) (pk : List Int) (hpk : pk.length = 32) (ver bY priv : Int) (i1 : i64R pt) (i2 : i64R vf) (i3 : i64R lf) (i4 : i64R dv_) (i5 : i64R ver) (i6 : i64R bY) (w : World) (hL : Laid w) (hE : EType w) (hs : sessOK r code x p t = true) (ht : 5 ≤ t) :
    Calls Tryz.prog 7 #[sessV r code x p t false, reqV pt dv_ vf lf pk, .int .i64 ver, .int .i64 bY, .int .i64 priv] w fun e w' => e = .returned (.bool true) ∧ Below w.heap.size w w' := by
  have HS := Bx.mk (fun w hL hE => sane38_c w hL hE)
  have HO := Bx.mk (fun w => owner_c dv_ w)
  have G0 := Bx.mk (fun w => gcheck_c pt w i1.1 i1.2)
  have G1 := Bx.mk (fun w => gcheck_c vf w i2.1 i2.2)
  have G2 := Bx.mk (fun w => gcheck_c lf w i3.1 i3.2)
  have HCk := Bx.mk (fun w => echeck_c r code x p t false w)
  have F0 := Bx.mk (fs_args w r code x p t false pt dv_ vf lf pk)
  have HL := Bx.mk hL; have HE := Bx.mk hE
  have HK := Bx.mk hpk
  clear hL hE hpk i1 i2 i3 i4 i5 i6
  rw [hs] at HCk
  simp only [if_true] at HCk
  clear hs
  clear G0 G1 G2 HK
  obtain ⟨ov, hov⟩ : ∃ a b, ownV dv_ = .tuple #[.int .i64 a, .int .i64 b] := by unfold ownV; split <;> exact ⟨_, _, rfl⟩
  obtain ⟨oe, hov⟩ := hov
  rw [hov] at HO
  clear hov
  unfold sessV reqV
  unfold sessV at HCk
  (try unfold sessV reqV at HAx)
  go_enter Tryz.func7, Tryz.ntmps7
  go_wp2_with (refine wpList_bxk rfl (.tmp 1) rfl (reqL pt dv_ vf lf pk) rfl ?_)
  refine (HS.out _ (F0.out.laid HL.out) (F0.out.etype HE.out)).mono ?_
  rintro e a1 ⟨rfl, hb1⟩
  have F1 := Bx.mk (F0.out.below hb1)
  clear hb1 F0 HS
  have q := F1.out.get (B := w.heap.size + 1) (cs := reqL pt dv_ vf lf pk) (by simp)
  have e0 : a1.cell? ⟨w.heap.size + 1, 0, none⟩ = some (.int .i64 pt) := q.get (i := 0) rfl
  have e1 : a1.cell? ⟨w.heap.size + 1, 1, none⟩ = some (.int .i64 dv_) := q.get (i := 1) rfl
  have e2 : a1.cell? ⟨w.heap.size + 1, 2, none⟩ = some (.int .i64 vf) := q.get (i := 2) rfl
  have e8 : a1.cell? ⟨w.heap.size + 1, 3, none⟩ = some (.int .i64 lf) := q.get (i := 3) rfl
  have q2 := F1.out.get (B := w.heap.size) (cs := sessL r code x p t false) (by simp)
  have s0 : a1.cell? ⟨w.heap.size, 0, none⟩ = some (.int .i64 r) := q2.get (i := 0) rfl
  have s1 : a1.cell? ⟨w.heap.size, 1, none⟩ = some (.int .i64 code) := q2.get (i := 1) rfl
  have s2 : a1.cell? ⟨w.heap.size, 2, none⟩ = some (.int .i64 x) := q2.get (i := 2) rfl
  have e3 : a1.cell? ⟨w.heap.size, 3, none⟩ = some (.int .i64 p) := q2.get (i := 3) rfl
  have e4 : a1.cell? ⟨w.heap.size, 4, none⟩ = some (.int .i64 t) := q2.get (i := 4) rfl
  have e5 : a1.cell? ⟨w.heap.size, 5, none⟩ = some (.bool false) := q2.get (i := 5) rfl
  clear q q2
  go_wp2_with fail
  refine (HO.out _).mono ?_
  rintro e a2 ⟨rfl, rfl⟩
  go_wp2_with fail
  refine (HCk.out _).mono ?_
  rintro e a7 ⟨rfl, hb7⟩
  have F7 := Bx.mk (F1.out.below hb7)
  clear e0 e1 e2 e8 s0 s1 s2 e3 e4 e5
  clear hb7 F1
  have q := F7.out.get (B := w.heap.size + 1) (cs := reqL pt dv_ vf lf pk) (by simp)
  have e0 : a7.cell? ⟨w.heap.size + 1, 0, none⟩ = some (.int .i64 pt) := q.get (i := 0) rfl
  have e1 : a7.cell? ⟨w.heap.size + 1, 1, none⟩ = some (.int .i64 dv_) := q.get (i := 1) rfl
  have e2 : a7.cell? ⟨w.heap.size + 1, 2, none⟩ = some (.int .i64 vf) := q.get (i := 2) rfl
  have e8 : a7.cell? ⟨w.heap.size + 1, 3, none⟩ = some (.int .i64 lf) := q.get (i := 3) rfl
  have q2 := F7.out.get (B := w.heap.size) (cs := sessL r code x p t false) (by simp)
  have s0 : a7.cell? ⟨w.heap.size, 0, none⟩ = some (.int .i64 r) := q2.get (i := 0) rfl
  have s1 : a7.cell? ⟨w.heap.size, 1, none⟩ = some (.int .i64 code) := q2.get (i := 1) rfl
  have s2 : a7.cell? ⟨w.heap.size, 2, none⟩ = some (.int .i64 x) := q2.get (i := 2) rfl
  have e3 : a7.cell? ⟨w.heap.size, 3, none⟩ = some (.int .i64 p) := q2.get (i := 3) rfl
  have e4 : a7.cell? ⟨w.heap.size, 4, none⟩ = some (.int .i64 t) := q2.get (i := 4) rfl
  have e5 : a7.cell? ⟨w.heap.size, 5, none⟩ = some (.bool false) := q2.get (i := 5) rfl
  clear q q2
  have BZ := Bx.mk F7.out.1
  go_wp2_with fail
  go_ret
  exact ⟨rfl, BZ.out⟩

set_option maxHeartbeats 32000000 in
set_option maxRecDepth 100000 in
theorem exact_x3 (r code x p t : Int) (pt dv_ vf lf : Int) (pk : List Int) (hpk : pk.length = 32) (ver bY priv : Int) (i1 : i64R pt) (i2 : i64R vf) (i3 : i64R lf) (i4 : i64R dv_) (i5 : i64R ver) (i6 : i64R bY) (w : World) (hL : Laid w) (hE : EType w) (hs : sessOK r code x p t = true) (ht : ¬ 5 ≤ t) (hd : isDev dv_ = false) :
    Calls Tryz.prog 7 #[sessV r code x p t false, reqV pt dv_ vf lf pk, .int .i64 ver, .int .i64 bY, .int .i64 priv] w fun e w' => e = .returned (.bool true) ∧ Below w.heap.size w w' := by
  have HS := Bx.mk (fun w hL hE => sane38_c w hL hE)
  have HO := Bx.mk (fun w => owner_c dv_ w)
  have G0 := Bx.mk (fun w => gcheck_c pt w i1.1 i1.2)
  have G1 := Bx.mk (fun w => gcheck_c vf w i2.1 i2.2)
  have G2 := Bx.mk (fun w => gcheck_c lf w i3.1 i3.2)
  have HCk := Bx.mk (fun w => echeck_c r code x p t false w)
  have F0 := Bx.mk (fs_args w r code x p t false pt dv_ vf lf pk)
  have HL := Bx.mk hL; have HE := Bx.mk hE
  have HK := Bx.mk hpk
  clear hL hE hpk i1 i2 i3 i4 i5 i6
  rw [hs] at HCk
  simp only [if_true] at HCk
  clear hs
  clear G0 G1 G2 HK
  rw [show ownV dv_ = .tuple #[.int .i64 0, .int .i64 371] by simp [ownV, hd]] at HO
  clear hd
  unfold sessV reqV
  unfold sessV at HCk
  (try unfold sessV reqV at HAx)
  go_enter Tryz.func7, Tryz.ntmps7
  go_wp2_with (refine wpList_bxk rfl (.tmp 1) rfl (reqL pt dv_ vf lf pk) rfl ?_)
  refine (HS.out _ (F0.out.laid HL.out) (F0.out.etype HE.out)).mono ?_
  rintro e a1 ⟨rfl, hb1⟩
  have F1 := Bx.mk (F0.out.below hb1)
  clear hb1 F0 HS
  have q := F1.out.get (B := w.heap.size + 1) (cs := reqL pt dv_ vf lf pk) (by simp)
  have e0 : a1.cell? ⟨w.heap.size + 1, 0, none⟩ = some (.int .i64 pt) := q.get (i := 0) rfl
  have e1 : a1.cell? ⟨w.heap.size + 1, 1, none⟩ = some (.int .i64 dv_) := q.get (i := 1) rfl
  have e2 : a1.cell? ⟨w.heap.size + 1, 2, none⟩ = some (.int .i64 vf) := q.get (i := 2) rfl
  have e8 : a1.cell? ⟨w.heap.size + 1, 3, none⟩ = some (.int .i64 lf) := q.get (i := 3) rfl
  have q2 := F1.out.get (B := w.heap.size) (cs := sessL r code x p t false) (by simp)
  have s0 : a1.cell? ⟨w.heap.size, 0, none⟩ = some (.int .i64 r) := q2.get (i := 0) rfl
  have s1 : a1.cell? ⟨w.heap.size, 1, none⟩ = some (.int .i64 code) := q2.get (i := 1) rfl
  have s2 : a1.cell? ⟨w.heap.size, 2, none⟩ = some (.int .i64 x) := q2.get (i := 2) rfl
  have e3 : a1.cell? ⟨w.heap.size, 3, none⟩ = some (.int .i64 p) := q2.get (i := 3) rfl
  have e4 : a1.cell? ⟨w.heap.size, 4, none⟩ = some (.int .i64 t) := q2.get (i := 4) rfl
  have e5 : a1.cell? ⟨w.heap.size, 5, none⟩ = some (.bool false) := q2.get (i := 5) rfl
  clear q q2
  go_wp2_with fail
  refine (HO.out _).mono ?_
  rintro e a2 ⟨rfl, rfl⟩
  go_wp2_with fail
  refine (HCk.out _).mono ?_
  rintro e a7 ⟨rfl, hb7⟩
  have F7 := Bx.mk (F1.out.below hb7)
  clear e0 e1 e2 e8 s0 s1 s2 e3 e4 e5
  clear hb7 F1
  have q := F7.out.get (B := w.heap.size + 1) (cs := reqL pt dv_ vf lf pk) (by simp)
  have e0 : a7.cell? ⟨w.heap.size + 1, 0, none⟩ = some (.int .i64 pt) := q.get (i := 0) rfl
  have e1 : a7.cell? ⟨w.heap.size + 1, 1, none⟩ = some (.int .i64 dv_) := q.get (i := 1) rfl
  have e2 : a7.cell? ⟨w.heap.size + 1, 2, none⟩ = some (.int .i64 vf) := q.get (i := 2) rfl
  have e8 : a7.cell? ⟨w.heap.size + 1, 3, none⟩ = some (.int .i64 lf) := q.get (i := 3) rfl
  have q2 := F7.out.get (B := w.heap.size) (cs := sessL r code x p t false) (by simp)
  have s0 : a7.cell? ⟨w.heap.size, 0, none⟩ = some (.int .i64 r) := q2.get (i := 0) rfl
  have s1 : a7.cell? ⟨w.heap.size, 1, none⟩ = some (.int .i64 code) := q2.get (i := 1) rfl
  have s2 : a7.cell? ⟨w.heap.size, 2, none⟩ = some (.int .i64 x) := q2.get (i := 2) rfl
  have e3 : a7.cell? ⟨w.heap.size, 3, none⟩ = some (.int .i64 p) := q2.get (i := 3) rfl
  have e4 : a7.cell? ⟨w.heap.size, 4, none⟩ = some (.int .i64 t) := q2.get (i := 4) rfl
  have e5 : a7.cell? ⟨w.heap.size, 5, none⟩ = some (.bool false) := q2.get (i := 5) rfl
  clear q q2
  have BZ := Bx.mk F7.out.1
  go_wp2_with fail
  go_ret
  exact ⟨rfl, BZ.out⟩

set_option maxHeartbeats 32000000 in
set_option maxRecDepth 100000 in
theorem exact_x4 (r code x p t : Int) (pt dv_ vf lf : Int) (pk : List Int) (hpk : pk.length = 32) (ver bY priv : Int) (i1 : i64R pt) (i2 : i64R vf) (i3 : i64R lf) (i4 : i64R dv_) (i5 : i64R ver) (i6 : i64R bY) (w : World) (hL : Laid w) (hE : EType w) (hs : sessOK r code x p t = true) (ht : ¬ 5 ≤ t) (hd : isDev dv_ = true) (hp : ¬ dv_ / 8 = p) :
    Calls Tryz.prog 7 #[sessV r code x p t false, reqV pt dv_ vf lf pk, .int .i64 ver, .int .i64 bY, .int .i64 priv] w fun e w' => e = .returned (.bool true) ∧ Below w.heap.size w w' := by
  have HS := Bx.mk (fun w hL hE => sane38_c w hL hE)
  have HO := Bx.mk (fun w => owner_c dv_ w)
  have G0 := Bx.mk (fun w => gcheck_c pt w i1.1 i1.2)
  have G1 := Bx.mk (fun w => gcheck_c vf w i2.1 i2.2)
  have G2 := Bx.mk (fun w => gcheck_c lf w i3.1 i3.2)
  have HCk := Bx.mk (fun w => echeck_c r code x p t false w)
  have F0 := Bx.mk (fs_args w r code x p t false pt dv_ vf lf pk)
  have HL := Bx.mk hL; have HE := Bx.mk hE
  have HK := Bx.mk hpk
  clear hL hE hpk i1 i2 i3 i4 i5 i6
  rw [hs] at HCk
  simp only [if_true] at HCk
  clear hs
  clear G0 G1 G2 HK
  rw [show ownV dv_ = .tuple #[.int .i64 (dv_ / 8), .int .i64 0] by simp [ownV, hd]] at HO
  clear hd
  obtain ⟨ow, how⟩ : ∃ o, o = dv_ / 8 := ⟨_, rfl⟩
  rw [← how] at HO hp
  clear how
  unfold sessV reqV
  unfold sessV at HCk
  (try unfold sessV reqV at HAx)
  go_enter Tryz.func7, Tryz.ntmps7
  go_wp2_with (refine wpList_bxk rfl (.tmp 1) rfl (reqL pt dv_ vf lf pk) rfl ?_)
  refine (HS.out _ (F0.out.laid HL.out) (F0.out.etype HE.out)).mono ?_
  rintro e a1 ⟨rfl, hb1⟩
  have F1 := Bx.mk (F0.out.below hb1)
  clear hb1 F0 HS
  have q := F1.out.get (B := w.heap.size + 1) (cs := reqL pt dv_ vf lf pk) (by simp)
  have e0 : a1.cell? ⟨w.heap.size + 1, 0, none⟩ = some (.int .i64 pt) := q.get (i := 0) rfl
  have e1 : a1.cell? ⟨w.heap.size + 1, 1, none⟩ = some (.int .i64 dv_) := q.get (i := 1) rfl
  have e2 : a1.cell? ⟨w.heap.size + 1, 2, none⟩ = some (.int .i64 vf) := q.get (i := 2) rfl
  have e8 : a1.cell? ⟨w.heap.size + 1, 3, none⟩ = some (.int .i64 lf) := q.get (i := 3) rfl
  have q2 := F1.out.get (B := w.heap.size) (cs := sessL r code x p t false) (by simp)
  have s0 : a1.cell? ⟨w.heap.size, 0, none⟩ = some (.int .i64 r) := q2.get (i := 0) rfl
  have s1 : a1.cell? ⟨w.heap.size, 1, none⟩ = some (.int .i64 code) := q2.get (i := 1) rfl
  have s2 : a1.cell? ⟨w.heap.size, 2, none⟩ = some (.int .i64 x) := q2.get (i := 2) rfl
  have e3 : a1.cell? ⟨w.heap.size, 3, none⟩ = some (.int .i64 p) := q2.get (i := 3) rfl
  have e4 : a1.cell? ⟨w.heap.size, 4, none⟩ = some (.int .i64 t) := q2.get (i := 4) rfl
  have e5 : a1.cell? ⟨w.heap.size, 5, none⟩ = some (.bool false) := q2.get (i := 5) rfl
  clear q q2
  go_wp2_with fail
  refine (HO.out _).mono ?_
  rintro e a2 ⟨rfl, rfl⟩
  go_wp2_with fail
  refine (HCk.out _).mono ?_
  rintro e a7 ⟨rfl, hb7⟩
  have F7 := Bx.mk (F1.out.below hb7)
  clear e0 e1 e2 e8 s0 s1 s2 e3 e4 e5
  clear hb7 F1
  have q := F7.out.get (B := w.heap.size + 1) (cs := reqL pt dv_ vf lf pk) (by simp)
  have e0 : a7.cell? ⟨w.heap.size + 1, 0, none⟩ = some (.int .i64 pt) := q.get (i := 0) rfl
  have e1 : a7.cell? ⟨w.heap.size + 1, 1, none⟩ = some (.int .i64 dv_) := q.get (i := 1) rfl
  have e2 : a7.cell? ⟨w.heap.size + 1, 2, none⟩ = some (.int .i64 vf) := q.get (i := 2) rfl
  have e8 : a7.cell? ⟨w.heap.size + 1, 3, none⟩ = some (.int .i64 lf) := q.get (i := 3) rfl
  have q2 := F7.out.get (B := w.heap.size) (cs := sessL r code x p t false) (by simp)
  have s0 : a7.cell? ⟨w.heap.size, 0, none⟩ = some (.int .i64 r) := q2.get (i := 0) rfl
  have s1 : a7.cell? ⟨w.heap.size, 1, none⟩ = some (.int .i64 code) := q2.get (i := 1) rfl
  have s2 : a7.cell? ⟨w.heap.size, 2, none⟩ = some (.int .i64 x) := q2.get (i := 2) rfl
  have e3 : a7.cell? ⟨w.heap.size, 3, none⟩ = some (.int .i64 p) := q2.get (i := 3) rfl
  have e4 : a7.cell? ⟨w.heap.size, 4, none⟩ = some (.int .i64 t) := q2.get (i := 4) rfl
  have e5 : a7.cell? ⟨w.heap.size, 5, none⟩ = some (.bool false) := q2.get (i := 5) rfl
  clear q q2
  have BZ := Bx.mk F7.out.1
  go_wp2_with fail
  go_ret
  exact ⟨rfl, BZ.out⟩

set_option maxHeartbeats 32000000 in
set_option maxRecDepth 100000 in
theorem exact_x5 (r code x p t : Int) (pt dv_ vf lf : Int) (pk : List Int) (hpk : pk.length = 32) (ver bY priv : Int) (i1 : i64R pt) (i2 : i64R vf) (i3 : i64R lf) (i4 : i64R dv_) (i5 : i64R ver) (i6 : i64R bY) (w : World) (hL : Laid w) (hE : EType w) (hs : sessOK r code x p t = true) (ht : ¬ 5 ≤ t) (hd : isDev dv_ = true) (hp : dv_ / 8 = p) (h1 : elt pt = false) :
    Calls Tryz.prog 7 #[sessV r code x p t false, reqV pt dv_ vf lf pk, .int .i64 ver, .int .i64 bY, .int .i64 priv] w fun e w' => e = .returned (.bool true) ∧ Below w.heap.size w w' := by
  have HS := Bx.mk (fun w hL hE => sane38_c w hL hE)
  have HO := Bx.mk (fun w => owner_c dv_ w)
  have G0 := Bx.mk (fun w => gcheck_c pt w i1.1 i1.2)
  have G1 := Bx.mk (fun w => gcheck_c vf w i2.1 i2.2)
  have G2 := Bx.mk (fun w => gcheck_c lf w i3.1 i3.2)
  have HCk := Bx.mk (fun w => echeck_c r code x p t false w)
  have F0 := Bx.mk (fs_args w r code x p t false pt dv_ vf lf pk)
  have HL := Bx.mk hL; have HE := Bx.mk hE
  have HK := Bx.mk hpk
  clear hL hE hpk i1 i2 i3 i4 i5 i6
  rw [hs] at HCk
  simp only [if_true] at HCk
  clear hs
  clear G1 G2 HK
  rw [show ownV dv_ = .tuple #[.int .i64 (dv_ / 8), .int .i64 0] by simp [ownV, hd], hp] at HO
  clear hd hp
  rw [gcheck_40 (by rw [h1]; decide)] at G0
  clear h1
  unfold sessV reqV
  unfold sessV at HCk
  (try unfold sessV reqV at HAx)
  go_enter Tryz.func7, Tryz.ntmps7
  go_wp2_with (refine wpList_bxk rfl (.tmp 1) rfl (reqL pt dv_ vf lf pk) rfl ?_)
  refine (HS.out _ (F0.out.laid HL.out) (F0.out.etype HE.out)).mono ?_
  rintro e a1 ⟨rfl, hb1⟩
  have F1 := Bx.mk (F0.out.below hb1)
  clear hb1 F0 HS
  have q := F1.out.get (B := w.heap.size + 1) (cs := reqL pt dv_ vf lf pk) (by simp)
  have e0 : a1.cell? ⟨w.heap.size + 1, 0, none⟩ = some (.int .i64 pt) := q.get (i := 0) rfl
  have e1 : a1.cell? ⟨w.heap.size + 1, 1, none⟩ = some (.int .i64 dv_) := q.get (i := 1) rfl
  have e2 : a1.cell? ⟨w.heap.size + 1, 2, none⟩ = some (.int .i64 vf) := q.get (i := 2) rfl
  have e8 : a1.cell? ⟨w.heap.size + 1, 3, none⟩ = some (.int .i64 lf) := q.get (i := 3) rfl
  have q2 := F1.out.get (B := w.heap.size) (cs := sessL r code x p t false) (by simp)
  have s0 : a1.cell? ⟨w.heap.size, 0, none⟩ = some (.int .i64 r) := q2.get (i := 0) rfl
  have s1 : a1.cell? ⟨w.heap.size, 1, none⟩ = some (.int .i64 code) := q2.get (i := 1) rfl
  have s2 : a1.cell? ⟨w.heap.size, 2, none⟩ = some (.int .i64 x) := q2.get (i := 2) rfl
  have e3 : a1.cell? ⟨w.heap.size, 3, none⟩ = some (.int .i64 p) := q2.get (i := 3) rfl
  have e4 : a1.cell? ⟨w.heap.size, 4, none⟩ = some (.int .i64 t) := q2.get (i := 4) rfl
  have e5 : a1.cell? ⟨w.heap.size, 5, none⟩ = some (.bool false) := q2.get (i := 5) rfl
  clear q q2
  go_wp2_with fail
  refine (HO.out _).mono ?_
  rintro e a2 ⟨rfl, rfl⟩
  go_wp2_with fail
  refine (HCk.out _).mono ?_
  rintro e a7 ⟨rfl, hb7⟩
  have F7 := Bx.mk (F1.out.below hb7)
  clear e0 e1 e2 e8 s0 s1 s2 e3 e4 e5
  clear hb7 F1
  have q := F7.out.get (B := w.heap.size + 1) (cs := reqL pt dv_ vf lf pk) (by simp)
  have e0 : a7.cell? ⟨w.heap.size + 1, 0, none⟩ = some (.int .i64 pt) := q.get (i := 0) rfl
  have e1 : a7.cell? ⟨w.heap.size + 1, 1, none⟩ = some (.int .i64 dv_) := q.get (i := 1) rfl
  have e2 : a7.cell? ⟨w.heap.size + 1, 2, none⟩ = some (.int .i64 vf) := q.get (i := 2) rfl
  have e8 : a7.cell? ⟨w.heap.size + 1, 3, none⟩ = some (.int .i64 lf) := q.get (i := 3) rfl
  have q2 := F7.out.get (B := w.heap.size) (cs := sessL r code x p t false) (by simp)
  have s0 : a7.cell? ⟨w.heap.size, 0, none⟩ = some (.int .i64 r) := q2.get (i := 0) rfl
  have s1 : a7.cell? ⟨w.heap.size, 1, none⟩ = some (.int .i64 code) := q2.get (i := 1) rfl
  have s2 : a7.cell? ⟨w.heap.size, 2, none⟩ = some (.int .i64 x) := q2.get (i := 2) rfl
  have e3 : a7.cell? ⟨w.heap.size, 3, none⟩ = some (.int .i64 p) := q2.get (i := 3) rfl
  have e4 : a7.cell? ⟨w.heap.size, 4, none⟩ = some (.int .i64 t) := q2.get (i := 4) rfl
  have e5 : a7.cell? ⟨w.heap.size, 5, none⟩ = some (.bool false) := q2.get (i := 5) rfl
  clear q q2
  go_wp2_with fail
  refine (G0.out _).mono ?_
  rintro e a8 ⟨rfl, hb8⟩
  have F8 := Bx.mk (F7.out.below hb8)
  clear e0 e1 e2 e8 s0 s1 s2 e3 e4 e5
  clear hb8 F7
  have q := F8.out.get (B := w.heap.size + 1) (cs := reqL pt dv_ vf lf pk) (by simp)
  have e0 : a8.cell? ⟨w.heap.size + 1, 0, none⟩ = some (.int .i64 pt) := q.get (i := 0) rfl
  have e1 : a8.cell? ⟨w.heap.size + 1, 1, none⟩ = some (.int .i64 dv_) := q.get (i := 1) rfl
  have e2 : a8.cell? ⟨w.heap.size + 1, 2, none⟩ = some (.int .i64 vf) := q.get (i := 2) rfl
  have e8 : a8.cell? ⟨w.heap.size + 1, 3, none⟩ = some (.int .i64 lf) := q.get (i := 3) rfl
  have q2 := F8.out.get (B := w.heap.size) (cs := sessL r code x p t false) (by simp)
  have s0 : a8.cell? ⟨w.heap.size, 0, none⟩ = some (.int .i64 r) := q2.get (i := 0) rfl
  have s1 : a8.cell? ⟨w.heap.size, 1, none⟩ = some (.int .i64 code) := q2.get (i := 1) rfl
  have s2 : a8.cell? ⟨w.heap.size, 2, none⟩ = some (.int .i64 x) := q2.get (i := 2) rfl
  have e3 : a8.cell? ⟨w.heap.size, 3, none⟩ = some (.int .i64 p) := q2.get (i := 3) rfl
  have e4 : a8.cell? ⟨w.heap.size, 4, none⟩ = some (.int .i64 t) := q2.get (i := 4) rfl
  have e5 : a8.cell? ⟨w.heap.size, 5, none⟩ = some (.bool false) := q2.get (i := 5) rfl
  clear q q2
  have BZ := Bx.mk F8.out.1
  go_wp2_with fail
  go_ret
  exact ⟨rfl, BZ.out⟩

set_option maxHeartbeats 32000000 in
set_option maxRecDepth 100000 in
theorem exact_x6 (r code x p t : Int) (pt dv_ vf lf : Int) (pk : List Int) (hpk : pk.length = 32) (ver bY priv : Int) (i1 : i64R pt) (i2 : i64R vf) (i3 : i64R lf) (i4 : i64R dv_) (i5 : i64R ver) (i6 : i64R bY) (w : World) (hL : Laid w) (hE : EType w) (hs : sessOK r code x p t = true) (ht : ¬ 5 ≤ t) (hd : isDev dv_ = true) (hp : dv_ / 8 = p) (h1 : elt pt = true) (h2 : elt vf = false) :
    Calls Tryz.prog 7 #[sessV r code x p t false, reqV pt dv_ vf lf pk, .int .i64 ver, .int .i64 bY, .int .i64 priv] w fun e w' => e = .returned (.bool true) ∧ Below w.heap.size w w' := by
  have HS := Bx.mk (fun w hL hE => sane38_c w hL hE)
  have HO := Bx.mk (fun w => owner_c dv_ w)
  have G0 := Bx.mk (fun w => gcheck_c pt w i1.1 i1.2)
  have G1 := Bx.mk (fun w => gcheck_c vf w i2.1 i2.2)
  have G2 := Bx.mk (fun w => gcheck_c lf w i3.1 i3.2)
  have HCk := Bx.mk (fun w => echeck_c r code x p t false w)
  have F0 := Bx.mk (fs_args w r code x p t false pt dv_ vf lf pk)
  have HL := Bx.mk hL; have HE := Bx.mk hE
  have HK := Bx.mk hpk
  clear hL hE hpk i1 i2 i3 i4 i5 i6
  rw [hs] at HCk
  simp only [if_true] at HCk
  clear hs
  clear G2 HK
  rw [show ownV dv_ = .tuple #[.int .i64 (dv_ / 8), .int .i64 0] by simp [ownV, hd], hp] at HO
  clear hd hp
  rw [gcheck_0 h1] at G0
  rw [gcheck_40 (by rw [h2]; decide)] at G1
  clear h1 h2
  unfold sessV reqV
  unfold sessV at HCk
  (try unfold sessV reqV at HAx)
  go_enter Tryz.func7, Tryz.ntmps7
  go_wp2_with (refine wpList_bxk rfl (.tmp 1) rfl (reqL pt dv_ vf lf pk) rfl ?_)
  refine (HS.out _ (F0.out.laid HL.out) (F0.out.etype HE.out)).mono ?_
  rintro e a1 ⟨rfl, hb1⟩
  have F1 := Bx.mk (F0.out.below hb1)
  clear hb1 F0 HS
  have q := F1.out.get (B := w.heap.size + 1) (cs := reqL pt dv_ vf lf pk) (by simp)
  have e0 : a1.cell? ⟨w.heap.size + 1, 0, none⟩ = some (.int .i64 pt) := q.get (i := 0) rfl
  have e1 : a1.cell? ⟨w.heap.size + 1, 1, none⟩ = some (.int .i64 dv_) := q.get (i := 1) rfl
  have e2 : a1.cell? ⟨w.heap.size + 1, 2, none⟩ = some (.int .i64 vf) := q.get (i := 2) rfl
  have e8 : a1.cell? ⟨w.heap.size + 1, 3, none⟩ = some (.int .i64 lf) := q.get (i := 3) rfl
  have q2 := F1.out.get (B := w.heap.size) (cs := sessL r code x p t false) (by simp)
  have s0 : a1.cell? ⟨w.heap.size, 0, none⟩ = some (.int .i64 r) := q2.get (i := 0) rfl
  have s1 : a1.cell? ⟨w.heap.size, 1, none⟩ = some (.int .i64 code) := q2.get (i := 1) rfl
  have s2 : a1.cell? ⟨w.heap.size, 2, none⟩ = some (.int .i64 x) := q2.get (i := 2) rfl
  have e3 : a1.cell? ⟨w.heap.size, 3, none⟩ = some (.int .i64 p) := q2.get (i := 3) rfl
  have e4 : a1.cell? ⟨w.heap.size, 4, none⟩ = some (.int .i64 t) := q2.get (i := 4) rfl
  have e5 : a1.cell? ⟨w.heap.size, 5, none⟩ = some (.bool false) := q2.get (i := 5) rfl
  clear q q2
  go_wp2_with fail
  refine (HO.out _).mono ?_
  rintro e a2 ⟨rfl, rfl⟩
  go_wp2_with fail
  refine (HCk.out _).mono ?_
  rintro e a7 ⟨rfl, hb7⟩
  have F7 := Bx.mk (F1.out.below hb7)
  clear e0 e1 e2 e8 s0 s1 s2 e3 e4 e5
  clear hb7 F1
  have q := F7.out.get (B := w.heap.size + 1) (cs := reqL pt dv_ vf lf pk) (by simp)
  have e0 : a7.cell? ⟨w.heap.size + 1, 0, none⟩ = some (.int .i64 pt) := q.get (i := 0) rfl
  have e1 : a7.cell? ⟨w.heap.size + 1, 1, none⟩ = some (.int .i64 dv_) := q.get (i := 1) rfl
  have e2 : a7.cell? ⟨w.heap.size + 1, 2, none⟩ = some (.int .i64 vf) := q.get (i := 2) rfl
  have e8 : a7.cell? ⟨w.heap.size + 1, 3, none⟩ = some (.int .i64 lf) := q.get (i := 3) rfl
  have q2 := F7.out.get (B := w.heap.size) (cs := sessL r code x p t false) (by simp)
  have s0 : a7.cell? ⟨w.heap.size, 0, none⟩ = some (.int .i64 r) := q2.get (i := 0) rfl
  have s1 : a7.cell? ⟨w.heap.size, 1, none⟩ = some (.int .i64 code) := q2.get (i := 1) rfl
  have s2 : a7.cell? ⟨w.heap.size, 2, none⟩ = some (.int .i64 x) := q2.get (i := 2) rfl
  have e3 : a7.cell? ⟨w.heap.size, 3, none⟩ = some (.int .i64 p) := q2.get (i := 3) rfl
  have e4 : a7.cell? ⟨w.heap.size, 4, none⟩ = some (.int .i64 t) := q2.get (i := 4) rfl
  have e5 : a7.cell? ⟨w.heap.size, 5, none⟩ = some (.bool false) := q2.get (i := 5) rfl
  clear q q2
  go_wp2_with fail
  refine (G0.out _).mono ?_
  rintro e a8 ⟨rfl, hb8⟩
  have F8 := Bx.mk (F7.out.below hb8)
  clear e0 e1 e2 e8 s0 s1 s2 e3 e4 e5
  clear hb8 F7
  have q := F8.out.get (B := w.heap.size + 1) (cs := reqL pt dv_ vf lf pk) (by simp)
  have e0 : a8.cell? ⟨w.heap.size + 1, 0, none⟩ = some (.int .i64 pt) := q.get (i := 0) rfl
  have e1 : a8.cell? ⟨w.heap.size + 1, 1, none⟩ = some (.int .i64 dv_) := q.get (i := 1) rfl
  have e2 : a8.cell? ⟨w.heap.size + 1, 2, none⟩ = some (.int .i64 vf) := q.get (i := 2) rfl
  have e8 : a8.cell? ⟨w.heap.size + 1, 3, none⟩ = some (.int .i64 lf) := q.get (i := 3) rfl
  have q2 := F8.out.get (B := w.heap.size) (cs := sessL r code x p t false) (by simp)
  have s0 : a8.cell? ⟨w.heap.size, 0, none⟩ = some (.int .i64 r) := q2.get (i := 0) rfl
  have s1 : a8.cell? ⟨w.heap.size, 1, none⟩ = some (.int .i64 code) := q2.get (i := 1) rfl
  have s2 : a8.cell? ⟨w.heap.size, 2, none⟩ = some (.int .i64 x) := q2.get (i := 2) rfl
  have e3 : a8.cell? ⟨w.heap.size, 3, none⟩ = some (.int .i64 p) := q2.get (i := 3) rfl
  have e4 : a8.cell? ⟨w.heap.size, 4, none⟩ = some (.int .i64 t) := q2.get (i := 4) rfl
  have e5 : a8.cell? ⟨w.heap.size, 5, none⟩ = some (.bool false) := q2.get (i := 5) rfl
  clear q q2
  go_wp2_with fail
  refine (G1.out _).mono ?_
  rintro e a9 ⟨rfl, hb9⟩
  have F9 := Bx.mk (F8.out.below hb9)
  clear e0 e1 e2 e8 s0 s1 s2 e3 e4 e5
  clear hb9 F8
  have q := F9.out.get (B := w.heap.size + 1) (cs := reqL pt dv_ vf lf pk) (by simp)
  have e0 : a9.cell? ⟨w.heap.size + 1, 0, none⟩ = some (.int .i64 pt) := q.get (i := 0) rfl
  have e1 : a9.cell? ⟨w.heap.size + 1, 1, none⟩ = some (.int .i64 dv_) := q.get (i := 1) rfl
  have e2 : a9.cell? ⟨w.heap.size + 1, 2, none⟩ = some (.int .i64 vf) := q.get (i := 2) rfl
  have e8 : a9.cell? ⟨w.heap.size + 1, 3, none⟩ = some (.int .i64 lf) := q.get (i := 3) rfl
  have q2 := F9.out.get (B := w.heap.size) (cs := sessL r code x p t false) (by simp)
  have s0 : a9.cell? ⟨w.heap.size, 0, none⟩ = some (.int .i64 r) := q2.get (i := 0) rfl
  have s1 : a9.cell? ⟨w.heap.size, 1, none⟩ = some (.int .i64 code) := q2.get (i := 1) rfl
  have s2 : a9.cell? ⟨w.heap.size, 2, none⟩ = some (.int .i64 x) := q2.get (i := 2) rfl
  have e3 : a9.cell? ⟨w.heap.size, 3, none⟩ = some (.int .i64 p) := q2.get (i := 3) rfl
  have e4 : a9.cell? ⟨w.heap.size, 4, none⟩ = some (.int .i64 t) := q2.get (i := 4) rfl
  have e5 : a9.cell? ⟨w.heap.size, 5, none⟩ = some (.bool false) := q2.get (i := 5) rfl
  clear q q2
  have BZ := Bx.mk F9.out.1
  go_wp2_with fail
  go_ret
  exact ⟨rfl, BZ.out⟩

set_option maxHeartbeats 32000000 in
set_option maxRecDepth 100000 in
theorem exact_x7 (r code x p t : Int) (pt dv_ vf lf : Int) (pk : List Int) (hpk : pk.length = 32) (ver bY priv : Int) (i1 : i64R pt) (i2 : i64R vf) (i3 : i64R lf) (i4 : i64R dv_) (i5 : i64R ver) (i6 : i64R bY) (w : World) (hL : Laid w) (hE : EType w) (hs : sessOK r code x p t = true) (ht : ¬ 5 ≤ t) (hd : isDev dv_ = true) (hp : dv_ / 8 = p) (h1 : elt pt = true) (h2 : elt vf = true) (h3 : elt lf = false) :
    Calls Tryz.prog 7 #[sessV r code x p t false, reqV pt dv_ vf lf pk, .int .i64 ver, .int .i64 bY, .int .i64 priv] w fun e w' => e = .returned (.bool true) ∧ Below w.heap.size w w' := by
  have HS := Bx.mk (fun w hL hE => sane38_c w hL hE)
  have HO := Bx.mk (fun w => owner_c dv_ w)
  have G0 := Bx.mk (fun w => gcheck_c pt w i1.1 i1.2)
  have G1 := Bx.mk (fun w => gcheck_c vf w i2.1 i2.2)
  have G2 := Bx.mk (fun w => gcheck_c lf w i3.1 i3.2)
  have HCk := Bx.mk (fun w => echeck_c r code x p t false w)
  have F0 := Bx.mk (fs_args w r code x p t false pt dv_ vf lf pk)
  have HL := Bx.mk hL; have HE := Bx.mk hE
  have HK := Bx.mk hpk
  clear hL hE hpk i1 i2 i3 i4 i5 i6
  rw [hs] at HCk
  simp only [if_true] at HCk
  clear hs
  clear HK
  rw [show ownV dv_ = .tuple #[.int .i64 (dv_ / 8), .int .i64 0] by simp [ownV, hd], hp] at HO
  clear hd hp
  rw [gcheck_0 h1] at G0
  rw [gcheck_0 h2] at G1
  rw [gcheck_40 (by rw [h3]; decide)] at G2
  clear h1 h2 h3
  unfold sessV reqV
  unfold sessV at HCk
  (try unfold sessV reqV at HAx)
  go_enter Tryz.func7, Tryz.ntmps7
  go_wp2_with (refine wpList_bxk rfl (.tmp 1) rfl (reqL pt dv_ vf lf pk) rfl ?_)
  refine (HS.out _ (F0.out.laid HL.out) (F0.out.etype HE.out)).mono ?_
  rintro e a1 ⟨rfl, hb1⟩
  have F1 := Bx.mk (F0.out.below hb1)
  clear hb1 F0 HS
  have q := F1.out.get (B := w.heap.size + 1) (cs := reqL pt dv_ vf lf pk) (by simp)
  have e0 : a1.cell? ⟨w.heap.size + 1, 0, none⟩ = some (.int .i64 pt) := q.get (i := 0) rfl
  have e1 : a1.cell? ⟨w.heap.size + 1, 1, none⟩ = some (.int .i64 dv_) := q.get (i := 1) rfl
  have e2 : a1.cell? ⟨w.heap.size + 1, 2, none⟩ = some (.int .i64 vf) := q.get (i := 2) rfl
  have e8 : a1.cell? ⟨w.heap.size + 1, 3, none⟩ = some (.int .i64 lf) := q.get (i := 3) rfl
  have q2 := F1.out.get (B := w.heap.size) (cs := sessL r code x p t false) (by simp)
  have s0 : a1.cell? ⟨w.heap.size, 0, none⟩ = some (.int .i64 r) := q2.get (i := 0) rfl
  have s1 : a1.cell? ⟨w.heap.size, 1, none⟩ = some (.int .i64 code) := q2.get (i := 1) rfl
  have s2 : a1.cell? ⟨w.heap.size, 2, none⟩ = some (.int .i64 x) := q2.get (i := 2) rfl
  have e3 : a1.cell? ⟨w.heap.size, 3, none⟩ = some (.int .i64 p) := q2.get (i := 3) rfl
  have e4 : a1.cell? ⟨w.heap.size, 4, none⟩ = some (.int .i64 t) := q2.get (i := 4) rfl
  have e5 : a1.cell? ⟨w.heap.size, 5, none⟩ = some (.bool false) := q2.get (i := 5) rfl
  clear q q2
  go_wp2_with fail
  refine (HO.out _).mono ?_
  rintro e a2 ⟨rfl, rfl⟩
  go_wp2_with fail
  refine (HCk.out _).mono ?_
  rintro e a7 ⟨rfl, hb7⟩
  have F7 := Bx.mk (F1.out.below hb7)
  clear e0 e1 e2 e8 s0 s1 s2 e3 e4 e5
  clear hb7 F1
  have q := F7.out.get (B := w.heap.size + 1) (cs := reqL pt dv_ vf lf pk) (by simp)
  have e0 : a7.cell? ⟨w.heap.size + 1, 0, none⟩ = some (.int .i64 pt) := q.get (i := 0) rfl
  have e1 : a7.cell? ⟨w.heap.size + 1, 1, none⟩ = some (.int .i64 dv_) := q.get (i := 1) rfl
  have e2 : a7.cell? ⟨w.heap.size + 1, 2, none⟩ = some (.int .i64 vf) := q.get (i := 2) rfl
  have e8 : a7.cell? ⟨w.heap.size + 1, 3, none⟩ = some (.int .i64 lf) := q.get (i := 3) rfl
  have q2 := F7.out.get (B := w.heap.size) (cs := sessL r code x p t false) (by simp)
  have s0 : a7.cell? ⟨w.heap.size, 0, none⟩ = some (.int .i64 r) := q2.get (i := 0) rfl
  have s1 : a7.cell? ⟨w.heap.size, 1, none⟩ = some (.int .i64 code) := q2.get (i := 1) rfl
  have s2 : a7.cell? ⟨w.heap.size, 2, none⟩ = some (.int .i64 x) := q2.get (i := 2) rfl
  have e3 : a7.cell? ⟨w.heap.size, 3, none⟩ = some (.int .i64 p) := q2.get (i := 3) rfl
  have e4 : a7.cell? ⟨w.heap.size, 4, none⟩ = some (.int .i64 t) := q2.get (i := 4) rfl
  have e5 : a7.cell? ⟨w.heap.size, 5, none⟩ = some (.bool false) := q2.get (i := 5) rfl
  clear q q2
  go_wp2_with fail
  refine (G0.out _).mono ?_
  rintro e a8 ⟨rfl, hb8⟩
  have F8 := Bx.mk (F7.out.below hb8)
  clear e0 e1 e2 e8 s0 s1 s2 e3 e4 e5
  clear hb8 F7
  have q := F8.out.get (B := w.heap.size + 1) (cs := reqL pt dv_ vf lf pk) (by simp)
  have e0 : a8.cell? ⟨w.heap.size + 1, 0, none⟩ = some (.int .i64 pt) := q.get (i := 0) rfl
  have e1 : a8.cell? ⟨w.heap.size + 1, 1, none⟩ = some (.int .i64 dv_) := q.get (i := 1) rfl
  have e2 : a8.cell? ⟨w.heap.size + 1, 2, none⟩ = some (.int .i64 vf) := q.get (i := 2) rfl
  have e8 : a8.cell? ⟨w.heap.size + 1, 3, none⟩ = some (.int .i64 lf) := q.get (i := 3) rfl
  have q2 := F8.out.get (B := w.heap.size) (cs := sessL r code x p t false) (by simp)
  have s0 : a8.cell? ⟨w.heap.size, 0, none⟩ = some (.int .i64 r) := q2.get (i := 0) rfl
  have s1 : a8.cell? ⟨w.heap.size, 1, none⟩ = some (.int .i64 code) := q2.get (i := 1) rfl
  have s2 : a8.cell? ⟨w.heap.size, 2, none⟩ = some (.int .i64 x) := q2.get (i := 2) rfl
  have e3 : a8.cell? ⟨w.heap.size, 3, none⟩ = some (.int .i64 p) := q2.get (i := 3) rfl
  have e4 : a8.cell? ⟨w.heap.size, 4, none⟩ = some (.int .i64 t) := q2.get (i := 4) rfl
  have e5 : a8.cell? ⟨w.heap.size, 5, none⟩ = some (.bool false) := q2.get (i := 5) rfl
  clear q q2
  go_wp2_with fail
  refine (G1.out _).mono ?_
  rintro e a9 ⟨rfl, hb9⟩
  have F9 := Bx.mk (F8.out.below hb9)
  clear e0 e1 e2 e8 s0 s1 s2 e3 e4 e5
  clear hb9 F8
  have q := F9.out.get (B := w.heap.size + 1) (cs := reqL pt dv_ vf lf pk) (by simp)
  have e0 : a9.cell? ⟨w.heap.size + 1, 0, none⟩ = some (.int .i64 pt) := q.get (i := 0) rfl
  have e1 : a9.cell? ⟨w.heap.size + 1, 1, none⟩ = some (.int .i64 dv_) := q.get (i := 1) rfl
  have e2 : a9.cell? ⟨w.heap.size + 1, 2, none⟩ = some (.int .i64 vf) := q.get (i := 2) rfl
  have e8 : a9.cell? ⟨w.heap.size + 1, 3, none⟩ = some (.int .i64 lf) := q.get (i := 3) rfl
  have q2 := F9.out.get (B := w.heap.size) (cs := sessL r code x p t false) (by simp)
  have s0 : a9.cell? ⟨w.heap.size, 0, none⟩ = some (.int .i64 r) := q2.get (i := 0) rfl
  have s1 : a9.cell? ⟨w.heap.size, 1, none⟩ = some (.int .i64 code) := q2.get (i := 1) rfl
  have s2 : a9.cell? ⟨w.heap.size, 2, none⟩ = some (.int .i64 x) := q2.get (i := 2) rfl
  have e3 : a9.cell? ⟨w.heap.size, 3, none⟩ = some (.int .i64 p) := q2.get (i := 3) rfl
  have e4 : a9.cell? ⟨w.heap.size, 4, none⟩ = some (.int .i64 t) := q2.get (i := 4) rfl
  have e5 : a9.cell? ⟨w.heap.size, 5, none⟩ = some (.bool false) := q2.get (i := 5) rfl
  clear q q2
  go_wp2_with fail
  refine (G2.out _).mono ?_
  rintro e a10 ⟨rfl, hb10⟩
  have F10 := Bx.mk (F9.out.below hb10)
  clear e0 e1 e2 e8 s0 s1 s2 e3 e4 e5
  clear hb10 F9
  have q := F10.out.get (B := w.heap.size + 1) (cs := reqL pt dv_ vf lf pk) (by simp)
  have e0 : a10.cell? ⟨w.heap.size + 1, 0, none⟩ = some (.int .i64 pt) := q.get (i := 0) rfl
  have e1 : a10.cell? ⟨w.heap.size + 1, 1, none⟩ = some (.int .i64 dv_) := q.get (i := 1) rfl
  have e2 : a10.cell? ⟨w.heap.size + 1, 2, none⟩ = some (.int .i64 vf) := q.get (i := 2) rfl
  have e8 : a10.cell? ⟨w.heap.size + 1, 3, none⟩ = some (.int .i64 lf) := q.get (i := 3) rfl
  have q2 := F10.out.get (B := w.heap.size) (cs := sessL r code x p t false) (by simp)
  have s0 : a10.cell? ⟨w.heap.size, 0, none⟩ = some (.int .i64 r) := q2.get (i := 0) rfl
  have s1 : a10.cell? ⟨w.heap.size, 1, none⟩ = some (.int .i64 code) := q2.get (i := 1) rfl
  have s2 : a10.cell? ⟨w.heap.size, 2, none⟩ = some (.int .i64 x) := q2.get (i := 2) rfl
  have e3 : a10.cell? ⟨w.heap.size, 3, none⟩ = some (.int .i64 p) := q2.get (i := 3) rfl
  have e4 : a10.cell? ⟨w.heap.size, 4, none⟩ = some (.int .i64 t) := q2.get (i := 4) rfl
  have e5 : a10.cell? ⟨w.heap.size, 5, none⟩ = some (.bool false) := q2.get (i := 5) rfl
  clear q q2
  have BZ := Bx.mk F10.out.1
  go_wp2_with fail
  go_ret
  exact ⟨rfl, BZ.out⟩

set_option maxHeartbeats 32000000 in
set_option maxRecDepth 100000 in
theorem exact_x8 (r code x p t : Int) (pt dv_ vf lf : Int) (pk : List Int) (hpk : pk.length = 32) (ver bY priv : Int) (i1 : i64R pt) (i2 : i64R vf) (i3 : i64R lf) (i4 : i64R dv_) (i5 : i64R ver) (i6 : i64R bY) (w : World) (hL : Laid w) (hE : EType w) (hs : sessOK r code x p t = true) (ht : ¬ 5 ≤ t) (hd : isDev dv_ = true) (hp : dv_ / 8 = p) (h1 : elt pt = true) (h2 : elt vf = true) (h3 : elt lf = true) (n : Int) (hn : ¬ n = 0) (hc : certF 2 dv_ vf lf ver bY priv = (zeroC, n)) :
    Calls Tryz.prog 7 #[sessV r code x p t false, reqV pt dv_ vf lf pk, .int .i64 ver, .int .i64 bY, .int .i64 priv] w fun e w' => e = .returned (.bool true) ∧ Below w.heap.size w w' := by
  have HS := Bx.mk (fun w hL hE => sane38_c w hL hE)
  have HO := Bx.mk (fun w => owner_c dv_ w)
  have G0 := Bx.mk (fun w => gcheck_c pt w i1.1 i1.2)
  have G1 := Bx.mk (fun w => gcheck_c vf w i2.1 i2.2)
  have G2 := Bx.mk (fun w => gcheck_c lf w i3.1 i3.2)
  have HCk := Bx.mk (fun w => echeck_c r code x p t false w)
  have F0 := Bx.mk (fs_args w r code x p t false pt dv_ vf lf pk)
  have HL := Bx.mk hL; have HE := Bx.mk hE
  have HK := Bx.mk hpk
  have hr6 : ∀ x ∈ [2, dv_, vf, lf, ver, bY], -9223372036854775808 ≤ x ∧ x ≤ 9223372036854775807 := by
    intro x hx
    simp only [List.mem_cons, List.not_mem_nil, or_false] at hx
    rcases hx with rfl | rfl | rfl | rfl | rfl | rfl
    · decide
    · exact i4
    · exact i2
    · exact i3
    · exact i5
    · exact i6
  have HCt : Bx (∀ w, Laid w → Calls Tryz.prog 26 #[.int .i64 2, .int .i64 dv_, .int .i64 vf, .int .i64 lf, .int .i64 ver, .int .i64 bY, .int .i64 priv] w fun e w' => e = .returned (.tuple #[zeroC, .int .i64 n]) ∧ Below w.heap.size w w') := .mk fun w hL => by
    have := certify_c 2 dv_ vf lf ver bY priv w hL hr6
    rw [hc] at this
    exact this
  clear hL hE hpk i1 i2 i3 i4 i5 i6 hc hr6
  rw [hs] at HCk
  simp only [if_true] at HCk
  clear hs
  rw [show ownV dv_ = .tuple #[.int .i64 (dv_ / 8), .int .i64 0] by simp [ownV, hd], hp] at HO
  clear hd hp
  rw [gcheck_0 h1] at G0
  rw [gcheck_0 h2] at G1
  rw [gcheck_0 h3] at G2
  clear h1 h2 h3 HK
  unfold sessV reqV
  unfold sessV at HCk
  (try unfold sessV reqV at HAx)
  go_enter Tryz.func7, Tryz.ntmps7
  go_wp2_with (refine wpList_bxk rfl (.tmp 1) rfl (reqL pt dv_ vf lf pk) rfl ?_)
  refine (HS.out _ (F0.out.laid HL.out) (F0.out.etype HE.out)).mono ?_
  rintro e a1 ⟨rfl, hb1⟩
  have F1 := Bx.mk (F0.out.below hb1)
  clear hb1 F0 HS
  have q := F1.out.get (B := w.heap.size + 1) (cs := reqL pt dv_ vf lf pk) (by simp)
  have e0 : a1.cell? ⟨w.heap.size + 1, 0, none⟩ = some (.int .i64 pt) := q.get (i := 0) rfl
  have e1 : a1.cell? ⟨w.heap.size + 1, 1, none⟩ = some (.int .i64 dv_) := q.get (i := 1) rfl
  have e2 : a1.cell? ⟨w.heap.size + 1, 2, none⟩ = some (.int .i64 vf) := q.get (i := 2) rfl
  have e8 : a1.cell? ⟨w.heap.size + 1, 3, none⟩ = some (.int .i64 lf) := q.get (i := 3) rfl
  have q2 := F1.out.get (B := w.heap.size) (cs := sessL r code x p t false) (by simp)
  have s0 : a1.cell? ⟨w.heap.size, 0, none⟩ = some (.int .i64 r) := q2.get (i := 0) rfl
  have s1 : a1.cell? ⟨w.heap.size, 1, none⟩ = some (.int .i64 code) := q2.get (i := 1) rfl
  have s2 : a1.cell? ⟨w.heap.size, 2, none⟩ = some (.int .i64 x) := q2.get (i := 2) rfl
  have e3 : a1.cell? ⟨w.heap.size, 3, none⟩ = some (.int .i64 p) := q2.get (i := 3) rfl
  have e4 : a1.cell? ⟨w.heap.size, 4, none⟩ = some (.int .i64 t) := q2.get (i := 4) rfl
  have e5 : a1.cell? ⟨w.heap.size, 5, none⟩ = some (.bool false) := q2.get (i := 5) rfl
  clear q q2
  go_wp2_with fail
  refine (HO.out _).mono ?_
  rintro e a2 ⟨rfl, rfl⟩
  go_wp2_with fail
  refine (HCk.out _).mono ?_
  rintro e a7 ⟨rfl, hb7⟩
  have F7 := Bx.mk (F1.out.below hb7)
  clear e0 e1 e2 e8 s0 s1 s2 e3 e4 e5
  clear hb7 F1
  have q := F7.out.get (B := w.heap.size + 1) (cs := reqL pt dv_ vf lf pk) (by simp)
  have e0 : a7.cell? ⟨w.heap.size + 1, 0, none⟩ = some (.int .i64 pt) := q.get (i := 0) rfl
  have e1 : a7.cell? ⟨w.heap.size + 1, 1, none⟩ = some (.int .i64 dv_) := q.get (i := 1) rfl
  have e2 : a7.cell? ⟨w.heap.size + 1, 2, none⟩ = some (.int .i64 vf) := q.get (i := 2) rfl
  have e8 : a7.cell? ⟨w.heap.size + 1, 3, none⟩ = some (.int .i64 lf) := q.get (i := 3) rfl
  have q2 := F7.out.get (B := w.heap.size) (cs := sessL r code x p t false) (by simp)
  have s0 : a7.cell? ⟨w.heap.size, 0, none⟩ = some (.int .i64 r) := q2.get (i := 0) rfl
  have s1 : a7.cell? ⟨w.heap.size, 1, none⟩ = some (.int .i64 code) := q2.get (i := 1) rfl
  have s2 : a7.cell? ⟨w.heap.size, 2, none⟩ = some (.int .i64 x) := q2.get (i := 2) rfl
  have e3 : a7.cell? ⟨w.heap.size, 3, none⟩ = some (.int .i64 p) := q2.get (i := 3) rfl
  have e4 : a7.cell? ⟨w.heap.size, 4, none⟩ = some (.int .i64 t) := q2.get (i := 4) rfl
  have e5 : a7.cell? ⟨w.heap.size, 5, none⟩ = some (.bool false) := q2.get (i := 5) rfl
  clear q q2
  go_wp2_with fail
  refine (G0.out _).mono ?_
  rintro e a8 ⟨rfl, hb8⟩
  have F8 := Bx.mk (F7.out.below hb8)
  clear e0 e1 e2 e8 s0 s1 s2 e3 e4 e5
  clear hb8 F7
  have q := F8.out.get (B := w.heap.size + 1) (cs := reqL pt dv_ vf lf pk) (by simp)
  have e0 : a8.cell? ⟨w.heap.size + 1, 0, none⟩ = some (.int .i64 pt) := q.get (i := 0) rfl
  have e1 : a8.cell? ⟨w.heap.size + 1, 1, none⟩ = some (.int .i64 dv_) := q.get (i := 1) rfl
  have e2 : a8.cell? ⟨w.heap.size + 1, 2, none⟩ = some (.int .i64 vf) := q.get (i := 2) rfl
  have e8 : a8.cell? ⟨w.heap.size + 1, 3, none⟩ = some (.int .i64 lf) := q.get (i := 3) rfl
  have q2 := F8.out.get (B := w.heap.size) (cs := sessL r code x p t false) (by simp)
  have s0 : a8.cell? ⟨w.heap.size, 0, none⟩ = some (.int .i64 r) := q2.get (i := 0) rfl
  have s1 : a8.cell? ⟨w.heap.size, 1, none⟩ = some (.int .i64 code) := q2.get (i := 1) rfl
  have s2 : a8.cell? ⟨w.heap.size, 2, none⟩ = some (.int .i64 x) := q2.get (i := 2) rfl
  have e3 : a8.cell? ⟨w.heap.size, 3, none⟩ = some (.int .i64 p) := q2.get (i := 3) rfl
  have e4 : a8.cell? ⟨w.heap.size, 4, none⟩ = some (.int .i64 t) := q2.get (i := 4) rfl
  have e5 : a8.cell? ⟨w.heap.size, 5, none⟩ = some (.bool false) := q2.get (i := 5) rfl
  clear q q2
  go_wp2_with fail
  refine (G1.out _).mono ?_
  rintro e a9 ⟨rfl, hb9⟩
  have F9 := Bx.mk (F8.out.below hb9)
  clear e0 e1 e2 e8 s0 s1 s2 e3 e4 e5
  clear hb9 F8
  have q := F9.out.get (B := w.heap.size + 1) (cs := reqL pt dv_ vf lf pk) (by simp)
  have e0 : a9.cell? ⟨w.heap.size + 1, 0, none⟩ = some (.int .i64 pt) := q.get (i := 0) rfl
  have e1 : a9.cell? ⟨w.heap.size + 1, 1, none⟩ = some (.int .i64 dv_) := q.get (i := 1) rfl
  have e2 : a9.cell? ⟨w.heap.size + 1, 2, none⟩ = some (.int .i64 vf) := q.get (i := 2) rfl
  have e8 : a9.cell? ⟨w.heap.size + 1, 3, none⟩ = some (.int .i64 lf) := q.get (i := 3) rfl
  have q2 := F9.out.get (B := w.heap.size) (cs := sessL r code x p t false) (by simp)
  have s0 : a9.cell? ⟨w.heap.size, 0, none⟩ = some (.int .i64 r) := q2.get (i := 0) rfl
  have s1 : a9.cell? ⟨w.heap.size, 1, none⟩ = some (.int .i64 code) := q2.get (i := 1) rfl
  have s2 : a9.cell? ⟨w.heap.size, 2, none⟩ = some (.int .i64 x) := q2.get (i := 2) rfl
  have e3 : a9.cell? ⟨w.heap.size, 3, none⟩ = some (.int .i64 p) := q2.get (i := 3) rfl
  have e4 : a9.cell? ⟨w.heap.size, 4, none⟩ = some (.int .i64 t) := q2.get (i := 4) rfl
  have e5 : a9.cell? ⟨w.heap.size, 5, none⟩ = some (.bool false) := q2.get (i := 5) rfl
  clear q q2
  go_wp2_with fail
  refine (G2.out _).mono ?_
  rintro e a10 ⟨rfl, hb10⟩
  have F10 := Bx.mk (F9.out.below hb10)
  clear e0 e1 e2 e8 s0 s1 s2 e3 e4 e5
  clear hb10 F9
  have q := F10.out.get (B := w.heap.size + 1) (cs := reqL pt dv_ vf lf pk) (by simp)
  have e0 : a10.cell? ⟨w.heap.size + 1, 0, none⟩ = some (.int .i64 pt) := q.get (i := 0) rfl
  have e1 : a10.cell? ⟨w.heap.size + 1, 1, none⟩ = some (.int .i64 dv_) := q.get (i := 1) rfl
  have e2 : a10.cell? ⟨w.heap.size + 1, 2, none⟩ = some (.int .i64 vf) := q.get (i := 2) rfl
  have e8 : a10.cell? ⟨w.heap.size + 1, 3, none⟩ = some (.int .i64 lf) := q.get (i := 3) rfl
  have q2 := F10.out.get (B := w.heap.size) (cs := sessL r code x p t false) (by simp)
  have s0 : a10.cell? ⟨w.heap.size, 0, none⟩ = some (.int .i64 r) := q2.get (i := 0) rfl
  have s1 : a10.cell? ⟨w.heap.size, 1, none⟩ = some (.int .i64 code) := q2.get (i := 1) rfl
  have s2 : a10.cell? ⟨w.heap.size, 2, none⟩ = some (.int .i64 x) := q2.get (i := 2) rfl
  have e3 : a10.cell? ⟨w.heap.size, 3, none⟩ = some (.int .i64 p) := q2.get (i := 3) rfl
  have e4 : a10.cell? ⟨w.heap.size, 4, none⟩ = some (.int .i64 t) := q2.get (i := 4) rfl
  have e5 : a10.cell? ⟨w.heap.size, 5, none⟩ = some (.bool false) := q2.get (i := 5) rfl
  clear q q2
  go_wp2_with fail
  refine (HCt.out _ (F10.out.laid HL.out)).mono ?_
  rintro e a6 ⟨rfl, hb6⟩
  have F6 := Bx.mk (F10.out.below hb6)
  clear e0 e1 e2 e8 s0 s1 s2 e3 e4 e5
  clear hb6 F10 G0 G1 G2 HO HCk
  have zr6 := Bx.mk (row_new a6 zC 44)
  have hM6 := F6.out.2.1
  go_wp2_with (refine wpList_stR rowT_cert rfl (.tmp 13) (.tmp 84) rfl a6.heap.size rfl (zC) rfl (one_ints .i64 _) rfl zC zr6.out rfl ?_)
  intro b6 r6 g6
  obtain ⟨C, hC⟩ : ∃ C, C = a6.heap.size := ⟨_, rfl⟩
  rw [← hC] at r6 g6 hM6 ⊢
  have F8 := Bx.mk ((F6.out.alloc _).put g6 hM6 r6 (by show 0 < 8; decide))
  clear hC r6 g6 hM6 zr6 F6
  have BZ := Bx.mk F8.out.1
  go_wp2_with fail
  go_ret
  exact ⟨rfl, BZ.out⟩
end
end Go.Proofs.YtjbojoeafdkkeaaGreatDoor
