/- The specification's enrolment (chapter 38): Answer, all ways. -/
import Derived.Test.YtjbojoeafdkkeaaGreatDoorJv2
set_option linter.unusedVariables false
set_option linter.unusedSimpArgs false
namespace Go.Proofs.YtjbojoeafdkkeaaGreatDoor
open Go Go.RowKit Go.Lib

/-- Answer's blocks: the session, the request, the two results. -/
structure A4 (w : World) (sl rl xl cl : List Value) (W : World) : Prop where
  b : Below w.heap.size w W
  s : Row W w.heap.size sl
  r : Row W (w.heap.size + 1) rl
  x : Row W (w.heap.size + 2) xl
  c : Row W (w.heap.size + 3) cl
  p : 0 < sl.length ∧ 0 < rl.length ∧ 0 < xl.length ∧ 0 < cl.length
theorem A4.below {w W W2 : World} {sl rl xl cl : List Value} (h : A4 w sl rl xl cl W) (hb : Below W.heap.size W W2) : A4 w sl rl xl cl W2 :=
  ⟨below_step h.b hb (Nat.le_refl _), h.s.below hb (h.s.lt h.p.1), h.r.below hb (h.r.lt h.p.2.1), h.x.below hb (h.x.lt h.p.2.2.1), h.c.below hb (h.c.lt h.p.2.2.2), h.p⟩
theorem A4.alloc {w W : World} {sl rl xl cl : List Value} (h : A4 w sl rl xl cl W) (o : Obj) : A4 w sl rl xl cl (W.alloc o) := h.below ((Below.refl _ _).alloc (Nat.le_refl _) o)
theorem A4.drew {w W : World} {sl rl xl cl : List Value} (h : A4 w sl rl xl cl W) : A4 w sl rl xl cl W.drew := ⟨below_drewN h.b 1, h.s, h.r, h.x, h.c, h.p⟩
theorem A4.putx {w W W2 : World} {sl rl xl cl x2 : List Value} (h : A4 w sl rl xl cl W) (hg : W.grownBy W2 (some (w.heap.size + 2))) (hr : Row W2 (w.heap.size + 2) x2) (hl : 0 < x2.length) : A4 w sl rl x2 cl W2 :=
  ⟨Below.grown h.b hg h.b.size (by intro q hq; cases hq; omega), h.s.grown hg (h.s.lt h.p.1) (fun q => by have := Option.some.inj q; omega), h.r.grown hg (h.r.lt h.p.2.1) (fun q => by have := Option.some.inj q; omega), hr, h.c.grown hg (h.c.lt h.p.2.2.2) (fun q => by have := Option.some.inj q; omega), ⟨h.p.1, h.p.2.1, hl, h.p.2.2.2⟩⟩
theorem A4.putc {w W W2 : World} {sl rl xl cl c2 : List Value} (h : A4 w sl rl xl cl W) (hg : W.grownBy W2 (some (w.heap.size + 3))) (hr : Row W2 (w.heap.size + 3) c2) (hl : 0 < c2.length) : A4 w sl rl xl c2 W2 :=
  ⟨Below.grown h.b hg h.b.size (by intro q hq; cases hq; omega), h.s.grown hg (h.s.lt h.p.1) (fun q => by have := Option.some.inj q; omega), h.r.grown hg (h.r.lt h.p.2.1) (fun q => by have := Option.some.inj q; omega), h.x.grown hg (h.x.lt h.p.2.2.1) (fun q => by have := Option.some.inj q; omega), hr, ⟨h.p.1, h.p.2.1, h.p.2.2.1, hl⟩⟩
theorem A4.set {w W : World} {sl rl xl cl : List Value} (h : A4 w sl rl xl cl W) (i : Nat) (v : Value) : A4 w (sl.set i v) rl xl cl (W.setCell ⟨w.heap.size, i, none⟩ v) :=
  ⟨h.b.setCell (p := ⟨w.heap.size, i, none⟩) (Nat.le_refl _) v, h.s.set i v, h.r.other (a := ⟨w.heap.size, i, none⟩) (by show w.heap.size ≠ w.heap.size + 1; omega) v, h.x.other (a := ⟨w.heap.size, i, none⟩) (by show w.heap.size ≠ w.heap.size + 2; omega) v, h.c.other (a := ⟨w.heap.size, i, none⟩) (by show w.heap.size ≠ w.heap.size + 3; omega) v, ⟨by rw [List.length_set]; exact h.p.1, h.p.2⟩⟩
theorem a4_new (w : World) (r code x p t : Int) (d : Bool) (pt dv_ vf lf : Int) (pk : List Int) :
    A4 w (sessL r code x p t d) (reqL pt dv_ vf lf pk) sess0 zC ((((w.alloc (.cells (sessL r code x p t d).toArray 25)).alloc (.cells (reqL pt dv_ vf lf pk).toArray 37)).alloc (.cells sess0.toArray 25)).alloc (.cells zC.toArray 44)) := by
  have e1 : (w.alloc (.cells (sessL r code x p t d).toArray 25)).heap.size = w.heap.size + 1 := World.size_alloc _ _
  have e2 : ((w.alloc (.cells (sessL r code x p t d).toArray 25)).alloc (.cells (reqL pt dv_ vf lf pk).toArray 37)).heap.size = w.heap.size + 2 := by rw [World.size_alloc, e1]
  have e3 : (((w.alloc (.cells (sessL r code x p t d).toArray 25)).alloc (.cells (reqL pt dv_ vf lf pk).toArray 37)).alloc (.cells sess0.toArray 25)).heap.size = w.heap.size + 3 := by rw [World.size_alloc, e2]
  have f := fs_args w r code x p t d pt dv_ vf lf pk
  have h1 := f.get (B := w.heap.size) (cs := sessL r code x p t d) (by simp)
  have h2 := f.get (B := w.heap.size + 1) (cs := reqL pt dv_ vf lf pk) (by simp)
  have h3 := row_new ((w.alloc (.cells (sessL r code x p t d).toArray 25)).alloc (.cells (reqL pt dv_ vf lf pk).toArray 37)) sess0 25
  rw [e2] at h3
  have h4 := row_new (((w.alloc (.cells (sessL r code x p t d).toArray 25)).alloc (.cells (reqL pt dv_ vf lf pk).toArray 37)).alloc (.cells sess0.toArray 25)) zC 44
  rw [e3] at h4
  exact ⟨(f.1.alloc f.1.size _).alloc ((f.1.alloc f.1.size _).size) _, (h1.alloc (by rw [e2]; omega) _).alloc (by rw [e3]; omega) _, (h2.alloc (by rw [e2]; omega) _).alloc (by rw [e3]; omega) _, h3.alloc (by rw [e3]; omega) _, h4, ⟨by simp [sessL], by simp [reqL], by decide, by decide⟩⟩

theorem req_rangeS {W : World} {B : Nat} {pt d v l : Int} {pk : List Int} (h : Row W B (reqL pt d v l pk)) : W.rangeAt B 4 (pk.map (.int .u8)) := fun j u hj => by
  have := h.range0 (4 + j) u (by unfold reqL; rw [List.getElem?_append_right (by simp), show 4 + j - ([Value.int .i64 pt, .int .i64 d, .int .i64 v, .int .i64 l] : List Value).length = j by simp]; exact hj)
  rw [Nat.zero_add] at this
  exact this
section
attribute [local irreducible] World.setCell World.setCells World.alloc
set_option maxHeartbeats 3000000 in
set_option maxRecDepth 100000 in
theorem rans_invalid (r code x p t : Int) (d : Bool) (pt dv_ vf lf : Int) (pk : List Int) (hpk : pk.length = 32) (ver bY priv : Int) (w : World) (hs : sessOK r code x p t = false) :
    Calls Tryz.prog 23 #[sessV r code x p t d, reqV pt dv_ vf lf pk, .int .i64 ver, .int .i64 bY, .int .i64 priv] w fun e w' => e = .returned (.tuple #[.agg sess0.toArray, zeroC, .int .i64 380]) ∧ Below w.heap.size w w' := by
  have HC := Bx.mk (fun w => rsess_c r code x p t d w)
  rw [hs] at HC
  simp only [Bool.false_eq_true, if_false, if_true] at HC
  have F0 := Bx.mk (a4_new w r code x p t d pt dv_ vf lf pk)
  (try clear hs)
  unfold sessV reqV
  unfold sessV at HC
  go_enter Tryz.func23, Tryz.ntmps23
  go_wp2_with (first | (refine wpList_bxk rfl (.tmp 1) rfl (reqL pt dv_ vf lf pk) rfl ?_) | (refine wpList_pause 18 rfl ?_))
  intro W0 hW0
  have F1 : Bx (A4 w (sessL r code x p t d) (reqL pt dv_ vf lf pk) sess0 zC W0) := .mk (by rw [hW0]; exact F0.out)
  clear hW0 F0
  (try clear e0 e1 e2 e3 s0 s1 s2 s3 s4 s5)
  have e0 : W0.cell? ⟨w.heap.size + 1, 0, none⟩ = some (.int .i64 pt) := F1.out.r.get (i := 0) rfl
  have e1 : W0.cell? ⟨w.heap.size + 1, 1, none⟩ = some (.int .i64 dv_) := F1.out.r.get (i := 1) rfl
  have e2 : W0.cell? ⟨w.heap.size + 1, 2, none⟩ = some (.int .i64 vf) := F1.out.r.get (i := 2) rfl
  have e3 : W0.cell? ⟨w.heap.size + 1, 3, none⟩ = some (.int .i64 lf) := F1.out.r.get (i := 3) rfl
  have s0 : W0.cell? ⟨w.heap.size, 0, none⟩ = some (.int .i64 r) := F1.out.s.get (i := 0) rfl
  have s1 : W0.cell? ⟨w.heap.size, 1, none⟩ = some (.int .i64 code) := F1.out.s.get (i := 1) rfl
  have s2 : W0.cell? ⟨w.heap.size, 2, none⟩ = some (.int .i64 x) := F1.out.s.get (i := 2) rfl
  have s3 : W0.cell? ⟨w.heap.size, 3, none⟩ = some (.int .i64 p) := F1.out.s.get (i := 3) rfl
  have s4 : W0.cell? ⟨w.heap.size, 4, none⟩ = some (.int .i64 t) := F1.out.s.get (i := 4) rfl
  have s5 : W0.cell? ⟨w.heap.size, 5, none⟩ = some (.bool d) := F1.out.s.get (i := 5) rfl
  go_wp2_with fail
  refine (HC.out _).mono ?_
  rintro e w1 ⟨rfl, hb1⟩
  have F2 := Bx.mk (F1.out.below hb1)
  clear hb1 F1 HC
  (try clear e0 e1 e2 e3 s0 s1 s2 s3 s4 s5)
  have e0 : w1.cell? ⟨w.heap.size + 1, 0, none⟩ = some (.int .i64 pt) := F2.out.r.get (i := 0) rfl
  have e1 : w1.cell? ⟨w.heap.size + 1, 1, none⟩ = some (.int .i64 dv_) := F2.out.r.get (i := 1) rfl
  have e2 : w1.cell? ⟨w.heap.size + 1, 2, none⟩ = some (.int .i64 vf) := F2.out.r.get (i := 2) rfl
  have e3 : w1.cell? ⟨w.heap.size + 1, 3, none⟩ = some (.int .i64 lf) := F2.out.r.get (i := 3) rfl
  have s0 : w1.cell? ⟨w.heap.size, 0, none⟩ = some (.int .i64 r) := F2.out.s.get (i := 0) rfl
  have s1 : w1.cell? ⟨w.heap.size, 1, none⟩ = some (.int .i64 code) := F2.out.s.get (i := 1) rfl
  have s2 : w1.cell? ⟨w.heap.size, 2, none⟩ = some (.int .i64 x) := F2.out.s.get (i := 2) rfl
  have s3 : w1.cell? ⟨w.heap.size, 3, none⟩ = some (.int .i64 p) := F2.out.s.get (i := 3) rfl
  have s4 : w1.cell? ⟨w.heap.size, 4, none⟩ = some (.int .i64 t) := F2.out.s.get (i := 4) rfl
  have s5 : w1.cell? ⟨w.heap.size, 5, none⟩ = some (.bool d) := F2.out.s.get (i := 5) rfl
  go_wp2_with (first | (refine wpList_stR rowT_sess rfl (.tmp 10) (.tmp 22) rfl (w.heap.size + 2) rfl (sess0) rfl (sess0_one) rfl sess0 F2.out.x rfl ?_))
  intro wx rx gx
  have FX := Bx.mk (F2.out.putx gx rx (by simp [sessL, sess0]))
  clear rx gx
  (try clear e0 e1 e2 e3 s0 s1 s2 s3 s4 s5)
  go_wp2_with (refine wpList_stR rowT_cert rfl (.tmp 11) (.tmp 23) rfl (w.heap.size + 3) rfl (zC) rfl (one_ints .i64 _) rfl zC FX.out.c rfl ?_)
  intro wc rc gc
  have FC := Bx.mk (FX.out.putc gc rc (by simp [zC, z8]))
  have BE := Bx.mk FC.out.b
  have RX := Bx.mk FC.out.x
  have RC := Bx.mk FC.out.c
  clear rc gc FX FC F2
  go_wp2_with fail
  (try simp only [Exit.inBlock, Exit.then])
  refine bodyPost_ret (results_ans rfl _ _ (w.heap.size + 2) (w.heap.size + 3) (sess0) (zC) (.int .i64 380) rfl rfl rfl RX.out rfl RC.out rfl) rfl ?_
  exact ⟨rfl, BE.out⟩
set_option maxHeartbeats 3000000 in
set_option maxRecDepth 100000 in
theorem rans_five (r code x p : Int) (d : Bool) (pt dv_ vf lf : Int) (pk : List Int) (hpk : pk.length = 32) (ver bY priv : Int) (w : World) (hs : sessOK r code x p 5 = true) :
    Calls Tryz.prog 23 #[sessV r code x p 5 d, reqV pt dv_ vf lf pk, .int .i64 ver, .int .i64 bY, .int .i64 priv] w fun e w' => e = .returned (.tuple #[.agg sess0.toArray, zeroC, .int .i64 381]) ∧ Below w.heap.size w w' := by
  have HC := Bx.mk (fun w => rsess_c r code x p 5 d w)
  rw [hs] at HC
  simp only [Bool.false_eq_true, if_false, if_true] at HC
  have F0 := Bx.mk (a4_new w r code x p 5 d pt dv_ vf lf pk)
  (try clear hs)
  unfold sessV reqV
  unfold sessV at HC
  go_enter Tryz.func23, Tryz.ntmps23
  go_wp2_with (first | (refine wpList_bxk rfl (.tmp 1) rfl (reqL pt dv_ vf lf pk) rfl ?_) | (refine wpList_pause 18 rfl ?_))
  intro W0 hW0
  have F1 : Bx (A4 w (sessL r code x p 5 d) (reqL pt dv_ vf lf pk) sess0 zC W0) := .mk (by rw [hW0]; exact F0.out)
  clear hW0 F0
  (try clear e0 e1 e2 e3 s0 s1 s2 s3 s4 s5)
  have e0 : W0.cell? ⟨w.heap.size + 1, 0, none⟩ = some (.int .i64 pt) := F1.out.r.get (i := 0) rfl
  have e1 : W0.cell? ⟨w.heap.size + 1, 1, none⟩ = some (.int .i64 dv_) := F1.out.r.get (i := 1) rfl
  have e2 : W0.cell? ⟨w.heap.size + 1, 2, none⟩ = some (.int .i64 vf) := F1.out.r.get (i := 2) rfl
  have e3 : W0.cell? ⟨w.heap.size + 1, 3, none⟩ = some (.int .i64 lf) := F1.out.r.get (i := 3) rfl
  have s0 : W0.cell? ⟨w.heap.size, 0, none⟩ = some (.int .i64 r) := F1.out.s.get (i := 0) rfl
  have s1 : W0.cell? ⟨w.heap.size, 1, none⟩ = some (.int .i64 code) := F1.out.s.get (i := 1) rfl
  have s2 : W0.cell? ⟨w.heap.size, 2, none⟩ = some (.int .i64 x) := F1.out.s.get (i := 2) rfl
  have s3 : W0.cell? ⟨w.heap.size, 3, none⟩ = some (.int .i64 p) := F1.out.s.get (i := 3) rfl
  have s4 : W0.cell? ⟨w.heap.size, 4, none⟩ = some (.int .i64 5) := F1.out.s.get (i := 4) rfl
  have s5 : W0.cell? ⟨w.heap.size, 5, none⟩ = some (.bool d) := F1.out.s.get (i := 5) rfl
  go_wp2_with fail
  refine (HC.out _).mono ?_
  rintro e w1 ⟨rfl, hb1⟩
  have F2 := Bx.mk (F1.out.below hb1)
  clear hb1 F1 HC
  (try clear e0 e1 e2 e3 s0 s1 s2 s3 s4 s5)
  have e0 : w1.cell? ⟨w.heap.size + 1, 0, none⟩ = some (.int .i64 pt) := F2.out.r.get (i := 0) rfl
  have e1 : w1.cell? ⟨w.heap.size + 1, 1, none⟩ = some (.int .i64 dv_) := F2.out.r.get (i := 1) rfl
  have e2 : w1.cell? ⟨w.heap.size + 1, 2, none⟩ = some (.int .i64 vf) := F2.out.r.get (i := 2) rfl
  have e3 : w1.cell? ⟨w.heap.size + 1, 3, none⟩ = some (.int .i64 lf) := F2.out.r.get (i := 3) rfl
  have s0 : w1.cell? ⟨w.heap.size, 0, none⟩ = some (.int .i64 r) := F2.out.s.get (i := 0) rfl
  have s1 : w1.cell? ⟨w.heap.size, 1, none⟩ = some (.int .i64 code) := F2.out.s.get (i := 1) rfl
  have s2 : w1.cell? ⟨w.heap.size, 2, none⟩ = some (.int .i64 x) := F2.out.s.get (i := 2) rfl
  have s3 : w1.cell? ⟨w.heap.size, 3, none⟩ = some (.int .i64 p) := F2.out.s.get (i := 3) rfl
  have s4 : w1.cell? ⟨w.heap.size, 4, none⟩ = some (.int .i64 5) := F2.out.s.get (i := 4) rfl
  have s5 : w1.cell? ⟨w.heap.size, 5, none⟩ = some (.bool d) := F2.out.s.get (i := 5) rfl
  go_wp2_with (first | (refine wpList_stR rowT_sess rfl (.tmp 10) (.tmp 28) rfl (w.heap.size + 2) rfl (sess0) rfl (sess0_one) rfl sess0 F2.out.x rfl ?_))
  intro wx rx gx
  have FX := Bx.mk (F2.out.putx gx rx (by simp [sessL, sess0]))
  clear rx gx
  (try clear e0 e1 e2 e3 s0 s1 s2 s3 s4 s5)
  go_wp2_with (refine wpList_stR rowT_cert rfl (.tmp 11) (.tmp 29) rfl (w.heap.size + 3) rfl (zC) rfl (one_ints .i64 _) rfl zC FX.out.c rfl ?_)
  intro wc rc gc
  have FC := Bx.mk (FX.out.putc gc rc (by simp [zC, z8]))
  have BE := Bx.mk FC.out.b
  have RX := Bx.mk FC.out.x
  have RC := Bx.mk FC.out.c
  clear rc gc FX FC F2
  go_wp2_with fail
  (try simp only [Exit.inBlock, Exit.then])
  refine bodyPost_ret (results_ans rfl _ _ (w.heap.size + 2) (w.heap.size + 3) (sess0) (zC) (.int .i64 381) rfl rfl rfl RX.out rfl RC.out rfl) rfl ?_
  exact ⟨rfl, BE.out⟩
set_option maxHeartbeats 3000000 in
set_option maxRecDepth 100000 in
theorem rans_done (r code x p t : Int) (pt dv_ vf lf : Int) (pk : List Int) (hpk : pk.length = 32) (ver bY priv : Int) (w : World) (hs : sessOK r code x p t = true) (ht : ¬ t = 5) :
    Calls Tryz.prog 23 #[sessV r code x p t true, reqV pt dv_ vf lf pk, .int .i64 ver, .int .i64 bY, .int .i64 priv] w fun e w' => e = .returned (.tuple #[.agg sess0.toArray, zeroC, .int .i64 380]) ∧ Below w.heap.size w w' := by
  have HC := Bx.mk (fun w => rsess_c r code x p t true w)
  rw [hs] at HC
  simp only [Bool.false_eq_true, if_false, if_true] at HC
  have F0 := Bx.mk (a4_new w r code x p t true pt dv_ vf lf pk)
  (try clear hs)
  unfold sessV reqV
  unfold sessV at HC
  go_enter Tryz.func23, Tryz.ntmps23
  go_wp2_with (first | (refine wpList_bxk rfl (.tmp 1) rfl (reqL pt dv_ vf lf pk) rfl ?_) | (refine wpList_pause 18 rfl ?_))
  intro W0 hW0
  have F1 : Bx (A4 w (sessL r code x p t true) (reqL pt dv_ vf lf pk) sess0 zC W0) := .mk (by rw [hW0]; exact F0.out)
  clear hW0 F0
  (try clear e0 e1 e2 e3 s0 s1 s2 s3 s4 s5)
  have e0 : W0.cell? ⟨w.heap.size + 1, 0, none⟩ = some (.int .i64 pt) := F1.out.r.get (i := 0) rfl
  have e1 : W0.cell? ⟨w.heap.size + 1, 1, none⟩ = some (.int .i64 dv_) := F1.out.r.get (i := 1) rfl
  have e2 : W0.cell? ⟨w.heap.size + 1, 2, none⟩ = some (.int .i64 vf) := F1.out.r.get (i := 2) rfl
  have e3 : W0.cell? ⟨w.heap.size + 1, 3, none⟩ = some (.int .i64 lf) := F1.out.r.get (i := 3) rfl
  have s0 : W0.cell? ⟨w.heap.size, 0, none⟩ = some (.int .i64 r) := F1.out.s.get (i := 0) rfl
  have s1 : W0.cell? ⟨w.heap.size, 1, none⟩ = some (.int .i64 code) := F1.out.s.get (i := 1) rfl
  have s2 : W0.cell? ⟨w.heap.size, 2, none⟩ = some (.int .i64 x) := F1.out.s.get (i := 2) rfl
  have s3 : W0.cell? ⟨w.heap.size, 3, none⟩ = some (.int .i64 p) := F1.out.s.get (i := 3) rfl
  have s4 : W0.cell? ⟨w.heap.size, 4, none⟩ = some (.int .i64 t) := F1.out.s.get (i := 4) rfl
  have s5 : W0.cell? ⟨w.heap.size, 5, none⟩ = some (.bool true) := F1.out.s.get (i := 5) rfl
  go_wp2_with fail
  refine (HC.out _).mono ?_
  rintro e w1 ⟨rfl, hb1⟩
  have F2 := Bx.mk (F1.out.below hb1)
  clear hb1 F1 HC
  (try clear e0 e1 e2 e3 s0 s1 s2 s3 s4 s5)
  have e0 : w1.cell? ⟨w.heap.size + 1, 0, none⟩ = some (.int .i64 pt) := F2.out.r.get (i := 0) rfl
  have e1 : w1.cell? ⟨w.heap.size + 1, 1, none⟩ = some (.int .i64 dv_) := F2.out.r.get (i := 1) rfl
  have e2 : w1.cell? ⟨w.heap.size + 1, 2, none⟩ = some (.int .i64 vf) := F2.out.r.get (i := 2) rfl
  have e3 : w1.cell? ⟨w.heap.size + 1, 3, none⟩ = some (.int .i64 lf) := F2.out.r.get (i := 3) rfl
  have s0 : w1.cell? ⟨w.heap.size, 0, none⟩ = some (.int .i64 r) := F2.out.s.get (i := 0) rfl
  have s1 : w1.cell? ⟨w.heap.size, 1, none⟩ = some (.int .i64 code) := F2.out.s.get (i := 1) rfl
  have s2 : w1.cell? ⟨w.heap.size, 2, none⟩ = some (.int .i64 x) := F2.out.s.get (i := 2) rfl
  have s3 : w1.cell? ⟨w.heap.size, 3, none⟩ = some (.int .i64 p) := F2.out.s.get (i := 3) rfl
  have s4 : w1.cell? ⟨w.heap.size, 4, none⟩ = some (.int .i64 t) := F2.out.s.get (i := 4) rfl
  have s5 : w1.cell? ⟨w.heap.size, 5, none⟩ = some (.bool true) := F2.out.s.get (i := 5) rfl
  go_wp2_with (first | (refine wpList_stR rowT_sess rfl (.tmp 10) (.tmp 32) rfl (w.heap.size + 2) rfl (sess0) rfl (sess0_one) rfl sess0 F2.out.x rfl ?_))
  intro wx rx gx
  have FX := Bx.mk (F2.out.putx gx rx (by simp [sessL, sess0]))
  clear rx gx
  (try clear e0 e1 e2 e3 s0 s1 s2 s3 s4 s5)
  go_wp2_with (refine wpList_stR rowT_cert rfl (.tmp 11) (.tmp 33) rfl (w.heap.size + 3) rfl (zC) rfl (one_ints .i64 _) rfl zC FX.out.c rfl ?_)
  intro wc rc gc
  have FC := Bx.mk (FX.out.putc gc rc (by simp [zC, z8]))
  have BE := Bx.mk FC.out.b
  have RX := Bx.mk FC.out.x
  have RC := Bx.mk FC.out.c
  clear rc gc FX FC F2
  go_wp2_with fail
  (try simp only [Exit.inBlock, Exit.then])
  refine bodyPost_ret (results_ans rfl _ _ (w.heap.size + 2) (w.heap.size + 3) (sess0) (zC) (.int .i64 380) rfl rfl rfl RX.out rfl RC.out rfl) rfl ?_
  exact ⟨rfl, BE.out⟩
set_option maxHeartbeats 3000000 in
set_option maxRecDepth 100000 in
theorem rans_dev (r code x p t : Int) (pt dv_ vf lf : Int) (pk : List Int) (hpk : pk.length = 32) (ver bY priv : Int) (w : World) (hs : sessOK r code x p t = true) (ht : ¬ t = 5) (hd : isDev dv_ = false) :
    Calls Tryz.prog 23 #[sessV r code x p t false, reqV pt dv_ vf lf pk, .int .i64 ver, .int .i64 bY, .int .i64 priv] w fun e w' => e = .returned (.tuple #[.agg sess0.toArray, zeroC, .int .i64 1]) ∧ Below w.heap.size w w' := by
  have HC := Bx.mk (fun w => rsess_c r code x p t false w)
  rw [hs] at HC
  simp only [Bool.false_eq_true, if_false, if_true] at HC
  have F0 := Bx.mk (a4_new w r code x p t false pt dv_ vf lf pk)
  have HO := Bx.mk (fun w => rowner_c dv_ w)
  rw [show ownV dv_ = .tuple #[.int .i64 0, .int .i64 371] by unfold ownV; rw [hd]; rfl] at HO
  clear hd
  (try clear hs)
  unfold sessV reqV
  unfold sessV at HC
  go_enter Tryz.func23, Tryz.ntmps23
  go_wp2_with (first | (refine wpList_bxk rfl (.tmp 1) rfl (reqL pt dv_ vf lf pk) rfl ?_) | (refine wpList_pause 18 rfl ?_))
  intro W0 hW0
  have F1 : Bx (A4 w (sessL r code x p t false) (reqL pt dv_ vf lf pk) sess0 zC W0) := .mk (by rw [hW0]; exact F0.out)
  clear hW0 F0
  (try clear e0 e1 e2 e3 s0 s1 s2 s3 s4 s5)
  have e0 : W0.cell? ⟨w.heap.size + 1, 0, none⟩ = some (.int .i64 pt) := F1.out.r.get (i := 0) rfl
  have e1 : W0.cell? ⟨w.heap.size + 1, 1, none⟩ = some (.int .i64 dv_) := F1.out.r.get (i := 1) rfl
  have e2 : W0.cell? ⟨w.heap.size + 1, 2, none⟩ = some (.int .i64 vf) := F1.out.r.get (i := 2) rfl
  have e3 : W0.cell? ⟨w.heap.size + 1, 3, none⟩ = some (.int .i64 lf) := F1.out.r.get (i := 3) rfl
  have s0 : W0.cell? ⟨w.heap.size, 0, none⟩ = some (.int .i64 r) := F1.out.s.get (i := 0) rfl
  have s1 : W0.cell? ⟨w.heap.size, 1, none⟩ = some (.int .i64 code) := F1.out.s.get (i := 1) rfl
  have s2 : W0.cell? ⟨w.heap.size, 2, none⟩ = some (.int .i64 x) := F1.out.s.get (i := 2) rfl
  have s3 : W0.cell? ⟨w.heap.size, 3, none⟩ = some (.int .i64 p) := F1.out.s.get (i := 3) rfl
  have s4 : W0.cell? ⟨w.heap.size, 4, none⟩ = some (.int .i64 t) := F1.out.s.get (i := 4) rfl
  have s5 : W0.cell? ⟨w.heap.size, 5, none⟩ = some (.bool false) := F1.out.s.get (i := 5) rfl
  go_wp2_with fail
  refine (HC.out _).mono ?_
  rintro e w1 ⟨rfl, hb1⟩
  have F2 := Bx.mk (F1.out.below hb1)
  clear hb1 F1 HC
  (try clear e0 e1 e2 e3 s0 s1 s2 s3 s4 s5)
  have e0 : w1.cell? ⟨w.heap.size + 1, 0, none⟩ = some (.int .i64 pt) := F2.out.r.get (i := 0) rfl
  have e1 : w1.cell? ⟨w.heap.size + 1, 1, none⟩ = some (.int .i64 dv_) := F2.out.r.get (i := 1) rfl
  have e2 : w1.cell? ⟨w.heap.size + 1, 2, none⟩ = some (.int .i64 vf) := F2.out.r.get (i := 2) rfl
  have e3 : w1.cell? ⟨w.heap.size + 1, 3, none⟩ = some (.int .i64 lf) := F2.out.r.get (i := 3) rfl
  have s0 : w1.cell? ⟨w.heap.size, 0, none⟩ = some (.int .i64 r) := F2.out.s.get (i := 0) rfl
  have s1 : w1.cell? ⟨w.heap.size, 1, none⟩ = some (.int .i64 code) := F2.out.s.get (i := 1) rfl
  have s2 : w1.cell? ⟨w.heap.size, 2, none⟩ = some (.int .i64 x) := F2.out.s.get (i := 2) rfl
  have s3 : w1.cell? ⟨w.heap.size, 3, none⟩ = some (.int .i64 p) := F2.out.s.get (i := 3) rfl
  have s4 : w1.cell? ⟨w.heap.size, 4, none⟩ = some (.int .i64 t) := F2.out.s.get (i := 4) rfl
  have s5 : w1.cell? ⟨w.heap.size, 5, none⟩ = some (.bool false) := F2.out.s.get (i := 5) rfl
  go_wp2_with fail
  refine (HO.out _).mono ?_
  rintro e w2 ⟨rfl, rfl⟩
  go_wp2_with (first | (refine wpList_stR rowT_sess rfl (.tmp 10) (.tmp 66) rfl (w.heap.size + 2) rfl (sess0) rfl (sess0_one) rfl sess0 F2.out.x rfl ?_))
  intro wx rx gx
  have FX := Bx.mk (F2.out.putx gx rx (by simp [sessL, sess0]))
  clear rx gx
  (try clear e0 e1 e2 e3 s0 s1 s2 s3 s4 s5)
  go_wp2_with (refine wpList_stR rowT_cert rfl (.tmp 11) (.tmp 67) rfl (w.heap.size + 3) rfl (zC) rfl (one_ints .i64 _) rfl zC FX.out.c rfl ?_)
  intro wc rc gc
  have FC := Bx.mk (FX.out.putc gc rc (by simp [zC, z8]))
  have BE := Bx.mk FC.out.b
  have RX := Bx.mk FC.out.x
  have RC := Bx.mk FC.out.c
  clear rc gc FX FC F2
  go_wp2_with fail
  (try simp only [Exit.inBlock, Exit.then])
  refine bodyPost_ret (results_ans rfl _ _ (w.heap.size + 2) (w.heap.size + 3) (sess0) (zC) (.int .i64 1) rfl rfl rfl RX.out rfl RC.out rfl) rfl ?_
  exact ⟨rfl, BE.out⟩
set_option maxHeartbeats 3000000 in
set_option maxRecDepth 100000 in
theorem rans_own (r code x p t : Int) (pt dv_ vf lf : Int) (pk : List Int) (hpk : pk.length = 32) (ver bY priv : Int) (w : World) (hs : sessOK r code x p t = true) (ht : ¬ t = 5) (hd : isDev dv_ = true) (hp : ¬ dv_ / 8 = p) :
    Calls Tryz.prog 23 #[sessV r code x p t false, reqV pt dv_ vf lf pk, .int .i64 ver, .int .i64 bY, .int .i64 priv] w fun e w' => e = .returned (.tuple #[.agg sess0.toArray, zeroC, .int .i64 1]) ∧ Below w.heap.size w w' := by
  have HC := Bx.mk (fun w => rsess_c r code x p t false w)
  rw [hs] at HC
  simp only [Bool.false_eq_true, if_false, if_true] at HC
  have F0 := Bx.mk (a4_new w r code x p t false pt dv_ vf lf pk)
  have HO := Bx.mk (fun w => rowner_c dv_ w)
  rw [show ownV dv_ = .tuple #[.int .i64 (dv_ / 8), .int .i64 0] by unfold ownV; rw [hd]; rfl] at HO
  clear hd
  (try clear hs)
  unfold sessV reqV
  unfold sessV at HC
  go_enter Tryz.func23, Tryz.ntmps23
  go_wp2_with (first | (refine wpList_bxk rfl (.tmp 1) rfl (reqL pt dv_ vf lf pk) rfl ?_) | (refine wpList_pause 18 rfl ?_))
  intro W0 hW0
  have F1 : Bx (A4 w (sessL r code x p t false) (reqL pt dv_ vf lf pk) sess0 zC W0) := .mk (by rw [hW0]; exact F0.out)
  clear hW0 F0
  (try clear e0 e1 e2 e3 s0 s1 s2 s3 s4 s5)
  have e0 : W0.cell? ⟨w.heap.size + 1, 0, none⟩ = some (.int .i64 pt) := F1.out.r.get (i := 0) rfl
  have e1 : W0.cell? ⟨w.heap.size + 1, 1, none⟩ = some (.int .i64 dv_) := F1.out.r.get (i := 1) rfl
  have e2 : W0.cell? ⟨w.heap.size + 1, 2, none⟩ = some (.int .i64 vf) := F1.out.r.get (i := 2) rfl
  have e3 : W0.cell? ⟨w.heap.size + 1, 3, none⟩ = some (.int .i64 lf) := F1.out.r.get (i := 3) rfl
  have s0 : W0.cell? ⟨w.heap.size, 0, none⟩ = some (.int .i64 r) := F1.out.s.get (i := 0) rfl
  have s1 : W0.cell? ⟨w.heap.size, 1, none⟩ = some (.int .i64 code) := F1.out.s.get (i := 1) rfl
  have s2 : W0.cell? ⟨w.heap.size, 2, none⟩ = some (.int .i64 x) := F1.out.s.get (i := 2) rfl
  have s3 : W0.cell? ⟨w.heap.size, 3, none⟩ = some (.int .i64 p) := F1.out.s.get (i := 3) rfl
  have s4 : W0.cell? ⟨w.heap.size, 4, none⟩ = some (.int .i64 t) := F1.out.s.get (i := 4) rfl
  have s5 : W0.cell? ⟨w.heap.size, 5, none⟩ = some (.bool false) := F1.out.s.get (i := 5) rfl
  go_wp2_with fail
  refine (HC.out _).mono ?_
  rintro e w1 ⟨rfl, hb1⟩
  have F2 := Bx.mk (F1.out.below hb1)
  clear hb1 F1 HC
  (try clear e0 e1 e2 e3 s0 s1 s2 s3 s4 s5)
  have e0 : w1.cell? ⟨w.heap.size + 1, 0, none⟩ = some (.int .i64 pt) := F2.out.r.get (i := 0) rfl
  have e1 : w1.cell? ⟨w.heap.size + 1, 1, none⟩ = some (.int .i64 dv_) := F2.out.r.get (i := 1) rfl
  have e2 : w1.cell? ⟨w.heap.size + 1, 2, none⟩ = some (.int .i64 vf) := F2.out.r.get (i := 2) rfl
  have e3 : w1.cell? ⟨w.heap.size + 1, 3, none⟩ = some (.int .i64 lf) := F2.out.r.get (i := 3) rfl
  have s0 : w1.cell? ⟨w.heap.size, 0, none⟩ = some (.int .i64 r) := F2.out.s.get (i := 0) rfl
  have s1 : w1.cell? ⟨w.heap.size, 1, none⟩ = some (.int .i64 code) := F2.out.s.get (i := 1) rfl
  have s2 : w1.cell? ⟨w.heap.size, 2, none⟩ = some (.int .i64 x) := F2.out.s.get (i := 2) rfl
  have s3 : w1.cell? ⟨w.heap.size, 3, none⟩ = some (.int .i64 p) := F2.out.s.get (i := 3) rfl
  have s4 : w1.cell? ⟨w.heap.size, 4, none⟩ = some (.int .i64 t) := F2.out.s.get (i := 4) rfl
  have s5 : w1.cell? ⟨w.heap.size, 5, none⟩ = some (.bool false) := F2.out.s.get (i := 5) rfl
  go_wp2_with fail
  refine (HO.out _).mono ?_
  rintro e w2 ⟨rfl, rfl⟩
  go_wp2_with (first | (refine wpList_stR rowT_sess rfl (.tmp 10) (.tmp 66) rfl (w.heap.size + 2) rfl (sess0) rfl (sess0_one) rfl sess0 F2.out.x rfl ?_))
  intro wx rx gx
  have FX := Bx.mk (F2.out.putx gx rx (by simp [sessL, sess0]))
  clear rx gx
  (try clear e0 e1 e2 e3 s0 s1 s2 s3 s4 s5)
  go_wp2_with (refine wpList_stR rowT_cert rfl (.tmp 11) (.tmp 67) rfl (w.heap.size + 3) rfl (zC) rfl (one_ints .i64 _) rfl zC FX.out.c rfl ?_)
  intro wc rc gc
  have FC := Bx.mk (FX.out.putc gc rc (by simp [zC, z8]))
  have BE := Bx.mk FC.out.b
  have RX := Bx.mk FC.out.x
  have RC := Bx.mk FC.out.c
  clear rc gc FX FC F2
  go_wp2_with fail
  (try simp only [Exit.inBlock, Exit.then])
  refine bodyPost_ret (results_ans rfl _ _ (w.heap.size + 2) (w.heap.size + 3) (sess0) (zC) (.int .i64 1) rfl rfl rfl RX.out rfl RC.out rfl) rfl ?_
  exact ⟨rfl, BE.out⟩
set_option maxHeartbeats 3000000 in
set_option maxRecDepth 100000 in
theorem rans_pt (r code x p t : Int) (pt dv_ vf lf : Int) (pk : List Int) (hpk : pk.length = 32) (ver bY priv : Int) (w : World) (hs : sessOK r code x p t = true) (ht : ¬ t = 5) (hd : isDev dv_ = true) (hp : dv_ / 8 = p) (h_pt : ¬ elt pt = true) :
    Calls Tryz.prog 23 #[sessV r code x p t false, reqV pt dv_ vf lf pk, .int .i64 ver, .int .i64 bY, .int .i64 priv] w fun e w' => e = .returned (.tuple #[.agg sess0.toArray, zeroC, .int .i64 1]) ∧ Below w.heap.size w w' := by
  have HC := Bx.mk (fun w => rsess_c r code x p t false w)
  rw [hs] at HC
  simp only [Bool.false_eq_true, if_false, if_true] at HC
  have F0 := Bx.mk (a4_new w r code x p t false pt dv_ vf lf pk)
  have HO := Bx.mk (fun w => rowner_c dv_ w)
  rw [show ownV dv_ = .tuple #[.int .i64 p, .int .i64 0] by unfold ownV; rw [hd, ← hp]; rfl] at HO
  clear hp
  have G0 := Bx.mk (fun w => rcheck_c pt w)
  rw [gcheck_40 h_pt] at G0
  clear hd h_pt
  (try clear hs)
  unfold sessV reqV
  unfold sessV at HC
  go_enter Tryz.func23, Tryz.ntmps23
  go_wp2_with (first | (refine wpList_bxk rfl (.tmp 1) rfl (reqL pt dv_ vf lf pk) rfl ?_) | (refine wpList_pause 18 rfl ?_))
  intro W0 hW0
  have F1 : Bx (A4 w (sessL r code x p t false) (reqL pt dv_ vf lf pk) sess0 zC W0) := .mk (by rw [hW0]; exact F0.out)
  clear hW0 F0
  (try clear e0 e1 e2 e3 s0 s1 s2 s3 s4 s5)
  have e0 : W0.cell? ⟨w.heap.size + 1, 0, none⟩ = some (.int .i64 pt) := F1.out.r.get (i := 0) rfl
  have e1 : W0.cell? ⟨w.heap.size + 1, 1, none⟩ = some (.int .i64 dv_) := F1.out.r.get (i := 1) rfl
  have e2 : W0.cell? ⟨w.heap.size + 1, 2, none⟩ = some (.int .i64 vf) := F1.out.r.get (i := 2) rfl
  have e3 : W0.cell? ⟨w.heap.size + 1, 3, none⟩ = some (.int .i64 lf) := F1.out.r.get (i := 3) rfl
  have s0 : W0.cell? ⟨w.heap.size, 0, none⟩ = some (.int .i64 r) := F1.out.s.get (i := 0) rfl
  have s1 : W0.cell? ⟨w.heap.size, 1, none⟩ = some (.int .i64 code) := F1.out.s.get (i := 1) rfl
  have s2 : W0.cell? ⟨w.heap.size, 2, none⟩ = some (.int .i64 x) := F1.out.s.get (i := 2) rfl
  have s3 : W0.cell? ⟨w.heap.size, 3, none⟩ = some (.int .i64 p) := F1.out.s.get (i := 3) rfl
  have s4 : W0.cell? ⟨w.heap.size, 4, none⟩ = some (.int .i64 t) := F1.out.s.get (i := 4) rfl
  have s5 : W0.cell? ⟨w.heap.size, 5, none⟩ = some (.bool false) := F1.out.s.get (i := 5) rfl
  go_wp2_with fail
  refine (HC.out _).mono ?_
  rintro e w1 ⟨rfl, hb1⟩
  have F2 := Bx.mk (F1.out.below hb1)
  clear hb1 F1 HC
  (try clear e0 e1 e2 e3 s0 s1 s2 s3 s4 s5)
  have e0 : w1.cell? ⟨w.heap.size + 1, 0, none⟩ = some (.int .i64 pt) := F2.out.r.get (i := 0) rfl
  have e1 : w1.cell? ⟨w.heap.size + 1, 1, none⟩ = some (.int .i64 dv_) := F2.out.r.get (i := 1) rfl
  have e2 : w1.cell? ⟨w.heap.size + 1, 2, none⟩ = some (.int .i64 vf) := F2.out.r.get (i := 2) rfl
  have e3 : w1.cell? ⟨w.heap.size + 1, 3, none⟩ = some (.int .i64 lf) := F2.out.r.get (i := 3) rfl
  have s0 : w1.cell? ⟨w.heap.size, 0, none⟩ = some (.int .i64 r) := F2.out.s.get (i := 0) rfl
  have s1 : w1.cell? ⟨w.heap.size, 1, none⟩ = some (.int .i64 code) := F2.out.s.get (i := 1) rfl
  have s2 : w1.cell? ⟨w.heap.size, 2, none⟩ = some (.int .i64 x) := F2.out.s.get (i := 2) rfl
  have s3 : w1.cell? ⟨w.heap.size, 3, none⟩ = some (.int .i64 p) := F2.out.s.get (i := 3) rfl
  have s4 : w1.cell? ⟨w.heap.size, 4, none⟩ = some (.int .i64 t) := F2.out.s.get (i := 4) rfl
  have s5 : w1.cell? ⟨w.heap.size, 5, none⟩ = some (.bool false) := F2.out.s.get (i := 5) rfl
  go_wp2_with fail
  refine (HO.out _).mono ?_
  rintro e w2 ⟨rfl, rfl⟩
  go_wp2_with fail
  refine (G0.out _).mono ?_
  rintro e w2 ⟨rfl, rfl⟩
  go_wp2_with (first | (refine wpList_stR rowT_sess rfl (.tmp 10) (.tmp 66) rfl (w.heap.size + 2) rfl (sess0) rfl (sess0_one) rfl sess0 F2.out.x rfl ?_))
  intro wx rx gx
  have FX := Bx.mk (F2.out.putx gx rx (by simp [sessL, sess0]))
  clear rx gx
  (try clear e0 e1 e2 e3 s0 s1 s2 s3 s4 s5)
  go_wp2_with (refine wpList_stR rowT_cert rfl (.tmp 11) (.tmp 67) rfl (w.heap.size + 3) rfl (zC) rfl (one_ints .i64 _) rfl zC FX.out.c rfl ?_)
  intro wc rc gc
  have FC := Bx.mk (FX.out.putc gc rc (by simp [zC, z8]))
  have BE := Bx.mk FC.out.b
  have RX := Bx.mk FC.out.x
  have RC := Bx.mk FC.out.c
  clear rc gc FX FC F2
  go_wp2_with fail
  (try simp only [Exit.inBlock, Exit.then])
  refine bodyPost_ret (results_ans rfl _ _ (w.heap.size + 2) (w.heap.size + 3) (sess0) (zC) (.int .i64 1) rfl rfl rfl RX.out rfl RC.out rfl) rfl ?_
  exact ⟨rfl, BE.out⟩
set_option maxHeartbeats 3000000 in
set_option maxRecDepth 100000 in
theorem rans_vf (r code x p t : Int) (pt dv_ vf lf : Int) (pk : List Int) (hpk : pk.length = 32) (ver bY priv : Int) (w : World) (hs : sessOK r code x p t = true) (ht : ¬ t = 5) (hd : isDev dv_ = true) (hp : dv_ / 8 = p) (h_pt : elt pt = true) (h_vf : ¬ elt vf = true) :
    Calls Tryz.prog 23 #[sessV r code x p t false, reqV pt dv_ vf lf pk, .int .i64 ver, .int .i64 bY, .int .i64 priv] w fun e w' => e = .returned (.tuple #[.agg sess0.toArray, zeroC, .int .i64 1]) ∧ Below w.heap.size w w' := by
  have HC := Bx.mk (fun w => rsess_c r code x p t false w)
  rw [hs] at HC
  simp only [Bool.false_eq_true, if_false, if_true] at HC
  have F0 := Bx.mk (a4_new w r code x p t false pt dv_ vf lf pk)
  have HO := Bx.mk (fun w => rowner_c dv_ w)
  rw [show ownV dv_ = .tuple #[.int .i64 p, .int .i64 0] by unfold ownV; rw [hd, ← hp]; rfl] at HO
  clear hp
  have G0 := Bx.mk (fun w => rcheck_c pt w)
  rw [gcheck_0 h_pt] at G0
  have G1 := Bx.mk (fun w => rcheck_c vf w)
  rw [gcheck_40 h_vf] at G1
  clear hd h_pt h_vf
  (try clear hs)
  unfold sessV reqV
  unfold sessV at HC
  go_enter Tryz.func23, Tryz.ntmps23
  go_wp2_with (first | (refine wpList_bxk rfl (.tmp 1) rfl (reqL pt dv_ vf lf pk) rfl ?_) | (refine wpList_pause 18 rfl ?_))
  intro W0 hW0
  have F1 : Bx (A4 w (sessL r code x p t false) (reqL pt dv_ vf lf pk) sess0 zC W0) := .mk (by rw [hW0]; exact F0.out)
  clear hW0 F0
  (try clear e0 e1 e2 e3 s0 s1 s2 s3 s4 s5)
  have e0 : W0.cell? ⟨w.heap.size + 1, 0, none⟩ = some (.int .i64 pt) := F1.out.r.get (i := 0) rfl
  have e1 : W0.cell? ⟨w.heap.size + 1, 1, none⟩ = some (.int .i64 dv_) := F1.out.r.get (i := 1) rfl
  have e2 : W0.cell? ⟨w.heap.size + 1, 2, none⟩ = some (.int .i64 vf) := F1.out.r.get (i := 2) rfl
  have e3 : W0.cell? ⟨w.heap.size + 1, 3, none⟩ = some (.int .i64 lf) := F1.out.r.get (i := 3) rfl
  have s0 : W0.cell? ⟨w.heap.size, 0, none⟩ = some (.int .i64 r) := F1.out.s.get (i := 0) rfl
  have s1 : W0.cell? ⟨w.heap.size, 1, none⟩ = some (.int .i64 code) := F1.out.s.get (i := 1) rfl
  have s2 : W0.cell? ⟨w.heap.size, 2, none⟩ = some (.int .i64 x) := F1.out.s.get (i := 2) rfl
  have s3 : W0.cell? ⟨w.heap.size, 3, none⟩ = some (.int .i64 p) := F1.out.s.get (i := 3) rfl
  have s4 : W0.cell? ⟨w.heap.size, 4, none⟩ = some (.int .i64 t) := F1.out.s.get (i := 4) rfl
  have s5 : W0.cell? ⟨w.heap.size, 5, none⟩ = some (.bool false) := F1.out.s.get (i := 5) rfl
  go_wp2_with fail
  refine (HC.out _).mono ?_
  rintro e w1 ⟨rfl, hb1⟩
  have F2 := Bx.mk (F1.out.below hb1)
  clear hb1 F1 HC
  (try clear e0 e1 e2 e3 s0 s1 s2 s3 s4 s5)
  have e0 : w1.cell? ⟨w.heap.size + 1, 0, none⟩ = some (.int .i64 pt) := F2.out.r.get (i := 0) rfl
  have e1 : w1.cell? ⟨w.heap.size + 1, 1, none⟩ = some (.int .i64 dv_) := F2.out.r.get (i := 1) rfl
  have e2 : w1.cell? ⟨w.heap.size + 1, 2, none⟩ = some (.int .i64 vf) := F2.out.r.get (i := 2) rfl
  have e3 : w1.cell? ⟨w.heap.size + 1, 3, none⟩ = some (.int .i64 lf) := F2.out.r.get (i := 3) rfl
  have s0 : w1.cell? ⟨w.heap.size, 0, none⟩ = some (.int .i64 r) := F2.out.s.get (i := 0) rfl
  have s1 : w1.cell? ⟨w.heap.size, 1, none⟩ = some (.int .i64 code) := F2.out.s.get (i := 1) rfl
  have s2 : w1.cell? ⟨w.heap.size, 2, none⟩ = some (.int .i64 x) := F2.out.s.get (i := 2) rfl
  have s3 : w1.cell? ⟨w.heap.size, 3, none⟩ = some (.int .i64 p) := F2.out.s.get (i := 3) rfl
  have s4 : w1.cell? ⟨w.heap.size, 4, none⟩ = some (.int .i64 t) := F2.out.s.get (i := 4) rfl
  have s5 : w1.cell? ⟨w.heap.size, 5, none⟩ = some (.bool false) := F2.out.s.get (i := 5) rfl
  go_wp2_with fail
  refine (HO.out _).mono ?_
  rintro e w2 ⟨rfl, rfl⟩
  go_wp2_with fail
  refine (G0.out _).mono ?_
  rintro e w2 ⟨rfl, rfl⟩
  go_wp2_with fail
  refine (G1.out _).mono ?_
  rintro e w2 ⟨rfl, rfl⟩
  go_wp2_with (first | (refine wpList_stR rowT_sess rfl (.tmp 10) (.tmp 66) rfl (w.heap.size + 2) rfl (sess0) rfl (sess0_one) rfl sess0 F2.out.x rfl ?_))
  intro wx rx gx
  have FX := Bx.mk (F2.out.putx gx rx (by simp [sessL, sess0]))
  clear rx gx
  (try clear e0 e1 e2 e3 s0 s1 s2 s3 s4 s5)
  go_wp2_with (refine wpList_stR rowT_cert rfl (.tmp 11) (.tmp 67) rfl (w.heap.size + 3) rfl (zC) rfl (one_ints .i64 _) rfl zC FX.out.c rfl ?_)
  intro wc rc gc
  have FC := Bx.mk (FX.out.putc gc rc (by simp [zC, z8]))
  have BE := Bx.mk FC.out.b
  have RX := Bx.mk FC.out.x
  have RC := Bx.mk FC.out.c
  clear rc gc FX FC F2
  go_wp2_with fail
  (try simp only [Exit.inBlock, Exit.then])
  refine bodyPost_ret (results_ans rfl _ _ (w.heap.size + 2) (w.heap.size + 3) (sess0) (zC) (.int .i64 1) rfl rfl rfl RX.out rfl RC.out rfl) rfl ?_
  exact ⟨rfl, BE.out⟩
set_option maxHeartbeats 3000000 in
set_option maxRecDepth 100000 in
theorem rans_lf (r code x p t : Int) (pt dv_ vf lf : Int) (pk : List Int) (hpk : pk.length = 32) (ver bY priv : Int) (w : World) (hs : sessOK r code x p t = true) (ht : ¬ t = 5) (hd : isDev dv_ = true) (hp : dv_ / 8 = p) (h_pt : elt pt = true) (h_vf : elt vf = true) (h_lf : ¬ elt lf = true) :
    Calls Tryz.prog 23 #[sessV r code x p t false, reqV pt dv_ vf lf pk, .int .i64 ver, .int .i64 bY, .int .i64 priv] w fun e w' => e = .returned (.tuple #[.agg sess0.toArray, zeroC, .int .i64 1]) ∧ Below w.heap.size w w' := by
  have HC := Bx.mk (fun w => rsess_c r code x p t false w)
  rw [hs] at HC
  simp only [Bool.false_eq_true, if_false, if_true] at HC
  have F0 := Bx.mk (a4_new w r code x p t false pt dv_ vf lf pk)
  have HO := Bx.mk (fun w => rowner_c dv_ w)
  rw [show ownV dv_ = .tuple #[.int .i64 p, .int .i64 0] by unfold ownV; rw [hd, ← hp]; rfl] at HO
  clear hp
  have G0 := Bx.mk (fun w => rcheck_c pt w)
  rw [gcheck_0 h_pt] at G0
  have G1 := Bx.mk (fun w => rcheck_c vf w)
  rw [gcheck_0 h_vf] at G1
  have G2 := Bx.mk (fun w => rcheck_c lf w)
  rw [gcheck_40 h_lf] at G2
  clear hd h_pt h_vf h_lf
  (try clear hs)
  unfold sessV reqV
  unfold sessV at HC
  go_enter Tryz.func23, Tryz.ntmps23
  go_wp2_with (first | (refine wpList_bxk rfl (.tmp 1) rfl (reqL pt dv_ vf lf pk) rfl ?_) | (refine wpList_pause 18 rfl ?_))
  intro W0 hW0
  have F1 : Bx (A4 w (sessL r code x p t false) (reqL pt dv_ vf lf pk) sess0 zC W0) := .mk (by rw [hW0]; exact F0.out)
  clear hW0 F0
  (try clear e0 e1 e2 e3 s0 s1 s2 s3 s4 s5)
  have e0 : W0.cell? ⟨w.heap.size + 1, 0, none⟩ = some (.int .i64 pt) := F1.out.r.get (i := 0) rfl
  have e1 : W0.cell? ⟨w.heap.size + 1, 1, none⟩ = some (.int .i64 dv_) := F1.out.r.get (i := 1) rfl
  have e2 : W0.cell? ⟨w.heap.size + 1, 2, none⟩ = some (.int .i64 vf) := F1.out.r.get (i := 2) rfl
  have e3 : W0.cell? ⟨w.heap.size + 1, 3, none⟩ = some (.int .i64 lf) := F1.out.r.get (i := 3) rfl
  have s0 : W0.cell? ⟨w.heap.size, 0, none⟩ = some (.int .i64 r) := F1.out.s.get (i := 0) rfl
  have s1 : W0.cell? ⟨w.heap.size, 1, none⟩ = some (.int .i64 code) := F1.out.s.get (i := 1) rfl
  have s2 : W0.cell? ⟨w.heap.size, 2, none⟩ = some (.int .i64 x) := F1.out.s.get (i := 2) rfl
  have s3 : W0.cell? ⟨w.heap.size, 3, none⟩ = some (.int .i64 p) := F1.out.s.get (i := 3) rfl
  have s4 : W0.cell? ⟨w.heap.size, 4, none⟩ = some (.int .i64 t) := F1.out.s.get (i := 4) rfl
  have s5 : W0.cell? ⟨w.heap.size, 5, none⟩ = some (.bool false) := F1.out.s.get (i := 5) rfl
  go_wp2_with fail
  refine (HC.out _).mono ?_
  rintro e w1 ⟨rfl, hb1⟩
  have F2 := Bx.mk (F1.out.below hb1)
  clear hb1 F1 HC
  (try clear e0 e1 e2 e3 s0 s1 s2 s3 s4 s5)
  have e0 : w1.cell? ⟨w.heap.size + 1, 0, none⟩ = some (.int .i64 pt) := F2.out.r.get (i := 0) rfl
  have e1 : w1.cell? ⟨w.heap.size + 1, 1, none⟩ = some (.int .i64 dv_) := F2.out.r.get (i := 1) rfl
  have e2 : w1.cell? ⟨w.heap.size + 1, 2, none⟩ = some (.int .i64 vf) := F2.out.r.get (i := 2) rfl
  have e3 : w1.cell? ⟨w.heap.size + 1, 3, none⟩ = some (.int .i64 lf) := F2.out.r.get (i := 3) rfl
  have s0 : w1.cell? ⟨w.heap.size, 0, none⟩ = some (.int .i64 r) := F2.out.s.get (i := 0) rfl
  have s1 : w1.cell? ⟨w.heap.size, 1, none⟩ = some (.int .i64 code) := F2.out.s.get (i := 1) rfl
  have s2 : w1.cell? ⟨w.heap.size, 2, none⟩ = some (.int .i64 x) := F2.out.s.get (i := 2) rfl
  have s3 : w1.cell? ⟨w.heap.size, 3, none⟩ = some (.int .i64 p) := F2.out.s.get (i := 3) rfl
  have s4 : w1.cell? ⟨w.heap.size, 4, none⟩ = some (.int .i64 t) := F2.out.s.get (i := 4) rfl
  have s5 : w1.cell? ⟨w.heap.size, 5, none⟩ = some (.bool false) := F2.out.s.get (i := 5) rfl
  go_wp2_with fail
  refine (HO.out _).mono ?_
  rintro e w2 ⟨rfl, rfl⟩
  go_wp2_with fail
  refine (G0.out _).mono ?_
  rintro e w2 ⟨rfl, rfl⟩
  go_wp2_with fail
  refine (G1.out _).mono ?_
  rintro e w2 ⟨rfl, rfl⟩
  go_wp2_with fail
  refine (G2.out _).mono ?_
  rintro e w2 ⟨rfl, rfl⟩
  go_wp2_with (first | (refine wpList_stR rowT_sess rfl (.tmp 10) (.tmp 66) rfl (w.heap.size + 2) rfl (sess0) rfl (sess0_one) rfl sess0 F2.out.x rfl ?_))
  intro wx rx gx
  have FX := Bx.mk (F2.out.putx gx rx (by simp [sessL, sess0]))
  clear rx gx
  (try clear e0 e1 e2 e3 s0 s1 s2 s3 s4 s5)
  go_wp2_with (refine wpList_stR rowT_cert rfl (.tmp 11) (.tmp 67) rfl (w.heap.size + 3) rfl (zC) rfl (one_ints .i64 _) rfl zC FX.out.c rfl ?_)
  intro wc rc gc
  have FC := Bx.mk (FX.out.putc gc rc (by simp [zC, z8]))
  have BE := Bx.mk FC.out.b
  have RX := Bx.mk FC.out.x
  have RC := Bx.mk FC.out.c
  clear rc gc FX FC F2
  go_wp2_with fail
  (try simp only [Exit.inBlock, Exit.then])
  refine bodyPost_ret (results_ans rfl _ _ (w.heap.size + 2) (w.heap.size + 3) (sess0) (zC) (.int .i64 1) rfl rfl rfl RX.out rfl RC.out rfl) rfl ?_
  exact ⟨rfl, BE.out⟩
set_option maxHeartbeats 3000000 in
set_option maxRecDepth 100000 in
theorem rans_cert (r code x p t : Int) (pt dv_ vf lf : Int) (pk : List Int) (hpk : pk.length = 32) (ver bY priv : Int) (w : World) (hs : sessOK r code x p t = true) (ht : ¬ t = 5) (hd : isDev dv_ = true) (hp : dv_ / 8 = p) (h_pt : elt pt = true) (h_vf : elt vf = true) (h_lf : elt lf = true) (hr6 : ∀ x ∈ [2, dv_, vf, lf, ver, bY], -9223372036854775808 ≤ x ∧ x ≤ 9223372036854775807) (n : Int) (hn : ¬ n = 0) (hc : certF 2 dv_ vf lf ver bY priv = (zeroC, n)) :
    Calls Tryz.prog 23 #[sessV r code x p t false, reqV pt dv_ vf lf pk, .int .i64 ver, .int .i64 bY, .int .i64 priv] w fun e w' => e = .returned (.tuple #[.agg sess0.toArray, zeroC, .int .i64 n]) ∧ Below w.heap.size w w' := by
  have HC := Bx.mk (fun w => rsess_c r code x p t false w)
  rw [hs] at HC
  simp only [Bool.false_eq_true, if_false, if_true] at HC
  have F0 := Bx.mk (a4_new w r code x p t false pt dv_ vf lf pk)
  have HO := Bx.mk (fun w => rowner_c dv_ w)
  rw [show ownV dv_ = .tuple #[.int .i64 p, .int .i64 0] by unfold ownV; rw [hd, ← hp]; rfl] at HO
  have G0 := Bx.mk (fun w => rcheck_c pt w)
  rw [gcheck_0 h_pt] at G0
  have G1 := Bx.mk (fun w => rcheck_c vf w)
  rw [gcheck_0 h_vf] at G1
  have G2 := Bx.mk (fun w => rcheck_c lf w)
  rw [gcheck_0 h_lf] at G2
  have HCt := Bx.mk (fun w => rcert_c dv_ vf lf ver bY priv w hd h_vf h_lf hr6)
  rw [hc] at HCt
  dsimp only at HCt
  unfold zeroC certV at HCt
  clear hp hd h_pt h_vf h_lf hr6 hc
  (try clear hs)
  unfold sessV reqV
  unfold sessV at HC
  go_enter Tryz.func23, Tryz.ntmps23
  go_wp2_with (first | (refine wpList_bxk rfl (.tmp 1) rfl (reqL pt dv_ vf lf pk) rfl ?_) | (refine wpList_pause 18 rfl ?_))
  intro W0 hW0
  have F1 : Bx (A4 w (sessL r code x p t false) (reqL pt dv_ vf lf pk) sess0 zC W0) := .mk (by rw [hW0]; exact F0.out)
  clear hW0 F0
  (try clear e0 e1 e2 e3 s0 s1 s2 s3 s4 s5)
  have e0 : W0.cell? ⟨w.heap.size + 1, 0, none⟩ = some (.int .i64 pt) := F1.out.r.get (i := 0) rfl
  have e1 : W0.cell? ⟨w.heap.size + 1, 1, none⟩ = some (.int .i64 dv_) := F1.out.r.get (i := 1) rfl
  have e2 : W0.cell? ⟨w.heap.size + 1, 2, none⟩ = some (.int .i64 vf) := F1.out.r.get (i := 2) rfl
  have e3 : W0.cell? ⟨w.heap.size + 1, 3, none⟩ = some (.int .i64 lf) := F1.out.r.get (i := 3) rfl
  have s0 : W0.cell? ⟨w.heap.size, 0, none⟩ = some (.int .i64 r) := F1.out.s.get (i := 0) rfl
  have s1 : W0.cell? ⟨w.heap.size, 1, none⟩ = some (.int .i64 code) := F1.out.s.get (i := 1) rfl
  have s2 : W0.cell? ⟨w.heap.size, 2, none⟩ = some (.int .i64 x) := F1.out.s.get (i := 2) rfl
  have s3 : W0.cell? ⟨w.heap.size, 3, none⟩ = some (.int .i64 p) := F1.out.s.get (i := 3) rfl
  have s4 : W0.cell? ⟨w.heap.size, 4, none⟩ = some (.int .i64 t) := F1.out.s.get (i := 4) rfl
  have s5 : W0.cell? ⟨w.heap.size, 5, none⟩ = some (.bool false) := F1.out.s.get (i := 5) rfl
  go_wp2_with fail
  refine (HC.out _).mono ?_
  rintro e w1 ⟨rfl, hb1⟩
  have F2 := Bx.mk (F1.out.below hb1)
  clear hb1 F1 HC
  (try clear e0 e1 e2 e3 s0 s1 s2 s3 s4 s5)
  have e0 : w1.cell? ⟨w.heap.size + 1, 0, none⟩ = some (.int .i64 pt) := F2.out.r.get (i := 0) rfl
  have e1 : w1.cell? ⟨w.heap.size + 1, 1, none⟩ = some (.int .i64 dv_) := F2.out.r.get (i := 1) rfl
  have e2 : w1.cell? ⟨w.heap.size + 1, 2, none⟩ = some (.int .i64 vf) := F2.out.r.get (i := 2) rfl
  have e3 : w1.cell? ⟨w.heap.size + 1, 3, none⟩ = some (.int .i64 lf) := F2.out.r.get (i := 3) rfl
  have s0 : w1.cell? ⟨w.heap.size, 0, none⟩ = some (.int .i64 r) := F2.out.s.get (i := 0) rfl
  have s1 : w1.cell? ⟨w.heap.size, 1, none⟩ = some (.int .i64 code) := F2.out.s.get (i := 1) rfl
  have s2 : w1.cell? ⟨w.heap.size, 2, none⟩ = some (.int .i64 x) := F2.out.s.get (i := 2) rfl
  have s3 : w1.cell? ⟨w.heap.size, 3, none⟩ = some (.int .i64 p) := F2.out.s.get (i := 3) rfl
  have s4 : w1.cell? ⟨w.heap.size, 4, none⟩ = some (.int .i64 t) := F2.out.s.get (i := 4) rfl
  have s5 : w1.cell? ⟨w.heap.size, 5, none⟩ = some (.bool false) := F2.out.s.get (i := 5) rfl
  go_wp2_with fail
  refine (HO.out _).mono ?_
  rintro e w2 ⟨rfl, rfl⟩
  go_wp2_with fail
  refine (G0.out _).mono ?_
  rintro e w2 ⟨rfl, rfl⟩
  go_wp2_with fail
  refine (G1.out _).mono ?_
  rintro e w2 ⟨rfl, rfl⟩
  go_wp2_with fail
  refine (G2.out _).mono ?_
  rintro e w2 ⟨rfl, rfl⟩
  go_wp2_with fail
  refine (HCt.out _).mono ?_
  rintro e w3 ⟨rfl, hb3⟩
  have F3 := Bx.mk ((F2.out.below hb3).alloc (.cells #[.int .i64 0, .int .i64 0, .int .i64 0, .int .i64 0, .int .i64 0, .int .i64 0, .int .i64 0, .int .i64 0] 44))
  clear hb3 F2 HCt e0 e1 e2 e3 s0 s1 s2 s3 s4 s5
  go_wp2_with (first | (refine wpList_stR rowT_sess rfl (.tmp 10) (.tmp 83) rfl (w.heap.size + 2) rfl (sess0) rfl (sess0_one) rfl sess0 F3.out.x rfl ?_))
  intro wx rx gx
  have FX := Bx.mk (F3.out.putx gx rx (by simp [sessL, sess0]))
  clear rx gx
  (try clear e0 e1 e2 e3 s0 s1 s2 s3 s4 s5)
  go_wp2_with (refine wpList_stR rowT_cert rfl (.tmp 11) (.tmp 84) rfl (w.heap.size + 3) rfl (zC) rfl (one_ints .i64 _) rfl zC FX.out.c rfl ?_)
  intro wc rc gc
  have FC := Bx.mk (FX.out.putc gc rc (by simp [zC, z8]))
  have BE := Bx.mk FC.out.b
  have RX := Bx.mk FC.out.x
  have RC := Bx.mk FC.out.c
  clear rc gc FX FC F3
  go_wp2_with fail
  (try simp only [Exit.inBlock, Exit.then])
  refine bodyPost_ret (results_ans rfl _ _ (w.heap.size + 2) (w.heap.size + 3) (sess0) (zC) (.int .i64 n) rfl rfl rfl RX.out rfl RC.out rfl) rfl ?_
  exact ⟨rfl, BE.out⟩
set_option maxHeartbeats 3000000 in
set_option maxRecDepth 100000 in
theorem rans_no (r code x p t : Int) (pt dv_ vf lf : Int) (pk : List Int) (hpk : pk.length = 32) (ver bY priv : Int) (w : World) (hs : sessOK r code x p t = true) (ht : ¬ t = 5) (hd : isDev dv_ = true) (hp : dv_ / 8 = p) (h_pt : elt pt = true) (h_vf : elt vf = true) (h_lf : elt lf = true) (hr6 : ∀ x ∈ [2, dv_, vf, lf, ver, bY], -9223372036854775808 ≤ x ∧ x ≤ 9223372036854775807) (sr ss : Int) (hc : certF 2 dv_ vf lf ver bY priv = (certV 2 dv_ vf lf ver bY sr ss, 0)) (hq : ¬ pk = rqN (prfN (keyN r code x pt) 2) dv_ vf lf) :
    Calls Tryz.prog 23 #[sessV r code x p t false, reqV pt dv_ vf lf pk, .int .i64 ver, .int .i64 bY, .int .i64 priv] w fun e w' => e = .returned (.tuple #[.agg (sessL r code x p (t + 1) false).toArray, zeroC, .int .i64 380]) ∧ Below w.heap.size w w' := by
  have HC := Bx.mk (fun w => rsess_c r code x p t false w)
  rw [hs] at HC
  simp only [Bool.false_eq_true, if_false, if_true] at HC
  have F0 := Bx.mk (a4_new w r code x p t false pt dv_ vf lf pk)
  have HO := Bx.mk (fun w => rowner_c dv_ w)
  rw [show ownV dv_ = .tuple #[.int .i64 p, .int .i64 0] by unfold ownV; rw [hd, ← hp]; rfl] at HO
  have G0 := Bx.mk (fun w => rcheck_c pt w)
  rw [gcheck_0 h_pt] at G0
  have G1 := Bx.mk (fun w => rcheck_c vf w)
  rw [gcheck_0 h_vf] at G1
  have G2 := Bx.mk (fun w => rcheck_c lf w)
  rw [gcheck_0 h_lf] at G2
  have HCt := Bx.mk (fun w => rcert_c dv_ vf lf ver bY priv w hd h_vf h_lf hr6)
  rw [hc] at HCt
  dsimp only at HCt
  have hsd := ((sessOK_iff r code x p t).1 hs)
  have HW := Bx.mk (fun w => rwant_c r code x p t false pt dv_ vf lf pk hpk w hsd.1 h_pt (fun z hz => hr6 z (by simp only [List.mem_cons, List.not_mem_nil, or_false] at hz ⊢; omega)))
  have t0 : 0 ≤ t := hsd.2.2.2.2.1
  have t5 : t ≤ 5 := hsd.2.2.2.2.2
  have HRL := Bx.mk (show (rqN (prfN (keyN r code x pt) 2) dv_ vf lf).length = 32 by unfold rqN; exact tagged_len _ _)
  obtain ⟨rq, hrq⟩ : ∃ q, q = rqN (prfN (keyN r code x pt) 2) dv_ vf lf := ⟨_, rfl⟩
  rw [← hrq] at HW HRL hq
  have HEQ := Bx.mk (fun w => eq_dig pk rq hpk HRL.out w)
  rw [decide_eq_false hq] at HEQ
  unfold certV at HCt
  have HK := Bx.mk hpk
  have HKM := Bx.mk (show (pk.map (Value.int .u8)).length = 32 by rw [List.length_map]; exact hpk)
  have HQL := Bx.mk (reqL_len pt dv_ vf lf pk hpk)
  clear hp
  unfold sessV reqV at HW
  clear hd h_pt h_vf h_lf hr6 hc hsd hrq hq
  (try clear hs)
  unfold sessV reqV
  unfold sessV at HC
  go_enter Tryz.func23, Tryz.ntmps23
  go_wp2_with (first | (refine wpList_bxk rfl (.tmp 1) rfl (reqL pt dv_ vf lf pk) rfl ?_) | (refine wpList_pause 18 rfl ?_))
  intro W0 hW0
  have F1 : Bx (A4 w (sessL r code x p t false) (reqL pt dv_ vf lf pk) sess0 zC W0) := .mk (by rw [hW0]; exact F0.out)
  clear hW0 F0
  (try clear e0 e1 e2 e3 s0 s1 s2 s3 s4 s5)
  have e0 : W0.cell? ⟨w.heap.size + 1, 0, none⟩ = some (.int .i64 pt) := F1.out.r.get (i := 0) rfl
  have e1 : W0.cell? ⟨w.heap.size + 1, 1, none⟩ = some (.int .i64 dv_) := F1.out.r.get (i := 1) rfl
  have e2 : W0.cell? ⟨w.heap.size + 1, 2, none⟩ = some (.int .i64 vf) := F1.out.r.get (i := 2) rfl
  have e3 : W0.cell? ⟨w.heap.size + 1, 3, none⟩ = some (.int .i64 lf) := F1.out.r.get (i := 3) rfl
  have s0 : W0.cell? ⟨w.heap.size, 0, none⟩ = some (.int .i64 r) := F1.out.s.get (i := 0) rfl
  have s1 : W0.cell? ⟨w.heap.size, 1, none⟩ = some (.int .i64 code) := F1.out.s.get (i := 1) rfl
  have s2 : W0.cell? ⟨w.heap.size, 2, none⟩ = some (.int .i64 x) := F1.out.s.get (i := 2) rfl
  have s3 : W0.cell? ⟨w.heap.size, 3, none⟩ = some (.int .i64 p) := F1.out.s.get (i := 3) rfl
  have s4 : W0.cell? ⟨w.heap.size, 4, none⟩ = some (.int .i64 t) := F1.out.s.get (i := 4) rfl
  have s5 : W0.cell? ⟨w.heap.size, 5, none⟩ = some (.bool false) := F1.out.s.get (i := 5) rfl
  go_wp2_with fail
  refine (HC.out _).mono ?_
  rintro e w1 ⟨rfl, hb1⟩
  have F2 := Bx.mk (F1.out.below hb1)
  clear hb1 F1 HC
  (try clear e0 e1 e2 e3 s0 s1 s2 s3 s4 s5)
  have e0 : w1.cell? ⟨w.heap.size + 1, 0, none⟩ = some (.int .i64 pt) := F2.out.r.get (i := 0) rfl
  have e1 : w1.cell? ⟨w.heap.size + 1, 1, none⟩ = some (.int .i64 dv_) := F2.out.r.get (i := 1) rfl
  have e2 : w1.cell? ⟨w.heap.size + 1, 2, none⟩ = some (.int .i64 vf) := F2.out.r.get (i := 2) rfl
  have e3 : w1.cell? ⟨w.heap.size + 1, 3, none⟩ = some (.int .i64 lf) := F2.out.r.get (i := 3) rfl
  have s0 : w1.cell? ⟨w.heap.size, 0, none⟩ = some (.int .i64 r) := F2.out.s.get (i := 0) rfl
  have s1 : w1.cell? ⟨w.heap.size, 1, none⟩ = some (.int .i64 code) := F2.out.s.get (i := 1) rfl
  have s2 : w1.cell? ⟨w.heap.size, 2, none⟩ = some (.int .i64 x) := F2.out.s.get (i := 2) rfl
  have s3 : w1.cell? ⟨w.heap.size, 3, none⟩ = some (.int .i64 p) := F2.out.s.get (i := 3) rfl
  have s4 : w1.cell? ⟨w.heap.size, 4, none⟩ = some (.int .i64 t) := F2.out.s.get (i := 4) rfl
  have s5 : w1.cell? ⟨w.heap.size, 5, none⟩ = some (.bool false) := F2.out.s.get (i := 5) rfl
  go_wp2_with fail
  refine (HO.out _).mono ?_
  rintro e w2 ⟨rfl, rfl⟩
  go_wp2_with fail
  refine (G0.out _).mono ?_
  rintro e w2 ⟨rfl, rfl⟩
  go_wp2_with fail
  refine (G1.out _).mono ?_
  rintro e w2 ⟨rfl, rfl⟩
  go_wp2_with fail
  refine (G2.out _).mono ?_
  rintro e w2 ⟨rfl, rfl⟩
  go_wp2_with fail
  refine (HCt.out _).mono ?_
  rintro e w3 ⟨rfl, hb3⟩
  have Fb := F2.out.below hb3
  have F3 := Bx.mk (Fb.alloc (.cells #[.int .i64 2, .int .i64 dv_, .int .i64 vf, .int .i64 lf, .int .i64 ver, .int .i64 bY, .int .i64 sr, .int .i64 ss] 44))
  have T3 : Bx (Row (w3.alloc (.cells #[.int .i64 2, .int .i64 dv_, .int .i64 vf, .int .i64 lf, .int .i64 ver, .int .i64 bY, .int .i64 sr, .int .i64 ss] 44)) w3.heap.size ([2, dv_, vf, lf, ver, bY, sr, ss].map (.int .i64))) := Bx.mk (row_new w3 ([2, dv_, vf, lf, ver, bY, sr, ss].map (.int .i64)) 44)
  have hTl : w.heap.size + 3 < w3.heap.size := Fb.c.lt (by decide)
  clear hb3 F2 HCt e0 e1 e2 e3 s0 s1 s2 s3 s4 s5 HO G0 G1 G2 Fb
  go_wp2_with fail
  generalize (w3.alloc (.cells #[.int .i64 2, .int .i64 dv_, .int .i64 vf, .int .i64 lf, .int .i64 ver, .int .i64 bY, .int .i64 sr, .int .i64 ss] 44)) = w4 at *
  generalize w3.heap.size = T at *
  obtain ⟨lsd, ls1, ls2⟩ := rowT_sess.row
  obtain ⟨lrd, lr1, lr2⟩ := rowT_req.row
  obtain ⟨ldd, ld1, ld2⟩ := rowT_dig.row
  obtain ⟨lcd, lc1, lc2⟩ := rowT_cert.row
  have lr3 : (Tryz.prog.info? 37).map (·.size) = some (reqL pt dv_ vf lf pk).length := by rw [HQL.out]; exact rowT_req.size
  have ld3 : (Tryz.prog.info? 35).map (·.size) = some (pk.map (Value.int .u8)).length := by rw [HKM.out]; exact rowT_dig.size
  have heq := HEQ.out
  refine wp_region_noPanic ?_
  refine wp_region_held_drew (S := fun W' => A4 w (sessL r code x p t false) (reqL pt dv_ vf lf pk) sess0 zC W' ∧ Row W' T ([2, dv_, vf, lf, ver, bY, sr, ss].map (.int .i64))) (by kernel_rfl) ⟨F3.out.drew, T3.out⟩ (fun hH => ?_)
  refine wpAnyH_take (i := 0) (oi := _) (v := .pointer (some ⟨w.heap.size + 1, 4, none⟩)) rfl (by kernel_rfl) (by kernel_rfl) (by kernel_rfl) (fun _ _ _ h => h) (Or.inl ⟨by kernel_rfl, by (intro wz hSz; go_simp)⟩) hH ?_
  simp only [Act.put, List.setIfInBounds_toArray, List.set_cons_zero, List.set_cons_succ]
  refine wpAnyH_take (i := 1) (oi := _) (v := .agg (pk.map (.int .u8)).toArray) rfl (by kernel_rfl) (by kernel_rfl) (by kernel_rfl) (fun _ _ _ h => h) (yieldsIf_load_mid (by kernel_rfl) 35 (.tmp 86) rfl (w.heap.size + 1) 4 (by kernel_rfl) (pk.map (.int .u8)) ldd (fun _ h => req_rangeS h.1.r) ld1 ld2 ld3) hH ?_
  simp only [Act.put, List.setIfInBounds_toArray, List.set_cons_zero, List.set_cons_succ]
  refine wpAnyH_take (i := 2) (oi := _) (v := .agg #[.int .i64 r, .int .i64 code, .int .i64 x, .int .i64 p, .int .i64 t, .bool false]) rfl (by kernel_rfl) (by kernel_rfl) (by kernel_rfl) (fun _ _ _ h => h) (yieldsIf_load_mid (by kernel_rfl) 25 (.tmp 5) rfl w.heap.size 0 (by kernel_rfl) (sessL r code x p t false) lsd (fun _ h => h.1.s.range0) ls1 ls2 rowT_sess.size) hH ?_
  simp only [Act.put, List.setIfInBounds_toArray, List.set_cons_zero, List.set_cons_succ]
  refine wpAnyH_take (i := 3) (oi := _) (v := .agg (reqL pt dv_ vf lf pk).toArray) rfl (by kernel_rfl) (by kernel_rfl) (by kernel_rfl) (fun _ _ _ h => h) (yieldsIf_load_mid (by kernel_rfl) 37 (.tmp 6) rfl (w.heap.size + 1) 0 (by kernel_rfl) (reqL pt dv_ vf lf pk) lrd (fun _ h => h.1.r.range0) lr1 lr2 lr3) hH ?_
  simp only [Act.put, List.setIfInBounds_toArray, List.set_cons_zero, List.set_cons_succ]
  refine wpAnyH_ready (rs := [4]) (by kernel_rfl) (by simp) ?_
  refine AllReadyH.cons (o := _) rfl (fun K1 hK1 => ?_) AllReadyH.nil
  go_simp
  refine (HW.out _).mono ?_
  rintro e b1 ⟨rfl, hb⟩
  have hS1 := And.intro (hH.1.below hb) (hH.2.below hb (hH.2.lt (by simp)))
  clear hb
  (try dsimp only)
  refine hK1.out _ _ hS1 (fun _ => ?_)
  refine wpAnyH_ready (rs := [5]) (by kernel_rfl) (by simp) ?_
  refine AllReadyH.cons (o := _) rfl (fun K2 hK2 => ?_) AllReadyH.nil
  have heq3 := heq b1
  have g0 : (eqGuard .neq 35 (.tmp 87) (.tmp 90) (.agg (pk.map (.int .u8)).toArray) (dv rq)).run Tryz.prog b1 = .ok () b1 := run_eqGuard_agg b1 .neq 35 (.tmp 87) (.tmp 90) _ _ (by kernel_rfl)
  have g1 : (binOp .neq 35 (.agg (pk.map (.int .u8)).toArray) (dv rq)).run Tryz.prog b1 = .ok (.bool true) b1 := by
    unfold dv at heq3 ⊢
    rw [run_neq_struct, heq3]
    rfl
  go_simp
  clear g0 g1 heq3
  refine hK2.out _ _ hS1 (fun _ => ?_)
  refine wpAnyH_done (by kernel_rfl) ?_ _
  refine NoPanic.normal ?_
  have F5 := Bx.mk hS1.1
  have T5 := Bx.mk hS1.2
  clear hS1 hH heq HEQ HW F3 T3 hK1 hK2
  have s4 : b1.cell? ⟨w.heap.size, 4, none⟩ = some (.int .i64 t) := F5.out.s.get (i := 4) rfl
  have f4 := F5.out.s.fr (i := 4) (by simp [sessL])
  have F6 : Bx (A4 w (sessL r code x p (t + 1) false) (reqL pt dv_ vf lf pk) sess0 zC (b1.setCell ⟨w.heap.size, 4, none⟩ (.int .i64 (t + 1)))) := .mk (F5.out.set 4 (.int .i64 (t + 1)))
  clear F5 T5
  go_wp2_with (first | (refine wpList_ldN rowT_sess rfl (.tmp 5) rfl w.heap.size 0 rfl (sessL r code x p (t + 1) false) F6.out.s.range0 rfl (.agg (sessL r code x p (t + 1) false).toArray) rfl ?_) | (refine wpList_stR rowT_sess rfl (.tmp 10) (.tmp 96) rfl (w.heap.size + 2) rfl (sessL r code x p (t + 1) false) rfl (sess_one r code x p (t + 1) false) rfl sess0 F6.out.x rfl ?_))
  intro wx rx gx
  have FX := Bx.mk (F6.out.putx gx rx (by simp [sessL, sess0]))
  clear rx gx
  (try clear e0 e1 e2 e3 s0 s1 s2 s3 s4 s5)
  go_wp2_with (refine wpList_stR rowT_cert rfl (.tmp 11) (.tmp 97) rfl (w.heap.size + 3) rfl (zC) rfl (one_ints .i64 _) rfl zC FX.out.c rfl ?_)
  intro wc rc gc
  have FC := Bx.mk (FX.out.putc gc rc (by simp [zC, z8]))
  have BE := Bx.mk FC.out.b
  have RX := Bx.mk FC.out.x
  have RC := Bx.mk FC.out.c
  clear rc gc FX FC F6
  go_wp2_with fail
  (try simp only [Exit.inBlock, Exit.then])
  refine bodyPost_ret (results_ans rfl _ _ (w.heap.size + 2) (w.heap.size + 3) (sessL r code x p (t + 1) false) (zC) (.int .i64 380) rfl rfl rfl RX.out rfl RC.out rfl) rfl ?_
  exact ⟨rfl, BE.out⟩
set_option maxHeartbeats 3000000 in
set_option maxRecDepth 100000 in
theorem rans_yes (r code x p t : Int) (pt dv_ vf lf : Int) (pk : List Int) (hpk : pk.length = 32) (ver bY priv : Int) (w : World) (hs : sessOK r code x p t = true) (ht : ¬ t = 5) (hd : isDev dv_ = true) (hp : dv_ / 8 = p) (h_pt : elt pt = true) (h_vf : elt vf = true) (h_lf : elt lf = true) (hr6 : ∀ x ∈ [2, dv_, vf, lf, ver, bY], -9223372036854775808 ≤ x ∧ x ≤ 9223372036854775807) (sr ss : Int) (hc : certF 2 dv_ vf lf ver bY priv = (certV 2 dv_ vf lf ver bY sr ss, 0)) (hq : pk = rqN (prfN (keyN r code x pt) 2) dv_ vf lf) :
    Calls Tryz.prog 23 #[sessV r code x p t false, reqV pt dv_ vf lf pk, .int .i64 ver, .int .i64 bY, .int .i64 priv] w fun e w' => e = .returned (.tuple #[.agg (sessL r code x p t true).toArray, certV 2 dv_ vf lf ver bY sr ss, .int .i64 0]) ∧ Below w.heap.size w w' := by
  have HC := Bx.mk (fun w => rsess_c r code x p t false w)
  rw [hs] at HC
  simp only [Bool.false_eq_true, if_false, if_true] at HC
  have F0 := Bx.mk (a4_new w r code x p t false pt dv_ vf lf pk)
  have HO := Bx.mk (fun w => rowner_c dv_ w)
  rw [show ownV dv_ = .tuple #[.int .i64 p, .int .i64 0] by unfold ownV; rw [hd, ← hp]; rfl] at HO
  have G0 := Bx.mk (fun w => rcheck_c pt w)
  rw [gcheck_0 h_pt] at G0
  have G1 := Bx.mk (fun w => rcheck_c vf w)
  rw [gcheck_0 h_vf] at G1
  have G2 := Bx.mk (fun w => rcheck_c lf w)
  rw [gcheck_0 h_lf] at G2
  have HCt := Bx.mk (fun w => rcert_c dv_ vf lf ver bY priv w hd h_vf h_lf hr6)
  rw [hc] at HCt
  dsimp only at HCt
  have hsd := ((sessOK_iff r code x p t).1 hs)
  have HW := Bx.mk (fun w => rwant_c r code x p t false pt dv_ vf lf pk hpk w hsd.1 h_pt (fun z hz => hr6 z (by simp only [List.mem_cons, List.not_mem_nil, or_false] at hz ⊢; omega)))
  have t0 : 0 ≤ t := hsd.2.2.2.2.1
  have t5 : t ≤ 5 := hsd.2.2.2.2.2
  have HRL := Bx.mk (show (rqN (prfN (keyN r code x pt) 2) dv_ vf lf).length = 32 by unfold rqN; exact tagged_len _ _)
  obtain ⟨rq, hrq⟩ : ∃ q, q = rqN (prfN (keyN r code x pt) 2) dv_ vf lf := ⟨_, rfl⟩
  rw [← hrq] at HW HRL hq
  have HEQ := Bx.mk (fun w => eq_dig pk rq hpk HRL.out w)
  rw [decide_eq_true hq] at HEQ
  unfold certV at HCt
  have HK := Bx.mk hpk
  have HKM := Bx.mk (show (pk.map (Value.int .u8)).length = 32 by rw [List.length_map]; exact hpk)
  have HQL := Bx.mk (reqL_len pt dv_ vf lf pk hpk)
  clear hp
  unfold sessV reqV at HW
  clear hd h_pt h_vf h_lf hr6 hc hsd hrq hq
  (try clear hs)
  unfold sessV reqV
  unfold sessV at HC
  go_enter Tryz.func23, Tryz.ntmps23
  go_wp2_with (first | (refine wpList_bxk rfl (.tmp 1) rfl (reqL pt dv_ vf lf pk) rfl ?_) | (refine wpList_pause 18 rfl ?_))
  intro W0 hW0
  have F1 : Bx (A4 w (sessL r code x p t false) (reqL pt dv_ vf lf pk) sess0 zC W0) := .mk (by rw [hW0]; exact F0.out)
  clear hW0 F0
  (try clear e0 e1 e2 e3 s0 s1 s2 s3 s4 s5)
  have e0 : W0.cell? ⟨w.heap.size + 1, 0, none⟩ = some (.int .i64 pt) := F1.out.r.get (i := 0) rfl
  have e1 : W0.cell? ⟨w.heap.size + 1, 1, none⟩ = some (.int .i64 dv_) := F1.out.r.get (i := 1) rfl
  have e2 : W0.cell? ⟨w.heap.size + 1, 2, none⟩ = some (.int .i64 vf) := F1.out.r.get (i := 2) rfl
  have e3 : W0.cell? ⟨w.heap.size + 1, 3, none⟩ = some (.int .i64 lf) := F1.out.r.get (i := 3) rfl
  have s0 : W0.cell? ⟨w.heap.size, 0, none⟩ = some (.int .i64 r) := F1.out.s.get (i := 0) rfl
  have s1 : W0.cell? ⟨w.heap.size, 1, none⟩ = some (.int .i64 code) := F1.out.s.get (i := 1) rfl
  have s2 : W0.cell? ⟨w.heap.size, 2, none⟩ = some (.int .i64 x) := F1.out.s.get (i := 2) rfl
  have s3 : W0.cell? ⟨w.heap.size, 3, none⟩ = some (.int .i64 p) := F1.out.s.get (i := 3) rfl
  have s4 : W0.cell? ⟨w.heap.size, 4, none⟩ = some (.int .i64 t) := F1.out.s.get (i := 4) rfl
  have s5 : W0.cell? ⟨w.heap.size, 5, none⟩ = some (.bool false) := F1.out.s.get (i := 5) rfl
  go_wp2_with fail
  refine (HC.out _).mono ?_
  rintro e w1 ⟨rfl, hb1⟩
  have F2 := Bx.mk (F1.out.below hb1)
  clear hb1 F1 HC
  (try clear e0 e1 e2 e3 s0 s1 s2 s3 s4 s5)
  have e0 : w1.cell? ⟨w.heap.size + 1, 0, none⟩ = some (.int .i64 pt) := F2.out.r.get (i := 0) rfl
  have e1 : w1.cell? ⟨w.heap.size + 1, 1, none⟩ = some (.int .i64 dv_) := F2.out.r.get (i := 1) rfl
  have e2 : w1.cell? ⟨w.heap.size + 1, 2, none⟩ = some (.int .i64 vf) := F2.out.r.get (i := 2) rfl
  have e3 : w1.cell? ⟨w.heap.size + 1, 3, none⟩ = some (.int .i64 lf) := F2.out.r.get (i := 3) rfl
  have s0 : w1.cell? ⟨w.heap.size, 0, none⟩ = some (.int .i64 r) := F2.out.s.get (i := 0) rfl
  have s1 : w1.cell? ⟨w.heap.size, 1, none⟩ = some (.int .i64 code) := F2.out.s.get (i := 1) rfl
  have s2 : w1.cell? ⟨w.heap.size, 2, none⟩ = some (.int .i64 x) := F2.out.s.get (i := 2) rfl
  have s3 : w1.cell? ⟨w.heap.size, 3, none⟩ = some (.int .i64 p) := F2.out.s.get (i := 3) rfl
  have s4 : w1.cell? ⟨w.heap.size, 4, none⟩ = some (.int .i64 t) := F2.out.s.get (i := 4) rfl
  have s5 : w1.cell? ⟨w.heap.size, 5, none⟩ = some (.bool false) := F2.out.s.get (i := 5) rfl
  go_wp2_with fail
  refine (HO.out _).mono ?_
  rintro e w2 ⟨rfl, rfl⟩
  go_wp2_with fail
  refine (G0.out _).mono ?_
  rintro e w2 ⟨rfl, rfl⟩
  go_wp2_with fail
  refine (G1.out _).mono ?_
  rintro e w2 ⟨rfl, rfl⟩
  go_wp2_with fail
  refine (G2.out _).mono ?_
  rintro e w2 ⟨rfl, rfl⟩
  go_wp2_with fail
  refine (HCt.out _).mono ?_
  rintro e w3 ⟨rfl, hb3⟩
  have Fb := F2.out.below hb3
  have F3 := Bx.mk (Fb.alloc (.cells #[.int .i64 2, .int .i64 dv_, .int .i64 vf, .int .i64 lf, .int .i64 ver, .int .i64 bY, .int .i64 sr, .int .i64 ss] 44))
  have T3 : Bx (Row (w3.alloc (.cells #[.int .i64 2, .int .i64 dv_, .int .i64 vf, .int .i64 lf, .int .i64 ver, .int .i64 bY, .int .i64 sr, .int .i64 ss] 44)) w3.heap.size ([2, dv_, vf, lf, ver, bY, sr, ss].map (.int .i64))) := Bx.mk (row_new w3 ([2, dv_, vf, lf, ver, bY, sr, ss].map (.int .i64)) 44)
  have hTl : w.heap.size + 3 < w3.heap.size := Fb.c.lt (by decide)
  clear hb3 F2 HCt e0 e1 e2 e3 s0 s1 s2 s3 s4 s5 HO G0 G1 G2 Fb
  go_wp2_with fail
  generalize (w3.alloc (.cells #[.int .i64 2, .int .i64 dv_, .int .i64 vf, .int .i64 lf, .int .i64 ver, .int .i64 bY, .int .i64 sr, .int .i64 ss] 44)) = w4 at *
  generalize w3.heap.size = T at *
  obtain ⟨lsd, ls1, ls2⟩ := rowT_sess.row
  obtain ⟨lrd, lr1, lr2⟩ := rowT_req.row
  obtain ⟨ldd, ld1, ld2⟩ := rowT_dig.row
  obtain ⟨lcd, lc1, lc2⟩ := rowT_cert.row
  have lr3 : (Tryz.prog.info? 37).map (·.size) = some (reqL pt dv_ vf lf pk).length := by rw [HQL.out]; exact rowT_req.size
  have ld3 : (Tryz.prog.info? 35).map (·.size) = some (pk.map (Value.int .u8)).length := by rw [HKM.out]; exact rowT_dig.size
  have heq := HEQ.out
  refine wp_region_noPanic ?_
  refine wp_region_held_drew (S := fun W' => A4 w (sessL r code x p t false) (reqL pt dv_ vf lf pk) sess0 zC W' ∧ Row W' T ([2, dv_, vf, lf, ver, bY, sr, ss].map (.int .i64))) (by kernel_rfl) ⟨F3.out.drew, T3.out⟩ (fun hH => ?_)
  refine wpAnyH_take (i := 0) (oi := _) (v := .pointer (some ⟨w.heap.size + 1, 4, none⟩)) rfl (by kernel_rfl) (by kernel_rfl) (by kernel_rfl) (fun _ _ _ h => h) (Or.inl ⟨by kernel_rfl, by (intro wz hSz; go_simp)⟩) hH ?_
  simp only [Act.put, List.setIfInBounds_toArray, List.set_cons_zero, List.set_cons_succ]
  refine wpAnyH_take (i := 1) (oi := _) (v := .agg (pk.map (.int .u8)).toArray) rfl (by kernel_rfl) (by kernel_rfl) (by kernel_rfl) (fun _ _ _ h => h) (yieldsIf_load_mid (by kernel_rfl) 35 (.tmp 86) rfl (w.heap.size + 1) 4 (by kernel_rfl) (pk.map (.int .u8)) ldd (fun _ h => req_rangeS h.1.r) ld1 ld2 ld3) hH ?_
  simp only [Act.put, List.setIfInBounds_toArray, List.set_cons_zero, List.set_cons_succ]
  refine wpAnyH_take (i := 2) (oi := _) (v := .agg #[.int .i64 r, .int .i64 code, .int .i64 x, .int .i64 p, .int .i64 t, .bool false]) rfl (by kernel_rfl) (by kernel_rfl) (by kernel_rfl) (fun _ _ _ h => h) (yieldsIf_load_mid (by kernel_rfl) 25 (.tmp 5) rfl w.heap.size 0 (by kernel_rfl) (sessL r code x p t false) lsd (fun _ h => h.1.s.range0) ls1 ls2 rowT_sess.size) hH ?_
  simp only [Act.put, List.setIfInBounds_toArray, List.set_cons_zero, List.set_cons_succ]
  refine wpAnyH_take (i := 3) (oi := _) (v := .agg (reqL pt dv_ vf lf pk).toArray) rfl (by kernel_rfl) (by kernel_rfl) (by kernel_rfl) (fun _ _ _ h => h) (yieldsIf_load_mid (by kernel_rfl) 37 (.tmp 6) rfl (w.heap.size + 1) 0 (by kernel_rfl) (reqL pt dv_ vf lf pk) lrd (fun _ h => h.1.r.range0) lr1 lr2 lr3) hH ?_
  simp only [Act.put, List.setIfInBounds_toArray, List.set_cons_zero, List.set_cons_succ]
  refine wpAnyH_ready (rs := [4]) (by kernel_rfl) (by simp) ?_
  refine AllReadyH.cons (o := _) rfl (fun K1 hK1 => ?_) AllReadyH.nil
  go_simp
  refine (HW.out _).mono ?_
  rintro e b1 ⟨rfl, hb⟩
  have hS1 := And.intro (hH.1.below hb) (hH.2.below hb (hH.2.lt (by simp)))
  clear hb
  (try dsimp only)
  refine hK1.out _ _ hS1 (fun _ => ?_)
  refine wpAnyH_ready (rs := [5]) (by kernel_rfl) (by simp) ?_
  refine AllReadyH.cons (o := _) rfl (fun K2 hK2 => ?_) AllReadyH.nil
  have heq3 := heq b1
  have g0 : (eqGuard .neq 35 (.tmp 87) (.tmp 90) (.agg (pk.map (.int .u8)).toArray) (dv rq)).run Tryz.prog b1 = .ok () b1 := run_eqGuard_agg b1 .neq 35 (.tmp 87) (.tmp 90) _ _ (by kernel_rfl)
  have g1 : (binOp .neq 35 (.agg (pk.map (.int .u8)).toArray) (dv rq)).run Tryz.prog b1 = .ok (.bool false) b1 := by
    unfold dv at heq3 ⊢
    rw [run_neq_struct, heq3]
    rfl
  go_simp
  clear g0 g1 heq3
  refine hK2.out _ _ hS1 (fun _ => ?_)
  refine wpAnyH_done (by kernel_rfl) ?_ _
  refine NoPanic.normal ?_
  have F5 := Bx.mk hS1.1
  have T5 := Bx.mk hS1.2
  clear hS1 hH heq HEQ HW F3 T3 hK1 hK2
  have s5 : b1.cell? ⟨w.heap.size, 5, none⟩ = some (.bool false) := F5.out.s.get (i := 5) rfl
  have f5 := F5.out.s.fr (i := 5) (by simp [sessL])
  go_wp2_with fail
  have F6 : Bx (A4 w (sessL r code x p t true) (reqL pt dv_ vf lf pk) sess0 zC (b1.setCell ⟨w.heap.size, 5, none⟩ (.bool true))) := .mk (F5.out.set 5 (.bool true))
  have T6 : Bx (Row (b1.setCell ⟨w.heap.size, 5, none⟩ (.bool true)) T ([2, dv_, vf, lf, ver, bY, sr, ss].map (.int .i64))) := .mk (T5.out.other (a := ⟨w.heap.size, 5, none⟩) (by show w.heap.size ≠ T; omega) (.bool true))
  clear s5 f5 F5 T5
  generalize (b1.setCell ⟨w.heap.size, 5, none⟩ (.bool true)) = b2 at *
  refine wp_region_noPanic ?_
  refine wp_region_held_drew (S := fun W' => Row W' w.heap.size (sessL r code x p t true) ∧ Row W' T ([2, dv_, vf, lf, ver, bY, sr, ss].map (.int .i64))) (by kernel_rfl) ⟨F6.out.drew.s, T6.out⟩ (fun hH => ?_)
  have fA := F6.out.drew
  have tA : Row b2.drew T ([2, dv_, vf, lf, ver, bY, sr, ss].map (.int .i64)) := T6.out
  generalize b2.drew = b3 at *
  refine wpAnyH_take (i := 0) (oi := _) (v := .agg #[.int .i64 r, .int .i64 code, .int .i64 x, .int .i64 p, .int .i64 t, .bool true]) rfl (by kernel_rfl) (by kernel_rfl) (by kernel_rfl) (fun _ _ _ h => h) (yieldsIf_load_mid (by kernel_rfl) 25 (.tmp 5) rfl w.heap.size 0 (by kernel_rfl) (sessL r code x p t true) lsd (fun _ h => h.1.range0) ls1 ls2 rowT_sess.size) hH ?_
  simp only [Act.put, List.setIfInBounds_toArray, List.set_cons_zero, List.set_cons_succ]
  refine wpAnyH_take (i := 1) (oi := _) (v := .agg #[.int .i64 2, .int .i64 dv_, .int .i64 vf, .int .i64 lf, .int .i64 ver, .int .i64 bY, .int .i64 sr, .int .i64 ss]) rfl (by kernel_rfl) (by kernel_rfl) (by kernel_rfl) (fun _ _ _ h => h) (yieldsIf_load_mid (by kernel_rfl) 44 (.tmp 16) rfl T 0 (by kernel_rfl) ([2, dv_, vf, lf, ver, bY, sr, ss].map (.int .i64)) lcd (fun _ h => h.2.range0) lc1 lc2 rowT_cert.size) hH ?_
  simp only [Act.put, List.setIfInBounds_toArray, List.set_cons_zero, List.set_cons_succ]
  refine wpAnyH_ready (rs := [2]) (by kernel_rfl) (by simp) ?_
  refine AllReadyH.cons (o := _) rfl (fun K3 hK3 => ?_) AllReadyH.nil
  rw [if_pos (by kernel_rfl)]
  refine wp_store_mid 25 (.tmp 10) (.tmp 99) rfl (w.heap.size + 2) 0 (sessL r code x p t true).toArray (by kernel_rfl) (by kernel_rfl) (fA.x.there 0 6 (by decide)) rowT_sess.size (all_oneCell_toArray (sess_one r code x p t true)) ?_
  obtain ⟨r1, g1⟩ := Row.store (pre := []) (ys := sess0) (post := []) (xs := sessL r code x p t true) (by simpa using fA.x) rfl
  have fB := fA.putx g1 (by simpa using r1) (by simp [sessL])
  have tB := tA.grown g1 (tA.lt (by simp)) (fun q => by have := Option.some.inj q; omega)
  refine hK3.out _ _ ⟨fB.s, tB⟩ (fun _ => ?_)
  refine wpAnyH_ready (rs := [3]) (by kernel_rfl) (by simp) ?_
  refine AllReadyH.cons (o := _) rfl (fun K4 hK4 => ?_) AllReadyH.nil
  rw [if_pos (by kernel_rfl)]
  refine wp_store_mid 44 (.tmp 11) (.tmp 100) rfl (w.heap.size + 3) 0 ([2, dv_, vf, lf, ver, bY, sr, ss].map (.int .i64)).toArray (by kernel_rfl) (by kernel_rfl) (fB.c.there 0 8 (by decide)) rowT_cert.size (all_oneCell_toArray (one_ints .i64 _)) ?_
  obtain ⟨r2, g2⟩ := Row.store (pre := []) (ys := zC) (post := []) (xs := [2, dv_, vf, lf, ver, bY, sr, ss].map (.int .i64)) (by simpa using fB.c) rfl
  have fC := fB.putc g2 (by simpa using r2) (by simp)
  have tC := tB.grown g2 (tB.lt (by simp)) (fun q => by have := Option.some.inj q; omega)
  refine hK4.out _ _ ⟨fC.s, tC⟩ (fun _ => ?_)
  refine wpAnyH_ready (rs := [4]) (by kernel_rfl) (by simp) ?_
  refine AllReadyH.cons (o := _) rfl (fun K5 hK5 => ?_) AllReadyH.nil
  go_simp
  refine hK5.out _ _ ⟨fC.s, tC⟩ (fun _ => ?_)
  refine wpAnyH_done (by kernel_rfl) ?_ _
  refine NoPanic.normal ?_
  have FC := Bx.mk fC
  clear fA fB fC tA tB tC r1 g1 r2 g2 hH F6 T6 hK3 hK4 hK5
  (try simp only [List.length_nil] at FC)
  go_wp2_with fail
  (try simp only [Exit.inBlock, Exit.then])
  refine bodyPost_ret (results_ans rfl _ _ (w.heap.size + 2) (w.heap.size + 3) (sessL r code x p t true) ([2, dv_, vf, lf, ver, bY, sr, ss].map (.int .i64)) (.int .i64 0) rfl rfl rfl FC.out.x rfl FC.out.c rfl) rfl ?_
  exact ⟨rfl, FC.out.b⟩
end
theorem rans_c (r code x p t : Int) (d : Bool) (pt dv_ vf lf : Int) (pk : List Int) (hpk : pk.length = 32) (ver bY priv : Int) (w : World) (i2 : i64R vf) (i3 : i64R lf) (i4 : i64R dv_) (i5 : i64R ver) (i6 : i64R bY) :
    Calls Tryz.prog 23 #[sessV r code x p t d, reqV pt dv_ vf lf pk, .int .i64 ver, .int .i64 bY, .int .i64 priv] w fun e w' => e = .returned (.tuple #[.agg (ansF r code x p t d pt dv_ vf lf pk ver bY priv).1.toArray, (ansF r code x p t d pt dv_ vf lf pk ver bY priv).2.1, .int .i64 (ansF r code x p t d pt dv_ vf lf pk ver bY priv).2.2]) ∧ Below w.heap.size w w' := by
  have hr6 : ∀ x ∈ [2, dv_, vf, lf, ver, bY], -9223372036854775808 ≤ x ∧ x ≤ 9223372036854775807 := by
    intro x hx
    simp only [List.mem_cons, List.not_mem_nil, or_false] at hx
    rcases hx with rfl | rfl | rfl | rfl | rfl | rfl
    · decide
    · exact i4
    · exact i2
    · exact i3
    · exact i5
    · exact i6
  unfold ansF
  cases h1 : sessOK r code x p t with
  | false => exact rans_invalid r code x p t d pt dv_ vf lf pk hpk ver bY priv w h1
  | true =>
    rw [if_pos rfl]
    by_cases h5 : t = 5
    · subst h5
      rw [show openE 5 d = 381 from rfl, if_neg (by decide)]
      exact rans_five r code x p d pt dv_ vf lf pk hpk ver bY priv w h1
    · cases d with
      | true =>
        rw [show openE t true = 380 by unfold openE; rw [if_neg h5]; rfl, if_neg (by decide)]
        exact rans_done r code x p t pt dv_ vf lf pk hpk ver bY priv w h1 h5
      | false =>
        rw [show openE t false = 0 by unfold openE; rw [if_neg h5]; rfl, if_pos rfl]
        cases hf : fitsB p pt dv_ vf lf with
        | false =>
          rw [if_neg (by decide)]
          cases hd : isDev dv_ with
          | false => exact rans_dev r code x p t pt dv_ vf lf pk hpk ver bY priv w h1 h5 hd
          | true =>
            by_cases hp : dv_ / 8 = p
            · by_cases g1 : elt pt = true
              · by_cases g2 : elt vf = true
                · by_cases g3 : elt lf = true
                  · have := (fits_iff p pt dv_ vf lf).2 ⟨hd, hp, g1, g2, g3⟩
                    rw [hf] at this; cases this
                  · exact rans_lf r code x p t pt dv_ vf lf pk hpk ver bY priv w h1 h5 hd hp g1 g2 g3
                · exact rans_vf r code x p t pt dv_ vf lf pk hpk ver bY priv w h1 h5 hd hp g1 g2
              · exact rans_pt r code x p t pt dv_ vf lf pk hpk ver bY priv w h1 h5 hd hp g1
            · exact rans_own r code x p t pt dv_ vf lf pk hpk ver bY priv w h1 h5 hd hp
        | true =>
          obtain ⟨hd, hp, g1, g2, g3⟩ := (fits_iff p pt dv_ vf lf).1 hf
          rw [if_pos rfl]
          by_cases hc : (certF 2 dv_ vf lf ver bY priv).2 = 0
          · rw [if_pos hc]
            have hg := certF_good hc
            by_cases hq : pk = rqN (prfN (keyN r code x pt) 2) dv_ vf lf
            · rw [if_pos hq, hg]
              exact rans_yes r code x p t pt dv_ vf lf pk hpk ver bY priv w h1 h5 hd hp g1 g2 g3 hr6 _ _ hg hq
            · rw [if_neg hq]
              exact rans_no r code x p t pt dv_ vf lf pk hpk ver bY priv w h1 h5 hd hp g1 g2 g3 hr6 _ _ hg hq
          · rw [if_neg hc]
            exact rans_cert r code x p t pt dv_ vf lf pk hpk ver bY priv w h1 h5 hd hp g1 g2 g3 hr6 _ hc (certF_bad hc)
end Go.Proofs.YtjbojoeafdkkeaaGreatDoor
