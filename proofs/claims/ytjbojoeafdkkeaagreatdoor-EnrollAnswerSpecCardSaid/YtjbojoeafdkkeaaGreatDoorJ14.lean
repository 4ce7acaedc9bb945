/- people: Certify. -/
import Derived.Test.YtjbojoeafdkkeaaGreatDoorJ11
set_option linter.unusedVariables false
set_option linter.unusedSimpArgs false
namespace Go.Proofs.YtjbojoeafdkkeaaGreatDoor
open Go Go.RowKit Go.Lib

theorem Tryz.cert_facts : (Tryz.prog.underlying 44).any TypeDesc.isRow = true ∧ (Tryz.prog.info? 44).map (·.size) = some 8 := ⟨by kernel_rfl, by kernel_rfl⟩
theorem cert_row : ∃ d, Tryz.prog.underlying 44 = some d ∧ d.isRow = true := by
  have hd := Tryz.cert_facts.1
  cases hq : Tryz.prog.underlying 44 with
  | none => rw [hq] at hd; cases hd
  | some d => rw [hq] at hd; exact ⟨d, rfl, hd⟩
theorem results_cert {fn : Func} {p q : Tmp} (h : fn.results = #[.cell p 44, .tmp q]) (tmps : Array Value) (w : World) (B : Nat) (l : List Int) (v : Value) (hp : tmps.getD p undef = .pointer (some ⟨B, 0, none⟩)) (hu : tmps.getD q undef = v) (hb : Blk w B .i64 l) (hl : l.length = 8) :
    (results fn tmps).run Tryz.prog w = .ok (.tuple #[.agg (l.map (.int .i64)).toArray, v]) w := by
  obtain ⟨d, hd1, hd2⟩ := cert_row
  have hr := run_loadVar_mid (P := Tryz.prog) w B 0 44 (l.map (.int .i64)) d (range_of_blk hb) hd1 hd2 (by rw [List.length_map, hl]; exact Tryz.cert_facts.2)
  rw [results_cell_tmp h, hp, hu]
  simp [asAddr, hr]
theorem wpList_ldC {w : World} {ops : Array Oper} {rest : List Oper} {o : Oper} {a : Act} {Q : Exit → Act → World → Prop} (hgd : o.guard = none) (x : Operand) (ho : o.op = .load 44 x) (B : Nat) (hx : a.eval x = .pointer (some ⟨B, 0, none⟩))
    (k d v l n b r s : Int) (hb : Blk w B .i64 [k, d, v, l, n, b, r, s]) (h : wpList Tryz.prog ops Q rest (a.put o.dst (.agg #[.int .i64 k, .int .i64 d, .int .i64 v, .int .i64 l, .int .i64 n, .int .i64 b, .int .i64 r, .int .i64 s])) w) : wpList Tryz.prog ops Q (o :: rest) a w :=
  wpList_plain hgd fun K hK => by
    obtain ⟨dd, hd1, hd2⟩ := cert_row
    have hr := run_loadAt_mid (P := Tryz.prog) w B 0 44 ([k, d, v, l, n, b, r, s].map (.int .i64)) dd (range_of_blk hb) hd1 hd2 Tryz.cert_facts.2
    unfold Oper.wp execOp
    simp only [ho, hx, Sem.run_bind, hr, Result.andThen_ok]
    exact hK _ _ h
theorem wpList_stC {w : World} {ops : Array Oper} {rest : List Oper} {o : Oper} {a : Act} {Q : Exit → Act → World → Prop} (hgd : o.guard = none) (x y : Operand) (ho : o.op = .store 44 x y) (B : Nat) (hx : a.eval x = .pointer (some ⟨B, 0, none⟩))
    (k d v l n b r s : Int) (hy : a.eval y = .agg #[.int .i64 k, .int .i64 d, .int .i64 v, .int .i64 l, .int .i64 n, .int .i64 b, .int .i64 r, .int .i64 s]) (m : List Int) (hb : Blk w B .i64 m) (hl : m.length = 8)
    (h : ∀ w', Blk w' B .i64 [k, d, v, l, n, b, r, s] → w.grownBy w' (some B) → wpList Tryz.prog ops Q rest (a.put o.dst undef) w') : wpList Tryz.prog ops Q (o :: rest) a w :=
  wpList_plain hgd fun K hK => by
    have h1 : w.there B 0 (([k, d, v, l, n, b, r, s] : List Int).map (Value.int .i64)).toArray.size := fun j hj => by
      have hj8 : j < m.length := by simpa [hl] using hj
      rw [Nat.zero_add, (hb j hj8).1]
      exact ⟨rfl, (hb j hj8).2⟩
    have hr := run_storeAt_mid (P := Tryz.prog) w B 0 44 (([k, d, v, l, n, b, r, s] : List Int).map (Value.int .i64)).toArray h1 Tryz.cert_facts.2 (all_oneCell_toArray (one_ints .i64 _))
    have h2 : Blk (w.setCells B 0 ([k, d, v, l, n, b, r, s].map (.int .i64))) B .i64 [k, d, v, l, n, b, r, s] := by
      have := hb.setCells [k, d, v, l, n, b, r, s] 0
      rwa [setFrom_all _ _ (by rw [hl]; rfl)] at this
    have h3 : w.grownBy (w.setCells B 0 ([k, d, v, l, n, b, r, s].map (.int .i64))) (some B) := grown_setCells B _ 0 (grown_refl _ _)
    unfold Oper.wp execOp
    simp only [ho, hx, hy, Sem.run_bind]
    rw [show (Instr.storeAt 44 (.pointer (some ⟨B, 0, none⟩)) (.agg #[.int .i64 k, .int .i64 d, .int .i64 v, .int .i64 l, .int .i64 n, .int .i64 b, .int .i64 r, .int .i64 s])).run Tryz.prog w = _ from hr]
    exact hK _ _ (h _ h2 h3)

def i64R (x : Int) : Prop := -9223372036854775808 ≤ x ∧ x ≤ 9223372036854775807
theorem formed_c (k d v l n b r s : Int) (w : World) (hv : i64R v) (hl : i64R l) :
    Calls Tryz.prog 62 #[certV k d v l n b r s] w fun e w' => e = .returned (.bool (formedV k d v l n b)) ∧ Below w.heap.size w w' := by
  unfold formedV
  cases h : headV d n
  · rw [Bool.false_and]; exact formed_bad k d v l n b r s w h
  · rw [Bool.true_and]; exact formed_ok k d v l n b r s w h hv hl
def zeroC : Value := certV 0 0 0 0 0 0 0 0

def cC (k d v l n b r s : Int) : Obj := .cells #[.int .i64 k, .int .i64 d, .int .i64 v, .int .i64 l, .int .i64 n, .int .i64 b, .int .i64 r, .int .i64 s] 44
/-- The frame of Certify: both certificates. -/
theorem two_certs (k d v l n b : Int) (w : World) :
    Blk ((w.alloc (cC 0 0 0 0 0 0 0 0)).alloc (cC k d v l n b 0 0)) w.heap.size .i64 [0, 0, 0, 0, 0, 0, 0, 0] ∧ Blk ((w.alloc (cC 0 0 0 0 0 0 0 0)).alloc (cC k d v l n b 0 0)) (w.heap.size + 1) .i64 [k, d, v, l, n, b, 0, 0] ∧ Below w.heap.size w ((w.alloc (cC 0 0 0 0 0 0 0 0)).alloc (cC k d v l n b 0 0)) := by
  have h1 := blk_new w .i64 [0, 0, 0, 0, 0, 0, 0, 0] 44
  have h2 := blk_new (w.alloc (cC 0 0 0 0 0 0 0 0)) .i64 [k, d, v, l, n, b, 0, 0] 44
  have e1 : (w.alloc (cC 0 0 0 0 0 0 0 0)).heap.size = w.heap.size + 1 := World.size_alloc _ _
  rw [e1] at h2
  exact ⟨h1.alloc (by rw [World.size_alloc]; omega) _, h2, ((Below.refl _ _).alloc (Nat.le_refl _) _).alloc (by rw [e1]; omega) _⟩

set_option maxHeartbeats 4000000 in
set_option maxRecDepth 100000 in
theorem certify_bad (k d v l n b x : Int) (w : World) (hv : i64R v) (hl : i64R l) (hf : formedV k d v l n b = false) :
    Calls Tryz.prog 26 #[.int .i64 k, .int .i64 d, .int .i64 v, .int .i64 l, .int .i64 n, .int .i64 b, .int .i64 x] w fun e w' => e = .returned (.tuple #[zeroC, .int .i64 370]) ∧ Below w.heap.size w w' := by
  have HF := Bx.mk (fun w => formed_c k d v l n b 0 0 w hv hl)
  rw [hf] at HF
  obtain ⟨c1, _, c3⟩ := two_certs k d v l n b w
  have C1 := Bx.mk c1; have C3 := Bx.mk c3
  clear hv hl hf c1 c3
  unfold certV at HF
  go_enter Tryz.func26, Tryz.ntmps26
  go_wp2_with fail
  refine (HF.out _).mono ?_
  rintro e w1 ⟨rfl, hb1⟩
  have D1 := Bx.mk (C1.out.below hb1 (C1.out.lt (by simp)))
  have B1 := Bx.mk (below_step C3.out hb1 (Nat.le_refl _))
  clear C1 C3 hb1
  go_wp2_with (first | (refine wpList_ldC rfl (.tmp 14) rfl w.heap.size rfl _ _ _ _ _ _ _ _ D1.out ?_) | (refine wpList_stC rfl (.tmp 14) (.tmp 27) rfl w.heap.size rfl _ _ _ _ _ _ _ _ rfl _ D1.out rfl ?_))
  intro w2 E2 hg2
  have B2 := Bx.mk (Below.grown B1.out hg2 B1.out.size (by intro q hq; cases hq; omega))
  have E2 := Bx.mk E2
  clear hg2
  go_wp2_with fail
  (try simp only [Exit.inBlock, Exit.then])
  refine bodyPost_ret (results_cert rfl _ _ w.heap.size [0, 0, 0, 0, 0, 0, 0, 0] (.int .i64 370) rfl rfl E2.out rfl) rfl ?_
  exact ⟨rfl, B2.out⟩

set_option maxHeartbeats 4000000 in
set_option maxRecDepth 100000 in
theorem certify_priv (k d v l n b x : Int) (w : World) (hL : Laid w) (hr : ∀ x ∈ [k, d, v, l, n, b], -9223372036854775808 ≤ x ∧ x ≤ 9223372036854775807) (hf : formedV k d v l n b = true) (hx : isPriv x = false) :
    Calls Tryz.prog 26 #[.int .i64 k, .int .i64 d, .int .i64 v, .int .i64 l, .int .i64 n, .int .i64 b, .int .i64 x] w fun e w' => e = .returned (.tuple #[zeroC, .int .i64 50]) ∧ Below w.heap.size w w' := by
  have HF := Bx.mk (fun w => formed_c k d v l n b 0 0 w (hr v (by simp)) (hr l (by simp)))
  rw [hf] at HF
  obtain ⟨c1, c2, c3⟩ := two_certs k d v l n b w
  have C1 := Bx.mk c1; have C2 := Bx.mk c2; have C3 := Bx.mk c3
  have HMc := Bx.mk (fun w hL => message_c k d v l n b 0 0 w hL hr)
  have HS := Bx.mk (fun v w => sign_bad x v w hx)
  have HL := Bx.mk hL
  clear hL hr hf hx c1 c2 c3
  unfold certV at HF HMc
  go_enter Tryz.func26, Tryz.ntmps26
  go_wp2_with fail
  refine (HF.out _).mono ?_
  rintro e w1 ⟨rfl, hb1⟩
  have D1 := Bx.mk (C1.out.below hb1 (C1.out.lt (by simp)))
  have X1 := Bx.mk (C2.out.below hb1 (C2.out.lt (by simp)))
  have B1 := Bx.mk (below_step C3.out hb1 (Nat.le_refl _))
  clear C1 C2 C3 hb1
  go_wp2_with (refine wpList_ldC rfl (.tmp 16) rfl (w.heap.size + 1) rfl _ _ _ _ _ _ _ _ X1.out ?_)
  refine (HMc.out _ (HL.out.below B1.out (Nat.le_refl _))).mono ?_
  rintro e w2 ⟨D, rfl, hD, hM, hb2⟩
  have D2 := Bx.mk (D1.out.below hb2 (D1.out.lt (by simp)))
  have X2 := Bx.mk (X1.out.below hb2 (X1.out.lt (by simp)))
  have B2 := Bx.mk (below_step B1.out hb2 (Nat.le_refl _))
  clear D1 X1 B1 hb2
  go_wp2_with fail
  refine (HS.out _ _).mono ?_
  rintro e w3 ⟨rfl, hb3⟩
  have D3 := Bx.mk (D2.out.below hb3 (D2.out.lt (by simp)))
  have X3 := Bx.mk (X2.out.below hb3 (X2.out.lt (by simp)))
  have B3 := Bx.mk (below_step B2.out hb3 (Nat.le_refl _))
  have x6 := (X3.out 6 (by simp)).1; have x7 := (X3.out 7 (by simp)).1
  have f6 := (X3.out 6 (by simp)).2; have f7 := (X3.out 7 (by simp)).2
  simp only [List.getElem_cons_succ, List.getElem_cons_zero] at x6 x7
  have D4 := Bx.mk ((D3.out.other (a := ⟨w.heap.size + 1, 6, none⟩) (by simp) (.int .i64 0)).other (a := ⟨w.heap.size + 1, 7, none⟩) (by simp) (.int .i64 0))
  have B4 := Bx.mk ((B3.out.setCell (p := ⟨w.heap.size + 1, 6, none⟩) (by simp) (.int .i64 0)).setCell (p := ⟨w.heap.size + 1, 7, none⟩) (by simp) (.int .i64 0))
  clear D2 X2 B2 hb3 D3 X3 B3
  go_wp2_with (first | (refine wpList_ldC rfl (.tmp 14) rfl w.heap.size rfl _ _ _ _ _ _ _ _ D4.out ?_) | (refine wpList_stC rfl (.tmp 14) (.tmp 38) rfl w.heap.size rfl _ _ _ _ _ _ _ _ rfl _ D4.out rfl ?_))
  intro w5 E5 hg5
  have B5 := Bx.mk (Below.grown B4.out hg5 B4.out.size (by intro q hq; cases hq; omega))
  have E5 := Bx.mk E5
  clear hg5
  go_wp2_with fail
  (try simp only [Exit.inBlock, Exit.then])
  refine bodyPost_ret (results_cert rfl _ _ w.heap.size [0, 0, 0, 0, 0, 0, 0, 0] (.int .i64 50) rfl rfl E5.out rfl) rfl ?_
  exact ⟨rfl, B5.out⟩

set_option maxHeartbeats 4000000 in
set_option maxRecDepth 100000 in
theorem certify_ok (k d v l n b x : Int) (w : World) (hL : Laid w) (hr : ∀ x ∈ [k, d, v, l, n, b], -9223372036854775808 ≤ x ∧ x ≤ 9223372036854775807) (hf : formedV k d v l n b = true) (hx : isPriv x = true) :
    Calls Tryz.prog 26 #[.int .i64 k, .int .i64 d, .int .i64 v, .int .i64 l, .int .i64 n, .int .i64 b, .int .i64 x] w fun e w' => e = .returned (.tuple #[certV k d v l n b (sigR x (msgN k d v l n b)) (sigS x (msgN k d v l n b)), .int .i64 0]) ∧ Below w.heap.size w w' := by
  have HF := Bx.mk (fun w => formed_c k d v l n b 0 0 w (hr v (by simp)) (hr l (by simp)))
  rw [hf] at HF
  obtain ⟨c1, c2, c3⟩ := two_certs k d v l n b w
  have C1 := Bx.mk c1; have C2 := Bx.mk c2; have C3 := Bx.mk c3
  have HMc := Bx.mk (fun w hL => message_c k d v l n b 0 0 w hL hr)
  have hml : (msgN k d v l n b).length = 32 := tagged_len _ _
  have HS := Bx.mk (fun D w hL hu hb => sign_ok x D 0 32 (msgN k d v l n b) w hx hL hu hb (by rw [hml]; decide) (by rw [hml]; decide))
  rw [hml] at HS
  have HML := Bx.mk hml
  obtain ⟨r, hr2⟩ : ∃ r, r = sigR x (msgN k d v l n b) := ⟨_, rfl⟩
  obtain ⟨s, hs2⟩ : ∃ s, s = sigS x (msgN k d v l n b) := ⟨_, rfl⟩
  rw [← hr2, ← hs2] at HS ⊢
  have HL := Bx.mk hL
  clear hL hr hf hx c1 c2 c3 hml hr2 hs2
  unfold certV at HF HMc
  go_enter Tryz.func26, Tryz.ntmps26
  go_wp2_with fail
  refine (HF.out _).mono ?_
  rintro e w1 ⟨rfl, hb1⟩
  have D1 := Bx.mk (C1.out.below hb1 (C1.out.lt (by simp)))
  have X1 := Bx.mk (C2.out.below hb1 (C2.out.lt (by simp)))
  have B1 := Bx.mk (below_step C3.out hb1 (Nat.le_refl _))
  clear C1 C2 C3 hb1
  go_wp2_with (refine wpList_ldC rfl (.tmp 16) rfl (w.heap.size + 1) rfl _ _ _ _ _ _ _ _ X1.out ?_)
  refine (HMc.out _ (HL.out.below B1.out (Nat.le_refl _))).mono ?_
  rintro e w2 ⟨D, rfl, hD, hM, hb2⟩
  have D2 := Bx.mk (D1.out.below hb2 (D1.out.lt (by simp)))
  have X2 := Bx.mk (X1.out.below hb2 (X1.out.lt (by simp)))
  have B2 := Bx.mk (below_step B1.out hb2 (Nat.le_refl _))
  have HU := Bx.mk (show U8 w2 D 0 (msgN k d v l n b) from fun i hi => by rw [Nat.zero_add]; exact (hM i hi).1)
  have hDl : D < w2.heap.size := hM.lt (by rw [HML.out]; decide)
  clear D1 X1 B1 hb2 hM
  go_wp2_with fail
  refine (HS.out _ _ (HL.out.below B2.out (Nat.le_refl _)) HU.out hDl).mono ?_
  rintro e w3 ⟨rfl, hb3⟩
  have D3 := Bx.mk (D2.out.below hb3 (D2.out.lt (by simp)))
  have X3 := Bx.mk (X2.out.below hb3 (X2.out.lt (by simp)))
  have B3 := Bx.mk (below_step B2.out hb3 (Nat.le_refl _))
  have x6 := (X3.out 6 (by simp)).1; have x7 := (X3.out 7 (by simp)).1
  have f6 := (X3.out 6 (by simp)).2; have f7 := (X3.out 7 (by simp)).2
  simp only [List.getElem_cons_succ, List.getElem_cons_zero] at x6 x7
  have D4 := Bx.mk ((D3.out.other (a := ⟨w.heap.size + 1, 6, none⟩) (by simp) (.int .i64 r)).other (a := ⟨w.heap.size + 1, 7, none⟩) (by simp) (.int .i64 s))
  have X4 : Bx (Blk ((w3.setCell ⟨w.heap.size + 1, 6, none⟩ (.int .i64 r)).setCell ⟨w.heap.size + 1, 7, none⟩ (.int .i64 s)) (w.heap.size + 1) .i64 [k, d, v, l, n, b, r, s]) := .mk ((X3.out.setCell 6 r).setCell 7 s)
  have B4 := Bx.mk ((B3.out.setCell (p := ⟨w.heap.size + 1, 6, none⟩) (by simp) (.int .i64 r)).setCell (p := ⟨w.heap.size + 1, 7, none⟩) (by simp) (.int .i64 s))
  clear D2 X2 B2 hb3 D3 X3 B3
  go_wp2_with (first | (refine wpList_ldC rfl (.tmp 16) rfl (w.heap.size + 1) rfl _ _ _ _ _ _ _ _ X4.out ?_) | (refine wpList_stC rfl (.tmp 14) (.tmp 40) rfl w.heap.size rfl _ _ _ _ _ _ _ _ rfl _ D4.out rfl ?_))
  intro w5 E5 hg5
  have B5 := Bx.mk (Below.grown B4.out hg5 B4.out.size (by intro q hq; cases hq; omega))
  have E5 := Bx.mk E5
  clear hg5
  go_wp2_with fail
  (try simp only [Exit.inBlock, Exit.then])
  refine bodyPost_ret (results_cert rfl _ _ w.heap.size [k, d, v, l, n, b, r, s] (.int .i64 0) rfl rfl E5.out rfl) rfl ?_
  exact ⟨rfl, B5.out⟩

/-- What Certify answers. -/
def certF (k d v l n b x : Int) : Value × Int :=
  if formedV k d v l n b then (if isPriv x then (certV k d v l n b (sigR x (msgN k d v l n b)) (sigS x (msgN k d v l n b)), 0) else (zeroC, 50)) else (zeroC, 370)
theorem certify_c (k d v l n b x : Int) (w : World) (hL : Laid w) (hr : ∀ x ∈ [k, d, v, l, n, b], -9223372036854775808 ≤ x ∧ x ≤ 9223372036854775807) :
    Calls Tryz.prog 26 #[.int .i64 k, .int .i64 d, .int .i64 v, .int .i64 l, .int .i64 n, .int .i64 b, .int .i64 x] w fun e w' => e = .returned (.tuple #[(certF k d v l n b x).1, .int .i64 (certF k d v l n b x).2]) ∧ Below w.heap.size w w' := by
  unfold certF
  cases hf : formedV k d v l n b
  · exact certify_bad k d v l n b x w (hr v (by simp)) (hr l (by simp)) hf
  · cases hx : isPriv x
    · exact certify_priv k d v l n b x w hL hr hf hx
    · exact certify_ok k d v l n b x w hL hr hf hx
end Go.Proofs.YtjbojoeafdkkeaaGreatDoor
