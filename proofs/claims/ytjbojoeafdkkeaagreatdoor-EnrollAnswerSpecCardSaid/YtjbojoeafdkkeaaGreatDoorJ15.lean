/- enroll: the examination: valid, open, formed. -/
import Derived.Test.YtjbojoeafdkkeaaGreatDoorJ12
import Derived.Test.YtjbojoeafdkkeaaGreatDoorJ13
import Derived.Test.YtjbojoeafdkkeaaGreatDoorJ14
set_option linter.unusedVariables false
set_option linter.unusedSimpArgs false
namespace Go.Proofs.YtjbojoeafdkkeaaGreatDoor
open Go Go.RowKit Go.Lib

def errV (e : Int) (t : Bool) : Value := .iface 97 (.agg #[.int .i64 e, .bool t])
def refV (e : Int) : Value := if e = 0 then .nilIface else errV e false
theorem refuse_c (e : Int) (w : World) : Calls Tryz.prog 110 #[.int .i64 e] w fun ev w' => ev = .returned (refV e) ∧ w' = w := by
  unfold refV
  by_cases h : e = 0
  · subst h
    go_enter Tryz.func110, Tryz.ntmps110
    go_wp2
    go_ret
    exact ⟨rfl, rfl⟩
  · rw [if_neg h]
    go_enter Tryz.func110, Tryz.ntmps110
    go_wp2
    go_ret
    exact ⟨rfl, rfl⟩

/-- What the examination's variable holds. -/
structure Ex where
  (r code x p t : Int)
  (d : Bool)
  (pt dv vf lf : Int)
  (pk : List Int)
  (ver bY priv : Int)
  (ct : List Int)
def Ex.L (e : Ex) : List Value := sessL e.r e.code e.x e.p e.t e.d ++ (reqL e.pt e.dv e.vf e.lf e.pk ++ ([.int .i64 e.ver, .int .i64 e.bY, .int .i64 e.priv] ++ e.ct.map (.int .i64)))
structure ExAt (W : World) (Y : Nat) (e : Ex) : Prop where
  row : Row W Y e.L
  pk : e.pk.length = 32
  ct : e.ct.length = 8
theorem ExAt.below {W W2 : World} {Y N : Nat} {e : Ex} (h : ExAt W Y e) (hb : Below N W W2) (hY : Y < N) : ExAt W2 Y e := ⟨h.row.below hb hY, h.pk, h.ct⟩
theorem Ex.len (e : Ex) (h : e.pk.length = 32) (hc : e.ct.length = 8) : e.L.length = 53 := by simp [Ex.L, sessL, reqL, h, hc]
theorem ExAt.lt {W : World} {Y : Nat} {e : Ex} (h : ExAt W Y e) : Y < W.heap.size := h.row.lt (by rw [e.len h.pk h.ct]; decide)
theorem ExAt.c0 {W : World} {Y : Nat} {e : Ex} (h : ExAt W Y e) : W.cell? ⟨Y, 0, none⟩ = some (.int .i64 e.r) := h.row.get rfl
theorem ExAt.c1 {W : World} {Y : Nat} {e : Ex} (h : ExAt W Y e) : W.cell? ⟨Y, 1, none⟩ = some (.int .i64 e.code) := h.row.get rfl
theorem ExAt.c2 {W : World} {Y : Nat} {e : Ex} (h : ExAt W Y e) : W.cell? ⟨Y, 2, none⟩ = some (.int .i64 e.x) := h.row.get rfl
theorem ExAt.c3 {W : World} {Y : Nat} {e : Ex} (h : ExAt W Y e) : W.cell? ⟨Y, 3, none⟩ = some (.int .i64 e.p) := h.row.get rfl
theorem ExAt.c4 {W : World} {Y : Nat} {e : Ex} (h : ExAt W Y e) : W.cell? ⟨Y, 4, none⟩ = some (.int .i64 e.t) := h.row.get rfl
theorem ExAt.c5 {W : World} {Y : Nat} {e : Ex} (h : ExAt W Y e) : W.cell? ⟨Y, 5, none⟩ = some (.bool e.d) := h.row.get rfl
theorem ExAt.c6 {W : World} {Y : Nat} {e : Ex} (h : ExAt W Y e) : W.cell? ⟨Y, 6, none⟩ = some (.int .i64 e.pt) := h.row.get rfl
theorem ExAt.c7 {W : World} {Y : Nat} {e : Ex} (h : ExAt W Y e) : W.cell? ⟨Y, 7, none⟩ = some (.int .i64 e.dv) := h.row.get rfl
theorem ExAt.c8 {W : World} {Y : Nat} {e : Ex} (h : ExAt W Y e) : W.cell? ⟨Y, 8, none⟩ = some (.int .i64 e.vf) := h.row.get rfl
theorem ExAt.c9 {W : World} {Y : Nat} {e : Ex} (h : ExAt W Y e) : W.cell? ⟨Y, 9, none⟩ = some (.int .i64 e.lf) := h.row.get rfl
theorem ExAt.tail {W : World} {Y : Nat} {e : Ex} (h : ExAt W Y e) {i : Nat} {v : Value} (hi : ([.int .i64 e.ver, .int .i64 e.bY, .int .i64 e.priv] ++ e.ct.map (.int .i64))[i]? = some v) : W.cell? ⟨Y, 42 + i, none⟩ = some v := by
  refine h.row.get ?_
  unfold Ex.L
  rw [List.getElem?_append_right (by simp [sessL]; omega), List.getElem?_append_right (by simp [sessL, reqL, h.pk]; omega)]
  rw [show 42 + i - (sessL e.r e.code e.x e.p e.t e.d).length - (reqL e.pt e.dv e.vf e.lf e.pk).length = i by simp [sessL, reqL, h.pk]; omega]
  exact hi
theorem ExAt.c42 {W : World} {Y : Nat} {e : Ex} (h : ExAt W Y e) : W.cell? ⟨Y, 42, none⟩ = some (.int .i64 e.ver) := h.tail (i := 0) rfl
theorem ExAt.c43 {W : World} {Y : Nat} {e : Ex} (h : ExAt W Y e) : W.cell? ⟨Y, 43, none⟩ = some (.int .i64 e.bY) := h.tail (i := 1) rfl
theorem ExAt.c44 {W : World} {Y : Nat} {e : Ex} (h : ExAt W Y e) : W.cell? ⟨Y, 44, none⟩ = some (.int .i64 e.priv) := h.tail (i := 2) rfl

set_option maxHeartbeats 4000000 in
set_option maxRecDepth 100000 in
theorem xvalid_c (e : Ex) (Y : Nat) (w : World) (hx : ExAt w Y e) :
    Calls Tryz.prog 54 #[.pointer (some ⟨Y, 0, none⟩)] w fun ev w' => ev = .returned (refV (if sessOK e.r e.code e.x e.p e.t then 0 else 380)) ∧ Below w.heap.size w w' := by
  have HC := Bx.mk (fun w => echeck_c e.r e.code e.x e.p e.t e.d w)
  have c0 := hx.c0; have c1 := hx.c1; have c2 := hx.c2; have c3 := hx.c3; have c4 := hx.c4; have c5 := hx.c5
  obtain ⟨q, hq⟩ : ∃ q : Int, q = if sessOK e.r e.code e.x e.p e.t then 0 else 380 := ⟨_, rfl⟩
  rw [← hq] at HC ⊢
  have HRf := Bx.mk (fun w => refuse_c q w)
  clear hq hx
  unfold sessV at HC
  obtain ⟨r, code, x, p, t, d, pt, dv, vf, lf, pk, ver, bY, priv, ct⟩ := e
  dsimp only at *
  go_enter Tryz.func54, Tryz.ntmps54
  go_wp2_with fail
  refine (HC.out _).mono ?_
  rintro e w1 ⟨rfl, hb1⟩
  have B1 := Bx.mk hb1
  clear hb1 c0 c1 c2 c3 c4 c5
  go_wp2_with fail
  refine (HRf.out _).mono ?_
  rintro e w2 ⟨rfl, rfl⟩
  go_wp2_with fail
  go_ret
  exact ⟨rfl, B1.out⟩

def openE (t : Int) (d : Bool) : Int := if t = 5 then 381 else if d then 380 else 0
set_option maxHeartbeats 4000000 in
set_option maxRecDepth 100000 in
theorem xopen_c (e : Ex) (Y : Nat) (w : World) (hx : ExAt w Y e) :
    Calls Tryz.prog 55 #[.pointer (some ⟨Y, 0, none⟩)] w fun ev w' => ev = .returned (refV (openE e.t e.d)) ∧ w' = w := by
  have c4 := hx.c4; have c5 := hx.c5
  clear hx
  obtain ⟨r, code, x, p, t, d, pt, dv, vf, lf, pk, ver, bY, priv, ct⟩ := e
  dsimp only at *
  by_cases h : t = 5
  · subst h
    have HRf := Bx.mk (fun w => refuse_c 381 w)
    rw [show openE 5 d = 381 from rfl]
    go_enter Tryz.func55, Tryz.ntmps55
    go_wp2_with fail
    refine (HRf.out _).mono ?_
    rintro e w2 ⟨rfl, rfl⟩
    go_wp2_with fail
    go_ret
    exact ⟨rfl, rfl⟩
  · cases d with
    | true =>
      have HRf := Bx.mk (fun w => refuse_c 380 w)
      rw [show openE t true = 380 by simp [openE, h]]
      go_enter Tryz.func55, Tryz.ntmps55
      go_wp2_with fail
      refine (HRf.out _).mono ?_
      rintro e w2 ⟨rfl, rfl⟩
      go_wp2_with fail
      go_ret
      exact ⟨rfl, rfl⟩
    | false =>
      rw [show refV (openE t false) = .nilIface by simp [openE, h, refV]]
      go_enter Tryz.func55, Tryz.ntmps55
      go_wp2_with fail
      go_ret
      exact ⟨rfl, rfl⟩

def fitsB (p pt dv vf lf : Int) : Bool := isDev dv && (decide (dv / 8 = p) && (elt pt && (elt vf && elt lf)))
theorem fits_iff (p pt dv vf lf : Int) : fitsB p pt dv vf lf = true ↔ isDev dv = true ∧ dv / 8 = p ∧ elt pt = true ∧ elt vf = true ∧ elt lf = true := by simp [fitsB]

/-- The frame of formed: the cells it reads. -/
structure FormAt (W : World) (Y : Nat) (p pt dv vf lf : Int) : Prop where
  c3 : W.cell? ⟨Y, 3, none⟩ = some (.int .i64 p)
  c6 : W.cell? ⟨Y, 6, none⟩ = some (.int .i64 pt)
  c7 : W.cell? ⟨Y, 7, none⟩ = some (.int .i64 dv)
  c8 : W.cell? ⟨Y, 8, none⟩ = some (.int .i64 vf)
  c9 : W.cell? ⟨Y, 9, none⟩ = some (.int .i64 lf)
theorem FormAt.below {W W2 : World} {Y N : Nat} {p pt dv vf lf : Int} (h : FormAt W Y p pt dv vf lf) (hb : Below N W W2) (hY : Y < N) : FormAt W2 Y p pt dv vf lf :=
  ⟨(hb.cell (p := ⟨Y, 3, none⟩) hY).trans h.c3, (hb.cell (p := ⟨Y, 6, none⟩) hY).trans h.c6, (hb.cell (p := ⟨Y, 7, none⟩) hY).trans h.c7, (hb.cell (p := ⟨Y, 8, none⟩) hY).trans h.c8, (hb.cell (p := ⟨Y, 9, none⟩) hY).trans h.c9⟩

set_option maxHeartbeats 8000000 in
set_option maxRecDepth 100000 in
theorem xformed_c (Y : Nat) (w : World) (p pt dv vf lf : Int) (hx : FormAt w Y p pt dv vf lf) (ipt : i64R pt) (ivf : i64R vf) (ilf : i64R lf) :
    Calls Tryz.prog 56 #[.pointer (some ⟨Y, 0, none⟩)] w fun ev w' => ev = .returned (refV (if fitsB p pt dv vf lf then 0 else 1)) ∧ Below w.heap.size w w' := by
  have HF := Bx.mk (fits_iff p pt dv vf lf)
  have HX := Bx.mk hx
  have HRf := Bx.mk (fun w => refuse_c 1 w)
  have HO := Bx.mk (fun w => owner_c dv w)
  have G0 := Bx.mk (fun w => gcheck_c pt w ipt.1 ipt.2)
  have G1 := Bx.mk (fun w => gcheck_c vf w ivf.1 ivf.2)
  have G2 := Bx.mk (fun w => gcheck_c lf w ilf.1 ilf.2)
  obtain ⟨q, hq⟩ : ∃ q : Value, q = refV (if fitsB p pt dv vf lf then 0 else 1) := ⟨_, rfl⟩
  rw [← hq]
  have hqn : fitsB p pt dv vf lf = true → q = .nilIface := fun h => by rw [hq, if_pos h]; rfl
  have hqe : ¬ fitsB p pt dv vf lf = true → q = errV 1 false := fun h => by rw [hq, if_neg h]; rfl
  have HQN := Bx.mk hqn; have HQE := Bx.mk hqe
  have hY := cell_lt hx.c3
  have hYw := Bx.mk hY
  clear hq hqn hqe hx ipt ivf ilf hY
  have c7 := HX.out.c7; have c3 := HX.out.c3; have c6 := HX.out.c6
  cases hd : isDev dv with
  | false =>
    have e : q = errV 1 false := HQE.out (fun h => by have := (HF.out.1 h).1; rw [hd] at this; cases this)
    subst e
    rw [show ownV dv = .tuple #[.int .i64 0, .int .i64 371] by simp [ownV, hd]] at HO
    clear HQN HQE HF hd
    go_enter Tryz.func56, Tryz.ntmps56
    go_wp2_with fail
    refine (HO.out _).mono ?_
    rintro e w1 ⟨rfl, rfl⟩
    go_wp2_with fail
    refine (HRf.out _).mono ?_
    rintro e wz ⟨rfl, rfl⟩
    go_wp2_with fail
    go_ret
    exact ⟨rfl, Below.refl _ _⟩
  | true =>
    rw [show ownV dv = .tuple #[.int .i64 (dv / 8), .int .i64 0] by simp [ownV, hd]] at HO
    have HD := Bx.mk hd
    clear hd
    obtain ⟨ow, how⟩ : ∃ o, o = dv / 8 := ⟨_, rfl⟩
    rw [← how] at HO
    have HOw := Bx.mk how
    clear how
    by_cases h1 : ow = p
    · have HPE := Bx.mk h1
      subst h1
      cases h2 : elt pt with
      | false =>
        have e : q = errV 1 false := HQE.out (fun h => by have := (HF.out.1 h).2.2.1; rw [h2] at this; cases this)
        subst e
        rw [gcheck_40 (by rw [h2]; decide)] at G0
        clear HQN HQE HF h2
        go_enter Tryz.func56, Tryz.ntmps56
        go_wp2_with fail
        refine (HO.out _).mono ?_
        rintro e w1 ⟨rfl, rfl⟩
        go_wp2_with fail
        refine (G0.out _).mono ?_
        rintro e w2 ⟨rfl, hb2⟩
        have B2 := Bx.mk hb2
        go_wp2_with fail
        refine (HRf.out _).mono ?_
        rintro e wz ⟨rfl, rfl⟩
        go_wp2_with fail
        go_ret
        exact ⟨rfl, B2.out⟩
      | true =>
        rw [gcheck_0 h2] at G0
        have HE0 := Bx.mk h2
        clear h2
        cases h3 : elt vf with
        | false =>
          have e : q = errV 1 false := HQE.out (fun h => by have := (HF.out.1 h).2.2.2.1; rw [h3] at this; cases this)
          subst e
          rw [gcheck_40 (by rw [h3]; decide)] at G1
          clear HQN HQE HF h3
          go_enter Tryz.func56, Tryz.ntmps56
          go_wp2_with fail
          refine (HO.out _).mono ?_
          rintro e w1 ⟨rfl, rfl⟩
          go_wp2_with fail
          refine (G0.out _).mono ?_
          rintro e w2 ⟨rfl, hb2⟩
          have c8 := (HX.out.below hb2 hYw.out).c8
          have X2 := Bx.mk (HX.out.below hb2 hYw.out)
          have Y2 := Bx.mk (Nat.lt_of_lt_of_le hYw.out hb2.size)
          have B2 := Bx.mk hb2
          clear hb2
          go_wp2_with fail
          refine (G1.out _).mono ?_
          rintro e w3 ⟨rfl, hb3⟩
          have B3 := Bx.mk (below_step B2.out hb3 (Nat.le_refl _))
          go_wp2_with fail
          refine (HRf.out _).mono ?_
          rintro e wz ⟨rfl, rfl⟩
          go_wp2_with fail
          go_ret
          exact ⟨rfl, B3.out⟩
        | true =>
          rw [gcheck_0 h3] at G1
          have HE1 := Bx.mk h3
          clear h3
          cases h4 : elt lf with
          | false =>
            have e : q = errV 1 false := HQE.out (fun h => by have := (HF.out.1 h).2.2.2.2; rw [h4] at this; cases this)
            subst e
            rw [gcheck_40 (by rw [h4]; decide)] at G2
            clear HQN HQE HF h4
            go_enter Tryz.func56, Tryz.ntmps56
            go_wp2_with fail
            refine (HO.out _).mono ?_
            rintro e w1 ⟨rfl, rfl⟩
            go_wp2_with fail
            refine (G0.out _).mono ?_
            rintro e w2 ⟨rfl, hb2⟩
            have c8 := (HX.out.below hb2 hYw.out).c8
            have X2 := Bx.mk (HX.out.below hb2 hYw.out)
            have Y2 := Bx.mk (Nat.lt_of_lt_of_le hYw.out hb2.size)
            have B2 := Bx.mk hb2
            clear hb2
            go_wp2_with fail
            refine (G1.out _).mono ?_
            rintro e w3 ⟨rfl, hb3⟩
            have c9 := (X2.out.below hb3 Y2.out).c9
            have B3 := Bx.mk (below_step B2.out hb3 (Nat.le_refl _))
            clear hb3 c8
            go_wp2_with fail
            refine (G2.out _).mono ?_
            rintro e w4 ⟨rfl, hb4⟩
            have B4 := Bx.mk (below_step B3.out hb4 (Nat.le_refl _))
            go_wp2_with fail
            refine (HRf.out _).mono ?_
            rintro e wz ⟨rfl, rfl⟩
            go_wp2_with fail
            go_ret
            exact ⟨rfl, B4.out⟩
          | true =>
            have e : q = .nilIface := HQN.out (HF.out.2 ⟨HD.out, HOw.out.symm, HE0.out, HE1.out, h4⟩)
            subst e
            rw [gcheck_0 h4] at G2
            clear HQN HQE HF h4
            go_enter Tryz.func56, Tryz.ntmps56
            go_wp2_with fail
            refine (HO.out _).mono ?_
            rintro e w1 ⟨rfl, rfl⟩
            go_wp2_with fail
            refine (G0.out _).mono ?_
            rintro e w2 ⟨rfl, hb2⟩
            have c8 := (HX.out.below hb2 hYw.out).c8
            have X2 := Bx.mk (HX.out.below hb2 hYw.out)
            have Y2 := Bx.mk (Nat.lt_of_lt_of_le hYw.out hb2.size)
            have B2 := Bx.mk hb2
            clear hb2
            go_wp2_with fail
            refine (G1.out _).mono ?_
            rintro e w3 ⟨rfl, hb3⟩
            have c9 := (X2.out.below hb3 Y2.out).c9
            have B3 := Bx.mk (below_step B2.out hb3 (Nat.le_refl _))
            clear hb3 c8
            go_wp2_with fail
            refine (G2.out _).mono ?_
            rintro e w4 ⟨rfl, hb4⟩
            have B4 := Bx.mk (below_step B3.out hb4 (Nat.le_refl _))
            clear hb4 c9
            go_wp2_with fail
            go_ret
            exact ⟨rfl, B4.out⟩
    · have e : q = errV 1 false := HQE.out (fun h => h1 (HOw.out.trans (HF.out.1 h).2.1))
      subst e
      clear HQN HQE HF
      go_enter Tryz.func56, Tryz.ntmps56
      go_wp2_with fail
      refine (HO.out _).mono ?_
      rintro e w1 ⟨rfl, rfl⟩
      go_wp2_with fail
      refine (HRf.out _).mono ?_
      rintro e wz ⟨rfl, rfl⟩
      go_wp2_with fail
      go_ret
      exact ⟨rfl, Below.refl _ _⟩
end Go.Proofs.YtjbojoeafdkkeaaGreatDoor

namespace Go.Proofs.YtjbojoeafdkkeaaGreatDoor
open Go Go.RowKit Go.Lib

abbrev Hx (w : World) (Y : Nat) (dv vf lf ver bY priv : Int) (W' : World) : Prop := Below w.heap.size w W' ∧ W'.cell? ⟨Y, 7, none⟩ = some (.int .i64 dv) ∧ W'.cell? ⟨Y, 8, none⟩ = some (.int .i64 vf) ∧ W'.cell? ⟨Y, 9, none⟩ = some (.int .i64 lf) ∧ W'.cell? ⟨Y, 42, none⟩ = some (.int .i64 ver) ∧ W'.cell? ⟨Y, 43, none⟩ = some (.int .i64 bY) ∧ W'.cell? ⟨Y, 44, none⟩ = some (.int .i64 priv)
theorem hx_step {w W W2 : World} {Y : Nat} {dv vf lf ver bY priv : Int} (h : Hx w Y dv vf lf ver bY priv W) (hb : Below W.heap.size W W2) : Hx w Y dv vf lf ver bY priv W2 :=
  ⟨below_step h.1 hb (Nat.le_refl _), (hb.cell (p := ⟨Y, 7, none⟩) (cell_lt h.2.1)).trans h.2.1, (hb.cell (p := ⟨Y, 8, none⟩) (cell_lt h.2.1)).trans h.2.2.1, (hb.cell (p := ⟨Y, 9, none⟩) (cell_lt h.2.1)).trans h.2.2.2.1, (hb.cell (p := ⟨Y, 42, none⟩) (cell_lt h.2.1)).trans h.2.2.2.2.1, (hb.cell (p := ⟨Y, 43, none⟩) (cell_lt h.2.1)).trans h.2.2.2.2.2.1, (hb.cell (p := ⟨Y, 44, none⟩) (cell_lt h.2.1)).trans h.2.2.2.2.2.2⟩
theorem hx_alloc {w W : World} {Y : Nat} {dv vf lf ver bY priv : Int} (h : Hx w Y dv vf lf ver bY priv W) (o : Obj) : Hx w Y dv vf lf ver bY priv (W.alloc o) := hx_step h ((Below.refl _ _).alloc (Nat.le_refl _) o)
theorem hx_drew {w W : World} {Y : Nat} {dv vf lf ver bY priv : Int} (h : Hx w Y dv vf lf ver bY priv W) : Hx w Y dv vf lf ver bY priv W.drew := ⟨below_drewN h.1 1, h.2⟩
theorem hx_set {w W : World} {Y : Nat} {dv vf lf ver bY priv : Int} (h : Hx w Y dv vf lf ver bY priv W) (a : Addr) (ha : w.heap.size ≤ a.block) (hY : Y < w.heap.size) (v : Value) : Hx w Y dv vf lf ver bY priv (W.setCell a v) := by
  have q : ∀ i, (W.setCell a v).cell? ⟨Y, i, none⟩ = W.cell? ⟨Y, i, none⟩ := fun i => World.cell?_setCell_other _ _ _ _ (by intro e; subst e; simp at ha; omega)
  exact ⟨Below.setCell h.1 ha v, (q 7).trans h.2.1, (q 8).trans h.2.2.1, (q 9).trans h.2.2.2.1, (q 42).trans h.2.2.2.2.1, (q 43).trans h.2.2.2.2.2.1, (q 44).trans h.2.2.2.2.2.2⟩
theorem hx_set8 {w W : World} {Y : Nat} {dv vf lf ver bY priv : Int} (h : Hx w Y dv vf lf ver bY priv W) (hY : Y < w.heap.size) (T : Nat) (hT : w.heap.size ≤ T) (c0 c1 c2 c3 c4 c5 c6 c7 : Value) :
    Hx w Y dv vf lf ver bY priv ((((((((W.setCell ⟨T, 0, none⟩ c0).setCell ⟨T, 1, none⟩ c1).setCell ⟨T, 2, none⟩ c2).setCell ⟨T, 3, none⟩ c3).setCell ⟨T, 4, none⟩ c4).setCell ⟨T, 5, none⟩ c5).setCell ⟨T, 6, none⟩ c6).setCell ⟨T, 7, none⟩ c7) :=
  hx_set (hx_set (hx_set (hx_set (hx_set (hx_set (hx_set (hx_set h _ hT hY _) _ hT hY _) _ hT hY _) _ hT hY _) _ hT hY _) _ hT hY _) _ hT hY _) _ hT hY _
theorem blk_set8 {W : World} {T : Nat} {l : List Int} (h : Blk W T .i64 l) (hl : l.length = 8) (c0 c1 c2 c3 c4 c5 c6 c7 : Int) :
    Blk ((((((((W.setCell ⟨T, 0, none⟩ (.int .i64 c0)).setCell ⟨T, 1, none⟩ (.int .i64 c1)).setCell ⟨T, 2, none⟩ (.int .i64 c2)).setCell ⟨T, 3, none⟩ (.int .i64 c3)).setCell ⟨T, 4, none⟩ (.int .i64 c4)).setCell ⟨T, 5, none⟩ (.int .i64 c5)).setCell ⟨T, 6, none⟩ (.int .i64 c6)).setCell ⟨T, 7, none⟩ (.int .i64 c7)) T .i64 [c0, c1, c2, c3, c4, c5, c6, c7] := by
  have h2 := (((((((h.setCell 0 c0).setCell 1 c1).setCell 2 c2).setCell 3 c3).setCell 4 c4).setCell 5 c5).setCell 6 c6).setCell 7 c7
  match l, hl with
  | [_, _, _, _, _, _, _, _], _ => exact h2
theorem eight_new {W wq : World} (hb : Below (W.alloc (cC 0 0 0 0 0 0 0 0)).heap.size (W.alloc (cC 0 0 0 0 0 0 0 0)) wq) : Blk wq W.heap.size .i64 [0, 0, 0, 0, 0, 0, 0, 0] :=
  (blk_new W .i64 [0, 0, 0, 0, 0, 0, 0, 0] 44).below hb (by simp)
theorem certF_form (k d v l n b x : Int) : ∃ c0 c1 c2 c3 c4 c5 c6 c7 ec, certF k d v l n b x = (certV c0 c1 c2 c3 c4 c5 c6 c7, ec) := by
  unfold certF zeroC
  split
  · split
    · exact ⟨_, _, _, _, _, _, _, _, _, rfl⟩
    · exact ⟨_, _, _, _, _, _, _, _, _, rfl⟩
  · exact ⟨_, _, _, _, _, _, _, _, _, rfl⟩

attribute [local irreducible] World.setCell World.alloc
set_option maxHeartbeats 16000000 in
set_option maxRecDepth 100000 in
theorem xcert_c (Y : Nat) (w : World) (dv vf lf ver bY priv c0 c1 c2 c3 c4 c5 c6 c7 ec : Int) (hx : Hx w Y dv vf lf ver bY priv w) (hL : Laid w) (hr : ∀ x ∈ [2, dv, vf, lf, ver, bY], -9223372036854775808 ≤ x ∧ x ≤ 9223372036854775807)
    (hc : certF 2 dv vf lf ver bY priv = (certV c0 c1 c2 c3 c4 c5 c6 c7, ec)) (pre : List Value) (old : List Int) (hrow : Row w Y (pre ++ (old.map (.int .i64) ++ []))) (hpre : pre.length = 45) (hold : old.length = 8) :
    Calls Tryz.prog 57 #[.pointer (some ⟨Y, 0, none⟩)] w fun ev w' => ev = .returned (refV ec) ∧ Row w' Y (pre ++ ([c0, c1, c2, c3, c4, c5, c6, c7].map (.int .i64) ++ [])) ∧ w.grownBy w' (some Y) := by
  have HC := Bx.mk (fun W (hW : Hx w Y dv vf lf ver bY priv W) => certify_c 2 dv vf lf ver bY priv W (hL.below hW.1 (Nat.le_refl _)) hr)
  rw [hc] at HC
  unfold certV at HC
  dsimp only at HC
  have HRf := Bx.mk (fun w => refuse_c ec w)
  have hY := cell_lt hx.2.1
  have HX := Bx.mk hx
  have HRow := Bx.mk hrow
  have HY := Bx.mk hY
  have HPR := Bx.mk hpre; have HOL := Bx.mk hold
  clear hc hL hr hrow hpre hold
  go_enter Tryz.func57, Tryz.ntmps57
  go_wp2_with fail
  refine cut_piece (fun a' W' => ∃ T, a' = { tmps := #[.pointer (some ⟨Y, 0, none⟩), undef, .nilIface, .pointer (some ⟨T, 0, none⟩), .int .i64 ec, .tuple #[.agg #[.int .i64 c0, .int .i64 c1, .int .i64 c2, .int .i64 c3, .int .i64 c4, .int .i64 c5, .int .i64 c6, .int .i64 c7], .int .i64 ec], .pointer (some ⟨Y, 0, none⟩), .pointer (some ⟨Y, 0, none⟩), .pointer (some ⟨Y, 6, none⟩), .pointer (some ⟨Y, 7, none⟩), .int .i64 dv, .pointer (some ⟨Y, 0, none⟩), .pointer (some ⟨Y, 0, none⟩), .pointer (some ⟨Y, 6, none⟩), .pointer (some ⟨Y, 8, none⟩), .int .i64 vf, .pointer (some ⟨Y, 0, none⟩), .pointer (some ⟨Y, 0, none⟩), .pointer (some ⟨Y, 6, none⟩), .pointer (some ⟨Y, 9, none⟩), .int .i64 lf, .pointer (some ⟨Y, 0, none⟩), .pointer (some ⟨Y, 0, none⟩), .pointer (some ⟨Y, 42, none⟩), .int .i64 ver, .pointer (some ⟨Y, 0, none⟩), .pointer (some ⟨Y, 0, none⟩), .pointer (some ⟨Y, 43, none⟩), .int .i64 bY, .pointer (some ⟨Y, 0, none⟩), .pointer (some ⟨Y, 0, none⟩), .pointer (some ⟨Y, 44, none⟩), .int .i64 priv, .tuple #[.agg #[.int .i64 c0, .int .i64 c1, .int .i64 c2, .int .i64 c3, .int .i64 c4, .int .i64 c5, .int .i64 c6, .int .i64 c7], .int .i64 ec], .agg #[.int .i64 c0, .int .i64 c1, .int .i64 c2, .int .i64 c3, .int .i64 c4, .int .i64 c5, .int .i64 c6, .int .i64 c7], .int .i64 ec, undef, undef, undef, undef, undef, undef], defers := [] } ∧ Below w.heap.size w W' ∧ w.heap.size ≤ T ∧ Blk W' T .i64 [c0, c1, c2, c3, c4, c5, c6, c7]) ?_ ?_
  · obtain ⟨k0, k1, k2, k3, k4, k5, k6⟩ := id hx
    have hrefl := Nat.le_refl w.heap.size
    go_region_held3 (fun W' => Below w.heap.size w W' ∧ W'.cell? ⟨Y, 7, none⟩ = some (.int .i64 dv) ∧ W'.cell? ⟨Y, 8, none⟩ = some (.int .i64 vf) ∧ W'.cell? ⟨Y, 9, none⟩ = some (.int .i64 lf) ∧ W'.cell? ⟨Y, 42, none⟩ = some (.int .i64 ver) ∧ W'.cell? ⟨Y, 43, none⟩ = some (.int .i64 bY) ∧ W'.cell? ⟨Y, 44, none⟩ = some (.int .i64 priv)) (first | assumption | (refine hx_drew ?_; assumption) | (refine hx_alloc ?_ _; assumption) | (refine hx_drew (hx_alloc ?_ _); assumption) | (refine hx_set8 ?_ HY.out _ ?_ _ _ _ _ _ _ _ _ <;> assumption) | (refine hx_set8 (hx_alloc ?_ _) HY.out _ ?_ _ _ _ _ _ _ _ _ <;> assumption))
      (first
        | (go_at_call 26; refine (HC.out _ (by assumption)).mono ?_; rintro e wq ⟨rfl, hbq⟩; have hkq := hx_step (w := w) (Y := Y) (dv := dv) (vf := vf) (lf := lf) (ver := ver) (bY := bY) (priv := priv) (by assumption) hbq; have hltq := hkq.1.size; (first | (have hz : Blk wq w.heap.size .i64 [0, 0, 0, 0, 0, 0, 0, 0] := (by first | exact eight_new (W := w) (below_undrew hbq) | exact eight_new (W := w.drew) hbq | exact eight_new (W := w) hbq); have z0 : wq.cell? ⟨w.heap.size, 0, none⟩ = some (.int .i64 0) := (hz 0 (by decide)).1; have z1 : wq.cell? ⟨w.heap.size, 1, none⟩ = some (.int .i64 0) := (hz 1 (by decide)).1; have z2 : wq.cell? ⟨w.heap.size, 2, none⟩ = some (.int .i64 0) := (hz 2 (by decide)).1; have z3 : wq.cell? ⟨w.heap.size, 3, none⟩ = some (.int .i64 0) := (hz 3 (by decide)).1; have z4 : wq.cell? ⟨w.heap.size, 4, none⟩ = some (.int .i64 0) := (hz 4 (by decide)).1; have z5 : wq.cell? ⟨w.heap.size, 5, none⟩ = some (.int .i64 0) := (hz 5 (by decide)).1; have z6 : wq.cell? ⟨w.heap.size, 6, none⟩ = some (.int .i64 0) := (hz 6 (by decide)).1; have z7 : wq.cell? ⟨w.heap.size, 7, none⟩ = some (.int .i64 0) := (hz 7 (by decide)).1; have f0 : wq.frozen? ⟨w.heap.size, 0, none⟩ = false := (hz 0 (by decide)).2; have f1 : wq.frozen? ⟨w.heap.size, 1, none⟩ = false := (hz 1 (by decide)).2; have f2 : wq.frozen? ⟨w.heap.size, 2, none⟩ = false := (hz 2 (by decide)).2; have f3 : wq.frozen? ⟨w.heap.size, 3, none⟩ = false := (hz 3 (by decide)).2; have f4 : wq.frozen? ⟨w.heap.size, 4, none⟩ = false := (hz 4 (by decide)).2; have f5 : wq.frozen? ⟨w.heap.size, 5, none⟩ = false := (hz 5 (by decide)).2; have f6 : wq.frozen? ⟨w.heap.size, 6, none⟩ = false := (hz 6 (by decide)).2; have f7 : wq.frozen? ⟨w.heap.size, 7, none⟩ = false := (hz 7 (by decide)).2; have HZ := Bx.mk hz) | skip); obtain ⟨j0, j1, j2, j3, j4, j5, j6⟩ := id hkq; clear hbq))
    all_goals refine ⟨rfl, _, rfl, ?_, ?_, ?_⟩
    all_goals first
      | (exact (show Hx w Y dv vf lf ver bY priv _ by assumption).1)
      | (exact Nat.le_refl _)
      | (exact hltq)
      | (exact blk_set8 HZ.out rfl _ _ _ _ _ _ _ _)
      | (exact blk_new _ .i64 [c0, c1, c2, c3, c4, c5, c6, c7] 44)
      | (exact blk_set8 (blk_new _ .i64 [0, 0, 0, 0, 0, 0, 0, 0] 44) rfl _ _ _ _ _ _ _ _)
  · rintro a' W' ⟨T, rfl, hb, hT, hblk⟩
    (try dsimp only)
    have R1 := Bx.mk (HRow.out.below hb HY.out)
    have B1 := Bx.mk hb
    have K1 := Bx.mk hblk
    have hone := one_ints .i64 [c0, c1, c2, c3, c4, c5, c6, c7]
    have hTY : T ≠ Y := by have := HY.out; omega
    have HTY := Bx.mk hTY
    obtain ⟨e1, e2⟩ := R1.out.store (xs := [c0, c1, c2, c3, c4, c5, c6, c7].map (.int .i64)) (by rw [List.length_map, HOL.out]; rfl)
    rw [HPR.out] at e1 e2
    have E1 := Bx.mk e1
    have G2 : Bx (w.grownBy (W'.setCells Y 45 ([c0, c1, c2, c3, c4, c5, c6, c7].map (.int .i64))) (some Y)) := .mk (grown_trans (r1 := some Y) ⟨hb.os, hb.tape, hb.output, hb.size, fun q hq _ => hb.block q hq⟩ e2 (.inl rfl))
    have TH := Bx.mk (R1.out.there 45 8 (by rw [List.length_append, List.length_append, HPR.out, List.length_map, HOL.out]; decide))
    clear hb hblk hone hTY e1 e2 hx HX hY HC hT
    go_wp2_with (first | (refine wpList_ldN rowT_cert rfl (.tmp 3) rfl T 0 rfl ([c0, c1, c2, c3, c4, c5, c6, c7].map (.int .i64)) (range_of_blk K1.out) rfl (.agg #[.int .i64 c0, .int .i64 c1, .int .i64 c2, .int .i64 c3, .int .i64 c4, .int .i64 c5, .int .i64 c6, .int .i64 c7]) rfl ?_) | (refine wpList_stN rowT_cert rfl (.tmp 39) (.tmp 37) rfl Y 45 rfl ([c0, c1, c2, c3, c4, c5, c6, c7].map (.int .i64)) rfl (one_ints .i64 _) rfl TH.out ?_))
    refine (HRf.out _).mono ?_
    rintro e w2 ⟨rfl, rfl⟩
    go_wp2_with fail
    go_ret
    exact ⟨rfl, E1.out, G2.out⟩
end Go.Proofs.YtjbojoeafdkkeaaGreatDoor

namespace Go.Proofs.YtjbojoeafdkkeaaGreatDoor
open Go Go.RowKit Go.Lib

abbrev Hp (w : World) (Y : Nat) (r code x pt : Int) (W' : World) : Prop := Below w.heap.size w W' ∧ W'.cell? ⟨Y, 0, none⟩ = some (.int .i64 r) ∧ W'.cell? ⟨Y, 1, none⟩ = some (.int .i64 code) ∧ W'.cell? ⟨Y, 2, none⟩ = some (.int .i64 x) ∧ W'.cell? ⟨Y, 6, none⟩ = some (.int .i64 pt)
theorem hp_step {w W W2 : World} {Y : Nat} {r code x pt : Int} (h : Hp w Y r code x pt W) (hb : Below W.heap.size W W2) : Hp w Y r code x pt W2 :=
  ⟨below_step h.1 hb (Nat.le_refl _), (hb.cell (p := ⟨Y, 0, none⟩) (cell_lt h.2.1)).trans h.2.1, (hb.cell (p := ⟨Y, 1, none⟩) (cell_lt h.2.1)).trans h.2.2.1, (hb.cell (p := ⟨Y, 2, none⟩) (cell_lt h.2.1)).trans h.2.2.2.1, (hb.cell (p := ⟨Y, 6, none⟩) (cell_lt h.2.1)).trans h.2.2.2.2⟩
theorem hp_alloc {w W : World} {Y : Nat} {r code x pt : Int} (h : Hp w Y r code x pt W) (o : Obj) : Hp w Y r code x pt (W.alloc o) := hp_step h ((Below.refl _ _).alloc (Nat.le_refl _) o)
theorem hp_drew {w W : World} {Y : Nat} {r code x pt : Int} (h : Hp w Y r code x pt W) : Hp w Y r code x pt W.drew := ⟨below_drewN h.1 1, h.2⟩
theorem hp_setCells {w W : World} {Y : Nat} {r code x pt : Int} (h : Hp w Y r code x pt W) (hY : Y < w.heap.size) (T o : Nat) (hT : w.heap.size ≤ T) (cs : List Value) : Hp w Y r code x pt (W.setCells T o cs) := by
  have hg := grown_setCells (w := W) T cs o (grown_refl W (some T))
  have q : ∀ i v, W.cell? ⟨Y, i, none⟩ = some v → (W.setCells T o cs).cell? ⟨Y, i, none⟩ = some v := fun i v hv => hg.cell hv (fun e => by have e2 : Y = T := Option.some.inj e; omega)
  exact ⟨Below.grown h.1 hg h.1.size (by intro k hk; cases hk; exact hT), q 0 _ h.2.1, q 1 _ h.2.2.1, q 2 _ h.2.2.2.1, q 6 _ h.2.2.2.2⟩
theorem key_new {W wq : World} (hb : Below (W.alloc keyO).heap.size (W.alloc keyO) wq) : Blk wq W.heap.size .u8 z32 := (blk_new W .u8 z32 54).below hb (by simp)

set_option maxHeartbeats 16000000 in
set_option maxRecDepth 100000 in
theorem xproved_bad (Y : Nat) (w : World) (r code x pt : Int) (hx : Hp w Y r code x pt w) (hL : Laid w) (ip : i64R pt) (hb : ¬ (sideOK r code x = true ∧ elt pt = true)) :
    Calls Tryz.prog 58 #[.pointer (some ⟨Y, 0, none⟩)] w fun ev w' => ev = .returned (errV 100 false) ∧ Below w.heap.size w w' := by
  have hc := fun W (hW : Hp w Y r code x pt W) => pshared_c r code x pt W (hL.below hW.1 (Nat.le_refl _)) ip.1 ip.2
  rw [show sharedV r code x pt = (z32, 100) from if_neg hb] at hc
  dsimp only at hc
  obtain ⟨kn, hkn⟩ : ∃ p, p = z32 := ⟨_, rfl⟩
  rw [← hkn] at hc
  have HKL := Bx.mk (show kn.length = 32 by rw [hkn]; rfl)
  have HC := Bx.mk hc
  obtain ⟨ec, hec⟩ : ∃ e : Int, e = 100 := ⟨_, rfl⟩
  rw [← hec] at HC
  have HEC := Bx.mk hec
  have HRf := Bx.mk (fun w => refuse_c 100 w)
  have HX := Bx.mk hx
  have HY := Bx.mk (cell_lt hx.2.1)
  have hone := one_ints .u8 kn
  have hsz : (Tryz.prog.info? 54).map (·.size) = some (kn.map (Value.int .u8)).toArray.size := by rw [List.size_toArray, List.length_map, HKL.out]; exact rowT_key.size
  have hsl : (kn.map (Value.int .u8)).toArray.size = 32 := by rw [List.size_toArray, List.length_map, HKL.out]
  have HSL := Bx.mk hsl
  clear hc hkn hec hL ip hb hsl
  go_enter Tryz.func58, Tryz.ntmps58
  go_wp2_with fail
  refine cut_piece (fun a' W' => ∃ T, a' = { tmps := #[.pointer (some ⟨Y, 0, none⟩), undef, .nilIface, .pointer (some ⟨T, 0, none⟩), .int .i64 ec, .tuple #[dv kn, .int .i64 ec], .pointer (some ⟨Y, 0, none⟩), .pointer (some ⟨Y, 0, none⟩), .pointer (some ⟨Y, 0, none⟩), .pointer (some ⟨Y, 0, none⟩), .agg #[.int .i64 r, .int .i64 code, .int .i64 x], .pointer (some ⟨Y, 0, none⟩), .pointer (some ⟨Y, 0, none⟩), .pointer (some ⟨Y, 6, none⟩), .pointer (some ⟨Y, 6, none⟩), .int .i64 pt, .tuple #[dv kn, .int .i64 ec], dv kn, .int .i64 ec, undef, undef, undef, undef, undef, undef, undef, undef, undef, undef, undef, undef, undef, undef, undef, undef, undef, undef, undef, undef, undef], defers := [] } ∧ Below w.heap.size w W' ∧ w.heap.size ≤ T ∧ Blk W' T .u8 kn) ?_ ?_
  · obtain ⟨k0, k1, k2, k3, k4⟩ := id hx
    have hrefl := Nat.le_refl w.heap.size
    go_region_held3 (fun W' => Below w.heap.size w W' ∧ W'.cell? ⟨Y, 0, none⟩ = some (.int .i64 r) ∧ W'.cell? ⟨Y, 1, none⟩ = some (.int .i64 code) ∧ W'.cell? ⟨Y, 2, none⟩ = some (.int .i64 x) ∧ W'.cell? ⟨Y, 6, none⟩ = some (.int .i64 pt)) (first | assumption | (refine hp_drew ?_; assumption) | (refine hp_alloc ?_ _; assumption) | (refine hp_drew (hp_alloc ?_ _); assumption) | (refine hp_setCells ?_ HY.out _ _ ?_ _ <;> assumption) | (refine hp_setCells (hp_alloc ?_ _) HY.out _ _ ?_ _ <;> assumption))
      (first
        | (go_at_call 27; refine (HC.out _ (by assumption)).mono ?_; rintro e wq ⟨rfl, hbq⟩; have hkq := hp_step (w := w) (Y := Y) (r := r) (code := code) (x := x) (pt := pt) (by assumption) hbq; have hltq := hkq.1.size; (first | (have hz : Blk wq w.heap.size .u8 z32 := (by first | exact key_new (W := w) (below_undrew hbq) | exact key_new (W := w.drew) hbq); have hth : wq.there w.heap.size 0 (kn.map (Value.int .u8)).toArray.size := (by rw [HSL.out]; exact there_of_blk hz); have HZ := Bx.mk hz) | (have hz2 := blk_new wq .u8 z32 54; have hth : (wq.alloc keyO).there wq.heap.size 0 (kn.map (Value.int .u8)).toArray.size := (by rw [HSL.out]; exact there_of_blk hz2); unfold keyO at hth; have HZ := Bx.mk hz2)); obtain ⟨j0, j1, j2, j3, j4⟩ := id hkq; clear hbq))
    all_goals refine ⟨rfl, _, rfl, ?_, ?_, ?_⟩
    all_goals first
      | (exact (show Hp w Y r code x pt _ by assumption).1)
      | (exact Nat.le_refl _)
      | (exact hltq)
      | (exact (blk_store HZ.out HKL.out).1)
  · rintro a' W' ⟨T, rfl, hb, hT, hblk⟩
    (try dsimp only)
    have B1 := Bx.mk hb
    have e : ec = 100 := HEC.out
    subst e
    clear hb hblk hx HX HC HEC hone hsz
    go_wp2_with fail
    refine (HRf.out _).mono ?_
    rintro e w2 ⟨rfl, rfl⟩
    go_wp2_with fail
    go_ret
    exact ⟨rfl, B1.out⟩
end Go.Proofs.YtjbojoeafdkkeaaGreatDoor

namespace Go.Proofs.YtjbojoeafdkkeaaGreatDoor
open Go Go.RowKit Go.Lib

abbrev Hq (w : World) (Y T : Nat) (pt dv vf lf : Int) (pk kn : List Int) (W' : World) : Prop := Below w.heap.size w W' ∧ W'.rangeAt Y 10 (pk.map (.int .u8)) ∧ W'.rangeAt Y 6 (reqL pt dv vf lf pk) ∧ Blk W' T .u8 kn
theorem range_below {W W2 : World} {Y o N : Nat} {cs : List Value} (h : W.rangeAt Y o cs) (hb : Below N W W2) (hY : Y < N) : W2.rangeAt Y o cs := fun j v hj => (hb.cell (p := ⟨Y, o + j, none⟩) hY).trans (h j v hj)
theorem hq_step {w W W2 : World} {Y T : Nat} {pt dv vf lf : Int} {pk kn : List Int} (h : Hq w Y T pt dv vf lf pk kn W) (hk : kn.length = 32) (hY : Y < w.heap.size) (hb : Below W.heap.size W W2) : Hq w Y T pt dv vf lf pk kn W2 :=
  ⟨below_step h.1 hb (Nat.le_refl _), range_below h.2.1 hb (Nat.lt_of_lt_of_le hY h.1.size), range_below h.2.2.1 hb (Nat.lt_of_lt_of_le hY h.1.size), h.2.2.2.below hb (h.2.2.2.lt (by rw [hk]; decide))⟩
theorem hq_alloc {w W : World} {Y T : Nat} {pt dv vf lf : Int} {pk kn : List Int} (h : Hq w Y T pt dv vf lf pk kn W) (hk : kn.length = 32) (hY : Y < w.heap.size) (o : Obj) : Hq w Y T pt dv vf lf pk kn (W.alloc o) := hq_step h hk hY ((Below.refl _ _).alloc (Nat.le_refl _) o)
theorem hq_drew {w W : World} {Y T : Nat} {pt dv vf lf : Int} {pk kn : List Int} (h : Hq w Y T pt dv vf lf pk kn W) : Hq w Y T pt dv vf lf pk kn W.drew := ⟨below_drewN h.1 1, h.2⟩
theorem eq_dig (xs ys : List Int) (hx : xs.length = 32) (hy : ys.length = 32) (w : World) : (Op.equalIn 10000 35 (.agg (xs.map (.int .u8)).toArray) (dv ys)).run Tryz.prog w = .ok (decide (xs = ys)) w := by
  have hi : (Tryz.prog.info? 5).isSome = true := by kernel_rfl
  obtain ⟨i, hi⟩ := Option.isSome_iff_exists.1 hi
  exact run_eq_arr 9998 35 5 .u8 32 i (by kernel_rfl) hi (by kernel_rfl) (by kernel_rfl) xs ys hx hy w

attribute [local irreducible] World.setCell World.setCells World.alloc wpAnyH
set_option maxHeartbeats 16000000 in
set_option maxRecDepth 100000 in
theorem xproved_ok (Y : Nat) (w : World) (r code x pt dv_ vf lf : Int) (pk : List Int) (hpk : pk.length = 32) (hx : Hp w Y r code x pt w) (hq6 : w.rangeAt Y 6 (reqL pt dv_ vf lf pk)) (hL : Laid w) (hb : sideOK r code x = true) (hp : elt pt = true) (hr : ∀ z ∈ [dv_, vf, lf], -9223372036854775808 ≤ z ∧ z ≤ 9223372036854775807) :
    Calls Tryz.prog 58 #[.pointer (some ⟨Y, 0, none⟩)] w fun ev w' => ev = .returned (if pk = rqN (prfN (keyN r code x pt) 2) dv_ vf lf then .nilIface else errV 380 true) ∧ Below w.heap.size w w' := by
  have hc := fun W (hW : Hp w Y r code x pt W) => pshared_ok r code x pt W (hL.below hW.1 (Nat.le_refl _)) hb hp
  have hKL := keyN_len r code x pt
  obtain ⟨kn, hkn⟩ : ∃ p, p = keyN r code x pt := ⟨_, rfl⟩
  rw [← hkn] at hc hKL ⊢
  have HKL := Bx.mk hKL
  have HC := Bx.mk hc
  have hpl := prfN_len kn 2
  have HT0 := Bx.mk (show tagged tProof (kn ++ [2]) = prfN kn 2 from rfl)
  obtain ⟨pn, hpn⟩ : ∃ p, p = prfN kn 2 := ⟨_, rfl⟩
  rw [← hpn] at hpl HT0 ⊢
  have HPf := Bx.mk (fun W (hW : Laid W) => eproof_c pn hpl pt dv_ vf lf pk hpk W hW hr)
  have hrl : (rqN pn dv_ vf lf).length = 32 := by unfold rqN; exact tagged_len _ _
  obtain ⟨rq, hrq⟩ : ∃ p, p = rqN pn dv_ vf lf := ⟨_, rfl⟩
  rw [← hrq] at hrl HPf ⊢
  have heq := fun W => eq_dig pk rq hpk hrl W
  have HLD : Bx (∀ W, Below w.heap.size w W → Laid W) := .mk fun W h => hL.below h (Nat.le_refl _)
  unfold reqV at HPf
  have HX := Bx.mk hx
  have HY := Bx.mk (cell_lt hx.2.1)
  have HQ6 := Bx.mk hq6
  have hq10 : w.rangeAt Y 10 (pk.map (.int .u8)) := fun j v hj => by
    have := hq6 (4 + j) v (by unfold reqL; rw [List.getElem?_append_right (by simp), show 4 + j - ([Value.int .i64 pt, .int .i64 dv_, .int .i64 vf, .int .i64 lf] : List Value).length = j by simp]; exact hj)
    rw [← Nat.add_assoc] at this
    exact this
  have HQ10 := Bx.mk hq10
  have HPK := Bx.mk hpk
  have hone := one_ints .u8 kn
  have hsz : (Tryz.prog.info? 54).map (·.size) = some (kn.map (Value.int .u8)).toArray.size := by rw [List.size_toArray, List.length_map, HKL.out]; exact rowT_key.size
  have hsl : (kn.map (Value.int .u8)).toArray.size = 32 := by rw [List.size_toArray, List.length_map, HKL.out]
  have HSL := Bx.mk hsl
  clear hc hkn hL hb hp hsl hKL hpl hpn hrl hrq hq6 hq10 hpk hr
  obtain ⟨b, hbq⟩ : ∃ b, b = decide (pk = rq) := ⟨_, rfl⟩
  rw [← hbq] at heq
  obtain ⟨res, hres⟩ : ∃ v : Value, v = if pk = rq then .nilIface else errV 380 true := ⟨_, rfl⟩
  rw [← hres]
  have HB := Bx.mk hbq; have HRS := Bx.mk hres
  clear hbq hres
  have HEQ := Bx.mk heq
  clear heq
  go_enter Tryz.func58, Tryz.ntmps58
  go_wp2_with fail
  refine cut_piece (fun a' W' => ∃ T, a' = { tmps := #[.pointer (some ⟨Y, 0, none⟩), undef, .nilIface, .pointer (some ⟨T, 0, none⟩), .int .i64 0, .tuple #[dv kn, .int .i64 0], .pointer (some ⟨Y, 0, none⟩), .pointer (some ⟨Y, 0, none⟩), .pointer (some ⟨Y, 0, none⟩), .pointer (some ⟨Y, 0, none⟩), .agg #[.int .i64 r, .int .i64 code, .int .i64 x], .pointer (some ⟨Y, 0, none⟩), .pointer (some ⟨Y, 0, none⟩), .pointer (some ⟨Y, 6, none⟩), .pointer (some ⟨Y, 6, none⟩), .int .i64 pt, .tuple #[dv kn, .int .i64 0], dv kn, .int .i64 0, undef, undef, undef, undef, undef, undef, undef, undef, undef, undef, undef, undef, undef, undef, undef, undef, undef, undef, undef, undef, undef], defers := [] } ∧ Below w.heap.size w W' ∧ w.heap.size ≤ T ∧ Blk W' T .u8 kn) ?_ ?_
  · obtain ⟨k0, k1, k2, k3, k4⟩ := id hx
    have hrefl := Nat.le_refl w.heap.size
    go_region_held3 (fun W' => Below w.heap.size w W' ∧ W'.cell? ⟨Y, 0, none⟩ = some (.int .i64 r) ∧ W'.cell? ⟨Y, 1, none⟩ = some (.int .i64 code) ∧ W'.cell? ⟨Y, 2, none⟩ = some (.int .i64 x) ∧ W'.cell? ⟨Y, 6, none⟩ = some (.int .i64 pt)) (first | assumption | (refine hp_drew ?_; assumption) | (refine hp_alloc ?_ _; assumption) | (refine hp_drew (hp_alloc ?_ _); assumption) | (refine hp_setCells ?_ HY.out _ _ ?_ _ <;> assumption) | (refine hp_setCells (hp_alloc ?_ _) HY.out _ _ ?_ _ <;> assumption))
      (first
        | (go_at_call 27; refine (HC.out _ (by assumption)).mono ?_; rintro e wq ⟨rfl, hbq⟩; have hkq := hp_step (w := w) (Y := Y) (r := r) (code := code) (x := x) (pt := pt) (by assumption) hbq; have hltq := hkq.1.size; (first | (have hz : Blk wq w.heap.size .u8 z32 := (by first | exact key_new (W := w) (below_undrew hbq) | exact key_new (W := w.drew) hbq); have hth : wq.there w.heap.size 0 (kn.map (Value.int .u8)).toArray.size := (by rw [HSL.out]; exact there_of_blk hz); have HZ := Bx.mk hz) | (have hz2 := blk_new wq .u8 z32 54; have hth : (wq.alloc keyO).there wq.heap.size 0 (kn.map (Value.int .u8)).toArray.size := (by rw [HSL.out]; exact there_of_blk hz2); unfold keyO at hth; have HZ := Bx.mk hz2)); obtain ⟨j0, j1, j2, j3, j4⟩ := id hkq; clear hbq))
    all_goals refine ⟨rfl, _, rfl, ?_, ?_, ?_⟩
    all_goals first
      | (exact (show Hp w Y r code x pt _ by assumption).1)
      | (exact Nat.le_refl _)
      | (exact hltq)
      | (exact (blk_store HZ.out HKL.out).1)
  · rintro a' wr ⟨T, rfl, hb, hT, hblk⟩
    (try dsimp only)
    have hTl := hblk.lt (by rw [HKL.out]; decide)
    have hk4 : Hq w Y T pt dv_ vf lf pk kn wr := ⟨hb, range_below HQ10.out hb HY.out, range_below HQ6.out hb HY.out, hblk⟩
    have HKC := Bx.mk (news_of_u8 (show U8 (wr.alloc (.cells #[.int .u8 2] 5)) T 0 kn from fun i hi => by rw [Nat.zero_add]; exact ((hblk.alloc hTl _) i hi).1))
    have HN := Bx.mk (one_new wr 5 2)
    have HH2 := Bx.mk (hq_alloc hk4 HKL.out HY.out (.cells #[.int .u8 2] 5))
    have hsk := slice_key T
    have hu35 := Tryz.underlying35
    have hs35 : (Tryz.prog.info? 35).map (·.size) = some (pk.map (Value.int .u8)).length := by rw [List.length_map, HPK.out]; exact rowT_dig.size
    have hld : ∀ W : World, W.rangeAt Y 6 (reqL pt dv_ vf lf pk) → (Instr.loadAt 37 (.pointer (some ⟨Y, 6, none⟩))).run Tryz.prog W = .ok (.agg (reqL pt dv_ vf lf pk).toArray) W := fun W hW => by
      obtain ⟨d, hd1, hd2⟩ := rowT_req.row
      exact run_loadAt_mid (P := Tryz.prog) W Y 6 37 (reqL pt dv_ vf lf pk) d hW hd1 hd2 (by rw [reqL_len _ _ _ _ _ HPK.out]; exact rowT_req.size)
    have heq := HEQ.out
    clear hx HX HC hone hsz HQ6 HQ10 hb
    go_wp2_with fail
    obtain ⟨m0, m1, m2, m3⟩ := id hk4
    obtain ⟨ldd, ld1, ld2⟩ := rowT_dig.row
    have ld3 : (Tryz.prog.info? 35).map (·.size) = some (pk.map (Value.int .u8)).length := by rw [List.length_map, HPK.out]; exact rowT_dig.size
    obtain ⟨lrd, lr1, lr2⟩ := rowT_req.row
    have lr3 : (Tryz.prog.info? 37).map (·.size) = some (reqL pt dv_ vf lf pk).length := by rw [reqL_len _ _ _ _ _ HPK.out]; exact rowT_req.size
    refine wp_region_noPanic ?_
    refine wp_region_held_drew (S := fun W' => Hq w Y T pt dv_ vf lf pk kn W') (by kernel_rfl) (hq_drew hk4) (fun hS0 => ?_)
    refine wpAnyH_take (i := 0) (oi := _) (v := .pointer (some ⟨Y, 0, none⟩)) rfl (by kernel_rfl) (by kernel_rfl) (by kernel_rfl) (fun _ _ _ h => h) (Or.inl ⟨by rfl, by (intro wz hSz; go_simp)⟩) hS0 ?_
    simp only [Act.put, List.setIfInBounds_toArray, List.set_cons_zero, List.set_cons_succ]
    refine wpAnyH_take (i := 1) (oi := _) (v := .pointer (some ⟨Y, 0, none⟩)) rfl (by kernel_rfl) (by kernel_rfl) (by kernel_rfl) (fun _ _ _ h => h) (Or.inl ⟨by rfl, by (intro wz hSz; go_simp)⟩) hS0 ?_
    simp only [Act.put, List.setIfInBounds_toArray, List.set_cons_zero, List.set_cons_succ]
    refine wpAnyH_take (i := 2) (oi := _) (v := .pointer (some ⟨Y, 6, none⟩)) rfl (by kernel_rfl) (by kernel_rfl) (by kernel_rfl) (fun _ _ _ h => h) (Or.inl ⟨by rfl, by (intro wz hSz; go_simp)⟩) hS0 ?_
    simp only [Act.put, List.setIfInBounds_toArray, List.set_cons_zero, List.set_cons_succ]
    refine wpAnyH_take (i := 3) (oi := _) (v := .pointer (some ⟨Y, 10, none⟩)) rfl (by kernel_rfl) (by kernel_rfl) (by kernel_rfl) (fun _ _ _ h => h) (Or.inl ⟨by rfl, by (intro wz hSz; go_simp)⟩) hS0 ?_
    simp only [Act.put, List.setIfInBounds_toArray, List.set_cons_zero, List.set_cons_succ]
    refine wpAnyH_take (i := 4) (oi := _) (v := .agg (pk.map (.int .u8)).toArray) rfl (by kernel_rfl) (by kernel_rfl) (by kernel_rfl) (fun _ _ _ h => h) (yieldsIf_load_mid (by rfl) 35 _ rfl Y 10 rfl (pk.map (.int .u8)) ldd (fun _ h => h.2.1) ld1 ld2 ld3) hS0 ?_
    simp only [Act.put, List.setIfInBounds_toArray, List.set_cons_zero, List.set_cons_succ]
    refine wpAnyH_take (i := 5) (oi := _) (v := .slice (some ⟨T, 0, none⟩) 32 32) rfl (by kernel_rfl) (by kernel_rfl) (by kernel_rfl) (fun _ _ _ h => h) (Or.inl ⟨by rfl, by (intro wz hSz; go_simp)⟩) hS0 ?_
    simp only [Act.put, List.setIfInBounds_toArray, List.set_cons_zero, List.set_cons_succ]
    refine wpAnyH_take (i := 9) (oi := _) (v := .pointer (some ⟨Y, 0, none⟩)) rfl (by kernel_rfl) (by kernel_rfl) (by kernel_rfl) (fun _ _ _ h => h) (Or.inl ⟨by rfl, by (intro wz hSz; go_simp)⟩) hS0 ?_
    simp only [Act.put, List.setIfInBounds_toArray, List.set_cons_zero, List.set_cons_succ]
    refine wpAnyH_take (i := 10) (oi := _) (v := .pointer (some ⟨Y, 0, none⟩)) rfl (by kernel_rfl) (by kernel_rfl) (by kernel_rfl) (fun _ _ _ h => h) (Or.inl ⟨by rfl, by (intro wz hSz; go_simp)⟩) hS0 ?_
    simp only [Act.put, List.setIfInBounds_toArray, List.set_cons_zero, List.set_cons_succ]
    refine wpAnyH_take (i := 11) (oi := _) (v := .pointer (some ⟨Y, 6, none⟩)) rfl (by kernel_rfl) (by kernel_rfl) (by kernel_rfl) (fun _ _ _ h => h) (Or.inl ⟨by rfl, by (intro wz hSz; go_simp)⟩) hS0 ?_
    simp only [Act.put, List.setIfInBounds_toArray, List.set_cons_zero, List.set_cons_succ]
    refine wpAnyH_take (i := 12) (oi := _) (v := .agg (reqL pt dv_ vf lf pk).toArray) rfl ?f1 ?f2 ?f3 (fun _ _ _ h => h) ?hy hS0 ?rest
    case f1 => kernel_rfl
    case f2 => kernel_rfl
    case f3 => kernel_rfl
    case hy => exact (yieldsIf_load_mid (by rfl) 37 (.tmp 34) rfl Y 6 (by kernel_rfl) (reqL pt dv_ vf lf pk) lrd (fun _ h => h.2.2.1) lr1 lr2 lr3)
    case rest =>
      simp only [Act.put, List.setIfInBounds_toArray, List.set_cons_zero, List.set_cons_succ]
      refine wpAnyH_ready (rs := [6]) (by kernel_rfl) (by simp) ?_
      refine AllReadyH.cons (o := _) rfl (fun K hK => ?_) AllReadyH.nil
      go_simp
      refine hK.out _ _ (hq_drew HH2.out) (fun hS1 => ?_)
      refine wpAnyH_ready (rs := [7]) (by kernel_rfl) (by simp) ?_
      refine AllReadyH.cons (o := _) rfl (fun K2 hK2 => ?_) AllReadyH.nil
      refine step_appFull8 rfl (.tmp 28) (.tmp 29) rfl ⟨T, 0, none⟩ 32 kn rfl HKL.out HKC.out ⟨wr.heap.size, 0, none⟩ 1 1 [2] rfl rfl (by omega) HN.out (by rw [HKL.out]; decide) ?_
      intro v1 w1 hb1 hg1 ho1
      have hbl1 : Below (wr.alloc (.cells #[.int .u8 2] 5)).heap.size (wr.alloc (.cells #[.int .u8 2] 5)) w1 := ⟨hg1.os, hg1.tape, hg1.output, hg1.size, fun q hq => hg1.block q hq (by simp)⟩
      have hq1 := hq_step HH2.out HKL.out HY.out hbl1
      obtain ⟨g1, c1, e1, ht⟩ := tagged_own (w := w) tProof (HLD.out _ hq1.1) hb1 (by simp) (by rw [List.length_append, HKL.out]; simp) (by decide) (by decide)
      subst e1
      rw [HT0.out] at ht
      have h33 : (kn ++ [(2 : Int)]).length = 33 := by rw [List.length_append, HKL.out]; rfl
      rw [h33] at ht ⊢
      clear h33
      have HT := Bx.mk ht
      clear ht hb1 hg1 ho1 hbl1
      simp only [Act.put, List.setIfInBounds_toArray, List.set_cons_zero, List.set_cons_succ]
      refine hK2.out _ _ hq1 (fun hS2 => ?_)
      refine wpAnyH_ready (rs := [8]) (by kernel_rfl) (by simp) ?_
      refine AllReadyH.cons (o := _) rfl (fun K3 hK3 => ?_) AllReadyH.nil
      go_simp
      refine HT.out.mono ?_
      rintro e w2 ⟨rfl, hb2⟩
      have hq2 := hq_step hq1 HKL.out HY.out hb2
      clear hb2
      (try dsimp only)
      refine hK3.out _ _ hq2 (fun hS3 => ?_)
      refine wpAnyH_ready (rs := [13]) (by kernel_rfl) (by simp) ?_
      refine AllReadyH.cons (o := _) rfl (fun K4 hK4 => ?_) AllReadyH.nil
      go_simp
      refine (HPf.out _ (HLD.out _ hq2.1)).mono ?_
      rintro e w3 ⟨rfl, hb3⟩
      have hq3 := hq_step hq2 HKL.out HY.out hb3
      clear hb3
      (try dsimp only)
      refine hK4.out _ _ hq3 (fun hS4 => ?_)
      refine wpAnyH_ready (rs := [14]) (by kernel_rfl) (by simp) ?_
      refine AllReadyH.cons (o := _) rfl (fun K5 hK5 => ?_) AllReadyH.nil
      have heq3 := heq w3
      have e0 : (eqGuard .neq 35 (.tmp 27) (.tmp 36) (.agg (pk.map (.int .u8)).toArray) (dv rq)).run Tryz.prog w3 = .ok () w3 := run_eqGuard_agg w3 .neq 35 (.tmp 27) (.tmp 36) _ _ (by kernel_rfl)
      have e1 : (binOp .neq 35 (.agg (pk.map (.int .u8)).toArray) (dv rq)).run Tryz.prog w3 = .ok (.bool (!b)) w3 := by
        unfold dv at heq3 ⊢
        rw [run_neq_struct, heq3]
        rfl
      go_simp
      refine hK5.out _ _ hq3 (fun hS5 => ?_)
      refine wpAnyH_done (by kernel_rfl) ?_ _
      refine NoPanic.normal ?_
      have BE := Bx.mk hq3.1
      clear e0 e1 heq3 heq hS0 hS1 hS2 hS3 hS4 hS5 hq1 hq2 hq3 hK hK2 hK3 hK4 hK5 HT HPf HLD HKC HN HH2 hk4 hsk hu35 hs35 hld
      cases b with
      | true =>
        have e : res = .nilIface := by rw [HRS.out, if_pos]; have := HB.out; simpa using this.symm
        subst e
        clear HRS HB
        go_wp2_with fail
        go_ret
        exact ⟨rfl, BE.out⟩
      | false =>
        have e : res = errV 380 true := by rw [HRS.out, if_neg]; intro h; have := HB.out; simp [h] at this
        subst e
        clear HRS HB
        go_wp2_with fail
        go_ret
        exact ⟨rfl, BE.out⟩
end Go.Proofs.YtjbojoeafdkkeaaGreatDoor

namespace Go.Proofs.YtjbojoeafdkkeaaGreatDoor
open Go Go.RowKit Go.Lib

theorem list32 (l : List Int) (h : l.length = 32) : ∃ p0 p1 p2 p3 p4 p5 p6 p7 p8 p9 p10 p11 p12 p13 p14 p15 p16 p17 p18 p19 p20 p21 p22 p23 p24 p25 p26 p27 p28 p29 p30 p31 : Int, l = [p0, p1, p2, p3, p4, p5, p6, p7, p8, p9, p10, p11, p12, p13, p14, p15, p16, p17, p18, p19, p20, p21, p22, p23, p24, p25, p26, p27, p28, p29, p30, p31] := by
  match l, h with
  | [p0, p1, p2, p3, p4, p5, p6, p7, p8, p9, p10, p11, p12, p13, p14, p15, p16, p17, p18, p19, p20, p21, p22, p23, p24, p25, p26, p27, p28, p29, p30, p31], _ => exact ⟨_, _, _, _, _, _, _, _, _, _, _, _, _, _, _, _, _, _, _, _, _, _, _, _, _, _, _, _, _, _, _, _, rfl⟩
def z8 : List Int := [0, 0, 0, 0, 0, 0, 0, 0]
theorem build_exam (r code x p t : Int) (d : Bool) (pt dv vf lf : Int) (pk : List Int) (hpk : pk.length = 32) (ver bY priv : Int) (w : World) :
    (Instr.build 93 #[(0, .agg #[.int .i64 r, .int .i64 code, .int .i64 x, .int .i64 p, .int .i64 t, .bool d]), (1, .agg (reqL pt dv vf lf pk).toArray), (2, .int .i64 ver), (3, .int .i64 bY), (4, .int .i64 priv)]).run Tryz.prog w = .ok (.agg (Ex.L ⟨r, code, x, p, t, d, pt, dv, vf, lf, pk, ver, bY, priv, z8⟩).toArray) w := by
  obtain ⟨p0, p1, p2, p3, p4, p5, p6, p7, p8, p9, p10, p11, p12, p13, p14, p15, p16, p17, p18, p19, p20, p21, p22, p23, p24, p25, p26, p27, p28, p29, p30, p31, rfl⟩ := list32 pk hpk
  kernel_rfl

def fnV (Y k : Nat) : Value := .func (.func k) #[.pointer (some ⟨Y, 0, none⟩)] #[]
def fnsL (Y : Nat) : List Value := [fnV Y 54, fnV Y 55, fnV Y 56, fnV Y 57, fnV Y 58]
def zC : List Value := z8.map (.int .i64)
/-- The frame of Answer. -/
structure FA (w : World) (X C Y F : Nat) (e : Ex) (W : World) : Prop where
  b : Below w.heap.size w W
  s : Row W w.heap.size (sessL e.r e.code e.x e.p e.t e.d)
  x : Row W X sess0
  c : Row W C zC
  y : ExAt W Y e
  f : Row W F (fnsL Y)
  o1 : w.heap.size < X
  o2 : X < C
  o3 : C < Y
  o4 : Y < F
theorem FA.lt {w W : World} {X C Y F : Nat} {e : Ex} (h : FA w X C Y F e W) : F < W.heap.size := h.f.lt (by simp [fnsL])
theorem FA.below {w W W2 : World} {X C Y F : Nat} {e : Ex} (h : FA w X C Y F e W) (hb : Below W.heap.size W W2) : FA w X C Y F e W2 :=
  have l := h.lt; have a := h.o1; have b := h.o2; have c := h.o3; have d := h.o4
  ⟨below_step h.b hb (Nat.le_refl _), h.s.below hb (by omega), h.x.below hb (by omega), h.c.below hb (by omega), h.y.below hb (by omega), h.f.below hb (by omega), h.o1, h.o2, h.o3, h.o4⟩
theorem FA.alloc {w W : World} {X C Y F : Nat} {e : Ex} (h : FA w X C Y F e W) (o : Obj) : FA w X C Y F e (W.alloc o) := h.below ((Below.refl _ _).alloc (Nat.le_refl _) o)
theorem FA.grown {w W W2 : World} {X C Y F T : Nat} {e : Ex} (h : FA w X C Y F e W) (hg : W.grownBy W2 (some T)) (hT : F < T) : FA w X C Y F e W2 :=
  have l := h.lt; have a := h.o1; have b := h.o2; have c := h.o3; have d := h.o4
  have n : ∀ q, q < T → some q ≠ some T := fun q hq e => by have := Option.some.inj e; omega
  ⟨Below.grown h.b hg h.b.size (by intro q hq; cases hq; omega), h.s.grown hg (by omega) (n _ (by omega)), h.x.grown hg (by omega) (n _ (by omega)), h.c.grown hg (by omega) (n _ (by omega)), ⟨h.y.row.grown hg (by omega) (n _ (by omega)), h.y.pk, h.y.ct⟩, h.f.grown hg (by omega) (n _ (by omega)), h.o1, h.o2, h.o3, h.o4⟩
/-- The examination's variable alone is written. -/
theorem FA.cert {w W W2 : World} {X C Y F : Nat} {e : Ex} (h : FA w X C Y F e W) (hg : W.grownBy W2 (some Y)) (ct : List Int) (hct : ct.length = 8) (hr : Row W2 Y (Ex.L { e with ct := ct })) : FA w X C Y F { e with ct := ct } W2 :=
  have l := h.lt; have a := h.o1; have b := h.o2; have c := h.o3; have d := h.o4
  have n : ∀ q, q ≠ Y → some q ≠ some Y := fun q hq e => hq (Option.some.inj e)
  ⟨Below.grown h.b hg h.b.size (by intro q hq; cases hq; omega), h.s.grown hg (by omega) (n _ (by omega)), h.x.grown hg (by omega) (n _ (by omega)), h.c.grown hg (by omega) (n _ (by omega)), ⟨hr, h.y.pk, hct⟩, h.f.grown hg (by omega) (n _ (by omega)), h.o1, h.o2, h.o3, h.o4⟩
theorem FA.fn {w W : World} {X C Y F : Nat} {e : Ex} (h : FA w X C Y F e W) {i : Nat} {v : Value} (hi : (fnsL Y)[i]? = some v) : W.cell? ⟨F, i, none⟩ = some v := h.f.get hi

/-- errors.As at a failure, by rows. -/
theorem as_hit2 (T : Nat) (n : Int) (b : Bool) (o0 o1 : Value) (w : World) (hg : EType w) (hr : Row w T [o0, o1]) :
    Calls Tryz.prog 59 #[errV n b, .iface 101 (.pointer (some ⟨T, 0, none⟩))] w fun ev w' => ev = .returned (.bool true) ∧ Row w' T [.int .i64 n, .bool b] ∧ w.grownBy w' (some T) := by
  have hT := hr.lt (by simp)
  refine (as_hit T n b o0 o1 w hg (hr.get (i := 0) rfl) (hr.get (i := 1) rfl) (hr.fr (i := 0) (by simp)) (hr.fr (i := 1) (by simp))).mono ?_
  rintro ev w' ⟨rfl, rfl⟩
  have hb : Below w.heap.size w (w4P w T n b) := by
    unfold w4P w3P w2P w1P
    exact ((((Below.refl _ _).alloc (Nat.le_refl _) _).alloc (by simp) _).alloc (by simp; omega) _).alloc (by simp; omega) _
  have h1 : Row (w4P w T n b) T ([] ++ ([o0, o1] ++ [])) := by simpa using hr.below hb hT
  obtain ⟨e1, e2⟩ := h1.store (xs := [.int .i64 n, .bool b]) rfl
  refine ⟨rfl, by simpa using e1, grown_trans (r1 := some T) ⟨hb.os, hb.tape, hb.output, hb.size, fun q hq _ => hb.block q hq⟩ e2 (.inl rfl)⟩
theorem results_ans {fn : Func} {p q r : Tmp} (h : fn.results = #[.cell p 25, .cell q 44, .tmp r]) (tmps : Array Value) (w : World) (X C : Nat) (xs cs : List Value) (v : Value) (hp : tmps.getD p undef = .pointer (some ⟨X, 0, none⟩)) (hq : tmps.getD q undef = .pointer (some ⟨C, 0, none⟩)) (hv : tmps.getD r undef = v)
    (hx : Row w X xs) (hxl : xs.length = 6) (hc : Row w C cs) (hcl : cs.length = 8) : (results fn tmps).run Tryz.prog w = .ok (.tuple #[.agg xs.toArray, .agg cs.toArray, v]) w := by
  obtain ⟨d1, a1, a2⟩ := rowT_sess.row
  obtain ⟨d2, b1, b2⟩ := rowT_cert.row
  have hr1 := run_loadVar_mid (P := Tryz.prog) w X 0 25 xs d1 hx.range0 a1 a2 (by rw [hxl]; exact rowT_sess.size)
  have hr2 := run_loadVar_mid (P := Tryz.prog) w C 0 44 cs d2 hc.range0 b1 b2 (by rw [hcl]; exact rowT_cert.size)
  have hp' : tmps[p]?.getD undef = .pointer (some ⟨X, 0, none⟩) := by simpa using hp
  have hq' : tmps[q]?.getD undef = .pointer (some ⟨C, 0, none⟩) := by simpa using hq
  have hv' : tmps[r]?.getD undef = v := by simpa using hv
  simp [results, h, hp', hq', hv', asAddr, hr1, hr2]

def oS (e : Ex) : Obj := .cells (sessL e.r e.code e.x e.p e.t e.d).toArray 25
def oS0 : Obj := .cells sess0.toArray 25
def aw4 (w : World) (e : Ex) : World := (((w.alloc (oS e)).alloc (oR e.pt e.dv e.vf e.lf e.pk)).alloc oS0).alloc (cC 0 0 0 0 0 0 0 0)
def ex0 : Ex := ⟨0, 0, 0, 0, 0, false, 0, 0, 0, 0, z32, 0, 0, 0, z8⟩
def oE0 : Obj := .cells ex0.L.toArray 93
theorem aw4_facts (w : World) (e : Ex) : (aw4 w e).heap.size = w.heap.size + 4 ∧ Below w.heap.size w (aw4 w e) ∧ Row (aw4 w e) w.heap.size (sessL e.r e.code e.x e.p e.t e.d) ∧ Row (aw4 w e) (w.heap.size + 1) (reqL e.pt e.dv e.vf e.lf e.pk) ∧ Row (aw4 w e) (w.heap.size + 2) sess0 ∧ Row (aw4 w e) (w.heap.size + 3) zC := by
  have s1 : (w.alloc (oS e)).heap.size = w.heap.size + 1 := World.size_alloc _ _
  have s2 : ((w.alloc (oS e)).alloc (oR e.pt e.dv e.vf e.lf e.pk)).heap.size = w.heap.size + 2 := by rw [World.size_alloc, s1]
  have s3 : (((w.alloc (oS e)).alloc (oR e.pt e.dv e.vf e.lf e.pk)).alloc oS0).heap.size = w.heap.size + 3 := by rw [World.size_alloc, s2]
  have s4 : (aw4 w e).heap.size = w.heap.size + 4 := by unfold aw4; rw [World.size_alloc, s3]
  have r0 := row_new w (sessL e.r e.code e.x e.p e.t e.d) 25
  have r1 := row_new (w.alloc (oS e)) (reqL e.pt e.dv e.vf e.lf e.pk) 37
  have r2 := row_new ((w.alloc (oS e)).alloc (oR e.pt e.dv e.vf e.lf e.pk)) sess0 25
  have r3 := row_new (((w.alloc (oS e)).alloc (oR e.pt e.dv e.vf e.lf e.pk)).alloc oS0) zC 44
  rw [s1] at r1; rw [s2] at r2; rw [s3] at r3
  have b1 := (Below.refl w.heap.size w).alloc (Nat.le_refl _) (oS e)
  have b2 := b1.alloc (by rw [s1]; omega) (oR e.pt e.dv e.vf e.lf e.pk)
  have b3 := b2.alloc (by rw [s2]; omega) oS0
  have b4 := b3.alloc (by rw [s3]; omega) (cC 0 0 0 0 0 0 0 0)
  refine ⟨s4, b4, ?_, ?_, ?_, r3⟩
  · exact (Row.alloc (Row.alloc (Row.alloc r0 (by rw [World.size_alloc]; omega) _) (by rw [World.size_alloc, World.size_alloc]; omega) _) (by rw [World.size_alloc, World.size_alloc, World.size_alloc]; omega) _)
  · exact (Row.alloc (Row.alloc r1 (by show _ < ((w.alloc (oS e)).alloc (oR e.pt e.dv e.vf e.lf e.pk)).heap.size; rw [s2]; omega) _) (by show _ < (((w.alloc (oS e)).alloc (oR e.pt e.dv e.vf e.lf e.pk)).alloc oS0).heap.size; rw [s3]; omega) _)
  · exact Row.alloc r2 (by show _ < (((w.alloc (oS e)).alloc (oR e.pt e.dv e.vf e.lf e.pk)).alloc oS0).heap.size; rw [s3]; omega) _
end Go.Proofs.YtjbojoeafdkkeaaGreatDoor

namespace Go.Proofs.YtjbojoeafdkkeaaGreatDoor
open Go Go.RowKit Go.Lib

/-- What a check does to the frame. -/
def Kp (w : World) (X C Y F : Nat) (e : Ex) (W W2 : World) : Prop := FA w X C Y F e W2 ∧ ∀ T cs, Row W T cs → 0 < cs.length → F < T → Row W2 T cs
theorem kp_below {w W W2 : World} {X C Y F : Nat} {e : Ex} (h : FA w X C Y F e W) (hb : Below W.heap.size W W2) : Kp w X C Y F e W W2 :=
  ⟨h.below hb, fun _ _ hr hl _ => hr.below hb (hr.lt hl)⟩
section
variable {w W : World} {X C Y F : Nat} {e : Ex}
theorem k_valid (h : FA w X C Y F e W) (hs : sessOK e.r e.code e.x e.p e.t = true) :
    Calls Tryz.prog 54 #[.pointer (some ⟨Y, 0, none⟩)] W fun ev w' => ev = .returned .nilIface ∧ Kp w X C Y F e W w' := by
  refine (xvalid_c e Y W h.y).mono ?_
  rintro ev w' ⟨rfl, hb⟩
  rw [hs]
  exact ⟨rfl, kp_below h hb⟩
theorem k_valid_bad (h : FA w X C Y F e W) (hs : sessOK e.r e.code e.x e.p e.t = false) :
    Calls Tryz.prog 54 #[.pointer (some ⟨Y, 0, none⟩)] W fun ev w' => ev = .returned (errV 380 false) ∧ Kp w X C Y F e W w' := by
  refine (xvalid_c e Y W h.y).mono ?_
  rintro ev w' ⟨rfl, hb⟩
  rw [hs]
  exact ⟨rfl, kp_below h hb⟩
theorem k_open (h : FA w X C Y F e W) (hs : openE e.t e.d = 0) :
    Calls Tryz.prog 55 #[.pointer (some ⟨Y, 0, none⟩)] W fun ev w' => ev = .returned .nilIface ∧ Kp w X C Y F e W w' := by
  refine (xopen_c e Y W h.y).mono ?_
  rintro ev w' ⟨rfl, rfl⟩
  rw [hs]
  exact ⟨rfl, kp_below h (Below.refl _ _)⟩
theorem k_open_bad (h : FA w X C Y F e W) (n : Int) (hn : n ≠ 0) (hs : openE e.t e.d = n) :
    Calls Tryz.prog 55 #[.pointer (some ⟨Y, 0, none⟩)] W fun ev w' => ev = .returned (errV n false) ∧ Kp w X C Y F e W w' := by
  refine (xopen_c e Y W h.y).mono ?_
  rintro ev w' ⟨rfl, rfl⟩
  rw [hs, refV, if_neg hn]
  exact ⟨rfl, kp_below h (Below.refl _ _)⟩
theorem form_of (h : ExAt W Y e) : FormAt W Y e.p e.pt e.dv e.vf e.lf := ⟨h.c3, h.c6, h.c7, h.c8, h.c9⟩
theorem k_formed (h : FA w X C Y F e W) (i1 : i64R e.pt) (i2 : i64R e.vf) (i3 : i64R e.lf) (hs : fitsB e.p e.pt e.dv e.vf e.lf = true) :
    Calls Tryz.prog 56 #[.pointer (some ⟨Y, 0, none⟩)] W fun ev w' => ev = .returned .nilIface ∧ Kp w X C Y F e W w' := by
  refine (xformed_c Y W e.p e.pt e.dv e.vf e.lf (form_of h.y) i1 i2 i3).mono ?_
  rintro ev w' ⟨rfl, hb⟩
  rw [hs]
  exact ⟨rfl, kp_below h hb⟩
theorem k_formed_bad (h : FA w X C Y F e W) (i1 : i64R e.pt) (i2 : i64R e.vf) (i3 : i64R e.lf) (hs : fitsB e.p e.pt e.dv e.vf e.lf = false) :
    Calls Tryz.prog 56 #[.pointer (some ⟨Y, 0, none⟩)] W fun ev w' => ev = .returned (errV 1 false) ∧ Kp w X C Y F e W w' := by
  refine (xformed_c Y W e.p e.pt e.dv e.vf e.lf (form_of h.y) i1 i2 i3).mono ?_
  rintro ev w' ⟨rfl, hb⟩
  rw [hs]
  exact ⟨rfl, kp_below h hb⟩
theorem k_cert (h : FA w X C Y F e W) (hL : Laid w) (hr : ∀ x ∈ [2, e.dv, e.vf, e.lf, e.ver, e.bY], -9223372036854775808 ≤ x ∧ x ≤ 9223372036854775807) (c0 c1 c2 c3 c4 c5 c6 c7 ec : Int)
    (hc : certF 2 e.dv e.vf e.lf e.ver e.bY e.priv = (certV c0 c1 c2 c3 c4 c5 c6 c7, ec)) :
    Calls Tryz.prog 57 #[.pointer (some ⟨Y, 0, none⟩)] W fun ev w' => ev = .returned (refV ec) ∧ Kp w X C Y F { e with ct := [c0, c1, c2, c3, c4, c5, c6, c7] } W w' := by
  have hp : (sessL e.r e.code e.x e.p e.t e.d ++ (reqL e.pt e.dv e.vf e.lf e.pk ++ [Value.int .i64 e.ver, Value.int .i64 e.bY, Value.int .i64 e.priv])).length = 45 := by simp [sessL, reqL, h.y.pk]
  have hrow : Row W Y ((sessL e.r e.code e.x e.p e.t e.d ++ (reqL e.pt e.dv e.vf e.lf e.pk ++ [Value.int .i64 e.ver, Value.int .i64 e.bY, Value.int .i64 e.priv])) ++ (e.ct.map (.int .i64) ++ [])) := by
    have := h.y.row
    unfold Ex.L at this
    simpa only [List.append_assoc, List.append_nil] using this
  refine (xcert_c Y W e.dv e.vf e.lf e.ver e.bY e.priv c0 c1 c2 c3 c4 c5 c6 c7 ec ⟨Below.refl _ _, h.y.c7, h.y.c8, h.y.c9, h.y.c42, h.y.c43, h.y.c44⟩ (hL.below h.b (Nat.le_refl _)) hr hc _ e.ct hrow hp h.y.ct).mono ?_
  rintro ev w' ⟨rfl, hr2, hg⟩
  refine ⟨rfl, h.cert hg _ rfl ?_, fun T cs hrT hl hT => hrT.grown hg (hrT.lt hl) (fun q => by have q2 : T = Y := Option.some.inj q; have := h.o4; omega)⟩
  unfold Ex.L
  simpa only [List.append_assoc, List.append_nil] using hr2
theorem req_range (h : ExAt W Y e) : W.rangeAt Y 6 (reqL e.pt e.dv e.vf e.lf e.pk) := by
  have := h.row
  unfold Ex.L at this
  exact Row.range (pre := sessL e.r e.code e.x e.p e.t e.d) this
theorem k_proved_bad (h : FA w X C Y F e W) (hL : Laid w) (ip : i64R e.pt) (hb : ¬ (sideOK e.r e.code e.x = true ∧ elt e.pt = true)) :
    Calls Tryz.prog 58 #[.pointer (some ⟨Y, 0, none⟩)] W fun ev w' => ev = .returned (errV 100 false) ∧ Kp w X C Y F e W w' := by
  refine (xproved_bad Y W e.r e.code e.x e.pt ⟨Below.refl _ _, h.y.c0, h.y.c1, h.y.c2, h.y.c6⟩ (hL.below h.b (Nat.le_refl _)) ip hb).mono ?_
  rintro ev w' ⟨rfl, hb⟩
  exact ⟨rfl, kp_below h hb⟩
theorem k_proved (h : FA w X C Y F e W) (hL : Laid w) (hb : sideOK e.r e.code e.x = true) (hp : elt e.pt = true) (hr : ∀ z ∈ [e.dv, e.vf, e.lf], -9223372036854775808 ≤ z ∧ z ≤ 9223372036854775807) (hs : e.pk = rqN (prfN (keyN e.r e.code e.x e.pt) 2) e.dv e.vf e.lf) :
    Calls Tryz.prog 58 #[.pointer (some ⟨Y, 0, none⟩)] W fun ev w' => ev = .returned .nilIface ∧ Kp w X C Y F e W w' := by
  refine (xproved_ok Y W e.r e.code e.x e.pt e.dv e.vf e.lf e.pk h.y.pk ⟨Below.refl _ _, h.y.c0, h.y.c1, h.y.c2, h.y.c6⟩ (req_range h.y) (hL.below h.b (Nat.le_refl _)) hb hp hr).mono ?_
  rintro ev w' ⟨rfl, hb⟩
  rw [if_pos hs]
  exact ⟨rfl, kp_below h hb⟩
theorem k_proved_no (h : FA w X C Y F e W) (hL : Laid w) (hb : sideOK e.r e.code e.x = true) (hp : elt e.pt = true) (hr : ∀ z ∈ [e.dv, e.vf, e.lf], -9223372036854775808 ≤ z ∧ z ≤ 9223372036854775807) (hs : ¬ e.pk = rqN (prfN (keyN e.r e.code e.x e.pt) 2) e.dv e.vf e.lf) :
    Calls Tryz.prog 58 #[.pointer (some ⟨Y, 0, none⟩)] W fun ev w' => ev = .returned (errV 380 true) ∧ Kp w X C Y F e W w' := by
  refine (xproved_ok Y W e.r e.code e.x e.pt e.dv e.vf e.lf e.pk h.y.pk ⟨Below.refl _ _, h.y.c0, h.y.c1, h.y.c2, h.y.c6⟩ (req_range h.y) (hL.below h.b (Nat.le_refl _)) hb hp hr).mono ?_
  rintro ev w' ⟨rfl, hb⟩
  rw [if_neg hs]
  exact ⟨rfl, kp_below h hb⟩
end
end Go.Proofs.YtjbojoeafdkkeaaGreatDoor
