/- pake: Shared. -/
import Derived.Test.YtjbojoeafdkkeaaGreatDoorJ10
set_option linter.unusedVariables false
set_option linter.unusedSimpArgs false
namespace Go.Proofs.YtjbojoeafdkkeaaGreatDoor
open Go Go.RowKit Go.Lib

def z32 : List Int := List.replicate 32 0
def keyO : Obj := .cells (z32.map (.int .u8)).toArray 54
/-- The frame of Shared: the side, the key's block. -/
def Fr (w : World) (r code x : Int) (W : World) : Prop := Hs w r code x W ∧ Blk W (w.heap.size + 1) .u8 z32
theorem fr_step {w W W2 : World} {r code x : Int} (h : Fr w r code x W) (hb : Below W.heap.size W W2) : Fr w r code x W2 := ⟨hs_step h.1 hb, h.2.below hb (h.2.lt (by decide))⟩
theorem fr_new (w : World) (r code x : Int) : Fr w r code x ((w.alloc (.cells #[.int .i64 r, .int .i64 code, .int .i64 x] 23)).alloc keyO) := by
  refine ⟨hs_alloc (hs_box w r code x) _, ?_⟩
  have h := blk_new (w.alloc (.cells #[.int .i64 r, .int .i64 code, .int .i64 x] 23)) .u8 z32 54
  rwa [World.size_alloc] at h
theorem Fr.laid {w W : World} {r code x : Int} (h : Fr w r code x W) (hL : Laid w) : Laid W := hL.below h.1.1 (Nat.le_refl _)
theorem bytes_below {w w' : World} {v : Value} {l : List Int} (h : Bytes w v l) (hb : Below w.heap.size w w') : Bytes w' v l :=
  World.ownsRow.kept h (row := none) ⟨hb.os, hb.tape, hb.output, hb.size, fun k hk _ => hb.block k hk⟩ (by cases v.ownBlock <;> simp)

set_option maxHeartbeats 8000000 in
set_option maxRecDepth 100000 in
theorem pshared_bad (r code x peer : Int) (w : World) (hb : sideOK r code x = false) :
    Calls Tryz.prog 27 #[.agg #[.int .i64 r, .int .i64 code, .int .i64 x], .int .i64 peer] w fun e w' => e = .returned (.tuple #[dv z32, .int .i64 100]) ∧ Below w.heap.size w w' := by
  have HP := Bx.mk (fun w => ppoint_bad r code x w hb)
  have H0 := Bx.mk (fr_new w r code x)
  clear hb
  go_enter Tryz.func27, Tryz.ntmps27
  go_wp2_with fail
  refine (HP.out _).mono ?_
  rintro e w1 ⟨rfl, hb1⟩
  have F1 := Bx.mk (fr_step H0.out hb1)
  obtain ⟨k0, k1, k2, k3⟩ := F1.out.1
  have B1 := Bx.mk k0
  clear hb1 k0 H0 HP
  go_wp2_with (first | (refine wpList_ldN rowT_key rfl (.tmp 4) rfl (w.heap.size + 1) 0 rfl (z32.map (.int .u8)) (range_of_blk F1.out.2) rfl (dv z32) rfl ?_) | (refine wpList_stN rowT_key rfl (.tmp 4) (.tmp 26) rfl (w.heap.size + 1) 0 rfl (z32.map (.int .u8)) rfl (one_ints .u8 _) rfl (there_of_blk F1.out.2) ?_))
  obtain ⟨e1, e2⟩ := blk_store (m := z32) F1.out.2 rfl
  have B2 := Bx.mk (Below.grown B1.out e2 B1.out.size (by intro q hq; cases hq; omega))
  have E1 := Bx.mk e1
  clear e1 e2
  generalize w1.setCells (w.heap.size + 1) 0 (z32.map (.int .u8)) = w2 at *
  go_wp2_with fail
  (try simp only [Exit.inBlock, Exit.then])
  refine bodyPost_ret (results_rowN rowT_key rfl _ _ (w.heap.size + 1) (z32.map (.int .u8)) (dv z32) (.int .i64 100) rfl rfl (range_of_blk E1.out) rfl rfl) rfl ?_
  exact ⟨rfl, B2.out⟩

set_option maxHeartbeats 8000000 in
set_option maxRecDepth 100000 in
theorem pshared_peer (r code x peer : Int) (w : World) (hL : Laid w) (hb : sideOK r code x = true) (hp : ¬ elt peer = true) (hq0 : -9223372036854775808 ≤ peer) (hq1 : peer ≤ 9223372036854775807) :
    Calls Tryz.prog 27 #[.agg #[.int .i64 r, .int .i64 code, .int .i64 x], .int .i64 peer] w fun e w' => e = .returned (.tuple #[dv z32, .int .i64 100]) ∧ Below w.heap.size w w' := by
  have HP := Bx.mk (fun w hL => ppoint_ok r code x w hL hb)
  have HC := Bx.mk (fun w => gcheck_c peer w hq0 hq1)
  rw [gcheck_40 hp] at HC
  have H0 := Bx.mk (fr_new w r code x)
  have HL := Bx.mk hL
  clear hb hp hL
  obtain ⟨o0, ho0⟩ : ∃ p, p = ownN r code x := ⟨_, rfl⟩
  rw [← ho0] at HP
  clear ho0
  go_enter Tryz.func27, Tryz.ntmps27
  go_wp2_with fail
  refine (HP.out _ (H0.out.laid HL.out)).mono ?_
  rintro e w1 ⟨rfl, hb1⟩
  have F1 := Bx.mk (fr_step H0.out hb1)
  clear hb1 H0 HP
  go_wp2_with fail
  refine (HC.out _).mono ?_
  rintro e w2 ⟨rfl, hb2⟩
  have F2 := Bx.mk (fr_step F1.out hb2)
  obtain ⟨k0, k1, k2, k3⟩ := F2.out.1
  have B1 := Bx.mk k0
  clear hb2 k0 F1
  go_wp2_with (first | (refine wpList_ldN rowT_key rfl (.tmp 4) rfl (w.heap.size + 1) 0 rfl (z32.map (.int .u8)) (range_of_blk F2.out.2) rfl (dv z32) rfl ?_) | (refine wpList_stN rowT_key rfl (.tmp 4) (.tmp 31) rfl (w.heap.size + 1) 0 rfl (z32.map (.int .u8)) rfl (one_ints .u8 _) rfl (there_of_blk F2.out.2) ?_))
  obtain ⟨e1, e2⟩ := blk_store (m := z32) F2.out.2 rfl
  have B2 := Bx.mk (Below.grown B1.out e2 B1.out.size (by intro q hq; cases hq; omega))
  have E1 := Bx.mk e1
  clear e1 e2
  generalize w2.setCells (w.heap.size + 1) 0 (z32.map (.int .u8)) = w3 at *
  go_wp2_with fail
  (try simp only [Exit.inBlock, Exit.then])
  refine bodyPost_ret (results_rowN rowT_key rfl _ _ (w.heap.size + 1) (z32.map (.int .u8)) (dv z32) (.int .i64 100) rfl rfl (range_of_blk E1.out) rfl rfl) rfl ?_
  exact ⟨rfl, B2.out⟩
end Go.Proofs.YtjbojoeafdkkeaaGreatDoor

namespace Go.Proofs.YtjbojoeafdkkeaaGreatDoor
open Go Go.RowKit Go.Lib

def certV (k d v l n b r s : Int) : Value := .agg #[.int .i64 k, .int .i64 d, .int .i64 v, .int .i64 l, .int .i64 n, .int .i64 b, .int .i64 r, .int .i64 s]
def keysV (v l : Int) : Bool := elt v && elt l
def otherV (d b : Int) : Bool := isDev b && (decide (b ≠ d) && decide (b / 8 = d / 8))
def headV (d n : Int) : Bool := isDev d && (decide (1 ≤ n) && decide (n ≤ 1048576))
def kindV (k d v l b : Int) (keys other : Bool) : Bool :=
  if k = 1 then keys && decide (b = d) else if k = 2 then keys && other else if k = 3 then keys && decide (b = -1) else if k = 4 then decide (v = 0) && (decide (l = 0) && other) else false
def formedV (k d v l n b : Int) : Bool := headV d n && kindV k d v l b (keysV v l) (otherV d b)

set_option maxHeartbeats 4000000 in
set_option maxRecDepth 100000 in
theorem formed_bad (k d v l n b r s : Int) (w : World) (h : headV d n = false) :
    Calls Tryz.prog 62 #[certV k d v l n b r s] w fun e w' => e = .returned (.bool false) ∧ Below w.heap.size w w' := by
  have hv := Bx.mk (isDev_c d)
  unfold certV
  cases hd : isDev d
  · rw [hd] at hv
    clear h hd
    go_enter Tryz.func62, Tryz.ntmps62
    go_wp2_with fail
    refine (hv.out _).mono ?_
    rintro e w1 ⟨rfl, rfl⟩
    go_wp2_with fail
    go_ret
    exact ⟨rfl, (Below.refl _ _).alloc (Nat.le_refl _) _⟩
  · rw [hd] at hv
    by_cases hn : n < 1
    · clear h hd
      go_enter Tryz.func62, Tryz.ntmps62
      go_wp2_with fail
      refine (hv.out _).mono ?_
      rintro e w1 ⟨rfl, rfl⟩
      go_wp2_with fail
      go_ret
      exact ⟨rfl, (Below.refl _ _).alloc (Nat.le_refl _) _⟩
    · have hn2 : 1048576 < n := by
        simp [headV, hd] at h
        omega
      clear h hd
      go_enter Tryz.func62, Tryz.ntmps62
      go_wp2_with fail
      refine (hv.out _).mono ?_
      rintro e w1 ⟨rfl, rfl⟩
      go_wp2_with fail
      go_ret
      exact ⟨rfl, (Below.refl _ _).alloc (Nat.le_refl _) _⟩

/-- The box of a certificate, of which the six numbers are read. -/
def CertAt (w W : World) (k d v l n b : Int) : Prop :=
  Below w.heap.size w W ∧ W.cell? ⟨w.heap.size, 0, none⟩ = some (.int .i64 k) ∧ W.cell? ⟨w.heap.size, 1, none⟩ = some (.int .i64 d) ∧ W.cell? ⟨w.heap.size, 2, none⟩ = some (.int .i64 v) ∧ W.cell? ⟨w.heap.size, 3, none⟩ = some (.int .i64 l) ∧ W.cell? ⟨w.heap.size, 4, none⟩ = some (.int .i64 n) ∧ W.cell? ⟨w.heap.size, 5, none⟩ = some (.int .i64 b)
theorem CertAt.step {w W W2 : World} {k d v l n b : Int} (h : CertAt w W k d v l n b) (hb : Below W.heap.size W W2) : CertAt w W2 k d v l n b :=
  have q := fun i => hb.cell (p := ⟨w.heap.size, i, none⟩) (cell_lt h.2.1)
  ⟨below_step h.1 hb (Nat.le_refl _), (q 0).trans h.2.1, (q 1).trans h.2.2.1, (q 2).trans h.2.2.2.1, (q 3).trans h.2.2.2.2.1, (q 4).trans h.2.2.2.2.2.1, (q 5).trans h.2.2.2.2.2.2⟩
theorem CertAt.new (w : World) (k d v l n b r s : Int) (t : TypeId) : CertAt w (w.alloc (.cells #[.int .i64 k, .int .i64 d, .int .i64 v, .int .i64 l, .int .i64 n, .int .i64 b, .int .i64 r, .int .i64 s] t)) k d v l n b :=
  ⟨(Below.refl _ _).alloc (Nat.le_refl _) _, cells_new _ _ _ 0, cells_new _ _ _ 1, cells_new _ _ _ 2, cells_new _ _ _ 3, cells_new _ _ _ 4, cells_new _ _ _ 5⟩

set_option maxHeartbeats 8000000 in
set_option maxRecDepth 100000 in
theorem formed_ok (k d v l n b r s : Int) (w : World) (h : headV d n = true) (hv : -9223372036854775808 ≤ v ∧ v ≤ 9223372036854775807) (hl : -9223372036854775808 ≤ l ∧ l ≤ 9223372036854775807) :
    Calls Tryz.prog 62 #[certV k d v l n b r s] w fun e w' => e = .returned (.bool (kindV k d v l b (keysV v l) (otherV d b))) ∧ Below w.heap.size w w' := by
  have hd : isDev d = true := by
    cases hd : isDev d
    · simp [headV, hd] at h
    · rfl
  have hn : 1 ≤ n ∧ n ≤ 1048576 := by simpa [headV, hd] using h
  obtain ⟨n0, n1⟩ := hn
  obtain ⟨d0, d1⟩ := (isDev_iff d).1 hd
  obtain ⟨v0, v1⟩ := hv
  obtain ⟨l0, l1⟩ := hl
  have HD := Bx.mk (show ∀ w, Calls Tryz.prog 60 #[.int .i64 d] w fun e w' => e = .returned (.bool true) ∧ w = w' from fun w => by have := isDev_c d w; rwa [hd] at this)
  have HN := Bx.mk (CertAt.new w k d v l n b r s 44)
  have hdt : Int.tdiv d 8 = d / 8 := Int.tdiv_eq_ediv_of_nonneg d0
  clear hd h
  unfold certV
  cases hev : elt v
  · have hk : keysV v l = false := by simp [keysV, hev]
    have HG := Bx.mk (gcheck_c v · v0 v1)
    rw [gcheck_40 (a := v) (by rw [hev]; simp)] at HG
    rw [hk]; clear hk hev
    cases hb : isDev b
    · have ho : otherV d b = false := by simp [otherV, hb]
      have HB := Bx.mk (show ∀ w, Calls Tryz.prog 60 #[.int .i64 b] w fun e w' => e = .returned (.bool false) ∧ w = w' from fun w => by have := isDev_c b w; rwa [hb] at this)
      rw [ho]; clear ho hb
      go_enter Tryz.func62, Tryz.ntmps62
      go_wp2_with fail
      refine (HD.out _).mono ?_
      rintro e w1 ⟨rfl, rfl⟩
      go_wp2_with fail
      refine (HG.out _).mono ?_
      rintro e w2 ⟨rfl, hb2⟩
      have hc2 := HN.out.step hb2
      have HC := Bx.mk hc2.1
      obtain ⟨-, c0, c1, c2, c3, c4, c5⟩ := hc2
      clear hb2
      go_wp2_with fail
      refine (HB.out _).mono ?_
      rintro e w4 ⟨rfl, rfl⟩
      by_cases k1 : k = 1
      · subst k1
        go_wp2_with fail
        go_ret
        exact ⟨by simp [kindV], HC.out⟩
      · have e1 : (k == 1) = false := by simpa using k1
        by_cases k2 : k = 2
        · subst k2
          go_wp2_with fail
          go_ret
          exact ⟨by simp [kindV], HC.out⟩
        · have e2 : (k == 2) = false := by simpa using k2
          by_cases k3 : k = 3
          · subst k3
            go_wp2_with fail
            go_ret
            exact ⟨by simp [kindV], HC.out⟩
          · have e3 : (k == 3) = false := by simpa using k3
            by_cases k4 : k = 4
            · subst k4
              by_cases q : v = 0
              · subst q
                by_cases q2 : l = 0
                · subst q2
                  go_wp2_with fail
                  go_ret
                  exact ⟨by simp [kindV], HC.out⟩
                · have q3 : (l == 0) = false := by simpa using q2
                  go_wp2_with fail
                  go_ret
                  exact ⟨by simp [kindV, q2], HC.out⟩
              · have q1 : (v == 0) = false := by simpa using q
                go_wp2_with fail
                go_ret
                exact ⟨by simp [kindV, q], HC.out⟩
            · have e4 : (k == 4) = false := by simpa using k4
              go_wp2_with fail
              go_ret
              exact ⟨by simp [kindV, k1, k2, k3, k4], HC.out⟩
    · obtain ⟨b0, b1⟩ := (isDev_iff b).1 hb
      have HB := Bx.mk (show ∀ w, Calls Tryz.prog 60 #[.int .i64 b] w fun e w' => e = .returned (.bool true) ∧ w = w' from fun w => by have := isDev_c b w; rwa [hb] at this)
      have hbt : Int.tdiv b 8 = b / 8 := Int.tdiv_eq_ediv_of_nonneg b0
      by_cases hbd : b = d
      · have ho : otherV d b = false := by simp [otherV, hbd]
        rw [ho]; clear ho hb
        subst hbd
        go_enter Tryz.func62, Tryz.ntmps62
        go_wp2_with fail
        refine (HD.out _).mono ?_
        rintro e w1 ⟨rfl, rfl⟩
        go_wp2_with fail
        refine (HG.out _).mono ?_
        rintro e w2 ⟨rfl, hb2⟩
        have hc2 := HN.out.step hb2
        have HC := Bx.mk hc2.1
        obtain ⟨-, c0, c1, c2, c3, c4, c5⟩ := hc2
        clear hb2
        go_wp2_with fail
        refine (HB.out _).mono ?_
        rintro e w4 ⟨rfl, rfl⟩
        by_cases k1 : k = 1
        · subst k1
          go_wp2_with fail
          go_ret
          exact ⟨by simp [kindV], HC.out⟩
        · have e1 : (k == 1) = false := by simpa using k1
          by_cases k2 : k = 2
          · subst k2
            go_wp2_with fail
            go_ret
            exact ⟨by simp [kindV], HC.out⟩
          · have e2 : (k == 2) = false := by simpa using k2
            by_cases k3 : k = 3
            · subst k3
              go_wp2_with fail
              go_ret
              exact ⟨by simp [kindV], HC.out⟩
            · have e3 : (k == 3) = false := by simpa using k3
              by_cases k4 : k = 4
              · subst k4
                by_cases q : v = 0
                · subst q
                  by_cases q2 : l = 0
                  · subst q2
                    go_wp2_with fail
                    go_ret
                    exact ⟨by simp [kindV], HC.out⟩
                  · have q3 : (l == 0) = false := by simpa using q2
                    go_wp2_with fail
                    go_ret
                    exact ⟨by simp [kindV, q2], HC.out⟩
                · have q1 : (v == 0) = false := by simpa using q
                  go_wp2_with fail
                  go_ret
                  exact ⟨by simp [kindV, q], HC.out⟩
              · have e4 : (k == 4) = false := by simpa using k4
                go_wp2_with fail
                go_ret
                exact ⟨by simp [kindV, k1, k2, k3, k4], HC.out⟩
      · have ebd : (b == d) = false := by simpa using hbd
        by_cases hq : b / 8 = d / 8
        · have ho : otherV d b = true := by simp [otherV, hb, hbd, hq]
          have eq8 : (b / 8 == d / 8) = true := by simpa using hq
          have HQQ := Bx.mk hq
          rw [ho]; clear ho hb hq
          go_enter Tryz.func62, Tryz.ntmps62
          go_wp2_with fail
          refine (HD.out _).mono ?_
          rintro e w1 ⟨rfl, rfl⟩
          go_wp2_with fail
          refine (HG.out _).mono ?_
          rintro e w2 ⟨rfl, hb2⟩
          have hc2 := HN.out.step hb2
          have HC := Bx.mk hc2.1
          obtain ⟨-, c0, c1, c2, c3, c4, c5⟩ := hc2
          clear hb2
          go_wp2_with fail
          refine (HB.out _).mono ?_
          rintro e w4 ⟨rfl, rfl⟩
          by_cases k1 : k = 1
          · subst k1
            go_wp2_with fail
            go_ret
            exact ⟨by simp [kindV, hbd], HC.out⟩
          · have e1 : (k == 1) = false := by simpa using k1
            by_cases k2 : k = 2
            · subst k2
              go_wp2_with fail
              go_ret
              exact ⟨by simp [kindV, hbd], HC.out⟩
            · have e2 : (k == 2) = false := by simpa using k2
              by_cases k3 : k = 3
              · subst k3
                go_wp2_with fail
                go_ret
                exact ⟨by simp [kindV, hbd], HC.out⟩
              · have e3 : (k == 3) = false := by simpa using k3
                by_cases k4 : k = 4
                · subst k4
                  by_cases q : v = 0
                  · subst q
                    by_cases q2 : l = 0
                    · subst q2
                      go_wp2_with fail
                      go_ret
                      exact ⟨by simp [kindV, hbd], HC.out⟩
                    · have q3 : (l == 0) = false := by simpa using q2
                      go_wp2_with fail
                      go_ret
                      exact ⟨by simp [kindV, q2, hbd], HC.out⟩
                  · have q1 : (v == 0) = false := by simpa using q
                    go_wp2_with fail
                    go_ret
                    exact ⟨by simp [kindV, q, hbd], HC.out⟩
                · have e4 : (k == 4) = false := by simpa using k4
                  go_wp2_with fail
                  go_ret
                  exact ⟨by simp [kindV, k1, k2, k3, k4, hbd], HC.out⟩
        · have ho : otherV d b = false := by simp [otherV, hb, hbd, hq]
          have eq8 : (b / 8 == d / 8) = false := by simpa using hq
          have HQQ := Bx.mk hq
          rw [ho]; clear ho hb hq
          go_enter Tryz.func62, Tryz.ntmps62
          go_wp2_with fail
          refine (HD.out _).mono ?_
          rintro e w1 ⟨rfl, rfl⟩
          go_wp2_with fail
          refine (HG.out _).mono ?_
          rintro e w2 ⟨rfl, hb2⟩
          have hc2 := HN.out.step hb2
          have HC := Bx.mk hc2.1
          obtain ⟨-, c0, c1, c2, c3, c4, c5⟩ := hc2
          clear hb2
          go_wp2_with fail
          refine (HB.out _).mono ?_
          rintro e w4 ⟨rfl, rfl⟩
          by_cases k1 : k = 1
          · subst k1
            go_wp2_with fail
            go_ret
            exact ⟨by simp [kindV, hbd], HC.out⟩
          · have e1 : (k == 1) = false := by simpa using k1
            by_cases k2 : k = 2
            · subst k2
              go_wp2_with fail
              go_ret
              exact ⟨by simp [kindV, hbd], HC.out⟩
            · have e2 : (k == 2) = false := by simpa using k2
              by_cases k3 : k = 3
              · subst k3
                go_wp2_with fail
                go_ret
                exact ⟨by simp [kindV, hbd], HC.out⟩
              · have e3 : (k == 3) = false := by simpa using k3
                by_cases k4 : k = 4
                · subst k4
                  by_cases q : v = 0
                  · subst q
                    by_cases q2 : l = 0
                    · subst q2
                      go_wp2_with fail
                      go_ret
                      exact ⟨by simp [kindV, hbd], HC.out⟩
                    · have q3 : (l == 0) = false := by simpa using q2
                      go_wp2_with fail
                      go_ret
                      exact ⟨by simp [kindV, q2, hbd], HC.out⟩
                  · have q1 : (v == 0) = false := by simpa using q
                    go_wp2_with fail
                    go_ret
                    exact ⟨by simp [kindV, q, hbd], HC.out⟩
                · have e4 : (k == 4) = false := by simpa using k4
                  go_wp2_with fail
                  go_ret
                  exact ⟨by simp [kindV, k1, k2, k3, k4, hbd], HC.out⟩
  · have HG := Bx.mk (gcheck_c v · v0 v1)
    rw [gcheck_0 hev] at HG
    have HG2 := Bx.mk (gcheck_c l · l0 l1)
    cases hel : elt l
    · have hk : keysV v l = false := by simp [keysV, hev, hel]
      rw [gcheck_40 (a := l) (by rw [hel]; simp)] at HG2
      rw [hk]; clear hk hev hel
      cases hb : isDev b
      · have ho : otherV d b = false := by simp [otherV, hb]
        have HB := Bx.mk (show ∀ w, Calls Tryz.prog 60 #[.int .i64 b] w fun e w' => e = .returned (.bool false) ∧ w = w' from fun w => by have := isDev_c b w; rwa [hb] at this)
        rw [ho]; clear ho hb
        go_enter Tryz.func62, Tryz.ntmps62
        go_wp2_with fail
        refine (HD.out _).mono ?_
        rintro e w1 ⟨rfl, rfl⟩
        go_wp2_with fail
        refine (HG.out _).mono ?_
        rintro e w2 ⟨rfl, hb2⟩
        have hc2 := HN.out.step hb2
        have HC2 := Bx.mk hc2
        obtain ⟨-, a0, a1, a2, a3, a4, a5⟩ := hc2
        clear hb2
        go_wp2_with fail
        refine (HG2.out _).mono ?_
        rintro e w3 ⟨rfl, hb3⟩
        have hc3 := HC2.out.step hb3
        have HC := Bx.mk hc3.1
        clear hb3 a0 a1 a2 a3 a4 a5
        obtain ⟨-, c0, c1, c2, c3, c4, c5⟩ := hc3
        go_wp2_with fail
        refine (HB.out _).mono ?_
        rintro e w4 ⟨rfl, rfl⟩
        by_cases k1 : k = 1
        · subst k1
          go_wp2_with fail
          go_ret
          exact ⟨by simp [kindV], HC.out⟩
        · have e1 : (k == 1) = false := by simpa using k1
          by_cases k2 : k = 2
          · subst k2
            go_wp2_with fail
            go_ret
            exact ⟨by simp [kindV], HC.out⟩
          · have e2 : (k == 2) = false := by simpa using k2
            by_cases k3 : k = 3
            · subst k3
              go_wp2_with fail
              go_ret
              exact ⟨by simp [kindV], HC.out⟩
            · have e3 : (k == 3) = false := by simpa using k3
              by_cases k4 : k = 4
              · subst k4
                by_cases q : v = 0
                · subst q
                  by_cases q2 : l = 0
                  · subst q2
                    go_wp2_with fail
                    go_ret
                    exact ⟨by simp [kindV], HC.out⟩
                  · have q3 : (l == 0) = false := by simpa using q2
                    go_wp2_with fail
                    go_ret
                    exact ⟨by simp [kindV, q2], HC.out⟩
                · have q1 : (v == 0) = false := by simpa using q
                  go_wp2_with fail
                  go_ret
                  exact ⟨by simp [kindV, q], HC.out⟩
              · have e4 : (k == 4) = false := by simpa using k4
                go_wp2_with fail
                go_ret
                exact ⟨by simp [kindV, k1, k2, k3, k4], HC.out⟩
      · obtain ⟨b0, b1⟩ := (isDev_iff b).1 hb
        have HB := Bx.mk (show ∀ w, Calls Tryz.prog 60 #[.int .i64 b] w fun e w' => e = .returned (.bool true) ∧ w = w' from fun w => by have := isDev_c b w; rwa [hb] at this)
        have hbt : Int.tdiv b 8 = b / 8 := Int.tdiv_eq_ediv_of_nonneg b0
        by_cases hbd : b = d
        · have ho : otherV d b = false := by simp [otherV, hbd]
          rw [ho]; clear ho hb
          subst hbd
          go_enter Tryz.func62, Tryz.ntmps62
          go_wp2_with fail
          refine (HD.out _).mono ?_
          rintro e w1 ⟨rfl, rfl⟩
          go_wp2_with fail
          refine (HG.out _).mono ?_
          rintro e w2 ⟨rfl, hb2⟩
          have hc2 := HN.out.step hb2
          have HC2 := Bx.mk hc2
          obtain ⟨-, a0, a1, a2, a3, a4, a5⟩ := hc2
          clear hb2
          go_wp2_with fail
          refine (HG2.out _).mono ?_
          rintro e w3 ⟨rfl, hb3⟩
          have hc3 := HC2.out.step hb3
          have HC := Bx.mk hc3.1
          clear hb3 a0 a1 a2 a3 a4 a5
          obtain ⟨-, c0, c1, c2, c3, c4, c5⟩ := hc3
          go_wp2_with fail
          refine (HB.out _).mono ?_
          rintro e w4 ⟨rfl, rfl⟩
          by_cases k1 : k = 1
          · subst k1
            go_wp2_with fail
            go_ret
            exact ⟨by simp [kindV], HC.out⟩
          · have e1 : (k == 1) = false := by simpa using k1
            by_cases k2 : k = 2
            · subst k2
              go_wp2_with fail
              go_ret
              exact ⟨by simp [kindV], HC.out⟩
            · have e2 : (k == 2) = false := by simpa using k2
              by_cases k3 : k = 3
              · subst k3
                go_wp2_with fail
                go_ret
                exact ⟨by simp [kindV], HC.out⟩
              · have e3 : (k == 3) = false := by simpa using k3
                by_cases k4 : k = 4
                · subst k4
                  by_cases q : v = 0
                  · subst q
                    by_cases q2 : l = 0
                    · subst q2
                      go_wp2_with fail
                      go_ret
                      exact ⟨by simp [kindV], HC.out⟩
                    · have q3 : (l == 0) = false := by simpa using q2
                      go_wp2_with fail
                      go_ret
                      exact ⟨by simp [kindV, q2], HC.out⟩
                  · have q1 : (v == 0) = false := by simpa using q
                    go_wp2_with fail
                    go_ret
                    exact ⟨by simp [kindV, q], HC.out⟩
                · have e4 : (k == 4) = false := by simpa using k4
                  go_wp2_with fail
                  go_ret
                  exact ⟨by simp [kindV, k1, k2, k3, k4], HC.out⟩
        · have ebd : (b == d) = false := by simpa using hbd
          by_cases hq : b / 8 = d / 8
          · have ho : otherV d b = true := by simp [otherV, hb, hbd, hq]
            have eq8 : (b / 8 == d / 8) = true := by simpa using hq
            have HQQ := Bx.mk hq
            rw [ho]; clear ho hb hq
            go_enter Tryz.func62, Tryz.ntmps62
            go_wp2_with fail
            refine (HD.out _).mono ?_
            rintro e w1 ⟨rfl, rfl⟩
            go_wp2_with fail
            refine (HG.out _).mono ?_
            rintro e w2 ⟨rfl, hb2⟩
            have hc2 := HN.out.step hb2
            have HC2 := Bx.mk hc2
            obtain ⟨-, a0, a1, a2, a3, a4, a5⟩ := hc2
            clear hb2
            go_wp2_with fail
            refine (HG2.out _).mono ?_
            rintro e w3 ⟨rfl, hb3⟩
            have hc3 := HC2.out.step hb3
            have HC := Bx.mk hc3.1
            clear hb3 a0 a1 a2 a3 a4 a5
            obtain ⟨-, c0, c1, c2, c3, c4, c5⟩ := hc3
            go_wp2_with fail
            refine (HB.out _).mono ?_
            rintro e w4 ⟨rfl, rfl⟩
            by_cases k1 : k = 1
            · subst k1
              go_wp2_with fail
              go_ret
              exact ⟨by simp [kindV, hbd], HC.out⟩
            · have e1 : (k == 1) = false := by simpa using k1
              by_cases k2 : k = 2
              · subst k2
                go_wp2_with fail
                go_ret
                exact ⟨by simp [kindV, hbd], HC.out⟩
              · have e2 : (k == 2) = false := by simpa using k2
                by_cases k3 : k = 3
                · subst k3
                  go_wp2_with fail
                  go_ret
                  exact ⟨by simp [kindV, hbd], HC.out⟩
                · have e3 : (k == 3) = false := by simpa using k3
                  by_cases k4 : k = 4
                  · subst k4
                    by_cases q : v = 0
                    · subst q
                      by_cases q2 : l = 0
                      · subst q2
                        go_wp2_with fail
                        go_ret
                        exact ⟨by simp [kindV, hbd], HC.out⟩
                      · have q3 : (l == 0) = false := by simpa using q2
                        go_wp2_with fail
                        go_ret
                        exact ⟨by simp [kindV, q2, hbd], HC.out⟩
                    · have q1 : (v == 0) = false := by simpa using q
                      go_wp2_with fail
                      go_ret
                      exact ⟨by simp [kindV, q, hbd], HC.out⟩
                  · have e4 : (k == 4) = false := by simpa using k4
                    go_wp2_with fail
                    go_ret
                    exact ⟨by simp [kindV, k1, k2, k3, k4, hbd], HC.out⟩
          · have ho : otherV d b = false := by simp [otherV, hb, hbd, hq]
            have eq8 : (b / 8 == d / 8) = false := by simpa using hq
            have HQQ := Bx.mk hq
            rw [ho]; clear ho hb hq
            go_enter Tryz.func62, Tryz.ntmps62
            go_wp2_with fail
            refine (HD.out _).mono ?_
            rintro e w1 ⟨rfl, rfl⟩
            go_wp2_with fail
            refine (HG.out _).mono ?_
            rintro e w2 ⟨rfl, hb2⟩
            have hc2 := HN.out.step hb2
            have HC2 := Bx.mk hc2
            obtain ⟨-, a0, a1, a2, a3, a4, a5⟩ := hc2
            clear hb2
            go_wp2_with fail
            refine (HG2.out _).mono ?_
            rintro e w3 ⟨rfl, hb3⟩
            have hc3 := HC2.out.step hb3
            have HC := Bx.mk hc3.1
            clear hb3 a0 a1 a2 a3 a4 a5
            obtain ⟨-, c0, c1, c2, c3, c4, c5⟩ := hc3
            go_wp2_with fail
            refine (HB.out _).mono ?_
            rintro e w4 ⟨rfl, rfl⟩
            by_cases k1 : k = 1
            · subst k1
              go_wp2_with fail
              go_ret
              exact ⟨by simp [kindV, hbd], HC.out⟩
            · have e1 : (k == 1) = false := by simpa using k1
              by_cases k2 : k = 2
              · subst k2
                go_wp2_with fail
                go_ret
                exact ⟨by simp [kindV, hbd], HC.out⟩
              · have e2 : (k == 2) = false := by simpa using k2
                by_cases k3 : k = 3
                · subst k3
                  go_wp2_with fail
                  go_ret
                  exact ⟨by simp [kindV, hbd], HC.out⟩
                · have e3 : (k == 3) = false := by simpa using k3
                  by_cases k4 : k = 4
                  · subst k4
                    by_cases q : v = 0
                    · subst q
                      by_cases q2 : l = 0
                      · subst q2
                        go_wp2_with fail
                        go_ret
                        exact ⟨by simp [kindV, hbd], HC.out⟩
                      · have q3 : (l == 0) = false := by simpa using q2
                        go_wp2_with fail
                        go_ret
                        exact ⟨by simp [kindV, q2, hbd], HC.out⟩
                    · have q1 : (v == 0) = false := by simpa using q
                      go_wp2_with fail
                      go_ret
                      exact ⟨by simp [kindV, q, hbd], HC.out⟩
                  · have e4 : (k == 4) = false := by simpa using k4
                    go_wp2_with fail
                    go_ret
                    exact ⟨by simp [kindV, k1, k2, k3, k4, hbd], HC.out⟩
    · have hk : keysV v l = true := by simp [keysV, hev, hel]
      rw [gcheck_0 hel] at HG2
      rw [hk]; clear hk hev hel
      cases hb : isDev b
      · have ho : otherV d b = false := by simp [otherV, hb]
        have HB := Bx.mk (show ∀ w, Calls Tryz.prog 60 #[.int .i64 b] w fun e w' => e = .returned (.bool false) ∧ w = w' from fun w => by have := isDev_c b w; rwa [hb] at this)
        rw [ho]; clear ho hb
        go_enter Tryz.func62, Tryz.ntmps62
        go_wp2_with fail
        refine (HD.out _).mono ?_
        rintro e w1 ⟨rfl, rfl⟩
        go_wp2_with fail
        refine (HG.out _).mono ?_
        rintro e w2 ⟨rfl, hb2⟩
        have hc2 := HN.out.step hb2
        have HC2 := Bx.mk hc2
        obtain ⟨-, a0, a1, a2, a3, a4, a5⟩ := hc2
        clear hb2
        go_wp2_with fail
        refine (HG2.out _).mono ?_
        rintro e w3 ⟨rfl, hb3⟩
        have hc3 := HC2.out.step hb3
        have HC := Bx.mk hc3.1
        clear hb3 a0 a1 a2 a3 a4 a5
        obtain ⟨-, c0, c1, c2, c3, c4, c5⟩ := hc3
        go_wp2_with fail
        refine (HB.out _).mono ?_
        rintro e w4 ⟨rfl, rfl⟩
        by_cases k1 : k = 1
        · subst k1
          by_cases q : b = d
          · subst q
            go_wp2_with fail
            go_ret
            exact ⟨by simp [kindV], HC.out⟩
          · have q1 : (b == d) = false := by simpa using q
            go_wp2_with fail
            go_ret
            exact ⟨by simp [kindV, q], HC.out⟩
        · have e1 : (k == 1) = false := by simpa using k1
          by_cases k2 : k = 2
          · subst k2
            go_wp2_with fail
            go_ret
            exact ⟨by simp [kindV], HC.out⟩
          · have e2 : (k == 2) = false := by simpa using k2
            by_cases k3 : k = 3
            · subst k3
              by_cases q : b = -1
              · have q1 : (b == -1) = true := by simpa using q
                go_wp2_with fail
                go_ret
                exact ⟨by simp [kindV, q], HC.out⟩
              · have q1 : (b == -1) = false := by simpa using q
                go_wp2_with fail
                go_ret
                exact ⟨by simp [kindV, q], HC.out⟩
            · have e3 : (k == 3) = false := by simpa using k3
              by_cases k4 : k = 4
              · subst k4
                by_cases q : v = 0
                · subst q
                  by_cases q2 : l = 0
                  · subst q2
                    go_wp2_with fail
                    go_ret
                    exact ⟨by simp [kindV], HC.out⟩
                  · have q3 : (l == 0) = false := by simpa using q2
                    go_wp2_with fail
                    go_ret
                    exact ⟨by simp [kindV, q2], HC.out⟩
                · have q1 : (v == 0) = false := by simpa using q
                  go_wp2_with fail
                  go_ret
                  exact ⟨by simp [kindV, q], HC.out⟩
              · have e4 : (k == 4) = false := by simpa using k4
                go_wp2_with fail
                go_ret
                exact ⟨by simp [kindV, k1, k2, k3, k4], HC.out⟩
      · obtain ⟨b0, b1⟩ := (isDev_iff b).1 hb
        have HB := Bx.mk (show ∀ w, Calls Tryz.prog 60 #[.int .i64 b] w fun e w' => e = .returned (.bool true) ∧ w = w' from fun w => by have := isDev_c b w; rwa [hb] at this)
        have hbt : Int.tdiv b 8 = b / 8 := Int.tdiv_eq_ediv_of_nonneg b0
        by_cases hbd : b = d
        · have ho : otherV d b = false := by simp [otherV, hbd]
          rw [ho]; clear ho hb
          subst hbd
          go_enter Tryz.func62, Tryz.ntmps62
          go_wp2_with fail
          refine (HD.out _).mono ?_
          rintro e w1 ⟨rfl, rfl⟩
          go_wp2_with fail
          refine (HG.out _).mono ?_
          rintro e w2 ⟨rfl, hb2⟩
          have hc2 := HN.out.step hb2
          have HC2 := Bx.mk hc2
          obtain ⟨-, a0, a1, a2, a3, a4, a5⟩ := hc2
          clear hb2
          go_wp2_with fail
          refine (HG2.out _).mono ?_
          rintro e w3 ⟨rfl, hb3⟩
          have hc3 := HC2.out.step hb3
          have HC := Bx.mk hc3.1
          clear hb3 a0 a1 a2 a3 a4 a5
          obtain ⟨-, c0, c1, c2, c3, c4, c5⟩ := hc3
          go_wp2_with fail
          refine (HB.out _).mono ?_
          rintro e w4 ⟨rfl, rfl⟩
          by_cases k1 : k = 1
          · subst k1
            go_wp2_with fail
            go_ret
            exact ⟨by simp [kindV], HC.out⟩
          · have e1 : (k == 1) = false := by simpa using k1
            by_cases k2 : k = 2
            · subst k2
              go_wp2_with fail
              go_ret
              exact ⟨by simp [kindV], HC.out⟩
            · have e2 : (k == 2) = false := by simpa using k2
              by_cases k3 : k = 3
              · subst k3
                have q : ¬ b = -1 := by omega
                have q1 : (b == -1) = false := by simpa using q
                go_wp2_with fail
                go_ret
                exact ⟨by simp [kindV, q], HC.out⟩
              · have e3 : (k == 3) = false := by simpa using k3
                by_cases k4 : k = 4
                · subst k4
                  by_cases q : v = 0
                  · subst q
                    by_cases q2 : l = 0
                    · subst q2
                      go_wp2_with fail
                      go_ret
                      exact ⟨by simp [kindV], HC.out⟩
                    · have q3 : (l == 0) = false := by simpa using q2
                      go_wp2_with fail
                      go_ret
                      exact ⟨by simp [kindV, q2], HC.out⟩
                  · have q1 : (v == 0) = false := by simpa using q
                    go_wp2_with fail
                    go_ret
                    exact ⟨by simp [kindV, q], HC.out⟩
                · have e4 : (k == 4) = false := by simpa using k4
                  go_wp2_with fail
                  go_ret
                  exact ⟨by simp [kindV, k1, k2, k3, k4], HC.out⟩
        · have ebd : (b == d) = false := by simpa using hbd
          by_cases hq : b / 8 = d / 8
          · have ho : otherV d b = true := by simp [otherV, hb, hbd, hq]
            have eq8 : (b / 8 == d / 8) = true := by simpa using hq
            have HQQ := Bx.mk hq
            rw [ho]; clear ho hb hq
            go_enter Tryz.func62, Tryz.ntmps62
            go_wp2_with fail
            refine (HD.out _).mono ?_
            rintro e w1 ⟨rfl, rfl⟩
            go_wp2_with fail
            refine (HG.out _).mono ?_
            rintro e w2 ⟨rfl, hb2⟩
            have hc2 := HN.out.step hb2
            have HC2 := Bx.mk hc2
            obtain ⟨-, a0, a1, a2, a3, a4, a5⟩ := hc2
            clear hb2
            go_wp2_with fail
            refine (HG2.out _).mono ?_
            rintro e w3 ⟨rfl, hb3⟩
            have hc3 := HC2.out.step hb3
            have HC := Bx.mk hc3.1
            clear hb3 a0 a1 a2 a3 a4 a5
            obtain ⟨-, c0, c1, c2, c3, c4, c5⟩ := hc3
            go_wp2_with fail
            refine (HB.out _).mono ?_
            rintro e w4 ⟨rfl, rfl⟩
            by_cases k1 : k = 1
            · subst k1
              go_wp2_with fail
              go_ret
              exact ⟨by simp [kindV, hbd], HC.out⟩
            · have e1 : (k == 1) = false := by simpa using k1
              by_cases k2 : k = 2
              · subst k2
                go_wp2_with fail
                go_ret
                exact ⟨by simp [kindV, hbd], HC.out⟩
              · have e2 : (k == 2) = false := by simpa using k2
                by_cases k3 : k = 3
                · subst k3
                  have q : ¬ b = -1 := by omega
                  have q1 : (b == -1) = false := by simpa using q
                  go_wp2_with fail
                  go_ret
                  exact ⟨by simp [kindV, q, hbd], HC.out⟩
                · have e3 : (k == 3) = false := by simpa using k3
                  by_cases k4 : k = 4
                  · subst k4
                    by_cases q : v = 0
                    · subst q
                      by_cases q2 : l = 0
                      · subst q2
                        go_wp2_with fail
                        go_ret
                        exact ⟨by simp [kindV, hbd], HC.out⟩
                      · have q3 : (l == 0) = false := by simpa using q2
                        go_wp2_with fail
                        go_ret
                        exact ⟨by simp [kindV, q2, hbd], HC.out⟩
                    · have q1 : (v == 0) = false := by simpa using q
                      go_wp2_with fail
                      go_ret
                      exact ⟨by simp [kindV, q, hbd], HC.out⟩
                  · have e4 : (k == 4) = false := by simpa using k4
                    go_wp2_with fail
                    go_ret
                    exact ⟨by simp [kindV, k1, k2, k3, k4, hbd], HC.out⟩
          · have ho : otherV d b = false := by simp [otherV, hb, hbd, hq]
            have eq8 : (b / 8 == d / 8) = false := by simpa using hq
            have HQQ := Bx.mk hq
            rw [ho]; clear ho hb hq
            go_enter Tryz.func62, Tryz.ntmps62
            go_wp2_with fail
            refine (HD.out _).mono ?_
            rintro e w1 ⟨rfl, rfl⟩
            go_wp2_with fail
            refine (HG.out _).mono ?_
            rintro e w2 ⟨rfl, hb2⟩
            have hc2 := HN.out.step hb2
            have HC2 := Bx.mk hc2
            obtain ⟨-, a0, a1, a2, a3, a4, a5⟩ := hc2
            clear hb2
            go_wp2_with fail
            refine (HG2.out _).mono ?_
            rintro e w3 ⟨rfl, hb3⟩
            have hc3 := HC2.out.step hb3
            have HC := Bx.mk hc3.1
            clear hb3 a0 a1 a2 a3 a4 a5
            obtain ⟨-, c0, c1, c2, c3, c4, c5⟩ := hc3
            go_wp2_with fail
            refine (HB.out _).mono ?_
            rintro e w4 ⟨rfl, rfl⟩
            by_cases k1 : k = 1
            · subst k1
              go_wp2_with fail
              go_ret
              exact ⟨by simp [kindV, hbd], HC.out⟩
            · have e1 : (k == 1) = false := by simpa using k1
              by_cases k2 : k = 2
              · subst k2
                go_wp2_with fail
                go_ret
                exact ⟨by simp [kindV, hbd], HC.out⟩
              · have e2 : (k == 2) = false := by simpa using k2
                by_cases k3 : k = 3
                · subst k3
                  have q : ¬ b = -1 := by omega
                  have q1 : (b == -1) = false := by simpa using q
                  go_wp2_with fail
                  go_ret
                  exact ⟨by simp [kindV, q, hbd], HC.out⟩
                · have e3 : (k == 3) = false := by simpa using k3
                  by_cases k4 : k = 4
                  · subst k4
                    by_cases q : v = 0
                    · subst q
                      by_cases q2 : l = 0
                      · subst q2
                        go_wp2_with fail
                        go_ret
                        exact ⟨by simp [kindV, hbd], HC.out⟩
                      · have q3 : (l == 0) = false := by simpa using q2
                        go_wp2_with fail
                        go_ret
                        exact ⟨by simp [kindV, q2, hbd], HC.out⟩
                    · have q1 : (v == 0) = false := by simpa using q
                      go_wp2_with fail
                      go_ret
                      exact ⟨by simp [kindV, q, hbd], HC.out⟩
                  · have e4 : (k == 4) = false := by simpa using k4
                    go_wp2_with fail
                    go_ret
                    exact ⟨by simp [kindV, k1, k2, k3, k4, hbd], HC.out⟩
end Go.Proofs.YtjbojoeafdkkeaaGreatDoor

namespace Go.Proofs.YtjbojoeafdkkeaaGreatDoor
open Go Go.RowKit Go.Lib

def val1 (n : Int) : List Value := [.int .i64 1, .int .i64 n, .string ⟨#[]⟩, .slice none 0 0]
def vals (l : List Int) : List Value := (l.map val1).flatten
theorem vals_len : ∀ l : List Int, (vals l).length = l.length * 4
  | [] => rfl
  | n :: l => by
    have h := vals_len l
    unfold vals at h ⊢
    simp only [List.map_cons, List.flatten_cons, List.length_append, List.length_cons, val1, List.length_nil] at h ⊢
    omega
theorem vals_append (l m : List Int) : vals l ++ vals m = vals (l ++ m) := by simp [vals]
/-- The slice v is this run's own and holds the values of these integers. -/
def Vals (w : World) (v : Value) (l : List Int) : Prop := w.ownsRow 0 59 4 v l.length (vals l)
theorem vals_nil (w : World) : Vals w (.slice none 0 0) [] := ⟨rfl, .inl ⟨rfl, rfl⟩⟩
theorem Tryz.info_val : (Tryz.prog.info? 59).map (fun i => (i.size, i.bytes)) = some (4, 56) ∧ (Tryz.prog.info? 59).bind (·.zero) = some (.agg #[.int .i64 0, .int .i64 0, .string ⟨#[]⟩, .slice none 0 0]) := ⟨by kernel_rfl, by kernel_rfl⟩
theorem val_facts : ∃ i, Tryz.prog.info? 59 = some i ∧ i.zero = some (.agg #[.int .i64 0, .int .i64 0, .string ⟨#[]⟩, .slice none 0 0]) ∧ i.size = 4 ∧ i.bytes = 56 := by
  obtain ⟨h1, h2⟩ := Tryz.info_val
  cases hq : Tryz.prog.info? 59 with
  | none => rw [hq] at h1; cases h1
  | some i =>
    rw [hq] at h1 h2
    simp only [Option.map_some, Option.some.injEq, Prod.mk.injEq, Option.bind_some] at h1 h2
    exact ⟨i, rfl, h2, h1.1, h1.2⟩
theorem wpList_appV {w : World} {ops : Array Oper} {rest : List Oper} {o : Oper} {a : Act} {Q : Exit → Act → World → Prop} (hgd : o.guard = none) (s x : Operand)
    (ho : o.op = .call { callee := .builtin .append, args := #[s, x], argTypes := #[57, 57] })
    (v : Value) (l : List Int) (hs : a.eval s = v) (hown : Vals w v l) (B c : Nat) (n : Int) (hx : a.eval x = .slice (some ⟨B, 0, none⟩) 1 c)
    (h0 : w.cell? ⟨B, 0, none⟩ = some (.int .i64 1)) (h1 : w.cell? ⟨B, 1, none⟩ = some (.int .i64 n)) (h2 : w.cell? ⟨B, 2, none⟩ = some (.string ⟨#[]⟩)) (h3 : w.cell? ⟨B, 3, none⟩ = some (.slice none 0 0)) (hlen : l.length ≤ 1000)
    (h : ∀ v' w', Vals w' v' (l ++ [n]) → Since w v w' v' → wpList Tryz.prog ops Q rest (a.put o.dst v') w') : wpList Tryz.prog ops Q (o :: rest) a w := by
  obtain ⟨i, hi, hz, e1, e2⟩ := val_facts
  refine wpList_app hgd s x 57 ho 59 i _ (by kernel_rfl) hi hz (by rw [e1]; rfl) (by omega) v l.length (vals l) hs (by rw [e1]; exact hown) ⟨B, 0, none⟩ 1 c (val1 n) hx (by decide) (by rw [e1]; rfl) ?_ ?_ (by unfold maxLen; omega) (by rw [e2]; omega) ?_
  · intro j u hj
    have ea : (⟨B, 0, none⟩ : Addr).add j = ⟨B, j, none⟩ := by unfold Addr.add; split <;> simp_all
    rw [ea]
    match j, hj with
    | 0, hj => cases hj; exact h0
    | 1, hj => cases hj; exact h1
    | 2, hj => cases hj; exact h2
    | 3, hj => cases hj; exact h3
    | j + 4, hj => simp [val1] at hj
  · intro u hu
    simp only [val1, List.mem_cons, List.not_mem_nil, or_false] at hu
    rcases hu with rfl | rfl | rfl | rfl <;> rfl
  · intro v' w' hw hg hn
    refine h v' w' ?_ (.step hg hn)
    unfold Vals
    rw [e1] at hw
    have e : vals l ++ val1 n = vals (l ++ [n]) := by rw [← vals_append]; simp [vals]
    rw [e] at hw
    rw [List.length_append]
    exact hw
theorem vals_get : ∀ (l : List Int) (i : Nat) (h : i < l.length) (j : Nat), j < 4 → (vals l)[i * 4 + j]? = (val1 l[i])[j]?
  | n :: l, 0, _, j, hj => by
    have e : vals (n :: l) = val1 n ++ vals l := by simp [vals]
    rw [e, List.getElem?_append_left (by simp [val1]; omega)]
    simp
  | n :: l, i + 1, h, j, hj => by
    have e : vals (n :: l) = val1 n ++ vals l := by simp [vals]
    have h2 := vals_get l i (by simpa using h) j hj
    rw [e, List.getElem?_append_right (by simp [val1]; omega)]
    have e2 : (i + 1) * 4 + j - (val1 n).length = i * 4 + j := by simp [val1]; omega
    rw [e2, h2]
    simp
theorem ints_of_vals {w : World} {g c n : Nat} {l : List Int} (h : Vals w (.slice (some ⟨g, 0, none⟩) n c) l) : IntsAt w g 0 l := fun i hi => by
  have h2 := h.cells (g := g) rfl
  have q : ∀ j u, j < 4 → (val1 l[i])[j]? = some u → w.cell? ⟨g, 0 + i * 4 + j, none⟩ = some u := fun j u hj hu => by
    have := h2 (i * 4 + j) u (by rw [vals_get l i hi j hj]; exact hu)
    have ea : (⟨g, 0, none⟩ : Addr).add (i * 4 + j) = ⟨g, i * 4 + j, none⟩ := by unfold Addr.add; split <;> simp_all
    rw [ea] at this
    rw [Nat.zero_add]
    exact this
  exact ⟨q 0 _ (by decide) rfl, q 1 _ (by decide) rfl, q 2 _ (by decide) rfl, q 3 _ (by decide) rfl⟩
end Go.Proofs.YtjbojoeafdkkeaaGreatDoor

namespace Go.Proofs.YtjbojoeafdkkeaaGreatDoor
open Go Go.RowKit Go.Lib

def tCert : ByteArray := ⟨#[99, 101, 114, 116]⟩
def msgN (k d v l n b : Int) : List Int := tagged tCert (encL [k, d, v, l, n, b])
theorem idx6 (xs : List Int) (hx : xs.length = 6) (k d v l n b : Int) (e : xs = [k, d, v, l, n, b]) (j : Nat) (hj : j < 6) : ∀ w, (Instr.index 174 (.agg #[.int .i64 k, .int .i64 d, .int .i64 v, .int .i64 l, .int .i64 n, .int .i64 b]) (.int .i64 (j : Int))).run Tryz.prog w = .ok (.int .i64 (xs.getD j 0)) w := by
  subst e
  have h : j = 0 ∨ j = 1 ∨ j = 2 ∨ j = 3 ∨ j = 4 ∨ j = 5 := by omega
  rcases h with rfl | rfl | rfl | rfl | rfl | rfl <;> intro w <;> kernel_rfl

theorem Vals.other {w : World} {v : Value} {l : List Int} (h : Vals w v l) {a : Addr} (ha : some a.block ≠ v.ownBlock) (u : Value) : Vals (w.setCell a u) v l := by
  refine ⟨h.1, ?_⟩
  rcases h.2 with h2 | ⟨g, cap, cur, hv, h0, hh, r⟩
  · exact .inl h2
  · refine .inr ⟨g, cap, cur, hv, h0, ?_, r⟩
    rw [Below.heap_setCell _ _ _ _ (by rintro rfl; exact ha (by rw [hv]; rfl))]
    exact hh

/-- The list value in its variable: its slice is v. -/
def LV (W : World) (K : Nat) (v : Value) : Prop := W.cell? ⟨K, 0, none⟩ = some (.int .i64 3) ∧ W.cell? ⟨K, 1, none⟩ = some (.int .i64 0) ∧ W.cell? ⟨K, 2, none⟩ = some (.string ⟨#[]⟩) ∧ W.cell? ⟨K, 3, none⟩ = some v ∧ W.frozen? ⟨K, 3, none⟩ = false
theorem LV.new (W : World) : LV (W.alloc (.cells #[.int .i64 3, .int .i64 0, .string ⟨#[]⟩, .slice none 0 0] 59)) W.heap.size (.slice none 0 0) :=
  ⟨cells_new _ _ _ 0, cells_new _ _ _ 1, cells_new _ _ _ 2, cells_new _ _ _ 3, by simp only [World.frozen?, World.alloc_heap_new]; simp⟩

theorem LV.of_heap {W W2 : World} {K : Nat} {v : Value} (h : LV W K v) (e : W2.heap[K]? = W.heap[K]?) : LV W2 K v :=
  ⟨(World.cell?_of_block (w := W) (a := ⟨K, 0, none⟩) e).trans h.1, (World.cell?_of_block (w := W) (a := ⟨K, 1, none⟩) e).trans h.2.1, (World.cell?_of_block (w := W) (a := ⟨K, 2, none⟩) e).trans h.2.2.1, (World.cell?_of_block (w := W) (a := ⟨K, 3, none⟩) e).trans h.2.2.2.1, (World.frozen?_of_block (w := W) (a := ⟨K, 3, none⟩) e).trans h.2.2.2.2⟩
theorem LV.put {W : World} {K : Nat} {v : Value} (h : LV W K v) (u : Value) : LV (W.setCell ⟨K, 3, none⟩ u) K u := by
  have q : ∀ i, i ≠ 3 → (W.setCell ⟨K, 3, none⟩ u).cell? ⟨K, i, none⟩ = W.cell? ⟨K, i, none⟩ := fun i hi => World.cell?_setCell_other _ _ _ _ (by intro e; have := congrArg Addr.off e; simp at this; omega)
  exact ⟨(q 0 (by decide)).trans h.1, (q 1 (by decide)).trans h.2.1, (q 2 (by decide)).trans h.2.2.1, World.cell?_setCell_same W _ _ h.2.2.2.1, by rw [World.frozen?_setCell]; exact h.2.2.2.2⟩
theorem LV.lt {W : World} {K : Nat} {v : Value} (h : LV W K v) : K < W.heap.size := cell_lt h.1

theorem slice_of_bytes {w : World} {v : Value} {l : List Int} (h : Bytes w v l) (h0 : 0 < l.length) : ∃ g c, v = .slice (some ⟨g, 0, none⟩) l.length c ∧ l.length ≤ c ∧ c ≤ 9223372036854775807 ∧ U8 w g 0 l ∧ g < w.heap.size := by
  obtain ⟨g, c, e, h1, h2⟩ : ∃ g c, v = .slice (some ⟨g, 0, none⟩) l.length c ∧ l.length ≤ c ∧ c ≤ maxLen := by
    rcases h.2 with ⟨_, h2⟩ | ⟨g, c, cur, hv1, _, _, h1, h2, _⟩
    · omega
    · exact ⟨g, c, hv1, h1, h2⟩
  subst e
  have hu := u8_of_bytes h
  exact ⟨g, c, rfl, h1, by unfold maxLen at h2; omega, hu, cell_lt (hu 0 h0)⟩
theorem encL_pos (l : List Int) : 0 < (encL l).length := by unfold encL; simp
/-- The frame of a call of Tagged on bytes of this run's own. -/
theorem tagged_own {w w1 : World} {v : Value} {l : List Int} (t : ByteArray) (hL : Laid w1) (hv : Bytes w1 v l) (h0 : 0 < l.length) (hl : l.length ≤ 9000) (ht0 : 0 < t.size) (ht : t.size ≤ 100) :
    ∃ g c, v = .slice (some ⟨g, 0, none⟩) l.length c ∧ Calls Tryz.prog 30 #[.string t, .slice (some ⟨g, 0, none⟩) l.length c] w1 fun e w' => e = .returned (dv (tagged t l)) ∧ Below w1.heap.size w1 w' := by
  obtain ⟨g, c, e, h1, h2, hu, hg⟩ := slice_of_bytes hv h0
  exact ⟨g, c, e, tagged_c t g 0 c l w1 hL hu hg h0 hl ht0 ht⟩

set_option maxHeartbeats 4000000 in
set_option maxRecDepth 100000 in
theorem message_c (k d v l n b r s : Int) (w : World) (hL : Laid w) (hr : ∀ x ∈ [k, d, v, l, n, b], -9223372036854775808 ≤ x ∧ x ≤ 9223372036854775807) :
    Calls Tryz.prog 64 #[certV k d v l n b r s] w fun e w' => ∃ D, e = .returned (.slice (some ⟨D, 0, none⟩) 32 32) ∧ w.heap.size ≤ D ∧ Blk w' D .u8 (msgN k d v l n b) ∧ Below w.heap.size w w' := by
  obtain ⟨xs, hxs⟩ : ∃ xs, xs = [k, d, v, l, n, b] := ⟨_, rfl⟩
  have hxl : xs.length = 6 := by rw [hxs]; rfl
  have HIX := Bx.mk (idx6 xs hxl k d v l n b hxs)
  have HXS := Bx.mk hxs
  rw [← hxs] at hr
  have HR := Bx.mk hr; have HL := Bx.mk hL
  clear hxs hr hL
  unfold certV
  go_enter Tryz.func64, Tryz.ntmps64
  go_wp2_with fail
  have hV := LV.new (w.alloc (.cells #[.int .i64 k, .int .i64 d, .int .i64 v, .int .i64 l, .int .i64 n, .int .i64 b, .int .i64 r, .int .i64 s] 44))
  rw [World.size_alloc] at hV
  have hB := Bx.mk (((Below.refl w.heap.size w).alloc (Nat.le_refl _) (.cells #[.int .i64 k, .int .i64 d, .int .i64 v, .int .i64 l, .int .i64 n, .int .i64 b, .int .i64 r, .int .i64 s] 44)).alloc (by simp) (.cells #[.int .i64 3, .int .i64 0, .string ⟨#[]⟩, .slice none 0 0] 59))
  have HV := Bx.mk hV
  clear hV
  go_loopg [23] 6 (fun g s23 wr => ∃ (j : Nat) (u : Value), s23 = .int .i64 j ∧ j ≤ 6 ∧ Bx (g = 6 - j) ∧ Bx (LV wr (w.heap.size + 1) u) ∧ Bx (Vals wr u (xs.take j)) ∧ Bx (∀ q, u.ownBlock = some q → w.heap.size + 2 ≤ q) ∧ Bx (Below w.heap.size w wr))
  case atStart => exact ⟨0, _, rfl, by omega, .mk rfl, HV, .mk (vals_nil _), .mk (by intro q hq; cases hq), hB⟩
  case round =>
    obtain ⟨j, u, rfl, hj, hg, hlv, hvs, hown, hbw⟩ := hrel
    clear HV hB
    by_cases hlt : j < 6
    · have hix := HIX.out j hlt
      obtain ⟨x, hx⟩ : ∃ x, x = xs.getD j 0 := ⟨_, rfl⟩
      rw [← hx] at hix
      have HX := Bx.mk hx
      obtain ⟨a0, a1, a2, a3, af⟩ := hlv.out
      have HLV := hlv
      clear hx hlv
      have hle : (xs.take j).length ≤ 1000 := by rw [List.length_take]; omega
      go_wp2_with (at_builtin; go_must (refine wpList_appV rfl (.tmp 27) (.tmp 30) rfl u (xs.take j) rfl ?c1 wr.heap.size 1 x rfl (cells_new _ _ _ 0) (cells_new _ _ _ 1) (cells_new _ _ _ 2) (cells_new _ _ _ 3) hle ?_))
      case c1 => exact hvs.out.alloc _
      intro u2 w2 hv2 hs2
      have hK := HLV.out.lt
      have hne : some (w.heap.size + 1) ≠ u.ownBlock := by intro e; have := hown.out _ e.symm; omega
      have hszA : ∀ o, (wr.alloc o).heap.size = wr.heap.size + 1 := fun o => World.size_alloc _ _
      have HLV1 := HLV.out.of_heap (Below.heap_alloc wr (.cells #[.int .i64 1, .int .i64 x, .string ⟨#[]⟩, .slice none 0 0] 59) _ hK)
      have HLV2 := Bx.mk (HLV1.of_heap (hs2.grown.block _ (by rw [hszA]; omega) hne))
      have hB1 := hbw.out.alloc hbw.out.size (.cells #[.int .i64 1, .int .i64 x, .string ⟨#[]⟩, .slice none 0 0] 59)
      have hB2 := Below.grown hB1 hs2.grown hB1.size (by intro q hq; have := hown.out q hq; omega)
      obtain ⟨g2, c2, n2, rfl⟩ : ∃ g c n, u2 = .slice (some ⟨g, 0, none⟩) n c := by
        rcases hv2.2 with ⟨_, h⟩ | ⟨g, c, cur, hv1, _⟩
        · rw [List.length_append] at h; simp at h
        · exact ⟨g, c, _, hv1⟩
      have hne2 := hs2.ne (b := w.heap.size + 1) (by rw [hszA]; omega) hne
      have hB3 := Bx.mk (Below.grown hB2 (grown_set (grown_refl w2 (some (w.heap.size + 1))) (a := ⟨w.heap.size + 1, 3, none⟩) rfl (.slice (some ⟨g2, 0, none⟩) n2 c2)) hB2.size (by intro q hq; cases hq; omega))
      have hV3 := Bx.mk (hv2.other (a := ⟨w.heap.size + 1, 3, none⟩) hne2 (.slice (some ⟨g2, 0, none⟩) n2 c2))
      have hO2 : Bx (∀ q, (Value.slice (some ⟨g2, 0, none⟩) n2 c2).ownBlock = some q → w.heap.size + 2 ≤ q) := .mk (by
        intro q hq
        rcases hs2.near with e | e
        · rw [e] at hq; exact hown.out q hq
        · have := e q hq; rw [hszA] at this; omega)
      obtain ⟨b0, b1, b2, b3, bf⟩ := HLV2.out
      clear a0 a1 a2 a3 af HLV HLV1 hB1 hB2 hv2 hs2 hvs hown hbw hix hne hne2 hszA
      go_wp2_with fail
      go_roundg (6 - j - 1)
      case measure => have := hg.out; omega
      case rel =>
        refine ⟨j + 1, .slice (some ⟨g2, 0, none⟩) n2 c2, by go_num, by omega, .mk (by omega), .mk (HLV2.out.put _), .mk ?_, hO2, hB3⟩
        have h := hV3.out
        rw [List.take_succ_eq_append_getElem (by omega : j < xs.length)]
        rw [HX.out] at h
        have e : xs.getD j 0 = xs[j] := by simp [List.getD, List.getElem?_eq_getElem (by omega : j < xs.length)]
        rwa [e] at h
    · obtain rfl : j = 6 := by omega
      obtain ⟨a0, a1, a2, a3, af⟩ := hlv.out
      rw [List.take_of_length_le (by omega)] at hvs
      clear hlt hj hg
      obtain ⟨g, c, rfl⟩ : ∃ g c, u = .slice (some ⟨g, 0, none⟩) xs.length c := by
        rcases hvs.out.2 with ⟨_, h⟩ | ⟨g, c, cur, hv1, _⟩
        · omega
        · exact ⟨g, c, hv1⟩
      have hIA := ints_of_vals hvs.out
      have hEC := Bx.mk (encode_c g 0 c xs wr (by omega) HR.out hIA (cell_lt (hIA 0 (by omega)).1))
      rw [hxl] at hEC
      go_wp2_with fail
      refine hEC.out.mono ?_
      rintro e w2 ⟨v2, rfl, hbt, hb2, hown2⟩
      have B2 := Bx.mk (below_step hbw.out hb2 (Nat.le_refl _))
      have hl2 := encL_len xs
      obtain ⟨g2, c2, e2, ht⟩ := tagged_own (w := w) tCert (HL.out.below B2.out (Nat.le_refl _)) hbt (encL_pos xs) (by omega) (by decide) (by decide)
      subst e2
      have HT := Bx.mk ht
      obtain ⟨N, hN⟩ : ∃ N, N = (encL xs).length := ⟨_, rfl⟩
      rw [← hN] at HT
      rw [← hN]
      clear a0 a1 a2 a3 af hbt hb2 hown2 ht hvs hIA hEC hN hl2
      go_wp2_with fail
      refine HT.out.mono ?_
      rintro e w3 ⟨rfl, hb3⟩
      have B3 := Bx.mk (below_step B2.out hb3 (Nat.le_refl _))
      have hm : tagged tCert (encL xs) = msgN k d v l n b := by rw [HXS.out]; rfl
      rw [hm]
      have HM := Bx.mk (show (msgN k d v l n b).length = 32 from tagged_len _ _)
      have E3 := blk_new w3 .u8 (List.replicate 32 0) 35
      have B4 := Bx.mk (B3.out.alloc B3.out.size (.cells ((List.replicate 32 0).map (.int .u8)).toArray 35))
      clear hm HT hb3
      go_wp2_with (refine wpList_sdg rfl (.tmp 8) (.tmp 40) rfl w3.heap.size rfl (msgN k d v l n b) rfl HM.out (List.replicate 32 0) E3 (by simp) ?_)
      intro w5 E5 hg5
      have B5 := Bx.mk (Below.grown B4.out hg5 B4.out.size (by intro q hq; cases hq; exact B3.out.size))
      have E5 := Bx.mk E5
      clear hg5 E3
      go_wp2_with fail
      go_ret
      exact ⟨_, rfl, B3.out.size, E5.out, B5.out⟩
end Go.Proofs.YtjbojoeafdkkeaaGreatDoor

namespace Go.Proofs.YtjbojoeafdkkeaaGreatDoor
open Go Go.RowKit Go.Lib

/-- Block B holds these values, and may be written. -/
def Row (w : World) (B : Nat) (cs : List Value) : Prop := ∀ i, (h : i < cs.length) → w.cell? ⟨B, i, none⟩ = some cs[i] ∧ w.frozen? ⟨B, i, none⟩ = false
theorem Row.lt {w : World} {B : Nat} {cs : List Value} (h : Row w B cs) (hl : 0 < cs.length) : B < w.heap.size := cell_lt (h 0 hl).1
theorem Row.get {w : World} {B : Nat} {cs : List Value} (h : Row w B cs) {i : Nat} {v : Value} (hi : cs[i]? = some v) : w.cell? ⟨B, i, none⟩ = some v := by
  obtain ⟨hl, rfl⟩ := List.getElem?_eq_some_iff.1 hi
  exact (h i hl).1
theorem Row.fr {w : World} {B : Nat} {cs : List Value} (h : Row w B cs) {i : Nat} (hi : i < cs.length) : w.frozen? ⟨B, i, none⟩ = false := (h i hi).2
theorem Row.of_heap {w w' : World} {B : Nat} {cs : List Value} (h : Row w B cs) (e : w'.heap[B]? = w.heap[B]?) : Row w' B cs := fun j hj =>
  ⟨(World.cell?_of_block (w := w) (a := ⟨B, j, none⟩) e).trans (h j hj).1, (World.frozen?_of_block (w := w) (a := ⟨B, j, none⟩) e).trans (h j hj).2⟩
theorem Row.below {w w' : World} {B N : Nat} {cs : List Value} (h : Row w B cs) (hb : Below N w w') (hB : B < N) : Row w' B cs := h.of_heap (hb.block B hB)
theorem Row.alloc {w : World} {B : Nat} {cs : List Value} (h : Row w B cs) (hB : B < w.heap.size) (o : Obj) : Row (w.alloc o) B cs := h.of_heap (Below.heap_alloc _ _ _ hB)
theorem Row.grown {w w' : World} {B : Nat} {r : Option Nat} {cs : List Value} (h : Row w B cs) (hg : w.grownBy w' r) (hB : B < w.heap.size) (hr : some B ≠ r) : Row w' B cs := h.of_heap (hg.block B hB hr)
theorem Row.other {w : World} {B : Nat} {cs : List Value} (h : Row w B cs) {a : Addr} (ha : a.block ≠ B) (u : Value) : Row (w.setCell a u) B cs := fun j hj =>
  ⟨by rw [World.cell?_setCell_other _ _ _ _ (by intro e; exact ha (congrArg Addr.block e))]; exact (h j hj).1, by rw [World.frozen?_setCell]; exact (h j hj).2⟩
theorem row_new (w : World) (cs : List Value) (t : TypeId) : Row (w.alloc (.cells cs.toArray t)) w.heap.size cs := by
  intro j hj
  refine ⟨?_, ?_⟩
  · rw [cells_new]; simp [hj]
  · simp only [World.frozen?, World.alloc_heap_new]; simp
theorem Row.set {w : World} {B : Nat} {cs : List Value} (h : Row w B cs) (i : Nat) (x : Value) : Row (w.setCell ⟨B, i, none⟩ x) B (cs.set i x) := by
  intro j hj
  rw [List.length_set] at hj
  have hc := h j hj
  refine ⟨?_, by rw [World.frozen?_setCell]; exact hc.2⟩
  by_cases e : i = j
  · subst e
    rw [List.getElem_set_self]
    exact World.cell?_setCell_same w _ _ hc.1
  · rw [List.getElem_set_ne e]
    rw [World.cell?_setCell_other _ _ _ _ (by intro e2; have := congrArg Addr.off e2; simp at this; omega)]
    exact hc.1
def setV (l : List Value) (o : Nat) : List Value → List Value
  | [] => l
  | x :: xs => setV (l.set o x) (o + 1) xs
theorem Row.setCells {B : Nat} : ∀ (xs : List Value) (o : Nat) {w : World} {cs : List Value}, Row w B cs → Row (w.setCells B o xs) B (setV cs o xs)
  | [], _, _, _, h => h
  | x :: xs, o, _, _, h => Row.setCells xs (o + 1) (h.set o x)
theorem setV_mid : ∀ (xs pre ys post : List Value), ys.length = xs.length → setV (pre ++ (ys ++ post)) pre.length xs = pre ++ (xs ++ post)
  | [], pre, ys, post, h => by obtain rfl : ys = [] := List.eq_nil_of_length_eq_zero h; rfl
  | x :: xs, pre, [], post, h => by simp at h
  | x :: xs, pre, y :: ys, post, h => by
    have e : (pre ++ (y :: ys ++ post)).set pre.length x = (pre ++ [x]) ++ (ys ++ post) := by simp
    have h1 := setV_mid xs (pre ++ [x]) ys post (by simpa using h)
    rw [setV, e]
    rw [List.length_append, List.length_singleton] at h1
    rw [h1]; simp
theorem Row.store {w : World} {B : Nat} {pre ys post xs : List Value} (h : Row w B (pre ++ (ys ++ post))) (hl : ys.length = xs.length) : Row (w.setCells B pre.length xs) B (pre ++ (xs ++ post)) ∧ w.grownBy (w.setCells B pre.length xs) (some B) := by
  have := h.setCells xs pre.length
  rw [setV_mid _ _ _ _ hl] at this
  exact ⟨this, grown_setCells B _ _ (grown_refl _ _)⟩
theorem Row.range {w : World} {B : Nat} {pre ys post : List Value} (h : Row w B (pre ++ (ys ++ post))) : w.rangeAt B pre.length ys := fun j v hj => by
  have hl := (List.getElem?_eq_some_iff.1 hj).1
  refine h.get ?_
  rw [List.getElem?_append_right (by omega), Nat.add_sub_cancel_left, List.getElem?_append_left hl]
  exact hj
theorem Row.range0 {w : World} {B : Nat} {cs : List Value} (h : Row w B cs) : w.rangeAt B 0 cs := fun j v hj => by rw [Nat.zero_add]; exact h.get hj
theorem Row.there {w : World} {B : Nat} {cs : List Value} (h : Row w B cs) (o n : Nat) (hn : o + n ≤ cs.length) : w.there B o n := fun j hj => by
  rw [(h (o + j) (by omega)).1]
  exact ⟨rfl, (h (o + j) (by omega)).2⟩
section
variable {w : World} {ops : Array Oper} {rest : List Oper} {o : Oper} {a : Act} {Q : Exit → Act → World → Prop} {T : TypeId} {n : Nat}
/-- A store of a whole row; the walk stands still behind it. -/
theorem wpList_stR (hT : RowT T n) (hgd : o.guard = none) (x y : Operand) (ho : o.op = .store T x y) (B : Nat) (hx : a.eval x = .pointer (some ⟨B, 0, none⟩))
    (cs : List Value) (hy : a.eval y = .agg cs.toArray) (hone : ∀ v ∈ cs, v.oneCell' = true) (hm : cs.length = n) (l : List Value) (hb : Row w B l) (hl : l.length = n) (h : ∀ w', Row w' B cs → w.grownBy w' (some B) → wpList Tryz.prog ops Q rest (a.put o.dst undef) w') : wpList Tryz.prog ops Q (o :: rest) a w := by
  have h0 : Row w B ([] ++ (l ++ [])) := by simpa using hb
  obtain ⟨e1, e2⟩ := h0.store (xs := cs) (by rw [hl, hm])
  have e1' : Row (w.setCells B 0 cs) B cs := by simpa using e1
  exact wpList_stN hT hgd x y ho B 0 hx _ hy hone hm (hb.there 0 n (by omega)) (h _ e1' e2)
end
theorem rowT_sess : RowT 25 6 := rowT_mk (by kernel_rfl) (by kernel_rfl)
theorem rowT_req : RowT 37 36 := rowT_mk (by kernel_rfl) (by kernel_rfl)
theorem rowT_exam : RowT 93 53 := rowT_mk (by kernel_rfl) (by kernel_rfl)
theorem rowT_fail : RowT 97 2 := rowT_mk (by kernel_rfl) (by kernel_rfl)
end Go.Proofs.YtjbojoeafdkkeaaGreatDoor
