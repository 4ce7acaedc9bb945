/- Several blocks kept in sight. -/
import Derived.Test.YtjbojoeafdkkeaaGreatDoorJ16
import Derived.Test.YtjbojoeafdkkeaaGreatDoorJ10
set_option linter.unusedVariables false
set_option linter.unusedSimpArgs false
namespace Go.Proofs.YtjbojoeafdkkeaaGreatDoor
open Go Go.RowKit Go.Lib

/-- These blocks, all under M, hold these rows. -/
def FS (w : World) (L : List (Nat × List Value)) (M : Nat) (W : World) : Prop := Below w.heap.size w W ∧ M ≤ W.heap.size ∧ w.heap.size ≤ M ∧ ∀ b ∈ L, Row W b.1 b.2 ∧ 0 < b.2.length ∧ b.1 < M
theorem FS.start (w : World) : FS w [] w.heap.size w := ⟨Below.refl _ _, Nat.le_refl _, Nat.le_refl _, fun b hb => by cases hb⟩
theorem FS.below {w W W2 : World} {L : List (Nat × List Value)} {M : Nat} (h : FS w L M W) (hb : Below W.heap.size W W2) : FS w L M W2 :=
  ⟨below_step h.1 hb (Nat.le_refl _), Nat.le_trans h.2.1 hb.size, h.2.2.1, fun b hm => ⟨(h.2.2.2 b hm).1.below hb ((h.2.2.2 b hm).1.lt (h.2.2.2 b hm).2.1), (h.2.2.2 b hm).2⟩⟩
theorem FS.alloc {w W : World} {L : List (Nat × List Value)} {M : Nat} (h : FS w L M W) (o : Obj) : FS w L M (W.alloc o) := h.below ((Below.refl _ _).alloc (Nat.le_refl _) o)
theorem FS.keep {w W W2 : World} {L : List (Nat × List Value)} {M B : Nat} (h : FS w L M W) (hg : W.grownBy W2 (some B)) (hB : M ≤ B) : FS w L M W2 :=
  ⟨Below.grown h.1 hg h.1.size (by intro q hq; cases hq; have := h.2.2.1; omega), Nat.le_trans h.2.1 hg.size, h.2.2.1, fun b hm => ⟨(h.2.2.2 b hm).1.grown hg ((h.2.2.2 b hm).1.lt (h.2.2.2 b hm).2.1) (fun q => by have q2 : b.1 = B := Option.some.inj q; have := (h.2.2.2 b hm).2.2; omega), (h.2.2.2 b hm).2⟩⟩
theorem FS.put {w W W2 : World} {L : List (Nat × List Value)} {M B : Nat} {cs : List Value} (h : FS w L M W) (hg : W.grownBy W2 (some B)) (hB : M ≤ B) (hr : Row W2 B cs) (hl : 0 < cs.length) : FS w ((B, cs) :: L) (B + 1) W2 := by
  have k := h.keep hg hB
  refine ⟨k.1, hr.lt hl, by have := k.2.2.1; omega, fun b hm => ?_⟩
  rcases List.mem_cons.1 hm with rfl | hm
  · exact ⟨hr, hl, Nat.lt_succ_self _⟩
  · exact ⟨(k.2.2.2 b hm).1, (k.2.2.2 b hm).2.1, by have := (k.2.2.2 b hm).2.2; omega⟩
theorem FS.get {w W : World} {L : List (Nat × List Value)} {M B : Nat} {cs : List Value} (h : FS w L M W) (hm : (B, cs) ∈ L) : Row W B cs := (h.2.2.2 _ hm).1
theorem FS.laid {w W : World} {L : List (Nat × List Value)} {M : Nat} (h : FS w L M W) (hL : Laid w) : Laid W := hL.below h.1 (Nat.le_refl _)
theorem FS.etype {w W : World} {L : List (Nat × List Value)} {M : Nat} (h : FS w L M W) (hE : EType w) : EType W := hE.below h.1 (cell_lt hE)
theorem cert_sane (v : Int) (hv : elt v = true) : certF 2 10 v 4 1 8 5 = (certV 2 10 v 4 1 8 (sigR 5 (msgN 2 10 v 4 1 8)) (sigS 5 (msgN 2 10 v 4 1 8)), 0) := by
  have hf : formedV 2 10 v 4 1 8 = true := by
    simp [formedV, headV, kindV, keysV, otherV, isDev, hv, elt_four]
  unfold certF
  rw [if_pos hf, if_pos (by decide)]
end Go.Proofs.YtjbojoeafdkkeaaGreatDoor

namespace Go.Proofs.YtjbojoeafdkkeaaGreatDoor
open Go Go.RowKit Go.Lib

theorem two25 (W : World) : Row ((W.alloc oS0).alloc (cC 0 0 0 0 0 0 0 0)) W.heap.size sess0 ∧ Row ((W.alloc oS0).alloc (cC 0 0 0 0 0 0 0 0)) (W.heap.size + 1) zC := by
  have e1 : (W.alloc oS0).heap.size = W.heap.size + 1 := World.size_alloc _ _
  have h2 := row_new (W.alloc oS0) zC 44
  rw [e1] at h2
  exact ⟨(row_new W sess0 25).alloc (by rw [World.size_alloc]; omega) _, h2⟩
theorem fits_sane (q v : Int) (hq : elt q = true) (hv : elt v = true) : fitsB 1 q 10 v 4 = true := by
  rw [fits_iff]
  exact ⟨by decide, by decide, hq, hv, elt_four⟩
theorem small6 (v : Int) (h0 : 1 ≤ v) (h1 : v < 4611686018427377339) : ∀ x ∈ [2, 10, v, 4, 1, 8], -9223372036854775808 ≤ x ∧ x ≤ 9223372036854775807 := by
  intro x hx
  simp only [List.mem_cons, List.not_mem_nil, or_false] at hx
  rcases hx with rfl | rfl | rfl | rfl | rfl | rfl <;> omega
theorem small3 (v : Int) (h0 : 1 ≤ v) (h1 : v < 4611686018427377339) : ∀ x ∈ [10, v, 4], -9223372036854775808 ≤ x ∧ x ≤ 9223372036854775807 := by
  intro x hx
  simp only [List.mem_cons, List.not_mem_nil, or_false] at hx
  rcases hx with rfl | rfl | rfl <;> omega
theorem i64_elt {q : Int} (h : elt q = true) : i64R q := ⟨by have := elt_pos h; omega, by have := elt_lt h; omega⟩

attribute [local irreducible] World.setCell World.setCells World.alloc
set_option maxHeartbeats 16000000 in
set_option maxRecDepth 100000 in
theorem sane38_c (w : World) (hL : Laid w) (hE : EType w) :
    Calls Tryz.prog 13 #[] w fun e w' => e = .returned (.bool true) ∧ Below w.heap.size w w' := by
  have HN1 := Bx.mk (fun w => enew_ok 1 123456 7 w (by decide) (by decide) (by decide))
  have HP1 := Bx.mk (fun w hL => epoint_ok 1 123456 7 1 0 false w hL (by decide))
  have hP0 := elt_own (r := 1) (.inl rfl) 123456 7
  have hv9 : elt (pwr 4 (9 : Int).toNat) = true := elt_pwr elt_four _
  have HPu := Bx.mk (fun w => publicF_c 9 w)
  rw [show pubV 9 = .tuple #[.int .i64 (pwr 4 (9 : Int).toNat), .int .i64 0] from rfl] at HPu
  have HK1 := Bx.mk (fun w hL => eask_ok 123456 11 (ownN 1 123456 7) 10 (pwr 4 (9 : Int).toNat) 4 w hL (by decide) (by decide) hv9 elt_four (by decide) hP0)
  have HK2 := Bx.mk (fun w hL => eask_ok 123457 11 (ownN 1 123456 7) 10 (pwr 4 (9 : Int).toNat) 4 w hL (by decide) (by decide) hv9 elt_four (by decide) hP0)
  have ho2 := elt_own (r := 2) (.inr rfl) 123456 11
  have ho3 := elt_own (r := 2) (.inr rfl) 123457 11
  have hag : rqN (prfN (keyN 2 123456 11 (ownN 1 123456 7)) 2) 10 (pwr 4 (9 : Int).toNat) 4 = rqN (prfN (keyN 1 123456 7 (ownN 2 123456 11)) 2) 10 (pwr 4 (9 : Int).toNat) 4 := by rw [key_agree]
  have hrl : ∀ k, (rqN (prfN k 2) 10 (pwr 4 (9 : Int).toNat) 4).length = 32 := fun k => by unfold rqN; exact tagged_len _ _
  have hrl1 := hrl (keyN 2 123456 11 (ownN 1 123456 7))
  have hrl2 := hrl (keyN 2 123457 11 (ownN 1 123456 7))
  have hwr : ¬ z32 = rqN (prfN (keyN 1 123456 7 (ownN 2 123457 11)) 2) 10 (pwr 4 (9 : Int).toNat) 4 := wrong_ne
  have hcs := cert_sane (pwr 4 (9 : Int).toNat) hv9
  have v0 := elt_pos hv9; have v1 := elt_lt hv9
  obtain ⟨v, hv⟩ : ∃ v, v = pwr 4 (9 : Int).toNat := ⟨_, rfl⟩
  rw [← hv] at hv9 HPu HK1 HK2 hag hrl1 hrl2 hwr hcs v0 v1
  obtain ⟨rq, hrq⟩ : ∃ q, q = rqN (prfN (keyN 2 123456 11 (ownN 1 123456 7)) 2) 10 v 4 := ⟨_, rfl⟩
  rw [← hrq] at HK1 hag hrl1
  obtain ⟨rq3, hrq3⟩ : ∃ q, q = rqN (prfN (keyN 2 123457 11 (ownN 1 123456 7)) 2) 10 v 4 := ⟨_, rfl⟩
  rw [← hrq3] at HK2 hrl2
  obtain ⟨sr, hsr⟩ : ∃ s, s = sigR 5 (msgN 2 10 v 4 1 8) := ⟨_, rfl⟩
  obtain ⟨ss, hss⟩ : ∃ s, s = sigS 5 (msgN 2 10 v 4 1 8) := ⟨_, rfl⟩
  rw [← hsr, ← hss] at hcs
  have HA1 := Bx.mk (fun w hL hE => answer_yes 1 123456 7 1 0 false (ownN 2 123456 11) 10 v 4 rq hrl1 1 8 5 w hL hE (i64_elt ho2) (i64_elt hv9) (i64_elt elt_four) 2 10 v 4 1 8 sr ss (by decide) (by decide) (fits_sane _ v ho2 hv9) (small6 v v0 v1) hcs (small3 v v0 v1) hag)
  have HA2 := Bx.mk (fun w hL hE => answer_open 1 123456 7 1 0 true (ownN 2 123456 11) 10 v 4 rq hrl1 1 8 5 w hL hE 380 (by decide) (by decide) (by decide))
  have HA3 := Bx.mk (fun w hL hE => answer_no 1 123456 7 1 0 false (ownN 2 123457 11) 10 v 4 z32 rfl 1 8 5 w hL hE (i64_elt ho3) (i64_elt hv9) (i64_elt elt_four) 2 10 v 4 1 8 sr ss (by decide) (by decide) (fits_sane _ v ho3 hv9) (small6 v v0 v1) hcs (small3 v v0 v1) hwr)
  have HA4 := Bx.mk (fun w hL hE => answer_open 1 123456 7 1 5 false (ownN 2 123456 11) 10 v 4 rq hrl1 1 8 5 w hL hE 381 (by decide) (by decide) (by decide))
  have HN2 := Bx.mk (fun w => enew_arg 64 0 1 w (.inr (by decide)))
  have HN3 := Bx.mk (fun w => enew_side 0 1000000 1 w (by decide) (by decide) (by decide))
  have HK3 := Bx.mk (fun w => eask_arg 0 1 4 512 4 4 w (by decide))
  obtain ⟨P0, hP0'⟩ : ∃ q, q = ownN 1 123456 7 := ⟨_, rfl⟩
  rw [← hP0'] at HP1 HK1 HK2
  obtain ⟨o2, ho2'⟩ : ∃ q, q = ownN 2 123456 11 := ⟨_, rfl⟩
  rw [← ho2'] at HK1 HA1 HA2 HA4
  obtain ⟨o3, ho3'⟩ : ∃ q, q = ownN 2 123457 11 := ⟨_, rfl⟩
  rw [← ho3'] at HK2 HA3
  have HR1 := Bx.mk (reqL_len o2 10 v 4 rq hrl1)
  have HR2 := Bx.mk (reqL_len o3 10 v 4 rq3 hrl2)
  have HL := Bx.mk hL; have HE := Bx.mk hE
  have F0 := Bx.mk (FS.start w)
  clear hP0 hv9 ho2 ho3 hag hrl hrl1 hrl2 hwr hcs v0 v1 hv hrq hrq3 hsr hss hP0' ho2' ho3' hL hE
  go_enter Tryz.func13, Tryz.ntmps13
  go_wp2_with fail
  refine (HN1.out _).mono ?_
  rintro e a1 ⟨rfl, hb1⟩
  have G1 := Bx.mk (F0.out.below hb1)
  clear hb1 F0
  have zr2 := Bx.mk (row_new a1 (sess0) 25)
  have hM2 := G1.out.2.1
  go_wp2_with (refine wpList_stR rowT_sess rfl (.tmp 1) (.tmp 33) rfl (a1.heap.size) rfl (sessL 1 123456 7 1 0 false) rfl (sess_one 1 123456 7 1 0 false) rfl (sess0) (zr2.out) rfl ?_)
  intro a2 r2 g2
  obtain ⟨b1, hb1⟩ : ∃ b, b = a1.heap.size := ⟨_, rfl⟩
  rw [← hb1] at r2 g2 hM2 ⊢
  have G2k := Bx.mk ((G1.out.alloc _).keep g2 hM2)
  have G2 := Bx.mk ((G1.out.alloc _).put g2 hM2 r2 (by show 0 < 6; decide))
  have hb1M := hM2
  clear hb1 r2 g2 hM2 zr2 G1
  go_wp2_with (first | (refine wpList_ldN rowT_sess rfl (.tmp 1) rfl b1 0 rfl (sessL 1 123456 7 1 0 false) (G2.out.get (by simp)).range0 rfl (sessV 1 123456 7 1 0 false) rfl ?_))
  refine (HP1.out _ (G2.out.laid HL.out)).mono ?_
  rintro e a3 ⟨rfl, hb3⟩
  have G3 := Bx.mk (G2.out.below hb3)
  clear hb3 G2
  go_wp2_with fail
  refine (HPu.out _).mono ?_
  rintro e a4 ⟨rfl, hb4⟩
  have G4 := Bx.mk (G3.out.below hb4)
  clear hb4 G3
  go_wp2_with fail
  refine (HK1.out _ (G4.out.laid HL.out)).mono ?_
  rintro e a5 ⟨rfl, hb5⟩
  have G5 := Bx.mk (G4.out.below hb5)
  clear hb5 G4
  have zr6 := Bx.mk (row_new a5 (req0) 37)
  have hM6 := G5.out.2.1
  go_wp2_with (refine wpList_stR rowT_req rfl (.tmp 7) (.tmp 48) rfl (a5.heap.size) rfl (reqL o2 10 v 4 rq) rfl (req_one _ _ _ _ _) HR1.out (req0) (zr6.out) rfl ?_)
  intro a6 r6 g6
  obtain ⟨b7, hb7⟩ : ∃ b, b = a5.heap.size := ⟨_, rfl⟩
  rw [← hb7] at r6 g6 hM6 ⊢
  have G6k := Bx.mk ((G5.out.alloc _).keep g6 hM6)
  have G6 := Bx.mk ((G5.out.alloc _).put g6 hM6 r6 (by rw [HR1.out]; decide))
  have hb7M := hM6
  clear hb7 r6 g6 hM6 zr6 G5
  go_wp2_with (first | (refine wpList_ldN rowT_sess rfl (.tmp 1) rfl b1 0 rfl (sessL 1 123456 7 1 0 false) (G6.out.get (by simp)).range0 rfl (sessV 1 123456 7 1 0 false) rfl ?_) | (refine wpList_ldN rowT_req rfl (.tmp 7) rfl b7 0 rfl (reqL o2 10 v 4 rq) (G6.out.get (by simp)).range0 HR1.out (reqV o2 10 v 4 rq) rfl ?_))
  refine (HA1.out _ (G6.out.laid HL.out) (G6.out.etype HE.out)).mono ?_
  rintro e a7 ⟨rfl, hb7⟩
  have G7 := Bx.mk (G6.out.below hb7)
  clear hb7 G6
  have tz8 := Bx.mk (two25 a7)
  have hM8 := G7.out.2.1
  go_wp2_with (refine wpList_stR rowT_sess rfl (.tmp 9) (.tmp 54) rfl (a7.heap.size) rfl (sessL 1 123456 7 1 0 true) rfl (sess_one 1 123456 7 1 0 true) rfl (sess0) (tz8.out.1) rfl ?_)
  intro a8 r8 g8
  have zc8 := Bx.mk (tz8.out.2.grown g8 (tz8.out.2.lt (by decide)) (fun q => by have q2 : a7.heap.size + 1 = a7.heap.size := Option.some.inj q; omega))
  have P8 := Bx.mk (((G7.out.alloc oS0).alloc (cC 0 0 0 0 0 0 0 0)).put g8 hM8 r8 (by show 0 < 6; decide))
  clear r8 g8 tz8 G7
  refine wpList_stR rowT_cert rfl (.tmp 10) (.tmp 55) rfl (a7.heap.size + 1) rfl ([2, 10, v, 4, 1, 8, sr, ss].map (.int .i64)) rfl (one_ints .i64 _) rfl (zC) (zc8.out) rfl ?_
  intro a8b r8 g8
  have G8 := Bx.mk (P8.out.put g8 (Nat.le_refl _) r8 (by show 0 < 8; decide))
  obtain ⟨b10, hb10⟩ : ∃ b, b = a7.heap.size + 1 := ⟨_, rfl⟩
  rw [← hb10] at G8 ⊢
  obtain ⟨b9, hb9⟩ : ∃ b, b = a7.heap.size := ⟨_, rfl⟩
  rw [← hb9] at G8 ⊢
  clear hb9 hb10 r8 g8 zc8 P8 hM8
  go_wp2_with (first | (refine wpList_ldN rowT_sess rfl (.tmp 9) rfl b9 0 rfl (sessL 1 123456 7 1 0 true) (G8.out.get (by simp)).range0 rfl (sessV 1 123456 7 1 0 true) rfl ?_) | (refine wpList_ldN rowT_req rfl (.tmp 7) rfl b7 0 rfl (reqL o2 10 v 4 rq) (G8.out.get (by simp)).range0 HR1.out (reqV o2 10 v 4 rq) rfl ?_))
  refine (HA2.out _ (G8.out.laid HL.out) (G8.out.etype HE.out)).mono ?_
  rintro e a9 ⟨rfl, hb9⟩
  have G9 := Bx.mk (G8.out.below hb9)
  clear hb9 G8
  have tz10 := Bx.mk (two25 a9)
  have hM10 := G9.out.2.1
  go_wp2_with (refine wpList_stR rowT_sess rfl (.tmp 12) (.tmp 61) rfl (a9.heap.size) rfl (sess0) rfl (sess0_one) rfl (sess0) (tz10.out.1) rfl ?_)
  intro a10 r10 g10
  have zc10 := Bx.mk (tz10.out.2.grown g10 (tz10.out.2.lt (by decide)) (fun q => by have q2 : a9.heap.size + 1 = a9.heap.size := Option.some.inj q; omega))
  have P10 := Bx.mk (((G9.out.alloc oS0).alloc (cC 0 0 0 0 0 0 0 0)).keep g10 hM10)
  clear r10 g10 tz10 G9
  refine wpList_stR rowT_cert rfl (.tmp 13) (.tmp 62) rfl (a9.heap.size + 1) rfl (zC) rfl (one_ints .i64 _) rfl (zC) (zc10.out) rfl ?_
  intro a10b r10 g10
  have G10 := Bx.mk (P10.out.keep g10 (Nat.le_succ_of_le hM10))
  clear r10 g10 zc10 P10 hM10
  go_wp2_with fail
  refine (HK2.out _ (G10.out.laid HL.out)).mono ?_
  rintro e a11 ⟨rfl, hb11⟩
  have G11 := Bx.mk (G10.out.below hb11)
  clear hb11 G10
  have zr12 := Bx.mk (row_new a11 (req0) 37)
  have hM12 := G11.out.2.1
  go_wp2_with (refine wpList_stR rowT_req rfl (.tmp 15) (.tmp 68) rfl (a11.heap.size) rfl (reqL o3 10 v 4 rq3) rfl (req_one _ _ _ _ _) HR2.out (req0) (zr12.out) rfl ?_)
  intro a12 r12 g12
  obtain ⟨b15, hb15⟩ : ∃ b, b = a11.heap.size := ⟨_, rfl⟩
  rw [← hb15] at r12 g12 hM12 ⊢
  have G12k := Bx.mk ((G11.out.alloc _).keep g12 hM12)
  have G12 := Bx.mk ((G11.out.alloc _).put g12 hM12 r12 (by rw [HR2.out]; decide))
  have hb15M := hM12
  clear hb15 r12 g12 hM12 zr12 G11
  have hro := G12.out.get (B := b15) (cs := reqL o3 10 v 4 rq3) (by simp)
  obtain ⟨u1, u2⟩ := Row.store (pre := [.int .i64 o3, .int .i64 10, .int .i64 v, .int .i64 4]) (ys := rq3.map (.int .u8)) (post := []) (xs := z32.map (.int .u8)) (by simpa [reqL] using hro) (by have := HR2.out; simp [reqL] at this; rw [List.length_map, List.length_map]; show rq3.length = 32; omega)
  have U1 : Row (a12.setCells b15 4 (z32.map (.int .u8))) b15 (reqL o3 10 v 4 z32) := by simpa [reqL] using u1
  have U2 : a12.grownBy (a12.setCells b15 4 (z32.map (.int .u8))) (some b15) := u2
  have TH := Bx.mk (hro.there 4 32 (by rw [HR2.out]; decide))
  have GX := Bx.mk (G12k.out.put U2 hb15M U1 (by show 0 < 36; decide))
  clear hro u1 u2 U1 U2 G12 G12k
  go_wp2_with (first | (refine wpList_stN rowT_dig rfl (.tmp 71) (.tmp 70) rfl b15 4 rfl (z32.map (.int .u8)) (by kernel_rfl) (one_ints .u8 _) rfl TH.out ?_) | (refine wpList_pause 73 rfl ?_))
  intro c8 hc8
  rw [← hc8] at GX
  clear hc8 TH
  go_wp2_with (first | (refine wpList_ldN rowT_sess rfl (.tmp 1) rfl b1 0 rfl (sessL 1 123456 7 1 0 false) (GX.out.get (by simp)).range0 rfl (sessV 1 123456 7 1 0 false) rfl ?_) | (refine wpList_ldN rowT_req rfl (.tmp 15) rfl b15 0 rfl (reqL o3 10 v 4 z32) (GX.out.get (by simp)).range0 rfl (reqV o3 10 v 4 z32) rfl ?_))
  refine (HA3.out _ (GX.out.laid HL.out) (GX.out.etype HE.out)).mono ?_
  rintro e a13 ⟨rfl, hb13⟩
  have G13 := Bx.mk (GX.out.below hb13)
  clear hb13 GX
  have tz14 := Bx.mk (two25 a13)
  have hM14 := G13.out.2.1
  go_wp2_with (refine wpList_stR rowT_sess rfl (.tmp 17) (.tmp 76) rfl (a13.heap.size) rfl (sessL 1 123456 7 1 (0 + 1) false) rfl (sess_one 1 123456 7 1 (0 + 1) false) rfl (sess0) (tz14.out.1) rfl ?_)
  intro a14 r14 g14
  have zc14 := Bx.mk (tz14.out.2.grown g14 (tz14.out.2.lt (by decide)) (fun q => by have q2 : a13.heap.size + 1 = a13.heap.size := Option.some.inj q; omega))
  have P14 := Bx.mk (((G13.out.alloc oS0).alloc (cC 0 0 0 0 0 0 0 0)).put g14 hM14 r14 (by show 0 < 6; decide))
  clear r14 g14 tz14 G13
  refine wpList_stR rowT_cert rfl (.tmp 18) (.tmp 77) rfl (a13.heap.size + 1) rfl (zC) rfl (one_ints .i64 _) rfl (zC) (zc14.out) rfl ?_
  intro a14b r14 g14
  have G14 := Bx.mk (P14.out.put g14 (Nat.le_refl _) r14 (by show 0 < 8; decide))
  obtain ⟨b18, hb18⟩ : ∃ b, b = a13.heap.size + 1 := ⟨_, rfl⟩
  rw [← hb18] at G14 ⊢
  obtain ⟨b17, hb17⟩ : ∃ b, b = a13.heap.size := ⟨_, rfl⟩
  rw [← hb17] at G14 ⊢
  clear hb17 hb18 r14 g14 zc14 P14 hM14
  have zr := Bx.mk (row_new a14b sess0 25)
  have hM := G14.out.2.1
  go_wp2_with (first | (refine wpList_ldN rowT_sess rfl (.tmp 1) rfl b1 0 rfl (sessL 1 123456 7 1 0 false) (G14.out.get (by simp)).range0 rfl (sessV 1 123456 7 1 0 false) rfl ?_) | (refine wpList_stR rowT_sess rfl (.tmp 20) (.tmp 79) rfl (a14b.heap.size) rfl (sessL 1 123456 7 1 0 false) rfl (sess_one 1 123456 7 1 0 false) rfl (sess0) (zr.out) rfl ?_))
  intro c10 r10 g10
  obtain ⟨b20, hb20⟩ : ∃ b, b = a14b.heap.size := ⟨_, rfl⟩
  rw [← hb20] at r10 g10 hM ⊢
  have K10 := Bx.mk ((G14.out.alloc _).keep g10 hM)
  have y4 : c10.cell? ⟨b20, 4, none⟩ = some (.int .i64 0) := r10.get (i := 4) rfl
  have f4 : c10.frozen? ⟨b20, 4, none⟩ = false := r10.fr (i := 4) (by show 4 < 6; decide)
  have g11 := grown_set (grown_refl c10 (some b20)) (a := ⟨b20, 4, none⟩) rfl (.int .i64 5)
  have GY := Bx.mk (K10.out.put g11 hM (r10.set 4 (.int .i64 5)) (by show 0 < 6; decide))
  have GY : Bx (FS w ((b20, sessL 1 123456 7 1 5 false) :: _) (b20 + 1) (c10.setCell ⟨b20, 4, none⟩ (.int .i64 5))) := GY
  clear hb20 r10 g10 g11 hM zr K10 G14
  go_wp2_with (refine wpList_pause 82 rfl ?_)
  intro c11 hc11
  rw [← hc11] at GY
  clear hc11 y4 f4
  go_wp2_with (first | (refine wpList_ldN rowT_sess rfl (.tmp 20) rfl b20 0 rfl (sessL 1 123456 7 1 5 false) (GY.out.get (by simp)).range0 rfl (sessV 1 123456 7 1 5 false) rfl ?_) | (refine wpList_ldN rowT_req rfl (.tmp 7) rfl b7 0 rfl (reqL o2 10 v 4 rq) (GY.out.get (by simp)).range0 HR1.out (reqV o2 10 v 4 rq) rfl ?_))
  refine (HA4.out _ (GY.out.laid HL.out) (GY.out.etype HE.out)).mono ?_
  rintro e a16 ⟨rfl, hb16⟩
  have G16 := Bx.mk (GY.out.below hb16)
  clear hb16 GY
  have tz17 := Bx.mk (two25 a16)
  have hM17 := G16.out.2.1
  go_wp2_with (refine wpList_stR rowT_sess rfl (.tmp 21) (.tmp 85) rfl (a16.heap.size) rfl (sess0) rfl (sess0_one) rfl (sess0) (tz17.out.1) rfl ?_)
  intro a17 r17 g17
  have zc17 := Bx.mk (tz17.out.2.grown g17 (tz17.out.2.lt (by decide)) (fun q => by have q2 : a16.heap.size + 1 = a16.heap.size := Option.some.inj q; omega))
  have P17 := Bx.mk (((G16.out.alloc oS0).alloc (cC 0 0 0 0 0 0 0 0)).keep g17 hM17)
  clear r17 g17 tz17 G16
  refine wpList_stR rowT_cert rfl (.tmp 22) (.tmp 86) rfl (a16.heap.size + 1) rfl (zC) rfl (one_ints .i64 _) rfl (zC) (zc17.out) rfl ?_
  intro a17b r17 g17
  have G17 := Bx.mk (P17.out.keep g17 (Nat.le_succ_of_le hM17))
  clear r17 g17 zc17 P17 hM17
  go_wp2_with fail
  refine (HN2.out _).mono ?_
  rintro e a18 ⟨rfl, hb18⟩
  have G18 := Bx.mk (G17.out.below hb18)
  clear hb18 G17
  have zr19 := Bx.mk (row_new a18 (sess0) 25)
  have hM19 := G18.out.2.1
  go_wp2_with (refine wpList_stR rowT_sess rfl (.tmp 24) (.tmp 90) rfl (a18.heap.size) rfl (sess0) rfl (sess0_one) rfl (sess0) (zr19.out) rfl ?_)
  intro a19 r19 g19
  have G19 := Bx.mk ((G18.out.alloc _).keep g19 hM19)
  clear r19 g19 hM19 zr19 G18
  go_wp2_with fail
  refine (HN3.out _).mono ?_
  rintro e a20 ⟨rfl, hb20⟩
  have G20 := Bx.mk (G19.out.below hb20)
  clear hb20 G19
  have zr21 := Bx.mk (row_new a20 (sess0) 25)
  have hM21 := G20.out.2.1
  go_wp2_with (refine wpList_stR rowT_sess rfl (.tmp 26) (.tmp 94) rfl (a20.heap.size) rfl (sess0) rfl (sess0_one) rfl (sess0) (zr21.out) rfl ?_)
  intro a21 r21 g21
  have G21 := Bx.mk ((G20.out.alloc _).keep g21 hM21)
  clear r21 g21 hM21 zr21 G20
  go_wp2_with fail
  refine (HK3.out _).mono ?_
  rintro e a22 ⟨rfl, hb22⟩
  have G22 := Bx.mk (G21.out.below hb22)
  clear hb22 G21
  have zr23 := Bx.mk (row_new a22 (req0) 37)
  have hM23 := G22.out.2.1
  go_wp2_with (refine wpList_stR rowT_req rfl (.tmp 28) (.tmp 98) rfl (a22.heap.size) rfl (req0) rfl (req0_one) rfl (req0) (zr23.out) rfl ?_)
  intro a23 r23 g23
  have G23 := Bx.mk ((G22.out.alloc _).keep g23 hM23)
  clear r23 g23 hM23 zr23 G22
  have r9 := G23.out.get (B := b9) (cs := sessL 1 123456 7 1 0 true) (by simp)
  have r10 := G23.out.get (B := b10) (cs := [2, 10, v, 4, 1, 8, sr, ss].map (.int .i64)) (by simp)
  have r17 := G23.out.get (B := b17) (cs := sessL 1 123456 7 1 (0 + 1) false) (by simp)
  have d0 : a23.cell? ⟨b9, 5, none⟩ = some (.bool true) := r9.get (i := 5) rfl
  have d1 : a23.cell? ⟨b9, 4, none⟩ = some (.int .i64 0) := r9.get (i := 4) rfl
  have d2 : a23.cell? ⟨b10, 1, none⟩ = some (.int .i64 10) := r10.get (i := 1) rfl
  have d3 : a23.cell? ⟨b10, 2, none⟩ = some (.int .i64 v) := r10.get (i := 2) rfl
  have d4 : a23.cell? ⟨b10, 3, none⟩ = some (.int .i64 4) := r10.get (i := 3) rfl
  have d5 : a23.cell? ⟨b10, 5, none⟩ = some (.int .i64 8) := r10.get (i := 5) rfl
  have d6 : a23.cell? ⟨b17, 4, none⟩ = some (.int .i64 1) := r17.get (i := 4) rfl
  have d7 : a23.cell? ⟨b17, 5, none⟩ = some (.bool false) := r17.get (i := 5) rfl
  have BZ := Bx.mk G23.out.1
  clear r9 r10 r17 G23
  go_wp2_with fail
  go_ret
  exact ⟨rfl, BZ.out⟩
end Go.Proofs.YtjbojoeafdkkeaaGreatDoor
