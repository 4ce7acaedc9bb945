/- EnrollExact: where a certificate is made. -/
import Derived.Test.YtjbojoeafdkkeaaGreatDoorJx2
set_option linter.unusedVariables false
set_option linter.unusedSimpArgs false
namespace Go.Proofs.YtjbojoeafdkkeaaGreatDoor
open Go Go.RowKit Go.Lib

theorem FS.drew {w W : World} {L : List (Nat × List Value)} {M : Nat} (h : FS w L M W) (n : Nat) : FS w L M (W.drewN n) := ⟨below_drewN h.1 n, h.2.1, h.2.2.1, h.2.2.2⟩
theorem FS.raise {w W : World} {L : List (Nat × List Value)} {M : Nat} (h : FS w L M W) : FS w L W.heap.size W := ⟨h.1, Nat.le_refl _, Nat.le_trans h.2.2.1 h.2.1, fun b hb => ⟨(h.2.2.2 b hb).1, (h.2.2.2 b hb).2.1, Nat.lt_of_lt_of_le (h.2.2.2 b hb).2.2 h.2.1⟩⟩
/-- A frame with bytes at a block beside it. -/
def FG (w : World) (L : List (Nat × List Value)) (M g : Nat) (l : List Int) (W : World) : Prop := FS w L M W ∧ U8 W g 0 l ∧ g < M
theorem FG.below {w W W2 : World} {L : List (Nat × List Value)} {M g : Nat} {l : List Int} (h : FG w L M g l W) (hb : Below W.heap.size W W2) : FG w L M g l W2 := ⟨h.1.below hb, h.2.1.below (Nat.lt_of_lt_of_le h.2.2 h.1.2.1) hb, h.2.2⟩
theorem FG.alloc {w W : World} {L : List (Nat × List Value)} {M g : Nat} {l : List Int} (h : FG w L M g l W) (o : Obj) : FG w L M g l (W.alloc o) := h.below ((Below.refl _ _).alloc (Nat.le_refl _) o)
theorem u8_grown {W W2 : World} {g B : Nat} {l : List Int} (h : U8 W g 0 l) (hg : W.grownBy W2 (some B)) (hB : g ≠ B) : U8 W2 g 0 l := fun i hi => hg.cell (h i hi) (fun q => hB (Option.some.inj q))
theorem FG.keep {w W W2 : World} {L : List (Nat × List Value)} {M g B : Nat} {l : List Int} (h : FG w L M g l W) (hg : W.grownBy W2 (some B)) (hB : M ≤ B) : FG w L M g l W2 := ⟨h.1.keep hg hB, u8_grown h.2.1 hg (by have := h.2.2; omega), h.2.2⟩
theorem FG.put {w W W2 : World} {L : List (Nat × List Value)} {M g B : Nat} {l : List Int} {cs : List Value} (h : FG w L M g l W) (hg : W.grownBy W2 (some B)) (hB : M ≤ B) (hr : Row W2 B cs) (hl : 0 < cs.length) : FG w ((B, cs) :: L) (B + 1) g l W2 := ⟨h.1.put hg hB hr hl, u8_grown h.2.1 hg (by have := h.2.2; omega), by have := h.2.2; omega⟩
theorem news_row {w : World} {K : Nat} {kn : List Int} (h : Row w K (kn.map (.int .u8))) : ∀ j, (hj : j < kn.length) → w.cell? ((⟨K, 0, none⟩ : Addr).add j) = some (.int .u8 kn[j]) :=
  news_of_u8 (fun i hi => by rw [Nat.zero_add]; exact h.get (by rw [List.getElem?_map, List.getElem?_eq_getElem hi]; rfl))

theorem ints_three (W : World) (a b c : Int) : IntsAt (W.alloc (.cells #[.int .i64 1, .int .i64 a, .string ⟨#[]⟩, .slice none 0 0, .int .i64 1, .int .i64 b, .string ⟨#[]⟩, .slice none 0 0, .int .i64 1, .int .i64 c, .string ⟨#[]⟩, .slice none 0 0] 59)) W.heap.size 0 [a, b, c] := by
  intro i hi
  have hc := fun k => cells_new W #[.int .i64 1, .int .i64 a, .string ⟨#[]⟩, .slice none 0 0, .int .i64 1, .int .i64 b, .string ⟨#[]⟩, .slice none 0 0, .int .i64 1, .int .i64 c, .string ⟨#[]⟩, .slice none 0 0] 59 k
  have : i = 0 ∨ i = 1 ∨ i = 2 := by simp at hi; omega
  rcases this with rfl | rfl | rfl
  · exact ⟨hc 0, hc 1, hc 2, hc 3⟩
  · exact ⟨hc 4, hc 5, hc 6, hc 7⟩
  · exact ⟨hc 8, hc 9, hc 10, hc 11⟩

section
attribute [local irreducible] World.setCell World.setCells World.alloc

set_option maxHeartbeats 32000000 in
set_option maxRecDepth 100000 in
theorem exact_main (r code x p t : Int) (pt dv_ vf lf : Int) (pk : List Int) (hpk : pk.length = 32) (ver bY priv : Int) (i1 : i64R pt) (i2 : i64R vf) (i3 : i64R lf) (i4 : i64R dv_) (i5 : i64R ver) (i6 : i64R bY) (w : World) (hL : Laid w) (hE : EType w) (hs : sessOK r code x p t = true) (ht : ¬ 5 ≤ t) (hd : isDev dv_ = true) (hp : dv_ / 8 = p) (h1 : elt pt = true) (h2 : elt vf = true) (h3 : elt lf = true) (sr ss : Int) (hc : certF 2 dv_ vf lf ver bY priv = (certV 2 dv_ vf lf ver bY sr ss, 0)) :
    Calls Tryz.prog 7 #[sessV r code x p t false, reqV pt dv_ vf lf pk, .int .i64 ver, .int .i64 bY, .int .i64 priv] w fun e w' => e = .returned (.bool true) ∧ Below w.heap.size w w' := by
  have HS := Bx.mk (fun w hL hE => sane38_c w hL hE)
  have HO := Bx.mk (fun w => owner_c dv_ w)
  have G0 := Bx.mk (fun w => gcheck_c pt w i1.1 i1.2)
  have G1 := Bx.mk (fun w => gcheck_c vf w i2.1 i2.2)
  have G2 := Bx.mk (fun w => gcheck_c lf w i3.1 i3.2)
  have HCk := Bx.mk (fun w => echeck_c r code x p t false w)
  have F0 := Bx.mk (fs_args w r code x p t false pt dv_ vf lf pk)
  have HL := Bx.mk hL; have HE := Bx.mk hE
  have HK := Bx.mk hpk
  have hr6 : ∀ x ∈ [2, dv_, vf, lf, ver, bY], -9223372036854775808 ≤ x ∧ x ≤ 9223372036854775807 := by
    intro x hx
    simp only [List.mem_cons, List.not_mem_nil, or_false] at hx
    rcases hx with rfl | rfl | rfl | rfl | rfl | rfl
    · decide
    · exact i4
    · exact i2
    · exact i3
    · exact i5
    · exact i6
  have hr3 : ∀ z ∈ [dv_, vf, lf], -9223372036854775808 ≤ z ∧ z ≤ 9223372036854775807 := fun z hz => hr6 z (by simp only [List.mem_cons, List.not_mem_nil, or_false] at hz ⊢; omega)
  have hfit : fitsB p pt dv_ vf lf = true := (fits_iff p pt dv_ vf lf).2 ⟨hd, hp, h1, h2, h3⟩
  have hop : openE t false = 0 := by unfold openE; rw [if_neg (by omega)]; rfl
  have hsd := ((sessOK_iff r code x p t).1 hs).1
  have HY := Bx.mk (fun w hL hE => answer_yes r code x p t false pt dv_ vf lf pk hpk ver bY priv w hL hE i1 i2 i3 2 dv_ vf lf ver bY sr ss hs hop hfit hr6 hc hr3)
  have HN := Bx.mk (fun w hL hE => answer_no r code x p t false pt dv_ vf lf pk hpk ver bY priv w hL hE i1 i2 i3 2 dv_ vf lf ver bY sr ss hs hop hfit hr6 hc hr3)
  have HSh := Bx.mk (fun w hL => pshared_ok r code x pt w hL hsd h1)
  have hKL := keyN_len r code x pt
  obtain ⟨kn, hkn⟩ : ∃ k, k = keyN r code x pt := ⟨_, rfl⟩
  rw [← hkn] at HSh HY HN hKL
  have HKL := Bx.mk hKL
  have HKM : Bx ((kn.map (Value.int .u8)).length = 32) := .mk (by rw [List.length_map]; exact hKL)
  have HCt : Bx (∀ w, Laid w → Calls Tryz.prog 26 #[.int .i64 2, .int .i64 dv_, .int .i64 vf, .int .i64 lf, .int .i64 ver, .int .i64 bY, .int .i64 priv] w fun e w' => e = .returned (.tuple #[certV 2 dv_ vf lf ver bY sr ss, .int .i64 0]) ∧ Below w.heap.size w w') := .mk fun w hL => by
    have := certify_c 2 dv_ vf lf ver bY priv w hL hr6
    rw [hc] at this
    exact this
  have HR3 := Bx.mk hr3
  have ht5 : 0 ≤ t ∧ t ≤ 5 := by have := (sessOK_iff r code x p t).1 hs; omega
  clear hL hE hpk i1 i2 i3 i4 i5 i6 hc hr6 hr3 hfit hop hsd hkn hKL
  rw [hs] at HCk
  simp only [if_true] at HCk
  clear hs
  rw [show ownV dv_ = .tuple #[.int .i64 (dv_ / 8), .int .i64 0] by simp [ownV, hd], hp] at HO
  clear hd hp
  rw [gcheck_0 h1] at G0
  rw [gcheck_0 h2] at G1
  rw [gcheck_0 h3] at G2
  clear h1 h2 h3
  unfold sessV reqV
  unfold sessV at HCk
  (try unfold sessV reqV at HAx)
  go_enter Tryz.func7, Tryz.ntmps7
  go_wp2_with (refine wpList_bxk rfl (.tmp 1) rfl (reqL pt dv_ vf lf pk) rfl ?_)
  refine (HS.out _ (F0.out.laid HL.out) (F0.out.etype HE.out)).mono ?_
  rintro e a1 ⟨rfl, hb1⟩
  have F1 := Bx.mk (F0.out.below hb1)
  clear hb1 F0 HS
  have q := F1.out.get (B := w.heap.size + 1) (cs := reqL pt dv_ vf lf pk) (by simp)
  have e0 : a1.cell? ⟨w.heap.size + 1, 0, none⟩ = some (.int .i64 pt) := q.get (i := 0) rfl
  have e1 : a1.cell? ⟨w.heap.size + 1, 1, none⟩ = some (.int .i64 dv_) := q.get (i := 1) rfl
  have e2 : a1.cell? ⟨w.heap.size + 1, 2, none⟩ = some (.int .i64 vf) := q.get (i := 2) rfl
  have e8 : a1.cell? ⟨w.heap.size + 1, 3, none⟩ = some (.int .i64 lf) := q.get (i := 3) rfl
  have q2 := F1.out.get (B := w.heap.size) (cs := sessL r code x p t false) (by simp)
  have s0 : a1.cell? ⟨w.heap.size, 0, none⟩ = some (.int .i64 r) := q2.get (i := 0) rfl
  have s1 : a1.cell? ⟨w.heap.size, 1, none⟩ = some (.int .i64 code) := q2.get (i := 1) rfl
  have s2 : a1.cell? ⟨w.heap.size, 2, none⟩ = some (.int .i64 x) := q2.get (i := 2) rfl
  have e3 : a1.cell? ⟨w.heap.size, 3, none⟩ = some (.int .i64 p) := q2.get (i := 3) rfl
  have e4 : a1.cell? ⟨w.heap.size, 4, none⟩ = some (.int .i64 t) := q2.get (i := 4) rfl
  have e5 : a1.cell? ⟨w.heap.size, 5, none⟩ = some (.bool false) := q2.get (i := 5) rfl
  clear q q2
  go_wp2_with fail
  refine (HO.out _).mono ?_
  rintro e a2 ⟨rfl, rfl⟩
  go_wp2_with fail
  refine (HCk.out _).mono ?_
  rintro e a7 ⟨rfl, hb7⟩
  have F7 := Bx.mk (F1.out.below hb7)
  clear e0 e1 e2 e8 s0 s1 s2 e3 e4 e5
  clear hb7 F1
  have q := F7.out.get (B := w.heap.size + 1) (cs := reqL pt dv_ vf lf pk) (by simp)
  have e0 : a7.cell? ⟨w.heap.size + 1, 0, none⟩ = some (.int .i64 pt) := q.get (i := 0) rfl
  have e1 : a7.cell? ⟨w.heap.size + 1, 1, none⟩ = some (.int .i64 dv_) := q.get (i := 1) rfl
  have e2 : a7.cell? ⟨w.heap.size + 1, 2, none⟩ = some (.int .i64 vf) := q.get (i := 2) rfl
  have e8 : a7.cell? ⟨w.heap.size + 1, 3, none⟩ = some (.int .i64 lf) := q.get (i := 3) rfl
  have q2 := F7.out.get (B := w.heap.size) (cs := sessL r code x p t false) (by simp)
  have s0 : a7.cell? ⟨w.heap.size, 0, none⟩ = some (.int .i64 r) := q2.get (i := 0) rfl
  have s1 : a7.cell? ⟨w.heap.size, 1, none⟩ = some (.int .i64 code) := q2.get (i := 1) rfl
  have s2 : a7.cell? ⟨w.heap.size, 2, none⟩ = some (.int .i64 x) := q2.get (i := 2) rfl
  have e3 : a7.cell? ⟨w.heap.size, 3, none⟩ = some (.int .i64 p) := q2.get (i := 3) rfl
  have e4 : a7.cell? ⟨w.heap.size, 4, none⟩ = some (.int .i64 t) := q2.get (i := 4) rfl
  have e5 : a7.cell? ⟨w.heap.size, 5, none⟩ = some (.bool false) := q2.get (i := 5) rfl
  clear q q2
  go_wp2_with fail
  refine (G0.out _).mono ?_
  rintro e a8 ⟨rfl, hb8⟩
  have F8 := Bx.mk (F7.out.below hb8)
  clear e0 e1 e2 e8 s0 s1 s2 e3 e4 e5
  clear hb8 F7
  have q := F8.out.get (B := w.heap.size + 1) (cs := reqL pt dv_ vf lf pk) (by simp)
  have e0 : a8.cell? ⟨w.heap.size + 1, 0, none⟩ = some (.int .i64 pt) := q.get (i := 0) rfl
  have e1 : a8.cell? ⟨w.heap.size + 1, 1, none⟩ = some (.int .i64 dv_) := q.get (i := 1) rfl
  have e2 : a8.cell? ⟨w.heap.size + 1, 2, none⟩ = some (.int .i64 vf) := q.get (i := 2) rfl
  have e8 : a8.cell? ⟨w.heap.size + 1, 3, none⟩ = some (.int .i64 lf) := q.get (i := 3) rfl
  have q2 := F8.out.get (B := w.heap.size) (cs := sessL r code x p t false) (by simp)
  have s0 : a8.cell? ⟨w.heap.size, 0, none⟩ = some (.int .i64 r) := q2.get (i := 0) rfl
  have s1 : a8.cell? ⟨w.heap.size, 1, none⟩ = some (.int .i64 code) := q2.get (i := 1) rfl
  have s2 : a8.cell? ⟨w.heap.size, 2, none⟩ = some (.int .i64 x) := q2.get (i := 2) rfl
  have e3 : a8.cell? ⟨w.heap.size, 3, none⟩ = some (.int .i64 p) := q2.get (i := 3) rfl
  have e4 : a8.cell? ⟨w.heap.size, 4, none⟩ = some (.int .i64 t) := q2.get (i := 4) rfl
  have e5 : a8.cell? ⟨w.heap.size, 5, none⟩ = some (.bool false) := q2.get (i := 5) rfl
  clear q q2
  go_wp2_with fail
  refine (G1.out _).mono ?_
  rintro e a9 ⟨rfl, hb9⟩
  have F9 := Bx.mk (F8.out.below hb9)
  clear e0 e1 e2 e8 s0 s1 s2 e3 e4 e5
  clear hb9 F8
  have q := F9.out.get (B := w.heap.size + 1) (cs := reqL pt dv_ vf lf pk) (by simp)
  have e0 : a9.cell? ⟨w.heap.size + 1, 0, none⟩ = some (.int .i64 pt) := q.get (i := 0) rfl
  have e1 : a9.cell? ⟨w.heap.size + 1, 1, none⟩ = some (.int .i64 dv_) := q.get (i := 1) rfl
  have e2 : a9.cell? ⟨w.heap.size + 1, 2, none⟩ = some (.int .i64 vf) := q.get (i := 2) rfl
  have e8 : a9.cell? ⟨w.heap.size + 1, 3, none⟩ = some (.int .i64 lf) := q.get (i := 3) rfl
  have q2 := F9.out.get (B := w.heap.size) (cs := sessL r code x p t false) (by simp)
  have s0 : a9.cell? ⟨w.heap.size, 0, none⟩ = some (.int .i64 r) := q2.get (i := 0) rfl
  have s1 : a9.cell? ⟨w.heap.size, 1, none⟩ = some (.int .i64 code) := q2.get (i := 1) rfl
  have s2 : a9.cell? ⟨w.heap.size, 2, none⟩ = some (.int .i64 x) := q2.get (i := 2) rfl
  have e3 : a9.cell? ⟨w.heap.size, 3, none⟩ = some (.int .i64 p) := q2.get (i := 3) rfl
  have e4 : a9.cell? ⟨w.heap.size, 4, none⟩ = some (.int .i64 t) := q2.get (i := 4) rfl
  have e5 : a9.cell? ⟨w.heap.size, 5, none⟩ = some (.bool false) := q2.get (i := 5) rfl
  clear q q2
  go_wp2_with fail
  refine (G2.out _).mono ?_
  rintro e a10 ⟨rfl, hb10⟩
  have F10 := Bx.mk (F9.out.below hb10)
  clear e0 e1 e2 e8 s0 s1 s2 e3 e4 e5
  clear hb10 F9
  have q := F10.out.get (B := w.heap.size + 1) (cs := reqL pt dv_ vf lf pk) (by simp)
  have e0 : a10.cell? ⟨w.heap.size + 1, 0, none⟩ = some (.int .i64 pt) := q.get (i := 0) rfl
  have e1 : a10.cell? ⟨w.heap.size + 1, 1, none⟩ = some (.int .i64 dv_) := q.get (i := 1) rfl
  have e2 : a10.cell? ⟨w.heap.size + 1, 2, none⟩ = some (.int .i64 vf) := q.get (i := 2) rfl
  have e8 : a10.cell? ⟨w.heap.size + 1, 3, none⟩ = some (.int .i64 lf) := q.get (i := 3) rfl
  have q2 := F10.out.get (B := w.heap.size) (cs := sessL r code x p t false) (by simp)
  have s0 : a10.cell? ⟨w.heap.size, 0, none⟩ = some (.int .i64 r) := q2.get (i := 0) rfl
  have s1 : a10.cell? ⟨w.heap.size, 1, none⟩ = some (.int .i64 code) := q2.get (i := 1) rfl
  have s2 : a10.cell? ⟨w.heap.size, 2, none⟩ = some (.int .i64 x) := q2.get (i := 2) rfl
  have e3 : a10.cell? ⟨w.heap.size, 3, none⟩ = some (.int .i64 p) := q2.get (i := 3) rfl
  have e4 : a10.cell? ⟨w.heap.size, 4, none⟩ = some (.int .i64 t) := q2.get (i := 4) rfl
  have e5 : a10.cell? ⟨w.heap.size, 5, none⟩ = some (.bool false) := q2.get (i := 5) rfl
  clear q q2
  go_wp2_with fail
  refine (HCt.out _ (F10.out.laid HL.out)).mono ?_
  rintro e a6 ⟨rfl, hb6⟩
  have F6 := Bx.mk (F10.out.below hb6)
  clear e0 e1 e2 e8 s0 s1 s2 e3 e4 e5
  clear hb6 F10 G0 G1 G2 HO HCk
  have zr6 := Bx.mk (row_new a6 zC 44)
  have hM6 := F6.out.2.1
  go_wp2_with (refine wpList_stR rowT_cert rfl (.tmp 13) (.tmp 84) rfl a6.heap.size rfl ([2, dv_, vf, lf, ver, bY, sr, ss].map (.int .i64)) rfl (one_ints .i64 _) rfl zC zr6.out rfl ?_)
  intro b6 r6 g6
  obtain ⟨C, hC⟩ : ∃ C, C = a6.heap.size := ⟨_, rfl⟩
  rw [← hC] at r6 g6 hM6 ⊢
  have F8 := Bx.mk ((F6.out.alloc _).put g6 hM6 r6 (by show 0 < 8; decide))
  clear hC r6 g6 hM6 zr6 F6
  have q := F8.out.get (B := w.heap.size + 1) (cs := reqL pt dv_ vf lf pk) (by simp)
  have e0 : b6.cell? ⟨w.heap.size + 1, 0, none⟩ = some (.int .i64 pt) := q.get (i := 0) rfl
  have e1 : b6.cell? ⟨w.heap.size + 1, 1, none⟩ = some (.int .i64 dv_) := q.get (i := 1) rfl
  have e2 : b6.cell? ⟨w.heap.size + 1, 2, none⟩ = some (.int .i64 vf) := q.get (i := 2) rfl
  have e8 : b6.cell? ⟨w.heap.size + 1, 3, none⟩ = some (.int .i64 lf) := q.get (i := 3) rfl
  have q2 := F8.out.get (B := w.heap.size) (cs := sessL r code x p t false) (by simp)
  have s0 : b6.cell? ⟨w.heap.size, 0, none⟩ = some (.int .i64 r) := q2.get (i := 0) rfl
  have s1 : b6.cell? ⟨w.heap.size, 1, none⟩ = some (.int .i64 code) := q2.get (i := 1) rfl
  have s2 : b6.cell? ⟨w.heap.size, 2, none⟩ = some (.int .i64 x) := q2.get (i := 2) rfl
  have e3 : b6.cell? ⟨w.heap.size, 3, none⟩ = some (.int .i64 p) := q2.get (i := 3) rfl
  have e4 : b6.cell? ⟨w.heap.size, 4, none⟩ = some (.int .i64 t) := q2.get (i := 4) rfl
  have e5 : b6.cell? ⟨w.heap.size, 5, none⟩ = some (.bool false) := q2.get (i := 5) rfl
  clear q q2
  go_wp2_with fail
  refine (HSh.out _ (F8.out.laid HL.out)).mono ?_
  rintro e a9 ⟨rfl, hb9⟩
  have F9 := Bx.mk (F8.out.below hb9)
  clear e0 e1 e2 e8 s0 s1 s2 e3 e4 e5
  clear hb9 F8 HSh
  have zr9 := Bx.mk (row_new a9 (z32.map (.int .u8)) 54)
  have hM9 := F9.out.2.1
  go_wp2_with (refine wpList_stR rowT_key rfl (.tmp 15) (.tmp 94) rfl a9.heap.size rfl (kn.map (.int .u8)) rfl (one_ints .u8 _) HKM.out (z32.map (.int .u8)) zr9.out rfl ?_)
  intro b9 r9 g9
  obtain ⟨K, hK⟩ : ∃ K, K = a9.heap.size := ⟨_, rfl⟩
  rw [← hK] at r9 g9 hM9 ⊢
  have F10 := Bx.mk ((F9.out.alloc _).put g9 hM9 r9 (by rw [HKM.out]; decide))
  clear hK r9 g9 hM9 zr9 F9
  go_wp2_with fail
  refine wp_region_noPanic ?_
  refine wp_region_held_drew (S := fun W' => FS w [(K, kn.map (.int .u8)), (C, [2, dv_, vf, lf, ver, bY, sr, ss].map (.int .i64)), (w.heap.size + 1, reqL pt dv_ vf lf pk), (w.heap.size, sessL r code x p t false)] (K + 1) W') (by kernel_rfl) (F10.out.drew 1) (fun hH => ?_)
  have hS0 := F10.out.drew 1
  refine wpAnyH_take (i := 0) (oi := _) (v := .func (.func 28) #[] #[]) rfl (by kernel_rfl) (by kernel_rfl) (by kernel_rfl) (fun _ _ _ h => h) (Or.inl ⟨by rfl, by (intro wz hSz; go_simp)⟩) hH ?_
  simp only [Act.put, List.setIfInBounds_toArray, List.set_cons_zero, List.set_cons_succ]
  refine wpAnyH_take (i := 1) (oi := _) (v := .pointer (some ⟨w.heap.size + 1, 1, none⟩)) rfl (by kernel_rfl) (by kernel_rfl) (by kernel_rfl) (fun _ _ _ h => h) (Or.inl ⟨by rfl, by (intro wz hSz; go_simp)⟩) hH ?_
  simp only [Act.put, List.setIfInBounds_toArray, List.set_cons_zero, List.set_cons_succ]
  refine wpAnyH_take (i := 2) (oi := _) (v := .int .i64 dv_) rfl (by kernel_rfl) (by kernel_rfl) (by kernel_rfl) (fun _ _ _ h => h) (Or.inl ⟨by rfl, by (intro wz hSz; have zc : wz.cell? ⟨w.heap.size + 1, 1, none⟩ = _ := (FS.get (B := w.heap.size + 1) (cs := reqL pt dv_ vf lf pk) hSz (by simp)).get (i := 1) rfl; go_simp)⟩) hH ?_
  simp only [Act.put, List.setIfInBounds_toArray, List.set_cons_zero, List.set_cons_succ]
  refine wpAnyH_take (i := 4) (oi := _) (v := .func (.func 28) #[] #[]) rfl (by kernel_rfl) (by kernel_rfl) (by kernel_rfl) (fun _ _ _ h => h) (Or.inl ⟨by rfl, by (intro wz hSz; go_simp)⟩) hH ?_
  simp only [Act.put, List.setIfInBounds_toArray, List.set_cons_zero, List.set_cons_succ]
  refine wpAnyH_take (i := 5) (oi := _) (v := .pointer (some ⟨w.heap.size + 1, 2, none⟩)) rfl (by kernel_rfl) (by kernel_rfl) (by kernel_rfl) (fun _ _ _ h => h) (Or.inl ⟨by rfl, by (intro wz hSz; go_simp)⟩) hH ?_
  simp only [Act.put, List.setIfInBounds_toArray, List.set_cons_zero, List.set_cons_succ]
  refine wpAnyH_take (i := 6) (oi := _) (v := .int .i64 vf) rfl (by kernel_rfl) (by kernel_rfl) (by kernel_rfl) (fun _ _ _ h => h) (Or.inl ⟨by rfl, by (intro wz hSz; have zc : wz.cell? ⟨w.heap.size + 1, 2, none⟩ = _ := (FS.get (B := w.heap.size + 1) (cs := reqL pt dv_ vf lf pk) hSz (by simp)).get (i := 2) rfl; go_simp)⟩) hH ?_
  simp only [Act.put, List.setIfInBounds_toArray, List.set_cons_zero, List.set_cons_succ]
  refine wpAnyH_take (i := 8) (oi := _) (v := .func (.func 28) #[] #[]) rfl (by kernel_rfl) (by kernel_rfl) (by kernel_rfl) (fun _ _ _ h => h) (Or.inl ⟨by rfl, by (intro wz hSz; go_simp)⟩) hH ?_
  simp only [Act.put, List.setIfInBounds_toArray, List.set_cons_zero, List.set_cons_succ]
  refine wpAnyH_take (i := 9) (oi := _) (v := .pointer (some ⟨w.heap.size + 1, 3, none⟩)) rfl (by kernel_rfl) (by kernel_rfl) (by kernel_rfl) (fun _ _ _ h => h) (Or.inl ⟨by rfl, by (intro wz hSz; go_simp)⟩) hH ?_
  simp only [Act.put, List.setIfInBounds_toArray, List.set_cons_zero, List.set_cons_succ]
  refine wpAnyH_take (i := 10) (oi := _) (v := .int .i64 lf) rfl (by kernel_rfl) (by kernel_rfl) (by kernel_rfl) (fun _ _ _ h => h) (Or.inl ⟨by rfl, by (intro wz hSz; have zc : wz.cell? ⟨w.heap.size + 1, 3, none⟩ = _ := (FS.get (B := w.heap.size + 1) (cs := reqL pt dv_ vf lf pk) hSz (by simp)).get (i := 3) rfl; go_simp)⟩) hH ?_
  simp only [Act.put, List.setIfInBounds_toArray, List.set_cons_zero, List.set_cons_succ]
  clear F10
  refine wpAnyH_ready (rs := [3]) (by kernel_rfl) (by simp) ?_
  refine AllReadyH.cons (o := _) rfl (fun K1 hK1 => ?_) AllReadyH.nil
  go_simp
  refine (number_c dv_ _).mono ?_
  rintro e v1 ⟨rfl, hb1⟩
  have hS1 := hS0.below hb1
  clear hb1 hS0
  (try dsimp only)
  refine hK1.out _ _ hS1 (fun _ => ?_)
  refine wpAnyH_ready (rs := [7]) (by kernel_rfl) (by simp) ?_
  refine AllReadyH.cons (o := _) rfl (fun K2 hK2 => ?_) AllReadyH.nil
  go_simp
  refine (number_c vf _).mono ?_
  rintro e v2 ⟨rfl, hb2⟩
  have hS2 := hS1.below hb2
  clear hb2 hS1
  (try dsimp only)
  refine hK2.out _ _ hS2 (fun _ => ?_)
  refine wpAnyH_ready (rs := [11]) (by kernel_rfl) (by simp) ?_
  refine AllReadyH.cons (o := _) rfl (fun K3 hK3 => ?_) AllReadyH.nil
  go_simp
  refine (number_c lf _).mono ?_
  rintro e v3 ⟨rfl, hb3⟩
  have hS3 := hS2.below hb3
  clear hb3 hS2
  (try dsimp only)
  refine hK3.out _ _ hS3 (fun _ => ?_)
  refine wpAnyH_ready (rs := [12]) (by kernel_rfl) (by simp) ?_
  refine AllReadyH.cons (o := _) rfl (fun K4 hK4 => ?_) AllReadyH.nil
  go_simp
  have hS4 := hS3.alloc (.cells #[.int .i64 1, .int .i64 dv_, .string ⟨#[]⟩, .slice none 0 0, .int .i64 1, .int .i64 vf, .string ⟨#[]⟩, .slice none 0 0, .int .i64 1, .int .i64 lf, .string ⟨#[]⟩, .slice none 0 0] 59)
  have HI := ints_three v3 dv_ vf lf
  have hvs : v3.heap.size < (v3.alloc (.cells #[.int .i64 1, .int .i64 dv_, .string ⟨#[]⟩, .slice none 0 0, .int .i64 1, .int .i64 vf, .string ⟨#[]⟩, .slice none 0 0, .int .i64 1, .int .i64 lf, .string ⟨#[]⟩, .slice none 0 0] 59)).heap.size := by rw [World.size_alloc]; omega
  refine hK4.out _ _ hS4 (fun _ => ?_)
  refine wpAnyH_take (i := 13) (oi := _) (v := .agg #[.int .i64 3, .int .i64 0, .string ⟨#[]⟩, .slice (some ⟨v3.heap.size, 0, none⟩) 3 3]) rfl (by kernel_rfl) (by kernel_rfl) (by kernel_rfl) (fun _ _ _ h => h) (Or.inl ⟨by rfl, by (intro wz hSz; go_simp)⟩) hS4 ?_
  simp only [Act.put, List.setIfInBounds_toArray, List.set_cons_zero, List.set_cons_succ]
  refine wpAnyH_ready (rs := [14]) (by kernel_rfl) (by simp) ?_
  refine AllReadyH.cons (o := _) rfl (fun K5 hK5 => ?_) AllReadyH.nil
  go_simp
  refine (encode_c v3.heap.size 0 3 [dv_, vf, lf] _ (by simp) HR3.out HI hvs).mono ?_
  rintro e v5 ⟨u, rfl, hby, hb5, hown⟩
  obtain ⟨g, c, hu, hc1, hc2, hu8, hg⟩ := slice_of_bytes hby (encL_pos _)
  subst hu
  have hS5 := hS4.below hb5
  clear hS4 hb5 hS3
  (try dsimp only)
  refine hK5.out _ _ hS5 (fun _ => ?_)
  refine wpAnyH_take (i := 15) (oi := _) (v := .tuple #[.slice (some ⟨g, 0, none⟩) (encL [dv_, vf, lf]).length c, .int .i64 0]) rfl (by kernel_rfl) (by kernel_rfl) (by kernel_rfl) (fun _ _ _ h => h) (Or.inl ⟨by rfl, by (intro wz hSz; go_simp)⟩) hS5 ?_
  simp only [Act.put, List.setIfInBounds_toArray, List.set_cons_zero, List.set_cons_succ]
  refine wpAnyH_take (i := 16) (oi := _) (v := .slice (some ⟨g, 0, none⟩) (encL [dv_, vf, lf]).length c) rfl (by kernel_rfl) (by kernel_rfl) (by kernel_rfl) (fun _ _ _ h => h) (Or.inl ⟨by rfl, by (intro wz hSz; go_simp)⟩) hS5 ?_
  simp only [Act.put, List.setIfInBounds_toArray, List.set_cons_zero, List.set_cons_succ]
  refine wpAnyH_take (i := 17) (oi := _) (v := .int .i64 0) rfl (by kernel_rfl) (by kernel_rfl) (by kernel_rfl) (fun _ _ _ h => h) (Or.inl ⟨by rfl, by (intro wz hSz; go_simp)⟩) hS5 ?_
  simp only [Act.put, List.setIfInBounds_toArray, List.set_cons_zero, List.set_cons_succ]
  refine wpAnyH_ready (rs := [18]) (by kernel_rfl) (by simp) ?_
  refine AllReadyH.cons (o := _) rfl (fun K6 hK6 => ?_) AllReadyH.nil
  go_simp
  refine hK6.out _ _ hS5 (fun _ => ?_)
  refine wpAnyH_ready (rs := [19]) (by kernel_rfl) (by simp) ?_
  refine AllReadyH.cons (o := _) rfl (fun K7 hK7 => ?_) AllReadyH.nil
  go_simp
  refine hK7.out _ _ hS5 (fun _ => ?_)
  refine wpAnyH_done (by kernel_rfl) ?_ _
  refine NoPanic.normal ?_
  have G11 := Bx.mk (show FG w [(K, kn.map (.int .u8)), (C, [2, dv_, vf, lf, ver, bY, sr, ss].map (.int .i64)), (w.heap.size + 1, reqL pt dv_ vf lf pk), (w.heap.size, sessL r code x p t false)] v5.heap.size g (encL [dv_, vf, lf]) v5 from ⟨hS5.raise, hu8, hg⟩)
  clear hK1 hK2 hK3 hK4 hK5 hK6 hK7 hH hS5 hown hby HI hvs hu8 hg
  have hsk := slice_key K
  have hl2 := encL_len [dv_, vf, lf]
  have hep := encL_pos [dv_, vf, lf]
  have HRQ := Bx.mk (show tagged tEnroll (prfN kn 2 ++ encL [dv_, vf, lf]) = rqN (prfN kn 2) dv_ vf lf from rfl)
  obtain ⟨en, hen⟩ : ∃ en, en = encL [dv_, vf, lf] := ⟨_, rfl⟩
  rw [← hen] at G11 hl2 hep HRQ hc1 ⊢
  have hpl := prfN_len kn 2
  have HT0 := Bx.mk (show tagged tProof (kn ++ [2]) = prfN kn 2 from rfl)
  have hrl : (rqN (prfN kn 2) dv_ vf lf).length = 32 := by unfold rqN; exact tagged_len _ _
  obtain ⟨pn, hpn⟩ : ∃ p, p = prfN kn 2 := ⟨_, rfl⟩
  rw [← hpn] at hpl HT0 HRQ HY HN hrl
  obtain ⟨rq, hrq⟩ : ∃ q, q = rqN pn dv_ vf lf := ⟨_, rfl⟩
  rw [← hrq] at HRQ HY HN hrl
  have HPL := Bx.mk hpl
  have HPM : Bx ((pn.map (Value.int .u8)).length = 32) := .mk (by rw [List.length_map]; exact hpl)
  have HRL := Bx.mk hrl
  have HRM : Bx ((rq.map (Value.int .u8)).length = 32) := .mk (by rw [List.length_map]; exact hrl)
  obtain ⟨N, hN⟩ : ∃ N, N = en.length := ⟨_, rfl⟩
  rw [← hN] at hl2 hep hc1 ⊢
  have HNl := Bx.mk hN
  have hn1 : N ≤ 44 := by simp at hl2; omega
  clear hen hpl hrl hpn hrq hN hl2 HR3
  have hM11 := Nat.le_refl v5.heap.size
  have NK := Bx.mk (news_row (K := K) (kn := kn) ((G11.out.alloc (.cells #[] 5)).1.get (by simp)))
  go_wp2_with (at_builtin; go_must (refine wpList_appFull8 rfl (.tmp 114) (.tmp 115) rfl ⟨v5.heap.size, 0, none⟩ 0 [] rfl rfl (fun j hj => absurd hj (Nat.not_lt_zero j)) ⟨K, 0, none⟩ 32 32 kn rfl HKL.out (by omega) NK.out (by simp) ?_))
  intro u1 x1 hb1 hg1 ho1
  have G12 := Bx.mk ((G11.out.alloc (.cells #[] 5)).below ⟨hg1.os, hg1.tape, hg1.output, hg1.size, fun q hq => hg1.block q hq (by simp)⟩)
  have hb1 : Bytes x1 u1 kn := by simpa using hb1
  have HO1 : Bx (u1.ownBlock = some (v5.heap.size + 1)) := .mk (by simpa using ho1)
  have HB1 := Bx.mk hb1
  have HL1 : Bx (kn.length + 1 ≤ 1000000) := .mk (by rw [HKL.out]; decide)
  clear hb1 hg1 ho1 NK G11
  go_wp2_with (at_builtin; go_must (refine wpList_app8 rfl (.tmp 116) (.tmp 117) rfl u1 kn rfl ?c1 ⟨x1.heap.size, 0, none⟩ 1 1 [2] rfl rfl (by omega) (one_new _ _ _) HL1.out ?_))
  case c1 => exact HB1.out.alloc _
  intro u2 x2 hb2 hs2
  have G13 := Bx.mk ((G12.out.alloc (.cells #[.int .u8 2] 5)).keep (B := v5.heap.size + 1) (by have := hs2.grown; rwa [HO1.out] at this) (by omega))
  obtain ⟨g1, d1, e1, ht⟩ := tagged_own (w := w) tProof (G13.out.1.laid HL.out) hb2 (by simp) (by rw [List.length_append, HKL.out]; simp) (by decide) (by decide)
  subst e1
  rw [HT0.out] at ht
  have h33 : (kn ++ [(2 : Int)]).length = 33 := by rw [List.length_append, HKL.out]; rfl
  rw [h33] at ht ⊢
  have HT := Bx.mk ht
  clear h33 ht hb2 hs2 G12 HB1 HO1 HL1 HT0
  go_wp2_with fail
  refine HT.out.mono ?_
  rintro e x3 ⟨rfl, hb3⟩
  have G14 := Bx.mk (G13.out.below hb3)
  clear hb3 G13 HT
  have zr := Bx.mk (row_new x3 (z32.map (.int .u8)) 35)
  have hM := G14.out.1.2.1
  go_wp2_with (refine wpList_stR rowT_dig rfl (.tmp 20) (.tmp 119) rfl x3.heap.size rfl (pn.map (.int .u8)) rfl (one_ints .u8 _) HPM.out (z32.map (.int .u8)) zr.out rfl ?_)
  intro x4 r4 g4
  obtain ⟨D, hD⟩ : ∃ D, D = x3.heap.size := ⟨_, rfl⟩
  rw [← hD] at r4 g4 hM ⊢
  have G15 := Bx.mk ((G14.out.alloc _).put g4 hM r4 (by rw [HPM.out]; decide))
  clear hD r4 g4 hM zr G14 hM11
  have hsd := slice_dig D
  have hM15 := G15.out.1.2.1
  have NP := Bx.mk (news_row (K := D) (kn := pn) ((G15.out.alloc (.cells #[] 5)).1.get (by simp)))
  go_wp2_with (at_builtin; go_must (refine wpList_appFull8 rfl (.tmp 120) (.tmp 121) rfl ⟨x4.heap.size, 0, none⟩ 0 [] rfl rfl (fun j hj => absurd hj (Nat.not_lt_zero j)) ⟨D, 0, none⟩ 32 32 pn rfl HPL.out (by omega) NP.out (by simp) ?_))
  intro u5 x5 hb5 hg5 ho5
  have G16 := Bx.mk ((G15.out.alloc (.cells #[] 5)).below ⟨hg5.os, hg5.tape, hg5.output, hg5.size, fun q hq => hg5.block q hq (by simp)⟩)
  have hb5 : Bytes x5 u5 pn := by simpa using hb5
  have HO5 : Bx (u5.ownBlock = some (x4.heap.size + 1)) := .mk (by simpa using ho5)
  have HB5 := Bx.mk hb5
  have NE := Bx.mk (news_of_u8 G16.out.2.1)
  clear hb5 hg5 ho5 NP G15
  go_wp2_with (at_builtin; go_must (refine wpList_app8 rfl (.tmp 122) (.tmp 123) rfl u5 pn rfl HB5.out ⟨g, 0, none⟩ N c en rfl HNl.out.symm hep NE.out (by rw [HPL.out]; omega) ?_))
  intro u6 x6 hb6 hs6
  have G17 := Bx.mk (G16.out.keep (B := x4.heap.size + 1) (by have := hs6.grown; rwa [HO5.out] at this) (by omega))
  obtain ⟨g1, d1, e1, ht⟩ := tagged_own (w := w) tEnroll (G17.out.1.laid HL.out) hb6 (by rw [List.length_append, HPL.out]; omega) (by rw [List.length_append, HPL.out, ← HNl.out]; omega) (by decide) (by decide)
  subst e1
  rw [HRQ.out] at ht
  have HT := Bx.mk ht
  clear ht hb6 hs6 G16 HB5 HO5 NE HRQ
  obtain ⟨Z, hZ⟩ : ∃ Z, Z = (pn ++ en).length := ⟨_, rfl⟩
  rw [← hZ] at HT ⊢
  clear hZ
  go_wp2_with fail
  refine HT.out.mono ?_
  rintro e x7 ⟨rfl, hb7⟩
  have F18 := Bx.mk (G17.out.below hb7).1
  clear hb7 G17 HT
  have zr := Bx.mk (row_new x7 (z32.map (.int .u8)) 35)
  have hM := F18.out.2.1
  go_wp2_with (refine wpList_stR rowT_dig rfl (.tmp 21) (.tmp 125) rfl x7.heap.size rfl (rq.map (.int .u8)) rfl (one_ints .u8 _) HRM.out (z32.map (.int .u8)) zr.out rfl ?_)
  intro x8 r8 g8
  obtain ⟨E, hE8⟩ : ∃ E, E = x7.heap.size := ⟨_, rfl⟩
  rw [← hE8] at r8 g8 hM ⊢
  have F19 := Bx.mk ((F18.out.alloc _).put g8 hM r8 (by rw [HRM.out]; decide))
  clear hE8 r8 g8 hM zr F18 hM15 hc1 hn1 hep hsk hsd
  have HQ := Bx.mk (reqL_len pt dv_ vf lf pk HK.out)
  by_cases h5 : pk = rq
  · subst h5
    have HA := Bx.mk (fun w hL hE => HY.out w hL hE rfl)
    clear HY HN
    unfold sessV reqV at HA
    have q := F19.out.get (B := w.heap.size + 1) (cs := reqL pt dv_ vf lf pk) (by simp)
    have e0 : x8.cell? ⟨w.heap.size + 1, 0, none⟩ = some (.int .i64 pt) := q.get (i := 0) rfl
    have e1 : x8.cell? ⟨w.heap.size + 1, 1, none⟩ = some (.int .i64 dv_) := q.get (i := 1) rfl
    have e2 : x8.cell? ⟨w.heap.size + 1, 2, none⟩ = some (.int .i64 vf) := q.get (i := 2) rfl
    have e8 : x8.cell? ⟨w.heap.size + 1, 3, none⟩ = some (.int .i64 lf) := q.get (i := 3) rfl
    have q2 := F19.out.get (B := w.heap.size) (cs := sessL r code x p t false) (by simp)
    have s0 : x8.cell? ⟨w.heap.size, 0, none⟩ = some (.int .i64 r) := q2.get (i := 0) rfl
    have s1 : x8.cell? ⟨w.heap.size, 1, none⟩ = some (.int .i64 code) := q2.get (i := 1) rfl
    have s2 : x8.cell? ⟨w.heap.size, 2, none⟩ = some (.int .i64 x) := q2.get (i := 2) rfl
    have e3 : x8.cell? ⟨w.heap.size, 3, none⟩ = some (.int .i64 p) := q2.get (i := 3) rfl
    have e4 : x8.cell? ⟨w.heap.size, 4, none⟩ = some (.int .i64 t) := q2.get (i := 4) rfl
    have e5 : x8.cell? ⟨w.heap.size, 5, none⟩ = some (.bool false) := q2.get (i := 5) rfl
    clear q q2
    go_wp2_with (refine wpList_ldN rowT_req rfl (.tmp 6) rfl (w.heap.size + 1) 0 rfl (reqL pt dv_ vf lf pk) (F19.out.get (by simp)).range0 HQ.out (.agg (reqL pt dv_ vf lf pk).toArray) rfl ?_)
    refine (HA.out _ (F19.out.laid HL.out) (F19.out.etype HE.out)).mono ?_
    rintro e a10 ⟨rfl, hb10⟩
    have F20 := Bx.mk (F19.out.below hb10)
    have tz := Bx.mk (two25 a10)
    have hM := F20.out.2.1
    clear e0 e1 e2 e8 s0 s1 s2 e3 e4 e5
    clear hb10 F19 HA
    go_wp2_with (refine wpList_stR rowT_sess rfl (.tmp 22) (.tmp 133) rfl a10.heap.size rfl (sessL r code x p t true) rfl (sess_one r code x p t true) rfl sess0 tz.out.1 rfl ?_)
    intro a11 r11 g11
    have zc := Bx.mk (tz.out.2.grown g11 (tz.out.2.lt (by decide)) (fun q => by have q2 : a10.heap.size + 1 = a10.heap.size := Option.some.inj q; omega))
    have P11 := Bx.mk (((F20.out.alloc oS0).alloc (cC 0 0 0 0 0 0 0 0)).put g11 hM r11 (by show 0 < 6; decide))
    clear r11 g11 tz F20 hM
    refine wpList_stR rowT_cert rfl (.tmp 23) (.tmp 134) rfl (a10.heap.size + 1) rfl ([2, dv_, vf, lf, ver, bY, sr, ss].map (.int .i64)) rfl (one_ints .i64 _) rfl zC zc.out rfl ?_
    intro b11 r12 g12
    have F21 := Bx.mk (P11.out.put g12 (Nat.le_refl _) r12 (by show 0 < 8; decide))
    obtain ⟨Q, hQ⟩ : ∃ Q, Q = a10.heap.size + 1 := ⟨_, rfl⟩
    rw [← hQ] at F21 ⊢
    obtain ⟨X, hX⟩ : ∃ X, X = a10.heap.size := ⟨_, rfl⟩
    rw [← hX] at F21 ⊢
    clear hQ hX r12 g12 zc P11
    have RD := Bx.mk (show b11.rangeAt (w.heap.size + 1) 4 (pk.map (.int .u8)) from fun j v hj => by
      have := (F21.out.get (B := w.heap.size + 1) (cs := reqL pt dv_ vf lf pk) (by simp)).range0 (4 + j) v (by unfold reqL; rw [List.getElem?_append_right (by simp), show 4 + j - ([Value.int .i64 pt, .int .i64 dv_, .int .i64 vf, .int .i64 lf] : List Value).length = j by simp]; exact hj)
      rw [Nat.zero_add] at this
      exact this)
    have hkl : (pk.map (Value.int .u8)).length = 32 := by rw [List.length_map]; exact HK.out
    have HKPL := Bx.mk hkl
    have heq : (Op.equalIn 10000 35 (.agg (pk.map (.int .u8)).toArray) (.agg (pk.map (.int .u8)).toArray)).run Tryz.prog b11 = .ok true b11 := by
      have := eq_dig pk pk HK.out HK.out b11
      rw [decide_eq_true rfl] at this
      exact this
    have hce := eq_cert_self 2 dv_ vf lf ver bY sr ss b11
    unfold certV at hce
    have u := F21.out.get (B := X) (cs := sessL r code x p t true) (by simp)
    have v := F21.out.get (B := Q) (cs := ([2, dv_, vf, lf, ver, bY, sr, ss].map (.int .i64))) (by simp)
    have v2 := F21.out.get (B := C) (cs := [2, dv_, vf, lf, ver, bY, sr, ss].map (.int .i64)) (by simp)
    have u2 := F21.out.get (B := w.heap.size) (cs := sessL r code x p t false) (by simp)
    have x4 : b11.cell? ⟨X, 4, none⟩ = some (.int .i64 (t)) := u.get (i := 4) rfl
    have x5 : b11.cell? ⟨X, 5, none⟩ = some (.bool true) := u.get (i := 5) rfl
    have e4 : b11.cell? ⟨w.heap.size, 4, none⟩ = some (.int .i64 t) := u2.get (i := 4) rfl
    have y0 : b11.cell? ⟨Q, 0, none⟩ = some (.int .i64 2) := v.get (i := 0) rfl
    have y1 : b11.cell? ⟨Q, 1, none⟩ = some (.int .i64 dv_) := v.get (i := 1) rfl
    have y2 : b11.cell? ⟨Q, 2, none⟩ = some (.int .i64 vf) := v.get (i := 2) rfl
    have y3 : b11.cell? ⟨Q, 3, none⟩ = some (.int .i64 lf) := v.get (i := 3) rfl
    have y4 : b11.cell? ⟨Q, 4, none⟩ = some (.int .i64 ver) := v.get (i := 4) rfl
    have y5 : b11.cell? ⟨Q, 5, none⟩ = some (.int .i64 bY) := v.get (i := 5) rfl
    have y6 : b11.cell? ⟨Q, 6, none⟩ = some (.int .i64 sr) := v.get (i := 6) rfl
    have y7 : b11.cell? ⟨Q, 7, none⟩ = some (.int .i64 ss) := v.get (i := 7) rfl
    have z0 : b11.cell? ⟨C, 0, none⟩ = some (.int .i64 2) := v2.get (i := 0) rfl
    have z1 : b11.cell? ⟨C, 1, none⟩ = some (.int .i64 dv_) := v2.get (i := 1) rfl
    have z2 : b11.cell? ⟨C, 2, none⟩ = some (.int .i64 vf) := v2.get (i := 2) rfl
    have z3 : b11.cell? ⟨C, 3, none⟩ = some (.int .i64 lf) := v2.get (i := 3) rfl
    have z4 : b11.cell? ⟨C, 4, none⟩ = some (.int .i64 ver) := v2.get (i := 4) rfl
    have z5 : b11.cell? ⟨C, 5, none⟩ = some (.int .i64 bY) := v2.get (i := 5) rfl
    have z6 : b11.cell? ⟨C, 6, none⟩ = some (.int .i64 sr) := v2.get (i := 6) rfl
    have z7 : b11.cell? ⟨C, 7, none⟩ = some (.int .i64 ss) := v2.get (i := 7) rfl
    have VE := Bx.mk (F21.out.get (B := E) (cs := pk.map (.int .u8)) (by simp)).range0
    have BZ := Bx.mk F21.out.1
    obtain ⟨t0, t5⟩ := ht5
    clear u v v2 u2 F21 hkl
    go_wp2_with (first | (refine wpList_ldN rowT_dig rfl (.tmp 142) rfl (w.heap.size + 1) 4 rfl (pk.map (.int .u8)) RD.out HKPL.out (.agg (pk.map (.int .u8)).toArray) rfl ?_) | (refine wpList_ldN rowT_dig rfl (.tmp 21) rfl E 0 rfl (pk.map (.int .u8)) VE.out HKPL.out (.agg (pk.map (.int .u8)).toArray) rfl ?_))
    go_ret
    exact ⟨rfl, BZ.out⟩
  · skip
    have HA := Bx.mk (fun w hL hE => HN.out w hL hE h5)
    clear HY HN
    unfold sessV reqV at HA
    have q := F19.out.get (B := w.heap.size + 1) (cs := reqL pt dv_ vf lf pk) (by simp)
    have e0 : x8.cell? ⟨w.heap.size + 1, 0, none⟩ = some (.int .i64 pt) := q.get (i := 0) rfl
    have e1 : x8.cell? ⟨w.heap.size + 1, 1, none⟩ = some (.int .i64 dv_) := q.get (i := 1) rfl
    have e2 : x8.cell? ⟨w.heap.size + 1, 2, none⟩ = some (.int .i64 vf) := q.get (i := 2) rfl
    have e8 : x8.cell? ⟨w.heap.size + 1, 3, none⟩ = some (.int .i64 lf) := q.get (i := 3) rfl
    have q2 := F19.out.get (B := w.heap.size) (cs := sessL r code x p t false) (by simp)
    have s0 : x8.cell? ⟨w.heap.size, 0, none⟩ = some (.int .i64 r) := q2.get (i := 0) rfl
    have s1 : x8.cell? ⟨w.heap.size, 1, none⟩ = some (.int .i64 code) := q2.get (i := 1) rfl
    have s2 : x8.cell? ⟨w.heap.size, 2, none⟩ = some (.int .i64 x) := q2.get (i := 2) rfl
    have e3 : x8.cell? ⟨w.heap.size, 3, none⟩ = some (.int .i64 p) := q2.get (i := 3) rfl
    have e4 : x8.cell? ⟨w.heap.size, 4, none⟩ = some (.int .i64 t) := q2.get (i := 4) rfl
    have e5 : x8.cell? ⟨w.heap.size, 5, none⟩ = some (.bool false) := q2.get (i := 5) rfl
    clear q q2
    go_wp2_with (refine wpList_ldN rowT_req rfl (.tmp 6) rfl (w.heap.size + 1) 0 rfl (reqL pt dv_ vf lf pk) (F19.out.get (by simp)).range0 HQ.out (.agg (reqL pt dv_ vf lf pk).toArray) rfl ?_)
    refine (HA.out _ (F19.out.laid HL.out) (F19.out.etype HE.out)).mono ?_
    rintro e a10 ⟨rfl, hb10⟩
    have F20 := Bx.mk (F19.out.below hb10)
    have tz := Bx.mk (two25 a10)
    have hM := F20.out.2.1
    clear e0 e1 e2 e8 s0 s1 s2 e3 e4 e5
    clear hb10 F19 HA
    go_wp2_with (refine wpList_stR rowT_sess rfl (.tmp 22) (.tmp 133) rfl a10.heap.size rfl (sessL r code x p (t + 1) false) rfl (sess_one r code x p (t + 1) false) rfl sess0 tz.out.1 rfl ?_)
    intro a11 r11 g11
    have zc := Bx.mk (tz.out.2.grown g11 (tz.out.2.lt (by decide)) (fun q => by have q2 : a10.heap.size + 1 = a10.heap.size := Option.some.inj q; omega))
    have P11 := Bx.mk (((F20.out.alloc oS0).alloc (cC 0 0 0 0 0 0 0 0)).put g11 hM r11 (by show 0 < 6; decide))
    clear r11 g11 tz F20 hM
    refine wpList_stR rowT_cert rfl (.tmp 23) (.tmp 134) rfl (a10.heap.size + 1) rfl zC rfl (one_ints .i64 _) rfl zC zc.out rfl ?_
    intro b11 r12 g12
    have F21 := Bx.mk (P11.out.put g12 (Nat.le_refl _) r12 (by show 0 < 8; decide))
    obtain ⟨Q, hQ⟩ : ∃ Q, Q = a10.heap.size + 1 := ⟨_, rfl⟩
    rw [← hQ] at F21 ⊢
    obtain ⟨X, hX⟩ : ∃ X, X = a10.heap.size := ⟨_, rfl⟩
    rw [← hX] at F21 ⊢
    clear hQ hX r12 g12 zc P11
    have RD := Bx.mk (show b11.rangeAt (w.heap.size + 1) 4 (pk.map (.int .u8)) from fun j v hj => by
      have := (F21.out.get (B := w.heap.size + 1) (cs := reqL pt dv_ vf lf pk) (by simp)).range0 (4 + j) v (by unfold reqL; rw [List.getElem?_append_right (by simp), show 4 + j - ([Value.int .i64 pt, .int .i64 dv_, .int .i64 vf, .int .i64 lf] : List Value).length = j by simp]; exact hj)
      rw [Nat.zero_add] at this
      exact this)
    have hkl : (pk.map (Value.int .u8)).length = 32 := by rw [List.length_map]; exact HK.out
    have HKPL := Bx.mk hkl
    have heq : (Op.equalIn 10000 35 (.agg (pk.map (.int .u8)).toArray) (.agg (rq.map (.int .u8)).toArray)).run Tryz.prog b11 = .ok false b11 := by
      have := eq_dig pk rq HK.out HRL.out b11
      rw [decide_eq_false h5] at this
      exact this
    have hce := eq_cert_self 0 0 0 0 0 0 0 0 b11
    unfold certV at hce
    have u := F21.out.get (B := X) (cs := sessL r code x p (t + 1) false) (by simp)
    have v := F21.out.get (B := Q) (cs := zC) (by simp)
    have v2 := F21.out.get (B := C) (cs := [2, dv_, vf, lf, ver, bY, sr, ss].map (.int .i64)) (by simp)
    have u2 := F21.out.get (B := w.heap.size) (cs := sessL r code x p t false) (by simp)
    have x4 : b11.cell? ⟨X, 4, none⟩ = some (.int .i64 (t + 1)) := u.get (i := 4) rfl
    have x5 : b11.cell? ⟨X, 5, none⟩ = some (.bool false) := u.get (i := 5) rfl
    have e4 : b11.cell? ⟨w.heap.size, 4, none⟩ = some (.int .i64 t) := u2.get (i := 4) rfl
    have y0 : b11.cell? ⟨Q, 0, none⟩ = some (.int .i64 0) := v.get (i := 0) rfl
    have y1 : b11.cell? ⟨Q, 1, none⟩ = some (.int .i64 0) := v.get (i := 1) rfl
    have y2 : b11.cell? ⟨Q, 2, none⟩ = some (.int .i64 0) := v.get (i := 2) rfl
    have y3 : b11.cell? ⟨Q, 3, none⟩ = some (.int .i64 0) := v.get (i := 3) rfl
    have y4 : b11.cell? ⟨Q, 4, none⟩ = some (.int .i64 0) := v.get (i := 4) rfl
    have y5 : b11.cell? ⟨Q, 5, none⟩ = some (.int .i64 0) := v.get (i := 5) rfl
    have y6 : b11.cell? ⟨Q, 6, none⟩ = some (.int .i64 0) := v.get (i := 6) rfl
    have y7 : b11.cell? ⟨Q, 7, none⟩ = some (.int .i64 0) := v.get (i := 7) rfl
    have VE := Bx.mk (F21.out.get (B := E) (cs := rq.map (.int .u8)) (by simp)).range0
    have BZ := Bx.mk F21.out.1
    obtain ⟨t0, t5⟩ := ht5
    clear u v v2 u2 F21 hkl h5
    go_wp2_with (first | (refine wpList_ldN rowT_dig rfl (.tmp 142) rfl (w.heap.size + 1) 4 rfl (pk.map (.int .u8)) RD.out HKPL.out (.agg (pk.map (.int .u8)).toArray) rfl ?_) | (refine wpList_ldN rowT_dig rfl (.tmp 21) rfl E 0 rfl (rq.map (.int .u8)) VE.out HRM.out (.agg (rq.map (.int .u8)).toArray) rfl ?_))
    go_ret
    exact ⟨rfl, BZ.out⟩
end
end Go.Proofs.YtjbojoeafdkkeaaGreatDoor
