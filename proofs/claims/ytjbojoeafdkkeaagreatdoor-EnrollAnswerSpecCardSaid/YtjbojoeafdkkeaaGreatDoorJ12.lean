/- pake: Shared, where it answers. -/
import Derived.Test.YtjbojoeafdkkeaaGreatDoorJ11
set_option linter.unusedVariables false
set_option linter.unusedSimpArgs false
namespace Go.Proofs.YtjbojoeafdkkeaaGreatDoor
open Go Go.RowKit Go.Lib

def ordN (r own peer : Int) : Int × Int := if r = 1 then (own, peer) else (peer, own)
set_option maxHeartbeats 1000000 in
theorem order_c {r : Int} (h : r = 1 ∨ r = 2) : ∃ s k, (k = 120 ∨ k = 121) ∧ tb s = nameB r ∧ (∀ W M, MapI W M roleL → (Instr.lookup 109 (.map (some M)) (.int .i64 r) false).run Tryz.prog W = .ok (.agg #[.string s, .func (.func k) #[] #[]]) W) ∧
    ∀ a b w, Calls Tryz.prog k #[.int .i64 a, .int .i64 b] w fun e w' => e = .returned (.tuple #[.int .i64 (ordN r a b).1, .int .i64 (ordN r a b).2]) ∧ w' = w := by
  have hl : ∀ s k, lookI r roleL = some (roleV s k) → ∀ W M, MapI W M roleL → (Instr.lookup 109 (.map (some M)) (.int .i64 r) false).run Tryz.prog W = .ok (.agg #[.string s, .func (.func k) #[] #[]]) W := fun s k h1 W M hM => by
    have := hM.run_lookup Tryz.under_roles Tryz.under_int (Tryz.zero_role W) r false
    rw [h1] at this
    exact this
  rcases h with rfl | rfl
  · refine ⟨hostB, 120, .inl rfl, by decide, hl _ _ rfl, fun a b w => ?_⟩
    go_enter Tryz.func120, Tryz.ntmps120
    go_wp2
    go_ret2
    exact ⟨rfl, rfl⟩
  · refine ⟨guestB, 121, .inr rfl, by decide, hl _ _ rfl, fun a b w => ?_⟩
    go_enter Tryz.func121, Tryz.ntmps121
    go_wp2
    go_ret2
    exact ⟨rfl, rfl⟩
theorem keyN_eq (r code x peer : Int) : keyN r code x peer = tagged tPake (be8 (ordN r (ownN r code x) peer).1 ++ (be8 (ordN r (ownN r code x) peer).2 ++ be8 (zN r code x peer))) := by
  unfold keyN ordN keyL
  split <;> rfl

set_option maxHeartbeats 16000000 in
set_option maxRecDepth 100000 in
theorem pshared_ok (r code x peer : Int) (w : World) (hL : Laid w) (hb : sideOK r code x = true) (hp : elt peer = true) :
    Calls Tryz.prog 27 #[.agg #[.int .i64 r, .int .i64 code, .int .i64 x], .int .i64 peer] w fun e w' => e = .returned (.tuple #[dv (keyN r code x peer), .int .i64 0]) ∧ Below w.heap.size w w' := by
  have hi := (sideOK_iff r code x).1 hb
  obtain ⟨hr, c0, c1, x0, x1⟩ := hi
  have hr3 : (3 - r = 1 ∨ 3 - r = 2) := by omega
  have p0 := elt_pos hp; have p1 := elt_lt hp
  have HP := Bx.mk (fun w hL => ppoint_ok r code x w hL hb)
  have HC := Bx.mk (fun w => gcheck_c peer w (by omega) (by omega))
  rw [gcheck_0 hp] at HC
  obtain ⟨s, k, hkk, hs, hlook, hord⟩ := order_c hr
  obtain ⟨s3, k3, _, hs3, hlook3, _⟩ := order_c hr3
  have HLK := Bx.mk hlook; have HLK3 := Bx.mk hlook3
  have HMk := Bx.mk (fun W hW => masked_c s3 k3 (3 - r) code W hW hr3 hs3 c0 (by omega))
  unfold roleV at HMk
  have HIn := Bx.mk (fun W => inv_c (pmask (3 - r) code) W (elt_mask hr3 code))
  have HMu := Bx.mk (fun W => gmul_c peer (pwr (pmask (3 - r) code) 2305843009213688668) W hp (elt_pwr (elt_mask hr3 code) _))
  have HEx := Bx.mk (fun W => gexp_ok (bareN r code peer) x W (elt_bare hr code hp) (by omega) x1)
  have HZ := Bx.mk (show zN r code x peer = pwr (bareN r code peer) x.toNat from rfl)
  have HKE := Bx.mk (keyN_eq r code x peer)
  have HBr := Bx.mk (show bareN r code peer = peer * pwr (pmask (3 - r) code) 2305843009213688668 % 4611686018427377339 from rfl)
  rw [← HBr.out] at HMu
  rw [← HZ.out] at HEx
  have HOr := Bx.mk (hord (ownN r code x) peer)
  have ho := elt_own hr code x
  have hz : elt (zN r code x peer) = true := elt_pwr (elt_bare hr code hp) _
  have o0' := elt_pos ho; have o1' := elt_lt ho
  have z0' := elt_pos hz; have z1' := elt_lt hz
  have hob : (1 ≤ (ordN r (ownN r code x) peer).1 ∧ (ordN r (ownN r code x) peer).1 < 4611686018427377339) ∧ (1 ≤ (ordN r (ownN r code x) peer).2 ∧ (ordN r (ownN r code x) peer).2 < 4611686018427377339) := by
    unfold ordN; split <;> exact ⟨⟨by omega, by omega⟩, by omega, by omega⟩
  obtain ⟨⟨h0', h1'⟩, g0', g1'⟩ := hob
  obtain ⟨kn, hkn⟩ : ∃ p, p = keyN r code x peer := ⟨_, rfl⟩
  rw [← hkn] at HKE ⊢
  obtain ⟨hh, hhh⟩ : ∃ p, p = (ordN r (ownN r code x) peer).1 := ⟨_, rfl⟩
  obtain ⟨gg, hgg⟩ : ∃ p, p = (ordN r (ownN r code x) peer).2 := ⟨_, rfl⟩
  rw [← hhh, ← hgg] at HOr HKE
  rw [← hhh] at h0' h1'
  rw [← hgg] at g0' g1'
  obtain ⟨zz, hzz⟩ : ∃ p, p = zN r code x peer := ⟨_, rfl⟩
  rw [← hzz] at HKE HEx z0' z1'
  obtain ⟨own, hown⟩ : ∃ p, p = ownN r code x := ⟨_, rfl⟩
  rw [← hown] at HP HOr
  obtain ⟨ms, hms⟩ : ∃ p, p = pmask (3 - r) code := ⟨_, rfl⟩
  rw [← hms] at HMk HIn HMu
  obtain ⟨iv, hiv⟩ : ∃ p, p = pwr ms 2305843009213688668 := ⟨_, rfl⟩
  rw [← hiv] at HIn HMu
  obtain ⟨br, hbr⟩ : ∃ p, p = bareN r code peer := ⟨_, rfl⟩
  rw [← hbr] at HMu HEx
  have H0 := Bx.mk (fr_new w r code x)
  have HL := Bx.mk hL
  have hrl : 1 ≤ r := by omega
  have hrh : r ≤ 2 := by omega
  clear hb hp hL hr hr3 hs hs3 hlook hlook3 hord HZ HBr ho hz o0' o1' hkn hhh hgg hzz hown hms hiv hbr
  have hfd : ∀ W, (Instr.field 114 (.agg #[.string s, .func (.func k) #[] #[]]) 1).run Tryz.prog W = .ok (.func (.func k) #[] #[]) W := fun W => by kernel_rfl
  rcases hkk with rfl | rfl
  · go_enter Tryz.func27, Tryz.ntmps27
    go_wp2_with fail
    refine (HP.out _ (H0.out.laid HL.out)).mono ?_
    rintro e w1 ⟨rfl, hb1⟩
    have F1 := Bx.mk (fr_step H0.out hb1)
    clear hb1 H0 HP
    go_wp2_with fail
    refine (HC.out _).mono ?_
    rintro e w2 ⟨rfl, hb2⟩
    have F2 := Bx.mk (fr_step F1.out hb2)
    clear hb2 F1
    go_wp2_with fail
    refine (roles_c _).mono ?_
    rintro e w3 ⟨rfl, hM3, hb3⟩
    have F3 := Bx.mk (fr_step F2.out hb3)
    have M3 := Bx.mk hM3
    have hlk3 := HLK3.out _ _ hM3
    have hs3 := hb3.size
    obtain ⟨j0, j1, j2, j3⟩ := id F3.out.1
    clear hb3 F2 j0 hM3
    go_wp2_with fail
    refine (HMk.out _ (F3.out.laid HL.out)).mono ?_
    rintro e w4 ⟨rfl, hb4⟩
    have F4 := Bx.mk (fr_step F3.out hb4)
    have M4 := Bx.mk (M3.out.below hb4 M3.out.lt)
    clear hb4 F3 j1 j2 j3 hlk3 M3 hs3
    go_wp2_with fail
    refine (HIn.out _).mono ?_
    rintro e w5 ⟨rfl, hb5⟩
    have F5 := Bx.mk (fr_step F4.out hb5)
    have M5 := Bx.mk (M4.out.below hb5 M4.out.lt)
    clear hb5 F4 M4
    go_wp2_with fail
    refine (HMu.out _).mono ?_
    rintro e w6 ⟨rfl, hb6⟩
    have F6 := Bx.mk (fr_step F5.out hb6)
    have M6 := Bx.mk (M5.out.below hb6 M5.out.lt)
    obtain ⟨j0, j1, j2, j3⟩ := id F6.out.1
    clear hb6 F5 M5 j0
    go_wp2_with fail
    refine (HEx.out _).mono ?_
    rintro e w7 ⟨rfl, hb7⟩
    have F7 := Bx.mk (fr_step F6.out hb7)
    have M7 := M6.out.below hb7 M6.out.lt
    have hlk := HLK.out _ _ M7
    clear hb7 F6 M6 j1 j2 j3
    obtain ⟨j0, j1, j2, j3⟩ := id F7.out.1
    have B7 := Bx.mk j0
    clear j0
    go_wp2_with fail
    refine (HOr.out _).mono ?_
    rintro e w8 ⟨rfl, rfl⟩
    clear hlk M7 HOr HEx HMu HIn HMk HLK HLK3 HC
    obtain ⟨NB, hNB⟩ : ∃ NB, NB = w8.heap.size := ⟨_, rfl⟩
    have F9 := Bx.mk (fr_step F7.out ((Below.refl _ _).alloc (Nat.le_refl _) (.cells #[.int .i64 hh, .int .i64 gg, .int .i64 zz] 3)))
    have n0 := Bx.mk (cells_new w8 #[.int .i64 hh, .int .i64 gg, .int .i64 zz] 3 0)
    have n1 := Bx.mk (cells_new w8 #[.int .i64 hh, .int .i64 gg, .int .i64 zz] 3 1)
    have n2 := Bx.mk (cells_new w8 #[.int .i64 hh, .int .i64 gg, .int .i64 zz] 3 2)
    have hv0 : Bx (Bytes (w8.alloc (.cells #[.int .i64 hh, .int .i64 gg, .int .i64 zz] 3)) (.slice none 0 0) []) := .mk (own_nil _)
    have hs0 : Bx (Since (w8.alloc (.cells #[.int .i64 hh, .int .i64 gg, .int .i64 zz] 3)) (.slice none 0 0) (w8.alloc (.cells #[.int .i64 hh, .int .i64 gg, .int .i64 zz] 3)) (.slice none 0 0)) := .mk (Since.refl _ _)
    clear j1 j2 j3 F7
    go_wp2_with fail
    refine wp_loop_rounds 4 ?_
    rw [rounds_succ]
    have q0 := hs0.out.cell n0.out (by simp [Value.ownBlock])
    go_wp2_with fail
    refine (eight_c hh _ (by omega) (by omega)).mono ?_
    rintro e we0 ⟨ge0, ce0, rfl, hce0, hcm0, hge0, hgl0, hue0, hbe0⟩
    have hb0' : Bx (Bytes we0 (Value.slice none 0 0) ([] : List Int)) := .mk (bytes_below hv0.out hbe0)
    have hs0' := Bx.mk (hs0.out.of_below hbe0)
    have HN0 := Bx.mk (news_of_u8 hue0)
    clear hbe0 hue0 q0
    have hlen0 : (([] : List Int)).length + 8 ≤ 1000000 := by simp [be8_len]
    go_wp2_with (at_builtin; go_must (refine wpList_app8 rfl (.tmp 78) (.tmp 80) rfl (Value.slice none 0 0) ([] : List Int) rfl ?c0 ⟨ge0, 0, none⟩ 8 ce0 (be8 hh) rfl (be8_len _) (by decide) HN0.out hlen0 ?_))
    case c0 => exact hb0'.out
    intro v1 w10 hbb1 htt1
    have hv1 : Bx (Bytes w10 v1 (be8 hh)) := Bx.mk (by simpa only [List.append_assoc, List.nil_append] using hbb1)
    have hs1 := Bx.mk (hs0'.out.trans htt1)
    clear hbb1 htt1 hb0' hs0' HN0 hv0 hs0
    go_wp2_with fail
    rw [rounds_succ]
    have q1 := hs1.out.cell n1.out (by simp [Value.ownBlock])
    go_wp2_with fail
    refine (eight_c gg _ (by omega) (by omega)).mono ?_
    rintro e we1 ⟨ge1, ce1, rfl, hce1, hcm1, hge1, hgl1, hue1, hbe1⟩
    have hb1' : Bx (Bytes we1 v1 (be8 hh)) := .mk (bytes_below hv1.out hbe1)
    have hs1' := Bx.mk (hs1.out.of_below hbe1)
    have HN1 := Bx.mk (news_of_u8 hue1)
    clear hbe1 hue1 q1
    have hlen1 : ((be8 hh)).length + 8 ≤ 1000000 := by simp [be8_len]
    go_wp2_with (at_builtin; go_must (refine wpList_app8 rfl (.tmp 78) (.tmp 80) rfl v1 (be8 hh) rfl ?c1 ⟨ge1, 0, none⟩ 8 ce1 (be8 gg) rfl (be8_len _) (by decide) HN1.out hlen1 ?_))
    case c1 => exact hb1'.out
    intro v2 w11 hbb2 htt2
    have hv2 : Bx (Bytes w11 v2 (be8 hh ++ be8 gg)) := Bx.mk (by simpa only [List.append_assoc, List.nil_append] using hbb2)
    have hs2 := Bx.mk (hs1'.out.trans htt2)
    clear hbb2 htt2 hb1' hs1' HN1 hv1 hs1
    go_wp2_with fail
    rw [rounds_succ]
    have q2 := hs2.out.cell n2.out (by simp [Value.ownBlock])
    go_wp2_with fail
    refine (eight_c zz _ (by omega) (by omega)).mono ?_
    rintro e we2 ⟨ge2, ce2, rfl, hce2, hcm2, hge2, hgl2, hue2, hbe2⟩
    have hb2' : Bx (Bytes we2 v2 (be8 hh ++ be8 gg)) := .mk (bytes_below hv2.out hbe2)
    have hs2' := Bx.mk (hs2.out.of_below hbe2)
    have HN2 := Bx.mk (news_of_u8 hue2)
    clear hbe2 hue2 q2
    have hlen2 : ((be8 hh ++ be8 gg)).length + 8 ≤ 1000000 := by simp [be8_len]
    go_wp2_with (at_builtin; go_must (refine wpList_app8 rfl (.tmp 78) (.tmp 80) rfl v2 (be8 hh ++ be8 gg) rfl ?c2 ⟨ge2, 0, none⟩ 8 ce2 (be8 zz) rfl (be8_len _) (by decide) HN2.out hlen2 ?_))
    case c2 => exact hb2'.out
    intro v3 w12 hbb3 htt3
    have hv3 : Bx (Bytes w12 v3 (be8 hh ++ (be8 gg ++ be8 zz))) := Bx.mk (by simpa only [List.append_assoc, List.nil_append] using hbb3)
    have hs3 := Bx.mk (hs2'.out.trans htt3)
    clear hbb3 htt3 hb2' hs2' HN2 hv2 hs2
    go_wp2_with fail
    rw [rounds_succ]
    obtain ⟨X1, _⟩ := below_of_since hs3.out
    have F10 := Bx.mk (fr_step F9.out X1)
    obtain ⟨g, c, e2, ht⟩ := tagged_own (w := w) tPake (F10.out.laid HL.out) hv3.out (by simp [be8_len]) (by simp [be8_len]) (by decide) (by decide)
    subst e2
    rw [← HKE.out] at ht
    have hl24 : (be8 hh ++ (be8 gg ++ be8 zz)).length = 24 := by simp [be8_len]
    rw [hl24] at ht ⊢
    have HT := Bx.mk ht
    have HKL := Bx.mk (show kn.length = 32 by rw [HKE.out]; exact tagged_len _ _)
    clear ht hl24 X1 hs3 hv3 n0 n1 n2 F9
    go_wp2_with fail
    refine HT.out.mono ?_
    rintro e w20 ⟨rfl, hb20⟩
    have F20 := Bx.mk (fr_step F10.out hb20)
    have B20 := Bx.mk F20.out.1.1
    clear hb20 HT F10
    go_wp2_with (refine wpList_stN rowT_key rfl (.tmp 4) (.tmp 84) rfl (w.heap.size + 1) 0 rfl (kn.map (.int .u8)) rfl (one_ints .u8 _) (by rw [List.length_map]; exact HKL.out) (there_of_blk F20.out.2) ?_)
    obtain ⟨e1, e2⟩ := blk_store (m := kn) F20.out.2 HKL.out
    have B21 := Bx.mk (Below.grown B20.out e2 B20.out.size (by intro q hq; cases hq; omega))
    have E1 := Bx.mk e1
    clear e1 e2
    generalize w20.setCells (w.heap.size + 1) 0 (kn.map (.int .u8)) = w21 at *
    go_wp2_with fail
    (try simp only [Exit.inBlock, Exit.then])
    refine bodyPost_ret (results_rowN rowT_key rfl _ _ (w.heap.size + 1) (kn.map (.int .u8)) (dv kn) (.int .i64 0) rfl rfl (range_of_blk E1.out) (by rw [List.length_map]; exact HKL.out) rfl) rfl ?_
    exact ⟨rfl, B21.out⟩
  · go_enter Tryz.func27, Tryz.ntmps27
    go_wp2_with fail
    refine (HP.out _ (H0.out.laid HL.out)).mono ?_
    rintro e w1 ⟨rfl, hb1⟩
    have F1 := Bx.mk (fr_step H0.out hb1)
    clear hb1 H0 HP
    go_wp2_with fail
    refine (HC.out _).mono ?_
    rintro e w2 ⟨rfl, hb2⟩
    have F2 := Bx.mk (fr_step F1.out hb2)
    clear hb2 F1
    go_wp2_with fail
    refine (roles_c _).mono ?_
    rintro e w3 ⟨rfl, hM3, hb3⟩
    have F3 := Bx.mk (fr_step F2.out hb3)
    have M3 := Bx.mk hM3
    have hlk3 := HLK3.out _ _ hM3
    have hs3 := hb3.size
    obtain ⟨j0, j1, j2, j3⟩ := id F3.out.1
    clear hb3 F2 j0 hM3
    go_wp2_with fail
    refine (HMk.out _ (F3.out.laid HL.out)).mono ?_
    rintro e w4 ⟨rfl, hb4⟩
    have F4 := Bx.mk (fr_step F3.out hb4)
    have M4 := Bx.mk (M3.out.below hb4 M3.out.lt)
    clear hb4 F3 j1 j2 j3 hlk3 M3 hs3
    go_wp2_with fail
    refine (HIn.out _).mono ?_
    rintro e w5 ⟨rfl, hb5⟩
    have F5 := Bx.mk (fr_step F4.out hb5)
    have M5 := Bx.mk (M4.out.below hb5 M4.out.lt)
    clear hb5 F4 M4
    go_wp2_with fail
    refine (HMu.out _).mono ?_
    rintro e w6 ⟨rfl, hb6⟩
    have F6 := Bx.mk (fr_step F5.out hb6)
    have M6 := Bx.mk (M5.out.below hb6 M5.out.lt)
    obtain ⟨j0, j1, j2, j3⟩ := id F6.out.1
    clear hb6 F5 M5 j0
    go_wp2_with fail
    refine (HEx.out _).mono ?_
    rintro e w7 ⟨rfl, hb7⟩
    have F7 := Bx.mk (fr_step F6.out hb7)
    have M7 := M6.out.below hb7 M6.out.lt
    have hlk := HLK.out _ _ M7
    clear hb7 F6 M6 j1 j2 j3
    obtain ⟨j0, j1, j2, j3⟩ := id F7.out.1
    have B7 := Bx.mk j0
    clear j0
    go_wp2_with fail
    refine (HOr.out _).mono ?_
    rintro e w8 ⟨rfl, rfl⟩
    clear hlk M7 HOr HEx HMu HIn HMk HLK HLK3 HC
    obtain ⟨NB, hNB⟩ : ∃ NB, NB = w8.heap.size := ⟨_, rfl⟩
    have F9 := Bx.mk (fr_step F7.out ((Below.refl _ _).alloc (Nat.le_refl _) (.cells #[.int .i64 hh, .int .i64 gg, .int .i64 zz] 3)))
    have n0 := Bx.mk (cells_new w8 #[.int .i64 hh, .int .i64 gg, .int .i64 zz] 3 0)
    have n1 := Bx.mk (cells_new w8 #[.int .i64 hh, .int .i64 gg, .int .i64 zz] 3 1)
    have n2 := Bx.mk (cells_new w8 #[.int .i64 hh, .int .i64 gg, .int .i64 zz] 3 2)
    have hv0 : Bx (Bytes (w8.alloc (.cells #[.int .i64 hh, .int .i64 gg, .int .i64 zz] 3)) (.slice none 0 0) []) := .mk (own_nil _)
    have hs0 : Bx (Since (w8.alloc (.cells #[.int .i64 hh, .int .i64 gg, .int .i64 zz] 3)) (.slice none 0 0) (w8.alloc (.cells #[.int .i64 hh, .int .i64 gg, .int .i64 zz] 3)) (.slice none 0 0)) := .mk (Since.refl _ _)
    clear j1 j2 j3 F7
    go_wp2_with fail
    refine wp_loop_rounds 4 ?_
    rw [rounds_succ]
    have q0 := hs0.out.cell n0.out (by simp [Value.ownBlock])
    go_wp2_with fail
    refine (eight_c hh _ (by omega) (by omega)).mono ?_
    rintro e we0 ⟨ge0, ce0, rfl, hce0, hcm0, hge0, hgl0, hue0, hbe0⟩
    have hb0' : Bx (Bytes we0 (Value.slice none 0 0) ([] : List Int)) := .mk (bytes_below hv0.out hbe0)
    have hs0' := Bx.mk (hs0.out.of_below hbe0)
    have HN0 := Bx.mk (news_of_u8 hue0)
    clear hbe0 hue0 q0
    have hlen0 : (([] : List Int)).length + 8 ≤ 1000000 := by simp [be8_len]
    go_wp2_with (at_builtin; go_must (refine wpList_app8 rfl (.tmp 78) (.tmp 80) rfl (Value.slice none 0 0) ([] : List Int) rfl ?c0 ⟨ge0, 0, none⟩ 8 ce0 (be8 hh) rfl (be8_len _) (by decide) HN0.out hlen0 ?_))
    case c0 => exact hb0'.out
    intro v1 w10 hbb1 htt1
    have hv1 : Bx (Bytes w10 v1 (be8 hh)) := Bx.mk (by simpa only [List.append_assoc, List.nil_append] using hbb1)
    have hs1 := Bx.mk (hs0'.out.trans htt1)
    clear hbb1 htt1 hb0' hs0' HN0 hv0 hs0
    go_wp2_with fail
    rw [rounds_succ]
    have q1 := hs1.out.cell n1.out (by simp [Value.ownBlock])
    go_wp2_with fail
    refine (eight_c gg _ (by omega) (by omega)).mono ?_
    rintro e we1 ⟨ge1, ce1, rfl, hce1, hcm1, hge1, hgl1, hue1, hbe1⟩
    have hb1' : Bx (Bytes we1 v1 (be8 hh)) := .mk (bytes_below hv1.out hbe1)
    have hs1' := Bx.mk (hs1.out.of_below hbe1)
    have HN1 := Bx.mk (news_of_u8 hue1)
    clear hbe1 hue1 q1
    have hlen1 : ((be8 hh)).length + 8 ≤ 1000000 := by simp [be8_len]
    go_wp2_with (at_builtin; go_must (refine wpList_app8 rfl (.tmp 78) (.tmp 80) rfl v1 (be8 hh) rfl ?c1 ⟨ge1, 0, none⟩ 8 ce1 (be8 gg) rfl (be8_len _) (by decide) HN1.out hlen1 ?_))
    case c1 => exact hb1'.out
    intro v2 w11 hbb2 htt2
    have hv2 : Bx (Bytes w11 v2 (be8 hh ++ be8 gg)) := Bx.mk (by simpa only [List.append_assoc, List.nil_append] using hbb2)
    have hs2 := Bx.mk (hs1'.out.trans htt2)
    clear hbb2 htt2 hb1' hs1' HN1 hv1 hs1
    go_wp2_with fail
    rw [rounds_succ]
    have q2 := hs2.out.cell n2.out (by simp [Value.ownBlock])
    go_wp2_with fail
    refine (eight_c zz _ (by omega) (by omega)).mono ?_
    rintro e we2 ⟨ge2, ce2, rfl, hce2, hcm2, hge2, hgl2, hue2, hbe2⟩
    have hb2' : Bx (Bytes we2 v2 (be8 hh ++ be8 gg)) := .mk (bytes_below hv2.out hbe2)
    have hs2' := Bx.mk (hs2.out.of_below hbe2)
    have HN2 := Bx.mk (news_of_u8 hue2)
    clear hbe2 hue2 q2
    have hlen2 : ((be8 hh ++ be8 gg)).length + 8 ≤ 1000000 := by simp [be8_len]
    go_wp2_with (at_builtin; go_must (refine wpList_app8 rfl (.tmp 78) (.tmp 80) rfl v2 (be8 hh ++ be8 gg) rfl ?c2 ⟨ge2, 0, none⟩ 8 ce2 (be8 zz) rfl (be8_len _) (by decide) HN2.out hlen2 ?_))
    case c2 => exact hb2'.out
    intro v3 w12 hbb3 htt3
    have hv3 : Bx (Bytes w12 v3 (be8 hh ++ (be8 gg ++ be8 zz))) := Bx.mk (by simpa only [List.append_assoc, List.nil_append] using hbb3)
    have hs3 := Bx.mk (hs2'.out.trans htt3)
    clear hbb3 htt3 hb2' hs2' HN2 hv2 hs2
    go_wp2_with fail
    rw [rounds_succ]
    obtain ⟨X1, _⟩ := below_of_since hs3.out
    have F10 := Bx.mk (fr_step F9.out X1)
    obtain ⟨g, c, e2, ht⟩ := tagged_own (w := w) tPake (F10.out.laid HL.out) hv3.out (by simp [be8_len]) (by simp [be8_len]) (by decide) (by decide)
    subst e2
    rw [← HKE.out] at ht
    have hl24 : (be8 hh ++ (be8 gg ++ be8 zz)).length = 24 := by simp [be8_len]
    rw [hl24] at ht ⊢
    have HT := Bx.mk ht
    have HKL := Bx.mk (show kn.length = 32 by rw [HKE.out]; exact tagged_len _ _)
    clear ht hl24 X1 hs3 hv3 n0 n1 n2 F9
    go_wp2_with fail
    refine HT.out.mono ?_
    rintro e w20 ⟨rfl, hb20⟩
    have F20 := Bx.mk (fr_step F10.out hb20)
    have B20 := Bx.mk F20.out.1.1
    clear hb20 HT F10
    go_wp2_with (refine wpList_stN rowT_key rfl (.tmp 4) (.tmp 84) rfl (w.heap.size + 1) 0 rfl (kn.map (.int .u8)) rfl (one_ints .u8 _) (by rw [List.length_map]; exact HKL.out) (there_of_blk F20.out.2) ?_)
    obtain ⟨e1, e2⟩ := blk_store (m := kn) F20.out.2 HKL.out
    have B21 := Bx.mk (Below.grown B20.out e2 B20.out.size (by intro q hq; cases hq; omega))
    have E1 := Bx.mk e1
    clear e1 e2
    generalize w20.setCells (w.heap.size + 1) 0 (kn.map (.int .u8)) = w21 at *
    go_wp2_with fail
    (try simp only [Exit.inBlock, Exit.then])
    refine bodyPost_ret (results_rowN rowT_key rfl _ _ (w.heap.size + 1) (kn.map (.int .u8)) (dv kn) (.int .i64 0) rfl rfl (range_of_blk E1.out) (by rw [List.length_map]; exact HKL.out) rfl) rfl ?_
    exact ⟨rfl, B21.out⟩
end Go.Proofs.YtjbojoeafdkkeaaGreatDoor

namespace Go.Proofs.YtjbojoeafdkkeaaGreatDoor
open Go Go.RowKit Go.Lib

theorem slice_key (D : Nat) : ∀ w, (Instr.sliceAt 54 (.pointer (some ⟨D, 0, none⟩)) none none none).run Tryz.prog w = .ok (.slice (some ⟨D, 0, none⟩) 32 32) w := fun w => by kernel_rfl
theorem results_one {T : TypeId} {n : Nat} (hT : RowT T n) {fn : Func} {p : Tmp} (h : fn.results = #[.cell p T]) (tmps : Array Value) (w : World) (B : Nat) (cs : List Value) (u : Value) (hp : tmps.getD p undef = .pointer (some ⟨B, 0, none⟩)) (hb : w.rangeAt B 0 cs) (hl : cs.length = n) (hv : u = .agg cs.toArray) :
    (results fn tmps).run Tryz.prog w = .ok u w := by
  obtain ⟨d, hd1, hd2⟩ := hT.row
  have hr := run_loadVar_mid (P := Tryz.prog) w B 0 T cs d hb hd1 hd2 (by rw [hl]; exact hT.size)
  have hp' : tmps[p]?.getD undef = .pointer (some ⟨B, 0, none⟩) := by simpa using hp
  simp [results, h, hp', asAddr, hr, hv]
theorem wpList_bxk {w : World} {ops : Array Oper} {rest : List Oper} {o : Oper} {a : Act} {Q : Exit → Act → World → Prop} {T : TypeId} (hgd : o.guard = none) (x : Operand) (ho : o.op = .box T x) (cs : List Value) (hx : a.eval x = .agg cs.toArray)
    (h : wpList Tryz.prog ops Q rest (a.put o.dst (.pointer (some ⟨w.heap.size, 0, none⟩))) (w.alloc (.cells cs.toArray T))) : wpList Tryz.prog ops Q (o :: rest) a w :=
  wpList_plain hgd fun K hK => by
    have hr : (Instr.box T (.agg cs.toArray)).run Tryz.prog w = .ok (.pointer (some ⟨w.heap.size, 0, none⟩)) (w.alloc (.cells cs.toArray T)) := rfl
    unfold Oper.wp execOp
    simp only [ho, hx, Sem.run_bind, hr, Result.andThen_ok]
    exact hK _ _ h

set_option maxHeartbeats 8000000 in
set_option maxRecDepth 100000 in
theorem pproof_c (k : List Int) (hk : k.length = 32) (r : Int) (hr0 : 0 ≤ r) (hr1 : r < 256) (w : World) (hL : Laid w) :
    Calls Tryz.prog 105 #[dv k, .int .i64 r] w fun e w' => e = .returned (dv (prfN k r)) ∧ Below w.heap.size w w' := by
  have W1 := blk_new w .u8 k 54
  have B1 := (Below.refl w.heap.size w).alloc (Nat.le_refl _) (.cells (k.map (.int .u8)).toArray 54)
  have e1 : (w.alloc (.cells (k.map (.int .u8)).toArray 54)).heap.size = w.heap.size + 1 := World.size_alloc _ _
  have D2 := blk_new (w.alloc (.cells (k.map (.int .u8)).toArray 54)) .u8 z32 35
  rw [e1] at D2
  have W2 := W1.alloc (W1.lt (by rw [hk]; decide)) (.cells (z32.map (.int .u8)).toArray 35)
  have B2 := B1.alloc B1.size (.cells (z32.map (.int .u8)).toArray 35)
  have e2 : ((w.alloc (.cells (k.map (.int .u8)).toArray 54)).alloc (.cells (z32.map (.int .u8)).toArray 35)).heap.size = w.heap.size + 1 + 1 := by rw [World.size_alloc, e1]
  have hn := one_new ((w.alloc (.cells (k.map (.int .u8)).toArray 54)).alloc (.cells (z32.map (.int .u8)).toArray 35)) 5 r
  rw [e2] at hn
  have W3 := W2.alloc (by rw [e2]; omega) (.cells #[.int .u8 r] 5)
  have D3 := D2.alloc (by rw [e2]; omega) (.cells #[.int .u8 r] 5)
  have B3 := B2.alloc (by rw [e2]; omega) (.cells #[.int .u8 r] 5)
  have HN := Bx.mk hn
  have HK := Bx.mk hk
  have HKC := Bx.mk (news_of_u8 (show U8 _ w.heap.size 0 k from fun i hi => by rw [Nat.zero_add]; exact (W3 i hi).1))
  have D3 := Bx.mk D3; have B3 := Bx.mk B3; have HL := Bx.mk hL
  have E3 : Bx ((((w.alloc (.cells (k.map (.int .u8)).toArray 54)).alloc (.cells (z32.map (.int .u8)).toArray 35)).alloc (.cells #[.int .u8 r] 5)).heap.size = w.heap.size + 1 + 1 + 1) := .mk (by rw [World.size_alloc, e2])
  clear W1 W2 W3 B1 B2 D2 hn hk hL e1 e2
  have hsl := slice_key w.heap.size
  go_enter Tryz.func105, Tryz.ntmps105
  go_wp2_with (first | (refine wpList_bxk rfl (.tmp 0) rfl (k.map (.int .u8)) rfl ?_) | (at_builtin; go_must (refine wpList_appFull8 rfl (.tmp 5) (.tmp 8) rfl ⟨w.heap.size, 0, none⟩ 32 k rfl HK.out ?cl ⟨w.heap.size + 1 + 1, 0, none⟩ 1 1 [r] rfl rfl (by omega) ?cn (by rw [HK.out]; decide) ?_)))
  case cl => exact HKC.out
  case cn => exact HN.out
  intro v4 w4 hb4 hg4 hown4
  have D4 := Bx.mk (D3.out.grown hg4 (by rw [E3.out]; omega) (by simp))
  have B4 := Bx.mk (Below.grown B3.out hg4 (by rw [E3.out]; omega) (by intro q hq; cases hq))
  obtain ⟨g, c, e2, ht⟩ := tagged_own (w := w) tProof (HL.out.below B4.out (Nat.le_refl _)) hb4 (by simp) (by rw [List.length_append, HK.out]; simp) (by decide) (by decide)
  subst e2
  have hkl : (k ++ [r]).length = 33 := by rw [List.length_append, HK.out]; rfl
  rw [hkl] at ht ⊢
  have HT := Bx.mk ht
  obtain ⟨pn, hpn⟩ : ∃ p, p = prfN k r := ⟨_, rfl⟩
  have HPN := Bx.mk hpn
  have HPL := Bx.mk (show pn.length = 32 by rw [hpn]; exact tagged_len _ _)
  clear ht hkl D3 B3 E3 HKC HN hg4 hown4 hb4 hpn
  go_wp2_with fail
  refine HT.out.mono ?_
  rintro e w5 ⟨rfl, hb5⟩
  have D5 := Bx.mk (D4.out.below hb5 (D4.out.lt (by decide)))
  have B5 := Bx.mk (below_step B4.out hb5 (Nat.le_refl _))
  clear hb5 HT D4 B4
  go_wp2_with (refine wpList_sdg rfl (.tmp 4) (.tmp 10) rfl (w.heap.size + 1) rfl (prfN k r) rfl (tagged_len _ _) z32 D5.out rfl ?_)
  intro w6 D6 hg6
  have B6 := Below.grown B5.out hg6 B5.out.size (by intro q hq; cases hq; omega)
  clear hg6
  go_wp2_with fail
  (try simp only [Exit.inBlock, Exit.then])
  refine bodyPost_ret (results_dig rfl _ _ (w.heap.size + 1) (prfN k r) rfl D6 (tagged_len _ _)) rfl ?_
  exact ⟨rfl, B6⟩
end Go.Proofs.YtjbojoeafdkkeaaGreatDoor

namespace Go.Proofs.YtjbojoeafdkkeaaGreatDoor
open Go Go.RowKit Go.Lib

def sharedV (r code x peer : Int) : List Int × Int := if sideOK r code x = true ∧ elt peer = true then (keyN r code x peer, 0) else (z32, 100)
theorem keyN_len (r code x peer : Int) : (keyN r code x peer).length = 32 := by
  unfold keyN
  exact tagged_len _ _
theorem prfN_len (k : List Int) (r : Int) : (prfN k r).length = 32 := by
  unfold prfN
  exact tagged_len _ _
theorem pshared_c (r code x peer : Int) (w : World) (hL : Laid w) (hq0 : -9223372036854775808 ≤ peer) (hq1 : peer ≤ 9223372036854775807) :
    Calls Tryz.prog 27 #[.agg #[.int .i64 r, .int .i64 code, .int .i64 x], .int .i64 peer] w fun e w' => e = .returned (.tuple #[dv (sharedV r code x peer).1, .int .i64 (sharedV r code x peer).2]) ∧ Below w.heap.size w w' := by
  unfold sharedV
  cases hb : sideOK r code x
  · rw [if_neg (by simp)]
    dsimp only
    exact pshared_bad r code x peer w hb
  · by_cases hp : elt peer = true
    · rw [if_pos ⟨rfl, hp⟩]
      dsimp only
      exact pshared_ok r code x peer w hL hb hp
    · rw [if_neg (by rintro ⟨_, h⟩; exact hp h)]
      dsimp only
      exact pshared_peer r code x peer w hL hb hp hq0 hq1

theorem fr_newD (w : World) (r code x : Int) : Fr w r code x ((w.alloc (.cells #[.int .i64 r, .int .i64 code, .int .i64 x] 23)).alloc (.cells (z32.map (.int .u8)).toArray 35)) := by
  refine ⟨hs_alloc (hs_box w r code x) _, ?_⟩
  have h := blk_new (w.alloc (.cells #[.int .i64 r, .int .i64 code, .int .i64 x] 23)) .u8 z32 35
  rwa [World.size_alloc] at h

set_option maxHeartbeats 8000000 in
set_option maxRecDepth 100000 in
theorem pProof_bad (r code x peer : Int) (w : World) (hL : Laid w) (hq0 : -9223372036854775808 ≤ peer) (hq1 : peer ≤ 9223372036854775807) (hb : ¬ (sideOK r code x = true ∧ elt peer = true)) :
    Calls Tryz.prog 49 #[.agg #[.int .i64 r, .int .i64 code, .int .i64 x], .int .i64 peer] w fun e w' => e = .returned (.tuple #[dv z32, .int .i64 100]) ∧ Below w.heap.size w w' := by
  have HS := Bx.mk (fun w hL => pshared_c r code x peer w hL hq0 hq1)
  rw [show sharedV r code x peer = (z32, 100) from if_neg hb] at HS
  dsimp only at HS
  obtain ⟨zk, hzk⟩ : ∃ p, p = z32 := ⟨_, rfl⟩
  rw [← hzk] at HS
  have HZL := Bx.mk (show zk.length = 32 by rw [hzk]; rfl)
  have H0 := Bx.mk (fr_newD w r code x)
  have HL := Bx.mk hL
  clear hL hb hzk
  go_enter Tryz.func49, Tryz.ntmps49
  go_wp2_with fail
  refine (HS.out _ (H0.out.laid HL.out)).mono ?_
  rintro e w1 ⟨rfl, hb1⟩
  have F1 := Bx.mk (fr_step H0.out hb1)
  have K1 := Bx.mk (blk_new w1 .u8 z32 54)
  have F2 := Bx.mk (fr_step F1.out ((Below.refl w1.heap.size w1).alloc (Nat.le_refl _) (.cells (z32.map (.int .u8)).toArray 54)))
  have hle := F1.out.1.1.size
  have hltT := F1.out.2.lt (by decide)
  clear hb1 H0 HS
  go_wp2_with (refine wpList_stB rowT_key rfl (.tmp 6) (.tmp 11) rfl w1.heap.size rfl .u8 zk rfl HZL.out z32 K1.out rfl ?_)
  intro w3 e1 e2
  have F3 := Bx.mk (show Fr w r code x _ from ⟨⟨Below.grown F2.out.1.1 e2 F2.out.1.1.size (by intro q hq; cases hq; omega), e2.cell F2.out.1.2.1 (fun q => by have q2 : w.heap.size = w1.heap.size := Option.some.inj q; omega), e2.cell F2.out.1.2.2.1 (fun q => by have q2 : w.heap.size = w1.heap.size := Option.some.inj q; omega), e2.cell F2.out.1.2.2.2 (fun q => by have q2 : w.heap.size = w1.heap.size := Option.some.inj q; omega)⟩, F2.out.2.grown e2 (by rw [World.size_alloc]; omega) (fun q => by have q2 : w.heap.size + 1 = w1.heap.size := Option.some.inj q; omega)⟩)
  clear e1 e2 K1 F1 F2
  go_wp2_with (first | (refine wpList_ldN rowT_dig rfl (.tmp 4) rfl (w.heap.size + 1) 0 rfl (z32.map (.int .u8)) (range_of_blk F3.out.2) rfl (dv z32) rfl ?_) | (refine wpList_stB rowT_dig rfl (.tmp 4) (.tmp 15) rfl (w.heap.size + 1) rfl .u8 z32 rfl rfl z32 F3.out.2 rfl ?_))
  intro w4 e1 e2
  have B4 := Bx.mk (Below.grown F3.out.1.1 e2 F3.out.1.1.size (by intro q hq; cases hq; omega))
  have E1 := Bx.mk e1
  clear e1 e2
  go_wp2_with fail
  (try simp only [Exit.inBlock, Exit.then])
  refine bodyPost_ret (results_rowN rowT_dig rfl _ _ (w.heap.size + 1) (z32.map (.int .u8)) (dv z32) (.int .i64 100) rfl rfl (range_of_blk E1.out) rfl rfl) rfl ?_
  exact ⟨rfl, B4.out⟩

set_option maxHeartbeats 8000000 in
set_option maxRecDepth 100000 in
theorem pProof_ok (r code x peer : Int) (w : World) (hL : Laid w) (hb : sideOK r code x = true) (hp : elt peer = true) :
    Calls Tryz.prog 49 #[.agg #[.int .i64 r, .int .i64 code, .int .i64 x], .int .i64 peer] w fun e w' => e = .returned (.tuple #[dv (prfN (keyN r code x peer) r), .int .i64 0]) ∧ Below w.heap.size w w' := by
  have HS := Bx.mk (fun w hL => pshared_ok r code x peer w hL hb hp)
  have hr := ((sideOK_iff r code x).1 hb).1
  have HPr := Bx.mk (fun w hL => pproof_c (keyN r code x peer) (keyN_len _ _ _ _) r (by omega) (by omega) w hL)
  have HKL := Bx.mk (keyN_len r code x peer)
  have HPL := Bx.mk (prfN_len (keyN r code x peer) r)
  obtain ⟨kn, hkn⟩ : ∃ p, p = keyN r code x peer := ⟨_, rfl⟩
  rw [← hkn] at HS HPr HKL HPL ⊢
  obtain ⟨pn, hpn⟩ : ∃ p, p = prfN kn r := ⟨_, rfl⟩
  rw [← hpn] at HPr HPL ⊢
  have H0 := Bx.mk (fr_newD w r code x)
  have HL := Bx.mk hL
  clear hL hb hp hkn hpn
  go_enter Tryz.func49, Tryz.ntmps49
  go_wp2_with fail
  refine (HS.out _ (H0.out.laid HL.out)).mono ?_
  rintro e w1 ⟨rfl, hb1⟩
  have F1 := Bx.mk (fr_step H0.out hb1)
  have K1 := Bx.mk (blk_new w1 .u8 z32 54)
  have F2 := Bx.mk (fr_step F1.out ((Below.refl w1.heap.size w1).alloc (Nat.le_refl _) (.cells (z32.map (.int .u8)).toArray 54)))
  have hle := F1.out.1.1.size
  have hltT := F1.out.2.lt (by decide)
  clear hb1 H0 HS
  go_wp2_with (refine wpList_stB rowT_key rfl (.tmp 6) (.tmp 11) rfl w1.heap.size rfl .u8 kn rfl HKL.out z32 K1.out rfl ?_)
  intro w3 e1 e2
  have F3 := Bx.mk (show Fr w r code x _ from ⟨⟨Below.grown F2.out.1.1 e2 F2.out.1.1.size (by intro q hq; cases hq; omega), e2.cell F2.out.1.2.1 (fun q => by have q2 : w.heap.size = w1.heap.size := Option.some.inj q; omega), e2.cell F2.out.1.2.2.1 (fun q => by have q2 : w.heap.size = w1.heap.size := Option.some.inj q; omega), e2.cell F2.out.1.2.2.2 (fun q => by have q2 : w.heap.size = w1.heap.size := Option.some.inj q; omega)⟩, F2.out.2.grown e2 (by rw [World.size_alloc]; omega) (fun q => by have q2 : w.heap.size + 1 = w1.heap.size := Option.some.inj q; omega)⟩)
  have E1 := Bx.mk e1
  clear e1 e2 K1 F1 F2
  obtain ⟨j0, j1, j2, j3⟩ := id F3.out.1
  clear j0
  go_wp2_with (refine wpList_ldN rowT_key rfl (.tmp 6) rfl w1.heap.size 0 rfl (kn.map (.int .u8)) (range_of_blk E1.out) (by rw [List.length_map]; exact HKL.out) (dv kn) rfl ?_)
  refine (HPr.out _ (F3.out.laid HL.out)).mono ?_
  rintro e w5 ⟨rfl, hb5⟩
  have F5 := Bx.mk (fr_step F3.out hb5)
  clear hb5 F3 j1 j2 j3 HPr
  go_wp2_with (refine wpList_stB rowT_dig rfl (.tmp 4) (.tmp 20) rfl (w.heap.size + 1) rfl .u8 pn rfl HPL.out z32 F5.out.2 rfl ?_)
  intro w6 e1 e2
  have B4 := Bx.mk (Below.grown F5.out.1.1 e2 F5.out.1.1.size (by intro q hq; cases hq; omega))
  have E2 := Bx.mk e1
  clear e1 e2
  go_wp2_with fail
  (try simp only [Exit.inBlock, Exit.then])
  refine bodyPost_ret (results_rowN rowT_dig rfl _ _ (w.heap.size + 1) (pn.map (.int .u8)) (dv pn) (.int .i64 0) rfl rfl (range_of_blk E2.out) (by rw [List.length_map]; exact HPL.out) rfl) rfl ?_
  exact ⟨rfl, B4.out⟩
end Go.Proofs.YtjbojoeafdkkeaaGreatDoor

namespace Go.Proofs.YtjbojoeafdkkeaaGreatDoor
open Go Go.RowKit Go.Lib

def sessL (r code x p t : Int) (d : Bool) : List Value := [.int .i64 r, .int .i64 code, .int .i64 x, .int .i64 p, .int .i64 t, .bool d]
def sessV (r code x p t : Int) (d : Bool) : Value := .agg #[.int .i64 r, .int .i64 code, .int .i64 x, .int .i64 p, .int .i64 t, .bool d]
def sessOK (r code x p t : Int) : Bool := sideOK r code x && (decide (r = 1) && (decide (0 ≤ p) && (decide (p < 64) && (decide (0 ≤ t) && decide (t ≤ 5)))))
theorem sessOK_iff (r code x p t : Int) : sessOK r code x p t = true ↔ sideOK r code x = true ∧ r = 1 ∧ 0 ≤ p ∧ p < 64 ∧ 0 ≤ t ∧ t ≤ 5 := by simp [sessOK]
theorem sess_one (r code x p t : Int) (d : Bool) : ∀ v ∈ sessL r code x p t d, v.oneCell' = true := by
  intro v hv
  simp only [sessL, List.mem_cons, List.not_mem_nil, or_false] at hv
  rcases hv with rfl | rfl | rfl | rfl | rfl | rfl <;> rfl

set_option maxHeartbeats 8000000 in
set_option maxRecDepth 100000 in
theorem echeck_c (r code x p t : Int) (d : Bool) (w : World) :
    Calls Tryz.prog 18 #[sessV r code x p t d] w fun e w' => e = .returned (.int .i64 (if sessOK r code x p t then 0 else 380)) ∧ Below w.heap.size w w' := by
  have HC := Bx.mk (fun w => pcheck_c r code x w)
  have HI := Bx.mk (sessOK_iff r code x p t)
  obtain ⟨q, hq⟩ : ∃ q : Int, q = if sessOK r code x p t then 0 else 380 := ⟨_, rfl⟩
  rw [← hq]
  have HQ := Bx.mk hq
  have HR := Bx.mk (row_new w (sessL r code x p t d) 25)
  have HB := Bx.mk ((Below.refl w.heap.size w).alloc (Nat.le_refl _) (.cells (sessL r code x p t d).toArray 25))
  clear hq
  unfold sessV
  cases hs : sideOK r code x with
  | false =>
    have e : q = 380 := by rw [HQ.out, if_neg]; intro h; have := (HI.out.1 h).1; rw [hs] at this; cases this
    subst e
    rw [hs] at HC
    simp only [Bool.false_eq_true, if_false] at HC
    clear HQ HI hs
    go_enter Tryz.func18, Tryz.ntmps18
    go_wp2_with fail
    refine (HC.out _).mono ?_
    rintro e w1 ⟨rfl, hb1⟩
    have R1 := Bx.mk (HR.out.below hb1 (by simp))
    have B1 := Bx.mk (below_step HB.out hb1 (Nat.le_refl _))
    go_wp2_with fail
    go_ret
    exact ⟨rfl, B1.out⟩
  | true =>
    rw [hs] at HC
    simp only [if_true] at HC
    have HS := Bx.mk hs
    clear hs
    by_cases a1 : r = 1
    · subst a1
      by_cases a2 : p < 0
      · have e : q = 380 := by rw [HQ.out, if_neg]; intro h; have := HI.out.1 h; omega
        subst e
        clear HQ HI HS
        go_enter Tryz.func18, Tryz.ntmps18
        go_wp2_with fail
        refine (HC.out _).mono ?_
        rintro e w1 ⟨rfl, hb1⟩
        have R1 := HR.out.below hb1 (by simp)
        have B1 := Bx.mk (below_step HB.out hb1 (Nat.le_refl _))
        have r0 := (R1 0 (by simp [sessL])).1; have r3 := (R1 3 (by simp [sessL])).1; have r4 := (R1 4 (by simp [sessL])).1
        simp only [sessL, List.getElem_cons_succ, List.getElem_cons_zero] at r0 r3 r4
        clear R1 hb1 HR HB
        go_wp2_with fail
        go_ret
        exact ⟨rfl, B1.out⟩
      · by_cases a3 : 64 ≤ p
        · have e : q = 380 := by rw [HQ.out, if_neg]; intro h; have := HI.out.1 h; omega
          subst e
          clear HQ HI HS
          go_enter Tryz.func18, Tryz.ntmps18
          go_wp2_with fail
          refine (HC.out _).mono ?_
          rintro e w1 ⟨rfl, hb1⟩
          have R1 := HR.out.below hb1 (by simp)
          have B1 := Bx.mk (below_step HB.out hb1 (Nat.le_refl _))
          have r0 := (R1 0 (by simp [sessL])).1; have r3 := (R1 3 (by simp [sessL])).1; have r4 := (R1 4 (by simp [sessL])).1
          simp only [sessL, List.getElem_cons_succ, List.getElem_cons_zero] at r0 r3 r4
          clear R1 hb1 HR HB
          go_wp2_with fail
          go_ret
          exact ⟨rfl, B1.out⟩
        · by_cases a4 : t < 0
          · have e : q = 380 := by rw [HQ.out, if_neg]; intro h; have := HI.out.1 h; omega
            subst e
            clear HQ HI HS
            go_enter Tryz.func18, Tryz.ntmps18
            go_wp2_with fail
            refine (HC.out _).mono ?_
            rintro e w1 ⟨rfl, hb1⟩
            have R1 := HR.out.below hb1 (by simp)
            have B1 := Bx.mk (below_step HB.out hb1 (Nat.le_refl _))
            have r0 := (R1 0 (by simp [sessL])).1; have r3 := (R1 3 (by simp [sessL])).1; have r4 := (R1 4 (by simp [sessL])).1
            simp only [sessL, List.getElem_cons_succ, List.getElem_cons_zero] at r0 r3 r4
            clear R1 hb1 HR HB
            go_wp2_with fail
            go_ret
            exact ⟨rfl, B1.out⟩
          · by_cases a5 : 5 < t
            · have e : q = 380 := by rw [HQ.out, if_neg]; intro h; have := HI.out.1 h; omega
              subst e
              clear HQ HI HS
              go_enter Tryz.func18, Tryz.ntmps18
              go_wp2_with fail
              refine (HC.out _).mono ?_
              rintro e w1 ⟨rfl, hb1⟩
              have R1 := HR.out.below hb1 (by simp)
              have B1 := Bx.mk (below_step HB.out hb1 (Nat.le_refl _))
              have r0 := (R1 0 (by simp [sessL])).1; have r3 := (R1 3 (by simp [sessL])).1; have r4 := (R1 4 (by simp [sessL])).1
              simp only [sessL, List.getElem_cons_succ, List.getElem_cons_zero] at r0 r3 r4
              clear R1 hb1 HR HB
              go_wp2_with fail
              go_ret
              exact ⟨rfl, B1.out⟩
            · have e : q = 0 := by rw [HQ.out, if_pos]; exact HI.out.2 ⟨HS.out, rfl, by omega, by omega, by omega, by omega⟩
              subst e
              clear HQ HI HS
              go_enter Tryz.func18, Tryz.ntmps18
              go_wp2_with fail
              refine (HC.out _).mono ?_
              rintro e w1 ⟨rfl, hb1⟩
              have R1 := HR.out.below hb1 (by simp)
              have B1 := Bx.mk (below_step HB.out hb1 (Nat.le_refl _))
              have r0 := (R1 0 (by simp [sessL])).1; have r3 := (R1 3 (by simp [sessL])).1; have r4 := (R1 4 (by simp [sessL])).1
              simp only [sessL, List.getElem_cons_succ, List.getElem_cons_zero] at r0 r3 r4
              clear R1 hb1 HR HB
              go_wp2_with fail
              go_ret
              exact ⟨rfl, B1.out⟩
    · have e : q = 380 := by rw [HQ.out, if_neg]; intro h; have := HI.out.1 h; omega
      subst e
      clear HQ HI HS
      go_enter Tryz.func18, Tryz.ntmps18
      go_wp2_with fail
      refine (HC.out _).mono ?_
      rintro e w1 ⟨rfl, hb1⟩
      have R1 := HR.out.below hb1 (by simp)
      have B1 := Bx.mk (below_step HB.out hb1 (Nat.le_refl _))
      have r0 := (R1 0 (by simp [sessL])).1; have r3 := (R1 3 (by simp [sessL])).1; have r4 := (R1 4 (by simp [sessL])).1
      simp only [sessL, List.getElem_cons_succ, List.getElem_cons_zero] at r0 r3 r4
      clear R1 hb1 HR HB
      go_wp2_with fail
      go_ret
      exact ⟨rfl, B1.out⟩
end Go.Proofs.YtjbojoeafdkkeaaGreatDoor

namespace Go.Proofs.YtjbojoeafdkkeaaGreatDoor
open Go Go.RowKit Go.Lib

def sess0 : List Value := sessL 0 0 0 0 0 false
theorem sess0_one : ∀ v ∈ sess0, v.oneCell' = true := sess_one 0 0 0 0 0 false

set_option maxHeartbeats 8000000 in
set_option maxRecDepth 100000 in
theorem enew_arg (p code x : Int) (w : World) (h : p < 0 ∨ 64 ≤ p) :
    Calls Tryz.prog 14 #[.int .i64 p, .int .i64 code, .int .i64 x] w fun e w' => e = .returned (.tuple #[sessV 0 0 0 0 0 false, .int .i64 1]) ∧ Below w.heap.size w w' := by
  have HR := Bx.mk (row_new w sess0 25)
  have HB := Bx.mk ((Below.refl w.heap.size w).alloc (Nat.le_refl _) (.cells sess0.toArray 25))
  by_cases h1 : p < 0
  · clear h
    go_enter Tryz.func14, Tryz.ntmps14
    go_wp2_with (first | (refine wpList_ldN rowT_sess rfl (.tmp 6) rfl w.heap.size 0 rfl sess0 HR.out.range0 rfl (sessV 0 0 0 0 0 false) rfl ?_) | (refine wpList_stR rowT_sess rfl (.tmp 6) (.tmp 16) rfl w.heap.size rfl sess0 rfl sess0_one rfl sess0 HR.out rfl ?_))
    intro w2 e1 e2
    have B2 := Bx.mk (Below.grown HB.out e2 HB.out.size (by intro q hq; cases hq; omega))
    have E1 := Bx.mk e1
    clear e1 e2
    go_wp2_with fail
    (try simp only [Exit.inBlock, Exit.then])
    refine bodyPost_ret (results_rowN rowT_sess rfl _ _ w.heap.size sess0 (sessV 0 0 0 0 0 false) (.int .i64 1) rfl rfl E1.out.range0 rfl rfl) rfl ?_
    exact ⟨rfl, B2.out⟩
  · have h2 : 64 ≤ p := by omega
    clear h
    go_enter Tryz.func14, Tryz.ntmps14
    go_wp2_with (first | (refine wpList_ldN rowT_sess rfl (.tmp 6) rfl w.heap.size 0 rfl sess0 HR.out.range0 rfl (sessV 0 0 0 0 0 false) rfl ?_) | (refine wpList_stR rowT_sess rfl (.tmp 6) (.tmp 16) rfl w.heap.size rfl sess0 rfl sess0_one rfl sess0 HR.out rfl ?_))
    intro w2 e1 e2
    have B2 := Bx.mk (Below.grown HB.out e2 HB.out.size (by intro q hq; cases hq; omega))
    have E1 := Bx.mk e1
    clear e1 e2
    go_wp2_with fail
    (try simp only [Exit.inBlock, Exit.then])
    refine bodyPost_ret (results_rowN rowT_sess rfl _ _ w.heap.size sess0 (sessV 0 0 0 0 0 false) (.int .i64 1) rfl rfl E1.out.range0 rfl rfl) rfl ?_
    exact ⟨rfl, B2.out⟩

theorem new_two (w : World) (code x : Int) : Row ((w.alloc (.cells sess0.toArray 25)).alloc (.cells #[.int .i64 1, .int .i64 code, .int .i64 x] 23)) w.heap.size sess0 ∧ Row ((w.alloc (.cells sess0.toArray 25)).alloc (.cells #[.int .i64 1, .int .i64 code, .int .i64 x] 23)) (w.heap.size + 1) [.int .i64 1, .int .i64 code, .int .i64 x] ∧ Below w.heap.size w ((w.alloc (.cells sess0.toArray 25)).alloc (.cells #[.int .i64 1, .int .i64 code, .int .i64 x] 23)) := by
  have e1 : (w.alloc (.cells sess0.toArray 25)).heap.size = w.heap.size + 1 := World.size_alloc _ _
  have h2 := row_new (w.alloc (.cells sess0.toArray 25)) [.int .i64 1, .int .i64 code, .int .i64 x] 23
  rw [e1] at h2
  exact ⟨(row_new w sess0 _).alloc (by rw [e1]; omega) _, h2, ((Below.refl _ _).alloc (Nat.le_refl _) _).alloc (by rw [e1]; omega) _⟩

set_option maxHeartbeats 8000000 in
set_option maxRecDepth 100000 in
theorem enew_side (p code x : Int) (w : World) (h0 : 0 ≤ p) (h1 : p < 64) (hs : sideOK 1 code x = false) :
    Calls Tryz.prog 14 #[.int .i64 p, .int .i64 code, .int .i64 x] w fun e w' => e = .returned (.tuple #[sessV 0 0 0 0 0 false, .int .i64 100]) ∧ Below w.heap.size w w' := by
  obtain ⟨c1, c2, c3⟩ := new_two w code x
  have HR := Bx.mk c1; have HB := Bx.mk c3
  have HC := Bx.mk (fun w => pcheck_c 1 code x w)
  rw [hs] at HC
  simp only [Bool.false_eq_true, if_false] at HC
  clear c1 c2 c3 hs
  go_enter Tryz.func14, Tryz.ntmps14
  go_wp2_with fail
  refine (HC.out _).mono ?_
  rintro e w1 ⟨rfl, hb1⟩
  have R1 := Bx.mk (HR.out.below hb1 (HR.out.lt (by decide)))
  have B1 := Bx.mk (below_step HB.out hb1 (Nat.le_refl _))
  clear hb1 HR HB
  go_wp2_with (first | (refine wpList_ldN rowT_sess rfl (.tmp 6) rfl w.heap.size 0 rfl sess0 R1.out.range0 rfl (sessV 0 0 0 0 0 false) rfl ?_) | (refine wpList_stR rowT_sess rfl (.tmp 6) (.tmp 24) rfl w.heap.size rfl sess0 rfl sess0_one rfl sess0 R1.out rfl ?_))
  intro w2 e1 e2
  have B2 := Bx.mk (Below.grown B1.out e2 B1.out.size (by intro q hq; cases hq; omega))
  have E1 := Bx.mk e1
  clear e1 e2
  go_wp2_with fail
  (try simp only [Exit.inBlock, Exit.then])
  refine bodyPost_ret (results_rowN rowT_sess rfl _ _ w.heap.size sess0 (sessV 0 0 0 0 0 false) (.int .i64 100) rfl rfl E1.out.range0 rfl rfl) rfl ?_
  exact ⟨rfl, B2.out⟩

set_option maxHeartbeats 8000000 in
set_option maxRecDepth 100000 in
theorem enew_ok (p code x : Int) (w : World) (h0 : 0 ≤ p) (h1 : p < 64) (hs : sideOK 1 code x = true) :
    Calls Tryz.prog 14 #[.int .i64 p, .int .i64 code, .int .i64 x] w fun e w' => e = .returned (.tuple #[sessV 1 code x p 0 false, .int .i64 0]) ∧ Below w.heap.size w w' := by
  obtain ⟨c1, c2, c3⟩ := new_two w code x
  have HR := Bx.mk c1; have HB := Bx.mk c3; have HS := Bx.mk c2
  have HC := Bx.mk (fun w => pcheck_c 1 code x w)
  rw [hs] at HC
  simp only [if_true] at HC
  clear c1 c2 c3 hs
  go_enter Tryz.func14, Tryz.ntmps14
  go_wp2_with fail
  refine (HC.out _).mono ?_
  rintro e w1 ⟨rfl, hb1⟩
  have R1 := Bx.mk (HR.out.below hb1 (HR.out.lt (by decide)))
  have B1 := Bx.mk (below_step HB.out hb1 (Nat.le_refl _))
  have S1 := HS.out.below hb1 (HS.out.lt (by simp))
  have s0 := (S1 0 (by simp)).1; have s1 := (S1 1 (by simp)).1; have s2 := (S1 2 (by simp)).1
  simp only [List.getElem_cons_succ, List.getElem_cons_zero] at s0 s1 s2
  clear hb1 HR HB HS S1
  go_wp2_with (refine wpList_stR rowT_sess rfl (.tmp 6) (.tmp 28) rfl w.heap.size rfl (sessL 1 code x p 0 false) rfl (sess_one 1 code x p 0 false) rfl sess0 R1.out rfl ?_)
  intro w2 e1 e2
  have B2 := Bx.mk (Below.grown B1.out e2 B1.out.size (by intro q hq; cases hq; omega))
  have E1 := Bx.mk e1
  clear e1 e2
  go_wp2_with fail
  (try simp only [Exit.inBlock, Exit.then])
  refine bodyPost_ret (results_rowN rowT_sess rfl _ _ w.heap.size (sessL 1 code x p 0 false) (sessV 1 code x p 0 false) (.int .i64 0) rfl rfl E1.out.range0 rfl rfl) rfl ?_
  exact ⟨rfl, B2.out⟩

set_option maxHeartbeats 8000000 in
set_option maxRecDepth 100000 in
theorem epoint_ok (r code x p t : Int) (d : Bool) (w : World) (hL : Laid w) (hs : sessOK r code x p t = true) :
    Calls Tryz.prog 16 #[sessV r code x p t d] w fun e w' => e = .returned (.tuple #[.int .i64 (ownN r code x), .int .i64 0]) ∧ Below w.heap.size w w' := by
  have HC := Bx.mk (fun w => echeck_c r code x p t d w)
  rw [hs] at HC
  simp only [if_true] at HC
  have hi := (sessOK_iff r code x p t).1 hs
  have HP := Bx.mk (fun w hL => ppoint_ok r code x w hL hi.1)
  have HR := Bx.mk (row_new w (sessL r code x p t d) 25)
  have HB := Bx.mk ((Below.refl w.heap.size w).alloc (Nat.le_refl _) (.cells (sessL r code x p t d).toArray 25))
  have HL := Bx.mk hL
  clear hs hi hL
  obtain ⟨o0, ho0⟩ : ∃ p, p = ownN r code x := ⟨_, rfl⟩
  rw [← ho0] at HP ⊢
  clear ho0
  unfold sessV at HC ⊢
  go_enter Tryz.func16, Tryz.ntmps16
  go_wp2_with fail
  refine (HC.out _).mono ?_
  rintro e w1 ⟨rfl, hb1⟩
  have R1 := HR.out.below hb1 (HR.out.lt (by simp [sessL]))
  have B1 := Bx.mk (below_step HB.out hb1 (Nat.le_refl _))
  have r0 := (R1 0 (by simp [sessL])).1; have r1 := (R1 1 (by simp [sessL])).1; have r2 := (R1 2 (by simp [sessL])).1
  simp only [sessL, List.getElem_cons_succ, List.getElem_cons_zero] at r0 r1 r2
  clear R1 hb1 HR HB
  go_wp2_with fail
  refine (HP.out _ (HL.out.below B1.out (Nat.le_refl _))).mono ?_
  rintro e w2 ⟨rfl, hb2⟩
  have B2 := Bx.mk (below_step B1.out hb2 (Nat.le_refl _))
  go_wp2_with fail
  go_ret2
  exact ⟨rfl, B2.out⟩
end Go.Proofs.YtjbojoeafdkkeaaGreatDoor

namespace Go.Proofs.YtjbojoeafdkkeaaGreatDoor
open Go Go.RowKit Go.Lib

def reqL (p d v l : Int) (k : List Int) : List Value := [.int .i64 p, .int .i64 d, .int .i64 v, .int .i64 l] ++ k.map (.int .u8)
def reqV (p d v l : Int) (k : List Int) : Value := .agg (reqL p d v l k).toArray
theorem reqL_len (p d v l : Int) (k : List Int) (hk : k.length = 32) : (reqL p d v l k).length = 36 := by simp [reqL, hk]
theorem req_one (p d v l : Int) (k : List Int) : ∀ u ∈ reqL p d v l k, u.oneCell' = true := by
  intro u hu
  simp only [reqL, List.mem_append, List.mem_cons, List.not_mem_nil, or_false] at hu
  rcases hu with (rfl | rfl | rfl | rfl) | h
  · rfl
  · rfl
  · rfl
  · rfl
  · exact one_ints .u8 _ u h
theorem slice_dig (D : Nat) : ∀ w, (Instr.sliceAt 35 (.pointer (some ⟨D, 0, none⟩)) none none none).run Tryz.prog w = .ok (.slice (some ⟨D, 0, none⟩) 32 32) w := fun w => by kernel_rfl

def oD (dl : List Int) : Obj := .cells (dl.map (.int .u8)).toArray 35
def oR (p d v l : Int) (k : List Int) : Obj := .cells (reqL p d v l k).toArray 37
def oL : Obj := .cells #[.int .i64 3, .int .i64 0, .string ⟨#[]⟩, .slice none 0 0] 59
def oN (a b c : Int) : Obj := .cells #[.int .i64 a, .int .i64 b, .int .i64 c] 3
def pw4 (w : World) (dl : List Int) (p d v l : Int) (k : List Int) : World := (((w.alloc (oD dl)).alloc (oR p d v l k)).alloc (oD z32)).alloc oL
def pw5 (w : World) (dl : List Int) (p d v l : Int) (k : List Int) : World := (pw4 w dl p d v l k).alloc (oN d v l)
/-- The frame of proof. -/
def FrP (w : World) (dl xs : List Int) (W : World) : Prop := Below w.heap.size w W ∧ U8 W w.heap.size 0 dl ∧ Blk W (w.heap.size + 2) .u8 z32 ∧ I64 W (w.heap.size + 4) xs
theorem FrP.of {w W W2 : World} {dl xs : List Int} (h : FrP w dl xs W) (hb : Below w.heap.size w W2) (e0 : W2.heap[w.heap.size]? = W.heap[w.heap.size]?) (e2 : W2.heap[w.heap.size + 2]? = W.heap[w.heap.size + 2]?) (e4 : W2.heap[w.heap.size + 4]? = W.heap[w.heap.size + 4]?) : FrP w dl xs W2 :=
  ⟨hb, fun i hi => (World.cell?_of_block (w := W) (a := ⟨w.heap.size, 0 + i, none⟩) e0).trans (h.2.1 i hi), h.2.2.1.of_heap e2, fun i hi => (World.cell?_of_block (w := W) (a := ⟨w.heap.size + 4, i, none⟩) e4).trans (h.2.2.2 i hi)⟩
theorem pw_facts (w : World) (dl : List Int) (p d v l : Int) (k : List Int) :
    (pw4 w dl p d v l k).heap.size = w.heap.size + 4 ∧ FrP w dl [d, v, l] (pw5 w dl p d v l k) ∧ LV (pw5 w dl p d v l k) (w.heap.size + 3) (.slice none 0 0) ∧ Row (pw4 w dl p d v l k) (w.heap.size + 1) (reqL p d v l k) := by
  have s1 : (w.alloc (oD dl)).heap.size = w.heap.size + 1 := World.size_alloc _ _
  have s2 : ((w.alloc (oD dl)).alloc (oR p d v l k)).heap.size = w.heap.size + 2 := by rw [World.size_alloc, s1]
  have s3 : (((w.alloc (oD dl)).alloc (oR p d v l k)).alloc (oD z32)).heap.size = w.heap.size + 3 := by rw [World.size_alloc, s2]
  have s4 : (pw4 w dl p d v l k).heap.size = w.heap.size + 4 := by unfold pw4; rw [World.size_alloc, s3]
  have b0 := blk_new w .u8 dl 35
  have b0' : Blk (pw5 w dl p d v l k) w.heap.size .u8 dl := ((((b0.alloc (by rw [World.size_alloc]; omega) _).alloc (by rw [World.size_alloc, World.size_alloc]; omega) _).alloc (by rw [World.size_alloc, World.size_alloc, World.size_alloc]; omega) _).alloc (by show _ < (pw4 w dl p d v l k).heap.size; rw [s4]; omega) (oN d v l) : Blk (pw5 w dl p d v l k) w.heap.size .u8 dl)
  have b1 := row_new (w.alloc (oD dl)) (reqL p d v l k) 37
  rw [s1] at b1
  have b1' : Row (pw4 w dl p d v l k) (w.heap.size + 1) (reqL p d v l k) := (b1.alloc (by show _ < ((w.alloc (oD dl)).alloc (oR p d v l k)).heap.size; rw [s2]; omega) (oD z32)).alloc (by show _ < (((w.alloc (oD dl)).alloc (oR p d v l k)).alloc (oD z32)).heap.size; rw [s3]; omega) oL
  have b2 := blk_new ((w.alloc (oD dl)).alloc (oR p d v l k)) .u8 z32 35
  rw [s2] at b2
  have b2' : Blk (pw5 w dl p d v l k) (w.heap.size + 2) .u8 z32 := (b2.alloc (by show _ < (((w.alloc (oD dl)).alloc (oR p d v l k)).alloc (oD z32)).heap.size; rw [s3]; omega) oL).alloc (by show _ < (pw4 w dl p d v l k).heap.size; rw [s4]; omega) (oN d v l)
  have b3 := LV.new (((w.alloc (oD dl)).alloc (oR p d v l k)).alloc (oD z32))
  rw [s3] at b3
  have b3' : LV (pw5 w dl p d v l k) (w.heap.size + 3) (.slice none 0 0) := LV.of_heap b3 (Below.heap_alloc _ _ _ (by show _ < (pw4 w dl p d v l k).heap.size; rw [s4]; omega))
  have hB : Below w.heap.size w (pw5 w dl p d v l k) := (((((Below.refl w.heap.size w).alloc (Nat.le_refl _) (oD dl)).alloc (by rw [s1]; omega) (oR p d v l k)).alloc (by rw [s2]; omega) (oD z32)).alloc (by rw [s3]; omega) oL).alloc (by show _ ≤ (pw4 w dl p d v l k).heap.size; rw [s4]; omega) (oN d v l)
  refine ⟨s4, ⟨hB, fun i hi => by rw [Nat.zero_add]; exact (b0' i hi).1, b2', fun i hi => ?_⟩, b3', b1'⟩
  have hc := fun j => cells_new (pw4 w dl p d v l k) #[.int .i64 d, .int .i64 v, .int .i64 l] 3 j
  rw [s4] at hc
  have : i = 0 ∨ i = 1 ∨ i = 2 := by simp at hi; omega
  rcases this with rfl | rfl | rfl
  · exact hc 0
  · exact hc 1
  · exact hc 2

/-- The walk stands still ahead of an operation. -/
theorem wpList_pause {w : World} {ops : Array Oper} {rest : List Oper} {o : Oper} {a : Act} {Q : Exit → Act → World → Prop} (d : Nat) (_ : o.dst = some d) (h : ∀ w', w' = w → wpList Tryz.prog ops Q (o :: rest) a w') : wpList Tryz.prog ops Q (o :: rest) a w := h w rfl

set_option maxHeartbeats 8000000 in
set_option maxRecDepth 100000 in
theorem eproof_c (dl : List Int) (hdl : dl.length = 32) (p d v l : Int) (k : List Int) (hk : k.length = 32) (w : World) (hL : Laid w) (hr : ∀ x ∈ [d, v, l], -9223372036854775808 ≤ x ∧ x ≤ 9223372036854775807) :
    Calls Tryz.prog 50 #[dv dl, reqV p d v l k] w fun e w' => e = .returned (dv (rqN dl d v l)) ∧ Below w.heap.size w w' := by
  obtain ⟨s4, fr5, lv5, row4⟩ := pw_facts w dl p d v l k
  have HS4 := Bx.mk s4; have HF5 := Bx.mk fr5; have HLV5 := Bx.mk lv5
  have r1 : (pw4 w dl p d v l k).cell? ⟨w.heap.size + 1, 1, none⟩ = some (.int .i64 d) := row4.get (i := 1) rfl
  have r2 : (pw4 w dl p d v l k).cell? ⟨w.heap.size + 1, 2, none⟩ = some (.int .i64 v) := row4.get (i := 2) rfl
  have r3 : (pw4 w dl p d v l k).cell? ⟨w.heap.size + 1, 3, none⟩ = some (.int .i64 l) := row4.get (i := 3) rfl
  have HDL := Bx.mk hdl; have HK := Bx.mk hk; have HL := Bx.mk hL; have HR := Bx.mk hr
  clear hdl hk hL hr s4 fr5 lv5 row4
  go_enter Tryz.func50, Tryz.ntmps50
  go_wp2_with (first | (refine wpList_bxk rfl (.tmp 0) rfl (dl.map (.int .u8)) rfl ?_) | (refine wpList_bxk rfl (.tmp 1) rfl (reqL p d v l k) rfl ?_) | (refine wpList_pause 11 rfl ?_))
  intro W hW
  have hW2 : W = pw4 w dl p d v l k := hW
  clear hW
  subst hW2
  go_wp2_with (refine wpList_pause 18 rfl ?_)
  intro W hW
  have hW2 : W = pw5 w dl p d v l k := hW
  clear hW r1 r2 r3
  obtain ⟨K, hK⟩ : ∃ K, K = w.heap.size + 1 + 1 + 1 := ⟨_, rfl⟩
  rw [← hK]
  obtain ⟨ZZ, hZ⟩ : ∃ K, K = w.heap.size + 1 + 1 := ⟨_, rfl⟩
  rw [← hZ]
  obtain ⟨NB, hNB⟩ : ∃ NB, NB = (pw4 w dl p d v l k).heap.size := ⟨_, rfl⟩
  rw [← hNB]
  rw [HS4.out] at hNB
  rw [← hW2] at HF5 HLV5
  rw [show w.heap.size + 3 = K by omega] at HLV5
  have hKl : K = w.heap.size + 3 := by omega
  have hZl : ZZ = w.heap.size + 2 := by omega
  have hK1 : w.heap.size + 3 ≤ K := by omega
  have hK2 : K ≤ w.heap.size + 3 := by omega
  have HZl := Bx.mk hZl
  have hZ1 : w.heap.size ≤ ZZ := by omega
  have HNB := Bx.mk hNB
  clear hW2 hK hZ HS4 hKl hZl hNB
  obtain ⟨xs, hxs⟩ : ∃ xs, xs = [d, v, l] := ⟨_, rfl⟩
  have hxl : xs.length = 3 := by rw [hxs]; rfl
  rw [← hxs] at HF5 HR
  have HXS := Bx.mk hxs
  clear hxs
  go_wp2_with fail
  go_loopg [19] 3 (fun g s19 wr => ∃ (j : Nat) (u : Value), s19 = .int .i64 j ∧ j ≤ 3 ∧ Bx (g = 3 - j) ∧ Bx (LV wr K u) ∧ Bx (Vals wr u (xs.take j)) ∧ Bx (∀ q, u.ownBlock = some q → w.heap.size + 5 ≤ q) ∧ Bx (FrP w dl xs wr) ∧ w.heap.size + 5 ≤ wr.heap.size)
  case atStart =>
    refine ⟨0, _, rfl, by omega, .mk rfl, HLV5, .mk (vals_nil _), .mk (by intro q hq; cases hq), HF5, ?_⟩
    have := cell_lt (HF5.out.2.2.2 0 (by omega)); omega
  case round =>
    obtain ⟨j, u, rfl, hj, hg, hlv, hvs, hown, hfr, hsz⟩ := hrel
    clear HLV5 HF5
    by_cases hlt : j < 3
    · obtain ⟨x, hx⟩ : ∃ x, x = xs.getD j 0 := ⟨_, rfl⟩
      have hix : wr.cell? ⟨NB, j, none⟩ = some (.int .i64 x) := by
        have := hfr.out.2.2.2 j (by omega)
        have e : xs.getD j 0 = xs[j] := by simp [List.getD, List.getElem?_eq_getElem (by omega : j < xs.length)]
        rw [hx, e, HNB.out]; exact this
      have HX := Bx.mk hx
      obtain ⟨a0, a1, a2, a3, af⟩ := hlv.out
      have HLV := hlv
      clear hx hlv
      have hle : (xs.take j).length ≤ 1000 := by rw [List.length_take]; omega
      go_wp2_with (at_builtin; go_must (refine wpList_appV rfl (.tmp 24) (.tmp 27) rfl u (xs.take j) rfl ?c1 wr.heap.size 1 x rfl (cells_new _ _ _ 0) (cells_new _ _ _ 1) (cells_new _ _ _ 2) (cells_new _ _ _ 3) hle ?_))
      case c1 => exact hvs.out.alloc _
      intro u2 w2 hv2 hs2
      have hKw := HLV.out.lt
      have hne : ∀ q, q < w.heap.size + 5 → some q ≠ u.ownBlock := by intro q hq e; have := hown.out _ e.symm; omega
      have hszA : ∀ o, (wr.alloc o).heap.size = wr.heap.size + 1 := fun o => World.size_alloc _ _
      have hB1 := hfr.out.1.alloc hfr.out.1.size (.cells #[.int .i64 1, .int .i64 x, .string ⟨#[]⟩, .slice none 0 0] 59)
      have hB2 := Below.grown hB1 hs2.grown hB1.size (by intro q hq; have := hown.out q hq; omega)
      have kp : ∀ q, q < w.heap.size + 5 → w2.heap[q]? = wr.heap[q]? := fun q hq => by
        rw [hs2.grown.block q (by rw [hszA]; omega) (hne q hq)]
        exact Below.heap_alloc _ _ _ (by omega)
      have HF2 := Bx.mk (hfr.out.of hB2 (kp _ (by omega)) (kp _ (by omega)) (kp _ (by omega)))
      have HLV2 := Bx.mk (HLV.out.of_heap (kp K (by omega)))
      have hs2sz := hs2.grown.size
      rw [hszA] at hs2sz
      obtain ⟨g2, c2, n2, rfl⟩ : ∃ g c n, u2 = .slice (some ⟨g, 0, none⟩) n c := by
        rcases hv2.2 with ⟨_, h⟩ | ⟨g, c, cur, hv1, _⟩
        · rw [List.length_append] at h; simp at h
        · exact ⟨g, c, _, hv1⟩
      have hne2 := hs2.ne (b := K) (by rw [hszA]; omega) (hne K (by omega))
      have hG3 := grown_set (grown_refl w2 (some K)) (a := ⟨K, 3, none⟩) rfl (.slice (some ⟨g2, 0, none⟩) n2 c2)
      have hB3 := Below.grown hB2 hG3 hB2.size (by intro q hq; cases hq; omega)
      have HF3 := Bx.mk (HF2.out.of hB3 (hG3.block _ (by omega) (by intro e; have e2 : w.heap.size = K := Option.some.inj e; omega)) (hG3.block _ (by omega) (by intro e; have e2 : w.heap.size + 2 = K := Option.some.inj e; omega)) (hG3.block _ (by omega) (by intro e; have e2 : w.heap.size + 4 = K := Option.some.inj e; omega)))
      have hz3 := hG3.size
      have hV3 := Bx.mk (hv2.other (a := ⟨K, 3, none⟩) hne2 (.slice (some ⟨g2, 0, none⟩) n2 c2))
      have hO2 : Bx (∀ q, (Value.slice (some ⟨g2, 0, none⟩) n2 c2).ownBlock = some q → w.heap.size + 5 ≤ q) := .mk (by
        intro q hq
        rcases hs2.near with e | e
        · rw [e] at hq; exact hown.out q hq
        · have := e q hq; rw [hszA] at this; omega)
      obtain ⟨b0, b1, b2, b3, bf⟩ := HLV2.out
      clear a0 a1 a2 a3 af HLV hB1 hB2 hv2 hs2 hvs hown hix hne hne2 hszA kp hfr HF2 hB3 hG3
      go_wp2_with fail
      go_roundg (3 - j - 1)
      case measure => have := hg.out; omega
      case rel =>
        refine ⟨j + 1, .slice (some ⟨g2, 0, none⟩) n2 c2, by go_num, by omega, .mk (by omega), .mk (HLV2.out.put _), .mk ?_, hO2, HF3, by omega⟩
        have h := hV3.out
        rw [List.take_succ_eq_append_getElem (by omega : j < xs.length)]
        rw [HX.out] at h
        have e : xs.getD j 0 = xs[j] := by simp [List.getD, List.getElem?_eq_getElem (by omega : j < xs.length)]
        rwa [e] at h
    · obtain rfl : j = 3 := by omega
      obtain ⟨a0, a1, a2, a3, af⟩ := hlv.out
      rw [List.take_of_length_le (by omega)] at hvs
      clear hlt hj hg
      obtain ⟨g, c, rfl⟩ : ∃ g c, u = .slice (some ⟨g, 0, none⟩) xs.length c := by
        rcases hvs.out.2 with ⟨_, h⟩ | ⟨g, c, cur, hv1, _⟩
        · omega
        · exact ⟨g, c, hv1⟩
      have hIA := ints_of_vals hvs.out
      have hEC := Bx.mk (encode_c g 0 c xs wr (by omega) HR.out hIA (cell_lt (hIA 0 (by omega)).1))
      rw [hxl] at hEC
      go_wp2_with fail
      refine hEC.out.mono ?_
      rintro e w2 ⟨v2, rfl, hbt, hb2, hown2⟩
      have hB2 := below_step hfr.out.1 hb2 (Nat.le_refl _)
      have HF2 := Bx.mk (hfr.out.of hB2 (hb2.block _ (by omega)) (hb2.block _ (by omega)) (hb2.block _ (by omega)))
      have hl2 := encL_len xs
      obtain ⟨g2, c2, e2, hc2, hc2m, hu2, hg2⟩ := slice_of_bytes hbt (encL_pos xs)
      subst e2
      have HU2 := Bx.mk (news_of_u8 hu2)
      have HU0 := Bx.mk (news_of_u8 HF2.out.2.1)
      have hw2 : w.heap.size + 5 ≤ w2.heap.size := by have := hb2.size; omega
      have hsl := slice_dig w.heap.size
      have hep := encL_pos xs
      have HEN := Bx.mk (show encL xs = encL [d, v, l] by rw [HXS.out])
      obtain ⟨en, hen⟩ : ∃ en, en = encL xs := ⟨_, rfl⟩
      rw [← hen] at HU2 hl2 hep HEN ⊢
      obtain ⟨N, hN⟩ : ∃ N, N = en.length := ⟨_, rfl⟩
      rw [← hN]
      have HN := Bx.mk hN
      have hn0 : 0 < N := by omega
      have hn1 : N ≤ 44 := by omega
      clear hN a0 a1 a2 a3 af hbt hb2 hown2 hvs hIA hEC hfr hB2 hu2 hen
      go_wp2_with (at_builtin; go_must (refine wpList_appFull8 rfl (.tmp 36) (.tmp 37) rfl ⟨w.heap.size, 0, none⟩ 32 dl rfl HDL.out HU0.out ⟨g2, 0, none⟩ N c2 en rfl HN.out.symm (by omega) HU2.out (by rw [HDL.out]; omega) ?_))
      intro v4 w4 hb4 hg4 hown4
      have hB4 := Below.grown HF2.out.1 hg4 (by omega) (by intro q hq; cases hq)
      have Z4 := Bx.mk (HF2.out.2.2.1.grown hg4 (by omega) (by simp))
      obtain ⟨g3, c3, e3, ht⟩ := tagged_own (w := w) tEnroll (HL.out.below hB4 (Nat.le_refl _)) hb4 (by rw [List.length_append]; omega) (by rw [List.length_append, HDL.out]; omega) (by decide) (by decide)
      subst e3
      have HB4 := Bx.mk hB4
      have HT := Bx.mk ht
      have HRQ := Bx.mk (show tagged tEnroll (dl ++ en) = rqN dl d v l by rw [HEN.out]; rfl)
      obtain ⟨M, hM⟩ : ∃ M, M = (dl ++ en).length := ⟨_, rfl⟩
      rw [← hM] at HT ⊢
      clear hM
      have HRL := Bx.mk (show (rqN dl d v l).length = 32 by unfold rqN; exact tagged_len _ _)
      rw [HRQ.out] at HT
      clear ht hB4 hb4 hg4 hown4 HF2 HU0 HU2
      go_wp2_with fail
      refine HT.out.mono ?_
      rintro e w5 ⟨rfl, hb5⟩
      have Z5 := Bx.mk (Z4.out.below hb5 (Z4.out.lt (by decide)))
      have B5 := Bx.mk (below_step HB4.out hb5 (Nat.le_refl _))
      clear hb5 HT Z4 HB4
      rw [← HZl.out] at Z5
      go_wp2_with (refine wpList_sdg rfl (.tmp 4) (.tmp 39) rfl ZZ rfl (rqN dl d v l) rfl HRL.out z32 Z5.out rfl ?_)
      intro w6 D6 hg6
      have B6 := Below.grown B5.out hg6 B5.out.size (by intro q hq; cases hq; omega)
      clear hg6
      go_wp2_with fail
      (try simp only [Exit.inBlock, Exit.then])
      refine bodyPost_ret (results_dig rfl _ _ ZZ (rqN dl d v l) rfl D6 HRL.out) rfl ?_
      exact ⟨rfl, B6⟩
end Go.Proofs.YtjbojoeafdkkeaaGreatDoor
