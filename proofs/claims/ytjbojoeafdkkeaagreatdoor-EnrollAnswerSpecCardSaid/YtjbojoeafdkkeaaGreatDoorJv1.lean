/- The specification's field (chapter 3) and signatures (chapter 5). -/
import Derived.Test.YtjbojoeafdkkeaaGreatDoorJ24
import Derived.Test.YtjbojoeafdkkeaaGreatDoorJ9
import Derived.Test.YtjbojoeafdkkeaaGreatDoorJ14
set_option linter.unusedVariables false
set_option linter.unusedSimpArgs false
namespace Go.Proofs.YtjbojoeafdkkeaaGreatDoor
open Go Go.RowKit Go.Lib

theorem sfscal_c (k : Int) (w : World) (h0 : 0 ≤ k) (h1 : k < 2305843009213688669) : Calls Tryz.prog 145 #[.int .i64 k] w fun e w' => e = .returned (.bool true) ∧ w = w' := by
  go_enter Tryz.func145, Tryz.ntmps145
  go_wp2_with fail
  go_ret
  exact ⟨rfl, rfl⟩
theorem sfsum_c (a b : Int) (w : World) (a0 : 0 ≤ a) (a1 : a < 2305843009213688669) (b0 : 0 ≤ b) (b1 : b < 2305843009213688669) : Calls Tryz.prog 177 #[.int .i64 a, .int .i64 b] w fun e w' => e = .returned (.int .i64 ((a + b) % 2305843009213688669)) ∧ w = w' := by
  go_enter Tryz.func177, Tryz.ntmps177
  go_wp2_with fail
  go_ret
  exact ⟨rfl, rfl⟩
set_option maxHeartbeats 1000000 in
theorem sfprod_c (a b : Int) (w : World) (a0 : 0 ≤ a) (a1 : a < 2305843009213688669) (b0 : 0 ≤ b) (b1 : b < 2305843009213688669) :
    Calls Tryz.prog 176 #[.int .i64 a, .int .i64 b] w fun e w' => e = .returned (.int .i64 (a * b % 2305843009213688669)) ∧ w = w' := by
  obtain ⟨z, hz⟩ : ∃ z, z = a * b % 2305843009213688669 := ⟨_, rfl⟩
  have hz0 : (0 + a * b) % 2305843009213688669 = z := by rw [hz, Int.zero_add]
  rw [← hz]
  have HZ := Bx.mk hz0
  clear hz hz0
  go_enter Tryz.func176, Tryz.ntmps176
  go_wp2_with fail
  go_loopg [0, 1, 5] b.toNat (fun g s0 s1 s7 wr => ∃ a' b' c' : Int, s0 = .int .i64 a' ∧ s1 = .int .i64 b' ∧ s7 = .int .i64 c' ∧ 0 ≤ a' ∧ a' < 2305843009213688669 ∧ 0 ≤ b' ∧ b' < 9223372036854775808 ∧ 0 ≤ c' ∧ c' < 2305843009213688669 ∧ Bx ((c' + a' * b') % 2305843009213688669 = z) ∧ Bx (g = b'.toNat) ∧ Bx (wr = w))
  case atStart => exact ⟨a, b, 0, rfl, rfl, rfl, a0, a1, b0, by omega, by omega, by omega, HZ, .mk rfl, .mk rfl⟩
  case round =>
    obtain ⟨a', b', c', rfl, rfl, rfl, h1, h2, h3, h4, h5, h6, hzz, hg, hw⟩ := hrel
    by_cases hb : 0 < b'
    · have C1 := Bx.mk (fun w => sfsum_c c' a' w h5 h6 h1 h2)
      have C2 := Bx.mk (fun w => sfsum_c a' a' w h1 h2 h1 h2)
      obtain ⟨u, hu⟩ : ∃ u, u = (a' + a') % 2305843009213688669 := ⟨_, rfl⟩
      obtain ⟨v, hv⟩ : ∃ v, v = (c' + a') % 2305843009213688669 := ⟨_, rfl⟩
      have u0 := Int.emod_nonneg (a' + a') (show 2305843009213688669 ≠ 0 by decide)
      have u1 := Int.emod_lt_of_pos (a' + a') (show 0 < 2305843009213688669 by decide)
      have v0 := Int.emod_nonneg (c' + a') (show 2305843009213688669 ≠ 0 by decide)
      have v1 := Int.emod_lt_of_pos (c' + a') (show 0 < 2305843009213688669 by decide)
      by_cases ho : b' % 2 = 1
      · have hk := prod_odd a' b' c' 2305843009213688669 ho
        rw [← hu] at C2 u0 u1 hk; rw [← hv] at C1 v0 v1 hk
        have HK := Bx.mk hk; clear hk hu hv
        go_wp2_with fail
        refine (C1.out _).mono ?_
        rintro e w2 ⟨rfl, rfl⟩
        go_wp2_with fail
        refine (C2.out _).mono ?_
        rintro e w2 ⟨rfl, rfl⟩
        go_wp2_with fail
        go_roundg (b' / 2).toNat
        case measure => have := hg.out; omega
        case rel => exact ⟨_, b' / 2, _, rfl, rfl, rfl, u0, u1, by omega, by omega, v0, v1, .mk (by rw [HK.out]; exact hzz.out), .mk rfl, hw⟩
      · have hk := prod_even a' b' c' 2305843009213688669 ho
        rw [← hu] at C2 u0 u1 hk
        have HK := Bx.mk hk; clear hk hu hv
        go_wp2_with fail
        refine (C2.out _).mono ?_
        rintro e w2 ⟨rfl, rfl⟩
        go_wp2_with fail
        go_roundg (b' / 2).toNat
        case measure => have := hg.out; omega
        case rel => exact ⟨_, b' / 2, c', rfl, rfl, rfl, u0, u1, by omega, by omega, h5, h6, .mk (by rw [HK.out]; exact hzz.out), .mk rfl, hw⟩
    · obtain rfl : b' = 0 := by omega
      have hc : c' = z := by
        have := hzz.out
        rw [Int.mul_zero, Int.add_zero, Int.emod_eq_of_lt h5 h6] at this
        exact this
      have HC := Bx.mk hc
      clear hc hb
      go_wp2_with fail
      go_ret
      exact ⟨by rw [HC.out]; rfl, hw.out.symm⟩
theorem sfmul_c (a b : Int) (w : World) (a0 : 0 ≤ a) (a1 : a < 2305843009213688669) (b0 : 0 ≤ b) (b1 : b < 2305843009213688669) :
    Calls Tryz.prog 142 #[.int .i64 a, .int .i64 b] w fun e w' => e = .returned (.tuple #[.int .i64 (a * b % 2305843009213688669), .int .i64 0]) ∧ w = w' := by
  have S1 := Bx.mk (fun w => sfscal_c a w a0 a1)
  have S2 := Bx.mk (fun w => sfscal_c b w b0 b1)
  have HP := Bx.mk (fun w => sfprod_c a b w a0 a1 b0 b1)
  obtain ⟨z, hz⟩ : ∃ z, z = a * b % 2305843009213688669 := ⟨_, rfl⟩
  rw [← hz] at HP ⊢
  clear hz
  go_enter Tryz.func142, Tryz.ntmps142
  go_wp2_with fail
  refine (S1.out _).mono ?_
  rintro e w2 ⟨rfl, rfl⟩
  go_wp2_with fail
  refine (S2.out _).mono ?_
  rintro e w2 ⟨rfl, rfl⟩
  go_wp2_with fail
  refine (HP.out _).mono ?_
  rintro e w2 ⟨rfl, rfl⟩
  go_wp2_with fail
  go_ret2
  exact ⟨rfl, rfl⟩
theorem sfadd_c (a b : Int) (w : World) (a0 : 0 ≤ a) (a1 : a < 2305843009213688669) (b0 : 0 ≤ b) (b1 : b < 2305843009213688669) :
    Calls Tryz.prog 144 #[.int .i64 a, .int .i64 b] w fun e w' => e = .returned (.tuple #[.int .i64 ((a + b) % 2305843009213688669), .int .i64 0]) ∧ w = w' := by
  have S1 := Bx.mk (fun w => sfscal_c a w a0 a1)
  have S2 := Bx.mk (fun w => sfscal_c b w b0 b1)
  have HP := Bx.mk (fun w => sfsum_c a b w a0 a1 b0 b1)
  obtain ⟨z, hz⟩ : ∃ z, z = (a + b) % 2305843009213688669 := ⟨_, rfl⟩
  rw [← hz] at HP ⊢
  clear hz
  go_enter Tryz.func144, Tryz.ntmps144
  go_wp2_with fail
  refine (S1.out _).mono ?_
  rintro e w2 ⟨rfl, rfl⟩
  go_wp2_with fail
  refine (S2.out _).mono ?_
  rintro e w2 ⟨rfl, rfl⟩
  go_wp2_with fail
  refine (HP.out _).mono ?_
  rintro e w2 ⟨rfl, rfl⟩
  go_wp2_with fail
  go_ret2
  exact ⟨rfl, rfl⟩
theorem rpriv_c (x : Int) (w : World) : Calls Tryz.prog 174 #[.int .i64 x] w fun e w' => e = .returned (.bool (isPriv x)) ∧ w = w' := by
  by_cases h : 1 ≤ x
  · by_cases h2 : x < 2305843009213688669
    · have e : isPriv x = true := (isPriv_iff x).2 ⟨h, h2⟩
      rw [e]; clear e
      go_enter Tryz.func174, Tryz.ntmps174
      go_wp2_with fail
      go_ret
      exact ⟨rfl, rfl⟩
    · have e : isPriv x = false := by simp [isPriv]; omega
      rw [e]; clear e
      go_enter Tryz.func174, Tryz.ntmps174
      go_wp2_with fail
      go_ret
      exact ⟨rfl, rfl⟩
  · have e : isPriv x = false := by simp [isPriv]; omega
    rw [e]; clear e
    go_enter Tryz.func174, Tryz.ntmps174
    go_wp2_with fail
    go_ret
    exact ⟨rfl, rfl⟩

theorem rpub_bad (x : Int) (w : World) (hx : isPriv x = false) : Calls Tryz.prog 139 #[.int .i64 x] w fun e w' => e = .returned (.tuple #[.int .i64 0, .int .i64 50]) ∧ w = w' := by
  have HV := Bx.mk (fun w => rpriv_c x w)
  rw [hx] at HV
  clear hx
  go_enter Tryz.func139, Tryz.ntmps139
  go_wp2_with fail
  refine (HV.out _).mono ?_
  rintro e w2 ⟨rfl, rfl⟩
  go_wp2_with fail
  go_ret2
  exact ⟨rfl, rfl⟩
theorem rpub_ok (x : Int) (w : World) (hx : isPriv x = true) : Calls Tryz.prog 139 #[.int .i64 x] w fun e w' => e = .returned (.tuple #[.int .i64 (pwr 4 x.toNat), .int .i64 0]) ∧ w = w' := by
  have HV := Bx.mk (fun w => rpriv_c x w)
  rw [hx] at HV
  have HP := Bx.mk (fun w => rbase_c x w (by have := (isPriv_iff x).1 hx; omega) ((isPriv_iff x).1 hx).2)
  obtain ⟨z, hz⟩ : ∃ z, z = pwr 4 x.toNat := ⟨_, rfl⟩
  rw [← hz] at HP ⊢
  clear hx hz
  go_enter Tryz.func139, Tryz.ntmps139
  go_wp2_with fail
  refine (HV.out _).mono ?_
  rintro e w2 ⟨rfl, rfl⟩
  go_wp2_with fail
  refine (HP.out _).mono ?_
  rintro e w2 ⟨rfl, rfl⟩
  go_wp2_with fail
  go_ret2
  exact ⟨rfl, rfl⟩
set_option maxHeartbeats 4000000 in
set_option maxRecDepth 100000 in
theorem rbyt_c (m : Int) (w : World) (m0 : 0 ≤ m) (m1 : m < 9223372036854775808) : Calls Tryz.prog 141 #[.int .i64 m] w fun e w' => ∃ v, e = .returned v ∧ OB w v (be8 m) w' := by
  have O := Bx.mk (OB.nil w)
  go_enter Tryz.func141, Tryz.ntmps141
  go_wp2_with fail
  refine wp_loop_rounds 9 ?_
  rw [rounds_succ]
  have HL0 : Bx (([] : List Int).length + 1 ≤ 1000000) := .mk (by simp)
  go_wp2_with (at_builtin; go_must (refine wpList_app8 rfl (.tmp 10) (.tmp 17) rfl (.slice (some ⟨w.heap.size, 0, none⟩) 0 0) ([]) rfl ?c1 ⟨w.heap.size + 1, 0, none⟩ 1 1 [m / 72057594037927936] rfl rfl (by omega) (by have := one_new (w.alloc (.cells #[] 5)) 5 (m / 72057594037927936); rw [World.size_alloc] at this; exact this) HL0.out ?_))
  case c1 => exact O.out.1.alloc _
  intro u0 x0 hb0 hs0
  have O0 := Bx.mk (O.out.app _ hb0 hs0)
  clear hb0 hs0 O HL0
  go_wp2_with fail
  rw [rounds_succ]
  have HL1 : Bx (([m / 72057594037927936] : List Int).length + 1 ≤ 1000000) := .mk (by simp)
  go_wp2_with (at_builtin; go_must (refine wpList_app8 rfl (.tmp 10) (.tmp 17) rfl (u0) ([m / 72057594037927936]) rfl ?c1 ⟨x0.heap.size, 0, none⟩ 1 1 [m / 281474976710656 % 256] rfl rfl (by omega) (one_new _ _ _) HL1.out ?_))
  case c1 => exact O0.out.1.alloc _
  intro u1 x1 hb1 hs1
  have O1 := Bx.mk (O0.out.app _ hb1 hs1)
  clear hb1 hs1 O0 HL1
  go_wp2_with fail
  rw [rounds_succ]
  have HL2 : Bx (([m / 72057594037927936, m / 281474976710656 % 256] : List Int).length + 1 ≤ 1000000) := .mk (by simp)
  go_wp2_with (at_builtin; go_must (refine wpList_app8 rfl (.tmp 10) (.tmp 17) rfl (u1) ([m / 72057594037927936, m / 281474976710656 % 256]) rfl ?c1 ⟨x1.heap.size, 0, none⟩ 1 1 [m / 1099511627776 % 256] rfl rfl (by omega) (one_new _ _ _) HL2.out ?_))
  case c1 => exact O1.out.1.alloc _
  intro u2 x2 hb2 hs2
  have O2 := Bx.mk (O1.out.app _ hb2 hs2)
  clear hb2 hs2 O1 HL2
  go_wp2_with fail
  rw [rounds_succ]
  have HL3 : Bx (([m / 72057594037927936, m / 281474976710656 % 256, m / 1099511627776 % 256] : List Int).length + 1 ≤ 1000000) := .mk (by simp)
  go_wp2_with (at_builtin; go_must (refine wpList_app8 rfl (.tmp 10) (.tmp 17) rfl (u2) ([m / 72057594037927936, m / 281474976710656 % 256, m / 1099511627776 % 256]) rfl ?c1 ⟨x2.heap.size, 0, none⟩ 1 1 [m / 4294967296 % 256] rfl rfl (by omega) (one_new _ _ _) HL3.out ?_))
  case c1 => exact O2.out.1.alloc _
  intro u3 x3 hb3 hs3
  have O3 := Bx.mk (O2.out.app _ hb3 hs3)
  clear hb3 hs3 O2 HL3
  go_wp2_with fail
  rw [rounds_succ]
  have HL4 : Bx (([m / 72057594037927936, m / 281474976710656 % 256, m / 1099511627776 % 256, m / 4294967296 % 256] : List Int).length + 1 ≤ 1000000) := .mk (by simp)
  go_wp2_with (at_builtin; go_must (refine wpList_app8 rfl (.tmp 10) (.tmp 17) rfl (u3) ([m / 72057594037927936, m / 281474976710656 % 256, m / 1099511627776 % 256, m / 4294967296 % 256]) rfl ?c1 ⟨x3.heap.size, 0, none⟩ 1 1 [m / 16777216 % 256] rfl rfl (by omega) (one_new _ _ _) HL4.out ?_))
  case c1 => exact O3.out.1.alloc _
  intro u4 x4 hb4 hs4
  have O4 := Bx.mk (O3.out.app _ hb4 hs4)
  clear hb4 hs4 O3 HL4
  go_wp2_with fail
  rw [rounds_succ]
  have HL5 : Bx (([m / 72057594037927936, m / 281474976710656 % 256, m / 1099511627776 % 256, m / 4294967296 % 256, m / 16777216 % 256] : List Int).length + 1 ≤ 1000000) := .mk (by simp)
  go_wp2_with (at_builtin; go_must (refine wpList_app8 rfl (.tmp 10) (.tmp 17) rfl (u4) ([m / 72057594037927936, m / 281474976710656 % 256, m / 1099511627776 % 256, m / 4294967296 % 256, m / 16777216 % 256]) rfl ?c1 ⟨x4.heap.size, 0, none⟩ 1 1 [m / 65536 % 256] rfl rfl (by omega) (one_new _ _ _) HL5.out ?_))
  case c1 => exact O4.out.1.alloc _
  intro u5 x5 hb5 hs5
  have O5 := Bx.mk (O4.out.app _ hb5 hs5)
  clear hb5 hs5 O4 HL5
  go_wp2_with fail
  rw [rounds_succ]
  have HL6 : Bx (([m / 72057594037927936, m / 281474976710656 % 256, m / 1099511627776 % 256, m / 4294967296 % 256, m / 16777216 % 256, m / 65536 % 256] : List Int).length + 1 ≤ 1000000) := .mk (by simp)
  go_wp2_with (at_builtin; go_must (refine wpList_app8 rfl (.tmp 10) (.tmp 17) rfl (u5) ([m / 72057594037927936, m / 281474976710656 % 256, m / 1099511627776 % 256, m / 4294967296 % 256, m / 16777216 % 256, m / 65536 % 256]) rfl ?c1 ⟨x5.heap.size, 0, none⟩ 1 1 [m / 256 % 256] rfl rfl (by omega) (one_new _ _ _) HL6.out ?_))
  case c1 => exact O5.out.1.alloc _
  intro u6 x6 hb6 hs6
  have O6 := Bx.mk (O5.out.app _ hb6 hs6)
  clear hb6 hs6 O5 HL6
  go_wp2_with fail
  rw [rounds_succ]
  have HL7 : Bx (([m / 72057594037927936, m / 281474976710656 % 256, m / 1099511627776 % 256, m / 4294967296 % 256, m / 16777216 % 256, m / 65536 % 256, m / 256 % 256] : List Int).length + 1 ≤ 1000000) := .mk (by simp)
  go_wp2_with (at_builtin; go_must (refine wpList_app8 rfl (.tmp 10) (.tmp 17) rfl (u6) ([m / 72057594037927936, m / 281474976710656 % 256, m / 1099511627776 % 256, m / 4294967296 % 256, m / 16777216 % 256, m / 65536 % 256, m / 256 % 256]) rfl ?c1 ⟨x6.heap.size, 0, none⟩ 1 1 [m % 256] rfl rfl (by omega) (one_new _ _ _) HL7.out ?_))
  case c1 => exact O6.out.1.alloc _
  intro u7 x7 hb7 hs7
  have O7 := Bx.mk (O6.out.app _ hb7 hs7)
  clear hb7 hs7 O6 HL7
  go_wp2_with fail
  rw [rounds_succ]
  go_wp2_with fail
  go_ret
  exact ⟨u7, rfl, by have h := O7.out; have e : m / 72057594037927936 % 256 = m / 72057594037927936 := Int.emod_eq_of_lt (by omega) (by omega); unfold be8; rw [e]; exact h⟩

theorem results_sgS {fn : Func} {p u : Tmp} (h : fn.results = #[.cell p 42, .tmp u]) (tmps : Array Value) (w : World) (B : Nat) (r s : Int) (v : Value) (hp : tmps.getD p undef = .pointer (some ⟨B, 0, none⟩)) (hu : tmps.getD u undef = v) (hb : Blk w B .i64 [r, s]) :
    (results fn tmps).run Tryz.prog w = .ok (.tuple #[.agg #[.int .i64 r, .int .i64 s], v]) w := results_sig h tmps w B r s v hp hu hb
theorem rowT_sig : RowT 42 2 := rowT_mk (by kernel_rfl) (by kernel_rfl)
set_option maxHeartbeats 8000000 in
set_option maxRecDepth 100000 in
theorem rchal_c (p r : Int) (b o cap : Nat) (msg : List Int) (w : World) (hp0 : 0 ≤ p) (hp1 : p < 9223372036854775808) (hr0 : 0 ≤ r) (hr1 : r < 9223372036854775808) (hu : U8 w b o msg) (hb : b < w.heap.size) (n0 : 0 < msg.length) (hl : msg.length ≤ 5000) :
    Calls Tryz.prog 143 #[.int .i64 p, .int .i64 r, .slice (some ⟨b, o, none⟩) msg.length cap] w fun e w' => e = .returned (.int .i64 (chal r p msg)) ∧ Below w.heap.size w w' := by
  have H1 := Bx.mk (fun w => rbyt_c r w hr0 hr1)
  have H2 := Bx.mk (fun w => rbyt_c p w hp0 hp1)
  have HU := Bx.mk hu
  have HCh := Bx.mk (show chal r p msg = scalarN tSign (be8 r ++ (be8 p ++ msg)) by unfold chal hashN; simp)
  obtain ⟨N, hN⟩ : ∃ N, N = msg.length := ⟨_, rfl⟩
  rw [← hN] at n0 hl ⊢
  obtain ⟨z, hz⟩ : ∃ z, z = chal r p msg := ⟨_, rfl⟩
  rw [← hz] at HCh ⊢
  have HN := Bx.mk hN
  clear hu hp0 hp1 hr0 hr1 hN hz
  go_enter Tryz.func143, Tryz.ntmps143
  go_wp2_with fail
  refine (H1.out _).mono ?_
  rintro e w1 ⟨u1, rfl, ho1⟩
  have O1 := Bx.mk ho1
  clear ho1 H1
  go_wp2_with fail
  refine (H2.out _).mono ?_
  rintro e w2 ⟨u2, rfl, ho2⟩
  have O2 := Bx.mk (OB.step O1.out ho2.2.1)
  obtain ⟨g2, c2, e2, _, _, hu2, hg2⟩ := slice_of_bytes ho2.1 (by rw [be8_len]; decide)
  subst e2
  have HU2 := Bx.mk (news_of_u8 hu2)
  clear ho2 hu2 hg2 H2 O1
  have hl8 : (be8 r).length + 8 ≤ 1000000 := by rw [be8_len]; decide
  go_wp2_with (at_builtin; go_must (refine wpList_app8 rfl (.tmp 8) (.tmp 10) rfl u1 (be8 r) rfl O2.out.1 ⟨g2, 0, none⟩ 8 c2 (be8 p) rfl (be8_len _) (by decide) HU2.out hl8 ?_))
  intro u3 w3 hb3 hs3
  have O3 := Bx.mk (OB.app' O2.out hb3 hs3)
  have NM := Bx.mk (news_of_u8 (HU.out.below hb O3.out.2.1))
  have hl16 : (be8 r ++ be8 p).length + N ≤ 1000000 := by rw [List.length_append, be8_len, be8_len]; omega
  clear hb3 hs3 O2 HU2 hl8
  go_wp2_with (at_builtin; go_must (refine wpList_app8 rfl (.tmp 11) (.tmp 12) rfl u3 (be8 r ++ be8 p) rfl O3.out.1 ⟨b, o, none⟩ N cap msg rfl HN.out.symm n0 NM.out hl16 ?_))
  intro u4 w4 hb4 hs4
  have O4 := Bx.mk (OB.app' O3.out hb4 hs4)
  have hlen : (be8 r ++ (be8 p ++ msg)).length = 16 + N := by rw [List.length_append, List.length_append, be8_len, be8_len, HN.out]; omega
  obtain ⟨g5, c5, e5, hc1, hc2, hu5, hg5⟩ := slice_of_bytes hb4 (by rw [hlen]; omega)
  subst e5
  have HS := Bx.mk (rScal_c tSign g5 0 c5 (be8 r ++ (be8 p ++ msg)) w4 hu5 hg5 (by rw [hlen]; omega) (by rw [hlen]; omega) (by decide) (by decide))
  rw [← HCh.out] at HS
  obtain ⟨Z, hZ⟩ : ∃ Z, Z = (be8 r ++ (be8 p ++ msg)).length := ⟨_, rfl⟩
  rw [← hZ] at HS
  (try rw [← hZ])
  clear hZ hb4 hs4 hc1 hc2 hu5 hg5 hlen hl16 O3 NM
  go_wp2_with fail
  refine HS.out.mono ?_
  rintro e w5 ⟨rfl, hb5⟩
  have B5 := Bx.mk (below_step O4.out.2.1 hb5 (Nat.le_refl _))
  clear hb5
  go_wp2_with fail
  go_ret
  exact ⟨rfl, B5.out⟩

set_option maxHeartbeats 8000000 in
set_option maxRecDepth 100000 in
theorem rsign_bad (x : Int) (v : Value) (w : World) (hx : isPriv x = false) : Calls Tryz.prog 88 #[.int .i64 x, v] w fun e w' => e = .returned (.tuple #[.agg #[.int .i64 0, .int .i64 0], .int .i64 50]) ∧ Below w.heap.size w w' := by
  have HV := Bx.mk (fun w => rpub_bad x w hx)
  have HS0 := Bx.mk (blk_new w .i64 [0, 0] 42)
  have HB0 := Bx.mk ((Below.refl w.heap.size w).alloc (Nat.le_refl _) (.cells #[.int .i64 0, .int .i64 0] 42))
  clear hx
  go_enter Tryz.func88, Tryz.ntmps88
  go_wp2_with fail
  refine (HV.out _).mono ?_
  rintro e w1 ⟨rfl, rfl⟩
  go_wp2_with (refine wpList_stB rowT_sig rfl (.tmp 4) (.tmp 22) rfl w.heap.size rfl .i64 [0, 0] rfl rfl [0, 0] HS0.out rfl ?_)
  intro w2 e1 e2
  have B2 := Bx.mk (Below.grown HB0.out e2 HB0.out.size (by intro q hq; cases hq; omega))
  have E1 := Bx.mk e1
  clear e1 e2
  go_wp2_with fail
  (try simp only [Exit.inBlock, Exit.then])
  refine bodyPost_ret (results_sgS rfl _ _ w.heap.size 0 0 (.int .i64 50) rfl rfl E1.out) rfl ?_
  exact ⟨rfl, B2.out⟩

set_option maxHeartbeats 16000000 in
set_option maxRecDepth 100000 in
theorem rsign_ok (x : Int) (b o cap : Nat) (msg : List Int) (w : World) (hx : isPriv x = true) (hu : U8 w b o msg) (hb : b < w.heap.size) (n0 : 0 < msg.length) (hl : msg.length ≤ 5000) :
    Calls Tryz.prog 88 #[.int .i64 x, .slice (some ⟨b, o, none⟩) msg.length cap] w fun e w' => e = .returned (.tuple #[.agg #[.int .i64 (sigR x msg), .int .i64 (sigS x msg)], .int .i64 0]) ∧ Below w.heap.size w w' := by
  obtain ⟨x0, x1⟩ := (isPriv_iff x).1 hx
  have HV := Bx.mk (fun w => rpub_ok x w hx)
  have HBy := Bx.mk (fun w => rbyt_c x w (by omega) (by omega))
  have hkr := hashN_range tNonce msg [x]
  have hcr := hashN_range tSign msg [sigR x msg, pwr 4 x.toNat]
  have HBa := Bx.mk (fun w => rbase_c (nonceN x msg) w (by unfold nonceN; omega) (by unfold nonceN; exact hkr.2))
  have q0 := pwr_nonneg 4 x.toNat; have q1 := pwr_lt 4 x.toNat
  have q2 := pwr_nonneg 4 (nonceN x msg).toNat; have q3 := pwr_lt 4 (nonceN x msg).toNat
  have HCh := Bx.mk (fun (W : World) (hB : Below w.heap.size w W) => rchal_c (pwr 4 x.toNat) (sigR x msg) b o cap msg W (by omega) (by omega) (by unfold sigR; omega) (by unfold sigR; omega) (hu.below hb hB) (Nat.lt_of_lt_of_le hb hB.size) n0 hl)
  have HM := Bx.mk (fun W => sfmul_c (chal (sigR x msg) (pwr 4 x.toNat) msg) x W (by unfold chal; omega) (by unfold chal; exact hcr.2) (by omega) x1)
  have m0 : 0 ≤ chal (sigR x msg) (pwr 4 x.toNat) msg * x % 2305843009213688669 := Int.emod_nonneg _ (by decide)
  have m1 : chal (sigR x msg) (pwr 4 x.toNat) msg * x % 2305843009213688669 < 2305843009213688669 := Int.emod_lt_of_pos _ (by decide)
  have HA := Bx.mk (fun W => sfadd_c (nonceN x msg) (chal (sigR x msg) (pwr 4 x.toNat) msg * x % 2305843009213688669) W (by unfold nonceN; omega) (by unfold nonceN; exact hkr.2) m0 m1)
  rw [show (nonceN x msg + chal (sigR x msg) (pwr 4 x.toNat) msg * x % 2305843009213688669) % 2305843009213688669 = sigS x msg from rfl] at HA
  rw [show pwr 4 (nonceN x msg).toNat = sigR x msg from rfl] at HBa
  have HNo := Bx.mk (show nonceN x msg = scalarN tNonce (be8 x ++ msg) by unfold nonceN hashN; simp)
  clear m0 m1 q0 q1 q2 q3 hkr hcr
  obtain ⟨mm, hmm⟩ : ∃ z, z = chal (sigR x msg) (pwr 4 x.toNat) msg * x % 2305843009213688669 := ⟨_, rfl⟩
  rw [← hmm] at HM HA
  obtain ⟨cc, hcc⟩ : ∃ z, z = chal (sigR x msg) (pwr 4 x.toNat) msg := ⟨_, rfl⟩
  rw [← hcc] at HM HCh
  obtain ⟨pp, hpp⟩ : ∃ z, z = pwr 4 x.toNat := ⟨_, rfl⟩
  rw [← hpp] at HV HCh
  obtain ⟨ss, hss⟩ : ∃ z, z = sigS x msg := ⟨_, rfl⟩
  rw [← hss] at HA ⊢
  obtain ⟨rr, hrr⟩ : ∃ z, z = sigR x msg := ⟨_, rfl⟩
  rw [← hrr] at HBa HCh ⊢
  obtain ⟨kk, hkk⟩ : ∃ z, z = nonceN x msg := ⟨_, rfl⟩
  rw [← hkk] at HBa HA HNo
  have HS0 := Bx.mk (blk_new w .i64 [0, 0] 42)
  have HB0 := Bx.mk ((Below.refl w.heap.size w).alloc (Nat.le_refl _) (.cells #[.int .i64 0, .int .i64 0] 42))
  have HU := Bx.mk hu
  obtain ⟨N, hN⟩ : ∃ N, N = msg.length := ⟨_, rfl⟩
  rw [← hN] at n0 hl HCh ⊢
  have HN := Bx.mk hN
  clear hx hu hmm hcc hpp hss hrr hkk hN
  go_enter Tryz.func88, Tryz.ntmps88
  go_wp2_with fail
  refine (HV.out _).mono ?_
  rintro e w1 ⟨rfl, rfl⟩
  go_wp2_with fail
  refine (HBy.out _).mono ?_
  rintro e w2 ⟨u1, rfl, ho1⟩
  have B2 := Bx.mk (below_step HB0.out ho1.2.1 (Nat.le_refl _))
  have S2 := Bx.mk (HS0.out.below ho1.2.1 (HS0.out.lt (by simp)))
  have O1 := Bx.mk ho1
  have NM := Bx.mk (news_of_u8 (HU.out.below hb B2.out))
  have hown : Bx (∀ k, u1.ownBlock = some k → w.heap.size + 1 ≤ k) := .mk (fun k hk => by have := ho1.2.2 k hk; rwa [World.size_alloc] at this)
  have hl8 : (be8 x).length + N ≤ 1000000 := by rw [be8_len]; omega
  clear ho1 HB0 HS0 HV HBy
  go_wp2_with (at_builtin; go_must (refine wpList_app8 rfl (.tmp 25) (.tmp 26) rfl u1 (be8 x) rfl O1.out.1 ⟨b, o, none⟩ N cap msg rfl HN.out.symm n0 NM.out hl8 ?_))
  intro u3 w3 hb3 hs3
  have B3 := Bx.mk (Below.grown B2.out hs3.grown B2.out.size (fun k hk => by have := hown.out k hk; omega))
  have S3 := Bx.mk (S2.out.grown hs3.grown (S2.out.lt (by simp)) (fun q => by have := hown.out _ q.symm; omega))
  have hlen : (be8 x ++ msg).length = 8 + N := by rw [List.length_append, be8_len, HN.out]
  obtain ⟨g5, c5, e5, hc1, hc2, hu5, hg5⟩ := slice_of_bytes hb3 (by rw [hlen]; omega)
  subst e5
  have HS := Bx.mk (rScal_c tNonce g5 0 c5 (be8 x ++ msg) w3 hu5 hg5 (by rw [hlen]; omega) (by rw [hlen]; omega) (by decide) (by decide))
  rw [← HNo.out] at HS
  obtain ⟨Z, hZ⟩ : ∃ Z, Z = (be8 x ++ msg).length := ⟨_, rfl⟩
  rw [← hZ] at HS ⊢
  clear hZ hb3 hs3 hc1 hc2 hu5 hg5 hlen hl8 B2 S2 NM O1 hown
  go_wp2_with fail
  refine HS.out.mono ?_
  rintro e w4 ⟨rfl, hb4⟩
  have B4 := Bx.mk (below_step B3.out hb4 (Nat.le_refl _))
  have S4 := Bx.mk (S3.out.below hb4 (S3.out.lt (by simp)))
  clear hb4 B3 S3 HS
  go_wp2_with fail
  refine (HBa.out _).mono ?_
  rintro e w5 ⟨rfl, rfl⟩
  go_wp2_with fail
  refine (HCh.out _ B4.out).mono ?_
  rintro e w6 ⟨rfl, hb6⟩
  have B6 := Bx.mk (below_step B4.out hb6 (Nat.le_refl _))
  have S6 := Bx.mk (S4.out.below hb6 (S4.out.lt (by simp)))
  clear hb6 B4 S4
  go_wp2_with fail
  refine (HM.out _).mono ?_
  rintro e w7 ⟨rfl, rfl⟩
  go_wp2_with fail
  refine (HA.out _).mono ?_
  rintro e w8 ⟨rfl, rfl⟩
  go_wp2_with (refine wpList_stB rowT_sig rfl (.tmp 4) (.tmp 51) rfl w.heap.size rfl .i64 [rr, ss] rfl rfl [0, 0] S6.out rfl ?_)
  intro w9 e1 e2
  have B9 := Bx.mk (Below.grown B6.out e2 B6.out.size (by intro q hq; cases hq; omega))
  have E1 := Bx.mk e1
  clear e1 e2
  go_wp2_with fail
  (try simp only [Exit.inBlock, Exit.then])
  refine bodyPost_ret (results_sgS rfl _ _ w.heap.size rr ss (.int .i64 0) rfl rfl E1.out) rfl ?_
  exact ⟨rfl, B9.out⟩
end Go.Proofs.YtjbojoeafdkkeaaGreatDoor

namespace Go.Proofs.YtjbojoeafdkkeaaGreatDoor
open Go Go.RowKit Go.Lib

theorem rdev_c (x : Int) (w : World) : Calls Tryz.prog 84 #[.int .i64 x] w fun e w' => e = .returned (.bool (isDev x)) ∧ w = w' := by
  by_cases h : 0 ≤ x
  · by_cases h2 : x < 512
    · have e : isDev x = true := by simp [isDev]; omega
      rw [e]; clear e
      go_enter Tryz.func84, Tryz.ntmps84
      go_wp2_with fail
      go_ret
      exact ⟨rfl, rfl⟩
    · have e : isDev x = false := by simp [isDev]; omega
      rw [e]; clear e
      go_enter Tryz.func84, Tryz.ntmps84
      go_wp2_with fail
      go_ret
      exact ⟨rfl, rfl⟩
  · have e : isDev x = false := by simp [isDev]; omega
    rw [e]; clear e
    go_enter Tryz.func84, Tryz.ntmps84
    go_wp2_with fail
    go_ret
    exact ⟨rfl, rfl⟩
theorem isDev_iff' (x : Int) : isDev x = true ↔ 0 ≤ x ∧ x < 512 := by simp [isDev]
theorem rowner_c (x : Int) (w : World) : Calls Tryz.prog 35 #[.int .i64 x] w fun e w' => e = .returned (ownV x) ∧ w = w' := by
  have HD := Bx.mk (fun w => rdev_c x w)
  unfold ownV
  cases hx : isDev x
  · rw [hx] at HD
    rw [if_neg (by decide)]
    clear hx
    go_enter Tryz.func35, Tryz.ntmps35
    go_wp2_with fail
    refine (HD.out _).mono ?_
    rintro e w1 ⟨rfl, rfl⟩
    go_wp2_with fail
    go_ret2
    exact ⟨rfl, rfl⟩
  · rw [hx] at HD
    rw [if_pos rfl]
    obtain ⟨h0, h1⟩ := (isDev_iff' x).1 hx
    clear hx
    go_enter Tryz.func35, Tryz.ntmps35
    go_wp2_with fail
    refine (HD.out _).mono ?_
    rintro e w1 ⟨rfl, rfl⟩
    go_wp2_with fail
    go_ret2
    exact ⟨rfl, rfl⟩
def crtL (k d v l n b r s : Int) : List Value := [.int .i64 k, .int .i64 d, .int .i64 v, .int .i64 l, .int .i64 n, .int .i64 b, .int .i64 r, .int .i64 s]
theorem crt_one (k d v l n b r s : Int) : ∀ u ∈ crtL k d v l n b r s, u.oneCell' = true := by
  intro u hu
  simp only [crtL, List.mem_cons, List.not_mem_nil, or_false] at hu
  rcases hu with rfl | rfl | rfl | rfl | rfl | rfl | rfl | rfl <;> rfl
set_option maxHeartbeats 8000000 in
set_option maxRecDepth 100000 in
theorem rform_lo (d v l n b : Int) (w : World) (hd : isDev d = true) (hv : elt v = true) (hl : elt l = true) (h : n < 1) :
    Calls Tryz.prog 87 #[certV 2 d v l n b 0 0] w fun e w' => e = .returned (.bool false) ∧ Below w.heap.size w w' := by
  unfold certV
  have q := row_new w (crtL 2 d v l n b 0 0) 44
  have c0 : (w.alloc (.cells #[.int .i64 2, .int .i64 d, .int .i64 v, .int .i64 l, .int .i64 n, .int .i64 b, .int .i64 0, .int .i64 0] 44)).cell? ⟨w.heap.size, 0, none⟩ = some (.int .i64 2) := q.get (i := 0) rfl
  have c1 : (w.alloc (.cells #[.int .i64 2, .int .i64 d, .int .i64 v, .int .i64 l, .int .i64 n, .int .i64 b, .int .i64 0, .int .i64 0] 44)).cell? ⟨w.heap.size, 1, none⟩ = some (.int .i64 d) := q.get (i := 1) rfl
  have c2 : (w.alloc (.cells #[.int .i64 2, .int .i64 d, .int .i64 v, .int .i64 l, .int .i64 n, .int .i64 b, .int .i64 0, .int .i64 0] 44)).cell? ⟨w.heap.size, 2, none⟩ = some (.int .i64 v) := q.get (i := 2) rfl
  have c3 : (w.alloc (.cells #[.int .i64 2, .int .i64 d, .int .i64 v, .int .i64 l, .int .i64 n, .int .i64 b, .int .i64 0, .int .i64 0] 44)).cell? ⟨w.heap.size, 3, none⟩ = some (.int .i64 l) := q.get (i := 3) rfl
  have c4 : (w.alloc (.cells #[.int .i64 2, .int .i64 d, .int .i64 v, .int .i64 l, .int .i64 n, .int .i64 b, .int .i64 0, .int .i64 0] 44)).cell? ⟨w.heap.size, 4, none⟩ = some (.int .i64 n) := q.get (i := 4) rfl
  have c5 : (w.alloc (.cells #[.int .i64 2, .int .i64 d, .int .i64 v, .int .i64 l, .int .i64 n, .int .i64 b, .int .i64 0, .int .i64 0] 44)).cell? ⟨w.heap.size, 5, none⟩ = some (.int .i64 b) := q.get (i := 5) rfl
  have BZ := Bx.mk ((Below.refl w.heap.size w).alloc (Nat.le_refl _) (.cells #[.int .i64 2, .int .i64 d, .int .i64 v, .int .i64 l, .int .i64 n, .int .i64 b, .int .i64 0, .int .i64 0] 44))
  have HD := Bx.mk (fun w => rdev_c d w)
  have HB := Bx.mk (fun w => rdev_c b w)
  have HV := Bx.mk (fun w => rcheck_c v w)
  have HL := Bx.mk (fun w => rcheck_c l w)
  rw [hd] at HD
  rw [gcheck_0 hv] at HV
  rw [gcheck_0 hl] at HL
  obtain ⟨d0, d1⟩ := (isDev_iff' d).1 hd
  clear hv hl q
  clear hd
  go_enter Tryz.func87, Tryz.ntmps87
  go_wp2_with fail
  refine (HD.out _).mono ?_
  rintro e w1 ⟨rfl, rfl⟩
  go_wp2_with fail
  go_ret
  exact ⟨rfl, BZ.out⟩
set_option maxHeartbeats 8000000 in
set_option maxRecDepth 100000 in
theorem rform_hi (d v l n b : Int) (w : World) (hd : isDev d = true) (hv : elt v = true) (hl : elt l = true) (h0 : 1 ≤ n) (h : 1048576 < n) :
    Calls Tryz.prog 87 #[certV 2 d v l n b 0 0] w fun e w' => e = .returned (.bool false) ∧ Below w.heap.size w w' := by
  unfold certV
  have q := row_new w (crtL 2 d v l n b 0 0) 44
  have c0 : (w.alloc (.cells #[.int .i64 2, .int .i64 d, .int .i64 v, .int .i64 l, .int .i64 n, .int .i64 b, .int .i64 0, .int .i64 0] 44)).cell? ⟨w.heap.size, 0, none⟩ = some (.int .i64 2) := q.get (i := 0) rfl
  have c1 : (w.alloc (.cells #[.int .i64 2, .int .i64 d, .int .i64 v, .int .i64 l, .int .i64 n, .int .i64 b, .int .i64 0, .int .i64 0] 44)).cell? ⟨w.heap.size, 1, none⟩ = some (.int .i64 d) := q.get (i := 1) rfl
  have c2 : (w.alloc (.cells #[.int .i64 2, .int .i64 d, .int .i64 v, .int .i64 l, .int .i64 n, .int .i64 b, .int .i64 0, .int .i64 0] 44)).cell? ⟨w.heap.size, 2, none⟩ = some (.int .i64 v) := q.get (i := 2) rfl
  have c3 : (w.alloc (.cells #[.int .i64 2, .int .i64 d, .int .i64 v, .int .i64 l, .int .i64 n, .int .i64 b, .int .i64 0, .int .i64 0] 44)).cell? ⟨w.heap.size, 3, none⟩ = some (.int .i64 l) := q.get (i := 3) rfl
  have c4 : (w.alloc (.cells #[.int .i64 2, .int .i64 d, .int .i64 v, .int .i64 l, .int .i64 n, .int .i64 b, .int .i64 0, .int .i64 0] 44)).cell? ⟨w.heap.size, 4, none⟩ = some (.int .i64 n) := q.get (i := 4) rfl
  have c5 : (w.alloc (.cells #[.int .i64 2, .int .i64 d, .int .i64 v, .int .i64 l, .int .i64 n, .int .i64 b, .int .i64 0, .int .i64 0] 44)).cell? ⟨w.heap.size, 5, none⟩ = some (.int .i64 b) := q.get (i := 5) rfl
  have BZ := Bx.mk ((Below.refl w.heap.size w).alloc (Nat.le_refl _) (.cells #[.int .i64 2, .int .i64 d, .int .i64 v, .int .i64 l, .int .i64 n, .int .i64 b, .int .i64 0, .int .i64 0] 44))
  have HD := Bx.mk (fun w => rdev_c d w)
  have HB := Bx.mk (fun w => rdev_c b w)
  have HV := Bx.mk (fun w => rcheck_c v w)
  have HL := Bx.mk (fun w => rcheck_c l w)
  rw [hd] at HD
  rw [gcheck_0 hv] at HV
  rw [gcheck_0 hl] at HL
  obtain ⟨d0, d1⟩ := (isDev_iff' d).1 hd
  clear hv hl q
  clear hd
  go_enter Tryz.func87, Tryz.ntmps87
  go_wp2_with fail
  refine (HD.out _).mono ?_
  rintro e w1 ⟨rfl, rfl⟩
  go_wp2_with fail
  go_ret
  exact ⟨rfl, BZ.out⟩
set_option maxHeartbeats 8000000 in
set_option maxRecDepth 100000 in
theorem rform_dev (d v l n b : Int) (w : World) (hd : isDev d = true) (hv : elt v = true) (hl : elt l = true) (h0 : 1 ≤ n) (h1 : n ≤ 1048576) (h : isDev b = false) :
    Calls Tryz.prog 87 #[certV 2 d v l n b 0 0] w fun e w' => e = .returned (.bool false) ∧ Below w.heap.size w w' := by
  unfold certV
  have q := row_new w (crtL 2 d v l n b 0 0) 44
  have c0 : (w.alloc (.cells #[.int .i64 2, .int .i64 d, .int .i64 v, .int .i64 l, .int .i64 n, .int .i64 b, .int .i64 0, .int .i64 0] 44)).cell? ⟨w.heap.size, 0, none⟩ = some (.int .i64 2) := q.get (i := 0) rfl
  have c1 : (w.alloc (.cells #[.int .i64 2, .int .i64 d, .int .i64 v, .int .i64 l, .int .i64 n, .int .i64 b, .int .i64 0, .int .i64 0] 44)).cell? ⟨w.heap.size, 1, none⟩ = some (.int .i64 d) := q.get (i := 1) rfl
  have c2 : (w.alloc (.cells #[.int .i64 2, .int .i64 d, .int .i64 v, .int .i64 l, .int .i64 n, .int .i64 b, .int .i64 0, .int .i64 0] 44)).cell? ⟨w.heap.size, 2, none⟩ = some (.int .i64 v) := q.get (i := 2) rfl
  have c3 : (w.alloc (.cells #[.int .i64 2, .int .i64 d, .int .i64 v, .int .i64 l, .int .i64 n, .int .i64 b, .int .i64 0, .int .i64 0] 44)).cell? ⟨w.heap.size, 3, none⟩ = some (.int .i64 l) := q.get (i := 3) rfl
  have c4 : (w.alloc (.cells #[.int .i64 2, .int .i64 d, .int .i64 v, .int .i64 l, .int .i64 n, .int .i64 b, .int .i64 0, .int .i64 0] 44)).cell? ⟨w.heap.size, 4, none⟩ = some (.int .i64 n) := q.get (i := 4) rfl
  have c5 : (w.alloc (.cells #[.int .i64 2, .int .i64 d, .int .i64 v, .int .i64 l, .int .i64 n, .int .i64 b, .int .i64 0, .int .i64 0] 44)).cell? ⟨w.heap.size, 5, none⟩ = some (.int .i64 b) := q.get (i := 5) rfl
  have BZ := Bx.mk ((Below.refl w.heap.size w).alloc (Nat.le_refl _) (.cells #[.int .i64 2, .int .i64 d, .int .i64 v, .int .i64 l, .int .i64 n, .int .i64 b, .int .i64 0, .int .i64 0] 44))
  have HD := Bx.mk (fun w => rdev_c d w)
  have HB := Bx.mk (fun w => rdev_c b w)
  have HV := Bx.mk (fun w => rcheck_c v w)
  have HL := Bx.mk (fun w => rcheck_c l w)
  rw [hd] at HD
  rw [gcheck_0 hv] at HV
  rw [gcheck_0 hl] at HL
  obtain ⟨d0, d1⟩ := (isDev_iff' d).1 hd
  clear hv hl q
  rw [h] at HB
  clear h
  clear hd
  go_enter Tryz.func87, Tryz.ntmps87
  go_wp2_with fail
  refine (HD.out _).mono ?_
  rintro e w1 ⟨rfl, rfl⟩
  go_wp2_with fail
  refine (HV.out _).mono ?_
  rintro e w1 ⟨rfl, rfl⟩
  go_wp2_with fail
  refine (HL.out _).mono ?_
  rintro e w1 ⟨rfl, rfl⟩
  go_wp2_with fail
  refine (HB.out _).mono ?_
  rintro e w1 ⟨rfl, rfl⟩
  go_wp2_with fail
  go_ret
  exact ⟨rfl, BZ.out⟩
set_option maxHeartbeats 8000000 in
set_option maxRecDepth 100000 in
theorem rform_same (d v l n b : Int) (w : World) (hd : isDev d = true) (hv : elt v = true) (hl : elt l = true) (h0 : 1 ≤ n) (h1 : n ≤ 1048576) (h : isDev b = true) (e : b = d) :
    Calls Tryz.prog 87 #[certV 2 d v l n b 0 0] w fun e w' => e = .returned (.bool false) ∧ Below w.heap.size w w' := by
  unfold certV
  have q := row_new w (crtL 2 d v l n b 0 0) 44
  have c0 : (w.alloc (.cells #[.int .i64 2, .int .i64 d, .int .i64 v, .int .i64 l, .int .i64 n, .int .i64 b, .int .i64 0, .int .i64 0] 44)).cell? ⟨w.heap.size, 0, none⟩ = some (.int .i64 2) := q.get (i := 0) rfl
  have c1 : (w.alloc (.cells #[.int .i64 2, .int .i64 d, .int .i64 v, .int .i64 l, .int .i64 n, .int .i64 b, .int .i64 0, .int .i64 0] 44)).cell? ⟨w.heap.size, 1, none⟩ = some (.int .i64 d) := q.get (i := 1) rfl
  have c2 : (w.alloc (.cells #[.int .i64 2, .int .i64 d, .int .i64 v, .int .i64 l, .int .i64 n, .int .i64 b, .int .i64 0, .int .i64 0] 44)).cell? ⟨w.heap.size, 2, none⟩ = some (.int .i64 v) := q.get (i := 2) rfl
  have c3 : (w.alloc (.cells #[.int .i64 2, .int .i64 d, .int .i64 v, .int .i64 l, .int .i64 n, .int .i64 b, .int .i64 0, .int .i64 0] 44)).cell? ⟨w.heap.size, 3, none⟩ = some (.int .i64 l) := q.get (i := 3) rfl
  have c4 : (w.alloc (.cells #[.int .i64 2, .int .i64 d, .int .i64 v, .int .i64 l, .int .i64 n, .int .i64 b, .int .i64 0, .int .i64 0] 44)).cell? ⟨w.heap.size, 4, none⟩ = some (.int .i64 n) := q.get (i := 4) rfl
  have c5 : (w.alloc (.cells #[.int .i64 2, .int .i64 d, .int .i64 v, .int .i64 l, .int .i64 n, .int .i64 b, .int .i64 0, .int .i64 0] 44)).cell? ⟨w.heap.size, 5, none⟩ = some (.int .i64 b) := q.get (i := 5) rfl
  have BZ := Bx.mk ((Below.refl w.heap.size w).alloc (Nat.le_refl _) (.cells #[.int .i64 2, .int .i64 d, .int .i64 v, .int .i64 l, .int .i64 n, .int .i64 b, .int .i64 0, .int .i64 0] 44))
  have HD := Bx.mk (fun w => rdev_c d w)
  have HB := Bx.mk (fun w => rdev_c b w)
  have HV := Bx.mk (fun w => rcheck_c v w)
  have HL := Bx.mk (fun w => rcheck_c l w)
  rw [hd] at HD
  rw [gcheck_0 hv] at HV
  rw [gcheck_0 hl] at HL
  obtain ⟨d0, d1⟩ := (isDev_iff' d).1 hd
  clear hv hl q
  rw [h] at HB
  obtain ⟨b0, b1⟩ := (isDev_iff' b).1 h
  subst e
  clear h
  clear hd
  go_enter Tryz.func87, Tryz.ntmps87
  go_wp2_with fail
  refine (HD.out _).mono ?_
  rintro e w1 ⟨rfl, rfl⟩
  go_wp2_with fail
  refine (HV.out _).mono ?_
  rintro e w1 ⟨rfl, rfl⟩
  go_wp2_with fail
  refine (HL.out _).mono ?_
  rintro e w1 ⟨rfl, rfl⟩
  go_wp2_with fail
  refine (HB.out _).mono ?_
  rintro e w1 ⟨rfl, rfl⟩
  go_wp2_with fail
  go_ret
  exact ⟨rfl, BZ.out⟩
set_option maxHeartbeats 8000000 in
set_option maxRecDepth 100000 in
theorem rform_own (d v l n b : Int) (w : World) (hd : isDev d = true) (hv : elt v = true) (hl : elt l = true) (h0 : 1 ≤ n) (h1 : n ≤ 1048576) (h : isDev b = true) (e : ¬ b = d) (g : ¬ b / 8 = d / 8) :
    Calls Tryz.prog 87 #[certV 2 d v l n b 0 0] w fun e w' => e = .returned (.bool false) ∧ Below w.heap.size w w' := by
  unfold certV
  have q := row_new w (crtL 2 d v l n b 0 0) 44
  have c0 : (w.alloc (.cells #[.int .i64 2, .int .i64 d, .int .i64 v, .int .i64 l, .int .i64 n, .int .i64 b, .int .i64 0, .int .i64 0] 44)).cell? ⟨w.heap.size, 0, none⟩ = some (.int .i64 2) := q.get (i := 0) rfl
  have c1 : (w.alloc (.cells #[.int .i64 2, .int .i64 d, .int .i64 v, .int .i64 l, .int .i64 n, .int .i64 b, .int .i64 0, .int .i64 0] 44)).cell? ⟨w.heap.size, 1, none⟩ = some (.int .i64 d) := q.get (i := 1) rfl
  have c2 : (w.alloc (.cells #[.int .i64 2, .int .i64 d, .int .i64 v, .int .i64 l, .int .i64 n, .int .i64 b, .int .i64 0, .int .i64 0] 44)).cell? ⟨w.heap.size, 2, none⟩ = some (.int .i64 v) := q.get (i := 2) rfl
  have c3 : (w.alloc (.cells #[.int .i64 2, .int .i64 d, .int .i64 v, .int .i64 l, .int .i64 n, .int .i64 b, .int .i64 0, .int .i64 0] 44)).cell? ⟨w.heap.size, 3, none⟩ = some (.int .i64 l) := q.get (i := 3) rfl
  have c4 : (w.alloc (.cells #[.int .i64 2, .int .i64 d, .int .i64 v, .int .i64 l, .int .i64 n, .int .i64 b, .int .i64 0, .int .i64 0] 44)).cell? ⟨w.heap.size, 4, none⟩ = some (.int .i64 n) := q.get (i := 4) rfl
  have c5 : (w.alloc (.cells #[.int .i64 2, .int .i64 d, .int .i64 v, .int .i64 l, .int .i64 n, .int .i64 b, .int .i64 0, .int .i64 0] 44)).cell? ⟨w.heap.size, 5, none⟩ = some (.int .i64 b) := q.get (i := 5) rfl
  have BZ := Bx.mk ((Below.refl w.heap.size w).alloc (Nat.le_refl _) (.cells #[.int .i64 2, .int .i64 d, .int .i64 v, .int .i64 l, .int .i64 n, .int .i64 b, .int .i64 0, .int .i64 0] 44))
  have HD := Bx.mk (fun w => rdev_c d w)
  have HB := Bx.mk (fun w => rdev_c b w)
  have HV := Bx.mk (fun w => rcheck_c v w)
  have HL := Bx.mk (fun w => rcheck_c l w)
  rw [hd] at HD
  rw [gcheck_0 hv] at HV
  rw [gcheck_0 hl] at HL
  obtain ⟨d0, d1⟩ := (isDev_iff' d).1 hd
  clear hv hl q
  rw [h] at HB
  obtain ⟨b0, b1⟩ := (isDev_iff' b).1 h
  clear h
  clear hd
  go_enter Tryz.func87, Tryz.ntmps87
  go_wp2_with fail
  refine (HD.out _).mono ?_
  rintro e w1 ⟨rfl, rfl⟩
  go_wp2_with fail
  refine (HV.out _).mono ?_
  rintro e w1 ⟨rfl, rfl⟩
  go_wp2_with fail
  refine (HL.out _).mono ?_
  rintro e w1 ⟨rfl, rfl⟩
  go_wp2_with fail
  refine (HB.out _).mono ?_
  rintro e w1 ⟨rfl, rfl⟩
  go_wp2_with fail
  go_ret
  exact ⟨congrArg Ending.returned (congrArg Value.bool (show (b != d && b / 8 == d / 8) = false by simp [g])), BZ.out⟩
set_option maxHeartbeats 8000000 in
set_option maxRecDepth 100000 in
theorem rform_yes (d v l n b : Int) (w : World) (hd : isDev d = true) (hv : elt v = true) (hl : elt l = true) (h0 : 1 ≤ n) (h1 : n ≤ 1048576) (h : isDev b = true) (e : ¬ b = d) (g : b / 8 = d / 8) :
    Calls Tryz.prog 87 #[certV 2 d v l n b 0 0] w fun e w' => e = .returned (.bool true) ∧ Below w.heap.size w w' := by
  unfold certV
  have q := row_new w (crtL 2 d v l n b 0 0) 44
  have c0 : (w.alloc (.cells #[.int .i64 2, .int .i64 d, .int .i64 v, .int .i64 l, .int .i64 n, .int .i64 b, .int .i64 0, .int .i64 0] 44)).cell? ⟨w.heap.size, 0, none⟩ = some (.int .i64 2) := q.get (i := 0) rfl
  have c1 : (w.alloc (.cells #[.int .i64 2, .int .i64 d, .int .i64 v, .int .i64 l, .int .i64 n, .int .i64 b, .int .i64 0, .int .i64 0] 44)).cell? ⟨w.heap.size, 1, none⟩ = some (.int .i64 d) := q.get (i := 1) rfl
  have c2 : (w.alloc (.cells #[.int .i64 2, .int .i64 d, .int .i64 v, .int .i64 l, .int .i64 n, .int .i64 b, .int .i64 0, .int .i64 0] 44)).cell? ⟨w.heap.size, 2, none⟩ = some (.int .i64 v) := q.get (i := 2) rfl
  have c3 : (w.alloc (.cells #[.int .i64 2, .int .i64 d, .int .i64 v, .int .i64 l, .int .i64 n, .int .i64 b, .int .i64 0, .int .i64 0] 44)).cell? ⟨w.heap.size, 3, none⟩ = some (.int .i64 l) := q.get (i := 3) rfl
  have c4 : (w.alloc (.cells #[.int .i64 2, .int .i64 d, .int .i64 v, .int .i64 l, .int .i64 n, .int .i64 b, .int .i64 0, .int .i64 0] 44)).cell? ⟨w.heap.size, 4, none⟩ = some (.int .i64 n) := q.get (i := 4) rfl
  have c5 : (w.alloc (.cells #[.int .i64 2, .int .i64 d, .int .i64 v, .int .i64 l, .int .i64 n, .int .i64 b, .int .i64 0, .int .i64 0] 44)).cell? ⟨w.heap.size, 5, none⟩ = some (.int .i64 b) := q.get (i := 5) rfl
  have BZ := Bx.mk ((Below.refl w.heap.size w).alloc (Nat.le_refl _) (.cells #[.int .i64 2, .int .i64 d, .int .i64 v, .int .i64 l, .int .i64 n, .int .i64 b, .int .i64 0, .int .i64 0] 44))
  have HD := Bx.mk (fun w => rdev_c d w)
  have HB := Bx.mk (fun w => rdev_c b w)
  have HV := Bx.mk (fun w => rcheck_c v w)
  have HL := Bx.mk (fun w => rcheck_c l w)
  rw [hd] at HD
  rw [gcheck_0 hv] at HV
  rw [gcheck_0 hl] at HL
  obtain ⟨d0, d1⟩ := (isDev_iff' d).1 hd
  clear hv hl q
  rw [h] at HB
  obtain ⟨b0, b1⟩ := (isDev_iff' b).1 h
  clear h
  clear hd
  go_enter Tryz.func87, Tryz.ntmps87
  go_wp2_with fail
  refine (HD.out _).mono ?_
  rintro e w1 ⟨rfl, rfl⟩
  go_wp2_with fail
  refine (HV.out _).mono ?_
  rintro e w1 ⟨rfl, rfl⟩
  go_wp2_with fail
  refine (HL.out _).mono ?_
  rintro e w1 ⟨rfl, rfl⟩
  go_wp2_with fail
  refine (HB.out _).mono ?_
  rintro e w1 ⟨rfl, rfl⟩
  go_wp2_with fail
  go_ret
  exact ⟨congrArg Ending.returned (congrArg Value.bool (show (b != d) = true by simp [e])), BZ.out⟩
theorem rform_c (d v l n b : Int) (w : World) (hd : isDev d = true) (hv : elt v = true) (hl : elt l = true) :
    Calls Tryz.prog 87 #[certV 2 d v l n b 0 0] w fun e w' => e = .returned (.bool (formedV 2 d v l n b)) ∧ Below w.heap.size w w' := by
  have key : formedV 2 d v l n b = ((decide (1 ≤ n) && decide (n ≤ 1048576)) && (isDev b && (decide (b ≠ d) && decide (b / 8 = d / 8)))) := by
    unfold formedV headV kindV keysV otherV
    rw [hd, hv, hl]
    simp
  rw [key]
  by_cases h0 : 1 ≤ n
  · by_cases h1 : n ≤ 1048576
    · cases h : isDev b
      · simp only [Bool.false_and, Bool.and_false]; exact rform_dev d v l n b w hd hv hl h0 h1 h
      · by_cases e : b = d
        · rw [show (decide (b ≠ d)) = false from decide_eq_false (fun q => q e)]
          simp only [Bool.false_and, Bool.and_false]; exact rform_same d v l n b w hd hv hl h0 h1 h e
        · by_cases g : b / 8 = d / 8
          · rw [decide_eq_true h0, decide_eq_true h1, decide_eq_true e, decide_eq_true g]
            exact rform_yes d v l n b w hd hv hl h0 h1 h e g
          · rw [decide_eq_false g]
            simp only [Bool.and_false]; exact rform_own d v l n b w hd hv hl h0 h1 h e g
    · rw [decide_eq_false h1]
      simp only [Bool.false_and, Bool.and_false]; exact rform_hi d v l n b w hd hv hl h0 (by omega)
  · rw [decide_eq_false h0]
    simp only [Bool.false_and]; exact rform_lo d v l n b w hd hv hl (by omega)
theorem i64_six (W : World) (a b c d e f : Int) : I64 (W.alloc (.cells #[.int .i64 a, .int .i64 b, .int .i64 c, .int .i64 d, .int .i64 e, .int .i64 f] 3)) W.heap.size [a, b, c, d, e, f] := by
  intro i hi
  have hc := fun k => cells_new W #[.int .i64 a, .int .i64 b, .int .i64 c, .int .i64 d, .int .i64 e, .int .i64 f] 3 k
  have : i = 0 ∨ i = 1 ∨ i = 2 ∨ i = 3 ∨ i = 4 ∨ i = 5 := by simp at hi; omega
  rcases this with rfl | rfl | rfl | rfl | rfl | rfl
  · exact hc 0
  · exact hc 1
  · exact hc 2
  · exact hc 3
  · exact hc 4
  · exact hc 5
set_option maxHeartbeats 8000000 in
set_option maxRecDepth 100000 in
theorem rmsg_c (d v l n b : Int) (w : World) (hr : ∀ x ∈ [2, d, v, l, n, b], -9223372036854775808 ≤ x ∧ x ≤ 9223372036854775807) :
    Calls Tryz.prog 89 #[certV 2 d v l n b 0 0] w fun e w' => ∃ u, e = .returned u ∧ OB w u (msgN 2 d v l n b) w' := by
  unfold certV
  have q := row_new w (crtL 2 d v l n b 0 0) 44
  have c0 : (w.alloc (.cells #[.int .i64 2, .int .i64 d, .int .i64 v, .int .i64 l, .int .i64 n, .int .i64 b, .int .i64 0, .int .i64 0] 44)).cell? ⟨w.heap.size, 0, none⟩ = some (.int .i64 2) := q.get (i := 0) rfl
  have c1 : (w.alloc (.cells #[.int .i64 2, .int .i64 d, .int .i64 v, .int .i64 l, .int .i64 n, .int .i64 b, .int .i64 0, .int .i64 0] 44)).cell? ⟨w.heap.size, 1, none⟩ = some (.int .i64 d) := q.get (i := 1) rfl
  have c2 : (w.alloc (.cells #[.int .i64 2, .int .i64 d, .int .i64 v, .int .i64 l, .int .i64 n, .int .i64 b, .int .i64 0, .int .i64 0] 44)).cell? ⟨w.heap.size, 2, none⟩ = some (.int .i64 v) := q.get (i := 2) rfl
  have c3 : (w.alloc (.cells #[.int .i64 2, .int .i64 d, .int .i64 v, .int .i64 l, .int .i64 n, .int .i64 b, .int .i64 0, .int .i64 0] 44)).cell? ⟨w.heap.size, 3, none⟩ = some (.int .i64 l) := q.get (i := 3) rfl
  have c4 : (w.alloc (.cells #[.int .i64 2, .int .i64 d, .int .i64 v, .int .i64 l, .int .i64 n, .int .i64 b, .int .i64 0, .int .i64 0] 44)).cell? ⟨w.heap.size, 4, none⟩ = some (.int .i64 n) := q.get (i := 4) rfl
  have c5 : (w.alloc (.cells #[.int .i64 2, .int .i64 d, .int .i64 v, .int .i64 l, .int .i64 n, .int .i64 b, .int .i64 0, .int .i64 0] 44)).cell? ⟨w.heap.size, 5, none⟩ = some (.int .i64 b) := q.get (i := 5) rfl
  have B0 := Bx.mk ((Below.refl w.heap.size w).alloc (Nat.le_refl _) (.cells #[.int .i64 2, .int .i64 d, .int .i64 v, .int .i64 l, .int .i64 n, .int .i64 b, .int .i64 0, .int .i64 0] 44))
  have HR := Bx.mk hr
  clear hr q
  go_enter Tryz.func89, Tryz.ntmps89
  go_wp2_with (refine wpList_pause 19 rfl ?_)
  intro W0 hW0
  have B1 : Bx (Below w.heap.size w W0) := .mk (by rw [hW0]; exact B0.out)
  clear hW0 B0 c0 c1 c2 c3 c4 c5
  have HI6 := Bx.mk (i64_six W0 2 d v l n b)
  have B2 := Bx.mk (B1.out.alloc B1.out.size (.cells #[.int .i64 2, .int .i64 d, .int .i64 v, .int .i64 l, .int .i64 n, .int .i64 b] 3))
  clear B1
  go_wp2_with fail
  refine (rints_c W0.heap.size 6 6 [2, d, v, l, n, b] _ rfl (by decide) (by decide) (by rw [World.size_alloc]; omega) HI6.out).mono ?_
  rintro e w1 ⟨u, rfl, hv1, hb1⟩
  have B3 := Bx.mk (below_step B2.out hb1 (Nat.le_refl _))
  obtain ⟨g1, k1, e1, hi1, hg1⟩ := slice_of_vals hv1 (by simp)
  subst e1
  clear hv1 hb1 B2 HI6
  go_wp2_with fail
  refine (rencode_c g1 0 k1 [2, d, v, l, n, b] (by simp) _ HR.out hg1 hi1).mono ?_
  rintro e w2 ⟨u, rfl, ho⟩
  have B4 := Bx.mk (below_step B3.out ho.2.1 (Nat.le_refl _))
  have hl2 := encL_len [2, d, v, l, n, b]
  obtain ⟨g3, k3, e3, ht⟩ := rtagged_own tCert ho.1 (encL_pos _) (by simp at hl2; omega) (by decide) (by decide)
  subst e3
  rw [show tagged tCert (encL [2, d, v, l, n, b]) = msgN 2 d v l n b from rfl] at ht
  have HT := Bx.mk ht
  have HML := Bx.mk (show (msgN 2 d v l n b).length = 32 from tagged_len _ _)
  obtain ⟨mm, hmm⟩ : ∃ m, m = msgN 2 d v l n b := ⟨_, rfl⟩
  rw [← hmm] at HT HML
  have HE := Bx.mk hmm
  obtain ⟨Z, hZ⟩ : ∃ Z, Z = (encL [2, d, v, l, n, b]).length := ⟨_, rfl⟩
  rw [← hZ] at HT
  (try rw [← hZ])
  clear hZ ht ho hl2 B3 hi1 hg1 HR hmm
  go_wp2_with fail
  refine HT.out.mono ?_
  rintro e w3 ⟨rfl, hb3⟩
  have B5 := Bx.mk (below_step B4.out hb3 (Nat.le_refl _))
  have zr := Bx.mk (blk_new w3 .u8 z32 35)
  have B6 := Bx.mk (B5.out.alloc B5.out.size (.cells (z32.map (.int .u8)).toArray 35))
  have hsz3 := B5.out.size
  clear hb3 B4 HT
  go_wp2_with (refine wpList_stB rowT_dig rfl (.tmp 5) (.tmp 25) rfl w3.heap.size rfl .u8 mm rfl HML.out z32 zr.out rfl ?_)
  intro w4 e4 g4
  obtain ⟨D, hD⟩ : ∃ D, D = w3.heap.size := ⟨_, rfl⟩
  rw [← hD] at e4 g4 hsz3 ⊢
  have B7 := Bx.mk (Below.grown B6.out g4 B6.out.size (by intro q hq; cases hq; omega))
  have hD4 : D < w4.heap.size := e4.lt (by rw [HML.out]; decide)
  have E4 := Bx.mk e4
  clear e4 g4 hD B6 B5 zr
  have hsd := slice_digS D
  have HKC := Bx.mk (news_of_u8 (show U8 (w4.alloc (.cells #[] 5)) D 0 mm from fun i hi => by rw [Nat.zero_add]; exact ((E4.out.alloc hD4 (.cells #[] 5)) i hi).1))
  go_wp2_with (at_builtin; go_must (refine wpList_appFull8 rfl (.tmp 26) (.tmp 27) rfl ⟨w4.heap.size, 0, none⟩ 0 [] rfl rfl (fun j hj => absurd hj (Nat.not_lt_zero j)) ⟨D, 0, none⟩ 32 32 mm rfl HML.out (by omega) HKC.out (by simp) ?_))
  intro u1 x1 hb1 hg1 ho1
  have hb1 : Bytes x1 u1 mm := by simpa using hb1
  have hO : u1.ownBlock = some (w4.heap.size + 1) := by simpa using ho1
  have hbl : Below (w4.alloc (.cells #[] 5)).heap.size (w4.alloc (.cells #[] 5)) x1 := ⟨hg1.os, hg1.tape, hg1.output, hg1.size, fun q hq => hg1.block q hq (by simp)⟩
  have hsz4 := B7.out.size
  have O8 : Bx (OB w u1 mm x1) := .mk ⟨hb1, below_step (B7.out.alloc B7.out.size (.cells #[] 5)) hbl (Nat.le_refl _), fun k hk => by rw [hO] at hk; cases hk; omega⟩
  clear hb1 hg1 ho1 hO hbl B7 E4 HKC
  go_wp2_with fail
  go_ret
  exact ⟨u1, rfl, by rw [← HE.out]; exact O8.out⟩
end Go.Proofs.YtjbojoeafdkkeaaGreatDoor

namespace Go.Proofs.YtjbojoeafdkkeaaGreatDoor
open Go Go.RowKit Go.Lib

set_option maxHeartbeats 8000000 in
set_option maxRecDepth 100000 in
theorem rcert_bad (d v l n b x : Int) (w : World) (hd : isDev d = true) (hv : elt v = true) (hl : elt l = true) (hf : formedV 2 d v l n b = false) :
    Calls Tryz.prog 39 #[.int .i64 2, .int .i64 d, .int .i64 v, .int .i64 l, .int .i64 n, .int .i64 b, .int .i64 x] w fun e w' => e = .returned (.tuple #[zeroC, .int .i64 370]) ∧ Below w.heap.size w w' := by
  have HF := Bx.mk (fun w => rform_c d v l n b w hd hv hl)
  rw [hf] at HF
  obtain ⟨c1, c2, c3⟩ := two_certs 2 d v l n b w
  have C1 := Bx.mk c1; have C2 := Bx.mk c2; have C3 := Bx.mk c3
  clear hd hv hl hf c1 c2 c3
  unfold certV at HF
  go_enter Tryz.func39, Tryz.ntmps39
  go_wp2_with fail
  refine (HF.out _).mono ?_
  rintro e w1 ⟨rfl, hb1⟩
  have D1 := Bx.mk (C1.out.below hb1 (C1.out.lt (by simp)))
  have X1 := Bx.mk (C2.out.below hb1 (C2.out.lt (by simp)))
  have B1 := Bx.mk (below_step C3.out hb1 (Nat.le_refl _))
  clear C1 C2 C3 hb1
  go_wp2_with (refine wpList_stC rfl (.tmp 14) (.tmp 29) rfl w.heap.size rfl 0 0 0 0 0 0 0 0 rfl _ D1.out rfl ?_)
  intro wz EZ hgz
  have BZ := Bx.mk (Below.grown B1.out hgz B1.out.size (by intro q hq; cases hq; omega))
  have EZ := Bx.mk EZ
  clear hgz
  go_wp2_with fail
  (try simp only [Exit.inBlock, Exit.then])
  refine bodyPost_ret (results_cert rfl _ _ w.heap.size [0, 0, 0, 0, 0, 0, 0, 0] (.int .i64 370) rfl rfl EZ.out rfl) rfl ?_
  exact ⟨rfl, BZ.out⟩
set_option maxHeartbeats 8000000 in
set_option maxRecDepth 100000 in
theorem rcert_priv (d v l n b x : Int) (w : World) (hd : isDev d = true) (hv : elt v = true) (hl : elt l = true) (hr : ∀ x ∈ [2, d, v, l, n, b], -9223372036854775808 ≤ x ∧ x ≤ 9223372036854775807) (hf : formedV 2 d v l n b = true) (hx : isPriv x = false) :
    Calls Tryz.prog 39 #[.int .i64 2, .int .i64 d, .int .i64 v, .int .i64 l, .int .i64 n, .int .i64 b, .int .i64 x] w fun e w' => e = .returned (.tuple #[zeroC, .int .i64 50]) ∧ Below w.heap.size w w' := by
  have HF := Bx.mk (fun w => rform_c d v l n b w hd hv hl)
  rw [hf] at HF
  obtain ⟨c1, c2, c3⟩ := two_certs 2 d v l n b w
  have C1 := Bx.mk c1; have C2 := Bx.mk c2; have C3 := Bx.mk c3
  have HM := Bx.mk (fun w => rmsg_c d v l n b w hr)
  have hml : (msgN 2 d v l n b).length = 32 := tagged_len _ _
  have HS := Bx.mk (fun v w => rsign_bad x v w hx)
  obtain ⟨mm, hmm⟩ : ∃ m, m = msgN 2 d v l n b := ⟨_, rfl⟩
  rw [← hmm] at HM hml
  have HML := Bx.mk hml
  clear hd hv hl hf hr hx c1 c2 c3 hml hmm
  unfold certV at HF HM
  go_enter Tryz.func39, Tryz.ntmps39
  go_wp2_with fail
  refine (HF.out _).mono ?_
  rintro e w1 ⟨rfl, hb1⟩
  have D1 := Bx.mk (C1.out.below hb1 (C1.out.lt (by simp)))
  have X1 := Bx.mk (C2.out.below hb1 (C2.out.lt (by simp)))
  have B1 := Bx.mk (below_step C3.out hb1 (Nat.le_refl _))
  clear C1 C2 C3 hb1
  go_wp2_with (refine wpList_ldC rfl (.tmp 16) rfl (w.heap.size + 1) rfl _ _ _ _ _ _ _ _ X1.out ?_)
  refine (HM.out _).mono ?_
  rintro e w2 ⟨u, rfl, ho⟩
  have D2 := Bx.mk (D1.out.below ho.2.1 (D1.out.lt (by simp)))
  have X2 := Bx.mk (X1.out.below ho.2.1 (X1.out.lt (by simp)))
  have B2 := Bx.mk (below_step B1.out ho.2.1 (Nat.le_refl _))
  obtain ⟨g, c, e1, hc1, hc2, hu, hg⟩ := slice_of_bytes ho.1 (by rw [HML.out]; decide)
  subst e1
  rw [HML.out] at hc1 ⊢
  have HU := Bx.mk hu
  clear D1 X1 B1 ho hc1 hc2 hu
  go_wp2_with fail
  refine (HS.out _ _).mono ?_
  rintro e w3 ⟨rfl, hb3⟩
  have D3 := Bx.mk (D2.out.below hb3 (D2.out.lt (by simp)))
  have X3 := Bx.mk (X2.out.below hb3 (X2.out.lt (by simp)))
  have B3 := Bx.mk (below_step B2.out hb3 (Nat.le_refl _))
  have s0 := cells_new w3 #[.int .i64 0, .int .i64 0] 42 0
  have s1 := cells_new w3 #[.int .i64 0, .int .i64 0] 42 1
  have s0 : (w3.alloc (.cells #[.int .i64 0, .int .i64 0] 42)).cell? ⟨w3.heap.size, 0, none⟩ = some (.int .i64 0) := s0
  have s1 : (w3.alloc (.cells #[.int .i64 0, .int .i64 0] 42)).cell? ⟨w3.heap.size, 1, none⟩ = some (.int .i64 0) := s1
  have D4 := Bx.mk (D3.out.alloc (D3.out.lt (by simp)) (.cells #[.int .i64 0, .int .i64 0] 42))
  have X4 := Bx.mk (X3.out.alloc (X3.out.lt (by simp)) (.cells #[.int .i64 0, .int .i64 0] 42))
  have B4 := Bx.mk (B3.out.alloc B3.out.size (.cells #[.int .i64 0, .int .i64 0] 42))
  clear D2 X2 B2 hb3 D3 X3 B3
  go_wp2_with (refine wpList_stC rfl (.tmp 14) (.tmp 39) rfl w.heap.size rfl 0 0 0 0 0 0 0 0 rfl _ D4.out rfl ?_)
  intro wz EZ hgz
  have BZ := Bx.mk (Below.grown B4.out hgz B4.out.size (by intro q hq; cases hq; omega))
  have EZ := Bx.mk EZ
  clear hgz
  go_wp2_with fail
  (try simp only [Exit.inBlock, Exit.then])
  refine bodyPost_ret (results_cert rfl _ _ w.heap.size [0, 0, 0, 0, 0, 0, 0, 0] (.int .i64 50) rfl rfl EZ.out rfl) rfl ?_
  exact ⟨rfl, BZ.out⟩
set_option maxHeartbeats 8000000 in
set_option maxRecDepth 100000 in
theorem rcert_ok (d v l n b x : Int) (w : World) (hd : isDev d = true) (hv : elt v = true) (hl : elt l = true) (hr : ∀ x ∈ [2, d, v, l, n, b], -9223372036854775808 ≤ x ∧ x ≤ 9223372036854775807) (hf : formedV 2 d v l n b = true) (hx : isPriv x = true) :
    Calls Tryz.prog 39 #[.int .i64 2, .int .i64 d, .int .i64 v, .int .i64 l, .int .i64 n, .int .i64 b, .int .i64 x] w fun e w' => e = .returned (.tuple #[certV 2 d v l n b (sigR x (msgN 2 d v l n b)) (sigS x (msgN 2 d v l n b)), .int .i64 0]) ∧ Below w.heap.size w w' := by
  have HF := Bx.mk (fun w => rform_c d v l n b w hd hv hl)
  rw [hf] at HF
  obtain ⟨c1, c2, c3⟩ := two_certs 2 d v l n b w
  have C1 := Bx.mk c1; have C2 := Bx.mk c2; have C3 := Bx.mk c3
  have HM := Bx.mk (fun w => rmsg_c d v l n b w hr)
  have hml : (msgN 2 d v l n b).length = 32 := tagged_len _ _
  have HS := Bx.mk (fun D c w hu hb => rsign_ok x D 0 c (msgN 2 d v l n b) w hx hu hb (by rw [hml]; decide) (by rw [hml]; decide))
  rw [hml] at HS
  obtain ⟨r, hr2⟩ : ∃ r, r = sigR x (msgN 2 d v l n b) := ⟨_, rfl⟩
  obtain ⟨s, hs2⟩ : ∃ s, s = sigS x (msgN 2 d v l n b) := ⟨_, rfl⟩
  rw [← hr2, ← hs2] at HS ⊢
  obtain ⟨mm, hmm⟩ : ∃ m, m = msgN 2 d v l n b := ⟨_, rfl⟩
  rw [← hmm] at HM hml HS
  have HML := Bx.mk hml
  clear hd hv hl hf hr hx c1 c2 c3 hml hmm hr2 hs2
  unfold certV at HF HM
  go_enter Tryz.func39, Tryz.ntmps39
  go_wp2_with fail
  refine (HF.out _).mono ?_
  rintro e w1 ⟨rfl, hb1⟩
  have D1 := Bx.mk (C1.out.below hb1 (C1.out.lt (by simp)))
  have X1 := Bx.mk (C2.out.below hb1 (C2.out.lt (by simp)))
  have B1 := Bx.mk (below_step C3.out hb1 (Nat.le_refl _))
  clear C1 C2 C3 hb1
  go_wp2_with (refine wpList_ldC rfl (.tmp 16) rfl (w.heap.size + 1) rfl _ _ _ _ _ _ _ _ X1.out ?_)
  refine (HM.out _).mono ?_
  rintro e w2 ⟨u, rfl, ho⟩
  have D2 := Bx.mk (D1.out.below ho.2.1 (D1.out.lt (by simp)))
  have X2 := Bx.mk (X1.out.below ho.2.1 (X1.out.lt (by simp)))
  have B2 := Bx.mk (below_step B1.out ho.2.1 (Nat.le_refl _))
  obtain ⟨g, c, e1, hc1, hc2, hu, hg⟩ := slice_of_bytes ho.1 (by rw [HML.out]; decide)
  subst e1
  rw [HML.out] at hc1 ⊢
  have HU := Bx.mk hu
  clear D1 X1 B1 ho hc1 hc2 hu
  go_wp2_with fail
  refine (HS.out _ _ _ HU.out hg).mono ?_
  rintro e w3 ⟨rfl, hb3⟩
  have D3 := Bx.mk (D2.out.below hb3 (D2.out.lt (by simp)))
  have X3 := Bx.mk (X2.out.below hb3 (X2.out.lt (by simp)))
  have B3 := Bx.mk (below_step B2.out hb3 (Nat.le_refl _))
  have s0 := cells_new w3 #[.int .i64 r, .int .i64 s] 42 0
  have s1 := cells_new w3 #[.int .i64 r, .int .i64 s] 42 1
  have s0 : (w3.alloc (.cells #[.int .i64 r, .int .i64 s] 42)).cell? ⟨w3.heap.size, 0, none⟩ = some (.int .i64 r) := s0
  have s1 : (w3.alloc (.cells #[.int .i64 r, .int .i64 s] 42)).cell? ⟨w3.heap.size, 1, none⟩ = some (.int .i64 s) := s1
  have D4 := Bx.mk (D3.out.alloc (D3.out.lt (by simp)) (.cells #[.int .i64 r, .int .i64 s] 42))
  have X4 := Bx.mk (X3.out.alloc (X3.out.lt (by simp)) (.cells #[.int .i64 r, .int .i64 s] 42))
  have B4 := Bx.mk (B3.out.alloc B3.out.size (.cells #[.int .i64 r, .int .i64 s] 42))
  clear D2 X2 B2 hb3 D3 X3 B3
  have x6 := (X4.out 6 (by simp)).1; have x7 := (X4.out 7 (by simp)).1
  have f6 := (X4.out 6 (by simp)).2; have f7 := (X4.out 7 (by simp)).2
  simp only [List.getElem_cons_succ, List.getElem_cons_zero] at x6 x7
  have D5 := Bx.mk ((D4.out.other (a := ⟨w.heap.size + 1, 6, none⟩) (by simp) (.int .i64 r)).other (a := ⟨w.heap.size + 1, 7, none⟩) (by simp) (.int .i64 s))
  have X5 : Bx (Blk (((w3.alloc (.cells #[.int .i64 r, .int .i64 s] 42)).setCell ⟨w.heap.size + 1, 6, none⟩ (.int .i64 r)).setCell ⟨w.heap.size + 1, 7, none⟩ (.int .i64 s)) (w.heap.size + 1) .i64 [2, d, v, l, n, b, r, s]) := .mk ((X4.out.setCell 6 r).setCell 7 s)
  have B5 := Bx.mk ((B4.out.setCell (p := ⟨w.heap.size + 1, 6, none⟩) (by simp) (.int .i64 r)).setCell (p := ⟨w.heap.size + 1, 7, none⟩) (by simp) (.int .i64 s))
  clear D4 X4 B4
  go_wp2_with (first | (refine wpList_ldC rfl (.tmp 16) rfl (w.heap.size + 1) rfl _ _ _ _ _ _ _ _ X5.out ?_) | (refine wpList_stC rfl (.tmp 14) (.tmp 43) rfl w.heap.size rfl _ _ _ _ _ _ _ _ rfl _ D5.out rfl ?_))
  intro wz EZ hgz
  have BZ := Bx.mk (Below.grown B5.out hgz B5.out.size (by intro q hq; cases hq; omega))
  have EZ := Bx.mk EZ
  clear hgz
  go_wp2_with fail
  (try simp only [Exit.inBlock, Exit.then])
  refine bodyPost_ret (results_cert rfl _ _ w.heap.size [2, d, v, l, n, b, r, s] (.int .i64 0) rfl rfl EZ.out rfl) rfl ?_
  exact ⟨rfl, BZ.out⟩
theorem rcert_c (d v l n b x : Int) (w : World) (hd : isDev d = true) (hv : elt v = true) (hl : elt l = true) (hr : ∀ x ∈ [2, d, v, l, n, b], -9223372036854775808 ≤ x ∧ x ≤ 9223372036854775807) :
    Calls Tryz.prog 39 #[.int .i64 2, .int .i64 d, .int .i64 v, .int .i64 l, .int .i64 n, .int .i64 b, .int .i64 x] w fun e w' => e = .returned (.tuple #[(certF 2 d v l n b x).1, .int .i64 (certF 2 d v l n b x).2]) ∧ Below w.heap.size w w' := by
  unfold certF
  cases hf : formedV 2 d v l n b
  · exact rcert_bad d v l n b x w hd hv hl hf
  · cases hx : isPriv x
    · exact rcert_priv d v l n b x w hd hv hl hr hf hx
    · exact rcert_ok d v l n b x w hd hv hl hr hf hx
end Go.Proofs.YtjbojoeafdkkeaaGreatDoor
