/- The specification's arithmetic (chapters 3 and 4): sums, products, powers, the group's functions. -/
import Derived.Test.YtjbojoeafdkkeaaGreatDoorJ4
set_option linter.unusedVariables false
set_option linter.unusedSimpArgs false
namespace Go.Proofs.YtjbojoeafdkkeaaGreatDoor
open Go Go.RowKit Go.Lib

theorem emod_sub_of {a m : Int} (h0 : m ≤ a) (h1 : a < 2 * m) (hm : 0 < m) : a % m = a - m := by
  rw [← Int.sub_emod_right]
  exact Int.emod_eq_of_lt (by omega) (by omega)
theorem rsum_c (a b m : Int) (w : World) (a0 : 0 ≤ a) (a1 : a < m) (b0 : 0 ≤ b) (b1 : b < m) (m1 : m < 4611686018427387904) :
    Calls Tryz.prog 185 #[.int .i64 a, .int .i64 b, .int .i64 m] w fun e w' => e = .returned (.int .i64 ((a + b) % m)) ∧ w = w' := by
  by_cases h : m ≤ a + b
  · have e := emod_sub_of h (by omega) (by omega)
    rw [e]; clear e
    go_enter Tryz.func185, Tryz.ntmps185
    go_wp2_with fail
    go_ret
    exact ⟨rfl, rfl⟩
  · have e := Int.emod_eq_of_lt (a := a + b) (b := m) (by omega) (by omega)
    rw [e]; clear e
    go_enter Tryz.func185, Tryz.ntmps185
    go_wp2_with fail
    go_ret
    exact ⟨rfl, rfl⟩

theorem mul_step (a k c m : Int) : ((c % m) + (a + a) % m * k) % m = (c + (a + a) * k) % m := by
  rw [Int.add_emod, Int.emod_emod, Int.mul_emod ((a + a) % m), Int.emod_emod, ← Int.mul_emod, ← Int.add_emod]
theorem prod_odd (a b c m : Int) (h : b % 2 = 1) : ((c + a) % m + (a + a) % m * (b / 2)) % m = (c + a * b) % m := by
  rw [mul_step]
  congr 1
  have e : b = 2 * (b / 2) + 1 := by omega
  generalize b / 2 = k at *
  subst e
  rw [Int.mul_add, ← Int.mul_assoc, Int.mul_one, Int.mul_comm a 2, ← Int.two_mul]
  omega
theorem prod_even (a b c m : Int) (h : ¬ b % 2 = 1) : (c + (a + a) % m * (b / 2)) % m = (c + a * b) % m := by
  have e : b = 2 * (b / 2) := by omega
  rw [Int.add_emod, Int.mul_emod, Int.emod_emod, ← Int.mul_emod, ← Int.add_emod]
  congr 1
  generalize b / 2 = k at *
  subst e
  rw [← Int.mul_assoc, Int.mul_comm a 2, ← Int.two_mul]

set_option maxHeartbeats 1000000 in
theorem rprod_c (a b m : Int) (w : World) (a0 : 0 ≤ a) (a1 : a < m) (b0 : 0 ≤ b) (b1 : b < 9223372036854775808) (m1 : m < 4611686018427387904) :
    Calls Tryz.prog 153 #[.int .i64 a, .int .i64 b, .int .i64 m] w fun e w' => e = .returned (.int .i64 (a * b % m)) ∧ w = w' := by
  obtain ⟨z, hz⟩ : ∃ z, z = a * b % m := ⟨_, rfl⟩
  have hz0 : (0 + a * b) % m = z := by rw [hz, Int.zero_add]
  rw [← hz]
  have HZ := Bx.mk hz0
  clear hz hz0
  have hm : 0 < m := by omega
  go_enter Tryz.func153, Tryz.ntmps153
  go_wp2_with fail
  go_loopg [0, 1, 7] b.toNat (fun g s0 s1 s7 wr => ∃ a' b' c' : Int, s0 = .int .i64 a' ∧ s1 = .int .i64 b' ∧ s7 = .int .i64 c' ∧ 0 ≤ a' ∧ a' < m ∧ 0 ≤ b' ∧ b' < 9223372036854775808 ∧ 0 ≤ c' ∧ c' < m ∧ Bx ((c' + a' * b') % m = z) ∧ Bx (g = b'.toNat) ∧ Bx (wr = w))
  case atStart => exact ⟨a, b, 0, rfl, rfl, rfl, a0, a1, b0, b1, by omega, by omega, HZ, .mk rfl, .mk rfl⟩
  case round =>
    obtain ⟨a', b', c', rfl, rfl, rfl, h1, h2, h3, h4, h5, h6, hzz, hg, hw⟩ := hrel
    by_cases hb : 0 < b'
    · have C1 := Bx.mk (fun w => rsum_c c' a' m w h5 h6 h1 h2 m1)
      have C2 := Bx.mk (fun w => rsum_c a' a' m w h1 h2 h1 h2 m1)
      have u0 := Int.emod_nonneg (a' + a') (show m ≠ 0 by omega)
      have u1 := Int.emod_lt_of_pos (a' + a') hm
      have v0 := Int.emod_nonneg (c' + a') (show m ≠ 0 by omega)
      have v1 := Int.emod_lt_of_pos (c' + a') hm
      by_cases ho : b' % 2 = 1
      · have hk := prod_odd a' b' c' m ho
        have HK := Bx.mk hk; clear hk
        go_wp2_with fail
        refine (C1.out _).mono ?_
        rintro e w2 ⟨rfl, rfl⟩
        go_wp2_with fail
        refine (C2.out _).mono ?_
        rintro e w2 ⟨rfl, rfl⟩
        go_wp2_with fail
        go_roundg (b' / 2).toNat
        case measure => have := hg.out; omega
        case rel => exact ⟨_, b' / 2, _, rfl, rfl, rfl, u0, u1, by omega, by omega, v0, v1, .mk (by rw [HK.out]; exact hzz.out), .mk rfl, hw⟩
      · have hk := prod_even a' b' c' m ho
        have HK := Bx.mk hk; clear hk
        go_wp2_with fail
        refine (C2.out _).mono ?_
        rintro e w2 ⟨rfl, rfl⟩
        go_wp2_with fail
        go_roundg (b' / 2).toNat
        case measure => have := hg.out; omega
        case rel => exact ⟨_, b' / 2, c', rfl, rfl, rfl, u0, u1, by omega, by omega, h5, h6, .mk (by rw [HK.out]; exact hzz.out), .mk rfl, hw⟩
    · obtain rfl : b' = 0 := by omega
      have hc : c' = z := by
        have := hzz.out
        rw [Int.mul_zero, Int.add_zero, Int.emod_eq_of_lt h5 h6] at this
        exact this
      have HC := Bx.mk hc
      clear hc hb
      go_wp2_with fail
      go_ret
      exact ⟨by rw [HC.out]; rfl, hw.out.symm⟩

theorem pow_odd (a c n : Int) (h : n % 2 = 1) (n0 : 0 ≤ n) : (c * a % 4611686018427377339) * pwr (a * a % 4611686018427377339) (n / 2).toNat % 4611686018427377339 = c * pwr a n.toNat % 4611686018427377339 := by
  have e : n.toNat = 2 * (n / 2).toNat + 1 := by omega
  rw [e, pwr_succ, pwr_mod, pwr_mul, ← pwr_double]
  generalize pwr a (2 * (n / 2).toNat) = q
  rw [Int.mul_emod (c * a % 4611686018427377339), Int.emod_emod, ← Int.mul_emod, Int.mul_emod c (q * a % 4611686018427377339), Int.emod_emod, ← Int.mul_emod, Int.mul_assoc, Int.mul_comm a q]
theorem pow_even (a c n : Int) (h : ¬ n % 2 = 1) (n0 : 0 ≤ n) : c * pwr (a * a % 4611686018427377339) (n / 2).toNat % 4611686018427377339 = c * pwr a n.toNat % 4611686018427377339 := by
  have e : n.toNat = 2 * (n / 2).toNat := by omega
  rw [e, pwr_mod, pwr_mul, ← pwr_double]
set_option maxHeartbeats 1000000 in
theorem rpower_c (a n : Int) (w : World) (a0 : 0 ≤ a) (a1 : a < 4611686018427377339) (n0 : 0 ≤ n) (n1 : n < 9223372036854775808) :
    Calls Tryz.prog 106 #[.int .i64 a, .int .i64 n] w fun e w' => e = .returned (.int .i64 (pwr a n.toNat)) ∧ w = w' := by
  obtain ⟨z, hz⟩ : ∃ z, z = pwr a n.toNat := ⟨_, rfl⟩
  have hz0 : 1 * pwr a n.toNat % 4611686018427377339 = z := by rw [hz, Int.one_mul, Int.emod_eq_of_lt (pwr_nonneg _ _) (pwr_lt _ _)]
  rw [← hz]
  have HZ := Bx.mk hz0
  clear hz hz0
  go_enter Tryz.func106, Tryz.ntmps106
  go_wp2_with fail
  go_loopg [0, 1, 5] n.toNat (fun g s0 s1 s5 wr => ∃ a' b' c' : Int, s0 = .int .i64 a' ∧ s1 = .int .i64 b' ∧ s5 = .int .i64 c' ∧ 0 ≤ a' ∧ a' < 4611686018427377339 ∧ 0 ≤ b' ∧ b' < 9223372036854775808 ∧ 0 ≤ c' ∧ c' < 4611686018427377339 ∧ Bx (c' * pwr a' b'.toNat % 4611686018427377339 = z) ∧ Bx (g = b'.toNat) ∧ Bx (wr = w))
  case atStart => exact ⟨a, n, 1, rfl, rfl, rfl, a0, a1, n0, n1, by omega, by omega, HZ, .mk rfl, .mk rfl⟩
  case round =>
    obtain ⟨a', b', c', rfl, rfl, rfl, h1, h2, h3, h4, h5, h6, hzz, hg, hw⟩ := hrel
    by_cases hb : 0 < b'
    · have C1 := Bx.mk (fun w => rprod_c c' a' 4611686018427377339 w h5 h6 h1 (by omega) (by omega))
      have C2 := Bx.mk (fun w => rprod_c a' a' 4611686018427377339 w h1 h2 h1 (by omega) (by omega))
      have u0 := Int.emod_nonneg (a' * a') (show (4611686018427377339 : Int) ≠ 0 by omega)
      have u1 := Int.emod_lt_of_pos (a' * a') (show (0 : Int) < 4611686018427377339 by omega)
      have v0 := Int.emod_nonneg (c' * a') (show (4611686018427377339 : Int) ≠ 0 by omega)
      have v1 := Int.emod_lt_of_pos (c' * a') (show (0 : Int) < 4611686018427377339 by omega)
      by_cases ho : b' % 2 = 1
      · have HK := Bx.mk (pow_odd a' c' b' ho h3)
        go_wp2_with fail
        refine (C1.out _).mono ?_
        rintro e w2 ⟨rfl, rfl⟩
        go_wp2_with fail
        refine (C2.out _).mono ?_
        rintro e w2 ⟨rfl, rfl⟩
        go_wp2_with fail
        go_roundg (b' / 2).toNat
        case measure => have := hg.out; omega
        case rel => exact ⟨_, b' / 2, _, rfl, rfl, rfl, u0, u1, by omega, by omega, v0, v1, .mk (by rw [HK.out]; exact hzz.out), .mk rfl, hw⟩
      · have HK := Bx.mk (pow_even a' c' b' ho h3)
        go_wp2_with fail
        refine (C2.out _).mono ?_
        rintro e w2 ⟨rfl, rfl⟩
        go_wp2_with fail
        go_roundg (b' / 2).toNat
        case measure => have := hg.out; omega
        case rel => exact ⟨_, b' / 2, c', rfl, rfl, rfl, u0, u1, by omega, by omega, h5, h6, .mk (by rw [HK.out]; exact hzz.out), .mk rfl, hw⟩
    · obtain rfl : b' = 0 := by omega
      have hc : c' = z := by
        have := hzz.out
        rw [show (0 : Int).toNat = 0 from rfl, pwr_zero, Int.mul_one, Int.emod_eq_of_lt h5 h6] at this
        exact this
      have HC := Bx.mk hc
      clear hc hb
      go_wp2_with fail
      go_ret
      exact ⟨by rw [HC.out]; rfl, hw.out.symm⟩

set_option maxHeartbeats 1000000 in
theorem rcheck_c (a : Int) (w : World) :
    Calls Tryz.prog 51 #[.int .i64 a] w fun e w' => e = .returned (.int .i64 (gcheck a)) ∧ w = w' := by
  by_cases ha : 1 ≤ a
  · by_cases hb : a < 4611686018427377339
    · have hp := fun w => rpower_c a 2305843009213688669 w (by omega) hb (by omega) (by omega)
      rw [show (2305843009213688669 : Int).toNat = 2305843009213688669 from rfl] at hp
      have HP := Bx.mk hp; clear hp
      by_cases hq : pwr a 2305843009213688669 = 1
      · have he : gcheck a = 0 := by unfold gcheck; rw [if_pos ((elt_iff a).2 ⟨ha, hb, hq⟩)]
        rw [he]; clear he
        rw [hq] at HP
        clear hq
        go_enter Tryz.func51, Tryz.ntmps51
        go_wp2_with fail
        refine (HP.out _).mono ?_
        rintro e w' ⟨rfl, rfl⟩
        go_wp2_with fail
        go_ret
        exact ⟨rfl, rfl⟩
      · have he : gcheck a = 40 := by unfold gcheck; rw [if_neg (fun h => hq (elt_q h))]
        rw [he]; clear he
        obtain ⟨q, hqe⟩ : ∃ q, q = pwr a 2305843009213688669 := ⟨_, rfl⟩
        rw [← hqe] at HP hq
        clear hqe
        have hqb : (q != 1) = true := by simpa using hq
        clear hq
        go_enter Tryz.func51, Tryz.ntmps51
        go_wp2_with fail
        refine (HP.out _).mono ?_
        rintro e w' ⟨rfl, rfl⟩
        go_wp2_with fail
        go_ret
        exact ⟨rfl, rfl⟩
    · have he : gcheck a = 40 := by unfold gcheck; rw [if_neg (fun h => hb (elt_lt h))]
      rw [he]; clear he
      go_enter Tryz.func51, Tryz.ntmps51
      go_wp2_with fail
      go_ret
      exact ⟨rfl, rfl⟩
  · have he : gcheck a = 40 := by unfold gcheck; rw [if_neg (fun h => ha (elt_pos h))]
    rw [he]; clear he
    go_enter Tryz.func51, Tryz.ntmps51
    go_wp2_with fail
    go_ret
    exact ⟨rfl, rfl⟩
theorem rscalar_c (k : Int) (w : World) (h0 : 0 ≤ k) (h1 : k < 2305843009213688669) :
    Calls Tryz.prog 178 #[.int .i64 k] w fun e w' => e = .returned (.bool true) ∧ w = w' := by
  go_enter Tryz.func178, Tryz.ntmps178
  go_wp2_with fail
  go_ret
  exact ⟨rfl, rfl⟩
/-- Exp, the arguments in order. -/
theorem rexp_ok (a k : Int) (w : World) (ha : elt a = true) (h0 : 0 ≤ k) (h1 : k < 2305843009213688669) :
    Calls Tryz.prog 146 #[.int .i64 a, .int .i64 k] w fun e w' => e = .returned (.tuple #[.int .i64 (pwr a k.toNat), .int .i64 0]) ∧ w = w' := by
  have HC := Bx.mk (fun w => rcheck_c a w)
  rw [gcheck_0 ha] at HC
  have HS := Bx.mk (fun w => rscalar_c k w h0 h1)
  have HP := Bx.mk (fun w => rpower_c a k w (by have := elt_pos ha; omega) (elt_lt ha) h0 (by omega))
  clear ha
  go_enter Tryz.func146, Tryz.ntmps146
  go_wp2_with fail
  refine (HC.out _).mono ?_
  rintro e w' ⟨rfl, rfl⟩
  go_wp2_with fail
  refine (HS.out _).mono ?_
  rintro e w' ⟨rfl, rfl⟩
  go_wp2_with fail
  refine (HP.out _).mono ?_
  rintro e w' ⟨rfl, rfl⟩
  go_wp2_with fail
  go_ret2
  exact ⟨rfl, rfl⟩
theorem rbase_c (k : Int) (w : World) (h0 : 0 ≤ k) (h1 : k < 2305843009213688669) :
    Calls Tryz.prog 102 #[.int .i64 k] w fun e w' => e = .returned (.tuple #[.int .i64 (pwr 4 k.toNat), .int .i64 0]) ∧ w = w' := by
  have HP := Bx.mk (fun w => rexp_ok 4 k w elt_four h0 h1)
  go_enter Tryz.func102, Tryz.ntmps102
  go_wp2_with fail
  refine (HP.out _).mono ?_
  rintro e w' ⟨rfl, rfl⟩
  go_wp2_with fail
  go_ret2
  exact ⟨rfl, rfl⟩
theorem rinv_c (a : Int) (w : World) (ha : elt a = true) :
    Calls Tryz.prog 182 #[.int .i64 a] w fun e w' => e = .returned (.tuple #[.int .i64 (pwr a 2305843009213688668), .int .i64 0]) ∧ w = w' := by
  have HC := Bx.mk (fun w => rcheck_c a w)
  rw [gcheck_0 ha] at HC
  have h := fun w => rpower_c a 2305843009213688668 w (by have := elt_pos ha; omega) (elt_lt ha) (by omega) (by omega)
  rw [show (2305843009213688668 : Int).toNat = 2305843009213688668 from rfl] at h
  have HP := Bx.mk h; clear h ha
  go_enter Tryz.func182, Tryz.ntmps182
  go_wp2_with fail
  refine (HC.out _).mono ?_
  rintro e w' ⟨rfl, rfl⟩
  go_wp2_with fail
  refine (HP.out _).mono ?_
  rintro e w' ⟨rfl, rfl⟩
  go_wp2_with fail
  go_ret2
  exact ⟨rfl, rfl⟩
theorem rmul_c (a b : Int) (w : World) (ha : elt a = true) (hb : elt b = true) :
    Calls Tryz.prog 103 #[.int .i64 a, .int .i64 b] w fun e w' => e = .returned (.tuple #[.int .i64 (a * b % 4611686018427377339), .int .i64 0]) ∧ w = w' := by
  have HC := Bx.mk (fun w => rcheck_c a w)
  rw [gcheck_0 ha] at HC
  have HD := Bx.mk (fun w => rcheck_c b w)
  rw [gcheck_0 hb] at HD
  have HP := Bx.mk (fun w => rprod_c a b 4611686018427377339 w (by have := elt_pos ha; omega) (elt_lt ha) (by have := elt_pos hb; omega) (by have := elt_lt hb; omega) (by omega))
  clear ha hb
  go_enter Tryz.func103, Tryz.ntmps103
  go_wp2_with fail
  refine (HC.out _).mono ?_
  rintro e w' ⟨rfl, rfl⟩
  go_wp2_with fail
  refine (HD.out _).mono ?_
  rintro e w' ⟨rfl, rfl⟩
  go_wp2_with fail
  refine (HP.out _).mono ?_
  rintro e w' ⟨rfl, rfl⟩
  go_wp2_with fail
  go_ret2
  exact ⟨rfl, rfl⟩
end Go.Proofs.YtjbojoeafdkkeaaGreatDoor
