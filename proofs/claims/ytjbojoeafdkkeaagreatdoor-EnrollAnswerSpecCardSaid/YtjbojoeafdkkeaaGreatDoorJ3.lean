/- Walks: math/bits.Div64 at divisors of 62 and of 61 bits. -/
import Derived.WalkKit
import Derived.WalkLawsBesides
import Derived.WalkSpells
import Derived.BigQuiet
import Derived.Deep.QuietTactic
import Derived.Deep.LoopGhost
import Derived.Deep.DeepCutAuto
import Derived.Deep.CutBlock
import Derived.Lib.Hide
import Derived.Laws.Bits64b
import Derived.Test.YtjbojoeafdkkeaaGreatDoorProg
import Derived.Test.YtjbojoeafdkkeaaGreatDoorJ1
import Derived.Test.YtjbojoeafdkkeaaGreatDoorJ2
set_option linter.unusedVariables false
set_option linter.unusedSimpArgs false
namespace Go.Proofs.YtjbojoeafdkkeaaGreatDoor
open Go Go.RowKit Go.Lib

theorem un_next (a u1 m b : Int) (hb : a * 4294967296 + u1 - m = b) (hb0 : 0 ≤ b) (hb1 : b < 18446744073709551616) :
    IntKind.u64.wrap (IntKind.u64.wrap (IntKind.u64.wrap (a * 4294967296) + u1) - IntKind.u64.wrap m) = b := by
  simp only [IntKind.wrap_u64]
  omega

set_option maxHeartbeats 4000000 in
set_option maxRecDepth 100000 in
/-- Div64 at a divisor of 62 bits, every intermediate number under a name. -/
theorem div64_62_core (hi lo y Y a y1 y0 l4 u1 u0 T b T2 R : Int) (w : World) (hy : 2305843009213693952 ≤ y) (hy2 : y < 4611686018427387904) (hhi : 0 < hi) (hh : hi < y) (hl0 : 0 ≤ lo) (hl : lo < 18446744073709551616)
    (Hlz : Bx ((64 : Int) - (Lib.bitLen y.toNat : Int) = 2)) (HY : y * 4 = Y) (lY : 0 < Y) (lY2 : Y < 18446744073709551616)
    (Ha : bits BinOp.or IntKind.u64 (hi * 4) (lo / 4611686018427387904) = a)
    (Hy1 : Y / 4294967296 = y1) (Hy0 : bits BinOp.and IntKind.u64 Y 4294967295 = y0)
    (Hl4 : IntKind.u64.wrap (lo * 4) = l4) (Hu1 : l4 / 4294967296 = u1) (Hu0 : bits BinOp.and IntKind.u64 l4 4294967295 = u0)
    (ll4 : 0 ≤ l4) (ll4' : l4 < 18446744073709551616)
    (la0 : 0 ≤ a) (ly1 : 2147483648 ≤ y1) (ly1' : y1 < 4294967296) (ly00 : 0 ≤ y0) (ly0 : y0 < 4294967296) (lu10 : 0 ≤ u1) (lu1 : u1 < 4294967296) (lu00 : 0 ≤ u0) (lu0 : u0 < 4294967296) (la : a < y1 * 4294967296 + y0)
    (HYY : Bx (Y = y1 * 4294967296 + y0))
    (HT : Bx (T = (a * 4294967296 + u1) / (y1 * 4294967296 + y0))) (Hb : Bx (a * 4294967296 + u1 - T * Y = b)) (lb0 : 0 ≤ b) (lb : b < y1 * 4294967296 + y0)
    (HT2 : Bx (T2 = (b * 4294967296 + u0) / (y1 * 4294967296 + y0))) (HR : Bx (b * 4294967296 + u0 - T2 * Y = R)) (lR0 : 0 ≤ R) (lR : R < 18446744073709551616)
    (lT0 : 0 ≤ T) (lT : T < 4294967296) (lT20 : 0 ≤ T2) (lT2 : T2 < 4294967296) :
    Calls Tryz.prog 165 #[.int .u64 hi, .int .u64 lo, .int .u64 y] w fun e w' => e = .returned (.tuple #[.int .u64 (T * 4294967296 + T2), .int .u64 (R / 4)]) ∧ w = w' := by
  have hne : (hi == 0) = false := by simp; omega
  have hyne : (y == 0) = false := by simp; omega
  have hyh : decide (y ≤ hi) = false := by simp; omega
  have hy1ne : ¬ (y1 = 0) := by omega
  have hUN := un_next a u1 (T * Y) b Hb.out lb0 (by omega)
  have hUN2 := un_next b u0 (T2 * Y) R HR.out lR0 lR
  obtain ⟨q01, hq0⟩ : ∃ q, q = a / y1 := ⟨_, rfl⟩
  obtain ⟨r01, hr0⟩ : ∃ r, r = a % y1 := ⟨_, rfl⟩
  have hQ1 : (a / y1) = q01 := hq0.symm
  have hQt1 : a.tdiv y1 = q01 := by rw [Int.tdiv_eq_ediv_of_nonneg (by omega)]; exact hq0.symm
  have hQl1 : q01 * y1 < 18446744073709551616 := by rw [hq0]; have := Int.ediv_mul_le a (show y1 ≠ 0 by omega); omega
  have hQ01 : 0 ≤ q01 := by rw [hq0]; exact Int.ediv_nonneg (by omega) (by omega)
  have hQm1 : 0 ≤ q01 * y1 := Int.mul_nonneg hQ01 (by omega)
  have hQ91 : q01 < 9000000000 := by rw [hq0]; exact divI_small a y1 (by omega) (by omega) (by omega)
  have hqr0 : q01 * y1 + r01 = a := by rw [hq0, hr0]; have := Int.mul_ediv_add_emod a y1; rw [Int.mul_comm] at this; exact this
  have hr81 : 0 ≤ r01 := by rw [hr0]; exact Int.emod_nonneg _ (by omega)
  have hr91 : r01 < 4294967296 := by rw [hr0]; have := Int.emod_lt_of_pos a (show 0 < y1 by omega); omega
  have hR1 : a - q01 * y1 = r01 := by omega
  have HQR01 := Bx.mk hqr0; clear hqr0
  have HQ01 := Bx.mk hq0; clear hq0
  clear hr0

  obtain ⟨q02, hq0⟩ : ∃ q, q = b / y1 := ⟨_, rfl⟩
  obtain ⟨r02, hr0⟩ : ∃ r, r = b % y1 := ⟨_, rfl⟩
  have hQ2 : (b / y1) = q02 := hq0.symm
  have hQt2 : b.tdiv y1 = q02 := by rw [Int.tdiv_eq_ediv_of_nonneg (by omega)]; exact hq0.symm
  have hQl2 : q02 * y1 < 18446744073709551616 := by rw [hq0]; have := Int.ediv_mul_le b (show y1 ≠ 0 by omega); omega
  have hQ02 : 0 ≤ q02 := by rw [hq0]; exact Int.ediv_nonneg (by omega) (by omega)
  have hQm2 : 0 ≤ q02 * y1 := Int.mul_nonneg hQ02 (by omega)
  have hQ92 : q02 < 9000000000 := by rw [hq0]; exact divI_small b y1 (by omega) (by omega) (by omega)
  have hqr0 : q02 * y1 + r02 = b := by rw [hq0, hr0]; have := Int.mul_ediv_add_emod b y1; rw [Int.mul_comm] at this; exact this
  have hr82 : 0 ≤ r02 := by rw [hr0]; exact Int.emod_nonneg _ (by omega)
  have hr92 : r02 < 4294967296 := by rw [hr0]; have := Int.emod_lt_of_pos b (show 0 < y1 by omega); omega
  have hR2 : b - q02 * y1 = r02 := by omega
  have HQR02 := Bx.mk hqr0; clear hqr0
  have HQ02 := Bx.mk hq0; clear hq0
  clear hr0

  go_enter Tryz.func165, Tryz.ntmps165
  go_upto_block 0 with (go_at_call 191; refine (lz64_c _ _ (by omega) (by omega)).mono ?_; rintro e w' ⟨rfl, rfl⟩; rw [Hlz.out])
  go_cut [15, 16] (fun sq sr wx => sq = .int .u64 T ∧ w = wx)
  case first =>
    go_wp2_with fail
    go_loopg [15, 16] q01.toNat (fun k sq sr wr => ∃ q r : Int, 0 ≤ q ∧ 0 ≤ r ∧ sq = .int .u64 q ∧ sr = .int .u64 r ∧ Bx (q * y1 + r = a) ∧ Bx (T ≤ q) ∧ r < 4294967296 ∧ q < 9000000000 ∧ Bx (q.toNat = k) ∧ w = wr)
    case atStart => exact ⟨q01, r01, by omega, by omega, rfl, rfl, HQR01, .mk (by rw [HT.out, HQ01.out]; exact kdI_guess _ _ _ _ (by omega) (by omega) (by omega) (by omega) (by omega)), hr91, hQ91, .mk rfl, rfl⟩
    case round =>
      obtain ⟨q, r, hq0, hr0, rfl, rfl, hqr, hT, hr, hq9, hk, rfl⟩ := hrel
      by_cases hq : 4294967296 ≤ q
      · have hd := kdI_dec a u1 y1 y0 q r (by omega) (by omega) hqr.out la (by omega) (by omega) (by omega) (by rw [← HT.out]; exact hT.out) (Or.inl hq)
        obtain ⟨hq1, hqr', hT'⟩ := hd
        have HQR := Bx.mk hqr'; clear hqr'
        have HTT := Bx.mk hT'; clear hT'
        by_cases hr2 : 4294967296 ≤ r + y1
        · have hfin := Bx.mk (kdI_done' a u1 y1 y0 (q - 1) (r + y1) (by omega) (by omega) (by omega) la (by omega) (by omega) HQR.out hr2 HTT.out)
          go_wp2
          go_meet
          exact ⟨by rw [HT.out, ← hfin.out], rfl⟩
        · go_wp2
          go_roundg (q - 1).toNat
          case measure => have := hk.out; omega
          case rel => exact ⟨q - 1, r + y1, by omega, by omega, rfl, rfl, HQR, .mk (by rw [HT.out]; exact HTT.out), by omega, by omega, .mk rfl, rfl⟩
      · have hm : q * y0 < 18446744073709551616 := mulI_small q y0 (by omega) (by omega) (by omega) (by omega)
        have hm0 : 0 ≤ q * y0 := Int.mul_nonneg (by omega) (by omega)
        by_cases ht : 4294967296 * r + u1 < q * y0
        · have hd := kdI_dec a u1 y1 y0 q r (by omega) (by omega) hqr.out la (by omega) (by omega) (by omega) (by rw [← HT.out]; exact hT.out) (Or.inr ht)
          obtain ⟨hq1, hqr', hT'⟩ := hd
          have HQR := Bx.mk hqr'; clear hqr'
          have HTT := Bx.mk hT'; clear hT'
          by_cases hr2 : 4294967296 ≤ r + y1
          · have hfin := Bx.mk (kdI_done' a u1 y1 y0 (q - 1) (r + y1) (by omega) (by omega) (by omega) la (by omega) (by omega) HQR.out hr2 HTT.out)
            go_wp2
            go_meet
            exact ⟨by rw [HT.out, ← hfin.out], rfl⟩
          · go_wp2
            go_roundg (q - 1).toNat
            case measure => have := hk.out; omega
            case rel => exact ⟨q - 1, r + y1, by omega, by omega, rfl, rfl, HQR, .mk (by rw [HT.out]; exact HTT.out), by omega, by omega, .mk rfl, rfl⟩
        · have hfin := Bx.mk (kdI_done a u1 y1 y0 q r (by omega) (by omega) hqr.out (by rw [← HT.out]; exact hT.out) (by omega))
          go_wp2
          go_meet
          exact ⟨by rw [HT.out, ← hfin.out], rfl⟩
  case rest =>
  obtain ⟨rfl, rfl⟩ := hcut
  go_upto_block 2 with (fail)
  go_cut [18, 16] (fun sq sr wx => sq = .int .u64 T2 ∧ w = wx)
  case first =>
    go_wp2_with fail
    go_loopg [18, 16] q02.toNat (fun k sq sr wr => ∃ q r : Int, 0 ≤ q ∧ 0 ≤ r ∧ sq = .int .u64 q ∧ sr = .int .u64 r ∧ Bx (q * y1 + r = b) ∧ Bx (T2 ≤ q) ∧ r < 4294967296 ∧ q < 9000000000 ∧ Bx (q.toNat = k) ∧ w = wr)
    case atStart => exact ⟨q02, r02, by omega, by omega, rfl, rfl, HQR02, .mk (by rw [HT2.out, HQ02.out]; exact kdI_guess _ _ _ _ (by omega) (by omega) (by omega) (by omega) (by omega)), hr92, hQ92, .mk rfl, rfl⟩
    case round =>
      obtain ⟨q, r, hq0, hr0, rfl, rfl, hqr, hT, hr, hq9, hk, rfl⟩ := hrel
      by_cases hq : 4294967296 ≤ q
      · have hd := kdI_dec b u0 y1 y0 q r (by omega) (by omega) hqr.out lb (by omega) (by omega) (by omega) (by rw [← HT2.out]; exact hT.out) (Or.inl hq)
        obtain ⟨hq1, hqr', hT'⟩ := hd
        have HQR := Bx.mk hqr'; clear hqr'
        have HTT := Bx.mk hT'; clear hT'
        by_cases hr2 : 4294967296 ≤ r + y1
        · have hfin := Bx.mk (kdI_done' b u0 y1 y0 (q - 1) (r + y1) (by omega) (by omega) (by omega) lb (by omega) (by omega) HQR.out hr2 HTT.out)
          go_wp2
          go_meet
          exact ⟨by rw [HT2.out, ← hfin.out], rfl⟩
        · go_wp2
          go_roundg (q - 1).toNat
          case measure => have := hk.out; omega
          case rel => exact ⟨q - 1, r + y1, by omega, by omega, rfl, rfl, HQR, .mk (by rw [HT2.out]; exact HTT.out), by omega, by omega, .mk rfl, rfl⟩
      · have hm : q * y0 < 18446744073709551616 := mulI_small q y0 (by omega) (by omega) (by omega) (by omega)
        have hm0 : 0 ≤ q * y0 := Int.mul_nonneg (by omega) (by omega)
        by_cases ht : 4294967296 * r + u0 < q * y0
        · have hd := kdI_dec b u0 y1 y0 q r (by omega) (by omega) hqr.out lb (by omega) (by omega) (by omega) (by rw [← HT2.out]; exact hT.out) (Or.inr ht)
          obtain ⟨hq1, hqr', hT'⟩ := hd
          have HQR := Bx.mk hqr'; clear hqr'
          have HTT := Bx.mk hT'; clear hT'
          by_cases hr2 : 4294967296 ≤ r + y1
          · have hfin := Bx.mk (kdI_done' b u0 y1 y0 (q - 1) (r + y1) (by omega) (by omega) (by omega) lb (by omega) (by omega) HQR.out hr2 HTT.out)
            go_wp2
            go_meet
            exact ⟨by rw [HT2.out, ← hfin.out], rfl⟩
          · go_wp2
            go_roundg (q - 1).toNat
            case measure => have := hk.out; omega
            case rel => exact ⟨q - 1, r + y1, by omega, by omega, rfl, rfl, HQR, .mk (by rw [HT2.out]; exact HTT.out), by omega, by omega, .mk rfl, rfl⟩
        · have hfin := Bx.mk (kdI_done b u0 y1 y0 q r (by omega) (by omega) hqr.out (by rw [← HT2.out]; exact hT.out) (by omega))
          go_wp2
          go_meet
          exact ⟨by rw [HT2.out, ← hfin.out], rfl⟩
  case rest =>
  obtain ⟨rfl, rfl⟩ := hcut
  go_wp2
  go_ret2
  exact ⟨rfl, rfl⟩

set_option maxHeartbeats 4000000 in
set_option maxRecDepth 100000 in
/-- Div64 at a divisor of 61 bits, every intermediate number under a name. -/
theorem div64_61_core (hi lo y Y a y1 y0 l4 u1 u0 T b T2 R : Int) (w : World) (hy : 1152921504606846976 ≤ y) (hy2 : y < 2305843009213693952) (hhi : 0 < hi) (hh : hi < y) (hl0 : 0 ≤ lo) (hl : lo < 18446744073709551616)
    (Hlz : Bx ((64 : Int) - (Lib.bitLen y.toNat : Int) = 3)) (HY : y * 8 = Y) (lY : 0 < Y) (lY2 : Y < 18446744073709551616)
    (Ha : bits BinOp.or IntKind.u64 (hi * 8) (lo / 2305843009213693952) = a)
    (Hy1 : Y / 4294967296 = y1) (Hy0 : bits BinOp.and IntKind.u64 Y 4294967295 = y0)
    (Hl4 : IntKind.u64.wrap (lo * 8) = l4) (Hu1 : l4 / 4294967296 = u1) (Hu0 : bits BinOp.and IntKind.u64 l4 4294967295 = u0)
    (ll4 : 0 ≤ l4) (ll4' : l4 < 18446744073709551616)
    (la0 : 0 ≤ a) (ly1 : 2147483648 ≤ y1) (ly1' : y1 < 4294967296) (ly00 : 0 ≤ y0) (ly0 : y0 < 4294967296) (lu10 : 0 ≤ u1) (lu1 : u1 < 4294967296) (lu00 : 0 ≤ u0) (lu0 : u0 < 4294967296) (la : a < y1 * 4294967296 + y0)
    (HYY : Bx (Y = y1 * 4294967296 + y0))
    (HT : Bx (T = (a * 4294967296 + u1) / (y1 * 4294967296 + y0))) (Hb : Bx (a * 4294967296 + u1 - T * Y = b)) (lb0 : 0 ≤ b) (lb : b < y1 * 4294967296 + y0)
    (HT2 : Bx (T2 = (b * 4294967296 + u0) / (y1 * 4294967296 + y0))) (HR : Bx (b * 4294967296 + u0 - T2 * Y = R)) (lR0 : 0 ≤ R) (lR : R < 18446744073709551616)
    (lT0 : 0 ≤ T) (lT : T < 4294967296) (lT20 : 0 ≤ T2) (lT2 : T2 < 4294967296) :
    Calls Tryz.prog 165 #[.int .u64 hi, .int .u64 lo, .int .u64 y] w fun e w' => e = .returned (.tuple #[.int .u64 (T * 4294967296 + T2), .int .u64 (R / 8)]) ∧ w = w' := by
  have hne : (hi == 0) = false := by simp; omega
  have hyne : (y == 0) = false := by simp; omega
  have hyh : decide (y ≤ hi) = false := by simp; omega
  have hy1ne : ¬ (y1 = 0) := by omega
  have hUN := un_next a u1 (T * Y) b Hb.out lb0 (by omega)
  have hUN2 := un_next b u0 (T2 * Y) R HR.out lR0 lR
  obtain ⟨q01, hq0⟩ : ∃ q, q = a / y1 := ⟨_, rfl⟩
  obtain ⟨r01, hr0⟩ : ∃ r, r = a % y1 := ⟨_, rfl⟩
  have hQ1 : (a / y1) = q01 := hq0.symm
  have hQt1 : a.tdiv y1 = q01 := by rw [Int.tdiv_eq_ediv_of_nonneg (by omega)]; exact hq0.symm
  have hQl1 : q01 * y1 < 18446744073709551616 := by rw [hq0]; have := Int.ediv_mul_le a (show y1 ≠ 0 by omega); omega
  have hQ01 : 0 ≤ q01 := by rw [hq0]; exact Int.ediv_nonneg (by omega) (by omega)
  have hQm1 : 0 ≤ q01 * y1 := Int.mul_nonneg hQ01 (by omega)
  have hQ91 : q01 < 9000000000 := by rw [hq0]; exact divI_small a y1 (by omega) (by omega) (by omega)
  have hqr0 : q01 * y1 + r01 = a := by rw [hq0, hr0]; have := Int.mul_ediv_add_emod a y1; rw [Int.mul_comm] at this; exact this
  have hr81 : 0 ≤ r01 := by rw [hr0]; exact Int.emod_nonneg _ (by omega)
  have hr91 : r01 < 4294967296 := by rw [hr0]; have := Int.emod_lt_of_pos a (show 0 < y1 by omega); omega
  have hR1 : a - q01 * y1 = r01 := by omega
  have HQR01 := Bx.mk hqr0; clear hqr0
  have HQ01 := Bx.mk hq0; clear hq0
  clear hr0

  obtain ⟨q02, hq0⟩ : ∃ q, q = b / y1 := ⟨_, rfl⟩
  obtain ⟨r02, hr0⟩ : ∃ r, r = b % y1 := ⟨_, rfl⟩
  have hQ2 : (b / y1) = q02 := hq0.symm
  have hQt2 : b.tdiv y1 = q02 := by rw [Int.tdiv_eq_ediv_of_nonneg (by omega)]; exact hq0.symm
  have hQl2 : q02 * y1 < 18446744073709551616 := by rw [hq0]; have := Int.ediv_mul_le b (show y1 ≠ 0 by omega); omega
  have hQ02 : 0 ≤ q02 := by rw [hq0]; exact Int.ediv_nonneg (by omega) (by omega)
  have hQm2 : 0 ≤ q02 * y1 := Int.mul_nonneg hQ02 (by omega)
  have hQ92 : q02 < 9000000000 := by rw [hq0]; exact divI_small b y1 (by omega) (by omega) (by omega)
  have hqr0 : q02 * y1 + r02 = b := by rw [hq0, hr0]; have := Int.mul_ediv_add_emod b y1; rw [Int.mul_comm] at this; exact this
  have hr82 : 0 ≤ r02 := by rw [hr0]; exact Int.emod_nonneg _ (by omega)
  have hr92 : r02 < 4294967296 := by rw [hr0]; have := Int.emod_lt_of_pos b (show 0 < y1 by omega); omega
  have hR2 : b - q02 * y1 = r02 := by omega
  have HQR02 := Bx.mk hqr0; clear hqr0
  have HQ02 := Bx.mk hq0; clear hq0
  clear hr0

  go_enter Tryz.func165, Tryz.ntmps165
  go_upto_block 0 with (go_at_call 191; refine (lz64_c _ _ (by omega) (by omega)).mono ?_; rintro e w' ⟨rfl, rfl⟩; rw [Hlz.out])
  go_cut [15, 16] (fun sq sr wx => sq = .int .u64 T ∧ w = wx)
  case first =>
    go_wp2_with fail
    go_loopg [15, 16] q01.toNat (fun k sq sr wr => ∃ q r : Int, 0 ≤ q ∧ 0 ≤ r ∧ sq = .int .u64 q ∧ sr = .int .u64 r ∧ Bx (q * y1 + r = a) ∧ Bx (T ≤ q) ∧ r < 4294967296 ∧ q < 9000000000 ∧ Bx (q.toNat = k) ∧ w = wr)
    case atStart => exact ⟨q01, r01, by omega, by omega, rfl, rfl, HQR01, .mk (by rw [HT.out, HQ01.out]; exact kdI_guess _ _ _ _ (by omega) (by omega) (by omega) (by omega) (by omega)), hr91, hQ91, .mk rfl, rfl⟩
    case round =>
      obtain ⟨q, r, hq0, hr0, rfl, rfl, hqr, hT, hr, hq9, hk, rfl⟩ := hrel
      by_cases hq : 4294967296 ≤ q
      · have hd := kdI_dec a u1 y1 y0 q r (by omega) (by omega) hqr.out la (by omega) (by omega) (by omega) (by rw [← HT.out]; exact hT.out) (Or.inl hq)
        obtain ⟨hq1, hqr', hT'⟩ := hd
        have HQR := Bx.mk hqr'; clear hqr'
        have HTT := Bx.mk hT'; clear hT'
        by_cases hr2 : 4294967296 ≤ r + y1
        · have hfin := Bx.mk (kdI_done' a u1 y1 y0 (q - 1) (r + y1) (by omega) (by omega) (by omega) la (by omega) (by omega) HQR.out hr2 HTT.out)
          go_wp2
          go_meet
          exact ⟨by rw [HT.out, ← hfin.out], rfl⟩
        · go_wp2
          go_roundg (q - 1).toNat
          case measure => have := hk.out; omega
          case rel => exact ⟨q - 1, r + y1, by omega, by omega, rfl, rfl, HQR, .mk (by rw [HT.out]; exact HTT.out), by omega, by omega, .mk rfl, rfl⟩
      · have hm : q * y0 < 18446744073709551616 := mulI_small q y0 (by omega) (by omega) (by omega) (by omega)
        have hm0 : 0 ≤ q * y0 := Int.mul_nonneg (by omega) (by omega)
        by_cases ht : 4294967296 * r + u1 < q * y0
        · have hd := kdI_dec a u1 y1 y0 q r (by omega) (by omega) hqr.out la (by omega) (by omega) (by omega) (by rw [← HT.out]; exact hT.out) (Or.inr ht)
          obtain ⟨hq1, hqr', hT'⟩ := hd
          have HQR := Bx.mk hqr'; clear hqr'
          have HTT := Bx.mk hT'; clear hT'
          by_cases hr2 : 4294967296 ≤ r + y1
          · have hfin := Bx.mk (kdI_done' a u1 y1 y0 (q - 1) (r + y1) (by omega) (by omega) (by omega) la (by omega) (by omega) HQR.out hr2 HTT.out)
            go_wp2
            go_meet
            exact ⟨by rw [HT.out, ← hfin.out], rfl⟩
          · go_wp2
            go_roundg (q - 1).toNat
            case measure => have := hk.out; omega
            case rel => exact ⟨q - 1, r + y1, by omega, by omega, rfl, rfl, HQR, .mk (by rw [HT.out]; exact HTT.out), by omega, by omega, .mk rfl, rfl⟩
        · have hfin := Bx.mk (kdI_done a u1 y1 y0 q r (by omega) (by omega) hqr.out (by rw [← HT.out]; exact hT.out) (by omega))
          go_wp2
          go_meet
          exact ⟨by rw [HT.out, ← hfin.out], rfl⟩
  case rest =>
  obtain ⟨rfl, rfl⟩ := hcut
  go_upto_block 2 with (fail)
  go_cut [18, 16] (fun sq sr wx => sq = .int .u64 T2 ∧ w = wx)
  case first =>
    go_wp2_with fail
    go_loopg [18, 16] q02.toNat (fun k sq sr wr => ∃ q r : Int, 0 ≤ q ∧ 0 ≤ r ∧ sq = .int .u64 q ∧ sr = .int .u64 r ∧ Bx (q * y1 + r = b) ∧ Bx (T2 ≤ q) ∧ r < 4294967296 ∧ q < 9000000000 ∧ Bx (q.toNat = k) ∧ w = wr)
    case atStart => exact ⟨q02, r02, by omega, by omega, rfl, rfl, HQR02, .mk (by rw [HT2.out, HQ02.out]; exact kdI_guess _ _ _ _ (by omega) (by omega) (by omega) (by omega) (by omega)), hr92, hQ92, .mk rfl, rfl⟩
    case round =>
      obtain ⟨q, r, hq0, hr0, rfl, rfl, hqr, hT, hr, hq9, hk, rfl⟩ := hrel
      by_cases hq : 4294967296 ≤ q
      · have hd := kdI_dec b u0 y1 y0 q r (by omega) (by omega) hqr.out lb (by omega) (by omega) (by omega) (by rw [← HT2.out]; exact hT.out) (Or.inl hq)
        obtain ⟨hq1, hqr', hT'⟩ := hd
        have HQR := Bx.mk hqr'; clear hqr'
        have HTT := Bx.mk hT'; clear hT'
        by_cases hr2 : 4294967296 ≤ r + y1
        · have hfin := Bx.mk (kdI_done' b u0 y1 y0 (q - 1) (r + y1) (by omega) (by omega) (by omega) lb (by omega) (by omega) HQR.out hr2 HTT.out)
          go_wp2
          go_meet
          exact ⟨by rw [HT2.out, ← hfin.out], rfl⟩
        · go_wp2
          go_roundg (q - 1).toNat
          case measure => have := hk.out; omega
          case rel => exact ⟨q - 1, r + y1, by omega, by omega, rfl, rfl, HQR, .mk (by rw [HT2.out]; exact HTT.out), by omega, by omega, .mk rfl, rfl⟩
      · have hm : q * y0 < 18446744073709551616 := mulI_small q y0 (by omega) (by omega) (by omega) (by omega)
        have hm0 : 0 ≤ q * y0 := Int.mul_nonneg (by omega) (by omega)
        by_cases ht : 4294967296 * r + u0 < q * y0
        · have hd := kdI_dec b u0 y1 y0 q r (by omega) (by omega) hqr.out lb (by omega) (by omega) (by omega) (by rw [← HT2.out]; exact hT.out) (Or.inr ht)
          obtain ⟨hq1, hqr', hT'⟩ := hd
          have HQR := Bx.mk hqr'; clear hqr'
          have HTT := Bx.mk hT'; clear hT'
          by_cases hr2 : 4294967296 ≤ r + y1
          · have hfin := Bx.mk (kdI_done' b u0 y1 y0 (q - 1) (r + y1) (by omega) (by omega) (by omega) lb (by omega) (by omega) HQR.out hr2 HTT.out)
            go_wp2
            go_meet
            exact ⟨by rw [HT2.out, ← hfin.out], rfl⟩
          · go_wp2
            go_roundg (q - 1).toNat
            case measure => have := hk.out; omega
            case rel => exact ⟨q - 1, r + y1, by omega, by omega, rfl, rfl, HQR, .mk (by rw [HT2.out]; exact HTT.out), by omega, by omega, .mk rfl, rfl⟩
        · have hfin := Bx.mk (kdI_done b u0 y1 y0 q r (by omega) (by omega) hqr.out (by rw [← HT2.out]; exact hT.out) (by omega))
          go_wp2
          go_meet
          exact ⟨by rw [HT2.out, ← hfin.out], rfl⟩
  case rest =>
  obtain ⟨rfl, rfl⟩ := hcut
  go_wp2
  go_ret2
  exact ⟨rfl, rfl⟩

end Go.Proofs.YtjbojoeafdkkeaaGreatDoor

namespace Go.Proofs.YtjbojoeafdkkeaaGreatDoor
open Go Go.RowKit Go.Lib

theorem mask32 (a : Int) (h0 : 0 ≤ a) (ha : a < 18446744073709551616) : bits BinOp.and IntKind.u64 a 4294967295 = a % 4294967296 := by
  obtain ⟨n, rfl⟩ := Int.eq_ofNat_of_zero_le h0
  rw [maskN n (by omega)]
  omega

theorem or_split (s : Nat) (h l : Nat) (hl : l < 2 ^ s) (hh : h * 2 ^ s < 18446744073709551616) (hl2 : l < 18446744073709551616) :
    bits BinOp.or IntKind.u64 ((h * 2 ^ s : Nat) : Int) (l : Int) = ((h * 2 ^ s + l : Nat) : Int) := by
  rw [bits_or_u64_nat _ _ hh hl2]
  have := Nat.shiftLeft_add_eq_or_of_lt hl h
  rw [Nat.shiftLeft_eq] at this
  rw [this]

theorem kdI_two (U h l Y : Int) (hY : 0 < Y) (hU : U = h * 4294967296 + l) :
    U / Y = h / Y * 4294967296 + ((h % Y) * 4294967296 + l) / Y ∧ U % Y = ((h % Y) * 4294967296 + l) % Y := by
  subst hU
  have e : h * 4294967296 + l = ((h % Y) * 4294967296 + l) + Y * (h / Y * 4294967296) := by
    have h1 := Int.mul_ediv_add_emod h Y
    have h2 : h * 4294967296 = (Y * (h / Y) + h % Y) * 4294967296 := by rw [h1]
    rw [h2, Int.add_mul, Int.mul_assoc Y]
    omega
  rw [e]
  constructor
  · rw [Int.add_mul_ediv_left _ _ (by omega)]; omega
  · rw [Int.add_mul_emod_self_left]

/-- The numbers of the division, all at once: M the power of two that normalizes. -/
theorem div_sum (hi lo y Y a M y1 y0 u1 u0 T b T2 R : Int) (hM : 0 < M) (hY : Y = y * M) (hy : 0 < y) (hY1 : Y = y1 * 4294967296 + y0)
    (hU : (hi * 18446744073709551616 + lo) * M = (a * 4294967296 + u1) * 4294967296 + u0)
    (hT : T = (a * 4294967296 + u1) / Y) (hb : b = (a * 4294967296 + u1) % Y) (hT2 : T2 = (b * 4294967296 + u0) / Y) (hR : R = (b * 4294967296 + u0) % Y) :
    T * 4294967296 + T2 = (hi * 18446744073709551616 + lo) / y ∧ R / M = (hi * 18446744073709551616 + lo) % y := by
  have hY0 : 0 < Y := by rw [hY]; exact Int.mul_pos hy hM
  obtain ⟨h1, h2⟩ := kdI_two _ (a * 4294967296 + u1) u0 Y hY0 hU
  constructor
  · rw [hT, hT2, hb, ← h1, hY, Int.mul_ediv_mul_of_pos_left _ _ hM]
  · rw [hR, hb, ← h2, hY, Int.mul_comm _ M, Int.mul_comm y M, Int.mul_emod_mul_of_pos _ _ hM, Int.mul_ediv_cancel_left _ (by omega)]

theorem lz_62 (y : Int) (hy : 2305843009213693952 ≤ y) (hy2 : y < 4611686018427387904) : (64 : Int) - (Lib.bitLen y.toNat : Int) = 2 := by
  have h1 := Lib.bitLen_shift56 y.toNat (by omega) (by omega)
  have h2 : y.toNat / 72057594037927936 < 64 := by omega
  have h3 : 32 ≤ y.toNat / 72057594037927936 := by omega
  have e : ∀ n : Fin 64, 32 ≤ n.val → Lib.bitLen n.val = 6 := by decide +kernel
  have h4 := e ⟨_, h2⟩ h3
  simp only at h4
  omega

/-- math/bits.Div64 at a divisor of 62 bits: quotient and remainder. -/
theorem div64_62 (hi lo y : Int) (w : World) (hy : 2305843009213693952 ≤ y) (hy2 : y < 4611686018427387904) (hh0 : 0 ≤ hi) (hh : hi < y) (hl0 : 0 ≤ lo) (hl : lo < 18446744073709551616) :
    Calls Tryz.prog 165 #[.int .u64 hi, .int .u64 lo, .int .u64 y] w fun e w' =>
      e = .returned (.tuple #[.int .u64 ((hi * 18446744073709551616 + lo) / y), .int .u64 ((hi * 18446744073709551616 + lo) % y)]) ∧ ∃ n, w' = w.drewN n := by
  by_cases h0 : hi = 0
  · subst h0
    have hyne : (y == 0) = false := by simp; omega
    have hyne' : ¬ y = 0 := by omega
    have hyh : decide (y ≤ 0) = false := by simp; omega
    go_enter Tryz.func165, Tryz.ntmps165
    go_wp2
    go_quiet (fail)
    go_wp2
    go_ret2
    exact ⟨by simp, ⟨_, rfl⟩⟩
  · obtain ⟨Y, HY⟩ : ∃ Y, y * 4 = Y := ⟨_, rfl⟩
    obtain ⟨a, ha⟩ : ∃ a, a = hi * 4 + lo / 4611686018427387904 := ⟨_, rfl⟩
    obtain ⟨y1, hy1⟩ : ∃ y1, y1 = Y / 4294967296 := ⟨_, rfl⟩
    obtain ⟨y0, hy0⟩ : ∃ y0, y0 = Y % 4294967296 := ⟨_, rfl⟩
    obtain ⟨l4, hl4⟩ : ∃ l4, l4 = (lo * 4) % 18446744073709551616 := ⟨_, rfl⟩
    obtain ⟨u1, hu1⟩ : ∃ u1, u1 = l4 / 4294967296 := ⟨_, rfl⟩
    obtain ⟨u0, hu0⟩ : ∃ u0, u0 = l4 % 4294967296 := ⟨_, rfl⟩
    have hY1 : Y = y1 * 4294967296 + y0 := by omega
    have hYp : 0 < Y := by omega
    have laY : a < Y := by omega
    obtain ⟨T, hT⟩ : ∃ T, T = (a * 4294967296 + u1) / Y := ⟨_, rfl⟩
    obtain ⟨b, hb⟩ : ∃ b, b = (a * 4294967296 + u1) % Y := ⟨_, rfl⟩
    obtain ⟨T2, hT2⟩ : ∃ T2, T2 = (b * 4294967296 + u0) / Y := ⟨_, rfl⟩
    obtain ⟨R, hR⟩ : ∃ R, R = (b * 4294967296 + u0) % Y := ⟨_, rfl⟩
    have hs := div_sum hi lo y Y a 4 y1 y0 u1 u0 T b T2 R (by omega) HY.symm (by omega) hY1 (by omega) hT hb hT2 hR
    have lb0 : 0 ≤ b := by rw [hb]; exact Int.emod_nonneg _ (by omega)
    have lb : b < Y := by rw [hb]; exact Int.emod_lt_of_pos _ hYp
    have lR0 : 0 ≤ R := by rw [hR]; exact Int.emod_nonneg _ (by omega)
    have lR : R < Y := by rw [hR]; exact Int.emod_lt_of_pos _ hYp
    have eb : a * 4294967296 + u1 - T * Y = b := by have := Int.mul_ediv_add_emod (a * 4294967296 + u1) Y; rw [← hT, ← hb, Int.mul_comm] at this; omega
    have eR : b * 4294967296 + u0 - T2 * Y = R := by have := Int.mul_ediv_add_emod (b * 4294967296 + u0) Y; rw [← hT2, ← hR, Int.mul_comm] at this; omega
    have lT0 : 0 ≤ T := by rw [hT]; exact Int.ediv_nonneg (by omega) (by omega)
    have lT20 : 0 ≤ T2 := by rw [hT2]; exact Int.ediv_nonneg (by omega) (by omega)
    have lT : T < 4294967296 := by rw [hT]; exact kdI_lt a u1 Y laY hYp (by omega)
    have lT2 : T2 < 4294967296 := by rw [hT2]; exact kdI_lt b u0 Y lb hYp (by omega)
    have ho : bits BinOp.or IntKind.u64 (hi * 4) (lo / 4611686018427387904) = a := by
      have := or_split 2 hi.toNat (lo / 4611686018427387904).toNat (by omega) (by omega) (by omega)
      have e1 : ((hi.toNat * 2 ^ 2 : Nat) : Int) = hi * 4 := by omega
      have e2 : (((lo / 4611686018427387904).toNat : Nat) : Int) = lo / 4611686018427387904 := by omega
      rw [e1, e2] at this
      rw [this, ha]
      omega
    refine (div64_62_core hi lo y Y a y1 y0 l4 u1 u0 T b T2 R w hy hy2 (by omega) hh hl0 hl (.mk (lz_62 y hy hy2)) HY hYp (by omega) ho hy1.symm
      (by rw [mask32 Y (by omega) (by omega), hy0]) (by rw [IntKind.wrap_u64, hl4]) hu1.symm (by rw [mask32 l4 (by omega) (by omega), hu0]) (by omega) (by omega)
      (by omega) (by omega) (by omega) (by omega) (by omega) (by omega) (by omega) (by omega) (by omega) (by omega) (.mk hY1) (.mk (by rw [← hY1]; exact hT)) (.mk eb) lb0 (by omega)
      (.mk (by rw [← hY1]; exact hT2)) (.mk eR) lR0 (by omega) lT0 lT lT20 lT2).mono ?_
    rintro e w' ⟨rfl, rfl⟩
    rw [hs.1, hs.2]
    exact ⟨rfl, 0, rfl⟩

theorem lz_61 (y : Int) (hy : 1152921504606846976 ≤ y) (hy2 : y < 2305843009213693952) : (64 : Int) - (Lib.bitLen y.toNat : Int) = 3 := by
  have h1 := Lib.bitLen_shift56 y.toNat (by omega) (by omega)
  have h2 : y.toNat / 72057594037927936 < 32 := by omega
  have h3 : 16 ≤ y.toNat / 72057594037927936 := by omega
  have e : ∀ n : Fin 32, 16 ≤ n.val → Lib.bitLen n.val = 5 := by decide +kernel
  have h4 := e ⟨_, h2⟩ h3
  simp only at h4
  omega

/-- math/bits.Div64 at a divisor of 61 bits: quotient and remainder. -/
theorem div64_61 (hi lo y : Int) (w : World) (hy : 1152921504606846976 ≤ y) (hy2 : y < 2305843009213693952) (hh0 : 0 ≤ hi) (hh : hi < y) (hl0 : 0 ≤ lo) (hl : lo < 18446744073709551616) :
    Calls Tryz.prog 165 #[.int .u64 hi, .int .u64 lo, .int .u64 y] w fun e w' =>
      e = .returned (.tuple #[.int .u64 ((hi * 18446744073709551616 + lo) / y), .int .u64 ((hi * 18446744073709551616 + lo) % y)]) ∧ ∃ n, w' = w.drewN n := by
  by_cases h0 : hi = 0
  · subst h0
    have hyne : (y == 0) = false := by simp; omega
    have hyne' : ¬ y = 0 := by omega
    have hyh : decide (y ≤ 0) = false := by simp; omega
    go_enter Tryz.func165, Tryz.ntmps165
    go_wp2
    go_quiet (fail)
    go_wp2
    go_ret2
    exact ⟨by simp, ⟨_, rfl⟩⟩
  · obtain ⟨Y, HY⟩ : ∃ Y, y * 8 = Y := ⟨_, rfl⟩
    obtain ⟨a, ha⟩ : ∃ a, a = hi * 8 + lo / 2305843009213693952 := ⟨_, rfl⟩
    obtain ⟨y1, hy1⟩ : ∃ y1, y1 = Y / 4294967296 := ⟨_, rfl⟩
    obtain ⟨y0, hy0⟩ : ∃ y0, y0 = Y % 4294967296 := ⟨_, rfl⟩
    obtain ⟨l4, hl4⟩ : ∃ l4, l4 = (lo * 8) % 18446744073709551616 := ⟨_, rfl⟩
    obtain ⟨u1, hu1⟩ : ∃ u1, u1 = l4 / 4294967296 := ⟨_, rfl⟩
    obtain ⟨u0, hu0⟩ : ∃ u0, u0 = l4 % 4294967296 := ⟨_, rfl⟩
    have hY1 : Y = y1 * 4294967296 + y0 := by omega
    have hYp : 0 < Y := by omega
    have laY : a < Y := by omega
    obtain ⟨T, hT⟩ : ∃ T, T = (a * 4294967296 + u1) / Y := ⟨_, rfl⟩
    obtain ⟨b, hb⟩ : ∃ b, b = (a * 4294967296 + u1) % Y := ⟨_, rfl⟩
    obtain ⟨T2, hT2⟩ : ∃ T2, T2 = (b * 4294967296 + u0) / Y := ⟨_, rfl⟩
    obtain ⟨R, hR⟩ : ∃ R, R = (b * 4294967296 + u0) % Y := ⟨_, rfl⟩
    have hs := div_sum hi lo y Y a 8 y1 y0 u1 u0 T b T2 R (by omega) HY.symm (by omega) hY1 (by omega) hT hb hT2 hR
    have lb0 : 0 ≤ b := by rw [hb]; exact Int.emod_nonneg _ (by omega)
    have lb : b < Y := by rw [hb]; exact Int.emod_lt_of_pos _ hYp
    have lR0 : 0 ≤ R := by rw [hR]; exact Int.emod_nonneg _ (by omega)
    have lR : R < Y := by rw [hR]; exact Int.emod_lt_of_pos _ hYp
    have eb : a * 4294967296 + u1 - T * Y = b := by have := Int.mul_ediv_add_emod (a * 4294967296 + u1) Y; rw [← hT, ← hb, Int.mul_comm] at this; omega
    have eR : b * 4294967296 + u0 - T2 * Y = R := by have := Int.mul_ediv_add_emod (b * 4294967296 + u0) Y; rw [← hT2, ← hR, Int.mul_comm] at this; omega
    have lT0 : 0 ≤ T := by rw [hT]; exact Int.ediv_nonneg (by omega) (by omega)
    have lT20 : 0 ≤ T2 := by rw [hT2]; exact Int.ediv_nonneg (by omega) (by omega)
    have lT : T < 4294967296 := by rw [hT]; exact kdI_lt a u1 Y laY hYp (by omega)
    have lT2 : T2 < 4294967296 := by rw [hT2]; exact kdI_lt b u0 Y lb hYp (by omega)
    have ho : bits BinOp.or IntKind.u64 (hi * 8) (lo / 2305843009213693952) = a := by
      have := or_split 3 hi.toNat (lo / 2305843009213693952).toNat (by omega) (by omega) (by omega)
      have e1 : ((hi.toNat * 2 ^ 3 : Nat) : Int) = hi * 8 := by omega
      have e2 : (((lo / 2305843009213693952).toNat : Nat) : Int) = lo / 2305843009213693952 := by omega
      rw [e1, e2] at this
      rw [this, ha]
      omega
    refine (div64_61_core hi lo y Y a y1 y0 l4 u1 u0 T b T2 R w hy hy2 (by omega) hh hl0 hl (.mk (lz_61 y hy hy2)) HY hYp (by omega) ho hy1.symm
      (by rw [mask32 Y (by omega) (by omega), hy0]) (by rw [IntKind.wrap_u64, hl4]) hu1.symm (by rw [mask32 l4 (by omega) (by omega), hu0]) (by omega) (by omega)
      (by omega) (by omega) (by omega) (by omega) (by omega) (by omega) (by omega) (by omega) (by omega) (by omega) (.mk hY1) (.mk (by rw [← hY1]; exact hT)) (.mk eb) lb0 (by omega)
      (.mk (by rw [← hY1]; exact hT2)) (.mk eR) lR0 (by omega) lT0 lT lT20 lT2).mono ?_
    rintro e w' ⟨rfl, rfl⟩
    rw [hs.1, hs.2]
    exact ⟨rfl, 0, rfl⟩

theorem mul64_i (x y : Int) (w : World) (hx0 : 0 ≤ x) (hy0 : 0 ≤ y) (hx : x < 18446744073709551616) (hy : y < 18446744073709551616) :
    Calls Tryz.prog 164 #[.int .u64 x, .int .u64 y] w fun e w' => e = .returned (.tuple #[.int .u64 (x * y / 18446744073709551616), .int .u64 (x * y % 18446744073709551616)]) ∧ w = w' := by
  obtain ⟨x, rfl⟩ := Int.eq_ofNat_of_zero_le hx0
  obtain ⟨y, rfl⟩ := Int.eq_ofNat_of_zero_le hy0
  have h := mul64_c x y (by omega) (by omega) w
  have e1 : ((x * y / 18446744073709551616 : Nat) : Int) = (x : Int) * (y : Int) / 18446744073709551616 := by rw [← Int.natCast_mul]; omega
  have e2 : ((x * y % 18446744073709551616 : Nat) : Int) = (x : Int) * (y : Int) % 18446744073709551616 := by rw [← Int.natCast_mul]; omega
  rw [e1, e2] at h
  exact h

theorem mul_bound (a b : Int) (ha : 0 ≤ a) (hb : 0 ≤ b) (ha2 : a < 4611686018427387904) (hb2 : b < 4611686018427387904) : 0 ≤ a * b ∧ a * b < 21267647932558653966460912964485513216 := by
  refine ⟨Int.mul_nonneg ha hb, ?_⟩
  have := Int.mul_le_mul (show a ≤ 4611686018427387903 by omega) (show b ≤ 4611686018427387903 by omega) hb (by omega)
  omega

/-- group.times: the product modulo P. -/
theorem times_c (a b : Int) (w : World) (ha : 0 ≤ a) (hb : 0 ≤ b) (ha2 : a < 4611686018427387904) (hb2 : b < 4611686018427387904) :
    Calls Tryz.prog 116 #[.int .u64 a, .int .u64 b] w fun e w' => e = .returned (.int .u64 (a * b % 4611686018427377339)) ∧ ∃ n, w' = w.drewN n := by
  obtain ⟨hm0, hm⟩ := mul_bound a b ha hb ha2 hb2
  obtain ⟨m, hmm⟩ : ∃ m, m = a * b := ⟨_, rfl⟩
  rw [← hmm] at hm0 hm
  have HM := Bx.mk hmm; clear hmm
  have hhi : 0 ≤ m / 18446744073709551616 := by omega
  have hhi2 : m / 18446744073709551616 < 4611686018427377339 := by omega
  have hlo : 0 ≤ m % 18446744073709551616 := by omega
  have hlo2 : m % 18446744073709551616 < 18446744073709551616 := by omega
  have hsum : m / 18446744073709551616 * 18446744073709551616 + m % 18446744073709551616 = m := by omega
  have H1 := mul64_i a b w ha hb (by omega) (by omega)
  rw [← HM.out] at H1
  have H2 := div64_62 (m / 18446744073709551616) (m % 18446744073709551616) 4611686018427377339 w (by omega) (by omega) hhi hhi2 hlo hlo2
  rw [hsum] at H2
  rw [← HM.out]
  have H1' := Bx.mk H1; clear H1
  have H2' := Bx.mk H2; clear H2
  clear hhi hhi2 hlo hlo2 hsum hm0 hm ha hb ha2 hb2 HM
  go_enter Tryz.func116, Tryz.ntmps116
  go_wp2_with fail
  refine H1'.out.mono ?_
  rintro e w' ⟨rfl, rfl⟩
  go_wp2_with fail
  refine H2'.out.mono ?_
  rintro e w' ⟨rfl, ⟨n, rfl⟩⟩
  go_wp2_with fail
  go_ret
  exact ⟨rfl, n, rfl⟩

/-- field.product: the product modulo Q. -/
theorem product_c (a b : Int) (w : World) (ha : 0 ≤ a) (hb : 0 ≤ b) (ha2 : a < 2305843009213688669) (hb2 : b < 2305843009213688669) :
    Calls Tryz.prog 167 #[.int .i64 a, .int .i64 b] w fun e w' => e = .returned (.int .i64 (a * b % 2305843009213688669)) ∧ ∃ n, w' = w.drewN n := by
  obtain ⟨hm0, hm⟩ := mul_bound a b ha hb (by omega) (by omega)
  have hmq : a * b < 5316911983139650478230012970264891392 := by
    have := Int.mul_le_mul (show a ≤ 2305843009213688668 by omega) (show b ≤ 2305843009213688668 by omega) hb (by omega)
    omega
  obtain ⟨m, hmm⟩ : ∃ m, m = a * b := ⟨_, rfl⟩
  rw [← hmm] at hm0 hm hmq
  have HM := Bx.mk hmm; clear hmm
  have hhi : 0 ≤ m / 18446744073709551616 := by omega
  have hhi2 : m / 18446744073709551616 < 2305843009213688669 := by omega
  have hlo : 0 ≤ m % 18446744073709551616 := by omega
  have hlo2 : m % 18446744073709551616 < 18446744073709551616 := by omega
  have hsum : m / 18446744073709551616 * 18446744073709551616 + m % 18446744073709551616 = m := by omega
  have H1 := mul64_i a b w ha hb (by omega) (by omega)
  rw [← HM.out] at H1
  have H2 := div64_61 (m / 18446744073709551616) (m % 18446744073709551616) 2305843009213688669 w (by omega) (by omega) hhi hhi2 hlo hlo2
  rw [hsum] at H2
  rw [← HM.out]
  have hr0 : 0 ≤ m % 2305843009213688669 := by omega
  have hr1 : m % 2305843009213688669 < 2305843009213688669 := by omega
  have H1' := Bx.mk H1; clear H1
  have H2' := Bx.mk H2; clear H2
  clear hhi hhi2 hlo hlo2 hsum hm0 hm hmq HM
  go_enter Tryz.func167, Tryz.ntmps167
  go_wp2_with fail
  refine H1'.out.mono ?_
  rintro e w' ⟨rfl, rfl⟩
  go_wp2_with fail
  refine H2'.out.mono ?_
  rintro e w' ⟨rfl, ⟨n, rfl⟩⟩
  go_wp2_with fail
  go_ret
  exact ⟨rfl, n, rfl⟩
end Go.Proofs.YtjbojoeafdkkeaaGreatDoor
