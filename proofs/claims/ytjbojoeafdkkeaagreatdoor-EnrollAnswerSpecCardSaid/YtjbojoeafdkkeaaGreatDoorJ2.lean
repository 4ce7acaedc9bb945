/- Walks: math/bits.Mul64, Len64, LeadingZeros64, Div64. -/
import Derived.WalkKit
import Derived.WalkLawsBesides
import Derived.WalkSpells
import Derived.BigQuiet
import Derived.Deep.QuietTactic
import Derived.Deep.LoopGhost
import Derived.Deep.DeepCutAuto
import Derived.Lib.Mul64
import Derived.Lib.BitFns
import Derived.Lib.Strings
import Derived.Lib.Slices
import Derived.Lib.Small
import Derived.Lib.Walk
import Derived.Lib.Hide
import Derived.Laws.Bits64b
import Derived.Test.YtjbojoeafdkkeaaGreatDoorProg
import Derived.Test.YtjbojoeafdkkeaaGreatDoorJ1
set_option linter.unusedVariables false
set_option linter.unusedSimpArgs false
namespace Go.Proofs.YtjbojoeafdkkeaaGreatDoor
open Go Go.RowKit Go.Lib

theorem maskN (a : Nat) (ha : a < 18446744073709551616) : bits .and .u64 (a : Int) 4294967295 = ((a % 4294967296 : Nat) : Int) := by
  have h := bits_and_u64_nat a 4294967295 ha (by omega)
  have e : a &&& 4294967295 = a % 4294967296 := Nat.and_two_pow_sub_one_eq_mod a 32
  rw [e] at h
  exact h
theorem divN (a : Nat) : (a : Int) / 4294967296 = ((a / 4294967296 : Nat) : Int) := by omega
theorem mulN (a b : Nat) : (a : Int) * (b : Int) = ((a * b : Nat) : Int) := (Int.natCast_mul a b).symm
theorem addN (a b : Nat) : (a : Int) + (b : Int) = ((a + b : Nat) : Int) := (Int.natCast_add a b).symm
theorem wrapN (a : Nat) (ha : a < 18446744073709551616) : IntKind.u64.wrap (a : Int) = (a : Int) := by rw [IntKind.wrap_u64]; omega
theorem wrapM (a : Nat) : IntKind.u64.wrap (a : Int) = ((a % 18446744073709551616 : Nat) : Int) := by rw [IntKind.wrap_u64]; omega

set_option maxHeartbeats 1000000 in
theorem mul64_c (x y : Nat) (hx : x < 18446744073709551616) (hy : y < 18446744073709551616) (w : World) :
    Calls Tryz.prog 164 #[.int .u64 x, .int .u64 y] w fun e w' => e = .returned (.tuple #[.int .u64 ((x * y / 18446744073709551616 : Nat) : Int), .int .u64 ((x * y % 18446744073709551616 : Nat) : Int)]) ∧ w = w' := by
  obtain ⟨bd, bt, bw, hhi⟩ := Lib.mul64_hi x y hx hy
  have ba := Lib.half_mul_le (a := x / 4294967296) (b := y / 4294967296) (by omega) (by omega)
  have bb := Lib.half_mul_le (a := x / 4294967296) (b := y % 4294967296) (by omega) (by omega)
  have bc := Lib.half_mul_le (a := x % 4294967296) (b := y / 4294967296) (by omega) (by omega)
  have ba' : x / 4294967296 * (y / 4294967296) < 18446744073709551616 := by omega
  have bb' : x / 4294967296 * (y % 4294967296) < 18446744073709551616 := by omega
  have bc' : x % 4294967296 * (y / 4294967296) < 18446744073709551616 := by omega
  have bh1 : x / 4294967296 * (y / 4294967296) + (x / 4294967296 * (y % 4294967296) + x % 4294967296 * (y % 4294967296) / 4294967296) / 4294967296 < 18446744073709551616 := by omega
  have bh : x / 4294967296 * (y / 4294967296) + (x / 4294967296 * (y % 4294967296) + x % 4294967296 * (y % 4294967296) / 4294967296) / 4294967296 + ((x / 4294967296 * (y % 4294967296) + x % 4294967296 * (y % 4294967296) / 4294967296) % 4294967296 + x % 4294967296 * (y / 4294967296)) / 4294967296 < 18446744073709551616 := by omega
  go_enter Tryz.func164, Tryz.ntmps164
  go_wp2
  simp only [maskN x hx, maskN y hy, divN, mulN, addN, wrapN _ bd, wrapN _ bb', wrapN _ bt, maskN _ bt, wrapN _ bc', wrapN _ bw, wrapN _ ba', wrapN _ bh1, wrapN _ bh, wrapM (x * y)]
  rw [hhi]
  go_ret2
  exact ⟨rfl, rfl⟩

theorem tab_len (n : Nat) (h : n < len8tab.size) : ((len8tab[n]'h).toNat : Int) = (Lib.bitLen n : Int) := by
  have h' : n < 256 := by rw [len8tab_size] at h; exact h
  have e := len8_eq ⟨n, h'⟩
  simp only [len8, Int.toNat_natCast] at e
  rw [ByteArray.getElem?_lt' _ _ h] at e
  simpa using e
theorem bitLen_small (n : Nat) (h : n < 256) : Lib.bitLen n ≤ 8 := Lib.bitLen_le8 ⟨n, h⟩

theorem fin_len (x : Int) (k m : Nat) (i : Int) (hp : i.toNat < len8tab.size) (hk : Lib.bitLen x.toNat = k + Lib.bitLen (x.toNat / m)) (he : i.toNat = x.toNat / m) (hk2 : k ≤ 56) :
    wrap64 ((k : Int) + wrap64 ((len8tab[i.toNat]'hp).toNat : Int)) = (Lib.bitLen x.toNat : Int) := by
  have hs : i.toNat < 256 := by rw [len8tab_size] at hp; exact hp
  have l := bitLen_small i.toNat hs
  rw [tab_len, hk, ← he]
  unfold wrap64
  omega
theorem fin_len0 (x : Int) (hp : x.toNat < len8tab.size) :
    wrap64 (wrap64 ((len8tab[x.toNat]'hp).toNat : Int)) = (Lib.bitLen x.toNat : Int) := by
  have hs : x.toNat < 256 := by rw [len8tab_size] at hp; exact hp
  have l := bitLen_small x.toNat hs
  rw [tab_len]
  unfold wrap64
  omega

set_option maxHeartbeats 1000000 in
set_option maxRecDepth 100000 in
theorem len64_c (x : Int) (w : World) (h0 : 0 ≤ x) (h1 : x ≤ 18446744073709551615) :
    Calls Tryz.prog 163 #[.int .u64 x] w fun e w' => e = .returned (.int .i64 (Lib.bitLen x.toNat)) ∧ w = w' := by
  have hsz : (len8tab.size : Int) = 256 := by rw [len8tab_size]; rfl
  go_enter Tryz.func163, Tryz.ntmps163
  go_wp2
  all_goals (go_ret; refine ⟨congrArg Ending.returned (congrArg (Value.int IntKind.i64) ?_), rfl⟩)
  · exact fin_len x 56 72057594037927936 _ _ (Lib.bitLen_shift56 x.toNat (by omega) (by omega)) (by omega) (by omega)
  · exact fin_len x 48 281474976710656 _ _ (Lib.bitLen_shift48 x.toNat (by omega) (by omega)) (by omega) (by omega)
  · exact fin_len x 40 1099511627776 _ _ (Lib.bitLen_shift40 x.toNat (by omega) (by omega)) (by omega) (by omega)
  · exact fin_len x 32 4294967296 _ _ (Lib.bitLen_shift32 x.toNat (by omega) (by omega)) (by omega) (by omega)
  · exact fin_len x 24 16777216 _ _ (Lib.bitLen_shift24 x.toNat (by omega) (by omega)) (by omega) (by omega)
  · exact fin_len x 16 65536 _ _ (Lib.bitLen_shift16 x.toNat (by omega) (by omega)) (by omega) (by omega)
  · exact fin_len x 8 256 _ _ (Lib.bitLen_shift8 x.toNat (by omega) (by omega)) (by omega) (by omega)
  · exact fin_len0 x _

theorem lz64_c (x : Int) (w : World) (h0 : 0 ≤ x) (h1 : x ≤ 18446744073709551615) :
    Calls Tryz.prog 191 #[.int .u64 x] w fun e w' => e = .returned (.int .i64 (64 - Lib.bitLen x.toNat)) ∧ w = w' := by
  have hb : Lib.bitLen x.toNat ≤ 64 := Lib.bitLen_le x.toNat 64 (by omega) (by omega)
  go_enter Tryz.func191, Tryz.ntmps191
  go_wp2_with (go_at_call 163; refine (len64_c _ _ (by omega) (by omega)).mono ?_; rintro e w' ⟨rfl, rfl⟩)
  go_ret
  exact ⟨rfl, rfl⟩
end Go.Proofs.YtjbojoeafdkkeaaGreatDoor
