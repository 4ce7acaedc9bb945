/- codec: unsigned, the writers, Encode. -/
import Derived.Test.YtjbojoeafdkkeaaGreatDoorJ5
import Derived.Deep.RegionHeld3
import Derived.Deep.RegionWith
import Derived.Deep.RegionLaw
import Derived.StillTailTactics
import Derived.Lib.Zigzag
set_option linter.unusedVariables false
set_option linter.unusedSimpArgs false
namespace Go.Proofs.YtjbojoeafdkkeaaGreatDoor
open Go Go.RowKit Go.Lib

/-- The unsigned form of an integer. -/
def zig (n : Int) : Int := if 0 ≤ n then 2 * n else -2 * n - 1
theorem zig_range {n : Int} (h0 : -9223372036854775808 ≤ n) (h1 : n ≤ 9223372036854775807) : 0 ≤ zig n ∧ zig n < 18446744073709551616 := by
  unfold zig; split <;> omega

theorem xor_ones (b : Nat) (hb : b < 18446744073709551616) : b ^^^ 18446744073709551615 = 18446744073709551615 - b := by
  rw [Nat.xor_comm]
  exact Lib.xor_ones64 b hb
theorem zig_pos (n : Int) (hn : 0 ≤ n) (h1 : n ≤ 9223372036854775807) : bits BinOp.xor IntKind.u64 (n * 2) (n / 9223372036854775808) = zig n := by
  have e : n / 9223372036854775808 = ((0 : Nat) : Int) := by omega
  have e2 : n * 2 = ((n.toNat * 2 : Nat) : Int) := by omega
  rw [e, e2, bits_xor_u64_nat _ _ (by omega) (by omega)]
  unfold zig
  rw [if_pos hn]
  simp
  omega
theorem zig_neg (n : Int) (hn : n < 0) (h0 : -9223372036854775808 ≤ n) :
    bits BinOp.xor IntKind.u64 (IntKind.u64.wrap (IntKind.u64.wrap n * 2)) (IntKind.u64.wrap (n / 9223372036854775808)) = zig n := by
  have e : IntKind.u64.wrap (n / 9223372036854775808) = ((18446744073709551615 : Nat) : Int) := by rw [IntKind.wrap_u64]; omega
  have e2 : IntKind.u64.wrap (IntKind.u64.wrap n * 2) = (((2 * n + 18446744073709551616).toNat : Nat) : Int) := by simp only [IntKind.wrap_u64]; omega
  rw [e, e2, bits_xor_u64_nat _ _ (by omega) (by omega), xor_ones _ (by omega)]
  unfold zig
  rw [if_neg (by omega)]
  omega

theorem one_new2 (w : World) (o : Obj) (t : TypeId) (x : Int) : ∀ j, (h : j < [x].length) → ((w.alloc o).alloc (.cells #[.int .u8 x] t)).drew.cell? ((⟨w.heap.size + 1, 0, none⟩ : Addr).add j) = some (.int .u8 [x][j]) := by
  intro j hj
  have h := one_new (w.alloc o) t x j hj
  rw [World.size_alloc] at h
  exact h
theorem unsigned_c (n : Int) (w : World) (h0 : -9223372036854775808 ≤ n) (h1 : n ≤ 9223372036854775807) :
    Calls Tryz.prog 127 #[.int .i64 n] w fun e w' => e = .returned (.int .u64 (zig n)) ∧ w = w' := by
  by_cases hn : 0 ≤ n
  · have hz := zig_pos n hn h1
    go_enter Tryz.func127, Tryz.ntmps127
    go_wp2
    go_ret
    exact ⟨rfl, rfl⟩
  · have hz := zig_neg n (by omega) h0
    go_enter Tryz.func127, Tryz.ntmps127
    go_wp2
    go_ret
    exact ⟨rfl, rfl⟩

set_option maxHeartbeats 4000000 in
set_option maxRecDepth 100000 in
theorem writeInt_c (v : Value) (l : List Int) (n : Int) (w : World) (h0 : -9223372036854775808 ≤ n) (h1 : n ≤ 9223372036854775807) (hown : Bytes w v l) (hl : l.length ≤ 4000) :
    Calls Tryz.prog 125 #[v, vInt n] w fun e w' => ∃ v', e = .returned v' ∧ Bytes w' v' (l ++ 1 :: numB 10 (zig n)) ∧ Since w v w' v' := by
  go_enter Tryz.func125, Tryz.ntmps125
  go_wp2_with fail
  have hsz := zig_range h0 h1
  have hlt := hown.lt
  have hB := Bx.mk (hown.alloc (.cells #[.int .i64 1, .int .i64 n, .string ⟨#[]⟩, .slice none 0 0] 59))
  have hne : some w.heap.size ≠ v.ownBlock := fun e => by have := hlt _ e.symm; omega
  have hB2 := Bx.mk (((hown.alloc (.cells #[.int .i64 1, .int .i64 n, .string ⟨#[]⟩, .slice none 0 0] 59)).alloc (.cells #[.int .u8 1] 5)).drew)
  have hS2 := Bx.mk ((((Since.refl w v).alloc (.cells #[.int .i64 1, .int .i64 n, .string ⟨#[]⟩, .slice none 0 0] 59)).alloc (.cells #[.int .u8 1] 5)).drewN 1)
  have hN2 := Bx.mk (one_new2 w (.cells #[.int .i64 1, .int .i64 n, .string ⟨#[]⟩, .slice none 0 0] 59) 5 1)
  have hzc := zig_range h0 h1
  clear hB hown
  go_region_held3 (fun w' => w'.cell? ⟨w.heap.size, 1, none⟩ = some (.int .i64 n)) (first | assumption | go_keep)
    (first
      | (refine step_app8 rfl (.tmp 5) (.tmp 6) rfl v l rfl hB2.out ⟨w.heap.size + 1, 0, none⟩ 1 1 [1] rfl rfl (by omega) hN2.out (by omega) ?_; intro v1 w1 hb1 hs1; have hk1 : w1.cell? ⟨w.heap.size, 1, none⟩ = some (.int .i64 n) := hs1.grown.cell (by assumption) hne)
      | (go_at_call 127; refine (unsigned_c n _ h0 h1).mono ?_; rintro e w' ⟨rfl, rfl⟩)
      | (go_at_call 126; refine (numeral_c v1 (l ++ [1]) (zig n) _ hzc.1 hzc.2 hb1 (by simp; omega)).mono ?_; rintro e w' ⟨v2, rfl, hb2, hs2⟩; have hk2 : w'.cell? ⟨w.heap.size, 1, none⟩ = some (.int .i64 n) := hs2.grown.cell hk1 (hs1.ne (by simp; omega) hne)))
  go_wp2
  go_ret
  exact ⟨v2, rfl, by simpa using hb2, hS2.out.trans (hs1.trans hs2)⟩
end Go.Proofs.YtjbojoeafdkkeaaGreatDoor
