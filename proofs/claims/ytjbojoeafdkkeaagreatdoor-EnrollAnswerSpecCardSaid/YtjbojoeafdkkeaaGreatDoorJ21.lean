/- The specification's words (chapter 2). -/
import Derived.Test.YtjbojoeafdkkeaaGreatDoorJ8
import Derived.Test.YtjbojoeafdkkeaaGreatDoorJ20
import Derived.Laws.BitsAllLaws
set_option linter.unusedVariables false
set_option linter.unusedSimpArgs false
namespace Go.Proofs.YtjbojoeafdkkeaaGreatDoor
open Go Go.RowKit Go.Lib

theorem or_comm_bits (k : IntKind) (x y : Int) : bits BinOp.or k x y = bits BinOp.or k y x := by
  show k.wrap _ = k.wrap _
  rw [BitVec.or_comm]
def b32 (x : Int) : BitVec 32 := BitVec.ofInt 32 x
theorem wrap_toNat (v : BitVec 32) : IntKind.u32.wrap (v.toNat : Int) = (v.toNat : Int) := by
  have := v.isLt
  rw [IntKind.wrap_u32']
  omega
theorem or32 (x y : Int) : bits BinOp.or IntKind.u32 x y = ((b32 x ||| b32 y).toNat : Int) := wrap_toNat _
theorem and32 (x y : Int) : bits BinOp.and IntKind.u32 x y = ((b32 x &&& b32 y).toNat : Int) := wrap_toNat _
theorem xor32 (x y : Int) : bits BinOp.xor IntKind.u32 x y = ((b32 x ^^^ b32 y).toNat : Int) := wrap_toNat _
theorem b32_toNat (v : BitVec 32) : b32 (v.toNat : Int) = v := by simp [b32]
theorem b32_nat (x : Int) : (b32 x).toNat = (x % 4294967296).toNat := by simp [b32, BitVec.toNat_ofInt]
theorem b32_mod (x : Int) : b32 (x % 4294967296) = b32 x := by
  apply BitVec.eq_of_toNat_eq
  rw [b32_nat, b32_nat]
  omega
theorem b32_shl8 (x : Int) : b32 (x * 256 % 4294967296) = b32 x <<< 8 := by
  apply BitVec.eq_of_toNat_eq
  rw [b32_nat, BitVec.toNat_shiftLeft, b32_nat, Nat.shiftLeft_eq]
  omega
theorem b32_shl16 (x : Int) : b32 (x * 65536 % 4294967296) = b32 x <<< 16 := by
  apply BitVec.eq_of_toNat_eq
  rw [b32_nat, BitVec.toNat_shiftLeft, b32_nat, Nat.shiftLeft_eq]
  omega
theorem b32_shl24 (x : Int) : b32 (x * 16777216 % 4294967296) = b32 x <<< 24 := by
  apply BitVec.eq_of_toNat_eq
  rw [b32_nat, BitVec.toNat_shiftLeft, b32_nat, Nat.shiftLeft_eq]
  omega
theorem shl_or (x y : BitVec 32) (n : Nat) : (x ||| y) <<< n = x <<< n ||| y <<< n := BitVec.shiftLeft_or_distrib x y n
theorem shl_shl (x : BitVec 32) (m n : Nat) : (x <<< m) <<< n = x <<< (m + n) := (BitVec.shiftLeft_add x m n).symm
theorem wd4_alt (c0 c1 c2 c3 : Int) : bits BinOp.or IntKind.u32 (bits BinOp.or IntKind.u32 (bits BinOp.or IntKind.u32 (c0 % 4294967296 * 16777216 % 4294967296) (c1 % 4294967296 * 65536 % 4294967296)) (c2 % 4294967296 * 256 % 4294967296)) (c3 % 4294967296) = wd4 c0 c1 c2 c3 := by
  unfold wd4
  simp only [or32, b32_toNat, b32_shl8, b32_shl16, b32_shl24]
  simp only [b32_mod, shl_or, shl_shl, show b32 0 = 0#32 by decide]
  simp
theorem ch_alt (e f g : Int) : bits BinOp.xor IntKind.u32 (bits BinOp.and IntKind.u32 e f) (bits BinOp.and IntKind.u32 (bits BinOp.xor IntKind.u32 (-1) e) g) = bits BinOp.xor IntKind.u32 g (bits BinOp.and IntKind.u32 e (bits BinOp.xor IntKind.u32 f g)) := by
  simp only [and32, xor32, b32_toNat]
  congr 2
  generalize b32 e = x; generalize b32 f = y; generalize b32 g = z
  apply BitVec.eq_of_getLsbD_eq
  intro i hi
  have h1 : (b32 (-1)).getLsbD i = true := by rw [show b32 (-1) = BitVec.allOnes 32 by decide, BitVec.getLsbD_allOnes]; simpa using hi
  simp only [BitVec.getLsbD_xor, BitVec.getLsbD_and, h1]
  cases x.getLsbD i <;> cases y.getLsbD i <;> cases z.getLsbD i <;> rfl
theorem maj_alt (a b c : Int) : bits BinOp.xor IntKind.u32 (bits BinOp.xor IntKind.u32 (bits BinOp.and IntKind.u32 a b) (bits BinOp.and IntKind.u32 a c)) (bits BinOp.and IntKind.u32 b c) = bits BinOp.or IntKind.u32 (bits BinOp.and IntKind.u32 a b) (bits BinOp.and IntKind.u32 c (bits BinOp.or IntKind.u32 a b)) := by
  simp only [and32, xor32, or32, b32_toNat]
  congr 2
  generalize b32 a = x; generalize b32 b = y; generalize b32 c = z
  apply BitVec.eq_of_getLsbD_eq
  intro i hi
  simp only [BitVec.getLsbD_xor, BitVec.getLsbD_and, BitVec.getLsbD_or]
  cases x.getLsbD i <;> cases y.getLsbD i <;> cases z.getLsbD i <;> rfl

set_option maxHeartbeats 2000000 in
theorem rror_c (n : Int) (hn : n = 2 ∨ n = 6 ∨ n = 7 ∨ n = 11 ∨ n = 13 ∨ n = 17 ∨ n = 18 ∨ n = 19 ∨ n = 22 ∨ n = 25) (v : Int) (w : World) :
    Calls Tryz.prog 205 #[.int .u32 v, .int .i64 n] w fun e w' => e = .returned (.int .u32 (ror n.toNat v)) ∧ ∃ m, w' = w.drewN m := by
  have HC := Bx.mk (fun x y => or_comm_bits .u32 x y)
  rcases hn with rfl | rfl | rfl | rfl | rfl | rfl | rfl | rfl | rfl | rfl
  all_goals
    go_enter Tryz.func205, Tryz.ntmps205
    go_wp2_with fail
    go_quiet (fail)
    go_wp2_with fail
    go_ret
    refine ⟨?_, _, rfl⟩
    unfold ror
    rw [HC.out]
    rfl
set_option maxHeartbeats 2000000 in
theorem rword_c (b o n cap : Nat) (c0 c1 c2 c3 : Int) (w : World) (hn : n = 4) (h0 : w.cell? ⟨b, o, none⟩ = some (.int .u8 c0)) (h1 : w.cell? ⟨b, o + 1, none⟩ = some (.int .u8 c1)) (h2 : w.cell? ⟨b, o + 2, none⟩ = some (.int .u8 c2)) (h3 : w.cell? ⟨b, o + 3, none⟩ = some (.int .u8 c3)) :
    Calls Tryz.prog 204 #[.slice (some ⟨b, o, none⟩) n cap] w fun e w' => e = .returned (.int .u32 (wd4 c0 c1 c2 c3)) ∧ ∃ m, w' = w.drewN m := by
  subst hn
  go_enter Tryz.func204, Tryz.ntmps204
  go_wp2_with fail
  go_quiet (fail)
  go_wp2_with fail
  go_ret
  refine ⟨?_, _, rfl⟩
  rw [← wd4_alt]
  rfl
end Go.Proofs.YtjbojoeafdkkeaaGreatDoor
