/- group.digits and group.power: the range over a function, walked. -/
import Derived.RangeFuncNested
import Derived.RangeFuncBound
import Derived.RangeFuncCalls
import Derived.RangeFuncLeaves
import Derived.RangeFuncFrom
import Derived.Shelf.Abstract
import Derived.Shelf.RegionOpen
import Derived.WalkKit
import Derived.WalkSmall
import Derived.OwnWalkIn
import Derived.TacticsInMore
import Derived.LoopNIn
import Derived.LoopIn
import Derived.Test.YtjbojoeafdkkeaaGreatDoorJ3
import Derived.Test.YtjbojoeafdkkeaaGreatDoorJ1
set_option linter.unusedVariables false
set_option linter.unusedSimpArgs false
namespace Go.Proofs.YtjbojoeafdkkeaaGreatDoor
open Go Go.RowKit Go.Lib Go.Shelf
attribute [local go_sem] Oper.semAt_some

theorem bl_lt : ∀ (f x : Nat), x < 2 ^ f → x < 2 ^ bitLenAux f x
  | 0, x, h => by simpa [bitLenAux] using h
  | f + 1, x, h => by
    unfold bitLenAux
    split
    · rename_i h0; subst h0; simp
    · have := bl_lt f (x / 2) (by rw [Nat.pow_succ] at h; omega)
      rw [Nat.add_comm, Nat.pow_succ]
      omega
theorem bl_start (k : Int) (h0 : 0 ≤ k) (h1 : k ≤ 18446744073709551615) : ((bval [] : Nat) : Int) = k / 2 ^ ((Lib.bitLen k.toNat : Int) - 1 + 1).toNat := by
  have h := bl_lt 64 k.toNat (by omega)
  change k.toNat < 2 ^ Lib.bitLen k.toNat at h
  have e : ((Lib.bitLen k.toNat : Int) - 1 + 1).toNat = Lib.bitLen k.toNat := by omega
  rw [e, bval_nil]
  have h2 : k < 2 ^ Lib.bitLen k.toNat := by
    have : ((2 ^ Lib.bitLen k.toNat : Nat) : Int) = (2 : Int) ^ Lib.bitLen k.toNat := by simp
    omega
  rw [Int.ediv_eq_zero_of_lt h0 h2]
  rfl

theorem bl_step (k : Int) (h0 : 0 ≤ k) (h1 : k ≤ 18446744073709551615) (i : Int) (hi : 0 ≤ i) (pre : List Bool) (h : ((bval pre : Nat) : Int) = k / 2 ^ (i + 1).toNat) :
    ((bval (pre ++ [bits BinOp.and IntKind.u64 (k / 2 ^ i.toNat) 1 == 1]) : Nat) : Int) = k / 2 ^ i.toNat := by
  have e : (i + 1).toNat = i.toNat + 1 := by omega
  have hp : (0 : Int) < 2 ^ i.toNat := Int.pow_pos (by decide)
  have hq : 0 ≤ k / 2 ^ i.toNat := Int.ediv_nonneg h0 (by omega)
  have hq1 : k / 2 ^ i.toNat ≤ k := Int.ediv_le_self _ h0
  rw [e, Int.pow_succ, ← Int.ediv_ediv_of_nonneg (by omega)] at h
  rw [bval_snoc, and_one_u64 _ hq (by omega)]
  generalize k / 2 ^ i.toNat = v at *
  by_cases hv : v % 2 = 1
  · simp [hv]; omega
  · simp [hv]; omega

/-- The box of k lies as it lay. -/
def KeepBox (B : Nat) (v : Value) (W W' : World) : Prop := W.cell? ⟨B, 0, none⟩ = some v → W'.cell? ⟨B, 0, none⟩ = some v
theorem KeepBox.t {B : Nat} {v : Value} {A W C : World} (h : KeepBox B v A W) (k : KeepBox B v W C) : KeepBox B v A C := fun x => k (h x)
theorem KeepBox.b {B : Nat} {v : Value} (n : Nat) (W : World) (l : Nat) (o o' : Obj) (_ : n ≤ l) (h : W.heap[l]? = some o) (hc : o.isCells = false) (_ : o.isWalk = false) : KeepBox B v W (W.putObj l o') := fun x =>
  cell_kept x (grownBy_putObj' W l o') (fun r e => by cases e; exact ⟨o, h, hc⟩)

set_option maxRecDepth 100000 in
set_option maxHeartbeats 2000000 in
theorem digits1_in (l Bn : Nat) (k : Int) (hk0 : 0 ≤ k) (hk1 : k ≤ 18446744073709551615) (J Jx : List Bool → World → Prop)
    (hY : ∀ pre x W, J pre W → pre.length < 65 → YieldAt Fence.wide 2 Tryz.prog l #[.bool x] W fun e W' =>
      (e = .returned (.bool true) ∧ J (pre ++ [x]) W' ∧ KeepBox Bn (.int .u64 k) W W') ∨ (e = .returned (.bool false) ∧ Jx (pre ++ [x]) W'))
    (W : World) (hBn : W.cell? ⟨Bn, 0, none⟩ = some (.int .u64 k)) (h0 : J [] W) :
    CallsIn Fence.wide 3 Tryz.prog 162 #[.func (.yield l) #[] #[], .pointer (some ⟨Bn, 0, none⟩)] W fun e W' => (∃ v, e = .returned v) ∧
      ((∃ ys, (bval ys : Int) = k ∧ J ys W') ∨ (∃ pre, True ∧ Jx pre W')) := by
  have hb : Lib.bitLen k.toNat ≤ 64 := Lib.bitLen_le k.toNat 64 (by omega) (by omega)
  refine callsIn_of_wp Tryz.func162 rfl trivial ?_ rfl
  simp only [Tryz.ntmps162, List.size_toArray, List.length_cons, List.length_nil, Nat.reduceAdd, Nat.reduceSub, Array.replicate_succ, Array.replicate_zero, List.push_toArray, List.append_toArray, List.nil_append, List.cons_append]
  gi_wp2_with (refine ⟨trivial, ?_⟩; gi_at_call 163; refine (callsIn_wide.2 (len64_c _ _ (by omega) (by omega))).mono ?_; rintro e w' ⟨rfl, rfl⟩)
  gi_loopw [3] (fun s wr => ∃ (pre : List Bool) (i : Int), s = .int .i64 i ∧ -1 ≤ i ∧ i ≤ 63 ∧ pre.length + (i + 1) ≤ 64 ∧ Bx ((bval pre : Int) = k / 2 ^ (i + 1).toNat) ∧ wr.cell? ⟨Bn, 0, none⟩ = some (.int .u64 k) ∧ J pre wr)
    (fun s _ => (RowKit.intOf s + 1).toNat)
  case atStart => exact ⟨[], _, rfl, by omega, by omega, by simp; omega, .mk (bl_start k hk0 hk1), hBn, h0⟩
  case round =>
    obtain ⟨pre, i, rfl, hi1, hi2, hlen, hval, hc, hJ⟩ := hrel
    by_cases hi : 0 ≤ i
    · have hn := bl_step k hk0 hk1 i hi pre hval.out
      have hp : (i - 1 + 1).toNat = i.toNat := by omega
      obtain ⟨fn, tmps, assign, body, hy, hR⟩ := hY pre (bits BinOp.and IntKind.u64 (k / 2 ^ i.toNat) 1 == 1) wr hJ (by omega)
      have HN := Bx.mk hn; clear hn
      have HP := Bx.mk hp; clear hp
      gi_wp2
      refine hR.mono ?_
      rintro e W3 (⟨rfl, hJ3, hk3⟩ | ⟨rfl, hJx3⟩)
      · gi_wp2
        go_roundw
        case rel => exact ⟨_, i - 1, rfl, by omega, by omega, by simp; omega, .mk (by rw [HP.out]; exact HN.out), hk3 hc, hJ3⟩
        case measure => simp [RowKit.intOf]; omega
      · gi_wp2
        refine bodyPost_ret (results_none rfl _ _ _) rfl ?_
        exact ⟨⟨_, rfl⟩, .inr ⟨_, trivial, hJx3⟩⟩
    · gi_wp2
      go_end0
      have e : (i + 1).toNat = 0 := by omega
      have hv := hval.out
      rw [e] at hv
      exact ⟨⟨_, rfl⟩, .inl ⟨pre, by simpa using hv, hJ⟩⟩

set_option maxHeartbeats 1000000 in
theorem digits_in (n : Nat) (k : Int) (w : World) :
    CallsIn Fence.wide n Tryz.prog 115 #[.int .u64 k] w fun e w' => e = .returned (.func (.func 162) #[] #[.pointer (some ⟨w.heap.size, 0, none⟩)]) ∧ w' = w.alloc (.cells #[.int .u64 k] 103) := by
  refine callsIn_of_wp Tryz.func115 rfl trivial ?_ rfl
  simp only [Tryz.ntmps115, List.size_toArray, List.length_cons, List.length_nil, Nat.reduceAdd, Nat.reduceSub, Array.replicate_succ, Array.replicate_zero, List.push_toArray, List.append_toArray, List.nil_append, List.cons_append]
  gi_wp2
  go_ret
  exact ⟨rfl, rfl⟩

theorem digits_stops (Bn : Nat) (k : Int) (hk0 : 0 ≤ k) (hk1 : k ≤ 18446744073709551615) (w : World) (hBn : Bn < w.heap.size) (hc : w.cell? ⟨Bn, 0, none⟩ = some (.int .u64 k)) :
    SeqStopsK Fence.wide 3 Tryz.prog 162 #[.pointer (some ⟨Bn, 0, none⟩)] (fun x : Bool => #[Value.bool x]) (KeepBox Bn (.int .u64 k)) (fun ys => (bval ys : Int) = k) (fun _ => True) 65 w := fun l J Jx W hW _ _ hY h0 =>
  digits1_in l Bn k hk0 hk1 J Jx hY W ((hW.cell (p := ⟨Bn, 0, none⟩) hBn).trans hc) h0

theorem cell_of_box_l {W : World} {B : Nat} {v : Value} {t : TypeId} (h : W.heap[B]? = some (.cells #[v] t (0, 0))) : W.cell? ⟨B, 0, none⟩ = some v ∧ W.frozen? ⟨B, 0, none⟩ = false := by
  constructor <;> simp [World.cell?, World.frozen?, h]
theorem cell_new_l (W : World) (v : Value) (t : TypeId) : (W.alloc (.cells #[v] t)).cell? ⟨W.heap.size, 0, none⟩ = some v ∧ (W.alloc (.cells #[v] t)).frozen? ⟨W.heap.size, 0, none⟩ = false :=
  cell_of_box_l (World.alloc_heap_new W _)
theorem cell_alloc_l {W : World} {a : Addr} {v : Value} (o : Obj) (h : W.cell? a = some v) : (W.alloc o).cell? a = some v := cell_kept h (World.grownBy_alloc W o none) (fun r e => by cases e)
theorem frozen_alloc_l {W : World} {a : Addr} {v : Value} (o : Obj) (h : W.cell? a = some v) (hf : W.frozen? a = false) : (W.alloc o).frozen? a = false := (frozen_kept h (World.grownBy_alloc W o none) (fun r e => by cases e)).trans hf

theorem keepsOthers_drewN (W : World) (n : Nat) : KeepsOthers W (W.drewN n) := ⟨Nat.le_refl _, fun _ _ h _ => h⟩

set_option maxRecDepth 100000 in
set_option maxHeartbeats 2000000 in
theorem power_in (a k : Int) (ha0 : 0 ≤ a) (ha1 : a < 4611686018427387904) (hk0 : 0 ≤ k) (hk1 : k ≤ 18446744073709551615) (w : World) :
    CallsIn Fence.wide 4 Tryz.prog 61 #[.int .u64 a, .int .u64 k] w fun e W' => e = .returned (.int .u64 (pwr a k.toNat)) ∧ Below w.heap.size w W' := by
  refine callsIn_of_wp_marks Tryz.func61 rfl trivial ?_ rfl
  simp only [Tryz.ntmps61, List.size_toArray, List.length_cons, List.length_nil, Nat.reduceAdd, Nat.reduceSub, Array.replicate_succ, Array.replicate_zero, List.push_toArray, List.append_toArray, List.nil_append, List.cons_append]
  gi_wp2_with (refine ⟨trivial, ?_⟩; gi_at_call 115; refine (digits_in _ _ _).mono ?_; rintro e w' ⟨rfl, rfl⟩)
  have ca := cell_new_l w (.int .u64 a) 103
  have cc := cell_new_l (w.alloc (.cells #[.int .u64 a] 103)) (.int .u64 1) 103
  have ck := cell_new_l ((w.alloc (.cells #[.int .u64 a] 103)).alloc (.cells #[.int .u64 1] 103)) (.int .u64 k) 103
  simp only [World.size_alloc] at cc ck
  have hB0 : Below w.heap.size w (((w.alloc (.cells #[.int .u64 a] 103)).alloc (.cells #[.int .u64 1] 103)).alloc (.cells #[.int .u64 k] 103)) :=
    (((Below.refl _ w).alloc (Nat.le_refl _) _).alloc (by simp) _).alloc (by simp; omega) _
  refine wpIn_rangeFunc_ownF rfl (by omega) (gf := 162) (lb := #[.pointer (some ⟨w.heap.size + 1 + 1, 0, none⟩)]) rfl trivial (enters_of Tryz.func162 (by kernel_rfl) rfl)
    (digits_stops (w.heap.size + 1 + 1) k hk0 hk1 _ (by simp) ck.1) KeepBox.t (KeepBox.b _) (Below.refl _ _) (fun _ => rfl)
    (fun pre W => (W.cell? ⟨w.heap.size, 0, none⟩ = some (.int .u64 a) ∧ W.cell? ⟨w.heap.size + 1, 0, none⟩ = some (.int .u64 (pwr a (bval pre))) ∧ W.frozen? ⟨w.heap.size + 1, 0, none⟩ = false) ∧ Below w.heap.size w W)
    (fun _ _ _ => False)
    (OwnFrom.and (Own.from (fun s A B row hs hg hr => ⟨cell_kept hs.1 hg hr, cell_kept hs.2.1 hg hr, (frozen_kept hs.2.1 hg hr).trans hs.2.2⟩) _) (ownFrom_below (Nat.le_refl _) (by simp; omega)))
    (fun _ _ _ _ _ hs _ _ => hs)
    ⟨⟨cell_alloc_l _ (cell_alloc_l _ ca.1), by rw [bval_nil, pwr_zero]; exact cell_alloc_l _ cc.1, frozen_alloc_l _ cc.1 cc.2⟩, hB0⟩
    (fun x => { tmps := #[.int .u64 a, .int .u64 k, .pointer (some ⟨w.heap.size, 0, none⟩), undef, .int .u64 0, .pointer (some ⟨w.heap.size + 1, 0, none⟩), .bool x, .int .u64 k, .func (.func 162) #[] #[.pointer (some ⟨w.heap.size + 1 + 1, 0, none⟩)], .bool x, undef, undef, undef, undef, undef, undef, undef, undef], defers := [] }) ?assign ?body ?done ?stop
  case assign =>
    intro l x W K hK
    gi_wp2
    exact hK
  case body =>
    rintro l pre x W ⟨⟨ca, cc, cf⟩, hB⟩ _
    have hp0 := pwr_nonneg a (bval pre)
    have hp1 := pwr_lt a (bval pre)
    have e2 : bval (pre ++ [x]) = 2 * bval pre + if x then 1 else 0 := bval_snoc pre x
    have E2 := Bx.mk e2; clear e2
    have hd := (pwr_double a (bval pre)).symm
    have hs := (pwr_succ a (2 * bval pre)).symm
    have hp2 := pwr_nonneg a (2 * bval pre)
    have hp3 := pwr_lt a (2 * bval pre)
    have C1 := Bx.mk (fun w' => times_c (pwr a (bval pre)) (pwr a (bval pre)) w' hp0 hp0 (by omega) (by omega))
    have C2 := Bx.mk (fun w' => times_c (pwr a (2 * bval pre)) a w' hp2 ha0 (by omega) ha1)
    rw [hd] at C1
    rw [hs] at C2
    clear hd hs
    cases x
    · gi_wp2_with fail
      refine ⟨trivial, ?_⟩
      refine (CallsIn.inRound l (callsIn_wide.2 (C1.out _))).mono ?_
      rintro e w' ⟨rfl, n, rfl⟩
      gi_wp2
      exact ⟨(keepsOthers_drewN _ n).trans (KeepsOthers.setCell _ _ _), fun x => by rw [World.cell?_setCell_other _ _ _ _ (by simp)]; exact x,
        ⟨by rw [World.cell?_setCell_other _ _ _ _ (by simp)]; exact ca, by rw [E2.out]; exact World.cell?_setCell_same _ _ _ cc, by rw [World.frozen?_setCell]; exact cf⟩, (below_drewN hB n).setCell (p := ⟨w.heap.size + 1, 0, none⟩) (by simp) _⟩
    · gi_wp2_with fail
      refine ⟨trivial, ?_⟩
      refine (CallsIn.inRound l (callsIn_wide.2 (C1.out _))).mono ?_
      rintro e w' ⟨rfl, n, rfl⟩
      have hc1 : ((W.drewN n).setCell ⟨w.heap.size + 1, 0, none⟩ (.int .u64 (pwr a (2 * bval pre)))).cell? ⟨w.heap.size + 1, 0, none⟩ = some (.int .u64 (pwr a (2 * bval pre))) := World.cell?_setCell_same _ _ _ cc
      have hc0 : ((W.drewN n).setCell ⟨w.heap.size + 1, 0, none⟩ (.int .u64 (pwr a (2 * bval pre)))).cell? ⟨w.heap.size, 0, none⟩ = some (.int .u64 a) := by rw [World.cell?_setCell_other _ _ _ _ (by simp)]; exact ca
      gi_wp2_with fail
      refine ⟨trivial, ?_⟩
      refine (CallsIn.inRound l (callsIn_wide.2 (C2.out _))).mono ?_
      rintro e w' ⟨rfl, m, rfl⟩
      gi_wp2
      exact ⟨(((keepsOthers_drewN _ n).trans (KeepsOthers.setCell _ _ _)).trans (keepsOthers_drewN _ m)).trans (KeepsOthers.setCell _ _ _),
        fun x => by rw [World.cell?_setCell_other _ _ _ _ (by simp), World.cell?_drewN, World.cell?_setCell_other _ _ _ _ (by simp)]; exact x,
        ⟨by rw [World.cell?_setCell_other _ _ _ _ (by simp)]; exact hc0, by rw [E2.out]; exact World.cell?_setCell_same _ _ _ hc1, by rw [World.frozen?_setCell, World.frozen?_drewN, World.frozen?_setCell]; exact cf⟩,
        (below_drewN ((below_drewN hB n).setCell (p := ⟨w.heap.size + 1, 0, none⟩) (by simp) _) m).setCell (p := ⟨w.heap.size + 1, 0, none⟩) (by simp) _⟩
  case done =>
    rintro D ys W hD hys ⟨⟨_, hc, _⟩, hB⟩ hK
    have e : bval ys = k.toNat := by omega
    rw [e] at hc
    gi_wp2
    refine ⟨by simp, .inl ⟨_, _, rfl, run_takeDeferred hK, ?_⟩⟩
    exact ⟨_, results_tmp rfl _ _ _, rfl, hB.trans (belowK_b (w := w) (Nat.le_refl _) W D _ _ (by simp at hD; omega) hK rfl rfl)⟩
  case stop =>
    rintro D c pre W _ _ h _
    exact h.elim

theorem power_c (a k : Int) (ha0 : 0 ≤ a) (ha1 : a < 4611686018427387904) (hk0 : 0 ≤ k) (hk1 : k ≤ 18446744073709551615) (w : World) :
    Calls Tryz.prog 61 #[.int .u64 a, .int .u64 k] w fun e W' => e = .returned (.int .u64 (pwr a k.toNat)) ∧ Below w.heap.size w W' :=
  callsIn_wide.1 (power_in a k ha0 ha1 hk0 hk1 w)
end Go.Proofs.YtjbojoeafdkkeaaGreatDoor

namespace Go.Proofs.YtjbojoeafdkkeaaGreatDoor
open Go Go.RowKit Go.Lib

def gcheck (a : Int) : Int := if elt a then 0 else 40

set_option maxHeartbeats 1000000 in
theorem gcheck_c (a : Int) (w : World) (h0 : -9223372036854775808 ≤ a) (h1 : a ≤ 9223372036854775807) :
    Calls Tryz.prog 25 #[.int .i64 a] w fun e w' => e = .returned (.int .i64 (gcheck a)) ∧ Below w.heap.size w w' := by
  by_cases ha : 1 ≤ a
  · by_cases hb : a < 4611686018427377339
    · have hp := power_c a 2305843009213688669 (by omega) (by omega) (by omega) (by omega) w
      rw [show (2305843009213688669 : Int).toNat = 2305843009213688669 from rfl] at hp
      have HP := Bx.mk hp; clear hp
      by_cases hq : pwr a 2305843009213688669 = 1
      · have he : gcheck a = 0 := by unfold gcheck; rw [if_pos ((elt_iff a).2 ⟨ha, hb, hq⟩)]
        rw [he]; clear he
        go_enter Tryz.func25, Tryz.ntmps25
        go_wp2_with (go_at_call 61; refine HP.out.mono ?_; rintro e w' ⟨rfl, hb⟩)
        go_ret
        exact ⟨rfl, hb⟩
      · have he : gcheck a = 40 := by unfold gcheck; rw [if_neg (fun h => hq (elt_q h))]
        rw [he]; clear he
        have hqb : (pwr a 2305843009213688669 != 1) = true := by simpa using hq
        go_enter Tryz.func25, Tryz.ntmps25
        go_wp2_with (go_at_call 61; refine HP.out.mono ?_; rintro e w' ⟨rfl, hb⟩)
        go_ret
        exact ⟨rfl, hb⟩
    · have he : gcheck a = 40 := by unfold gcheck; rw [if_neg (fun h => hb (elt_lt h))]
      rw [he]; clear he
      go_enter Tryz.func25, Tryz.ntmps25
      go_wp2_with fail
      go_ret
      exact ⟨rfl, Below.refl _ _⟩
  · have he : gcheck a = 40 := by unfold gcheck; rw [if_neg (fun h => ha (elt_pos h))]
    rw [he]; clear he
    go_enter Tryz.func25, Tryz.ntmps25
    go_wp2_with fail
    go_ret
    exact ⟨rfl, Below.refl _ _⟩

theorem gcheck_0 {a : Int} (h : elt a = true) : gcheck a = 0 := by unfold gcheck; rw [if_pos h]
theorem gcheck_40 {a : Int} (h : ¬ elt a = true) : gcheck a = 40 := by unfold gcheck; rw [if_neg h]

/-- A call whose contract ends in Below, behind a world that is itself Below. -/
theorem below_step {B : Nat} {w w1 w2 : World} (h : Below B w w1) (h2 : Below w1.heap.size w1 w2) (hB : B ≤ w.heap.size) : Below B w w2 :=
  h.trans (h2.mono (Nat.le_trans hB h.size))

def gexp (a k : Int) : Value :=
  if elt a then (if 0 ≤ k ∧ k < 2305843009213688669 then .tuple #[.int .i64 (pwr a k.toNat), .int .i64 0] else .tuple #[.int .i64 0, .int .i64 1]) else .tuple #[.int .i64 0, .int .i64 40]

set_option maxHeartbeats 1000000 in
theorem gexp_c (a k : Int) (w : World) (h0 : -9223372036854775808 ≤ a) (h1 : a ≤ 9223372036854775807) (hk0 : -9223372036854775808 ≤ k) (hk1 : k ≤ 9223372036854775807) :
    Calls Tryz.prog 69 #[.int .i64 a, .int .i64 k] w fun e w' => e = .returned (gexp a k) ∧ Below w.heap.size w w' := by
  have hc := Bx.mk (gcheck_c a w h0 h1)
  by_cases ha : elt a = true
  · have he := gcheck_0 ha
    have HE := Bx.mk he; clear he
    rw [HE.out] at hc
    have hp := elt_pos ha
    have hl := elt_lt ha
    by_cases hk : 0 ≤ k ∧ k < 2305843009213688669
    · have hg : gexp a k = .tuple #[.int .i64 (pwr a k.toNat), .int .i64 0] := by unfold gexp; rw [if_pos ha, if_pos hk]
      rw [hg]
      obtain ⟨hka, hkb⟩ := hk
      have hw0 := pwr_nonneg a k.toNat
      have hw1 := pwr_lt a k.toNat
      have HP := Bx.mk (fun w' => power_c a k (by omega) (by omega) hka (by omega) w')
      clear hg ha
      go_enter Tryz.func69, Tryz.ntmps69
      go_wp2_with (first | (go_at_call 25; refine hc.out.mono ?_; rintro e w1 ⟨rfl, hb⟩) | (go_at_call 61; refine (HP.out _).mono ?_; rintro e w2 ⟨rfl, hb2⟩))
      go_ret2
      exact ⟨rfl, below_step hb hb2 (Nat.le_refl _)⟩
    · have hg : gexp a k = .tuple #[.int .i64 0, .int .i64 1] := by unfold gexp; rw [if_pos ha, if_neg hk]
      rw [hg]
      clear hg ha
      by_cases hk2 : k < 0
      · clear hk
        go_enter Tryz.func69, Tryz.ntmps69
        go_wp2_with (go_at_call 25; refine hc.out.mono ?_; rintro e w1 ⟨rfl, hb⟩)
        go_ret2
        exact ⟨rfl, hb⟩
      · have hk3 : 2305843009213688669 ≤ k := by omega
        clear hk
        go_enter Tryz.func69, Tryz.ntmps69
        go_wp2_with (go_at_call 25; refine hc.out.mono ?_; rintro e w1 ⟨rfl, hb⟩)
        go_ret2
        exact ⟨rfl, hb⟩
  · have he := gcheck_40 ha
    have HE := Bx.mk he; clear he
    rw [HE.out] at hc
    have hg : gexp a k = .tuple #[.int .i64 0, .int .i64 40] := by unfold gexp; rw [if_neg ha]
    rw [hg]
    clear hg ha
    go_enter Tryz.func69, Tryz.ntmps69
    go_wp2_with (go_at_call 25; refine hc.out.mono ?_; rintro e w1 ⟨rfl, hb⟩)
    go_ret2
    exact ⟨rfl, hb⟩

/-- Exp, the arguments in order. -/
theorem gexp_ok (a k : Int) (w : World) (ha : elt a = true) (h0 : 0 ≤ k) (h1 : k < 2305843009213688669) :
    Calls Tryz.prog 69 #[.int .i64 a, .int .i64 k] w fun e w' => e = .returned (.tuple #[.int .i64 (pwr a k.toNat), .int .i64 0]) ∧ Below w.heap.size w w' := by
  have h := gexp_c a k w (by have := elt_pos ha; omega) (by have := elt_lt ha; omega) (by omega) (by omega)
  unfold gexp at h
  rw [if_pos ha, if_pos ⟨h0, h1⟩] at h
  exact h

set_option maxHeartbeats 1000000 in
theorem base_c (k : Int) (w : World) (h0 : 0 ≤ k) (h1 : k < 2305843009213688669) :
    Calls Tryz.prog 101 #[.int .i64 k] w fun e w' => e = .returned (.tuple #[.int .i64 (pwr 4 k.toNat), .int .i64 0]) ∧ Below w.heap.size w w' := by
  have HP := Bx.mk (gexp_ok 4 k w elt_four h0 h1)
  go_enter Tryz.func101, Tryz.ntmps101
  go_wp2_with (go_at_call 69; refine HP.out.mono ?_; rintro e w1 ⟨rfl, hb⟩)
  go_ret2
  exact ⟨rfl, hb⟩

set_option maxHeartbeats 1000000 in
theorem inv_c (a : Int) (w : World) (ha : elt a = true) :
    Calls Tryz.prog 66 #[.int .i64 a] w fun e w' => e = .returned (.tuple #[.int .i64 (pwr a 2305843009213688668), .int .i64 0]) ∧ Below w.heap.size w w' := by
  have h := gexp_ok a 2305843009213688668 w ha (by omega) (by omega)
  rw [show (2305843009213688668 : Int).toNat = 2305843009213688668 from rfl] at h
  have HP := Bx.mk h; clear h ha
  go_enter Tryz.func66, Tryz.ntmps66
  go_wp2_with (go_at_call 69; refine HP.out.mono ?_; rintro e w1 ⟨rfl, hb⟩)
  go_ret2
  exact ⟨rfl, hb⟩

set_option maxHeartbeats 2000000 in
set_option maxRecDepth 100000 in
theorem gmul_c (a b : Int) (w : World) (ha : elt a = true) (hb : elt b = true) :
    Calls Tryz.prog 68 #[.int .i64 a, .int .i64 b] w fun e w' => e = .returned (.tuple #[.int .i64 (a * b % 4611686018427377339), .int .i64 0]) ∧ Below w.heap.size w w' := by
  have i0 : ∀ w, (Instr.index 176 (.agg #[.int .i64 a, .int .i64 b]) (.int .i64 0)).run Tryz.prog w = .ok (.int .i64 a) w := fun _ => by kernel_rfl
  have i1 : ∀ w, (Instr.index 176 (.agg #[.int .i64 a, .int .i64 b]) (.int .i64 1)).run Tryz.prog w = .ok (.int .i64 b) w := fun _ => by kernel_rfl
  have pa := elt_pos ha; have la := elt_lt ha; have pb := elt_pos hb; have lb := elt_lt hb
  have ca : Bx (∀ w', Calls Tryz.prog 25 #[.int .i64 a] w' fun e w'' => e = .returned (.int .i64 0) ∧ Below w'.heap.size w' w'') :=
    .mk fun w' => by have h := gcheck_c a w' (by omega) (by omega); rwa [gcheck_0 ha] at h
  have cb : Bx (∀ w', Calls Tryz.prog 25 #[.int .i64 b] w' fun e w'' => e = .returned (.int .i64 0) ∧ Below w'.heap.size w' w'') :=
    .mk fun w' => by have h := gcheck_c b w' (by omega) (by omega); rwa [gcheck_0 hb] at h
  have ct := Bx.mk (fun w' => times_c a b w' (by omega) (by omega) (by omega) (by omega))
  have m0 : 0 ≤ a * b % 4611686018427377339 := Int.emod_nonneg _ (by decide)
  have m1 : a * b % 4611686018427377339 < 4611686018427377339 := Int.emod_lt_of_pos _ (by decide)
  clear ha hb
  go_enter Tryz.func68, Tryz.ntmps68
  go_wp2_with fail
  refine wp_loop_rounds 3 ?_
  rw [rounds_succ]
  go_wp2_with fail
  refine (ca.out _).mono ?_
  rintro e w1 ⟨rfl, hb1⟩
  go_wp2_with fail
  rw [rounds_succ]
  go_wp2_with fail
  refine (cb.out _).mono ?_
  rintro e w2 ⟨rfl, hb2⟩
  go_wp2_with fail
  rw [rounds_succ]
  go_wp2_with fail
  refine (ct.out _).mono ?_
  rintro e w3 ⟨rfl, n, rfl⟩
  go_wp2_with fail
  go_ret2
  exact ⟨rfl, below_drewN (below_step hb1 hb2 (Nat.le_refl _)) n⟩
end Go.Proofs.YtjbojoeafdkkeaaGreatDoor

namespace Go.Proofs.YtjbojoeafdkkeaaGreatDoor
open Go Go.RowKit Go.Lib

def outQ (a : Int) : Bool := decide (a < 0) || decide (2305843009213688669 ≤ a)

theorem outside1_c (a : Int) (w : World) :
    Calls Tryz.prog 193 #[.int .i64 a] w fun e w' => e = .returned (.bool (outQ a)) ∧ w = w' := by
  by_cases h : a < 0
  · have e : outQ a = true := by simp [outQ, h]
    rw [e]; clear e
    go_enter Tryz.func193, Tryz.ntmps193
    go_wp2
    go_ret
    exact ⟨rfl, rfl⟩
  · by_cases h2 : 2305843009213688669 ≤ a
    · have e : outQ a = true := by simp [outQ, h2]
      rw [e]; clear e
      go_enter Tryz.func193, Tryz.ntmps193
      go_wp2
      go_ret
      exact ⟨rfl, rfl⟩
    · have e : outQ a = false := by simp only [outQ, Bool.or_eq_false_iff, decide_eq_false_iff_not]; omega
      rw [e]; clear e
      go_enter Tryz.func193, Tryz.ntmps193
      go_wp2
      go_ret
      exact ⟨rfl, rfl⟩

set_option maxHeartbeats 1000000 in
set_option maxRecDepth 100000 in
theorem idx1_c (B : Nat) (a : Int) (w : World) (hc : w.cell? ⟨B, 0, none⟩ = some (.int .i64 a)) :
    Calls Tryz.prog 207 #[.slice (some ⟨B, 0, none⟩) 1 1, .func (.func 193) #[] #[]] w fun e w' => e = .returned (.int .i64 (if outQ a then 0 else -1)) ∧ w = w' := by
  have ca := Bx.mk (outside1_c a)
  cases hq : outQ a
  · rw [hq] at ca
    rw [if_neg (by simp)]
    clear hq
    go_enter Tryz.func207, Tryz.ntmps207
    go_wp2_with fail
    refine wp_loop_rounds 2 ?_
    rw [rounds_succ]
    go_wp2_with fail
    refine (ca.out _).mono ?_
    rintro e w1 ⟨rfl, rfl⟩
    go_wp2_with fail
    rw [rounds_succ]
    go_wp2_with fail
    go_ret
    exact ⟨rfl, rfl⟩
  · rw [hq] at ca
    rw [if_pos rfl]
    clear hq
    go_enter Tryz.func207, Tryz.ntmps207
    go_wp2_with fail
    refine wp_loop_rounds 2 ?_
    rw [rounds_succ]
    go_wp2_with fail
    refine (ca.out _).mono ?_
    rintro e w1 ⟨rfl, rfl⟩
    go_wp2_with fail
    go_ret
    exact ⟨rfl, rfl⟩

set_option maxHeartbeats 1000000 in
set_option maxRecDepth 100000 in
theorem idx2_c (B : Nat) (a b : Int) (w : World) (hc : w.cell? ⟨B, 0, none⟩ = some (.int .i64 a)) (hd : w.cell? ⟨B, 1, none⟩ = some (.int .i64 b)) (ha : outQ a = false) (hb : outQ b = false) :
    Calls Tryz.prog 207 #[.slice (some ⟨B, 0, none⟩) 2 2, .func (.func 193) #[] #[]] w fun e w' => e = .returned (.int .i64 (-1)) ∧ w = w' := by
  have ca := Bx.mk (outside1_c a)
  have cb := Bx.mk (outside1_c b)
  rw [ha] at ca
  rw [hb] at cb
  clear ha hb
  go_enter Tryz.func207, Tryz.ntmps207
  go_wp2_with fail
  refine wp_loop_rounds 3 ?_
  rw [rounds_succ]
  go_wp2_with fail
  refine (ca.out _).mono ?_
  rintro e w1 ⟨rfl, rfl⟩
  go_wp2_with fail
  rw [rounds_succ]
  go_wp2_with fail
  refine (cb.out _).mono ?_
  rintro e w1 ⟨rfl, rfl⟩
  go_wp2_with fail
  rw [rounds_succ]
  go_wp2_with fail
  go_ret
  exact ⟨rfl, rfl⟩

set_option maxHeartbeats 1000000 in
theorem cont1_c (B : Nat) (a : Int) (w : World) (hc : w.cell? ⟨B, 0, none⟩ = some (.int .i64 a)) :
    Calls Tryz.prog 192 #[.slice (some ⟨B, 0, none⟩) 1 1, .func (.func 193) #[] #[]] w fun e w' => e = .returned (.bool (outQ a)) ∧ w = w' := by
  have c1 := Bx.mk (idx1_c B a w hc)
  cases hq : outQ a
  · rw [hq] at c1
    clear hq
    go_enter Tryz.func192, Tryz.ntmps192
    go_wp2_with (go_at_call 207; refine c1.out.mono ?_; rintro e w1 ⟨rfl, rfl⟩)
    go_ret
    exact ⟨rfl, rfl⟩
  · rw [hq] at c1
    clear hq
    go_enter Tryz.func192, Tryz.ntmps192
    go_wp2_with (go_at_call 207; refine c1.out.mono ?_; rintro e w1 ⟨rfl, rfl⟩)
    go_ret
    exact ⟨rfl, rfl⟩

set_option maxHeartbeats 1000000 in
theorem cont2_c (B : Nat) (a b : Int) (w : World) (hc : w.cell? ⟨B, 0, none⟩ = some (.int .i64 a)) (hd : w.cell? ⟨B, 1, none⟩ = some (.int .i64 b)) (ha : outQ a = false) (hb : outQ b = false) :
    Calls Tryz.prog 192 #[.slice (some ⟨B, 0, none⟩) 2 2, .func (.func 193) #[] #[]] w fun e w' => e = .returned (.bool false) ∧ w = w' := by
  have c1 := Bx.mk (idx2_c B a b w hc hd ha hb)
  clear ha hb
  go_enter Tryz.func192, Tryz.ntmps192
  go_wp2_with (go_at_call 207; refine c1.out.mono ?_; rintro e w1 ⟨rfl, rfl⟩)
  go_ret
  exact ⟨rfl, rfl⟩

set_option maxHeartbeats 1000000 in
theorem out1_c (B : Nat) (a : Int) (w : World) (hc : w.cell? ⟨B, 0, none⟩ = some (.int .i64 a)) :
    Calls Tryz.prog 166 #[.slice (some ⟨B, 0, none⟩) 1 1] w fun e w' => e = .returned (.bool (outQ a)) ∧ w = w' := by
  have c1 := Bx.mk (cont1_c B a w hc)
  go_enter Tryz.func166, Tryz.ntmps166
  go_wp2_with (go_at_call 192; refine c1.out.mono ?_; rintro e w1 ⟨rfl, rfl⟩)
  go_ret
  exact ⟨rfl, rfl⟩

set_option maxHeartbeats 1000000 in
theorem out2_c (B : Nat) (a b : Int) (w : World) (hc : w.cell? ⟨B, 0, none⟩ = some (.int .i64 a)) (hd : w.cell? ⟨B, 1, none⟩ = some (.int .i64 b)) (ha : outQ a = false) (hb : outQ b = false) :
    Calls Tryz.prog 166 #[.slice (some ⟨B, 0, none⟩) 2 2] w fun e w' => e = .returned (.bool false) ∧ w = w' := by
  have c1 := Bx.mk (cont2_c B a b w hc hd ha hb)
  clear ha hb
  go_enter Tryz.func166, Tryz.ntmps166
  go_wp2_with (go_at_call 192; refine c1.out.mono ?_; rintro e w1 ⟨rfl, rfl⟩)
  go_ret
  exact ⟨rfl, rfl⟩

def fcheck (a : Int) : Int := if outQ a then 1 else 0

set_option maxHeartbeats 1000000 in
theorem fcheck_c (a : Int) (w : World) :
    Calls Tryz.prog 173 #[.int .i64 a] w fun e w' => e = .returned (.int .i64 (fcheck a)) ∧ Below w.heap.size w w' := by
  cases hq : outQ a
  · have e : fcheck a = 0 := by simp [fcheck, hq]
    rw [e]; clear e
    go_enter Tryz.func173, Tryz.ntmps173
    go_wp2_with fail
    have h1 := out1_c w.heap.size a (w.alloc (.cells #[.int .i64 a] 3)) (by simp [World.cell?_alloc_new])
    rw [hq] at h1
    refine h1.mono ?_
    rintro e w1 ⟨rfl, rfl⟩
    clear h1 hq
    go_wp2_with fail
    go_ret
    exact ⟨rfl, (Below.refl _ _).alloc (Nat.le_refl _) _⟩
  · have e : fcheck a = 1 := by simp [fcheck, hq]
    rw [e]; clear e
    go_enter Tryz.func173, Tryz.ntmps173
    go_wp2_with fail
    have h1 := out1_c w.heap.size a (w.alloc (.cells #[.int .i64 a] 3)) (by simp [World.cell?_alloc_new])
    rw [hq] at h1
    refine h1.mono ?_
    rintro e w1 ⟨rfl, rfl⟩
    clear h1 hq
    go_wp2_with fail
    go_ret
    exact ⟨rfl, (Below.refl _ _).alloc (Nat.le_refl _) _⟩

theorem outQ_in {a : Int} (h0 : 0 ≤ a) (h1 : a < 2305843009213688669) : outQ a = false := by simp only [outQ, Bool.or_eq_false_iff, decide_eq_false_iff_not]; omega

set_option maxHeartbeats 1000000 in
theorem fadd_c (a b : Int) (w : World) (ha0 : 0 ≤ a) (ha1 : a < 2305843009213688669) (hb0 : 0 ≤ b) (hb1 : b < 2305843009213688669) :
    Calls Tryz.prog 119 #[.int .i64 a, .int .i64 b] w fun e w' => e = .returned (.tuple #[.int .i64 ((a + b) % 2305843009213688669), .int .i64 0]) ∧ Below w.heap.size w w' := by
  have h1 := Bx.mk (out2_c w.heap.size a b (w.alloc (.cells #[.int .i64 a, .int .i64 b] 3)) (by simp [World.cell?_alloc_new]) (by simp [World.cell?_alloc_new]) (outQ_in ha0 ha1) (outQ_in hb0 hb1))
  go_enter Tryz.func119, Tryz.ntmps119
  go_wp2_with fail
  refine h1.out.mono ?_
  rintro e w1 ⟨rfl, rfl⟩
  go_wp2_with fail
  go_ret2
  exact ⟨rfl, (Below.refl _ _).alloc (Nat.le_refl _) _⟩

set_option maxHeartbeats 1000000 in
theorem fmul_c (a b : Int) (w : World) (ha0 : 0 ≤ a) (ha1 : a < 2305843009213688669) (hb0 : 0 ≤ b) (hb1 : b < 2305843009213688669) :
    Calls Tryz.prog 118 #[.int .i64 a, .int .i64 b] w fun e w' => e = .returned (.tuple #[.int .i64 (a * b % 2305843009213688669), .int .i64 0]) ∧ Below w.heap.size w w' := by
  have h1 := Bx.mk (out2_c w.heap.size a b (w.alloc (.cells #[.int .i64 a, .int .i64 b] 3)) (by simp [World.cell?_alloc_new]) (by simp [World.cell?_alloc_new]) (outQ_in ha0 ha1) (outQ_in hb0 hb1))
  have h2 := Bx.mk (fun w' => product_c a b w' ha0 hb0 ha1 hb1)
  go_enter Tryz.func118, Tryz.ntmps118
  go_wp2_with fail
  refine h1.out.mono ?_
  rintro e w1 ⟨rfl, rfl⟩
  go_wp2_with fail
  refine (h2.out _).mono ?_
  rintro e w1 ⟨rfl, n, rfl⟩
  go_wp2_with fail
  go_ret2
  exact ⟨rfl, below_drewN ((Below.refl _ _).alloc (Nat.le_refl _) _) n⟩
end Go.Proofs.YtjbojoeafdkkeaaGreatDoor

namespace Go.Proofs.YtjbojoeafdkkeaaGreatDoor
open Go Go.RowKit Go.Lib

/-- Where the slice lies behind an append: where it lay, or in the newest block. -/
def Near (w : World) (v v' : Value) : Prop := v'.ownBlock = v.ownBlock ∨ v'.ownBlock = some w.heap.size

theorem grown_row {w : World} {e : TypeId} {i : TypeInfo} {z : Value} (hzs : z.cells.size = i.size) {n m : Nat} {xs news : List Value} (hx : xs.length = n * i.size) (hl : news.length = m * i.size) (h63 : n + m ≤ maxLen) (old : Nat) :
    (w.drew.alloc (.cells (xs.toArray ++ news.toArray ++ Builtin.zeroCells z.cells (grownCap w (n + m) old e - (n + m))) e)).ownsRow 0 e i.size
        (.slice (some ⟨w.heap.size, 0, none⟩) (n + m) (grownCap w (n + m) old e)) (n + m) (xs ++ news) := by
  have hge := grownCap_ge w (n + m) old e
  have hcm := grownCap_le_maxLen w (n + m) old e h63
  have hlen : (xs ++ news).length = (n + m) * i.size := by rw [List.length_append, hx, hl, Nat.add_mul]
  refine ⟨hlen, .inr ⟨w.heap.size, _, _, rfl, Nat.zero_le _, heap_alloc_new w.drew _, hge, hcm, ?_, ?_⟩⟩
  · simp only [Array.size_append, List.size_toArray, size_zeroCells, hzs, hx, hl, ← Nat.add_mul]
    congr 1
    omega
  · simp only [Array.toList_append, List.append_assoc]
    rw [← List.append_assoc, ← hlen]
    exact List.take_left

theorem run_app {P : Program} (w : World) (t ty e : TypeId) (i : TypeInfo) (z : Value) (ht : P.underlying t = some (.slice e)) (hi : P.info? e = some i) (hz : i.zero = some z) (hzs : z.cells.size = i.size) (hsz : 0 < i.size)
    (v : Value) (n : Nat) (xs : List Value) (hown : w.ownsRow 0 e i.size v n xs)
    (a : Addr) (m c : Nat) (news : List Value) (hm : 0 < m) (hl : news.length = m * i.size) (hnews : ∀ j u, news[j]? = some u → w.cell? (a.add j) = some u) (h1 : ∀ u ∈ news, u.oneCell' = true)
    (h63 : n + m ≤ maxLen) (hbytes : (n + m) * i.bytes ≤ 140737488355328) :
    ∃ v' w', (Builtin.append_ #[t, t] ty #[v, .slice (some a) m c]).run P w = .ok v' w' ∧ w'.ownsRow 0 e i.size v' (n + m) (xs ++ news) ∧ w.grownBy w' v.ownBlock ∧ Near w v v' := by
  have hg : ∀ (o : Obj) (row : Option Nat), w.grownBy (w.drew.alloc o) row := fun o row => ⟨rfl, rfl, rfl, by simp, fun k hk _ => heap_alloc_old w.drew o k hk⟩
  have hsmall : n + m ≤ 9223372036854775807 := by simp only [maxLen] at h63; omega
  rcases hown.2 with ⟨rfl, rfl⟩ | ⟨g, cap, cur, rfl, _, hcur, hnc, hcm, hcs, htake⟩
  · have hx : xs = [] := List.eq_nil_of_length_eq_zero (by simpa using hown.1)
    subst hx
    have hr := run_append_nil (P := P) w t ty e i z ht hi hz a m c news hl hnews hm (by omega) (by have hb := hbytes; simp only [Nat.zero_add] at hb; omega)
    have hro := grown_row (w := w) (e := e) hzs (n := 0) (xs := []) (by simp) hl h63 0
    simp only [Nat.zero_add, List.nil_append, Array.empty_append] at hro ⊢
    exact ⟨_, _, hr, hro, hg _ _, .inr rfl⟩
  · by_cases hroom : n + m ≤ cap
    · have hr := run_append_room (P := P) w t ty e i ht hi g n cap cur hcur a m c news hl hnews h1 hroom (by rw [hl, hcs, ← Nat.add_mul]; exact Nat.mul_le_mul_right _ hroom)
      have hle : n * i.size + news.length ≤ cap * i.size := by rw [hl, ← Nat.add_mul]; exact Nat.mul_le_mul_right _ hroom
      have hle2 : n * i.size ≤ cap * i.size := Nat.le_trans (Nat.le_add_right _ _) hle
      have hlen : (xs ++ news).length = (n + m) * i.size := by rw [List.length_append, hown.1, hl, Nat.add_mul]
      refine ⟨_, _, hr, ⟨hlen, .inr ⟨g, cap, _, rfl, Nat.zero_le _, setRow_heap w g cur _ e _ hcur, hroom, hcm, ?_, ?_⟩⟩, ⟨rfl, rfl, rfl, by simp, fun k _ hk => setRow_other w g k _ (fun e => hk (by simp [Value.ownBlock, e]))⟩, .inl rfl⟩
      · simp only [List.size_toArray, List.length_append, List.length_take, List.length_drop, Array.length_toList]
        omega
      · rw [htake, ← hlen]
        exact List.take_left
    · have hr := run_append_grow (P := P) w t ty e i z ht hi hz ⟨g, 0, none⟩ n cap xs hown.1 (hown.cells (g := g) rfl) a m c news hl hnews (by omega) (by omega) (growslice_fits (by omega) hbytes)
      exact ⟨_, _, hr, grown_row (w := w) (e := e) hzs hown.1 hl h63 cap, hg _ _, .inr rfl⟩

/-- A slice without spare room, whatever memory it lies in: what is appended goes to a new row. -/
theorem run_app_full {P : Program} (w : World) (t ty e : TypeId) (i : TypeInfo) (z : Value) (ht : P.underlying t = some (.slice e)) (hi : P.info? e = some i) (hz : i.zero = some z) (hzs : z.cells.size = i.size)
    (b : Addr) (n : Nat) (xs : List Value) (hx : xs.length = n * i.size) (hxs : ∀ j u, xs[j]? = some u → w.cell? (b.add j) = some u)
    (a : Addr) (m c : Nat) (news : List Value) (hm : 0 < m) (hl : news.length = m * i.size) (hnews : ∀ j u, news[j]? = some u → w.cell? (a.add j) = some u)
    (h63 : n + m ≤ maxLen) (hbytes : (n + m) * i.bytes ≤ 140737488355328) :
    ∃ v' w', (Builtin.append_ #[t, t] ty #[.slice (some b) n n, .slice (some a) m c]).run P w = .ok v' w' ∧ w'.ownsRow 0 e i.size v' (n + m) (xs ++ news) ∧ w.grownBy w' none ∧ v'.ownBlock = some w.heap.size := by
  have hsmall : n + m ≤ 9223372036854775807 := by simp only [maxLen] at h63; omega
  have hr := run_append_grow (P := P) w t ty e i z ht hi hz b n n xs hx hxs a m c news hl hnews (by omega) (by omega) (growslice_fits (by omega) hbytes)
  exact ⟨_, _, hr, grown_row (w := w) (e := e) hzs hx hl h63 n, ⟨rfl, rfl, rfl, by simp, fun k hk _ => heap_alloc_old w.drew _ k hk⟩, rfl⟩

section
variable {P : Program} {w : World}
theorem wp_app {o : Oper} {a : Act} {K : Act → World → Prop} {Q : Exit → Act → World → Prop} (s x : Operand) (t : TypeId)
    (ho : o.op = .call { callee := .builtin .append, args := #[s, x], argTypes := #[t, t] })
    (e : TypeId) (i : TypeInfo) (z : Value) (ht : P.underlying t = some (.slice e)) (hi : P.info? e = some i) (hz : i.zero = some z) (hzs : z.cells.size = i.size) (hsz : 0 < i.size)
    (v : Value) (n : Nat) (xs : List Value) (hs : a.eval s = v) (hown : w.ownsRow 0 e i.size v n xs)
    (ad : Addr) (m c : Nat) (news : List Value) (hx : a.eval x = .slice (some ad) m c) (hm : 0 < m) (hl : news.length = m * i.size) (hnews : ∀ j u, news[j]? = some u → w.cell? (ad.add j) = some u) (h1 : ∀ u ∈ news, u.oneCell' = true)
    (h63 : n + m ≤ maxLen) (hbytes : (n + m) * i.bytes ≤ 140737488355328)
    (h : ∀ v' w', w'.ownsRow 0 e i.size v' (n + m) (xs ++ news) → w.grownBy w' v.ownBlock → Near w v v' → K (a.put o.dst v') w') : o.wp P a w K Q := by
  obtain ⟨v', w', hr, h2, h3, h4⟩ := run_app (P := P) w t o.type e i z ht hi hz hzs hsz v n xs hown ad m c news hm hl hnews h1 h63 hbytes
  unfold Oper.wp execOp
  simp only [ho, resolve, invoke, builtin, Sem.run_bind, Sem.run_pure, Result.andThen_ok, List.map_toArray, List.map_cons, List.map_nil, hs, hx, hr]
  exact h v' w' h2 h3 h4
theorem wpList_app {ops : Array Oper} {rest : List Oper} {o : Oper} {a : Act} {Q : Exit → Act → World → Prop} (hgd : o.guard = none) (s x : Operand) (t : TypeId)
    (ho : o.op = .call { callee := .builtin .append, args := #[s, x], argTypes := #[t, t] })
    (e : TypeId) (i : TypeInfo) (z : Value) (ht : P.underlying t = some (.slice e)) (hi : P.info? e = some i) (hz : i.zero = some z) (hzs : z.cells.size = i.size) (hsz : 0 < i.size)
    (v : Value) (n : Nat) (xs : List Value) (hs : a.eval s = v) (hown : w.ownsRow 0 e i.size v n xs)
    (ad : Addr) (m c : Nat) (news : List Value) (hx : a.eval x = .slice (some ad) m c) (hm : 0 < m) (hl : news.length = m * i.size) (hnews : ∀ j u, news[j]? = some u → w.cell? (ad.add j) = some u) (h1 : ∀ u ∈ news, u.oneCell' = true)
    (h63 : n + m ≤ maxLen) (hbytes : (n + m) * i.bytes ≤ 140737488355328)
    (h : ∀ v' w', w'.ownsRow 0 e i.size v' (n + m) (xs ++ news) → w.grownBy w' v.ownBlock → Near w v v' → wpList P ops Q rest (a.put o.dst v') w') : wpList P ops Q (o :: rest) a w :=
  wpList_plain hgd fun _ hK => wp_app s x t ho e i z ht hi hz hzs hsz v n xs hs hown ad m c news hx hm hl hnews h1 h63 hbytes fun v' w' h2 h3 h4 => hK _ _ (h v' w' h2 h3 h4)
theorem wp_appFull {o : Oper} {a : Act} {K : Act → World → Prop} {Q : Exit → Act → World → Prop} (s x : Operand) (t : TypeId)
    (ho : o.op = .call { callee := .builtin .append, args := #[s, x], argTypes := #[t, t] })
    (e : TypeId) (i : TypeInfo) (z : Value) (ht : P.underlying t = some (.slice e)) (hi : P.info? e = some i) (hz : i.zero = some z) (hzs : z.cells.size = i.size)
    (b : Addr) (n : Nat) (xs : List Value) (hs : a.eval s = .slice (some b) n n) (hxl : xs.length = n * i.size) (hxs : ∀ j u, xs[j]? = some u → w.cell? (b.add j) = some u)
    (ad : Addr) (m c : Nat) (news : List Value) (hx : a.eval x = .slice (some ad) m c) (hm : 0 < m) (hl : news.length = m * i.size) (hnews : ∀ j u, news[j]? = some u → w.cell? (ad.add j) = some u)
    (h63 : n + m ≤ maxLen) (hbytes : (n + m) * i.bytes ≤ 140737488355328)
    (h : ∀ v' w', w'.ownsRow 0 e i.size v' (n + m) (xs ++ news) → w.grownBy w' none → v'.ownBlock = some w.heap.size → K (a.put o.dst v') w') : o.wp P a w K Q := by
  obtain ⟨v', w', hr, h2, h3, h4⟩ := run_app_full (P := P) w t o.type e i z ht hi hz hzs b n xs hxl hxs ad m c news hm hl hnews h63 hbytes
  unfold Oper.wp execOp
  simp only [ho, resolve, invoke, builtin, Sem.run_bind, Sem.run_pure, Result.andThen_ok, List.map_toArray, List.map_cons, List.map_nil, hs, hx, hr]
  exact h v' w' h2 h3 h4
theorem wpList_appFull {ops : Array Oper} {rest : List Oper} {o : Oper} {a : Act} {Q : Exit → Act → World → Prop} (hgd : o.guard = none) (s x : Operand) (t : TypeId)
    (ho : o.op = .call { callee := .builtin .append, args := #[s, x], argTypes := #[t, t] })
    (e : TypeId) (i : TypeInfo) (z : Value) (ht : P.underlying t = some (.slice e)) (hi : P.info? e = some i) (hz : i.zero = some z) (hzs : z.cells.size = i.size)
    (b : Addr) (n : Nat) (xs : List Value) (hs : a.eval s = .slice (some b) n n) (hxl : xs.length = n * i.size) (hxs : ∀ j u, xs[j]? = some u → w.cell? (b.add j) = some u)
    (ad : Addr) (m c : Nat) (news : List Value) (hx : a.eval x = .slice (some ad) m c) (hm : 0 < m) (hl : news.length = m * i.size) (hnews : ∀ j u, news[j]? = some u → w.cell? (ad.add j) = some u)
    (h63 : n + m ≤ maxLen) (hbytes : (n + m) * i.bytes ≤ 140737488355328)
    (h : ∀ v' w', w'.ownsRow 0 e i.size v' (n + m) (xs ++ news) → w.grownBy w' none → v'.ownBlock = some w.heap.size → wpList P ops Q rest (a.put o.dst v') w') : wpList P ops Q (o :: rest) a w :=
  wpList_plain hgd fun _ hK => wp_appFull s x t ho e i z ht hi hz hzs b n xs hs hxl hxs ad m c news hx hm hl hnews h63 hbytes fun v' w' h2 h3 h4 => hK _ _ (h v' w' h2 h3 h4)
end

/-- Growth behind growth: what is written lies in the first row or is new. -/
theorem grown_trans {w w1 w2 : World} {r r1 : Option Nat} (h : w.grownBy w1 r) (h1 : w1.grownBy w2 r1) (hr : r1 = r ∨ ∀ k, r1 = some k → w.heap.size ≤ k) : w.grownBy w2 r :=
  ⟨h1.os.trans h.os, h1.tape.trans h.tape, h1.output.trans h.output, Nat.le_trans h.size h1.size, fun k hk hne => by
    refine (h1.block k (Nat.lt_of_lt_of_le hk h.size) ?_).trans (h.block k hk hne)
    rcases hr with e | e
    · rw [e]; exact hne
    · intro e2; have := e k e2.symm; omega⟩
end Go.Proofs.YtjbojoeafdkkeaaGreatDoor
