/- sign: Verify. -/
import Derived.Test.YtjbojoeafdkkeaaGreatDoorJ9
import Derived.MapKept
import Derived.Maps.Own
import Derived.Carry
set_option linter.unusedVariables false
set_option linter.unusedSimpArgs false
namespace Go.Proofs.YtjbojoeafdkkeaaGreatDoor
open Go Go.RowKit Go.Lib

/-- What Verify answers. -/
def verV (p r s : Int) (msg : List Int) : Bool := elt p && (elt r && (!outQ s && decide (pwr 4 s.toNat = r * pwr p (chal r p msg).toNat % 4611686018427377339)))

/-- What holds of every world since the box of the signature was made. -/
theorem held_step {w W W2 : World} {r s : Value} (h : Below w.heap.size w W ∧ W.cell? ⟨w.heap.size, 0, none⟩ = some r ∧ W.cell? ⟨w.heap.size, 1, none⟩ = some s) (hb : Below W.heap.size W W2) :
    Below w.heap.size w W2 ∧ W2.cell? ⟨w.heap.size, 0, none⟩ = some r ∧ W2.cell? ⟨w.heap.size, 1, none⟩ = some s :=
  ⟨below_step h.1 hb (Nat.le_refl _), (hb.cell (p := ⟨w.heap.size, 0, none⟩) (cell_lt h.2.1)).trans h.2.1, (hb.cell (p := ⟨w.heap.size, 1, none⟩) (cell_lt h.2.1)).trans h.2.2⟩
theorem held_alloc {w W : World} {r s : Value} (h : Below w.heap.size w W ∧ W.cell? ⟨w.heap.size, 0, none⟩ = some r ∧ W.cell? ⟨w.heap.size, 1, none⟩ = some s) (o : Obj) :
    Below w.heap.size w (W.alloc o) ∧ (W.alloc o).cell? ⟨w.heap.size, 0, none⟩ = some r ∧ (W.alloc o).cell? ⟨w.heap.size, 1, none⟩ = some s := held_step h ((Below.refl _ _).alloc (Nat.le_refl _) o)
theorem held_drew {w W : World} {r s : Value} (h : Below w.heap.size w W ∧ W.cell? ⟨w.heap.size, 0, none⟩ = some r ∧ W.cell? ⟨w.heap.size, 1, none⟩ = some s) :
    Below w.heap.size w W.drew ∧ W.drew.cell? ⟨w.heap.size, 0, none⟩ = some r ∧ W.drew.cell? ⟨w.heap.size, 1, none⟩ = some s := ⟨below_drewN h.1 1, h.2⟩
theorem held_set {w W : World} {r s : Value} (h : Below w.heap.size w W ∧ W.cell? ⟨w.heap.size, 0, none⟩ = some r ∧ W.cell? ⟨w.heap.size, 1, none⟩ = some s) (a : Addr) (ha : w.heap.size < a.block) (v : Value) :
    Below w.heap.size w (W.setCell a v) ∧ (W.setCell a v).cell? ⟨w.heap.size, 0, none⟩ = some r ∧ (W.setCell a v).cell? ⟨w.heap.size, 1, none⟩ = some s :=
  ⟨Below.setCell h.1 (Nat.le_of_lt ha) v, by rw [World.cell?_setCell_other _ _ _ _ (by intro e; subst e; simp at ha)]; exact h.2.1, by rw [World.cell?_setCell_other _ _ _ _ (by intro e; subst e; simp at ha)]; exact h.2.2⟩

/-- Three cells of a block, which may be written. -/
def Three (W : World) (K : Nat) (a b c : Value) : Prop := (W.cell? ⟨K, 0, none⟩ = some a ∧ W.cell? ⟨K, 1, none⟩ = some b ∧ W.cell? ⟨K, 2, none⟩ = some c) ∧ W.frozen? ⟨K, 0, none⟩ = false ∧ W.frozen? ⟨K, 1, none⟩ = false ∧ W.frozen? ⟨K, 2, none⟩ = false
theorem three_new {W wq : World} {a b c : Value} {t : TypeId} (hb : Below (W.alloc (.cells #[a, b, c] t)).heap.size (W.alloc (.cells #[a, b, c] t)) wq) : Three wq W.heap.size a b c := by
  have hf : ∀ k, (W.alloc (.cells #[a, b, c] t)).frozen? ⟨W.heap.size, k, none⟩ = false := fun k => by simp only [World.frozen?, World.alloc_heap_new]; simp
  have hl : W.heap.size < (W.alloc (.cells #[a, b, c] t)).heap.size := by simp
  exact ⟨⟨(hb.cell (p := ⟨W.heap.size, 0, none⟩) hl).trans (cells_new _ _ _ 0), (hb.cell (p := ⟨W.heap.size, 1, none⟩) hl).trans (cells_new _ _ _ 1), (hb.cell (p := ⟨W.heap.size, 2, none⟩) hl).trans (cells_new _ _ _ 2)⟩,
    (hb.frozen (p := ⟨W.heap.size, 0, none⟩) hl).trans (hf 0), (hb.frozen (p := ⟨W.heap.size, 1, none⟩) hl).trans (hf 1), (hb.frozen (p := ⟨W.heap.size, 2, none⟩) hl).trans (hf 2)⟩
theorem three_step {W wq : World} {K : Nat} {a b c : Value} (h : Three W K a b c) (hb : Below W.heap.size W wq) : Three wq K a b c := by
  have hl := cell_lt h.1.1
  exact ⟨⟨(hb.cell (p := ⟨K, 0, none⟩) hl).trans h.1.1, (hb.cell (p := ⟨K, 1, none⟩) hl).trans h.1.2.1, (hb.cell (p := ⟨K, 2, none⟩) hl).trans h.1.2.2⟩,
    (hb.frozen (p := ⟨K, 0, none⟩) hl).trans h.2.1, (hb.frozen (p := ⟨K, 1, none⟩) hl).trans h.2.2.1, (hb.frozen (p := ⟨K, 2, none⟩) hl).trans h.2.2.2⟩

theorem three_set {W : World} {K : Nat} {a b c : Value} (h : Three W K a b c) (x y z : Value) :
    (((W.setCell ⟨K, 0, none⟩ x).setCell ⟨K, 1, none⟩ y).setCell ⟨K, 2, none⟩ z).cell? ⟨K, 0, none⟩ = some x ∧ (((W.setCell ⟨K, 0, none⟩ x).setCell ⟨K, 1, none⟩ y).setCell ⟨K, 2, none⟩ z).cell? ⟨K, 1, none⟩ = some y ∧ (((W.setCell ⟨K, 0, none⟩ x).setCell ⟨K, 1, none⟩ y).setCell ⟨K, 2, none⟩ z).cell? ⟨K, 2, none⟩ = some z := by
  have n01 : (⟨K, 0, none⟩ : Addr) ≠ ⟨K, 1, none⟩ := by simp
  have n02 : (⟨K, 0, none⟩ : Addr) ≠ ⟨K, 2, none⟩ := by simp
  have n12 : (⟨K, 1, none⟩ : Addr) ≠ ⟨K, 2, none⟩ := by simp
  have s0 := World.cell?_setCell_same W _ x h.1.1
  have s1 : ((W.setCell ⟨K, 0, none⟩ x).setCell ⟨K, 1, none⟩ y).cell? ⟨K, 1, none⟩ = some y := World.cell?_setCell_same _ _ y ((World.cell?_setCell_other _ _ _ _ n01).trans h.1.2.1)
  have s0' : ((W.setCell ⟨K, 0, none⟩ x).setCell ⟨K, 1, none⟩ y).cell? ⟨K, 0, none⟩ = some x := (World.cell?_setCell_other _ _ _ _ n01.symm).trans s0
  have s2 : ((W.setCell ⟨K, 0, none⟩ x).setCell ⟨K, 1, none⟩ y).cell? ⟨K, 2, none⟩ = some c := (World.cell?_setCell_other _ _ _ _ n12).trans ((World.cell?_setCell_other _ _ _ _ n02).trans h.1.2.2)
  exact ⟨(World.cell?_setCell_other _ _ _ _ n02.symm).trans s0', (World.cell?_setCell_other _ _ _ _ n12.symm).trans s1, World.cell?_setCell_same _ _ z s2⟩

/-- A piece of code, cut behind: what stands behind it is walked once. -/
theorem cut_piece {P : Program} {c : Code} {Q : Exit → Act → World → Prop} {a : Act} {w : World} (Rel : Act → World → Prop) (h1 : c.wp P (fun e a' w' => e = .normal ∧ Rel a' w') a w) (h2 : ∀ a' w', Rel a' w' → Q .normal a' w') : c.wp P Q a w :=
  Code.wp_mono (fun e a' w' ⟨he, hr⟩ => by subst he; exact h2 a' w' hr) h1

set_option maxHeartbeats 4000000 in
set_option maxRecDepth 100000 in
theorem verify_c (p r s : Int) (b o cap : Nat) (msg : List Int) (w : World) (hL : Laid w) (hu : U8 w b o msg) (hb : b < w.heap.size) (n0 : 0 < msg.length) (hl : msg.length ≤ 5000)
    (hp : -9223372036854775808 ≤ p ∧ p ≤ 9223372036854775807) (hr : -9223372036854775808 ≤ r ∧ r ≤ 9223372036854775807) :
    Calls Tryz.prog 138 #[.int .i64 p, .slice (some ⟨b, o, none⟩) msg.length cap, .agg #[.int .i64 r, .int .i64 s]] w fun e w' => e = .returned (.bool (verV p r s msg)) ∧ Below w.heap.size w w' := by
  have HL := Bx.mk hL; have HU := Bx.mk hu; have HBL := Bx.mk hb
  clear hL hu hb
  have HB := Bx.mk (blk_new w .i64 [r, s] 42)
  have HB0 := Bx.mk ((Below.refl w.heap.size w).alloc (Nat.le_refl _) (.cells #[.int .i64 r, .int .i64 s] 42))
  obtain ⟨p0, p1⟩ := hp
  obtain ⟨r0, r1⟩ := hr
  go_enter Tryz.func138, Tryz.ntmps138
  go_wp2_with fail
  have HS0 := Bx.mk (show Blk (w.alloc (.cells #[.int .i64 r, .int .i64 s] 42)) w.heap.size .i64 [r, s] from HB.out)
  clear HB
  generalize w.alloc (.cells #[.int .i64 r, .int .i64 s] 42) = w1 at *
  have hS1 := HS0.out.lt (by simp)
  have hk : Below w.heap.size w w1 ∧ w1.cell? ⟨w.heap.size, 0, none⟩ = some (.int .i64 r) ∧ w1.cell? ⟨w.heap.size, 1, none⟩ = some (.int .i64 s) := ⟨HB0.out, HS0.out.get (i := 0) rfl, HS0.out.get (i := 1) rfl⟩
  refine cut_piece (fun a' W' => ∃ T, a' = { tmps := #[.int .i64 p, .slice (some ⟨b, o, none⟩) msg.length cap, .agg #[.int .i64 r, .int .i64 s], undef, undef, .pointer (some ⟨w.heap.size, 0, none⟩), .bool false, .pointer (some ⟨T, 0, none⟩), undef, undef, undef, undef, undef, undef, .int .i64 p, .int .i64 (gcheck p), .pointer (some ⟨w.heap.size, 0, none⟩), .int .i64 r, .int .i64 (gcheck r), .pointer (some ⟨w.heap.size, 1, none⟩), .int .i64 s, .int .i64 (fcheck s), .agg #[.int .i64 (gcheck p), .int .i64 (gcheck r), .int .i64 (fcheck s)], undef, undef, undef, undef, undef, undef, undef, undef, undef, undef, undef, undef, undef, undef, undef, undef, undef, undef, undef, undef, undef, undef, undef, undef, undef, undef, undef, undef, undef, undef], defers := [] } ∧ (Below w.heap.size w W' ∧ W'.cell? ⟨w.heap.size, 0, none⟩ = some (.int .i64 r) ∧ W'.cell? ⟨w.heap.size, 1, none⟩ = some (.int .i64 s)) ∧ W'.cell? ⟨T, 0, none⟩ = some (.int .i64 (gcheck p)) ∧ W'.cell? ⟨T, 1, none⟩ = some (.int .i64 (gcheck r)) ∧ W'.cell? ⟨T, 2, none⟩ = some (.int .i64 (fcheck s))) ?_ ?_
  · go_region_held3 (fun W' => Below w.heap.size w W' ∧ W'.cell? ⟨w.heap.size, 0, none⟩ = some (.int .i64 r) ∧ W'.cell? ⟨w.heap.size, 1, none⟩ = some (.int .i64 s)) (first | assumption | (refine held_drew ?_; assumption) | (refine held_alloc ?_ _; assumption) | (refine held_drew (held_alloc ?_ _); assumption) | (refine held_set (held_set (held_set ?_ _ ?_ _) _ ?_ _) _ ?_ _ <;> assumption))
      (first
        | (go_at_call 25; refine (gcheck_c _ _ (by assumption) (by assumption)).mono ?_; rintro e wq ⟨rfl, hbq⟩; have hkq := held_step (r := .int .i64 r) (s := .int .i64 s) (by assumption) hbq; have hltq := cell_lt hkq.2.1; (first | (have hz := three_new (W := w1) (below_undrew hbq); obtain ⟨⟨z0, z1, z2⟩, y0, y1, y2⟩ := id hz) | (have hz := three_new hbq; obtain ⟨⟨z0, z1, z2⟩, y0, y1, y2⟩ := id hz) | (have hz2 := three_step (show Three _ _ _ _ _ by assumption) hbq; obtain ⟨⟨x0, x1, x2⟩, u0, u1, u2⟩ := id hz2) | skip); clear hbq)
        | (go_at_call 173; refine (fcheck_c _ _).mono ?_; rintro e wq ⟨rfl, hbq⟩; have hkq := held_step (r := .int .i64 r) (s := .int .i64 s) (by assumption) hbq; have hltq := cell_lt hkq.2.1; (first | (have hz := three_new (W := w1) (below_undrew hbq); obtain ⟨⟨z0, z1, z2⟩, y0, y1, y2⟩ := id hz) | (have hz := three_new hbq; obtain ⟨⟨z0, z1, z2⟩, y0, y1, y2⟩ := id hz) | (have hz2 := three_step (show Three _ _ _ _ _ by assumption) hbq; obtain ⟨⟨x0, x1, x2⟩, u0, u1, u2⟩ := id hz2) | skip); clear hbq))
    all_goals refine ⟨rfl, _, rfl, ?_, ?_⟩
    all_goals first
      | assumption
      | exact ⟨cells_new _ _ _ 0, cells_new _ _ _ 1, cells_new _ _ _ 2⟩
      | exact three_set (by assumption) _ _ _
  · rintro a' W' ⟨T, rfl, ⟨hb, c0, c1⟩, t0, t1, t2⟩
    (try dsimp only)
    clear hk HB0 HS0
    have hcmp := eq_three (gcheck p) (gcheck r) (fcheck s) W'
    have HBW := Bx.mk hb
    have HC0 := Bx.mk (show _ ∧ _ from ⟨c0, c1⟩)
    clear hb
    by_cases hok : gcheck p = 0 ∧ gcheck r = 0 ∧ fcheck s = 0
    · rw [show decide ([gcheck p, gcheck r, fcheck s] = [0, 0, 0]) = true from by rw [hok.1, hok.2.1, hok.2.2]; rfl] at hcmp
      have hep : elt p = true := by
        cases h : elt p
        · have := gcheck_40 (a := p) (by rw [h]; simp); rw [hok.1] at this; cases this
        · rfl
      have her : elt r = true := by
        cases h : elt r
        · have := gcheck_40 (a := r) (by rw [h]; simp); rw [hok.2.1] at this; cases this
        · rfl
      have hos : outQ s = false := by
        cases h : outQ s
        · rfl
        · have := hok.2.2; rw [fcheck, h] at this; cases this
      have hs0 : 0 ≤ s ∧ s < 2305843009213688669 := by simp [outQ] at hos; omega
      clear hok
      have HEP := Bx.mk hep; have HER := Bx.mk her; have HOS := Bx.mk hos
      obtain ⟨s0, s1⟩ := hs0
      clear hep her hos
      go_wp2_with fail
      refine (base_c s _ s0 s1).mono ?_
      rintro e w2 ⟨rfl, hb2⟩
      obtain ⟨M, hM⟩ : ∃ M, M = pwr 4 s.toNat := ⟨_, rfl⟩
      rw [← hM]
      have HM := Bx.mk hM
      have hh2 := held_step (And.intro HBW.out HC0.out) hb2
      have HH2 := Bx.mk hh2
      obtain ⟨hb2', d0, d1⟩ := hh2
      have X2 : Below w2.heap.size w2 (w2.alloc (.cells #[.int .i64 r, .int .i64 p] 3)) := (Below.refl _ _).alloc (Nat.le_refl _) _
      have hrp := fun (a : Int) (ha : elt a = true) => (show 0 ≤ a ∧ a < 9223372036854775808 from ⟨by have := elt_pos ha; omega, by have := elt_lt ha; omega⟩)
      have hsz2 := hb2'.size
      have hcn := Bx.mk (hash_c tSign b o cap w2.heap.size msg [r, p] (w2.alloc (.cells #[.int .i64 r, .int .i64 p] 3)) ((HL.out.below hb2' (Nat.le_refl _)).below X2 (Nat.le_refl _)) ((HU.out.below HBL.out hb2').below (by have := HBL.out; omega) X2) (by have := HBL.out; simp; omega) n0 hl (by decide) (by decide) (by simp) (by simp)
        (fun i hi => by
          have : i = 0 ∨ i = 1 := by simp at hi; omega
          rcases this with rfl | rfl
          · exact cells_new _ _ _ 0
          · exact cells_new _ _ _ 1) (by
          intro n hn
          rcases List.mem_cons.1 hn with rfl | hn
          · exact hrp _ HER.out
          · rw [List.mem_singleton.1 hn]; exact hrp _ HEP.out))
      have HX2 := Bx.mk X2
      clear hM hb2 hb2' X2 hrp t0 t1 t2 c0 c1
      go_wp2_with fail
      refine hcn.out.mono ?_
      rintro e w3 ⟨rfl, hb3⟩
      have hcr := hashN_range tSign msg [r, p]
      obtain ⟨c, hc⟩ : ∃ c, c = hashN tSign msg [r, p] := ⟨_, rfl⟩
      rw [← hc] at hcr ⊢
      obtain ⟨k0, k1⟩ := hcr
      have HC := Bx.mk hc
      have hh3 := held_step (held_step HH2.out HX2.out) hb3
      have HH3 := Bx.mk hh3
      clear hc hb3 hcn d0 d1
      obtain ⟨_, d0, d1⟩ := hh3
      go_wp2_with fail
      refine (gexp_ok p c _ HEP.out (by omega) k1).mono ?_
      rintro e w4 ⟨rfl, hb4⟩
      have hq := elt_pwr HEP.out c.toNat
      obtain ⟨q, hqd⟩ : ∃ q, q = pwr p c.toNat := ⟨_, rfl⟩
      rw [← hqd] at hq ⊢
      have HQE := Bx.mk hq
      have HQ := Bx.mk hqd
      have hh4 := held_step HH3.out hb4
      have HH4 := Bx.mk hh4
      clear hqd hq hb4 d0 d1
      obtain ⟨_, d0, d1⟩ := hh4
      go_wp2_with fail
      refine (gmul_c r q _ HER.out HQE.out).mono ?_
      rintro e w5 ⟨rfl, hb5⟩
      obtain ⟨z, hz⟩ : ∃ z, z = r * q % 4611686018427377339 := ⟨_, rfl⟩
      rw [← hz]
      have HZ := Bx.mk hz
      have hh5 := Bx.mk (held_step HH4.out hb5)
      clear hz hb5
      go_wp2_with fail
      go_ret
      refine ⟨?_, hh5.out.1⟩
      have ev : verV p r s msg = decide (M = z) := by
        rw [HM.out, HZ.out, HQ.out, HC.out, verV, HEP.out, HER.out, HOS.out]; rfl
      rw [ev]; rfl
    · rw [show decide ([gcheck p, gcheck r, fcheck s] = [0, 0, 0]) = false from by
        rw [decide_eq_false_iff_not]
        intro h
        exact hok (by simpa using h)] at hcmp
      have hv : verV p r s msg = false := by
        cases h1 : elt p
        · simp [verV, h1]
        · cases h2 : elt r
          · simp [verV, h2]
          · cases h3 : outQ s
            · exact absurd ⟨gcheck_0 h1, gcheck_0 h2, by simp [fcheck, h3]⟩ hok
            · simp [verV, h3]
      have HV := Bx.mk hv
      clear hok hv
      go_wp2_with fail
      go_ret
      exact ⟨by rw [HV.out]; rfl, HBW.out⟩
end Go.Proofs.YtjbojoeafdkkeaaGreatDoor

namespace Go.Proofs.YtjbojoeafdkkeaaGreatDoor
open Go Go.RowKit Go.Lib

def isDev (d : Int) : Bool := decide (0 ≤ d) && decide (d < 512)
theorem isDev_iff (d : Int) : isDev d = true ↔ 0 ≤ d ∧ d < 512 := by simp [isDev]
theorem isDev_c (x : Int) (w : World) : Calls Tryz.prog 60 #[.int .i64 x] w fun e w' => e = .returned (.bool (isDev x)) ∧ w = w' := by
  by_cases h : 0 ≤ x
  · by_cases h2 : x < 512
    · have e : isDev x = true := (isDev_iff x).2 ⟨h, h2⟩
      rw [e]; clear e
      go_enter Tryz.func60, Tryz.ntmps60
      go_wp2_with fail
      go_ret
      exact ⟨rfl, rfl⟩
    · have e : isDev x = false := by simp [isDev]; omega
      rw [e]; clear e
      go_enter Tryz.func60, Tryz.ntmps60
      go_wp2_with fail
      go_ret
      exact ⟨rfl, rfl⟩
  · have e : isDev x = false := by simp [isDev]; omega
    rw [e]; clear e
    go_enter Tryz.func60, Tryz.ntmps60
    go_wp2_with fail
    go_ret
    exact ⟨rfl, rfl⟩

def ownV (d : Int) : Value := if isDev d then .tuple #[.int .i64 (d / 8), .int .i64 0] else .tuple #[.int .i64 0, .int .i64 371]
theorem owner_c (x : Int) (w : World) : Calls Tryz.prog 24 #[.int .i64 x] w fun e w' => e = .returned (ownV x) ∧ w = w' := by
  have hv := Bx.mk (isDev_c x)
  cases hx : isDev x
  · rw [hx] at hv
    rw [show ownV x = .tuple #[.int .i64 0, .int .i64 371] by simp [ownV, hx]]
    clear hx
    go_enter Tryz.func24, Tryz.ntmps24
    go_wp2_with fail
    refine (hv.out _).mono ?_
    rintro e w1 ⟨rfl, rfl⟩
    go_wp2_with fail
    go_ret2
    exact ⟨rfl, rfl⟩
  · rw [hx] at hv
    obtain ⟨h0, h1⟩ := (isDev_iff x).1 hx
    rw [show ownV x = .tuple #[.int .i64 (x / 8), .int .i64 0] by simp [ownV, hx]]
    have hq : Int.tdiv x 8 = x / 8 := Int.tdiv_eq_ediv_of_nonneg h0
    clear hx
    go_enter Tryz.func24, Tryz.ntmps24
    go_wp2_with fail
    refine (hv.out _).mono ?_
    rintro e w1 ⟨rfl, rfl⟩
    go_wp2_with fail
    go_ret2
    exact ⟨rfl, rfl⟩
end Go.Proofs.YtjbojoeafdkkeaaGreatDoor

namespace Go.Proofs.YtjbojoeafdkkeaaGreatDoor
open Go Go.RowKit Go.Lib

set_option maxHeartbeats 8000000 in
set_option maxRecDepth 100000 in
theorem eight_c (n : Int) (w : World) (r0 : 0 ≤ n) (r1 : n < 9223372036854775808) :
    Calls Tryz.prog 70 #[.int .i64 n] w fun e w' => ∃ g c, e = .returned (.slice (some ⟨g, 0, none⟩) 8 c) ∧ 8 ≤ c ∧ c ≤ 9223372036854775807 ∧ w.heap.size ≤ g ∧ g < w'.heap.size ∧ U8 w' g 0 (be8 n) ∧ Below w.heap.size w w' := by
  have hv0 : Bx (Bytes w (.slice none 0 0) []) := .mk (own_nil w)
  have hs0 : Bx (Since w (.slice none 0 0) w (.slice none 0 0)) := .mk (Since.refl _ _)
  go_enter Tryz.func70, Tryz.ntmps70
  go_wp2_with fail
  refine wp_loop_rounds 9 ?_
  rw [rounds_succ]
  have hlen0 : (([]) : List Int).length + 1 ≤ 1000000 := by simp
  go_wp2_with (at_builtin; go_must (refine wpList_app8 rfl (.tmp 7) (.tmp 14) rfl (Value.slice none 0 0) ([]) rfl ?c0 ⟨w.heap.size, 0, none⟩ 1 1 [(n / 72057594037927936)] rfl rfl (by omega) (one_new _ _ _) hlen0 ?_))
  case c0 => exact hv0.out.alloc _
  intro v1 w1 hb1 ht1
  have hv1 : Bx (Bytes w1 v1 [(n / 72057594037927936)]) := Bx.mk (by simpa only [List.append_assoc, List.cons_append, List.nil_append] using hb1)
  have hs1 := Bx.mk (hs0.out.trans ((Since.refl _ _).alloc _ |>.trans ht1))
  clear hb1 ht1 hv0 hs0
  go_wp2_with fail
  rw [rounds_succ]
  have hlen1 : (([(n / 72057594037927936)]) : List Int).length + 1 ≤ 1000000 := by simp
  go_wp2_with (at_builtin; go_must (refine wpList_app8 rfl (.tmp 7) (.tmp 14) rfl v1 ([(n / 72057594037927936)]) rfl ?c1 ⟨w1.heap.size, 0, none⟩ 1 1 [(n / 281474976710656 % 256)] rfl rfl (by omega) (one_new _ _ _) hlen1 ?_))
  case c1 => exact hv1.out.alloc _
  intro v2 w2 hb2 ht2
  have hv2 : Bx (Bytes w2 v2 [(n / 72057594037927936), (n / 281474976710656 % 256)]) := Bx.mk (by simpa only [List.append_assoc, List.cons_append, List.nil_append] using hb2)
  have hs2 := Bx.mk (hs1.out.trans ((Since.refl _ _).alloc _ |>.trans ht2))
  clear hb2 ht2 hv1 hs1
  go_wp2_with fail
  rw [rounds_succ]
  have hlen2 : (([(n / 72057594037927936), (n / 281474976710656 % 256)]) : List Int).length + 1 ≤ 1000000 := by simp
  go_wp2_with (at_builtin; go_must (refine wpList_app8 rfl (.tmp 7) (.tmp 14) rfl v2 ([(n / 72057594037927936), (n / 281474976710656 % 256)]) rfl ?c2 ⟨w2.heap.size, 0, none⟩ 1 1 [(n / 1099511627776 % 256)] rfl rfl (by omega) (one_new _ _ _) hlen2 ?_))
  case c2 => exact hv2.out.alloc _
  intro v3 w3 hb3 ht3
  have hv3 : Bx (Bytes w3 v3 [(n / 72057594037927936), (n / 281474976710656 % 256), (n / 1099511627776 % 256)]) := Bx.mk (by simpa only [List.append_assoc, List.cons_append, List.nil_append] using hb3)
  have hs3 := Bx.mk (hs2.out.trans ((Since.refl _ _).alloc _ |>.trans ht3))
  clear hb3 ht3 hv2 hs2
  go_wp2_with fail
  rw [rounds_succ]
  have hlen3 : (([(n / 72057594037927936), (n / 281474976710656 % 256), (n / 1099511627776 % 256)]) : List Int).length + 1 ≤ 1000000 := by simp
  go_wp2_with (at_builtin; go_must (refine wpList_app8 rfl (.tmp 7) (.tmp 14) rfl v3 ([(n / 72057594037927936), (n / 281474976710656 % 256), (n / 1099511627776 % 256)]) rfl ?c3 ⟨w3.heap.size, 0, none⟩ 1 1 [(n / 4294967296 % 256)] rfl rfl (by omega) (one_new _ _ _) hlen3 ?_))
  case c3 => exact hv3.out.alloc _
  intro v4 w4 hb4 ht4
  have hv4 : Bx (Bytes w4 v4 [(n / 72057594037927936), (n / 281474976710656 % 256), (n / 1099511627776 % 256), (n / 4294967296 % 256)]) := Bx.mk (by simpa only [List.append_assoc, List.cons_append, List.nil_append] using hb4)
  have hs4 := Bx.mk (hs3.out.trans ((Since.refl _ _).alloc _ |>.trans ht4))
  clear hb4 ht4 hv3 hs3
  go_wp2_with fail
  rw [rounds_succ]
  have hlen4 : (([(n / 72057594037927936), (n / 281474976710656 % 256), (n / 1099511627776 % 256), (n / 4294967296 % 256)]) : List Int).length + 1 ≤ 1000000 := by simp
  go_wp2_with (at_builtin; go_must (refine wpList_app8 rfl (.tmp 7) (.tmp 14) rfl v4 ([(n / 72057594037927936), (n / 281474976710656 % 256), (n / 1099511627776 % 256), (n / 4294967296 % 256)]) rfl ?c4 ⟨w4.heap.size, 0, none⟩ 1 1 [(n / 16777216 % 256)] rfl rfl (by omega) (one_new _ _ _) hlen4 ?_))
  case c4 => exact hv4.out.alloc _
  intro v5 w5 hb5 ht5
  have hv5 : Bx (Bytes w5 v5 [(n / 72057594037927936), (n / 281474976710656 % 256), (n / 1099511627776 % 256), (n / 4294967296 % 256), (n / 16777216 % 256)]) := Bx.mk (by simpa only [List.append_assoc, List.cons_append, List.nil_append] using hb5)
  have hs5 := Bx.mk (hs4.out.trans ((Since.refl _ _).alloc _ |>.trans ht5))
  clear hb5 ht5 hv4 hs4
  go_wp2_with fail
  rw [rounds_succ]
  have hlen5 : (([(n / 72057594037927936), (n / 281474976710656 % 256), (n / 1099511627776 % 256), (n / 4294967296 % 256), (n / 16777216 % 256)]) : List Int).length + 1 ≤ 1000000 := by simp
  go_wp2_with (at_builtin; go_must (refine wpList_app8 rfl (.tmp 7) (.tmp 14) rfl v5 ([(n / 72057594037927936), (n / 281474976710656 % 256), (n / 1099511627776 % 256), (n / 4294967296 % 256), (n / 16777216 % 256)]) rfl ?c5 ⟨w5.heap.size, 0, none⟩ 1 1 [(n / 65536 % 256)] rfl rfl (by omega) (one_new _ _ _) hlen5 ?_))
  case c5 => exact hv5.out.alloc _
  intro v6 w6 hb6 ht6
  have hv6 : Bx (Bytes w6 v6 [(n / 72057594037927936), (n / 281474976710656 % 256), (n / 1099511627776 % 256), (n / 4294967296 % 256), (n / 16777216 % 256), (n / 65536 % 256)]) := Bx.mk (by simpa only [List.append_assoc, List.cons_append, List.nil_append] using hb6)
  have hs6 := Bx.mk (hs5.out.trans ((Since.refl _ _).alloc _ |>.trans ht6))
  clear hb6 ht6 hv5 hs5
  go_wp2_with fail
  rw [rounds_succ]
  have hlen6 : (([(n / 72057594037927936), (n / 281474976710656 % 256), (n / 1099511627776 % 256), (n / 4294967296 % 256), (n / 16777216 % 256), (n / 65536 % 256)]) : List Int).length + 1 ≤ 1000000 := by simp
  go_wp2_with (at_builtin; go_must (refine wpList_app8 rfl (.tmp 7) (.tmp 14) rfl v6 ([(n / 72057594037927936), (n / 281474976710656 % 256), (n / 1099511627776 % 256), (n / 4294967296 % 256), (n / 16777216 % 256), (n / 65536 % 256)]) rfl ?c6 ⟨w6.heap.size, 0, none⟩ 1 1 [(n / 256 % 256)] rfl rfl (by omega) (one_new _ _ _) hlen6 ?_))
  case c6 => exact hv6.out.alloc _
  intro v7 w7 hb7 ht7
  have hv7 : Bx (Bytes w7 v7 [(n / 72057594037927936), (n / 281474976710656 % 256), (n / 1099511627776 % 256), (n / 4294967296 % 256), (n / 16777216 % 256), (n / 65536 % 256), (n / 256 % 256)]) := Bx.mk (by simpa only [List.append_assoc, List.cons_append, List.nil_append] using hb7)
  have hs7 := Bx.mk (hs6.out.trans ((Since.refl _ _).alloc _ |>.trans ht7))
  clear hb7 ht7 hv6 hs6
  go_wp2_with fail
  rw [rounds_succ]
  have hlen7 : (([(n / 72057594037927936), (n / 281474976710656 % 256), (n / 1099511627776 % 256), (n / 4294967296 % 256), (n / 16777216 % 256), (n / 65536 % 256), (n / 256 % 256)]) : List Int).length + 1 ≤ 1000000 := by simp
  go_wp2_with (at_builtin; go_must (refine wpList_app8 rfl (.tmp 7) (.tmp 14) rfl v7 ([(n / 72057594037927936), (n / 281474976710656 % 256), (n / 1099511627776 % 256), (n / 4294967296 % 256), (n / 16777216 % 256), (n / 65536 % 256), (n / 256 % 256)]) rfl ?c7 ⟨w7.heap.size, 0, none⟩ 1 1 [(n % 256)] rfl rfl (by omega) (one_new _ _ _) hlen7 ?_))
  case c7 => exact hv7.out.alloc _
  intro v8 w8 hb8 ht8
  have hv8 : Bx (Bytes w8 v8 [(n / 72057594037927936), (n / 281474976710656 % 256), (n / 1099511627776 % 256), (n / 4294967296 % 256), (n / 16777216 % 256), (n / 65536 % 256), (n / 256 % 256), (n % 256)]) := Bx.mk (by simpa only [List.append_assoc, List.cons_append, List.nil_append] using hb8)
  have hs8 := Bx.mk (hs7.out.trans ((Since.refl _ _).alloc _ |>.trans ht8))
  clear hb8 ht8 hv7 hs7
  go_wp2_with fail
  rw [rounds_succ]
  go_wp2_with fail
  go_ret
  have h := hv8.out
  have e0 : n / 72057594037927936 % 256 = n / 72057594037927936 := by omega
  rw [← e0] at h
  obtain ⟨b1, b2⟩ := below_of_since hs8.out
  rcases h.2 with ⟨_, h0⟩ | ⟨g, c, cur, hv1, _, _, h1, h2, _⟩
  · simp at h0
  · have hv2 : v8 = .slice (some ⟨g, 0, none⟩) 8 c := hv1
    subst hv2
    have hu := u8_of_bytes h
    refine ⟨g, c, rfl, by simpa using h1, by unfold maxLen at h2; omega, b2 g rfl, ?_, hu, b1⟩
    exact cell_lt (hu 0 (by simp))
end Go.Proofs.YtjbojoeafdkkeaaGreatDoor

namespace Go.Proofs.YtjbojoeafdkkeaaGreatDoor
open Go Go.RowKit Go.Lib

def tPake : ByteArray := ⟨#[112, 97, 107, 101]⟩
def tCode : ByteArray := ⟨#[99, 111, 100, 101]⟩
def tProof : ByteArray := ⟨#[112, 114, 111, 111, 102]⟩
def tEnroll : ByteArray := ⟨#[101, 110, 114, 111, 108, 108]⟩
def nameB (r : Int) : List Int := if r = 1 then [104, 111, 115, 116] else [103, 117, 101, 115, 116]
/-- The mask of a role. -/
def baseM (r : Int) : Int := pointN tPake (nameB r)
theorem base_1 : baseM 1 = 4147386292762722240 := by decide +kernel
theorem base_2 : baseM 2 = 896982055724109002 := by decide +kernel
theorem elt_of_pwf (a : Nat) (h1 : 1 ≤ a) (h2 : a < 4611686018427377339) (h3 : pwf 62 a 2305843009213688669 = 1) : elt (a : Int) = true := by
  rw [elt_iff]
  refine ⟨by omega, by omega, ?_⟩
  have h := pwf_eq 62 a 2305843009213688669 (by decide)
  rw [h3] at h
  exact h.symm
theorem elt_base {r : Int} (h : r = 1 ∨ r = 2) : elt (baseM r) = true := by
  rcases h with rfl | rfl
  · rw [base_1]; exact elt_of_pwf 4147386292762722240 (by decide) (by decide) (by decide +kernel)
  · rw [base_2]; exact elt_of_pwf 896982055724109002 (by decide) (by decide) (by decide +kernel)
theorem base_def (r : Int) : baseM r = pointN tPake (nameB r) := rfl
attribute [irreducible] baseM
def pmask (r code : Int) : Int := pwr (baseM r) (scalarN tCode (be8 code)).toNat
theorem elt_mask {r : Int} (h : r = 1 ∨ r = 2) (code : Int) : elt (pmask r code) = true := elt_pwr (elt_base h) _
def ownN (r code x : Int) : Int := pwr 4 x.toNat * pmask r code % 4611686018427377339
theorem elt_own {r : Int} (h : r = 1 ∨ r = 2) (code x : Int) : elt (ownN r code x) = true := elt_mul (elt_pwr elt_four _) (elt_mask h code)
def bareN (r code peer : Int) : Int := peer * pwr (pmask (3 - r) code) 2305843009213688668 % 4611686018427377339
theorem elt_bare {r : Int} (h : r = 1 ∨ r = 2) (code : Int) {peer : Int} (hp : elt peer = true) : elt (bareN r code peer) = true := elt_mul hp (elt_pwr (elt_mask (by omega) code) _)
def zN (r code x peer : Int) : Int := pwr (bareN r code peer) x.toNat
def keyL (h g z : Int) : List Int := be8 h ++ (be8 g ++ be8 z)
/-- The key that a side reckons. -/
def keyN (r code x peer : Int) : List Int :=
  tagged tPake (if r = 1 then keyL (ownN r code x) peer (zN r code x peer) else keyL peer (ownN r code x) (zN r code x peer))
def prfN (k : List Int) (r : Int) : List Int := tagged tProof (k ++ [r])
/-- The proof of a request. -/
def rqN (d : List Int) (dev ver leaf : Int) : List Int := tagged tEnroll (d ++ encL [dev, ver, leaf])

theorem cancel_inv {m x : Int} (hm : elt m = true) (h0 : 0 ≤ x) (h1 : x < 4611686018427377339) : x * m % 4611686018427377339 * pwr m 2305843009213688668 % 4611686018427377339 = x := by
  have h := elt_q hm
  rw [show (2305843009213688669 : Nat) = 2305843009213688668 + 1 from rfl, pwr_succ] at h
  rw [Int.mul_emod, Int.emod_emod_of_dvd _ (Int.dvd_refl _), ← Int.mul_emod, Int.mul_assoc, Int.mul_comm m, Int.mul_emod, h, Int.mul_one, Int.emod_emod_of_dvd _ (Int.dvd_refl _)]
  exact Int.emod_eq_of_lt h0 h1
theorem bare_own {r : Int} (h : r = 1 ∨ r = 2) (code x : Int) : bareN r code (ownN (3 - r) code x) = pwr 4 x.toNat :=
  cancel_inv (elt_mask (by omega) code) (pwr_nonneg _ _) (pwr_lt _ _)
theorem z_agree {r : Int} (h : r = 1 ∨ r = 2) (code x y : Int) : zN r code x (ownN (3 - r) code y) = zN (3 - r) code y (ownN r code x) := by
  unfold zN
  rw [bare_own h]
  have e := bare_own (r := 3 - r) (by omega) code x
  rw [show (3 : Int) - (3 - r) = r by omega] at e
  rw [e, pwr_pwr, pwr_pwr, Nat.mul_comm]
theorem key_agree (code x y : Int) : keyN 1 code x (ownN 2 code y) = keyN 2 code y (ownN 1 code x) := by
  unfold keyN
  rw [if_pos rfl, if_neg (by decide)]
  have e := z_agree (r := 1) (.inl rfl) code x y
  rw [show (3 : Int) - 1 = 2 by decide] at e
  rw [e]
end Go.Proofs.YtjbojoeafdkkeaaGreatDoor

namespace Go.Proofs.YtjbojoeafdkkeaaGreatDoor
open Go Go.RowKit Go.Lib Go.MapKept

def lookI (k : Int) : List (Int × Value) → Option Value
  | [] => none
  | p :: l => if p.1 = k then some p.2 else lookI k l
def putI (k : Int) (v : Value) : List (Int × Value) → List (Int × Value)
  | [] => [(k, v)]
  | p :: l => if p.1 = k then (k, v) :: l else p :: putI k v l
def ekv (e : MapEntry) : Value × Value := (e.key, e.val)
def pkv (p : Int × Value) : Value × Value := (.int .i64 p.1, p.2)
/-- Block r is a map that holds these pairs, in the order in which they came. -/
def MapI (w : World) (r : Nat) (l : List (Int × Value)) : Prop :=
  ∃ (es : Array MapEntry) (clock : Nat), w.heap[r]? = some (.map es clock) ∧ Stamped es clock ∧ es.toList.map ekv = l.map pkv

theorem find_i (k : Int) : ∀ (es : List MapEntry) (l : List (Int × Value)) (i : Nat), es.map ekv = l.map pkv →
    (lookI k l = none ∧ Instr.findNow (.int .i64) (.int .i64 k) es i = some none ∧ (∀ x ∈ es, x.key ≠ .int .i64 k) ∧ ∀ u, putI k u l = l ++ [(k, u)]) ∨
    ∃ j v e, lookI k l = some v ∧ Instr.findNow (.int .i64) (.int .i64 k) es i = some (some (i + j, v)) ∧ es[j]? = some e ∧ e.key = .int .i64 k ∧
      ∀ u, (es.modify j (fun e => { e with key := .int .i64 k, val := u })).map ekv = (putI k u l).map pkv
  | [], [], i, _ => .inl ⟨rfl, rfl, by simp, fun _ => rfl⟩
  | [], _ :: _, i, h => by simp at h
  | _ :: _, [], i, h => by simp at h
  | e :: es, p :: l, i, h => by
    simp only [List.map_cons, List.cons.injEq] at h
    obtain ⟨h1, h2⟩ := h
    have hk : e.key = .int .i64 p.1 := congrArg Prod.fst h1
    have hv : e.val = p.2 := congrArg Prod.snd h1
    by_cases hp : p.1 = k
    · refine .inr ⟨0, p.2, e, by simp [lookI, hp], ?_, rfl, by rw [hk, hp], ?_⟩
      · simp [Instr.findNow, Instr.sameNow, hk, hp, hv]
      · intro u
        simp [putI, hp, ekv, pkv, h2]
    · have hs : Instr.findNow (.int .i64) (.int .i64 k) (e :: es) i = Instr.findNow (.int .i64) (.int .i64 k) es (i + 1) := by
        have : (k == p.1) = false := by simp; exact fun q => hp q.symm
        simp [Instr.findNow, Instr.sameNow, hk, this]
      rcases find_i k es l (i + 1) h2 with ⟨a1, a2, a3, a4⟩ | ⟨j, v, e2, a1, a2, a3, a4, a5⟩
      · refine .inl ⟨by simp [lookI, hp, a1], by rw [hs, a2], ?_, fun u => by simp [putI, hp, a4 u]⟩
        intro x hx
        rcases List.mem_cons.1 hx with rfl | hx
        · rw [hk]; intro q; cases q; exact hp rfl
        · exact a3 x hx
      · refine .inr ⟨j + 1, v, e2, by simp [lookI, hp, a1], by rw [hs, a2]; simp; omega, by simpa using a3, a4, ?_⟩
        intro u
        have := a5 u
        simp only [List.modify_succ_cons, List.map_cons, this, putI, if_neg hp]
        rw [h1]

theorem MapI.new (w : World) : MapI (w.alloc (.map #[] 0)) w.heap.size [] :=
  ⟨#[], 0, World.alloc_heap_new _ _, stamped_empty _, rfl⟩
theorem MapI.of_heap {w w' : World} {r : Nat} {l : List (Int × Value)} (h : MapI w r l) (e : w'.heap[r]? = w.heap[r]?) : MapI w' r l := by
  obtain ⟨es, c, h1, h2⟩ := h
  exact ⟨es, c, e.trans h1, h2⟩
theorem MapI.lt {w : World} {r : Nat} {l : List (Int × Value)} (h : MapI w r l) : r < w.heap.size := by
  obtain ⟨es, c, h1, _⟩ := h
  exact (Array.getElem?_eq_some_iff.1 h1).1
theorem MapI.alloc {w : World} {r : Nat} {l : List (Int × Value)} (h : MapI w r l) (o : Obj) : MapI (w.alloc o) r l := h.of_heap (Below.heap_alloc _ _ _ h.lt)
theorem MapI.below {w w' : World} {r N : Nat} {l : List (Int × Value)} (h : MapI w r l) (hb : Below N w w') (hr : r < N) : MapI w' r l := h.of_heap (hb.block r hr)
theorem MapI.grown {w w' : World} {r : Nat} {q : Option Nat} {l : List (Int × Value)} (h : MapI w r l) (hg : w.grownBy w' q) (hq : some r ≠ q) : MapI w' r l := h.of_heap (hg.block r h.lt hq)

section
variable {P : Program} {w : World} {ops : Array Oper} {rest : List Oper} {o : Oper} {a : Act} {Q : Exit → Act → World → Prop} {T k e : TypeId}
theorem MapI.run_lookup {r : Nat} {l : List (Int × Value)} (h : MapI w r l) (hT : P.underlying T = some (.map k e)) (hk : P.underlying k = some (.int .i64)) {z : Value} (hz : (zeroValue e).run P w = .ok z w) (x : Int) (c : Bool) :
    (Instr.lookup T (.map (some r)) (.int .i64 x) c).run P w = .ok (if c then .tuple #[(lookI x l).getD z, .bool (lookI x l).isSome] else (lookI x l).getD z) w := by
  obtain ⟨es, cl, h1, h2, h3⟩ := h
  rcases find_i x es.toList l 0 h3 with ⟨a1, a2, _⟩ | ⟨j, v, e2, a1, a2, _⟩
  · simp [Instr.lookup, run_underlying hT, MapKept.run_getObj_map h1, run_checkKey hk (k := .int .i64 x) rfl, run_findKey hk a2, Result.andThen, hz, a1]
  · simp [Instr.lookup, run_underlying hT, MapKept.run_getObj_map h1, run_checkKey hk (k := .int .i64 x) rfl, run_findKey hk a2, Result.andThen, a1]
theorem MapI.run_update {r : Nat} {l : List (Int × Value)} (h : MapI w r l) (hT : P.underlying T = some (.map k e)) (hk : P.underlying k = some (.int .i64)) (x : Int) (u : Value) :
    ∃ w', (Instr.mapUpdate T (.map (some r)) (.int .i64 x) u).run P w = .ok () w' ∧ MapI w' r (putI x u l) ∧ w.grownBy w' (some r) ∧ w'.heap.size = w.heap.size := by
  obtain ⟨es, cl, h1, h2, h3⟩ := h
  have hg : ∀ o', w.grownBy { w with heap := w.heap.setIfInBounds r o' } (some r) := fun o' => ⟨rfl, rfl, rfl, by simp, fun q hq hne => (heap_set h1).2 q (fun e => hne (by rw [e]))⟩
  rcases find_i x es.toList l 0 h3 with ⟨a1, a2, a3, a4⟩ | ⟨j, v, e2, a1, a2, a3, a4, a5⟩
  · refine ⟨{ w with heap := w.heap.setIfInBounds r (.map (es.push { key := .int .i64 x, val := u, born := cl }) (cl + 1)) }, ?_, ?_, hg _, by simp⟩
    · simp [Instr.mapUpdate, run_underlying hT, MapKept.run_getObj_map h1, run_checkKey hk (k := .int .i64 x) rfl, run_findKey hk a2, Result.andThen, run_setObj_map _ h1]
    · refine ⟨_, _, (heap_set h1).1, stamped_push h2 a3, ?_⟩
      rw [a4 u, Array.toList_push, List.map_append, List.map_append, h3]
      rfl
  · have hj : es[j]? = some e2 := by simpa using a3
    have hK : IsKey (.int .i64) (.int .i64 x) := rfl
    have hkey : ∀ e', es[j]? = some e' → ({ e' with key := .int .i64 x, val := u } : MapEntry).key = e'.key := fun e' he' => by rw [hj] at he'; cases he'; exact a4.symm
    refine ⟨{ w with heap := w.heap.setIfInBounds r (.map (es.modify j fun e => { e with key := .int .i64 x, val := u }) cl) }, ?_, ?_, hg _, by simp⟩
    · rw [Nat.zero_add] at a2
      simp [Instr.mapUpdate, run_underlying hT, MapKept.run_getObj_map h1, run_checkKey hk (k := .int .i64 x) rfl, run_findKey hk a2, hj, a4, run_keyThatStays hK, Result.andThen, run_setObj_map _ h1]
    · refine ⟨_, _, (heap_set h1).1, stamped_modify h2 _ _ (fun _ _ => rfl) (fun e' _ he' => hkey e' he'), ?_⟩
      rw [Array.toList_modify]
      exact a5 u
theorem wpList_lookupI (hg : o.guard = none) (m x : Operand) (c : Bool) (hop : o.op = Op.lookup T m x c) (hT : P.underlying T = some (.map k e)) (hk : P.underlying k = some (.int .i64)) (z : Value) (hz : (zeroValue e).run P w = .ok z w)
    (r : Nat) (l : List (Int × Value)) (hm : a.eval m = .map (some r)) (hown : MapI w r l) (n : Int) (hx : a.eval x = .int .i64 n)
    (hK : wpList P ops Q rest (a.put o.dst (if c then .tuple #[(lookI n l).getD z, .bool (lookI n l).isSome] else (lookI n l).getD z)) w) : wpList P ops Q (o :: rest) a w := by
  refine wpList_plain hg fun K' hK' => ?_
  have hrun := hown.run_lookup hT hk hz n c
  unfold Oper.wp
  simp only [execOp, hop, hm, hx, Sem.run_bind, hrun, Result.andThen_ok]
  exact hK' _ _ hK
theorem wpList_updateI (hg : o.guard = none) (m x v : Operand) (hop : o.op = Op.mapUpdate T m x v) (hT : P.underlying T = some (.map k e)) (hk : P.underlying k = some (.int .i64))
    (r : Nat) (l : List (Int × Value)) (hm : a.eval m = .map (some r)) (hown : MapI w r l) (n : Int) (hx : a.eval x = .int .i64 n) (u : Value) (hv : a.eval v = u)
    (hK : ∀ w', MapI w' r (putI n u l) → w.grownBy w' (some r) → w'.heap.size = w.heap.size → wpList P ops Q rest (a.put o.dst undef) w') : wpList P ops Q (o :: rest) a w := by
  refine wpList_plain hg fun K' hK' => ?_
  obtain ⟨w', hrun, r1, r2, r3⟩ := hown.run_update hT hk n u
  unfold Oper.wp
  simp only [execOp, hop, hm, hx, hv, Sem.run_bind, hrun, Result.andThen_ok]
  exact hK' _ _ (hK w' r1 r2 r3)
end
end Go.Proofs.YtjbojoeafdkkeaaGreatDoor

namespace Go.Proofs.YtjbojoeafdkkeaaGreatDoor
open Go Go.RowKit Go.Lib

def hostB : ByteArray := ⟨#[104, 111, 115, 116]⟩
def guestB : ByteArray := ⟨#[103, 117, 101, 115, 116]⟩
def roleV (s : ByteArray) (k : Nat) : Value := .agg #[.string s, .func (.func k) #[] #[]]
def roleL : List (Int × Value) := [(1, roleV hostB 120), (2, roleV guestB 121)]
theorem Tryz.under_roles : Tryz.prog.underlying 109 = some (.map 3 114) := by kernel_rfl
theorem Tryz.under_int : Tryz.prog.underlying 3 = some (.int .i64) := by kernel_rfl
theorem Tryz.zero_role (w : World) : (zeroValue 114).run Tryz.prog w = .ok (.agg #[.string ⟨#[]⟩, .nilFunc]) w := by kernel_rfl

set_option maxHeartbeats 2000000 in
set_option maxRecDepth 100000 in
theorem roles_c (w : World) : Calls Tryz.prog 65 #[] w fun e w' => e = .returned (.map (some w.heap.size)) ∧ MapI w' w.heap.size roleL ∧ Below w.heap.size w w' := by
  have hM := Bx.mk (MapI.new w)
  have hB := Bx.mk ((Below.refl w.heap.size w).alloc (Nat.le_refl _) (.map #[] 0))
  obtain ⟨w1, hr1, hM1, hG1, hs1⟩ := hM.out.run_update Tryz.under_roles Tryz.under_int 1 (roleV hostB 120)
  obtain ⟨w2, hr2, hM2, hG2, hs2⟩ := hM1.run_update Tryz.under_roles Tryz.under_int 2 (roleV guestB 121)
  have HB1 := Bx.mk (Below.grown hB.out hG1 hB.out.size (by intro k hk; cases hk; omega))
  have HB2 := Bx.mk (Below.grown HB1.out hG2 HB1.out.size (by intro k hk; cases hk; omega))
  have HM2 := Bx.mk hM2
  unfold roleV hostB at hr1
  unfold roleV guestB at hr2
  clear hM1 hG1 hs1 hM2 hG2 hs2 HB1 hM hB
  have hmm := run_makeMap (P := Tryz.prog) 109
  go_enter Tryz.func65, Tryz.ntmps65
  go_wp2_with fail
  go_ret
  exact ⟨rfl, HM2.out, HB2.out⟩

set_option maxHeartbeats 4000000 in
set_option maxRecDepth 100000 in
theorem masked_c (s : ByteArray) (k : Nat) (r code : Int) (w : World) (hL : Laid w) (hr : r = 1 ∨ r = 2) (hs : tb s = nameB r) (h0 : 0 ≤ code) (h1 : code < 9223372036854775808) :
    Calls Tryz.prog 67 #[roleV s k, .int .i64 code] w fun e w' => e = .returned (.int .i64 (pmask r code)) ∧ Below w.heap.size w w' := by
  have HL := Bx.mk hL
  have hlen : 0 < s.size ∧ s.size ≤ 100 := by
    rw [← tb_len, hs]; unfold nameB; split <;> decide
  have HS := Bx.mk hs; have HLen := Bx.mk hlen
  have HB0 := Bx.mk ((Below.refl w.heap.size w).alloc (Nat.le_refl _) (.cells #[.string s, .func (.func k) #[] #[]] 114))
  clear hL hs hlen
  unfold roleV
  go_enter Tryz.func67, Tryz.ntmps67
  go_wp2_with fail
  refine (eight_c code _ h0 h1).mono ?_
  rintro e w1 ⟨g, c, rfl, hc, hcm, hg, hgl, hu, hb⟩
  have C1 := Bx.mk ((hb.cell (p := ⟨w.heap.size, 0, none⟩) (by simp)).trans (cells_new w _ _ 0))
  have B1 := Bx.mk (below_step HB0.out hb (Nat.le_refl _))
  rw [World.size_alloc] at hg
  have hsc := scalar_c tCode g 0 c (be8 code) w1 (HL.out.below B1.out (Nat.le_refl _)) hu hgl (by rw [be8_len]; decide) (by rw [be8_len]; decide) (by decide) (by decide)
  rw [be8_len] at hsc
  have Hsc := Bx.mk hsc
  have HU := Bx.mk hu
  clear hsc hb hu HB0
  go_wp2_with fail
  refine Hsc.out.mono ?_
  rintro e w2 ⟨rfl, hb2⟩
  have hw1 : w.heap.size < w1.heap.size := by omega
  have c2 := (hb2.cell (p := ⟨w.heap.size, 0, none⟩) hw1).trans C1.out
  have B2 := Bx.mk (below_step B1.out hb2 (Nat.le_refl _))
  have hcv := Lib.run_convert_string_bytes (P := Tryz.prog) w2 9 61 5 s (u := .string) (by kernel_rfl) (by kernel_rfl) (by kernel_rfl)
  have U3 := Bx.mk (tb_u8 w2 s)
  have B3 := Bx.mk (below_step B2.out (tb_below w2 s) (Nat.le_refl _))
  have hge := grownCap_ge w2 s.size 0 5
  have hlt3 : w2.heap.size < (bytesWorld w2 5 s).heap.size := by rw [bytesWorld_size]; omega
  have hpt := point_c tPake w2.heap.size 0 (grownCap w2 s.size 0 5) (tb s) (bytesWorld w2 5 s) (HL.out.below B3.out (Nat.le_refl _)) U3.out hlt3 (by rw [tb_len]; exact HLen.out.1) (by rw [tb_len]; have := HLen.out.2; omega) (by decide) (by decide)
  rw [tb_len, HS.out, ← base_def] at hpt
  have Hpt := Bx.mk hpt
  have HE := Bx.mk (fun w => gexp_ok (baseM r) (scalarN tCode (be8 code)) w (elt_base hr) (by have := scalarN_range tCode (be8 code); omega) (by have := scalarN_range tCode (be8 code); omega))
  have hmk : pwr (baseM r) (scalarN tCode (be8 code)).toNat = pmask r code := rfl
  have HMK := Bx.mk hmk
  obtain ⟨sc, hsc⟩ : ∃ sc, sc = scalarN tCode (be8 code) := ⟨_, rfl⟩
  rw [← hsc] at HE HMK ⊢
  obtain ⟨bm, hbm⟩ : ∃ bm, bm = baseM r := ⟨_, rfl⟩
  rw [← hbm] at Hpt HE HMK
  clear hsc hbm hpt hmk U3 hb2 C1 HU Hsc hge
  go_wp2_with fail
  refine Hpt.out.mono ?_
  rintro e w3 ⟨rfl, hb3⟩
  have B4 := Bx.mk (below_step B3.out hb3 (Nat.le_refl _))
  clear hb3 Hpt
  go_wp2_with fail
  refine (HE.out _).mono ?_
  rintro e w4 ⟨rfl, hb4⟩
  go_wp2_with fail
  go_ret
  exact ⟨by rw [HMK.out]; rfl, below_step B4.out hb4 (Nat.le_refl _)⟩
end Go.Proofs.YtjbojoeafdkkeaaGreatDoor

namespace Go.Proofs.YtjbojoeafdkkeaaGreatDoor
open Go Go.RowKit Go.Lib

def sideOK (r code x : Int) : Bool := (decide (r = 1) || decide (r = 2)) && (decide (0 ≤ code) && (decide (code < 1000000) && (decide (1 ≤ x) && decide (x < 2305843009213688669))))
theorem sideOK_iff (r code x : Int) : sideOK r code x = true ↔ (r = 1 ∨ r = 2) ∧ 0 ≤ code ∧ code < 1000000 ∧ 1 ≤ x ∧ x < 2305843009213688669 := by simp [sideOK]
/-- A role that is met: what the map holds. -/
theorem look_role {r : Int} (h : r = 1 ∨ r = 2) : ∃ s k, lookI r roleL = some (roleV s k) ∧ tb s = nameB r := by
  rcases h with rfl | rfl
  · exact ⟨hostB, _, rfl, by decide⟩
  · exact ⟨guestB, _, rfl, by decide⟩
theorem look_none {r : Int} (h : ¬ (r = 1 ∨ r = 2)) : lookI r roleL = none := by
  simp only [lookI, roleL]
  rw [if_neg (by omega), if_neg (by omega)]

def SideAt (w : World) (B : Nat) (r code x : Int) : Prop := w.cell? ⟨B, 0, none⟩ = some (.int .i64 r) ∧ w.cell? ⟨B, 1, none⟩ = some (.int .i64 code) ∧ w.cell? ⟨B, 2, none⟩ = some (.int .i64 x)
theorem SideAt.below {w w' : World} {B N : Nat} {r code x : Int} (h : SideAt w B r code x) (hb : Below N w w') (hB : B < N) : SideAt w' B r code x :=
  ⟨(hb.cell (p := ⟨B, 0, none⟩) hB).trans h.1, (hb.cell (p := ⟨B, 1, none⟩) hB).trans h.2.1, (hb.cell (p := ⟨B, 2, none⟩) hB).trans h.2.2⟩

abbrev Hs (w : World) (r code x : Int) (W : World) : Prop := Below w.heap.size w W ∧ W.cell? ⟨w.heap.size, 0, none⟩ = some (.int .i64 r) ∧ W.cell? ⟨w.heap.size, 1, none⟩ = some (.int .i64 code) ∧ W.cell? ⟨w.heap.size, 2, none⟩ = some (.int .i64 x)
theorem hs_step {w W W2 : World} {r code x : Int} (h : Hs w r code x W) (hb : Below W.heap.size W W2) : Hs w r code x W2 :=
  ⟨below_step h.1 hb (Nat.le_refl _), (hb.cell (p := ⟨w.heap.size, 0, none⟩) (cell_lt h.2.1)).trans h.2.1, (hb.cell (p := ⟨w.heap.size, 1, none⟩) (cell_lt h.2.1)).trans h.2.2.1, (hb.cell (p := ⟨w.heap.size, 2, none⟩) (cell_lt h.2.1)).trans h.2.2.2⟩
theorem hs_alloc {w W : World} {r code x : Int} (h : Hs w r code x W) (o : Obj) : Hs w r code x (W.alloc o) := hs_step h ((Below.refl _ _).alloc (Nat.le_refl _) o)
theorem hs_drew {w W : World} {r code x : Int} (h : Hs w r code x W) : Hs w r code x W.drew := ⟨below_drewN h.1 1, h.2⟩
theorem hs_set {w W : World} {r code x : Int} (h : Hs w r code x W) (a : Addr) (ha : w.heap.size < a.block) (v : Value) : Hs w r code x (W.setCell a v) :=
  ⟨Below.setCell h.1 (Nat.le_of_lt ha) v, by rw [World.cell?_setCell_other _ _ _ _ (by intro e; subst e; simp at ha)]; exact h.2.1, by rw [World.cell?_setCell_other _ _ _ _ (by intro e; subst e; simp at ha)]; exact h.2.2.1, by rw [World.cell?_setCell_other _ _ _ _ (by intro e; subst e; simp at ha)]; exact h.2.2.2⟩
theorem hs_box (w : World) (r code x : Int) : Hs w r code x (w.alloc (.cells #[.int .i64 r, .int .i64 code, .int .i64 x] 23)) :=
  ⟨(Below.refl w.heap.size w).alloc (Nat.le_refl _) _, cells_new _ _ _ 0, cells_new _ _ _ 1, cells_new _ _ _ 2⟩
theorem two_new {W wq : World} {a b : Value} {t : TypeId} (hb : Below (W.alloc (.cells #[a, b] t)).heap.size (W.alloc (.cells #[a, b] t)) wq) : wq.cell? ⟨W.heap.size, 0, none⟩ = some a ∧ wq.cell? ⟨W.heap.size, 1, none⟩ = some b ∧ wq.frozen? ⟨W.heap.size, 0, none⟩ = false ∧ wq.frozen? ⟨W.heap.size, 1, none⟩ = false := by
  have hf : ∀ k, (W.alloc (.cells #[a, b] t)).frozen? ⟨W.heap.size, k, none⟩ = false := fun k => by simp only [World.frozen?, World.alloc_heap_new]; simp
  have hl : W.heap.size < (W.alloc (.cells #[a, b] t)).heap.size := by simp
  exact ⟨(hb.cell (p := ⟨W.heap.size, 0, none⟩) hl).trans (cells_new _ _ _ 0), (hb.cell (p := ⟨W.heap.size, 1, none⟩) hl).trans (cells_new _ _ _ 1), (hb.frozen (p := ⟨W.heap.size, 0, none⟩) hl).trans (hf 0), (hb.frozen (p := ⟨W.heap.size, 1, none⟩) hl).trans (hf 1)⟩
/-- What the lookup of a role gives. -/
theorem look_any (r : Int) : ∃ s f m, m = (decide (r = 1) || decide (r = 2)) ∧ ((∃ k, f = .func (.func k) #[] #[]) ∨ f = .nilFunc) ∧ ∀ W M, MapI W M roleL → (Instr.lookup 109 (.map (some M)) (.int .i64 r) true).run Tryz.prog W = .ok (.tuple #[.agg #[.string s, f], .bool m]) W := by
  by_cases h : r = 1 ∨ r = 2
  · obtain ⟨s, k, h1, _⟩ := look_role h
    refine ⟨s, .func (.func k) #[] #[], true, by simpa using h, .inl ⟨k, rfl⟩, fun W M hM => ?_⟩
    have := hM.run_lookup Tryz.under_roles Tryz.under_int (Tryz.zero_role W) r true
    rw [h1] at this
    exact this
  · refine ⟨⟨#[]⟩, .nilFunc, false, by have := look_none h; simpa using h, .inr rfl, fun W M hM => ?_⟩
    have := hM.run_lookup Tryz.under_roles Tryz.under_int (Tryz.zero_role W) r true
    rw [look_none h] at this
    exact this

set_option maxHeartbeats 8000000 in
set_option maxRecDepth 100000 in
theorem pcheck_f (r code x : Int) (w : World) (s : ByteArray) (f : Value) (m : Bool) (HM : Bx (m = (decide (r = 1) || decide (r = 2)))) (hf : (∃ k, f = .func (.func k) #[] #[]) ∨ f = .nilFunc)
    (HLK : Bx (∀ W M, MapI W M roleL → (Instr.lookup 109 (.map (some M)) (.int .i64 r) true).run Tryz.prog W = .ok (.tuple #[.agg #[.string s, f], .bool m]) W)) :
    Calls Tryz.prog 45 #[.agg #[.int .i64 r, .int .i64 code, .int .i64 x]] w fun e w' => e = .returned (.int .i64 (if sideOK r code x then 0 else 100)) ∧ Below w.heap.size w w' := by
  have h0 := hs_box w r code x
  have HI := Bx.mk (sideOK_iff r code x)
  obtain ⟨q, hq⟩ : ∃ q : Int, q = if sideOK r code x then 0 else 100 := ⟨_, rfl⟩
  rw [← hq]
  have HQ := Bx.mk hq
  clear hq
  rcases hf with ⟨k, rfl⟩ | rfl
  · go_enter Tryz.func45, Tryz.ntmps45
    go_wp2_with fail
    generalize w.alloc (.cells #[.int .i64 r, .int .i64 code, .int .i64 x] 23) = w0 at *
    refine cut_piece (fun a' W' => ∃ T M, a' = { tmps := #[.agg #[.int .i64 r, .int .i64 code, .int .i64 x], .pointer (some ⟨w.heap.size, 0, none⟩), .int .i64 0, .pointer (some ⟨T, 0, none⟩), .bool m, .tuple #[.agg #[.string s, .func (.func k) #[] #[]], .bool m], .map (some M), .pointer (some ⟨w.heap.size, 0, none⟩), .int .i64 r, .tuple #[.agg #[.string s, .func (.func k) #[] #[]], .bool m], .agg #[.string s, .func (.func k) #[] #[]], .bool m, undef, undef, undef, undef, undef, undef, undef, undef, undef, undef, undef, undef, undef, undef, undef, undef, undef, undef, undef, undef, undef, undef], defers := [] } ∧ Hs w r code x W') ?_ ?_
    · obtain ⟨k0, k1, k2, k3⟩ := id h0
      have hlt0 := cell_lt k1
      go_region_held3 (fun W' => Below w.heap.size w W' ∧ W'.cell? ⟨w.heap.size, 0, none⟩ = some (.int .i64 r) ∧ W'.cell? ⟨w.heap.size, 1, none⟩ = some (.int .i64 code) ∧ W'.cell? ⟨w.heap.size, 2, none⟩ = some (.int .i64 x)) (first | assumption | (refine hs_drew ?_; assumption) | (refine hs_alloc ?_ _; assumption) | (refine hs_drew (hs_alloc ?_ _); assumption) | (refine hs_set (hs_set ?_ _ ?_ _) _ ?_ _ <;> assumption))
        (first
          | (go_at_call 65; refine (roles_c _).mono ?_; rintro e wq ⟨rfl, hM, hbq⟩; have hkq := hs_step (w := w) (r := r) (code := code) (x := x) (by assumption) hbq; have hltq := cell_lt hkq.2.1; (first | (have hM2 : MapI wq w0.heap.size roleL := hM; have hq1 := HLK.out _ _ hM2; have hq2 := fun o => HLK.out _ _ (hM2.alloc o)) | (have hM2 : MapI wq (w0.heap.size + 1) roleL := (by have h9 := hM; rw [show (World.drew (World.alloc w0 (Obj.cells #[Value.string ⟨#[]⟩, Value.nilFunc] 114))).heap.size = w0.heap.size + 1 from World.size_alloc _ _] at h9; exact h9); have hq1 := HLK.out _ _ hM2; have hq2 := fun o => HLK.out _ _ (hM2.alloc o); obtain ⟨z0, z1, y0, y1⟩ := two_new (below_undrew hbq))); obtain ⟨j0, j1, j2, j3⟩ := id hkq))
      all_goals refine ⟨rfl, _, _, rfl, ?_⟩
      all_goals first | assumption | (refine hs_set (hs_set ?_ _ ?_ _) _ ?_ _ <;> assumption)
    · rintro a' W' ⟨T, M, rfl, hb, c0, c1, c2⟩
      (try dsimp only)
      have HBW := Bx.mk hb
      clear hb h0 HLK
      cases m with
      | false =>
        have e : q = 100 := by
          rw [HQ.out, if_neg]
          intro h
          have h2 := HM.out; have h3 := (HI.out.1 h).1; simp at h2; omega
        subst e
        clear HQ HI HM
        go_wp2_with fail
        go_ret
        exact ⟨rfl, HBW.out⟩
      | true =>
        have hr : r = 1 ∨ r = 2 := by have h2 := HM.out; simpa using h2
        have HR := Bx.mk hr
        clear hr HM
        by_cases a1 : code < 0
        · have e : q = 100 := by rw [HQ.out, if_neg]; intro h; have := HI.out.1 h; omega
          subst e
          clear HQ HI HR
          go_wp2_with fail
          go_ret
          exact ⟨rfl, HBW.out⟩
        · by_cases a2 : 1000000 ≤ code
          · have e : q = 100 := by rw [HQ.out, if_neg]; intro h; have := HI.out.1 h; omega
            subst e
            clear HQ HI HR
            go_wp2_with fail
            go_ret
            exact ⟨rfl, HBW.out⟩
          · by_cases a3 : x < 1
            · have e : q = 100 := by rw [HQ.out, if_neg]; intro h; have := HI.out.1 h; omega
              subst e
              clear HQ HI HR
              go_wp2_with fail
              go_ret
              exact ⟨rfl, HBW.out⟩
            · by_cases a4 : 2305843009213688669 ≤ x
              · have e : q = 100 := by rw [HQ.out, if_neg]; intro h; have := HI.out.1 h; omega
                subst e
                clear HQ HI HR
                go_wp2_with fail
                go_ret
                exact ⟨rfl, HBW.out⟩
              · have e : q = 0 := by rw [HQ.out, if_pos]; exact HI.out.2 ⟨HR.out, by omega, by omega, by omega, by omega⟩
                subst e
                clear HQ HI HR
                go_wp2_with fail
                go_ret
                exact ⟨rfl, HBW.out⟩
  · go_enter Tryz.func45, Tryz.ntmps45
    go_wp2_with fail
    generalize w.alloc (.cells #[.int .i64 r, .int .i64 code, .int .i64 x] 23) = w0 at *
    refine cut_piece (fun a' W' => ∃ T M, a' = { tmps := #[.agg #[.int .i64 r, .int .i64 code, .int .i64 x], .pointer (some ⟨w.heap.size, 0, none⟩), .int .i64 0, .pointer (some ⟨T, 0, none⟩), .bool m, .tuple #[.agg #[.string s, .nilFunc], .bool m], .map (some M), .pointer (some ⟨w.heap.size, 0, none⟩), .int .i64 r, .tuple #[.agg #[.string s, .nilFunc], .bool m], .agg #[.string s, .nilFunc], .bool m, undef, undef, undef, undef, undef, undef, undef, undef, undef, undef, undef, undef, undef, undef, undef, undef, undef, undef, undef, undef, undef, undef], defers := [] } ∧ Hs w r code x W') ?_ ?_
    · obtain ⟨k0, k1, k2, k3⟩ := id h0
      have hlt0 := cell_lt k1
      go_region_held3 (fun W' => Below w.heap.size w W' ∧ W'.cell? ⟨w.heap.size, 0, none⟩ = some (.int .i64 r) ∧ W'.cell? ⟨w.heap.size, 1, none⟩ = some (.int .i64 code) ∧ W'.cell? ⟨w.heap.size, 2, none⟩ = some (.int .i64 x)) (first | assumption | (refine hs_drew ?_; assumption) | (refine hs_alloc ?_ _; assumption) | (refine hs_drew (hs_alloc ?_ _); assumption) | (refine hs_set (hs_set ?_ _ ?_ _) _ ?_ _ <;> assumption))
        (first
          | (go_at_call 65; refine (roles_c _).mono ?_; rintro e wq ⟨rfl, hM, hbq⟩; have hkq := hs_step (w := w) (r := r) (code := code) (x := x) (by assumption) hbq; have hltq := cell_lt hkq.2.1; (first | (have hM2 : MapI wq w0.heap.size roleL := hM; have hq1 := HLK.out _ _ hM2; have hq2 := fun o => HLK.out _ _ (hM2.alloc o)) | (have hM2 : MapI wq (w0.heap.size + 1) roleL := (by have h9 := hM; rw [show (World.drew (World.alloc w0 (Obj.cells #[Value.string ⟨#[]⟩, Value.nilFunc] 114))).heap.size = w0.heap.size + 1 from World.size_alloc _ _] at h9; exact h9); have hq1 := HLK.out _ _ hM2; have hq2 := fun o => HLK.out _ _ (hM2.alloc o); obtain ⟨z0, z1, y0, y1⟩ := two_new (below_undrew hbq))); obtain ⟨j0, j1, j2, j3⟩ := id hkq))
      all_goals refine ⟨rfl, _, _, rfl, ?_⟩
      all_goals first | assumption | (refine hs_set (hs_set ?_ _ ?_ _) _ ?_ _ <;> assumption)
    · rintro a' W' ⟨T, M, rfl, hb, c0, c1, c2⟩
      (try dsimp only)
      have HBW := Bx.mk hb
      clear hb h0 HLK
      cases m with
      | false =>
        have e : q = 100 := by
          rw [HQ.out, if_neg]
          intro h
          have h2 := HM.out; have h3 := (HI.out.1 h).1; simp at h2; omega
        subst e
        clear HQ HI HM
        go_wp2_with fail
        go_ret
        exact ⟨rfl, HBW.out⟩
      | true =>
        have hr : r = 1 ∨ r = 2 := by have h2 := HM.out; simpa using h2
        have HR := Bx.mk hr
        clear hr HM
        by_cases a1 : code < 0
        · have e : q = 100 := by rw [HQ.out, if_neg]; intro h; have := HI.out.1 h; omega
          subst e
          clear HQ HI HR
          go_wp2_with fail
          go_ret
          exact ⟨rfl, HBW.out⟩
        · by_cases a2 : 1000000 ≤ code
          · have e : q = 100 := by rw [HQ.out, if_neg]; intro h; have := HI.out.1 h; omega
            subst e
            clear HQ HI HR
            go_wp2_with fail
            go_ret
            exact ⟨rfl, HBW.out⟩
          · by_cases a3 : x < 1
            · have e : q = 100 := by rw [HQ.out, if_neg]; intro h; have := HI.out.1 h; omega
              subst e
              clear HQ HI HR
              go_wp2_with fail
              go_ret
              exact ⟨rfl, HBW.out⟩
            · by_cases a4 : 2305843009213688669 ≤ x
              · have e : q = 100 := by rw [HQ.out, if_neg]; intro h; have := HI.out.1 h; omega
                subst e
                clear HQ HI HR
                go_wp2_with fail
                go_ret
                exact ⟨rfl, HBW.out⟩
              · have e : q = 0 := by rw [HQ.out, if_pos]; exact HI.out.2 ⟨HR.out, by omega, by omega, by omega, by omega⟩
                subst e
                clear HQ HI HR
                go_wp2_with fail
                go_ret
                exact ⟨rfl, HBW.out⟩
theorem pcheck_c (r code x : Int) (w : World) :
    Calls Tryz.prog 45 #[.agg #[.int .i64 r, .int .i64 code, .int .i64 x]] w fun e w' => e = .returned (.int .i64 (if sideOK r code x then 0 else 100)) ∧ Below w.heap.size w w' := by
  obtain ⟨s, f, m, hm, hf, hlook⟩ := look_any r
  exact pcheck_f r code x w s f m ⟨hm⟩ hf ⟨hlook⟩
end Go.Proofs.YtjbojoeafdkkeaaGreatDoor

namespace Go.Proofs.YtjbojoeafdkkeaaGreatDoor
open Go Go.RowKit Go.Lib

theorem look_yes {r : Int} (h : r = 1 ∨ r = 2) : ∃ s k, tb s = nameB r ∧ ∀ W M, MapI W M roleL → (Instr.lookup 109 (.map (some M)) (.int .i64 r) false).run Tryz.prog W = .ok (.agg #[.string s, .func (.func k) #[] #[]]) W := by
  obtain ⟨s, k, h1, h2⟩ := look_role h
  refine ⟨s, k, h2, fun W M hM => ?_⟩
  have := hM.run_lookup Tryz.under_roles Tryz.under_int (Tryz.zero_role W) r false
  rw [h1] at this
  exact this

set_option maxHeartbeats 8000000 in
set_option maxRecDepth 100000 in
theorem ppoint_bad (r code x : Int) (w : World) (hb : sideOK r code x = false) :
    Calls Tryz.prog 47 #[.agg #[.int .i64 r, .int .i64 code, .int .i64 x]] w fun e w' => e = .returned (.tuple #[.int .i64 0, .int .i64 100]) ∧ Below w.heap.size w w' := by
  have HC := Bx.mk (fun w => pcheck_c r code x w)
  rw [hb] at HC
  simp only [Bool.false_eq_true, if_false] at HC
  have H0 := Bx.mk (hs_box w r code x)
  clear hb
  go_enter Tryz.func47, Tryz.ntmps47
  go_wp2_with fail
  refine (HC.out _).mono ?_
  rintro e w1 ⟨rfl, hb1⟩
  have B1 := Bx.mk (hs_step H0.out hb1).1
  go_wp2_with fail
  go_ret2
  exact ⟨rfl, B1.out⟩

set_option maxHeartbeats 8000000 in
set_option maxRecDepth 100000 in
theorem ppoint_ok (r code x : Int) (w : World) (hL : Laid w) (hb : sideOK r code x = true) :
    Calls Tryz.prog 47 #[.agg #[.int .i64 r, .int .i64 code, .int .i64 x]] w fun e w' => e = .returned (.tuple #[.int .i64 (ownN r code x), .int .i64 0]) ∧ Below w.heap.size w w' := by
  have HC := Bx.mk (fun w => pcheck_c r code x w)
  rw [hb] at HC
  simp only [if_true] at HC
  have hi := (sideOK_iff r code x).1 hb
  obtain ⟨hr, c0, c1, x0, x1⟩ := hi
  have HR := Bx.mk hr
  obtain ⟨s, k, hs, hlook⟩ := look_yes hr
  have HT := Bx.mk hs
  have HLK := Bx.mk hlook
  have H0 := Bx.mk (hs_box w r code x)
  have HLD : Bx (∀ W, Hs w r code x W → Laid W) := .mk fun W h => hL.below h.1 (Nat.le_refl _)
  have HBa := Bx.mk (fun w => base_c x w (by omega) x1)
  have HMk := Bx.mk (fun W hW => masked_c s k r code W hW hr hs c0 (by omega))
  unfold roleV at HMk
  have HMu := Bx.mk (fun W => gmul_c (pwr 4 x.toNat) (pmask r code) W (elt_pwr elt_four _) (elt_mask hr code))
  have HO := Bx.mk (show ownN r code x = pwr 4 x.toNat * pmask r code % 4611686018427377339 from rfl)
  obtain ⟨p0, hp0⟩ : ∃ p, p = pwr 4 x.toNat := ⟨_, rfl⟩
  rw [← hp0] at HBa HMu HO
  obtain ⟨m0, hm0⟩ : ∃ p, p = pmask r code := ⟨_, rfl⟩
  rw [← hm0] at HMk HMu HO
  rw [← HO.out] at HMu
  obtain ⟨o0, ho0⟩ : ∃ p, p = ownN r code x := ⟨_, rfl⟩
  rw [← ho0] at HMu ⊢
  clear hb hr hs hlook hL hp0 hm0 HO ho0
  go_enter Tryz.func47, Tryz.ntmps47
  go_wp2_with fail
  refine (HC.out _).mono ?_
  rintro e w1 ⟨rfl, hb1⟩
  have H1 := Bx.mk (hs_step H0.out hb1)
  obtain ⟨k0, k1, k2, k3⟩ := id H1.out
  clear hb1
  go_wp2_with fail
  refine (HBa.out _).mono ?_
  rintro e w2 ⟨rfl, hb2⟩
  have h2 := hs_step H1.out hb2
  clear hb2 k0 k1 k2 k3 H1 H0
  obtain ⟨k0, k1, k2, k3⟩ := id h2
  have hlt0 := cell_lt k1
  go_wp2_with fail
  go_region_held3 (fun W' => Below w.heap.size w W' ∧ W'.cell? ⟨w.heap.size, 0, none⟩ = some (.int .i64 r) ∧ W'.cell? ⟨w.heap.size, 1, none⟩ = some (.int .i64 code) ∧ W'.cell? ⟨w.heap.size, 2, none⟩ = some (.int .i64 x)) (first | assumption | (refine hs_drew ?_; assumption) | (refine hs_alloc ?_ _; assumption) | (refine hs_drew (hs_alloc ?_ _); assumption))
    (first
      | (go_at_call 65; refine (roles_c _).mono ?_; rintro e wq ⟨rfl, hM, hbq⟩; have hkq := hs_step (w := w) (r := r) (code := code) (x := x) (by assumption) hbq; have hM2 : MapI wq w2.heap.size roleL := hM; have hq1 := HLK.out _ _ hM2; obtain ⟨j0, j1, j2, j3⟩ := id hkq; clear hbq)
      | (go_at_call 67; refine (HMk.out _ (HLD.out _ (by assumption))).mono ?_; rintro e wq2 ⟨rfl, hbq2⟩; have hkq2 := hs_step (w := w) (r := r) (code := code) (x := x) (by assumption) hbq2; obtain ⟨i0, i1, i2, i3⟩ := id hkq2; clear hbq2)
      | (go_at_call 68; refine (HMu.out _).mono ?_; rintro e wq3 ⟨rfl, hbq3⟩; have hkq3 := hs_step (w := w) (r := r) (code := code) (x := x) (by assumption) hbq3; obtain ⟨l0, l1, l2, l3⟩ := id hkq3; clear hbq3))
  go_wp2_with fail
  go_ret2
  exact ⟨rfl, l0⟩
end Go.Proofs.YtjbojoeafdkkeaaGreatDoor

namespace Go.Proofs.YtjbojoeafdkkeaaGreatDoor
open Go Go.RowKit Go.Lib

structure RowT (T : TypeId) (n : Nat) : Prop where
  row : ∃ d, Tryz.prog.underlying T = some d ∧ d.isRow = true
  size : (Tryz.prog.info? T).map (·.size) = some n
theorem rowT_mk {T : TypeId} {n : Nat} (h : (Tryz.prog.underlying T).any TypeDesc.isRow = true) (hn : (Tryz.prog.info? T).map (·.size) = some n) : RowT T n := by
  refine ⟨?_, hn⟩
  cases hq : Tryz.prog.underlying T with
  | none => rw [hq] at h; cases h
  | some d => rw [hq] at h; exact ⟨d, rfl, h⟩
section
variable {w : World} {ops : Array Oper} {rest : List Oper} {o : Oper} {a : Act} {Q : Exit → Act → World → Prop} {T : TypeId} {n : Nat}
/-- A row's load, at whatever place of a block. -/
theorem wpList_ldN (hT : RowT T n) (hgd : o.guard = none) (x : Operand) (ho : o.op = .load T x) (B off : Nat) (hx : a.eval x = .pointer (some ⟨B, off, none⟩))
    (cs : List Value) (hb : w.rangeAt B off cs) (hl : cs.length = n) (v : Value) (hv : v = .agg cs.toArray) (h : wpList Tryz.prog ops Q rest (a.put o.dst v) w) : wpList Tryz.prog ops Q (o :: rest) a w :=
  wpList_plain hgd fun K hK => by
    obtain ⟨d, hd1, hd2⟩ := hT.row
    have hr := run_loadAt_mid (P := Tryz.prog) w B off T cs d hb hd1 hd2 (by rw [hl]; exact hT.size)
    unfold Oper.wp execOp
    simp only [ho, hx, Sem.run_bind, hr, Result.andThen_ok]
    rw [← hv]
    exact hK _ _ h
theorem wpList_stN (hT : RowT T n) (hgd : o.guard = none) (x y : Operand) (ho : o.op = .store T x y) (B off : Nat) (hx : a.eval x = .pointer (some ⟨B, off, none⟩))
    (cs : List Value) (hy : a.eval y = .agg cs.toArray) (hone : ∀ v ∈ cs, v.oneCell' = true) (hl : cs.length = n) (ht : w.there B off n) (h : wpList Tryz.prog ops Q rest (a.put o.dst undef) (w.setCells B off cs)) : wpList Tryz.prog ops Q (o :: rest) a w :=
  wpList_plain hgd fun K hK => by
    have hr := run_storeAt_mid (P := Tryz.prog) w B off T cs.toArray (by rw [List.size_toArray, hl]; exact ht) (by rw [List.size_toArray, hl]; exact hT.size) (all_oneCell_toArray hone)
    unfold Oper.wp execOp
    simp only [ho, hx, hy, Sem.run_bind, hr, Result.andThen_ok]
    exact hK _ _ h
end
theorem there_of_blk {w : World} {B : Nat} {k : IntKind} {l : List Int} (h : Blk w B k l) : w.there B 0 l.length := fun j hj => by
  rw [Nat.zero_add, (h j hj).1]
  exact ⟨rfl, (h j hj).2⟩
/-- Storing a row of numbers over a block of numbers. -/
theorem blk_store {w : World} {B : Nat} {k : IntKind} {l m : List Int} (h : Blk w B k l) (hl : m.length = l.length) : Blk (w.setCells B 0 (m.map (.int k))) B k m ∧ w.grownBy (w.setCells B 0 (m.map (.int k))) (some B) := by
  have := h.setCells m 0
  rw [setFrom_all _ _ (by rw [hl])] at this
  exact ⟨this, grown_setCells B _ 0 (grown_refl _ _)⟩
/-- A store of a row of numbers over a block of numbers; the walk stands still behind it. -/
theorem wpList_stB {w : World} {ops : Array Oper} {rest : List Oper} {o : Oper} {a : Act} {Q : Exit → Act → World → Prop} {T : TypeId} {n : Nat} (hT : RowT T n) (hgd : o.guard = none) (x y : Operand) (ho : o.op = .store T x y) (B : Nat) (hx : a.eval x = .pointer (some ⟨B, 0, none⟩))
    (k : IntKind) (m : List Int) (hy : a.eval y = .agg (m.map (.int k)).toArray) (hm : m.length = n) (l : List Int) (hb : Blk w B k l) (hl : l.length = n) (h : ∀ w', Blk w' B k m → w.grownBy w' (some B) → wpList Tryz.prog ops Q rest (a.put o.dst undef) w') : wpList Tryz.prog ops Q (o :: rest) a w := by
  obtain ⟨e1, e2⟩ := blk_store (m := m) hb (by rw [hm, hl])
  exact wpList_stN hT hgd x y ho B 0 hx _ hy (one_ints k m) (by rw [List.length_map]; exact hm) (hl ▸ there_of_blk hb) (h _ e1 e2)
theorem results_rowN {T : TypeId} {n : Nat} (hT : RowT T n) {fn : Func} {p q : Tmp} (h : fn.results = #[.cell p T, .tmp q]) (tmps : Array Value) (w : World) (B : Nat) (cs : List Value) (u v : Value) (hp : tmps.getD p undef = .pointer (some ⟨B, 0, none⟩)) (hu : tmps.getD q undef = v) (hb : w.rangeAt B 0 cs) (hl : cs.length = n) (hv : u = .agg cs.toArray) :
    (results fn tmps).run Tryz.prog w = .ok (.tuple #[u, v]) w := by
  obtain ⟨d, hd1, hd2⟩ := hT.row
  have hr := run_loadVar_mid (P := Tryz.prog) w B 0 T cs d hb hd1 hd2 (by rw [hl]; exact hT.size)
  rw [results_cell_tmp h, hp, hu, hv]
  simp [asAddr, hr]
theorem rowT_key : RowT 54 32 := rowT_mk (by kernel_rfl) (by kernel_rfl)
theorem rowT_dig : RowT 35 32 := rowT_mk (by kernel_rfl) (by kernel_rfl)
theorem rowT_cert : RowT 44 8 := rowT_mk (by kernel_rfl) (by kernel_rfl)
end Go.Proofs.YtjbojoeafdkkeaaGreatDoor

namespace Go.Proofs.YtjbojoeafdkkeaaGreatDoor
open Go Go.RowKit Go.Lib

theorem pwr_lit (a k r : Nat) (hk : k < 2 ^ 62) (h : pwf 62 a k = r) : pwr (a : Int) k = (r : Int) := by rw [← pwf_eq 62 a k hk, h]
theorem sc1 : scalarN tCode (be8 123456) = 185825627344126070 := by decide +kernel
theorem sc2 : scalarN tCode (be8 123457) = 1012637110933677589 := by decide +kernel
theorem lit_m1 : pmask 1 123456 = 3573153502719668704 := by
  unfold pmask
  rw [sc1, base_1]
  exact pwr_lit 4147386292762722240 185825627344126070 3573153502719668704 (by decide) (by decide +kernel)
theorem lit_m2 : pmask 2 123456 = 1276903147385702257 := by
  unfold pmask
  rw [sc1, base_2]
  exact pwr_lit 896982055724109002 185825627344126070 1276903147385702257 (by decide) (by decide +kernel)
theorem lit_m3 : pmask 2 123457 = 3277007355420197649 := by
  unfold pmask
  rw [sc2, base_2]
  exact pwr_lit 896982055724109002 1012637110933677589 3277007355420197649 (by decide) (by decide +kernel)
theorem lit_own1 : ownN 1 123456 7 = 1804670641924105070 := by
  unfold ownN
  rw [lit_m1, show pwr 4 (7 : Int).toNat = 16384 from pwr_lit 4 7 16384 (by decide) (by decide +kernel)]
  decide
theorem lit_own3 : ownN 2 123457 11 = 3815827032711288916 := by
  unfold ownN
  rw [lit_m3, show pwr 4 (11 : Int).toNat = 4194304 from pwr_lit 4 11 4194304 (by decide) (by decide +kernel)]
  decide
theorem lit_z : zN 1 123456 7 3815827032711288916 = 256293629375678631 := by
  unfold zN bareN
  rw [show (3 : Int) - 1 = 2 from rfl, lit_m2, show pwr 1276903147385702257 2305843009213688668 = 1907395526865582300 from pwr_lit 1276903147385702257 2305843009213688668 1907395526865582300 (by decide) (by decide +kernel), show (3815827032711288916 : Int) * 1907395526865582300 % 4611686018427377339 = 1122555219034155101 by decide]
  exact pwr_lit 1122555219034155101 7 256293629375678631 (by decide) (by decide +kernel)
theorem lit_key : keyN 1 123456 7 3815827032711288916 = [225, 50, 169, 198, 51, 22, 153, 119, 128, 167, 54, 124, 160, 83, 151, 221, 26, 226, 151, 78, 150, 243, 23, 41, 170, 86, 172, 16, 117, 87, 101, 17] := by
  unfold keyN
  rw [if_pos rfl, lit_own1, lit_z]
  decide +kernel
theorem lit_prf : prfN (keyN 1 123456 7 3815827032711288916) 2 = [232, 167, 191, 241, 161, 226, 20, 143, 50, 79, 198, 43, 126, 88, 115, 200, 14, 242, 19, 43, 240, 27, 0, 71, 24, 115, 245, 230, 213, 208, 242, 24] := by
  rw [lit_key]
  decide +kernel
theorem lit_v9 : pwr 4 (9 : Int).toNat = 262144 := pwr_lit 4 9 262144 (by decide) (by decide +kernel)
/-- The proof that would fit the wrong request is not zero. -/
theorem wrong_ne : ¬ (List.replicate 32 0 : List Int) = rqN (prfN (keyN 1 123456 7 (ownN 2 123457 11)) 2) 10 (pwr 4 (9 : Int).toNat) 4 := by
  rw [lit_own3, lit_prf, lit_v9]
  decide +kernel
end Go.Proofs.YtjbojoeafdkkeaaGreatDoor
