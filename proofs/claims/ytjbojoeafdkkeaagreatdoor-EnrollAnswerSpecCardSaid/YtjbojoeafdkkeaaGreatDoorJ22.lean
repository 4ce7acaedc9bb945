/- The specification's block function (chapter 2). -/
import Derived.Test.YtjbojoeafdkkeaaGreatDoorJ21
import Derived.Test.YtjbojoeafdkkeaaGreatDoorJ10
import Derived.Test.YtjbojoeafdkkeaaGreatDoorJ9
import Derived.Test.YtjbojoeafdkkeaaGreatDoorJ11
import Derived.Test.YtjbojoeafdkkeaaGreatDoorJ7
set_option linter.unusedVariables false
set_option linter.unusedSimpArgs false
namespace Go.Proofs.YtjbojoeafdkkeaaGreatDoor
open Go Go.RowKit Go.Lib

theorem wpList_bldS {w : World} {ops : Array Oper} {rest : List Oper} {o : Oper} {a : Act} {Q : Exit → Act → World → Prop} (hgd : o.guard = none) (T : TypeId) (parts : Array (Nat × Operand)) (ho : o.op = .build T parts) (ps : Array (Nat × Value)) (hps : (parts.map fun (i, x) => (i, a.eval x)) = ps) (v : Value)
    (hr : (Instr.build T ps).run Tryz.prog w = .ok v w) (h : wpList Tryz.prog ops Q rest (a.put o.dst v) w) : wpList Tryz.prog ops Q (o :: rest) a w :=
  wpList_plain hgd fun K hK => by
    unfold Oper.wp execOp
    simp only [ho, hps, Sem.run_bind, hr, Result.andThen_ok]
    exact hK _ _ h
theorem rowT_w64 : RowT 221 64 := rowT_mk (by kernel_rfl) (by kernel_rfl)
theorem rowT_s8 : RowT 184 8 := rowT_mk (by kernel_rfl) (by kernel_rfl)
theorem range_blk {w : World} {B : Nat} {k : IntKind} {l : List Int} (h : Blk w B k l) : w.rangeAt B 0 (l.map (.int k)) := range_of_blk h
theorem results_oneS {T : TypeId} {n : Nat} (hT : RowT T n) {fn : Func} {p : Tmp} (h : fn.results = #[.cell p T]) (tmps : Array Value) (w : World) (B : Nat) (cs : List Value) (u : Value) (hp : tmps.getD p undef = .pointer (some ⟨B, 0, none⟩)) (hb : w.rangeAt B 0 cs) (hl : cs.length = n) (hv : u = .agg cs.toArray) :
    (results fn tmps).run Tryz.prog w = .ok u w := by
  obtain ⟨d, hd1, hd2⟩ := hT.row
  have hr := run_loadVar_mid (P := Tryz.prog) w B 0 T cs d hb hd1 hd2 (by rw [hl]; exact hT.size)
  have hp' : tmps[p]?.getD undef = .pointer (some ⟨B, 0, none⟩) := by simpa using hp
  simp [results, h, hp', asAddr, hr, hv]

set_option maxHeartbeats 4000000 in
set_option maxRecDepth 100000 in
theorem rnumbers_c (w : World) : Calls Tryz.prog 206 #[] w fun e w' => e = .returned (.agg (KK.map (.int .u32)).toArray) ∧ Below w.heap.size w w' := by
  have Z := Bx.mk (blk_new w .u32 (List.replicate 64 0) 221)
  have B := Bx.mk ((Below.refl w.heap.size w).alloc (Nat.le_refl _) (.cells ((List.replicate 64 0).map (.int .u32)).toArray 221))
  have hbd : ∀ W, (Instr.build 221 (KK.mapIdx fun i x => (i, Value.int .u32 x)).toArray).run Tryz.prog W = .ok (.agg (KK.map (.int .u32)).toArray) W := fun W => by kernel_rfl
  go_enter Tryz.func206, Tryz.ntmps206
  go_wp2_with (first | (refine wpList_bldS rfl 221 _ rfl (KK.mapIdx fun i x => (i, Value.int .u32 x)).toArray (by kernel_rfl) _ (hbd _) ?_) | (refine wpList_stB rowT_w64 rfl (.tmp 0) (.tmp 1) rfl w.heap.size rfl .u32 KK rfl rfl (List.replicate 64 0) Z.out (by simp) ?_))
  intro W1 b1 g1
  have B1 := Bx.mk (Below.grown B.out g1 B.out.size (by intro q hq; cases hq; exact Nat.le_refl _))
  have H1 := Bx.mk b1
  clear b1 g1 B Z hbd
  go_wp2_with fail
  (try simp only [Exit.inBlock, Exit.then])
  refine bodyPost_ret (results_oneS rowT_w64 rfl _ _ w.heap.size (KK.map (.int .u32)) _ rfl (range_blk H1.out) rfl rfl) rfl ?_
  exact ⟨rfl, B1.out⟩

theorem ch_alt2 (e f g : Int) : bits BinOp.xor IntKind.u32 (bits BinOp.and IntKind.u32 e f) (bits BinOp.and IntKind.u32 (bits BinOp.xor IntKind.u32 (if IntKind.u32.signed = true then -1 else IntKind.u32.max) e) g) = bits BinOp.xor IntKind.u32 g (bits BinOp.and IntKind.u32 e (bits BinOp.xor IntKind.u32 f g)) := by
  have e1 : bits BinOp.xor IntKind.u32 (if IntKind.u32.signed = true then -1 else IntKind.u32.max) e = bits BinOp.xor IntKind.u32 (-1) e := by
    rw [xor32, xor32, show b32 (if IntKind.u32.signed = true then -1 else IntKind.u32.max) = b32 (-1) by decide]
  rw [e1, ch_alt]
theorem wpList_pauseS {w : World} {ops : Array Oper} {rest : List Oper} {o : Oper} {a : Act} {Q : Exit → Act → World → Prop} (d : Nat) (_ : o.dst = some d) (h : ∀ w', w' = w → wpList Tryz.prog ops Q (o :: rest) a w') : wpList Tryz.prog ops Q (o :: rest) a w := h w rfl
/-- What the schedule's region leans on. -/
def SW (w : World) (s : S8) (N k : Nat) (z u : Int) (W' : World) : Prop := W'.cell? ⟨N, k - 16, none⟩ = some (.int .u32 z) ∧ W'.cell? ⟨N, k - 7, none⟩ = some (.int .u32 u) ∧ (Below w.heap.size w W' ∧ Blk W' w.heap.size .u32 s.l ∧ Blk W' (w.heap.size + 1) .u32 (List.replicate 8 0))
theorem sw_drew {w : World} {s : S8} {N k : Nat} {z u : Int} {W' : World} (h : SW w s N k z u W') (m : Nat) : SW w s N k z u (W'.drewN m) := ⟨h.1, h.2.1, below_drewN h.2.2.1 m, h.2.2.2⟩
theorem sw_drew1 {w : World} {s : S8} {N k : Nat} {z u : Int} {W' : World} (h : SW w s N k z u W') : SW w s N k z u W'.drew := sw_drew h 1
theorem sw_set {w : World} {s : S8} {N k : Nat} {z u : Int} {W' : World} (h : SW w s N k z u W') (hk : 16 ≤ k) (hN : w.heap.size + 1 < N) (v : Value) : SW w s N k z u (W'.setCell ⟨N, k, none⟩ v) :=
  ⟨(World.cell?_setCell_other _ _ _ _ (by intro e; have := congrArg Addr.off e; simp at this; omega)).trans h.1, (World.cell?_setCell_other _ _ _ _ (by intro e; have := congrArg Addr.off e; simp at this; omega)).trans h.2.1, h.2.2.1.setCell (by show w.heap.size ≤ N; omega) v, h.2.2.2.1.other (by show N ≠ _; omega) v, h.2.2.2.2.other (by show N ≠ _; omega) v⟩

/-- The frame of block: the state, the result, the schedule. -/
def FB2 (w : World) (s : S8) (W : World) : Prop := Below w.heap.size w W ∧ Blk W w.heap.size .u32 s.l ∧ Blk W (w.heap.size + 1) .u32 (List.replicate 8 0)
theorem FB2.set {w W : World} {s : S8} (h : FB2 w s W) {a : Addr} (ha : w.heap.size + 1 < a.block) (v : Value) : FB2 w s (W.setCell a v) := ⟨h.1.setCell (by omega) v, h.2.1.other (by omega) v, h.2.2.other (by omega) v⟩
theorem FB2.drew {w W : World} {s : S8} (h : FB2 w s W) (m : Nat) : FB2 w s (W.drewN m) := ⟨below_drewN h.1 m, h.2⟩
theorem FB2.below {w W W2 : World} {s : S8} (h : FB2 w s W) (hb : Below W.heap.size W W2) : FB2 w s W2 := ⟨below_step h.1 hb (Nat.le_refl _), h.2.1.below hb (h.2.1.lt (by show 0 < 8; decide)), h.2.2.below hb (h.2.2.lt (by simp))⟩
theorem FB2.grown {w W W2 : World} {s : S8} {B : Nat} (h : FB2 w s W) (hg : W.grownBy W2 (some B)) (hB : w.heap.size + 1 < B) : FB2 w s W2 :=
  ⟨Below.grown h.1 hg h.1.size (by intro q hq; cases hq; omega), h.2.1.grown hg (h.2.1.lt (by show 0 < 8; decide)) (fun q => by have := Option.some.inj q; omega), h.2.2.grown hg (h.2.2.lt (by simp)) (fun q => by have := Option.some.inj q; omega)⟩

set_option maxHeartbeats 16000000 in
set_option maxRecDepth 100000 in
theorem rblock_c (s : S8) (b o cap : Nat) (l : List Int) (w : World) (hl : l.length = 64) (hcap : 64 ≤ cap) (hcap2 : cap ≤ 9223372036854775807) (hu : U8 w b o l) (hb : b < w.heap.size) :
    Calls Tryz.prog 184 #[.agg #[.int .u32 s.a, .int .u32 s.b, .int .u32 s.c, .int .u32 s.d, .int .u32 s.e, .int .u32 s.f, .int .u32 s.g, .int .u32 s.h], .slice (some ⟨b, o, none⟩) 64 cap] w fun e w' => e = .returned (.agg ((absorb s l).l.map (.int .u32)).toArray) ∧ Below w.heap.size w w' := by
  have HU := Bx.mk hu
  clear hu
  have hs0 := blk_new w .u32 s.l 184
  have e1 : (w.alloc (.cells (s.l.map (.int .u32)).toArray 184)).heap.size = w.heap.size + 1 := World.size_alloc _ _
  have hs1 := blk_new (w.alloc (.cells (s.l.map (.int .u32)).toArray 184)) .u32 (List.replicate 8 0) 184
  rw [e1] at hs1
  have e2 : ((w.alloc (.cells (s.l.map (.int .u32)).toArray 184)).alloc (.cells ((List.replicate 8 0).map (.int .u32)).toArray 184)).heap.size = w.heap.size + 2 := by rw [World.size_alloc, e1]
  have F0 : Bx (FB2 w s (((w.alloc (.cells (s.l.map (.int .u32)).toArray 184)).alloc (.cells ((List.replicate 8 0).map (.int .u32)).toArray 184)).alloc (.cells ((List.replicate 64 0).map (.int .u32)).toArray 221))) :=
    .mk ⟨(((Below.refl _ _).alloc (Nat.le_refl _) _).alloc (by rw [e1]; omega) _).alloc (by rw [e2]; omega) _, ((hs0.alloc (by rw [e1]; omega) _).alloc (by rw [e2]; omega) _), hs1.alloc (by rw [e2]; omega) _⟩
  have Z := Bx.mk (blk_new ((w.alloc (.cells (s.l.map (.int .u32)).toArray 184)).alloc (.cells ((List.replicate 8 0).map (.int .u32)).toArray 184)) .u32 (List.replicate 64 0) 221)
  rw [e2] at Z
  clear hs0 hs1 e1 e2
  have hbd : ∀ W, (Instr.build 221 #[]).run Tryz.prog W = .ok (.agg ((List.replicate 64 0).map (.int .u32)).toArray) W := fun W => by kernel_rfl
  obtain ⟨N, hN⟩ : ∃ N, N = w.heap.size + 2 := ⟨_, rfl⟩
  rw [← hN] at Z
  have hN1 : w.heap.size + 1 < N := by omega
  have HN : Bx (w.heap.size + 1 + 1 = N) := .mk (by omega)
  clear hN
  go_enter Tryz.func184, Tryz.ntmps184
  go_wp2_with (first | (refine wpList_bldS rfl 221 _ rfl #[] rfl _ (hbd _) ?_) | (rw [HN.out]; refine wpList_stB rowT_w64 rfl (.tmp 5) (.tmp 22) rfl N rfl .u32 (List.replicate 64 0) rfl rfl (List.replicate 64 0) Z.out rfl ?_))
  intro W1 b1 g1
  have F1 := Bx.mk (F0.out.grown g1 hN1)
  have H1 := Bx.mk b1
  clear b1 g1 F0 Z hbd
  go_wp2_with fail
  go_loopg [6] 16 (fun g s6 wr => ∃ (k : Nat), s6 = .int .i64 k ∧ k ≤ 16 ∧ Bx (g = 16 - k) ∧ Bx (Blk wr N .u32 (W16 l k)) ∧ Bx (FB2 w s wr))
  case atStart => exact ⟨0, rfl, by omega, .mk rfl, H1, F1⟩
  case round =>
    clear F1 H1
    obtain ⟨k, rfl, hk, hg, hW, hF⟩ := hrel
    by_cases hlt : k < 16
    · have u := HU.out.below hb hF.out.1
      have u0 := u.get (i := 4 * k) (by omega); have u1 := u.get (i := 4 * k + 1) (by omega); have u2 := u.get (i := 4 * k + 2) (by omega); have u3 := u.get (i := 4 * k + 3) (by omega)
      have hlen := W16_len l k
      have ck := hW.out.at (i := k) (by omega)
      have fk := hW.out.fr (i := k) (by omega)
      have Hu := Bx.mk (show _ ∧ _ ∧ _ ∧ _ from ⟨u0, u1, u2, u3⟩)
      clear u u0 u1 u2 u3 hlen
      go_wp2_with fail
      refine (rword_c b (o + 4 * k) _ _ _ _ _ _ _ (by omega) Hu.out.1 Hu.out.2.1 Hu.out.2.2.1 Hu.out.2.2.2).mono ?_
      rintro e w1 ⟨rfl, m, rfl⟩
      go_wp2_with fail
      go_roundg (16 - k - 1)
      case measure => have := hg.out; omega
      case rel => exact ⟨k + 1, by go_num, by omega, .mk (by omega), .mk (Blk.setCell (w := wr.drewN m) hW.out k _), .mk ((hF.out.drew m).set (by omega) _)⟩
    · obtain rfl : k = 16 := by omega
      clear hg hlt hk
      have hW2 := Bx.mk (show Blk wr N .u32 (WN l 0) from hW.out)
      clear hW
      go_wp2_with fail
      go_loopg [7] 48 (fun g s7 wr => ∃ (k : Nat), s7 = .int .i64 k ∧ 16 ≤ k ∧ k ≤ 64 ∧ Bx (g = 64 - k) ∧ Bx (Blk wr N .u32 (WN l (k - 16))) ∧ Bx (FB2 w s wr))
      case atStart => exact ⟨16, rfl, by omega, by omega, .mk rfl, hW2, hF⟩
      case round =>
        clear hW2 hF
        obtain ⟨k, rfl, hk16, hk, hg, hW, hF⟩ := hrel
        by_cases hlt : k < 64
        · have hlen := WN_len l (k - 16)
          have ck15 := hW.out.at (i := k - 15) (by omega)
          have ck2 := hW.out.at (i := k - 2) (by omega)
          have ck16 := hW.out.at (i := k - 16) (by omega)
          have ck7 := hW.out.at (i := k - 7) (by omega)
          clear hlen
          obtain ⟨x, hx⟩ : ∃ x, x = (WN l (k - 16)).getD (k - 15) 0 := ⟨_, rfl⟩
          obtain ⟨y, hy⟩ : ∃ x, x = (WN l (k - 16)).getD (k - 2) 0 := ⟨_, rfl⟩
          obtain ⟨z, hz⟩ : ∃ x, x = (WN l (k - 16)).getD (k - 16) 0 := ⟨_, rfl⟩
          obtain ⟨u, hu⟩ : ∃ x, x = (WN l (k - 16)).getD (k - 7) 0 := ⟨_, rfl⟩
          rw [← hx] at ck15; rw [← hy] at ck2; rw [← hz] at ck16; rw [← hu] at ck7
          have HX := Bx.mk (show _ ∧ _ ∧ _ ∧ _ from ⟨hx, hy, hz, hu⟩)
          clear hx hy hz hu
          have hS0 := Bx.mk (show SW w s N k z u wr from ⟨ck16, ck7, hF.out⟩)
          clear ck16 ck7
          have w15 : IntKind.i64.wrap ((k : Int) - 15) = (k : Int) - 15 := by rw [IntKind.wrap_i64]; omega
          have w2 : IntKind.i64.wrap ((k : Int) - 2) = (k : Int) - 2 := by rw [IntKind.wrap_i64]; omega
          have w16 : IntKind.i64.wrap ((k : Int) - 16) = (k : Int) - 16 := by rw [IntKind.wrap_i64]; omega
          have w7 : IntKind.i64.wrap ((k : Int) - 7) = (k : Int) - 7 := by rw [IntKind.wrap_i64]; omega
          have g16 : (16 : Int) ≤ (k : Int) := by omega
          have g16u : (k : Int) - 16 < 64 := by omega
          have g7 : (7 : Int) ≤ (k : Int) := by omega
          have g7u : (k : Int) - 7 < 64 := by omega
          have t16 : ((k : Int) - 16).toNat = k - 16 := by omega
          have t7 : ((k : Int) - 7).toNat = k - 7 := by omega
          go_wp2_with fail
          refine wp_region_noPanic ?_
          refine wp_region_held_drew (S := fun W' => SW w s N k z u W') (by kernel_rfl) (sw_drew1 hS0.out) (fun hH => ?_)
          have hS0' := sw_drew1 hS0.out
          have hB0 := hW.out
          refine wpAnyH_take (i := 0) (oi := _) (v := .int .i64 k) rfl (by kernel_rfl) (by kernel_rfl) (by kernel_rfl) (fun _ _ _ h => h) (Or.inl ⟨by rfl, by (intro wz hSz; obtain ⟨z1, z2, z3⟩ := hSz; go_simp)⟩) hH ?_
          simp only [Act.put, List.setIfInBounds_toArray, List.set_cons_zero, List.set_cons_succ]
          refine wpAnyH_take (i := 1) (oi := _) (v := .int .i64 k) rfl (by kernel_rfl) (by kernel_rfl) (by kernel_rfl) (fun _ _ _ h => h) (Or.inl ⟨by rfl, by (intro wz hSz; obtain ⟨z1, z2, z3⟩ := hSz; go_simp)⟩) hH ?_
          simp only [Act.put, List.setIfInBounds_toArray, List.set_cons_zero, List.set_cons_succ]
          refine wpAnyH_take (i := 2) (oi := _) (v := .int .i64 ((k : Int) - 16)) rfl (by kernel_rfl) (by kernel_rfl) (by kernel_rfl) (fun _ _ _ h => h) (Or.inl ⟨by rfl, by (intro wz hSz; obtain ⟨z1, z2, z3⟩ := hSz; go_simp)⟩) hH ?_
          simp only [Act.put, List.setIfInBounds_toArray, List.set_cons_zero, List.set_cons_succ]
          refine wpAnyH_take (i := 3) (oi := _) (v := .pointer (some ⟨N, k - 16, none⟩)) rfl (by kernel_rfl) (by kernel_rfl) (by kernel_rfl) (fun _ _ _ h => h) (Or.inl ⟨by rfl, by (intro wz hSz; obtain ⟨z1, z2, z3⟩ := hSz; go_simp)⟩) hH ?_
          simp only [Act.put, List.setIfInBounds_toArray, List.set_cons_zero, List.set_cons_succ]
          refine wpAnyH_take (i := 4) (oi := _) (v := .int .u32 z) rfl (by kernel_rfl) (by kernel_rfl) (by kernel_rfl) (fun _ _ _ h => h) (Or.inl ⟨by rfl, by (intro wz hSz; obtain ⟨z1, z2, z3⟩ := hSz; go_simp)⟩) hH ?_
          simp only [Act.put, List.setIfInBounds_toArray, List.set_cons_zero, List.set_cons_succ]
          refine wpAnyH_take (i := 5) (oi := _) (v := .int .u32 x) rfl (by kernel_rfl) (by kernel_rfl) (by kernel_rfl) (fun _ _ _ h => h) (Or.inl ⟨by rfl, by (intro wz hSz; obtain ⟨z1, z2, z3⟩ := hSz; go_simp)⟩) hH ?_
          simp only [Act.put, List.setIfInBounds_toArray, List.set_cons_zero, List.set_cons_succ]
          refine wpAnyH_take (i := 7) (oi := _) (v := .int .u32 x) rfl (by kernel_rfl) (by kernel_rfl) (by kernel_rfl) (fun _ _ _ h => h) (Or.inl ⟨by rfl, by (intro wz hSz; obtain ⟨z1, z2, z3⟩ := hSz; go_simp)⟩) hH ?_
          simp only [Act.put, List.setIfInBounds_toArray, List.set_cons_zero, List.set_cons_succ]
          refine wpAnyH_take (i := 10) (oi := _) (v := .int .u32 x) rfl (by kernel_rfl) (by kernel_rfl) (by kernel_rfl) (fun _ _ _ h => h) (Or.inl ⟨by rfl, by (intro wz hSz; obtain ⟨z1, z2, z3⟩ := hSz; go_simp)⟩) hH ?_
          simp only [Act.put, List.setIfInBounds_toArray, List.set_cons_zero, List.set_cons_succ]
          refine wpAnyH_take (i := 11) (oi := _) (v := .int .u32 (x / 8)) rfl (by kernel_rfl) (by kernel_rfl) (by kernel_rfl) (fun _ _ _ h => h) (Or.inl ⟨by rfl, by (intro wz hSz; obtain ⟨z1, z2, z3⟩ := hSz; go_simp)⟩) hH ?_
          simp only [Act.put, List.setIfInBounds_toArray, List.set_cons_zero, List.set_cons_succ]
          refine wpAnyH_take (i := 14) (oi := _) (v := .int .i64 k) rfl (by kernel_rfl) (by kernel_rfl) (by kernel_rfl) (fun _ _ _ h => h) (Or.inl ⟨by rfl, by (intro wz hSz; obtain ⟨z1, z2, z3⟩ := hSz; go_simp)⟩) hH ?_
          simp only [Act.put, List.setIfInBounds_toArray, List.set_cons_zero, List.set_cons_succ]
          refine wpAnyH_take (i := 15) (oi := _) (v := .int .i64 ((k : Int) - 7)) rfl (by kernel_rfl) (by kernel_rfl) (by kernel_rfl) (fun _ _ _ h => h) (Or.inl ⟨by rfl, by (intro wz hSz; obtain ⟨z1, z2, z3⟩ := hSz; go_simp)⟩) hH ?_
          simp only [Act.put, List.setIfInBounds_toArray, List.set_cons_zero, List.set_cons_succ]
          refine wpAnyH_take (i := 16) (oi := _) (v := .pointer (some ⟨N, k - 7, none⟩)) rfl (by kernel_rfl) (by kernel_rfl) (by kernel_rfl) (fun _ _ _ h => h) (Or.inl ⟨by rfl, by (intro wz hSz; obtain ⟨z1, z2, z3⟩ := hSz; go_simp)⟩) hH ?_
          simp only [Act.put, List.setIfInBounds_toArray, List.set_cons_zero, List.set_cons_succ]
          refine wpAnyH_take (i := 17) (oi := _) (v := .int .u32 u) rfl (by kernel_rfl) (by kernel_rfl) (by kernel_rfl) (fun _ _ _ h => h) (Or.inl ⟨by rfl, by (intro wz hSz; obtain ⟨z1, z2, z3⟩ := hSz; go_simp)⟩) hH ?_
          simp only [Act.put, List.setIfInBounds_toArray, List.set_cons_zero, List.set_cons_succ]
          refine wpAnyH_take (i := 19) (oi := _) (v := .int .u32 y) rfl (by kernel_rfl) (by kernel_rfl) (by kernel_rfl) (fun _ _ _ h => h) (Or.inl ⟨by rfl, by (intro wz hSz; obtain ⟨z1, z2, z3⟩ := hSz; go_simp)⟩) hH ?_
          simp only [Act.put, List.setIfInBounds_toArray, List.set_cons_zero, List.set_cons_succ]
          refine wpAnyH_take (i := 21) (oi := _) (v := .int .u32 y) rfl (by kernel_rfl) (by kernel_rfl) (by kernel_rfl) (fun _ _ _ h => h) (Or.inl ⟨by rfl, by (intro wz hSz; obtain ⟨z1, z2, z3⟩ := hSz; go_simp)⟩) hH ?_
          simp only [Act.put, List.setIfInBounds_toArray, List.set_cons_zero, List.set_cons_succ]
          refine wpAnyH_take (i := 24) (oi := _) (v := .int .u32 y) rfl (by kernel_rfl) (by kernel_rfl) (by kernel_rfl) (fun _ _ _ h => h) (Or.inl ⟨by rfl, by (intro wz hSz; obtain ⟨z1, z2, z3⟩ := hSz; go_simp)⟩) hH ?_
          simp only [Act.put, List.setIfInBounds_toArray, List.set_cons_zero, List.set_cons_succ]
          refine wpAnyH_take (i := 25) (oi := _) (v := .int .u32 (y / 1024)) rfl (by kernel_rfl) (by kernel_rfl) (by kernel_rfl) (fun _ _ _ h => h) (Or.inl ⟨by rfl, by (intro wz hSz; obtain ⟨z1, z2, z3⟩ := hSz; go_simp)⟩) hH ?_
          simp only [Act.put, List.setIfInBounds_toArray, List.set_cons_zero, List.set_cons_succ]
          refine wpAnyH_ready (rs := [6]) (by kernel_rfl) (by simp) ?_
          refine AllReadyH.cons (o := _) rfl (fun K1 hK1 => ?_) AllReadyH.nil
          go_simp
          refine (rror_c 7 (by decide) x _).mono ?_
          rintro e w1 ⟨rfl, m1, hw1⟩
          have hS1' : SW w s N k z u w1 := by rw [hw1]; exact sw_drew hS0' m1
          have hB1 : Blk w1 N .u32 (WN l (k - 16)) := by rw [hw1]; exact hB0
          clear hw1 hB0
          (try dsimp only)
          refine hK1.out _ _ hS1' (fun _ => ?_)
          refine wpAnyH_ready (rs := [8]) (by kernel_rfl) (by simp) ?_
          refine AllReadyH.cons (o := _) rfl (fun K2 hK2 => ?_) AllReadyH.nil
          go_simp
          refine (rror_c 18 (by decide) x _).mono ?_
          rintro e w2 ⟨rfl, m2, hw2⟩
          have hS2' : SW w s N k z u w2 := by rw [hw2]; exact sw_drew hS1' m2
          have hB2 : Blk w2 N .u32 (WN l (k - 16)) := by rw [hw2]; exact hB1
          clear hw2 hB1
          (try dsimp only)
          refine hK2.out _ _ hS2' (fun _ => ?_)
          refine wpAnyH_take (i := 9) (oi := _) (v := .int .u32 (bits BinOp.xor IntKind.u32 (ror 7 x) (ror 18 x))) rfl (by kernel_rfl) (by kernel_rfl) (by kernel_rfl) (fun _ _ _ h => h) (Or.inl ⟨by rfl, by (intro wz hSz; obtain ⟨z1, z2, z3⟩ := hSz; go_simp)⟩) hS2' ?_
          simp only [Act.put, List.setIfInBounds_toArray, List.set_cons_zero, List.set_cons_succ]
          refine wpAnyH_take (i := 12) (oi := _) (v := .int .u32 (bits BinOp.xor IntKind.u32 (bits BinOp.xor IntKind.u32 (ror 7 x) (ror 18 x)) (x / 8))) rfl (by kernel_rfl) (by kernel_rfl) (by kernel_rfl) (fun _ _ _ h => h) (Or.inl ⟨by rfl, by (intro wz hSz; obtain ⟨z1, z2, z3⟩ := hSz; go_simp)⟩) hS2' ?_
          simp only [Act.put, List.setIfInBounds_toArray, List.set_cons_zero, List.set_cons_succ]
          refine wpAnyH_take (i := 13) (oi := _) (v := .int .u32 ((z + bits BinOp.xor IntKind.u32 (bits BinOp.xor IntKind.u32 (ror 7 x) (ror 18 x)) (x / 8)) % 4294967296)) rfl (by kernel_rfl) (by kernel_rfl) (by kernel_rfl) (fun _ _ _ h => h) (Or.inl ⟨by rfl, by (intro wz hSz; obtain ⟨z1, z2, z3⟩ := hSz; go_simp; rw [IntKind.wrap_u32']; (try omega))⟩) hS2' ?_
          simp only [Act.put, List.setIfInBounds_toArray, List.set_cons_zero, List.set_cons_succ]
          refine wpAnyH_take (i := 18) (oi := _) (v := .int .u32 (((z + bits BinOp.xor IntKind.u32 (bits BinOp.xor IntKind.u32 (ror 7 x) (ror 18 x)) (x / 8)) % 4294967296 + u) % 4294967296)) rfl (by kernel_rfl) (by kernel_rfl) (by kernel_rfl) (fun _ _ _ h => h) (Or.inl ⟨by rfl, by (intro wz hSz; obtain ⟨z1, z2, z3⟩ := hSz; go_simp; rw [IntKind.wrap_u32']; (try omega))⟩) hS2' ?_
          simp only [Act.put, List.setIfInBounds_toArray, List.set_cons_zero, List.set_cons_succ]
          refine wpAnyH_ready (rs := [20]) (by kernel_rfl) (by simp) ?_
          refine AllReadyH.cons (o := _) rfl (fun K3 hK3 => ?_) AllReadyH.nil
          go_simp
          refine (rror_c 17 (by decide) y _).mono ?_
          rintro e w3 ⟨rfl, m3, hw3⟩
          have hS3' : SW w s N k z u w3 := by rw [hw3]; exact sw_drew hS2' m3
          have hB3 : Blk w3 N .u32 (WN l (k - 16)) := by rw [hw3]; exact hB2
          clear hw3 hB2
          (try dsimp only)
          refine hK3.out _ _ hS3' (fun _ => ?_)
          refine wpAnyH_ready (rs := [22]) (by kernel_rfl) (by simp) ?_
          refine AllReadyH.cons (o := _) rfl (fun K4 hK4 => ?_) AllReadyH.nil
          go_simp
          refine (rror_c 19 (by decide) y _).mono ?_
          rintro e w4 ⟨rfl, m4, hw4⟩
          have hS4' : SW w s N k z u w4 := by rw [hw4]; exact sw_drew hS3' m4
          have hB4 : Blk w4 N .u32 (WN l (k - 16)) := by rw [hw4]; exact hB3
          clear hw4 hB3
          (try dsimp only)
          refine hK4.out _ _ hS4' (fun _ => ?_)
          refine wpAnyH_take (i := 23) (oi := _) (v := .int .u32 (bits BinOp.xor IntKind.u32 (ror 17 y) (ror 19 y))) rfl (by kernel_rfl) (by kernel_rfl) (by kernel_rfl) (fun _ _ _ h => h) (Or.inl ⟨by rfl, by (intro wz hSz; obtain ⟨z1, z2, z3⟩ := hSz; go_simp)⟩) hS4' ?_
          simp only [Act.put, List.setIfInBounds_toArray, List.set_cons_zero, List.set_cons_succ]
          refine wpAnyH_take (i := 26) (oi := _) (v := .int .u32 (bits BinOp.xor IntKind.u32 (bits BinOp.xor IntKind.u32 (ror 17 y) (ror 19 y)) (y / 1024))) rfl (by kernel_rfl) (by kernel_rfl) (by kernel_rfl) (fun _ _ _ h => h) (Or.inl ⟨by rfl, by (intro wz hSz; obtain ⟨z1, z2, z3⟩ := hSz; go_simp)⟩) hS4' ?_
          simp only [Act.put, List.setIfInBounds_toArray, List.set_cons_zero, List.set_cons_succ]
          refine wpAnyH_take (i := 27) (oi := _) (v := .int .u32 ((((z + bits BinOp.xor IntKind.u32 (bits BinOp.xor IntKind.u32 (ror 7 x) (ror 18 x)) (x / 8)) % 4294967296 + u) % 4294967296 + bits BinOp.xor IntKind.u32 (bits BinOp.xor IntKind.u32 (ror 17 y) (ror 19 y)) (y / 1024)) % 4294967296)) rfl (by kernel_rfl) (by kernel_rfl) (by kernel_rfl) (fun _ _ _ h => h) (Or.inl ⟨by rfl, by (intro wz hSz; obtain ⟨z1, z2, z3⟩ := hSz; go_simp; rw [IntKind.wrap_u32']; (try omega))⟩) hS4' ?_
          simp only [Act.put, List.setIfInBounds_toArray, List.set_cons_zero, List.set_cons_succ]
          refine wpAnyH_take (i := 28) (oi := _) (v := .pointer (some ⟨N, k, none⟩)) rfl (by kernel_rfl) (by kernel_rfl) (by kernel_rfl) (fun _ _ _ h => h) (Or.inl ⟨by rfl, by (intro wz hSz; obtain ⟨z1, z2, z3⟩ := hSz; go_simp)⟩) hS4' ?_
          simp only [Act.put, List.setIfInBounds_toArray, List.set_cons_zero, List.set_cons_succ]
          refine wpAnyH_ready (rs := [29]) (by kernel_rfl) (by simp) ?_
          refine AllReadyH.cons (o := _) rfl (fun K5 hK5 => ?_) AllReadyH.nil
          have fk := hB4.fr (i := k) (by rw [WN_len]; omega)
          have ck := hB4.at (i := k) (by rw [WN_len]; omega)
          go_simp
          refine hK5.out _ _ (sw_set hS4' hk16 hN1 _) (fun _ => ?_)
          refine wpAnyH_done (by kernel_rfl) ?_ _
          refine NoPanic.normal ?_
          have hF5 : Bx (FB2 w s w4) := .mk hS4'.2.2
          have hB5 := Bx.mk hB4
          clear hK1 hK2 hK3 hK4 hK5 hH hS0 hS0' hS1' hS2' hS3' hS4' hB4 fk ck w15 w16 w7 g16 g16u g7 g7u t16 t7 ck15 ck2
          go_wp2_with fail
          go_roundg (64 - k - 1)
          case measure => have := hg.out; omega
          case rel =>
            refine ⟨k + 1, by go_num, by omega, by omega, .mk (by omega), .mk ?_, .mk (hF5.out.set (by show _ < N; omega) _)⟩
            rw [WN_step l k hk16, ← HX.out.1, ← HX.out.2.1, ← HX.out.2.2.1, ← HX.out.2.2.2]
            exact Blk.setCell hB5.out k _
        · obtain rfl : k = 64 := by omega
          have hW3 := Bx.mk (show Blk wr N .u32 (WN l 48) from hW.out)
          clear hg hlt hk hk16 hW
          have hNl := hW3.out.lt (by rw [WN_len]; decide)
          go_wp2_with fail
          refine (rnumbers_c _).mono ?_
          rintro e wa ⟨rfl, hba⟩
          have F3 := Bx.mk (hF.out.below hba)
          have hW4 := Bx.mk (hW3.out.below hba hNl)
          have hNl2 : N < wa.heap.size := Nat.lt_of_lt_of_le hNl hba.size
          clear hba hF hW3 hNl
          have Z1 := Bx.mk (blk_new wa .u32 (List.replicate 64 0) 221)
          go_wp2_with (refine wpList_stB rowT_w64 rfl (.tmp 10) (.tmp 78) rfl wa.heap.size rfl .u32 KK rfl rfl (List.replicate 64 0) Z1.out rfl ?_)
          intro wb bb gb
          obtain ⟨M, hM⟩ : ∃ M, M = wa.heap.size := ⟨_, rfl⟩
          rw [← hM] at bb gb hNl2 ⊢
          have gA : wa.heap.size ≤ (wa.alloc (.cells ((List.replicate 64 0).map (.int .u32)).toArray 221)).heap.size := by rw [World.size_alloc]; omega
          have F4 := Bx.mk (((F3.out.below ((Below.refl _ _).alloc (Nat.le_refl _) _)).grown gb (by omega) : FB2 w s wb))
          have hNM : some N ≠ some M := fun q => by have := Option.some.inj q; omega
          have hNs : N < wa.heap.size + 1 := by omega
          have hW5 := Bx.mk (Blk.grown (hW4.out.alloc (by omega) _) gb (by rw [World.size_alloc]; exact hNs) hNM)
          have hK5 := Bx.mk bb
          clear gb bb gA hM Z1 F3 hW4
          have hs := F4.out.2.1
          obtain ⟨d0, d1, d2, d3, d4, d5, d6, d7⟩ := hs.s8
          clear hs
          go_wp2_with fail
          go_quiet (fail)
          have F5 := Bx.mk (F4.out.drew nq)
          have hW6 := Bx.mk (show Blk (wb.drewN nq) N .u32 (WN l 48) from hW5.out)
          have hK6 := Bx.mk (show Blk (wb.drewN nq) M .u32 KK from hK5.out)
          clear F4 hW5 hK5 d0 d1 d2 d3 d4 d5 d6 d7
          generalize wb.drewN nq = wc at *
          go_wp2_with fail
          go_loopg [11, 12, 13, 14, 15, 16, 17, 18, 19] 64 (fun g s11 s12 s13 s14 s15 s16 s17 s18 s19 wr2 => ∃ (k : Nat) (v : S8), s11 = .int .u32 v.a ∧ s12 = .int .u32 v.b ∧ s13 = .int .u32 v.c ∧ s14 = .int .u32 v.d ∧ s15 = .int .u32 v.e ∧ s16 = .int .u32 v.f ∧ s17 = .int .u32 v.g ∧ s18 = .int .u32 v.h ∧ s19 = .int .i64 k ∧ k ≤ 64 ∧ Bx (g = 64 - k) ∧ Bx (v = RN (WN l 48) s k) ∧ Bx (Blk wr2 M .u32 KK) ∧ Bx (Blk wr2 N .u32 (WN l 48)) ∧ Bx (FB2 w s wr2))
          case atStart => exact ⟨0, s, rfl, rfl, rfl, rfl, rfl, rfl, rfl, rfl, rfl, by omega, .mk rfl, .mk rfl, hK6, hW6, F5⟩
          case round =>
            clear hK6 hW6 F5
            obtain ⟨k, v, rfl, rfl, rfl, rfl, rfl, rfl, rfl, rfl, rfl, hk, hg, hv, hKK, hW, hF⟩ := hrel
            by_cases hlt : k < 64
            · have cw := hW.out.at (i := k) (by rw [WN_len]; omega)
              have ck := hKK.out.at (i := k) (by rw [KK_len]; omega)
              obtain ⟨x, hx⟩ : ∃ x, x = (WN l 48).getD k 0 := ⟨_, rfl⟩
              obtain ⟨y, hy⟩ : ∃ x, x = KK.getD k 0 := ⟨_, rfl⟩
              rw [← hx] at cw; rw [← hy] at ck
              have HX := Bx.mk (show _ ∧ _ from ⟨hx, hy⟩)
              clear hx hy
              go_wp2_with fail
              go_quiet (refine Calls.quiet_of (rror_c _ (by decide) _ _))
              rw [ch_alt2]
              obtain ⟨p, hp⟩ : ∃ p, p = ((v.h + bits BinOp.xor IntKind.u32 (bits BinOp.xor IntKind.u32 (ror 6 v.e) (ror 11 v.e)) (ror 25 v.e) + bits BinOp.xor IntKind.u32 v.g (bits BinOp.and IntKind.u32 v.e (bits BinOp.xor IntKind.u32 v.f v.g)) + y) % 4294967296 + x) % 4294967296 := ⟨_, rfl⟩
              rw [← hp]
              have HP := Bx.mk hp; clear hp
              have F6 := Bx.mk (hF.out.drew nq)
              have hW6 := Bx.mk (show Blk (wr.drewN nq) N .u32 (WN l 48) from hW.out)
              have hK6 := Bx.mk (show Blk (wr.drewN nq) M .u32 KK from hKK.out)
              clear hF hW hKK cw ck
              generalize wr.drewN nq = wq at *
              go_wp2_with fail
              refine (rror_c 2 (by decide) _ _).mono ?_
              rintro e wq1 ⟨rfl, n1, hw1⟩
              have F7 : Bx (FB2 w s wq1) := .mk (by rw [hw1]; exact F6.out.drew n1)
              have hW7 : Bx (Blk wq1 N .u32 (WN l 48)) := .mk (by rw [hw1]; exact hW6.out)
              have hK7 : Bx (Blk wq1 M .u32 KK) := .mk (by rw [hw1]; exact hK6.out)
              clear hw1 F6 hW6 hK6
              go_wp2_with fail
              refine (rror_c 13 (by decide) _ _).mono ?_
              rintro e wq2 ⟨rfl, n1, hw1⟩
              have F8 : Bx (FB2 w s wq2) := .mk (by rw [hw1]; exact F7.out.drew n1)
              have hW8 : Bx (Blk wq2 N .u32 (WN l 48)) := .mk (by rw [hw1]; exact hW7.out)
              have hK8 : Bx (Blk wq2 M .u32 KK) := .mk (by rw [hw1]; exact hK7.out)
              clear hw1 F7 hW7 hK7
              go_wp2_with fail
              refine (rror_c 22 (by decide) _ _).mono ?_
              rintro e wq3 ⟨rfl, n1, hw1⟩
              have F9 : Bx (FB2 w s wq3) := .mk (by rw [hw1]; exact F8.out.drew n1)
              have hW9 : Bx (Blk wq3 N .u32 (WN l 48)) := .mk (by rw [hw1]; exact hW8.out)
              have hK9 : Bx (Blk wq3 M .u32 KK) := .mk (by rw [hw1]; exact hK8.out)
              clear hw1 F8 hW8 hK8
              go_wp2_with fail
              rw [maj_alt]
              obtain ⟨q, hq⟩ : ∃ q, q = (bits BinOp.xor IntKind.u32 (bits BinOp.xor IntKind.u32 (ror 2 v.a) (ror 13 v.a)) (ror 22 v.a) + bits BinOp.or IntKind.u32 (bits BinOp.and IntKind.u32 v.a v.b) (bits BinOp.and IntKind.u32 v.c (bits BinOp.or IntKind.u32 v.a v.b))) % 4294967296 := ⟨_, rfl⟩
              rw [← hq]
              have HQ := Bx.mk hq; clear hq
              go_roundg (64 - k - 1)
              case measure => have := hg.out; omega
              case rel =>
                refine ⟨k + 1, ⟨(p + q) % 4294967296, v.a, v.b, v.c, (v.d + p) % 4294967296, v.e, v.f, v.g⟩, rfl, rfl, rfl, rfl, rfl, rfl, rfl, rfl, by go_num, by omega, .mk (by omega), .mk ?_, hK9, hW9, F9⟩
                show _ = rnd (RN (WN l 48) s k) (KK.getD k 0) ((WN l 48).getD k 0)
                rw [← hv.out, ← HX.out.1, ← HX.out.2, rnd, HP.out, HQ.out]
                rfl
            · obtain rfl : k = 64 := by omega
              clear hg hlt hk hKK hW
              have hs := hF.out.2.1
              obtain ⟨d0, d1, d2, d3, d4, d5, d6, d7⟩ := hs.s8
              clear hs
              have Zr := Bx.mk hF.out.2.2
              have hbs : ∀ W, (Instr.build 184 #[(0, .int .u32 ((s.a + v.a) % 4294967296)), (1, .int .u32 ((s.b + v.b) % 4294967296)), (2, .int .u32 ((s.c + v.c) % 4294967296)), (3, .int .u32 ((s.d + v.d) % 4294967296)), (4, .int .u32 ((s.e + v.e) % 4294967296)), (5, .int .u32 ((s.f + v.f) % 4294967296)), (6, .int .u32 ((s.g + v.g) % 4294967296)), (7, .int .u32 ((s.h + v.h) % 4294967296))]).run Tryz.prog W = .ok (.agg ((add8 s v).l.map (.int .u32)).toArray) W := fun W => by kernel_rfl
              go_wp2_with (first | (refine wpList_bldS rfl 184 _ rfl #[(0, .int .u32 ((s.a + v.a) % 4294967296)), (1, .int .u32 ((s.b + v.b) % 4294967296)), (2, .int .u32 ((s.c + v.c) % 4294967296)), (3, .int .u32 ((s.d + v.d) % 4294967296)), (4, .int .u32 ((s.e + v.e) % 4294967296)), (5, .int .u32 ((s.f + v.f) % 4294967296)), (6, .int .u32 ((s.g + v.g) % 4294967296)), (7, .int .u32 ((s.h + v.h) % 4294967296))] (by kernel_rfl) _ (hbs _) ?_) | (refine wpList_stB rowT_s8 rfl (.tmp 4) (.tmp 190) rfl (w.heap.size + 1) rfl .u32 (add8 s v).l rfl rfl (List.replicate 8 0) Zr.out rfl ?_))
              intro wy by1 gy
              have HB := Bx.mk (Below.grown hF.out.1 gy hF.out.1.size (by intro q hq; cases hq; omega))
              have HR := Bx.mk by1
              clear gy by1 Zr hF d0 d1 d2 d3 d4 d5 d6 d7 hbs
              go_wp2_with fail
              (try simp only [Exit.inBlock, Exit.then])
              refine bodyPost_ret (results_oneS rowT_s8 rfl _ _ (w.heap.size + 1) ((add8 s v).l.map (.int .u32)) _ rfl (range_blk HR.out) rfl rfl) rfl ?_
              refine ⟨?_, HB.out⟩
              rw [absorb, ← hv.out]
end Go.Proofs.YtjbojoeafdkkeaaGreatDoor

namespace Go.Proofs.YtjbojoeafdkkeaaGreatDoor
open Go Go.RowKit Go.Lib

theorem setFrom_mid : ∀ (xs pre ys post : List Int), ys.length = xs.length → setFrom (pre ++ (ys ++ post)) pre.length xs = pre ++ (xs ++ post)
  | [], pre, ys, post, h => by
    have : ys = [] := List.eq_nil_of_length_eq_zero (by simpa using h)
    subst this
    rfl
  | x :: xs, pre, [], post, h => by simp at h
  | x :: xs, pre, y :: ys, post, h => by
    have ih := setFrom_mid xs (pre ++ [x]) ys post (by simpa using h)
    have e1 : (pre ++ (y :: ys ++ post)).set pre.length x = (pre ++ [x]) ++ (ys ++ post) := by
      rw [List.set_append_right _ _ (Nat.le_refl _)]
      simp
    rw [setFrom, e1]
    rw [show pre.length + 1 = (pre ++ [x]).length by simp]
    rw [ih]
    simp
theorem put8_mid (pre ys post : List Int) (n : Int) (h : ys.length = 8) : put8 (pre ++ (ys ++ post)) pre.length n = pre ++ (be8 n ++ post) := by
  match ys, h with
  | [a, b, c, d, e, f, g, k], _ =>
    unfold put8 be8
    have s := fun (l : List Int) (i : Nat) (x : Int) => (List.set_append_right (pre.length + i) x (s := pre) (t := l) (Nat.le_add_right _ _))
    have s0 := fun (l : List Int) (x : Int) => (List.set_append_right pre.length x (s := pre) (t := l) (Nat.le_refl _))
    simp only [s, s0, Nat.add_sub_cancel_left, Nat.sub_self]
    rfl

/-- How many zeros stand behind the mark. -/
def zc (n : Nat) : Nat := (119 - n % 64) % 64
def padL (l : List Int) : List Int := l ++ (128 :: (List.replicate (zc l.length) 0 ++ be8 ((l.length : Int) * 8)))
theorem padL_len (l : List Int) : (padL l).length = 64 * (l.length / 64 + 1 + if l.length % 64 ≤ 55 then 0 else 1) := by
  unfold padL zc
  simp only [List.length_append, List.length_cons, List.length_replicate, be8_len]
  split <;> omega
theorem rep_split (a b c : Nat) (h : a = b + c) : (List.replicate a (0 : Int)) = List.replicate b 0 ++ List.replicate c 0 := by
  rw [h, List.replicate_append_replicate]
theorem lastL_eq (rest : List Int) (o : Nat) (n : Int) (hr : rest.length ≤ 63) (ho : rest.length + 1 ≤ o) (ho2 : o + 8 ≤ 128) :
    lastL rest o n = (rest ++ 128 :: List.replicate (o - rest.length - 1) 0) ++ (be8 (n * 8) ++ List.replicate (120 - o) 0) := by
  unfold lastL
  have e1 : setFrom (List.replicate 128 0) 0 rest = rest ++ List.replicate (128 - rest.length) 0 := by
    have := setFrom_mid rest [] (List.replicate rest.length 0) (List.replicate (128 - rest.length) 0) (by simp)
    rw [List.replicate_append_replicate, show rest.length + (128 - rest.length) = 128 by omega] at this
    simpa using this
  have e2 : (rest ++ List.replicate (128 - rest.length) (0 : Int)).set rest.length 128 = rest ++ 128 :: List.replicate (127 - rest.length) 0 := by
    rw [show 128 - rest.length = (127 - rest.length) + 1 by omega, List.replicate_succ, List.set_append_right _ _ (Nat.le_refl _)]
    simp
  rw [e1, e2]
  have e3 : rest ++ 128 :: List.replicate (127 - rest.length) (0 : Int) = (rest ++ 128 :: List.replicate (o - rest.length - 1) 0) ++ (List.replicate 8 0 ++ List.replicate (120 - o) 0) := by
    rw [rep_split (127 - rest.length) (o - rest.length - 1) (8 + (120 - o)) (by omega), ← List.replicate_append_replicate]
    simp
  rw [e3]
  have hl : (rest ++ 128 :: List.replicate (o - rest.length - 1) (0 : Int)).length = o := by simp; omega
  have := put8_mid (rest ++ 128 :: List.replicate (o - rest.length - 1) 0) (List.replicate 8 0) (List.replicate (120 - o) 0) (n * 8) (by simp)
  rw [hl] at this
  exact this
theorem absN_congr (s : S8) (l m : List Int) : ∀ k, (∀ j, j < k → blk64 l (64 * j) = blk64 m (64 * j)) → absN s l k = absN s m k
  | 0, _ => rfl
  | k + 1, h => by
    rw [absN, absN, absN_congr s l m k (fun j hj => h j (by omega)), h k (by omega)]
theorem pad_rest (l : List Int) : padL l = l.take (64 * (l.length / 64)) ++ (l.drop (64 * (l.length / 64)) ++ (128 :: (List.replicate (zc l.length) 0 ++ be8 ((l.length : Int) * 8)))) := by
  unfold padL
  rw [← List.append_assoc, List.take_append_drop]
theorem sum_pad (l : List Int) : absN iv (padL l) ((padL l).length / 64) = sumS l := by
  have hq : 64 * (l.length / 64) ≤ l.length := by omega
  have hrl : (l.drop (64 * (l.length / 64))).length = l.length % 64 := by rw [List.length_drop]; omega
  have htl : (l.take (64 * (l.length / 64))).length = 64 * (l.length / 64) := by rw [List.length_take]; omega
  have h0 : absN iv (padL l) (l.length / 64) = absN iv l (l.length / 64) := by
    refine absN_congr iv _ _ _ fun j hj => ?_
    unfold blk64 padL
    rw [List.drop_append_of_le_length (by omega), List.take_append_of_le_length (by rw [List.length_drop]; omega)]
  have hd : ∀ k, (padL l).drop (64 * (l.length / 64 + k)) = (l.drop (64 * (l.length / 64)) ++ (128 :: (List.replicate (zc l.length) 0 ++ be8 ((l.length : Int) * 8)))).drop (64 * k) := by
    intro k
    rw [pad_rest, List.drop_append, htl, List.drop_eq_nil_of_le (by rw [htl]; omega), List.nil_append]
    congr 1
    omega
  unfold sumS
  rw [hrl]
  by_cases hr : 55 < l.length % 64
  · rw [if_pos hr]
    have hz : zc l.length = 119 - l.length % 64 := by unfold zc; omega
    have hk : (padL l).length / 64 = l.length / 64 + 1 + 1 := by rw [padL_len, if_neg (by omega)]; omega
    have hlast := lastL_eq (l.drop (64 * (l.length / 64))) 120 (l.length : Int) (by omega) (by omega) (by omega)
    rw [hrl] at hlast
    have hb0 : blk64 (padL l) (64 * (l.length / 64)) = blk64 (lastL (l.drop (64 * (l.length / 64))) 120 (l.length : Int)) 0 := by
      have := hd 0
      rw [Nat.add_zero] at this
      unfold blk64
      rw [this, hlast, hz, show 120 - l.length % 64 - 1 = 119 - l.length % 64 by omega]
      simp
    have hb1 : blk64 (padL l) (64 * (l.length / 64 + 1)) = blk64 (lastL (l.drop (64 * (l.length / 64))) 120 (l.length : Int)) 64 := by
      have := hd 1
      unfold blk64
      rw [this, hlast, hz, show 120 - l.length % 64 - 1 = 119 - l.length % 64 by omega]
      simp
    rw [hk, absN, absN, h0, hb0, hb1]
  · rw [if_neg hr]
    have hz : zc l.length = 55 - l.length % 64 := by unfold zc; omega
    have hk : (padL l).length / 64 = l.length / 64 + 1 := by rw [padL_len, if_pos (by omega)]; omega
    have hlast := lastL_eq (l.drop (64 * (l.length / 64))) 56 (l.length : Int) (by omega) (by omega) (by omega)
    rw [hrl] at hlast
    have hb0 : blk64 (padL l) (64 * (l.length / 64)) = blk64 (lastL (l.drop (64 * (l.length / 64))) 56 (l.length : Int)) 0 := by
      have := hd 0
      rw [Nat.add_zero] at this
      unfold blk64
      rw [this, hlast, hz, show 56 - l.length % 64 - 1 = 55 - l.length % 64 by omega]
      have hl : (l.drop (64 * (l.length / 64)) ++ 128 :: List.replicate (55 - l.length % 64) (0 : Int) ++ be8 ((l.length : Int) * 8)).length = 64 := by
        rw [List.length_append, List.length_append, hrl, be8_len, List.length_cons, List.length_replicate]; omega
      have hl2 : (l.drop (64 * (l.length / 64)) ++ 128 :: (List.replicate (55 - l.length % 64) (0 : Int) ++ be8 ((l.length : Int) * 8))).length = 64 := by
        simpa [Nat.add_assoc] using hl
      rw [Nat.mul_zero, List.drop_zero, List.drop_zero, List.take_of_length_le (by omega)]
      rw [← List.append_assoc, List.take_append_of_le_length (by omega), List.take_of_length_le (by omega)]
      simp
    rw [hk, absN, h0, hb0]
end Go.Proofs.YtjbojoeafdkkeaaGreatDoor

namespace Go.Proofs.YtjbojoeafdkkeaaGreatDoor
open Go Go.RowKit Go.Lib

/-- A slice of bytes of this call's own. -/
def OB (w : World) (v : Value) (l : List Int) (W : World) : Prop := Bytes W v l ∧ Below w.heap.size w W ∧ ∀ k, v.ownBlock = some k → w.heap.size ≤ k
theorem OB.app {w W W' : World} {v v' : Value} {l l' : List Int} (h : OB w v l W) (o : Obj) (hb : Bytes W' v' l') (hs : Since (W.alloc o) v W' v') : OB w v' l' W' :=
  ⟨hb, Below.grown (h.2.1.alloc h.2.1.size o) hs.grown (by rw [World.size_alloc]; have := h.2.1.size; omega) h.2.2, fun k hk => by
    rcases hs.near with e | e
    · rw [e] at hk; exact h.2.2 k hk
    · have := e k hk; rw [World.size_alloc] at this; have := h.2.1.size; omega⟩
theorem OB.slice {w W : World} {v : Value} {l : List Int} (h : OB w v l W) (h0 : 0 < l.length) : ∃ g c, v = .slice (some ⟨g, 0, none⟩) l.length c ∧ w.heap.size ≤ g := by
  obtain ⟨g, c, e, _, _, _, _⟩ := slice_of_bytes h.1 h0
  subst e
  exact ⟨g, c, rfl, h.2.2 g rfl⟩

set_option maxHeartbeats 4000000 in
set_option maxRecDepth 100000 in
theorem rpadded_c (b o cap : Nat) (l : List Int) (w : World) (hu : U8 w b o l) (hb : b < w.heap.size) (h0 : 0 < l.length) (hl : l.length ≤ 90000) :
    Calls Tryz.prog 183 #[.slice (some ⟨b, o, none⟩) l.length cap] w fun e w' => ∃ v, e = .returned v ∧ OB w v (padL l) w' := by
  have NU := Bx.mk (news_of_u8 (show U8 (w.alloc (.cells #[] 5)) b o l from fun i hi => (World.cell?_of_block (w := w) (a := ⟨b, o + i, none⟩) (Below.heap_alloc _ _ _ hb)).trans (hu i hi)))
  clear hu
  obtain ⟨n, hn⟩ : ∃ n, n = l.length := ⟨_, rfl⟩
  have HN := Bx.mk hn
  rw [← hn] at h0 hl ⊢
  clear hn
  go_enter Tryz.func183, Tryz.ntmps183
  go_wp2_with (at_builtin; go_must (refine wpList_appFull8 rfl (.tmp 6) (.tmp 7) rfl ⟨w.heap.size, 0, none⟩ 0 [] rfl rfl (fun j hj => absurd hj (Nat.not_lt_zero j)) ⟨b, o, none⟩ n cap l rfl HN.out.symm h0 NU.out (by simp; omega) ?_))
  intro v1 w1 hb1 hg1 ho1
  have hb1 : Bytes w1 v1 l := by simpa using hb1
  have ho2 : v1.ownBlock = some (w.heap.size + 1) := by simpa using ho1
  have HO1 : Bx (OB w v1 l w1) := .mk ⟨hb1, Below.grown ((Below.refl w.heap.size w).alloc (Nat.le_refl _) (.cells #[] 5)) hg1 (by simp) (fun q hq => by cases hq), fun k hk => by rw [ho2] at hk; cases hk; omega⟩
  clear ho2
  clear hb1 hg1 ho1 NU
  have HL1 : Bx (l.length + 1 ≤ 1000000) := .mk (by rw [← HN.out]; omega)
  go_wp2_with (at_builtin; go_must (refine wpList_app8 rfl (.tmp 8) (.tmp 9) rfl v1 l rfl ?c1 ⟨w1.heap.size, 0, none⟩ 1 1 [128] rfl rfl (by omega) (one_new _ _ _) HL1.out ?_))
  case c1 => exact HO1.out.1.alloc _
  intro v2 w2 hb2 hs2
  have HO2 := Bx.mk (HO1.out.app _ hb2 hs2)
  clear hb2 hs2 HO1 HL1
  go_wp2_with fail
  go_loopg [3] (zc n) (fun g s3 wr => ∃ (j : Nat), Bx (j + g = zc n) ∧ Bx (OB w s3 (l ++ [128] ++ List.replicate j 0) wr))
  case atStart => exact ⟨0, .mk (by omega), .mk (by simpa using HO2.out)⟩
  case round =>
    clear HO2
    obtain ⟨j, hg, hO⟩ := hrel
    have hlen : (l ++ [128] ++ List.replicate j (0 : Int)).length = n + 1 + j := by simp [HN.out]; omega
    obtain ⟨g, c, rfl, hgw⟩ := hO.out.slice (by rw [hlen]; omega)
    rw [hlen] at hO ⊢
    have hj := hg.out
    have hzc : zc n = (119 - n % 64) % 64 := rfl
    obtain ⟨N, hN⟩ : ∃ N, N = n + 1 + j := ⟨_, rfl⟩
    rw [← hN] at hO ⊢
    have HNN := Bx.mk hN
    have hN2 : N ≤ 90100 := by omega
    by_cases hend : j = zc n
    · have h56 : (N : Int) % 64 = 56 := by omega
      have h56b : ((N : Int) % 64 != 56) = false := by rw [h56]; rfl
      clear h56
      have hO3 : Bx (OB w (.slice (some ⟨g, 0, none⟩) N c) (l ++ [128] ++ List.replicate (zc n) 0) wr) := by rw [← hend]; exact hO
      clear hO hend hj hzc hg hN
      obtain ⟨P, hP⟩ : ∃ P, P = l ++ [128] ++ List.replicate (zc n) 0 := ⟨_, rfl⟩
      rw [← hP] at hO3
      have HP := Bx.mk hP
      have HPL : Bx (P.length ≤ 90200) := .mk (by rw [hP]; simp [← HN.out]; unfold zc; omega)
      clear hP hlen
      go_wp2_with fail
      obtain ⟨m, hm⟩ : ∃ m, m = (n : Int) * 8 := ⟨_, rfl⟩
      rw [← hm]
      have HM := Bx.mk hm
      clear hm
      refine wp_loop_rounds 9 ?_
      rw [rounds_succ]
      have HL0 : Bx ((P).length + 1 ≤ 1000000) := .mk (by simp; have := HPL.out; omega)
      go_wp2_with (at_builtin; go_must (refine wpList_app8 rfl (.tmp 26) (.tmp 32) rfl (.slice (some ⟨g, 0, none⟩) N c) (P) rfl ?c1 ⟨wr.heap.size, 0, none⟩ 1 1 [m / 72057594037927936 % 256] rfl rfl (by omega) (one_new _ _ _) HL0.out ?_))
      case c1 => exact hO3.out.1.alloc _
      intro u0 x0 hb0 hs0
      have O0 := Bx.mk (hO3.out.app _ hb0 hs0)
      clear hb0 hs0 hO3 HL0
      go_wp2_with fail
      rw [rounds_succ]
      have HL1 : Bx ((P ++ [m / 72057594037927936 % 256]).length + 1 ≤ 1000000) := .mk (by simp; have := HPL.out; omega)
      go_wp2_with (at_builtin; go_must (refine wpList_app8 rfl (.tmp 26) (.tmp 32) rfl (u0) (P ++ [m / 72057594037927936 % 256]) rfl ?c1 ⟨x0.heap.size, 0, none⟩ 1 1 [m / 281474976710656 % 256] rfl rfl (by omega) (one_new _ _ _) HL1.out ?_))
      case c1 => exact O0.out.1.alloc _
      intro u1 x1 hb1 hs1
      have O1 := Bx.mk (O0.out.app _ hb1 hs1)
      clear hb1 hs1 O0 HL1
      go_wp2_with fail
      rw [rounds_succ]
      have HL2 : Bx ((P ++ [m / 72057594037927936 % 256, m / 281474976710656 % 256]).length + 1 ≤ 1000000) := .mk (by simp; have := HPL.out; omega)
      go_wp2_with (at_builtin; go_must (refine wpList_app8 rfl (.tmp 26) (.tmp 32) rfl (u1) (P ++ [m / 72057594037927936 % 256, m / 281474976710656 % 256]) rfl ?c1 ⟨x1.heap.size, 0, none⟩ 1 1 [m / 1099511627776 % 256] rfl rfl (by omega) (one_new _ _ _) HL2.out ?_))
      case c1 => exact O1.out.1.alloc _
      intro u2 x2 hb2 hs2
      have O2 := Bx.mk (O1.out.app _ hb2 hs2)
      clear hb2 hs2 O1 HL2
      go_wp2_with fail
      rw [rounds_succ]
      have HL3 : Bx ((P ++ [m / 72057594037927936 % 256, m / 281474976710656 % 256, m / 1099511627776 % 256]).length + 1 ≤ 1000000) := .mk (by simp; have := HPL.out; omega)
      go_wp2_with (at_builtin; go_must (refine wpList_app8 rfl (.tmp 26) (.tmp 32) rfl (u2) (P ++ [m / 72057594037927936 % 256, m / 281474976710656 % 256, m / 1099511627776 % 256]) rfl ?c1 ⟨x2.heap.size, 0, none⟩ 1 1 [m / 4294967296 % 256] rfl rfl (by omega) (one_new _ _ _) HL3.out ?_))
      case c1 => exact O2.out.1.alloc _
      intro u3 x3 hb3 hs3
      have O3 := Bx.mk (O2.out.app _ hb3 hs3)
      clear hb3 hs3 O2 HL3
      go_wp2_with fail
      rw [rounds_succ]
      have HL4 : Bx ((P ++ [m / 72057594037927936 % 256, m / 281474976710656 % 256, m / 1099511627776 % 256, m / 4294967296 % 256]).length + 1 ≤ 1000000) := .mk (by simp; have := HPL.out; omega)
      go_wp2_with (at_builtin; go_must (refine wpList_app8 rfl (.tmp 26) (.tmp 32) rfl (u3) (P ++ [m / 72057594037927936 % 256, m / 281474976710656 % 256, m / 1099511627776 % 256, m / 4294967296 % 256]) rfl ?c1 ⟨x3.heap.size, 0, none⟩ 1 1 [m / 16777216 % 256] rfl rfl (by omega) (one_new _ _ _) HL4.out ?_))
      case c1 => exact O3.out.1.alloc _
      intro u4 x4 hb4 hs4
      have O4 := Bx.mk (O3.out.app _ hb4 hs4)
      clear hb4 hs4 O3 HL4
      go_wp2_with fail
      rw [rounds_succ]
      have HL5 : Bx ((P ++ [m / 72057594037927936 % 256, m / 281474976710656 % 256, m / 1099511627776 % 256, m / 4294967296 % 256, m / 16777216 % 256]).length + 1 ≤ 1000000) := .mk (by simp; have := HPL.out; omega)
      go_wp2_with (at_builtin; go_must (refine wpList_app8 rfl (.tmp 26) (.tmp 32) rfl (u4) (P ++ [m / 72057594037927936 % 256, m / 281474976710656 % 256, m / 1099511627776 % 256, m / 4294967296 % 256, m / 16777216 % 256]) rfl ?c1 ⟨x4.heap.size, 0, none⟩ 1 1 [m / 65536 % 256] rfl rfl (by omega) (one_new _ _ _) HL5.out ?_))
      case c1 => exact O4.out.1.alloc _
      intro u5 x5 hb5 hs5
      have O5 := Bx.mk (O4.out.app _ hb5 hs5)
      clear hb5 hs5 O4 HL5
      go_wp2_with fail
      rw [rounds_succ]
      have HL6 : Bx ((P ++ [m / 72057594037927936 % 256, m / 281474976710656 % 256, m / 1099511627776 % 256, m / 4294967296 % 256, m / 16777216 % 256, m / 65536 % 256]).length + 1 ≤ 1000000) := .mk (by simp; have := HPL.out; omega)
      go_wp2_with (at_builtin; go_must (refine wpList_app8 rfl (.tmp 26) (.tmp 32) rfl (u5) (P ++ [m / 72057594037927936 % 256, m / 281474976710656 % 256, m / 1099511627776 % 256, m / 4294967296 % 256, m / 16777216 % 256, m / 65536 % 256]) rfl ?c1 ⟨x5.heap.size, 0, none⟩ 1 1 [m / 256 % 256] rfl rfl (by omega) (one_new _ _ _) HL6.out ?_))
      case c1 => exact O5.out.1.alloc _
      intro u6 x6 hb6 hs6
      have O6 := Bx.mk (O5.out.app _ hb6 hs6)
      clear hb6 hs6 O5 HL6
      go_wp2_with fail
      rw [rounds_succ]
      have HL7 : Bx ((P ++ [m / 72057594037927936 % 256, m / 281474976710656 % 256, m / 1099511627776 % 256, m / 4294967296 % 256, m / 16777216 % 256, m / 65536 % 256, m / 256 % 256]).length + 1 ≤ 1000000) := .mk (by simp; have := HPL.out; omega)
      go_wp2_with (at_builtin; go_must (refine wpList_app8 rfl (.tmp 26) (.tmp 32) rfl (u6) (P ++ [m / 72057594037927936 % 256, m / 281474976710656 % 256, m / 1099511627776 % 256, m / 4294967296 % 256, m / 16777216 % 256, m / 65536 % 256, m / 256 % 256]) rfl ?c1 ⟨x6.heap.size, 0, none⟩ 1 1 [m % 256] rfl rfl (by omega) (one_new _ _ _) HL7.out ?_))
      case c1 => exact O6.out.1.alloc _
      intro u7 x7 hb7 hs7
      have O7 := Bx.mk (O6.out.app _ hb7 hs7)
      clear hb7 hs7 O6 HL7
      go_wp2_with fail
      rw [rounds_succ]
      go_wp2_with fail
      go_ret
      refine ⟨u7, rfl, ?_⟩
      have := O7.out
      rw [HP.out, HM.out] at this
      have e : padL l = l ++ [128] ++ List.replicate (zc n) 0 ++ [(n : Int) * 8 / 72057594037927936 % 256] ++ [(n : Int) * 8 / 281474976710656 % 256] ++ [(n : Int) * 8 / 1099511627776 % 256] ++ [(n : Int) * 8 / 4294967296 % 256] ++ [(n : Int) * 8 / 16777216 % 256] ++ [(n : Int) * 8 / 65536 % 256] ++ [(n : Int) * 8 / 256 % 256] ++ [(n : Int) * 8 % 256] := by
        unfold padL be8
        rw [← HN.out]
        simp
      rw [e]
      simpa using this
    · have h56 : ¬ (N : Int) % 64 = 56 := by omega
      have h56b : ((N : Int) % 64 != 56) = true := by simpa using h56
      clear h56
      have hL : Bx ((l ++ [128] ++ List.replicate j (0 : Int)).length + 1 ≤ 1000000) := .mk (by rw [hlen]; omega)
      have hg1 : 1 ≤ gk := by omega
      obtain ⟨g', rfl⟩ : ∃ g', gk = g' + 1 := ⟨gk - 1, by omega⟩
      have hg2 := Bx.mk (show j + 1 + g' = zc n by omega)
      clear hj hzc hend hN hlen hg hg1
      go_wp2_with (at_builtin; go_must (refine wpList_app8 rfl (.tmp 15) (.tmp 16) rfl (.slice (some ⟨g, 0, none⟩) N c) (l ++ [128] ++ List.replicate j 0) rfl ?c1 ⟨wr.heap.size, 0, none⟩ 1 1 [0] rfl rfl (by omega) (one_new _ _ _) hL.out ?_))
      case c1 => exact hO.out.1.alloc _
      intro u x hb2 hs2
      have O2 := Bx.mk (hO.out.app _ hb2 hs2)
      clear hb2 hs2 hO hL
      go_wp2_with fail
      go_roundg g'
      case measure => omega
      case rel => exact ⟨j + 1, hg2, .mk (by rw [show l ++ [128] ++ List.replicate (j + 1) (0 : Int) = l ++ 128 :: (List.replicate j 0 ++ [0]) by rw [rep_split (j + 1) j 1 rfl]; simp]; simpa using O2.out)⟩
end Go.Proofs.YtjbojoeafdkkeaaGreatDoor

namespace Go.Proofs.YtjbojoeafdkkeaaGreatDoor
open Go Go.RowKit Go.Lib

theorem bytes_one (W : World) (x : Int) : Bytes (W.alloc (.cells #[.int .u8 x] 5)) (.slice (some ⟨W.heap.size, 0, none⟩) 1 1) [x] := by
  refine ⟨rfl, .inr ⟨W.heap.size, 1, #[.int .u8 x], rfl, Nat.zero_le _, World.alloc_heap_new W _, Nat.le_refl _, by unfold maxLen; omega, rfl, rfl⟩⟩
theorem OB.one (w : World) (x : Int) : OB w (.slice (some ⟨w.heap.size, 0, none⟩) 1 1) [x] (w.alloc (.cells #[.int .u8 x] 5)) :=
  ⟨bytes_one w x, (Below.refl _ _).alloc (Nat.le_refl _) _, fun k hk => by cases hk; exact Nat.le_refl _⟩
theorem OB.one' {w W : World} (hb : Below w.heap.size w W) (x : Int) : OB w (.slice (some ⟨W.heap.size, 0, none⟩) 1 1) [x] (W.alloc (.cells #[.int .u8 x] 5)) :=
  ⟨bytes_one W x, hb.alloc hb.size _, fun k hk => by cases hk; exact hb.size⟩
theorem OB.below {w W W' : World} {v : Value} {l : List Int} (h : OB w v l W) (hb : Below W.heap.size W W') : OB w v l W' :=
  ⟨bytes_below h.1 hb, below_step h.2.1 hb (Nat.le_refl _), h.2.2⟩
theorem OB.since {w W W' : World} {v v' : Value} {l l' : List Int} (h : OB w v l W) (hb : Bytes W' v' l') (hs : Since W v W' v') : OB w v' l' W' :=
  ⟨hb, Below.grown h.2.1 hs.grown h.2.1.size h.2.2, fun k hk => by
    rcases hs.near with e | e
    · rw [e] at hk; exact h.2.2 k hk
    · have := e k hk; have := h.2.1.size; omega⟩
theorem OB.full {w W W' : World} {v' : Value} {l' : List Int} (hB : Below w.heap.size w W) (hb : Bytes W' v' l') (hg : W.grownBy W' none) (ho : v'.ownBlock = some W.heap.size) : OB w v' l' W' :=
  ⟨hb, Below.grown hB hg hB.size (fun q hq => by cases hq), fun k hk => by rw [ho] at hk; cases hk; exact hB.size⟩

theorem numB_pos (f : Nat) (u : Int) : 0 < (numB (f + 1) u).length := by
  rw [numB]
  split <;> simp
set_option maxHeartbeats 4000000 in
set_option maxRecDepth 100000 in
theorem rnumeral_f : ∀ (f : Nat) (u : Int) (w : World), f ≤ 20 → 0 ≤ u → u < 18446744073709551616 → u < 128 ^ f * 2 →
    Calls Tryz.prog 189 #[.int .u64 u] w fun e w' => ∃ v, e = .returned v ∧ OB w v (numB (f + 1) u) w' := by
  intro f
  induction f with
  | zero =>
    intro u w hf h0 h1 h2
    have h3 : u < 128 := by omega
    rw [numB, if_neg (by omega)]
    go_enter Tryz.func189, Tryz.ntmps189
    go_wp2_with fail
    go_ret
    exact ⟨_, rfl, OB.one w u⟩
  | succ f ih =>
    intro u w hf h0 h1 h2
    by_cases hge : 128 ≤ u
    · rw [numB, if_pos hge]
      have hd0 : 0 ≤ u / 128 := by omega
      have hd1 : u / 128 < 18446744073709551616 := by omega
      have hf1 : f ≤ 20 := by omega
      have IH := Bx.mk (fun w => ih (u / 128) w hf1 hd0 hd1 (numB_bound h2))
      have hlen := numB_len (f + 1) (u / 128)
      have O0 := Bx.mk (OB.one w (u % 128 + 128))
      clear ih h2
      go_enter Tryz.func189, Tryz.ntmps189
      go_wp2_with fail
      refine (IH.out _).mono ?_
      rintro e w1 ⟨v, rfl, ho⟩
      have O1 := Bx.mk (O0.out.below ho.2.1)
      have hp := numB_pos f (u / 128)
      obtain ⟨g, c, e1, hc1, hc2, hu8, hg⟩ := slice_of_bytes ho.1 hp
      subst e1
      have N2 := Bx.mk (news_of_u8 hu8)
      have N1 := Bx.mk (news_of_u8 (u8_of_bytes O1.out.1))
      obtain ⟨m, hm⟩ : ∃ m, m = numB (f + 1) (u / 128) := ⟨_, rfl⟩
      rw [← hm] at hp hlen N2 ⊢
      obtain ⟨N, hN⟩ : ∃ N, N = m.length := ⟨_, rfl⟩
      rw [← hN] at hp hlen ⊢
      have HN := Bx.mk hN
      have HM := Bx.mk hm
      clear hm hN ho hc1 hc2 hu8 hg O0 IH
      go_wp2_with (at_builtin; go_must (refine wpList_appFull8 rfl (.tmp 12) (.tmp 15) rfl ⟨w.heap.size, 0, none⟩ 1 [u % 128 + 128] rfl rfl N1.out ⟨g, 0, none⟩ N c m rfl HN.out.symm hp N2.out (by simp; omega) ?_))
      intro v2 w2 hb2 hg2 ho2
      have O2 := OB.full (w := w) O1.out.2.1 hb2 hg2 ho2
      clear hb2 hg2 ho2
      go_wp2_with fail
      go_ret
      exact ⟨v2, rfl, by rw [← HM.out]; simpa using O2⟩
    · rw [numB, if_neg hge]
      have h3 : u < 128 := by omega
      clear ih h2
      go_enter Tryz.func189, Tryz.ntmps189
      go_wp2_with fail
      go_ret
      exact ⟨_, rfl, OB.one w u⟩
theorem rnumeral_c (u : Int) (w : World) (h0 : 0 ≤ u) (h1 : u < 18446744073709551616) :
    Calls Tryz.prog 189 #[.int .u64 u] w fun e w' => ∃ v, e = .returned v ∧ OB w v (numB 10 u) w' := rnumeral_f 9 u w (by decide) h0 h1 (by omega)
theorem runsigned_c (n : Int) (w : World) (h0 : -9223372036854775808 ≤ n) (h1 : n ≤ 9223372036854775807) :
    Calls Tryz.prog 190 #[.int .i64 n] w fun e w' => e = .returned (.int .u64 (zig n)) ∧ w = w' := by
  by_cases hn : 0 ≤ n
  · have hz : zig n = 2 * n := by unfold zig; rw [if_pos hn]
    rw [hz]; clear hz
    go_enter Tryz.func190, Tryz.ntmps190
    go_wp2_with fail
    go_ret
    exact ⟨rfl, rfl⟩
  · have hz : zig n = 2 * (-(n + 1)) + 1 := by unfold zig; rw [if_neg hn]; omega
    rw [hz]; clear hz
    have hn2 : n < 0 := by omega
    go_enter Tryz.func190, Tryz.ntmps190
    go_wp2_with fail
    go_ret
    exact ⟨rfl, rfl⟩
set_option maxHeartbeats 4000000 in
set_option maxRecDepth 100000 in
theorem rencI_c (n : Int) (w : World) (h0 : -9223372036854775808 ≤ n) (h1 : n ≤ 9223372036854775807) :
    Calls Tryz.prog 157 #[vInt n] w fun e w' => ∃ v, e = .returned v ∧ OB w v (encI n) w' := by
  have HU := Bx.mk (fun w => runsigned_c n w h0 h1)
  have hz := zig_range h0 h1
  have HN := Bx.mk (fun w => rnumeral_c (zig n) w hz.1 hz.2)
  have B0 := Bx.mk ((Below.refl w.heap.size w).alloc (Nat.le_refl _) (.cells #[.int .i64 1, .int .i64 n, .string ⟨#[]⟩, .slice none 0 0] 59))
  have O0 := Bx.mk (OB.one' (w := w) (W := w.alloc (.cells #[.int .i64 1, .int .i64 n, .string ⟨#[]⟩, .slice none 0 0] 59)) B0.out 1)
  have hlen := numB_len 10 (zig n)
  have hp := numB_pos 9 (zig n)
  have HE := Bx.mk (show encI n = 1 :: numB 10 (zig n) from rfl)
  obtain ⟨m, hm⟩ : ∃ m, m = numB 10 (zig n) := ⟨_, rfl⟩
  rw [← hm] at HN hlen hp HE
  obtain ⟨z, hzz⟩ : ∃ z, z = zig n := ⟨_, rfl⟩
  rw [← hzz] at HU HN
  rw [HE.out]
  clear hm hzz hz B0 HE
  go_enter Tryz.func157, Tryz.ntmps157
  go_wp2_with fail
  refine (HU.out _).mono ?_
  rintro e w1 ⟨rfl, rfl⟩
  go_wp2_with fail
  refine (HN.out _).mono ?_
  rintro e w2 ⟨v, rfl, ho⟩
  rw [World.size_alloc] at O0
  have O1 := Bx.mk (O0.out.below ho.2.1)
  obtain ⟨g, c, e1, hc1, hc2, hu8, hg⟩ := slice_of_bytes ho.1 hp
  subst e1
  have N2 := Bx.mk (news_of_u8 hu8)
  have N1 := Bx.mk (news_of_u8 (u8_of_bytes O1.out.1))
  obtain ⟨N, hN⟩ : ∃ N, N = m.length := ⟨_, rfl⟩
  rw [← hN] at hp hlen ⊢
  have HNl := Bx.mk hN
  clear hN ho hc1 hc2 hu8 hg O0 HN HU
  go_wp2_with (at_builtin; go_must (refine wpList_appFull8 rfl (.tmp 9) (.tmp 13) rfl ⟨w.heap.size + 1, 0, none⟩ 1 [1] rfl rfl N1.out ⟨g, 0, none⟩ N c m rfl HNl.out.symm hp N2.out (by simp; omega) ?_))
  intro v2 w3 hb2 hg2 ho2
  have O2 := OB.full (w := w) O1.out.2.1 hb2 hg2 ho2
  clear hb2 hg2 ho2
  go_wp2_with fail
  go_ret
  exact ⟨v2, rfl, by simpa using O2⟩
end Go.Proofs.YtjbojoeafdkkeaaGreatDoor

namespace Go.Proofs.YtjbojoeafdkkeaaGreatDoor
open Go Go.RowKit Go.Lib

theorem rint_c (n : Int) (w : World) : Calls Tryz.prog 158 #[.int .i64 n] w fun e w' => e = .returned (vInt n) ∧ Below w.heap.size w w' := by
  go_enter Tryz.func158, Tryz.ntmps158
  go_wp2_with fail
  refine bodyPost_ret (v := vInt n) (by simp [results, Tryz.results158, go_sem]) rfl ⟨rfl, ?_⟩
  exact (Below.refl _ _).alloc (Nat.le_refl _) _
theorem rformed_int (n : Int) (w : World) : Calls Tryz.prog 187 #[vInt n] w fun e w' => e = .returned (.bool true) ∧ Below w.heap.size w w' := by
  go_enter Tryz.func187, Tryz.ntmps187
  go_wp2_with fail
  go_ret
  exact ⟨rfl, (Below.refl _ _).alloc (Nat.le_refl _) _⟩
theorem rdepth_int (n : Int) (w : World) : Calls Tryz.prog 188 #[vInt n] w fun e w' => e = .returned (.int .i64 0) ∧ Below w.heap.size w w' := by
  go_enter Tryz.func188, Tryz.ntmps188
  go_wp2_with fail
  go_ret
  exact ⟨rfl, (Below.refl _ _).alloc (Nat.le_refl _) _⟩

/-- A list's value, boxed. -/
def LB (W : World) (B b o n cap : Nat) : Prop := W.cell? ⟨B, 0, none⟩ = some (.int .i64 3) ∧ W.cell? ⟨B, 1, none⟩ = some (.int .i64 0) ∧ W.cell? ⟨B, 2, none⟩ = some (.string ⟨#[]⟩) ∧ W.cell? ⟨B, 3, none⟩ = some (.slice (some ⟨b, o, none⟩) n cap)
def oLB (b o n cap : Nat) : Obj := .cells #[.int .i64 3, .int .i64 0, .string ⟨#[]⟩, .slice (some ⟨b, o, none⟩) n cap] 59
theorem LB.new (w : World) (b o n cap : Nat) : LB (w.alloc (oLB b o n cap)) w.heap.size b o n cap := ⟨cells_new w _ _ 0, cells_new w _ _ 1, cells_new w _ _ 2, cells_new w _ _ 3⟩
theorem LB.below {W W2 : World} {B b o n cap N : Nat} (h : LB W B b o n cap) (hb : Below N W W2) (hB : B < N) : LB W2 B b o n cap :=
  ⟨(hb.cell (p := ⟨B, _, none⟩) hB).trans h.1, (hb.cell (p := ⟨B, _, none⟩) hB).trans h.2.1, (hb.cell (p := ⟨B, _, none⟩) hB).trans h.2.2.1, (hb.cell (p := ⟨B, _, none⟩) hB).trans h.2.2.2⟩
theorem LB.grown {W W2 : World} {B b o n cap : Nat} {r : Option Nat} (h : LB W B b o n cap) (hg : W.grownBy W2 r) (hr : some B ≠ r) : LB W2 B b o n cap :=
  ⟨hg.cell h.1 hr, hg.cell h.2.1 hr, hg.cell h.2.2.1 hr, hg.cell h.2.2.2 hr⟩

set_option maxHeartbeats 4000000 in
set_option maxRecDepth 100000 in
theorem rformed_list (b o cap : Nat) (l : List Int) (hl : l.length ≤ 64) (w : World) (hb : b < w.heap.size) (hc : IntsAt w b o l) :
    Calls Tryz.prog 187 #[.agg #[.int .i64 3, .int .i64 0, .string ⟨#[]⟩, .slice (some ⟨b, o, none⟩) l.length cap]] w fun e w' => e = .returned (.bool true) ∧ Below w.heap.size w w' := by
  have HC := Bx.mk hc; clear hc
  have L0 := Bx.mk (LB.new w b o l.length cap)
  have B0 := Bx.mk ((Below.refl w.heap.size w).alloc (Nat.le_refl _) (oLB b o l.length cap))
  unfold oLB at L0 B0
  go_enter Tryz.func187, Tryz.ntmps187
  go_wp2_with fail
  go_loopg [3] l.length (fun g s3 wr => ∃ k : Nat, s3 = .int .i64 k ∧ k ≤ l.length ∧ Bx (g = l.length - k) ∧ Bx (LB wr w.heap.size b o l.length cap) ∧ Bx (Below w.heap.size w wr))
  case atStart => exact ⟨0, rfl, by omega, .mk rfl, L0, B0⟩
  case round =>
    clear L0 B0
    obtain ⟨k, rfl, hk, hg, hL, hB⟩ := hrel
    obtain ⟨z0, z1, z2, z3⟩ := id hL.out
    have hsz : w.heap.size < wr.heap.size := cell_lt z0
    by_cases hlt : k < l.length
    · obtain ⟨c0, c1, c2, c3⟩ := HC.out.below hb hB.out k hlt
      obtain ⟨v, hv⟩ : ∃ v, v = l[k] := ⟨_, rfl⟩
      rw [← hv] at c1
      clear hv
      go_wp2_with fail
      refine (rformed_int v _).mono ?_
      rintro e w2 ⟨rfl, hb2⟩
      have hL2 := Bx.mk (hL.out.below hb2 hsz)
      have hB2 := Bx.mk (below_step hB.out hb2 (Nat.le_refl _))
      clear hb2 z0 z1 z2 z3 c0 c1 c2 c3 hL hB
      go_wp2_with fail
      go_roundg (l.length - k - 1)
      case measure => have := hg.out; omega
      case rel => exact ⟨k + 1, by go_num, by omega, .mk (by omega), hL2, hB2⟩
    · obtain rfl : k = l.length := by omega
      clear hL hg
      go_wp2_with fail
      go_ret
      exact ⟨rfl, hB.out⟩
set_option maxHeartbeats 4000000 in
set_option maxRecDepth 100000 in
theorem rdepth_list (b o cap : Nat) (l : List Int) (hl : l.length ≤ 64) (w : World) (hb : b < w.heap.size) (hc : IntsAt w b o l) :
    Calls Tryz.prog 188 #[.agg #[.int .i64 3, .int .i64 0, .string ⟨#[]⟩, .slice (some ⟨b, o, none⟩) l.length cap]] w fun e w' => e = .returned (.int .i64 1) ∧ Below w.heap.size w w' := by
  have HC := Bx.mk hc; clear hc
  have L0 := Bx.mk (LB.new w b o l.length cap)
  have B0 := Bx.mk ((Below.refl w.heap.size w).alloc (Nat.le_refl _) (oLB b o l.length cap))
  unfold oLB at L0 B0
  go_enter Tryz.func188, Tryz.ntmps188
  go_wp2_with fail
  go_loopg [3, 4] l.length (fun g s3 s4 wr => ∃ k : Nat, s3 = .int .i64 0 ∧ s4 = .int .i64 k ∧ k ≤ l.length ∧ Bx (g = l.length - k) ∧ Bx (LB wr w.heap.size b o l.length cap) ∧ Bx (Below w.heap.size w wr))
  case atStart => exact ⟨0, rfl, rfl, by omega, .mk rfl, L0, B0⟩
  case round =>
    clear L0 B0
    obtain ⟨k, rfl, rfl, hk, hg, hL, hB⟩ := hrel
    obtain ⟨z0, z1, z2, z3⟩ := id hL.out
    have hsz : w.heap.size < wr.heap.size := cell_lt z0
    by_cases hlt : k < l.length
    · obtain ⟨c0, c1, c2, c3⟩ := HC.out.below hb hB.out k hlt
      obtain ⟨v, hv⟩ : ∃ v, v = l[k] := ⟨_, rfl⟩
      rw [← hv] at c1
      clear hv
      go_wp2_with fail
      refine (rdepth_int v _).mono ?_
      rintro e w2 ⟨rfl, hb2⟩
      have hL2 := Bx.mk (hL.out.below hb2 hsz)
      have hB2 := Bx.mk (below_step hB.out hb2 (Nat.le_refl _))
      clear hb2 z0 z1 z2 z3 c0 c1 c2 c3 hL hB
      go_wp2_with fail
      go_roundg (l.length - k - 1)
      case measure => have := hg.out; omega
      case rel => exact ⟨k + 1, rfl, by go_num, by omega, .mk (by omega), hL2, hB2⟩
    · obtain rfl : k = l.length := by omega
      clear hL hg
      go_wp2_with fail
      go_ret
      exact ⟨rfl, hB.out⟩
set_option maxHeartbeats 4000000 in
theorem rcodecCheck_list (b o cap : Nat) (l : List Int) (hl : l.length ≤ 64) (w : World) (hb : b < w.heap.size) (hc : IntsAt w b o l) :
    Calls Tryz.prog 156 #[.agg #[.int .i64 3, .int .i64 0, .string ⟨#[]⟩, .slice (some ⟨b, o, none⟩) l.length cap]] w fun e w' => e = .returned (.int .i64 0) ∧ Below w.heap.size w w' := by
  have HC := Bx.mk hc; clear hc
  have L0 := Bx.mk (LB.new w b o l.length cap)
  have B0 := Bx.mk ((Below.refl w.heap.size w).alloc (Nat.le_refl _) (oLB b o l.length cap))
  unfold oLB at L0 B0
  have HF := Bx.mk (fun W (hB : Below w.heap.size w W) => rformed_list b o cap l hl W (Nat.lt_of_lt_of_le hb hB.size) (HC.out.below hb hB))
  have HDp := Bx.mk (fun W (hB : Below w.heap.size w W) => rdepth_list b o cap l hl W (Nat.lt_of_lt_of_le hb hB.size) (HC.out.below hb hB))
  go_enter Tryz.func156, Tryz.ntmps156
  go_wp2_with fail
  refine (HF.out _ B0.out).mono ?_
  rintro e w2 ⟨rfl, hb2⟩
  have L2 := L0.out.below hb2 (cell_lt L0.out.1)
  have B2 := Bx.mk (below_step B0.out hb2 (Nat.le_refl _))
  obtain ⟨z0, z1, z2, z3⟩ := L2
  clear hb2 L0 B0
  go_wp2_with fail
  refine (HDp.out _ B2.out).mono ?_
  rintro e w3 ⟨rfl, hb3⟩
  have B3 := Bx.mk (below_step B2.out hb3 (Nat.le_refl _))
  clear hb3 z0 z1 z2 z3 B2
  go_wp2_with fail
  go_ret
  exact ⟨rfl, B3.out⟩
end Go.Proofs.YtjbojoeafdkkeaaGreatDoor
