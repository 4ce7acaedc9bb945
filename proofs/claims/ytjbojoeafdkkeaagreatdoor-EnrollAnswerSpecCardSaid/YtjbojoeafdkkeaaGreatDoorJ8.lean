/- digest: Sum. -/
import Derived.Test.YtjbojoeafdkkeaaGreatDoorJ7
import Derived.Deep.MidRow
set_option linter.unusedVariables false
set_option linter.unusedSimpArgs false
namespace Go.Proofs.YtjbojoeafdkkeaaGreatDoor
open Go Go.RowKit Go.Lib

def iv : S8 := ⟨1779033703, 3144134277, 1013904242, 2773480762, 1359893119, 2600822924, 528734635, 1541459225⟩
/-- A block of 64 bytes, from place o on. -/
def blk64 (l : List Int) (o : Nat) : List Int := (l.drop o).take 64
/-- The state behind k whole blocks. -/
def absN (s : S8) (l : List Int) : Nat → S8
  | 0 => s
  | k + 1 => absorb (absN s l k) (blk64 l (64 * k))

theorem Laid.ss {w : World} (h : Laid w) : w.cell? ⟨1, 0, none⟩ = some (.int .u32 1779033703) ∧ w.cell? ⟨1, 1, none⟩ = some (.int .u32 3144134277) ∧ w.cell? ⟨1, 2, none⟩ = some (.int .u32 1013904242) ∧ w.cell? ⟨1, 3, none⟩ = some (.int .u32 2773480762) ∧ w.cell? ⟨1, 4, none⟩ = some (.int .u32 1359893119) ∧ w.cell? ⟨1, 5, none⟩ = some (.int .u32 2600822924) ∧ w.cell? ⟨1, 6, none⟩ = some (.int .u32 528734635) ∧ w.cell? ⟨1, 7, none⟩ = some (.int .u32 1541459225) :=
  ⟨h.start 0 (by decide), h.start 1 (by decide), h.start 2 (by decide), h.start 3 (by decide), h.start 4 (by decide), h.start 5 (by decide), h.start 6 (by decide), h.start 7 (by decide)⟩

theorem U8.sub {w : World} {b o : Nat} {l : List Int} (h : U8 w b o l) (j : Nat) : U8 w b (o + j) (blk64 l j) := by
  intro i hi
  unfold blk64 at hi ⊢
  simp only [List.length_take, List.length_drop] at hi
  have := h (j + i) (by omega)
  rw [← Nat.add_assoc] at this
  rw [this]
  simp
theorem blk64_len {l : List Int} {j : Nat} (h : j + 64 ≤ l.length) : (blk64 l j).length = 64 := by
  unfold blk64; simp only [List.length_take, List.length_drop]; omega
theorem make128 (w : World) : (Instr.makeSlice 61 (.int .i64 64) (.int .i64 128)).run Tryz.prog w = .ok (.slice (some ⟨w.heap.size, 0, none⟩) 64 128) (w.alloc (.cells ((List.replicate 128 0).map (.int .u8)).toArray 5)) := by
  obtain ⟨i, hi, hz, hs, hby⟩ := @u8_facts
  have h := run_make (P := Tryz.prog) w 61 5 i (.int .u8 0) (by kernel_rfl) hi hz .i64 .i64 64 128 (by decide) (by decide) (by rw [hby]; decide) (by decide)
  rw [hs] at h
  rw [h]
  have e : madeCells (Value.int .u8 0).cells ((128 : Int).toNat * 1) = ((List.replicate 128 (0 : Int)).map (Value.int .u8)).toArray := by kernel_rfl
  rw [e]
  rfl

theorem setFrom_len : ∀ (xs l : List Int) (o : Nat), (setFrom l o xs).length = l.length
  | [], l, o => rfl
  | x :: xs, l, o => by rw [setFrom, setFrom_len xs, List.length_set]
/-- What is left behind the whole blocks is copied to the head of a new row. -/
theorem copy_rest (W : World) (E b o' r c2 : Nat) (l : List Int) (hr : l.length = r) (hr64 : r ≤ 64) (hE : Blk W E .u8 (List.replicate 128 0)) (hu : U8 W b o' l) :
    (Builtin.copy_ #[61, 61] 3 #[.slice (some ⟨E, 0, none⟩) 64 128, .slice (some ⟨b, o', none⟩) r c2]).run Tryz.prog W = .ok (goInt r) (W.setCells E 0 (l.map (.int .u8))) := by
  by_cases h0 : r = 0
  · subst h0
    obtain rfl : l = [] := List.eq_nil_of_length_eq_zero hr
    exact run_copy_none W _ _ _ 5 _ _ _ _ _ _ (by kernel_rfl) (by kernel_rfl) rfl
  · have h := run_copy_cells (P := Tryz.prog) W 61 61 3 5 E 0 64 128 ⟨b, o', none⟩ r c2 (l.map (.int .u8)) (by kernel_rfl) (by kernel_rfl) (by show (l.map (Value.int .u8)).length = Nat.min r 64; rw [List.length_map, hr]; exact (Nat.min_eq_left hr64).symm)
      (by
        intro j v hj
        rw [List.getElem?_map, Option.map_eq_some_iff] at hj
        obtain ⟨x, hx, rfl⟩ := hj
        obtain ⟨hl, rfl⟩ := List.getElem?_eq_some_iff.1 hx
        rw [Addr.add_mid]
        exact hu j hl)
      (by
        intro j hj
        rw [List.length_map] at hj
        rw [Nat.zero_add, (hE j (by simp; omega)).1]; rfl)
      (by
        intro j hj
        rw [List.length_map] at hj
        rw [Nat.zero_add]
        exact (hE j (by simp; omega)).2)
      (one_ints .u8 l)
    rw [h, List.length_map, hr]

theorem put8_len (l : List Int) (o : Nat) (n : Int) : (put8 l o n).length = l.length := by simp [put8]
theorem put4_len (l : List Int) (o : Nat) (n : Int) : (put4 l o n).length = l.length := by simp [put4]
theorem u8_of_blk {w : World} {E : Nat} {l : List Int} (h : Blk w E .u8 l) (j : Nat) : U8 w E j (blk64 l j) := by
  have h0 : U8 w E 0 l := fun i hi => by rw [Nat.zero_add]; exact (h i hi).1
  have := h0.sub j
  rwa [Nat.zero_add] at this
/-- The bytes of a state. -/
def DN (s : S8) : Nat → List Int
  | 0 => List.replicate 32 0
  | k + 1 => put4 (DN s k) (4 * k) (s.l.getD k 0)
theorem DN_len (s : S8) : ∀ k, (DN s k).length = 32
  | 0 => by simp [DN]
  | k + 1 => by rw [DN, put4_len, DN_len s k]
theorem idx8 (sf : S8) (k : Nat) (hk : k < 8) : ∀ w, (Instr.index 185 (.agg #[.int .u32 sf.a, .int .u32 sf.b, .int .u32 sf.c, .int .u32 sf.d, .int .u32 sf.e, .int .u32 sf.f, .int .u32 sf.g, .int .u32 sf.h]) (.int .i64 (k : Int))).run Tryz.prog w = .ok (.int .u32 (sf.l.getD k 0)) w := by
  have h : k = 0 ∨ k = 1 ∨ k = 2 ∨ k = 3 ∨ k = 4 ∨ k = 5 ∨ k = 6 ∨ k = 7 := by omega
  rcases h with rfl | rfl | rfl | rfl | rfl | rfl | rfl | rfl <;> intro w <;> kernel_rfl
theorem slice8 (D : Nat) (k : Nat) (hk : k < 8) : ∀ w, (Instr.sliceAt 35 (.pointer (some ⟨D, 0, none⟩)) (some (.int .i64 (4 * (k : Int)))) (some (.int .i64 (4 * (k : Int) + 4))) none).run Tryz.prog w = .ok (.slice (some ⟨D, 4 * k, none⟩) 4 (32 - 4 * k)) w := by
  have h : k = 0 ∨ k = 1 ∨ k = 2 ∨ k = 3 ∨ k = 4 ∨ k = 5 ∨ k = 6 ∨ k = 7 := by omega
  rcases h with rfl | rfl | rfl | rfl | rfl | rfl | rfl | rfl <;> intro w <;> kernel_rfl
theorem add8_range (s v : S8) (k : Nat) : 0 ≤ (add8 s v).l.getD k 0 ∧ (add8 s v).l.getD k 0 < 4294967296 := by
  have hm : ∀ x : Int, 0 ≤ x % 4294967296 ∧ x % 4294967296 < 4294967296 := fun x => ⟨Int.emod_nonneg _ (by decide), Int.emod_lt_of_pos _ (by decide)⟩
  match k with
  | 0 => exact hm _
  | 1 => exact hm _
  | 2 => exact hm _
  | 3 => exact hm _
  | 4 => exact hm _
  | 5 => exact hm _
  | 6 => exact hm _
  | 7 => exact hm _
  | k + 8 => simp [S8.l, List.getD]

theorem range_of_blk {w : World} {B : Nat} {k : IntKind} {l : List Int} (h : Blk w B k l) : w.rangeAt B 0 (l.map (.int k)) := by
  intro j v hj
  rw [List.getElem?_map, Option.map_eq_some_iff] at hj
  obtain ⟨x, hx, rfl⟩ := hj
  rw [Nat.zero_add]
  exact h.get hx
theorem setFrom_all_aux : ∀ (xs pre ys : List Int), ys.length = xs.length → setFrom (pre ++ ys) pre.length xs = pre ++ xs
  | [], pre, ys, h => by obtain rfl : ys = [] := List.eq_nil_of_length_eq_zero h; rfl
  | x :: xs, pre, [], h => by simp at h
  | x :: xs, pre, y :: ys, h => by
    have e : (pre ++ y :: ys).set pre.length x = (pre ++ [x]) ++ ys := by simp
    have h1 := setFrom_all_aux xs (pre ++ [x]) ys (by simpa using h)
    rw [setFrom, e]
    rw [List.length_append, List.length_singleton] at h1
    rw [h1]; simp
theorem setFrom_all (l m : List Int) (h : m.length = l.length) : setFrom m 0 l = l := setFrom_all_aux l [] m h
theorem grown_setCells (b : Nat) : ∀ (xs : List Value) (o : Nat) {w0 w : World}, w0.grownBy w (some b) → w0.grownBy (w.setCells b o xs) (some b)
  | [], _, _, _, h => h
  | x :: xs, o, _, _, h => grown_setCells b xs (o + 1) (grown_set h (a := ⟨b, o, none⟩) rfl x)
/-- A digest as a value. -/
def dv (l : List Int) : Value := .agg (l.map (.int .u8)).toArray
theorem Tryz.info_digest : Tryz.prog.underlying 35 = some (.array 32 5) ∧ (Tryz.prog.info? 35).map (·.size) = some 32 := ⟨by kernel_rfl, by kernel_rfl⟩
theorem load_digest {w : World} {B : Nat} {l : List Int} (h : Blk w B .u8 l) (hl : l.length = 32) : (Instr.loadAt 35 (.pointer (some ⟨B, 0, none⟩))).run Tryz.prog w = .ok (dv l) w :=
  run_loadAt_mid (P := Tryz.prog) w B 0 35 (l.map (.int .u8)) _ (range_of_blk h) Tryz.info_digest.1 rfl (by rw [List.length_map, hl]; exact Tryz.info_digest.2)
theorem store_digest {w : World} {B : Nat} {l m : List Int} (h : Blk w B .u8 l) (hl : l.length = 32) (hm : m.length = 32) : (Instr.storeAt 35 (.pointer (some ⟨B, 0, none⟩)) (dv m)).run Tryz.prog w = .ok () (w.setCells B 0 (m.map (.int .u8))) := by
  have h1 : w.there B 0 (m.map (Value.int .u8)).toArray.size := fun j hj => by
    have hj32 : j < l.length := by simpa [hm, hl] using hj
    rw [Nat.zero_add, (h j hj32).1]
    exact ⟨rfl, (h j hj32).2⟩
  have h2 : (Tryz.prog.info? 35).map (·.size) = some (m.map (Value.int .u8)).toArray.size := by rw [List.size_toArray, List.length_map, hm]; exact Tryz.info_digest.2
  have h3 := run_storeAt_mid (P := Tryz.prog) w B 0 35 (m.map (.int .u8)).toArray h1 h2 (all_oneCell_toArray (one_ints .u8 m))
  unfold dv
  rw [h3]
theorem wpList_ldg {w : World} {ops : Array Oper} {rest : List Oper} {o : Oper} {a : Act} {Q : Exit → Act → World → Prop} (hgd : o.guard = none) (x : Operand) (ho : o.op = .load 35 x) (B : Nat) (hx : a.eval x = .pointer (some ⟨B, 0, none⟩))
    (l : List Int) (hb : Blk w B .u8 l) (hl : l.length = 32) (h : wpList Tryz.prog ops Q rest (a.put o.dst (dv l)) w) : wpList Tryz.prog ops Q (o :: rest) a w :=
  wpList_plain hgd fun K hK => by
    have hr := load_digest hb hl
    unfold Oper.wp execOp
    simp only [ho, hx, Sem.run_bind, hr, Result.andThen_ok]
    exact hK _ _ h
theorem wpList_sdg {w : World} {ops : Array Oper} {rest : List Oper} {o : Oper} {a : Act} {Q : Exit → Act → World → Prop} (hgd : o.guard = none) (x y : Operand) (ho : o.op = .store 35 x y) (B : Nat) (hx : a.eval x = .pointer (some ⟨B, 0, none⟩))
    (m : List Int) (hy : a.eval y = dv m) (hm : m.length = 32) (l : List Int) (hb : Blk w B .u8 l) (hl : l.length = 32) (h : ∀ w', Blk w' B .u8 m → w.grownBy w' (some B) → wpList Tryz.prog ops Q rest (a.put o.dst undef) w') : wpList Tryz.prog ops Q (o :: rest) a w :=
  wpList_plain hgd fun K hK => by
    have hr := store_digest hb hl hm
    have h1 : Blk (w.setCells B 0 (m.map (.int .u8))) B .u8 m := by
      have := hb.setCells m 0
      rwa [setFrom_all m l (by rw [hl, hm])] at this
    have h2 : w.grownBy (w.setCells B 0 (m.map (.int .u8))) (some B) := grown_setCells B (m.map (.int .u8)) 0 (grown_refl _ _)
    unfold Oper.wp execOp
    simp only [ho, hx, hy, Sem.run_bind, hr, Result.andThen_ok]
    exact hK _ _ (h _ h1 h2)
theorem results_dig {fn : Func} {p : Tmp} (h : fn.results = #[.cell p 35]) (tmps : Array Value) (w : World) (B : Nat) (l : List Int) (hp : tmps.getD p undef = .pointer (some ⟨B, 0, none⟩)) (hb : Blk w B .u8 l) (hl : l.length = 32) :
    (results fn tmps).run Tryz.prog w = .ok (dv l) w := by
  have hp' : tmps[p]?.getD undef = .pointer (some ⟨B, 0, none⟩) := by simpa using hp
  have hr := run_loadVar_mid (P := Tryz.prog) w B 0 35 (l.map (.int .u8)) _ (range_of_blk hb) Tryz.info_digest.1 rfl (by rw [List.length_map, hl]; exact Tryz.info_digest.2)
  simp [results, h, hp', asAddr, hr, dv]
/-- The last one or two blocks of a message of n bytes of which rest is left. -/
def lastL (rest : List Int) (o : Nat) (n : Int) : List Int := put8 ((setFrom (List.replicate 128 0) 0 rest).set rest.length 128) o (n * 8)
def sumS (l : List Int) : S8 :=
  if 55 < (l.drop (64 * (l.length / 64))).length then absorb (absorb (absN iv l (l.length / 64)) (blk64 (lastL (l.drop (64 * (l.length / 64))) 120 (l.length : Int)) 0)) (blk64 (lastL (l.drop (64 * (l.length / 64))) 120 (l.length : Int)) 64)
  else absorb (absN iv l (l.length / 64)) (blk64 (lastL (l.drop (64 * (l.length / 64))) 56 (l.length : Int)) 0)
/-- What Sum makes of a message. -/
def sum (l : List Int) : List Int := DN (sumS l) 8
theorem sum_len (l : List Int) : (sum l).length = 32 := DN_len _ _
/-- The call of absorb on a block of this run's, the state lying in a block of this run's. -/
theorem absorb_own (B0 S b o n cap : Nat) (st : S8) (l : List Int) (w0 w : World) (hL : Laid w0) (hB : Below B0 w0 w) (hB0 : w0.heap.size ≤ B0) (hS : Blk w S .u32 st.l) (hSB : B0 ≤ S) (hl : l.length = 64) (hcap : n ≤ cap) (hn : 64 ≤ n) (hcap2 : cap ≤ 9223372036854775807) (hu : U8 w b o l) :
    Calls Tryz.prog 130 #[.pointer (some ⟨S, 0, none⟩), .slice (some ⟨b, o, none⟩) n cap] w fun e w' => e = .returned (.tuple #[]) ∧ Blk w' S .u32 (absorb st l).l ∧ w.grownBy w' (some S) ∧ Below B0 w0 w' :=
  (absorb_c S b o n cap st l w (hL.below hB hB0) hS hl hcap hn hcap2 hu (cell_lt (hu 0 (by omega)))).mono fun e w' ⟨h1, h2, h3⟩ =>
    ⟨h1, h2, h3, Below.grown hB h3 (Nat.le_trans hSB (Nat.le_of_lt (hS.lt (Nat.zero_lt_succ _)))) (fun k hk => by cases hk; exact hSB)⟩

set_option maxHeartbeats 4000000 in
set_option maxRecDepth 100000 in
theorem sum_c (b o cap : Nat) (l : List Int) (w : World) (hL : Laid w) (hu : U8 w b o l) (hb : b < w.heap.size) (hcap : l.length ≤ cap) (hcap2 : cap ≤ 9223372036854775807) (hl5 : l.length ≤ 100000) (h0 : 0 < l.length) :
    Calls Tryz.prog 73 #[.slice (some ⟨b, o, none⟩) l.length cap] w fun e w' => e = .returned (dv (sum l)) ∧ Below w.heap.size w w' := by
  obtain ⟨s0, s1, s2, s3, s4, s5, s6, s7⟩ := hL.ss
  have hs1 : 1 < w.heap.size := cell_lt s0
  have hs1n : 1 ≠ w.heap.size := by omega
  have hs1n' : w.heap.size ≠ 1 := by omega
  have HL := Bx.mk hL; have HU := Bx.mk hu
  clear hL hu
  go_enter Tryz.func73, Tryz.ntmps73
  go_wp2_with fail
  have W2 := Bx.mk (show Blk ((w.alloc (.cells ((List.replicate 32 0).map (.int .u8)).toArray 35)).alloc (.cells (iv.l.map (.int .u32)).toArray 185)) w.heap.size .u8 (List.replicate 32 0) from (blk_new w .u8 (List.replicate 32 0) 35).alloc (by simp) _)
  have W3 := Bx.mk (show Blk ((w.alloc (.cells ((List.replicate 32 0).map (.int .u8)).toArray 35)).alloc (.cells (iv.l.map (.int .u32)).toArray 185)) (w.heap.size + 1) .u32 iv.l from by
    have := blk_new (w.alloc (.cells ((List.replicate 32 0).map (.int .u8)).toArray 35)) .u32 iv.l 185
    rw [World.size_alloc] at this; exact this)
  have W4 := Bx.mk (((Below.refl w.heap.size w).alloc (Nat.le_refl _) (.cells ((List.replicate 32 0).map (.int .u8)).toArray 35)).alloc (by simp) (.cells (iv.l.map (.int .u32)).toArray 185))
  clear s0 s1 s2 s3 s4 s5 s6 s7 hs1 hs1n hs1n'
  go_loopg [5] (l.length / 64) (fun g s5 wr => ∃ (k o' : Nat), s5 = .slice (some ⟨b, o', none⟩) (l.length - 64 * k) (cap - 64 * k) ∧ (o' = o + 64 * k ∨ cap ≤ 64 * k) ∧ 64 * k ≤ l.length ∧ Bx (g = l.length / 64 - k) ∧ Bx (Blk wr w.heap.size .u8 (List.replicate 32 0)) ∧ Bx (Blk wr (w.heap.size + 1) .u32 (absN iv l k).l) ∧ Bx (Below w.heap.size w wr))
  case atStart => exact ⟨0, o, by simp, .inl rfl, by omega, .mk rfl, W2, W3, W4⟩
  case round =>
    obtain ⟨k, o', rfl, ho, hk, hg, hD, hS, hB⟩ := hrel
    clear W2 W3 W4
    by_cases hlt : 64 * k + 64 ≤ l.length
    · obtain rfl : o' = o + 64 * k := by omega
      go_wp2_with fail
      refine (absorb_own w.heap.size (w.heap.size + 1) b (o + 64 * k) 64 (cap - 64 * k) _ (blk64 l (64 * k)) w _ HL.out hB.out (Nat.le_refl _) hS.out (by omega) (blk64_len hlt) (by omega) (by omega) (by omega) ((HU.out.below hb hB.out).sub _)).mono ?_
      rintro e w1 ⟨rfl, hs1, hg1, hB1⟩
      have hD1 := Bx.mk (hD.out.grown hg1 (hD.out.lt (by simp)) (by simp))
      have HS1 := Bx.mk hs1; have HB1 := Bx.mk hB1
      clear hs1 hg1 hB1 hD hS hB
      have e2 : l.length - 64 * k - 64 = l.length - 64 * (k + 1) := by omega
      have e3 : cap - 64 * k - 64 = cap - 64 * (k + 1) := by omega
      have E2 := Bx.mk e2; have E3 := Bx.mk e3
      clear e2 e3
      by_cases hc : cap - 64 * k = 64
      · have e4 := Bx.mk (show cap ≤ 64 * (k + 1) by omega)
        go_wp2_with fail
        go_roundg (l.length / 64 - k - 1)
        case measure => have := hg.out; omega
        case rel =>
          refine ⟨k + 1, o + 64 * k, ?_, .inr e4.out, by omega, .mk (by omega), hD1, HS1, HB1⟩
          have e3 : 0 = cap - 64 * (k + 1) := by omega
          rw [E2.out, ← e3]
      · go_wp2_with fail
        go_roundg (l.length / 64 - k - 1)
        case measure => have := hg.out; omega
        case rel =>
          refine ⟨k + 1, o + 64 * k + 64, ?_, .inl (by omega), by omega, .mk (by omega), hD1, HS1, HB1⟩
          rw [E2.out, E3.out]
    · have hdiv := Bx.mk (show k = l.length / 64 by omega)
      have hu2 := (HU.out.below hb hB.out)
      obtain ⟨rest, hrest⟩ : ∃ rest, rest = l.drop (64 * k) := ⟨_, rfl⟩
      have hrl : rest.length = l.length - 64 * k := by rw [hrest, List.length_drop]
      have hu3 : U8 wr b o' rest := by
        intro i hi
        have ho2 : o' = o + 64 * k := by omega
        have h := hu2 (64 * k + i) (by omega)
        subst hrest
        rw [ho2, Nat.add_assoc, h]
        simp
      have Hrest := Bx.mk hrest
      clear hu2 hrest
      have hr64 : l.length - 64 * k < 64 := by omega
      have hrc : l.length - 64 * k ≤ cap - 64 * k := by omega
      have hc5 : cap - 64 * k ≤ 9223372036854775807 := by omega
      generalize l.length - 64 * k = r at *
      generalize cap - 64 * k = c2 at *
      have hmk := make128 wr
      have hE := blk_new wr .u8 (List.replicate 128 0) 5
      have hSE : w.heap.size + 1 < wr.heap.size := hS.out.lt (Nat.zero_lt_succ _)
      have hD1 := hD.out.alloc (hD.out.lt (by simp)) (.cells ((List.replicate 128 0).map (.int .u8)).toArray 5)
      have hS1 := hS.out.alloc (hS.out.lt (Nat.zero_lt_succ _)) (.cells ((List.replicate 128 0).map (.int .u8)).toArray 5)
      have hB1 := hB.out.alloc hB.out.size (.cells ((List.replicate 128 0).map (.int .u8)).toArray 5)
      have hu4 : U8 (wr.alloc (.cells ((List.replicate 128 0).map (.int .u8)).toArray 5)) b o' rest := hu3.below (Nat.lt_of_lt_of_le hb hB.out.size) ((Below.refl wr.heap.size wr).alloc (Nat.le_refl _) _)
      clear hu3 hD hS hB
      generalize wr.alloc (.cells ((List.replicate 128 0).map (.int .u8)).toArray 5) = W at *
      generalize wr.heap.size = E at *
      have hcp := copy_rest W E b o' r c2 rest hrl (by omega) hE hu4
      have hE2 := hE.setCells rest 0
      have hD2 := Bx.mk (Blk.others (show E ≠ w.heap.size by omega) (rest.map (.int .u8)) 0 hD1)
      have hS2 := Bx.mk (Blk.others (show E ≠ w.heap.size + 1 by omega) (rest.map (.int .u8)) 0 hS1)
      have hB2 := Bx.mk (Below.setCells (show w.heap.size ≤ E by omega) (rest.map (.int .u8)) 0 hB1)
      clear hE hD1 hS1 hB1 hu4
      generalize W.setCells E 0 (rest.map (.int .u8)) = W2 at *
      have hlen2 : (setFrom (List.replicate 128 0) 0 rest).length = 128 := by rw [setFrom_len]; simp
      have cr := hE2.at (i := r) (by omega)
      have fr := hE2.fr (i := r) (by omega)
      obtain ⟨x, hx⟩ : ∃ x, x = (setFrom (List.replicate 128 0) 0 rest).getD r 0 := ⟨_, rfl⟩
      rw [← hx] at cr
      have HE2 := Bx.mk hE2
      have Hlen2 := Bx.mk hlen2
      clear hE2 hx hlen2
      by_cases hbig : 55 < r
      · go_wp2_with fail
        refine (put8_c E 120 8 ((l.length : Int) * 8) _ _ (HE2.out.setCell r 128) (by rw [List.length_set, Hlen2.out]; omega) (by omega)).mono ?_
        rintro e w3 ⟨rfl, he3, hg3⟩
        have hD3 := Bx.mk (Blk.grown (Blk.other hD2.out (show E ≠ w.heap.size by omega) (.int .u8 128)) hg3 (by have := hD2.out.lt (by simp); simpa [World.setCell] using this) (by intro e; cases e; omega))
        have hS3 := Bx.mk (Blk.grown (Blk.other hS2.out (show E ≠ w.heap.size + 1 by omega) (.int .u8 128)) hg3 (by have := hS2.out.lt (Nat.zero_lt_succ _); simpa [World.setCell] using this) (by intro e; cases e; omega))
        have hB3 := Bx.mk (Below.grown (Below.setCell (p := ⟨E, r, none⟩) hB2.out (show w.heap.size ≤ E by omega) (.int .u8 128)) hg3 (by have := hB2.out.size; simpa [World.setCell] using this) (by intro k hk; cases hk; omega))
        obtain ⟨L, hLd⟩ : ∃ L, L = put8 ((setFrom (List.replicate 128 0) 0 rest).set r 128) 120 ((l.length : Int) * 8) := ⟨_, rfl⟩
        rw [← hLd] at he3
        have hLl : L.length = 128 := by rw [hLd, put8_len, List.length_set, Hlen2.out]
        have HLd := Bx.mk hLd; have HLl := Bx.mk hLl; have HE3 := Bx.mk he3
        clear hg3 he3 hLd hLl hD2 hS2 hB2 HE2 cr fr hcp hmk
        go_wp2_with fail
        refine wp_loop_rounds 3 ?_
        rw [rounds_succ]
        go_wp2_with fail
        refine (absorb_own w.heap.size (w.heap.size + 1) E 0 64 128 _ (blk64 L 0) w _ HL.out hB3.out (Nat.le_refl _) hS3.out (by omega) (blk64_len (by rw [HLl.out]; omega)) (by omega) (by omega) (by omega) (u8_of_blk HE3.out 0)).mono ?_
        rintro e w4 ⟨rfl, hs4, hg4, hb4⟩
        have hS4 := Bx.mk hs4; have hB4 := Bx.mk hb4
        have hD4 := Bx.mk (hD3.out.grown hg4 (hD3.out.lt (by simp)) (by simp))
        have HE4 := Bx.mk (HE3.out.grown hg4 (HE3.out.lt (by rw [HLl.out]; omega)) (by intro e; cases e; omega))
        clear hs4 hb4 hg4 hS3 hB3 hD3 HE3
        go_wp2_with fail
        rw [rounds_succ]
        go_wp2_with fail
        refine (absorb_own w.heap.size (w.heap.size + 1) E 64 64 64 _ (blk64 L 64) w _ HL.out hB4.out (Nat.le_refl _) hS4.out (by omega) (blk64_len (by rw [HLl.out]; omega)) (by omega) (by omega) (by omega) (u8_of_blk HE4.out 64)).mono ?_
        rintro e w5 ⟨rfl, hs5, hg5, hb5⟩
        have hS5 := Bx.mk hs5; have hB5 := Bx.mk hb5
        have hD5 := Bx.mk (hD4.out.grown hg5 (hD4.out.lt (by simp)) (by simp))
        have HE5 := Bx.mk (HE4.out.grown hg5 (HE4.out.lt (by rw [HLl.out]; omega)) (by intro e; cases e; omega))
        clear hs5 hb5 hg5 hS4 hB4 hD4 HE4
        go_wp2_with fail
        rw [rounds_succ]
        obtain ⟨sf, hsf⟩ : ∃ sf, sf = absorb (absorb (absN iv l k) (blk64 L 0)) (blk64 L 64) := ⟨_, rfl⟩
        rw [← hsf] at hS5
        have Hsf := Bx.mk hsf
        obtain ⟨d0, d1, d2, d3, d4, d5, d6, d7⟩ := hS5.out.s8
        clear hsf
        go_wp2_with fail
        have hidx := Bx.mk (idx8 sf)
        have hrg := Bx.mk (show ∀ k, 0 ≤ sf.l.getD k 0 ∧ sf.l.getD k 0 < 4294967296 from by rw [Hsf.out]; exact add8_range _ _)
        have hDl := fun k => DN_len sf k
        have HDl := Bx.mk hDl
        clear hDl d0 d1 d2 d3 d4 d5 d6 d7
        go_loopg [54] 8 (fun g s54 wr => ∃ (k : Nat), s54 = .int .i64 k ∧ k ≤ 8 ∧ Bx (g = 8 - k) ∧ Bx (Blk wr w.heap.size .u8 (DN sf k)) ∧ Bx (Below w.heap.size w wr))
        case atStart => exact ⟨0, rfl, by omega, .mk rfl, hD5, hB5⟩
        case round =>
          clear hD5 hB5 hS5 HE5
          obtain ⟨k2, rfl, hk2, hg2, hD, hB⟩ := hrel
          by_cases hlt2 : k2 < 8
          · have hix := hidx.out k2 hlt2
            have hsl := slice8 w.heap.size k2 hlt2
            obtain ⟨x, hx⟩ : ∃ x, x = sf.l.getD k2 0 := ⟨_, rfl⟩
            rw [← hx] at hix
            have hx0 : 0 ≤ x := by rw [hx]; exact (hrg.out k2).1
            have hx1 : x < 4294967296 := by rw [hx]; exact (hrg.out k2).2
            have HX := Bx.mk hx
            clear hx
            go_wp2_with fail
            refine (put4_c w.heap.size (4 * k2) _ x _ _ hD.out (by have := HDl.out k2; omega) (by omega)).mono ?_
            rintro e wn ⟨rfl, hdn, hgn⟩
            have HDN := Bx.mk hdn; have HBN := Bx.mk (Below.grown hB.out hgn hB.out.size (by intro k hk; cases hk; omega))
            clear hdn hgn
            go_wp2_with fail
            go_roundg (8 - k2 - 1)
            case measure => have := hg2.out; omega
            case rel => exact ⟨k2 + 1, by go_num, by omega, .mk (by omega), .mk (by rw [DN, ← HX.out]; exact HDN.out), HBN⟩
          · obtain rfl : k2 = 8 := by omega
            clear hg2 hlt2 hk2
            go_wp2_with (first | (refine wpList_ldg rfl (.tmp 2) rfl w.heap.size rfl (DN sf 8) hD.out (HDl.out 8) ?_) | (refine wpList_sdg rfl (.tmp 2) (.tmp 68) rfl w.heap.size rfl (DN sf 8) rfl (HDl.out 8) (DN sf 8) hD.out (HDl.out 8) ?_))
            intro W9 hD9 hG9
            have hB9 := Below.grown hB.out hG9 hB.out.size (by intro k hk; cases hk; omega)
            go_wp2_with fail
            (try simp only [Exit.inBlock, Exit.then])
            refine bodyPost_ret (results_dig rfl _ _ w.heap.size (DN sf 8) rfl hD9 (HDl.out 8)) rfl ?_
            refine ⟨?_, hB9⟩
            rw [Hsf.out, HLd.out, sum, sumS, lastL, ← hdiv.out, ← Hrest.out, hrl, if_pos hbig]
      · go_wp2_with fail
        refine (put8_c E 56 72 ((l.length : Int) * 8) _ _ (HE2.out.setCell r 128) (by rw [List.length_set, Hlen2.out]; omega) (by omega)).mono ?_
        rintro e w3 ⟨rfl, he3, hg3⟩
        have hD3 := Bx.mk (Blk.grown (Blk.other hD2.out (show E ≠ w.heap.size by omega) (.int .u8 128)) hg3 (by have := hD2.out.lt (by simp); simpa [World.setCell] using this) (by intro e; cases e; omega))
        have hS3 := Bx.mk (Blk.grown (Blk.other hS2.out (show E ≠ w.heap.size + 1 by omega) (.int .u8 128)) hg3 (by have := hS2.out.lt (Nat.zero_lt_succ _); simpa [World.setCell] using this) (by intro e; cases e; omega))
        have hB3 := Bx.mk (Below.grown (Below.setCell (p := ⟨E, r, none⟩) hB2.out (show w.heap.size ≤ E by omega) (.int .u8 128)) hg3 (by have := hB2.out.size; simpa [World.setCell] using this) (by intro k hk; cases hk; omega))
        obtain ⟨L, hLd⟩ : ∃ L, L = put8 ((setFrom (List.replicate 128 0) 0 rest).set r 128) 56 ((l.length : Int) * 8) := ⟨_, rfl⟩
        rw [← hLd] at he3
        have hLl : L.length = 128 := by rw [hLd, put8_len, List.length_set, Hlen2.out]
        have HLd := Bx.mk hLd; have HLl := Bx.mk hLl; have HE3 := Bx.mk he3
        clear hg3 he3 hLd hLl hD2 hS2 hB2 HE2 cr fr hcp hmk
        go_wp2_with fail
        refine wp_loop_rounds 2 ?_
        rw [rounds_succ]
        go_wp2_with fail
        refine (absorb_own w.heap.size (w.heap.size + 1) E 0 64 128 _ (blk64 L 0) w _ HL.out hB3.out (Nat.le_refl _) hS3.out (by omega) (blk64_len (by rw [HLl.out]; omega)) (by omega) (by omega) (by omega) (u8_of_blk HE3.out 0)).mono ?_
        rintro e w4 ⟨rfl, hs4, hg4, hb4⟩
        have hS4 := Bx.mk hs4; have hB4 := Bx.mk hb4
        have hD4 := Bx.mk (hD3.out.grown hg4 (hD3.out.lt (by simp)) (by simp))
        have HE4 := Bx.mk (HE3.out.grown hg4 (HE3.out.lt (by rw [HLl.out]; omega)) (by intro e; cases e; omega))
        clear hs4 hb4 hg4 hS3 hB3 hD3 HE3
        go_wp2_with fail
        rw [rounds_succ]
        obtain ⟨sf, hsf⟩ : ∃ sf, sf = absorb (absN iv l k) (blk64 L 0) := ⟨_, rfl⟩
        rw [← hsf] at hS4
        have Hsf := Bx.mk hsf
        obtain ⟨d0, d1, d2, d3, d4, d5, d6, d7⟩ := hS4.out.s8
        clear hsf
        go_wp2_with fail
        have hidx := Bx.mk (idx8 sf)
        have hrg := Bx.mk (show ∀ k, 0 ≤ sf.l.getD k 0 ∧ sf.l.getD k 0 < 4294967296 from by rw [Hsf.out]; exact add8_range _ _)
        have hDl := fun k => DN_len sf k
        have HDl := Bx.mk hDl
        clear hDl d0 d1 d2 d3 d4 d5 d6 d7
        go_loopg [54] 8 (fun g s54 wr => ∃ (k : Nat), s54 = .int .i64 k ∧ k ≤ 8 ∧ Bx (g = 8 - k) ∧ Bx (Blk wr w.heap.size .u8 (DN sf k)) ∧ Bx (Below w.heap.size w wr))
        case atStart => exact ⟨0, rfl, by omega, .mk rfl, hD4, hB4⟩
        case round =>
          clear hD4 hB4 hS4 HE4
          obtain ⟨k2, rfl, hk2, hg2, hD, hB⟩ := hrel
          by_cases hlt2 : k2 < 8
          · have hix := hidx.out k2 hlt2
            have hsl := slice8 w.heap.size k2 hlt2
            obtain ⟨x, hx⟩ : ∃ x, x = sf.l.getD k2 0 := ⟨_, rfl⟩
            rw [← hx] at hix
            have hx0 : 0 ≤ x := by rw [hx]; exact (hrg.out k2).1
            have hx1 : x < 4294967296 := by rw [hx]; exact (hrg.out k2).2
            have HX := Bx.mk hx
            clear hx
            go_wp2_with fail
            refine (put4_c w.heap.size (4 * k2) _ x _ _ hD.out (by have := HDl.out k2; omega) (by omega)).mono ?_
            rintro e wn ⟨rfl, hdn, hgn⟩
            have HDN := Bx.mk hdn; have HBN := Bx.mk (Below.grown hB.out hgn hB.out.size (by intro k hk; cases hk; omega))
            clear hdn hgn
            go_wp2_with fail
            go_roundg (8 - k2 - 1)
            case measure => have := hg2.out; omega
            case rel => exact ⟨k2 + 1, by go_num, by omega, .mk (by omega), .mk (by rw [DN, ← HX.out]; exact HDN.out), HBN⟩
          · obtain rfl : k2 = 8 := by omega
            clear hg2 hlt2 hk2
            go_wp2_with (first | (refine wpList_ldg rfl (.tmp 2) rfl w.heap.size rfl (DN sf 8) hD.out (HDl.out 8) ?_) | (refine wpList_sdg rfl (.tmp 2) (.tmp 68) rfl w.heap.size rfl (DN sf 8) rfl (HDl.out 8) (DN sf 8) hD.out (HDl.out 8) ?_))
            intro W9 hD9 hG9
            have hB9 := Below.grown hB.out hG9 hB.out.size (by intro k hk; cases hk; omega)
            go_wp2_with fail
            (try simp only [Exit.inBlock, Exit.then])
            refine bodyPost_ret (results_dig rfl _ _ w.heap.size (DN sf 8) rfl hD9 (HDl.out 8)) rfl ?_
            refine ⟨?_, hB9⟩
            rw [Hsf.out, HLd.out, sum, sumS, ← hdiv.out, ← Hrest.out, hrl, if_neg hbig, lastL, hrl]
end Go.Proofs.YtjbojoeafdkkeaaGreatDoor
