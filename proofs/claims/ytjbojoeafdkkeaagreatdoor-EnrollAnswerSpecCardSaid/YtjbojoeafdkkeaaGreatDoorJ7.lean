/- codec: the writer of a list, Encode. -/
import Derived.Test.YtjbojoeafdkkeaaGreatDoorJ6
import Derived.Laws.EntriesVeiled
import Derived.StillTailTactics
import Derived.Deep.QuietTactic
import Derived.Laws.IdiomCopy
set_option linter.unusedVariables false
set_option linter.unusedSimpArgs false
namespace Go.Proofs.YtjbojoeafdkkeaaGreatDoor
open Go Go.RowKit Go.Lib

set_option maxHeartbeats 2000000 in
set_option maxRecDepth 100000 in
theorem newWriter_c (w : World) :
    Calls Tryz.prog 72 #[] w fun e w' => e = .returned (.pointer (some ⟨w.heap.size, 0, none⟩)) ∧
      w' = (w.alloc (.cells #[.nilFunc, .func (.func 125) #[] #[], .func (.func 128) #[] #[], .func (.func 129) #[] #[.pointer (some ⟨w.heap.size + 1, 0, none⟩)]] 180)).alloc (.cells #[.pointer (some ⟨w.heap.size, 0, none⟩)] 122) := by
  go_enter Tryz.func72, Tryz.ntmps72
  go_wp2
  go_ret
  exact ⟨rfl, rfl⟩

/-- What the writer writes of an integer, and of a list of integers. -/
def encI (n : Int) : List Int := 1 :: numB 10 (zig n)
def encL (l : List Int) : List Int := 3 :: numB 10 (l.length : Int) ++ (l.map encI).flatten
theorem encI_len (n : Int) : (encI n).length ≤ 11 := by unfold encI; simp; exact numB_len 10 _
theorem flat_len : ∀ l : List Int, ((l.map encI).flatten).length ≤ 11 * l.length
  | [] => by simp
  | n :: l => by
    have h1 := encI_len n
    have h2 := flat_len l
    simp only [List.map_cons, List.flatten_cons, List.length_append, List.length_cons]
    omega
theorem encL_len (l : List Int) : (encL l).length ≤ 11 * l.length + 11 := by
  have h1 := flat_len l
  have h2 := numB_len 10 (l.length : Int)
  unfold encL
  simp only [List.length_append, List.length_cons]
  omega

/-- A cell of an older block, not the slice's own. -/
theorem Since.cell {w w1 : World} {v v1 : Value} (h : Since w v w1 v1) {b o : Nat} {x : Value} (hc : w.cell? ⟨b, o, none⟩ = some x) (hne : some b ≠ v.ownBlock) : w1.cell? ⟨b, o, none⟩ = some x := h.grown.cell hc hne
theorem IntsAt.since {w w1 : World} {v v1 : Value} (h : Since w v w1 v1) {b o : Nat} {l : List Int} (hc : IntsAt w b o l) (hne : some b ≠ v.ownBlock) : IntsAt w1 b o l := fun i hi => by
  obtain ⟨h1, h2, h3, h4⟩ := hc i hi
  exact ⟨h.cell h1 hne, h.cell h2 hne, h.cell h3 hne, h.cell h4 hne⟩

theorem cells_new (W : World) (a : Array Value) (t : TypeId) (k : Nat) : (W.alloc (.cells a t)).cell? ⟨W.heap.size, k, none⟩ = a[k]? := by
  simp only [World.cell?, World.alloc_heap_new]; rfl
theorem cell_lt {w : World} {b o : Nat} {v : Value} (h : w.cell? ⟨b, o, none⟩ = some v) : b < w.heap.size := by
  rcases Nat.lt_or_ge b w.heap.size with h1 | h1
  · exact h1
  · simp [World.cell?, Array.getElem?_eq_none h1] at h

set_option maxHeartbeats 400000 in
set_option maxRecDepth 100000 in
theorem writeList_c (v : Value) (l : List Int) (b o cap B1 B2 : Nat) (xs : List Int) (w : World) (hown : Bytes w v l) (hl : l.length ≤ 3000) (hxs : xs.length ≤ 64)
    (hr : ∀ n ∈ xs, -9223372036854775808 ≤ n ∧ n ≤ 9223372036854775807) (hc : IntsAt w b o xs) (hvb : some b ≠ v.ownBlock)
    (hw2 : w.cell? ⟨B2, 0, none⟩ = some (.pointer (some ⟨B1, 0, none⟩))) (hvb2 : some B2 ≠ v.ownBlock) (hw1 : w.cell? ⟨B1, 1, none⟩ = some (.func (.func 125) #[] #[])) (hvb1 : some B1 ≠ v.ownBlock) :
    Calls Tryz.prog 129 #[v, .agg #[.int .i64 3, .int .i64 0, .string ⟨#[]⟩, .slice (some ⟨b, o, none⟩) xs.length cap], .pointer (some ⟨B2, 0, none⟩)] w fun e w' => ∃ v', e = .returned v' ∧ Bytes w' v' (l ++ encL xs) ∧ Since w v w' v' := by
  have hlt := hown.lt
  have hne : some w.heap.size ≠ v.ownBlock := fun e => by have := hlt _ e.symm; omega
  have hB2 := Bx.mk (((hown.alloc (.cells #[.int .i64 3, .int .i64 0, .string ⟨#[]⟩, .slice (some ⟨b, o, none⟩) xs.length cap] 59)).alloc (.cells #[.int .u8 3] 5)).drew)
  have hS2 := Bx.mk ((((Since.refl w v).alloc (.cells #[.int .i64 3, .int .i64 0, .string ⟨#[]⟩, .slice (some ⟨b, o, none⟩) xs.length cap] 59)).alloc (.cells #[.int .u8 3] 5)).drewN 1)
  have hN2 := Bx.mk (one_new2 w (.cells #[.int .i64 3, .int .i64 0, .string ⟨#[]⟩, .slice (some ⟨b, o, none⟩) xs.length cap] 59) 5 3)
  have HC := Bx.mk hc; have HR := Bx.mk hr; have HW1 := Bx.mk hw1; have HW2 := Bx.mk hw2; have HOWN := Bx.mk hown
  have HVB := Bx.mk hvb; have HVB1 := Bx.mk hvb1; have HVB2 := Bx.mk hvb2; have HNE := Bx.mk hne; have HL := Bx.mk hlt
  clear hc hr hw1 hw2 hown hvb hvb1 hvb2 hne hlt
  have hwr : IntKind.u64.wrap (xs.length : Int) = (xs.length : Int) := by rw [IntKind.wrap_u64]; omega
  go_enter Tryz.func129, Tryz.ntmps129
  go_wp2_with fail
  go_region_held3 (fun w' => w'.cell? ⟨w.heap.size, 3, none⟩ = some (.slice (some ⟨b, o, none⟩) xs.length cap)) (first | assumption | go_keep)
    (first
      | (refine step_app8 rfl (.tmp 8) (.tmp 9) rfl v l rfl hB2.out ⟨w.heap.size + 1, 0, none⟩ 1 1 [3] rfl rfl (by omega) hN2.out (by omega) ?_; intro v1 w1 hb1 hs1; have hk1 : w1.cell? ⟨w.heap.size, 3, none⟩ = some (.slice (some ⟨b, o, none⟩) xs.length cap) := hs1.grown.cell (by assumption) HNE.out)
      | (go_at_call 126; refine (numeral_c v1 (l ++ [3]) (xs.length : Int) _ (by omega) (by omega) hb1 (by simp; omega)).mono ?_; rintro e w' ⟨v2, rfl, hb2, hs2⟩; have hk2 : w'.cell? ⟨w.heap.size, 3, none⟩ = some (.slice (some ⟨b, o, none⟩) xs.length cap) := hs2.grown.cell hk1 (hs1.ne (by simp; omega) HNE.out)))
  go_wp2_with fail
  have hS3 := Bx.mk (hS2.out.trans (hs1.trans hs2))
  have hL3 := Bx.mk (encL_len xs)
  have hF0 : ∀ k, (((xs.take k).map encI).flatten).length ≤ 11 * k := fun k => Nat.le_trans (flat_len _) (by rw [List.length_take]; exact Nat.mul_le_mul_left _ (Nat.min_le_left _ _))
  have HF0 := Bx.mk hF0; clear hF0
  have hN3 := Bx.mk (numB_len 10 (xs.length : Int))
  go_loopg [0, 19] xs.length (fun g s0 s19 wr => ∃ (k : Nat) (v3 : Value), s19 = .int .i64 k ∧ v3 = s0 ∧ k ≤ xs.length ∧ Bx (g = xs.length - k) ∧ Bx (Bytes wr v3 (l ++ [3] ++ numB 10 (xs.length : Int) ++ ((xs.take k).map encI).flatten)) ∧ Bx (Since w v wr v3))
  case atStart => exact ⟨0, v2, rfl, rfl, by omega, .mk rfl, .mk (by simpa using hb2), hS3⟩
  case round =>
    obtain ⟨k, v3, rfl, rfl, hk, hg, hb3, hs3⟩ := hrel
    by_cases hlt : k < xs.length
    · obtain ⟨c0, c1, c2, c3⟩ := HC.out.since hs3.out HVB.out k hlt
      have d1 := hs3.out.cell HW1.out HVB1.out
      have d2 := hs3.out.cell HW2.out HVB2.out
      obtain ⟨n, hn⟩ : ∃ n, n = xs[k] := ⟨_, rfl⟩
      rw [← hn] at c1
      have hr := Bx.mk (HR.out n (by rw [hn]; exact List.getElem_mem _))
      have Hn := Bx.mk hn; clear hn
      go_wp2_with fail
      have hbd := Bx.mk (show (l ++ [3] ++ numB 10 (xs.length : Int) ++ ((xs.take k).map encI).flatten).length ≤ 4000 by
        have h1 := HF0.out k; have h2 := hN3.out; simp only [List.length_append, List.length_cons, List.length_nil]; omega)
      have hsz := cell_lt HW1.out
      have hsz2 := cell_lt HW2.out
      have hq0 : some wr.heap.size ≠ v3.ownBlock := fun e => by have := hb3.out.lt _ e.symm; omega
      have hq1 := hs3.out.ne hsz HVB1.out
      have hq2 := hs3.out.ne hsz2 HVB2.out
      have hk0 : (wr.alloc (.cells #[.int .i64 1, .int .i64 n, .string ⟨#[]⟩, .slice none 0 0] 59)).cell? ⟨B2, 0, none⟩ = some (.pointer (some ⟨B1, 0, none⟩)) ∧ (wr.alloc (.cells #[.int .i64 1, .int .i64 n, .string ⟨#[]⟩, .slice none 0 0] 59)).cell? ⟨B1, 1, none⟩ = some (.func (.func 125) #[] #[]) ∧ (wr.alloc (.cells #[.int .i64 1, .int .i64 n, .string ⟨#[]⟩, .slice none 0 0] 59)).cell? ⟨wr.heap.size, 0, none⟩ = some (.int .i64 1) ∧ (wr.alloc (.cells #[.int .i64 1, .int .i64 n, .string ⟨#[]⟩, .slice none 0 0] 59)).cell? ⟨wr.heap.size, 1, none⟩ = some (.int .i64 n) ∧ (wr.alloc (.cells #[.int .i64 1, .int .i64 n, .string ⟨#[]⟩, .slice none 0 0] 59)).cell? ⟨wr.heap.size, 2, none⟩ = some (.string ⟨#[]⟩) ∧ (wr.alloc (.cells #[.int .i64 1, .int .i64 n, .string ⟨#[]⟩, .slice none 0 0] 59)).cell? ⟨wr.heap.size, 3, none⟩ = some (.slice none 0 0) :=
        ⟨cell_alloc_l _ d2, cell_alloc_l _ d1, cells_new _ _ _ 0, cells_new _ _ _ 1, cells_new _ _ _ 2, cells_new _ _ _ 3⟩
      have Hk0 := Bx.mk hk0
      go_region_held3 (fun w' => w'.cell? ⟨B2, 0, none⟩ = some (.pointer (some ⟨B1, 0, none⟩)) ∧ w'.cell? ⟨B1, 1, none⟩ = some (.func (.func 125) #[] #[]) ∧ w'.cell? ⟨wr.heap.size, 0, none⟩ = some (.int .i64 1) ∧ w'.cell? ⟨wr.heap.size, 1, none⟩ = some (.int .i64 n) ∧ w'.cell? ⟨wr.heap.size, 2, none⟩ = some (.string ⟨#[]⟩) ∧ w'.cell? ⟨wr.heap.size, 3, none⟩ = some (.slice none 0 0)) (first | assumption | exact Hk0.out)
        (first | (go_at_call 125; refine (writeInt_c v3 _ n _ hr.out.1 hr.out.2 (hb3.out.alloc _).drew hbd.out).mono ?_; rintro e w' ⟨v4, rfl, hb4, hs4⟩; have hk1 : w'.cell? ⟨B2, 0, none⟩ = some (.pointer (some ⟨B1, 0, none⟩)) ∧ w'.cell? ⟨B1, 1, none⟩ = some (.func (.func 125) #[] #[]) ∧ w'.cell? ⟨wr.heap.size, 0, none⟩ = some (.int .i64 1) ∧ w'.cell? ⟨wr.heap.size, 1, none⟩ = some (.int .i64 n) ∧ w'.cell? ⟨wr.heap.size, 2, none⟩ = some (.string ⟨#[]⟩) ∧ w'.cell? ⟨wr.heap.size, 3, none⟩ = some (.slice none 0 0) := ⟨hs4.cell Hk0.out.1 hq2, hs4.cell Hk0.out.2.1 hq1, hs4.cell Hk0.out.2.2.1 hq0, hs4.cell Hk0.out.2.2.2.1 hq0, hs4.cell Hk0.out.2.2.2.2.1 hq0, hs4.cell Hk0.out.2.2.2.2.2 hq0⟩))
      go_wp2_with fail
      go_roundg (xs.length - k - 1)
      case measure => have := hg.out; omega
      case rel => 
        refine ⟨k + 1, v4, by go_num, rfl, by omega, .mk (by omega), .mk ?_, .mk (((hs3.out.alloc _).drewN 1).trans hs4)⟩
        rw [List.take_succ_eq_append_getElem hlt, ← Hn.out]
        simpa [encI] using hb4
    · go_wp2_with fail
      go_ret
      obtain rfl : k = xs.length := by omega
      refine ⟨v3, rfl, ?_, hs3.out⟩
      have h := hb3.out
      rw [List.take_length] at h
      simpa [encL] using h

theorem below_of_since {w w' : World} {v' : Value} (h : Since w (.slice none 0 0) w' v') : Below w.heap.size w w' ∧ ∀ k, v'.ownBlock = some k → w.heap.size ≤ k :=
  ⟨⟨h.grown.os, h.grown.tape, h.grown.output, h.grown.size, fun k hk => h.grown.block k hk (fun e => by cases e)⟩, by
    rcases h.near with e | e
    · intro k hk; rw [e] at hk; cases hk
    · exact e⟩

theorem below_undrew {B : Nat} {w w' : World} (h : Below B w.drew w') : Below B w w' := ⟨h.os, h.tape, h.output, h.size, h.block⟩
theorem own_nil (w : World) : Bytes w (.slice none 0 0) [] := ⟨by simp [bv], .inl ⟨rfl, rfl⟩⟩

theorem newWriter_cells (w : World) :
    Calls Tryz.prog 72 #[] w fun e w' => ∃ B2, e = .returned (.pointer (some ⟨w.heap.size, 0, none⟩)) ∧ w'.cell? ⟨w.heap.size, 1, none⟩ = some (.func (.func 125) #[] #[]) ∧
      w'.cell? ⟨w.heap.size, 3, none⟩ = some (.func (.func 129) #[] #[.pointer (some ⟨B2, 0, none⟩)]) ∧ w'.cell? ⟨B2, 0, none⟩ = some (.pointer (some ⟨w.heap.size, 0, none⟩)) ∧ Below w.heap.size w w' := by
  refine (newWriter_c w).mono ?_
  rintro e w' ⟨rfl, rfl⟩
  refine ⟨w.heap.size + 1, rfl, cell_alloc_l _ (cells_new _ _ _ 1), cell_alloc_l _ (cells_new _ _ _ 3), ?_, ((Below.refl _ _).alloc (Nat.le_refl _) _).alloc (by simp) _⟩
  have := cells_new (w.alloc (.cells #[.nilFunc, .func (.func 125) #[] #[], .func (.func 128) #[] #[], .func (.func 129) #[] #[.pointer (some ⟨w.heap.size + 1, 0, none⟩)]] 180)) #[.pointer (some ⟨w.heap.size, 0, none⟩)] 122 0
  rw [World.size_alloc] at this
  exact this

set_option maxHeartbeats 400000 in
set_option maxRecDepth 100000 in
theorem encode_c (b o cap : Nat) (xs : List Int) (w : World) (hxs : xs.length ≤ 64) (hr : ∀ n ∈ xs, -9223372036854775808 ≤ n ∧ n ≤ 9223372036854775807) (hc : IntsAt w b o xs) (hb : b < w.heap.size) :
    Calls Tryz.prog 29 #[.agg #[.int .i64 3, .int .i64 0, .string ⟨#[]⟩, .slice (some ⟨b, o, none⟩) xs.length cap]] w fun e w' => ∃ v', e = .returned (.tuple #[v', .int .i64 0]) ∧ Bytes w' v' (encL xs) ∧ Below w.heap.size w w' ∧ ∀ k, v'.ownBlock = some k → w.heap.size ≤ k := by
  have HC := Bx.mk hc; have HR := Bx.mk hr; clear hc hr
  go_enter Tryz.func29, Tryz.ntmps29
  go_wp2_with fail
  refine (codecCheck_list b o cap xs hxs _ (by simp; omega) (HC.out.below hb ((Below.refl _ _).alloc (Nat.le_refl _) _))).mono ?_
  rintro e w2 ⟨rfl, hb2⟩
  go_wp2_with fail
  have hb2' : Below w.heap.size w w2 := below_step ((Below.refl _ _).alloc (Nat.le_refl _) _) hb2 (Nat.le_refl _)
  have hc2 := HC.out.below hb hb2'
  have hsz2 := hb2.size
  rw [World.size_alloc] at hsz2
  have cc := fun k => (hb2.cell (p := ⟨w.heap.size, k, none⟩) (by simp)).trans (cells_new w _ 59 k)
  have hk0 : w2.cell? ⟨w.heap.size, 0, none⟩ = some (.int .i64 3) ∧ w2.cell? ⟨w.heap.size, 1, none⟩ = some (.int .i64 0) ∧ w2.cell? ⟨w.heap.size, 2, none⟩ = some (.string ⟨#[]⟩) ∧ w2.cell? ⟨w.heap.size, 3, none⟩ = some (.slice (some ⟨b, o, none⟩) xs.length cap) := ⟨cc 0, cc 1, cc 2, cc 3⟩
  clear cc
  have Hk0 := Bx.mk hk0
  have HC2 := Bx.mk hc2; clear hc2
  refine wp_region_noPanic ?_
  refine wp_region_held_drew (S := (fun w' => w'.cell? ⟨w.heap.size, 0, none⟩ = some (.int .i64 3) ∧ w'.cell? ⟨w.heap.size, 1, none⟩ = some (.int .i64 0) ∧ w'.cell? ⟨w.heap.size, 2, none⟩ = some (.string ⟨#[]⟩) ∧ w'.cell? ⟨w.heap.size, 3, none⟩ = some (.slice (some ⟨b, o, none⟩) xs.length cap))) (by kernel_rfl) Hk0.out (fun hS0 => ?_)
  refine wpAnyH_take (i := 1) (oi := _) (v := .pointer (some ⟨w.heap.size, 0, none⟩)) rfl (by kernel_rfl) (by kernel_rfl) (by kernel_rfl) (fun _ _ _ h => h) (Or.inl ⟨by rfl, by (intro wz hSz; go_simp)⟩) hS0 ?_
  simp only [Act.put, List.setIfInBounds_toArray, List.set_cons_zero, List.set_cons_succ]
  refine wpAnyH_take (i := 2) (oi := _) (v := .int .i64 3) rfl (by kernel_rfl) (by kernel_rfl) (by kernel_rfl) (fun _ _ _ h => h) (Or.inl ⟨by rfl, by (intro wz hSz; obtain ⟨za, zb, zc, zd⟩ := hSz; go_simp)⟩) hS0 ?_
  simp only [Act.put, List.setIfInBounds_toArray, List.set_cons_zero, List.set_cons_succ]
  refine wpAnyH_take (i := 7) (oi := _) (v := .agg #[.int .i64 3, .int .i64 0, .string ⟨#[]⟩, .slice (some ⟨b, o, none⟩) xs.length cap]) rfl (by kernel_rfl) (by kernel_rfl) (by kernel_rfl) (fun _ _ _ h => h) (Or.inl ⟨by rfl, by (intro wz hSz; obtain ⟨za, zb, zc, zd⟩ := hSz; go_simp)⟩) hS0 ?_
  simp only [Act.put, List.setIfInBounds_toArray, List.set_cons_zero, List.set_cons_succ]
  refine wpAnyH_ready (rs := [0]) (by kernel_rfl) (by simp) ?_
  refine AllReadyH.cons (o := _) rfl (fun K1 hK1 => ?_) AllReadyH.nil
  go_simp
  refine (newWriter_cells _).mono ?_
  rintro e w3 ⟨B2, rfl, n1, n3, nb, hbw⟩
  have hk1 : w3.cell? ⟨w.heap.size, 0, none⟩ = some (.int .i64 3) ∧ w3.cell? ⟨w.heap.size, 1, none⟩ = some (.int .i64 0) ∧ w3.cell? ⟨w.heap.size, 2, none⟩ = some (.string ⟨#[]⟩) ∧ w3.cell? ⟨w.heap.size, 3, none⟩ = some (.slice (some ⟨b, o, none⟩) xs.length cap) := ⟨(hbw.cell (p := ⟨w.heap.size, _, none⟩) hsz2).trans Hk0.out.1, (hbw.cell (p := ⟨w.heap.size, _, none⟩) hsz2).trans Hk0.out.2.1, (hbw.cell (p := ⟨w.heap.size, _, none⟩) hsz2).trans Hk0.out.2.2.1, (hbw.cell (p := ⟨w.heap.size, _, none⟩) hsz2).trans Hk0.out.2.2.2⟩
  have Hk1 := Bx.mk hk1; have HN1 := Bx.mk n1; have HNB := Bx.mk nb; have HBW := Bx.mk hbw; have HBW2 := Bx.mk (below_undrew hbw); have n3b : w3.cell? ⟨w2.heap.size, 3, none⟩ = _ := n3
  clear n1 nb hbw n3
  (try dsimp only)
  refine hK1.out _ _ hk1 (fun hS1 => ?_)
  refine wpAnyH_take (i := 3) (oi := _) (v := .pointer (some ⟨w2.heap.size, 0, none⟩)) rfl (by kernel_rfl) (by kernel_rfl) (by kernel_rfl) (fun _ _ _ h => h) (Or.inl ⟨by rfl, by (intro wz hSz; go_simp)⟩) hS1 ?_
  simp only [Act.put, List.setIfInBounds_toArray, List.set_cons_zero, List.set_cons_succ]
  refine wpAnyH_take (i := 4) (oi := _) (v := .pointer (some ⟨w2.heap.size, 3, none⟩)) rfl (by kernel_rfl) (by kernel_rfl) (by kernel_rfl) (fun _ _ _ h => h) (Or.inl ⟨by rfl, by (intro wz hSz; go_simp)⟩) hS1 ?_
  simp only [Act.put, List.setIfInBounds_toArray, List.set_cons_zero, List.set_cons_succ]
  refine wpAnyH_take (i := 5) (oi := _) (v := .pointer (some ⟨w2.heap.size, 3, none⟩)) rfl (by kernel_rfl) (by kernel_rfl) (by kernel_rfl) (fun _ _ _ h => h) (Or.inl ⟨by rfl, by (intro wz hSz; go_simp)⟩) hS1 ?_
  simp only [Act.put, List.setIfInBounds_toArray, List.set_cons_zero, List.set_cons_succ]
  refine wpAnyH_ready (rs := [6]) (by kernel_rfl) (by simp) ?_
  refine AllReadyH.cons (o := _) rfl (fun K2 hK2 => ?_) AllReadyH.nil
  go_simp
  refine hK2.out _ _ hk1 (fun hS2 => ?_)
  refine wpAnyH_ready (rs := [8]) (by kernel_rfl) (by simp) ?_
  refine AllReadyH.cons (o := _) rfl (fun K3 hK3 => ?_) AllReadyH.nil
  go_simp
  refine (writeList_c _ [] b o cap _ _ xs _ (own_nil _) (by simp) hxs HR.out (IntsAt.below (w := w2) (B := w2.heap.size) HC2.out (Nat.lt_of_lt_of_le hb (by omega)) HBW2.out) (by simp [Value.ownBlock]) HNB.out (by simp [Value.ownBlock]) HN1.out (by simp [Value.ownBlock])).mono ?_
  rintro e w' ⟨v4, rfl, hb4, hs4⟩
  have hk2 : w'.cell? ⟨w.heap.size, 0, none⟩ = some (.int .i64 3) ∧ w'.cell? ⟨w.heap.size, 1, none⟩ = some (.int .i64 0) ∧ w'.cell? ⟨w.heap.size, 2, none⟩ = some (.string ⟨#[]⟩) ∧ w'.cell? ⟨w.heap.size, 3, none⟩ = some (.slice (some ⟨b, o, none⟩) xs.length cap) := ⟨hs4.cell Hk1.out.1 (by simp [Value.ownBlock]), hs4.cell Hk1.out.2.1 (by simp [Value.ownBlock]), hs4.cell Hk1.out.2.2.1 (by simp [Value.ownBlock]), hs4.cell Hk1.out.2.2.2 (by simp [Value.ownBlock])⟩
  (try dsimp only)
  refine hK3.out _ _ hk2 (fun hS3 => ?_)
  refine wpAnyH_ready (rs := [9]) (by kernel_rfl) (by simp) ?_
  refine AllReadyH.cons (o := _) rfl (fun K4 hK4 => ?_) AllReadyH.nil
  go_simp
  refine hK4.out _ _ hk2 (fun hS4 => ?_)
  refine wpAnyH_ready (rs := [10]) (by kernel_rfl) (by simp) ?_
  refine AllReadyH.cons (o := _) rfl (fun K5 hK5 => ?_) AllReadyH.nil
  go_simp
  refine hK5.out _ _ hk2 (fun hS5 => ?_)
  refine wpAnyH_done (by kernel_rfl) ?_ _
  refine NoPanic.normal ?_
  clear hS0 hS1 hS2 hS3 hS4 hS5 hK1 hK2 hK3 hK4 hK5
  go_wp2_with fail
  go_ret2
  have hq := below_of_since hs4
  have hw3 := HBW.out
  refine ⟨v4, rfl, by simpa using hb4, ?_, ?_⟩
  · exact below_step (below_step hb2' HBW2.out (by omega)) hq.1 (by have := HBW2.out.size; omega)
  · intro k hk
    have := hq.2 k hk
    have := HBW2.out.size
    omega
end Go.Proofs.YtjbojoeafdkkeaaGreatDoor

namespace Go.Proofs.YtjbojoeafdkkeaaGreatDoor
open Go Go.RowKit Go.Lib

/-- What word makes of four bytes. -/
def wd4 (c0 c1 c2 c3 : Int) : Int :=
  bits BinOp.or IntKind.u32 (bits BinOp.or IntKind.u32 (bits BinOp.or IntKind.u32 (bits BinOp.or IntKind.u32 0 (c0 % 4294967296) * 256 % 4294967296) (c1 % 4294967296) * 256 % 4294967296) (c2 % 4294967296) * 256 % 4294967296) (c3 % 4294967296)

set_option maxHeartbeats 2000000 in
set_option maxRecDepth 100000 in
theorem word_c (b o n cap : Nat) (c0 c1 c2 c3 : Int) (w : World) (hn : 4 ≤ cap) (h0 : w.cell? ⟨b, o, none⟩ = some (.int .u8 c0)) (h1 : w.cell? ⟨b, o + 1, none⟩ = some (.int .u8 c1)) (h2 : w.cell? ⟨b, o + 2, none⟩ = some (.int .u8 c2)) (h3 : w.cell? ⟨b, o + 3, none⟩ = some (.int .u8 c3)) :
    Calls Tryz.prog 169 #[.slice (some ⟨b, o, none⟩) n cap] w fun e w' => e = .returned (.int .u32 (wd4 c0 c1 c2 c3)) ∧ w = w' := by
  go_enter Tryz.func169, Tryz.ntmps169
  go_wp2_with fail
  refine wp_loop_rounds 5 ?_
  rw [rounds_succ]
  go_wp2_with fail
  rw [rounds_succ]
  go_wp2_with fail
  rw [rounds_succ]
  go_wp2_with fail
  rw [rounds_succ]
  go_wp2_with fail
  rw [rounds_succ]
  go_wp2_with fail
  go_ret
  exact ⟨rfl, rfl⟩

/-- A turn of a word to the right by n places, as RotateLeft32 spells it. -/
def ror (n : Nat) (v : Int) : Int := bits BinOp.or IntKind.u32 (v * 2 ^ (32 - n) % 4294967296) (v / 2 ^ n)

set_option maxHeartbeats 2000000 in
set_option maxRecDepth 100000 in
theorem rol_c (n : Int) (hn : n = 2 ∨ n = 6 ∨ n = 7 ∨ n = 11 ∨ n = 13 ∨ n = 17 ∨ n = 18 ∨ n = 19 ∨ n = 22 ∨ n = 25) (v : Int) (w : World) :
    Calls Tryz.prog 170 #[.int .u32 v, .int .i64 (-n)] w fun e w' => e = .returned (.int .u32 (ror n.toNat v)) ∧ w = w' := by
  rcases hn with rfl | rfl | rfl | rfl | rfl | rfl | rfl | rfl | rfl | rfl
  · have hk : bits BinOp.and IntKind.u64 (IntKind.u64.wrap (-2)) 31 = 30 := by kernel_rfl
    go_enter Tryz.func170, Tryz.ntmps170
    go_wp2_with fail
    go_ret
    exact ⟨rfl, rfl⟩
  · have hk : bits BinOp.and IntKind.u64 (IntKind.u64.wrap (-6)) 31 = 26 := by kernel_rfl
    go_enter Tryz.func170, Tryz.ntmps170
    go_wp2_with fail
    go_ret
    exact ⟨rfl, rfl⟩
  · have hk : bits BinOp.and IntKind.u64 (IntKind.u64.wrap (-7)) 31 = 25 := by kernel_rfl
    go_enter Tryz.func170, Tryz.ntmps170
    go_wp2_with fail
    go_ret
    exact ⟨rfl, rfl⟩
  · have hk : bits BinOp.and IntKind.u64 (IntKind.u64.wrap (-11)) 31 = 21 := by kernel_rfl
    go_enter Tryz.func170, Tryz.ntmps170
    go_wp2_with fail
    go_ret
    exact ⟨rfl, rfl⟩
  · have hk : bits BinOp.and IntKind.u64 (IntKind.u64.wrap (-13)) 31 = 19 := by kernel_rfl
    go_enter Tryz.func170, Tryz.ntmps170
    go_wp2_with fail
    go_ret
    exact ⟨rfl, rfl⟩
  · have hk : bits BinOp.and IntKind.u64 (IntKind.u64.wrap (-17)) 31 = 15 := by kernel_rfl
    go_enter Tryz.func170, Tryz.ntmps170
    go_wp2_with fail
    go_ret
    exact ⟨rfl, rfl⟩
  · have hk : bits BinOp.and IntKind.u64 (IntKind.u64.wrap (-18)) 31 = 14 := by kernel_rfl
    go_enter Tryz.func170, Tryz.ntmps170
    go_wp2_with fail
    go_ret
    exact ⟨rfl, rfl⟩
  · have hk : bits BinOp.and IntKind.u64 (IntKind.u64.wrap (-19)) 31 = 13 := by kernel_rfl
    go_enter Tryz.func170, Tryz.ntmps170
    go_wp2_with fail
    go_ret
    exact ⟨rfl, rfl⟩
  · have hk : bits BinOp.and IntKind.u64 (IntKind.u64.wrap (-22)) 31 = 10 := by kernel_rfl
    go_enter Tryz.func170, Tryz.ntmps170
    go_wp2_with fail
    go_ret
    exact ⟨rfl, rfl⟩
  · have hk : bits BinOp.and IntKind.u64 (IntKind.u64.wrap (-25)) 31 = 7 := by kernel_rfl
    go_enter Tryz.func170, Tryz.ntmps170
    go_wp2_with fail
    go_ret
    exact ⟨rfl, rfl⟩

/-- Three turns, folded. -/
def ror3 (a b c : Nat) (v : Int) : Int := bits BinOp.xor IntKind.u32 (bits BinOp.xor IntKind.u32 (ror a v) (ror b v)) (ror c v)

set_option maxHeartbeats 2000000 in
set_option maxRecDepth 100000 in
theorem rotated_c (v : Int) (w : World) (a b c : Int) (h : a = 6 ∧ b = 11 ∧ c = 25 ∨ a = 2 ∧ b = 13 ∧ c = 22) :
    Calls Tryz.prog 171 #[.int .u32 v, .int .i64 a, .int .i64 b, .int .i64 c] w fun e w' => e = .returned (.int .u32 (ror3 a.toNat b.toNat c.toNat v)) ∧ w = w' := by
  rcases h with ⟨rfl, rfl, rfl⟩ | ⟨rfl, rfl, rfl⟩
  · go_enter Tryz.func171, Tryz.ntmps171
    go_wp2_with fail
    refine (rol_c 6 (by decide) _ _).mono ?_
    rintro e w1 ⟨rfl, rfl⟩
    go_wp2_with fail
    refine (rol_c 11 (by decide) _ _).mono ?_
    rintro e w1 ⟨rfl, rfl⟩
    go_wp2_with fail
    refine (rol_c 25 (by decide) _ _).mono ?_
    rintro e w1 ⟨rfl, rfl⟩
    go_wp2_with fail
    go_ret
    exact ⟨rfl, rfl⟩
  · go_enter Tryz.func171, Tryz.ntmps171
    go_wp2_with fail
    refine (rol_c 2 (by decide) _ _).mono ?_
    rintro e w1 ⟨rfl, rfl⟩
    go_wp2_with fail
    refine (rol_c 13 (by decide) _ _).mono ?_
    rintro e w1 ⟨rfl, rfl⟩
    go_wp2_with fail
    refine (rol_c 22 (by decide) _ _).mono ?_
    rintro e w1 ⟨rfl, rfl⟩
    go_wp2_with fail
    go_ret
    exact ⟨rfl, rfl⟩
end Go.Proofs.YtjbojoeafdkkeaaGreatDoor

namespace Go.Proofs.YtjbojoeafdkkeaaGreatDoor
open Go Go.RowKit Go.Lib

/-- Block B holds these numbers, and may be written. -/
def Blk (w : World) (B : Nat) (k : IntKind) (l : List Int) : Prop := ∀ i, (h : i < l.length) → w.cell? ⟨B, i, none⟩ = some (.int k l[i]) ∧ w.frozen? ⟨B, i, none⟩ = false
theorem Blk.get {w : World} {B : Nat} {k : IntKind} {l : List Int} (h : Blk w B k l) {i : Nat} {x : Int} (hi : l[i]? = some x) : w.cell? ⟨B, i, none⟩ = some (.int k x) := by
  obtain ⟨hl, rfl⟩ := List.getElem?_eq_some_iff.1 hi
  exact (h i hl).1
theorem Blk.fr {w : World} {B : Nat} {k : IntKind} {l : List Int} (h : Blk w B k l) {i : Nat} (hi : i < l.length) : w.frozen? ⟨B, i, none⟩ = false := (h i hi).2
theorem Blk.lt {w : World} {B : Nat} {k : IntKind} {l : List Int} (h : Blk w B k l) (hl : 0 < l.length) : B < w.heap.size := cell_lt (h 0 hl).1
theorem Blk.setCell {w : World} {B : Nat} {k : IntKind} {l : List Int} (h : Blk w B k l) (i : Nat) (x : Int) : Blk (w.setCell ⟨B, i, none⟩ (.int k x)) B k (l.set i x) := by
  intro j hj
  rw [List.length_set] at hj
  have hc := h j hj
  refine ⟨?_, by rw [World.frozen?_setCell]; exact hc.2⟩
  by_cases e : i = j
  · subst e
    rw [List.getElem_set_self]
    exact World.cell?_setCell_same w _ _ hc.1
  · rw [List.getElem_set_ne e]
    rw [World.cell?_setCell_other _ _ _ _ (by intro e2; have := congrArg Addr.off e2; simp at this; omega)]
    exact hc.1
theorem Blk.other {w : World} {B : Nat} {k : IntKind} {l : List Int} (h : Blk w B k l) {a : Addr} (ha : a.block ≠ B) (u : Value) : Blk (w.setCell a u) B k l := fun j hj =>
  ⟨by rw [World.cell?_setCell_other _ _ _ _ (by intro e; exact ha (congrArg Addr.block e))]; exact (h j hj).1, by rw [World.frozen?_setCell]; exact (h j hj).2⟩
theorem Blk.of_heap {w w' : World} {B : Nat} {k : IntKind} {l : List Int} (h : Blk w B k l) (e : w'.heap[B]? = w.heap[B]?) : Blk w' B k l := fun j hj =>
  ⟨(World.cell?_of_block (w := w) (a := ⟨B, j, none⟩) e).trans (h j hj).1, (World.frozen?_of_block (w := w) (a := ⟨B, j, none⟩) e).trans (h j hj).2⟩
theorem Blk.below {w w' : World} {B N : Nat} {k : IntKind} {l : List Int} (h : Blk w B k l) (hb : Below N w w') (hB : B < N) : Blk w' B k l := h.of_heap (hb.block B hB)
theorem Blk.alloc {w : World} {B : Nat} {k : IntKind} {l : List Int} (h : Blk w B k l) (hB : B < w.heap.size) (o : Obj) : Blk (w.alloc o) B k l := h.of_heap (Below.heap_alloc _ _ _ hB)
theorem Blk.grown {w w' : World} {B : Nat} {r : Option Nat} {k : IntKind} {l : List Int} (h : Blk w B k l) (hg : w.grownBy w' r) (hB : B < w.heap.size) (hr : some B ≠ r) : Blk w' B k l := h.of_heap (hg.block B hB hr)
theorem blk_new (w : World) (k : IntKind) (l : List Int) (t : TypeId) : Blk (w.alloc (.cells (l.map (.int k)).toArray t)) w.heap.size k l := by
  intro j hj
  refine ⟨?_, ?_⟩
  · rw [cells_new]; simp [hj]
  · simp only [World.frozen?, World.alloc_heap_new]; simp

/-- Eight cells set, from the highest place down. -/
def put8 (l : List Int) (o : Nat) (n : Int) : List Int :=
  (((((((l.set (o + 7) (n % 256)).set (o + 6) (n / 256 % 256)).set (o + 5) (n / 65536 % 256)).set (o + 4) (n / 16777216 % 256)).set (o + 3) (n / 4294967296 % 256)).set (o + 2) (n / 1099511627776 % 256)).set (o + 1) (n / 281474976710656 % 256)).set o (n / 72057594037927936 % 256)
def put4 (l : List Int) (o : Nat) (n : Int) : List Int :=
  (((l.set (o + 3) (n % 256)).set (o + 2) (n / 256 % 256)).set (o + 1) (n / 65536 % 256)).set o (n / 16777216 % 256)

theorem grown_set {w w' : World} {b : Nat} (h : w.grownBy w' (some b)) {a : Addr} (ha : a.block = b) (u : Value) : w.grownBy (w'.setCell a u) (some b) :=
  grown_trans h ⟨rfl, rfl, rfl, by simp [World.setCell], fun k _ hk => Below.heap_setCell _ _ _ _ (fun e => hk (by rw [e, ha]))⟩ (r1 := some b) (.inl rfl)
theorem grown_refl (w : World) (r : Option Nat) : w.grownBy w r := ⟨rfl, rfl, rfl, Nat.le_refl _, fun _ _ _ => rfl⟩

set_option maxHeartbeats 4000000 in
set_option maxRecDepth 100000 in
theorem put8_c (b o cap : Nat) (n : Int) (l : List Int) (w : World) (hc : Blk w b .u8 l) (ho : o + 8 ≤ l.length) (hcap : 8 ≤ cap) :
    Calls Tryz.prog 131 #[.slice (some ⟨b, o, none⟩) 8 cap, .int .u64 n] w fun e w' => e = .returned (.tuple #[]) ∧ Blk w' b .u8 (put8 l o n) ∧ w.grownBy w' (some b) := by
  have HC := Bx.mk hc
  have c0 := (hc o (by omega)).1; have f0 := hc.fr (i := o) (by omega)
  have c1 := (hc (o + 1) (by omega)).1; have f1 := hc.fr (i := o + 1) (by omega)
  have c2 := (hc (o + 2) (by omega)).1; have f2 := hc.fr (i := o + 2) (by omega)
  have c3 := (hc (o + 3) (by omega)).1; have f3 := hc.fr (i := o + 3) (by omega)
  have c4 := (hc (o + 4) (by omega)).1; have f4 := hc.fr (i := o + 4) (by omega)
  have c5 := (hc (o + 5) (by omega)).1; have f5 := hc.fr (i := o + 5) (by omega)
  have c6 := (hc (o + 6) (by omega)).1; have f6 := hc.fr (i := o + 6) (by omega)
  have c7 := (hc (o + 7) (by omega)).1; have f7 := hc.fr (i := o + 7) (by omega)
  clear hc
  go_enter Tryz.func131, Tryz.ntmps131
  go_wp2_with fail
  refine wp_loop_rounds 9 ?_
  iterate 9 (rw [rounds_succ]; go_wp2_with fail)
  go_end0
  refine ⟨rfl, ?_, ?_⟩
  · unfold put8
    refine Blk.setCell ?_ _ _
    refine Blk.setCell ?_ _ _
    refine Blk.setCell ?_ _ _
    refine Blk.setCell ?_ _ _
    refine Blk.setCell ?_ _ _
    refine Blk.setCell ?_ _ _
    refine Blk.setCell ?_ _ _
    refine Blk.setCell ?_ _ _
    exact HC.out
  · refine grown_set ?_ rfl _
    refine grown_set ?_ rfl _
    refine grown_set ?_ rfl _
    refine grown_set ?_ rfl _
    refine grown_set ?_ rfl _
    refine grown_set ?_ rfl _
    refine grown_set ?_ rfl _
    refine grown_set ?_ rfl _
    exact grown_refl _ _

set_option maxHeartbeats 4000000 in
set_option maxRecDepth 100000 in
theorem put4_c (b o cap : Nat) (n : Int) (l : List Int) (w : World) (hc : Blk w b .u8 l) (ho : o + 4 ≤ l.length) (hcap : 4 ≤ cap) :
    Calls Tryz.prog 131 #[.slice (some ⟨b, o, none⟩) 4 cap, .int .u64 n] w fun e w' => e = .returned (.tuple #[]) ∧ Blk w' b .u8 (put4 l o n) ∧ w.grownBy w' (some b) := by
  have HC := Bx.mk hc
  have c0 := (hc o (by omega)).1; have f0 := hc.fr (i := o) (by omega)
  have c1 := (hc (o + 1) (by omega)).1; have f1 := hc.fr (i := o + 1) (by omega)
  have c2 := (hc (o + 2) (by omega)).1; have f2 := hc.fr (i := o + 2) (by omega)
  have c3 := (hc (o + 3) (by omega)).1; have f3 := hc.fr (i := o + 3) (by omega)
  clear hc
  go_enter Tryz.func131, Tryz.ntmps131
  go_wp2_with fail
  refine wp_loop_rounds 5 ?_
  iterate 5 (rw [rounds_succ]; go_wp2_with fail)
  go_end0
  refine ⟨rfl, ?_, ?_⟩
  · unfold put4
    refine Blk.setCell ?_ _ _
    refine Blk.setCell ?_ _ _
    refine Blk.setCell ?_ _ _
    refine Blk.setCell ?_ _ _
    exact HC.out
  · refine grown_set ?_ rfl _
    refine grown_set ?_ rfl _
    refine grown_set ?_ rfl _
    refine grown_set ?_ rfl _
    exact grown_refl _ _
end Go.Proofs.YtjbojoeafdkkeaaGreatDoor

namespace Go.Proofs.YtjbojoeafdkkeaaGreatDoor
open Go Go.RowKit Go.Lib

/-- The cells at b, from o on, are these bytes. -/
def U8 (w : World) (b o : Nat) (l : List Int) : Prop := ∀ i, (h : i < l.length) → w.cell? ⟨b, o + i, none⟩ = some (.int .u8 l[i])
theorem U8.get {w : World} {b o : Nat} {l : List Int} (h : U8 w b o l) {i : Nat} (hi : i < l.length) : w.cell? ⟨b, o + i, none⟩ = some (.int .u8 (l.getD i 0)) := by
  rw [h i hi]; simp [List.getD, hi]
theorem U8.below {w w' : World} {b o N : Nat} {l : List Int} (h : U8 w b o l) (hb : b < N) (hw : Below N w w') : U8 w' b o l := fun i hi => (hw.cell (p := ⟨b, _, none⟩) hb).trans (h i hi)

theorem Blk.at {w : World} {B : Nat} {k : IntKind} {l : List Int} (h : Blk w B k l) {i : Nat} (hi : i < l.length) : w.cell? ⟨B, i, none⟩ = some (.int k (l.getD i 0)) := by
  rw [(h i hi).1]; simp [List.getD, hi]

theorem wp_still_tail {P : Program} {id : Nat} {Q : Exit → Act → World → Prop} {a : Act} {w : World} {l : List Oper} (n : Nat) (hm : P.follows .mixedOrders = true) (hB : Region.lexTailB .any l.toArray n = true)
    (h : wpStill P l.toArray w.drew (fun a' => wpList P l.toArray Q (l.drop n) a' w.drew) (l.take n) a) : (Code.region id l.toArray true).wp P Q a w := wp_region_still_tail n hm hB h
theorem rol_s (n : Int) (hn : n = 2 ∨ n = 6 ∨ n = 7 ∨ n = 11 ∨ n = 13 ∨ n = 17 ∨ n = 18 ∨ n = 19 ∨ n = 22 ∨ n = 25) (v : Int) (w : World) :
    Calls Tryz.prog 170 #[.int .u32 v, .int .i64 (-n)] w fun e w' => e = .returned (.int .u32 (ror n.toNat v)) ∧ w' = w := (rol_c n hn v w).mono fun _ _ h => ⟨h.1, h.2.symm⟩
theorem rotated_s (v : Int) (w : World) (a b c : Int) (h : a = 6 ∧ b = 11 ∧ c = 25 ∨ a = 2 ∧ b = 13 ∧ c = 22) :
    Calls Tryz.prog 171 #[.int .u32 v, .int .i64 a, .int .i64 b, .int .i64 c] w fun e w' => e = .returned (.int .u32 (ror3 a.toNat b.toNat c.toNat v)) ∧ w' = w := (rotated_c v w a b c h).mono fun _ _ h => ⟨h.1, h.2.symm⟩

/-- The first sixteen words of the schedule, behind k rounds. -/
def W16 (l : List Int) : Nat → List Int
  | 0 => List.replicate 64 0
  | k + 1 => (W16 l k).set k (wd4 (l.getD (4 * k) 0) (l.getD (4 * k + 1) 0) (l.getD (4 * k + 2) 0) (l.getD (4 * k + 3) 0))
theorem W16_len (l : List Int) : ∀ k, (W16 l k).length = 64
  | 0 => by simp [W16]
  | k + 1 => by simp [W16, W16_len l k]

/-- The next word of the schedule. -/
def sch (x y z u : Int) : Int := (z + bits BinOp.xor IntKind.u32 (bits BinOp.xor IntKind.u32 (ror 7 x) (ror 18 x)) (x / 8) + u + bits BinOp.xor IntKind.u32 (bits BinOp.xor IntKind.u32 (ror 17 y) (ror 19 y)) (y / 1024)) % 4294967296
def WN (l : List Int) : Nat → List Int
  | 0 => W16 l 16
  | j + 1 => (WN l j).set (j + 16) (sch ((WN l j).getD (j + 1) 0) ((WN l j).getD (j + 14) 0) ((WN l j).getD j 0) ((WN l j).getD (j + 9) 0))
theorem WN_len (l : List Int) : ∀ k, (WN l k).length = 64
  | 0 => W16_len l 16
  | k + 1 => by simp [WN, WN_len l k]
theorem WN_step (l : List Int) (k : Nat) (hk : 16 ≤ k) : WN l (k + 1 - 16) = (WN l (k - 16)).set k (sch ((WN l (k - 16)).getD (k - 15) 0) ((WN l (k - 16)).getD (k - 2) 0) ((WN l (k - 16)).getD (k - 16) 0) ((WN l (k - 16)).getD (k - 7) 0)) := by
  obtain ⟨j, rfl⟩ : ∃ j, k = j + 16 := ⟨k - 16, by omega⟩
  have e1 : j + 16 + 1 - 16 = j + 1 := by omega
  have e2 : j + 16 - 16 = j := by omega
  have e3 : j + 16 - 15 = j + 1 := by omega
  have e4 : j + 16 - 2 = j + 14 := by omega
  have e5 : j + 16 - 7 = j + 9 := by omega
  rw [e1, e2, e3, e4, e5, WN]

def KK : List Int := [1116352408, 1899447441, 3049323471, 3921009573, 961987163, 1508970993, 2453635748, 2870763221, 3624381080, 310598401, 607225278, 1426881987, 1925078388, 2162078206, 2614888103, 3248222580, 3835390401, 4022224774, 264347078, 604807628, 770255983, 1249150122, 1555081692, 1996064986, 2554220882, 2821834349, 2952996808, 3210313671, 3336571891, 3584528711, 113926993, 338241895, 666307205, 773529912, 1294757372, 1396182291, 1695183700, 1986661051, 2177026350, 2456956037, 2730485921, 2820302411, 3259730800, 3345764771, 3516065817, 3600352804, 4094571909, 275423344, 430227734, 506948616, 659060556, 883997877, 958139571, 1322822218, 1537002063, 1747873779, 1955562222, 2024104815, 2227730452, 2361852424, 2428436474, 2756734187, 3204031479, 3329325298]
def SS : List Int := [1779033703, 3144134277, 1013904242, 2773480762, 1359893119, 2600822924, 528734635, 1541459225]
theorem KK_len : KK.length = 64 := rfl
theorem SS_len : SS.length = 8 := rfl
/-- The package variables of digest read as they were laid. -/
structure Laid (w : World) : Prop where
  nums : ∀ i, i < 64 → w.cell? ⟨2, i, none⟩ = some (.int .u32 (KK.getD i 0))
  start : ∀ i, i < 8 → w.cell? ⟨1, i, none⟩ = some (.int .u32 (SS.getD i 0))
theorem Laid.below {w w' : World} {N : Nat} (h : Laid w) (hb : Below N w w') (hN : w.heap.size ≤ N) : Laid w' :=
  ⟨fun i hi => (hb.cell (p := ⟨_, i, none⟩) (Nat.lt_of_lt_of_le (cell_lt (h.nums 0 (by decide))) hN)).trans (h.nums i hi), fun i hi => (hb.cell (p := ⟨_, i, none⟩) (Nat.lt_of_lt_of_le (cell_lt (h.start 0 (by decide))) hN)).trans (h.start i hi)⟩

structure S8 where
  a : Int
  b : Int
  c : Int
  d : Int
  e : Int
  f : Int
  g : Int
  h : Int
def S8.l (s : S8) : List Int := [s.a, s.b, s.c, s.d, s.e, s.f, s.g, s.h]

theorem Blk.s8 {w : World} {B : Nat} {s : S8} (h : Blk w B .u32 s.l) :
    w.cell? ⟨B, 0, none⟩ = some (.int .u32 s.a) ∧ w.cell? ⟨B, 1, none⟩ = some (.int .u32 s.b) ∧ w.cell? ⟨B, 2, none⟩ = some (.int .u32 s.c) ∧ w.cell? ⟨B, 3, none⟩ = some (.int .u32 s.d) ∧ w.cell? ⟨B, 4, none⟩ = some (.int .u32 s.e) ∧ w.cell? ⟨B, 5, none⟩ = some (.int .u32 s.f) ∧ w.cell? ⟨B, 6, none⟩ = some (.int .u32 s.g) ∧ w.cell? ⟨B, 7, none⟩ = some (.int .u32 s.h) :=
  ⟨h.get (i := 0) rfl, h.get (i := 1) rfl, h.get (i := 2) rfl, h.get (i := 3) rfl, h.get (i := 4) rfl, h.get (i := 5) rfl, h.get (i := 6) rfl, h.get (i := 7) rfl⟩
theorem Blk.s8f {w : World} {B : Nat} {s : S8} (h : Blk w B .u32 s.l) (i : Nat) (hi : i < 8) : w.frozen? ⟨B, i, none⟩ = false := h.fr (i := i) hi

/-- The numbers xs set from place o on. -/
def setFrom (l : List Int) (o : Nat) : List Int → List Int
  | [] => l
  | x :: xs => setFrom (l.set o x) (o + 1) xs

theorem wpList_copy {P : Program} {w : World} {ops : Array Oper} {rest : List Oper} {o : Oper} {a : Act} {Q : Exit → Act → World → Prop} (hgd : o.guard = none) (d s : Operand) (dT sT : TypeId)
    (ho : o.op = .call { callee := .builtin .copy, args := #[d, s], argTypes := #[dT, sT] }) (elem : TypeId)
    (hu : P.underlying dT = some (.slice elem)) (hs : (P.info? elem).map (·.size) = some 1)
    (b oo dLen dCap : Nat) (ad : Addr) (sLen sCap : Nat) (cs : List Value) (hd : a.eval d = .slice (some ⟨b, oo, none⟩) dLen dCap) (hx : a.eval s = .slice (some ad) sLen sCap)
    (hn : cs.length = Nat.min sLen dLen) (hsrc : ∀ j v, cs[j]? = some v → w.cell? (ad.add j) = some v) (hc : ∀ j, j < cs.length → (w.cell? ⟨b, oo + j, none⟩).isSome = true) (hf : ∀ j, j < cs.length → w.frozen? ⟨b, oo + j, none⟩ = false) (h1 : ∀ v ∈ cs, v.oneCell' = true)
    (h : wpList P ops Q rest (a.put o.dst (goInt cs.length)) (w.setCells b oo cs)) : wpList P ops Q (o :: rest) a w :=
  wpList_plain hgd fun K hK => by
    have hr := run_copy_cells (P := P) w dT sT o.type elem b oo dLen dCap ad sLen sCap cs hu hs hn hsrc hc hf h1
    unfold Oper.wp execOp
    simp only [ho, resolve, invoke, builtin, Sem.run_bind, Sem.run_pure, Result.andThen_ok, List.map_toArray, List.map_cons, List.map_nil, hd, hx, hr]
    exact hK _ _ h

theorem Blk.src {w : World} {B : Nat} {k : IntKind} {l : List Int} (h : Blk w B k l) {cs : List Value} {m : Nat} (hcs : cs = (l.take m).map (.int k)) : ∀ j u, cs[j]? = some u → w.cell? ((⟨B, 0, none⟩ : Addr).add j) = some u := by
  intro j u hj
  subst hcs
  rw [List.getElem?_map, Option.map_eq_some_iff] at hj
  obtain ⟨x, hx, rfl⟩ := hj
  have : l[j]? = some x := by
    rw [List.getElem?_take] at hx
    split at hx
    · exact hx
    · cases hx
  have := h.get this
  have e : (⟨B, 0, none⟩ : Addr).add j = ⟨B, j, none⟩ := by unfold Addr.add; split <;> simp_all
  rw [e]
  exact this
theorem one_ints (k : IntKind) (l : List Int) : ∀ u ∈ l.map (Value.int k), u.oneCell' = true := by
  intro u hu
  obtain ⟨x, _, rfl⟩ := List.mem_map.1 hu
  rfl
theorem Blk.setCells {w : World} {B : Nat} {k : IntKind} : ∀ {l : List Int} (xs : List Int) (o : Nat), Blk w B k l → Blk (w.setCells B o (xs.map (.int k))) B k (setFrom l o xs)
  | l, [], o, h => h
  | l, x :: xs, o, h => Blk.setCells (w := w.setCell ⟨B, o, none⟩ (.int k x)) xs (o + 1) (h.setCell o x)
theorem Blk.others {B B' : Nat} {k : IntKind} {l : List Int} (hB : B' ≠ B) : ∀ (xs : List Value) (o : Nat) {w : World}, Blk w B k l → Blk (w.setCells B' o xs) B k l
  | [], _, _, h => h
  | x :: xs, o, _, h => Blk.others hB xs (o + 1) (h.other (a := ⟨B', o, none⟩) hB x)
theorem Below.setCells {B b : Nat} (hb : B ≤ b) : ∀ (xs : List Value) (o : Nat) {a w : World}, Below B a w → Below B a (w.setCells b o xs)
  | [], _, _, _, h => h
  | x :: xs, o, _, _, h => Below.setCells hb xs (o + 1) (Below.setCell (p := ⟨b, o, none⟩) h hb x)

/-- A round on the eight words: k is the round's number, w the schedule's word. -/
def rnd (s : S8) (k w : Int) : S8 :=
  let p := ((s.h + ror3 6 11 25 s.e + bits BinOp.xor IntKind.u32 s.g (bits BinOp.and IntKind.u32 s.e (bits BinOp.xor IntKind.u32 s.f s.g)) + k) % 4294967296 + w) % 4294967296
  let q := (ror3 2 13 22 s.a + bits BinOp.or IntKind.u32 (bits BinOp.and IntKind.u32 s.a s.b) (bits BinOp.and IntKind.u32 s.c (bits BinOp.or IntKind.u32 s.a s.b))) % 4294967296
  ⟨(p + q) % 4294967296, s.a, s.b, s.c, (s.d + p) % 4294967296, s.e, s.f, s.g⟩
def RN (W : List Int) (s : S8) : Nat → S8
  | 0 => s
  | k + 1 => rnd (RN W s k) (KK.getD k 0) (W.getD k 0)

theorem grown_drew {w w' : World} {r : Option Nat} (h : w.grownBy w' r) : w.grownBy w'.drew r := ⟨h.os, h.tape, h.output, h.size, h.block⟩
/-- The state with the eight words of a block added, one place after the other. -/
def FN (s v : List Int) : Nat → List Int
  | 0 => s
  | k + 1 => (FN s v k).set k (((FN s v k).getD k 0 + v.getD k 0) % 4294967296)
theorem FN_len (s v : List Int) : ∀ k, (FN s v k).length = s.length
  | 0 => rfl
  | k + 1 => by simp [FN, FN_len s v k]
def add8 (s v : S8) : S8 := ⟨(s.a + v.a) % 4294967296, (s.b + v.b) % 4294967296, (s.c + v.c) % 4294967296, (s.d + v.d) % 4294967296, (s.e + v.e) % 4294967296, (s.f + v.f) % 4294967296, (s.g + v.g) % 4294967296, (s.h + v.h) % 4294967296⟩
theorem FN_8 (s v : S8) : FN s.l v.l 8 = (add8 s v).l := rfl
/-- What absorb makes of a state and a block of 64 bytes. -/
def absorb (s : S8) (l : List Int) : S8 := add8 s (RN (WN l 48) s 64)
theorem grown_of_below {w w' : World} (h : Below w.heap.size w w') (r : Option Nat) : w.grownBy w' r := ⟨h.os, h.tape, h.output, h.size, fun k hk _ => h.block k hk⟩

set_option maxHeartbeats 4000000 in
set_option maxRecDepth 100000 in
theorem absorb_c (S b o n cap : Nat) (st : S8) (l : List Int) (w : World) (hL : Laid w) (hS : Blk w S .u32 st.l) (hl : l.length = 64) (hcap : n ≤ cap) (hn : 64 ≤ n) (hcap2 : cap ≤ 9223372036854775807) (hu : U8 w b o l) (hb : b < w.heap.size) :
    Calls Tryz.prog 130 #[.pointer (some ⟨S, 0, none⟩), .slice (some ⟨b, o, none⟩) n cap] w fun e w' => e = .returned (.tuple #[]) ∧ Blk w' S .u32 (absorb st l).l ∧ w.grownBy w' (some S) := by
  have HU := Bx.mk hu; have HS := Bx.mk hS; have HLS := Bx.mk (hS.lt (Nat.zero_lt_succ _)); have HLD := Bx.mk hL
  clear hu hS hL
  have W0 := Bx.mk (blk_new w .u32 (List.replicate 64 0) 221)
  have HB0 := Bx.mk ((Below.refl w.heap.size w).alloc (Nat.le_refl _) (.cells ((List.replicate 64 0).map (.int .u32)).toArray 221))
  go_enter Tryz.func130, Tryz.ntmps130
  go_wp2_with fail
  go_loopg [14] 16 (fun g s14 wr => ∃ (k : Nat), s14 = .int .i64 k ∧ k ≤ 16 ∧ Bx (g = 16 - k) ∧ Bx (Blk wr w.heap.size .u32 (W16 l k)) ∧ Bx (Below w.heap.size w wr))
  case atStart => exact ⟨0, rfl, by omega, .mk rfl, W0, HB0⟩
  case round =>
    obtain ⟨k, rfl, hk, hg, hW, hB⟩ := hrel
    by_cases hlt : k < 16
    · have u := HU.out.below hb hB.out
      have u0 := u.get (i := 4 * k) (by omega); have u1 := u.get (i := 4 * k + 1) (by omega); have u2 := u.get (i := 4 * k + 2) (by omega); have u3 := u.get (i := 4 * k + 3) (by omega)
      have hlen := W16_len l k
      have ck := hW.out.at (i := k) (by omega)
      have fk := hW.out.fr (i := k) (by omega)
      have Hu := Bx.mk (show _ ∧ _ ∧ _ ∧ _ from ⟨u0, u1, u2, u3⟩)
      clear u u0 u1 u2 u3 hlen
      go_wp2_with fail
      refine (word_c b (o + 4 * k) _ _ _ _ _ _ _ (by omega) Hu.out.1 Hu.out.2.1 Hu.out.2.2.1 Hu.out.2.2.2).mono ?_
      rintro e w1 ⟨rfl, rfl⟩
      go_wp2_with fail
      go_roundg (16 - k - 1)
      case measure => have := hg.out; omega
      case rel => exact ⟨k + 1, by go_num, by omega, .mk (by omega), .mk (hW.out.setCell k _), .mk (hB.out.setCell (p := ⟨w.heap.size, k, none⟩) (Nat.le_refl _) _)⟩
    · obtain rfl : k = 16 := by omega
      clear hg hlt hk
      have hW2 := Bx.mk (show Blk wr w.heap.size .u32 (WN l 0) from hW.out)
      clear hW
      go_wp2_with fail
      go_loopg [6] 48 (fun g s6 wr => ∃ (k : Nat), s6 = .int .i64 k ∧ 16 ≤ k ∧ k ≤ 64 ∧ Bx (g = 64 - k) ∧ Bx (Blk wr w.heap.size .u32 (WN l (k - 16))) ∧ Bx (Below w.heap.size w wr))
      case atStart => exact ⟨16, rfl, by omega, by omega, .mk rfl, hW2, hB⟩
      case round =>
        rename_i wr0 gk0
        obtain ⟨k, rfl, hk16, hk, hg, hW, hB⟩ := hrel
        by_cases hlt : k < 64
        · have hlen := WN_len l (k - 16)
          have ck := hW.out.at (i := k) (by omega)
          have fk := hW.out.fr (i := k) (by omega)
          have ck15 := hW.out.at (i := k - 15) (by omega)
          have ck2 := hW.out.at (i := k - 2) (by omega)
          have ck16 := hW.out.at (i := k - 16) (by omega)
          have ck7 := hW.out.at (i := k - 7) (by omega)
          clear hlen
          obtain ⟨x, hx⟩ : ∃ x, x = (WN l (k - 16)).getD (k - 15) 0 := ⟨_, rfl⟩
          obtain ⟨y, hy⟩ : ∃ x, x = (WN l (k - 16)).getD (k - 2) 0 := ⟨_, rfl⟩
          obtain ⟨z, hz⟩ : ∃ x, x = (WN l (k - 16)).getD (k - 16) 0 := ⟨_, rfl⟩
          obtain ⟨u, hu⟩ : ∃ x, x = (WN l (k - 16)).getD (k - 7) 0 := ⟨_, rfl⟩
          obtain ⟨q, hq⟩ : ∃ x, x = (WN l (k - 16)).getD k 0 := ⟨_, rfl⟩
          rw [← hx] at ck15; rw [← hy] at ck2; rw [← hz] at ck16; rw [← hu] at ck7; rw [← hq] at ck
          have HX := Bx.mk (show _ ∧ _ ∧ _ ∧ _ from ⟨hx, hy, hz, hu⟩)
          clear hx hy hz hu hq
          go_wp2_with fail
          go_quiet (fail)
          go_wp2_with fail
          have w16 : IntKind.i64.wrap ((k : Int) - 16) = (k : Int) - 16 := by rw [IntKind.wrap_i64]; omega
          have w7 : IntKind.i64.wrap ((k : Int) - 7) = (k : Int) - 7 := by rw [IntKind.wrap_i64]; omega
          have g16 : (16 : Int) ≤ (k : Int) := by omega
          have g16u : (k : Int) - 16 < 64 := by omega
          have g7 : (7 : Int) ≤ (k : Int) := by omega
          have g7u : (k : Int) - 7 < 64 := by omega
          have t16 : ((k : Int) - 16).toNat = k - 16 := by omega
          have t7 : ((k : Int) - 7).toNat = k - 7 := by omega
          refine wp_still_tail 28 (by kernel_rfl) (by kernel_rfl) ?_
          simp only [List.take_succ_cons, List.take_zero, List.drop_succ_cons, List.drop_zero]
          repeat still_step
          still_call (rol_s 7 (by decide) _ _)
          repeat still_step
          still_call (rol_s 18 (by decide) _ _)
          repeat still_step
          still_call (rol_s 17 (by decide) _ _)
          repeat still_step
          still_call (rol_s 19 (by decide) _ _)
          repeat still_step
          refine wpStill_nil ?_
          go_wp2_with fail
          go_roundg (64 - k - 1)
          case measure => have := hg.out; omega
          case rel =>
            refine ⟨k + 1, by go_num, by omega, by omega, .mk (by omega), .mk ?_, .mk ?_⟩
            · rw [WN_step l k hk16, ← HX.out.1, ← HX.out.2.1, ← HX.out.2.2.1, ← HX.out.2.2.2]
              exact Blk.setCell hW.out k _
            · exact Below.setCell (p := ⟨w.heap.size, k, none⟩) (below_drewN hB.out _) (Nat.le_refl _) _
        · obtain rfl : k = 64 := by omega
          clear hg hlt hk hk16
          have h := HS.out.below hB.out HLS.out
          obtain ⟨d0, d1, d2, d3, d4, d5, d6, d7⟩ := h.s8
          clear h
          have hV := Bx.mk (show Blk (wr.alloc (.cells #[.int .u32 st.a, .int .u32 st.b, .int .u32 st.c, .int .u32 st.d, .int .u32 st.e, .int .u32 st.f, .int .u32 st.g, .int .u32 st.h] 185)) wr.heap.size .u32 st.l from blk_new wr .u32 st.l 185)
          have hW3 := Bx.mk (hW.out.alloc (hW.out.lt (by rw [WN_len]; omega)) (.cells #[.int .u32 st.a, .int .u32 st.b, .int .u32 st.c, .int .u32 st.d, .int .u32 st.e, .int .u32 st.f, .int .u32 st.g, .int .u32 st.h] 185))
          have hB3 := Bx.mk (hB.out.alloc hB.out.size (.cells #[.int .u32 st.a, .int .u32 st.b, .int .u32 st.c, .int .u32 st.d, .int .u32 st.e, .int .u32 st.f, .int .u32 st.g, .int .u32 st.h] 185))
          have hVB : w.heap.size < wr.heap.size := hW.out.lt (by rw [WN_len]; omega)
          go_wp2_with fail
          generalize hVe : wr.heap.size = V at *
          go_loopg [69] 64 (fun g s69 wr2 => ∃ (k : Nat) (v : S8), s69 = .int .i64 k ∧ k ≤ 64 ∧ Bx (g = 64 - k) ∧ Bx (v = RN (WN l 48) st k) ∧ Bx (Blk wr2 V .u32 v.l) ∧ Bx (Blk wr2 w.heap.size .u32 (WN l 48)) ∧ Bx (Below w.heap.size w wr2))
          case atStart => exact ⟨0, st, rfl, by omega, .mk rfl, .mk rfl, hV, hW3, hB3⟩
          case round =>
            clear hV hW3 hB3 hW hB d0 d1 d2 d3 d4 d5 d6 d7 hVe
            obtain ⟨k, v, rfl, hk, hg, hv, hV, hW, hB⟩ := hrel
            by_cases hlt : k < 64
            · obtain ⟨d0, d1, d2, d3, d4, d5, d6, d7⟩ := hV.out.s8
              have cw := hW.out.at (i := k) (by rw [WN_len]; omega)
              have ck := (HLD.out.below hB.out (Nat.le_refl _)).nums k hlt
              obtain ⟨x, hx⟩ : ∃ x, x = (WN l 48).getD k 0 := ⟨_, rfl⟩
              obtain ⟨y, hy⟩ : ∃ x, x = KK.getD k 0 := ⟨_, rfl⟩
              rw [← hx] at cw; rw [← hy] at ck
              have HX := Bx.mk (show _ ∧ _ from ⟨hx, hy⟩)
              clear hx hy
              go_wp2_with fail
              go_quiet (first | (go_at_call 171; refine Calls.quiet_of_same (rotated_s _ _ 6 11 25 (by decide))))
              have hV1 := Bx.mk (show Blk (wr.drewN nq) V .u32 v.l from hV.out)
              have hW1 := Bx.mk (show Blk (wr.drewN nq) w.heap.size .u32 (WN l 48) from hW.out)
              have hB1 := Bx.mk (below_drewN hB.out nq)
              have e0 : (wr.drewN nq).cell? ⟨V, 0, none⟩ = _ := d0; have e1 : (wr.drewN nq).cell? ⟨V, 1, none⟩ = _ := d1; have e2 : (wr.drewN nq).cell? ⟨V, 2, none⟩ = _ := d2
              clear hV hW hB d0 d1 d2 d3 d4 d5 d6 d7 cw ck
              generalize wr.drewN nq = wq at *
              obtain ⟨p, hp⟩ : ∃ p, p = ((v.h + ror3 6 11 25 v.e + bits BinOp.xor IntKind.u32 v.g (bits BinOp.and IntKind.u32 v.e (bits BinOp.xor IntKind.u32 v.f v.g)) + y) % 4294967296 + x) % 4294967296 := ⟨_, rfl⟩
              rw [← hp]
              have HP := Bx.mk hp; clear hp
              go_wp2_with fail
              go_quiet (first | (go_at_call 171; refine Calls.quiet_of_same (rotated_s _ _ 2 13 22 (by decide))))
              obtain ⟨q, hq⟩ : ∃ q, q = (ror3 2 13 22 v.a + bits BinOp.or IntKind.u32 (bits BinOp.and IntKind.u32 v.a v.b) (bits BinOp.and IntKind.u32 v.c (bits BinOp.or IntKind.u32 v.a v.b))) % 4294967296 := ⟨_, rfl⟩
              rw [← hq]
              have HQ := Bx.mk hq; clear hq
              go_wp2_with fail
              refine wp_still_tail 2 (by kernel_rfl) (by kernel_rfl) ?_
              simp only [List.take_succ_cons, List.take_zero, List.drop_succ_cons, List.drop_zero]
              repeat still_step
              try refine wpStill_nil ?_
              have hV2 : Blk (wq.drewN nq).drew V .u32 v.l := hV1.out
              have hW2 : Blk (wq.drewN nq).drew w.heap.size .u32 (WN l 48) := hW1.out
              have hB2 : Below w.heap.size w (wq.drewN nq).drew := below_drewN (below_drewN hB1.out _) 1
              clear hV1 hW1 hB1 e0 e1 e2
              generalize (wq.drewN nq).drew = wz at *
              refine wpList_copy rfl (.tmp 116) (.tmp 117) 225 225 rfl 183 (by kernel_rfl) (by kernel_rfl) V 1 7 7 ⟨V, 0, none⟩ 7 8 [.int .u32 v.a, .int .u32 v.b, .int .u32 v.c, .int .u32 v.d, .int .u32 v.e, .int .u32 v.f, .int .u32 v.g] rfl rfl rfl ?_ ?_ ?_ ?_ ?_
              · exact hV2.src (m := 7) rfl
              · intro j hj
                have hj7 : j < 7 := hj
                rw [(hV2 (1 + j) (by show 1 + j < 8; omega)).1]; rfl
              · intro j hj
                have hj7 : j < 7 := hj
                exact hV2.fr (by show 1 + j < 8; omega)
              · exact one_ints .u32 [v.a, v.b, v.c, v.d, v.e, v.f, v.g]
              have hV3 := Bx.mk (show Blk (wz.setCells V 1 [.int .u32 v.a, .int .u32 v.b, .int .u32 v.c, .int .u32 v.d, .int .u32 v.e, .int .u32 v.f, .int .u32 v.g]) V .u32 (S8.mk v.a v.a v.b v.c v.d v.e v.f v.g).l from hV2.setCells [v.a, v.b, v.c, v.d, v.e, v.f, v.g] 1)
              have hW3 := Bx.mk (Blk.others (show V ≠ w.heap.size by omega) [.int .u32 v.a, .int .u32 v.b, .int .u32 v.c, .int .u32 v.d, .int .u32 v.e, .int .u32 v.f, .int .u32 v.g] 1 hW2)
              have hB3 := Bx.mk (Below.setCells (show w.heap.size ≤ V by omega) [.int .u32 v.a, .int .u32 v.b, .int .u32 v.c, .int .u32 v.d, .int .u32 v.e, .int .u32 v.f, .int .u32 v.g] 1 hB2)
              clear hV2 hW2 hB2
              generalize wz.setCells V 1 _ = wy at *
              obtain ⟨d0, d1, d2, d3, d4, d5, d6, d7⟩ := hV3.out.s8
              have f0 := hV3.out.s8f 0 (by decide); have f4 := hV3.out.s8f 4 (by decide)
              clear d1 d2 d3 d5 d6 d7
              go_wp2_with fail
              go_roundg (64 - k - 1)
              case measure => have := hg.out; omega
              case rel =>
                have hv3 := Blk.setCell (Blk.setCell hV3.out 4 ((v.d + p) % 4294967296)) 0 ((p + q) % 4294967296)
                refine ⟨k + 1, ⟨(p + q) % 4294967296, v.a, v.b, v.c, (v.d + p) % 4294967296, v.e, v.f, v.g⟩, by go_num, by omega, .mk (by omega), .mk ?_, .mk hv3, .mk ?_, .mk ?_⟩
                · show _ = rnd (RN (WN l 48) st k) (KK.getD k 0) ((WN l 48).getD k 0)
                  rw [← hv.out, ← HX.out.1, ← HX.out.2, rnd, ← HP.out, ← HQ.out]
                · exact Blk.other (Blk.other hW3.out (show V ≠ w.heap.size by omega) _) (show V ≠ w.heap.size by omega) _
                · exact Below.setCell (Below.setCell hB3.out (show w.heap.size ≤ V by omega) _) (show w.heap.size ≤ V by omega) _
            · obtain rfl : k = 64 := by omega
              clear hg hlt hk
              have hS4 := Bx.mk (HS.out.below hB.out HLS.out)
              have hG4 := Bx.mk (grown_of_below hB.out (some S))
              have hV4 := hV
              have hS9 := HLS.out
              clear hW hB hV
              go_wp2_with fail
              go_loopg [129] 8 (fun g s129 wr3 => ∃ (k : Nat), s129 = .int .i64 k ∧ k ≤ 8 ∧ Bx (g = 8 - k) ∧ Bx (Blk wr3 S .u32 (FN st.l v.l k)) ∧ Bx (Blk wr3 V .u32 v.l) ∧ Bx (w.grownBy wr3 (some S)))
              case atStart => exact ⟨0, rfl, by omega, .mk rfl, hS4, hV4, hG4⟩
              case round =>
                clear hS4 hV4 hG4
                obtain ⟨k, rfl, hk, hg, hS, hV, hG⟩ := hrel
                by_cases hlt : k < 8
                · have hlen : (FN st.l v.l k).length = 8 := FN_len _ _ _
                  have d0 := hS.out.at (i := k) (by omega)
                  have f0 := hS.out.fr (i := k) (by omega)
                  have d1 := hV.out.at (i := k) hlt
                  clear hlen
                  obtain ⟨x, hx⟩ : ∃ x, x = (FN st.l v.l k).getD k 0 := ⟨_, rfl⟩
                  obtain ⟨y, hy⟩ : ∃ x, x = v.l.getD k 0 := ⟨_, rfl⟩
                  rw [← hx] at d0; rw [← hy] at d1
                  have HX := Bx.mk (show _ ∧ _ from ⟨hx, hy⟩)
                  clear hx hy
                  go_wp2_with fail
                  refine wp_still_tail 10 (by kernel_rfl) (by kernel_rfl) ?_
                  simp only [List.take_succ_cons, List.take_zero, List.drop_succ_cons, List.drop_zero]
                  repeat still_step
                  try refine wpStill_nil ?_
                  go_wp2_with fail
                  go_roundg (8 - k - 1)
                  case measure => have := hg.out; omega
                  case rel =>
                    have hs3 := Blk.setCell hS.out k ((x + y) % 4294967296)
                    refine ⟨k + 1, by go_num, by omega, .mk (by omega), .mk ?_, .mk ?_, .mk ?_⟩
                    · rw [FN, ← HX.out.1, ← HX.out.2]; exact hs3
                    · exact Blk.other hV.out (show S ≠ V by omega) _
                    · exact grown_drew (grown_set hG.out rfl _)
                · obtain rfl : k = 8 := by omega
                  go_wp2_with fail
                  go_end0
                  refine ⟨rfl, ?_, hG.out⟩
                  have h := hS.out
                  rw [FN_8] at h
                  rw [absorb, ← hv.out]
                  exact h
end Go.Proofs.YtjbojoeafdkkeaaGreatDoor
