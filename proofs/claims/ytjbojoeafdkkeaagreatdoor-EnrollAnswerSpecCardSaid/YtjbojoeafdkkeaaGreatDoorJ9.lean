/- slices.Grow and slices.Concat at []byte; digest.Tagged. -/
import Derived.Test.YtjbojoeafdkkeaaGreatDoorJ8
import Derived.Lib.AppendZerosOnto
import Derived.Lib.Walk
import Derived.Lib.ConvBytes
import Derived.Laws.ResultCell
import Derived.ChangeKeysEq
set_option linter.unusedVariables false
set_option linter.unusedSimpArgs false
namespace Go.Proofs.YtjbojoeafdkkeaaGreatDoor
open Go Go.RowKit Go.Lib

set_option maxHeartbeats 4000000 in
set_option maxRecDepth 100000 in
theorem grow_c (n : Nat) (w : World) (h0 : 0 < n) (hn : n ≤ 100000) :
    Calls Tryz.prog 132 #[.slice none 0 0, .int .i64 n] w fun e w' => ∃ v, e = .returned v ∧ Bytes w' v [] ∧ Below w.heap.size w w' ∧ v.ownBlock = some w.heap.size := by
  obtain ⟨i, hi, hz, hs, hby⟩ := @u8_facts
  have hrz : ∀ ty, (Builtin.append_ #[61, 3] ty #[.slice none 0 0, .int .i64 (n : Int)]).run Tryz.prog w =
      .ok (.slice (some ⟨w.heap.size, 0, none⟩) n (grownCap w n 0 5)) (w.drew.alloc (.cells (#[] ++ Builtin.zeroCells (Value.int .u8 0).cells n ++ Builtin.zeroCells (Value.int .u8 0).cells (grownCap w n 0 5 - n)) 5)) := fun ty => by
    have h := run_append_grow_zeros (P := Tryz.prog) w 61 3 ty 5 i (.int .u8 0) .i64 .i64 (by kernel_rfl) (by kernel_rfl) hi hz none 0 0 [] (run_firstCells_none w.drew i.size 0 0 0) n h0 (by omega) (by omega) (by omega)
      (by rw [hby]; omega) (growslice_fits (by omega) (by rw [hby]; omega))
    simpa using h
  have hge := grownCap_ge w n 0 5
  have hmx := grownCap_le_maxLen w n 0 5 (by unfold maxLen; omega)
  unfold maxLen at hmx
  generalize grownCap w n 0 5 = G at *
  clear hi hz hs hby
  go_enter Tryz.func132, Tryz.ntmps132
  go_wp2_with (at_builtin; refine wpList_append_run _ rfl _ _ _ _ rfl _ _ rfl rfl _ _ (hrz _) ?_)
  go_ret
  refine ⟨_, rfl, ?_, (Below.drew (Below.refl _ w)).alloc (Nat.le_refl _) _, rfl⟩
  have hsz : (Builtin.zeroCells #[Value.int IntKind.u8 0] n ++ Builtin.zeroCells #[Value.int IntKind.u8 0] (G - n)).size = G * 1 := by
    simp only [Array.size_append, size_zeroCells, List.size_toArray, List.length_cons, List.length_nil]
    omega
  exact ⟨by simp [bv], .inr ⟨w.heap.size, G, _, rfl, Nat.zero_le _, heap_alloc_new w _, Nat.zero_le _, by unfold maxLen; exact hmx, hsz, by simp [bv]⟩⟩

/-- Two slices of bytes, one behind the other, in a list of slices. -/
theorem news_of_u8 {w : World} {b o : Nat} {l : List Int} (h : U8 w b o l) : ∀ j, (hj : j < l.length) → w.cell? ((⟨b, o, none⟩ : Addr).add j) = some (.int .u8 l[j]) := fun j hj => by
  rw [Addr.add_mid]; exact h j hj

set_option maxHeartbeats 4000000 in
set_option maxRecDepth 100000 in
theorem concat_c (LB b1 o1 c1 b2 o2 c2 : Nat) (l1 l2 : List Int) (w : World) (h1 : U8 w b1 o1 l1) (h2 : U8 w b2 o2 l2) (hb1 : b1 < w.heap.size) (hb2 : b2 < w.heap.size) (n1 : 0 < l1.length) (n2 : 0 < l2.length) (m1 : l1.length ≤ 10000) (m2 : l2.length ≤ 10000)
    (hc1 : w.cell? ⟨LB, 0, none⟩ = some (.slice (some ⟨b1, o1, none⟩) l1.length c1)) (hc2 : w.cell? ⟨LB, 1, none⟩ = some (.slice (some ⟨b2, o2, none⟩) l2.length c2)) :
    Calls Tryz.prog 74 #[.slice (some ⟨LB, 0, none⟩) 2 2] w fun e w' => ∃ v, e = .returned v ∧ Bytes w' v (l1 ++ l2) ∧ Below w.heap.size w w' ∧ ∀ k, v.ownBlock = some k → w.heap.size ≤ k := by
  have HC := Bx.mk (show _ ∧ _ from ⟨hc1, hc2⟩); have H1 := Bx.mk h1; have H2 := Bx.mk h2
  have hLB := cell_lt hc1
  clear h1 h2
  go_enter Tryz.func74, Tryz.ntmps74
  go_wp2_with fail
  refine wp_loop_rounds 3 ?_
  iterate 3 (rw [rounds_succ]; go_wp2_with fail)
  rw [← Int.natCast_add]
  refine (grow_c (l1.length + l2.length) w (by omega) (by omega)).mono ?_
  rintro e w1 ⟨v, rfl, hv, hb, hob⟩
  have hs := hb.size
  have hl1 : w1.cell? ⟨LB, 0, none⟩ = _ := (hb.cell (p := ⟨LB, 0, none⟩) hLB).trans HC.out.1
  have hl2 : w1.cell? ⟨LB, 1, none⟩ = _ := (hb.cell (p := ⟨LB, 1, none⟩) hLB).trans HC.out.2
  have HL2 := Bx.mk hl2
  have hneL : some LB ≠ v.ownBlock := by rw [hob]; intro e; cases e; omega
  have hne2 : some b2 ≠ v.ownBlock := by rw [hob]; intro e; cases e; omega
  have HNL := Bx.mk hneL; have HN2 := Bx.mk hne2; have HV := Bx.mk hv; have HB := Bx.mk hb; have HOB := Bx.mk hob
  have G1 := Bx.mk (news_of_u8 (H1.out.below hb1 hb))
  have G2 := Bx.mk (H2.out.below hb2 hb)
  clear hl2 hneL hne2 hv hb hob
  go_wp2_with fail
  refine wp_loop_rounds 3 ?_
  rw [rounds_succ]
  go_wp2_with (at_builtin; go_must (refine wpList_app8 rfl (.tmp 31) (.tmp 32) rfl v [] rfl HV.out ⟨b1, o1, none⟩ l1.length c1 l1 rfl rfl n1 G1.out (by simp; omega) ?_))
  intro v1 w2 hv1 hs1
  have hl2 : w2.cell? ⟨LB, 1, none⟩ = _ := hs1.cell HL2.out HNL.out
  have HV1 := Bx.mk hv1; have HS1 := Bx.mk hs1
  have G3 : U8 w2 b2 o2 l2 := fun i hi => hs1.cell (G2.out i hi) HN2.out
  have G4 := Bx.mk (news_of_u8 G3)
  clear hv1 hs1 G3
  go_wp2_with fail
  rw [rounds_succ]
  go_wp2_with (at_builtin; go_must (refine wpList_app8 rfl (.tmp 31) (.tmp 32) rfl v1 ([] ++ l1) rfl HV1.out ⟨b2, o2, none⟩ l2.length c2 l2 rfl rfl n2 G4.out (by simp; omega) ?_))
  intro v2 w3 hv2 hs2
  have HV2 := Bx.mk hv2; have HS2 := Bx.mk hs2
  clear hv2 hs2
  go_wp2_with fail
  rw [rounds_succ]
  go_wp2_with fail
  go_ret
  have hS := HS1.out.trans HS2.out
  have hbw : Below w.heap.size w w3 := Below.grown HB.out hS.grown hs (by rw [HOB.out]; intro k hk; cases hk; exact Nat.le_refl _)
  refine ⟨v2, rfl, by simpa using HV2.out, hbw, ?_⟩
  intro k hk
  rcases hS.near with e | e
  · rw [e, HOB.out] at hk; cases hk; exact Nat.le_refl _
  · exact Nat.le_trans hs (e k hk)

/-- The bytes of a string. -/
def tb (t : ByteArray) : List Int := t.data.toList.map (fun u => (u.toNat : Int))
theorem tb_len (t : ByteArray) : (tb t).length = t.size := by simp [tb]
theorem tb_u8 (w : World) (t : ByteArray) : U8 (bytesWorld w 5 t) w.heap.size 0 (tb t) := fun j hj => by
  rw [tb_len] at hj
  rw [Nat.zero_add, bytesWorld_cell w _ t j hj]
  have : j < t.data.toList.length := by simpa using hj
  have h2 : t.data[j]? = some (t.data[j]'hj) := Array.getElem?_eq_getElem hj
  simp [tb, List.getD, this, h2]
theorem tb_below (w : World) (t : ByteArray) : Below w.heap.size w (bytesWorld w 5 t) :=
  ⟨rfl, rfl, rfl, by rw [bytesWorld_size]; omega, fun k hk => bytesWorld_at_old w _ t k hk⟩
/-- What Tagged makes of a tag and a message. -/
def tagged (t : ByteArray) (l : List Int) : List Int := sum (sum (tb t) ++ l)
theorem tagged_len (t : ByteArray) (l : List Int) : (tagged t l).length = 32 := sum_len _
theorem u8_of_bytes {w : World} {g c n : Nat} {l : List Int} (h : Bytes w (.slice (some ⟨g, 0, none⟩) n c) l) : U8 w g 0 l := fun j hj => by
  have h2 := h.cells (g := g) rfl
  rw [Nat.zero_add]
  have h3 := h2 j (.int .u8 l[j]) (by unfold bv; rw [List.getElem?_map, List.getElem?_eq_getElem hj]; rfl)
  rwa [Addr.add_mid, Nat.zero_add] at h3

set_option maxHeartbeats 4000000 in
set_option maxRecDepth 100000 in
theorem tagged_c (t : ByteArray) (b o cap : Nat) (l : List Int) (w : World) (hL : Laid w) (hu : U8 w b o l) (hb : b < w.heap.size) (n0 : 0 < l.length) (hl : l.length ≤ 9000) (ht0 : 0 < t.size) (ht : t.size ≤ 100) :
    Calls Tryz.prog 30 #[.string t, .slice (some ⟨b, o, none⟩) l.length cap] w fun e w' => e = .returned (dv (tagged t l)) ∧ Below w.heap.size w w' := by
  have W1 := blk_new w .u8 (List.replicate 32 0) 35
  have B1 := (Below.refl w.heap.size w).alloc (Nat.le_refl _) (.cells ((List.replicate 32 0).map (.int .u8)).toArray 35)
  have HL := Bx.mk hL; have HU := Bx.mk hu
  clear hL hu
  go_enter Tryz.func30, Tryz.ntmps30
  go_wp2_with fail
  change Oper.upon _ _ _ _ _ (((convert _ _ _).run _ (w.alloc (.cells ((List.replicate 32 0).map (.int .u8)).toArray 35))).andThen _)
  generalize w.alloc (.cells ((List.replicate 32 0).map (.int .u8)).toArray 35) = w1 at *
  have hcv := Lib.run_convert_string_bytes (P := Tryz.prog) w1 9 61 5 t (u := .string) (by kernel_rfl) (by kernel_rfl) (by kernel_rfl)
  have U2 := tb_u8 w1 t
  have B2 := below_step B1 (tb_below w1 t) (Nat.le_refl _)
  have D2 := W1.below (tb_below w1 t) (W1.lt (by simp))
  have hge := grownCap_ge w1 t.size 0 5
  have hmx := grownCap_le_maxLen w1 t.size 0 5 (by unfold maxLen; omega)
  have hmx2 : grownCap w1 t.size 0 5 ≤ 9223372036854775807 := by unfold maxLen at hmx; omega
  have hb1 : w1.heap.size < (bytesWorld w1 5 t).heap.size := by rw [bytesWorld_size]; omega
  have hw1 := B1.size
  clear hmx W1 B1
  generalize bytesWorld w1 5 t = w2 at *
  generalize w1.heap.size = T1 at *
  generalize grownCap w1 t.size 0 5 = c1 at *
  have D2 := Bx.mk D2; have U2 := Bx.mk U2; have B2 := Bx.mk B2
  rw [hcv]
  simp only [Result.andThen_ok]
  rw [Oper.upon_value]
  clear hcv
  have htl := tb_len t
  have hs0 := sum_c T1 0 c1 (tb t) w2 (HL.out.below B2.out (Nat.le_refl _)) U2.out hb1 (by rw [tb_len]; exact hge) hmx2 (by rw [tb_len]; omega) (by rw [tb_len]; omega)
  rw [htl] at hs0
  have Hs0 := Bx.mk hs0
  clear hs0 htl
  go_wp2_with fail
  refine Hs0.out.mono ?_
  rintro e w3 ⟨rfl, hb3⟩
  have D3 := Bx.mk (D2.out.below hb3 (by omega))
  have B3 := Bx.mk (below_step B2.out hb3 (Nat.le_refl _))
  have hw3 := B3.out.size
  have hb3s := hb3.size
  clear D2 B2 U2 hb3 Hs0
  have E3 := blk_new w3 .u8 (List.replicate 32 0) 35
  have hd3 := D3.out.lt (by simp)
  have hlt3 : T1 < w3.heap.size := by have := hb3s; omega
  have D4 := Bx.mk (D3.out.alloc hd3 (.cells ((List.replicate 32 0).map (.int .u8)).toArray 35))
  have B4 := Bx.mk (B3.out.alloc (by omega) (.cells ((List.replicate 32 0).map (.int .u8)).toArray 35))
  go_wp2_with (refine wpList_sdg rfl (.tmp 5) (.tmp 8) rfl w3.heap.size rfl (sum (tb t)) rfl (sum_len _) (List.replicate 32 0) E3 (by simp) ?_)
  intro w5 E5 hg5
  have hs5 := hg5.size
  rw [World.size_alloc] at hs5
  have D5 := Bx.mk (D4.out.grown hg5 (by rw [World.size_alloc]; omega) (by intro e; have := Option.some.inj e; omega))
  have B5 := Bx.mk (Below.grown B4.out hg5 (by rw [World.size_alloc]; omega) (by intro k hk; cases hk; omega))
  have E5 := Bx.mk E5
  clear E3 D4 B4 D3 B3 hg5
  generalize w3.heap.size = T3 at *
  have hTD : T3 < w5.heap.size := E5.out.lt (by rw [sum_len]; omega)
  have hs51 := B5.out.size
  have hd5 : w.heap.size < w5.heap.size := by omega
  have X6 : Below w5.heap.size w5 (w5.alloc (.cells #[.slice (some ⟨T3, 0, none⟩) 32 32, .slice (some ⟨b, o, none⟩) l.length cap] 61)) := (Below.refl _ _).alloc (Nat.le_refl _) _
  have u6 : U8 (w5.alloc (.cells #[.slice (some ⟨T3, 0, none⟩) 32 32, .slice (some ⟨b, o, none⟩) l.length cap] 61)) b o l := (HU.out.below hb B5.out).below (by omega) X6
  have e6 : U8 (w5.alloc (.cells #[.slice (some ⟨T3, 0, none⟩) 32 32, .slice (some ⟨b, o, none⟩) l.length cap] 61)) T3 0 (sum (tb t)) := fun j hj => by rw [Nat.zero_add]; exact ((E5.out.below X6 hTD) j hj).1
  have hcc := concat_c w5.heap.size T3 0 32 b o cap (sum (tb t)) l _ e6 u6 (by simp; omega) (by simp; omega) (by rw [sum_len]; omega) n0 (by rw [sum_len]; omega) (by omega) (by rw [sum_len]; exact cells_new _ _ _ 0) (cells_new _ _ _ 1)
  have Hcc := Bx.mk hcc
  have D6 := Bx.mk (D5.out.alloc hd5 (.cells #[.slice (some ⟨T3, 0, none⟩) 32 32, .slice (some ⟨b, o, none⟩) l.length cap] 61))
  have B6 := Bx.mk (B5.out.alloc hs51 (.cells #[.slice (some ⟨T3, 0, none⟩) 32 32, .slice (some ⟨b, o, none⟩) l.length cap] 61))
  clear X6 u6 e6 hcc D5 B5 E5
  go_wp2_with fail
  refine Hcc.out.mono ?_
  rintro e w7 ⟨v, rfl, hv, hb7, hown⟩
  have D7 := Bx.mk (D6.out.below hb7 (by simp; omega))
  have B7 := Bx.mk (below_step B6.out hb7 (Nat.le_refl _))
  clear D6 B6 Hcc
  obtain ⟨g7, c7, rfl, hc7, hc7m⟩ : ∃ g c, v = .slice (some ⟨g, 0, none⟩) (32 + l.length) c ∧ 32 + l.length ≤ c ∧ c ≤ maxLen := by
    rcases hv.2 with ⟨_, h⟩ | ⟨g, c, cur, hv1, _, _, h1, h2, _⟩
    · rw [List.length_append, sum_len] at h; omega
    · refine ⟨g, c, ?_, ?_, h2⟩
      · rw [hv1, List.length_append, sum_len]
      · rw [List.length_append, sum_len] at h1; exact h1
  have u7 := u8_of_bytes hv
  have hg7 := cell_lt (u7 0 (by rw [List.length_append, sum_len]; omega))
  have hs7 := sum_c g7 0 c7 (sum (tb t) ++ l) w7 (HL.out.below B7.out (Nat.le_refl _)) u7 hg7 (by rw [List.length_append, sum_len]; exact hc7) (by unfold maxLen at hc7m; omega) (by rw [List.length_append, sum_len]; omega) (by rw [List.length_append, sum_len]; omega)
  rw [List.length_append, sum_len] at hs7
  have Hs7 := Bx.mk hs7
  clear hs7 u7 hv hb7 hown
  go_wp2_with fail
  refine Hs7.out.mono ?_
  rintro e w8 ⟨rfl, hb8⟩
  have D8 := D7.out.below hb8 (D7.out.lt (by simp))
  have B8 := Bx.mk (below_step B7.out hb8 (Nat.le_refl _))
  clear Hs7 hb8 D7 B7
  go_wp2_with (refine wpList_sdg rfl (.tmp 4) (.tmp 13) rfl w.heap.size rfl (tagged t l) rfl (tagged_len _ _) (List.replicate 32 0) D8 (by simp) ?_)
  intro w9 D9 hg9
  have B9 := Below.grown B8.out hg9 B8.out.size (by intro k hk; cases hk; omega)
  clear hg9
  go_wp2_with fail
  (try simp only [Exit.inBlock, Exit.then])
  refine bodyPost_ret (results_dig rfl _ _ w.heap.size (tagged t l) rfl D9 (tagged_len _ _)) rfl ?_
  exact ⟨rfl, B9⟩
end Go.Proofs.YtjbojoeafdkkeaaGreatDoor

namespace Go.Proofs.YtjbojoeafdkkeaaGreatDoor
open Go Go.RowKit Go.Lib

theorem div64_x (hi lo y : Int) (w : World) (hy : 1152921504606846976 ≤ y) (hy2 : y < 4611686018427387904) (hh0 : 0 ≤ hi) (hh : hi < y) (hl0 : 0 ≤ lo) (hl : lo < 18446744073709551616) :
    Calls Tryz.prog 165 #[.int .u64 hi, .int .u64 lo, .int .u64 y] w fun e w' =>
      e = .returned (.tuple #[.int .u64 ((hi * 18446744073709551616 + lo) / y), .int .u64 ((hi * 18446744073709551616 + lo) % y)]) ∧ ∃ n, w' = w.drewN n := by
  rcases Int.lt_or_le y 2305843009213693952 with h | h
  · exact div64_61 hi lo y w hy h hh0 hh hl0 hl
  · exact div64_62 hi lo y w h hy2 hh0 hh hl0 hl

theorem or_byte' (q b : Int) (q0 : 0 ≤ q) (q1 : q < 72057594037927936) (h0 : 0 ≤ b) (h1 : b < 256) : bits BinOp.or IntKind.u64 (q * 256) b = q * 256 + b := by
  obtain ⟨x, rfl⟩ := Int.eq_ofNat_of_zero_le q0
  obtain ⟨y, rfl⟩ := Int.eq_ofNat_of_zero_le h0
  have hx : x < 72057594037927936 := by omega
  have h := or_split 8 x y (by show y < 256; omega) (by show x * 256 < _; omega) (by omega)
  have e1 : ((x * 2 ^ 8 : Nat) : Int) = (x : Int) * 256 := by show ((x * 256 : Nat) : Int) = _; rw [Int.natCast_mul]; rfl
  have e3 : ((x * 2 ^ 8 + y : Nat) : Int) = (x : Int) * 256 + (y : Int) := by rw [Int.natCast_add, e1]
  rw [e1, e3] at h
  exact h
theorem or_byte (n b : Int) (hn : 0 ≤ n) (hn2 : n < 4611686018427387904) (h0 : 0 ≤ b) (h1 : b < 256) : bits BinOp.or IntKind.u64 (IntKind.u64.wrap (n * 256)) b = n % 72057594037927936 * 256 + b := by
  have e : IntKind.u64.wrap (n * 256) = n % 72057594037927936 * 256 := by rw [IntKind.wrap_u64]; omega
  rw [e]
  exact or_byte' _ b (by omega) (by omega) h0 h1

set_option maxHeartbeats 4000000 in
set_option maxRecDepth 100000 in
theorem rest1_c (Nb Mb : Nat) (n m b : Int) (w : World) (hn : w.cell? ⟨Nb, 0, none⟩ = some (.int .u64 n)) (hf : w.frozen? ⟨Nb, 0, none⟩ = false) (hm : w.cell? ⟨Mb, 0, none⟩ = some (.int .u64 m))
    (n0 : 0 ≤ n) (nm : n < m) (m0 : 1152921504606846976 ≤ m) (m1 : m < 4611686018427387904) (b0 : 0 ≤ b) (b1 : b < 256) :
    Calls Tryz.prog 194 #[.int .u8 b, .pointer (some ⟨Nb, 0, none⟩), .pointer (some ⟨Mb, 0, none⟩)] w fun e w' => e = .returned (.tuple #[]) ∧ ∃ k, w' = (w.drewN k).setCell ⟨Nb, 0, none⟩ (.int .u64 ((n * 256 + b) % m)) := by
  have hor := or_byte n b n0 (by omega) b0 b1
  obtain ⟨lo, hlo⟩ : ∃ lo, lo = n % 72057594037927936 * 256 + b := ⟨_, rfl⟩
  rw [← hlo] at hor
  obtain ⟨hi, hhi⟩ : ∃ hi, hi = n / 72057594037927936 := ⟨_, rfl⟩
  have hcomb : hi * 18446744073709551616 + lo = n * 256 + b := by omega
  have hd := Bx.mk (fun w => div64_x hi lo m w m0 m1 (by omega) (by omega) (by omega) (by omega))
  rw [hcomb] at hd
  have HHI := Bx.mk hhi
  clear hlo hhi hcomb
  go_enter Tryz.func194, Tryz.ntmps194
  go_wp2_with fail
  rw [← HHI.out]
  refine (hd.out _).mono ?_
  rintro e w1 ⟨rfl, k, rfl⟩
  go_wp2_with fail
  go_end0
  exact ⟨rfl, k, rfl⟩

theorem Tryz.info_u8' : Tryz.prog.underlying 5 = some (.int .u8) ∧ (Tryz.prog.info? 5).map (·.size) = some 1 := ⟨by kernel_rfl, by kernel_rfl⟩
theorem idx_digest (d : List Int) (hd : d.length = 32) (k : Nat) (hk : k < 32) (w : World) : (Instr.index 35 (dv d) (.int .i64 (k : Int))).run Tryz.prog w = .ok (.int .u8 (d.getD k 0)) w := by
  have h1 : (0 : Int) ≤ (k : Int) ∧ (k : Int) < ((32 : Nat) : Int) := by omega
  have hw : IntKind.i64.wrap (k : Int) = k := by rw [IntKind.wrap_i64]; omega
  cases hq : Tryz.prog.info? 5 with
  | none => have := Tryz.info_u8'.2; rw [hq] at this; cases this
  | some i =>
    have hs : i.size = 1 := by have := Tryz.info_u8'.2; rw [hq] at this; simpa using this
    have hk2 : k < d.length := by omega
    simp [Instr.index, dv, run_underlying Tryz.info_digest.1, asIntOf, h1, hw, sizeOf, typeInfo, hq, hs, part, isAgg, run_underlying Tryz.info_u8'.1, hk2]
    intro h; omega

/-- The number of a digest's bytes modulo m, as rest reckons it. -/
def restN (m : Int) (d : List Int) : Nat → Int
  | 0 => 0
  | k + 1 => (restN m d k * 256 + d.getD k 0) % m
theorem restN_range (m : Int) (hm : 0 < m) (d : List Int) : ∀ k, 0 ≤ restN m d k ∧ restN m d k < m
  | 0 => ⟨Int.le_refl _, hm⟩
  | k + 1 => ⟨Int.emod_nonneg _ (by omega), Int.emod_lt_of_pos _ hm⟩
/-- Bytes. -/
def ByteL (d : List Int) : Prop := ∀ k, 0 ≤ d.getD k 0 ∧ d.getD k 0 < 256

theorem wpList_bxg {w : World} {ops : Array Oper} {rest : List Oper} {o : Oper} {a : Act} {Q : Exit → Act → World → Prop} (hgd : o.guard = none) (x : Operand) (ho : o.op = .box 35 x) (l : List Int) (hx : a.eval x = dv l)
    (h : wpList Tryz.prog ops Q rest (a.put o.dst (.pointer (some ⟨w.heap.size, 0, none⟩))) (w.alloc (.cells (l.map (.int .u8)).toArray 35))) : wpList Tryz.prog ops Q (o :: rest) a w :=
  wpList_plain hgd fun K hK => by
    have hr : (Instr.box 35 (dv l)).run Tryz.prog w = .ok (.pointer (some ⟨w.heap.size, 0, none⟩)) (w.alloc (.cells (l.map (.int .u8)).toArray 35)) := rfl
    unfold Oper.wp execOp
    simp only [ho, hx, Sem.run_bind, hr, Result.andThen_ok]
    exact hK _ _ h

theorem Tryz.under_u64 : Tryz.prog.underlying 103 = some (.int .u64) := by kernel_rfl
theorem results_u64 {fn : Func} {p : Tmp} (h : fn.results = #[.cell p 103]) (tmps : Array Value) (w : World) (B : Nat) (n : Int) (hp : tmps.getD p undef = .pointer (some ⟨B, 0, none⟩)) (hc : w.cell? ⟨B, 0, none⟩ = some (.int .u64 n)) :
    (results fn tmps).run Tryz.prog w = .ok (.int .u64 n) w := by
  have hp' : tmps[p]?.getD undef = .pointer (some ⟨B, 0, none⟩) := by simpa using hp
  simp [results, h, hp', asAddr, loadVar, isAgg, run_underlying Tryz.under_u64, hc, go_sem]

set_option maxHeartbeats 4000000 in
set_option maxRecDepth 100000 in
theorem rest_c (d : List Int) (hd : d.length = 32) (hb : ByteL d) (m : Int) (w : World) (m0 : 1152921504606846976 ≤ m) (m1 : m < 4611686018427387904) :
    Calls Tryz.prog 168 #[dv d, .int .u64 m] w fun e w' => e = .returned (.int .u64 (restN m d 32)) ∧ Below w.heap.size w w' := by
  have HD := Bx.mk (blk_new w .u8 d 35)
  have HIX := Bx.mk (fun k hk => idx_digest d hd k hk)
  have HB := Bx.mk hb
  clear hb
  have HD3 := Bx.mk ((HD.out.alloc (by simp) (.cells #[.int .u64 m] 103)).alloc (by simp; omega) (.cells #[.int .u64 0] 103))
  have hB3 := Bx.mk ((((Below.refl w.heap.size w).alloc (Nat.le_refl _) (.cells (d.map (.int .u8)).toArray 35)).alloc (by simp) (.cells #[.int .u64 m] 103)).alloc (by simp; omega) (.cells #[.int .u64 0] 103))
  have hM3 : (((w.alloc (.cells (d.map (.int .u8)).toArray 35)).alloc (.cells #[.int .u64 m] 103)).alloc (.cells #[.int .u64 0] 103)).cell? ⟨w.heap.size + 1, 0, none⟩ = some (.int .u64 m) := by
    have h := cell_new_l (w.alloc (.cells (d.map (.int .u8)).toArray 35)) (.int .u64 m) 103
    rw [World.size_alloc] at h
    exact cell_alloc_l _ h.1
  have hN3 : (((w.alloc (.cells (d.map (.int .u8)).toArray 35)).alloc (.cells #[.int .u64 m] 103)).alloc (.cells #[.int .u64 0] 103)).cell? ⟨w.heap.size + 1 + 1, 0, none⟩ = some (.int .u64 0) ∧ (((w.alloc (.cells (d.map (.int .u8)).toArray 35)).alloc (.cells #[.int .u64 m] 103)).alloc (.cells #[.int .u64 0] 103)).frozen? ⟨w.heap.size + 1 + 1, 0, none⟩ = false := by
    have h := cell_new_l ((w.alloc (.cells (d.map (.int .u8)).toArray 35)).alloc (.cells #[.int .u64 m] 103)) (.int .u64 0) 103
    rw [World.size_alloc, World.size_alloc] at h
    exact h
  have HM3 := Bx.mk hM3; have HN3 := Bx.mk hN3
  clear hM3 hN3 HD
  go_enter Tryz.func168, Tryz.ntmps168
  go_wp2_with (first | (refine wpList_bxg rfl (.tmp 0) rfl d rfl ?_) | (refine wpList_ldg rfl (.tmp 2) rfl w.heap.size rfl d HD3.out hd ?_))
  have m00 : 0 < m := by omega
  have HRG := Bx.mk (restN_range m m00 d)
  go_loopg [10] 32 (fun g s10 wr => ∃ (k : Nat), s10 = .int .i64 k ∧ k ≤ 32 ∧ Bx (g = 32 - k) ∧ wr.cell? ⟨w.heap.size + 1, 0, none⟩ = some (.int .u64 m) ∧ wr.cell? ⟨w.heap.size + 1 + 1, 0, none⟩ = some (.int .u64 (restN m d k)) ∧ wr.frozen? ⟨w.heap.size + 1 + 1, 0, none⟩ = false ∧ Bx (Below w.heap.size w wr))
  case atStart => exact ⟨0, rfl, by omega, .mk rfl, HM3.out, HN3.out.1, HN3.out.2, hB3⟩
  case round =>
    obtain ⟨k, rfl, hk, hg, hm, hn, hf, hB⟩ := hrel
    clear hB3 HM3 HN3 HD3
    by_cases hlt : k < 32
    · have hix := HIX.out k hlt
      obtain ⟨x, hx⟩ : ∃ x, x = d.getD k 0 := ⟨_, rfl⟩
      obtain ⟨q, hq⟩ : ∃ q, q = restN m d k := ⟨_, rfl⟩
      rw [← hx] at hix
      rw [← hq] at hn
      have hx0 : 0 ≤ x ∧ x < 256 := by rw [hx]; exact HB.out k
      have hq0 : 0 ≤ q ∧ q < m := by rw [hq]; exact HRG.out k
      have hc := Bx.mk (rest1_c (w.heap.size + 1 + 1) (w.heap.size + 1) q m x wr hn hf hm hq0.1 hq0.2 m0 m1 hx0.1 hx0.2)
      have HX := Bx.mk (show _ ∧ _ from ⟨hx, hq⟩)
      have HCM := Bx.mk (show _ ∧ _ ∧ _ from ⟨hm, hn, hf⟩)
      clear hx hq hx0 hq0
      go_wp2_with fail
      refine hc.out.mono ?_
      rintro e w1 ⟨rfl, kk, rfl⟩
      have e1 : ((wr.drewN kk).setCell ⟨w.heap.size + 1 + 1, 0, none⟩ (.int .u64 ((q * 256 + x) % m))).cell? ⟨w.heap.size + 1, 0, none⟩ = some (.int .u64 m) := by
        rw [World.cell?_setCell_other _ _ _ _ (by intro e; have := congrArg Addr.block e; simp at this)]; exact HCM.out.1
      have e2 : ((wr.drewN kk).setCell ⟨w.heap.size + 1 + 1, 0, none⟩ (.int .u64 ((q * 256 + x) % m))).cell? ⟨w.heap.size + 1 + 1, 0, none⟩ = some (.int .u64 ((q * 256 + x) % m)) := World.cell?_setCell_same (wr.drewN kk) _ _ HCM.out.2.1
      have e3 : ((wr.drewN kk).setCell ⟨w.heap.size + 1 + 1, 0, none⟩ (.int .u64 ((q * 256 + x) % m))).frozen? ⟨w.heap.size + 1 + 1, 0, none⟩ = false := by rw [World.frozen?_setCell]; exact HCM.out.2.2
      have e4 := Bx.mk (Below.setCell (p := ⟨w.heap.size + 1 + 1, 0, none⟩) (below_drewN hB.out kk) (show w.heap.size ≤ w.heap.size + 1 + 1 by omega) (.int .u64 ((q * 256 + x) % m)))
      clear hm hn hf hB hc HCM
      generalize (wr.drewN kk).setCell ⟨w.heap.size + 1 + 1, 0, none⟩ (.int .u64 ((q * 256 + x) % m)) = w2 at *
      go_wp2_with fail
      go_roundg (32 - k - 1)
      case measure => have := hg.out; omega
      case rel => exact ⟨k + 1, by go_num, by omega, .mk (by omega), e1, by rw [restN, ← HX.out.1, ← HX.out.2]; exact e2, e3, e4⟩
    · obtain rfl : k = 32 := by omega
      clear hlt hk hg
      go_wp2_with fail
      refine bodyPost_ret (results_u64 rfl _ _ (w.heap.size + 1 + 1) (restN m d 32) rfl (World.cell?_setCell_same wr _ _ hn)) rfl ?_
      exact ⟨rfl, Below.setCell (p := ⟨w.heap.size + 1 + 1, 0, none⟩) hB.out (show w.heap.size ≤ w.heap.size + 1 + 1 by omega) _⟩
end Go.Proofs.YtjbojoeafdkkeaaGreatDoor

namespace Go.Proofs.YtjbojoeafdkkeaaGreatDoor
open Go Go.RowKit Go.Lib

theorem ByteL.set {l : List Int} (h : ByteL l) (i : Nat) (x : Int) (h0 : 0 ≤ x) (h1 : x < 256) : ByteL (l.set i x) := fun k => by
  by_cases hk : k < l.length
  · simp only [List.getD, List.getElem?_set]
    split
    · split
      · exact ⟨h0, h1⟩
      · exact ⟨Int.le_refl _, by decide⟩
    · exact h k
  · have : (l.set i x).getD k 0 = 0 := by simp [List.getD, List.getElem?_eq_none (show (l.set i x).length ≤ k by rw [List.length_set]; omega)]
    rw [this]
    exact ⟨Int.le_refl _, by decide⟩
theorem mod256 (x : Int) : 0 ≤ x % 256 ∧ x % 256 < 256 := ⟨Int.emod_nonneg _ (by decide), Int.emod_lt_of_pos _ (by decide)⟩
theorem ByteL.put4 {l : List Int} (h : ByteL l) (o : Nat) (n : Int) : ByteL (put4 l o n) := by
  unfold Go.Proofs.YtjbojoeafdkkeaaGreatDoor.put4
  refine ByteL.set ?_ _ _ (mod256 _).1 (mod256 _).2
  refine ByteL.set ?_ _ _ (mod256 _).1 (mod256 _).2
  refine ByteL.set ?_ _ _ (mod256 _).1 (mod256 _).2
  exact ByteL.set h _ _ (mod256 _).1 (mod256 _).2
theorem ByteL.zeros (n : Nat) : ByteL (List.replicate n 0) := fun k => by
  have : (List.replicate n (0 : Int)).getD k 0 = 0 := by
    simp only [List.getD, List.getElem?_replicate]
    split <;> rfl
  rw [this]
  exact ⟨Int.le_refl _, by decide⟩
theorem DN_byte (s : S8) : ∀ k, ByteL (DN s k)
  | 0 => ByteL.zeros 32
  | k + 1 => (DN_byte s k).put4 _ _
theorem tagged_byte (t : ByteArray) (l : List Int) : ByteL (tagged t l) := DN_byte _ _

/-- What Scalar and Point make of a tag and a message. -/
def scalarN (t : ByteArray) (l : List Int) : Int := 1 + restN 2305843009213688668 (tagged t l) 32
def pointN (t : ByteArray) (l : List Int) : Int := (2 + restN 4611686018427377336 (tagged t l) 32) * (2 + restN 4611686018427377336 (tagged t l) 32) % 4611686018427377339
theorem scalarN_range (t : ByteArray) (l : List Int) : 1 ≤ scalarN t l ∧ scalarN t l < 2305843009213688669 := by
  have h := restN_range 2305843009213688668 (by decide) (tagged t l) 32
  unfold scalarN
  omega

set_option maxHeartbeats 4000000 in
set_option maxRecDepth 100000 in
theorem scalar_c (t : ByteArray) (b o cap : Nat) (l : List Int) (w : World) (hL : Laid w) (hu : U8 w b o l) (hb : b < w.heap.size) (n0 : 0 < l.length) (hl : l.length ≤ 9000) (ht0 : 0 < t.size) (ht : t.size ≤ 100) :
    Calls Tryz.prog 122 #[.string t, .slice (some ⟨b, o, none⟩) l.length cap] w fun e w' => e = .returned (.int .i64 (scalarN t l)) ∧ Below w.heap.size w w' := by
  have ht1 := Bx.mk (tagged_c t b o cap l w hL hu hb n0 hl ht0 ht)
  have hr := restN_range 2305843009213688668 (by decide) (tagged t l) 32
  have hr2 := Bx.mk (fun w => rest_c (tagged t l) (tagged_len _ _) (tagged_byte _ _) 2305843009213688668 w (by decide) (by decide))
  obtain ⟨q, hq⟩ : ∃ q, q = restN 2305843009213688668 (tagged t l) 32 := ⟨_, rfl⟩
  rw [← hq] at hr hr2
  obtain ⟨q0, q1⟩ := hr
  have HQ := Bx.mk hq
  clear hq hL hu
  go_enter Tryz.func122, Tryz.ntmps122
  go_wp2_with fail
  refine ht1.out.mono ?_
  rintro e w1 ⟨rfl, hb1⟩
  go_wp2_with fail
  refine (hr2.out _).mono ?_
  rintro e w2 ⟨rfl, hb2⟩
  go_wp2_with fail
  go_ret
  exact ⟨by rw [scalarN, ← HQ.out]; rfl, below_step hb1 hb2 (Nat.le_refl _)⟩

set_option maxHeartbeats 4000000 in
set_option maxRecDepth 100000 in
theorem point_c (t : ByteArray) (b o cap : Nat) (l : List Int) (w : World) (hL : Laid w) (hu : U8 w b o l) (hb : b < w.heap.size) (n0 : 0 < l.length) (hl : l.length ≤ 9000) (ht0 : 0 < t.size) (ht : t.size ≤ 100) :
    Calls Tryz.prog 123 #[.string t, .slice (some ⟨b, o, none⟩) l.length cap] w fun e w' => e = .returned (.int .i64 (pointN t l)) ∧ Below w.heap.size w w' := by
  have ht1 := Bx.mk (tagged_c t b o cap l w hL hu hb n0 hl ht0 ht)
  have hr := restN_range 4611686018427377336 (by decide) (tagged t l) 32
  have hr2 := Bx.mk (fun w => rest_c (tagged t l) (tagged_len _ _) (tagged_byte _ _) 4611686018427377336 w (by decide) (by decide))
  obtain ⟨q, hq⟩ : ∃ q, q = restN 4611686018427377336 (tagged t l) 32 := ⟨_, rfl⟩
  rw [← hq] at hr hr2
  obtain ⟨q0, q1⟩ := hr
  have HQ := Bx.mk hq
  have ht2 := Bx.mk (fun w => times_c (2 + q) (2 + q) w (by omega) (by omega) (by omega) (by omega))
  have m0 : 0 ≤ (2 + q) * (2 + q) % 4611686018427377339 := Int.emod_nonneg _ (by decide)
  have m1 : (2 + q) * (2 + q) % 4611686018427377339 < 4611686018427377339 := Int.emod_lt_of_pos _ (by decide)
  obtain ⟨r, hr⟩ : ∃ r, r = (2 + q) * (2 + q) % 4611686018427377339 := ⟨_, rfl⟩
  rw [← hr] at m0 m1 ht2
  have HR := Bx.mk hr
  clear hq hL hu hr
  go_enter Tryz.func123, Tryz.ntmps123
  go_wp2_with fail
  refine ht1.out.mono ?_
  rintro e w1 ⟨rfl, hb1⟩
  go_wp2_with fail
  refine (hr2.out _).mono ?_
  rintro e w2 ⟨rfl, hb2⟩
  go_wp2_with fail
  refine (ht2.out _).mono ?_
  rintro e w3 ⟨rfl, n, rfl⟩
  go_wp2_with fail
  go_ret
  exact ⟨by rw [pointN, ← HQ.out, ← HR.out]; rfl, below_drewN (below_step hb1 hb2 (Nat.le_refl _)) n⟩
end Go.Proofs.YtjbojoeafdkkeaaGreatDoor

namespace Go.Proofs.YtjbojoeafdkkeaaGreatDoor
open Go Go.RowKit Go.Lib

/-- The eight bytes of a number. -/
def be8 (n : Int) : List Int := [n / 72057594037927936 % 256, n / 281474976710656 % 256, n / 1099511627776 % 256, n / 4294967296 % 256, n / 16777216 % 256, n / 65536 % 256, n / 256 % 256, n % 256]
theorem be8_len (n : Int) : (be8 n).length = 8 := rfl
theorem flat8_len : ∀ l : List Int, ((l.map be8).flatten).length = 8 * l.length
  | [] => by simp
  | n :: l => by
    have h2 := flat8_len l
    simp only [List.map_cons, List.flatten_cons, List.length_append, List.length_cons, be8_len]
    omega
/-- What hash makes of a tag, a message and numbers. -/
def hashN (t : ByteArray) (msg nums : List Int) : Int := scalarN t ((nums.map be8).flatten ++ msg)
/-- The cells of block b are these numbers. -/
def I64 (w : World) (b : Nat) (l : List Int) : Prop := ∀ i, (h : i < l.length) → w.cell? ⟨b, i, none⟩ = some (.int .i64 l[i])

set_option maxHeartbeats 8000000 in
set_option maxRecDepth 100000 in
theorem hash_c (t : ByteArray) (b o cap NB : Nat) (msg nums : List Int) (w : World) (hL : Laid w) (hu : U8 w b o msg) (hb : b < w.heap.size) (n0 : 0 < msg.length) (hl : msg.length ≤ 5000) (ht0 : 0 < t.size) (ht : t.size ≤ 100)
    (hk0 : 0 < nums.length) (hk : nums.length ≤ 8) (hnum : I64 w NB nums) (hr : ∀ n ∈ nums, 0 ≤ n ∧ n < 9223372036854775808) :
    Calls Tryz.prog 117 #[.string t, .slice (some ⟨b, o, none⟩) msg.length cap, .slice (some ⟨NB, 0, none⟩) nums.length nums.length] w fun e w' => e = .returned (.int .i64 (hashN t msg nums)) ∧ Below w.heap.size w w' := by
  have hNB := cell_lt (hnum 0 hk0)
  have HL := Bx.mk hL; have HU := Bx.mk hu; have HN := Bx.mk hnum; have HR := Bx.mk hr
  clear hL hu hnum hr
  have HFL := Bx.mk (fun k => flat8_len (nums.take k))
  go_enter Tryz.func117, Tryz.ntmps117
  go_wp2_with fail
  go_loopg [7, 13] nums.length (fun g s7 s13 wr => ∃ (k : Nat) (v : Value), s13 = .int .i64 k ∧ v = s7 ∧ k ≤ nums.length ∧ Bx (g = nums.length - k) ∧ Bx (Bytes wr v (((nums.take k).map be8).flatten)) ∧ Bx (Since w (.slice none 0 0) wr v))
  case atStart => exact ⟨0, _, rfl, rfl, by omega, .mk rfl, .mk (own_nil _), .mk (Since.refl _ _)⟩
  case round =>
    obtain ⟨k, v, rfl, rfl, hkk, hg, hv, hs⟩ := hrel
    by_cases hlt : k < nums.length
    · have hc := hs.out.cell (HN.out k hlt) (by simp [Value.ownBlock])
      obtain ⟨n, hn⟩ : ∃ n, n = nums[k] := ⟨_, rfl⟩
      rw [← hn] at hc
      have hr := HR.out n (by rw [hn]; exact List.getElem_mem _)
      obtain ⟨r0, r1⟩ := hr
      have Hn := Bx.mk hn; clear hn
      obtain ⟨pre, hpre⟩ : ∃ pre, pre = ((nums.take k).map be8).flatten := ⟨_, rfl⟩
      have hpl : pre.length ≤ 64 := by have := HFL.out k; rw [hpre, this, List.length_take]; omega
      rw [← hpre] at hv
      have hv0 := hv; have hs0 := hs
      have Hpre := Bx.mk hpre
      clear hv hs hpre
      go_wp2_with fail
      refine wp_loop_rounds 9 ?_
      rw [rounds_succ]
      have hlen0 : (pre).length + 1 ≤ 1000000 := by first | omega | (simp only [List.length_append, List.length_cons, List.length_nil]; omega)
      go_wp2_with (at_builtin; go_must (refine wpList_app8 rfl (.tmp 21) (.tmp 27) rfl v (pre) rfl ?c0 ⟨wr.heap.size, 0, none⟩ 1 1 [(n / 72057594037927936)] rfl rfl (by omega) (one_new _ _ _) hlen0 ?_))
      case c0 => exact hv0.out.alloc _
      intro v1 w1 hb1 ht1
      have hv1 : Bx (Bytes w1 v1 (pre ++ [(n / 72057594037927936)])) := Bx.mk (by simpa only [List.append_assoc, List.cons_append, List.nil_append] using hb1)
      have hs1 := Bx.mk (hs0.out.trans ((Since.refl _ _).alloc _ |>.trans ht1))
      clear hb1 ht1 hv0 hs0
      go_wp2_with fail
      rw [rounds_succ]
      have hlen1 : (pre ++ [(n / 72057594037927936)]).length + 1 ≤ 1000000 := by first | omega | (simp only [List.length_append, List.length_cons, List.length_nil]; omega)
      go_wp2_with (at_builtin; go_must (refine wpList_app8 rfl (.tmp 21) (.tmp 27) rfl v1 (pre ++ [(n / 72057594037927936)]) rfl ?c1 ⟨w1.heap.size, 0, none⟩ 1 1 [(n / 281474976710656 % 256)] rfl rfl (by omega) (one_new _ _ _) hlen1 ?_))
      case c1 => exact hv1.out.alloc _
      intro v2 w2 hb2 ht2
      have hv2 : Bx (Bytes w2 v2 (pre ++ [(n / 72057594037927936), (n / 281474976710656 % 256)])) := Bx.mk (by simpa only [List.append_assoc, List.cons_append, List.nil_append] using hb2)
      have hs2 := Bx.mk (hs1.out.trans ((Since.refl _ _).alloc _ |>.trans ht2))
      clear hb2 ht2 hv1 hs1
      go_wp2_with fail
      rw [rounds_succ]
      have hlen2 : (pre ++ [(n / 72057594037927936), (n / 281474976710656 % 256)]).length + 1 ≤ 1000000 := by first | omega | (simp only [List.length_append, List.length_cons, List.length_nil]; omega)
      go_wp2_with (at_builtin; go_must (refine wpList_app8 rfl (.tmp 21) (.tmp 27) rfl v2 (pre ++ [(n / 72057594037927936), (n / 281474976710656 % 256)]) rfl ?c2 ⟨w2.heap.size, 0, none⟩ 1 1 [(n / 1099511627776 % 256)] rfl rfl (by omega) (one_new _ _ _) hlen2 ?_))
      case c2 => exact hv2.out.alloc _
      intro v3 w3 hb3 ht3
      have hv3 : Bx (Bytes w3 v3 (pre ++ [(n / 72057594037927936), (n / 281474976710656 % 256), (n / 1099511627776 % 256)])) := Bx.mk (by simpa only [List.append_assoc, List.cons_append, List.nil_append] using hb3)
      have hs3 := Bx.mk (hs2.out.trans ((Since.refl _ _).alloc _ |>.trans ht3))
      clear hb3 ht3 hv2 hs2
      go_wp2_with fail
      rw [rounds_succ]
      have hlen3 : (pre ++ [(n / 72057594037927936), (n / 281474976710656 % 256), (n / 1099511627776 % 256)]).length + 1 ≤ 1000000 := by first | omega | (simp only [List.length_append, List.length_cons, List.length_nil]; omega)
      go_wp2_with (at_builtin; go_must (refine wpList_app8 rfl (.tmp 21) (.tmp 27) rfl v3 (pre ++ [(n / 72057594037927936), (n / 281474976710656 % 256), (n / 1099511627776 % 256)]) rfl ?c3 ⟨w3.heap.size, 0, none⟩ 1 1 [(n / 4294967296 % 256)] rfl rfl (by omega) (one_new _ _ _) hlen3 ?_))
      case c3 => exact hv3.out.alloc _
      intro v4 w4 hb4 ht4
      have hv4 : Bx (Bytes w4 v4 (pre ++ [(n / 72057594037927936), (n / 281474976710656 % 256), (n / 1099511627776 % 256), (n / 4294967296 % 256)])) := Bx.mk (by simpa only [List.append_assoc, List.cons_append, List.nil_append] using hb4)
      have hs4 := Bx.mk (hs3.out.trans ((Since.refl _ _).alloc _ |>.trans ht4))
      clear hb4 ht4 hv3 hs3
      go_wp2_with fail
      rw [rounds_succ]
      have hlen4 : (pre ++ [(n / 72057594037927936), (n / 281474976710656 % 256), (n / 1099511627776 % 256), (n / 4294967296 % 256)]).length + 1 ≤ 1000000 := by first | omega | (simp only [List.length_append, List.length_cons, List.length_nil]; omega)
      go_wp2_with (at_builtin; go_must (refine wpList_app8 rfl (.tmp 21) (.tmp 27) rfl v4 (pre ++ [(n / 72057594037927936), (n / 281474976710656 % 256), (n / 1099511627776 % 256), (n / 4294967296 % 256)]) rfl ?c4 ⟨w4.heap.size, 0, none⟩ 1 1 [(n / 16777216 % 256)] rfl rfl (by omega) (one_new _ _ _) hlen4 ?_))
      case c4 => exact hv4.out.alloc _
      intro v5 w5 hb5 ht5
      have hv5 : Bx (Bytes w5 v5 (pre ++ [(n / 72057594037927936), (n / 281474976710656 % 256), (n / 1099511627776 % 256), (n / 4294967296 % 256), (n / 16777216 % 256)])) := Bx.mk (by simpa only [List.append_assoc, List.cons_append, List.nil_append] using hb5)
      have hs5 := Bx.mk (hs4.out.trans ((Since.refl _ _).alloc _ |>.trans ht5))
      clear hb5 ht5 hv4 hs4
      go_wp2_with fail
      rw [rounds_succ]
      have hlen5 : (pre ++ [(n / 72057594037927936), (n / 281474976710656 % 256), (n / 1099511627776 % 256), (n / 4294967296 % 256), (n / 16777216 % 256)]).length + 1 ≤ 1000000 := by first | omega | (simp only [List.length_append, List.length_cons, List.length_nil]; omega)
      go_wp2_with (at_builtin; go_must (refine wpList_app8 rfl (.tmp 21) (.tmp 27) rfl v5 (pre ++ [(n / 72057594037927936), (n / 281474976710656 % 256), (n / 1099511627776 % 256), (n / 4294967296 % 256), (n / 16777216 % 256)]) rfl ?c5 ⟨w5.heap.size, 0, none⟩ 1 1 [(n / 65536 % 256)] rfl rfl (by omega) (one_new _ _ _) hlen5 ?_))
      case c5 => exact hv5.out.alloc _
      intro v6 w6 hb6 ht6
      have hv6 : Bx (Bytes w6 v6 (pre ++ [(n / 72057594037927936), (n / 281474976710656 % 256), (n / 1099511627776 % 256), (n / 4294967296 % 256), (n / 16777216 % 256), (n / 65536 % 256)])) := Bx.mk (by simpa only [List.append_assoc, List.cons_append, List.nil_append] using hb6)
      have hs6 := Bx.mk (hs5.out.trans ((Since.refl _ _).alloc _ |>.trans ht6))
      clear hb6 ht6 hv5 hs5
      go_wp2_with fail
      rw [rounds_succ]
      have hlen6 : (pre ++ [(n / 72057594037927936), (n / 281474976710656 % 256), (n / 1099511627776 % 256), (n / 4294967296 % 256), (n / 16777216 % 256), (n / 65536 % 256)]).length + 1 ≤ 1000000 := by first | omega | (simp only [List.length_append, List.length_cons, List.length_nil]; omega)
      go_wp2_with (at_builtin; go_must (refine wpList_app8 rfl (.tmp 21) (.tmp 27) rfl v6 (pre ++ [(n / 72057594037927936), (n / 281474976710656 % 256), (n / 1099511627776 % 256), (n / 4294967296 % 256), (n / 16777216 % 256), (n / 65536 % 256)]) rfl ?c6 ⟨w6.heap.size, 0, none⟩ 1 1 [(n / 256 % 256)] rfl rfl (by omega) (one_new _ _ _) hlen6 ?_))
      case c6 => exact hv6.out.alloc _
      intro v7 w7 hb7 ht7
      have hv7 : Bx (Bytes w7 v7 (pre ++ [(n / 72057594037927936), (n / 281474976710656 % 256), (n / 1099511627776 % 256), (n / 4294967296 % 256), (n / 16777216 % 256), (n / 65536 % 256), (n / 256 % 256)])) := Bx.mk (by simpa only [List.append_assoc, List.cons_append, List.nil_append] using hb7)
      have hs7 := Bx.mk (hs6.out.trans ((Since.refl _ _).alloc _ |>.trans ht7))
      clear hb7 ht7 hv6 hs6
      go_wp2_with fail
      rw [rounds_succ]
      have hlen7 : (pre ++ [(n / 72057594037927936), (n / 281474976710656 % 256), (n / 1099511627776 % 256), (n / 4294967296 % 256), (n / 16777216 % 256), (n / 65536 % 256), (n / 256 % 256)]).length + 1 ≤ 1000000 := by first | omega | (simp only [List.length_append, List.length_cons, List.length_nil]; omega)
      go_wp2_with (at_builtin; go_must (refine wpList_app8 rfl (.tmp 21) (.tmp 27) rfl v7 (pre ++ [(n / 72057594037927936), (n / 281474976710656 % 256), (n / 1099511627776 % 256), (n / 4294967296 % 256), (n / 16777216 % 256), (n / 65536 % 256), (n / 256 % 256)]) rfl ?c7 ⟨w7.heap.size, 0, none⟩ 1 1 [(n % 256)] rfl rfl (by omega) (one_new _ _ _) hlen7 ?_))
      case c7 => exact hv7.out.alloc _
      intro v8 w8 hb8 ht8
      have hv8 : Bx (Bytes w8 v8 (pre ++ [(n / 72057594037927936), (n / 281474976710656 % 256), (n / 1099511627776 % 256), (n / 4294967296 % 256), (n / 16777216 % 256), (n / 65536 % 256), (n / 256 % 256), (n % 256)])) := Bx.mk (by simpa only [List.append_assoc, List.cons_append, List.nil_append] using hb8)
      have hs8 := Bx.mk (hs7.out.trans ((Since.refl _ _).alloc _ |>.trans ht8))
      clear hb8 ht8 hv7 hs7
      go_wp2_with fail
      rw [rounds_succ]
      go_wp2_with fail
      go_roundg (nums.length - k - 1)
      case measure => have := hg.out; omega
      case rel =>
        refine ⟨k + 1, v8, by go_num, rfl, by omega, .mk (by omega), .mk ?_, hs8⟩
        have h := hv8.out
        rw [Hpre.out] at h
        rw [List.take_succ_eq_append_getElem hlt, ← Hn.out]
        have e0 : n / 72057594037927936 % 256 = n / 72057594037927936 := by omega
        simpa [be8, e0] using h
    · obtain rfl : k = nums.length := by omega
      clear hlt hkk hg
      rw [List.take_length] at hv
      obtain ⟨B, hB⟩ : ∃ B, B = (nums.map be8).flatten := ⟨_, rfl⟩
      have hBl : B.length = 8 * nums.length := by rw [hB, flat8_len]
      rw [← hB] at hv
      have HBd := Bx.mk hB; clear hB
      have HU2 := Bx.mk (news_of_u8 (show U8 wr b o msg from fun i hi => hs.out.cell (HU.out i hi) (by simp [Value.ownBlock])))
      go_wp2_with (at_builtin; go_must (refine wpList_app8 rfl (.tmp 31) (.tmp 32) rfl v B rfl hv.out ⟨b, o, none⟩ msg.length cap msg rfl rfl n0 HU2.out (by omega) ?_))
      intro v2 w2 hb2 ht2
      have hS := below_of_since (hs.out.trans ht2)
      obtain ⟨g, c, rfl, hc1, hc2⟩ : ∃ g c, v2 = .slice (some ⟨g, 0, none⟩) (B ++ msg).length c ∧ (B ++ msg).length ≤ c ∧ c ≤ maxLen := by
        rcases hb2.2 with ⟨_, h⟩ | ⟨g, c, cur, hv1, _, _, h1, h2, _⟩
        · rw [List.length_append] at h; omega
        · exact ⟨g, c, hv1, h1, h2⟩
      have hu2 := u8_of_bytes hb2
      have hsc := scalar_c t g 0 c (B ++ msg) w2 (HL.out.below hS.1 (Nat.le_refl _)) hu2 (cell_lt (hu2 0 (by rw [List.length_append]; omega))) (by rw [List.length_append]; omega) (by rw [List.length_append]; omega) ht0 ht
      have Hsc := Bx.mk hsc; have HS := Bx.mk hS.1
      clear hsc hu2 hb2 ht2 hS
      generalize (B ++ msg).length = N at *
      go_wp2_with fail
      refine Hsc.out.mono ?_
      rintro e w3 ⟨rfl, hb3⟩
      go_wp2_with fail
      go_ret
      exact ⟨by rw [hashN, ← HBd.out]; rfl, below_step HS.out hb3 (Nat.le_refl _)⟩
end Go.Proofs.YtjbojoeafdkkeaaGreatDoor

namespace Go.Proofs.YtjbojoeafdkkeaaGreatDoor
open Go Go.RowKit Go.Lib

def isPriv (x : Int) : Bool := decide (1 ≤ x) && decide (x < 2305843009213688669)
theorem isPriv_iff (x : Int) : isPriv x = true ↔ 1 ≤ x ∧ x < 2305843009213688669 := by simp [isPriv]

theorem valid_c (x : Int) (w : World) : Calls Tryz.prog 75 #[.int .i64 x] w fun e w' => e = .returned (.bool (isPriv x)) ∧ w = w' := by
  by_cases h : 1 ≤ x
  · by_cases h2 : x < 2305843009213688669
    · have e : isPriv x = true := (isPriv_iff x).2 ⟨h, h2⟩
      rw [e]; clear e
      go_enter Tryz.func75, Tryz.ntmps75
      go_wp2_with fail
      go_ret
      exact ⟨rfl, rfl⟩
    · have e : isPriv x = false := by simp [isPriv]; omega
      rw [e]; clear e
      go_enter Tryz.func75, Tryz.ntmps75
      go_wp2_with fail
      go_ret
      exact ⟨rfl, rfl⟩
  · have e : isPriv x = false := by simp [isPriv]; omega
    rw [e]; clear e
    go_enter Tryz.func75, Tryz.ntmps75
    go_wp2_with fail
    go_ret
    exact ⟨rfl, rfl⟩

theorem public_c (x : Int) (w : World) (h0 : 1 ≤ x) (h1 : x < 2305843009213688669) : Calls Tryz.prog 76 #[.int .i64 x] w fun e w' => e = .returned (.int .i64 (pwr 4 x.toNat)) ∧ Below w.heap.size w w' := by
  have hc := Bx.mk (base_c x w (by omega) h1)
  obtain ⟨q, hq⟩ : ∃ q, q = pwr 4 x.toNat := ⟨_, rfl⟩
  rw [← hq] at hc ⊢
  clear hq
  go_enter Tryz.func76, Tryz.ntmps76
  go_wp2_with fail
  refine hc.out.mono ?_
  rintro e w1 ⟨rfl, hb⟩
  go_wp2_with fail
  go_ret
  exact ⟨rfl, hb⟩

def pubV (x : Int) : Value := if isPriv x then .tuple #[.int .i64 (pwr 4 x.toNat), .int .i64 0] else .tuple #[.int .i64 0, .int .i64 50]
theorem publicF_c (x : Int) (w : World) : Calls Tryz.prog 31 #[.int .i64 x] w fun e w' => e = .returned (pubV x) ∧ Below w.heap.size w w' := by
  have hv := Bx.mk (valid_c x)
  cases hx : isPriv x
  · rw [hx] at hv
    rw [show pubV x = .tuple #[.int .i64 0, .int .i64 50] by simp [pubV, hx]]
    clear hx
    go_enter Tryz.func31, Tryz.ntmps31
    go_wp2_with fail
    refine (hv.out _).mono ?_
    rintro e w1 ⟨rfl, rfl⟩
    go_wp2_with fail
    go_ret2
    exact ⟨rfl, Below.refl _ _⟩
  · rw [hx] at hv
    have hp := Bx.mk (public_c x w ((isPriv_iff x).1 hx).1 ((isPriv_iff x).1 hx).2)
    rw [show pubV x = .tuple #[.int .i64 (pwr 4 x.toNat), .int .i64 0] by simp [pubV, hx]]
    obtain ⟨q, hq⟩ : ∃ q, q = pwr 4 x.toNat := ⟨_, rfl⟩
    rw [← hq] at hp ⊢
    clear hq hx
    go_enter Tryz.func31, Tryz.ntmps31
    go_wp2_with fail
    refine (hv.out _).mono ?_
    rintro e w1 ⟨rfl, rfl⟩
    go_wp2_with fail
    refine hp.out.mono ?_
    rintro e w1 ⟨rfl, hb⟩
    go_wp2_with fail
    go_ret2
    exact ⟨rfl, hb⟩
end Go.Proofs.YtjbojoeafdkkeaaGreatDoor

namespace Go.Proofs.YtjbojoeafdkkeaaGreatDoor
open Go Go.RowKit Go.Lib

def tNonce : ByteArray := ⟨#[110, 111, 110, 99, 101]⟩
def tSign : ByteArray := ⟨#[115, 105, 103, 110]⟩
def nonceN (x : Int) (msg : List Int) : Int := hashN tNonce msg [x]
def sigR (x : Int) (msg : List Int) : Int := pwr 4 (nonceN x msg).toNat
def chal (r p : Int) (msg : List Int) : Int := hashN tSign msg [r, p]
def sigS (x : Int) (msg : List Int) : Int := (nonceN x msg + chal (sigR x msg) (pwr 4 x.toNat) msg * x % 2305843009213688669) % 2305843009213688669
theorem hashN_range (t : ByteArray) (msg nums : List Int) : 1 ≤ hashN t msg nums ∧ hashN t msg nums < 2305843009213688669 := scalarN_range _ _

theorem results_sig {fn : Func} {p u : Tmp} (h : fn.results = #[.cell p 42, .tmp u]) (tmps : Array Value) (w : World) (B : Nat) (r s : Int) (v : Value) (hp : tmps.getD p undef = .pointer (some ⟨B, 0, none⟩)) (hu : tmps.getD u undef = v) (hb : Blk w B .i64 [r, s]) :
    (results fn tmps).run Tryz.prog w = .ok (.tuple #[.agg #[.int .i64 r, .int .i64 s], v]) w := by
  have hd : (Tryz.prog.underlying 42).any TypeDesc.isRow = true := by kernel_rfl
  obtain ⟨d, hd1, hd2⟩ : ∃ d, Tryz.prog.underlying 42 = some d ∧ d.isRow = true := by
    cases hq : Tryz.prog.underlying 42 with
    | none => rw [hq] at hd; cases hd
    | some d => rw [hq] at hd; exact ⟨d, rfl, hd⟩
  have hr := run_loadVar_mid (P := Tryz.prog) w B 0 42 ([r, s].map (.int .i64)) d (range_of_blk hb) hd1 hd2 (by kernel_rfl)
  rw [results_cell_tmp h, hp, hu]
  simp [asAddr, hr]

set_option maxHeartbeats 4000000 in
set_option maxRecDepth 100000 in
theorem sign_bad (x : Int) (v : Value) (w : World) (hx : isPriv x = false) : Calls Tryz.prog 63 #[.int .i64 x, v] w fun e w' => e = .returned (.tuple #[.agg #[.int .i64 0, .int .i64 0], .int .i64 50]) ∧ Below w.heap.size w w' := by
  have hv := valid_c x
  rw [hx] at hv
  have HV := Bx.mk hv
  have HB := Bx.mk (blk_new w .i64 [0, 0] 42)
  clear hv hx
  go_enter Tryz.func63, Tryz.ntmps63
  go_wp2_with fail
  refine (HV.out _).mono ?_
  rintro e w1 ⟨rfl, rfl⟩
  go_wp2_with fail
  (try simp only [Exit.inBlock, Exit.then])
  refine bodyPost_ret (results_sig rfl _ _ w.heap.size 0 0 (.int .i64 50) rfl rfl HB.out) rfl ?_
  exact ⟨rfl, (Below.refl _ w).alloc (Nat.le_refl _) _⟩

set_option maxHeartbeats 4000000 in
set_option maxRecDepth 100000 in
theorem sign_ok (x : Int) (b o cap : Nat) (msg : List Int) (w : World) (hx : isPriv x = true) (hL : Laid w) (hu : U8 w b o msg) (hb : b < w.heap.size) (n0 : 0 < msg.length) (hl : msg.length ≤ 5000) :
    Calls Tryz.prog 63 #[.int .i64 x, .slice (some ⟨b, o, none⟩) msg.length cap] w fun e w' => e = .returned (.tuple #[.agg #[.int .i64 (sigR x msg), .int .i64 (sigS x msg)], .int .i64 0]) ∧ Below w.heap.size w w' := by
  obtain ⟨x0, x1⟩ := (isPriv_iff x).1 hx
  have HV : Bx (∀ w, Calls Tryz.prog 75 #[.int .i64 x] w fun e w' => e = .returned (.bool true) ∧ w = w') := .mk fun w => by have := valid_c x w; rwa [hx] at this
  have HS0 := Bx.mk (show Blk (w.alloc (.cells #[.int .i64 0, .int .i64 0] 42)) w.heap.size .i64 [0, 0] from blk_new w .i64 [0, 0] 42)
  have HB0 := Bx.mk ((Below.refl w.heap.size w).alloc (Nat.le_refl _) (.cells #[.int .i64 0, .int .i64 0] 42))
  have HL := Bx.mk hL; have HU := Bx.mk hu
  have HKr := Bx.mk (hashN_range tNonce msg [x])
  clear hx hL hu
  go_enter Tryz.func63, Tryz.ntmps63
  go_wp2_with fail
  refine (HV.out _).mono ?_
  rintro e w1 ⟨rfl, rfl⟩
  generalize w.alloc (.cells #[.int .i64 0, .int .i64 0] 42) = w1 at *
  go_wp2_with fail
  have X2 : Below w1.heap.size w1 (w1.alloc (.cells #[.int .i64 x] 3)) := (Below.refl _ _).alloc (Nat.le_refl _) _
  have hcn := Bx.mk (hash_c tNonce b o cap w1.heap.size msg [x] (w1.alloc (.cells #[.int .i64 x] 3)) ((HL.out.below HB0.out (Nat.le_refl _)).below X2 (Nat.le_refl _)) ((HU.out.below hb HB0.out).below (by have := HB0.out.size; omega) X2) (by have := HB0.out.size; simp; omega) n0 hl (by decide) (by decide) (by simp) (by simp)
    (fun i hi => by obtain rfl : i = 0 := by simpa using hi
                    exact cells_new _ _ _ 0) (by intro n hn; obtain rfl := List.mem_singleton.1 hn; omega))
  refine hcn.out.mono ?_
  rintro e w2 ⟨rfl, hb2⟩
  obtain ⟨k, hk⟩ : ∃ k, k = hashN tNonce msg [x] := ⟨_, rfl⟩
  rw [← hk] at HKr ⊢
  obtain ⟨k0, k1⟩ := HKr.out
  have HK := Bx.mk hk
  have hsz1 := HB0.out.size
  have hS1 := HS0.out.lt (by simp)
  have HS2 := Bx.mk ((HS0.out.below X2 hS1).below hb2 (by simp; omega))
  have HB2 := Bx.mk (below_step (HB0.out.trans (X2.mono hsz1)) hb2 (Nat.le_refl _))
  clear hk HS0 HB0 hcn X2 hb2 HKr
  go_wp2_with fail
  refine (base_c k _ (by omega) k1).mono ?_
  rintro e w3 ⟨rfl, hb3⟩
  obtain ⟨R, hR⟩ : ∃ R, R = pwr 4 k.toNat := ⟨_, rfl⟩
  rw [← hR]
  have hR0 : 0 ≤ R ∧ R < 9223372036854775808 := by have h1 := pwr_nonneg 4 k.toNat; have h2 := pwr_lt 4 k.toNat; omega
  have HRd := Bx.mk hR
  have HR0 := Bx.mk hR0
  have HS3 := HS2.out.below hb3 (HS2.out.lt (by simp))
  have HB3 := Bx.mk (below_step HB2.out hb3 (Nat.le_refl _))
  have c0 := HS3.get (i := 0) rfl
  have f0 := HS3.fr (i := 0) (by decide)
  have HS4 := Bx.mk (HS3.setCell 0 R)
  have HB4 := Bx.mk (Below.setCell (p := ⟨w.heap.size, 0, none⟩) HB3.out (Nat.le_refl _) (.int .i64 R))
  clear hR hR0 HS2 HB2 hb3 HS3 HB3
  go_wp2_with fail
  clear c0 f0
  generalize w3.setCell ⟨w.heap.size, 0, none⟩ (.int .i64 R) = w4 at *
  have hk4 : w4.cell? ⟨w.heap.size, 0, none⟩ = some (.int .i64 R) := HS4.out.get (i := 0) rfl
  have Hk4 := Bx.mk hk4
  have hsw4 := HB4.out.size
  have hS4l := HS4.out.lt (by simp)
  obtain ⟨P, hP⟩ : ∃ P, P = pwr 4 x.toNat := ⟨_, rfl⟩
  have hpu := fun w' => public_c x w' x0 x1
  rw [← hP] at hpu
  have Hpub := Bx.mk hpu
  have HP0 := Bx.mk (show 0 ≤ P ∧ P < 9223372036854775808 by rw [hP]; have h1 := pwr_nonneg 4 x.toNat; have h2 := pwr_lt 4 x.toNat; omega)
  have HPd := Bx.mk hP
  have HCr := Bx.mk (hashN_range tSign msg [R, P])
  obtain ⟨c, hc⟩ : ∃ c, c = hashN tSign msg [R, P] := ⟨_, rfl⟩
  rw [← hc] at HCr
  have HC := Bx.mk hc
  have Hsg : Bx (∀ w5, Below w.heap.size w w5 → w5.cell? ⟨w.heap.size, 0, none⟩ = some (.int .i64 R) → Calls Tryz.prog 117 #[.string tSign, .slice (some ⟨b, o, none⟩) msg.length cap, .slice (some ⟨w5.heap.size, 0, none⟩) 2 2] (w5.alloc (.cells #[.int .i64 R, .int .i64 P] 3)) fun e w' => e = .returned (.int .i64 c) ∧ Below w5.heap.size w5 w') := .mk fun w5 hb5 hc5 => by
    have hs5 := hb5.size
    have X5 : Below w5.heap.size w5 (w5.alloc (.cells #[.int .i64 R, .int .i64 P] 3)) := (Below.refl _ _).alloc (Nat.le_refl _) _
    have h := hash_c tSign b o cap w5.heap.size msg [R, P] (w5.alloc (.cells #[.int .i64 R, .int .i64 P] 3)) ((HL.out.below hb5 (Nat.le_refl _)).below X5 (Nat.le_refl _)) ((HU.out.below hb hb5).below (by omega) X5) (by simp; omega) n0 hl (by decide) (by decide) (by simp) (by simp)
      (fun i hi => by
        have : i = 0 ∨ i = 1 := by simp at hi; omega
        rcases this with rfl | rfl
        · exact cells_new _ _ _ 0
        · exact cells_new _ _ _ 1) (by
        intro n hn
        rcases List.mem_cons.1 hn with rfl | hn
        · exact HR0.out
        · rw [List.mem_singleton.1 hn]; exact HP0.out)
    rw [← hc] at h
    exact h.mono fun e w' ⟨h1, h2⟩ => ⟨h1, below_step X5 h2 (Nat.le_refl _)⟩
  have Hmul := Bx.mk (fun w' => fmul_c c x w' (by have := HCr.out; omega) (by have := HCr.out; omega) (by omega) x1)
  obtain ⟨m, hm⟩ : ∃ m, m = c * x % 2305843009213688669 := ⟨_, rfl⟩
  rw [← hm] at Hmul
  have HM := Bx.mk hm
  have hm0 : 0 ≤ m := by rw [hm]; exact Int.emod_nonneg _ (by decide)
  have hm1 : m < 2305843009213688669 := by rw [hm]; exact Int.emod_lt_of_pos _ (by decide)
  clear hP hpu hc hm
  go_region_held3 (fun W' => W'.cell? ⟨w.heap.size, 0, none⟩ = some (.int .i64 R)) (first | assumption | go_keep)
    (first
      | (go_at_call 76; refine (Hpub.out _).mono ?_; rintro e w5 ⟨rfl, hb5⟩; have B5 := Bx.mk (below_step HB4.out (below_undrew hb5) (Nat.le_refl _)); have S5 := Bx.mk (HS4.out.below (below_undrew hb5) hS4l); have hk5 : w5.cell? ⟨w.heap.size, 0, none⟩ = some (.int .i64 R) := S5.out.get (i := 0) rfl; have Hk5 := Bx.mk hk5; clear hb5)
      | (go_at_call 117; refine (Hsg.out w5 B5.out Hk5.out).mono ?_; rintro e w6 ⟨rfl, hb6⟩; have B6 := Bx.mk (below_step B5.out hb6 (Nat.le_refl _)); have S6 := Bx.mk (S5.out.below hb6 (S5.out.lt (by simp))); have hk6 : w6.cell? ⟨w.heap.size, 0, none⟩ = some (.int .i64 R) := S6.out.get (i := 0) rfl; clear hb6)
      | (go_at_call 118; refine (Hmul.out _).mono ?_; rintro e w7 ⟨rfl, hb7⟩; have B7 := Bx.mk (below_step B6.out hb7 (Nat.le_refl _)); have S7 := Bx.mk (S6.out.below hb7 (S6.out.lt (by simp))); have hk7 : w7.cell? ⟨w.heap.size, 0, none⟩ = some (.int .i64 R) := S7.out.get (i := 0) rfl; clear hb7))
  go_wp2_with fail
  refine (fadd_c k m _ (by omega) k1 hm0 hm1).mono ?_
  rintro e w8 ⟨rfl, hb8⟩
  obtain ⟨q, hq⟩ : ∃ q, q = (k + m) % 2305843009213688669 := ⟨_, rfl⟩
  rw [← hq]
  have HQ := Bx.mk hq
  have S8' := S7.out.below hb8 (S7.out.lt (by simp))
  have B8 := Bx.mk (below_step B7.out hb8 (Nat.le_refl _))
  have d0 := S8'.get (i := 0) rfl
  have d1 := S8'.get (i := 1) rfl
  have f0 := S8'.fr (i := 0) (by simp)
  have f1 := S8'.fr (i := 1) (by simp)
  have S8'' := Bx.mk S8'
  clear hq hb8 S8' hk4 hk5 hk6 hk7
  go_wp2_with fail
  (try simp only [Exit.inBlock, Exit.then])
  have hfin := Blk.setCell S8''.out 1 q
  have hfin2 := Blk.setCell hfin 0 R
  have hfin3 := Blk.setCell hfin2 1 q
  refine bodyPost_ret (results_sig rfl _ _ w.heap.size R q (.int .i64 0) rfl rfl hfin3) rfl ?_
  refine ⟨?_, Below.setCell (Below.setCell (Below.setCell B8.out (show w.heap.size ≤ w.heap.size by omega) _) (show w.heap.size ≤ w.heap.size by omega) _) (show w.heap.size ≤ w.heap.size by omega) _⟩
  have eR : R = sigR x msg := by rw [HRd.out, HK.out]; rfl
  have eS : q = sigS x msg := by rw [HQ.out, HM.out, HC.out, HPd.out, HRd.out, HK.out]; rfl
  rw [eR, eS]
end Go.Proofs.YtjbojoeafdkkeaaGreatDoor

namespace Go.Proofs.YtjbojoeafdkkeaaGreatDoor
open Go Go.RowKit Go.Lib

section
variable {P : Program}
theorem eqItems_ints (d : Nat) (e : TypeId) (k : IntKind) (hk : P.underlying e = some (.int k)) (xs ys : List Int) (w : World) : ∀ (is : List Nat), (∀ i ∈ is, i < xs.length ∧ i < ys.length) →
    (Op.eqItems (d + 1) e 1 (xs.map (.int k)).toArray (ys.map (.int k)).toArray is).run P w = .ok (is.all fun i => xs.getD i 0 == ys.getD i 0) w
  | [], _ => by simp [Op.eqItems]
  | i :: is, h => by
    obtain ⟨h1, h2⟩ := h i (by simp)
    have ih := eqItems_ints d e k hk xs ys w is (fun j hj => h j (by simp [hj]))
    have p1 : (part e (xs.map (Value.int k)).toArray (i * 1)).run P w = .ok (.int k (xs.getD i 0)) w := by
      simp [part, isAgg, run_underlying hk, h1, List.getD]
    have p2 : (part e (ys.map (Value.int k)).toArray (i * 1)).run P w = .ok (.int k (ys.getD i 0)) w := by
      simp [part, isAgg, run_underlying hk, h2, List.getD]
    have p3 := run_equalIn_int (P := P) w d e k k (xs.getD i 0) (ys.getD i 0) hk
    simp only [Op.eqItems, Sem.run_bind, p1, p2, p3, Result.andThen_ok]
    cases hb : (xs.getD i 0 == ys.getD i 0)
    · simp [-List.getD_eq_getElem?_getD, hb]
    · simp only [Bool.not_true, Bool.false_eq_true, if_false, List.all_cons, hb, Bool.true_and]
      exact ih
theorem all_range_eq (xs ys : List Int) (h : xs.length = ys.length) : ((List.range xs.length).all fun i => xs.getD i 0 == ys.getD i 0) = decide (xs = ys) := by
  rw [Bool.eq_iff_iff, List.all_eq_true]
  simp only [List.mem_range, beq_iff_eq, decide_eq_true_eq]
  constructor
  · intro H
    refine List.ext_getElem h fun i h1 h2 => ?_
    have := H i h1
    simpa [List.getD, h1, h2] using this
  · rintro rfl i _; rfl
theorem run_eq_arr (d : Nat) (t e : TypeId) (k : IntKind) (n : Nat) (i : TypeInfo) (hu : P.underlying t = some (.array n e)) (hi : P.info? e = some i) (hk : P.underlying e = some (.int k)) (hc : P.cellsOf e = 1) (xs ys : List Int) (hx : xs.length = n) (hy : ys.length = n) (w : World) :
    (Op.equalIn (d + 2) t (.agg (xs.map (.int k)).toArray) (.agg (ys.map (.int k)).toArray)).run P w = .ok (decide (xs = ys)) w := by
  rw [run_equalIn_array w (d + 1) _ _ hu hi, hc]
  rw [eqItems_ints d e k hk xs ys w (List.range n) (fun j hj => by have := List.mem_range.1 hj; omega)]
  rw [← hx, all_range_eq xs ys (by omega)]
end

theorem eq_three (a b c : Int) (w : World) : (Op.equalIn 10000 227 (.agg #[.int .i64 a, .int .i64 b, .int .i64 c]) (.agg #[.int .i64 0, .int .i64 0, .int .i64 0])).run Tryz.prog w = .ok (decide ([a, b, c] = [0, 0, 0])) w := by
  have hi : (Tryz.prog.info? 27).isSome = true := by kernel_rfl
  obtain ⟨i, hi⟩ := Option.isSome_iff_exists.1 hi
  exact run_eq_arr 9998 227 27 .i64 3 i (by kernel_rfl) hi (by kernel_rfl) (by kernel_rfl) [a, b, c] [0, 0, 0] rfl rfl w
end Go.Proofs.YtjbojoeafdkkeaaGreatDoor
