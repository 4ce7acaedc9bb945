/- The specification's exchange with a code (chapter 10): numbers, masks, points. -/
import Derived.Test.YtjbojoeafdkkeaaGreatDoorJ23
import Derived.Test.YtjbojoeafdkkeaaGreatDoorJ12
import Derived.Lib.SlBytesConst
set_option linter.unusedVariables false
set_option linter.unusedSimpArgs false
namespace Go.Proofs.YtjbojoeafdkkeaaGreatDoor
open Go Go.RowKit Go.Lib

theorem OB.lift {w W W' : World} {v : Value} {l : List Int} (hB : Below w.heap.size w W) (h : OB W v l W') : OB w v l W' :=
  ⟨h.1, below_step hB h.2.1 (Nat.le_refl _), fun k hk => Nat.le_trans hB.size (h.2.2 k hk)⟩
theorem bytes_nil (W : World) : Bytes (W.alloc (.cells #[] 5)) (.slice (some ⟨W.heap.size, 0, none⟩) 0 0) [] :=
  ⟨rfl, .inr ⟨W.heap.size, 0, #[], rfl, Nat.zero_le _, World.alloc_heap_new W _, Nat.le_refl _, Nat.zero_le _, rfl, rfl⟩⟩
theorem OB.nil (w : World) : OB w (.slice (some ⟨w.heap.size, 0, none⟩) 0 0) [] (w.alloc (.cells #[] 5)) :=
  ⟨bytes_nil w, (Below.refl _ _).alloc (Nat.le_refl _) _, fun k hk => by cases hk; exact Nat.le_refl _⟩
set_option maxHeartbeats 4000000 in
set_option maxRecDepth 100000 in
theorem reight_c (m : Int) (w : World) : Calls Tryz.prog 150 #[.int .i64 m] w fun e w' => ∃ v, e = .returned v ∧ OB w v (be8 m) w' := by
  have O := Bx.mk (OB.nil w)
  go_enter Tryz.func150, Tryz.ntmps150
  go_wp2_with fail
  refine wp_loop_rounds 9 ?_
  rw [rounds_succ]
  have HL0 : Bx (([] : List Int).length + 1 ≤ 1000000) := .mk (by simp)
  go_wp2_with (at_builtin; go_must (refine wpList_app8 rfl (.tmp 10) (.tmp 16) rfl (.slice (some ⟨w.heap.size, 0, none⟩) 0 0) ([]) rfl ?c1 ⟨w.heap.size + 1, 0, none⟩ 1 1 [m / 72057594037927936 % 256] rfl rfl (by omega) (by have := one_new (w.alloc (.cells #[] 5)) 5 (m / 72057594037927936 % 256); rw [World.size_alloc] at this; exact this) HL0.out ?_))
  case c1 => exact O.out.1.alloc _
  intro u0 x0 hb0 hs0
  have O0 := Bx.mk (O.out.app _ hb0 hs0)
  clear hb0 hs0 O HL0
  go_wp2_with fail
  rw [rounds_succ]
  have HL1 : Bx (([m / 72057594037927936 % 256] : List Int).length + 1 ≤ 1000000) := .mk (by simp)
  go_wp2_with (at_builtin; go_must (refine wpList_app8 rfl (.tmp 10) (.tmp 16) rfl (u0) ([m / 72057594037927936 % 256]) rfl ?c1 ⟨x0.heap.size, 0, none⟩ 1 1 [m / 281474976710656 % 256] rfl rfl (by omega) (one_new _ _ _) HL1.out ?_))
  case c1 => exact O0.out.1.alloc _
  intro u1 x1 hb1 hs1
  have O1 := Bx.mk (O0.out.app _ hb1 hs1)
  clear hb1 hs1 O0 HL1
  go_wp2_with fail
  rw [rounds_succ]
  have HL2 : Bx (([m / 72057594037927936 % 256, m / 281474976710656 % 256] : List Int).length + 1 ≤ 1000000) := .mk (by simp)
  go_wp2_with (at_builtin; go_must (refine wpList_app8 rfl (.tmp 10) (.tmp 16) rfl (u1) ([m / 72057594037927936 % 256, m / 281474976710656 % 256]) rfl ?c1 ⟨x1.heap.size, 0, none⟩ 1 1 [m / 1099511627776 % 256] rfl rfl (by omega) (one_new _ _ _) HL2.out ?_))
  case c1 => exact O1.out.1.alloc _
  intro u2 x2 hb2 hs2
  have O2 := Bx.mk (O1.out.app _ hb2 hs2)
  clear hb2 hs2 O1 HL2
  go_wp2_with fail
  rw [rounds_succ]
  have HL3 : Bx (([m / 72057594037927936 % 256, m / 281474976710656 % 256, m / 1099511627776 % 256] : List Int).length + 1 ≤ 1000000) := .mk (by simp)
  go_wp2_with (at_builtin; go_must (refine wpList_app8 rfl (.tmp 10) (.tmp 16) rfl (u2) ([m / 72057594037927936 % 256, m / 281474976710656 % 256, m / 1099511627776 % 256]) rfl ?c1 ⟨x2.heap.size, 0, none⟩ 1 1 [m / 4294967296 % 256] rfl rfl (by omega) (one_new _ _ _) HL3.out ?_))
  case c1 => exact O2.out.1.alloc _
  intro u3 x3 hb3 hs3
  have O3 := Bx.mk (O2.out.app _ hb3 hs3)
  clear hb3 hs3 O2 HL3
  go_wp2_with fail
  rw [rounds_succ]
  have HL4 : Bx (([m / 72057594037927936 % 256, m / 281474976710656 % 256, m / 1099511627776 % 256, m / 4294967296 % 256] : List Int).length + 1 ≤ 1000000) := .mk (by simp)
  go_wp2_with (at_builtin; go_must (refine wpList_app8 rfl (.tmp 10) (.tmp 16) rfl (u3) ([m / 72057594037927936 % 256, m / 281474976710656 % 256, m / 1099511627776 % 256, m / 4294967296 % 256]) rfl ?c1 ⟨x3.heap.size, 0, none⟩ 1 1 [m / 16777216 % 256] rfl rfl (by omega) (one_new _ _ _) HL4.out ?_))
  case c1 => exact O3.out.1.alloc _
  intro u4 x4 hb4 hs4
  have O4 := Bx.mk (O3.out.app _ hb4 hs4)
  clear hb4 hs4 O3 HL4
  go_wp2_with fail
  rw [rounds_succ]
  have HL5 : Bx (([m / 72057594037927936 % 256, m / 281474976710656 % 256, m / 1099511627776 % 256, m / 4294967296 % 256, m / 16777216 % 256] : List Int).length + 1 ≤ 1000000) := .mk (by simp)
  go_wp2_with (at_builtin; go_must (refine wpList_app8 rfl (.tmp 10) (.tmp 16) rfl (u4) ([m / 72057594037927936 % 256, m / 281474976710656 % 256, m / 1099511627776 % 256, m / 4294967296 % 256, m / 16777216 % 256]) rfl ?c1 ⟨x4.heap.size, 0, none⟩ 1 1 [m / 65536 % 256] rfl rfl (by omega) (one_new _ _ _) HL5.out ?_))
  case c1 => exact O4.out.1.alloc _
  intro u5 x5 hb5 hs5
  have O5 := Bx.mk (O4.out.app _ hb5 hs5)
  clear hb5 hs5 O4 HL5
  go_wp2_with fail
  rw [rounds_succ]
  have HL6 : Bx (([m / 72057594037927936 % 256, m / 281474976710656 % 256, m / 1099511627776 % 256, m / 4294967296 % 256, m / 16777216 % 256, m / 65536 % 256] : List Int).length + 1 ≤ 1000000) := .mk (by simp)
  go_wp2_with (at_builtin; go_must (refine wpList_app8 rfl (.tmp 10) (.tmp 16) rfl (u5) ([m / 72057594037927936 % 256, m / 281474976710656 % 256, m / 1099511627776 % 256, m / 4294967296 % 256, m / 16777216 % 256, m / 65536 % 256]) rfl ?c1 ⟨x5.heap.size, 0, none⟩ 1 1 [m / 256 % 256] rfl rfl (by omega) (one_new _ _ _) HL6.out ?_))
  case c1 => exact O5.out.1.alloc _
  intro u6 x6 hb6 hs6
  have O6 := Bx.mk (O5.out.app _ hb6 hs6)
  clear hb6 hs6 O5 HL6
  go_wp2_with fail
  rw [rounds_succ]
  have HL7 : Bx (([m / 72057594037927936 % 256, m / 281474976710656 % 256, m / 1099511627776 % 256, m / 4294967296 % 256, m / 16777216 % 256, m / 65536 % 256, m / 256 % 256] : List Int).length + 1 ≤ 1000000) := .mk (by simp)
  go_wp2_with (at_builtin; go_must (refine wpList_app8 rfl (.tmp 10) (.tmp 16) rfl (u6) ([m / 72057594037927936 % 256, m / 281474976710656 % 256, m / 1099511627776 % 256, m / 4294967296 % 256, m / 16777216 % 256, m / 65536 % 256, m / 256 % 256]) rfl ?c1 ⟨x6.heap.size, 0, none⟩ 1 1 [m % 256] rfl rfl (by omega) (one_new _ _ _) HL7.out ?_))
  case c1 => exact O6.out.1.alloc _
  intro u7 x7 hb7 hs7
  have O7 := Bx.mk (O6.out.app _ hb7 hs7)
  clear hb7 hs7 O6 HL7
  go_wp2_with fail
  rw [rounds_succ]
  go_wp2_with fail
  go_ret
  exact ⟨u7, rfl, O7.out⟩

/-- A side's box. -/
def SB3 (w : World) (r code x : Int) (W : World) : Prop := Below w.heap.size w W ∧ W.cell? ⟨w.heap.size, 0, none⟩ = some (.int .i64 r) ∧ W.cell? ⟨w.heap.size, 1, none⟩ = some (.int .i64 code) ∧ W.cell? ⟨w.heap.size, 2, none⟩ = some (.int .i64 x)
theorem SB3.new (w : World) (r code x : Int) : SB3 w r code x (w.alloc (.cells #[.int .i64 r, .int .i64 code, .int .i64 x] 23)) := ⟨(Below.refl _ _).alloc (Nat.le_refl _) _, cells_new _ _ _ 0, cells_new _ _ _ 1, cells_new _ _ _ 2⟩
theorem SB3.below {w W W2 : World} {r code x : Int} (h : SB3 w r code x W) (hb : Below W.heap.size W W2) : SB3 w r code x W2 :=
  have hl := cell_lt h.2.1
  ⟨below_step h.1 hb (Nat.le_refl _), (hb.cell (p := ⟨w.heap.size, 0, none⟩) hl).trans h.2.1, (hb.cell (p := ⟨w.heap.size, 1, none⟩) hl).trans h.2.2.1, (hb.cell (p := ⟨w.heap.size, 2, none⟩) hl).trans h.2.2.2⟩
theorem SB3.alloc {w W : World} {r code x : Int} (h : SB3 w r code x W) (o : Obj) : SB3 w r code x (W.alloc o) := h.below ((Below.refl _ _).alloc (Nat.le_refl _) o)
theorem SB3.grown {w W W2 : World} {r code x : Int} {q : Option Nat} (h : SB3 w r code x W) (hg : W.grownBy W2 q) (hr : ∀ k, q = some k → w.heap.size + 1 ≤ k) : SB3 w r code x W2 :=
  have hn : some w.heap.size ≠ q := fun e => by have := hr _ e.symm; omega
  ⟨Below.grown h.1 hg h.1.size (fun k hk => by have := hr k hk; omega), hg.cell h.2.1 hn, hg.cell h.2.2.1 hn, hg.cell h.2.2.2 hn⟩
theorem SB3.drew {w W : World} {r code x : Int} (h : SB3 w r code x W) (n : Nat) : SB3 w r code x (W.drewN n) := ⟨below_drewN h.1 n, h.2⟩

set_option maxHeartbeats 4000000 in
set_option maxRecDepth 100000 in
theorem rside_c (r code x : Int) (w : World) :
    Calls Tryz.prog 46 #[.agg #[.int .i64 r, .int .i64 code, .int .i64 x]] w fun e w' => e = .returned (.int .i64 (if sideOK r code x then 0 else 100)) ∧ Below w.heap.size w w' := by
  have F0 := Bx.mk (SB3.new w r code x)
  obtain ⟨_, z0, z1, z2⟩ := SB3.new w r code x
  have BZ := Bx.mk F0.out.1
  have HI := Bx.mk (sideOK_iff r code x)
  cases hs : sideOK r code x with
  | true =>
    obtain ⟨hr, c0, c1, x0, x1⟩ := HI.out.1 hs
    have hr1 : 1 ≤ r := by omega
    have hr2 : r ≤ 2 := by omega
    have c2 : code ≤ 999999 := by omega
    clear hs hr HI F0 c1
    rw [if_pos rfl]
    go_enter Tryz.func46, Tryz.ntmps46
    go_wp2_with fail
    go_ret
    exact ⟨rfl, BZ.out⟩
  | false =>
    rw [if_neg (by decide)]
    by_cases a1 : r < 1
    · clear hs HI F0
      go_enter Tryz.func46, Tryz.ntmps46
      go_wp2_with fail
      go_ret
      exact ⟨rfl, BZ.out⟩
    · by_cases a2 : 2 < r
      · clear hs HI F0
        go_enter Tryz.func46, Tryz.ntmps46
        go_wp2_with fail
        go_ret
        exact ⟨rfl, BZ.out⟩
      · by_cases a3 : code < 0
        · clear hs HI F0
          go_enter Tryz.func46, Tryz.ntmps46
          go_wp2_with fail
          go_ret
          exact ⟨rfl, BZ.out⟩
        · by_cases a4 : 999999 < code
          · clear hs HI F0
            go_enter Tryz.func46, Tryz.ntmps46
            go_wp2_with fail
            go_ret
            exact ⟨rfl, BZ.out⟩
          · by_cases a5 : x < 1
            · clear hs HI F0
              go_enter Tryz.func46, Tryz.ntmps46
              go_wp2_with fail
              go_ret
              exact ⟨rfl, BZ.out⟩
            · have a6 : 2305843009213688669 ≤ x := by
                rcases Int.lt_or_le x 2305843009213688669 with h | h
                · have := HI.out.2 ⟨by omega, by omega, by omega, by omega, h⟩
                  rw [hs] at this
                  cases this
                · exact h
              clear hs HI F0
              go_enter Tryz.func46, Tryz.ntmps46
              go_wp2_with fail
              go_ret
              exact ⟨rfl, BZ.out⟩
theorem u8_lit4 (W : World) (a b c d : Int) : U8 (W.alloc (.cells #[.int .u8 a, .int .u8 b, .int .u8 c, .int .u8 d] 5 (4, 5))) W.heap.size 0 [a, b, c, d] := by
  intro i hi
  have hc := fun k => World.cell?_alloc_mark W #[.int .u8 a, .int .u8 b, .int .u8 c, .int .u8 d] 5 (4, 5) k
  have : i = 0 ∨ i = 1 ∨ i = 2 ∨ i = 3 := by simp at hi; omega
  rcases this with rfl | rfl | rfl | rfl
  · exact hc 0
  · exact hc 1
  · exact hc 2
  · exact hc 3
theorem u8_lit5 (W : World) (a b c d e : Int) : U8 (W.alloc (.cells #[.int .u8 a, .int .u8 b, .int .u8 c, .int .u8 d, .int .u8 e] 5 (5, 6))) W.heap.size 0 [a, b, c, d, e] := by
  intro i hi
  have hc := fun k => World.cell?_alloc_mark W #[.int .u8 a, .int .u8 b, .int .u8 c, .int .u8 d, .int .u8 e] 5 (5, 6) k
  have : i = 0 ∨ i = 1 ∨ i = 2 ∨ i = 3 ∨ i = 4 := by simp at hi; omega
  rcases this with rfl | rfl | rfl | rfl | rfl
  · exact hc 0
  · exact hc 1
  · exact hc 2
  · exact hc 3
  · exact hc 4
set_option maxHeartbeats 4000000 in
set_option maxRecDepth 100000 in
theorem rmask_c (r : Int) (w : World) (h : r = 1 ∨ r = 2) :
    Calls Tryz.prog 154 #[.int .i64 r] w fun e w' => e = .returned (.int .i64 (baseM r)) ∧ Below w.heap.size w w' := by
  have kc := fun (w : World) (C : Array Value) (n c : Nat) => Lib.run_convert_bytes_const (P := Tryz.prog) w 61 5 C n c (by kernel_rfl) (by kernel_rfl)
  rcases h with rfl | rfl
  · have HP := Bx.mk (rPt_c tPake w.heap.size 0 4 [104, 111, 115, 116] _ (u8_lit4 w 104 111 115 116) (by rw [World.size_alloc]; omega) (by decide) (by decide) (by decide) (by decide))
    rw [show pointN tPake [104, 111, 115, 116] = baseM 1 by unfold baseM nameB; rw [if_pos rfl]] at HP
    obtain ⟨z, hz⟩ : ∃ z, z = baseM 1 := ⟨_, rfl⟩
    rw [← hz] at HP ⊢
    have B0 := Bx.mk ((Below.refl w.heap.size w).alloc (Nat.le_refl _) (.cells #[.int .u8 104, .int .u8 111, .int .u8 115, .int .u8 116] 5 (4, 5)))
    clear hz
    go_enter Tryz.func154, Tryz.ntmps154
    go_wp2_with fail
    refine HP.out.mono ?_
    rintro e w1 ⟨rfl, hb1⟩
    have B1 := Bx.mk (below_step B0.out hb1 (Nat.le_refl _))
    clear hb1
    go_wp2_with fail
    go_ret
    exact ⟨rfl, B1.out⟩
  · have HP := Bx.mk (rPt_c tPake w.heap.size 0 5 [103, 117, 101, 115, 116] _ (u8_lit5 w 103 117 101 115 116) (by rw [World.size_alloc]; omega) (by decide) (by decide) (by decide) (by decide))
    rw [show pointN tPake [103, 117, 101, 115, 116] = baseM 2 by unfold baseM nameB; rw [if_neg (by decide)]] at HP
    obtain ⟨z, hz⟩ : ∃ z, z = baseM 2 := ⟨_, rfl⟩
    rw [← hz] at HP ⊢
    have B0 := Bx.mk ((Below.refl w.heap.size w).alloc (Nat.le_refl _) (.cells #[.int .u8 103, .int .u8 117, .int .u8 101, .int .u8 115, .int .u8 116] 5 (5, 6)))
    clear hz
    go_enter Tryz.func154, Tryz.ntmps154
    go_wp2_with fail
    refine HP.out.mono ?_
    rintro e w1 ⟨rfl, hb1⟩
    have B1 := Bx.mk (below_step B0.out hb1 (Nat.le_refl _))
    clear hb1
    go_wp2_with fail
    go_ret
    exact ⟨rfl, B1.out⟩
set_option maxHeartbeats 4000000 in
theorem rpassword_c (code : Int) (w : World) : Calls Tryz.prog 155 #[.int .i64 code] w fun e w' => e = .returned (.int .i64 (scalarN tCode (be8 code))) ∧ Below w.heap.size w w' := by
  have HE := Bx.mk (fun w => reight_c code w)
  obtain ⟨z, hz⟩ : ∃ z, z = scalarN tCode (be8 code) := ⟨_, rfl⟩
  rw [← hz]
  have HZ := Bx.mk hz
  clear hz
  go_enter Tryz.func155, Tryz.ntmps155
  go_wp2_with fail
  refine (HE.out _).mono ?_
  rintro e w1 ⟨v, rfl, ho⟩
  obtain ⟨g, c, e1, hc1, hc2, hu8, hg⟩ := slice_of_bytes ho.1 (by rw [be8_len]; decide)
  subst e1
  have HS := Bx.mk (rScal_c tCode g 0 c (be8 code) w1 hu8 hg (by rw [be8_len]; decide) (by rw [be8_len]; decide) (by decide) (by decide))
  rw [← HZ.out] at HS
  have B1 := Bx.mk ho.2.1
  clear ho hc1 hc2 hu8 hg
  go_wp2_with fail
  refine HS.out.mono ?_
  rintro e w2 ⟨rfl, hb2⟩
  have B2 := Bx.mk (below_step B1.out hb2 (Nat.le_refl _))
  clear hb2
  go_wp2_with fail
  go_ret
  exact ⟨rfl, B2.out⟩
theorem rmasked_c (r code : Int) (w : World) (h : r = 1 ∨ r = 2) : Calls Tryz.prog 104 #[.int .i64 r, .int .i64 code] w fun e w' => e = .returned (.int .i64 (pmask r code)) ∧ Below w.heap.size w w' := by
  have HM := Bx.mk (fun w => rmask_c r w h)
  have HPw := Bx.mk (fun w => rpassword_c code w)
  have hsr := scalarN_range tCode (be8 code)
  have HX := Bx.mk (fun w => rexp_ok (baseM r) (scalarN tCode (be8 code)) w (elt_base h) (by omega) hsr.2)
  rw [show pwr (baseM r) (scalarN tCode (be8 code)).toNat = pmask r code from rfl] at HX
  obtain ⟨a, ha⟩ : ∃ a, a = baseM r := ⟨_, rfl⟩
  obtain ⟨b, hb⟩ : ∃ b, b = scalarN tCode (be8 code) := ⟨_, rfl⟩
  obtain ⟨z, hz⟩ : ∃ z, z = pmask r code := ⟨_, rfl⟩
  rw [← ha] at HM HX
  rw [← hb] at HPw HX
  rw [← hz] at HX ⊢
  clear ha hb hz hsr h
  go_enter Tryz.func104, Tryz.ntmps104
  go_wp2_with fail
  refine (HM.out _).mono ?_
  rintro e w1 ⟨rfl, hb1⟩
  have B1 := Bx.mk hb1
  clear hb1
  go_wp2_with fail
  refine (HPw.out _).mono ?_
  rintro e w2 ⟨rfl, hb2⟩
  have B2 := Bx.mk (below_step B1.out hb2 (Nat.le_refl _))
  clear hb2
  go_wp2_with fail
  refine (HX.out _).mono ?_
  rintro e w3 ⟨rfl, rfl⟩
  go_wp2_with fail
  go_ret
  exact ⟨rfl, B2.out⟩
end Go.Proofs.YtjbojoeafdkkeaaGreatDoor

namespace Go.Proofs.YtjbojoeafdkkeaaGreatDoor
open Go Go.RowKit Go.Lib

set_option maxHeartbeats 8000000 in
set_option maxRecDepth 100000 in
theorem rpoint_bad (r code x : Int) (w : World) (hb : sideOK r code x = false) :
    Calls Tryz.prog 48 #[.agg #[.int .i64 r, .int .i64 code, .int .i64 x]] w fun e w' => e = .returned (.tuple #[.int .i64 0, .int .i64 100]) ∧ Below w.heap.size w w' := by
  have HC := Bx.mk (fun w => rside_c r code x w)
  rw [hb] at HC
  simp only [Bool.false_eq_true, if_false] at HC
  have H0 := Bx.mk (hs_box w r code x)
  clear hb
  go_enter Tryz.func48, Tryz.ntmps48
  go_wp2_with fail
  refine (HC.out _).mono ?_
  rintro e w1 ⟨rfl, hb1⟩
  have B1 := Bx.mk (hs_step H0.out hb1).1
  go_wp2_with fail
  go_ret2
  exact ⟨rfl, B1.out⟩

set_option maxHeartbeats 8000000 in
set_option maxRecDepth 100000 in
theorem rpoint_ok (r code x : Int) (w : World) (hb : sideOK r code x = true) :
    Calls Tryz.prog 48 #[.agg #[.int .i64 r, .int .i64 code, .int .i64 x]] w fun e w' => e = .returned (.tuple #[.int .i64 (ownN r code x), .int .i64 0]) ∧ Below w.heap.size w w' := by
  have HC := Bx.mk (fun w => rside_c r code x w)
  rw [hb] at HC
  simp only [if_true] at HC
  have hi := (sideOK_iff r code x).1 hb
  obtain ⟨hr, c0, c1, x0, x1⟩ := hi
  have H0 := Bx.mk (hs_box w r code x)
  have HBa := Bx.mk (fun w => rbase_c x w (by omega) x1)
  have HMk := Bx.mk (fun W => rmasked_c r code W hr)
  have HMu := Bx.mk (fun W => rmul_c (pwr 4 x.toNat) (pmask r code) W (elt_pwr elt_four _) (elt_mask hr code))
  have HO := Bx.mk (show ownN r code x = pwr 4 x.toNat * pmask r code % 4611686018427377339 from rfl)
  obtain ⟨p0, hp0⟩ : ∃ p, p = pwr 4 x.toNat := ⟨_, rfl⟩
  rw [← hp0] at HBa HMu HO
  obtain ⟨m0, hm0⟩ : ∃ p, p = pmask r code := ⟨_, rfl⟩
  rw [← hm0] at HMk HMu HO
  rw [← HO.out] at HMu
  obtain ⟨o0, ho0⟩ : ∃ p, p = ownN r code x := ⟨_, rfl⟩
  rw [← ho0] at HMu ⊢
  clear hb hr hp0 hm0 HO ho0
  go_enter Tryz.func48, Tryz.ntmps48
  go_wp2_with fail
  refine (HC.out _).mono ?_
  rintro e w1 ⟨rfl, hb1⟩
  have F1 := Bx.mk (hs_step H0.out hb1)
  obtain ⟨j0, j1, j2, j3⟩ := F1.out
  clear hb1 H0 HC j0
  go_wp2_with fail
  refine (HBa.out _).mono ?_
  rintro e w2 ⟨rfl, rfl⟩
  go_wp2_with fail
  refine (HMk.out _).mono ?_
  rintro e w3 ⟨rfl, hb3⟩
  have F3 := Bx.mk (hs_step F1.out hb3).1
  clear hb3 F1 j1 j2 j3
  go_wp2_with fail
  refine (HMu.out _).mono ?_
  rintro e w4 ⟨rfl, rfl⟩
  go_wp2_with fail
  go_ret2
  exact ⟨rfl, F3.out⟩

set_option maxHeartbeats 8000000 in
set_option maxRecDepth 100000 in
theorem relement_c (r code x peer : Int) (w : World) (hb : sideOK r code x = true) (hp : elt peer = true) :
    Calls Tryz.prog 151 #[.agg #[.int .i64 r, .int .i64 code, .int .i64 x], .int .i64 peer] w fun e w' => e = .returned (.int .i64 (zN r code x peer)) ∧ Below w.heap.size w w' := by
  have hi := (sideOK_iff r code x).1 hb
  obtain ⟨hr, c0, c1, x0, x1⟩ := hi
  have hr3 : (3 - r = 1 ∨ 3 - r = 2) := by omega
  have HMk := Bx.mk (fun W => rmasked_c (3 - r) code W hr3)
  have HIn := Bx.mk (fun W => rinv_c (pmask (3 - r) code) W (elt_mask hr3 code))
  have HMu := Bx.mk (fun W => rmul_c peer (pwr (pmask (3 - r) code) 2305843009213688668) W hp (elt_pwr (elt_mask hr3 code) _))
  have HEx := Bx.mk (fun W => rexp_ok (bareN r code peer) x W (elt_bare hr code hp) (by omega) x1)
  have HZ := Bx.mk (show zN r code x peer = pwr (bareN r code peer) x.toNat from rfl)
  have HBr := Bx.mk (show bareN r code peer = peer * pwr (pmask (3 - r) code) 2305843009213688668 % 4611686018427377339 from rfl)
  rw [← HBr.out] at HMu
  rw [← HZ.out] at HEx
  obtain ⟨zz, hzz⟩ : ∃ p, p = zN r code x peer := ⟨_, rfl⟩
  rw [← hzz] at HEx ⊢
  obtain ⟨ms, hms⟩ : ∃ p, p = pmask (3 - r) code := ⟨_, rfl⟩
  rw [← hms] at HMk HIn HMu
  obtain ⟨iv, hiv⟩ : ∃ p, p = pwr ms 2305843009213688668 := ⟨_, rfl⟩
  rw [← hiv] at HIn HMu
  obtain ⟨br, hbr⟩ : ∃ p, p = bareN r code peer := ⟨_, rfl⟩
  rw [← hbr] at HMu HEx
  have H0 := Bx.mk (hs_box w r code x)
  have hrl : 1 ≤ r := by omega
  have hrh : r ≤ 2 := by omega
  clear hb hp hr hr3 HZ HBr hzz hms hiv hbr
  go_enter Tryz.func151, Tryz.ntmps151
  go_wp2_with fail
  refine (HMk.out _).mono ?_
  rintro e w1 ⟨rfl, hb1⟩
  have F1 := Bx.mk (hs_step H0.out hb1)
  obtain ⟨j0, j1, j2, j3⟩ := F1.out
  clear hb1 H0 HMk j0
  go_wp2_with fail
  refine (HIn.out _).mono ?_
  rintro e w2 ⟨rfl, rfl⟩
  go_wp2_with fail
  refine (HMu.out _).mono ?_
  rintro e w3 ⟨rfl, rfl⟩
  go_wp2_with fail
  refine (HEx.out _).mono ?_
  rintro e w4 ⟨rfl, rfl⟩
  go_wp2_with fail
  go_ret
  exact ⟨rfl, F1.out.1⟩

set_option maxHeartbeats 8000000 in
set_option maxRecDepth 100000 in
theorem rprf_c (k : List Int) (hk : k.length = 32) (r : Int) (hr0 : 0 ≤ r) (hr1 : r < 256) (w : World) :
    Calls Tryz.prog 107 #[dv k, .int .i64 r] w fun e w' => e = .returned (dv (prfN k r)) ∧ Below w.heap.size w w' := by
  have W1 := blk_new w .u8 k 54
  have B1 := (Below.refl w.heap.size w).alloc (Nat.le_refl _) (.cells (k.map (.int .u8)).toArray 54)
  have e1 : (w.alloc (.cells (k.map (.int .u8)).toArray 54)).heap.size = w.heap.size + 1 := World.size_alloc _ _
  have D2 := blk_new (w.alloc (.cells (k.map (.int .u8)).toArray 54)) .u8 z32 35
  rw [e1] at D2
  have W2 := W1.alloc (W1.lt (by rw [hk]; decide)) (.cells (z32.map (.int .u8)).toArray 35)
  have B2 := B1.alloc B1.size (.cells (z32.map (.int .u8)).toArray 35)
  have e2 : ((w.alloc (.cells (k.map (.int .u8)).toArray 54)).alloc (.cells (z32.map (.int .u8)).toArray 35)).heap.size = w.heap.size + 1 + 1 := by rw [World.size_alloc, e1]
  have HK := Bx.mk hk
  obtain ⟨w0, hw0⟩ : ∃ w0, w0 = ((w.alloc (.cells (k.map (.int .u8)).toArray 54)).alloc (.cells (z32.map (.int .u8)).toArray 35)) := ⟨_, rfl⟩
  rw [← hw0] at W2 B2 D2 e2
  have W0 := Bx.mk hw0; have W2 := Bx.mk W2; have B2 := Bx.mk B2; have D2 := Bx.mk D2
  have E2 := Bx.mk e2
  clear W1 B1 e1 hw0 hk e2
  have hsl := slice_key w.heap.size
  go_enter Tryz.func107, Tryz.ntmps107
  go_wp2_with (first | (refine wpList_bxk rfl (.tmp 0) rfl (k.map (.int .u8)) rfl ?_) | (refine wpList_pause 5 rfl ?_))
  intro W3 hW3
  have e3 : W3 = w0 := by rw [W0.out]; exact hW3
  subst e3
  clear hW3 W0
  have O0 := Bx.mk (OB.nil W3)
  have WA := Bx.mk (W2.out.alloc (by rw [E2.out]; omega) (.cells #[] 5))
  have DA := Bx.mk (D2.out.alloc (by rw [E2.out]; omega) (.cells #[] 5))
  have BA := Bx.mk (B2.out.alloc (by rw [E2.out]; omega) (.cells #[] 5))
  have HKC := Bx.mk (news_of_u8 (show U8 (W3.alloc (.cells #[] 5)) w.heap.size 0 k from fun i hi => by rw [Nat.zero_add]; exact (WA.out i hi).1))
  go_wp2_with (at_builtin; go_must (refine wpList_appFull8 rfl (.tmp 5) (.tmp 6) rfl ⟨W3.heap.size, 0, none⟩ 0 [] rfl rfl (fun j hj => absurd hj (Nat.not_lt_zero j)) ⟨w.heap.size, 0, none⟩ 32 32 k rfl HK.out (by omega) HKC.out (by simp) ?_))
  intro u1 x1 hb1 hg1 ho1
  have hb1 : Bytes x1 u1 k := by simpa using hb1
  have hO : u1.ownBlock = some (W3.heap.size + 1) := by simpa using ho1
  have hbl : Below (W3.alloc (.cells #[] 5)).heap.size (W3.alloc (.cells #[] 5)) x1 := ⟨hg1.os, hg1.tape, hg1.output, hg1.size, fun q hq => hg1.block q hq (by simp)⟩
  have D1 := Bx.mk (DA.out.below hbl (by rw [World.size_alloc, E2.out]; omega))
  have B1 := Bx.mk (below_step BA.out hbl (Nat.le_refl _))
  have HO := Bx.mk hO; have HB1 := Bx.mk hb1
  have hN1 := one_new x1 5 r
  have HN1 := Bx.mk hN1
  have hsz : w.heap.size + 2 ≤ x1.heap.size := by have := hbl.size; rw [World.size_alloc, E2.out] at this; omega
  clear hb1 hg1 ho1 hO hbl HKC WA DA BA hN1
  go_wp2_with (at_builtin; go_must (refine wpList_app8 rfl (.tmp 7) (.tmp 10) rfl u1 k rfl ?c1 ⟨x1.heap.size, 0, none⟩ 1 1 [r] rfl rfl (by omega) HN1.out (by rw [HK.out]; decide) ?_))
  case c1 => exact HB1.out.alloc _
  intro u2 x2 hb2 hs2
  have D4 := Bx.mk ((D1.out.alloc (by omega) (.cells #[.int .u8 r] 5)).grown hs2.grown (by rw [World.size_alloc]; omega) (fun q => by rw [HO.out] at q; have := Option.some.inj q; have := E2.out; omega))
  have B4 := Bx.mk (Below.grown (B1.out.alloc (by omega) (.cells #[.int .u8 r] 5)) hs2.grown (by rw [World.size_alloc]; omega) (fun q hq => by rw [HO.out] at hq; cases hq; have := E2.out; omega))
  obtain ⟨g3, c3, e4, ht⟩ := rtagged_own tProof hb2 (by rw [List.length_append, HK.out]; omega) (by rw [List.length_append, HK.out]; simp) (by decide) (by decide)
  subst e4
  have hkl : (k ++ [r]).length = 33 := by rw [List.length_append, HK.out]; rfl
  rw [hkl] at ht ⊢
  rw [show tagged tProof (k ++ [r]) = prfN k r from rfl] at ht
  have HPL := Bx.mk (show (prfN k r).length = 32 from tagged_len _ _)
  obtain ⟨pn, hpn⟩ : ∃ p, p = prfN k r := ⟨_, rfl⟩
  rw [← hpn] at ht HPL
  have HE := Bx.mk hpn
  have HT := Bx.mk ht
  clear ht hkl hb2 hs2 hpn D1 B1 HO HB1 HN1
  go_wp2_with fail
  refine HT.out.mono ?_
  rintro e w5 ⟨rfl, hb5⟩
  have D5 := Bx.mk (D4.out.below hb5 (D4.out.lt (by decide)))
  have B5 := Bx.mk (below_step B4.out hb5 (Nat.le_refl _))
  clear hb5 HT D4 B4
  go_wp2_with (refine wpList_sdg rfl (.tmp 4) (.tmp 12) rfl (w.heap.size + 1) rfl pn rfl HPL.out z32 D5.out rfl ?_)
  intro w6 D6 hg6
  have B6 := Below.grown B5.out hg6 B5.out.size (by intro q hq; cases hq; omega)
  clear hg6
  go_wp2_with fail
  (try simp only [Exit.inBlock, Exit.then])
  refine bodyPost_ret (results_dig rfl _ _ (w.heap.size + 1) pn rfl D6 HPL.out) rfl ?_
  exact ⟨by rw [HE.out], B6⟩
end Go.Proofs.YtjbojoeafdkkeaaGreatDoor

namespace Go.Proofs.YtjbojoeafdkkeaaGreatDoor
open Go Go.RowKit Go.Lib

theorem fr_drew {w W : World} {r code x : Int} (h : Fr w r code x W) : Fr w r code x W.drew := ⟨hs_drew h.1, h.2⟩
theorem fr_grown {w W W2 : World} {r code x : Int} {q : Option Nat} (h : Fr w r code x W) (hg : W.grownBy W2 q) (hr : ∀ k, q = some k → w.heap.size + 2 ≤ k) : Fr w r code x W2 :=
  have hn : some w.heap.size ≠ q := fun e => by have := hr _ e.symm; omega
  have hz := h.2.lt (by decide)
  ⟨⟨Below.grown h.1.1 hg h.1.1.size (fun k hk => by have := hr k hk; omega), hg.cell h.1.2.1 hn, hg.cell h.1.2.2.1 hn, hg.cell h.1.2.2.2 hn⟩, h.2.grown hg hz (fun e => by have := hr _ e.symm; omega)⟩
theorem OB.app' {w W W' : World} {v v' : Value} {l l' : List Int} (h : OB w v l W) (hb : Bytes W' v' l') (hs : Since W v W' v') : OB w v' l' W' :=
  ⟨hb, Below.grown h.2.1 hs.grown h.2.1.size h.2.2, fun k hk => by
    rcases hs.near with e | e
    · rw [e] at hk; exact h.2.2 k hk
    · have := e k hk; exact Nat.le_trans h.2.1.size this⟩
theorem OB.step {w W W' : World} {v : Value} {l : List Int} (h : OB w v l W) (hb : Below W.heap.size W W') : OB w v l W' := ⟨bytes_below h.1 hb, below_step h.2.1 hb (Nat.le_refl _), h.2.2⟩
theorem keyN_1 (code x peer : Int) : keyN 1 code x peer = tagged tPake (be8 (ownN 1 code x) ++ (be8 peer ++ be8 (zN 1 code x peer))) := rfl
theorem keyN_2 (code x peer : Int) : keyN 2 code x peer = tagged tPake (be8 peer ++ (be8 (ownN 2 code x) ++ be8 (zN 2 code x peer))) := rfl

set_option maxHeartbeats 16000000 in
set_option maxRecDepth 100000 in
theorem rshared_bad (r code x peer : Int) (w : World) (hb : sideOK r code x = false) :
    Calls Tryz.prog 99 #[.agg #[.int .i64 r, .int .i64 code, .int .i64 x], .int .i64 peer] w fun e w' => e = .returned (.tuple #[dv z32, .int .i64 100]) ∧ Below w.heap.size w w' := by
  have HS := Bx.mk (fun w => rside_c r code x w)
  rw [hb] at HS
  simp only [Bool.false_eq_true, if_false, if_true] at HS
  have H0 := Bx.mk (fr_new w r code x)
  clear hb
  go_enter Tryz.func99, Tryz.ntmps99
  go_wp2_with fail
  refine (HS.out _).mono ?_
  rintro e w1 ⟨rfl, hb1⟩
  have F1 := Bx.mk (fr_step H0.out hb1)
  clear hb1 H0 HS
  go_wp2_with (refine wpList_stB rowT_key rfl (.tmp 4) (.tmp 18) rfl (w.heap.size + 1) rfl .u8 z32 rfl rfl z32 F1.out.2 rfl ?_)
  intro w10 e1 e2
  have B4 := Bx.mk (Below.grown F1.out.1.1 e2 F1.out.1.1.size (by intro q hq; cases hq; omega))
  have E2 := Bx.mk e1
  clear e1 e2
  go_wp2_with fail
  (try simp only [Exit.inBlock, Exit.then])
  refine bodyPost_ret (results_rowN rowT_key rfl _ _ (w.heap.size + 1) (z32.map (.int .u8)) (dv z32) (.int .i64 100) rfl rfl (range_of_blk E2.out) rfl rfl) rfl ?_
  exact ⟨rfl, B4.out⟩
set_option maxHeartbeats 16000000 in
set_option maxRecDepth 100000 in
theorem rshared_peer (r code x peer : Int) (w : World) (hb : sideOK r code x = true) (hp : ¬ elt peer = true) :
    Calls Tryz.prog 99 #[.agg #[.int .i64 r, .int .i64 code, .int .i64 x], .int .i64 peer] w fun e w' => e = .returned (.tuple #[dv z32, .int .i64 100]) ∧ Below w.heap.size w w' := by
  have HS := Bx.mk (fun w => rside_c r code x w)
  rw [hb] at HS
  simp only [Bool.false_eq_true, if_false, if_true] at HS
  have HC := Bx.mk (fun w => rcheck_c peer w)
  rw [gcheck_40 hp] at HC
  have H0 := Bx.mk (fr_new w r code x)
  clear hb hp
  go_enter Tryz.func99, Tryz.ntmps99
  go_wp2_with fail
  refine (HS.out _).mono ?_
  rintro e w1 ⟨rfl, hb1⟩
  have F1 := Bx.mk (fr_step H0.out hb1)
  clear hb1 H0 HS
  go_wp2_with fail
  refine (HC.out _).mono ?_
  rintro e w2 ⟨rfl, rfl⟩
  clear HC
  go_wp2_with (refine wpList_stB rowT_key rfl (.tmp 4) (.tmp 18) rfl (w.heap.size + 1) rfl .u8 z32 rfl rfl z32 F1.out.2 rfl ?_)
  intro w10 e1 e2
  have B4 := Bx.mk (Below.grown F1.out.1.1 e2 F1.out.1.1.size (by intro q hq; cases hq; omega))
  have E2 := Bx.mk e1
  clear e1 e2
  go_wp2_with fail
  (try simp only [Exit.inBlock, Exit.then])
  refine bodyPost_ret (results_rowN rowT_key rfl _ _ (w.heap.size + 1) (z32.map (.int .u8)) (dv z32) (.int .i64 100) rfl rfl (range_of_blk E2.out) rfl rfl) rfl ?_
  exact ⟨rfl, B4.out⟩
set_option maxHeartbeats 16000000 in
set_option maxRecDepth 100000 in
theorem rshared_ok (r code x peer : Int) (w : World) (hb : sideOK r code x = true) (hp : elt peer = true) :
    Calls Tryz.prog 99 #[.agg #[.int .i64 r, .int .i64 code, .int .i64 x], .int .i64 peer] w fun e w' => e = .returned (.tuple #[dv (keyN r code x peer), .int .i64 0]) ∧ Below w.heap.size w w' := by
  have hr := ((sideOK_iff r code x).1 hb).1
  have HC := Bx.mk (fun w => rcheck_c peer w)
  rw [gcheck_0 hp] at HC
  rcases hr with rfl | rfl
  · have HEl := Bx.mk (fun W => relement_c 1 code x peer W hb hp)
    have HKE := Bx.mk (keyN_1 code x peer)
    have HS := Bx.mk (fun w => rside_c 1 code x w)
    rw [hb] at HS
    simp only [if_true] at HS
    have HP := Bx.mk (fun w => rpoint_ok 1 code x w hb)
    have HKL := Bx.mk (keyN_len 1 code x peer)
    obtain ⟨kn, hkn⟩ : ∃ p, p = keyN 1 code x peer := ⟨_, rfl⟩
    rw [← hkn] at HKE HKL ⊢
    obtain ⟨own, hown⟩ : ∃ p, p = ownN 1 code x := ⟨_, rfl⟩
    rw [← hown] at HP HKE
    obtain ⟨zz, hzz⟩ : ∃ p, p = zN 1 code x peer := ⟨_, rfl⟩
    rw [← hzz] at HKE HEl
    have H0 := Bx.mk (fr_new w 1 code x)
    clear hb hp hkn hown hzz
    go_enter Tryz.func99, Tryz.ntmps99
    go_wp2_with fail
    refine (HS.out _).mono ?_
    rintro e w1 ⟨rfl, hb1⟩
    have F1 := Bx.mk (fr_step H0.out hb1)
    clear hb1 H0 HS
    go_wp2_with fail
    refine (HC.out _).mono ?_
    rintro e w2 ⟨rfl, rfl⟩
    obtain ⟨j0, j1, j2, j3⟩ := id F1.out.1
    clear j0 HC
    go_wp2_with fail
    refine (HP.out _).mono ?_
    rintro e w2 ⟨rfl, hb2⟩
    have F2 := Bx.mk (fr_step F1.out hb2)
    clear hb2 j1 j2 j3 F1 HP
    obtain ⟨j0, j1, j2, j3⟩ := id F2.out.1
    clear j0
    have FS0 := fr_drew F2.out
    have hsz : w.heap.size + 2 ≤ w2.drew.heap.size := FS0.2.lt (by decide)
    go_wp2_with fail
    refine wp_region_noPanic ?_
    refine wp_region_held_drew (S := fun W' => Fr w 1 code x W') (by kernel_rfl) FS0 (fun hH => ?_)
    refine wpAnyH_take (i := 0) (oi := _) (v := .int .i64 own) rfl (by kernel_rfl) (by kernel_rfl) (by kernel_rfl) (fun _ _ _ h => h) (Or.inl ⟨by rfl, by (intro wz hSz; go_simp)⟩) hH ?_
    simp only [Act.put, List.setIfInBounds_toArray, List.set_cons_zero, List.set_cons_succ]
    refine wpAnyH_take (i := 2) (oi := _) (v := .int .i64 peer) rfl (by kernel_rfl) (by kernel_rfl) (by kernel_rfl) (fun _ _ _ h => h) (Or.inl ⟨by rfl, by (intro wz hSz; go_simp)⟩) hH ?_
    simp only [Act.put, List.setIfInBounds_toArray, List.set_cons_zero, List.set_cons_succ]
    refine wpAnyH_take (i := 5) (oi := _) (v := .agg #[.int .i64 1, .int .i64 code, .int .i64 x]) rfl (by kernel_rfl) (by kernel_rfl) (by kernel_rfl) (fun _ _ _ h => h) (Or.inl ⟨by rfl, by (intro wz hSz; obtain ⟨⟨_, y0, y1, y2⟩, _⟩ := hSz; go_simp)⟩) hH ?_
    simp only [Act.put, List.setIfInBounds_toArray, List.set_cons_zero, List.set_cons_succ]
    refine wpAnyH_take (i := 6) (oi := _) (v := .int .i64 peer) rfl (by kernel_rfl) (by kernel_rfl) (by kernel_rfl) (fun _ _ _ h => h) (Or.inl ⟨by rfl, by (intro wz hSz; go_simp)⟩) hH ?_
    simp only [Act.put, List.setIfInBounds_toArray, List.set_cons_zero, List.set_cons_succ]
    refine wpAnyH_ready (rs := [1]) (by kernel_rfl) (by simp) ?_
    refine AllReadyH.cons (o := _) rfl (fun K1 hK1 => ?_) AllReadyH.nil
    go_simp
    refine (reight_c own _).mono ?_
    rintro e w3 ⟨u1, rfl, ho1⟩
    have FS1 := fr_step FS0 ho1.2.1
    (try dsimp only)
    refine hK1.out _ _ FS1 (fun _ => ?_)
    refine wpAnyH_ready (rs := [3]) (by kernel_rfl) (by simp) ?_
    refine AllReadyH.cons (o := _) rfl (fun K2 hK2 => ?_) AllReadyH.nil
    go_simp
    refine (reight_c peer _).mono ?_
    rintro e w4 ⟨u2, rfl, ho2⟩
    have FS2 := fr_step FS1 ho2.2.1
    have P1 : OB w2.drew u1 (be8 own) w4 := OB.step ho1 ho2.2.1
    obtain ⟨g2, c2, e2, _, _, hu2, hg2⟩ := slice_of_bytes ho2.1 (by rw [be8_len]; decide)
    subst e2
    (try dsimp only)
    refine hK2.out _ _ FS2 (fun _ => ?_)
    refine wpAnyH_ready (rs := [4]) (by kernel_rfl) (by simp) ?_
    refine AllReadyH.cons (o := _) rfl (fun K3 hK3 => ?_) AllReadyH.nil
    refine step_app8 rfl (.tmp 31) (.tmp 33) rfl u1 (be8 own) rfl P1.1 ⟨g2, 0, none⟩ 8 c2 (be8 peer) rfl (be8_len _) (by decide) (news_of_u8 hu2) (by rw [be8_len]; decide) ?_
    intro v3 w5 hb3 hs3
    have FS3 := fr_grown FS2 hs3.grown (fun k hk => Nat.le_trans hsz (P1.2.2 k hk))
    have P3 := OB.app' P1 hb3 hs3
    simp only [Act.put, List.setIfInBounds_toArray, List.set_cons_zero, List.set_cons_succ]
    refine hK3.out _ _ FS3 (fun _ => ?_)
    refine wpAnyH_ready (rs := [7]) (by kernel_rfl) (by simp) ?_
    refine AllReadyH.cons (o := _) rfl (fun K4 hK4 => ?_) AllReadyH.nil
    go_simp
    refine (HEl.out _).mono ?_
    rintro e w6 ⟨rfl, hb6⟩
    have FS4 := fr_step FS3 hb6
    have P4 := OB.step P3 hb6
    (try dsimp only)
    refine hK4.out _ _ FS4 (fun _ => ?_)
    refine wpAnyH_ready (rs := [8]) (by kernel_rfl) (by simp) ?_
    refine AllReadyH.cons (o := _) rfl (fun K5 hK5 => ?_) AllReadyH.nil
    go_simp
    refine (reight_c zz _).mono ?_
    rintro e w7 ⟨u4, rfl, ho4⟩
    have FS5 := fr_step FS4 ho4.2.1
    have P5 := OB.step P4 ho4.2.1
    obtain ⟨g4, c4, e4, _, _, hu4, hg4⟩ := slice_of_bytes ho4.1 (by rw [be8_len]; decide)
    subst e4
    (try dsimp only)
    refine hK5.out _ _ FS5 (fun _ => ?_)
    refine wpAnyH_ready (rs := [9]) (by kernel_rfl) (by simp) ?_
    refine AllReadyH.cons (o := _) rfl (fun K6 hK6 => ?_) AllReadyH.nil
    refine step_app8 rfl (.tmp 34) (.tmp 38) rfl v3 (be8 own ++ be8 peer) rfl P5.1 ⟨g4, 0, none⟩ 8 c4 (be8 zz) rfl (be8_len _) (by decide) (news_of_u8 hu4) (by rw [List.length_append, be8_len, be8_len]; decide) ?_
    intro v6 w8 hb8 hs8
    have FS6 := fr_grown FS5 hs8.grown (fun k hk => Nat.le_trans hsz (P5.2.2 k hk))
    have P6 := OB.app' P5 hb8 hs8
    obtain ⟨g5, c5, e5, ht⟩ := rtagged_own tPake hb8 (by rw [List.length_append, be8_len]; omega) (by rw [List.length_append, List.length_append, be8_len, be8_len, be8_len]; decide) (by decide) (by decide)
    subst e5
    simp only [Act.put, List.setIfInBounds_toArray, List.set_cons_zero, List.set_cons_succ]
    refine hK6.out _ _ FS6 (fun _ => ?_)
    refine wpAnyH_ready (rs := [10]) (by kernel_rfl) (by simp) ?_
    refine AllReadyH.cons (o := _) rfl (fun K7 hK7 => ?_) AllReadyH.nil
    go_simp
    refine hK7.out _ _ FS6 (fun _ => ?_)
    refine wpAnyH_done (by kernel_rfl) ?_ _
    refine NoPanic.normal ?_
    have F6 := Bx.mk FS6
    rw [List.append_assoc, ← HKE.out] at ht
    have HT := Bx.mk ht
    have HL24 : (be8 own ++ be8 peer ++ be8 zz).length = 24 := by rw [List.length_append, List.length_append, be8_len, be8_len, be8_len]
    rw [List.append_assoc] at HL24
    rw [HL24] at HT
    (try simp only [List.append_assoc, HL24])
    clear ht hb8 hs8 FS0 FS1 FS2 FS3 FS4 FS5 FS6 ho1 ho2 ho4 P1 P3 P4 P5 P6 hb3 hs3 hb6 hu2 hg2 hu4 hg4 j1 j2 j3 F2 HEl HKE HL24 hH
    go_wp2_with fail
    refine HT.out.mono ?_
    rintro e w9 ⟨rfl, hb9⟩
    have F9 := Bx.mk (fr_step F6.out hb9)
    clear hb9 F6 HT
    go_wp2_with (refine wpList_stB rowT_key rfl (.tmp 4) (.tmp 41) rfl (w.heap.size + 1) rfl .u8 kn rfl HKL.out z32 F9.out.2 rfl ?_)
    intro w10 e1 e2
    have B4 := Bx.mk (Below.grown F9.out.1.1 e2 F9.out.1.1.size (by intro q hq; cases hq; omega))
    have E2 := Bx.mk e1
    clear e1 e2
    go_wp2_with fail
    (try simp only [Exit.inBlock, Exit.then])
    refine bodyPost_ret (results_rowN rowT_key rfl _ _ (w.heap.size + 1) (kn.map (.int .u8)) (dv kn) (.int .i64 0) rfl rfl (range_of_blk E2.out) (by rw [List.length_map]; exact HKL.out) rfl) rfl ?_
    exact ⟨rfl, B4.out⟩
  · have HEl := Bx.mk (fun W => relement_c 2 code x peer W hb hp)
    have HKE := Bx.mk (keyN_2 code x peer)
    have HS := Bx.mk (fun w => rside_c 2 code x w)
    rw [hb] at HS
    simp only [if_true] at HS
    have HP := Bx.mk (fun w => rpoint_ok 2 code x w hb)
    have HKL := Bx.mk (keyN_len 2 code x peer)
    obtain ⟨kn, hkn⟩ : ∃ p, p = keyN 2 code x peer := ⟨_, rfl⟩
    rw [← hkn] at HKE HKL ⊢
    obtain ⟨own, hown⟩ : ∃ p, p = ownN 2 code x := ⟨_, rfl⟩
    rw [← hown] at HP HKE
    obtain ⟨zz, hzz⟩ : ∃ p, p = zN 2 code x peer := ⟨_, rfl⟩
    rw [← hzz] at HKE HEl
    have H0 := Bx.mk (fr_new w 2 code x)
    clear hb hp hkn hown hzz
    go_enter Tryz.func99, Tryz.ntmps99
    go_wp2_with fail
    refine (HS.out _).mono ?_
    rintro e w1 ⟨rfl, hb1⟩
    have F1 := Bx.mk (fr_step H0.out hb1)
    clear hb1 H0 HS
    go_wp2_with fail
    refine (HC.out _).mono ?_
    rintro e w2 ⟨rfl, rfl⟩
    obtain ⟨j0, j1, j2, j3⟩ := id F1.out.1
    clear j0 HC
    go_wp2_with fail
    refine (HP.out _).mono ?_
    rintro e w2 ⟨rfl, hb2⟩
    have F2 := Bx.mk (fr_step F1.out hb2)
    clear hb2 j1 j2 j3 F1 HP
    obtain ⟨j0, j1, j2, j3⟩ := id F2.out.1
    clear j0
    have FS0 := fr_drew F2.out
    have hsz : w.heap.size + 2 ≤ w2.drew.heap.size := FS0.2.lt (by decide)
    go_wp2_with fail
    refine wp_region_noPanic ?_
    refine wp_region_held_drew (S := fun W' => Fr w 2 code x W') (by kernel_rfl) FS0 (fun hH => ?_)
    refine wpAnyH_take (i := 0) (oi := _) (v := .int .i64 peer) rfl (by kernel_rfl) (by kernel_rfl) (by kernel_rfl) (fun _ _ _ h => h) (Or.inl ⟨by rfl, by (intro wz hSz; go_simp)⟩) hH ?_
    simp only [Act.put, List.setIfInBounds_toArray, List.set_cons_zero, List.set_cons_succ]
    refine wpAnyH_take (i := 2) (oi := _) (v := .int .i64 own) rfl (by kernel_rfl) (by kernel_rfl) (by kernel_rfl) (fun _ _ _ h => h) (Or.inl ⟨by rfl, by (intro wz hSz; go_simp)⟩) hH ?_
    simp only [Act.put, List.setIfInBounds_toArray, List.set_cons_zero, List.set_cons_succ]
    refine wpAnyH_take (i := 5) (oi := _) (v := .agg #[.int .i64 2, .int .i64 code, .int .i64 x]) rfl (by kernel_rfl) (by kernel_rfl) (by kernel_rfl) (fun _ _ _ h => h) (Or.inl ⟨by rfl, by (intro wz hSz; obtain ⟨⟨_, y0, y1, y2⟩, _⟩ := hSz; go_simp)⟩) hH ?_
    simp only [Act.put, List.setIfInBounds_toArray, List.set_cons_zero, List.set_cons_succ]
    refine wpAnyH_take (i := 6) (oi := _) (v := .int .i64 peer) rfl (by kernel_rfl) (by kernel_rfl) (by kernel_rfl) (fun _ _ _ h => h) (Or.inl ⟨by rfl, by (intro wz hSz; go_simp)⟩) hH ?_
    simp only [Act.put, List.setIfInBounds_toArray, List.set_cons_zero, List.set_cons_succ]
    refine wpAnyH_ready (rs := [1]) (by kernel_rfl) (by simp) ?_
    refine AllReadyH.cons (o := _) rfl (fun K1 hK1 => ?_) AllReadyH.nil
    go_simp
    refine (reight_c peer _).mono ?_
    rintro e w3 ⟨u1, rfl, ho1⟩
    have FS1 := fr_step FS0 ho1.2.1
    (try dsimp only)
    refine hK1.out _ _ FS1 (fun _ => ?_)
    refine wpAnyH_ready (rs := [3]) (by kernel_rfl) (by simp) ?_
    refine AllReadyH.cons (o := _) rfl (fun K2 hK2 => ?_) AllReadyH.nil
    go_simp
    refine (reight_c own _).mono ?_
    rintro e w4 ⟨u2, rfl, ho2⟩
    have FS2 := fr_step FS1 ho2.2.1
    have P1 : OB w2.drew u1 (be8 peer) w4 := OB.step ho1 ho2.2.1
    obtain ⟨g2, c2, e2, _, _, hu2, hg2⟩ := slice_of_bytes ho2.1 (by rw [be8_len]; decide)
    subst e2
    (try dsimp only)
    refine hK2.out _ _ FS2 (fun _ => ?_)
    refine wpAnyH_ready (rs := [4]) (by kernel_rfl) (by simp) ?_
    refine AllReadyH.cons (o := _) rfl (fun K3 hK3 => ?_) AllReadyH.nil
    refine step_app8 rfl (.tmp 31) (.tmp 33) rfl u1 (be8 peer) rfl P1.1 ⟨g2, 0, none⟩ 8 c2 (be8 own) rfl (be8_len _) (by decide) (news_of_u8 hu2) (by rw [be8_len]; decide) ?_
    intro v3 w5 hb3 hs3
    have FS3 := fr_grown FS2 hs3.grown (fun k hk => Nat.le_trans hsz (P1.2.2 k hk))
    have P3 := OB.app' P1 hb3 hs3
    simp only [Act.put, List.setIfInBounds_toArray, List.set_cons_zero, List.set_cons_succ]
    refine hK3.out _ _ FS3 (fun _ => ?_)
    refine wpAnyH_ready (rs := [7]) (by kernel_rfl) (by simp) ?_
    refine AllReadyH.cons (o := _) rfl (fun K4 hK4 => ?_) AllReadyH.nil
    go_simp
    refine (HEl.out _).mono ?_
    rintro e w6 ⟨rfl, hb6⟩
    have FS4 := fr_step FS3 hb6
    have P4 := OB.step P3 hb6
    (try dsimp only)
    refine hK4.out _ _ FS4 (fun _ => ?_)
    refine wpAnyH_ready (rs := [8]) (by kernel_rfl) (by simp) ?_
    refine AllReadyH.cons (o := _) rfl (fun K5 hK5 => ?_) AllReadyH.nil
    go_simp
    refine (reight_c zz _).mono ?_
    rintro e w7 ⟨u4, rfl, ho4⟩
    have FS5 := fr_step FS4 ho4.2.1
    have P5 := OB.step P4 ho4.2.1
    obtain ⟨g4, c4, e4, _, _, hu4, hg4⟩ := slice_of_bytes ho4.1 (by rw [be8_len]; decide)
    subst e4
    (try dsimp only)
    refine hK5.out _ _ FS5 (fun _ => ?_)
    refine wpAnyH_ready (rs := [9]) (by kernel_rfl) (by simp) ?_
    refine AllReadyH.cons (o := _) rfl (fun K6 hK6 => ?_) AllReadyH.nil
    refine step_app8 rfl (.tmp 34) (.tmp 38) rfl v3 (be8 peer ++ be8 own) rfl P5.1 ⟨g4, 0, none⟩ 8 c4 (be8 zz) rfl (be8_len _) (by decide) (news_of_u8 hu4) (by rw [List.length_append, be8_len, be8_len]; decide) ?_
    intro v6 w8 hb8 hs8
    have FS6 := fr_grown FS5 hs8.grown (fun k hk => Nat.le_trans hsz (P5.2.2 k hk))
    have P6 := OB.app' P5 hb8 hs8
    obtain ⟨g5, c5, e5, ht⟩ := rtagged_own tPake hb8 (by rw [List.length_append, be8_len]; omega) (by rw [List.length_append, List.length_append, be8_len, be8_len, be8_len]; decide) (by decide) (by decide)
    subst e5
    simp only [Act.put, List.setIfInBounds_toArray, List.set_cons_zero, List.set_cons_succ]
    refine hK6.out _ _ FS6 (fun _ => ?_)
    refine wpAnyH_ready (rs := [10]) (by kernel_rfl) (by simp) ?_
    refine AllReadyH.cons (o := _) rfl (fun K7 hK7 => ?_) AllReadyH.nil
    go_simp
    refine hK7.out _ _ FS6 (fun _ => ?_)
    refine wpAnyH_done (by kernel_rfl) ?_ _
    refine NoPanic.normal ?_
    have F6 := Bx.mk FS6
    rw [List.append_assoc, ← HKE.out] at ht
    have HT := Bx.mk ht
    have HL24 : (be8 peer ++ be8 own ++ be8 zz).length = 24 := by rw [List.length_append, List.length_append, be8_len, be8_len, be8_len]
    rw [List.append_assoc] at HL24
    rw [HL24] at HT
    (try simp only [List.append_assoc, HL24])
    clear ht hb8 hs8 FS0 FS1 FS2 FS3 FS4 FS5 FS6 ho1 ho2 ho4 P1 P3 P4 P5 P6 hb3 hs3 hb6 hu2 hg2 hu4 hg4 j1 j2 j3 F2 HEl HKE HL24 hH
    go_wp2_with fail
    refine HT.out.mono ?_
    rintro e w9 ⟨rfl, hb9⟩
    have F9 := Bx.mk (fr_step F6.out hb9)
    clear hb9 F6 HT
    go_wp2_with (refine wpList_stB rowT_key rfl (.tmp 4) (.tmp 41) rfl (w.heap.size + 1) rfl .u8 kn rfl HKL.out z32 F9.out.2 rfl ?_)
    intro w10 e1 e2
    have B4 := Bx.mk (Below.grown F9.out.1.1 e2 F9.out.1.1.size (by intro q hq; cases hq; omega))
    have E2 := Bx.mk e1
    clear e1 e2
    go_wp2_with fail
    (try simp only [Exit.inBlock, Exit.then])
    refine bodyPost_ret (results_rowN rowT_key rfl _ _ (w.heap.size + 1) (kn.map (.int .u8)) (dv kn) (.int .i64 0) rfl rfl (range_of_blk E2.out) (by rw [List.length_map]; exact HKL.out) rfl) rfl ?_
    exact ⟨rfl, B4.out⟩
end Go.Proofs.YtjbojoeafdkkeaaGreatDoor

namespace Go.Proofs.YtjbojoeafdkkeaaGreatDoor
open Go Go.RowKit Go.Lib

theorem rshared_c (r code x peer : Int) (w : World) :
    Calls Tryz.prog 99 #[.agg #[.int .i64 r, .int .i64 code, .int .i64 x], .int .i64 peer] w fun e w' => e = .returned (.tuple #[dv (sharedV r code x peer).1, .int .i64 (sharedV r code x peer).2]) ∧ Below w.heap.size w w' := by
  unfold sharedV
  cases hb : sideOK r code x
  · rw [if_neg (by simp)]
    dsimp only
    exact rshared_bad r code x peer w hb
  · by_cases hp : elt peer = true
    · rw [if_pos ⟨rfl, hp⟩]
      dsimp only
      exact rshared_ok r code x peer w hb hp
    · rw [if_neg (by rintro ⟨_, h⟩; exact hp h)]
      dsimp only
      exact rshared_peer r code x peer w hb hp

set_option maxHeartbeats 8000000 in
set_option maxRecDepth 100000 in
theorem rProof_bad (r code x peer : Int) (w : World) (hb : ¬ (sideOK r code x = true ∧ elt peer = true)) :
    Calls Tryz.prog 52 #[.agg #[.int .i64 r, .int .i64 code, .int .i64 x], .int .i64 peer] w fun e w' => e = .returned (.tuple #[dv z32, .int .i64 100]) ∧ Below w.heap.size w w' := by
  have HS := Bx.mk (fun w => rshared_c r code x peer w)
  rw [show sharedV r code x peer = (z32, 100) from if_neg hb] at HS
  dsimp only at HS
  obtain ⟨zk, hzk⟩ : ∃ p, p = z32 := ⟨_, rfl⟩
  rw [← hzk] at HS
  have HZL := Bx.mk (show zk.length = 32 by rw [hzk]; rfl)
  have H0 := Bx.mk (fr_newD w r code x)
  clear hb hzk
  go_enter Tryz.func52, Tryz.ntmps52
  go_wp2_with fail
  refine (HS.out _).mono ?_
  rintro e w1 ⟨rfl, hb1⟩
  have F1 := Bx.mk (fr_step H0.out hb1)
  have K1 := Bx.mk (blk_new w1 .u8 z32 54)
  have F2 := Bx.mk (fr_step F1.out ((Below.refl w1.heap.size w1).alloc (Nat.le_refl _) (.cells (z32.map (.int .u8)).toArray 54)))
  have hle := F1.out.1.1.size
  have hltT := F1.out.2.lt (by decide)
  clear hb1 H0 HS
  go_wp2_with (refine wpList_stB rowT_key rfl (.tmp 6) (.tmp 12) rfl w1.heap.size rfl .u8 zk rfl HZL.out z32 K1.out rfl ?_)
  intro w3 e1 e2
  have F3 := Bx.mk (show Fr w r code x _ from ⟨⟨Below.grown F2.out.1.1 e2 F2.out.1.1.size (by intro q hq; cases hq; omega), e2.cell F2.out.1.2.1 (fun q => by have q2 : w.heap.size = w1.heap.size := Option.some.inj q; omega), e2.cell F2.out.1.2.2.1 (fun q => by have q2 : w.heap.size = w1.heap.size := Option.some.inj q; omega), e2.cell F2.out.1.2.2.2 (fun q => by have q2 : w.heap.size = w1.heap.size := Option.some.inj q; omega)⟩, F2.out.2.grown e2 (by rw [World.size_alloc]; omega) (fun q => by have q2 : w.heap.size + 1 = w1.heap.size := Option.some.inj q; omega)⟩)
  clear e1 e2 K1 F1 F2
  go_wp2_with (first | (refine wpList_stB rowT_dig rfl (.tmp 4) (.tmp 16) rfl (w.heap.size + 1) rfl .u8 z32 rfl rfl z32 F3.out.2 rfl ?_))
  intro w4 e1 e2
  have B4 := Bx.mk (Below.grown F3.out.1.1 e2 F3.out.1.1.size (by intro q hq; cases hq; omega))
  have E1 := Bx.mk e1
  clear e1 e2
  go_wp2_with fail
  (try simp only [Exit.inBlock, Exit.then])
  refine bodyPost_ret (results_rowN rowT_dig rfl _ _ (w.heap.size + 1) (z32.map (.int .u8)) (dv z32) (.int .i64 100) rfl rfl (range_of_blk E1.out) rfl rfl) rfl ?_
  exact ⟨rfl, B4.out⟩

set_option maxHeartbeats 8000000 in
set_option maxRecDepth 100000 in
theorem rProof_ok (r code x peer : Int) (w : World) (hb : sideOK r code x = true) (hp : elt peer = true) :
    Calls Tryz.prog 52 #[.agg #[.int .i64 r, .int .i64 code, .int .i64 x], .int .i64 peer] w fun e w' => e = .returned (.tuple #[dv (prfN (keyN r code x peer) r), .int .i64 0]) ∧ Below w.heap.size w w' := by
  have HS := Bx.mk (fun w => rshared_ok r code x peer w hb hp)
  have hr := ((sideOK_iff r code x).1 hb).1
  have HPr := Bx.mk (fun w => rprf_c (keyN r code x peer) (keyN_len _ _ _ _) r (by omega) (by omega) w)
  have HKL := Bx.mk (keyN_len r code x peer)
  have HPL := Bx.mk (prfN_len (keyN r code x peer) r)
  obtain ⟨kn, hkn⟩ : ∃ p, p = keyN r code x peer := ⟨_, rfl⟩
  rw [← hkn] at HS HPr HKL HPL ⊢
  obtain ⟨pn, hpn⟩ : ∃ p, p = prfN kn r := ⟨_, rfl⟩
  rw [← hpn] at HPr HPL ⊢
  have H0 := Bx.mk (fr_newD w r code x)
  clear hb hp hkn hpn
  go_enter Tryz.func52, Tryz.ntmps52
  go_wp2_with fail
  refine (HS.out _).mono ?_
  rintro e w1 ⟨rfl, hb1⟩
  have F1 := Bx.mk (fr_step H0.out hb1)
  have K1 := Bx.mk (blk_new w1 .u8 z32 54)
  have F2 := Bx.mk (fr_step F1.out ((Below.refl w1.heap.size w1).alloc (Nat.le_refl _) (.cells (z32.map (.int .u8)).toArray 54)))
  have hle := F1.out.1.1.size
  have hltT := F1.out.2.lt (by decide)
  clear hb1 H0 HS
  go_wp2_with (refine wpList_stB rowT_key rfl (.tmp 6) (.tmp 12) rfl w1.heap.size rfl .u8 kn rfl HKL.out z32 K1.out rfl ?_)
  intro w3 e1 e2
  have F3 := Bx.mk (show Fr w r code x _ from ⟨⟨Below.grown F2.out.1.1 e2 F2.out.1.1.size (by intro q hq; cases hq; omega), e2.cell F2.out.1.2.1 (fun q => by have q2 : w.heap.size = w1.heap.size := Option.some.inj q; omega), e2.cell F2.out.1.2.2.1 (fun q => by have q2 : w.heap.size = w1.heap.size := Option.some.inj q; omega), e2.cell F2.out.1.2.2.2 (fun q => by have q2 : w.heap.size = w1.heap.size := Option.some.inj q; omega)⟩, F2.out.2.grown e2 (by rw [World.size_alloc]; omega) (fun q => by have q2 : w.heap.size + 1 = w1.heap.size := Option.some.inj q; omega)⟩)
  have E1 := Bx.mk e1
  clear e1 e2 K1 F1 F2
  obtain ⟨j0, j1, j2, j3⟩ := id F3.out.1
  clear j0
  go_wp2_with (refine wpList_ldN rowT_key rfl (.tmp 6) rfl w1.heap.size 0 rfl (kn.map (.int .u8)) (range_of_blk E1.out) (by rw [List.length_map]; exact HKL.out) (dv kn) rfl ?_)
  refine (HPr.out _).mono ?_
  rintro e w5 ⟨rfl, hb5⟩
  have F5 := Bx.mk (fr_step F3.out hb5)
  clear hb5 F3 j1 j2 j3 HPr
  go_wp2_with (refine wpList_stB rowT_dig rfl (.tmp 4) (.tmp 21) rfl (w.heap.size + 1) rfl .u8 pn rfl HPL.out z32 F5.out.2 rfl ?_)
  intro w6 e1 e2
  have B4 := Bx.mk (Below.grown F5.out.1.1 e2 F5.out.1.1.size (by intro q hq; cases hq; omega))
  have E2 := Bx.mk e1
  clear e1 e2
  go_wp2_with fail
  (try simp only [Exit.inBlock, Exit.then])
  refine bodyPost_ret (results_rowN rowT_dig rfl _ _ (w.heap.size + 1) (pn.map (.int .u8)) (dv pn) (.int .i64 0) rfl rfl (range_of_blk E2.out) (by rw [List.length_map]; exact HPL.out) rfl) rfl ?_
  exact ⟨rfl, B4.out⟩
end Go.Proofs.YtjbojoeafdkkeaaGreatDoor

namespace Go.Proofs.YtjbojoeafdkkeaaGreatDoor
open Go Go.RowKit Go.Lib

set_option maxHeartbeats 8000000 in
set_option maxRecDepth 100000 in
theorem rsess_c (r code x p t : Int) (d : Bool) (w : World) :
    Calls Tryz.prog 19 #[sessV r code x p t d] w fun e w' => e = .returned (.int .i64 (if sessOK r code x p t then 0 else 380)) ∧ Below w.heap.size w w' := by
  have HC := Bx.mk (fun w => rside_c r code x w)
  have HI := Bx.mk (sessOK_iff r code x p t)
  obtain ⟨q, hq⟩ : ∃ q : Int, q = if sessOK r code x p t then 0 else 380 := ⟨_, rfl⟩
  rw [← hq]
  have HQ := Bx.mk hq
  have HR := Bx.mk (row_new w (sessL r code x p t d) 25)
  have HB := Bx.mk ((Below.refl w.heap.size w).alloc (Nat.le_refl _) (.cells (sessL r code x p t d).toArray 25))
  clear hq
  unfold sessV
  cases hs : sideOK r code x with
  | false =>
    have e : q = 380 := by rw [HQ.out, if_neg]; intro h; have := (HI.out.1 h).1; rw [hs] at this; cases this
    subst e
    rw [hs] at HC
    simp only [Bool.false_eq_true, if_false] at HC
    clear HQ HI hs
    go_enter Tryz.func19, Tryz.ntmps19
    go_wp2_with fail
    refine (HC.out _).mono ?_
    rintro e w1 ⟨rfl, hb1⟩
    have R1 := Bx.mk (HR.out.below hb1 (by simp))
    have B1 := Bx.mk (below_step HB.out hb1 (Nat.le_refl _))
    go_wp2_with fail
    go_ret
    exact ⟨rfl, B1.out⟩
  | true =>
    rw [hs] at HC
    simp only [if_true] at HC
    have HS := Bx.mk hs
    clear hs
    by_cases a1 : r = 1
    · subst a1
      by_cases a2 : p < 0
      · have e : q = 380 := by rw [HQ.out, if_neg]; intro h; have := HI.out.1 h; omega
        subst e
        clear HQ HI HS
        go_enter Tryz.func19, Tryz.ntmps19
        go_wp2_with fail
        refine (HC.out _).mono ?_
        rintro e w1 ⟨rfl, hb1⟩
        have R1 := HR.out.below hb1 (by simp)
        have B1 := Bx.mk (below_step HB.out hb1 (Nat.le_refl _))
        have r0 := (R1 0 (by simp [sessL])).1; have r3 := (R1 3 (by simp [sessL])).1; have r4 := (R1 4 (by simp [sessL])).1
        simp only [sessL, List.getElem_cons_succ, List.getElem_cons_zero] at r0 r3 r4
        clear R1 hb1 HR HB
        go_wp2_with fail
        go_ret
        exact ⟨rfl, B1.out⟩
      · by_cases a3 : 64 ≤ p
        · have e : q = 380 := by rw [HQ.out, if_neg]; intro h; have := HI.out.1 h; omega
          subst e
          clear HQ HI HS
          go_enter Tryz.func19, Tryz.ntmps19
          go_wp2_with fail
          refine (HC.out _).mono ?_
          rintro e w1 ⟨rfl, hb1⟩
          have R1 := HR.out.below hb1 (by simp)
          have B1 := Bx.mk (below_step HB.out hb1 (Nat.le_refl _))
          have r0 := (R1 0 (by simp [sessL])).1; have r3 := (R1 3 (by simp [sessL])).1; have r4 := (R1 4 (by simp [sessL])).1
          simp only [sessL, List.getElem_cons_succ, List.getElem_cons_zero] at r0 r3 r4
          clear R1 hb1 HR HB
          go_wp2_with fail
          go_ret
          exact ⟨rfl, B1.out⟩
        · by_cases a4 : t < 0
          · have e : q = 380 := by rw [HQ.out, if_neg]; intro h; have := HI.out.1 h; omega
            subst e
            clear HQ HI HS
            go_enter Tryz.func19, Tryz.ntmps19
            go_wp2_with fail
            refine (HC.out _).mono ?_
            rintro e w1 ⟨rfl, hb1⟩
            have R1 := HR.out.below hb1 (by simp)
            have B1 := Bx.mk (below_step HB.out hb1 (Nat.le_refl _))
            have r0 := (R1 0 (by simp [sessL])).1; have r3 := (R1 3 (by simp [sessL])).1; have r4 := (R1 4 (by simp [sessL])).1
            simp only [sessL, List.getElem_cons_succ, List.getElem_cons_zero] at r0 r3 r4
            clear R1 hb1 HR HB
            go_wp2_with fail
            go_ret
            exact ⟨rfl, B1.out⟩
          · by_cases a5 : 5 < t
            · have e : q = 380 := by rw [HQ.out, if_neg]; intro h; have := HI.out.1 h; omega
              subst e
              clear HQ HI HS
              go_enter Tryz.func19, Tryz.ntmps19
              go_wp2_with fail
              refine (HC.out _).mono ?_
              rintro e w1 ⟨rfl, hb1⟩
              have R1 := HR.out.below hb1 (by simp)
              have B1 := Bx.mk (below_step HB.out hb1 (Nat.le_refl _))
              have r0 := (R1 0 (by simp [sessL])).1; have r3 := (R1 3 (by simp [sessL])).1; have r4 := (R1 4 (by simp [sessL])).1
              simp only [sessL, List.getElem_cons_succ, List.getElem_cons_zero] at r0 r3 r4
              clear R1 hb1 HR HB
              go_wp2_with fail
              go_ret
              exact ⟨rfl, B1.out⟩
            · have e : q = 0 := by rw [HQ.out, if_pos]; exact HI.out.2 ⟨HS.out, rfl, by omega, by omega, by omega, by omega⟩
              subst e
              clear HQ HI HS
              go_enter Tryz.func19, Tryz.ntmps19
              go_wp2_with fail
              refine (HC.out _).mono ?_
              rintro e w1 ⟨rfl, hb1⟩
              have R1 := HR.out.below hb1 (by simp)
              have B1 := Bx.mk (below_step HB.out hb1 (Nat.le_refl _))
              have r0 := (R1 0 (by simp [sessL])).1; have r3 := (R1 3 (by simp [sessL])).1; have r4 := (R1 4 (by simp [sessL])).1
              simp only [sessL, List.getElem_cons_succ, List.getElem_cons_zero] at r0 r3 r4
              clear R1 hb1 HR HB
              go_wp2_with fail
              go_ret
              exact ⟨rfl, B1.out⟩
    · have e : q = 380 := by rw [HQ.out, if_neg]; intro h; have := HI.out.1 h; omega
      subst e
      clear HQ HI HS
      go_enter Tryz.func19, Tryz.ntmps19
      go_wp2_with fail
      refine (HC.out _).mono ?_
      rintro e w1 ⟨rfl, hb1⟩
      have R1 := HR.out.below hb1 (by simp)
      have B1 := Bx.mk (below_step HB.out hb1 (Nat.le_refl _))
      have r0 := (R1 0 (by simp [sessL])).1; have r3 := (R1 3 (by simp [sessL])).1; have r4 := (R1 4 (by simp [sessL])).1
      simp only [sessL, List.getElem_cons_succ, List.getElem_cons_zero] at r0 r3 r4
      clear R1 hb1 HR HB
      go_wp2_with fail
      go_ret
      exact ⟨rfl, B1.out⟩

set_option maxHeartbeats 8000000 in
set_option maxRecDepth 100000 in
theorem rnew_arg (p code x : Int) (w : World) (h : p < 0 ∨ 64 ≤ p) :
    Calls Tryz.prog 15 #[.int .i64 p, .int .i64 code, .int .i64 x] w fun e w' => e = .returned (.tuple #[sessV 0 0 0 0 0 false, .int .i64 1]) ∧ Below w.heap.size w w' := by
  have HR := Bx.mk (row_new w sess0 25)
  have HB := Bx.mk ((Below.refl w.heap.size w).alloc (Nat.le_refl _) (.cells sess0.toArray 25))
  by_cases h1 : p < 0
  · clear h
    go_enter Tryz.func15, Tryz.ntmps15
    go_wp2_with (first | (refine wpList_ldN rowT_sess rfl (.tmp 6) rfl w.heap.size 0 rfl sess0 HR.out.range0 rfl (sessV 0 0 0 0 0 false) rfl ?_) | (refine wpList_stR rowT_sess rfl (.tmp 6) (.tmp 16) rfl w.heap.size rfl sess0 rfl sess0_one rfl sess0 HR.out rfl ?_))
    intro w2 e1 e2
    have B2 := Bx.mk (Below.grown HB.out e2 HB.out.size (by intro q hq; cases hq; omega))
    have E1 := Bx.mk e1
    clear e1 e2
    go_wp2_with fail
    (try simp only [Exit.inBlock, Exit.then])
    refine bodyPost_ret (results_rowN rowT_sess rfl _ _ w.heap.size sess0 (sessV 0 0 0 0 0 false) (.int .i64 1) rfl rfl E1.out.range0 rfl rfl) rfl ?_
    exact ⟨rfl, B2.out⟩
  · have h2 : 64 ≤ p := by omega
    clear h
    go_enter Tryz.func15, Tryz.ntmps15
    go_wp2_with (first | (refine wpList_ldN rowT_sess rfl (.tmp 6) rfl w.heap.size 0 rfl sess0 HR.out.range0 rfl (sessV 0 0 0 0 0 false) rfl ?_) | (refine wpList_stR rowT_sess rfl (.tmp 6) (.tmp 16) rfl w.heap.size rfl sess0 rfl sess0_one rfl sess0 HR.out rfl ?_))
    intro w2 e1 e2
    have B2 := Bx.mk (Below.grown HB.out e2 HB.out.size (by intro q hq; cases hq; omega))
    have E1 := Bx.mk e1
    clear e1 e2
    go_wp2_with fail
    (try simp only [Exit.inBlock, Exit.then])
    refine bodyPost_ret (results_rowN rowT_sess rfl _ _ w.heap.size sess0 (sessV 0 0 0 0 0 false) (.int .i64 1) rfl rfl E1.out.range0 rfl rfl) rfl ?_
    exact ⟨rfl, B2.out⟩

set_option maxHeartbeats 8000000 in
set_option maxRecDepth 100000 in
theorem rnew_side (p code x : Int) (w : World) (h0 : 0 ≤ p) (h1 : p < 64) (hs : sideOK 1 code x = false) :
    Calls Tryz.prog 15 #[.int .i64 p, .int .i64 code, .int .i64 x] w fun e w' => e = .returned (.tuple #[sessV 0 0 0 0 0 false, .int .i64 100]) ∧ Below w.heap.size w w' := by
  obtain ⟨c1, c2, c3⟩ := new_two w code x
  have HR := Bx.mk c1; have HB := Bx.mk c3
  have HC := Bx.mk (fun w => rside_c 1 code x w)
  rw [hs] at HC
  simp only [Bool.false_eq_true, if_false] at HC
  clear c1 c2 c3 hs
  go_enter Tryz.func15, Tryz.ntmps15
  go_wp2_with fail
  refine (HC.out _).mono ?_
  rintro e w1 ⟨rfl, hb1⟩
  have R1 := Bx.mk (HR.out.below hb1 (HR.out.lt (by decide)))
  have B1 := Bx.mk (below_step HB.out hb1 (Nat.le_refl _))
  clear hb1 HR HB
  go_wp2_with (first | (refine wpList_ldN rowT_sess rfl (.tmp 6) rfl w.heap.size 0 rfl sess0 R1.out.range0 rfl (sessV 0 0 0 0 0 false) rfl ?_) | (refine wpList_stR rowT_sess rfl (.tmp 6) (.tmp 24) rfl w.heap.size rfl sess0 rfl sess0_one rfl sess0 R1.out rfl ?_))
  intro w2 e1 e2
  have B2 := Bx.mk (Below.grown B1.out e2 B1.out.size (by intro q hq; cases hq; omega))
  have E1 := Bx.mk e1
  clear e1 e2
  go_wp2_with fail
  (try simp only [Exit.inBlock, Exit.then])
  refine bodyPost_ret (results_rowN rowT_sess rfl _ _ w.heap.size sess0 (sessV 0 0 0 0 0 false) (.int .i64 100) rfl rfl E1.out.range0 rfl rfl) rfl ?_
  exact ⟨rfl, B2.out⟩

set_option maxHeartbeats 8000000 in
set_option maxRecDepth 100000 in
theorem rnew_ok (p code x : Int) (w : World) (h0 : 0 ≤ p) (h1 : p < 64) (hs : sideOK 1 code x = true) :
    Calls Tryz.prog 15 #[.int .i64 p, .int .i64 code, .int .i64 x] w fun e w' => e = .returned (.tuple #[sessV 1 code x p 0 false, .int .i64 0]) ∧ Below w.heap.size w w' := by
  obtain ⟨c1, c2, c3⟩ := new_two w code x
  have HR := Bx.mk c1; have HB := Bx.mk c3; have HS := Bx.mk c2
  have HC := Bx.mk (fun w => rside_c 1 code x w)
  rw [hs] at HC
  simp only [if_true] at HC
  clear c1 c2 c3 hs
  go_enter Tryz.func15, Tryz.ntmps15
  go_wp2_with fail
  refine (HC.out _).mono ?_
  rintro e w1 ⟨rfl, hb1⟩
  have R1 := Bx.mk (HR.out.below hb1 (HR.out.lt (by decide)))
  have B1 := Bx.mk (below_step HB.out hb1 (Nat.le_refl _))
  have S1 := HS.out.below hb1 (HS.out.lt (by simp))
  have s0 := (S1 0 (by simp)).1; have s1 := (S1 1 (by simp)).1; have s2 := (S1 2 (by simp)).1
  simp only [List.getElem_cons_succ, List.getElem_cons_zero] at s0 s1 s2
  clear hb1 HR HB HS S1
  go_wp2_with (refine wpList_stR rowT_sess rfl (.tmp 6) (.tmp 28) rfl w.heap.size rfl (sessL 1 code x p 0 false) rfl (sess_one 1 code x p 0 false) rfl sess0 R1.out rfl ?_)
  intro w2 e1 e2
  have B2 := Bx.mk (Below.grown B1.out e2 B1.out.size (by intro q hq; cases hq; omega))
  have E1 := Bx.mk e1
  clear e1 e2
  go_wp2_with fail
  (try simp only [Exit.inBlock, Exit.then])
  refine bodyPost_ret (results_rowN rowT_sess rfl _ _ w.heap.size (sessL 1 code x p 0 false) (sessV 1 code x p 0 false) (.int .i64 0) rfl rfl E1.out.range0 rfl rfl) rfl ?_
  exact ⟨rfl, B2.out⟩

set_option maxHeartbeats 8000000 in
set_option maxRecDepth 100000 in
theorem repoint_ok (r code x p t : Int) (d : Bool) (w : World) (hs : sessOK r code x p t = true) :
    Calls Tryz.prog 17 #[sessV r code x p t d] w fun e w' => e = .returned (.tuple #[.int .i64 (ownN r code x), .int .i64 0]) ∧ Below w.heap.size w w' := by
  have HC := Bx.mk (fun w => rsess_c r code x p t d w)
  rw [hs] at HC
  simp only [if_true] at HC
  have hi := (sessOK_iff r code x p t).1 hs
  have HP := Bx.mk (fun w => rpoint_ok r code x w hi.1)
  have HR := Bx.mk (row_new w (sessL r code x p t d) 25)
  have HB := Bx.mk ((Below.refl w.heap.size w).alloc (Nat.le_refl _) (.cells (sessL r code x p t d).toArray 25))
  clear hs hi
  obtain ⟨o0, ho0⟩ : ∃ p, p = ownN r code x := ⟨_, rfl⟩
  rw [← ho0] at HP ⊢
  clear ho0
  unfold sessV at HC ⊢
  go_enter Tryz.func17, Tryz.ntmps17
  go_wp2_with fail
  refine (HC.out _).mono ?_
  rintro e w1 ⟨rfl, hb1⟩
  have R1 := HR.out.below hb1 (HR.out.lt (by simp [sessL]))
  have B1 := Bx.mk (below_step HB.out hb1 (Nat.le_refl _))
  have r0 := (R1 0 (by simp [sessL])).1; have r1 := (R1 1 (by simp [sessL])).1; have r2 := (R1 2 (by simp [sessL])).1
  simp only [sessL, List.getElem_cons_succ, List.getElem_cons_zero] at r0 r1 r2
  clear R1 hb1 HR HB
  go_wp2_with fail
  refine (HP.out _).mono ?_
  rintro e w2 ⟨rfl, hb2⟩
  have B2 := Bx.mk (below_step B1.out hb2 (Nat.le_refl _))
  go_wp2_with fail
  go_ret2
  exact ⟨rfl, B2.out⟩

set_option maxHeartbeats 8000000 in
set_option maxRecDepth 100000 in
theorem epoint_bad (r code x p t : Int) (d : Bool) (w : World) (hs : sessOK r code x p t = false) :
    Calls Tryz.prog 16 #[sessV r code x p t d] w fun e w' => e = .returned (.tuple #[.int .i64 0, .int .i64 380]) ∧ Below w.heap.size w w' := by
  have HC := Bx.mk (fun w => echeck_c r code x p t d w)
  rw [hs] at HC
  simp only [Bool.false_eq_true, if_false] at HC
  have HB := Bx.mk ((Below.refl w.heap.size w).alloc (Nat.le_refl _) (.cells (sessL r code x p t d).toArray 25))
  clear hs
  unfold sessV at HC ⊢
  go_enter Tryz.func16, Tryz.ntmps16
  go_wp2_with fail
  refine (HC.out _).mono ?_
  rintro e w1 ⟨rfl, hb1⟩
  have B1 := Bx.mk (below_step HB.out hb1 (Nat.le_refl _))
  clear hb1 HB
  go_wp2_with fail
  go_ret2
  exact ⟨rfl, B1.out⟩

set_option maxHeartbeats 8000000 in
set_option maxRecDepth 100000 in
theorem repoint_bad (r code x p t : Int) (d : Bool) (w : World) (hs : sessOK r code x p t = false) :
    Calls Tryz.prog 17 #[sessV r code x p t d] w fun e w' => e = .returned (.tuple #[.int .i64 0, .int .i64 380]) ∧ Below w.heap.size w w' := by
  have HC := Bx.mk (fun w => rsess_c r code x p t d w)
  rw [hs] at HC
  simp only [Bool.false_eq_true, if_false] at HC
  have HB := Bx.mk ((Below.refl w.heap.size w).alloc (Nat.le_refl _) (.cells (sessL r code x p t d).toArray 25))
  clear hs
  unfold sessV at HC ⊢
  go_enter Tryz.func17, Tryz.ntmps17
  go_wp2_with fail
  refine (HC.out _).mono ?_
  rintro e w1 ⟨rfl, hb1⟩
  have B1 := Bx.mk (below_step HB.out hb1 (Nat.le_refl _))
  clear hb1 HB
  go_wp2_with fail
  go_ret2
  exact ⟨rfl, B1.out⟩

/-- What New makes of its arguments. -/
def newF (p code x : Int) : (Int × Int × Int × Int) × Int := if p < 0 ∨ 64 ≤ p then ((0, 0, 0, 0), 1) else if sideOK 1 code x then ((1, code, x, p), 0) else ((0, 0, 0, 0), 100)
def newV (p code x : Int) : Value := sessV (newF p code x).1.1 (newF p code x).1.2.1 (newF p code x).1.2.2.1 (newF p code x).1.2.2.2 0 false
theorem enew_c (p code x : Int) (w : World) :
    Calls Tryz.prog 14 #[.int .i64 p, .int .i64 code, .int .i64 x] w fun e w' => e = .returned (.tuple #[newV p code x, .int .i64 (newF p code x).2]) ∧ Below w.heap.size w w' := by
  unfold newV newF
  by_cases h : p < 0 ∨ 64 ≤ p
  · rw [if_pos h]
    exact enew_arg p code x w h
  · rw [if_neg h]
    cases hs : sideOK 1 code x
    · rw [if_neg (by decide)]
      exact enew_side p code x w (by omega) (by omega) hs
    · rw [if_pos rfl]
      exact enew_ok p code x w (by omega) (by omega) hs
theorem rnew_c (p code x : Int) (w : World) :
    Calls Tryz.prog 15 #[.int .i64 p, .int .i64 code, .int .i64 x] w fun e w' => e = .returned (.tuple #[newV p code x, .int .i64 (newF p code x).2]) ∧ Below w.heap.size w w' := by
  unfold newV newF
  by_cases h : p < 0 ∨ 64 ≤ p
  · rw [if_pos h]
    exact rnew_arg p code x w h
  · rw [if_neg h]
    cases hs : sideOK 1 code x
    · rw [if_neg (by decide)]
      exact rnew_side p code x w (by omega) (by omega) hs
    · rw [if_pos rfl]
      exact rnew_ok p code x w (by omega) (by omega) hs
/-- What Point makes of a session. -/
def pntF (r code x p t : Int) : Int × Int := if sessOK r code x p t then (ownN r code x, 0) else (0, 380)
theorem epoint_c (r code x p t : Int) (d : Bool) (w : World) (hL : Laid w) :
    Calls Tryz.prog 16 #[sessV r code x p t d] w fun e w' => e = .returned (.tuple #[.int .i64 (pntF r code x p t).1, .int .i64 (pntF r code x p t).2]) ∧ Below w.heap.size w w' := by
  unfold pntF
  cases hs : sessOK r code x p t
  · rw [if_neg (by decide)]
    exact epoint_bad r code x p t d w hs
  · rw [if_pos rfl]
    exact epoint_ok r code x p t d w hL hs
theorem repoint_c (r code x p t : Int) (d : Bool) (w : World) :
    Calls Tryz.prog 17 #[sessV r code x p t d] w fun e w' => e = .returned (.tuple #[.int .i64 (pntF r code x p t).1, .int .i64 (pntF r code x p t).2]) ∧ Below w.heap.size w w' := by
  unfold pntF
  cases hs : sessOK r code x p t
  · rw [if_neg (by decide)]
    exact repoint_bad r code x p t d w hs
  · rw [if_pos rfl]
    exact repoint_ok r code x p t d w hs
end Go.Proofs.YtjbojoeafdkkeaaGreatDoor
