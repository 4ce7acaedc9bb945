/- The specification's codec (chapter 1) at lists of integers: Encode. -/
import Derived.Test.YtjbojoeafdkkeaaGreatDoorJ22
import Derived.Test.YtjbojoeafdkkeaaGreatDoorJ11
import Derived.Test.YtjbojoeafdkkeaaGreatDoorJ10
import Derived.Test.YtjbojoeafdkkeaaGreatDoorJ9
import Derived.Test.YtjbojoeafdkkeaaGreatDoorJ12
set_option linter.unusedVariables false
set_option linter.unusedSimpArgs false
namespace Go.Proofs.YtjbojoeafdkkeaaGreatDoor
open Go Go.RowKit Go.Lib

theorem flat_take (l : List Int) (k : Nat) (hk : k < l.length) : ((l.take (k + 1)).map encI).flatten = ((l.take k).map encI).flatten ++ encI l[k] := by
  rw [List.take_succ_eq_append_getElem hk, List.map_append, List.flatten_append]
  congr 1
  simp
set_option maxHeartbeats 4000000 in
set_option maxRecDepth 100000 in
theorem rencL_c (b o cap : Nat) (l : List Int) (hl : l.length ≤ 64) (w : World) (hr : ∀ n ∈ l, -9223372036854775808 ≤ n ∧ n ≤ 9223372036854775807) (hb : b < w.heap.size) (hc : IntsAt w b o l) :
    Calls Tryz.prog 157 #[.agg #[.int .i64 3, .int .i64 0, .string ⟨#[]⟩, .slice (some ⟨b, o, none⟩) l.length cap]] w fun e w' => ∃ v, e = .returned v ∧ OB w v (encL l) w' := by
  have HC := Bx.mk hc; have HR := Bx.mk hr; clear hc hr
  obtain ⟨n, hn⟩ : ∃ n, n = l.length := ⟨_, rfl⟩
  have HNN := Bx.mk hn
  rw [← hn] at hl ⊢
  have L0 := Bx.mk (LB.new w b o n cap)
  have B0 := Bx.mk ((Below.refl w.heap.size w).alloc (Nat.le_refl _) (oLB b o n cap))
  have O0 := Bx.mk (OB.one (w.alloc (oLB b o n cap)) 3)
  have hs1 : (w.alloc (oLB b o n cap)).heap.size = w.heap.size + 1 := World.size_alloc _ _
  unfold oLB at L0 B0 O0 hs1
  have HS1 := Bx.mk hs1
  have HN := Bx.mk (fun w => rnumeral_c (n : Int) w (by omega) (by omega))
  have hlen := numB_len 10 (n : Int)
  have hp := numB_pos 9 (n : Int)
  clear hs1 hn
  go_enter Tryz.func157, Tryz.ntmps157
  go_wp2_with fail
  refine (HN.out _).mono ?_
  rintro e w2 ⟨v, rfl, ho⟩
  have O1 := Bx.mk (O0.out.below ho.2.1)
  have L1 := Bx.mk ((L0.out.below ((Below.refl _ _).alloc (Nat.le_refl _) _) (by rw [HS1.out]; omega)).below ho.2.1 (by rw [World.size_alloc, HS1.out]; omega))
  rw [HS1.out] at O1
  generalize (w.alloc (.cells #[.int .i64 3, .int .i64 0, .string ⟨#[]⟩, .slice (some ⟨b, o, none⟩) n cap] 59)) = w1 at *
  have HEL := Bx.mk (show encL l = 3 :: (numB 10 (n : Int) ++ (l.map encI).flatten) by rw [HNN.out]; rfl)
  obtain ⟨g, c, e1, hc1, hc2, hu8, hg⟩ := slice_of_bytes ho.1 hp
  subst e1
  have N2 := Bx.mk (news_of_u8 hu8)
  have N1 := Bx.mk (news_of_u8 (u8_of_bytes O1.out.1))
  obtain ⟨m, hm⟩ : ∃ m, m = numB 10 (n : Int) := ⟨_, rfl⟩
  rw [← hm] at hlen hp N2 HEL ⊢
  obtain ⟨N, hN⟩ : ∃ N, N = m.length := ⟨_, rfl⟩
  rw [← hN] at hp hlen ⊢
  have HNl := Bx.mk hN
  have hs1 := HS1.out
  clear hN hm ho hc1 hc2 hu8 hg O0 HN L0
  go_wp2_with (at_builtin; go_must (refine wpList_appFull8 rfl (.tmp 27) (.tmp 32) rfl ⟨w.heap.size + 1, 0, none⟩ 1 [3] rfl rfl N1.out ⟨g, 0, none⟩ N c m rfl HNl.out.symm hp N2.out (by simp; omega) ?_))
  intro v2 w3 hb2 hg2 ho2
  have O2 := Bx.mk (show OB w1 v2 (3 :: (m ++ (((l.take 0).map encI).flatten))) w3 by simpa using OB.full (w := w1) O1.out.2.1 hb2 hg2 ho2)
  have L2 := Bx.mk (L1.out.grown hg2 (by simp))
  clear hb2 hg2 ho2 O1 L1 N1 N2 hp
  go_wp2_with fail
  go_loopg [3, 4] n (fun gh s3 s4 wr => ∃ k : Nat, s4 = .int .i64 k ∧ k ≤ n ∧ Bx (gh = n - k) ∧ Bx (LB wr w.heap.size b o n cap) ∧ Bx (OB w1 s3 (3 :: (m ++ (((l.take k).map encI).flatten))) wr))
  case atStart => exact ⟨0, rfl, by omega, .mk rfl, L2, O2⟩
  case round =>
    clear L2 O2
    obtain ⟨k, rfl, hk, hgh, hL, hO⟩ := hrel
    obtain ⟨z0, z1, z2, z3⟩ := id hL.out
    have hsz : w.heap.size < wr.heap.size := cell_lt z0
    by_cases hlt : k < n
    · have hB := below_step B0.out hO.out.2.1 (by omega)
      obtain ⟨c0, c1, c2, c3⟩ := HC.out.below hb hB k (by rw [← HNN.out]; exact hlt)
      have hkl : k < l.length := by rw [← HNN.out]; exact hlt
      have hfl := flat_take l k hkl
      have hxr := HR.out l[k] (List.getElem_mem hkl)
      obtain ⟨x, hx⟩ : ∃ x, x = l[k] := ⟨_, rfl⟩
      rw [← hx] at c1 hfl hxr
      have HFL := Bx.mk hfl
      have hfn := flat_len (l.take k)
      have hel := encI_len x
      have hep : 0 < (encI x).length := by unfold encI; simp
      obtain ⟨acc, hacc⟩ : ∃ acc, acc = 3 :: (m ++ (((l.take k).map encI).flatten)) := ⟨_, rfl⟩
      have hal : acc.length ≤ 2000 := by have hnl := HNl.out; rw [hacc]; simp only [List.length_cons, List.length_append]; rw [List.length_take] at hfn; omega
      rw [← hacc] at hO
      have HA := Bx.mk hacc
      have HI := Bx.mk (fun w => rencI_c x w hxr.1 hxr.2)
      clear hB hkl hfl hxr hx hfn hacc
      go_wp2_with fail
      refine (HI.out _).mono ?_
      rintro e w4 ⟨u, rfl, ho⟩
      have hO2 := Bx.mk (hO.out.below ho.2.1)
      have hL2 := Bx.mk (hL.out.below ho.2.1 hsz)
      obtain ⟨g, c, e1, hc1, hc2, hu8, hg⟩ := slice_of_bytes ho.1 hep
      subst e1
      have N2 := Bx.mk (news_of_u8 hu8)
      obtain ⟨q, hq⟩ : ∃ q, q = encI x := ⟨_, rfl⟩
      rw [← hq] at hel hep N2 HFL ⊢
      obtain ⟨M, hM⟩ : ∃ M, M = q.length := ⟨_, rfl⟩
      rw [← hM] at hel hep ⊢
      have HM := Bx.mk hM
      clear hM hq ho hc1 hc2 hu8 hg HI hL hO z0 z1 z2 z3 c0 c1 c2 c3
      go_wp2_with (at_builtin; go_must (refine wpList_app8 rfl (.tmp 41) (.tmp 47) rfl u3 acc rfl hO2.out.1 ⟨g, 0, none⟩ M c q rfl HM.out.symm hep N2.out (by omega) ?_))
      intro v5 w5 hb5 hs5
      have hO3 := Bx.mk (hO2.out.since hb5 hs5)
      have hL3 := Bx.mk (hL2.out.grown hs5.grown (fun e => by have := hO2.out.2.2 _ e.symm; omega))
      clear hb5 hs5 hO2 hL2
      go_wp2_with fail
      go_roundg (n - k - 1)
      case measure => have := hgh.out; omega
      case rel =>
        refine ⟨k + 1, by go_num, by omega, .mk (by omega), hL3, .mk ?_⟩
        rw [HFL.out]
        have := hO3.out
        rw [HA.out] at this
        simpa using this
    · obtain rfl : k = n := by omega
      have hOe := hO.out
      rw [HNN.out, List.take_length, ← HEL.out] at hOe
      have HOE := Bx.mk hOe
      have hB := below_step B0.out hOe.2.1 (by omega)
      clear hOe hL hgh
      go_wp2_with fail
      go_ret
      exact ⟨_, rfl, HOE.out.1, hB, fun k hk => by have := HOE.out.2.2 k hk; omega⟩
end Go.Proofs.YtjbojoeafdkkeaaGreatDoor

namespace Go.Proofs.YtjbojoeafdkkeaaGreatDoor
open Go Go.RowKit Go.Lib

set_option maxHeartbeats 4000000 in
set_option maxRecDepth 100000 in
theorem rencode_c (b o cap : Nat) (l : List Int) (hl : l.length ≤ 64) (w : World) (hr : ∀ n ∈ l, -9223372036854775808 ≤ n ∧ n ≤ 9223372036854775807) (hb : b < w.heap.size) (hc : IntsAt w b o l) :
    Calls Tryz.prog 108 #[.agg #[.int .i64 3, .int .i64 0, .string ⟨#[]⟩, .slice (some ⟨b, o, none⟩) l.length cap]] w fun e w' => ∃ v, e = .returned (.tuple #[v, .int .i64 0]) ∧ OB w v (encL l) w' := by
  have HC := Bx.mk hc; clear hc
  have L0 := Bx.mk (LB.new w b o l.length cap)
  have B0 := Bx.mk ((Below.refl w.heap.size w).alloc (Nat.le_refl _) (oLB b o l.length cap))
  unfold oLB at L0 B0
  have HK := Bx.mk (fun W (hB : Below w.heap.size w W) => rcodecCheck_list b o cap l hl W (Nat.lt_of_lt_of_le hb hB.size) (HC.out.below hb hB))
  have HE := Bx.mk (fun W (hB : Below w.heap.size w W) => rencL_c b o cap l hl W hr (Nat.lt_of_lt_of_le hb hB.size) (HC.out.below hb hB))
  clear hr
  go_enter Tryz.func108, Tryz.ntmps108
  go_wp2_with fail
  refine (HK.out _ B0.out).mono ?_
  rintro e w2 ⟨rfl, hb2⟩
  have L2 := L0.out.below hb2 (cell_lt L0.out.1)
  have B2 := Bx.mk (below_step B0.out hb2 (Nat.le_refl _))
  obtain ⟨z0, z1, z2, z3⟩ := L2
  clear hb2 L0 B0
  go_wp2_with fail
  refine (HE.out _ B2.out).mono ?_
  rintro e w3 ⟨v, rfl, ho⟩
  have O3 := Bx.mk (show OB w v (encL l) w3 from ⟨ho.1, below_step B2.out ho.2.1 (Nat.le_refl _), fun k hk => Nat.le_trans B2.out.size (ho.2.2 k hk)⟩)
  clear ho z0 z1 z2 z3 B2
  go_wp2_with fail
  go_ret2
  exact ⟨v, rfl, O3.out⟩

theorem rowT_value : RowT 59 4 := rowT_mk (by kernel_rfl) (by kernel_rfl)
theorem step_appV {w : World} {ops : Array Oper} {o : Oper} {a : Act} {K : Act → World → Prop} {Q : Exit → Act → World → Prop} {E : Prop} (hgd : o.guard = none) (s x : Operand)
    (ho : o.op = .call { callee := .builtin .append, args := #[s, x], argTypes := #[57, 57] })
    (v : Value) (l : List Int) (hs : a.eval s = v) (hown : Vals w v l) (B c : Nat) (n : Int) (hx : a.eval x = .slice (some ⟨B, 0, none⟩) 1 c)
    (h0 : w.cell? ⟨B, 0, none⟩ = some (.int .i64 1)) (h1 : w.cell? ⟨B, 1, none⟩ = some (.int .i64 n)) (h2 : w.cell? ⟨B, 2, none⟩ = some (.string ⟨#[]⟩)) (h3 : w.cell? ⟨B, 3, none⟩ = some (.slice none 0 0)) (hlen : l.length ≤ 1000)
    (h : ∀ v' w', Vals w' v' (l ++ [n]) → Since w v w' v' → K (a.put o.dst v') w') : if Region.wanted o (yielded ops a.tmps) = true then Oper.wp Tryz.prog o a w K Q else E := by
  have hw : Region.wanted o (yielded ops a.tmps) = true := by simp [Region.wanted, hgd]
  rw [if_pos hw]
  obtain ⟨i, hi, hz, e1, e2⟩ := val_facts
  refine wp_app s x 57 ho 59 i _ (by kernel_rfl) hi hz (by rw [e1]; rfl) (by omega) v l.length (vals l) hs (by rw [e1]; exact hown) ⟨B, 0, none⟩ 1 c (val1 n) hx (by decide) (by rw [e1]; rfl) ?_ ?_ (by unfold maxLen; omega) (by rw [e2]; omega) ?_
  · intro j u hj
    have ea : (⟨B, 0, none⟩ : Addr).add j = ⟨B, j, none⟩ := by unfold Addr.add; split <;> simp_all
    rw [ea]
    match j, hj with
    | 0, hj => cases hj; exact h0
    | 1, hj => cases hj; exact h1
    | 2, hj => cases hj; exact h2
    | 3, hj => cases hj; exact h3
    | j + 4, hj => simp [val1] at hj
  · intro u hu
    simp only [val1, List.mem_cons, List.not_mem_nil, or_false] at hu
    rcases hu with rfl | rfl | rfl | rfl <;> rfl
  · intro v' w' hw hg hn
    refine h v' w' ?_ (.step hg hn)
    unfold Vals
    rw [e1] at hw
    have e : vals l ++ val1 n = vals (l ++ [n]) := by rw [← vals_append]; simp [vals]
    rw [e] at hw
    rw [List.length_append]
    exact hw
theorem vals_below {w w' : World} {v : Value} {l : List Int} (h : Vals w v l) (hb : Below w.heap.size w w') : Vals w' v l :=
  World.ownsRow.kept (row := none) h ⟨hb.os, hb.tape, hb.output, hb.size, fun k hk _ => hb.block k hk⟩ (by cases hq : v.ownBlock <;> simp)

/-- What the region of Ints leans on. -/
def FI (w : World) (b k : Nat) (x : Int) (W : World) : Prop := Below w.heap.size w W ∧ W.cell? ⟨b, k, none⟩ = some (.int .i64 x)
theorem fi_below {w W W2 : World} {b k : Nat} {x : Int} (h : FI w b k x W) (hb : Below W.heap.size W W2) : FI w b k x W2 := ⟨below_step h.1 hb (Nat.le_refl _), (hb.cell (p := ⟨b, k, none⟩) (cell_lt h.2)).trans h.2⟩
theorem fi_grown {w W W2 : World} {b k : Nat} {x : Int} {r : Option Nat} (h : FI w b k x W) (hg : W.grownBy W2 r) (hr : ∀ q, r = some q → w.heap.size ≤ q) (hb : b < w.heap.size) : FI w b k x W2 :=
  ⟨Below.grown h.1 hg h.1.size hr, hg.cell h.2 (fun q => by have := hr b q.symm; omega)⟩
theorem fi_set {w W : World} {b k : Nat} {x : Int} (h : FI w b k x W) {a : Addr} (ha : w.heap.size ≤ a.block) (hb : b < w.heap.size) (v : Value) : FI w b k x (W.setCell a v) :=
  ⟨h.1.setCell ha v, (World.cell?_setCell_other _ _ _ _ (by intro e; rw [e] at ha; exact absurd ha (by show ¬ w.heap.size ≤ b; omega))).trans h.2⟩

set_option maxHeartbeats 16000000 in
set_option maxRecDepth 100000 in
theorem rints_c (b cap n : Nat) (xs : List Int) (w : World) (hn : xs.length = n) (hl : n ≤ 64) (h0 : 0 < n) (hb : b < w.heap.size) (hi : I64 w b xs) :
    Calls Tryz.prog 109 #[.slice (some ⟨b, 0, none⟩) n cap] w fun e w' => ∃ v, e = .returned (.agg #[.int .i64 3, .int .i64 0, .string ⟨#[]⟩, v]) ∧ Vals w' v xs ∧ Below w.heap.size w w' := by
  have HI := Bx.mk hi; have HN := Bx.mk hn
  clear hi hn
  have e1 : (w.alloc (.cells #[.int .i64 0, .int .i64 0, .string ⟨#[]⟩, .slice none 0 0] 59)).heap.size = w.heap.size + 1 := World.size_alloc _ _
  have lv := LV.new (w.alloc (.cells #[.int .i64 0, .int .i64 0, .string ⟨#[]⟩, .slice none 0 0] 59))
  rw [e1] at lv
  have B0 := Bx.mk (((Below.refl w.heap.size w).alloc (Nat.le_refl _) (.cells #[.int .i64 0, .int .i64 0, .string ⟨#[]⟩, .slice none 0 0] 59)).alloc (by rw [e1]; omega) (.cells #[.int .i64 3, .int .i64 0, .string ⟨#[]⟩, .slice none 0 0] 59))
  have L0 := Bx.mk lv
  have R0 := Bx.mk (Row.alloc (row_new w [.int .i64 0, .int .i64 0, .string ⟨#[]⟩, .slice none 0 0] 59) (by rw [e1]; omega) (.cells #[.int .i64 3, .int .i64 0, .string ⟨#[]⟩, .slice none 0 0] 59))
  have V0 := Bx.mk (show Vals ((w.alloc (.cells #[.int .i64 0, .int .i64 0, .string ⟨#[]⟩, .slice none 0 0] 59)).alloc (.cells #[.int .i64 3, .int .i64 0, .string ⟨#[]⟩, .slice none 0 0] 59)) (.slice none 0 0) (xs.take 0) from vals_nil _)
  clear lv e1
  go_enter Tryz.func109, Tryz.ntmps109
  go_wp2_with fail
  go_loopg [4] n (fun gh s4 wr => ∃ (k : Nat) (v : Value), s4 = .int .i64 k ∧ k ≤ n ∧ Bx (gh = n - k) ∧ Bx (LV wr (w.heap.size + 1) v) ∧ Bx (Vals wr v (xs.take k)) ∧ Bx (Below w.heap.size w wr) ∧ Bx (Row wr w.heap.size [.int .i64 0, .int .i64 0, .string ⟨#[]⟩, .slice none 0 0]) ∧ Bx (∀ q, v.ownBlock = some q → w.heap.size + 2 ≤ q))
  case atStart => exact ⟨0, .slice none 0 0, rfl, by omega, .mk rfl, L0, V0, B0, R0, .mk (by simp [Value.ownBlock])⟩
  case round =>
    clear L0 V0 B0 R0
    obtain ⟨k, v, rfl, hk, hgh, hL, hV, hB, hRw, hvo⟩ := hrel
    by_cases hlt : k < n
    · have hkl : k < xs.length := by rw [HN.out]; exact hlt
      have hcx := (hB.out.cell (p := ⟨b, k, none⟩) hb).trans (HI.out k hkl)
      have htk : xs.take (k + 1) = xs.take k ++ [xs[k]] := List.take_succ_eq_append_getElem hkl
      obtain ⟨x, hx⟩ : ∃ x, x = xs[k] := ⟨_, rfl⟩
      rw [← hx] at hcx htk
      have HTK := Bx.mk htk
      have FS0 : FI w b k x wr.drew := ⟨below_drewN hB.out 1, hcx⟩
      have LV0 : LV wr.drew (w.heap.size + 1) v := hL.out
      have VV0 : Vals wr.drew v (xs.take k) := hV.out
      have c30 := LV0.2.2.2.1
      have hK0 : w.heap.size + 1 < wr.drew.heap.size := hL.out.lt
      have hBsz := hB.out.size
      have RR0 : Row wr.drew w.heap.size [.int .i64 0, .int .i64 0, .string ⟨#[]⟩, .slice none 0 0] := hRw.out
      have hR0 : w.heap.size < wr.drew.heap.size := by omega
      clear hx htk hcx hkl hL hV
      go_wp2_with fail
      refine wp_region_noPanic ?_
      refine wp_region_held_drew (S := fun W' => FI w b k x W') (by kernel_rfl) FS0 (fun hH => ?_)
      refine wpAnyH_take (i := 0) (oi := _) (v := .pointer (some ⟨w.heap.size + 1, 3, none⟩)) rfl (by kernel_rfl) (by kernel_rfl) (by kernel_rfl) (fun _ _ _ h => h) (Or.inl ⟨by rfl, by (intro wz hSz; go_simp)⟩) hH ?_
      simp only [Act.put, List.setIfInBounds_toArray, List.set_cons_zero, List.set_cons_succ]
      refine wpAnyH_take (i := 2) (oi := _) (v := .slice (some ⟨b, 0, none⟩) n cap) rfl (by kernel_rfl) (by kernel_rfl) (by kernel_rfl) (fun _ _ _ h => h) (Or.inl ⟨by rfl, by (intro wz hSz; go_simp)⟩) hH ?_
      simp only [Act.put, List.setIfInBounds_toArray, List.set_cons_zero, List.set_cons_succ]
      refine wpAnyH_take (i := 3) (oi := _) (v := .int .i64 k) rfl (by kernel_rfl) (by kernel_rfl) (by kernel_rfl) (fun _ _ _ h => h) (Or.inl ⟨by rfl, by (intro wz hSz; go_simp)⟩) hH ?_
      simp only [Act.put, List.setIfInBounds_toArray, List.set_cons_zero, List.set_cons_succ]
      refine wpAnyH_take (i := 4) (oi := _) (v := .pointer (some ⟨b, k, none⟩)) rfl (by kernel_rfl) (by kernel_rfl) (by kernel_rfl) (fun _ _ _ h => h) (Or.inl ⟨by rfl, by (intro wz hSz; go_simp)⟩) hH ?_
      simp only [Act.put, List.setIfInBounds_toArray, List.set_cons_zero, List.set_cons_succ]
      refine wpAnyH_take (i := 5) (oi := _) (v := .int .i64 x) rfl (by kernel_rfl) (by kernel_rfl) (by kernel_rfl) (fun _ _ _ h => h) (Or.inl ⟨by rfl, by (intro wz hSz; have hc := hSz.2; go_simp)⟩) hH ?_
      simp only [Act.put, List.setIfInBounds_toArray, List.set_cons_zero, List.set_cons_succ]
      refine wpAnyH_ready (rs := [1, 6]) (by kernel_rfl) (by simp) ?_
      refine AllReadyH.cons (o := _) rfl (fun K1 hK1 => ?_) (AllReadyH.cons (o := _) rfl (fun K1 hK1 => ?_) AllReadyH.nil)
      · skip
        go_simp
        refine hK1.out _ _ FS0 (fun _ => ?_)
        refine wpAnyH_ready (rs := [6]) (by kernel_rfl) (by simp) ?_
        refine AllReadyH.cons (o := _) rfl (fun K2 hK2 => ?_) AllReadyH.nil
        go_simp
        refine (rint_c x _).mono ?_
        rintro e w3 ⟨rfl, hbw3⟩
        have hlw3 : wr.heap.size ≤ w3.heap.size := hbw3.size
        have FSw3 := fi_below FS0 hbw3
        have LVw3 := LV.of_heap LV0 (hbw3.block _ hK0)
        have VVw3 := vals_below VV0 hbw3
        have RRw3 := Row.below RR0 hbw3 hR0
        clear hbw3
        (try dsimp only)
        refine hK2.out _ _ FSw3 (fun _ => ?_)
        refine wpAnyH_ready (rs := [7]) (by kernel_rfl) (by simp) ?_
        refine AllReadyH.cons (o := _) rfl (fun K3 hK3 => ?_) AllReadyH.nil
        go_simp
        have FSb := fi_below FSw3 ((Below.refl _ _).alloc (Nat.le_refl _) (.cells #[.int .i64 1, .int .i64 x, .string ⟨#[]⟩, .slice none 0 0] 59))
        refine hK3.out _ _ FSb (fun _ => ?_)
        refine wpAnyH_ready (rs := [8]) (by kernel_rfl) (by simp) ?_
        refine AllReadyH.cons (o := _) rfl (fun K8 hK8 => ?_) AllReadyH.nil
        have VVb := VVw3.alloc (.cells #[.int .i64 1, .int .i64 x, .string ⟨#[]⟩, .slice none 0 0] 59)
        have q := fun j => cells_new w3 #[.int .i64 1, .int .i64 x, .string ⟨#[]⟩, .slice none 0 0] 59 j
        refine step_appV rfl (.tmp 13) (.tmp 19) rfl v (xs.take k) rfl VVb w3.heap.size 1 x rfl (q 0) (q 1) (q 2) (q 3) (by rw [List.length_take]; omega) ?_
        intro v2 w5 hv2 hs2
        obtain ⟨g2, n2, c2, e2⟩ : ∃ g n c, v2 = .slice (some ⟨g, 0, none⟩) n c := by
          rcases hv2.2 with ⟨_, h⟩ | ⟨g, c, cur, hv1, _⟩
          · simp at h
          · exact ⟨g, _, c, hv1⟩
        subst e2
        have hK3 : w.heap.size + 1 < w3.heap.size := Nat.lt_of_lt_of_le hK0 hlw3
        have LVb := LV.of_heap LVw3 (Below.heap_alloc _ (.cells #[.int .i64 1, .int .i64 x, .string ⟨#[]⟩, .slice none 0 0] 59) _ hK3)
        have hne : some (w.heap.size + 1) ≠ v.ownBlock := fun q2 => by have := hvo.out _ q2.symm; omega
        have RRb := Row.alloc RRw3 (Nat.lt_trans (Nat.lt_succ_self _) hK3) (.cells #[.int .i64 1, .int .i64 x, .string ⟨#[]⟩, .slice none 0 0] 59)
        have RR5 := Row.grown RRb hs2.grown (by rw [World.size_alloc]; omega) (fun q2 => by have := hvo.out _ q2.symm; omega)
        have LV5 := LV.of_heap LVb (hs2.grown.block _ (by rw [World.size_alloc]; omega) hne)
        have FS5 := fi_grown FSb hs2.grown (fun q2 h2 => by have := hvo.out q2 h2; omega) hb
        (try dsimp only)
        refine hK8.out _ _ FS5 (fun _ => ?_)
        refine wpAnyH_take (i := 9) (oi := _) (v := .pointer (some ⟨w.heap.size + 1, 3, none⟩)) rfl (by kernel_rfl) (by kernel_rfl) (by kernel_rfl) (fun _ _ _ h => h) (Or.inl ⟨by rfl, by (intro wz hSz; go_simp)⟩) FS5 ?_
        simp only [Act.put, List.setIfInBounds_toArray, List.set_cons_zero, List.set_cons_succ]
        refine wpAnyH_ready (rs := [10]) (by kernel_rfl) (by simp) ?_
        refine AllReadyH.cons (o := _) rfl (fun K9 hK9 => ?_) AllReadyH.nil
        have c3 := LV5.2.2.2.1
        have f3 := LV5.2.2.2.2
        go_simp
        have FS6 := fi_set FS5 (a := ⟨w.heap.size + 1, 3, none⟩) (Nat.le_succ _) hb (.slice (some ⟨g2, 0, none⟩) n2 c2)
        refine hK9.out _ _ FS6 (fun _ => ?_)
        refine wpAnyH_done (by kernel_rfl) ?_ _
        refine NoPanic.normal ?_
        have HLV := Bx.mk (LV.put LV5 (.slice (some ⟨g2, 0, none⟩) n2 c2))
        have hnw : some (w.heap.size + 1) ≠ (Value.slice (some ⟨g2, 0, none⟩) n2 c2).ownBlock := by
          rcases hs2.near with e | e
          · rw [e]; exact hne
          · intro q2; have := e _ q2.symm; rw [World.size_alloc] at this; omega
        have HVV : Bx (Vals (w5.setCell ⟨w.heap.size + 1, 3, none⟩ (.slice (some ⟨g2, 0, none⟩) n2 c2)) (.slice (some ⟨g2, 0, none⟩) n2 c2) (xs.take (k + 1))) := .mk (by rw [HTK.out]; exact Vals.other hv2 hnw (.slice (some ⟨g2, 0, none⟩) n2 c2))
        have HF6 := Bx.mk FS6.1
        have HRR := Bx.mk (Row.other (a := ⟨w.heap.size + 1, 3, none⟩) RR5 (show w.heap.size + 1 ≠ w.heap.size by omega) (.slice (some ⟨g2, 0, none⟩) n2 c2))
        have HVO : Bx (∀ q, (Value.slice (some ⟨g2, 0, none⟩) n2 c2).ownBlock = some q → w.heap.size + 2 ≤ q) := .mk (fun q hq => by
          rcases hs2.near with e | e
          · rw [e] at hq; exact hvo.out q hq
          · have := e q hq; rw [World.size_alloc] at this; omega)
        clear hs2 hv2 hne LV5 LVb c3 f3 FS5 FS6 FSb VVb q RRb RR5
        generalize (w5.setCell ⟨w.heap.size + 1, 3, none⟩ (.slice (some ⟨g2, 0, none⟩) n2 c2)) = w6 at *
        go_wp2_with fail
        go_roundg (n - k - 1)
        case measure => have := hgh.out; omega
        case rel => exact ⟨k + 1, (.slice (some ⟨g2, 0, none⟩) n2 c2), by go_num, by omega, .mk (by omega), HLV, HVV, HF6, HRR, HVO⟩
      · skip
        go_simp
        refine (rint_c x _).mono ?_
        rintro e w3 ⟨rfl, hbw3⟩
        have hlw3 : wr.heap.size ≤ w3.heap.size := hbw3.size
        have FSw3 := fi_below FS0 hbw3
        have LVw3 := LV.of_heap LV0 (hbw3.block _ hK0)
        have VVw3 := vals_below VV0 hbw3
        have RRw3 := Row.below RR0 hbw3 hR0
        clear hbw3
        (try dsimp only)
        refine hK1.out _ _ FSw3 (fun _ => ?_)
        refine wpAnyH_ready (rs := [1, 7]) (by kernel_rfl) (by simp) ?_
        refine AllReadyH.cons (o := _) rfl (fun K2 hK2 => ?_) (AllReadyH.cons (o := _) rfl (fun K2 hK2 => ?_) AllReadyH.nil)
        · skip
          have cL := LVw3.2.2.2.1
          go_simp
          refine hK2.out _ _ FSw3 (fun _ => ?_)
          clear cL
          refine wpAnyH_ready (rs := [7]) (by kernel_rfl) (by simp) ?_
          refine AllReadyH.cons (o := _) rfl (fun K3 hK3 => ?_) AllReadyH.nil
          go_simp
          have FSb := fi_below FSw3 ((Below.refl _ _).alloc (Nat.le_refl _) (.cells #[.int .i64 1, .int .i64 x, .string ⟨#[]⟩, .slice none 0 0] 59))
          refine hK3.out _ _ FSb (fun _ => ?_)
          refine wpAnyH_ready (rs := [8]) (by kernel_rfl) (by simp) ?_
          refine AllReadyH.cons (o := _) rfl (fun K8 hK8 => ?_) AllReadyH.nil
          have VVb := VVw3.alloc (.cells #[.int .i64 1, .int .i64 x, .string ⟨#[]⟩, .slice none 0 0] 59)
          have q := fun j => cells_new w3 #[.int .i64 1, .int .i64 x, .string ⟨#[]⟩, .slice none 0 0] 59 j
          refine step_appV rfl (.tmp 13) (.tmp 19) rfl v (xs.take k) rfl VVb w3.heap.size 1 x rfl (q 0) (q 1) (q 2) (q 3) (by rw [List.length_take]; omega) ?_
          intro v2 w5 hv2 hs2
          obtain ⟨g2, n2, c2, e2⟩ : ∃ g n c, v2 = .slice (some ⟨g, 0, none⟩) n c := by
            rcases hv2.2 with ⟨_, h⟩ | ⟨g, c, cur, hv1, _⟩
            · simp at h
            · exact ⟨g, _, c, hv1⟩
          subst e2
          have hK3 : w.heap.size + 1 < w3.heap.size := Nat.lt_of_lt_of_le hK0 hlw3
          have LVb := LV.of_heap LVw3 (Below.heap_alloc _ (.cells #[.int .i64 1, .int .i64 x, .string ⟨#[]⟩, .slice none 0 0] 59) _ hK3)
          have hne : some (w.heap.size + 1) ≠ v.ownBlock := fun q2 => by have := hvo.out _ q2.symm; omega
          have RRb := Row.alloc RRw3 (Nat.lt_trans (Nat.lt_succ_self _) hK3) (.cells #[.int .i64 1, .int .i64 x, .string ⟨#[]⟩, .slice none 0 0] 59)
          have RR5 := Row.grown RRb hs2.grown (by rw [World.size_alloc]; omega) (fun q2 => by have := hvo.out _ q2.symm; omega)
          have LV5 := LV.of_heap LVb (hs2.grown.block _ (by rw [World.size_alloc]; omega) hne)
          have FS5 := fi_grown FSb hs2.grown (fun q2 h2 => by have := hvo.out q2 h2; omega) hb
          (try dsimp only)
          refine hK8.out _ _ FS5 (fun _ => ?_)
          refine wpAnyH_take (i := 9) (oi := _) (v := .pointer (some ⟨w.heap.size + 1, 3, none⟩)) rfl (by kernel_rfl) (by kernel_rfl) (by kernel_rfl) (fun _ _ _ h => h) (Or.inl ⟨by rfl, by (intro wz hSz; go_simp)⟩) FS5 ?_
          simp only [Act.put, List.setIfInBounds_toArray, List.set_cons_zero, List.set_cons_succ]
          refine wpAnyH_ready (rs := [10]) (by kernel_rfl) (by simp) ?_
          refine AllReadyH.cons (o := _) rfl (fun K9 hK9 => ?_) AllReadyH.nil
          have c3 := LV5.2.2.2.1
          have f3 := LV5.2.2.2.2
          go_simp
          have FS6 := fi_set FS5 (a := ⟨w.heap.size + 1, 3, none⟩) (Nat.le_succ _) hb (.slice (some ⟨g2, 0, none⟩) n2 c2)
          refine hK9.out _ _ FS6 (fun _ => ?_)
          refine wpAnyH_done (by kernel_rfl) ?_ _
          refine NoPanic.normal ?_
          have HLV := Bx.mk (LV.put LV5 (.slice (some ⟨g2, 0, none⟩) n2 c2))
          have hnw : some (w.heap.size + 1) ≠ (Value.slice (some ⟨g2, 0, none⟩) n2 c2).ownBlock := by
            rcases hs2.near with e | e
            · rw [e]; exact hne
            · intro q2; have := e _ q2.symm; rw [World.size_alloc] at this; omega
          have HVV : Bx (Vals (w5.setCell ⟨w.heap.size + 1, 3, none⟩ (.slice (some ⟨g2, 0, none⟩) n2 c2)) (.slice (some ⟨g2, 0, none⟩) n2 c2) (xs.take (k + 1))) := .mk (by rw [HTK.out]; exact Vals.other hv2 hnw (.slice (some ⟨g2, 0, none⟩) n2 c2))
          have HF6 := Bx.mk FS6.1
          have HRR := Bx.mk (Row.other (a := ⟨w.heap.size + 1, 3, none⟩) RR5 (show w.heap.size + 1 ≠ w.heap.size by omega) (.slice (some ⟨g2, 0, none⟩) n2 c2))
          have HVO : Bx (∀ q, (Value.slice (some ⟨g2, 0, none⟩) n2 c2).ownBlock = some q → w.heap.size + 2 ≤ q) := .mk (fun q hq => by
            rcases hs2.near with e | e
            · rw [e] at hq; exact hvo.out q hq
            · have := e q hq; rw [World.size_alloc] at this; omega)
          clear hs2 hv2 hne LV5 LVb c3 f3 FS5 FS6 FSb VVb q RRb RR5
          generalize (w5.setCell ⟨w.heap.size + 1, 3, none⟩ (.slice (some ⟨g2, 0, none⟩) n2 c2)) = w6 at *
          go_wp2_with fail
          go_roundg (n - k - 1)
          case measure => have := hgh.out; omega
          case rel => exact ⟨k + 1, (.slice (some ⟨g2, 0, none⟩) n2 c2), by go_num, by omega, .mk (by omega), HLV, HVV, HF6, HRR, HVO⟩
        · skip
          have LVq := LVw3
          go_simp
          have FSb := fi_below FSw3 ((Below.refl _ _).alloc (Nat.le_refl _) (.cells #[.int .i64 1, .int .i64 x, .string ⟨#[]⟩, .slice none 0 0] 59))
          refine hK2.out _ _ FSb (fun _ => ?_)
          refine wpAnyH_ready (rs := [1]) (by kernel_rfl) (by simp) ?_
          refine AllReadyH.cons (o := _) rfl (fun K3 hK3 => ?_) AllReadyH.nil
          have cL : (w3.alloc (.cells #[.int .i64 1, .int .i64 x, .string ⟨#[]⟩, .slice none 0 0] 59)).cell? ⟨w.heap.size + 1, 3, none⟩ = some v := (LV.of_heap LVw3 (Below.heap_alloc _ (.cells #[.int .i64 1, .int .i64 x, .string ⟨#[]⟩, .slice none 0 0] 59) _ (Nat.lt_of_lt_of_le hK0 hlw3))).2.2.2.1
          go_simp
          clear LVq cL
          refine hK3.out _ _ FSb (fun _ => ?_)
          refine wpAnyH_ready (rs := [8]) (by kernel_rfl) (by simp) ?_
          refine AllReadyH.cons (o := _) rfl (fun K8 hK8 => ?_) AllReadyH.nil
          have VVb := VVw3.alloc (.cells #[.int .i64 1, .int .i64 x, .string ⟨#[]⟩, .slice none 0 0] 59)
          have q := fun j => cells_new w3 #[.int .i64 1, .int .i64 x, .string ⟨#[]⟩, .slice none 0 0] 59 j
          refine step_appV rfl (.tmp 13) (.tmp 19) rfl v (xs.take k) rfl VVb w3.heap.size 1 x rfl (q 0) (q 1) (q 2) (q 3) (by rw [List.length_take]; omega) ?_
          intro v2 w5 hv2 hs2
          obtain ⟨g2, n2, c2, e2⟩ : ∃ g n c, v2 = .slice (some ⟨g, 0, none⟩) n c := by
            rcases hv2.2 with ⟨_, h⟩ | ⟨g, c, cur, hv1, _⟩
            · simp at h
            · exact ⟨g, _, c, hv1⟩
          subst e2
          have hK3 : w.heap.size + 1 < w3.heap.size := Nat.lt_of_lt_of_le hK0 hlw3
          have LVb := LV.of_heap LVw3 (Below.heap_alloc _ (.cells #[.int .i64 1, .int .i64 x, .string ⟨#[]⟩, .slice none 0 0] 59) _ hK3)
          have hne : some (w.heap.size + 1) ≠ v.ownBlock := fun q2 => by have := hvo.out _ q2.symm; omega
          have RRb := Row.alloc RRw3 (Nat.lt_trans (Nat.lt_succ_self _) hK3) (.cells #[.int .i64 1, .int .i64 x, .string ⟨#[]⟩, .slice none 0 0] 59)
          have RR5 := Row.grown RRb hs2.grown (by rw [World.size_alloc]; omega) (fun q2 => by have := hvo.out _ q2.symm; omega)
          have LV5 := LV.of_heap LVb (hs2.grown.block _ (by rw [World.size_alloc]; omega) hne)
          have FS5 := fi_grown FSb hs2.grown (fun q2 h2 => by have := hvo.out q2 h2; omega) hb
          (try dsimp only)
          refine hK8.out _ _ FS5 (fun _ => ?_)
          refine wpAnyH_take (i := 9) (oi := _) (v := .pointer (some ⟨w.heap.size + 1, 3, none⟩)) rfl (by kernel_rfl) (by kernel_rfl) (by kernel_rfl) (fun _ _ _ h => h) (Or.inl ⟨by rfl, by (intro wz hSz; go_simp)⟩) FS5 ?_
          simp only [Act.put, List.setIfInBounds_toArray, List.set_cons_zero, List.set_cons_succ]
          refine wpAnyH_ready (rs := [10]) (by kernel_rfl) (by simp) ?_
          refine AllReadyH.cons (o := _) rfl (fun K9 hK9 => ?_) AllReadyH.nil
          have c3 := LV5.2.2.2.1
          have f3 := LV5.2.2.2.2
          go_simp
          have FS6 := fi_set FS5 (a := ⟨w.heap.size + 1, 3, none⟩) (Nat.le_succ _) hb (.slice (some ⟨g2, 0, none⟩) n2 c2)
          refine hK9.out _ _ FS6 (fun _ => ?_)
          refine wpAnyH_done (by kernel_rfl) ?_ _
          refine NoPanic.normal ?_
          have HLV := Bx.mk (LV.put LV5 (.slice (some ⟨g2, 0, none⟩) n2 c2))
          have hnw : some (w.heap.size + 1) ≠ (Value.slice (some ⟨g2, 0, none⟩) n2 c2).ownBlock := by
            rcases hs2.near with e | e
            · rw [e]; exact hne
            · intro q2; have := e _ q2.symm; rw [World.size_alloc] at this; omega
          have HVV : Bx (Vals (w5.setCell ⟨w.heap.size + 1, 3, none⟩ (.slice (some ⟨g2, 0, none⟩) n2 c2)) (.slice (some ⟨g2, 0, none⟩) n2 c2) (xs.take (k + 1))) := .mk (by rw [HTK.out]; exact Vals.other hv2 hnw (.slice (some ⟨g2, 0, none⟩) n2 c2))
          have HF6 := Bx.mk FS6.1
          have HRR := Bx.mk (Row.other (a := ⟨w.heap.size + 1, 3, none⟩) RR5 (show w.heap.size + 1 ≠ w.heap.size by omega) (.slice (some ⟨g2, 0, none⟩) n2 c2))
          have HVO : Bx (∀ q, (Value.slice (some ⟨g2, 0, none⟩) n2 c2).ownBlock = some q → w.heap.size + 2 ≤ q) := .mk (fun q hq => by
            rcases hs2.near with e | e
            · rw [e] at hq; exact hvo.out q hq
            · have := e q hq; rw [World.size_alloc] at this; omega)
          clear hs2 hv2 hne LV5 LVb c3 f3 FS5 FS6 FSb VVb q RRb RR5
          generalize (w5.setCell ⟨w.heap.size + 1, 3, none⟩ (.slice (some ⟨g2, 0, none⟩) n2 c2)) = w6 at *
          go_wp2_with fail
          go_roundg (n - k - 1)
          case measure => have := hgh.out; omega
          case rel => exact ⟨k + 1, (.slice (some ⟨g2, 0, none⟩) n2 c2), by go_num, by omega, .mk (by omega), HLV, HVV, HF6, HRR, HVO⟩
    · obtain rfl : k = n := by omega
      have hV2 := hV.out
      rw [← HN.out, List.take_length] at hV2
      have HV2 := Bx.mk hV2
      obtain ⟨g2, n2, c2, e2⟩ : ∃ g n c, v = .slice (some ⟨g, 0, none⟩) n c := by
        rcases hV2.2 with ⟨_, h⟩ | ⟨g, c, cur, hv1, _⟩
        · rw [HN.out] at h; omega
        · exact ⟨g, _, c, hv1⟩
      subst e2
      obtain ⟨z0, z1, z2, z3, z4⟩ := hL.out
      have zz : w.heap.size < wr.heap.size := by have := cell_lt z0; omega
      have y0 := hRw.out.get (i := 0) rfl
      have y1 := hRw.out.get (i := 1) rfl
      have y2 := hRw.out.get (i := 2) rfl
      have y3 := hRw.out.get (i := 3) rfl
      have x0 := hRw.out.fr (i := 0) (by simp)
      have x1 := hRw.out.fr (i := 1) (by simp)
      have x2 := hRw.out.fr (i := 2) (by simp)
      have x3 := hRw.out.fr (i := 3) (by simp)
      have hgo : w.heap.size + 2 ≤ g2 := hvo.out g2 rfl
      have HRW : Bx (Row ((((wr.setCell ⟨w.heap.size, 0, none⟩ (.int .i64 3)).setCell ⟨w.heap.size, 1, none⟩ (.int .i64 0)).setCell ⟨w.heap.size, 2, none⟩ (.string ⟨#[]⟩)).setCell ⟨w.heap.size, 3, none⟩ (.slice (some ⟨g2, 0, none⟩) n2 c2)) w.heap.size [.int .i64 3, .int .i64 0, .string ⟨#[]⟩, .slice (some ⟨g2, 0, none⟩) n2 c2]) :=
        .mk (by have := (((hRw.out.set 0 (.int .i64 3)).set 1 (.int .i64 0)).set 2 (.string ⟨#[]⟩)).set 3 (.slice (some ⟨g2, 0, none⟩) n2 c2); simpa using this)
      have hn0 : some w.heap.size ≠ (Value.slice (some ⟨g2, 0, none⟩) n2 c2).ownBlock := by show some w.heap.size ≠ some g2; intro q; have := Option.some.inj q; omega
      have HV4 := Bx.mk ((((HV2.out.other (a := ⟨w.heap.size, 0, none⟩) hn0 (.int .i64 3)).other (a := ⟨w.heap.size, 1, none⟩) hn0 (.int .i64 0)).other (a := ⟨w.heap.size, 2, none⟩) hn0 (.string ⟨#[]⟩)).other (a := ⟨w.heap.size, 3, none⟩) hn0 (.slice (some ⟨g2, 0, none⟩) n2 c2))
      have HB4 := Bx.mk ((((hB.out.setCell (p := ⟨w.heap.size, 0, none⟩) (Nat.le_refl _) (.int .i64 3)).setCell (p := ⟨w.heap.size, 1, none⟩) (Nat.le_refl _) (.int .i64 0)).setCell (p := ⟨w.heap.size, 2, none⟩) (Nat.le_refl _) (.string ⟨#[]⟩)).setCell (p := ⟨w.heap.size, 3, none⟩) (Nat.le_refl _) (.slice (some ⟨g2, 0, none⟩) n2 c2))
      clear hV hV2 hgh hL hn0
      go_wp2_with fail
      (try simp only [Exit.inBlock, Exit.then])
      refine bodyPost_ret (results_oneS rowT_value rfl _ _ w.heap.size [.int .i64 3, .int .i64 0, .string ⟨#[]⟩, .slice (some ⟨g2, 0, none⟩) n2 c2] _ rfl HRW.out.range0 rfl rfl) rfl ?_
      exact ⟨_, rfl, HV4.out, HB4.out⟩
end Go.Proofs.YtjbojoeafdkkeaaGreatDoor

namespace Go.Proofs.YtjbojoeafdkkeaaGreatDoor
open Go Go.RowKit Go.Lib

theorem dn_get (s : S8) (k : Nat) (hk : k < 32) : (DN s 8).getD k 0 = s.l.getD (k / 4) 0 / 2 ^ (24 - 8 * (k % 4)) % 256 := by
  have h : k = 0 ∨ k = 1 ∨ k = 2 ∨ k = 3 ∨ k = 4 ∨ k = 5 ∨ k = 6 ∨ k = 7 ∨ k = 8 ∨ k = 9 ∨ k = 10 ∨ k = 11 ∨ k = 12 ∨ k = 13 ∨ k = 14 ∨ k = 15 ∨ k = 16 ∨ k = 17 ∨ k = 18 ∨ k = 19 ∨ k = 20 ∨ k = 21 ∨ k = 22 ∨ k = 23 ∨ k = 24 ∨ k = 25 ∨ k = 26 ∨ k = 27 ∨ k = 28 ∨ k = 29 ∨ k = 30 ∨ k = 31 := by omega
  obtain ⟨a, b, c, d, e, f, g, h8⟩ := s
  rcases h with rfl | rfl | rfl | rfl | rfl | rfl | rfl | rfl | rfl | rfl | rfl | rfl | rfl | rfl | rfl | rfl | rfl | rfl | rfl | rfl | rfl | rfl | rfl | rfl | rfl | rfl | rfl | rfl | rfl | rfl | rfl | rfl <;>
    simp [DN, put4, S8.l, List.replicate, List.getD]
/-- The first k bytes of a row laid, zeros behind. -/
def upTo (T : List Int) (k : Nat) : List Int := T.take k ++ List.replicate (T.length - k) 0
theorem upTo_len (T : List Int) (k : Nat) (hk : k ≤ T.length) : (upTo T k).length = T.length := by simp [upTo]; omega
theorem upTo_step (T : List Int) (k : Nat) (hk : k < T.length) : (upTo T k).set k (T.getD k 0) = upTo T (k + 1) := by
  unfold upTo
  have hl : (T.take k).length = k := by rw [List.length_take]; omega
  rw [show T.length - k = (T.length - (k + 1)) + 1 by omega, List.replicate_succ, List.set_append_right _ _ (by omega), hl, Nat.sub_self, List.set_cons_zero]
  have e : T.getD k 0 = T[k] := by simp [List.getD, hk]
  rw [List.take_succ_eq_append_getElem hk, e, List.append_assoc]
  rfl
theorem upTo_all (T : List Int) : upTo T T.length = T := by simp [upTo]
theorem upTo_zero (T : List Int) : upTo T 0 = List.replicate T.length 0 := by simp [upTo]
theorem absN_len (s : S8) (l : List Int) (k : Nat) : (absN s l k).l.length = 8 := rfl

/-- The frame of Sum: the result's block, the padded bytes. -/
def FQ (w : World) (g : Nat) (P : List Int) (W : World) : Prop := Below w.heap.size w W ∧ Blk W w.heap.size .u8 (List.replicate 32 0) ∧ U8 W g 0 P
theorem FQ.drew {w W : World} {g : Nat} {P : List Int} (h : FQ w g P W) (n : Nat) : FQ w g P (W.drewN n) := ⟨below_drewN h.1 n, h.2⟩
theorem FQ.below {w W W2 : World} {g : Nat} {P : List Int} (h : FQ w g P W) (hg : g < W.heap.size) (hb : Below W.heap.size W W2) : FQ w g P W2 :=
  ⟨below_step h.1 hb (Nat.le_refl _), h.2.1.below hb (h.2.1.lt (by simp)), h.2.2.below hg hb⟩
theorem FQ.grown {w W W2 : World} {g B : Nat} {P : List Int} (h : FQ w g P W) (hg : W.grownBy W2 (some B)) (hB : w.heap.size < B) (hBg : g ≠ B) : FQ w g P W2 :=
  ⟨Below.grown h.1 hg h.1.size (by intro q hq; cases hq; omega), h.2.1.grown hg (h.2.1.lt (by simp)) (fun q => by have := Option.some.inj q; omega), fun i hi => hg.cell (h.2.2 i hi) (fun q => hBg (Option.some.inj q))⟩

set_option maxHeartbeats 8000000 in
set_option maxRecDepth 100000 in
theorem rSum_c (b o cap : Nat) (l : List Int) (w : World) (hu : U8 w b o l) (hb : b < w.heap.size) (h0 : 0 < l.length) (hl : l.length ≤ 90000) :
    Calls Tryz.prog 152 #[.slice (some ⟨b, o, none⟩) l.length cap] w fun e w' => e = .returned (dv (sum l)) ∧ Below w.heap.size w w' := by
  have z0 := blk_new w .u8 (List.replicate 32 0) 35
  have e1 : (w.alloc (.cells ((List.replicate 32 0).map (.int .u8)).toArray 35)).heap.size = w.heap.size + 1 := World.size_alloc _ _
  have z1 := blk_new (w.alloc (.cells ((List.replicate 32 0).map (.int .u8)).toArray 35)) .u32 (List.replicate 8 0) 184
  rw [e1] at z1
  have Z1 := Bx.mk z1
  have B1 := Bx.mk (((Below.refl w.heap.size w).alloc (Nat.le_refl _) (.cells ((List.replicate 32 0).map (.int .u8)).toArray 35)).alloc (by rw [e1]; omega) (.cells ((List.replicate 8 0).map (.int .u32)).toArray 184))
  have D1 := Bx.mk (z0.alloc (by rw [e1]; omega) (.cells ((List.replicate 8 0).map (.int .u32)).toArray 184))
  have HU := Bx.mk hu
  clear hu z0 z1 e1
  have hbd : ∀ W, (Instr.build 184 #[(0, .int .u32 1779033703), (1, .int .u32 3144134277), (2, .int .u32 1013904242), (3, .int .u32 2773480762), (4, .int .u32 1359893119), (5, .int .u32 2600822924), (6, .int .u32 528734635), (7, .int .u32 1541459225)]).run Tryz.prog W = .ok (.agg (iv.l.map (.int .u32)).toArray) W := fun W => by kernel_rfl
  go_enter Tryz.func152, Tryz.ntmps152
  go_wp2_with (first | (refine wpList_bldS rfl 184 _ rfl #[(0, .int .u32 1779033703), (1, .int .u32 3144134277), (2, .int .u32 1013904242), (3, .int .u32 2773480762), (4, .int .u32 1359893119), (5, .int .u32 2600822924), (6, .int .u32 528734635), (7, .int .u32 1541459225)] (by kernel_rfl) _ (hbd _) ?_) | (refine wpList_stB rowT_s8 rfl (.tmp 3) (.tmp 8) rfl (w.heap.size + 1) rfl .u32 iv.l rfl rfl (List.replicate 8 0) Z1.out rfl ?_))
  intro W1 b1 g1
  have S1 := Bx.mk b1
  have B2 := Bx.mk (Below.grown B1.out g1 B1.out.size (by intro q hq; cases hq; omega))
  have D2 := Bx.mk (D1.out.grown g1 (D1.out.lt (by simp)) (fun q => by have := Option.some.inj q; omega))
  clear b1 g1 B1 D1 Z1 hbd
  have hbW : b < W1.heap.size := Nat.lt_of_lt_of_le hb B2.out.size
  go_wp2_with fail
  refine (rpadded_c b o cap l W1 (HU.out.below hb B2.out) hbW h0 hl).mono ?_
  rintro e W2 ⟨v, rfl, ho⟩
  obtain ⟨g, c, e, hc1, hc2, hu8, hg2⟩ := slice_of_bytes ho.1 (by unfold padL; simp; omega)
  subst e
  have hgW := ho.2.2 g rfl
  have hSl := S1.out.lt (show 0 < iv.l.length by decide)
  have F2 := Bx.mk (show FQ w g (padL l) W2 from ⟨below_step B2.out ho.2.1 (Nat.le_refl _), D2.out.below ho.2.1 (D2.out.lt (by simp)), hu8⟩)
  have S2 := Bx.mk (S1.out.below ho.2.1 hSl)
  have hgB : w.heap.size + 1 < g := by omega
  have HPS := Bx.mk (sum_pad l)
  have hPL := padL_len l
  obtain ⟨P, hP⟩ : ∃ P, P = padL l := ⟨_, rfl⟩
  rw [← hP] at F2 HPS hPL hc1 ⊢
  obtain ⟨T, hT⟩ : ∃ T, T = l.length / 64 + 1 + if l.length % 64 ≤ 55 then 0 else 1 := ⟨_, rfl⟩
  rw [← hT] at hPL
  have hT2 : T ≤ 1500 := by rw [hT]; split <;> omega
  have hT1 : 1 ≤ T := by rw [hT]; omega
  have HPL := Bx.mk hPL
  rw [hPL] at hc1 ⊢
  rw [hPL, Nat.mul_div_cancel_left _ (by decide)] at HPS
  clear hP hT hPL S1 B2 D2 ho hu8 hgW hSl hbW HU
  go_wp2_with fail
  go_loopg [5] T (fun gh s5 wr => ∃ (k : Nat), s5 = .int .i64 ((64 * k : Nat) : Int) ∧ k ≤ T ∧ Bx (gh = T - k) ∧ Bx (g < wr.heap.size) ∧ Bx (Blk wr (w.heap.size + 1) .u32 (absN iv P k).l) ∧ Bx (FQ w g P wr))
  case atStart => exact ⟨0, rfl, by omega, .mk rfl, .mk hg2, S2, F2⟩
  case round =>
    clear S2 F2 hg2
    obtain ⟨k, rfl, hk, hgh, hgs, hS, hF⟩ := hrel
    by_cases hlt : k < T
    · obtain ⟨d0, d1, d2, d3, d4, d5, d6, d7⟩ := hS.out.s8
      have hk64 : ((64 * k : Nat) : Int) + 64 ≤ ((64 * T : Nat) : Int) := by omega
      have hlt2 : ((64 * k : Nat) : Int) < ((64 * T : Nat) : Int) := by omega
      have w64 : IntKind.i64.wrap (64 * (k : Int) + 64) = 64 * (k : Int) + 64 := by rw [IntKind.wrap_i64]; omega
      have t0 : (64 * (k : Int)).toNat = 64 * k := by omega
      have t1 : (64 * (k : Int) + 64).toNat = 64 * k + 64 := by omega
      have hcne : ¬ c = 64 * k := by omega
      have i0 : 0 ≤ 64 * (k : Int) := by omega
      have i1 : 64 * (k : Int) ≤ 64 * (k : Int) + 64 := by omega
      have i2 : 64 * (k : Int) + 64 ≤ (c : Int) := by omega
      go_wp2_with fail
      refine wp_region_noPanic ?_
      refine wp_region_held_drew (S := fun W' => FQ w g P W') (by kernel_rfl) (hF.out.drew 1) (fun hH => ?_)
      refine wpAnyH_take (i := 1) (oi := _) (v := .slice (some ⟨g, 0, none⟩) (64 * T) c) rfl (by kernel_rfl) (by kernel_rfl) (by kernel_rfl) (fun _ _ _ h => h) (Or.inl ⟨by rfl, by (intro wz hSz; go_simp)⟩) hH ?_
      simp only [Act.put, List.setIfInBounds_toArray, List.set_cons_zero, List.set_cons_succ]
      refine wpAnyH_take (i := 2) (oi := _) (v := .int .i64 ((64 * k : Nat) : Int)) rfl (by kernel_rfl) (by kernel_rfl) (by kernel_rfl) (fun _ _ _ h => h) (Or.inl ⟨by rfl, by (intro wz hSz; go_simp)⟩) hH ?_
      simp only [Act.put, List.setIfInBounds_toArray, List.set_cons_zero, List.set_cons_succ]
      refine wpAnyH_take (i := 3) (oi := _) (v := .int .i64 ((64 * k : Nat) : Int)) rfl (by kernel_rfl) (by kernel_rfl) (by kernel_rfl) (fun _ _ _ h => h) (Or.inl ⟨by rfl, by (intro wz hSz; go_simp)⟩) hH ?_
      simp only [Act.put, List.setIfInBounds_toArray, List.set_cons_zero, List.set_cons_succ]
      refine wpAnyH_take (i := 4) (oi := _) (v := .int .i64 (64 * (k : Int) + 64)) rfl (by kernel_rfl) (by kernel_rfl) (by kernel_rfl) (fun _ _ _ h => h) (Or.inl ⟨by rfl, by (intro wz hSz; go_simp)⟩) hH ?_
      simp only [Act.put, List.setIfInBounds_toArray, List.set_cons_zero, List.set_cons_succ]
      refine wpAnyH_take (i := 5) (oi := _) (v := .slice (some ⟨g, 64 * k, none⟩) 64 (c - 64 * k)) rfl (by kernel_rfl) (by kernel_rfl) (by kernel_rfl) (fun _ _ _ h => h) (Or.inl ⟨by rfl, by (intro wz hSz; go_simp)⟩) hH ?_
      simp only [Act.put, List.setIfInBounds_toArray, List.set_cons_zero, List.set_cons_succ]
      refine wpAnyH_ready (rs := [0]) (by kernel_rfl) (by simp) ?_
      refine AllReadyH.cons (o := _) rfl (fun K1 hK1 => ?_) AllReadyH.nil
      go_simp
      refine hK1.out _ _ (hF.out.drew 1) (fun _ => ?_)
      refine wpAnyH_ready (rs := [6]) (by kernel_rfl) (by simp) ?_
      refine AllReadyH.cons (o := _) rfl (fun K2 hK2 => ?_) AllReadyH.nil
      go_simp
      refine (rblock_c (absN iv P k) g (64 * k) (c - 64 * k) (blk64 P (64 * k)) wr.drew (blk64_len (by rw [HPL.out]; omega)) (by omega) (by omega) (by have := (hF.out.drew 1).2.2.sub (64 * k); rw [Nat.zero_add] at this; exact this) hgs.out).mono ?_
      rintro e W3 ⟨rfl, hb3⟩
      have hF3 := (hF.out.drew 1).below hgs.out hb3
      have hS3 := (show Blk (wr.drewN 1) (w.heap.size + 1) .u32 (absN iv P k).l from hS.out).below hb3 (hS.out.lt (by show 0 < 8; decide))
      have hgs3 : g < W3.heap.size := Nat.lt_of_lt_of_le hgs.out hb3.size
      clear hb3 hS hF
      (try dsimp only)
      refine hK2.out _ _ hF3 (fun _ => ?_)
      refine wpAnyH_ready (rs := [7]) (by kernel_rfl) (by simp) ?_
      refine AllReadyH.cons (o := _) rfl (fun K3 hK3 => ?_) AllReadyH.nil
      rw [if_pos (by rfl)]
      refine wp_store_mid 184 (.tmp 3) (.tmp 23) rfl (w.heap.size + 1) 0 ((absorb (absN iv P k) (blk64 P (64 * k))).l.map (.int .u32)).toArray (by kernel_rfl) (by kernel_rfl) (there_of_blk hS3) rowT_s8.size (all_oneCell_toArray (one_ints .u32 _)) ?_
      obtain ⟨hS4, hg4⟩ := blk_store (m := (absorb (absN iv P k) (blk64 P (64 * k))).l) hS3 rfl
      have hF4 : FQ w g P (W3.setCells (w.heap.size + 1) 0 ((absorb (absN iv P k) (blk64 P (64 * k))).l.map (.int .u32)).toArray.toList) := hF3.grown hg4 (by omega) (by omega)
      refine hK3.out _ _ hF4 (fun _ => ?_)
      refine wpAnyH_done (by kernel_rfl) ?_ _
      refine NoPanic.normal ?_
      have HF4 := Bx.mk hF4
      have HS4 := Bx.mk (show Blk (W3.setCells (w.heap.size + 1) 0 ((absorb (absN iv P k) (blk64 P (64 * k))).l.map (.int .u32)).toArray.toList) (w.heap.size + 1) .u32 (absN iv P (k + 1)).l from hS4)
      have HG4 : Bx (g < (W3.setCells (w.heap.size + 1) 0 ((absorb (absN iv P k) (blk64 P (64 * k))).l.map (.int .u32)).toArray.toList).heap.size) := .mk (Nat.lt_of_lt_of_le hgs3 hg4.size)
      clear w64 t0 t1 i0 i1 i2 hK1 hK2 hK3 hH hF4 hS4 hg4 hF3 hS3 hgs3 d0 d1 d2 d3 d4 d5 d6 d7
      generalize (W3.setCells (w.heap.size + 1) 0 _) = W5 at *
      go_wp2_with fail
      go_roundg (T - k - 1)
      case measure => have := hgh.out; omega
      case rel => exact ⟨k + 1, by go_num, by omega, .mk (by omega), HG4, HS4, HF4⟩
    · obtain rfl : k = T := by omega
      clear hgh hlt hk
      obtain ⟨st, hst⟩ : ∃ st, st = absN iv P k := ⟨_, rfl⟩
      rw [← hst] at hS HPS
      clear hst
      have hle2 : ¬ ((64 * k : Nat) : Int) < ((64 * k : Nat) : Int) := by omega
      have Z := Bx.mk (blk_new wr .u8 (List.replicate 32 0) 35)
      have hbz : ∀ W, (Instr.build 35 #[]).run Tryz.prog W = .ok (dv (List.replicate 32 0)) W := fun W => by kernel_rfl
      go_wp2_with (first | (refine wpList_bldS rfl 35 _ rfl #[] rfl _ (hbz _) ?_) | (refine wpList_stB rowT_dig rfl (.tmp 6) (.tmp 24) rfl wr.heap.size rfl .u8 (List.replicate 32 0) rfl rfl (List.replicate 32 0) Z.out rfl ?_))
      intro W6 b6 g6
      obtain ⟨B, hB⟩ : ∃ B, B = wr.heap.size := ⟨_, rfl⟩
      have hBg := hgs.out
      have hSl := hS.out.lt (show 0 < st.l.length from (by decide : 0 < 8))
      have hF0 := hF.out.1.size
      rw [← hB] at b6 g6 hBg hSl hF0 ⊢
      have F6 : Bx (FQ w g P W6) := .mk ((hF.out.below hgs.out ((Below.refl _ _).alloc (Nat.le_refl _) _)).grown g6 (by omega) (by omega))
      have hne : some (w.heap.size + 1) ≠ some B := fun q => by have := Option.some.inj q; omega
      have S6 := Bx.mk (Blk.grown (hS.out.alloc (by rw [← hB]; omega) _) g6 (by rw [World.size_alloc, ← hB]; omega) hne)
      have HT6 : Bx (Blk W6 B .u8 (upTo (DN st 8) 0)) := .mk (by rw [upTo_zero, DN_len]; exact b6)
      have hwB : w.heap.size < B := by omega
      have hsB : w.heap.size + 1 < B := by omega
      clear b6 g6 hSl hF0 hne hB Z hbz hF hS hgs hle2
      go_wp2_with fail
      go_loopg [7] 32 (fun gh s7 wr2 => ∃ (j : Nat), s7 = .int .i64 j ∧ j ≤ 32 ∧ Bx (gh = 32 - j) ∧ Bx (Blk wr2 B .u8 (upTo (DN st 8) j)) ∧ Bx (Blk wr2 (w.heap.size + 1) .u32 st.l) ∧ Bx (FQ w g P wr2))
      case atStart => exact ⟨0, rfl, by omega, .mk rfl, HT6, S6, F6⟩
      case round =>
        clear HT6 S6 F6
        obtain ⟨j, rfl, hj, hgh, hT, hS, hF⟩ := hrel
        by_cases hlt : j < 32
        · have hlen := upTo_len (DN st 8) j (by rw [DN_len]; omega)
          rw [DN_len] at hlen
          have ds := hS.out.at (i := j / 4) (show j / 4 < 8 by omega)
          have fk := hT.out.fr (i := j) (by omega)
          have ck := hT.out.at (i := j) (by omega)
          have hv := dn_get st j hlt
          obtain ⟨y, hy⟩ : ∃ y, y = st.l.getD (j / 4) 0 := ⟨_, rfl⟩
          rw [← hy] at ds hv
          have HV := Bx.mk hv
          have HST := Bx.mk (upTo_step (DN st 8) j (by rw [DN_len]; omega))
          have t4 : ((j : Int) / 4).toNat = j / 4 := by omega
          have b0 : 0 ≤ (j : Int) / 4 := by omega
          have b1 : (j : Int) / 4 < 8 := by omega
          have b2 : 0 ≤ (j : Int) % 4 := by omega
          have b3 : (j : Int) % 4 ≤ 3 := by omega
          have HEX : Bx ((24 - 8 * ((j : Int) % 4)).toNat = 24 - 8 * (j % 4)) := .mk (by omega)
          clear hy hlen hv
          go_wp2_with fail
          go_roundg (32 - j - 1)
          case measure => have := hgh.out; omega
          case rel =>
            refine ⟨j + 1, by go_num, by omega, .mk (by omega), .mk ?_, .mk (hS.out.other (show B ≠ w.heap.size + 1 by omega) _), .mk (hF.out.grown (B := B) (grown_set (grown_refl _ _) rfl _) hwB (by omega))⟩
            rw [← HST.out, HV.out]
            exact hT.out.setCell j _
        · obtain rfl : j = 32 := by omega
          clear hgh hlt hj
          have hT2 := hT.out
          rw [show (32 : Nat) = (DN st 8).length from (DN_len st 8).symm, upTo_all] at hT2
          have HT2 := Bx.mk hT2
          have Z := Bx.mk hF.out.2.1
          have HDL := DN_len st 8
          have HSM : Bx (DN st 8 = sum l) := .mk (by unfold sum; rw [← HPS.out])
          clear hT hS hT2
          go_wp2_with (first | (refine wpList_ldg rfl (.tmp 6) rfl B rfl (DN st 8) HT2.out HDL ?_) | (refine wpList_sdg rfl (.tmp 2) (.tmp 41) rfl w.heap.size rfl (DN st 8) rfl HDL (List.replicate 32 0) Z.out (by simp) ?_))
          intro W7 b7 g7
          have B7 := Below.grown hF.out.1 g7 hF.out.1.size (by intro q hq; cases hq; exact Nat.le_refl _)
          clear g7
          go_wp2_with fail
          (try simp only [Exit.inBlock, Exit.then])
          refine bodyPost_ret (results_dig rfl _ _ w.heap.size (DN st 8) rfl b7 HDL) rfl ?_
          exact ⟨by rw [HSM.out], B7⟩
end Go.Proofs.YtjbojoeafdkkeaaGreatDoor

namespace Go.Proofs.YtjbojoeafdkkeaaGreatDoor
open Go Go.RowKit Go.Lib

theorem slice_digS (D : Nat) : ∀ w, (Instr.sliceAt 35 (.pointer (some ⟨D, 0, none⟩)) none none none).run Tryz.prog w = .ok (.slice (some ⟨D, 0, none⟩) 32 32) w := fun w => by kernel_rfl

set_option maxHeartbeats 4000000 in
set_option maxRecDepth 100000 in
theorem rtagged_c (t : ByteArray) (b o cap : Nat) (l : List Int) (w : World) (hu : U8 w b o l) (hb : b < w.heap.size) (n0 : 0 < l.length) (hl : l.length ≤ 9000) (ht0 : 0 < t.size) (ht : t.size ≤ 100) :
    Calls Tryz.prog 100 #[.string t, .slice (some ⟨b, o, none⟩) l.length cap] w fun e w' => e = .returned (dv (tagged t l)) ∧ Below w.heap.size w w' := by
  have W1 := blk_new w .u8 (List.replicate 32 0) 35
  have B1 := (Below.refl w.heap.size w).alloc (Nat.le_refl _) (.cells ((List.replicate 32 0).map (.int .u8)).toArray 35)
  have HU := Bx.mk hu
  clear hu
  go_enter Tryz.func100, Tryz.ntmps100
  go_wp2_with fail
  change Oper.upon _ _ _ _ _ (((convert _ _ _).run _ (w.alloc (.cells ((List.replicate 32 0).map (.int .u8)).toArray 35))).andThen _)
  generalize w.alloc (.cells ((List.replicate 32 0).map (.int .u8)).toArray 35) = w1 at *
  have hcv := Lib.run_convert_string_bytes (P := Tryz.prog) w1 9 61 5 t (u := .string) (by kernel_rfl) (by kernel_rfl) (by kernel_rfl)
  have U2 := tb_u8 w1 t
  have B2 := below_step B1 (tb_below w1 t) (Nat.le_refl _)
  have D2 := W1.below (tb_below w1 t) (W1.lt (by simp))
  have hb1 : w1.heap.size < (bytesWorld w1 5 t).heap.size := by rw [bytesWorld_size]; omega
  have hw1 := B1.size
  clear W1 B1
  generalize bytesWorld w1 5 t = w2 at *
  generalize w1.heap.size = T1 at *
  generalize grownCap w1 t.size 0 5 = c1 at *
  have D2 := Bx.mk D2; have U2 := Bx.mk U2; have B2 := Bx.mk B2
  rw [hcv]
  simp only [Result.andThen_ok]
  rw [Oper.upon_value]
  clear hcv
  have htl := tb_len t
  have hs0 := rSum_c T1 0 c1 (tb t) w2 U2.out hb1 (by rw [tb_len]; omega) (by rw [tb_len]; omega)
  rw [htl] at hs0
  have Hs0 := Bx.mk hs0
  clear hs0 htl
  go_wp2_with fail
  refine Hs0.out.mono ?_
  rintro e w3 ⟨rfl, hb3⟩
  have D3 := Bx.mk (D2.out.below hb3 (D2.out.lt (by simp)))
  have B3 := Bx.mk (below_step B2.out hb3 (Nat.le_refl _))
  clear D2 B2 U2 hb3 Hs0 hb1
  have E3 := Bx.mk (blk_new w3 .u8 (List.replicate 32 0) 35)
  have hd3 := D3.out.lt (by simp)
  go_wp2_with (refine wpList_sdg rfl (.tmp 5) (.tmp 8) rfl w3.heap.size rfl (sum (tb t)) rfl (sum_len _) (List.replicate 32 0) E3.out (by simp) ?_)
  intro w5 E5 hg5
  obtain ⟨G, hG⟩ : ∃ G, G = w3.heap.size := ⟨_, rfl⟩
  rw [← hG] at E5 hg5 hd3 ⊢
  have hsz := B3.out.size
  rw [← hG] at hsz
  have B5 := Bx.mk (Below.grown (B3.out.alloc B3.out.size _) hg5 (by rw [World.size_alloc, ← hG]; omega) (by intro q hq; cases hq; omega))
  have hne : some w.heap.size ≠ some G := fun q => by have := Option.some.inj q; omega
  have D5 := Bx.mk (Blk.grown (D3.out.alloc (by rw [← hG]; exact hd3) _) hg5 (by rw [World.size_alloc, ← hG]; omega) hne)
  have hGs : G < w5.heap.size := E5.lt (by rw [sum_len]; decide)
  have HE5 := Bx.mk E5
  clear E5 hg5 E3 D3 B3 hne hG hsz
  have NK := Bx.mk (news_of_u8 (show U8 (w5.alloc (.cells #[] 5)) G 0 (sum (tb t)) from fun i hi => by rw [Nat.zero_add]; exact ((HE5.out.alloc hGs _) i hi).1))
  have hsd := slice_digS G
  have HSL := Bx.mk (sum_len (tb t))
  go_wp2_with (at_builtin; go_must (refine wpList_appFull8 rfl (.tmp 9) (.tmp 10) rfl ⟨w5.heap.size, 0, none⟩ 0 [] rfl rfl (fun j hj => absurd hj (Nat.not_lt_zero j)) ⟨G, 0, none⟩ 32 32 (sum (tb t)) rfl HSL.out (by omega) NK.out (by simp) ?_))
  intro u1 x1 hb1 hg1 ho1
  have hb1 : Bytes x1 u1 (sum (tb t)) := by simpa using hb1
  have hO : u1.ownBlock = some (w5.heap.size + 1) := by simpa using ho1
  have hB5s := B5.out.size
  have hbl : Below (w5.alloc (.cells #[] 5)).heap.size (w5.alloc (.cells #[] 5)) x1 := ⟨hg1.os, hg1.tape, hg1.output, hg1.size, fun q hq => hg1.block q hq (by simp)⟩
  have B6 := Bx.mk (below_step (B5.out.alloc B5.out.size (.cells #[] 5)) hbl (Nat.le_refl _))
  have D6 := Bx.mk ((D5.out.alloc (D5.out.lt (by simp)) (.cells #[] 5)).below hbl (by rw [World.size_alloc]; omega))
  have HO := Bx.mk hO; have HB1 := Bx.mk hb1
  have NL := Bx.mk (news_of_u8 (HU.out.below hb B6.out))
  have HLl : Bx ((sum (tb t)).length + l.length ≤ 1000000) := .mk (by rw [sum_len]; omega)
  clear hb1 hg1 ho1 hO hbl NK HE5 B5 D5
  go_wp2_with (at_builtin; go_must (refine wpList_app8 rfl (.tmp 11) (.tmp 12) rfl u1 (sum (tb t)) rfl HB1.out ⟨b, o, none⟩ l.length cap l rfl rfl n0 NL.out HLl.out ?_))
  intro u2 x2 hb2 hs2
  have hgr := hs2.grown
  rw [HO.out] at hgr
  have hB6s := B6.out.size
  have B7 := Bx.mk (Below.grown B6.out hgr B6.out.size (by intro q hq; cases hq; omega))
  have D7 := Bx.mk (D6.out.grown hgr (D6.out.lt (by simp)) (fun q => by have := Option.some.inj q; omega))
  obtain ⟨g2, c2, e2, hc1, hc2, hu8, hg2⟩ := slice_of_bytes hb2 (by rw [List.length_append]; omega)
  subst e2
  have HS2 := Bx.mk (rSum_c g2 0 c2 (sum (tb t) ++ l) x2 hu8 hg2 (by rw [List.length_append]; omega) (by rw [List.length_append, sum_len]; omega))
  obtain ⟨Z, hZ⟩ : ∃ Z, Z = (sum (tb t) ++ l).length := ⟨_, rfl⟩
  rw [← hZ] at HS2 ⊢
  clear hZ hgr hb2 hs2 hc1 hc2 hu8 hg2 HO HB1 NL B6 D6 HLl
  go_wp2_with fail
  refine HS2.out.mono ?_
  rintro e x3 ⟨rfl, hb3⟩
  have B8 := Bx.mk (below_step B7.out hb3 (Nat.le_refl _))
  have D8 := Bx.mk (D7.out.below hb3 (D7.out.lt (by simp)))
  clear hb3 B7 D7 HS2
  go_wp2_with (refine wpList_sdg rfl (.tmp 4) (.tmp 14) rfl w.heap.size rfl (sum (sum (tb t) ++ l)) rfl (sum_len _) (List.replicate 32 0) D8.out (by simp) ?_)
  intro x4 E9 hg9
  have B9 := Below.grown B8.out hg9 B8.out.size (by intro q hq; cases hq; exact Nat.le_refl _)
  clear hg9
  go_wp2_with fail
  (try simp only [Exit.inBlock, Exit.then])
  refine bodyPost_ret (results_dig rfl _ _ w.heap.size (sum (sum (tb t) ++ l)) rfl E9 (sum_len _)) rfl ?_
  exact ⟨rfl, B9⟩

theorem restN_rest (m : Int) (d : List Int) (k : Nat) (x : Int) : (256 * restN m d k % m + x) % m = (restN m d k * 256 + x) % m := by
  rw [Int.mul_comm 256, Int.emod_add_emod]
set_option maxHeartbeats 4000000 in
set_option maxRecDepth 100000 in
theorem rrest_c (d : List Int) (hd : d.length = 32) (hb : ByteL d) (m : Int) (w : World) (m0 : 1152921504606846976 ≤ m) (m1 : m < 4611686018427387904) :
    Calls Tryz.prog 175 #[dv d, .int .i64 m] w fun e w' => e = .returned (.int .i64 (restN m d 32)) ∧ Below w.heap.size w w' := by
  have HD := Bx.mk (blk_new w .u8 d 35)
  have HB := Bx.mk hb
  have B0 := Bx.mk ((Below.refl w.heap.size w).alloc (Nat.le_refl _) (.cells (d.map (.int .u8)).toArray 35))
  have HDL := Bx.mk hd
  have HRG := Bx.mk (restN_range m (by omega) d)
  clear hb hd
  go_enter Tryz.func175, Tryz.ntmps175
  go_wp2_with (first | (refine wpList_bxg rfl (.tmp 0) rfl d rfl ?_))
  go_loopg [5, 6] 32 (fun gh s5 s6 wr => ∃ (k : Nat), s5 = .int .i64 (restN m d k) ∧ s6 = .int .i64 k ∧ k ≤ 32 ∧ Bx (gh = 32 - k) ∧ Bx (Blk wr w.heap.size .u8 d) ∧ Bx (Below w.heap.size w wr))
  case atStart => exact ⟨0, rfl, rfl, by omega, .mk rfl, HD, B0⟩
  case round =>
    clear HD B0
    obtain ⟨k, rfl, rfl, hk, hg, hD, hB⟩ := hrel
    by_cases hlt : k < 32
    · have hx := hD.out.at (i := k) (by rw [HDL.out]; omega)
      have hq := HRG.out k
      have hxr := HB.out k
      have hst := restN_rest m d k (d.getD k 0)
      have hrs : (restN m d k * 256 + d.getD k 0) % m = restN m d (k + 1) := rfl
      rw [hrs] at hst
      obtain ⟨x, hxe⟩ : ∃ x, x = d.getD k 0 := ⟨_, rfl⟩
      rw [← hxe] at hx hxr hst
      obtain ⟨q, hqe⟩ : ∃ q, q = restN m d k := ⟨_, rfl⟩
      rw [← hqe] at hq hst ⊢
      obtain ⟨q0, q1⟩ := hq
      obtain ⟨x0, x1⟩ := hxr
      have HST := Bx.mk hst
      have C1 := Bx.mk (fun w => rprod_c 256 q m w (by omega) (by omega) q0 (by omega) m1)
      have u0 := Int.emod_nonneg (256 * q) (show m ≠ 0 by omega)
      have u1 := Int.emod_lt_of_pos (256 * q) (show 0 < m by omega)
      obtain ⟨y, hy⟩ : ∃ y, y = 256 * q % m := ⟨_, rfl⟩
      rw [← hy] at C1 u0 u1 HST
      have hwr : IntKind.i64.wrap (y + x) = y + x := by rw [IntKind.wrap_i64]; omega
      have hs0 : 0 ≤ y + x := by omega
      clear hy hxe hqe hst hrs
      go_wp2_with fail
      go_quiet (refine Calls.quiet_of_same ((C1.out _).mono fun _ _ h => ⟨h.1, h.2.symm⟩))
      go_wp2_with fail
      go_roundg (32 - k - 1)
      case measure => have := hg.out; omega
      case rel => exact ⟨k + 1, by rw [HST.out], by go_num, by omega, .mk (by omega), .mk (show Blk (wr.drewN nq) _ _ _ from hD.out), .mk (below_drewN hB.out nq)⟩
    · obtain rfl : k = 32 := by omega
      go_wp2_with fail
      go_ret
      exact ⟨rfl, hB.out⟩

set_option maxHeartbeats 4000000 in
set_option maxRecDepth 100000 in
theorem rScal_c (t : ByteArray) (b o cap : Nat) (l : List Int) (w : World) (hu : U8 w b o l) (hb : b < w.heap.size) (n0 : 0 < l.length) (hl : l.length ≤ 9000) (ht0 : 0 < t.size) (ht : t.size ≤ 100) :
    Calls Tryz.prog 140 #[.string t, .slice (some ⟨b, o, none⟩) l.length cap] w fun e w' => e = .returned (.int .i64 (scalarN t l)) ∧ Below w.heap.size w w' := by
  have HT := Bx.mk (rtagged_c t b o cap l w hu hb n0 hl ht0 ht)
  have HR := Bx.mk (fun w => rrest_c (tagged t l) (tagged_len _ _) (tagged_byte _ _) 2305843009213688668 w (by decide) (by decide))
  have hr := restN_range 2305843009213688668 (by decide) (tagged t l) 32
  have HS := Bx.mk (show scalarN t l = 1 + restN 2305843009213688668 (tagged t l) 32 from rfl)
  obtain ⟨q, hq⟩ : ∃ q, q = restN 2305843009213688668 (tagged t l) 32 := ⟨_, rfl⟩
  rw [← hq] at HR hr HS
  obtain ⟨z, hz⟩ : ∃ z, z = scalarN t l := ⟨_, rfl⟩
  rw [← hz] at HS ⊢
  obtain ⟨q0, q1⟩ := hr
  clear hq hz hu
  go_enter Tryz.func140, Tryz.ntmps140
  go_wp2_with fail
  refine HT.out.mono ?_
  rintro e w1 ⟨rfl, hb1⟩
  have B1 := Bx.mk hb1
  clear hb1
  go_wp2_with fail
  refine (HR.out _).mono ?_
  rintro e w2 ⟨rfl, hb2⟩
  have B2 := Bx.mk (below_step B1.out hb2 (Nat.le_refl _))
  clear hb2 B1
  go_wp2_with fail
  go_ret
  exact ⟨by rw [HS.out]; rfl, B2.out⟩
set_option maxHeartbeats 4000000 in
set_option maxRecDepth 100000 in
theorem rPt_c (t : ByteArray) (b o cap : Nat) (l : List Int) (w : World) (hu : U8 w b o l) (hb : b < w.heap.size) (n0 : 0 < l.length) (hl : l.length ≤ 9000) (ht0 : 0 < t.size) (ht : t.size ≤ 100) :
    Calls Tryz.prog 186 #[.string t, .slice (some ⟨b, o, none⟩) l.length cap] w fun e w' => e = .returned (.int .i64 (pointN t l)) ∧ Below w.heap.size w w' := by
  have HT := Bx.mk (rtagged_c t b o cap l w hu hb n0 hl ht0 ht)
  have HR := Bx.mk (fun w => rrest_c (tagged t l) (tagged_len _ _) (tagged_byte _ _) 4611686018427377336 w (by decide) (by decide))
  have hr := restN_range 4611686018427377336 (by decide) (tagged t l) 32
  have HS := Bx.mk (show pointN t l = (2 + restN 4611686018427377336 (tagged t l) 32) * (2 + restN 4611686018427377336 (tagged t l) 32) % 4611686018427377339 from rfl)
  obtain ⟨q, hq⟩ : ∃ q, q = restN 4611686018427377336 (tagged t l) 32 := ⟨_, rfl⟩
  rw [← hq] at HR hr HS
  obtain ⟨z, hz⟩ : ∃ z, z = pointN t l := ⟨_, rfl⟩
  rw [← hz] at HS ⊢
  obtain ⟨q0, q1⟩ := hr
  have HPr := Bx.mk (fun w => rprod_c (2 + q) (2 + q) 4611686018427377339 w (by omega) (by omega) (by omega) (by omega) (by omega))
  rw [← HS.out] at HPr
  clear hq hz hu HS
  go_enter Tryz.func186, Tryz.ntmps186
  go_wp2_with fail
  refine HT.out.mono ?_
  rintro e w1 ⟨rfl, hb1⟩
  have B1 := Bx.mk hb1
  clear hb1
  go_wp2_with fail
  refine (HR.out _).mono ?_
  rintro e w2 ⟨rfl, hb2⟩
  have B2 := Bx.mk (below_step B1.out hb2 (Nat.le_refl _))
  clear hb2 B1
  go_wp2_with fail
  refine (HPr.out _).mono ?_
  rintro e w3 ⟨rfl, rfl⟩
  go_wp2_with fail
  go_ret
  exact ⟨rfl, B2.out⟩
end Go.Proofs.YtjbojoeafdkkeaaGreatDoor

namespace Go.Proofs.YtjbojoeafdkkeaaGreatDoor
open Go Go.RowKit Go.Lib

theorem slice_of_vals {w : World} {v : Value} {l : List Int} (h : Vals w v l) (h0 : 0 < l.length) : ∃ g c, v = .slice (some ⟨g, 0, none⟩) l.length c ∧ IntsAt w g 0 l ∧ g < w.heap.size := by
  obtain ⟨g, c, e⟩ : ∃ g c, v = .slice (some ⟨g, 0, none⟩) l.length c := by
    rcases h.2 with ⟨_, h⟩ | ⟨g, c, cur, hv1, _⟩
    · omega
    · exact ⟨g, c, hv1⟩
  subst e
  have hi := ints_of_vals h
  exact ⟨g, c, rfl, hi, cell_lt (hi 0 h0).1⟩
theorem rtagged_own {w1 : World} {v : Value} {l : List Int} (t : ByteArray) (hv : Bytes w1 v l) (h0 : 0 < l.length) (hl : l.length ≤ 9000) (ht0 : 0 < t.size) (ht : t.size ≤ 100) :
    ∃ g c, v = .slice (some ⟨g, 0, none⟩) l.length c ∧ Calls Tryz.prog 100 #[.string t, .slice (some ⟨g, 0, none⟩) l.length c] w1 fun e w' => e = .returned (dv (tagged t l)) ∧ Below w1.heap.size w1 w' := by
  obtain ⟨g, c, e, h1, h2, hu, hg⟩ := slice_of_bytes hv h0
  exact ⟨g, c, e, rtagged_c t g 0 c l w1 hu hg h0 hl ht0 ht⟩
/-- Two digests' blocks: the first argument, the result. -/
def F2 (w : World) (dl : List Int) (W : World) : Prop := Below w.heap.size w W ∧ Blk W w.heap.size .u8 dl ∧ Blk W (w.heap.size + 1) .u8 (List.replicate 32 0)
theorem F2.below {w W W2 : World} {dl : List Int} (h : F2 w dl W) (hd : dl.length = 32) (hb : Below W.heap.size W W2) : F2 w dl W2 := ⟨below_step h.1 hb (Nat.le_refl _), h.2.1.below hb (h.2.1.lt (by omega)), h.2.2.below hb (h.2.2.lt (by simp))⟩
theorem F2.grown {w W W2 : World} {dl : List Int} {r : Option Nat} (h : F2 w dl W) (hd : dl.length = 32) (hg : W.grownBy W2 r) (hr : ∀ q, r = some q → w.heap.size + 2 ≤ q) : F2 w dl W2 :=
  ⟨Below.grown h.1 hg h.1.size (fun q hq => by have := hr q hq; omega), h.2.1.grown hg (h.2.1.lt (by omega)) (fun q => by have := hr _ q.symm; omega), h.2.2.grown hg (h.2.2.lt (by simp)) (fun q => by have := hr _ q.symm; omega)⟩
theorem F2.alloc {w W : World} {dl : List Int} (h : F2 w dl W) (hd : dl.length = 32) (o : Obj) : F2 w dl (W.alloc o) := h.below hd ((Below.refl _ _).alloc (Nat.le_refl _) o)
theorem F2.two {w W : World} {dl : List Int} (h : F2 w dl W) : w.heap.size + 2 ≤ W.heap.size := h.2.2.lt (by simp)
theorem F2.new (w : World) (dl : List Int) (hd : dl.length = 32) : F2 w dl ((w.alloc (.cells (dl.map (.int .u8)).toArray 35)).alloc (.cells ((List.replicate 32 0).map (.int .u8)).toArray 35)) := by
  have e1 : (w.alloc (.cells (dl.map (.int .u8)).toArray 35)).heap.size = w.heap.size + 1 := World.size_alloc _ _
  have z := blk_new (w.alloc (.cells (dl.map (.int .u8)).toArray 35)) .u8 (List.replicate 32 0) 35
  rw [e1] at z
  exact ⟨((Below.refl _ _).alloc (Nat.le_refl _) _).alloc (by rw [e1]; omega) _, (blk_new w .u8 dl 35).alloc (by rw [e1]; omega) _, z⟩
theorem i64_three (W : World) (a b c : Int) : I64 (W.alloc (.cells #[.int .i64 a, .int .i64 b, .int .i64 c] 3)) W.heap.size [a, b, c] := by
  intro i hi
  have hc := fun k => cells_new W #[.int .i64 a, .int .i64 b, .int .i64 c] 3 k
  have : i = 0 ∨ i = 1 ∨ i = 2 := by simp at hi; omega
  rcases this with rfl | rfl | rfl
  · exact hc 0
  · exact hc 1
  · exact hc 2

set_option maxHeartbeats 8000000 in
set_option maxRecDepth 100000 in
theorem rproof_c (dl : List Int) (hdl : dl.length = 32) (d v l : Int) (w : World) (hr : ∀ x ∈ [d, v, l], -9223372036854775808 ≤ x ∧ x ≤ 9223372036854775807) :
    Calls Tryz.prog 53 #[dv dl, .int .i64 d, .int .i64 v, .int .i64 l] w fun e w' => e = .returned (dv (rqN dl d v l)) ∧ Below w.heap.size w w' := by
  have F0 := Bx.mk (F2.new w dl hdl)
  have HDL := Bx.mk hdl; have HR := Bx.mk hr
  clear hdl hr
  have hsd := slice_digS w.heap.size
  go_enter Tryz.func53, Tryz.ntmps53
  go_wp2_with (first | (refine wpList_bxg rfl (.tmp 0) rfl dl rfl ?_) | (refine wpList_pause 15 rfl ?_))
  intro W0 hW0
  have F1 : Bx (F2 w dl W0) := .mk (by rw [hW0]; exact F0.out)
  clear hW0 F0
  have HI3 := Bx.mk (i64_three W0 d v l)
  have F2b := Bx.mk (F1.out.alloc HDL.out (.cells #[.int .i64 d, .int .i64 v, .int .i64 l] 3))
  go_wp2_with fail
  refine (rints_c W0.heap.size 3 3 [d, v, l] _ rfl (by decide) (by decide) (by rw [World.size_alloc]; omega) HI3.out).mono ?_
  rintro e w1 ⟨u, rfl, hv1, hb1⟩
  have F3 := Bx.mk (F2b.out.below HDL.out hb1)
  obtain ⟨g1, c1, e1, hi1, hg1⟩ := slice_of_vals hv1 (by simp)
  subst e1
  clear hv1 hb1 F1 F2b HI3
  go_wp2_with fail
  refine (rencode_c g1 0 c1 [d, v, l] (by simp) _ HR.out hg1 hi1).mono ?_
  rintro e w2 ⟨u, rfl, ho⟩
  have F4 := Bx.mk (F3.out.below HDL.out ho.2.1)
  obtain ⟨g2, c2, e2, hc1, hc2, hu8, hg2⟩ := slice_of_bytes ho.1 (encL_pos _)
  subst e2
  have hsz3 := F3.out.two
  have hg2w : w.heap.size + 2 ≤ g2 := by have := ho.2.2 g2 rfl; omega
  have hl2 := encL_len [d, v, l]
  have hep := encL_pos [d, v, l]
  have HRQ := Bx.mk (show tagged tEnroll (dl ++ encL [d, v, l]) = rqN dl d v l from rfl)
  obtain ⟨en, hen⟩ : ∃ en, en = encL [d, v, l] := ⟨_, rfl⟩
  rw [← hen] at hu8 hl2 hep HRQ ⊢
  obtain ⟨N, hN⟩ : ∃ N, N = en.length := ⟨_, rfl⟩
  rw [← hN] at hl2 hep ⊢
  have HN := Bx.mk hN
  have hn1 : N ≤ 44 := by simp at hl2; omega
  have hrl : (rqN dl d v l).length = 32 := by unfold rqN; exact tagged_len _ _
  obtain ⟨rq, hrq⟩ : ∃ q, q = rqN dl d v l := ⟨_, rfl⟩
  rw [← hrq] at HRQ hrl
  have HRE := Bx.mk hrq
  have HRL := Bx.mk hrl
  have NK := Bx.mk (news_of_u8 (show U8 (w2.alloc (.cells #[] 5)) w.heap.size 0 dl from fun i hi => by rw [Nat.zero_add]; exact ((F4.out.alloc HDL.out _).2.1 i hi).1))
  have HU8 := Bx.mk hu8
  have hB4 := F4.out.two
  clear ho hu8 hc1 hc2 hen hN hl2 hrq hrl F3 hi1 hg1 HR hsz3
  go_wp2_with (at_builtin; go_must (refine wpList_appFull8 rfl (.tmp 20) (.tmp 21) rfl ⟨w2.heap.size, 0, none⟩ 0 [] rfl rfl (fun j hj => absurd hj (Nat.not_lt_zero j)) ⟨w.heap.size, 0, none⟩ 32 32 dl rfl HDL.out (by omega) NK.out (by simp) ?_))
  intro u1 x1 hb1 hg1 ho1
  have hb1 : Bytes x1 u1 dl := by simpa using hb1
  have hO : u1.ownBlock = some (w2.heap.size + 1) := by simpa using ho1
  have hbl : Below (w2.alloc (.cells #[] 5)).heap.size (w2.alloc (.cells #[] 5)) x1 := ⟨hg1.os, hg1.tape, hg1.output, hg1.size, fun q hq => hg1.block q hq (by simp)⟩
  have F5 := Bx.mk ((F4.out.alloc HDL.out (.cells #[] 5)).below HDL.out hbl)
  have NE := Bx.mk (news_of_u8 ((HU8.out.below hg2 ((Below.refl _ _).alloc (Nat.le_refl _) (.cells #[] 5))).below (by rw [World.size_alloc]; omega) hbl))
  have HO := Bx.mk hO; have HB1 := Bx.mk hb1
  clear hb1 hg1 ho1 hO hbl NK F4 HU8
  go_wp2_with (at_builtin; go_must (refine wpList_app8 rfl (.tmp 22) (.tmp 23) rfl u1 dl rfl HB1.out ⟨g2, 0, none⟩ N c2 en rfl HN.out.symm hep NE.out (by rw [HDL.out]; omega) ?_))
  intro u2 x2 hb2 hs2
  have F6 := Bx.mk (F5.out.grown HDL.out hs2.grown (fun q hq => by rw [HO.out] at hq; cases hq; omega))
  obtain ⟨g3, c3, e3, ht⟩ := rtagged_own tEnroll hb2 (by rw [List.length_append, HDL.out]; omega) (by rw [List.length_append, HDL.out, ← HN.out]; omega) (by decide) (by decide)
  subst e3
  rw [HRQ.out] at ht
  have HT := Bx.mk ht
  obtain ⟨Z, hZ⟩ : ∃ Z, Z = (dl ++ en).length := ⟨_, rfl⟩
  rw [← hZ] at HT ⊢
  clear hZ ht hb2 hs2 F5 HB1 HO NE HRQ
  go_wp2_with fail
  refine HT.out.mono ?_
  rintro e x3 ⟨rfl, hb3⟩
  have F7 := Bx.mk (F6.out.below HDL.out hb3)
  have ZR := Bx.mk F7.out.2.2
  clear hb3 F6 HT
  go_wp2_with (refine wpList_sdg rfl (.tmp 8) (.tmp 25) rfl (w.heap.size + 1) rfl rq rfl HRL.out (List.replicate 32 0) ZR.out (by simp) ?_)
  intro x4 E9 hg9
  have B9 := Below.grown F7.out.1 hg9 F7.out.1.size (by intro q hq; cases hq; omega)
  clear hg9
  go_wp2_with fail
  (try simp only [Exit.inBlock, Exit.then])
  refine bodyPost_ret (results_dig rfl _ _ (w.heap.size + 1) rq rfl E9 HRL.out) rfl ?_
  exact ⟨by rw [HRE.out], B9⟩
end Go.Proofs.YtjbojoeafdkkeaaGreatDoor
