/- codec: formed, Check, numeral, the writers, Encode: at a list of integers. -/
import Derived.Test.YtjbojoeafdkkeaaGreatDoorJ4
import Derived.Deep.RegionHeld3
set_option linter.unusedVariables false
set_option linter.unusedSimpArgs false
namespace Go.Proofs.YtjbojoeafdkkeaaGreatDoor
open Go Go.RowKit Go.Lib

abbrev vInt (n : Int) : Value := .agg #[.int .i64 1, .int .i64 n, .string ⟨#[]⟩, .slice none 0 0]

set_option maxHeartbeats 2000000 in
set_option maxRecDepth 100000 in
theorem formed_int (n : Int) (w : World) :
    Calls Tryz.prog 124 #[vInt n] w fun e w' => e = .returned (.tuple #[.int .i64 0, .bool true]) ∧ Below w.heap.size w w' := by
  by_cases hn : n = 0
  · subst hn
    go_enter Tryz.func124, Tryz.ntmps124
    go_wp2_with fail
    go_ret2
    exact ⟨rfl, ((Below.refl _ _).alloc (Nat.le_refl _) _).alloc (by simp) _⟩
  · have hnb : (n == 0) = false := by simpa using hn
    go_enter Tryz.func124, Tryz.ntmps124
    go_wp2_with fail
    go_ret2
    exact ⟨rfl, ((Below.refl _ _).alloc (Nat.le_refl _) _).alloc (by simp) _⟩

/-- The cells at b, from o on, are the values of these integers. -/
def IntsAt (w : World) (b o : Nat) (l : List Int) : Prop :=
  ∀ i, (h : i < l.length) → w.cell? ⟨b, o + i * 4, none⟩ = some (.int .i64 1) ∧ w.cell? ⟨b, o + i * 4 + 1, none⟩ = some (.int .i64 l[i]) ∧ w.cell? ⟨b, o + i * 4 + 2, none⟩ = some (.string ⟨#[]⟩) ∧ w.cell? ⟨b, o + i * 4 + 3, none⟩ = some (.slice none 0 0)
theorem IntsAt.below {w w' : World} {b o : Nat} {l : List Int} {B : Nat} (h : IntsAt w b o l) (hb : b < B) (hw : Below B w w') : IntsAt w' b o l := fun i hi => by
  obtain ⟨h1, h2, h3, h4⟩ := h i hi
  exact ⟨(hw.cell (p := ⟨b, _, none⟩) hb).trans h1, (hw.cell (p := ⟨b, _, none⟩) hb).trans h2, (hw.cell (p := ⟨b, _, none⟩) hb).trans h3, (hw.cell (p := ⟨b, _, none⟩) hb).trans h4⟩

set_option maxHeartbeats 2000000 in
set_option maxRecDepth 100000 in
theorem formed_list (b o cap : Nat) (l : List Int) (hl : l.length ≤ 64) (w : World) (hb : b < w.heap.size) (hc : IntsAt w b o l) :
    Calls Tryz.prog 124 #[.agg #[.int .i64 3, .int .i64 0, .string ⟨#[]⟩, .slice (some ⟨b, o, none⟩) l.length cap]] w fun e w' => e = .returned (.tuple #[.int .i64 1, .bool true]) ∧ Below w.heap.size w w' := by
  have HC := Bx.mk hc; clear hc
  go_enter Tryz.func124, Tryz.ntmps124
  go_wp2_with fail
  go_loopg [2, 57] l.length (fun g s2 s57 wr => ∃ k : Nat, s57 = .int .i64 k ∧ s2 = .int .i64 0 ∧ k ≤ l.length ∧ Bx (g = l.length - k) ∧ Below w.heap.size w wr)
  case atStart => exact ⟨0, rfl, rfl, by omega, .mk rfl, ((Below.refl _ _).alloc (Nat.le_refl _) _).alloc (by simp) _⟩
  case round =>
    obtain ⟨k, rfl, rfl, hk, hg, hB⟩ := hrel
    have hcw := HC.out.below hb hB
    by_cases hlt : k < l.length
    · obtain ⟨c0, c1, c2, c3⟩ := hcw k hlt
      obtain ⟨v, hv⟩ : ∃ v, v = l[k] := ⟨_, rfl⟩
      rw [← hv] at c1
      clear hcw hv
      go_wp2_with fail
      refine (formed_int v _).mono ?_
      rintro e w2 ⟨rfl, hb2⟩
      go_wp2_with fail
      have hB2 := below_step (hB.alloc hB.size _) hb2 (Nat.le_refl _)
      go_roundg (l.length - k - 1)
      case measure => have := hg.out; omega
      case rel => exact ⟨k + 1, by go_num, rfl, by omega, .mk (by omega), hB2⟩
    · clear hcw
      go_wp2_with fail
      go_ret2
      exact ⟨rfl, hB⟩

set_option maxHeartbeats 2000000 in
theorem codecCheck_list (b o cap : Nat) (l : List Int) (hl : l.length ≤ 64) (w : World) (hb : b < w.heap.size) (hc : IntsAt w b o l) :
    Calls Tryz.prog 71 #[.agg #[.int .i64 3, .int .i64 0, .string ⟨#[]⟩, .slice (some ⟨b, o, none⟩) l.length cap]] w fun e w' => e = .returned (.int .i64 0) ∧ Below w.heap.size w w' := by
  have HC := Bx.mk hc; clear hc
  go_enter Tryz.func71, Tryz.ntmps71
  go_wp2_with fail
  refine (formed_list b o cap l hl _ (by simp; omega) (HC.out.below hb ((Below.refl _ _).alloc (Nat.le_refl _) _))).mono ?_
  rintro e w2 ⟨rfl, hb2⟩
  go_wp2_with fail
  go_ret
  exact ⟨rfl, below_step ((Below.refl _ _).alloc (Nat.le_refl _) _) hb2 (Nat.le_refl _)⟩
end Go.Proofs.YtjbojoeafdkkeaaGreatDoor

namespace Go.Proofs.YtjbojoeafdkkeaaGreatDoor
open Go Go.RowKit Go.Lib

def bv (l : List Int) : List Value := l.map (.int .u8)
@[simp] theorem bv_length (l : List Int) : (bv l).length = l.length := by simp [bv]
theorem bv_append (l m : List Int) : bv l ++ bv m = bv (l ++ m) := by simp [bv]
/-- The slice v is this run's own and holds these bytes. -/
def Bytes (w : World) (v : Value) (l : List Int) : Prop := w.ownsRow 0 5 1 v l.length (bv l)
/-- What an append to v may have done since w. -/
structure Since (w : World) (v : Value) (w' : World) (v' : Value) : Prop where
  grown : w.grownBy w' v.ownBlock
  near : v'.ownBlock = v.ownBlock ∨ ∀ k, v'.ownBlock = some k → w.heap.size ≤ k
theorem Since.refl (w : World) (v : Value) : Since w v w v := ⟨⟨rfl, rfl, rfl, Nat.le_refl _, fun _ _ _ => rfl⟩, .inl rfl⟩
theorem Since.trans {w w1 w2 : World} {v v1 v2 : Value} (h : Since w v w1 v1) (k : Since w1 v1 w2 v2) : Since w v w2 v2 :=
  ⟨grown_trans h.grown k.grown h.near, by
    rcases k.near with e | e
    · rw [e]; exact h.near
    · exact .inr fun j hj => Nat.le_trans h.grown.size (e j hj)⟩
theorem Since.alloc {w w1 : World} {v v1 : Value} (h : Since w v w1 v1) (o : Obj) : Since w v (w1.alloc o) v1 := ⟨grown_trans h.grown (World.grownBy_alloc w1 o none) (.inr fun k e => by cases e), h.near⟩
theorem Since.drewN {w w1 : World} {v v1 : Value} (h : Since w v w1 v1) (n : Nat) : Since w v (w1.drewN n) v1 := ⟨⟨h.grown.os, h.grown.tape, h.grown.output, h.grown.size, h.grown.block⟩, h.near⟩
theorem Since.of_below {w w1 w2 : World} {v v1 : Value} (h : Since w v w1 v1) (hb : Below w1.heap.size w1 w2) : Since w v w2 v1 :=
  ⟨grown_trans h.grown ⟨hb.os, hb.tape, hb.output, hb.size, fun k hk _ => hb.block k hk⟩ (r1 := none) (.inr fun k e => by cases e), h.near⟩
theorem Since.step {w w1 : World} {v v1 : Value} (hg : w.grownBy w1 v.ownBlock) (hn : Near w v v1) : Since w v w1 v1 :=
  ⟨hg, hn.imp id fun e k hk => by rw [e] at hk; cases hk; exact Nat.le_refl _⟩

theorem Since.ne {w w1 : World} {v v1 : Value} (h : Since w v w1 v1) {b : Nat} (hb : b < w.heap.size) (hne : some b ≠ v.ownBlock) : some b ≠ v1.ownBlock := by
  rcases h.near with e | e
  · rw [e]; exact hne
  · intro e2; have := e b e2.symm; omega

theorem Tryz.info_u8 : (Tryz.prog.info? 5).map (fun i => (i.zero, i.size, i.bytes)) = some (some (.int .u8 0), 1, 1) := by kernel_rfl

section
variable {w : World}
theorem u8_facts : ∃ i, Tryz.prog.info? 5 = some i ∧ i.zero = some (.int .u8 0) ∧ i.size = 1 ∧ i.bytes = 1 := info_parts Tryz.info_u8
theorem bv_get {news : List Int} {ad : Addr} (hnews : ∀ j, (h : j < news.length) → w.cell? (ad.add j) = some (.int .u8 news[j])) : ∀ j u, (bv news)[j]? = some u → w.cell? (ad.add j) = some u := by
  intro j u hj
  unfold bv at hj
  rw [List.getElem?_map, Option.map_eq_some_iff] at hj
  obtain ⟨x, hx, rfl⟩ := hj
  obtain ⟨hlt, rfl⟩ := List.getElem?_eq_some_iff.1 hx
  exact hnews j hlt
theorem bv_one (news : List Int) : ∀ u ∈ bv news, u.oneCell' = true := by
  intro u hu
  unfold bv at hu
  obtain ⟨x, _, rfl⟩ := List.mem_map.1 hu
  rfl
theorem one_new (w : World) (t : TypeId) (x : Int) : ∀ j, (h : j < [x].length) → (w.alloc (.cells #[.int .u8 x] t)).cell? ((⟨w.heap.size, 0, none⟩ : Addr).add j) = some (.int .u8 [x][j]) := by
  intro j hj
  simp at hj
  subst hj
  simp [Addr.add]
theorem wpList_app8 {ops : Array Oper} {rest : List Oper} {o : Oper} {a : Act} {Q : Exit → Act → World → Prop} (hgd : o.guard = none) (s x : Operand)
    (ho : o.op = .call { callee := .builtin .append, args := #[s, x], argTypes := #[61, 61] })
    (v : Value) (l : List Int) (hs : a.eval s = v) (hown : Bytes w v l) (ad : Addr) (m c : Nat) (news : List Int) (hx : a.eval x = .slice (some ad) m c) (hmn : news.length = m) (hm : 0 < m)
    (hnews : ∀ j, (h : j < news.length) → w.cell? (ad.add j) = some (.int .u8 news[j])) (hlen : l.length + m ≤ 1000000)
    (h : ∀ v' w', Bytes w' v' (l ++ news) → Since w v w' v' → wpList Tryz.prog ops Q rest (a.put o.dst v') w') : wpList Tryz.prog ops Q (o :: rest) a w := by
  obtain ⟨i, hi, hz, h1, h2⟩ := u8_facts
  refine wpList_app hgd s x 61 ho 5 i (.int .u8 0) Tryz.underlying61 hi hz (by rw [h1]; rfl) (by omega) v l.length (bv l) hs (by rw [h1]; exact hown) ad m c (bv news) hx hm (by rw [h1]; simp [hmn]) (bv_get hnews) (bv_one news) (by unfold maxLen; omega) (by rw [h2]; omega) ?_
  intro v' w' hw hg hn
  refine h v' w' ?_ (.step hg hn)
  unfold Bytes
  rw [h1, bv_append, ← hmn, ← List.length_append] at hw
  exact hw
theorem wpList_appFull8 {ops : Array Oper} {rest : List Oper} {o : Oper} {a : Act} {Q : Exit → Act → World → Prop} (hgd : o.guard = none) (s x : Operand)
    (ho : o.op = .call { callee := .builtin .append, args := #[s, x], argTypes := #[61, 61] })
    (b : Addr) (n : Nat) (l : List Int) (hs : a.eval s = .slice (some b) n n) (hln : l.length = n) (hl : ∀ j, (h : j < l.length) → w.cell? (b.add j) = some (.int .u8 l[j]))
    (ad : Addr) (m c : Nat) (news : List Int) (hx : a.eval x = .slice (some ad) m c) (hmn : news.length = m) (hm : 0 < m)
    (hnews : ∀ j, (h : j < news.length) → w.cell? (ad.add j) = some (.int .u8 news[j])) (hlen : l.length + m ≤ 1000000)
    (h : ∀ v' w', Bytes w' v' (l ++ news) → w.grownBy w' none → v'.ownBlock = some w.heap.size → wpList Tryz.prog ops Q rest (a.put o.dst v') w') : wpList Tryz.prog ops Q (o :: rest) a w := by
  obtain ⟨i, hi, hz, h1, h2⟩ := u8_facts
  refine wpList_appFull hgd s x 61 ho 5 i (.int .u8 0) Tryz.underlying61 hi hz (by rw [h1]; rfl) b n (bv l) hs (by rw [h1]; simp [hln]) (bv_get hl) ad m c (bv news) hx hm (by rw [h1]; simp [hmn]) (bv_get hnews) (by unfold maxLen; omega) (by rw [h2]; omega) ?_
  intro v' w' hw hg hn
  refine h v' w' ?_ hg hn
  unfold Bytes
  rw [h1, bv_append, ← hmn, ← hln, ← List.length_append] at hw
  exact hw
/-- The same as one step of a region that draws its order. -/
theorem step_app8 {ops : Array Oper} {o : Oper} {a : Act} {K : Act → World → Prop} {Q : Exit → Act → World → Prop} {E : Prop} (hgd : o.guard = none) (s x : Operand)
    (ho : o.op = .call { callee := .builtin .append, args := #[s, x], argTypes := #[61, 61] })
    (v : Value) (l : List Int) (hs : a.eval s = v) (hown : Bytes w v l) (ad : Addr) (m c : Nat) (news : List Int) (hx : a.eval x = .slice (some ad) m c) (hmn : news.length = m) (hm : 0 < m)
    (hnews : ∀ j, (h : j < news.length) → w.cell? (ad.add j) = some (.int .u8 news[j])) (hlen : l.length + m ≤ 1000000)
    (h : ∀ v' w', Bytes w' v' (l ++ news) → Since w v w' v' → K (a.put o.dst v') w') : if Region.wanted o (yielded ops a.tmps) = true then Oper.wp Tryz.prog o a w K Q else E := by
  have hw : Region.wanted o (yielded ops a.tmps) = true := by simp [Region.wanted, hgd]
  rw [if_pos hw]
  obtain ⟨i, hi, hz, h1, h2⟩ := u8_facts
  refine wp_app s x 61 ho 5 i (.int .u8 0) Tryz.underlying61 hi hz (by rw [h1]; rfl) (by omega) v l.length (bv l) hs (by rw [h1]; exact hown) ad m c (bv news) hx hm (by rw [h1]; simp [hmn]) (bv_get hnews) (bv_one news) (by unfold maxLen; omega) (by rw [h2]; omega) ?_
  intro v' w' hw' hg hn
  refine h v' w' ?_ (.step hg hn)
  unfold Bytes
  rw [h1, bv_append, ← hmn, ← List.length_append] at hw'
  exact hw'
theorem step_appFull8 {ops : Array Oper} {o : Oper} {a : Act} {K : Act → World → Prop} {Q : Exit → Act → World → Prop} {E : Prop} (hgd : o.guard = none) (s x : Operand)
    (ho : o.op = .call { callee := .builtin .append, args := #[s, x], argTypes := #[61, 61] })
    (b : Addr) (n : Nat) (l : List Int) (hs : a.eval s = .slice (some b) n n) (hln : l.length = n) (hl : ∀ j, (h : j < l.length) → w.cell? (b.add j) = some (.int .u8 l[j]))
    (ad : Addr) (m c : Nat) (news : List Int) (hx : a.eval x = .slice (some ad) m c) (hmn : news.length = m) (hm : 0 < m)
    (hnews : ∀ j, (h : j < news.length) → w.cell? (ad.add j) = some (.int .u8 news[j])) (hlen : l.length + m ≤ 1000000)
    (h : ∀ v' w', Bytes w' v' (l ++ news) → w.grownBy w' none → v'.ownBlock = some w.heap.size → K (a.put o.dst v') w') : if Region.wanted o (yielded ops a.tmps) = true then Oper.wp Tryz.prog o a w K Q else E := by
  have hw : Region.wanted o (yielded ops a.tmps) = true := by simp [Region.wanted, hgd]
  rw [if_pos hw]
  obtain ⟨i, hi, hz, h1, h2⟩ := u8_facts
  refine wp_appFull s x 61 ho 5 i (.int .u8 0) Tryz.underlying61 hi hz (by rw [h1]; rfl) b n (bv l) hs (by rw [h1]; simp [hln]) (bv_get hl) ad m c (bv news) hx hm (by rw [h1]; simp [hmn]) (bv_get hnews) (by unfold maxLen; omega) (by rw [h2]; omega) ?_
  intro v' w' hw' hg hn
  refine h v' w' ?_ hg hn
  unfold Bytes
  rw [h1, bv_append, ← hmn, ← hln, ← List.length_append] at hw'
  exact hw'
end

/-- The digits of a numeral, the least significant ones first. -/
def numB : Nat → Int → List Int
  | 0, _ => []
  | f + 1, u => if 128 ≤ u then (u % 128 + 128) :: numB f (u / 128) else [u]
theorem numB_len : ∀ (f : Nat) (u : Int), (numB f u).length ≤ f
  | 0, _ => by simp [numB]
  | f + 1, u => by
    unfold numB
    split
    · simp; exact numB_len f _
    · simp
theorem or_128 (u : Int) (h0 : 0 ≤ u) : bits BinOp.or IntKind.u8 (u % 256) 128 = u % 128 + 128 := by
  have h : ∀ n : Fin 256, bits BinOp.or IntKind.u8 ((n.val : Nat) : Int) 128 = ((n.val % 128 + 128 : Nat) : Int) := by decide +kernel
  have := h ⟨(u % 256).toNat, by omega⟩
  simp only at this
  have e : (((u % 256).toNat : Nat) : Int) = u % 256 := by omega
  rw [e] at this
  rw [this]
  omega

theorem numB_next {l dn : List Int} {g : Nat} {u : Int} (h : l = dn ++ numB (g + 1 + 1) u) (hge : 128 ≤ u) : l = (dn ++ [u % 128 + 128]) ++ numB (g + 1) (u / 128) := by
  rw [h, numB, if_pos hge, List.append_assoc]
  rfl
theorem numB_bound {u : Int} {g : Nat} (h : u < 128 ^ (g + 1) * 2) : u / 128 < 128 ^ g * 2 := by
  rw [Int.pow_succ] at h
  omega

set_option maxHeartbeats 2000000 in
set_option maxRecDepth 100000 in
theorem numeral_c (v : Value) (l : List Int) (u : Int) (w : World) (hu0 : 0 ≤ u) (hu1 : u < 18446744073709551616) (hown : Bytes w v l) (hl : l.length ≤ 4096) :
    Calls Tryz.prog 126 #[v, .int .u64 u] w fun e w' => ∃ v', e = .returned v' ∧ Bytes w' v' (l ++ numB 10 u) ∧ Since w v w' v' := by
  go_enter Tryz.func126, Tryz.ntmps126
  go_wp2_with fail
  go_loopg [0, 1] 9 (fun g s0 s1 wr => ∃ (v1 : Value) (u1 : Int) (dn : List Int), v1 = s0 ∧ s1 = .int .u64 u1 ∧ 0 ≤ u1 ∧ u1 < 18446744073709551616 ∧ Bx (u1 < 128 ^ g * 2) ∧ Bx (numB 10 u = dn ++ numB (g + 1) u1) ∧ Bx (dn.length + g = 9) ∧ Bx (Bytes wr v1 (l ++ dn)) ∧ Bx (Since w v wr v1))
  case atStart => exact ⟨v, u, [], rfl, rfl, hu0, hu1, .mk (by omega), .mk rfl, .mk rfl, .mk (by simpa using hown), .mk (Since.refl _ _)⟩
  case round =>
    obtain ⟨v1, u1, dn, rfl, rfl, h0, h1, hf, hd, hn, ho, hs⟩ := hrel
    by_cases hge : 128 ≤ u1
    · have hfit := hn.out
      have hlen9 : (l ++ dn).length + 1 ≤ 1000000 := by simp; omega
      have hob := or_128 u1 h0
      clear hfit
      go_wp2_with (at_builtin; go_must (refine wpList_app8 rfl (.tmp 9) (.tmp 13) rfl v1 (l ++ dn) rfl ?c1 ⟨wr.heap.size, 0, none⟩ 1 1 [u1 % 128 + 128] rfl rfl (by omega) (one_new _ _ _) hlen9 ?_))
      case c1 => exact ho.out.alloc _
      intro v2 w2 hb2 hs2
      go_wp2_with fail
      have hg1 : 1 ≤ gk := by
        rcases Nat.lt_or_ge 0 gk with h | h
        · exact h
        · exfalso; obtain rfl : gk = 0 := by omega
          have := hf.out; simp at this; omega
      obtain ⟨g', rfl⟩ : ∃ g', gk = g' + 1 := ⟨gk - 1, by omega⟩
      go_roundg g'
      case measure => omega
      case rel => exact ⟨v2, u1 / 128, dn ++ [u1 % 128 + 128], rfl, rfl, by omega, by omega, .mk (numB_bound hf.out), .mk (numB_next hd.out hge), .mk (by simp; have := hn.out; omega), .mk (by first | exact hb2 | (rw [← List.append_assoc]; exact hb2)), .mk (hs.out.trans ((Since.refl _ _).alloc _ |>.trans hs2))⟩
    · have hfit := hn.out
      have hlen9 : (l ++ dn).length + 1 ≤ 1000000 := by simp; omega
      clear hfit
      go_wp2_with (at_builtin; go_must (refine wpList_app8 rfl (.tmp 15) (.tmp 18) rfl v1 (l ++ dn) rfl ?c1 ⟨wr.heap.size, 0, none⟩ 1 1 [u1] rfl rfl (by omega) (one_new _ _ _) hlen9 ?_))
      case c1 => exact ho.out.alloc _
      intro v2 w2 hb2 hs2
      go_wp2_with fail
      go_ret
      refine ⟨v2, rfl, ?_, hs.out.trans ((Since.refl _ _).alloc _ |>.trans hs2)⟩
      rw [hd.out, numB, if_neg (by omega)]
      first | exact hb2 | (rw [← List.append_assoc]; exact hb2)
end Go.Proofs.YtjbojoeafdkkeaaGreatDoor
