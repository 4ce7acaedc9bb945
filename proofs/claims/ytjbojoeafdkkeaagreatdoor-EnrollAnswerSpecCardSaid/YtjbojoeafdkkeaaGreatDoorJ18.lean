/- From the listed variables to their cells. -/
import Derived.Test.YtjbojoeafdkkeaaGreatDoorJ17
import Derived.Test.YtjbojoeafdkkeaaGreatDoorRows
import Derived.LaidLaws
import Derived.LaidHandle
set_option linter.unusedVariables false
set_option linter.unusedSimpArgs false
namespace Go.Proofs.YtjbojoeafdkkeaaGreatDoor
open Go Go.RowKit Go.Lib

theorem int_of_trod {H : Type} {enc : TypeId × Value → H} {P : Program} {w : World} {base : Nat} {sp : Nat → Bool} {held : Bool} {fuel : Nat} {t : TypeId} {k : IntKind} {c : Value} {y : DataW H × List MemPlace}
    (ht : P.underlying t = some (.int k)) (h : DataW.trod enc P w base sp held fuel t [c] = some y) : ∃ n, c = .int k n ∧ y = (.lit (.int k n), []) := by
  cases fuel with
  | zero => simp [DataW.trod] at h
  | succ fuel =>
    cases c <;> simp [DataW.trod, ht] at h
    rename_i k' n
    obtain ⟨⟨rfl, _⟩, rfl⟩ := h
    exact ⟨n, rfl, rfl⟩
theorem mapM_get {α β : Type} (f : α → Option β) : ∀ (l : List α) (ys : List β), l.mapM f = some ys → ys.length = l.length ∧ ∀ i, (h : i < l.length) → ∃ y, ys[i]? = some y ∧ f l[i] = some y
  | [], ys, h => by
    simp at h
    subst h
    exact ⟨rfl, fun i hi => by simp at hi⟩
  | a :: l, ys, h => by
    simp only [List.mapM_cons, Option.bind_eq_bind, Option.bind_eq_some_iff, Option.pure_def, Option.some.injEq] at h
    obtain ⟨y, hy, zs, hz, rfl⟩ := h
    obtain ⟨h1, h2⟩ := mapM_get f l zs hz
    refine ⟨by simp [h1], fun i hi => ?_⟩
    cases i with
    | zero => exact ⟨y, rfl, hy⟩
    | succ i => simpa using h2 i (by simpa using hi)
/-- An array of integers reads as these integers: then its cells are they. -/
theorem arr_ints {H : Type} {enc : TypeId × Value → H} {P : Program} {w : World} {base : Nat} {sp : Nat → Bool} {held : Bool} {fuel n : Nat} {t e : TypeId} {k : IntKind} {l : List Value} {xs : List Int} {p : List MemPlace}
    (hu : P.underlying t = some (.array n e)) (he : P.underlying e = some (.int k)) (hc : P.cellsOf t = n) (hce : P.cellsOf e = 1)
    (h : DataW.trod enc P w base sp held fuel t l = some (.agg (xs.map fun x => .lit (.int k x)), p)) : l = xs.map (.int k) := by
  cases fuel with
  | zero => simp [DataW.trod] at h
  | succ fuel =>
    have h0 : (if l.length = P.cellsOf t then ((List.range n).mapM fun i => DataW.trod enc P w base sp held fuel e ((l.drop (i * P.cellsOf e)).take (P.cellsOf e))).map fun xs => ((.agg (xs.map (·.1)) : DataW H), xs.flatMap (·.2)) else none) = some (.agg (xs.map fun x => .lit (.int k x)), p) := by
      simpa only [DataW.trod, hu] using h
    split at h0
    · rename_i hl
      rw [hc] at hl
      obtain ⟨ys, hm, hy⟩ := Option.map_eq_some_iff.1 h0
      obtain ⟨h1, h2⟩ := mapM_get _ _ _ hm
      rw [List.length_range] at h1
      have hx : ys.map (·.1) = xs.map fun x => .lit (.int k x) := by
        have := congrArg Prod.fst hy
        simpa using this
      have hxl : xs.length = n := by have := congrArg List.length hx; simpa [h1] using this.symm
      refine List.ext_getElem (by rw [List.length_map, hl, hxl]) fun i hi1 hi2 => ?_
      obtain ⟨y, hy1, hy2⟩ := h2 i (by rw [List.length_range]; omega)
      rw [List.getElem_range, hce, Nat.mul_one, show (l.drop i).take 1 = [l[i]] by rw [List.drop_eq_getElem_cons hi1]; rfl] at hy2
      obtain ⟨m, e1, rfl⟩ := int_of_trod he hy2
      rw [e1, List.getElem_map]
      have e2 : (ys.map (·.1))[i]? = some (.lit (.int k m)) := by rw [List.getElem?_map, hy1]; rfl
      rw [hx, List.getElem?_map, List.getElem?_eq_getElem (by omega : i < xs.length), Option.map_some] at e2
      have e3 := Option.some.inj e2
      simp only [DataW.lit.injEq, Lit.int.injEq, true_and] at e3
      rw [e3]
    · cases h0

theorem Tryz.et : Tryz.prog.globalNamed "errors.errorType" = some 0 := by kernel_rfl
theorem Tryz.ds : Tryz.prog.globalNamed "chartroom/digest.start" = some 1 := by kernel_rfl
theorem Tryz.dn : Tryz.prog.globalNamed "chartroom/digest.numbers" = some 2 := by kernel_rfl
theorem Tryz.dst : (Tryz.prog.globals[1]?).map (·.type) = some 184 := by kernel_rfl
theorem Tryz.dnt : (Tryz.prog.globals[2]?).map (·.type) = some 221 := by kernel_rfl
theorem Tryz.cells_tab : Tryz.prog.cellsOf 184 = 8 ∧ Tryz.prog.cellsOf 221 = 64 ∧ Tryz.prog.cellsOf 183 = 1 := ⟨by kernel_rfl, by kernel_rfl, by kernel_rfl⟩
theorem Tryz.under_tab : Tryz.prog.underlying 184 = some (.array 8 183) ∧ Tryz.prog.underlying 221 = some (.array 64 183) ∧ Tryz.prog.underlying 183 = some (.int .u32) := ⟨by kernel_rfl, by kernel_rfl, by kernel_rfl⟩
theorem start_data : (Rows.laid_chartroom_digest_start : DataW Unit) = .agg (SS.map fun x => .lit (.int .u32 x)) := rfl
theorem numbers_data : (Rows.laid_chartroom_digest_numbers : DataW Unit) = .agg (KK.map fun x => .lit (.int .u32 x)) := rfl
/-- What the tables' condition gives a walk. -/
theorem laid_of_met {W : World} (h : laidMet Tryz.prog [("chartroom/digest.start", Rows.laid_chartroom_digest_start), ("chartroom/digest.numbers", Rows.laid_chartroom_digest_numbers)] W) : Laid W := by
  obtain ⟨ps, ⟨g, t, cs, fuel, p, q, hg, ht, hvar, hd, ⟨g2, t2, cs2, fuel2, p2, q2, hg2, ht2, hvar2, hd2, _, _⟩, _⟩, _⟩ := h
  obtain rfl := Option.some.inj (Tryz.ds.symm.trans hg)
  obtain rfl := Option.some.inj (Tryz.dst.symm.trans ht)
  obtain rfl := Option.some.inj (Tryz.dn.symm.trans hg2)
  obtain rfl := Option.some.inj (Tryz.dnt.symm.trans ht2)
  rw [start_data] at hd
  rw [numbers_data] at hd2
  have e1 := arr_ints Tryz.under_tab.1 Tryz.under_tab.2.2 Tryz.cells_tab.1 Tryz.cells_tab.2.2 hd
  have e2 := arr_ints Tryz.under_tab.2.1 Tryz.under_tab.2.2 Tryz.cells_tab.2.1 Tryz.cells_tab.2.2 hd2
  refine ⟨fun i hi => ?_, fun i hi => ?_⟩
  · have h1 := World.var?_cell Tryz.dn hvar2 i
    rw [h1]
    have h2 : cs2[i]? = cs2.toList[i]? := by simp
    rw [h2, e2, List.getElem?_map, List.getElem?_eq_getElem (show i < KK.length by show i < 64; exact hi)]
    simp [List.getD, show i < KK.length by show i < 64; exact hi]
  · have h1 := World.var?_cell Tryz.ds hvar i
    rw [h1]
    have h2 : cs[i]? = cs.toList[i]? := by simp
    rw [h2, e1, List.getElem?_map, List.getElem?_eq_getElem (show i < SS.length by show i < 8; exact hi)]
    simp [List.getD, show i < SS.length by show i < 8; exact hi]
theorem Tryz.rt : (Tryz.prog.cutTypes.find? (·.1 == "internal/reflectlite.rtype")).map (·.2) = some 200 := by kernel_rfl
theorem Tryz.oneRow : ((List.range 288).filter fun t => Tryz.prog.rowNamed t [101, 114, 114, 111, 114]) = [100] := by kernel_rfl
theorem Tryz.size : Tryz.prog.types.size = 288 := by kernel_rfl
/-- What the whole condition gives a walk. -/
theorem facts_of_laid {W : World} (h : laidMetH Tryz.prog Rows.enrollOthersRow.laid W) : Laid W ∧ EType W := by
  have h' : laidMet Tryz.prog [("chartroom/digest.start", Rows.laid_chartroom_digest_start), ("chartroom/digest.numbers", Rows.laid_chartroom_digest_numbers)] W ∧ handlesMet Tryz.prog [("errors.errorType", Rows.laid_errors_errorType)] W := h
  refine ⟨laid_of_met h'.1, ?_⟩
  obtain ⟨name, u, ty, e1, e2, e3, e4, e5⟩ := h'.2 _ (List.mem_singleton.2 rfl)
  have en : name = [101, 114, 114, 111, 114] := (Option.some.inj e1).symm
  subst en
  obtain rfl := Option.some.inj (Tryz.rt.symm.trans e2)
  have hm : ty ∈ (List.range 288).filter fun t => Tryz.prog.rowNamed t [101, 114, 114, 111, 114] := List.mem_filter.2 ⟨List.mem_range.2 (by rw [← Tryz.size]; exact e3), e4⟩
  rw [Tryz.oneRow] at hm
  obtain rfl := List.mem_singleton.1 hm
  have hh : typeHandle Tryz.prog 100 = .pointer (some ⟨5, 100, none⟩) := by kernel_rfl
  rw [hh] at e5
  have := World.var?_cell Tryz.et e5 0
  simpa [EType] using this
end Go.Proofs.YtjbojoeafdkkeaaGreatDoor

namespace Go.Proofs.YtjbojoeafdkkeaaGreatDoor
open Go Go.RowKit Go.Lib Go.WideShapes

section
variable {H : Type} {enc : TypeId × Value → H} {P : Program} {w : World} {base : Nat} {sp : Nat → Bool} {held : Bool}
theorem int_of_trod2 {fuel : Nat} {t : TypeId} {k : IntKind} {c : Value} {y : DataW H × List MemPlace}
    (ht : P.underlying t = some (.int k)) (h : DataW.trod enc P w base sp held fuel t [c] = some y) : ∃ n, c = .int k n ∧ (Lit.int k n).wf = true := by
  cases fuel with
  | zero => simp [DataW.trod] at h
  | succ fuel =>
    cases c <;> simp [DataW.trod, ht] at h
    rename_i k' n
    obtain ⟨⟨rfl, hw⟩, rfl⟩ := h
    exact ⟨n, rfl, hw⟩
theorem bool_of_trod {fuel : Nat} {t : TypeId} {c : Value} {y : DataW H × List MemPlace}
    (ht : P.underlying t = some .bool) (h : DataW.trod enc P w base sp held fuel t [c] = some y) : ∃ b, c = .bool b := by
  cases fuel with
  | zero => simp [DataW.trod] at h
  | succ fuel =>
    cases c <;> simp [DataW.trod, ht] at h
    rename_i b
    exact ⟨b, rfl⟩
theorem fields_of_trod {fuel : Nat} {t : TypeId} {fs : Array Field} {cs : List Value} {y : DataW H × List MemPlace} (hu : P.underlying t = some (.struct fs)) (h : DataW.trod enc P w base sp held fuel t cs = some y) :
    ∃ n, ∀ i, (hi : i < fs.toList.length) → ∃ z, DataW.trod enc P w base sp held n fs.toList[i].type ((cs.drop fs.toList[i].offset).take (P.cellsOf fs.toList[i].type)) = some z := by
  cases fuel with
  | zero => simp [DataW.trod] at h
  | succ fuel =>
    have h0 : (if cs.length = P.cellsOf t then (fs.toList.mapM fun f => DataW.trod enc P w base sp held fuel f.type ((cs.drop f.offset).take (P.cellsOf f.type))).map fun xs => ((.agg (xs.map (·.1)) : DataW H), xs.flatMap (·.2)) else none) = some y := by
      simpa only [DataW.trod, hu] using h
    split at h0
    · obtain ⟨ys, hm, _⟩ := Option.map_eq_some_iff.1 h0
      obtain ⟨_, h2⟩ := mapM_get _ _ _ hm
      refine ⟨fuel, fun i hi => ?_⟩
      obtain ⟨z, _, hz⟩ := h2 i hi
      exact ⟨z, hz⟩
    · cases h0
theorem row_of_trod {fuel n : Nat} {t e : TypeId} {k : IntKind} {l : List Value} {y : DataW H × List MemPlace}
    (hu : P.underlying t = some (.array n e)) (he : P.underlying e = some (.int k)) (hc : P.cellsOf t = n) (hce : P.cellsOf e = 1)
    (h : DataW.trod enc P w base sp held fuel t l = some y) : ∃ xs : List Int, l = xs.map (.int k) ∧ xs.length = n := by
  cases fuel with
  | zero => simp [DataW.trod] at h
  | succ fuel =>
    have h0 : (if l.length = P.cellsOf t then ((List.range n).mapM fun i => DataW.trod enc P w base sp held fuel e ((l.drop (i * P.cellsOf e)).take (P.cellsOf e))).map fun xs => ((.agg (xs.map (·.1)) : DataW H), xs.flatMap (·.2)) else none) = some y := by
      simpa only [DataW.trod, hu] using h
    split at h0
    · rename_i hl
      rw [hc] at hl
      obtain ⟨ys, hm, _⟩ := Option.map_eq_some_iff.1 h0
      obtain ⟨h1, h2⟩ := mapM_get _ _ _ hm
      refine ⟨l.map (fun v => match v with | .int _ m => m | _ => 0), ?_, by rw [List.length_map, hl]⟩
      refine List.ext_getElem (by simp) fun i hi1 hi2 => ?_
      obtain ⟨z, _, hz⟩ := h2 i (by rw [List.length_range]; omega)
      rw [List.getElem_range, hce, Nat.mul_one, show (l.drop i).take 1 = [l[i]] by rw [List.drop_eq_getElem_cons hi1]; rfl] at hz
      obtain ⟨m, e1, _⟩ := int_of_trod2 he hz
      rw [List.getElem_map, List.getElem_map, e1]
    · cases h0
end

theorem Tryz.cells_args : Tryz.prog.cellsOf 25 = 6 ∧ Tryz.prog.cellsOf 23 = 3 ∧ Tryz.prog.cellsOf 3 = 1 ∧ Tryz.prog.cellsOf 4 = 1 ∧ Tryz.prog.cellsOf 37 = 36 ∧ Tryz.prog.cellsOf 35 = 32 ∧ Tryz.prog.cellsOf 5 = 1 := ⟨by kernel_rfl, by kernel_rfl, by kernel_rfl, by kernel_rfl, by kernel_rfl, by kernel_rfl, by kernel_rfl⟩
theorem Tryz.under_bool : Tryz.prog.underlying 4 = some .bool := by kernel_rfl
set_option maxRecDepth 100000 in
theorem open_sess {H : Type} {enc : TypeId × Value → H} {w : World} {base : Nat} {sp : Nat → Bool} {held : Bool} {r : Reach} {b0 : Nat} {v : Value} {d : DataW H} {ps : List MemPlace}
    (hval : Value.okWide Tryz.prog w r b0 25 v) (h : DataW.Trod enc Tryz.prog w base sp held 25 v d ps) : ∃ ro code x p t b, v = sessV ro code x p t b := by
  obtain ⟨cs, rfl, hsz⟩ := okWide_struct Tryz.underlying25 hval
  rw [Tryz.cells_args.1] at hsz
  obtain ⟨l⟩ := cs
  obtain ⟨c0, c1, c2, c3, c4, c5, rfl⟩ : ∃ c0 c1 c2 c3 c4 c5, l = [c0, c1, c2, c3, c4, c5] := by
    match l, hsz with
    | [a, b, c, d, e, f], _ => exact ⟨a, b, c, d, e, f, rfl⟩
  obtain ⟨fuel, hf⟩ := h
  obtain ⟨n, hn⟩ := fields_of_trod Tryz.underlying25 hf
  obtain ⟨z0, h0⟩ := hn 0 (by decide)
  obtain ⟨z1, h1⟩ := hn 1 (by decide)
  obtain ⟨z2, h2⟩ := hn 2 (by decide)
  obtain ⟨z3, h3⟩ := hn 3 (by decide)
  have g1 : DataW.trod enc Tryz.prog w base sp held n 3 [c3] = some z1 := h1
  have g2 : DataW.trod enc Tryz.prog w base sp held n 3 [c4] = some z2 := h2
  have g3 : DataW.trod enc Tryz.prog w base sp held n 4 [c5] = some z3 := h3
  have g0 : DataW.trod enc Tryz.prog w base sp held n 23 [c0, c1, c2] = some z0 := h0
  obtain ⟨m, hm⟩ := fields_of_trod Tryz.underlying23 g0
  obtain ⟨y0, k0⟩ := hm 0 (by decide)
  obtain ⟨y1, k1⟩ := hm 1 (by decide)
  obtain ⟨y2, k2⟩ := hm 2 (by decide)
  have f0 : DataW.trod enc Tryz.prog w base sp held m 3 [c0] = some y0 := k0
  have f1 : DataW.trod enc Tryz.prog w base sp held m 3 [c1] = some y1 := k1
  have f2 : DataW.trod enc Tryz.prog w base sp held m 3 [c2] = some y2 := k2
  obtain ⟨a0, rfl, _⟩ := int_of_trod2 Tryz.under_int f0
  obtain ⟨a1, rfl, _⟩ := int_of_trod2 Tryz.under_int f1
  obtain ⟨a2, rfl, _⟩ := int_of_trod2 Tryz.under_int f2
  obtain ⟨a3, rfl, _⟩ := int_of_trod2 Tryz.under_int g1
  obtain ⟨a4, rfl, _⟩ := int_of_trod2 Tryz.under_int g2
  obtain ⟨a5, rfl⟩ := bool_of_trod Tryz.under_bool g3
  exact ⟨a0, a1, a2, a3, a4, a5, rfl⟩

theorem wf_i64 {n : Int} (h : (Lit.int .i64 n).wf = true) : i64R n := by
  have e1 : IntKind.i64.min = -9223372036854775808 := by decide
  have e2 : IntKind.i64.max = 9223372036854775807 := by decide
  have := h
  simp [Lit.wf, e1, e2] at this
  unfold i64R
  omega
set_option maxRecDepth 100000 in
theorem open_req {H : Type} {enc : TypeId × Value → H} {w : World} {base : Nat} {sp : Nat → Bool} {held : Bool} {r : Reach} {b0 : Nat} {v : Value} {d : DataW H} {ps : List MemPlace}
    (hval : Value.okWide Tryz.prog w r b0 37 v) (h : DataW.Trod enc Tryz.prog w base sp held 37 v d ps) : ∃ pt dv_ vf lf pk, v = reqV pt dv_ vf lf pk ∧ pk.length = 32 ∧ i64R pt ∧ i64R dv_ ∧ i64R vf ∧ i64R lf := by
  obtain ⟨cs, rfl, hsz⟩ := okWide_struct Tryz.underlying37 hval
  rw [Tryz.cells_args.2.2.2.2.1] at hsz
  obtain ⟨l⟩ := cs
  obtain ⟨c0, c1, c2, c3, m, rfl, hml⟩ : ∃ c0 c1 c2 c3 m, l = c0 :: c1 :: c2 :: c3 :: m ∧ m.length = 32 := by
    match l, hsz with
    | a :: b :: c :: d :: m, hs => exact ⟨a, b, c, d, m, rfl, by simpa using hs⟩
  obtain ⟨fuel, hf⟩ := h
  obtain ⟨n, hn⟩ := fields_of_trod Tryz.underlying37 hf
  obtain ⟨z0, h0⟩ := hn 0 (by decide)
  obtain ⟨z1, h1⟩ := hn 1 (by decide)
  obtain ⟨z2, h2⟩ := hn 2 (by decide)
  obtain ⟨z3, h3⟩ := hn 3 (by decide)
  obtain ⟨z4, h4⟩ := hn 4 (by decide)
  have g0 : DataW.trod enc Tryz.prog w base sp held n 3 [c0] = some z0 := h0
  have g1 : DataW.trod enc Tryz.prog w base sp held n 3 [c1] = some z1 := h1
  have g2 : DataW.trod enc Tryz.prog w base sp held n 3 [c2] = some z2 := h2
  have g3 : DataW.trod enc Tryz.prog w base sp held n 3 [c3] = some z3 := h3
  have g4 : DataW.trod enc Tryz.prog w base sp held n 35 (m.take 32) = some z4 := h4
  rw [List.take_of_length_le (by omega)] at g4
  obtain ⟨a0, rfl, w0⟩ := int_of_trod2 Tryz.under_int g0
  obtain ⟨a1, rfl, w1⟩ := int_of_trod2 Tryz.under_int g1
  obtain ⟨a2, rfl, w2⟩ := int_of_trod2 Tryz.under_int g2
  obtain ⟨a3, rfl, w3⟩ := int_of_trod2 Tryz.under_int g3
  obtain ⟨xs, rfl, hxl⟩ := row_of_trod (k := .u8) Tryz.info_digest.1 (by kernel_rfl) Tryz.cells_args.2.2.2.2.2.1 Tryz.cells_args.2.2.2.2.2.2 g4
  exact ⟨a0, a1, a2, a3, xs, rfl, hxl, wf_i64 w0, wf_i64 w1, wf_i64 w2, wf_i64 w3⟩
end Go.Proofs.YtjbojoeafdkkeaaGreatDoor

namespace Go.Proofs.YtjbojoeafdkkeaaGreatDoor
open Go Go.RowKit Go.Lib

def withRow (cs : Array Value) : Obj → Obj
  | .cells _ t frozen => .cells cs t frozen
  | o => o
noncomputable def laidHeap (os : Os) : Array Obj :=
  ((((World.holding Tryz.prog os ⟨#[], #[], []⟩).heap.modify 0 (withRow #[.iface 200 (.agg #[.pointer (some ⟨5, 100, none⟩)])])).modify 1 (withRow (SS.map (Value.int .u32)).toArray)).modify 2 (withRow (KK.map (Value.int .u32)).toArray))
noncomputable def laidWorld (os : Os) : World := { World.holding Tryz.prog os ⟨#[], #[], []⟩ with heap := laidHeap os }
set_option maxRecDepth 100000 in
theorem laidWorld_met (os : Os) (args : Array Value) : laidMetH Tryz.prog Rows.enrollOthersRow.laid ((laidWorld os).forCall (fun _ _ => 0) ⟨#[], args, []⟩).memory :=
  laidMetH_of_parts (laidMet_of_run' 8 (by kernel_rfl) (by kernel_rfl)) (by kernel_rfl)
end Go.Proofs.YtjbojoeafdkkeaaGreatDoor
