/- errors.As at a target of type failure: a nil error; an error that is a failure. -/
import Derived.Test.YtjbojoeafdkkeaaGreatDoorJ10
import Derived.LaidEql
import Derived.Stop.Asserts
import Derived.RowKitTokens
set_option linter.unusedVariables false
set_option linter.unusedSimpArgs false
namespace Go.Proofs.YtjbojoeafdkkeaaGreatDoor
open Go Go.RowKit Go.Lib Go.Extern.Stop Go.Stop Go.Extern

theorem as_nil (t : Value) (w : World) :
    Calls Tryz.prog 59 #[.nilIface, t] w fun e w' => e = .returned (.bool false) ∧ w' = w := by
  go_enter Tryz.func59, Tryz.ntmps59
  go_wp2
  go_ret
  exact ⟨rfl, rfl⟩

theorem Tryz.valueOfP (t : Addr) (w : World) : (ReflectliteValue.unpack (.iface 101 (.pointer (some t)))).run Tryz.prog w
    = .ok (.agg #[.pointer (some ⟨5, 101, none⟩), .pointer (some ⟨w.heap.size, 0, none⟩), .int .u64 150]) (w.alloc (.cells #[.pointer (some t)] 101)) := by kernel_rfl
theorem Tryz.typeP (a : Addr) (w : World) : (ReflectliteValue.methodAny (ReflectliteValue.valueError "reflectlite.Value.Type" 0) (fun t _ _ _ => ReflectliteType.toType t) #[.agg #[.pointer (some ⟨5, 101, none⟩), .pointer (some a), .int .u64 150]]).run Tryz.prog w
    = .ok (.iface 200 (.agg #[.pointer (some ⟨5, 101, none⟩)])) w := by kernel_rfl
theorem Tryz.methodKind (h : Value) (w : World) : (Go.method 388 200 (.agg #[h]) "Kind").run Tryz.prog w = .ok (228, h) w := by kernel_rfl
theorem Tryz.kindP (w : World) : ((ReflectliteType.abiMethod fun t => (fun a : Nat => Value.int IntKind.u8 (a : Int)) <$> Rtype.kind t) #[.pointer (some ⟨5, 101, none⟩)]).run Tryz.prog w = .ok (.int .u8 22) w := by kernel_rfl
theorem Tryz.kindF (w : World) : ((ReflectliteType.abiMethod fun t => (fun a : Nat => Value.int IntKind.u8 (a : Int)) <$> Rtype.kind t) #[.pointer (some ⟨5, 97, none⟩)]).run Tryz.prog w = .ok (.int .u8 25) w := by kernel_rfl
theorem rlm (z : Sem Value) (f : TypeId → Addr → Nat → Nat → Sem Value) (v : Value) :
    ReflectliteValue.method z f #[v] = (do match ← ReflectliteValue.parts v with | none => z | some (t, a, fl) => f t a fl (fl % 32)) := rfl
theorem Tryz.partsP (a : Addr) (w : World) : (ReflectliteValue.parts (.agg #[.pointer (some ⟨5, 101, none⟩), .pointer (some a), .int .u64 150])).run Tryz.prog w = .ok (some (101, a, 150)) w := by kernel_rfl
theorem Tryz.underP : Tryz.prog.underlying 101 = some (.pointer 97) := by kernel_rfl
theorem Tryz.isNilP (a p : Addr) (W : World) (ha : W.cell? a = some (.pointer (some p))) :
    (ReflectliteValue.method (ReflectliteValue.valueError "reflectlite.Value.IsNil" 0) ReflectliteValue.isNil #[.agg #[.pointer (some ⟨5, 101, none⟩), .pointer (some a), .int .u64 150]]).run Tryz.prog W = .ok (.bool false) W := by
  rw [rlm]
  simp only [Sem.run_bind, Tryz.partsP, Result.andThen]
  simp [ReflectliteValue.isNil, loadVar, isAgg, underlying, Tryz.underP, ha, Result.andThen]
theorem Tryz.methodElem (h : Value) (w : World) : (Go.method 388 200 (.agg #[h]) "Elem").run Tryz.prog w = .ok (238, .agg #[h]) w := by kernel_rfl
theorem Tryz.methodImplements (h : Value) (w : World) : (Go.method 388 200 (.agg #[h]) "Implements").run Tryz.prog w = .ok (239, .agg #[h]) w := by kernel_rfl
theorem Tryz.methodAssignableTo (h : Value) (w : World) : (Go.method 388 200 (.agg #[h]) "AssignableTo").run Tryz.prog w = .ok (236, .agg #[h]) w := by kernel_rfl
theorem Tryz.elemP (w : World) : (ReflectliteType.method ReflectliteType.elem #[.agg #[.pointer (some ⟨5, 101, none⟩)]]).run Tryz.prog w = .ok (.iface 200 (.agg #[.pointer (some ⟨5, 97, none⟩)])) w := by kernel_rfl
theorem Tryz.implementsF (w : World) : (ReflectliteType.relation "Implements" ReflectliteType.implements_ #[.agg #[.pointer (some ⟨5, 97, none⟩)], .iface 200 (.agg #[.pointer (some ⟨5, 100, none⟩)])]).run Tryz.prog w = .ok (.bool true) w := by kernel_rfl
theorem Tryz.typeOfF (v : Value) (w : World) : (ReflectliteType.typeOf #[.iface 97 v]).run Tryz.prog w = .ok (.iface 200 (.agg #[.pointer (some ⟨5, 97, none⟩)])) w := by kernel_rfl
theorem Tryz.assignableF (w : World) : (ReflectliteType.relation "AssignableTo" ReflectliteType.assignableTo #[.agg #[.pointer (some ⟨5, 97, none⟩)], .iface 200 (.agg #[.pointer (some ⟨5, 97, none⟩)])]).run Tryz.prog w = .ok (.bool true) w := by kernel_rfl
theorem Tryz.valueOfF (n : Int) (b : Bool) (w : World) : (ReflectliteValue.unpack (.iface 97 (.agg #[.int .i64 n, .bool b]))).run Tryz.prog w
    = .ok (.agg #[.pointer (some ⟨5, 97, none⟩), .pointer (some ⟨w.heap.size, 0, none⟩), .int .u64 153]) (w.alloc (.cells #[.int .i64 n, .bool b] 97)) := by kernel_rfl
theorem Tryz.elemOfP (w : World) : (Rtype.elem? 101).run Tryz.prog w = .ok (some 97) w := by kernel_rfl
theorem Tryz.mkF (p : Addr) (w : World) : (ReflectliteValue.mk 97 p ReflectliteValue.flagAddr).run Tryz.prog w = .ok (.agg #[.pointer (some ⟨5, 97, none⟩), .pointer (some p), .int .u64 409]) w := by kernel_rfl
theorem Tryz.elemVP (a p : Addr) (W : World) (ha : W.cell? a = some (.pointer (some p))) :
    (ReflectliteValue.method (ReflectliteValue.valueError "reflectlite.Value.Elem" 0) ReflectliteValue.elem #[.agg #[.pointer (some ⟨5, 101, none⟩), .pointer (some a), .int .u64 150]]).run Tryz.prog W
      = .ok (.agg #[.pointer (some ⟨5, 97, none⟩), .pointer (some p), .int .u64 409]) W := by
  rw [rlm]
  simp only [Sem.run_bind, Tryz.partsP, Result.andThen]
  simp [ReflectliteValue.elem, loadVar, isAgg, underlying, Tryz.underP, ha, Result.andThen, Tryz.elemOfP, Tryz.mkF]
theorem rls (v x : Value) : ReflectliteValue.set #[v, x] = (do
    let (some (dst, a, fl), some (src, b, _)) := (← ReflectliteValue.parts v, ← ReflectliteValue.parts x)
      | unsupported (.noEntry "extern/(internal/reflectlite.Value).Set.zeroValue")
    if fl / ReflectliteValue.flagAddr % 2 == 0 then unsupported (.noEntry "extern/(internal/reflectlite.Value).Set.unaddressable")
    let val ← loadVar src b
    if ← Rtype.directlyAssignable dst src then storeVar dst a val
    else if ← Rtype.implements dst src then
      if (← Rtype.kind src) == 20 then
        match val with
        | .nilIface => unsupported (.noEntry "extern/reflectlite: a nil value of one interface type handed on as a value of another")
        | _ => storeVar dst a val
      else storeVar dst a (.iface src val)
    else panicString ("reflectlite.Set: value of type " ++ (← Rtype.spelt src) ++ " is not assignable to type " ++ (← Rtype.spelt dst))
    pure (.tuple #[])) := rfl
theorem Tryz.partsFa (a : Addr) (w : World) : (ReflectliteValue.parts (.agg #[.pointer (some ⟨5, 97, none⟩), .pointer (some a), .int .u64 409])).run Tryz.prog w = .ok (some (97, a, 409)) w := by kernel_rfl
theorem Tryz.partsF (a : Addr) (w : World) : (ReflectliteValue.parts (.agg #[.pointer (some ⟨5, 97, none⟩), .pointer (some a), .int .u64 153])).run Tryz.prog w = .ok (some (97, a, 153)) w := by kernel_rfl
theorem Tryz.directF (w : World) : (Rtype.directlyAssignable 97 97).run Tryz.prog w = .ok true w := by kernel_rfl
theorem Tryz.failure_facts : (Tryz.prog.underlying 97).any TypeDesc.isRow = true ∧ (Tryz.prog.info? 97).map (·.size) = some 2 := ⟨by kernel_rfl, by kernel_rfl⟩
theorem failure_row : ∃ d, Tryz.prog.underlying 97 = some d ∧ d.isRow = true := by
  have hd := Tryz.failure_facts.1
  cases hq : Tryz.prog.underlying 97 with
  | none => rw [hq] at hd; cases hd
  | some d => rw [hq] at hd; exact ⟨d, rfl, hd⟩
/-- The failure at T gets what the value's own variable B holds. -/
theorem setF (T B : Nat) (n : Int) (b : Bool) (o0 o1 : Value) (W : World) (hB : W.rangeAt B 0 [.int .i64 n, .bool b]) (h0 : W.cell? ⟨T, 0, none⟩ = some o0) (h1 : W.cell? ⟨T, 1, none⟩ = some o1) (f0 : W.frozen? ⟨T, 0, none⟩ = false) (f1 : W.frozen? ⟨T, 1, none⟩ = false) :
    (ReflectliteValue.set #[.agg #[.pointer (some ⟨5, 97, none⟩), .pointer (some ⟨T, 0, none⟩), .int .u64 409], .agg #[.pointer (some ⟨5, 97, none⟩), .pointer (some ⟨B, 0, none⟩), .int .u64 153]]).run Tryz.prog W
      = .ok (.tuple #[]) (W.setCells T 0 [.int .i64 n, .bool b]) := by
  obtain ⟨d, hd1, hd2⟩ := failure_row
  have hl := run_loadVar_mid (P := Tryz.prog) W B 0 97 [.int .i64 n, .bool b] d hB hd1 hd2 Tryz.failure_facts.2
  have ht : W.there T 0 (#[.int .i64 n, .bool b] : Array Value).size := fun j hj => by
    have : j = 0 ∨ j = 1 := by simp at hj; omega
    rcases this with rfl | rfl
    · rw [Nat.add_zero, h0]; exact ⟨rfl, f0⟩
    · rw [Nat.zero_add, h1]; exact ⟨rfl, f1⟩
  have hs := run_storeVar_mid (P := Tryz.prog) W T 0 97 #[.int .i64 n, .bool b] ht Tryz.failure_facts.2 (all_oneCell_toArray (by intro v hv; simp only [List.mem_cons, List.not_mem_nil, or_false] at hv; rcases hv with rfl | rfl <;> rfl))
  rw [rls]
  simp only [Sem.run_bind, Tryz.partsFa, Tryz.partsF, Result.andThen]
  simp [ReflectliteValue.flagAddr, hl, Result.andThen, Tryz.directF, hs]

/-- The variable errors.errorType holds the handle of the type error. -/
def EType (w : World) : Prop := w.cell? ⟨0, 0, none⟩ = some (.iface 200 (.agg #[.pointer (some ⟨5, 100, none⟩)]))
theorem EType.below {w w' : World} {N : Nat} (h : EType w) (hb : Below N w w') (hN : 0 < N) : EType w' := (World.cell?_of_block (w := w) (a := ⟨0, 0, none⟩) (hb.block 0 hN)).trans h
def w1P (w : World) (T : Nat) : World := w.alloc (.cells #[.pointer (some ⟨T, 0, none⟩)] 101)
def w2P (w : World) (T : Nat) : World := (w1P w T).alloc (.cells #[.pointer (some ⟨5, 101, none⟩), .pointer (some ⟨w.heap.size, 0, none⟩), .int .u64 150] 161)
def w3P (w : World) (T : Nat) : World := (w2P w T).alloc (.cells #[.pointer (some ⟨5, 101, none⟩), .pointer (some ⟨w.heap.size, 0, none⟩), .int .u64 150] 161)
def w4P (w : World) (T : Nat) (n : Int) (b : Bool) : World := (w3P w T).alloc (.cells #[.int .i64 n, .bool b] 97)

set_option maxHeartbeats 4000000 in
theorem as_hit (T : Nat) (n : Int) (b : Bool) (o0 o1 : Value) (w : World) (hg : EType w) (h0 : w.cell? ⟨T, 0, none⟩ = some o0) (h1 : w.cell? ⟨T, 1, none⟩ = some o1) (f0 : w.frozen? ⟨T, 0, none⟩ = false) (f1 : w.frozen? ⟨T, 1, none⟩ = false) :
    Calls Tryz.prog 59 #[.iface 97 (.agg #[.int .i64 n, .bool b]), .iface 101 (.pointer (some ⟨T, 0, none⟩))] w fun ev w' => ev = .returned (.bool true) ∧ w' = (w4P w T n b).setCells T 0 [.int .i64 n, .bool b] := by
  have q1 := @run_callFunc_extern Tryz.prog 111 _ (fun args => ReflectliteValue.unpack (args.getD 0 (.tuple #[]))) Tryz.func111 (by kernel_rfl) (by kernel_rfl) (by kernel_rfl) (by kernel_rfl)
  have q2 := @run_callFunc_extern Tryz.prog 112 _ (ReflectliteValue.methodAny (ReflectliteValue.valueError "reflectlite.Value.Type" 0) (fun t _ _ _ => ReflectliteType.toType t)) Tryz.func112 (by kernel_rfl) (by kernel_rfl) (by kernel_rfl) (by kernel_rfl)
  have q3 := @run_callFunc_extern Tryz.prog 113 _ (ReflectliteValue.method (ReflectliteValue.valueError "reflectlite.Value.IsNil" 0) ReflectliteValue.isNil) Tryz.func113 (by kernel_rfl) (by kernel_rfl) (by kernel_rfl) (by kernel_rfl)
  have q4 := @run_callFunc_extern Tryz.prog 228 _ (ReflectliteType.abiMethod fun t => do pure (.int .u8 (← Rtype.kind t))) Tryz.func228 (by kernel_rfl) (by kernel_rfl) (by kernel_rfl) (by kernel_rfl)
  have q5 := @run_callFunc_extern Tryz.prog 238 _ (ReflectliteType.method ReflectliteType.elem) Tryz.func238 (by kernel_rfl) (by kernel_rfl) (by kernel_rfl) (by kernel_rfl)
  have q6 := @run_callFunc_extern Tryz.prog 239 _ (ReflectliteType.relation "Implements" ReflectliteType.implements_) Tryz.func239 (by kernel_rfl) (by kernel_rfl) (by kernel_rfl) (by kernel_rfl)
  have q7 := @run_callFunc_extern Tryz.prog 159 _ ReflectliteType.typeOf Tryz.func159 (by kernel_rfl) (by kernel_rfl) (by kernel_rfl) (by kernel_rfl)
  have q8 := @run_callFunc_extern Tryz.prog 236 _ (ReflectliteType.relation "AssignableTo" ReflectliteType.assignableTo) Tryz.func236 (by kernel_rfl) (by kernel_rfl) (by kernel_rfl) (by kernel_rfl)
  have q9 := @run_callFunc_extern Tryz.prog 160 _ (ReflectliteValue.method (ReflectliteValue.valueError "reflectlite.Value.Elem" 0) ReflectliteValue.elem) Tryz.func160 (by kernel_rfl) (by kernel_rfl) (by kernel_rfl) (by kernel_rfl)
  have q10 := @run_callFunc_extern Tryz.prog 161 _ ReflectliteValue.set Tryz.func161 (by kernel_rfl) (by kernel_rfl) (by kernel_rfl) (by kernel_rfl)
  have tO := Tryz.typeOfF
  have mA := Tryz.methodAssignableTo
  have aF := Tryz.assignableF
  have vF := Tryz.valueOfF
  have vP := Tryz.valueOfP
  have tP := Tryz.typeP
  have mK := Tryz.methodKind
  have mE := Tryz.methodElem
  have mI := Tryz.methodImplements
  have kP := Tryz.kindP
  have kF := Tryz.kindF
  have eP := Tryz.elemP
  have iF := Tryz.implementsF
  have n8 := Tryz.isNilP ⟨w.heap.size, 0, none⟩ ⟨T, 0, none⟩ (w2P w T) (by simp [w2P, w1P])
  have hlt : 0 < w.heap.size := cell_lt hg
  have htl : T < w.heap.size := cell_lt h0
  have hg2 : (w2P w T).cell? ⟨0, 0, none⟩ = some (.iface 200 (.agg #[.pointer (some ⟨5, 100, none⟩)])) := by
    unfold w2P w1P
    rw [World.cell?_alloc_lt _ _ ⟨0, 0, none⟩ (by simp), World.cell?_alloc_lt _ _ ⟨0, 0, none⟩ hlt]; exact hg
  have el := Tryz.elemVP ⟨w.heap.size, 0, none⟩ ⟨T, 0, none⟩ (w3P w T) (by unfold w3P w2P w1P; rw [World.cell?_alloc_lt _ _ ⟨w.heap.size, 0, none⟩ (by simp; omega)]; simp)
  have kc : ∀ i, (w4P w T n b).cell? ⟨T, i, none⟩ = w.cell? ⟨T, i, none⟩ := fun i => by
    unfold w4P w3P w2P w1P
    rw [World.cell?_alloc_lt _ _ ⟨T, i, none⟩ (by simp; omega), World.cell?_alloc_lt _ _ ⟨T, i, none⟩ (by simp; omega), World.cell?_alloc_lt _ _ ⟨T, i, none⟩ (by simp; omega), World.cell?_alloc_lt _ _ ⟨T, i, none⟩ htl]
  have kf : ∀ i, (w4P w T n b).frozen? ⟨T, i, none⟩ = w.frozen? ⟨T, i, none⟩ := fun i => by
    unfold w4P w3P w2P w1P
    rw [World.frozen?_alloc_old _ _ ⟨T, i, none⟩ (by simp; omega), World.frozen?_alloc_old _ _ ⟨T, i, none⟩ (by simp; omega), World.frozen?_alloc_old _ _ ⟨T, i, none⟩ (by simp; omega), World.frozen?_alloc_old _ _ ⟨T, i, none⟩ (Nat.ne_of_lt htl)]
  have hz : (w3P w T).heap.size = w.heap.size + 1 + 1 + 1 := by simp [w3P, w2P, w1P]
  have st := setF T (w.heap.size + 1 + 1 + 1) n b o0 o1 (w4P w T n b) (fun j v hj => by
      have : j = 0 ∨ j = 1 := by
        have := (List.getElem?_eq_some_iff.1 hj).1
        simp at this; omega
      rcases this with rfl | rfl
      · cases hj; rw [Nat.zero_add]; unfold w4P; rw [← hz]; exact cells_new _ _ _ 0
      · cases hj; rw [Nat.zero_add]; unfold w4P; rw [← hz]; exact cells_new _ _ _ 1) ((kc 0).trans h0) ((kc 1).trans h1) ((kf 0).trans f0) ((kf 1).trans f1)
  clear kc kf hz h0 h1 f0 f1 hg
  have e4 : ∀ X, X = w4P w T n b → X = ((((w.alloc (.cells #[.pointer (some ⟨T, 0, none⟩)] 101)).alloc (.cells #[.pointer (some ⟨5, 101, none⟩), .pointer (some ⟨w.heap.size, 0, none⟩), .int .u64 150] 161)).alloc (.cells #[.pointer (some ⟨5, 101, none⟩), .pointer (some ⟨w.heap.size, 0, none⟩), .int .u64 150] 161)).alloc (.cells #[.int .i64 n, .bool b] 97)) := fun X h => h
  clear e4
  generalize hW : (w4P w T n b).setCells T 0 [.int .i64 n, .bool b] = Wend at *
  unfold w4P w3P w2P w1P at *
  clear hW
  go_enter Tryz.func59, Tryz.ntmps59
  go_wp2
  refine wp_loop_rounds 1 ?_
  rw [rounds_succ]
  go_wp2
  go_ret
  exact ⟨rfl, rfl⟩
end Go.Proofs.YtjbojoeafdkkeaaGreatDoor
