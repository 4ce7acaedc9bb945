/- A request: how it is built, how it is compared. -/
import Derived.Test.YtjbojoeafdkkeaaGreatDoorJ16
import Derived.Test.YtjbojoeafdkkeaaGreatDoorJ25
set_option linter.unusedVariables false
set_option linter.unusedSimpArgs false
namespace Go.Proofs.YtjbojoeafdkkeaaGreatDoor
open Go Go.RowKit Go.Lib

theorem split32 (k : List Int) (hk : k.length = 32) : ∃ x0 x1 x2 x3 x4 x5 x6 x7 x8 x9 x10 x11 x12 x13 x14 x15 x16 x17 x18 x19 x20 x21 x22 x23 x24 x25 x26 x27 x28 x29 x30 x31, k = [x0, x1, x2, x3, x4, x5, x6, x7, x8, x9, x10, x11, x12, x13, x14, x15, x16, x17, x18, x19, x20, x21, x22, x23, x24, x25, x26, x27, x28, x29, x30, x31] := by
  rcases k with _ | ⟨x0, k⟩
  · exact absurd hk (by simp)
  rcases k with _ | ⟨x1, k⟩
  · exact absurd hk (by simp)
  rcases k with _ | ⟨x2, k⟩
  · exact absurd hk (by simp)
  rcases k with _ | ⟨x3, k⟩
  · exact absurd hk (by simp)
  rcases k with _ | ⟨x4, k⟩
  · exact absurd hk (by simp)
  rcases k with _ | ⟨x5, k⟩
  · exact absurd hk (by simp)
  rcases k with _ | ⟨x6, k⟩
  · exact absurd hk (by simp)
  rcases k with _ | ⟨x7, k⟩
  · exact absurd hk (by simp)
  rcases k with _ | ⟨x8, k⟩
  · exact absurd hk (by simp)
  rcases k with _ | ⟨x9, k⟩
  · exact absurd hk (by simp)
  rcases k with _ | ⟨x10, k⟩
  · exact absurd hk (by simp)
  rcases k with _ | ⟨x11, k⟩
  · exact absurd hk (by simp)
  rcases k with _ | ⟨x12, k⟩
  · exact absurd hk (by simp)
  rcases k with _ | ⟨x13, k⟩
  · exact absurd hk (by simp)
  rcases k with _ | ⟨x14, k⟩
  · exact absurd hk (by simp)
  rcases k with _ | ⟨x15, k⟩
  · exact absurd hk (by simp)
  rcases k with _ | ⟨x16, k⟩
  · exact absurd hk (by simp)
  rcases k with _ | ⟨x17, k⟩
  · exact absurd hk (by simp)
  rcases k with _ | ⟨x18, k⟩
  · exact absurd hk (by simp)
  rcases k with _ | ⟨x19, k⟩
  · exact absurd hk (by simp)
  rcases k with _ | ⟨x20, k⟩
  · exact absurd hk (by simp)
  rcases k with _ | ⟨x21, k⟩
  · exact absurd hk (by simp)
  rcases k with _ | ⟨x22, k⟩
  · exact absurd hk (by simp)
  rcases k with _ | ⟨x23, k⟩
  · exact absurd hk (by simp)
  rcases k with _ | ⟨x24, k⟩
  · exact absurd hk (by simp)
  rcases k with _ | ⟨x25, k⟩
  · exact absurd hk (by simp)
  rcases k with _ | ⟨x26, k⟩
  · exact absurd hk (by simp)
  rcases k with _ | ⟨x27, k⟩
  · exact absurd hk (by simp)
  rcases k with _ | ⟨x28, k⟩
  · exact absurd hk (by simp)
  rcases k with _ | ⟨x29, k⟩
  · exact absurd hk (by simp)
  rcases k with _ | ⟨x30, k⟩
  · exact absurd hk (by simp)
  rcases k with _ | ⟨x31, k⟩
  · exact absurd hk (by simp)
  rcases k with _ | ⟨y, k⟩
  · exact ⟨x0, x1, x2, x3, x4, x5, x6, x7, x8, x9, x10, x11, x12, x13, x14, x15, x16, x17, x18, x19, x20, x21, x22, x23, x24, x25, x26, x27, x28, x29, x30, x31, rfl⟩
  · exact absurd hk (by simp)
set_option maxRecDepth 100000 in
theorem build_req (o d v l : Int) (k : List Int) (hk : k.length = 32) (w : World) : (Instr.build 37 #[(0, .int .i64 o), (1, .int .i64 d), (2, .int .i64 v), (3, .int .i64 l), (4, dv k)]).run Tryz.prog w = .ok (.agg (reqL o d v l k).toArray) w := by
  obtain ⟨x0, x1, x2, x3, x4, x5, x6, x7, x8, x9, x10, x11, x12, x13, x14, x15, x16, x17, x18, x19, x20, x21, x22, x23, x24, x25, x26, x27, x28, x29, x30, x31, rfl⟩ := split32 k hk
  exact run_build w 37 _ _ (by kernel_rfl)
set_option maxRecDepth 100000 in
theorem build_req0 (w : World) : (Instr.build 37 #[]).run Tryz.prog w = .ok (.agg req0.toArray) w := run_build w 37 _ _ (by kernel_rfl)
set_option maxHeartbeats 8000000 in
set_option maxRecDepth 100000 in
theorem eq_req_self (o d v l : Int) (k : List Int) (hk : k.length = 32) (w : World) : (Op.equalIn 10000 37 (.agg (reqL o d v l k).toArray) (.agg (reqL o d v l k).toArray)).run Tryz.prog w = .ok true w := by
  have hi : (Tryz.prog.info? 5).isSome = true := by kernel_rfl
  obtain ⟨i, hi⟩ := Option.isSome_iff_exists.1 hi
  have h := run_eq_arr (P := Tryz.prog) 9997 35 5 .u8 32 i (by kernel_rfl) hi (by kernel_rfl) (by kernel_rfl) k k hk hk w
  rw [decide_eq_true rfl] at h
  obtain ⟨x0, x1, x2, x3, x4, x5, x6, x7, x8, x9, x10, x11, x12, x13, x14, x15, x16, x17, x18, x19, x20, x21, x22, x23, x24, x25, x26, x27, x28, x29, x30, x31, rfl⟩ := split32 k hk
  rw [run_equalIn_struct _ _ _ _ _ (by kernel_rfl) (by kernel_rfl), fields_of Tryz.underlying37]
  simp only [List.map_cons, List.map_nil] at h
  simp [Op.eqFields, go_sem, part, reqL, dv] at h ⊢
  simp [h]
end Go.Proofs.YtjbojoeafdkkeaaGreatDoor
