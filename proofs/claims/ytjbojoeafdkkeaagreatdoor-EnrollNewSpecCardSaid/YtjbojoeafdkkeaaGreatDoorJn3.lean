/- EnrollNewSpec is true at every input: New, Point and Check answer as the specification says, where the listed variables hold what the program's text lays. -/
import Derived.Test.YtjbojoeafdkkeaaGreatDoorJn2
import Derived.Test.YtjbojoeafdkkeaaGreatDoorTie
import Derived.Test.YtjbojoeafdkkeaaGreatDoorCards
import Derived.SevenTiedAt
set_option linter.unusedVariables false
set_option linter.unusedSimpArgs false
namespace Go.Proofs.YtjbojoeafdkkeaaGreatDoor
open Go Go.RowKit

set_option maxRecDepth 100000 in
theorem newspec_holds : Rows.EnrollNewSpecSaid :=
  OpenClaim.holds_of_wide 3 Tryz.f3 rfl rfl rfl rfl rfl rfl rfl ⟨rfl, rfl, rfl, rfl, rfl⟩ rfl rfl rfl rfl rfl (by kernel_rfl) Tryz.func3 (by kernel_rfl)
    (of_decide_eq_true (by kernel_rfl)) (by unfold Func.isWrapper; rw [if_neg (of_decide_eq_false (by kernel_rfl))]; exact ⟨rfl, rfl⟩)
    (fun os started H enc _ => newspec_lifted os started H enc)
set_option maxRecDepth 100000 in
theorem enrollNewSpec_card : Rows.EnrollNewSpecCardSaid :=
  Claim7.holds_tied_plain_at .later [] [.handle, .data, .data] true (true, "a2f17662d3aa2c48e6dbab31f3ad87606e84e5b9a2e3f19ae78dee64085eaab9") true
    newspec_holds (fun _ h => by cases h) (by kernel_rfl) (fun _ h => by cases h) enrollNewSpec_row_tie rfl ⟨rfl, rfl⟩ (by kernel_rfl) rfl
    (fun f fn hf hfn => by
      obtain rfl : f = 3 := Option.some.inj ((show Tryz.prog.funcNamed "chartroom/chartroomlaw38.EnrollNewSpec" = some 3 by kernel_rfl).symm.trans hf) |>.symm
      obtain rfl : fn = Tryz.f3 := (Option.some.inj (Tryz.func3.symm.trans hfn)).symm
      exact ⟨by kernel_rfl, fun j t ht => by
        rw [Tryz.params3] at ht
        have h3 : t = 3 ∨ t = 25 := by
          rcases j with _ | _ | _ | _ | j
          · exact (.inl (by simpa using ht.symm))
          · exact (.inl (by simpa using ht.symm))
          · exact (.inl (by simpa using ht.symm))
          · exact (.inr (by simpa using ht.symm))
          · simp at ht
        rcases h3 with rfl | rfl
        · exact (show Tryz.prog.wantsStandIn 3 = false by kernel_rfl)
        · exact (show Tryz.prog.wantsStandIn 25 = false by kernel_rfl)⟩)
    (by kernel_rfl)
end Go.Proofs.YtjbojoeafdkkeaaGreatDoor
