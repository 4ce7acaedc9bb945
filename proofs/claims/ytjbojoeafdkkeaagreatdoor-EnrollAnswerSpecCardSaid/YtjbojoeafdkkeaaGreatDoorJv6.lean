/- EnrollAnswerSpec is true at every input: Answer answers as the specification says, where the listed variables hold what the program's text lays. -/
import Derived.Test.YtjbojoeafdkkeaaGreatDoorJv5
import Derived.Test.YtjbojoeafdkkeaaGreatDoorTie
import Derived.Test.YtjbojoeafdkkeaaGreatDoorCards
import Derived.SevenTiedAt
set_option linter.unusedVariables false
set_option linter.unusedSimpArgs false
namespace Go.Proofs.YtjbojoeafdkkeaaGreatDoor
open Go Go.RowKit

set_option maxRecDepth 100000 in
theorem ansspec_holds : Rows.EnrollAnswerSpecSaid :=
  OpenClaim.holds_of_wide 5 Tryz.f5 rfl rfl rfl rfl rfl rfl rfl ⟨rfl, rfl, rfl, rfl, rfl⟩ rfl rfl rfl rfl rfl (by kernel_rfl) Tryz.func5 (by kernel_rfl)
    (of_decide_eq_true (by kernel_rfl)) (by unfold Func.isWrapper; rw [if_neg (of_decide_eq_false (by kernel_rfl))]; exact ⟨rfl, rfl⟩)
    (fun os started H enc _ => ansspec_lifted os started H enc)
set_option maxRecDepth 100000 in
theorem enrollAnswerSpec_card : Rows.EnrollAnswerSpecCardSaid :=
  Claim7.holds_tied_plain_at .later [] [.handle, .data, .data] true (true, "a2f17662d3aa2c48e6dbab31f3ad87606e84e5b9a2e3f19ae78dee64085eaab9") true
    ansspec_holds (fun _ h => by cases h) (by kernel_rfl) (fun _ h => by cases h) enrollAnswerSpec_row_tie rfl ⟨rfl, rfl⟩ (by kernel_rfl) rfl
    (fun f fn hf hfn => by
      obtain rfl : f = 5 := Option.some.inj ((show Tryz.prog.funcNamed "chartroom/chartroomlaw38.EnrollAnswerSpec" = some 5 by kernel_rfl).symm.trans hf) |>.symm
      obtain rfl : fn = Tryz.f5 := (Option.some.inj (Tryz.func5.symm.trans hfn)).symm
      exact ⟨by kernel_rfl, fun j t ht => by
        rw [Tryz.params5] at ht
        have h3 : t = 25 ∨ t = 37 ∨ t = 3 := by
          rcases j with _ | _ | _ | _ | _ | j
          · exact (.inl (by simpa using ht.symm))
          · exact (.inr (.inl (by simpa using ht.symm)))
          · exact (.inr (.inr (by simpa using ht.symm)))
          · exact (.inr (.inr (by simpa using ht.symm)))
          · exact (.inr (.inr (by simpa using ht.symm)))
          · simp at ht
        rcases h3 with rfl | rfl | rfl
        · exact (show Tryz.prog.wantsStandIn 25 = false by kernel_rfl)
        · exact (show Tryz.prog.wantsStandIn 37 = false by kernel_rfl)
        · exact (show Tryz.prog.wantsStandIn 3 = false by kernel_rfl)⟩)
    (by kernel_rfl)
end Go.Proofs.YtjbojoeafdkkeaaGreatDoor
