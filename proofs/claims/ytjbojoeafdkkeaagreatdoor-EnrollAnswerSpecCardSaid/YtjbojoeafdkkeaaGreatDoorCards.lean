/-
  DERIVED. GIVEN WITH THE SEED: THE CARDS: each row of YtjbojoeafdkkeaaGreatDoorRows.lean that lists a variable, with what it lists TIED to the program's text (the seventh form; the later family's looks); each row that meets fmt, with fmt's text TOLD by the authors' own Lean function (tested against real Go, not proved from fmt's source: count such statements apart). THE CARD IS WHAT COUNTS. Prove the row's statement (the work); the ties are given (YtjbojoeafdkkeaaGreatDoorTie.lean); close each card by the builder's one call (the guide's Derived/Test/ToyasCard.lean, 'card_holds'). Laid BY PROGRAM, IN A SANDBOX (cutbox-door.mjs). By AI agents, Wed Nov 11 2026. No macro, syntax, notation, axiom, sorry.
-/
import Derived.Test.YtjbojoeafdkkeaaGreatDoorRows
import GoSem.ClaimSeven
namespace Go.Proofs.YtjbojoeafdkkeaaGreatDoor
namespace Rows

/-- THE TIED CARD OF 'chartroomlaw38.EnrollNewSpec'. -/
def enrollNewSpecCard : Claim7 := { stood := { row := enrollNewSpecRow, standIns := [], harness := (true, "a2f17662d3aa2c48e6dbab31f3ad87606e84e5b9a2e3f19ae78dee64085eaab9"), looks := true }, kinds := [], alts := [], laidByText := true, laidKinds := [.handle, .data, .data], laidTests := true, laidLooks := .later }
def EnrollNewSpecCardSaid : Prop := Claim7.holds Tryz.pinned (.plain (OpenSpec.ofChange enrollNewSpecSpec)) enrollNewSpecCard

/-- THE TIED CARD OF 'chartroomlaw38.EnrollAskSpec'. -/
def enrollAskSpecCard : Claim7 := { stood := { row := enrollAskSpecRow, standIns := [], harness := (true, "a2f17662d3aa2c48e6dbab31f3ad87606e84e5b9a2e3f19ae78dee64085eaab9"), looks := true }, kinds := [], alts := [], laidByText := true, laidKinds := [.handle, .data, .data], laidTests := true, laidLooks := .later }
def EnrollAskSpecCardSaid : Prop := Claim7.holds Tryz.pinned (.plain (OpenSpec.ofChange enrollAskSpecSpec)) enrollAskSpecCard

/-- THE TIED CARD OF 'chartroomlaw38.EnrollAnswerSpec'. -/
def enrollAnswerSpecCard : Claim7 := { stood := { row := enrollAnswerSpecRow, standIns := [], harness := (true, "a2f17662d3aa2c48e6dbab31f3ad87606e84e5b9a2e3f19ae78dee64085eaab9"), looks := true }, kinds := [], alts := [], laidByText := true, laidKinds := [.handle, .data, .data], laidTests := true, laidLooks := .later }
def EnrollAnswerSpecCardSaid : Prop := Claim7.holds Tryz.pinned (.plain (OpenSpec.ofChange enrollAnswerSpecSpec)) enrollAnswerSpecCard

/-- THE TIED CARD OF 'chartroomlaw38.EnrollTries'. -/
def enrollTriesCard : Claim7 := { stood := { row := enrollTriesRow, standIns := [], harness := (true, "a2f17662d3aa2c48e6dbab31f3ad87606e84e5b9a2e3f19ae78dee64085eaab9"), looks := true }, kinds := [], alts := [], laidByText := true, laidKinds := [.handle, .data, .data], laidTests := true, laidLooks := .later }
def EnrollTriesCardSaid : Prop := Claim7.holds Tryz.pinned (.plain (OpenSpec.ofChange enrollTriesSpec)) enrollTriesCard

/-- THE TIED CARD OF 'chartroomlaw38.EnrollExact'. -/
def enrollExactCard : Claim7 := { stood := { row := enrollExactRow, standIns := [], harness := (true, "a2f17662d3aa2c48e6dbab31f3ad87606e84e5b9a2e3f19ae78dee64085eaab9"), looks := true }, kinds := [], alts := [], laidByText := true, laidKinds := [.handle, .data, .data], laidTests := true, laidLooks := .later }
def EnrollExactCardSaid : Prop := Claim7.holds Tryz.pinned (.plain (OpenSpec.ofChange enrollExactSpec)) enrollExactCard

/-- THE TIED CARD OF 'chartroomlaw38.EnrollOthers'. -/
def enrollOthersCard : Claim7 := { stood := { row := enrollOthersRow, standIns := [], harness := (true, "a2f17662d3aa2c48e6dbab31f3ad87606e84e5b9a2e3f19ae78dee64085eaab9"), looks := true }, kinds := [], alts := [], laidByText := true, laidKinds := [.handle, .data, .data], laidTests := true, laidLooks := .later }
def EnrollOthersCardSaid : Prop := Claim7.holds Tryz.pinned (.plain (OpenSpec.ofChange enrollOthersSpec)) enrollOthersCard

/-- THE TIED CARD OF 'chartroomlaw38.EnrollAgrees'. -/
def enrollAgreesCard : Claim7 := { stood := { row := enrollAgreesRow, standIns := [], harness := (true, "a2f17662d3aa2c48e6dbab31f3ad87606e84e5b9a2e3f19ae78dee64085eaab9"), looks := true }, kinds := [], alts := [], laidByText := true, laidKinds := [.handle, .data, .data], laidTests := true, laidLooks := .later }
def EnrollAgreesCardSaid : Prop := Claim7.holds Tryz.pinned (.plain (OpenSpec.ofChange enrollAgreesSpec)) enrollAgreesCard

/-- THE TIED CARD OF 'chartroomlaw37.PeopleCheckSpec'. -/
def peopleCheckSpecCard : Claim7 := { stood := { row := peopleCheckSpecRow, standIns := [], harness := (true, "a2f17662d3aa2c48e6dbab31f3ad87606e84e5b9a2e3f19ae78dee64085eaab9"), looks := true }, kinds := [], alts := [], laidByText := true, laidKinds := [.data, .data], laidTests := true, laidLooks := .later }
def PeopleCheckSpecCardSaid : Prop := Claim7.holds Tryz.pinned (.plain (OpenSpec.ofChange peopleCheckSpecSpec)) peopleCheckSpecCard

/-- THE TIED CARD OF 'chartroomlaw37.PeopleCertifySpec'. -/
def peopleCertifySpecCard : Claim7 := { stood := { row := peopleCertifySpecRow, standIns := [], harness := (true, "a2f17662d3aa2c48e6dbab31f3ad87606e84e5b9a2e3f19ae78dee64085eaab9"), looks := true }, kinds := [], alts := [], laidByText := true, laidKinds := [.data, .data], laidTests := true, laidLooks := .later }
def PeopleCertifySpecCardSaid : Prop := Claim7.holds Tryz.pinned (.plain (OpenSpec.ofChange peopleCertifySpecSpec)) peopleCertifySpecCard

/-- THE TIED CARD OF 'chartroomlaw37.PeopleAcceptSpec'. -/
def peopleAcceptSpecCard : Claim7 := { stood := { row := peopleAcceptSpecRow, standIns := [], harness := (true, "a2f17662d3aa2c48e6dbab31f3ad87606e84e5b9a2e3f19ae78dee64085eaab9"), looks := true }, kinds := [], alts := [], laidByText := true, laidKinds := [.data, .data], laidTests := true, laidLooks := .later }
def PeopleAcceptSpecCardSaid : Prop := Claim7.holds Tryz.pinned (.plain (OpenSpec.ofChange peopleAcceptSpecSpec)) peopleAcceptSpecCard

/-- THE SECOND FORM's CARD OF 'chartroomlaw38.EnrollNewSpec'. -/
def enrollNewSpecUptoCard : Claim7 := { stood := { row := enrollNewSpecUptoRow, standIns := [], harness := (true, "a2f17662d3aa2c48e6dbab31f3ad87606e84e5b9a2e3f19ae78dee64085eaab9"), looks := true }, kinds := [], alts := [], laidByText := true, laidKinds := [.handle, .data, .data], laidTests := true, laidLooks := .later }
def EnrollNewSpecUptoCardSaid : Prop := Claim7.holds Tryz.pinned (.plain (OpenSpec.upto enrollNewSpecSpec)) enrollNewSpecUptoCard

/-- THE SECOND FORM's CARD OF 'chartroomlaw38.EnrollAskSpec'. -/
def enrollAskSpecUptoCard : Claim7 := { stood := { row := enrollAskSpecUptoRow, standIns := [], harness := (true, "a2f17662d3aa2c48e6dbab31f3ad87606e84e5b9a2e3f19ae78dee64085eaab9"), looks := true }, kinds := [], alts := [], laidByText := true, laidKinds := [.handle, .data, .data], laidTests := true, laidLooks := .later }
def EnrollAskSpecUptoCardSaid : Prop := Claim7.holds Tryz.pinned (.plain (OpenSpec.upto enrollAskSpecSpec)) enrollAskSpecUptoCard

/-- THE SECOND FORM's CARD OF 'chartroomlaw38.EnrollAnswerSpec'. -/
def enrollAnswerSpecUptoCard : Claim7 := { stood := { row := enrollAnswerSpecUptoRow, standIns := [], harness := (true, "a2f17662d3aa2c48e6dbab31f3ad87606e84e5b9a2e3f19ae78dee64085eaab9"), looks := true }, kinds := [], alts := [], laidByText := true, laidKinds := [.handle, .data, .data], laidTests := true, laidLooks := .later }
def EnrollAnswerSpecUptoCardSaid : Prop := Claim7.holds Tryz.pinned (.plain (OpenSpec.upto enrollAnswerSpecSpec)) enrollAnswerSpecUptoCard

/-- THE SECOND FORM's CARD OF 'chartroomlaw38.EnrollTries'. -/
def enrollTriesUptoCard : Claim7 := { stood := { row := enrollTriesUptoRow, standIns := [], harness := (true, "a2f17662d3aa2c48e6dbab31f3ad87606e84e5b9a2e3f19ae78dee64085eaab9"), looks := true }, kinds := [], alts := [], laidByText := true, laidKinds := [.handle, .data, .data], laidTests := true, laidLooks := .later }
def EnrollTriesUptoCardSaid : Prop := Claim7.holds Tryz.pinned (.plain (OpenSpec.upto enrollTriesSpec)) enrollTriesUptoCard

/-- THE SECOND FORM's CARD OF 'chartroomlaw38.EnrollExact'. -/
def enrollExactUptoCard : Claim7 := { stood := { row := enrollExactUptoRow, standIns := [], harness := (true, "a2f17662d3aa2c48e6dbab31f3ad87606e84e5b9a2e3f19ae78dee64085eaab9"), looks := true }, kinds := [], alts := [], laidByText := true, laidKinds := [.handle, .data, .data], laidTests := true, laidLooks := .later }
def EnrollExactUptoCardSaid : Prop := Claim7.holds Tryz.pinned (.plain (OpenSpec.upto enrollExactSpec)) enrollExactUptoCard

/-- THE SECOND FORM's CARD OF 'chartroomlaw38.EnrollOthers'. -/
def enrollOthersUptoCard : Claim7 := { stood := { row := enrollOthersUptoRow, standIns := [], harness := (true, "a2f17662d3aa2c48e6dbab31f3ad87606e84e5b9a2e3f19ae78dee64085eaab9"), looks := true }, kinds := [], alts := [], laidByText := true, laidKinds := [.handle, .data, .data], laidTests := true, laidLooks := .later }
def EnrollOthersUptoCardSaid : Prop := Claim7.holds Tryz.pinned (.plain (OpenSpec.upto enrollOthersSpec)) enrollOthersUptoCard

/-- THE SECOND FORM's CARD OF 'chartroomlaw38.EnrollAgrees'. -/
def enrollAgreesUptoCard : Claim7 := { stood := { row := enrollAgreesUptoRow, standIns := [], harness := (true, "a2f17662d3aa2c48e6dbab31f3ad87606e84e5b9a2e3f19ae78dee64085eaab9"), looks := true }, kinds := [], alts := [], laidByText := true, laidKinds := [.handle, .data, .data], laidTests := true, laidLooks := .later }
def EnrollAgreesUptoCardSaid : Prop := Claim7.holds Tryz.pinned (.plain (OpenSpec.upto enrollAgreesSpec)) enrollAgreesUptoCard

/-- THE SECOND FORM's CARD OF 'chartroomlaw37.PeopleCheckSpec'. -/
def peopleCheckSpecUptoCard : Claim7 := { stood := { row := peopleCheckSpecUptoRow, standIns := [], harness := (true, "a2f17662d3aa2c48e6dbab31f3ad87606e84e5b9a2e3f19ae78dee64085eaab9"), looks := true }, kinds := [], alts := [], laidByText := true, laidKinds := [.data, .data], laidTests := true, laidLooks := .later }
def PeopleCheckSpecUptoCardSaid : Prop := Claim7.holds Tryz.pinned (.plain (OpenSpec.upto peopleCheckSpecSpec)) peopleCheckSpecUptoCard

/-- THE SECOND FORM's CARD OF 'chartroomlaw37.PeopleCertifySpec'. -/
def peopleCertifySpecUptoCard : Claim7 := { stood := { row := peopleCertifySpecUptoRow, standIns := [], harness := (true, "a2f17662d3aa2c48e6dbab31f3ad87606e84e5b9a2e3f19ae78dee64085eaab9"), looks := true }, kinds := [], alts := [], laidByText := true, laidKinds := [.data, .data], laidTests := true, laidLooks := .later }
def PeopleCertifySpecUptoCardSaid : Prop := Claim7.holds Tryz.pinned (.plain (OpenSpec.upto peopleCertifySpecSpec)) peopleCertifySpecUptoCard

/-- THE SECOND FORM's CARD OF 'chartroomlaw37.PeopleAcceptSpec'. -/
def peopleAcceptSpecUptoCard : Claim7 := { stood := { row := peopleAcceptSpecUptoRow, standIns := [], harness := (true, "a2f17662d3aa2c48e6dbab31f3ad87606e84e5b9a2e3f19ae78dee64085eaab9"), looks := true }, kinds := [], alts := [], laidByText := true, laidKinds := [.data, .data], laidTests := true, laidLooks := .later }
def PeopleAcceptSpecUptoCardSaid : Prop := Claim7.holds Tryz.pinned (.plain (OpenSpec.upto peopleAcceptSpecSpec)) peopleAcceptSpecUptoCard
end Rows
end Go.Proofs.YtjbojoeafdkkeaaGreatDoor
