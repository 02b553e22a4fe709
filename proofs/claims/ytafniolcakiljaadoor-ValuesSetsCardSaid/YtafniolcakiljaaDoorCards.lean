/-
  DERIVED. GIVEN WITH THE SEED: THE CARDS: each row of YtafniolcakiljaaDoorRows.lean that lists a variable, with what it lists TIED to the program's text (the seventh form; the later family's looks); each row that meets fmt, with fmt's text TOLD by the authors' own Lean function (tested against real Go, not proved from fmt's source: count such statements apart). THE CARD IS WHAT COUNTS. Prove the row's statement (the work); the ties are given (YtafniolcakiljaaDoorTie.lean); close each card by the builder's one call (the guide's Derived/Test/ToyasCard.lean, 'card_holds'). Laid BY PROGRAM, IN A SANDBOX (cutbox-door.mjs). By AI agents, Wed Nov 11 2026. No macro, syntax, notation, axiom, sorry.
-/
import Derived.Test.YtafniolcakiljaaDoorRows
import GoSem.ClaimSeven
namespace Go.Proofs.YtafniolcakiljaaDoor
namespace Rows

/-- THE TIED CARD OF 'lazyclaw25.ValuesRefines'. -/
def valuesRefinesCard : Claim7 := { stood := { row := valuesRefinesRow, standIns := [], harness := (true, "0f62273682972dd7dc4c053dc10fa966db503c228964119104e06703c85b8ce3"), looks := true }, kinds := [], alts := [], laidByText := true, laidKinds := [.data, .data, .data], laidTests := true, laidLooks := .later }
def ValuesRefinesCardSaid : Prop := Claim7.holds Tryd.pinned (.plain (OpenSpec.ofChange valuesRefinesSpec)) valuesRefinesCard

/-- THE TIED CARD OF 'lazyclaw25.ValuesOrder'. -/
def valuesOrderCard : Claim7 := { stood := { row := valuesOrderRow, standIns := [], harness := (true, "0f62273682972dd7dc4c053dc10fa966db503c228964119104e06703c85b8ce3"), looks := true }, kinds := [], alts := [], laidByText := true, laidKinds := [.data, .data, .data], laidTests := true, laidLooks := .later }
def ValuesOrderCardSaid : Prop := Claim7.holds Tryd.pinned (.plain (OpenSpec.ofChange valuesOrderSpec)) valuesOrderCard

/-- THE TIED CARD OF 'lazyclaw25.ValuesLists'. -/
def valuesListsCard : Claim7 := { stood := { row := valuesListsRow, standIns := [], harness := (true, "0f62273682972dd7dc4c053dc10fa966db503c228964119104e06703c85b8ce3"), looks := true }, kinds := [], alts := [], laidByText := true, laidKinds := [.data, .data, .data], laidTests := true, laidLooks := .later }
def ValuesListsCardSaid : Prop := Claim7.holds Tryd.pinned (.plain (OpenSpec.ofChange valuesListsSpec)) valuesListsCard

/-- THE TIED CARD OF 'lazyclaw25.ValuesCheck'. -/
def valuesCheckCard : Claim7 := { stood := { row := valuesCheckRow, standIns := [], harness := (true, "0f62273682972dd7dc4c053dc10fa966db503c228964119104e06703c85b8ce3"), looks := true }, kinds := [], alts := [], laidByText := true, laidKinds := [.data, .data, .data], laidTests := true, laidLooks := .later }
def ValuesCheckCardSaid : Prop := Claim7.holds Tryd.pinned (.plain (OpenSpec.ofChange valuesCheckSpec)) valuesCheckCard

/-- THE TIED CARD OF 'lazyclaw25.ValuesOutcome'. -/
def valuesOutcomeCard : Claim7 := { stood := { row := valuesOutcomeRow, standIns := [], harness := (true, "0f62273682972dd7dc4c053dc10fa966db503c228964119104e06703c85b8ce3"), looks := true }, kinds := [], alts := [], laidByText := true, laidKinds := [.data, .data, .data], laidTests := true, laidLooks := .later }
def ValuesOutcomeCardSaid : Prop := Claim7.holds Tryd.pinned (.plain (OpenSpec.ofChange valuesOutcomeSpec)) valuesOutcomeCard

/-- THE TIED CARD OF 'lazyclaw25.ValuesSets'. -/
def valuesSetsCard : Claim7 := { stood := { row := valuesSetsRow, standIns := [], harness := (true, "0f62273682972dd7dc4c053dc10fa966db503c228964119104e06703c85b8ce3"), looks := true }, kinds := [], alts := [], laidByText := true, laidKinds := [.data, .data, .data], laidTests := true, laidLooks := .later }
def ValuesSetsCardSaid : Prop := Claim7.holds Tryd.pinned (.plain (OpenSpec.ofChange valuesSetsSpec)) valuesSetsCard

/-- THE TIED CARD OF 'lazyclaw25.ValuesUnion'. -/
def valuesUnionCard : Claim7 := { stood := { row := valuesUnionRow, standIns := [], harness := (true, "0f62273682972dd7dc4c053dc10fa966db503c228964119104e06703c85b8ce3"), looks := true }, kinds := [], alts := [], laidByText := true, laidKinds := [.data, .data, .data], laidTests := true, laidLooks := .later }
def ValuesUnionCardSaid : Prop := Claim7.holds Tryd.pinned (.plain (OpenSpec.ofChange valuesUnionSpec)) valuesUnionCard

/-- THE TIED CARD OF 'lazyclaw25.ValuesRoundTrip'. -/
def valuesRoundTripCard : Claim7 := { stood := { row := valuesRoundTripRow, standIns := [], harness := (true, "0f62273682972dd7dc4c053dc10fa966db503c228964119104e06703c85b8ce3"), looks := true }, kinds := [], alts := [], laidByText := true, laidKinds := [.data, .data, .data, .data, .sentinel, .sentinel, .pinned], laidTests := true, laidLooks := .later }
def ValuesRoundTripCardSaid : Prop := Claim7.holds Tryd.pinned (.plain (OpenSpec.ofChange valuesRoundTripSpec)) valuesRoundTripCard

/-- THE SECOND FORM's CARD OF 'lazyclaw25.ValuesRefines'. -/
def valuesRefinesUptoCard : Claim7 := { stood := { row := valuesRefinesUptoRow, standIns := [], harness := (true, "0f62273682972dd7dc4c053dc10fa966db503c228964119104e06703c85b8ce3"), looks := true }, kinds := [], alts := [], laidByText := true, laidKinds := [.data, .data, .data], laidTests := true, laidLooks := .later }
def ValuesRefinesUptoCardSaid : Prop := Claim7.holds Tryd.pinned (.plain (OpenSpec.upto valuesRefinesSpec)) valuesRefinesUptoCard

/-- THE SECOND FORM's CARD OF 'lazyclaw25.ValuesOrder'. -/
def valuesOrderUptoCard : Claim7 := { stood := { row := valuesOrderUptoRow, standIns := [], harness := (true, "0f62273682972dd7dc4c053dc10fa966db503c228964119104e06703c85b8ce3"), looks := true }, kinds := [], alts := [], laidByText := true, laidKinds := [.data, .data, .data], laidTests := true, laidLooks := .later }
def ValuesOrderUptoCardSaid : Prop := Claim7.holds Tryd.pinned (.plain (OpenSpec.upto valuesOrderSpec)) valuesOrderUptoCard

/-- THE SECOND FORM's CARD OF 'lazyclaw25.ValuesLists'. -/
def valuesListsUptoCard : Claim7 := { stood := { row := valuesListsUptoRow, standIns := [], harness := (true, "0f62273682972dd7dc4c053dc10fa966db503c228964119104e06703c85b8ce3"), looks := true }, kinds := [], alts := [], laidByText := true, laidKinds := [.data, .data, .data], laidTests := true, laidLooks := .later }
def ValuesListsUptoCardSaid : Prop := Claim7.holds Tryd.pinned (.plain (OpenSpec.upto valuesListsSpec)) valuesListsUptoCard

/-- THE SECOND FORM's CARD OF 'lazyclaw25.ValuesCheck'. -/
def valuesCheckUptoCard : Claim7 := { stood := { row := valuesCheckUptoRow, standIns := [], harness := (true, "0f62273682972dd7dc4c053dc10fa966db503c228964119104e06703c85b8ce3"), looks := true }, kinds := [], alts := [], laidByText := true, laidKinds := [.data, .data, .data], laidTests := true, laidLooks := .later }
def ValuesCheckUptoCardSaid : Prop := Claim7.holds Tryd.pinned (.plain (OpenSpec.upto valuesCheckSpec)) valuesCheckUptoCard

/-- THE SECOND FORM's CARD OF 'lazyclaw25.ValuesOutcome'. -/
def valuesOutcomeUptoCard : Claim7 := { stood := { row := valuesOutcomeUptoRow, standIns := [], harness := (true, "0f62273682972dd7dc4c053dc10fa966db503c228964119104e06703c85b8ce3"), looks := true }, kinds := [], alts := [], laidByText := true, laidKinds := [.data, .data, .data], laidTests := true, laidLooks := .later }
def ValuesOutcomeUptoCardSaid : Prop := Claim7.holds Tryd.pinned (.plain (OpenSpec.upto valuesOutcomeSpec)) valuesOutcomeUptoCard

/-- THE SECOND FORM's CARD OF 'lazyclaw25.ValuesSets'. -/
def valuesSetsUptoCard : Claim7 := { stood := { row := valuesSetsUptoRow, standIns := [], harness := (true, "0f62273682972dd7dc4c053dc10fa966db503c228964119104e06703c85b8ce3"), looks := true }, kinds := [], alts := [], laidByText := true, laidKinds := [.data, .data, .data], laidTests := true, laidLooks := .later }
def ValuesSetsUptoCardSaid : Prop := Claim7.holds Tryd.pinned (.plain (OpenSpec.upto valuesSetsSpec)) valuesSetsUptoCard

/-- THE SECOND FORM's CARD OF 'lazyclaw25.ValuesUnion'. -/
def valuesUnionUptoCard : Claim7 := { stood := { row := valuesUnionUptoRow, standIns := [], harness := (true, "0f62273682972dd7dc4c053dc10fa966db503c228964119104e06703c85b8ce3"), looks := true }, kinds := [], alts := [], laidByText := true, laidKinds := [.data, .data, .data], laidTests := true, laidLooks := .later }
def ValuesUnionUptoCardSaid : Prop := Claim7.holds Tryd.pinned (.plain (OpenSpec.upto valuesUnionSpec)) valuesUnionUptoCard

/-- THE SECOND FORM's CARD OF 'lazyclaw25.ValuesRoundTrip'. -/
def valuesRoundTripUptoCard : Claim7 := { stood := { row := valuesRoundTripUptoRow, standIns := [], harness := (true, "0f62273682972dd7dc4c053dc10fa966db503c228964119104e06703c85b8ce3"), looks := true }, kinds := [], alts := [], laidByText := true, laidKinds := [.data, .data, .data, .data, .sentinel, .sentinel, .pinned], laidTests := true, laidLooks := .later }
def ValuesRoundTripUptoCardSaid : Prop := Claim7.holds Tryd.pinned (.plain (OpenSpec.upto valuesRoundTripSpec)) valuesRoundTripUptoCard
end Rows
end Go.Proofs.YtafniolcakiljaaDoor
