/-
  DERIVED. GIVEN WITH THE SEED: THE CARDS: each row of YtklkaikbpciepaaGreatDoorRows.lean that lists a variable, with what it lists TIED to the program's text (the seventh form; the later family's looks); each row that meets fmt, with fmt's text TOLD by the authors' own Lean function (tested against real Go, not proved from fmt's source: count such statements apart). THE CARD IS WHAT COUNTS. Prove the row's statement (the work); the ties are given (YtklkaikbpciepaaGreatDoorTie.lean); close each card by the builder's one call (the guide's Derived/Test/ToyasCard.lean, 'card_holds'). Laid BY PROGRAM, IN A SANDBOX (cutbox-door.mjs). By AI agents, Wed Nov 11 2026. No macro, syntax, notation, axiom, sorry.
-/
import Derived.Test.YtklkaikbpciepaaGreatDoorRows
import GoSem.ClaimSeven
namespace Go.Proofs.YtklkaikbpciepaaGreatDoor
namespace Rows

/-- THE TIED CARD OF 'lazyclaw36.StgPrint'. -/
def stgPrintCard : Claim7 := { stood := { row := stgPrintRow, standIns := [], harness := (true, "f36a60fe132da0d343feb6c75e1d4c5f6c31d93c351ebf2484238649166a5a9e"), looks := true }, kinds := [], alts := [], laidByText := true, laidKinds := [.data, .data, .data, .data, .sentinel, .sentinel, .pinned], laidTests := true, laidLooks := .later }
def StgPrintCardSaid : Prop := Claim7.holds Tryz.pinned (.plain (OpenSpec.ofChange stgPrintSpec)) stgPrintCard

/-- THE TIED CARD OF 'lazyclaw36.StgFree'. -/
def stgFreeCard : Claim7 := { stood := { row := stgFreeRow, standIns := [], harness := (true, "f36a60fe132da0d343feb6c75e1d4c5f6c31d93c351ebf2484238649166a5a9e"), looks := true }, kinds := [], alts := [], laidByText := true, laidKinds := [.data, .data, .data, .data, .sentinel, .sentinel, .pinned], laidTests := true, laidLooks := .later }
def StgFreeCardSaid : Prop := Claim7.holds Tryz.pinned (.plain (OpenSpec.ofChange stgFreeSpec)) stgFreeCard

/-- THE TIED CARD OF 'lazyclaw36.StgBinder'. -/
def stgBinderCard : Claim7 := { stood := { row := stgBinderRow, standIns := [], harness := (true, "f36a60fe132da0d343feb6c75e1d4c5f6c31d93c351ebf2484238649166a5a9e"), looks := true }, kinds := [], alts := [], laidByText := true, laidKinds := [.data, .data, .data, .data, .sentinel, .sentinel, .pinned], laidTests := true, laidLooks := .later }
def StgBinderCardSaid : Prop := Claim7.holds Tryz.pinned (.plain (OpenSpec.ofChange stgBinderSpec)) stgBinderCard

/-- THE TIED CARD OF 'lazyclaw36.StgLists'. -/
def stgListsCard : Claim7 := { stood := { row := stgListsRow, standIns := [], harness := (true, "f36a60fe132da0d343feb6c75e1d4c5f6c31d93c351ebf2484238649166a5a9e"), looks := true }, kinds := [], alts := [], laidByText := true, laidKinds := [.data, .data, .data, .data, .sentinel, .sentinel, .pinned], laidTests := true, laidLooks := .later }
def StgListsCardSaid : Prop := Claim7.holds Tryz.pinned (.plain (OpenSpec.ofChange stgListsSpec)) stgListsCard

/-- THE TIED CARD OF 'lazyclaw36.StgRoundTrip'. -/
def stgRoundTripCard : Claim7 := { stood := { row := stgRoundTripRow, standIns := [], harness := (true, "f36a60fe132da0d343feb6c75e1d4c5f6c31d93c351ebf2484238649166a5a9e"), looks := true }, kinds := [], alts := [], laidByText := true, laidKinds := [.data, .data, .data, .data, .sentinel, .sentinel, .pinned], laidTests := true, laidLooks := .later }
def StgRoundTripCardSaid : Prop := Claim7.holds Tryz.pinned (.plain (OpenSpec.ofChange stgRoundTripSpec)) stgRoundTripCard

/-- THE TIED CARD OF 'lazyclaw36.StgCheck'. -/
def stgCheckCard : Claim7 := { stood := { row := stgCheckRow, standIns := [], harness := (true, "f36a60fe132da0d343feb6c75e1d4c5f6c31d93c351ebf2484238649166a5a9e"), looks := true }, kinds := [], alts := [], laidByText := true, laidKinds := [.data, .data, .data, .data, .sentinel, .sentinel, .pinned], laidTests := true, laidLooks := .later }
def StgCheckCardSaid : Prop := Claim7.holds Tryz.pinned (.plain (OpenSpec.ofChange stgCheckSpec)) stgCheckCard

/-- THE SECOND FORM's CARD OF 'lazyclaw36.StgPrint'. -/
def stgPrintUptoCard : Claim7 := { stood := { row := stgPrintUptoRow, standIns := [], harness := (true, "f36a60fe132da0d343feb6c75e1d4c5f6c31d93c351ebf2484238649166a5a9e"), looks := true }, kinds := [], alts := [], laidByText := true, laidKinds := [.data, .data, .data, .data, .sentinel, .sentinel, .pinned], laidTests := true, laidLooks := .later }
def StgPrintUptoCardSaid : Prop := Claim7.holds Tryz.pinned (.plain (OpenSpec.upto stgPrintSpec)) stgPrintUptoCard

/-- THE SECOND FORM's CARD OF 'lazyclaw36.StgFree'. -/
def stgFreeUptoCard : Claim7 := { stood := { row := stgFreeUptoRow, standIns := [], harness := (true, "f36a60fe132da0d343feb6c75e1d4c5f6c31d93c351ebf2484238649166a5a9e"), looks := true }, kinds := [], alts := [], laidByText := true, laidKinds := [.data, .data, .data, .data, .sentinel, .sentinel, .pinned], laidTests := true, laidLooks := .later }
def StgFreeUptoCardSaid : Prop := Claim7.holds Tryz.pinned (.plain (OpenSpec.upto stgFreeSpec)) stgFreeUptoCard

/-- THE SECOND FORM's CARD OF 'lazyclaw36.StgBinder'. -/
def stgBinderUptoCard : Claim7 := { stood := { row := stgBinderUptoRow, standIns := [], harness := (true, "f36a60fe132da0d343feb6c75e1d4c5f6c31d93c351ebf2484238649166a5a9e"), looks := true }, kinds := [], alts := [], laidByText := true, laidKinds := [.data, .data, .data, .data, .sentinel, .sentinel, .pinned], laidTests := true, laidLooks := .later }
def StgBinderUptoCardSaid : Prop := Claim7.holds Tryz.pinned (.plain (OpenSpec.upto stgBinderSpec)) stgBinderUptoCard

/-- THE SECOND FORM's CARD OF 'lazyclaw36.StgLists'. -/
def stgListsUptoCard : Claim7 := { stood := { row := stgListsUptoRow, standIns := [], harness := (true, "f36a60fe132da0d343feb6c75e1d4c5f6c31d93c351ebf2484238649166a5a9e"), looks := true }, kinds := [], alts := [], laidByText := true, laidKinds := [.data, .data, .data, .data, .sentinel, .sentinel, .pinned], laidTests := true, laidLooks := .later }
def StgListsUptoCardSaid : Prop := Claim7.holds Tryz.pinned (.plain (OpenSpec.upto stgListsSpec)) stgListsUptoCard

/-- THE SECOND FORM's CARD OF 'lazyclaw36.StgRoundTrip'. -/
def stgRoundTripUptoCard : Claim7 := { stood := { row := stgRoundTripUptoRow, standIns := [], harness := (true, "f36a60fe132da0d343feb6c75e1d4c5f6c31d93c351ebf2484238649166a5a9e"), looks := true }, kinds := [], alts := [], laidByText := true, laidKinds := [.data, .data, .data, .data, .sentinel, .sentinel, .pinned], laidTests := true, laidLooks := .later }
def StgRoundTripUptoCardSaid : Prop := Claim7.holds Tryz.pinned (.plain (OpenSpec.upto stgRoundTripSpec)) stgRoundTripUptoCard

/-- THE SECOND FORM's CARD OF 'lazyclaw36.StgCheck'. -/
def stgCheckUptoCard : Claim7 := { stood := { row := stgCheckUptoRow, standIns := [], harness := (true, "f36a60fe132da0d343feb6c75e1d4c5f6c31d93c351ebf2484238649166a5a9e"), looks := true }, kinds := [], alts := [], laidByText := true, laidKinds := [.data, .data, .data, .data, .sentinel, .sentinel, .pinned], laidTests := true, laidLooks := .later }
def StgCheckUptoCardSaid : Prop := Claim7.holds Tryz.pinned (.plain (OpenSpec.upto stgCheckSpec)) stgCheckUptoCard
end Rows
end Go.Proofs.YtklkaikbpciepaaGreatDoor
