/-
  DERIVED. GIVEN WITH THE SEED: THE CARDS: each row of YtgbglhbdjambbaaGreatDoorRows.lean that lists a variable, with what it lists TIED to the program's text (the seventh form; the later family's looks); each row that meets fmt, with fmt's text TOLD by the authors' own Lean function (tested against real Go, not proved from fmt's source: count such statements apart). THE CARD IS WHAT COUNTS. Prove the row's statement (the work); the ties are given (YtgbglhbdjambbaaGreatDoorTie.lean); close each card by the builder's one call (the guide's Derived/Test/ToyasCard.lean, 'card_holds'). Laid BY PROGRAM, IN A SANDBOX (cutbox-door.mjs). By AI agents, Wed Nov 11 2026. No macro, syntax, notation, axiom, sorry.
-/
import Derived.Test.YtgbglhbdjambbaaGreatDoorRows
import GoSem.ClaimSeven
namespace Go.Proofs.YtgbglhbdjambbaaGreatDoor
namespace Rows

/-- THE TIED CARD OF 'lazyclaw18.UnifyResult'. -/
def unifyResultCard : Claim7 := { stood := { row := unifyResultRow, standIns := [], harness := (true, "e547b99f27cc7c551a5d123d3181aafccbda1d7c4f9d513460888546d8d18224"), looks := true }, kinds := [], alts := [], laidByText := true, laidKinds := [.data, .data, .data, .sentinel, .sentinel], laidTests := true, laidLooks := .later }
def UnifyResultCardSaid : Prop := Claim7.holds Tryz.pinned (.plain (OpenSpec.ofChange unifyResultSpec)) unifyResultCard

/-- THE TIED CARD OF 'lazyclaw18.UnifyAll'. -/
def unifyAllCard : Claim7 := { stood := { row := unifyAllRow, standIns := [], harness := (true, "e547b99f27cc7c551a5d123d3181aafccbda1d7c4f9d513460888546d8d18224"), looks := true }, kinds := [], alts := [], laidByText := true, laidKinds := [.data, .data, .data, .sentinel, .sentinel], laidTests := true, laidLooks := .later }
def UnifyAllCardSaid : Prop := Claim7.holds Tryz.pinned (.plain (OpenSpec.ofChange unifyAllSpec)) unifyAllCard

/-- THE TIED CARD OF 'lazyclaw18.UnifySolves'. -/
def unifySolvesCard : Claim7 := { stood := { row := unifySolvesRow, standIns := [], harness := (true, "e547b99f27cc7c551a5d123d3181aafccbda1d7c4f9d513460888546d8d18224"), looks := true }, kinds := [], alts := [], laidByText := true, laidKinds := [.data, .data, .data, .sentinel, .sentinel], laidTests := true, laidLooks := .later }
def UnifySolvesCardSaid : Prop := Claim7.holds Tryz.pinned (.plain (OpenSpec.ofChange unifySolvesSpec)) unifySolvesCard

/-- THE TIED CARD OF 'lazyclaw18.UnifyGeneral'. -/
def unifyGeneralCard : Claim7 := { stood := { row := unifyGeneralRow, standIns := [], harness := (true, "e547b99f27cc7c551a5d123d3181aafccbda1d7c4f9d513460888546d8d18224"), looks := true }, kinds := [], alts := [], laidByText := true, laidKinds := [.data, .data, .data, .sentinel, .sentinel], laidTests := true, laidLooks := .later }
def UnifyGeneralCardSaid : Prop := Claim7.holds Tryz.pinned (.plain (OpenSpec.ofChange unifyGeneralSpec)) unifyGeneralCard

/-- THE TIED CARD OF 'lazyclaw18.UnifyCompose'. -/
def unifyComposeCard : Claim7 := { stood := { row := unifyComposeRow, standIns := [], harness := (true, "e547b99f27cc7c551a5d123d3181aafccbda1d7c4f9d513460888546d8d18224"), looks := true }, kinds := [], alts := [], laidByText := true, laidKinds := [.data, .data, .data, .sentinel, .sentinel], laidTests := true, laidLooks := .later }
def UnifyComposeCardSaid : Prop := Claim7.holds Tryz.pinned (.plain (OpenSpec.ofChange unifyComposeSpec)) unifyComposeCard

/-- THE TIED CARD OF 'lazyclaw18.UnifyMatch'. -/
def unifyMatchCard : Claim7 := { stood := { row := unifyMatchRow, standIns := [], harness := (true, "e547b99f27cc7c551a5d123d3181aafccbda1d7c4f9d513460888546d8d18224"), looks := true }, kinds := [], alts := [], laidByText := true, laidKinds := [.data, .data, .data, .sentinel, .sentinel], laidTests := true, laidLooks := .later }
def UnifyMatchCardSaid : Prop := Claim7.holds Tryz.pinned (.plain (OpenSpec.ofChange unifyMatchSpec)) unifyMatchCard

/-- THE TIED CARD OF 'lazyclaw18.UnifyVariant'. -/
def unifyVariantCard : Claim7 := { stood := { row := unifyVariantRow, standIns := [], harness := (true, "e547b99f27cc7c551a5d123d3181aafccbda1d7c4f9d513460888546d8d18224"), looks := true }, kinds := [], alts := [], laidByText := true, laidKinds := [.data, .data, .data, .sentinel, .sentinel], laidTests := true, laidLooks := .later }
def UnifyVariantCardSaid : Prop := Claim7.holds Tryz.pinned (.plain (OpenSpec.ofChange unifyVariantSpec)) unifyVariantCard

/-- THE SECOND FORM's CARD OF 'lazyclaw18.UnifyResult'. -/
def unifyResultUptoCard : Claim7 := { stood := { row := unifyResultUptoRow, standIns := [], harness := (true, "e547b99f27cc7c551a5d123d3181aafccbda1d7c4f9d513460888546d8d18224"), looks := true }, kinds := [], alts := [], laidByText := true, laidKinds := [.data, .data, .data, .sentinel, .sentinel], laidTests := true, laidLooks := .later }
def UnifyResultUptoCardSaid : Prop := Claim7.holds Tryz.pinned (.plain (OpenSpec.upto unifyResultSpec)) unifyResultUptoCard

/-- THE SECOND FORM's CARD OF 'lazyclaw18.UnifyAll'. -/
def unifyAllUptoCard : Claim7 := { stood := { row := unifyAllUptoRow, standIns := [], harness := (true, "e547b99f27cc7c551a5d123d3181aafccbda1d7c4f9d513460888546d8d18224"), looks := true }, kinds := [], alts := [], laidByText := true, laidKinds := [.data, .data, .data, .sentinel, .sentinel], laidTests := true, laidLooks := .later }
def UnifyAllUptoCardSaid : Prop := Claim7.holds Tryz.pinned (.plain (OpenSpec.upto unifyAllSpec)) unifyAllUptoCard

/-- THE SECOND FORM's CARD OF 'lazyclaw18.UnifySolves'. -/
def unifySolvesUptoCard : Claim7 := { stood := { row := unifySolvesUptoRow, standIns := [], harness := (true, "e547b99f27cc7c551a5d123d3181aafccbda1d7c4f9d513460888546d8d18224"), looks := true }, kinds := [], alts := [], laidByText := true, laidKinds := [.data, .data, .data, .sentinel, .sentinel], laidTests := true, laidLooks := .later }
def UnifySolvesUptoCardSaid : Prop := Claim7.holds Tryz.pinned (.plain (OpenSpec.upto unifySolvesSpec)) unifySolvesUptoCard

/-- THE SECOND FORM's CARD OF 'lazyclaw18.UnifyGeneral'. -/
def unifyGeneralUptoCard : Claim7 := { stood := { row := unifyGeneralUptoRow, standIns := [], harness := (true, "e547b99f27cc7c551a5d123d3181aafccbda1d7c4f9d513460888546d8d18224"), looks := true }, kinds := [], alts := [], laidByText := true, laidKinds := [.data, .data, .data, .sentinel, .sentinel], laidTests := true, laidLooks := .later }
def UnifyGeneralUptoCardSaid : Prop := Claim7.holds Tryz.pinned (.plain (OpenSpec.upto unifyGeneralSpec)) unifyGeneralUptoCard

/-- THE SECOND FORM's CARD OF 'lazyclaw18.UnifyCompose'. -/
def unifyComposeUptoCard : Claim7 := { stood := { row := unifyComposeUptoRow, standIns := [], harness := (true, "e547b99f27cc7c551a5d123d3181aafccbda1d7c4f9d513460888546d8d18224"), looks := true }, kinds := [], alts := [], laidByText := true, laidKinds := [.data, .data, .data, .sentinel, .sentinel], laidTests := true, laidLooks := .later }
def UnifyComposeUptoCardSaid : Prop := Claim7.holds Tryz.pinned (.plain (OpenSpec.upto unifyComposeSpec)) unifyComposeUptoCard

/-- THE SECOND FORM's CARD OF 'lazyclaw18.UnifyMatch'. -/
def unifyMatchUptoCard : Claim7 := { stood := { row := unifyMatchUptoRow, standIns := [], harness := (true, "e547b99f27cc7c551a5d123d3181aafccbda1d7c4f9d513460888546d8d18224"), looks := true }, kinds := [], alts := [], laidByText := true, laidKinds := [.data, .data, .data, .sentinel, .sentinel], laidTests := true, laidLooks := .later }
def UnifyMatchUptoCardSaid : Prop := Claim7.holds Tryz.pinned (.plain (OpenSpec.upto unifyMatchSpec)) unifyMatchUptoCard

/-- THE SECOND FORM's CARD OF 'lazyclaw18.UnifyVariant'. -/
def unifyVariantUptoCard : Claim7 := { stood := { row := unifyVariantUptoRow, standIns := [], harness := (true, "e547b99f27cc7c551a5d123d3181aafccbda1d7c4f9d513460888546d8d18224"), looks := true }, kinds := [], alts := [], laidByText := true, laidKinds := [.data, .data, .data, .sentinel, .sentinel], laidTests := true, laidLooks := .later }
def UnifyVariantUptoCardSaid : Prop := Claim7.holds Tryz.pinned (.plain (OpenSpec.upto unifyVariantSpec)) unifyVariantUptoCard
end Rows
end Go.Proofs.YtgbglhbdjambbaaGreatDoor
