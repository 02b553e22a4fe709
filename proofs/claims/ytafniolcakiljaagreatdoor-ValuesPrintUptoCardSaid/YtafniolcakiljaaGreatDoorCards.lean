/-
  DERIVED. GIVEN WITH THE SEED: THE CARDS: each row of YtafniolcakiljaaGreatDoorRows.lean that lists a variable, with what it lists TIED to the program's text (the seventh form; the later family's looks); each row that meets fmt, with fmt's text TOLD by the authors' own Lean function (tested against real Go, not proved from fmt's source: count such statements apart). THE CARD IS WHAT COUNTS. Prove the row's statement (the work); the ties are given (YtafniolcakiljaaGreatDoorTie.lean); close each card by the builder's one call (the guide's Derived/Test/ToyasCard.lean, 'card_holds'). Laid BY PROGRAM, IN A SANDBOX (cutbox-door.mjs). By AI agents, Wed Nov 11 2026. No macro, syntax, notation, axiom, sorry.
-/
import Derived.Test.YtafniolcakiljaaGreatDoorRows
import GoSem.ClaimSeven
namespace Go.Proofs.YtafniolcakiljaaGreatDoor
namespace Rows

/-- THE TIED CARD OF 'lazyclaw25.ValuesPrint'. -/
def valuesPrintCard : Claim7 := { stood := { row := valuesPrintRow, standIns := [], harness := (true, "0bc51f099f7edf8272caf9655c28c24cae112876ad8acf4643a04092fe1f26a3"), looks := true }, kinds := [], alts := [], laidByText := true, laidKinds := [.data, .data, .data, .data, .sentinel, .sentinel, .pinned], laidTests := true, laidLooks := .later }
def ValuesPrintCardSaid : Prop := Claim7.holds Tryz.pinned (.plain (OpenSpec.ofChange valuesPrintSpec)) valuesPrintCard

/-- THE SECOND FORM's CARD OF 'lazyclaw25.ValuesPrint'. -/
def valuesPrintUptoCard : Claim7 := { stood := { row := valuesPrintUptoRow, standIns := [], harness := (true, "0bc51f099f7edf8272caf9655c28c24cae112876ad8acf4643a04092fe1f26a3"), looks := true }, kinds := [], alts := [], laidByText := true, laidKinds := [.data, .data, .data, .data, .sentinel, .sentinel, .pinned], laidTests := true, laidLooks := .later }
def ValuesPrintUptoCardSaid : Prop := Claim7.holds Tryz.pinned (.plain (OpenSpec.upto valuesPrintSpec)) valuesPrintUptoCard
end Rows
end Go.Proofs.YtafniolcakiljaaGreatDoor
