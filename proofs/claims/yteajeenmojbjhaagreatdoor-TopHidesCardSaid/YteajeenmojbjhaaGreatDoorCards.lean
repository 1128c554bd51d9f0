/-
  DERIVED. GIVEN WITH THE SEED: THE CARDS: each row of YteajeenmojbjhaaGreatDoorRows.lean that lists a variable, with what it lists TIED to the program's text (the seventh form; the later family's looks); each row that meets fmt, with fmt's text TOLD by the authors' own Lean function (tested against real Go, not proved from fmt's source: count such statements apart). THE CARD IS WHAT COUNTS. Prove the row's statement (the work); the ties are given (YteajeenmojbjhaaGreatDoorTie.lean); close each card by the builder's one call (the guide's Derived/Test/ToyasCard.lean, 'card_holds'). Laid BY PROGRAM, IN A SANDBOX (cutbox-door.mjs). By AI agents, Wed Nov 11 2026. No macro, syntax, notation, axiom, sorry.
-/
import Derived.Test.YteajeenmojbjhaaGreatDoorRows
import GoSem.ClaimSeven
namespace Go.Proofs.YteajeenmojbjhaaGreatDoor
namespace Rows

/-- THE TIED CARD OF 'sandglasstop.TopHides'. -/
def topHidesCard : Claim7 := { stood := { row := topHidesRow, standIns := [], harness := (true, "9e3f06539f47b2a746d603d7f344e5cdb12837e9b5a7fdd23ba93643227f9349"), looks := true }, kinds := [], alts := [], laidByText := true, laidKinds := [.data, .data], laidTests := true, laidLooks := .later }
def TopHidesCardSaid : Prop := Claim7.holds Tryz.pinned (.plain (OpenSpec.ofChange topHidesSpec)) topHidesCard

/-- THE SECOND FORM's CARD OF 'sandglasstop.TopHides'. -/
def topHidesUptoCard : Claim7 := { stood := { row := topHidesUptoRow, standIns := [], harness := (true, "9e3f06539f47b2a746d603d7f344e5cdb12837e9b5a7fdd23ba93643227f9349"), looks := true }, kinds := [], alts := [], laidByText := true, laidKinds := [.data, .data], laidTests := true, laidLooks := .later }
def TopHidesUptoCardSaid : Prop := Claim7.holds Tryz.pinned (.plain (OpenSpec.upto topHidesSpec)) topHidesUptoCard
end Rows
end Go.Proofs.YteajeenmojbjhaaGreatDoor
