/-
  DERIVED. GIVEN WITH THE SEED: THE CARDS: each row of YteafekbddckemaaGreatDoorRows.lean that lists a variable, with what it lists TIED to the program's text (the seventh form; the later family's looks); each row that meets fmt, with fmt's text TOLD by the authors' own Lean function (tested against real Go, not proved from fmt's source: count such statements apart). THE CARD IS WHAT COUNTS. Prove the row's statement (the work); the ties are given (YteafekbddckemaaGreatDoorTie.lean); close each card by the builder's one call (the guide's Derived/Test/ToyasCard.lean, 'card_holds'). Laid BY PROGRAM, IN A SANDBOX (cutbox-door.mjs). By AI agents, Wed Nov 11 2026. No macro, syntax, notation, axiom, sorry.
-/
import Derived.Test.YteafekbddckemaaGreatDoorRows
import GoSem.ClaimSeven
namespace Go.Proofs.YteafekbddckemaaGreatDoor
namespace Rows

/-- THE TIED CARD OF 'garmenttop.TopMarker'. -/
def topMarkerCard : Claim7 := { stood := { row := topMarkerRow, standIns := [], harness := (true, "4279a2697b6f1c047f8e90689711e63be9067f59c3d5991bab591679e344ca58"), looks := true }, kinds := [], alts := [], laidByText := true, laidKinds := [.data, .data, .data, .data, .sentinel, .sentinel, .pinned], laidTests := true, laidLooks := .later }
def TopMarkerCardSaid : Prop := Claim7.holds Tryz.pinned (.plain (OpenSpec.ofChange topMarkerSpec)) topMarkerCard

/-- THE SECOND FORM's CARD OF 'garmenttop.TopMarker'. -/
def topMarkerUptoCard : Claim7 := { stood := { row := topMarkerUptoRow, standIns := [], harness := (true, "4279a2697b6f1c047f8e90689711e63be9067f59c3d5991bab591679e344ca58"), looks := true }, kinds := [], alts := [], laidByText := true, laidKinds := [.data, .data, .data, .data, .sentinel, .sentinel, .pinned], laidTests := true, laidLooks := .later }
def TopMarkerUptoCardSaid : Prop := Claim7.holds Tryz.pinned (.plain (OpenSpec.upto topMarkerSpec)) topMarkerUptoCard
end Rows
end Go.Proofs.YteafekbddckemaaGreatDoor
