/-
  DERIVED. GIVEN WITH THE SEED: THE CARDS: each row of YthomflbjijjhaaaGreatDoorRows.lean that lists a variable, with what it lists TIED to the program's text (the seventh form; the later family's looks); each row that meets fmt, with fmt's text TOLD by the authors' own Lean function (tested against real Go, not proved from fmt's source: count such statements apart). THE CARD IS WHAT COUNTS. Prove the row's statement (the work); the ties are given (YthomflbjijjhaaaGreatDoorTie.lean); close each card by the builder's one call (the guide's Derived/Test/ToyasCard.lean, 'card_holds'). Laid BY PROGRAM, IN A SANDBOX (cutbox-door.mjs). By AI agents, Wed Nov 11 2026. No macro, syntax, notation, axiom, sorry.
-/
import Derived.Test.YthomflbjijjhaaaGreatDoorRows
import GoSem.ClaimSeven
namespace Go.Proofs.YthomflbjijjhaaaGreatDoor
namespace Rows

/-- THE TIED CARD OF 'garmenttop.TopWages'. -/
def topWagesCard : Claim7 := { stood := { row := topWagesRow, standIns := [], harness := (true, "dcbcaa18cbe8b3f422625490a319f2d44ea263871db57c3a5d7a69246c9fc981"), looks := true }, kinds := [], alts := [], laidByText := true, laidKinds := [.data, .data, .data, .data, .sentinel, .sentinel, .data, .pinned], laidTests := true, laidLooks := .later }
def TopWagesCardSaid : Prop := Claim7.holds Tryz.pinned (.plain (OpenSpec.ofChange topWagesSpec)) topWagesCard

/-- THE SECOND FORM's CARD OF 'garmenttop.TopWages'. -/
def topWagesUptoCard : Claim7 := { stood := { row := topWagesUptoRow, standIns := [], harness := (true, "dcbcaa18cbe8b3f422625490a319f2d44ea263871db57c3a5d7a69246c9fc981"), looks := true }, kinds := [], alts := [], laidByText := true, laidKinds := [.data, .data, .data, .data, .sentinel, .sentinel, .data, .pinned], laidTests := true, laidLooks := .later }
def TopWagesUptoCardSaid : Prop := Claim7.holds Tryz.pinned (.plain (OpenSpec.upto topWagesSpec)) topWagesUptoCard
end Rows
end Go.Proofs.YthomflbjijjhaaaGreatDoor
