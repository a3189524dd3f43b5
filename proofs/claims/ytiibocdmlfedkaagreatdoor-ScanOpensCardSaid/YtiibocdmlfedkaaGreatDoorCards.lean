/-
  DERIVED. GIVEN WITH THE SEED: THE CARDS: each row of YtiibocdmlfedkaaGreatDoorRows.lean that lists a variable, with what it lists TIED to the program's text (the seventh form; the later family's looks); each row that meets fmt, with fmt's text TOLD by the authors' own Lean function (tested against real Go, not proved from fmt's source: count such statements apart). THE CARD IS WHAT COUNTS. Prove the row's statement (the work); the ties are given (YtiibocdmlfedkaaGreatDoorTie.lean); close each card by the builder's one call (the guide's Derived/Test/ToyasCard.lean, 'card_holds'). Laid BY PROGRAM, IN A SANDBOX (cutbox-door.mjs). By AI agents, Wed Nov 11 2026. No macro, syntax, notation, axiom, sorry.
-/
import Derived.Test.YtiibocdmlfedkaaGreatDoorRows
import GoSem.ClaimSeven
namespace Go.Proofs.YtiibocdmlfedkaaGreatDoor
namespace Rows

/-- THE TIED CARD OF 'garmentlaw56.ScanJudges'. -/
def scanJudgesCard : Claim7 := { stood := { row := scanJudgesRow, standIns := [], harness := (true, "417bba79dccb9ce58e924e76c322e565c9b8074cb3f802d8a8422b412ade8753"), looks := true }, kinds := [], alts := [], laidByText := true, laidKinds := [.data, .data, .data, .data, .sentinel, .sentinel, .pinned], laidTests := true, laidLooks := .later }
def ScanJudgesCardSaid : Prop := Claim7.holds Tryz.pinned (.plain (OpenSpec.ofChange scanJudgesSpec)) scanJudgesCard

/-- THE TIED CARD OF 'garmentlaw56.ScanOpens'. -/
def scanOpensCard : Claim7 := { stood := { row := scanOpensRow, standIns := [], harness := (true, "417bba79dccb9ce58e924e76c322e565c9b8074cb3f802d8a8422b412ade8753"), looks := true }, kinds := [], alts := [], laidByText := true, laidKinds := [.data, .data, .data, .data, .sentinel, .sentinel, .pinned], laidTests := true, laidLooks := .later }
def ScanOpensCardSaid : Prop := Claim7.holds Tryz.pinned (.plain (OpenSpec.ofChange scanOpensSpec)) scanOpensCard

/-- THE SECOND FORM's CARD OF 'garmentlaw56.ScanJudges'. -/
def scanJudgesUptoCard : Claim7 := { stood := { row := scanJudgesUptoRow, standIns := [], harness := (true, "417bba79dccb9ce58e924e76c322e565c9b8074cb3f802d8a8422b412ade8753"), looks := true }, kinds := [], alts := [], laidByText := true, laidKinds := [.data, .data, .data, .data, .sentinel, .sentinel, .pinned], laidTests := true, laidLooks := .later }
def ScanJudgesUptoCardSaid : Prop := Claim7.holds Tryz.pinned (.plain (OpenSpec.upto scanJudgesSpec)) scanJudgesUptoCard

/-- THE SECOND FORM's CARD OF 'garmentlaw56.ScanOpens'. -/
def scanOpensUptoCard : Claim7 := { stood := { row := scanOpensUptoRow, standIns := [], harness := (true, "417bba79dccb9ce58e924e76c322e565c9b8074cb3f802d8a8422b412ade8753"), looks := true }, kinds := [], alts := [], laidByText := true, laidKinds := [.data, .data, .data, .data, .sentinel, .sentinel, .pinned], laidTests := true, laidLooks := .later }
def ScanOpensUptoCardSaid : Prop := Claim7.holds Tryz.pinned (.plain (OpenSpec.upto scanOpensSpec)) scanOpensUptoCard
end Rows
end Go.Proofs.YtiibocdmlfedkaaGreatDoor
