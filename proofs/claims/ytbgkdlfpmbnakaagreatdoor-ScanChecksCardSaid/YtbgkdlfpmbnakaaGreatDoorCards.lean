/-
  DERIVED. GIVEN WITH THE SEED: THE CARDS: each row of YtbgkdlfpmbnakaaGreatDoorRows.lean that lists a variable, with what it lists TIED to the program's text (the seventh form; the later family's looks); each row that meets fmt, with fmt's text TOLD by the authors' own Lean function (tested against real Go, not proved from fmt's source: count such statements apart). THE CARD IS WHAT COUNTS. Prove the row's statement (the work); the ties are given (YtbgkdlfpmbnakaaGreatDoorTie.lean); close each card by the builder's one call (the guide's Derived/Test/ToyasCard.lean, 'card_holds'). Laid BY PROGRAM, IN A SANDBOX (cutbox-door.mjs). By AI agents, Wed Nov 11 2026. No macro, syntax, notation, axiom, sorry.
-/
import Derived.Test.YtbgkdlfpmbnakaaGreatDoorRows
import GoSem.ClaimSeven
namespace Go.Proofs.YtbgkdlfpmbnakaaGreatDoor
namespace Rows

/-- THE TIED CARD OF 'garmentlaw56.ScanChecks'. -/
def scanChecksCard : Claim7 := { stood := { row := scanChecksRow, standIns := [], harness := (true, "778b4f16a62f8f421fcdae3cc79b1deb55ad6e79779daa3a9d17f707f392c661"), looks := true }, kinds := [], alts := [], laidByText := true, laidKinds := [.data, .data, .data, .data, .sentinel, .sentinel, .pinned], laidTests := true, laidLooks := .later }
def ScanChecksCardSaid : Prop := Claim7.holds Tryz.pinned (.plain (OpenSpec.ofChange scanChecksSpec)) scanChecksCard

/-- THE TIED CARD OF 'garmentlaw56.ScanJudges'. -/
def scanJudgesCard : Claim7 := { stood := { row := scanJudgesRow, standIns := [], harness := (true, "778b4f16a62f8f421fcdae3cc79b1deb55ad6e79779daa3a9d17f707f392c661"), looks := true }, kinds := [], alts := [], laidByText := true, laidKinds := [.data, .data, .data, .data, .sentinel, .sentinel, .pinned], laidTests := true, laidLooks := .later }
def ScanJudgesCardSaid : Prop := Claim7.holds Tryz.pinned (.plain (OpenSpec.ofChange scanJudgesSpec)) scanJudgesCard

/-- THE TIED CARD OF 'garmentlaw56.ScanOpens'. -/
def scanOpensCard : Claim7 := { stood := { row := scanOpensRow, standIns := [], harness := (true, "778b4f16a62f8f421fcdae3cc79b1deb55ad6e79779daa3a9d17f707f392c661"), looks := true }, kinds := [], alts := [], laidByText := true, laidKinds := [.data, .data, .data, .data, .sentinel, .sentinel, .pinned], laidTests := true, laidLooks := .later }
def ScanOpensCardSaid : Prop := Claim7.holds Tryz.pinned (.plain (OpenSpec.ofChange scanOpensSpec)) scanOpensCard

/-- THE TIED CARD OF 'garmentlaw56.ScanParses'. -/
def scanParsesCard : Claim7 := { stood := { row := scanParsesRow, standIns := [], harness := (true, "778b4f16a62f8f421fcdae3cc79b1deb55ad6e79779daa3a9d17f707f392c661"), looks := true }, kinds := [], alts := [], laidByText := true, laidKinds := [.data, .data, .data, .data, .sentinel, .sentinel, .pinned], laidTests := true, laidLooks := .later }
def ScanParsesCardSaid : Prop := Claim7.holds Tryz.pinned (.plain (OpenSpec.ofChange scanParsesSpec)) scanParsesCard

/-- THE TIED CARD OF 'garmentlaw56.ScanOnce'. -/
def scanOnceCard : Claim7 := { stood := { row := scanOnceRow, standIns := [], harness := (true, "778b4f16a62f8f421fcdae3cc79b1deb55ad6e79779daa3a9d17f707f392c661"), looks := true }, kinds := [], alts := [], laidByText := true, laidKinds := [.data, .data, .data, .data, .sentinel, .sentinel, .pinned], laidTests := true, laidLooks := .later }
def ScanOnceCardSaid : Prop := Claim7.holds Tryz.pinned (.plain (OpenSpec.ofChange scanOnceSpec)) scanOnceCard

/-- THE TIED CARD OF 'garmentlaw56.ScanComplete'. -/
def scanCompleteCard : Claim7 := { stood := { row := scanCompleteRow, standIns := [], harness := (true, "778b4f16a62f8f421fcdae3cc79b1deb55ad6e79779daa3a9d17f707f392c661"), looks := true }, kinds := [], alts := [], laidByText := true, laidKinds := [.data, .data, .data, .data, .sentinel, .sentinel, .pinned], laidTests := true, laidLooks := .later }
def ScanCompleteCardSaid : Prop := Claim7.holds Tryz.pinned (.plain (OpenSpec.ofChange scanCompleteSpec)) scanCompleteCard

/-- THE SECOND FORM's CARD OF 'garmentlaw56.ScanChecks'. -/
def scanChecksUptoCard : Claim7 := { stood := { row := scanChecksUptoRow, standIns := [], harness := (true, "778b4f16a62f8f421fcdae3cc79b1deb55ad6e79779daa3a9d17f707f392c661"), looks := true }, kinds := [], alts := [], laidByText := true, laidKinds := [.data, .data, .data, .data, .sentinel, .sentinel, .pinned], laidTests := true, laidLooks := .later }
def ScanChecksUptoCardSaid : Prop := Claim7.holds Tryz.pinned (.plain (OpenSpec.upto scanChecksSpec)) scanChecksUptoCard

/-- THE SECOND FORM's CARD OF 'garmentlaw56.ScanJudges'. -/
def scanJudgesUptoCard : Claim7 := { stood := { row := scanJudgesUptoRow, standIns := [], harness := (true, "778b4f16a62f8f421fcdae3cc79b1deb55ad6e79779daa3a9d17f707f392c661"), looks := true }, kinds := [], alts := [], laidByText := true, laidKinds := [.data, .data, .data, .data, .sentinel, .sentinel, .pinned], laidTests := true, laidLooks := .later }
def ScanJudgesUptoCardSaid : Prop := Claim7.holds Tryz.pinned (.plain (OpenSpec.upto scanJudgesSpec)) scanJudgesUptoCard

/-- THE SECOND FORM's CARD OF 'garmentlaw56.ScanOpens'. -/
def scanOpensUptoCard : Claim7 := { stood := { row := scanOpensUptoRow, standIns := [], harness := (true, "778b4f16a62f8f421fcdae3cc79b1deb55ad6e79779daa3a9d17f707f392c661"), looks := true }, kinds := [], alts := [], laidByText := true, laidKinds := [.data, .data, .data, .data, .sentinel, .sentinel, .pinned], laidTests := true, laidLooks := .later }
def ScanOpensUptoCardSaid : Prop := Claim7.holds Tryz.pinned (.plain (OpenSpec.upto scanOpensSpec)) scanOpensUptoCard

/-- THE SECOND FORM's CARD OF 'garmentlaw56.ScanParses'. -/
def scanParsesUptoCard : Claim7 := { stood := { row := scanParsesUptoRow, standIns := [], harness := (true, "778b4f16a62f8f421fcdae3cc79b1deb55ad6e79779daa3a9d17f707f392c661"), looks := true }, kinds := [], alts := [], laidByText := true, laidKinds := [.data, .data, .data, .data, .sentinel, .sentinel, .pinned], laidTests := true, laidLooks := .later }
def ScanParsesUptoCardSaid : Prop := Claim7.holds Tryz.pinned (.plain (OpenSpec.upto scanParsesSpec)) scanParsesUptoCard

/-- THE SECOND FORM's CARD OF 'garmentlaw56.ScanOnce'. -/
def scanOnceUptoCard : Claim7 := { stood := { row := scanOnceUptoRow, standIns := [], harness := (true, "778b4f16a62f8f421fcdae3cc79b1deb55ad6e79779daa3a9d17f707f392c661"), looks := true }, kinds := [], alts := [], laidByText := true, laidKinds := [.data, .data, .data, .data, .sentinel, .sentinel, .pinned], laidTests := true, laidLooks := .later }
def ScanOnceUptoCardSaid : Prop := Claim7.holds Tryz.pinned (.plain (OpenSpec.upto scanOnceSpec)) scanOnceUptoCard

/-- THE SECOND FORM's CARD OF 'garmentlaw56.ScanComplete'. -/
def scanCompleteUptoCard : Claim7 := { stood := { row := scanCompleteUptoRow, standIns := [], harness := (true, "778b4f16a62f8f421fcdae3cc79b1deb55ad6e79779daa3a9d17f707f392c661"), looks := true }, kinds := [], alts := [], laidByText := true, laidKinds := [.data, .data, .data, .data, .sentinel, .sentinel, .pinned], laidTests := true, laidLooks := .later }
def ScanCompleteUptoCardSaid : Prop := Claim7.holds Tryz.pinned (.plain (OpenSpec.upto scanCompleteSpec)) scanCompleteUptoCard
end Rows
end Go.Proofs.YtbgkdlfpmbnakaaGreatDoor
