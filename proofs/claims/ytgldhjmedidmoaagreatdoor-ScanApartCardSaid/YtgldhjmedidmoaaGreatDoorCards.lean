/-
  DERIVED. GIVEN WITH THE SEED: THE CARDS: each row of YtgldhjmedidmoaaGreatDoorRows.lean that lists a variable, with what it lists TIED to the program's text (the seventh form; the later family's looks); each row that meets fmt, with fmt's text TOLD by the authors' own Lean function (tested against real Go, not proved from fmt's source: count such statements apart). THE CARD IS WHAT COUNTS. Prove the row's statement (the work); the ties are given (YtgldhjmedidmoaaGreatDoorTie.lean); close each card by the builder's one call (the guide's Derived/Test/ToyasCard.lean, 'card_holds'). Laid BY PROGRAM, IN A SANDBOX (cutbox-door.mjs). By AI agents, Wed Nov 11 2026. No macro, syntax, notation, axiom, sorry.
-/
import Derived.Test.YtgldhjmedidmoaaGreatDoorRows
import GoSem.ClaimSeven
namespace Go.Proofs.YtgldhjmedidmoaaGreatDoor
namespace Rows

/-- THE TIED CARD OF 'garmentlaw56.ScanChecks'. -/
def scanChecksCard : Claim7 := { stood := { row := scanChecksRow, standIns := [], harness := (true, "9b9a8aa9b0f78d4fa669fc9b3d64a2a440d092a6c87c41ec5b3ac58f21145613"), looks := true }, kinds := [], alts := [], laidByText := true, laidKinds := [.data, .data, .data, .data, .sentinel, .sentinel, .pinned], laidTests := true, laidLooks := .later }
def ScanChecksCardSaid : Prop := Claim7.holds Tryz.pinned (.plain (OpenSpec.ofChange scanChecksSpec)) scanChecksCard

/-- THE TIED CARD OF 'garmentlaw56.ScanJudges'. -/
def scanJudgesCard : Claim7 := { stood := { row := scanJudgesRow, standIns := [], harness := (true, "9b9a8aa9b0f78d4fa669fc9b3d64a2a440d092a6c87c41ec5b3ac58f21145613"), looks := true }, kinds := [], alts := [], laidByText := true, laidKinds := [.data, .data, .data, .data, .sentinel, .sentinel, .pinned], laidTests := true, laidLooks := .later }
def ScanJudgesCardSaid : Prop := Claim7.holds Tryz.pinned (.plain (OpenSpec.ofChange scanJudgesSpec)) scanJudgesCard

/-- THE TIED CARD OF 'garmentlaw56.ScanOpens'. -/
def scanOpensCard : Claim7 := { stood := { row := scanOpensRow, standIns := [], harness := (true, "9b9a8aa9b0f78d4fa669fc9b3d64a2a440d092a6c87c41ec5b3ac58f21145613"), looks := true }, kinds := [], alts := [], laidByText := true, laidKinds := [.data, .data, .data, .data, .sentinel, .sentinel, .pinned], laidTests := true, laidLooks := .later }
def ScanOpensCardSaid : Prop := Claim7.holds Tryz.pinned (.plain (OpenSpec.ofChange scanOpensSpec)) scanOpensCard

/-- THE TIED CARD OF 'garmentlaw56.ScanParses'. -/
def scanParsesCard : Claim7 := { stood := { row := scanParsesRow, standIns := [], harness := (true, "9b9a8aa9b0f78d4fa669fc9b3d64a2a440d092a6c87c41ec5b3ac58f21145613"), looks := true }, kinds := [], alts := [], laidByText := true, laidKinds := [.data, .data, .data, .data, .sentinel, .sentinel, .pinned], laidTests := true, laidLooks := .later }
def ScanParsesCardSaid : Prop := Claim7.holds Tryz.pinned (.plain (OpenSpec.ofChange scanParsesSpec)) scanParsesCard

/-- THE TIED CARD OF 'garmentlaw56.ScanTexts'. -/
def scanTextsCard : Claim7 := { stood := { row := scanTextsRow, standIns := [], harness := (true, "9b9a8aa9b0f78d4fa669fc9b3d64a2a440d092a6c87c41ec5b3ac58f21145613"), looks := true }, kinds := [], alts := [], laidByText := true, laidKinds := [.data, .data, .data, .data, .sentinel, .sentinel, .pinned], laidTests := true, laidLooks := .later }
def ScanTextsCardSaid : Prop := Claim7.holds Tryz.pinned (.plain (OpenSpec.ofChange scanTextsSpec)) scanTextsCard

/-- THE TIED CARD OF 'garmentlaw56.ScanOnce'. -/
def scanOnceCard : Claim7 := { stood := { row := scanOnceRow, standIns := [], harness := (true, "9b9a8aa9b0f78d4fa669fc9b3d64a2a440d092a6c87c41ec5b3ac58f21145613"), looks := true }, kinds := [], alts := [], laidByText := true, laidKinds := [.data, .data, .data, .data, .sentinel, .sentinel, .pinned], laidTests := true, laidLooks := .later }
def ScanOnceCardSaid : Prop := Claim7.holds Tryz.pinned (.plain (OpenSpec.ofChange scanOnceSpec)) scanOnceCard

/-- THE TIED CARD OF 'garmentlaw56.ScanFirst'. -/
def scanFirstCard : Claim7 := { stood := { row := scanFirstRow, standIns := [], harness := (true, "9b9a8aa9b0f78d4fa669fc9b3d64a2a440d092a6c87c41ec5b3ac58f21145613"), looks := true }, kinds := [], alts := [], laidByText := true, laidKinds := [.data, .data, .data, .data, .sentinel, .sentinel, .pinned], laidTests := true, laidLooks := .later }
def ScanFirstCardSaid : Prop := Claim7.holds Tryz.pinned (.plain (OpenSpec.ofChange scanFirstSpec)) scanFirstCard

/-- THE TIED CARD OF 'garmentlaw56.ScanApart'. -/
def scanApartCard : Claim7 := { stood := { row := scanApartRow, standIns := [], harness := (true, "9b9a8aa9b0f78d4fa669fc9b3d64a2a440d092a6c87c41ec5b3ac58f21145613"), looks := true }, kinds := [], alts := [], laidByText := true, laidKinds := [.data, .data, .data, .data, .sentinel, .sentinel, .pinned], laidTests := true, laidLooks := .later }
def ScanApartCardSaid : Prop := Claim7.holds Tryz.pinned (.plain (OpenSpec.ofChange scanApartSpec)) scanApartCard

/-- THE TIED CARD OF 'garmentlaw56.ScanAgain'. -/
def scanAgainCard : Claim7 := { stood := { row := scanAgainRow, standIns := [], harness := (true, "9b9a8aa9b0f78d4fa669fc9b3d64a2a440d092a6c87c41ec5b3ac58f21145613"), looks := true }, kinds := [], alts := [], laidByText := true, laidKinds := [.data, .data, .data, .data, .sentinel, .sentinel, .pinned], laidTests := true, laidLooks := .later }
def ScanAgainCardSaid : Prop := Claim7.holds Tryz.pinned (.plain (OpenSpec.ofChange scanAgainSpec)) scanAgainCard

/-- THE TIED CARD OF 'garmentlaw56.ScanOpen'. -/
def scanOpenCard : Claim7 := { stood := { row := scanOpenRow, standIns := [], harness := (true, "9b9a8aa9b0f78d4fa669fc9b3d64a2a440d092a6c87c41ec5b3ac58f21145613"), looks := true }, kinds := [], alts := [], laidByText := true, laidKinds := [.data, .data, .data, .data, .sentinel, .sentinel, .pinned], laidTests := true, laidLooks := .later }
def ScanOpenCardSaid : Prop := Claim7.holds Tryz.pinned (.plain (OpenSpec.ofChange scanOpenSpec)) scanOpenCard

/-- THE TIED CARD OF 'garmentlaw56.ScanComplete'. -/
def scanCompleteCard : Claim7 := { stood := { row := scanCompleteRow, standIns := [], harness := (true, "9b9a8aa9b0f78d4fa669fc9b3d64a2a440d092a6c87c41ec5b3ac58f21145613"), looks := true }, kinds := [], alts := [], laidByText := true, laidKinds := [.data, .data, .data, .data, .sentinel, .sentinel, .pinned], laidTests := true, laidLooks := .later }
def ScanCompleteCardSaid : Prop := Claim7.holds Tryz.pinned (.plain (OpenSpec.ofChange scanCompleteSpec)) scanCompleteCard

/-- THE SECOND FORM's CARD OF 'garmentlaw56.ScanChecks'. -/
def scanChecksUptoCard : Claim7 := { stood := { row := scanChecksUptoRow, standIns := [], harness := (true, "9b9a8aa9b0f78d4fa669fc9b3d64a2a440d092a6c87c41ec5b3ac58f21145613"), looks := true }, kinds := [], alts := [], laidByText := true, laidKinds := [.data, .data, .data, .data, .sentinel, .sentinel, .pinned], laidTests := true, laidLooks := .later }
def ScanChecksUptoCardSaid : Prop := Claim7.holds Tryz.pinned (.plain (OpenSpec.upto scanChecksSpec)) scanChecksUptoCard

/-- THE SECOND FORM's CARD OF 'garmentlaw56.ScanJudges'. -/
def scanJudgesUptoCard : Claim7 := { stood := { row := scanJudgesUptoRow, standIns := [], harness := (true, "9b9a8aa9b0f78d4fa669fc9b3d64a2a440d092a6c87c41ec5b3ac58f21145613"), looks := true }, kinds := [], alts := [], laidByText := true, laidKinds := [.data, .data, .data, .data, .sentinel, .sentinel, .pinned], laidTests := true, laidLooks := .later }
def ScanJudgesUptoCardSaid : Prop := Claim7.holds Tryz.pinned (.plain (OpenSpec.upto scanJudgesSpec)) scanJudgesUptoCard

/-- THE SECOND FORM's CARD OF 'garmentlaw56.ScanOpens'. -/
def scanOpensUptoCard : Claim7 := { stood := { row := scanOpensUptoRow, standIns := [], harness := (true, "9b9a8aa9b0f78d4fa669fc9b3d64a2a440d092a6c87c41ec5b3ac58f21145613"), looks := true }, kinds := [], alts := [], laidByText := true, laidKinds := [.data, .data, .data, .data, .sentinel, .sentinel, .pinned], laidTests := true, laidLooks := .later }
def ScanOpensUptoCardSaid : Prop := Claim7.holds Tryz.pinned (.plain (OpenSpec.upto scanOpensSpec)) scanOpensUptoCard

/-- THE SECOND FORM's CARD OF 'garmentlaw56.ScanParses'. -/
def scanParsesUptoCard : Claim7 := { stood := { row := scanParsesUptoRow, standIns := [], harness := (true, "9b9a8aa9b0f78d4fa669fc9b3d64a2a440d092a6c87c41ec5b3ac58f21145613"), looks := true }, kinds := [], alts := [], laidByText := true, laidKinds := [.data, .data, .data, .data, .sentinel, .sentinel, .pinned], laidTests := true, laidLooks := .later }
def ScanParsesUptoCardSaid : Prop := Claim7.holds Tryz.pinned (.plain (OpenSpec.upto scanParsesSpec)) scanParsesUptoCard

/-- THE SECOND FORM's CARD OF 'garmentlaw56.ScanTexts'. -/
def scanTextsUptoCard : Claim7 := { stood := { row := scanTextsUptoRow, standIns := [], harness := (true, "9b9a8aa9b0f78d4fa669fc9b3d64a2a440d092a6c87c41ec5b3ac58f21145613"), looks := true }, kinds := [], alts := [], laidByText := true, laidKinds := [.data, .data, .data, .data, .sentinel, .sentinel, .pinned], laidTests := true, laidLooks := .later }
def ScanTextsUptoCardSaid : Prop := Claim7.holds Tryz.pinned (.plain (OpenSpec.upto scanTextsSpec)) scanTextsUptoCard

/-- THE SECOND FORM's CARD OF 'garmentlaw56.ScanOnce'. -/
def scanOnceUptoCard : Claim7 := { stood := { row := scanOnceUptoRow, standIns := [], harness := (true, "9b9a8aa9b0f78d4fa669fc9b3d64a2a440d092a6c87c41ec5b3ac58f21145613"), looks := true }, kinds := [], alts := [], laidByText := true, laidKinds := [.data, .data, .data, .data, .sentinel, .sentinel, .pinned], laidTests := true, laidLooks := .later }
def ScanOnceUptoCardSaid : Prop := Claim7.holds Tryz.pinned (.plain (OpenSpec.upto scanOnceSpec)) scanOnceUptoCard

/-- THE SECOND FORM's CARD OF 'garmentlaw56.ScanFirst'. -/
def scanFirstUptoCard : Claim7 := { stood := { row := scanFirstUptoRow, standIns := [], harness := (true, "9b9a8aa9b0f78d4fa669fc9b3d64a2a440d092a6c87c41ec5b3ac58f21145613"), looks := true }, kinds := [], alts := [], laidByText := true, laidKinds := [.data, .data, .data, .data, .sentinel, .sentinel, .pinned], laidTests := true, laidLooks := .later }
def ScanFirstUptoCardSaid : Prop := Claim7.holds Tryz.pinned (.plain (OpenSpec.upto scanFirstSpec)) scanFirstUptoCard

/-- THE SECOND FORM's CARD OF 'garmentlaw56.ScanApart'. -/
def scanApartUptoCard : Claim7 := { stood := { row := scanApartUptoRow, standIns := [], harness := (true, "9b9a8aa9b0f78d4fa669fc9b3d64a2a440d092a6c87c41ec5b3ac58f21145613"), looks := true }, kinds := [], alts := [], laidByText := true, laidKinds := [.data, .data, .data, .data, .sentinel, .sentinel, .pinned], laidTests := true, laidLooks := .later }
def ScanApartUptoCardSaid : Prop := Claim7.holds Tryz.pinned (.plain (OpenSpec.upto scanApartSpec)) scanApartUptoCard

/-- THE SECOND FORM's CARD OF 'garmentlaw56.ScanAgain'. -/
def scanAgainUptoCard : Claim7 := { stood := { row := scanAgainUptoRow, standIns := [], harness := (true, "9b9a8aa9b0f78d4fa669fc9b3d64a2a440d092a6c87c41ec5b3ac58f21145613"), looks := true }, kinds := [], alts := [], laidByText := true, laidKinds := [.data, .data, .data, .data, .sentinel, .sentinel, .pinned], laidTests := true, laidLooks := .later }
def ScanAgainUptoCardSaid : Prop := Claim7.holds Tryz.pinned (.plain (OpenSpec.upto scanAgainSpec)) scanAgainUptoCard

/-- THE SECOND FORM's CARD OF 'garmentlaw56.ScanOpen'. -/
def scanOpenUptoCard : Claim7 := { stood := { row := scanOpenUptoRow, standIns := [], harness := (true, "9b9a8aa9b0f78d4fa669fc9b3d64a2a440d092a6c87c41ec5b3ac58f21145613"), looks := true }, kinds := [], alts := [], laidByText := true, laidKinds := [.data, .data, .data, .data, .sentinel, .sentinel, .pinned], laidTests := true, laidLooks := .later }
def ScanOpenUptoCardSaid : Prop := Claim7.holds Tryz.pinned (.plain (OpenSpec.upto scanOpenSpec)) scanOpenUptoCard

/-- THE SECOND FORM's CARD OF 'garmentlaw56.ScanComplete'. -/
def scanCompleteUptoCard : Claim7 := { stood := { row := scanCompleteUptoRow, standIns := [], harness := (true, "9b9a8aa9b0f78d4fa669fc9b3d64a2a440d092a6c87c41ec5b3ac58f21145613"), looks := true }, kinds := [], alts := [], laidByText := true, laidKinds := [.data, .data, .data, .data, .sentinel, .sentinel, .pinned], laidTests := true, laidLooks := .later }
def ScanCompleteUptoCardSaid : Prop := Claim7.holds Tryz.pinned (.plain (OpenSpec.upto scanCompleteSpec)) scanCompleteUptoCard
end Rows
end Go.Proofs.YtgldhjmedidmoaaGreatDoor
