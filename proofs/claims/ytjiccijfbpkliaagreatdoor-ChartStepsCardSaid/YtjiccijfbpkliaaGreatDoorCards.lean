/-
  DERIVED. GIVEN WITH THE SEED: THE CARDS: each row of YtjiccijfbpkliaaGreatDoorRows.lean that lists a variable, with what it lists TIED to the program's text (the seventh form; the later family's looks); each row that meets fmt, with fmt's text TOLD by the authors' own Lean function (tested against real Go, not proved from fmt's source: count such statements apart). THE CARD IS WHAT COUNTS. Prove the row's statement (the work); the ties are given (YtjiccijfbpkliaaGreatDoorTie.lean); close each card by the builder's one call (the guide's Derived/Test/ToyasCard.lean, 'card_holds'). Laid BY PROGRAM, IN A SANDBOX (cutbox-door.mjs). By AI agents, Wed Nov 11 2026. No macro, syntax, notation, axiom, sorry.
-/
import Derived.Test.YtjiccijfbpkliaaGreatDoorRows
import GoSem.ClaimSeven
namespace Go.Proofs.YtjiccijfbpkliaaGreatDoor
namespace Rows

/-- THE TIED CARD OF 'garmentlaw18.ChartChecks'. -/
def chartChecksCard : Claim7 := { stood := { row := chartChecksRow, standIns := [], harness := (true, "5de540e536108d975ed2433c0d5ecc69cefe8de7236134fa0fe44080253a1f60"), looks := false }, kinds := [], alts := [], laidByText := true, laidKinds := [.data, .data, .data, .data, .pinned], laidTests := true, laidLooks := .later }
def ChartChecksCardSaid : Prop := Claim7.holds Tryz.pinned (.plain (OpenSpec.ofChange chartChecksSpec)) chartChecksCard

/-- THE TIED CARD OF 'garmentlaw18.ChartValues'. -/
def chartValuesCard : Claim7 := { stood := { row := chartValuesRow, standIns := [], harness := (true, "5de540e536108d975ed2433c0d5ecc69cefe8de7236134fa0fe44080253a1f60"), looks := false }, kinds := [], alts := [], laidByText := true, laidKinds := [.data, .data, .data, .data, .pinned], laidTests := true, laidLooks := .later }
def ChartValuesCardSaid : Prop := Claim7.holds Tryz.pinned (.plain (OpenSpec.ofChange chartValuesSpec)) chartValuesCard

/-- THE TIED CARD OF 'garmentlaw18.ChartChanges'. -/
def chartChangesCard : Claim7 := { stood := { row := chartChangesRow, standIns := [], harness := (true, "5de540e536108d975ed2433c0d5ecc69cefe8de7236134fa0fe44080253a1f60"), looks := false }, kinds := [], alts := [], laidByText := true, laidKinds := [.data, .data, .data, .data, .pinned], laidTests := true, laidLooks := .later }
def ChartChangesCardSaid : Prop := Claim7.holds Tryz.pinned (.plain (OpenSpec.ofChange chartChangesSpec)) chartChangesCard

/-- THE TIED CARD OF 'garmentlaw18.ChartPrints'. -/
def chartPrintsCard : Claim7 := { stood := { row := chartPrintsRow, standIns := [], harness := (true, "5de540e536108d975ed2433c0d5ecc69cefe8de7236134fa0fe44080253a1f60"), looks := false }, kinds := [], alts := [], laidByText := true, laidKinds := [.data, .data, .data, .data, .pinned], laidTests := true, laidLooks := .later }
def ChartPrintsCardSaid : Prop := Claim7.holds Tryz.pinned (.plain (OpenSpec.ofChange chartPrintsSpec)) chartPrintsCard

/-- THE TIED CARD OF 'garmentlaw18.ChartParses'. -/
def chartParsesCard : Claim7 := { stood := { row := chartParsesRow, standIns := [], harness := (true, "5de540e536108d975ed2433c0d5ecc69cefe8de7236134fa0fe44080253a1f60"), looks := false }, kinds := [], alts := [], laidByText := true, laidKinds := [.data, .data, .data, .data, .pinned], laidTests := true, laidLooks := .later }
def ChartParsesCardSaid : Prop := Claim7.holds Tryz.pinned (.plain (OpenSpec.ofChange chartParsesSpec)) chartParsesCard

/-- THE TIED CARD OF 'garmentlaw18.ChartBases'. -/
def chartBasesCard : Claim7 := { stood := { row := chartBasesRow, standIns := [], harness := (true, "5de540e536108d975ed2433c0d5ecc69cefe8de7236134fa0fe44080253a1f60"), looks := false }, kinds := [], alts := [], laidByText := true, laidKinds := [.data, .data, .data, .data, .pinned], laidTests := true, laidLooks := .later }
def ChartBasesCardSaid : Prop := Claim7.holds Tryz.pinned (.plain (OpenSpec.ofChange chartBasesSpec)) chartBasesCard

/-- THE TIED CARD OF 'garmentlaw18.ChartScales'. -/
def chartScalesCard : Claim7 := { stood := { row := chartScalesRow, standIns := [], harness := (true, "5de540e536108d975ed2433c0d5ecc69cefe8de7236134fa0fe44080253a1f60"), looks := false }, kinds := [], alts := [], laidByText := true, laidKinds := [.data, .data, .data, .data, .pinned], laidTests := true, laidLooks := .later }
def ChartScalesCardSaid : Prop := Claim7.holds Tryz.pinned (.plain (OpenSpec.ofChange chartScalesSpec)) chartScalesCard

/-- THE TIED CARD OF 'garmentlaw18.ChartRoundTrip'. -/
def chartRoundTripCard : Claim7 := { stood := { row := chartRoundTripRow, standIns := [], harness := (true, "5de540e536108d975ed2433c0d5ecc69cefe8de7236134fa0fe44080253a1f60"), looks := false }, kinds := [], alts := [], laidByText := true, laidKinds := [.data, .data, .data, .data, .pinned], laidTests := true, laidLooks := .later }
def ChartRoundTripCardSaid : Prop := Claim7.holds Tryz.pinned (.plain (OpenSpec.ofChange chartRoundTripSpec)) chartRoundTripCard

/-- THE TIED CARD OF 'garmentlaw18.ChartTelescopes'. -/
def chartTelescopesCard : Claim7 := { stood := { row := chartTelescopesRow, standIns := [], harness := (true, "5de540e536108d975ed2433c0d5ecc69cefe8de7236134fa0fe44080253a1f60"), looks := false }, kinds := [], alts := [], laidByText := true, laidKinds := [.data, .data, .data, .data, .pinned], laidTests := true, laidLooks := .later }
def ChartTelescopesCardSaid : Prop := Claim7.holds Tryz.pinned (.plain (OpenSpec.ofChange chartTelescopesSpec)) chartTelescopesCard

/-- THE TIED CARD OF 'garmentlaw18.ChartSteps'. -/
def chartStepsCard : Claim7 := { stood := { row := chartStepsRow, standIns := [], harness := (true, "5de540e536108d975ed2433c0d5ecc69cefe8de7236134fa0fe44080253a1f60"), looks := false }, kinds := [], alts := [], laidByText := true, laidKinds := [.data, .data, .data, .data, .pinned], laidTests := true, laidLooks := .later }
def ChartStepsCardSaid : Prop := Claim7.holds Tryz.pinned (.plain (OpenSpec.ofChange chartStepsSpec)) chartStepsCard

/-- THE SECOND FORM's CARD OF 'garmentlaw18.ChartChecks'. -/
def chartChecksUptoCard : Claim7 := { stood := { row := chartChecksUptoRow, standIns := [], harness := (true, "5de540e536108d975ed2433c0d5ecc69cefe8de7236134fa0fe44080253a1f60"), looks := false }, kinds := [], alts := [], laidByText := true, laidKinds := [.data, .data, .data, .data, .pinned], laidTests := true, laidLooks := .later }
def ChartChecksUptoCardSaid : Prop := Claim7.holds Tryz.pinned (.plain (OpenSpec.upto chartChecksSpec)) chartChecksUptoCard

/-- THE SECOND FORM's CARD OF 'garmentlaw18.ChartValues'. -/
def chartValuesUptoCard : Claim7 := { stood := { row := chartValuesUptoRow, standIns := [], harness := (true, "5de540e536108d975ed2433c0d5ecc69cefe8de7236134fa0fe44080253a1f60"), looks := false }, kinds := [], alts := [], laidByText := true, laidKinds := [.data, .data, .data, .data, .pinned], laidTests := true, laidLooks := .later }
def ChartValuesUptoCardSaid : Prop := Claim7.holds Tryz.pinned (.plain (OpenSpec.upto chartValuesSpec)) chartValuesUptoCard

/-- THE SECOND FORM's CARD OF 'garmentlaw18.ChartChanges'. -/
def chartChangesUptoCard : Claim7 := { stood := { row := chartChangesUptoRow, standIns := [], harness := (true, "5de540e536108d975ed2433c0d5ecc69cefe8de7236134fa0fe44080253a1f60"), looks := false }, kinds := [], alts := [], laidByText := true, laidKinds := [.data, .data, .data, .data, .pinned], laidTests := true, laidLooks := .later }
def ChartChangesUptoCardSaid : Prop := Claim7.holds Tryz.pinned (.plain (OpenSpec.upto chartChangesSpec)) chartChangesUptoCard

/-- THE SECOND FORM's CARD OF 'garmentlaw18.ChartPrints'. -/
def chartPrintsUptoCard : Claim7 := { stood := { row := chartPrintsUptoRow, standIns := [], harness := (true, "5de540e536108d975ed2433c0d5ecc69cefe8de7236134fa0fe44080253a1f60"), looks := false }, kinds := [], alts := [], laidByText := true, laidKinds := [.data, .data, .data, .data, .pinned], laidTests := true, laidLooks := .later }
def ChartPrintsUptoCardSaid : Prop := Claim7.holds Tryz.pinned (.plain (OpenSpec.upto chartPrintsSpec)) chartPrintsUptoCard

/-- THE SECOND FORM's CARD OF 'garmentlaw18.ChartParses'. -/
def chartParsesUptoCard : Claim7 := { stood := { row := chartParsesUptoRow, standIns := [], harness := (true, "5de540e536108d975ed2433c0d5ecc69cefe8de7236134fa0fe44080253a1f60"), looks := false }, kinds := [], alts := [], laidByText := true, laidKinds := [.data, .data, .data, .data, .pinned], laidTests := true, laidLooks := .later }
def ChartParsesUptoCardSaid : Prop := Claim7.holds Tryz.pinned (.plain (OpenSpec.upto chartParsesSpec)) chartParsesUptoCard

/-- THE SECOND FORM's CARD OF 'garmentlaw18.ChartBases'. -/
def chartBasesUptoCard : Claim7 := { stood := { row := chartBasesUptoRow, standIns := [], harness := (true, "5de540e536108d975ed2433c0d5ecc69cefe8de7236134fa0fe44080253a1f60"), looks := false }, kinds := [], alts := [], laidByText := true, laidKinds := [.data, .data, .data, .data, .pinned], laidTests := true, laidLooks := .later }
def ChartBasesUptoCardSaid : Prop := Claim7.holds Tryz.pinned (.plain (OpenSpec.upto chartBasesSpec)) chartBasesUptoCard

/-- THE SECOND FORM's CARD OF 'garmentlaw18.ChartScales'. -/
def chartScalesUptoCard : Claim7 := { stood := { row := chartScalesUptoRow, standIns := [], harness := (true, "5de540e536108d975ed2433c0d5ecc69cefe8de7236134fa0fe44080253a1f60"), looks := false }, kinds := [], alts := [], laidByText := true, laidKinds := [.data, .data, .data, .data, .pinned], laidTests := true, laidLooks := .later }
def ChartScalesUptoCardSaid : Prop := Claim7.holds Tryz.pinned (.plain (OpenSpec.upto chartScalesSpec)) chartScalesUptoCard

/-- THE SECOND FORM's CARD OF 'garmentlaw18.ChartRoundTrip'. -/
def chartRoundTripUptoCard : Claim7 := { stood := { row := chartRoundTripUptoRow, standIns := [], harness := (true, "5de540e536108d975ed2433c0d5ecc69cefe8de7236134fa0fe44080253a1f60"), looks := false }, kinds := [], alts := [], laidByText := true, laidKinds := [.data, .data, .data, .data, .pinned], laidTests := true, laidLooks := .later }
def ChartRoundTripUptoCardSaid : Prop := Claim7.holds Tryz.pinned (.plain (OpenSpec.upto chartRoundTripSpec)) chartRoundTripUptoCard

/-- THE SECOND FORM's CARD OF 'garmentlaw18.ChartTelescopes'. -/
def chartTelescopesUptoCard : Claim7 := { stood := { row := chartTelescopesUptoRow, standIns := [], harness := (true, "5de540e536108d975ed2433c0d5ecc69cefe8de7236134fa0fe44080253a1f60"), looks := false }, kinds := [], alts := [], laidByText := true, laidKinds := [.data, .data, .data, .data, .pinned], laidTests := true, laidLooks := .later }
def ChartTelescopesUptoCardSaid : Prop := Claim7.holds Tryz.pinned (.plain (OpenSpec.upto chartTelescopesSpec)) chartTelescopesUptoCard

/-- THE SECOND FORM's CARD OF 'garmentlaw18.ChartSteps'. -/
def chartStepsUptoCard : Claim7 := { stood := { row := chartStepsUptoRow, standIns := [], harness := (true, "5de540e536108d975ed2433c0d5ecc69cefe8de7236134fa0fe44080253a1f60"), looks := false }, kinds := [], alts := [], laidByText := true, laidKinds := [.data, .data, .data, .data, .pinned], laidTests := true, laidLooks := .later }
def ChartStepsUptoCardSaid : Prop := Claim7.holds Tryz.pinned (.plain (OpenSpec.upto chartStepsSpec)) chartStepsUptoCard
end Rows
end Go.Proofs.YtjiccijfbpkliaaGreatDoor
