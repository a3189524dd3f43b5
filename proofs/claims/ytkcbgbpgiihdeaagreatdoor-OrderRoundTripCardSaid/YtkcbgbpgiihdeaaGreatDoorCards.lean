/-
  DERIVED. GIVEN WITH THE SEED: THE CARDS: each row of YtkcbgbpgiihdeaaGreatDoorRows.lean that lists a variable, with what it lists TIED to the program's text (the seventh form; the later family's looks); each row that meets fmt, with fmt's text TOLD by the authors' own Lean function (tested against real Go, not proved from fmt's source: count such statements apart). THE CARD IS WHAT COUNTS. Prove the row's statement (the work); the ties are given (YtkcbgbpgiihdeaaGreatDoorTie.lean); close each card by the builder's one call (the guide's Derived/Test/ToyasCard.lean, 'card_holds'). Laid BY PROGRAM, IN A SANDBOX (cutbox-door.mjs). By AI agents, Wed Nov 11 2026. No macro, syntax, notation, axiom, sorry.
-/
import Derived.Test.YtkcbgbpgiihdeaaGreatDoorRows
import GoSem.ClaimSeven
namespace Go.Proofs.YtkcbgbpgiihdeaaGreatDoor
namespace Rows

/-- THE TIED CARD OF 'garmentlaw35.OrderParses'. -/
def orderParsesCard : Claim7 := { stood := { row := orderParsesRow, standIns := [], harness := (true, "b7b2ef6dae02f7dba4f1d34b92a6c9307dcf5b8b4792425510231c364b9e205c"), looks := false }, kinds := [], alts := [], laidByText := true, laidKinds := [.data, .data, .data, .data, .pinned], laidTests := true, laidLooks := .later }
def OrderParsesCardSaid : Prop := Claim7.holds Tryz.pinned (.plain (OpenSpec.ofChange orderParsesSpec)) orderParsesCard

/-- THE TIED CARD OF 'garmentlaw35.OrderPrints'. -/
def orderPrintsCard : Claim7 := { stood := { row := orderPrintsRow, standIns := [], harness := (true, "b7b2ef6dae02f7dba4f1d34b92a6c9307dcf5b8b4792425510231c364b9e205c"), looks := false }, kinds := [], alts := [], laidByText := true, laidKinds := [.data, .data, .data, .data, .pinned], laidTests := true, laidLooks := .later }
def OrderPrintsCardSaid : Prop := Claim7.holds Tryz.pinned (.plain (OpenSpec.ofChange orderPrintsSpec)) orderPrintsCard

/-- THE TIED CARD OF 'garmentlaw35.OrderSums'. -/
def orderSumsCard : Claim7 := { stood := { row := orderSumsRow, standIns := [], harness := (true, "b7b2ef6dae02f7dba4f1d34b92a6c9307dcf5b8b4792425510231c364b9e205c"), looks := false }, kinds := [], alts := [], laidByText := true, laidKinds := [.data, .data, .data, .data, .pinned], laidTests := true, laidLooks := .later }
def OrderSumsCardSaid : Prop := Claim7.holds Tryz.pinned (.plain (OpenSpec.ofChange orderSumsSpec)) orderSumsCard

/-- THE TIED CARD OF 'garmentlaw35.OrderRoundTrip'. -/
def orderRoundTripCard : Claim7 := { stood := { row := orderRoundTripRow, standIns := [], harness := (true, "b7b2ef6dae02f7dba4f1d34b92a6c9307dcf5b8b4792425510231c364b9e205c"), looks := false }, kinds := [], alts := [], laidByText := true, laidKinds := [.data, .data, .data, .data, .pinned], laidTests := true, laidLooks := .later }
def OrderRoundTripCardSaid : Prop := Claim7.holds Tryz.pinned (.plain (OpenSpec.ofChange orderRoundTripSpec)) orderRoundTripCard

/-- THE TIED CARD OF 'garmentlaw35.OrderTexts'. -/
def orderTextsCard : Claim7 := { stood := { row := orderTextsRow, standIns := [], harness := (true, "b7b2ef6dae02f7dba4f1d34b92a6c9307dcf5b8b4792425510231c364b9e205c"), looks := false }, kinds := [], alts := [], laidByText := true, laidKinds := [.data, .data, .data, .data, .pinned], laidTests := true, laidLooks := .later }
def OrderTextsCardSaid : Prop := Claim7.holds Tryz.pinned (.plain (OpenSpec.ofChange orderTextsSpec)) orderTextsCard

/-- THE SECOND FORM's CARD OF 'garmentlaw35.OrderParses'. -/
def orderParsesUptoCard : Claim7 := { stood := { row := orderParsesUptoRow, standIns := [], harness := (true, "b7b2ef6dae02f7dba4f1d34b92a6c9307dcf5b8b4792425510231c364b9e205c"), looks := false }, kinds := [], alts := [], laidByText := true, laidKinds := [.data, .data, .data, .data, .pinned], laidTests := true, laidLooks := .later }
def OrderParsesUptoCardSaid : Prop := Claim7.holds Tryz.pinned (.plain (OpenSpec.upto orderParsesSpec)) orderParsesUptoCard

/-- THE SECOND FORM's CARD OF 'garmentlaw35.OrderPrints'. -/
def orderPrintsUptoCard : Claim7 := { stood := { row := orderPrintsUptoRow, standIns := [], harness := (true, "b7b2ef6dae02f7dba4f1d34b92a6c9307dcf5b8b4792425510231c364b9e205c"), looks := false }, kinds := [], alts := [], laidByText := true, laidKinds := [.data, .data, .data, .data, .pinned], laidTests := true, laidLooks := .later }
def OrderPrintsUptoCardSaid : Prop := Claim7.holds Tryz.pinned (.plain (OpenSpec.upto orderPrintsSpec)) orderPrintsUptoCard

/-- THE SECOND FORM's CARD OF 'garmentlaw35.OrderSums'. -/
def orderSumsUptoCard : Claim7 := { stood := { row := orderSumsUptoRow, standIns := [], harness := (true, "b7b2ef6dae02f7dba4f1d34b92a6c9307dcf5b8b4792425510231c364b9e205c"), looks := false }, kinds := [], alts := [], laidByText := true, laidKinds := [.data, .data, .data, .data, .pinned], laidTests := true, laidLooks := .later }
def OrderSumsUptoCardSaid : Prop := Claim7.holds Tryz.pinned (.plain (OpenSpec.upto orderSumsSpec)) orderSumsUptoCard

/-- THE SECOND FORM's CARD OF 'garmentlaw35.OrderRoundTrip'. -/
def orderRoundTripUptoCard : Claim7 := { stood := { row := orderRoundTripUptoRow, standIns := [], harness := (true, "b7b2ef6dae02f7dba4f1d34b92a6c9307dcf5b8b4792425510231c364b9e205c"), looks := false }, kinds := [], alts := [], laidByText := true, laidKinds := [.data, .data, .data, .data, .pinned], laidTests := true, laidLooks := .later }
def OrderRoundTripUptoCardSaid : Prop := Claim7.holds Tryz.pinned (.plain (OpenSpec.upto orderRoundTripSpec)) orderRoundTripUptoCard

/-- THE SECOND FORM's CARD OF 'garmentlaw35.OrderTexts'. -/
def orderTextsUptoCard : Claim7 := { stood := { row := orderTextsUptoRow, standIns := [], harness := (true, "b7b2ef6dae02f7dba4f1d34b92a6c9307dcf5b8b4792425510231c364b9e205c"), looks := false }, kinds := [], alts := [], laidByText := true, laidKinds := [.data, .data, .data, .data, .pinned], laidTests := true, laidLooks := .later }
def OrderTextsUptoCardSaid : Prop := Claim7.holds Tryz.pinned (.plain (OpenSpec.upto orderTextsSpec)) orderTextsUptoCard
end Rows
end Go.Proofs.YtkcbgbpgiihdeaaGreatDoor
