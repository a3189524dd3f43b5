/-
  DERIVED. GIVEN WITH THE SEED: THE CARDS: each row of YtkcbgbpgiihdeaaDoorRows.lean that lists a variable, with what it lists TIED to the program's text (the seventh form; the later family's looks); each row that meets fmt, with fmt's text TOLD by the authors' own Lean function (tested against real Go, not proved from fmt's source: count such statements apart). THE CARD IS WHAT COUNTS. Prove the row's statement (the work); the ties are given (YtkcbgbpgiihdeaaDoorTie.lean); close each card by the builder's one call (the guide's Derived/Test/ToyasCard.lean, 'card_holds'). Laid BY PROGRAM, IN A SANDBOX (cutbox-door.mjs). By AI agents, Wed Nov 11 2026. No macro, syntax, notation, axiom, sorry.
-/
import Derived.Test.YtkcbgbpgiihdeaaDoorRows
import GoSem.ClaimSeven
namespace Go.Proofs.YtkcbgbpgiihdeaaDoor
namespace Rows

/-- THE TIED CARD OF 'garmentlaw35.OrderAdds'. -/
def orderAddsCard : Claim7 := { stood := { row := orderAddsRow, standIns := [], harness := (true, "930c9dbb7f949d4d87aa4db3ec7201a61348b8bf55bfe32ecebd0f3dd4cee4ed"), looks := false }, kinds := [], alts := [], laidByText := true, laidKinds := [.data, .data, .data, .data, .pinned], laidTests := true, laidLooks := .later }
def OrderAddsCardSaid : Prop := Claim7.holds Tryd.pinned (.plain (OpenSpec.ofChange orderAddsSpec)) orderAddsCard

/-- THE TIED CARD OF 'garmentlaw35.OrderCompare'. -/
def orderCompareCard : Claim7 := { stood := { row := orderCompareRow, standIns := [], harness := (true, "930c9dbb7f949d4d87aa4db3ec7201a61348b8bf55bfe32ecebd0f3dd4cee4ed"), looks := false }, kinds := [], alts := [], laidByText := true, laidKinds := [.data, .data, .data, .data, .pinned], laidTests := true, laidLooks := .later }
def OrderCompareCardSaid : Prop := Claim7.holds Tryd.pinned (.plain (OpenSpec.ofChange orderCompareSpec)) orderCompareCard

/-- THE TIED CARD OF 'garmentlaw35.OrderSwaps'. -/
def orderSwapsCard : Claim7 := { stood := { row := orderSwapsRow, standIns := [], harness := (true, "930c9dbb7f949d4d87aa4db3ec7201a61348b8bf55bfe32ecebd0f3dd4cee4ed"), looks := false }, kinds := [], alts := [], laidByText := true, laidKinds := [.data, .data, .data, .data, .pinned], laidTests := true, laidLooks := .later }
def OrderSwapsCardSaid : Prop := Claim7.holds Tryd.pinned (.plain (OpenSpec.ofChange orderSwapsSpec)) orderSwapsCard

/-- THE SECOND FORM's CARD OF 'garmentlaw35.OrderAdds'. -/
def orderAddsUptoCard : Claim7 := { stood := { row := orderAddsUptoRow, standIns := [], harness := (true, "930c9dbb7f949d4d87aa4db3ec7201a61348b8bf55bfe32ecebd0f3dd4cee4ed"), looks := false }, kinds := [], alts := [], laidByText := true, laidKinds := [.data, .data, .data, .data, .pinned], laidTests := true, laidLooks := .later }
def OrderAddsUptoCardSaid : Prop := Claim7.holds Tryd.pinned (.plain (OpenSpec.upto orderAddsSpec)) orderAddsUptoCard

/-- THE SECOND FORM's CARD OF 'garmentlaw35.OrderCompare'. -/
def orderCompareUptoCard : Claim7 := { stood := { row := orderCompareUptoRow, standIns := [], harness := (true, "930c9dbb7f949d4d87aa4db3ec7201a61348b8bf55bfe32ecebd0f3dd4cee4ed"), looks := false }, kinds := [], alts := [], laidByText := true, laidKinds := [.data, .data, .data, .data, .pinned], laidTests := true, laidLooks := .later }
def OrderCompareUptoCardSaid : Prop := Claim7.holds Tryd.pinned (.plain (OpenSpec.upto orderCompareSpec)) orderCompareUptoCard

/-- THE SECOND FORM's CARD OF 'garmentlaw35.OrderSwaps'. -/
def orderSwapsUptoCard : Claim7 := { stood := { row := orderSwapsUptoRow, standIns := [], harness := (true, "930c9dbb7f949d4d87aa4db3ec7201a61348b8bf55bfe32ecebd0f3dd4cee4ed"), looks := false }, kinds := [], alts := [], laidByText := true, laidKinds := [.data, .data, .data, .data, .pinned], laidTests := true, laidLooks := .later }
def OrderSwapsUptoCardSaid : Prop := Claim7.holds Tryd.pinned (.plain (OpenSpec.upto orderSwapsSpec)) orderSwapsUptoCard
end Rows
end Go.Proofs.YtkcbgbpgiihdeaaDoor
