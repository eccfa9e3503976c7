/-
  DERIVED. GIVEN WITH THE SEED: THE CARDS: each row of YthbdjmopolpjmaaGreatDoorRows.lean that lists a variable, with what it lists TIED to the program's text (the seventh form; the later family's looks); each row that meets fmt, with fmt's text TOLD by the authors' own Lean function (tested against real Go, not proved from fmt's source: count such statements apart). THE CARD IS WHAT COUNTS. Prove the row's statement (the work); the ties are given (YthbdjmopolpjmaaGreatDoorTie.lean); close each card by the builder's one call (the guide's Derived/Test/ToyasCard.lean, 'card_holds'). Laid BY PROGRAM, IN A SANDBOX (cutbox-door.mjs). By AI agents, Wed Nov 11 2026. No macro, syntax, notation, axiom, sorry.
-/
import Derived.Test.YthbdjmopolpjmaaGreatDoorRows
import GoSem.ClaimSeven
namespace Go.Proofs.YthbdjmopolpjmaaGreatDoor
namespace Rows

/-- THE TIED CARD OF 'cubitlaw29.BookPrints'. -/
def bookPrintsCard : Claim7 := { stood := { row := bookPrintsRow, standIns := [], harness := (true, "4bc1c91478c4da14fe3a90380ca6c6cbbb562cfbb14b4f2f1016094c20a886e2"), looks := true }, kinds := [], alts := [], laidByText := true, laidKinds := [.data, .data, .data, .handle, .sentinel], laidTests := true, laidLooks := .later }
def BookPrintsCardSaid : Prop := Claim7.holds Tryz.pinned (.plain (OpenSpec.ofChange bookPrintsSpec)) bookPrintsCard

/-- THE TIED CARD OF 'cubitlaw29.BookDiffs'. -/
def bookDiffsCard : Claim7 := { stood := { row := bookDiffsRow, standIns := [], harness := (true, "4bc1c91478c4da14fe3a90380ca6c6cbbb562cfbb14b4f2f1016094c20a886e2"), looks := true }, kinds := [], alts := [], laidByText := true, laidKinds := [.data, .data, .data, .handle, .sentinel], laidTests := true, laidLooks := .later }
def BookDiffsCardSaid : Prop := Claim7.holds Tryz.pinned (.plain (OpenSpec.ofChange bookDiffsSpec)) bookDiffsCard

/-- THE TIED CARD OF 'cubitlaw29.BookBack'. -/
def bookBackCard : Claim7 := { stood := { row := bookBackRow, standIns := [], harness := (true, "4bc1c91478c4da14fe3a90380ca6c6cbbb562cfbb14b4f2f1016094c20a886e2"), looks := true }, kinds := [], alts := [], laidByText := true, laidKinds := [.data, .data, .data, .data, .handle, .sentinel, .pinned], laidTests := true, laidLooks := .later }
def BookBackCardSaid : Prop := Claim7.holds Tryz.pinned (.plain (OpenSpec.ofChange bookBackSpec)) bookBackCard

/-- THE TIED CARD OF 'cubitlaw29.BookReads'. -/
def bookReadsCard : Claim7 := { stood := { row := bookReadsRow, standIns := [], harness := (true, "4bc1c91478c4da14fe3a90380ca6c6cbbb562cfbb14b4f2f1016094c20a886e2"), looks := true }, kinds := [], alts := [], laidByText := true, laidKinds := [.data, .data, .data, .data, .handle, .sentinel, .sentinel, .sentinel, .pinned], laidTests := true, laidLooks := .later }
def BookReadsCardSaid : Prop := Claim7.holds Tryz.pinned (.plain (OpenSpec.ofChange bookReadsSpec)) bookReadsCard

/-- THE SECOND FORM's CARD OF 'cubitlaw29.BookPrints'. -/
def bookPrintsUptoCard : Claim7 := { stood := { row := bookPrintsUptoRow, standIns := [], harness := (true, "4bc1c91478c4da14fe3a90380ca6c6cbbb562cfbb14b4f2f1016094c20a886e2"), looks := true }, kinds := [], alts := [], laidByText := true, laidKinds := [.data, .data, .data, .handle, .sentinel], laidTests := true, laidLooks := .later }
def BookPrintsUptoCardSaid : Prop := Claim7.holds Tryz.pinned (.plain (OpenSpec.upto bookPrintsSpec)) bookPrintsUptoCard

/-- THE SECOND FORM's CARD OF 'cubitlaw29.BookDiffs'. -/
def bookDiffsUptoCard : Claim7 := { stood := { row := bookDiffsUptoRow, standIns := [], harness := (true, "4bc1c91478c4da14fe3a90380ca6c6cbbb562cfbb14b4f2f1016094c20a886e2"), looks := true }, kinds := [], alts := [], laidByText := true, laidKinds := [.data, .data, .data, .handle, .sentinel], laidTests := true, laidLooks := .later }
def BookDiffsUptoCardSaid : Prop := Claim7.holds Tryz.pinned (.plain (OpenSpec.upto bookDiffsSpec)) bookDiffsUptoCard

/-- THE SECOND FORM's CARD OF 'cubitlaw29.BookBack'. -/
def bookBackUptoCard : Claim7 := { stood := { row := bookBackUptoRow, standIns := [], harness := (true, "4bc1c91478c4da14fe3a90380ca6c6cbbb562cfbb14b4f2f1016094c20a886e2"), looks := true }, kinds := [], alts := [], laidByText := true, laidKinds := [.data, .data, .data, .data, .handle, .sentinel, .pinned], laidTests := true, laidLooks := .later }
def BookBackUptoCardSaid : Prop := Claim7.holds Tryz.pinned (.plain (OpenSpec.upto bookBackSpec)) bookBackUptoCard

/-- THE SECOND FORM's CARD OF 'cubitlaw29.BookReads'. -/
def bookReadsUptoCard : Claim7 := { stood := { row := bookReadsUptoRow, standIns := [], harness := (true, "4bc1c91478c4da14fe3a90380ca6c6cbbb562cfbb14b4f2f1016094c20a886e2"), looks := true }, kinds := [], alts := [], laidByText := true, laidKinds := [.data, .data, .data, .data, .handle, .sentinel, .sentinel, .sentinel, .pinned], laidTests := true, laidLooks := .later }
def BookReadsUptoCardSaid : Prop := Claim7.holds Tryz.pinned (.plain (OpenSpec.upto bookReadsSpec)) bookReadsUptoCard
end Rows
end Go.Proofs.YthbdjmopolpjmaaGreatDoor
