/-
  DERIVED. GIVEN WITH THE SEED: THE CARDS: each row of YtcdjponbhpchbaaGreatDoorRows.lean that lists a variable, with what it lists TIED to the program's text (the seventh form; the later family's looks); each row that meets fmt, with fmt's text TOLD by the authors' own Lean function (tested against real Go, not proved from fmt's source: count such statements apart). THE CARD IS WHAT COUNTS. Prove the row's statement (the work); the ties are given (YtcdjponbhpchbaaGreatDoorTie.lean); close each card by the builder's one call (the guide's Derived/Test/ToyasCard.lean, 'card_holds'). Laid BY PROGRAM, IN A SANDBOX (cutbox-door.mjs). By AI agents, Wed Nov 11 2026. No macro, syntax, notation, axiom, sorry.
-/
import Derived.Test.YtcdjponbhpchbaaGreatDoorRows
import GoSem.ClaimSeven
namespace Go.Proofs.YtcdjponbhpchbaaGreatDoor
namespace Rows

/-- THE TIED CARD OF 'henkanlaw16.MatrixParses'. -/
def matrixParsesCard : Claim7 := { stood := { row := matrixParsesRow, standIns := [], harness := (true, "6aa21f739683a3a96209687dc4ab47591a88d6c21c71730ed42d17c745b22aa8"), looks := true }, kinds := [], alts := [], laidByText := true, laidKinds := [.data, .data, .data, .data, .sentinel, .sentinel, .pinned], laidTests := true, laidLooks := .later }
def MatrixParsesCardSaid : Prop := Claim7.holds Tryz.pinned (.plain (OpenSpec.ofChange matrixParsesSpec)) matrixParsesCard

/-- THE TIED CARD OF 'henkanlaw16.MatrixKnown'. -/
def matrixKnownCard : Claim7 := { stood := { row := matrixKnownRow, standIns := [], harness := (true, "6aa21f739683a3a96209687dc4ab47591a88d6c21c71730ed42d17c745b22aa8"), looks := true }, kinds := [], alts := [], laidByText := true, laidKinds := [.data, .data, .data, .data, .sentinel, .sentinel, .pinned], laidTests := true, laidLooks := .later }
def MatrixKnownCardSaid : Prop := Claim7.holds Tryz.pinned (.plain (OpenSpec.ofChange matrixKnownSpec)) matrixKnownCard

/-- THE TIED CARD OF 'henkanlaw16.MatrixBack'. -/
def matrixBackCard : Claim7 := { stood := { row := matrixBackRow, standIns := [], harness := (true, "6aa21f739683a3a96209687dc4ab47591a88d6c21c71730ed42d17c745b22aa8"), looks := true }, kinds := [], alts := [], laidByText := true, laidKinds := [.data, .data, .data, .data, .sentinel, .sentinel, .pinned], laidTests := true, laidLooks := .later }
def MatrixBackCardSaid : Prop := Claim7.holds Tryz.pinned (.plain (OpenSpec.ofChange matrixBackSpec)) matrixBackCard

/-- THE SECOND FORM's CARD OF 'henkanlaw16.MatrixParses'. -/
def matrixParsesUptoCard : Claim7 := { stood := { row := matrixParsesUptoRow, standIns := [], harness := (true, "6aa21f739683a3a96209687dc4ab47591a88d6c21c71730ed42d17c745b22aa8"), looks := true }, kinds := [], alts := [], laidByText := true, laidKinds := [.data, .data, .data, .data, .sentinel, .sentinel, .pinned], laidTests := true, laidLooks := .later }
def MatrixParsesUptoCardSaid : Prop := Claim7.holds Tryz.pinned (.plain (OpenSpec.upto matrixParsesSpec)) matrixParsesUptoCard

/-- THE SECOND FORM's CARD OF 'henkanlaw16.MatrixKnown'. -/
def matrixKnownUptoCard : Claim7 := { stood := { row := matrixKnownUptoRow, standIns := [], harness := (true, "6aa21f739683a3a96209687dc4ab47591a88d6c21c71730ed42d17c745b22aa8"), looks := true }, kinds := [], alts := [], laidByText := true, laidKinds := [.data, .data, .data, .data, .sentinel, .sentinel, .pinned], laidTests := true, laidLooks := .later }
def MatrixKnownUptoCardSaid : Prop := Claim7.holds Tryz.pinned (.plain (OpenSpec.upto matrixKnownSpec)) matrixKnownUptoCard

/-- THE SECOND FORM's CARD OF 'henkanlaw16.MatrixBack'. -/
def matrixBackUptoCard : Claim7 := { stood := { row := matrixBackUptoRow, standIns := [], harness := (true, "6aa21f739683a3a96209687dc4ab47591a88d6c21c71730ed42d17c745b22aa8"), looks := true }, kinds := [], alts := [], laidByText := true, laidKinds := [.data, .data, .data, .data, .sentinel, .sentinel, .pinned], laidTests := true, laidLooks := .later }
def MatrixBackUptoCardSaid : Prop := Claim7.holds Tryz.pinned (.plain (OpenSpec.upto matrixBackSpec)) matrixBackUptoCard
end Rows
end Go.Proofs.YtcdjponbhpchbaaGreatDoor
