/-
  DERIVED. GIVEN WITH THE SEED: THE CARDS: each row of YtcdjponbhpchbaaDoorRows.lean that lists a variable, with what it lists TIED to the program's text (the seventh form; the later family's looks); each row that meets fmt, with fmt's text TOLD by the authors' own Lean function (tested against real Go, not proved from fmt's source: count such statements apart). THE CARD IS WHAT COUNTS. Prove the row's statement (the work); the ties are given (YtcdjponbhpchbaaDoorTie.lean); close each card by the builder's one call (the guide's Derived/Test/ToyasCard.lean, 'card_holds'). Laid BY PROGRAM, IN A SANDBOX (cutbox-door.mjs). By AI agents, Wed Nov 11 2026. No macro, syntax, notation, axiom, sorry.
-/
import Derived.Test.YtcdjponbhpchbaaDoorRows
import GoSem.ClaimSeven
namespace Go.Proofs.YtcdjponbhpchbaaDoor
namespace Rows

/-- THE TIED CARD OF 'henkanlaw16.MatrixDecodes'. -/
def matrixDecodesCard : Claim7 := { stood := { row := matrixDecodesRow, standIns := [], harness := (true, "0eaeb3c17bba75f032473738065c53c94fe3003183917b0d98869098f45f6614"), looks := true }, kinds := [], alts := [], laidByText := true, laidKinds := [.data, .data, .data], laidTests := true, laidLooks := .later }
def MatrixDecodesCardSaid : Prop := Claim7.holds Tryd.pinned (.plain (OpenSpec.ofChange matrixDecodesSpec)) matrixDecodesCard

/-- THE SECOND FORM's CARD OF 'henkanlaw16.MatrixDecodes'. -/
def matrixDecodesUptoCard : Claim7 := { stood := { row := matrixDecodesUptoRow, standIns := [], harness := (true, "0eaeb3c17bba75f032473738065c53c94fe3003183917b0d98869098f45f6614"), looks := true }, kinds := [], alts := [], laidByText := true, laidKinds := [.data, .data, .data], laidTests := true, laidLooks := .later }
def MatrixDecodesUptoCardSaid : Prop := Claim7.holds Tryd.pinned (.plain (OpenSpec.upto matrixDecodesSpec)) matrixDecodesUptoCard
end Rows
end Go.Proofs.YtcdjponbhpchbaaDoor
