/-
  DERIVED. GIVEN WITH THE SEED: THE CARDS: each row of YtndhhgpmpnmljaaDoorRows.lean that lists a variable, with what it lists TIED to the program's text (the seventh form; the later family's looks); each row that meets fmt, with fmt's text TOLD by the authors' own Lean function (tested against real Go, not proved from fmt's source: count such statements apart). THE CARD IS WHAT COUNTS. Prove the row's statement (the work); the ties are given (YtndhhgpmpnmljaaDoorTie.lean); close each card by the builder's one call (the guide's Derived/Test/ToyasCard.lean, 'card_holds'). Laid BY PROGRAM, IN A SANDBOX (cutbox-door.mjs). By AI agents, Wed Nov 11 2026. No macro, syntax, notation, axiom, sorry.
-/
import Derived.Test.YtndhhgpmpnmljaaDoorRows
import GoSem.ClaimSeven
namespace Go.Proofs.YtndhhgpmpnmljaaDoor
namespace Rows

/-- THE TIED CARD OF 'henkanlaw16.MatrixPrints'. -/
def matrixPrintsCard : Claim7 := { stood := { row := matrixPrintsRow, standIns := [], harness := (true, "9753ea5ce708eb3ec4570e7dba92469d143f182557853bebe83b170cf826bfa5"), looks := true }, kinds := [], alts := [], laidByText := true, laidKinds := [.data, .data, .data], laidTests := true, laidLooks := .later }
def MatrixPrintsCardSaid : Prop := Claim7.holds Tryd.pinned (.plain (OpenSpec.ofChange matrixPrintsSpec)) matrixPrintsCard

/-- THE TIED CARD OF 'henkanlaw16.MatrixSets'. -/
def matrixSetsCard : Claim7 := { stood := { row := matrixSetsRow, standIns := [], harness := (true, "9753ea5ce708eb3ec4570e7dba92469d143f182557853bebe83b170cf826bfa5"), looks := true }, kinds := [], alts := [], laidByText := true, laidKinds := [.data, .data, .data], laidTests := true, laidLooks := .later }
def MatrixSetsCardSaid : Prop := Claim7.holds Tryd.pinned (.plain (OpenSpec.ofChange matrixSetsSpec)) matrixSetsCard

/-- THE TIED CARD OF 'henkanlaw16.MatrixOne'. -/
def matrixOneCard : Claim7 := { stood := { row := matrixOneRow, standIns := [], harness := (true, "9753ea5ce708eb3ec4570e7dba92469d143f182557853bebe83b170cf826bfa5"), looks := true }, kinds := [], alts := [], laidByText := true, laidKinds := [.data, .data, .data], laidTests := true, laidLooks := .later }
def MatrixOneCardSaid : Prop := Claim7.holds Tryd.pinned (.plain (OpenSpec.ofChange matrixOneSpec)) matrixOneCard

/-- THE TIED CARD OF 'henkanlaw16.MatrixDecodes'. -/
def matrixDecodesCard : Claim7 := { stood := { row := matrixDecodesRow, standIns := [], harness := (true, "9753ea5ce708eb3ec4570e7dba92469d143f182557853bebe83b170cf826bfa5"), looks := true }, kinds := [], alts := [], laidByText := true, laidKinds := [.data, .data, .data], laidTests := true, laidLooks := .later }
def MatrixDecodesCardSaid : Prop := Claim7.holds Tryd.pinned (.plain (OpenSpec.ofChange matrixDecodesSpec)) matrixDecodesCard

/-- THE SECOND FORM's CARD OF 'henkanlaw16.MatrixPrints'. -/
def matrixPrintsUptoCard : Claim7 := { stood := { row := matrixPrintsUptoRow, standIns := [], harness := (true, "9753ea5ce708eb3ec4570e7dba92469d143f182557853bebe83b170cf826bfa5"), looks := true }, kinds := [], alts := [], laidByText := true, laidKinds := [.data, .data, .data], laidTests := true, laidLooks := .later }
def MatrixPrintsUptoCardSaid : Prop := Claim7.holds Tryd.pinned (.plain (OpenSpec.upto matrixPrintsSpec)) matrixPrintsUptoCard

/-- THE SECOND FORM's CARD OF 'henkanlaw16.MatrixSets'. -/
def matrixSetsUptoCard : Claim7 := { stood := { row := matrixSetsUptoRow, standIns := [], harness := (true, "9753ea5ce708eb3ec4570e7dba92469d143f182557853bebe83b170cf826bfa5"), looks := true }, kinds := [], alts := [], laidByText := true, laidKinds := [.data, .data, .data], laidTests := true, laidLooks := .later }
def MatrixSetsUptoCardSaid : Prop := Claim7.holds Tryd.pinned (.plain (OpenSpec.upto matrixSetsSpec)) matrixSetsUptoCard

/-- THE SECOND FORM's CARD OF 'henkanlaw16.MatrixOne'. -/
def matrixOneUptoCard : Claim7 := { stood := { row := matrixOneUptoRow, standIns := [], harness := (true, "9753ea5ce708eb3ec4570e7dba92469d143f182557853bebe83b170cf826bfa5"), looks := true }, kinds := [], alts := [], laidByText := true, laidKinds := [.data, .data, .data], laidTests := true, laidLooks := .later }
def MatrixOneUptoCardSaid : Prop := Claim7.holds Tryd.pinned (.plain (OpenSpec.upto matrixOneSpec)) matrixOneUptoCard

/-- THE SECOND FORM's CARD OF 'henkanlaw16.MatrixDecodes'. -/
def matrixDecodesUptoCard : Claim7 := { stood := { row := matrixDecodesUptoRow, standIns := [], harness := (true, "9753ea5ce708eb3ec4570e7dba92469d143f182557853bebe83b170cf826bfa5"), looks := true }, kinds := [], alts := [], laidByText := true, laidKinds := [.data, .data, .data], laidTests := true, laidLooks := .later }
def MatrixDecodesUptoCardSaid : Prop := Claim7.holds Tryd.pinned (.plain (OpenSpec.upto matrixDecodesSpec)) matrixDecodesUptoCard
end Rows
end Go.Proofs.YtndhhgpmpnmljaaDoor
