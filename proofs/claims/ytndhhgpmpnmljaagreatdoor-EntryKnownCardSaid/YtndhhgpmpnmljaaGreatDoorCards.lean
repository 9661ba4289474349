/-
  DERIVED. GIVEN WITH THE SEED: THE CARDS: each row of YtndhhgpmpnmljaaGreatDoorRows.lean that lists a variable, with what it lists TIED to the program's text (the seventh form; the later family's looks); each row that meets fmt, with fmt's text TOLD by the authors' own Lean function (tested against real Go, not proved from fmt's source: count such statements apart). THE CARD IS WHAT COUNTS. Prove the row's statement (the work); the ties are given (YtndhhgpmpnmljaaGreatDoorTie.lean); close each card by the builder's one call (the guide's Derived/Test/ToyasCard.lean, 'card_holds'). Laid BY PROGRAM, IN A SANDBOX (cutbox-door.mjs). By AI agents, Wed Nov 11 2026. No macro, syntax, notation, axiom, sorry.
-/
import Derived.Test.YtndhhgpmpnmljaaGreatDoorRows
import GoSem.ClaimSeven
namespace Go.Proofs.YtndhhgpmpnmljaaGreatDoor
namespace Rows

/-- THE TIED CARD OF 'henkanlaw16.MatrixParses'. -/
def matrixParsesCard : Claim7 := { stood := { row := matrixParsesRow, standIns := [], harness := (true, "6bc121044e28e14baf6b136cc4cf22ba69abd323fc2558339c7b0763eece9619"), looks := true }, kinds := [], alts := [], laidByText := true, laidKinds := [.data, .data, .data, .data, .sentinel, .sentinel, .pinned], laidTests := true, laidLooks := .later }
def MatrixParsesCardSaid : Prop := Claim7.holds Tryz.pinned (.plain (OpenSpec.ofChange matrixParsesSpec)) matrixParsesCard

/-- THE TIED CARD OF 'henkanlaw16.MatrixKnown'. -/
def matrixKnownCard : Claim7 := { stood := { row := matrixKnownRow, standIns := [], harness := (true, "6bc121044e28e14baf6b136cc4cf22ba69abd323fc2558339c7b0763eece9619"), looks := true }, kinds := [], alts := [], laidByText := true, laidKinds := [.data, .data, .data, .data, .sentinel, .sentinel, .pinned], laidTests := true, laidLooks := .later }
def MatrixKnownCardSaid : Prop := Claim7.holds Tryz.pinned (.plain (OpenSpec.ofChange matrixKnownSpec)) matrixKnownCard

/-- THE TIED CARD OF 'henkanlaw16.MatrixBack'. -/
def matrixBackCard : Claim7 := { stood := { row := matrixBackRow, standIns := [], harness := (true, "6bc121044e28e14baf6b136cc4cf22ba69abd323fc2558339c7b0763eece9619"), looks := true }, kinds := [], alts := [], laidByText := true, laidKinds := [.data, .data, .data, .data, .sentinel, .sentinel, .pinned], laidTests := true, laidLooks := .later }
def MatrixBackCardSaid : Prop := Claim7.holds Tryz.pinned (.plain (OpenSpec.ofChange matrixBackSpec)) matrixBackCard

/-- THE TIED CARD OF 'henkanlaw17.EntrySorts'. -/
def entrySortsCard : Claim7 := { stood := { row := entrySortsRow, standIns := [], harness := (true, "6bc121044e28e14baf6b136cc4cf22ba69abd323fc2558339c7b0763eece9619"), looks := true }, kinds := [], alts := [], laidByText := true, laidKinds := [.data, .data, .data, .data, .sentinel, .sentinel, .pinned], laidTests := true, laidLooks := .later }
def EntrySortsCardSaid : Prop := Claim7.holds Tryz.pinned (.plain (OpenSpec.ofChange entrySortsSpec)) entrySortsCard

/-- THE TIED CARD OF 'henkanlaw17.EntryShuffles'. -/
def entryShufflesCard : Claim7 := { stood := { row := entryShufflesRow, standIns := [], harness := (true, "6bc121044e28e14baf6b136cc4cf22ba69abd323fc2558339c7b0763eece9619"), looks := true }, kinds := [], alts := [], laidByText := true, laidKinds := [.data, .data, .data, .data, .sentinel, .sentinel, .pinned], laidTests := true, laidLooks := .later }
def EntryShufflesCardSaid : Prop := Claim7.holds Tryz.pinned (.plain (OpenSpec.ofChange entryShufflesSpec)) entryShufflesCard

/-- THE TIED CARD OF 'henkanlaw17.EntryKnown'. -/
def entryKnownCard : Claim7 := { stood := { row := entryKnownRow, standIns := [], harness := (true, "6bc121044e28e14baf6b136cc4cf22ba69abd323fc2558339c7b0763eece9619"), looks := true }, kinds := [], alts := [], laidByText := true, laidKinds := [.data, .data, .data, .data, .sentinel, .sentinel, .pinned], laidTests := true, laidLooks := .later }
def EntryKnownCardSaid : Prop := Claim7.holds Tryz.pinned (.plain (OpenSpec.ofChange entryKnownSpec)) entryKnownCard

/-- THE SECOND FORM's CARD OF 'henkanlaw16.MatrixParses'. -/
def matrixParsesUptoCard : Claim7 := { stood := { row := matrixParsesUptoRow, standIns := [], harness := (true, "6bc121044e28e14baf6b136cc4cf22ba69abd323fc2558339c7b0763eece9619"), looks := true }, kinds := [], alts := [], laidByText := true, laidKinds := [.data, .data, .data, .data, .sentinel, .sentinel, .pinned], laidTests := true, laidLooks := .later }
def MatrixParsesUptoCardSaid : Prop := Claim7.holds Tryz.pinned (.plain (OpenSpec.upto matrixParsesSpec)) matrixParsesUptoCard

/-- THE SECOND FORM's CARD OF 'henkanlaw16.MatrixKnown'. -/
def matrixKnownUptoCard : Claim7 := { stood := { row := matrixKnownUptoRow, standIns := [], harness := (true, "6bc121044e28e14baf6b136cc4cf22ba69abd323fc2558339c7b0763eece9619"), looks := true }, kinds := [], alts := [], laidByText := true, laidKinds := [.data, .data, .data, .data, .sentinel, .sentinel, .pinned], laidTests := true, laidLooks := .later }
def MatrixKnownUptoCardSaid : Prop := Claim7.holds Tryz.pinned (.plain (OpenSpec.upto matrixKnownSpec)) matrixKnownUptoCard

/-- THE SECOND FORM's CARD OF 'henkanlaw16.MatrixBack'. -/
def matrixBackUptoCard : Claim7 := { stood := { row := matrixBackUptoRow, standIns := [], harness := (true, "6bc121044e28e14baf6b136cc4cf22ba69abd323fc2558339c7b0763eece9619"), looks := true }, kinds := [], alts := [], laidByText := true, laidKinds := [.data, .data, .data, .data, .sentinel, .sentinel, .pinned], laidTests := true, laidLooks := .later }
def MatrixBackUptoCardSaid : Prop := Claim7.holds Tryz.pinned (.plain (OpenSpec.upto matrixBackSpec)) matrixBackUptoCard

/-- THE SECOND FORM's CARD OF 'henkanlaw17.EntrySorts'. -/
def entrySortsUptoCard : Claim7 := { stood := { row := entrySortsUptoRow, standIns := [], harness := (true, "6bc121044e28e14baf6b136cc4cf22ba69abd323fc2558339c7b0763eece9619"), looks := true }, kinds := [], alts := [], laidByText := true, laidKinds := [.data, .data, .data, .data, .sentinel, .sentinel, .pinned], laidTests := true, laidLooks := .later }
def EntrySortsUptoCardSaid : Prop := Claim7.holds Tryz.pinned (.plain (OpenSpec.upto entrySortsSpec)) entrySortsUptoCard

/-- THE SECOND FORM's CARD OF 'henkanlaw17.EntryShuffles'. -/
def entryShufflesUptoCard : Claim7 := { stood := { row := entryShufflesUptoRow, standIns := [], harness := (true, "6bc121044e28e14baf6b136cc4cf22ba69abd323fc2558339c7b0763eece9619"), looks := true }, kinds := [], alts := [], laidByText := true, laidKinds := [.data, .data, .data, .data, .sentinel, .sentinel, .pinned], laidTests := true, laidLooks := .later }
def EntryShufflesUptoCardSaid : Prop := Claim7.holds Tryz.pinned (.plain (OpenSpec.upto entryShufflesSpec)) entryShufflesUptoCard

/-- THE SECOND FORM's CARD OF 'henkanlaw17.EntryKnown'. -/
def entryKnownUptoCard : Claim7 := { stood := { row := entryKnownUptoRow, standIns := [], harness := (true, "6bc121044e28e14baf6b136cc4cf22ba69abd323fc2558339c7b0763eece9619"), looks := true }, kinds := [], alts := [], laidByText := true, laidKinds := [.data, .data, .data, .data, .sentinel, .sentinel, .pinned], laidTests := true, laidLooks := .later }
def EntryKnownUptoCardSaid : Prop := Claim7.holds Tryz.pinned (.plain (OpenSpec.upto entryKnownSpec)) entryKnownUptoCard
end Rows
end Go.Proofs.YtndhhgpmpnmljaaGreatDoor
