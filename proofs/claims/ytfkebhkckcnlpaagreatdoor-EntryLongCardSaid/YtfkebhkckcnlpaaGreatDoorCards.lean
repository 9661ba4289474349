/-
  DERIVED. GIVEN WITH THE SEED: THE CARDS: each row of YtfkebhkckcnlpaaGreatDoorRows.lean that lists a variable, with what it lists TIED to the program's text (the seventh form; the later family's looks); each row that meets fmt, with fmt's text TOLD by the authors' own Lean function (tested against real Go, not proved from fmt's source: count such statements apart). THE CARD IS WHAT COUNTS. Prove the row's statement (the work); the ties are given (YtfkebhkckcnlpaaGreatDoorTie.lean); close each card by the builder's one call (the guide's Derived/Test/ToyasCard.lean, 'card_holds'). Laid BY PROGRAM, IN A SANDBOX (cutbox-door.mjs). By AI agents, Wed Nov 11 2026. No macro, syntax, notation, axiom, sorry.
-/
import Derived.Test.YtfkebhkckcnlpaaGreatDoorRows
import GoSem.ClaimSeven
namespace Go.Proofs.YtfkebhkckcnlpaaGreatDoor
namespace Rows

/-- THE TIED CARD OF 'henkanlaw17.EntryChecks'. -/
def entryChecksCard : Claim7 := { stood := { row := entryChecksRow, standIns := [], harness := (true, "ef3d66919b7d4ce4915af9a36e54cc8d2258b6903e6aeb2bcf2de496dfba0f87"), looks := true }, kinds := [], alts := [], laidByText := true, laidKinds := [.data, .data, .data, .data, .sentinel, .sentinel, .pinned], laidTests := true, laidLooks := .later }
def EntryChecksCardSaid : Prop := Claim7.holds Tryz.pinned (.plain (OpenSpec.ofChange entryChecksSpec)) entryChecksCard

/-- THE TIED CARD OF 'henkanlaw17.EntryParses'. -/
def entryParsesCard : Claim7 := { stood := { row := entryParsesRow, standIns := [], harness := (true, "ef3d66919b7d4ce4915af9a36e54cc8d2258b6903e6aeb2bcf2de496dfba0f87"), looks := true }, kinds := [], alts := [], laidByText := true, laidKinds := [.data, .data, .data, .data, .sentinel, .sentinel, .pinned], laidTests := true, laidLooks := .later }
def EntryParsesCardSaid : Prop := Claim7.holds Tryz.pinned (.plain (OpenSpec.ofChange entryParsesSpec)) entryParsesCard

/-- THE TIED CARD OF 'henkanlaw17.EntryPrints'. -/
def entryPrintsCard : Claim7 := { stood := { row := entryPrintsRow, standIns := [], harness := (true, "ef3d66919b7d4ce4915af9a36e54cc8d2258b6903e6aeb2bcf2de496dfba0f87"), looks := true }, kinds := [], alts := [], laidByText := true, laidKinds := [.data, .data, .data, .data, .sentinel, .sentinel, .pinned], laidTests := true, laidLooks := .later }
def EntryPrintsCardSaid : Prop := Claim7.holds Tryz.pinned (.plain (OpenSpec.ofChange entryPrintsSpec)) entryPrintsCard

/-- THE TIED CARD OF 'henkanlaw17.EntryReturns'. -/
def entryReturnsCard : Claim7 := { stood := { row := entryReturnsRow, standIns := [], harness := (true, "ef3d66919b7d4ce4915af9a36e54cc8d2258b6903e6aeb2bcf2de496dfba0f87"), looks := true }, kinds := [], alts := [], laidByText := true, laidKinds := [.data, .data, .data, .data, .sentinel, .sentinel, .pinned], laidTests := true, laidLooks := .later }
def EntryReturnsCardSaid : Prop := Claim7.holds Tryz.pinned (.plain (OpenSpec.ofChange entryReturnsSpec)) entryReturnsCard

/-- THE TIED CARD OF 'henkanlaw17.EntryOrders'. -/
def entryOrdersCard : Claim7 := { stood := { row := entryOrdersRow, standIns := [], harness := (true, "ef3d66919b7d4ce4915af9a36e54cc8d2258b6903e6aeb2bcf2de496dfba0f87"), looks := true }, kinds := [], alts := [], laidByText := true, laidKinds := [.data, .data, .data, .data, .sentinel, .sentinel, .pinned], laidTests := true, laidLooks := .later }
def EntryOrdersCardSaid : Prop := Claim7.holds Tryz.pinned (.plain (OpenSpec.ofChange entryOrdersSpec)) entryOrdersCard

/-- THE TIED CARD OF 'henkanlaw17.EntryComments'. -/
def entryCommentsCard : Claim7 := { stood := { row := entryCommentsRow, standIns := [], harness := (true, "ef3d66919b7d4ce4915af9a36e54cc8d2258b6903e6aeb2bcf2de496dfba0f87"), looks := true }, kinds := [], alts := [], laidByText := true, laidKinds := [.data, .data, .data, .data, .sentinel, .sentinel, .pinned], laidTests := true, laidLooks := .later }
def EntryCommentsCardSaid : Prop := Claim7.holds Tryz.pinned (.plain (OpenSpec.ofChange entryCommentsSpec)) entryCommentsCard

/-- THE TIED CARD OF 'henkanlaw17.EntryLong'. -/
def entryLongCard : Claim7 := { stood := { row := entryLongRow, standIns := [], harness := (true, "ef3d66919b7d4ce4915af9a36e54cc8d2258b6903e6aeb2bcf2de496dfba0f87"), looks := true }, kinds := [], alts := [], laidByText := true, laidKinds := [.data, .data, .data, .data, .sentinel, .sentinel, .pinned], laidTests := true, laidLooks := .later }
def EntryLongCardSaid : Prop := Claim7.holds Tryz.pinned (.plain (OpenSpec.ofChange entryLongSpec)) entryLongCard

/-- THE TIED CARD OF 'henkanlaw16.MatrixParses'. -/
def matrixParsesCard : Claim7 := { stood := { row := matrixParsesRow, standIns := [], harness := (true, "ef3d66919b7d4ce4915af9a36e54cc8d2258b6903e6aeb2bcf2de496dfba0f87"), looks := true }, kinds := [], alts := [], laidByText := true, laidKinds := [.data, .data, .data, .data, .sentinel, .sentinel, .pinned], laidTests := true, laidLooks := .later }
def MatrixParsesCardSaid : Prop := Claim7.holds Tryz.pinned (.plain (OpenSpec.ofChange matrixParsesSpec)) matrixParsesCard

/-- THE SECOND FORM's CARD OF 'henkanlaw17.EntryChecks'. -/
def entryChecksUptoCard : Claim7 := { stood := { row := entryChecksUptoRow, standIns := [], harness := (true, "ef3d66919b7d4ce4915af9a36e54cc8d2258b6903e6aeb2bcf2de496dfba0f87"), looks := true }, kinds := [], alts := [], laidByText := true, laidKinds := [.data, .data, .data, .data, .sentinel, .sentinel, .pinned], laidTests := true, laidLooks := .later }
def EntryChecksUptoCardSaid : Prop := Claim7.holds Tryz.pinned (.plain (OpenSpec.upto entryChecksSpec)) entryChecksUptoCard

/-- THE SECOND FORM's CARD OF 'henkanlaw17.EntryParses'. -/
def entryParsesUptoCard : Claim7 := { stood := { row := entryParsesUptoRow, standIns := [], harness := (true, "ef3d66919b7d4ce4915af9a36e54cc8d2258b6903e6aeb2bcf2de496dfba0f87"), looks := true }, kinds := [], alts := [], laidByText := true, laidKinds := [.data, .data, .data, .data, .sentinel, .sentinel, .pinned], laidTests := true, laidLooks := .later }
def EntryParsesUptoCardSaid : Prop := Claim7.holds Tryz.pinned (.plain (OpenSpec.upto entryParsesSpec)) entryParsesUptoCard

/-- THE SECOND FORM's CARD OF 'henkanlaw17.EntryPrints'. -/
def entryPrintsUptoCard : Claim7 := { stood := { row := entryPrintsUptoRow, standIns := [], harness := (true, "ef3d66919b7d4ce4915af9a36e54cc8d2258b6903e6aeb2bcf2de496dfba0f87"), looks := true }, kinds := [], alts := [], laidByText := true, laidKinds := [.data, .data, .data, .data, .sentinel, .sentinel, .pinned], laidTests := true, laidLooks := .later }
def EntryPrintsUptoCardSaid : Prop := Claim7.holds Tryz.pinned (.plain (OpenSpec.upto entryPrintsSpec)) entryPrintsUptoCard

/-- THE SECOND FORM's CARD OF 'henkanlaw17.EntryReturns'. -/
def entryReturnsUptoCard : Claim7 := { stood := { row := entryReturnsUptoRow, standIns := [], harness := (true, "ef3d66919b7d4ce4915af9a36e54cc8d2258b6903e6aeb2bcf2de496dfba0f87"), looks := true }, kinds := [], alts := [], laidByText := true, laidKinds := [.data, .data, .data, .data, .sentinel, .sentinel, .pinned], laidTests := true, laidLooks := .later }
def EntryReturnsUptoCardSaid : Prop := Claim7.holds Tryz.pinned (.plain (OpenSpec.upto entryReturnsSpec)) entryReturnsUptoCard

/-- THE SECOND FORM's CARD OF 'henkanlaw17.EntryOrders'. -/
def entryOrdersUptoCard : Claim7 := { stood := { row := entryOrdersUptoRow, standIns := [], harness := (true, "ef3d66919b7d4ce4915af9a36e54cc8d2258b6903e6aeb2bcf2de496dfba0f87"), looks := true }, kinds := [], alts := [], laidByText := true, laidKinds := [.data, .data, .data, .data, .sentinel, .sentinel, .pinned], laidTests := true, laidLooks := .later }
def EntryOrdersUptoCardSaid : Prop := Claim7.holds Tryz.pinned (.plain (OpenSpec.upto entryOrdersSpec)) entryOrdersUptoCard

/-- THE SECOND FORM's CARD OF 'henkanlaw17.EntryComments'. -/
def entryCommentsUptoCard : Claim7 := { stood := { row := entryCommentsUptoRow, standIns := [], harness := (true, "ef3d66919b7d4ce4915af9a36e54cc8d2258b6903e6aeb2bcf2de496dfba0f87"), looks := true }, kinds := [], alts := [], laidByText := true, laidKinds := [.data, .data, .data, .data, .sentinel, .sentinel, .pinned], laidTests := true, laidLooks := .later }
def EntryCommentsUptoCardSaid : Prop := Claim7.holds Tryz.pinned (.plain (OpenSpec.upto entryCommentsSpec)) entryCommentsUptoCard

/-- THE SECOND FORM's CARD OF 'henkanlaw17.EntryLong'. -/
def entryLongUptoCard : Claim7 := { stood := { row := entryLongUptoRow, standIns := [], harness := (true, "ef3d66919b7d4ce4915af9a36e54cc8d2258b6903e6aeb2bcf2de496dfba0f87"), looks := true }, kinds := [], alts := [], laidByText := true, laidKinds := [.data, .data, .data, .data, .sentinel, .sentinel, .pinned], laidTests := true, laidLooks := .later }
def EntryLongUptoCardSaid : Prop := Claim7.holds Tryz.pinned (.plain (OpenSpec.upto entryLongSpec)) entryLongUptoCard

/-- THE SECOND FORM's CARD OF 'henkanlaw16.MatrixParses'. -/
def matrixParsesUptoCard : Claim7 := { stood := { row := matrixParsesUptoRow, standIns := [], harness := (true, "ef3d66919b7d4ce4915af9a36e54cc8d2258b6903e6aeb2bcf2de496dfba0f87"), looks := true }, kinds := [], alts := [], laidByText := true, laidKinds := [.data, .data, .data, .data, .sentinel, .sentinel, .pinned], laidTests := true, laidLooks := .later }
def MatrixParsesUptoCardSaid : Prop := Claim7.holds Tryz.pinned (.plain (OpenSpec.upto matrixParsesSpec)) matrixParsesUptoCard
end Rows
end Go.Proofs.YtfkebhkckcnlpaaGreatDoor
