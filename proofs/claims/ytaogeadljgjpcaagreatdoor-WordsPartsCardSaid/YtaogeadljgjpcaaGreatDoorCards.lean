/-
  DERIVED. GIVEN WITH THE SEED: THE CARDS: each row of YtaogeadljgjpcaaGreatDoorRows.lean that lists a variable, with what it lists TIED to the program's text (the seventh form; the later family's looks); each row that meets fmt, with fmt's text TOLD by the authors' own Lean function (tested against real Go, not proved from fmt's source: count such statements apart). THE CARD IS WHAT COUNTS. Prove the row's statement (the work); the ties are given (YtaogeadljgjpcaaGreatDoorTie.lean); close each card by the builder's one call (the guide's Derived/Test/ToyasCard.lean, 'card_holds'). Laid BY PROGRAM, IN A SANDBOX (cutbox-door.mjs). By AI agents, Wed Nov 11 2026. No macro, syntax, notation, axiom, sorry.
-/
import Derived.Test.YtaogeadljgjpcaaGreatDoorRows
import GoSem.ClaimSeven
namespace Go.Proofs.YtaogeadljgjpcaaGreatDoor
namespace Rows

/-- THE TIED CARD OF 'henkanlaw21.WordsChecks'. -/
def wordsChecksCard : Claim7 := { stood := { row := wordsChecksRow, standIns := [], harness := (true, "979739eca997e1cdc021d83c025aadef7526b47b344d88c4a78dde40c109a0d0"), looks := true }, kinds := [], alts := [], laidByText := true, laidKinds := [.data, .data, .pinned], laidTests := true, laidLooks := .later }
def WordsChecksCardSaid : Prop := Claim7.holds Tryz.pinned (.plain (OpenSpec.ofChange wordsChecksSpec)) wordsChecksCard

/-- THE TIED CARD OF 'henkanlaw21.WordsNodes'. -/
def wordsNodesCard : Claim7 := { stood := { row := wordsNodesRow, standIns := [], harness := (true, "979739eca997e1cdc021d83c025aadef7526b47b344d88c4a78dde40c109a0d0"), looks := true }, kinds := [], alts := [], laidByText := true, laidKinds := [.data, .data, .pinned], laidTests := true, laidLooks := .later }
def WordsNodesCardSaid : Prop := Claim7.holds Tryz.pinned (.plain (OpenSpec.ofChange wordsNodesSpec)) wordsNodesCard

/-- THE TIED CARD OF 'henkanlaw21.WordsNil'. -/
def wordsNilCard : Claim7 := { stood := { row := wordsNilRow, standIns := [], harness := (true, "979739eca997e1cdc021d83c025aadef7526b47b344d88c4a78dde40c109a0d0"), looks := true }, kinds := [], alts := [], laidByText := true, laidKinds := [.data, .data, .pinned], laidTests := true, laidLooks := .later }
def WordsNilCardSaid : Prop := Claim7.holds Tryz.pinned (.plain (OpenSpec.ofChange wordsNilSpec)) wordsNilCard

/-- THE TIED CARD OF 'henkanlaw21.WordsCover'. -/
def wordsCoverCard : Claim7 := { stood := { row := wordsCoverRow, standIns := [], harness := (true, "979739eca997e1cdc021d83c025aadef7526b47b344d88c4a78dde40c109a0d0"), looks := true }, kinds := [], alts := [], laidByText := true, laidKinds := [.data, .data, .pinned], laidTests := true, laidLooks := .later }
def WordsCoverCardSaid : Prop := Claim7.holds Tryz.pinned (.plain (OpenSpec.ofChange wordsCoverSpec)) wordsCoverCard

/-- THE TIED CARD OF 'henkanlaw21.WordsFull'. -/
def wordsFullCard : Claim7 := { stood := { row := wordsFullRow, standIns := [], harness := (true, "979739eca997e1cdc021d83c025aadef7526b47b344d88c4a78dde40c109a0d0"), looks := true }, kinds := [], alts := [], laidByText := true, laidKinds := [.data, .data, .pinned], laidTests := true, laidLooks := .later }
def WordsFullCardSaid : Prop := Claim7.holds Tryz.pinned (.plain (OpenSpec.ofChange wordsFullSpec)) wordsFullCard

/-- THE TIED CARD OF 'henkanlaw21.WordsKnown'. -/
def wordsKnownCard : Claim7 := { stood := { row := wordsKnownRow, standIns := [], harness := (true, "979739eca997e1cdc021d83c025aadef7526b47b344d88c4a78dde40c109a0d0"), looks := true }, kinds := [], alts := [], laidByText := true, laidKinds := [.data, .data, .pinned], laidTests := true, laidLooks := .later }
def WordsKnownCardSaid : Prop := Claim7.holds Tryz.pinned (.plain (OpenSpec.ofChange wordsKnownSpec)) wordsKnownCard

/-- THE TIED CARD OF 'henkanlaw21.WordsFound'. -/
def wordsFoundCard : Claim7 := { stood := { row := wordsFoundRow, standIns := [], harness := (true, "979739eca997e1cdc021d83c025aadef7526b47b344d88c4a78dde40c109a0d0"), looks := true }, kinds := [], alts := [], laidByText := true, laidKinds := [.data, .data, .pinned], laidTests := true, laidLooks := .later }
def WordsFoundCardSaid : Prop := Claim7.holds Tryz.pinned (.plain (OpenSpec.ofChange wordsFoundSpec)) wordsFoundCard

/-- THE TIED CARD OF 'henkanlaw21.WordsLearns'. -/
def wordsLearnsCard : Claim7 := { stood := { row := wordsLearnsRow, standIns := [], harness := (true, "979739eca997e1cdc021d83c025aadef7526b47b344d88c4a78dde40c109a0d0"), looks := true }, kinds := [], alts := [], laidByText := true, laidKinds := [.data, .data, .pinned], laidTests := true, laidLooks := .later }
def WordsLearnsCardSaid : Prop := Claim7.holds Tryz.pinned (.plain (OpenSpec.ofChange wordsLearnsSpec)) wordsLearnsCard

/-- THE TIED CARD OF 'henkanlaw21.WordsParts'. -/
def wordsPartsCard : Claim7 := { stood := { row := wordsPartsRow, standIns := [], harness := (true, "979739eca997e1cdc021d83c025aadef7526b47b344d88c4a78dde40c109a0d0"), looks := true }, kinds := [], alts := [], laidByText := true, laidKinds := [.data, .data, .pinned], laidTests := true, laidLooks := .later }
def WordsPartsCardSaid : Prop := Claim7.holds Tryz.pinned (.plain (OpenSpec.ofChange wordsPartsSpec)) wordsPartsCard

/-- THE SECOND FORM's CARD OF 'henkanlaw21.WordsChecks'. -/
def wordsChecksUptoCard : Claim7 := { stood := { row := wordsChecksUptoRow, standIns := [], harness := (true, "979739eca997e1cdc021d83c025aadef7526b47b344d88c4a78dde40c109a0d0"), looks := true }, kinds := [], alts := [], laidByText := true, laidKinds := [.data, .data, .pinned], laidTests := true, laidLooks := .later }
def WordsChecksUptoCardSaid : Prop := Claim7.holds Tryz.pinned (.plain (OpenSpec.upto wordsChecksSpec)) wordsChecksUptoCard

/-- THE SECOND FORM's CARD OF 'henkanlaw21.WordsNodes'. -/
def wordsNodesUptoCard : Claim7 := { stood := { row := wordsNodesUptoRow, standIns := [], harness := (true, "979739eca997e1cdc021d83c025aadef7526b47b344d88c4a78dde40c109a0d0"), looks := true }, kinds := [], alts := [], laidByText := true, laidKinds := [.data, .data, .pinned], laidTests := true, laidLooks := .later }
def WordsNodesUptoCardSaid : Prop := Claim7.holds Tryz.pinned (.plain (OpenSpec.upto wordsNodesSpec)) wordsNodesUptoCard

/-- THE SECOND FORM's CARD OF 'henkanlaw21.WordsNil'. -/
def wordsNilUptoCard : Claim7 := { stood := { row := wordsNilUptoRow, standIns := [], harness := (true, "979739eca997e1cdc021d83c025aadef7526b47b344d88c4a78dde40c109a0d0"), looks := true }, kinds := [], alts := [], laidByText := true, laidKinds := [.data, .data, .pinned], laidTests := true, laidLooks := .later }
def WordsNilUptoCardSaid : Prop := Claim7.holds Tryz.pinned (.plain (OpenSpec.upto wordsNilSpec)) wordsNilUptoCard

/-- THE SECOND FORM's CARD OF 'henkanlaw21.WordsCover'. -/
def wordsCoverUptoCard : Claim7 := { stood := { row := wordsCoverUptoRow, standIns := [], harness := (true, "979739eca997e1cdc021d83c025aadef7526b47b344d88c4a78dde40c109a0d0"), looks := true }, kinds := [], alts := [], laidByText := true, laidKinds := [.data, .data, .pinned], laidTests := true, laidLooks := .later }
def WordsCoverUptoCardSaid : Prop := Claim7.holds Tryz.pinned (.plain (OpenSpec.upto wordsCoverSpec)) wordsCoverUptoCard

/-- THE SECOND FORM's CARD OF 'henkanlaw21.WordsFull'. -/
def wordsFullUptoCard : Claim7 := { stood := { row := wordsFullUptoRow, standIns := [], harness := (true, "979739eca997e1cdc021d83c025aadef7526b47b344d88c4a78dde40c109a0d0"), looks := true }, kinds := [], alts := [], laidByText := true, laidKinds := [.data, .data, .pinned], laidTests := true, laidLooks := .later }
def WordsFullUptoCardSaid : Prop := Claim7.holds Tryz.pinned (.plain (OpenSpec.upto wordsFullSpec)) wordsFullUptoCard

/-- THE SECOND FORM's CARD OF 'henkanlaw21.WordsKnown'. -/
def wordsKnownUptoCard : Claim7 := { stood := { row := wordsKnownUptoRow, standIns := [], harness := (true, "979739eca997e1cdc021d83c025aadef7526b47b344d88c4a78dde40c109a0d0"), looks := true }, kinds := [], alts := [], laidByText := true, laidKinds := [.data, .data, .pinned], laidTests := true, laidLooks := .later }
def WordsKnownUptoCardSaid : Prop := Claim7.holds Tryz.pinned (.plain (OpenSpec.upto wordsKnownSpec)) wordsKnownUptoCard

/-- THE SECOND FORM's CARD OF 'henkanlaw21.WordsFound'. -/
def wordsFoundUptoCard : Claim7 := { stood := { row := wordsFoundUptoRow, standIns := [], harness := (true, "979739eca997e1cdc021d83c025aadef7526b47b344d88c4a78dde40c109a0d0"), looks := true }, kinds := [], alts := [], laidByText := true, laidKinds := [.data, .data, .pinned], laidTests := true, laidLooks := .later }
def WordsFoundUptoCardSaid : Prop := Claim7.holds Tryz.pinned (.plain (OpenSpec.upto wordsFoundSpec)) wordsFoundUptoCard

/-- THE SECOND FORM's CARD OF 'henkanlaw21.WordsLearns'. -/
def wordsLearnsUptoCard : Claim7 := { stood := { row := wordsLearnsUptoRow, standIns := [], harness := (true, "979739eca997e1cdc021d83c025aadef7526b47b344d88c4a78dde40c109a0d0"), looks := true }, kinds := [], alts := [], laidByText := true, laidKinds := [.data, .data, .pinned], laidTests := true, laidLooks := .later }
def WordsLearnsUptoCardSaid : Prop := Claim7.holds Tryz.pinned (.plain (OpenSpec.upto wordsLearnsSpec)) wordsLearnsUptoCard

/-- THE SECOND FORM's CARD OF 'henkanlaw21.WordsParts'. -/
def wordsPartsUptoCard : Claim7 := { stood := { row := wordsPartsUptoRow, standIns := [], harness := (true, "979739eca997e1cdc021d83c025aadef7526b47b344d88c4a78dde40c109a0d0"), looks := true }, kinds := [], alts := [], laidByText := true, laidKinds := [.data, .data, .pinned], laidTests := true, laidLooks := .later }
def WordsPartsUptoCardSaid : Prop := Claim7.holds Tryz.pinned (.plain (OpenSpec.upto wordsPartsSpec)) wordsPartsUptoCard
end Rows
end Go.Proofs.YtaogeadljgjpcaaGreatDoor
