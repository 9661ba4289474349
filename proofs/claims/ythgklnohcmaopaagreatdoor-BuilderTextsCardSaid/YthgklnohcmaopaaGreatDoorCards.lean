/-
  DERIVED. GIVEN WITH THE SEED: THE CARDS: each row of YthgklnohcmaopaaGreatDoorRows.lean that lists a variable, with what it lists TIED to the program's text (the seventh form; the later family's looks); each row that meets fmt, with fmt's text TOLD by the authors' own Lean function (tested against real Go, not proved from fmt's source: count such statements apart). THE CARD IS WHAT COUNTS. Prove the row's statement (the work); the ties are given (YthgklnohcmaopaaGreatDoorTie.lean); close each card by the builder's one call (the guide's Derived/Test/ToyasCard.lean, 'card_holds'). Laid BY PROGRAM, IN A SANDBOX (cutbox-door.mjs). By AI agents, Wed Nov 11 2026. No macro, syntax, notation, axiom, sorry.
-/
import Derived.Test.YthgklnohcmaopaaGreatDoorRows
import GoSem.ClaimSeven
namespace Go.Proofs.YthgklnohcmaopaaGreatDoor
namespace Rows

/-- THE TIED CARD OF 'henkanlaw21.WordsFull'. -/
def wordsFullCard : Claim7 := { stood := { row := wordsFullRow, standIns := [], harness := (true, "9545e526b8d4a8bfad7e798257ff4939632e31b9f31821dfbffb50dce6451285"), looks := true }, kinds := [], alts := [], laidByText := true, laidKinds := [.data, .data, .pinned], laidTests := true, laidLooks := .later }
def WordsFullCardSaid : Prop := Claim7.holds Tryz.pinned (.plain (OpenSpec.ofChange wordsFullSpec)) wordsFullCard

/-- THE TIED CARD OF 'henkanlaw21.WordsLearns'. -/
def wordsLearnsCard : Claim7 := { stood := { row := wordsLearnsRow, standIns := [], harness := (true, "9545e526b8d4a8bfad7e798257ff4939632e31b9f31821dfbffb50dce6451285"), looks := true }, kinds := [], alts := [], laidByText := true, laidKinds := [.data, .data, .pinned], laidTests := true, laidLooks := .later }
def WordsLearnsCardSaid : Prop := Claim7.holds Tryz.pinned (.plain (OpenSpec.ofChange wordsLearnsSpec)) wordsLearnsCard

/-- THE TIED CARD OF 'henkanlaw18.BuilderKnown'. -/
def builderKnownCard : Claim7 := { stood := { row := builderKnownRow, standIns := [], harness := (true, "9545e526b8d4a8bfad7e798257ff4939632e31b9f31821dfbffb50dce6451285"), looks := true }, kinds := [], alts := [], laidByText := true, laidKinds := [.data, .data, .data, .data, .data, .sentinel, .sentinel, .widerDeep, .pinned], laidTests := true, laidLooks := .later }
def BuilderKnownCardSaid : Prop := Claim7.holds Tryz.pinned (.plain (OpenSpec.ofChange builderKnownSpec)) builderKnownCard

/-- THE TIED CARD OF 'henkanlaw18.BuilderTexts'. -/
def builderTextsCard : Claim7 := { stood := { row := builderTextsRow, standIns := [], harness := (true, "9545e526b8d4a8bfad7e798257ff4939632e31b9f31821dfbffb50dce6451285"), looks := true }, kinds := [], alts := [], laidByText := true, laidKinds := [.data, .data, .data, .data, .data, .sentinel, .sentinel, .widerDeep, .pinned], laidTests := true, laidLooks := .later }
def BuilderTextsCardSaid : Prop := Claim7.holds Tryz.pinned (.plain (OpenSpec.ofChange builderTextsSpec)) builderTextsCard

/-- THE SECOND FORM's CARD OF 'henkanlaw21.WordsFull'. -/
def wordsFullUptoCard : Claim7 := { stood := { row := wordsFullUptoRow, standIns := [], harness := (true, "9545e526b8d4a8bfad7e798257ff4939632e31b9f31821dfbffb50dce6451285"), looks := true }, kinds := [], alts := [], laidByText := true, laidKinds := [.data, .data, .pinned], laidTests := true, laidLooks := .later }
def WordsFullUptoCardSaid : Prop := Claim7.holds Tryz.pinned (.plain (OpenSpec.upto wordsFullSpec)) wordsFullUptoCard

/-- THE SECOND FORM's CARD OF 'henkanlaw21.WordsLearns'. -/
def wordsLearnsUptoCard : Claim7 := { stood := { row := wordsLearnsUptoRow, standIns := [], harness := (true, "9545e526b8d4a8bfad7e798257ff4939632e31b9f31821dfbffb50dce6451285"), looks := true }, kinds := [], alts := [], laidByText := true, laidKinds := [.data, .data, .pinned], laidTests := true, laidLooks := .later }
def WordsLearnsUptoCardSaid : Prop := Claim7.holds Tryz.pinned (.plain (OpenSpec.upto wordsLearnsSpec)) wordsLearnsUptoCard

/-- THE SECOND FORM's CARD OF 'henkanlaw18.BuilderKnown'. -/
def builderKnownUptoCard : Claim7 := { stood := { row := builderKnownUptoRow, standIns := [], harness := (true, "9545e526b8d4a8bfad7e798257ff4939632e31b9f31821dfbffb50dce6451285"), looks := true }, kinds := [], alts := [], laidByText := true, laidKinds := [.data, .data, .data, .data, .data, .sentinel, .sentinel, .widerDeep, .pinned], laidTests := true, laidLooks := .later }
def BuilderKnownUptoCardSaid : Prop := Claim7.holds Tryz.pinned (.plain (OpenSpec.upto builderKnownSpec)) builderKnownUptoCard

/-- THE SECOND FORM's CARD OF 'henkanlaw18.BuilderTexts'. -/
def builderTextsUptoCard : Claim7 := { stood := { row := builderTextsUptoRow, standIns := [], harness := (true, "9545e526b8d4a8bfad7e798257ff4939632e31b9f31821dfbffb50dce6451285"), looks := true }, kinds := [], alts := [], laidByText := true, laidKinds := [.data, .data, .data, .data, .data, .sentinel, .sentinel, .widerDeep, .pinned], laidTests := true, laidLooks := .later }
def BuilderTextsUptoCardSaid : Prop := Claim7.holds Tryz.pinned (.plain (OpenSpec.upto builderTextsSpec)) builderTextsUptoCard
end Rows
end Go.Proofs.YthgklnohcmaopaaGreatDoor
