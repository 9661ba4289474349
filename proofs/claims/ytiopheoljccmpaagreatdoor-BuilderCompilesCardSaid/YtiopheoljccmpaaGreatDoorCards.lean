/-
  DERIVED. GIVEN WITH THE SEED: THE CARDS: each row of YtiopheoljccmpaaGreatDoorRows.lean that lists a variable, with what it lists TIED to the program's text (the seventh form; the later family's looks); each row that meets fmt, with fmt's text TOLD by the authors' own Lean function (tested against real Go, not proved from fmt's source: count such statements apart). THE CARD IS WHAT COUNTS. Prove the row's statement (the work); the ties are given (YtiopheoljccmpaaGreatDoorTie.lean); close each card by the builder's one call (the guide's Derived/Test/ToyasCard.lean, 'card_holds'). Laid BY PROGRAM, IN A SANDBOX (cutbox-door.mjs). By AI agents, Wed Nov 11 2026. No macro, syntax, notation, axiom, sorry.
-/
import Derived.Test.YtiopheoljccmpaaGreatDoorRows
import GoSem.ClaimSeven
namespace Go.Proofs.YtiopheoljccmpaaGreatDoor
namespace Rows

/-- THE TIED CARD OF 'henkanlaw18.BuilderCompiles'. -/
def builderCompilesCard : Claim7 := { stood := { row := builderCompilesRow, standIns := [], harness := (true, "66e0d0d8ec8be8e33c9b9c8a71f02f7ef7025753700622c159e8c571b73974bf"), looks := true }, kinds := [], alts := [], laidByText := true, laidKinds := [.data, .data, .data, .data, .data, .sentinel, .sentinel, .widerDeep, .pinned], laidTests := true, laidLooks := .later }
def BuilderCompilesCardSaid : Prop := Claim7.holds Tryz.pinned (.plain (OpenSpec.ofChange builderCompilesSpec)) builderCompilesCard

/-- THE SECOND FORM's CARD OF 'henkanlaw18.BuilderCompiles'. -/
def builderCompilesUptoCard : Claim7 := { stood := { row := builderCompilesUptoRow, standIns := [], harness := (true, "66e0d0d8ec8be8e33c9b9c8a71f02f7ef7025753700622c159e8c571b73974bf"), looks := true }, kinds := [], alts := [], laidByText := true, laidKinds := [.data, .data, .data, .data, .data, .sentinel, .sentinel, .widerDeep, .pinned], laidTests := true, laidLooks := .later }
def BuilderCompilesUptoCardSaid : Prop := Claim7.holds Tryz.pinned (.plain (OpenSpec.upto builderCompilesSpec)) builderCompilesUptoCard
end Rows
end Go.Proofs.YtiopheoljccmpaaGreatDoor
