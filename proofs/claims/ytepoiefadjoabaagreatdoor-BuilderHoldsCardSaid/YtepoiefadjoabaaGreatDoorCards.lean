/-
  DERIVED. GIVEN WITH THE SEED: THE CARDS: each row of YtepoiefadjoabaaGreatDoorRows.lean that lists a variable, with what it lists TIED to the program's text (the seventh form; the later family's looks); each row that meets fmt, with fmt's text TOLD by the authors' own Lean function (tested against real Go, not proved from fmt's source: count such statements apart). THE CARD IS WHAT COUNTS. Prove the row's statement (the work); the ties are given (YtepoiefadjoabaaGreatDoorTie.lean); close each card by the builder's one call (the guide's Derived/Test/ToyasCard.lean, 'card_holds'). Laid BY PROGRAM, IN A SANDBOX (cutbox-door.mjs). By AI agents, Wed Nov 11 2026. No macro, syntax, notation, axiom, sorry.
-/
import Derived.Test.YtepoiefadjoabaaGreatDoorRows
import GoSem.ClaimSeven
namespace Go.Proofs.YtepoiefadjoabaaGreatDoor
namespace Rows

/-- THE TIED CARD OF 'henkanlaw18.BuilderBuilds'. -/
def builderBuildsCard : Claim7 := { stood := { row := builderBuildsRow, standIns := [], harness := (true, "d9f7cae8ea6856d9103c0c42044f9cbfca1f0460fb59193029786bc3516bce78"), looks := true }, kinds := [], alts := [], laidByText := true, laidKinds := [.data, .data, .pinned], laidTests := true, laidLooks := .later }
def BuilderBuildsCardSaid : Prop := Claim7.holds Tryz.pinned (.plain (OpenSpec.ofChange builderBuildsSpec)) builderBuildsCard

/-- THE TIED CARD OF 'henkanlaw18.BuilderSizes'. -/
def builderSizesCard : Claim7 := { stood := { row := builderSizesRow, standIns := [], harness := (true, "d9f7cae8ea6856d9103c0c42044f9cbfca1f0460fb59193029786bc3516bce78"), looks := true }, kinds := [], alts := [], laidByText := true, laidKinds := [.data, .data, .pinned], laidTests := true, laidLooks := .later }
def BuilderSizesCardSaid : Prop := Claim7.holds Tryz.pinned (.plain (OpenSpec.ofChange builderSizesSpec)) builderSizesCard

/-- THE TIED CARD OF 'henkanlaw18.BuilderOrder'. -/
def builderOrderCard : Claim7 := { stood := { row := builderOrderRow, standIns := [], harness := (true, "d9f7cae8ea6856d9103c0c42044f9cbfca1f0460fb59193029786bc3516bce78"), looks := true }, kinds := [], alts := [], laidByText := true, laidKinds := [.data, .data, .pinned], laidTests := true, laidLooks := .later }
def BuilderOrderCardSaid : Prop := Claim7.holds Tryz.pinned (.plain (OpenSpec.ofChange builderOrderSpec)) builderOrderCard

/-- THE TIED CARD OF 'henkanlaw18.BuilderHolds'. -/
def builderHoldsCard : Claim7 := { stood := { row := builderHoldsRow, standIns := [], harness := (true, "d9f7cae8ea6856d9103c0c42044f9cbfca1f0460fb59193029786bc3516bce78"), looks := true }, kinds := [], alts := [], laidByText := true, laidKinds := [.data, .data, .pinned], laidTests := true, laidLooks := .later }
def BuilderHoldsCardSaid : Prop := Claim7.holds Tryz.pinned (.plain (OpenSpec.ofChange builderHoldsSpec)) builderHoldsCard

/-- THE SECOND FORM's CARD OF 'henkanlaw18.BuilderBuilds'. -/
def builderBuildsUptoCard : Claim7 := { stood := { row := builderBuildsUptoRow, standIns := [], harness := (true, "d9f7cae8ea6856d9103c0c42044f9cbfca1f0460fb59193029786bc3516bce78"), looks := true }, kinds := [], alts := [], laidByText := true, laidKinds := [.data, .data, .pinned], laidTests := true, laidLooks := .later }
def BuilderBuildsUptoCardSaid : Prop := Claim7.holds Tryz.pinned (.plain (OpenSpec.upto builderBuildsSpec)) builderBuildsUptoCard

/-- THE SECOND FORM's CARD OF 'henkanlaw18.BuilderSizes'. -/
def builderSizesUptoCard : Claim7 := { stood := { row := builderSizesUptoRow, standIns := [], harness := (true, "d9f7cae8ea6856d9103c0c42044f9cbfca1f0460fb59193029786bc3516bce78"), looks := true }, kinds := [], alts := [], laidByText := true, laidKinds := [.data, .data, .pinned], laidTests := true, laidLooks := .later }
def BuilderSizesUptoCardSaid : Prop := Claim7.holds Tryz.pinned (.plain (OpenSpec.upto builderSizesSpec)) builderSizesUptoCard

/-- THE SECOND FORM's CARD OF 'henkanlaw18.BuilderOrder'. -/
def builderOrderUptoCard : Claim7 := { stood := { row := builderOrderUptoRow, standIns := [], harness := (true, "d9f7cae8ea6856d9103c0c42044f9cbfca1f0460fb59193029786bc3516bce78"), looks := true }, kinds := [], alts := [], laidByText := true, laidKinds := [.data, .data, .pinned], laidTests := true, laidLooks := .later }
def BuilderOrderUptoCardSaid : Prop := Claim7.holds Tryz.pinned (.plain (OpenSpec.upto builderOrderSpec)) builderOrderUptoCard

/-- THE SECOND FORM's CARD OF 'henkanlaw18.BuilderHolds'. -/
def builderHoldsUptoCard : Claim7 := { stood := { row := builderHoldsUptoRow, standIns := [], harness := (true, "d9f7cae8ea6856d9103c0c42044f9cbfca1f0460fb59193029786bc3516bce78"), looks := true }, kinds := [], alts := [], laidByText := true, laidKinds := [.data, .data, .pinned], laidTests := true, laidLooks := .later }
def BuilderHoldsUptoCardSaid : Prop := Claim7.holds Tryz.pinned (.plain (OpenSpec.upto builderHoldsSpec)) builderHoldsUptoCard
end Rows
end Go.Proofs.YtepoiefadjoabaaGreatDoor
