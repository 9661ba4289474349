/-
  DERIVED. GIVEN WITH THE SEED: THE CARDS: each row of YtjhajgffmnkocaaGreatDoorRows.lean that lists a variable, with what it lists TIED to the program's text (the seventh form; the later family's looks); each row that meets fmt, with fmt's text TOLD by the authors' own Lean function (tested against real Go, not proved from fmt's source: count such statements apart). THE CARD IS WHAT COUNTS. Prove the row's statement (the work); the ties are given (YtjhajgffmnkocaaGreatDoorTie.lean); close each card by the builder's one call (the guide's Derived/Test/ToyasCard.lean, 'card_holds'). Laid BY PROGRAM, IN A SANDBOX (cutbox-door.mjs). By AI agents, Wed Nov 11 2026. No macro, syntax, notation, axiom, sorry.
-/
import Derived.Test.YtjhajgffmnkocaaGreatDoorRows
import GoSem.ClaimSeven
namespace Go.Proofs.YtjhajgffmnkocaaGreatDoor
namespace Rows

/-- THE TIED CARD OF 'henkanlaw38.PredictLists'. -/
def predictListsCard : Claim7 := { stood := { row := predictListsRow, standIns := [], harness := (true, "125c94259c5f0d8bbee3ab36ec7de88c6f112ee3d120984e5d106c07506d2924"), looks := true }, kinds := [], alts := [], laidByText := true, laidKinds := [.data, .data, .pinned], laidTests := true, laidLooks := .later }
def PredictListsCardSaid : Prop := Claim7.holds Tryz.pinned (.plain (OpenSpec.ofChange predictListsSpec)) predictListsCard

/-- THE TIED CARD OF 'henkanlaw38.PredictNone'. -/
def predictNoneCard : Claim7 := { stood := { row := predictNoneRow, standIns := [], harness := (true, "125c94259c5f0d8bbee3ab36ec7de88c6f112ee3d120984e5d106c07506d2924"), looks := true }, kinds := [], alts := [], laidByText := true, laidKinds := [.data, .data, .pinned], laidTests := true, laidLooks := .later }
def PredictNoneCardSaid : Prop := Claim7.holds Tryz.pinned (.plain (OpenSpec.ofChange predictNoneSpec)) predictNoneCard

/-- THE TIED CARD OF 'henkanlaw38.PredictOrder'. -/
def predictOrderCard : Claim7 := { stood := { row := predictOrderRow, standIns := [], harness := (true, "125c94259c5f0d8bbee3ab36ec7de88c6f112ee3d120984e5d106c07506d2924"), looks := true }, kinds := [], alts := [], laidByText := true, laidKinds := [.data, .data, .pinned], laidTests := true, laidLooks := .later }
def PredictOrderCardSaid : Prop := Claim7.holds Tryz.pinned (.plain (OpenSpec.ofChange predictOrderSpec)) predictOrderCard

/-- THE TIED CARD OF 'henkanlaw38.PredictFewer'. -/
def predictFewerCard : Claim7 := { stood := { row := predictFewerRow, standIns := [], harness := (true, "125c94259c5f0d8bbee3ab36ec7de88c6f112ee3d120984e5d106c07506d2924"), looks := true }, kinds := [], alts := [], laidByText := true, laidKinds := [.data, .data, .pinned], laidTests := true, laidLooks := .later }
def PredictFewerCardSaid : Prop := Claim7.holds Tryz.pinned (.plain (OpenSpec.ofChange predictFewerSpec)) predictFewerCard

/-- THE TIED CARD OF 'henkanlaw38.PredictRises'. -/
def predictRisesCard : Claim7 := { stood := { row := predictRisesRow, standIns := [], harness := (true, "125c94259c5f0d8bbee3ab36ec7de88c6f112ee3d120984e5d106c07506d2924"), looks := true }, kinds := [], alts := [], laidByText := true, laidKinds := [.data, .data, .pinned], laidTests := true, laidLooks := .later }
def PredictRisesCardSaid : Prop := Claim7.holds Tryz.pinned (.plain (OpenSpec.ofChange predictRisesSpec)) predictRisesCard

/-- THE TIED CARD OF 'henkanlaw38.PredictPairs'. -/
def predictPairsCard : Claim7 := { stood := { row := predictPairsRow, standIns := [], harness := (true, "125c94259c5f0d8bbee3ab36ec7de88c6f112ee3d120984e5d106c07506d2924"), looks := true }, kinds := [], alts := [], laidByText := true, laidKinds := [.data, .data, .pinned], laidTests := true, laidLooks := .later }
def PredictPairsCardSaid : Prop := Claim7.holds Tryz.pinned (.plain (OpenSpec.ofChange predictPairsSpec)) predictPairsCard

/-- THE TIED CARD OF 'henkanlaw38.PredictScores'. -/
def predictScoresCard : Claim7 := { stood := { row := predictScoresRow, standIns := [], harness := (true, "125c94259c5f0d8bbee3ab36ec7de88c6f112ee3d120984e5d106c07506d2924"), looks := true }, kinds := [], alts := [], laidByText := true, laidKinds := [.data, .data, .pinned], laidTests := true, laidLooks := .later }
def PredictScoresCardSaid : Prop := Claim7.holds Tryz.pinned (.plain (OpenSpec.ofChange predictScoresSpec)) predictScoresCard

/-- THE TIED CARD OF 'henkanlaw38.PredictKnown'. -/
def predictKnownCard : Claim7 := { stood := { row := predictKnownRow, standIns := [], harness := (true, "125c94259c5f0d8bbee3ab36ec7de88c6f112ee3d120984e5d106c07506d2924"), looks := true }, kinds := [], alts := [], laidByText := true, laidKinds := [.data, .data, .pinned], laidTests := true, laidLooks := .later }
def PredictKnownCardSaid : Prop := Claim7.holds Tryz.pinned (.plain (OpenSpec.ofChange predictKnownSpec)) predictKnownCard

/-- THE SECOND FORM's CARD OF 'henkanlaw38.PredictLists'. -/
def predictListsUptoCard : Claim7 := { stood := { row := predictListsUptoRow, standIns := [], harness := (true, "125c94259c5f0d8bbee3ab36ec7de88c6f112ee3d120984e5d106c07506d2924"), looks := true }, kinds := [], alts := [], laidByText := true, laidKinds := [.data, .data, .pinned], laidTests := true, laidLooks := .later }
def PredictListsUptoCardSaid : Prop := Claim7.holds Tryz.pinned (.plain (OpenSpec.upto predictListsSpec)) predictListsUptoCard

/-- THE SECOND FORM's CARD OF 'henkanlaw38.PredictNone'. -/
def predictNoneUptoCard : Claim7 := { stood := { row := predictNoneUptoRow, standIns := [], harness := (true, "125c94259c5f0d8bbee3ab36ec7de88c6f112ee3d120984e5d106c07506d2924"), looks := true }, kinds := [], alts := [], laidByText := true, laidKinds := [.data, .data, .pinned], laidTests := true, laidLooks := .later }
def PredictNoneUptoCardSaid : Prop := Claim7.holds Tryz.pinned (.plain (OpenSpec.upto predictNoneSpec)) predictNoneUptoCard

/-- THE SECOND FORM's CARD OF 'henkanlaw38.PredictOrder'. -/
def predictOrderUptoCard : Claim7 := { stood := { row := predictOrderUptoRow, standIns := [], harness := (true, "125c94259c5f0d8bbee3ab36ec7de88c6f112ee3d120984e5d106c07506d2924"), looks := true }, kinds := [], alts := [], laidByText := true, laidKinds := [.data, .data, .pinned], laidTests := true, laidLooks := .later }
def PredictOrderUptoCardSaid : Prop := Claim7.holds Tryz.pinned (.plain (OpenSpec.upto predictOrderSpec)) predictOrderUptoCard

/-- THE SECOND FORM's CARD OF 'henkanlaw38.PredictFewer'. -/
def predictFewerUptoCard : Claim7 := { stood := { row := predictFewerUptoRow, standIns := [], harness := (true, "125c94259c5f0d8bbee3ab36ec7de88c6f112ee3d120984e5d106c07506d2924"), looks := true }, kinds := [], alts := [], laidByText := true, laidKinds := [.data, .data, .pinned], laidTests := true, laidLooks := .later }
def PredictFewerUptoCardSaid : Prop := Claim7.holds Tryz.pinned (.plain (OpenSpec.upto predictFewerSpec)) predictFewerUptoCard

/-- THE SECOND FORM's CARD OF 'henkanlaw38.PredictRises'. -/
def predictRisesUptoCard : Claim7 := { stood := { row := predictRisesUptoRow, standIns := [], harness := (true, "125c94259c5f0d8bbee3ab36ec7de88c6f112ee3d120984e5d106c07506d2924"), looks := true }, kinds := [], alts := [], laidByText := true, laidKinds := [.data, .data, .pinned], laidTests := true, laidLooks := .later }
def PredictRisesUptoCardSaid : Prop := Claim7.holds Tryz.pinned (.plain (OpenSpec.upto predictRisesSpec)) predictRisesUptoCard

/-- THE SECOND FORM's CARD OF 'henkanlaw38.PredictPairs'. -/
def predictPairsUptoCard : Claim7 := { stood := { row := predictPairsUptoRow, standIns := [], harness := (true, "125c94259c5f0d8bbee3ab36ec7de88c6f112ee3d120984e5d106c07506d2924"), looks := true }, kinds := [], alts := [], laidByText := true, laidKinds := [.data, .data, .pinned], laidTests := true, laidLooks := .later }
def PredictPairsUptoCardSaid : Prop := Claim7.holds Tryz.pinned (.plain (OpenSpec.upto predictPairsSpec)) predictPairsUptoCard

/-- THE SECOND FORM's CARD OF 'henkanlaw38.PredictScores'. -/
def predictScoresUptoCard : Claim7 := { stood := { row := predictScoresUptoRow, standIns := [], harness := (true, "125c94259c5f0d8bbee3ab36ec7de88c6f112ee3d120984e5d106c07506d2924"), looks := true }, kinds := [], alts := [], laidByText := true, laidKinds := [.data, .data, .pinned], laidTests := true, laidLooks := .later }
def PredictScoresUptoCardSaid : Prop := Claim7.holds Tryz.pinned (.plain (OpenSpec.upto predictScoresSpec)) predictScoresUptoCard

/-- THE SECOND FORM's CARD OF 'henkanlaw38.PredictKnown'. -/
def predictKnownUptoCard : Claim7 := { stood := { row := predictKnownUptoRow, standIns := [], harness := (true, "125c94259c5f0d8bbee3ab36ec7de88c6f112ee3d120984e5d106c07506d2924"), looks := true }, kinds := [], alts := [], laidByText := true, laidKinds := [.data, .data, .pinned], laidTests := true, laidLooks := .later }
def PredictKnownUptoCardSaid : Prop := Claim7.holds Tryz.pinned (.plain (OpenSpec.upto predictKnownSpec)) predictKnownUptoCard
end Rows
end Go.Proofs.YtjhajgffmnkocaaGreatDoor
