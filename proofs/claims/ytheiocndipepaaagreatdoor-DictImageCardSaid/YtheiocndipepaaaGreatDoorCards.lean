/-
  DERIVED. GIVEN WITH THE SEED: THE CARDS: each row of YtheiocndipepaaaGreatDoorRows.lean that lists a variable, with what it lists TIED to the program's text (the seventh form; the later family's looks); each row that meets fmt, with fmt's text TOLD by the authors' own Lean function (tested against real Go, not proved from fmt's source: count such statements apart). THE CARD IS WHAT COUNTS. Prove the row's statement (the work); the ties are given (YtheiocndipepaaaGreatDoorTie.lean); close each card by the builder's one call (the guide's Derived/Test/ToyasCard.lean, 'card_holds'). Laid BY PROGRAM, IN A SANDBOX (cutbox-door.mjs). By AI agents, Wed Nov 11 2026. No macro, syntax, notation, axiom, sorry.
-/
import Derived.Test.YtheiocndipepaaaGreatDoorRows
import GoSem.ClaimSeven
namespace Go.Proofs.YtheiocndipepaaaGreatDoor
namespace Rows

/-- THE TIED CARD OF 'henkanlaw19.DictImage'. -/
def dictImageCard : Claim7 := { stood := { row := dictImageRow, standIns := [], harness := (true, "93dd3deb3fbfae9f8cdf6219e1f87b1a8c809a0897e7c55c85b1909e7eb6c16c"), looks := true }, kinds := [], alts := [], laidByText := true, laidKinds := [.data, .data, .pinned], laidTests := true, laidLooks := .later }
def DictImageCardSaid : Prop := Claim7.holds Tryz.pinned (.plain (OpenSpec.ofChange dictImageSpec)) dictImageCard

/-- THE TIED CARD OF 'henkanlaw19.DictAll'. -/
def dictAllCard : Claim7 := { stood := { row := dictAllRow, standIns := [], harness := (true, "93dd3deb3fbfae9f8cdf6219e1f87b1a8c809a0897e7c55c85b1909e7eb6c16c"), looks := true }, kinds := [], alts := [], laidByText := true, laidKinds := [.data, .data, .pinned], laidTests := true, laidLooks := .later }
def DictAllCardSaid : Prop := Claim7.holds Tryz.pinned (.plain (OpenSpec.ofChange dictAllSpec)) dictAllCard

/-- THE TIED CARD OF 'henkanlaw19.DictOwn'. -/
def dictOwnCard : Claim7 := { stood := { row := dictOwnRow, standIns := [], harness := (true, "93dd3deb3fbfae9f8cdf6219e1f87b1a8c809a0897e7c55c85b1909e7eb6c16c"), looks := true }, kinds := [], alts := [], laidByText := true, laidKinds := [.data, .data, .pinned], laidTests := true, laidLooks := .later }
def DictOwnCardSaid : Prop := Claim7.holds Tryz.pinned (.plain (OpenSpec.ofChange dictOwnSpec)) dictOwnCard

/-- THE TIED CARD OF 'henkanlaw19.DictOrder'. -/
def dictOrderCard : Claim7 := { stood := { row := dictOrderRow, standIns := [], harness := (true, "93dd3deb3fbfae9f8cdf6219e1f87b1a8c809a0897e7c55c85b1909e7eb6c16c"), looks := true }, kinds := [], alts := [], laidByText := true, laidKinds := [.data, .data, .pinned], laidTests := true, laidLooks := .later }
def DictOrderCardSaid : Prop := Claim7.holds Tryz.pinned (.plain (OpenSpec.ofChange dictOrderSpec)) dictOrderCard

/-- THE TIED CARD OF 'henkanlaw19.DictKnown'. -/
def dictKnownCard : Claim7 := { stood := { row := dictKnownRow, standIns := [], harness := (true, "93dd3deb3fbfae9f8cdf6219e1f87b1a8c809a0897e7c55c85b1909e7eb6c16c"), looks := true }, kinds := [], alts := [], laidByText := true, laidKinds := [.data, .data, .pinned], laidTests := true, laidLooks := .later }
def DictKnownCardSaid : Prop := Claim7.holds Tryz.pinned (.plain (OpenSpec.ofChange dictKnownSpec)) dictKnownCard

/-- THE SECOND FORM's CARD OF 'henkanlaw19.DictImage'. -/
def dictImageUptoCard : Claim7 := { stood := { row := dictImageUptoRow, standIns := [], harness := (true, "93dd3deb3fbfae9f8cdf6219e1f87b1a8c809a0897e7c55c85b1909e7eb6c16c"), looks := true }, kinds := [], alts := [], laidByText := true, laidKinds := [.data, .data, .pinned], laidTests := true, laidLooks := .later }
def DictImageUptoCardSaid : Prop := Claim7.holds Tryz.pinned (.plain (OpenSpec.upto dictImageSpec)) dictImageUptoCard

/-- THE SECOND FORM's CARD OF 'henkanlaw19.DictAll'. -/
def dictAllUptoCard : Claim7 := { stood := { row := dictAllUptoRow, standIns := [], harness := (true, "93dd3deb3fbfae9f8cdf6219e1f87b1a8c809a0897e7c55c85b1909e7eb6c16c"), looks := true }, kinds := [], alts := [], laidByText := true, laidKinds := [.data, .data, .pinned], laidTests := true, laidLooks := .later }
def DictAllUptoCardSaid : Prop := Claim7.holds Tryz.pinned (.plain (OpenSpec.upto dictAllSpec)) dictAllUptoCard

/-- THE SECOND FORM's CARD OF 'henkanlaw19.DictOwn'. -/
def dictOwnUptoCard : Claim7 := { stood := { row := dictOwnUptoRow, standIns := [], harness := (true, "93dd3deb3fbfae9f8cdf6219e1f87b1a8c809a0897e7c55c85b1909e7eb6c16c"), looks := true }, kinds := [], alts := [], laidByText := true, laidKinds := [.data, .data, .pinned], laidTests := true, laidLooks := .later }
def DictOwnUptoCardSaid : Prop := Claim7.holds Tryz.pinned (.plain (OpenSpec.upto dictOwnSpec)) dictOwnUptoCard

/-- THE SECOND FORM's CARD OF 'henkanlaw19.DictOrder'. -/
def dictOrderUptoCard : Claim7 := { stood := { row := dictOrderUptoRow, standIns := [], harness := (true, "93dd3deb3fbfae9f8cdf6219e1f87b1a8c809a0897e7c55c85b1909e7eb6c16c"), looks := true }, kinds := [], alts := [], laidByText := true, laidKinds := [.data, .data, .pinned], laidTests := true, laidLooks := .later }
def DictOrderUptoCardSaid : Prop := Claim7.holds Tryz.pinned (.plain (OpenSpec.upto dictOrderSpec)) dictOrderUptoCard

/-- THE SECOND FORM's CARD OF 'henkanlaw19.DictKnown'. -/
def dictKnownUptoCard : Claim7 := { stood := { row := dictKnownUptoRow, standIns := [], harness := (true, "93dd3deb3fbfae9f8cdf6219e1f87b1a8c809a0897e7c55c85b1909e7eb6c16c"), looks := true }, kinds := [], alts := [], laidByText := true, laidKinds := [.data, .data, .pinned], laidTests := true, laidLooks := .later }
def DictKnownUptoCardSaid : Prop := Claim7.holds Tryz.pinned (.plain (OpenSpec.upto dictKnownSpec)) dictKnownUptoCard
end Rows
end Go.Proofs.YtheiocndipepaaaGreatDoor
