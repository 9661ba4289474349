import Derived.Test.YtndhhgpmpnmljaaGreatDoorFew
namespace Go.Proofs.YtndhhgpmpnmljaaGreatDoor
open Go Go.RowKit Go.Shelf

def plainL : List PosV := [⟨⟨#[66, 79, 83]⟩, 0⟩, ⟨⟨#[78]⟩, 0⟩]
def kaB : ByteArray := ⟨#[227, 129, 139]⟩
def kaK : ByteArray := ⟨#[232, 154, 138]⟩
def wantE : En := ⟨kaB, kaK, 1, 1, 100⟩
def wantT : ByteArray := ⟨#[227, 129, 139, 9, 232, 154, 138, 9, 78, 9, 78, 9, 49, 48, 48]⟩
theorem ev_parse : parseS wantT plainL = ([wantE], 0, 0) := by kernel_rfl
theorem ev_print : printS [wantE] plainL = ([227, 129, 139, 9, 232, 154, 138, 9, 78, 9, 78, 9, 49, 48, 48, 10], 0) := by kernel_rfl
theorem ev_check2 : checkE wantE 2 = 0 := by kernel_rfl
theorem ev_check1 : checkE wantE 1 = 150 := by kernel_rfl
theorem ev_less : lessS wantE wantE = false := by kernel_rfl
end Go.Proofs.YtndhhgpmpnmljaaGreatDoor
