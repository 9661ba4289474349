import Derived.Test.YtndhhgpmpnmljaaGreatDoorSortP
import Derived.Test.YtndhhgpmpnmljaaGreatDoorApp
import Derived.Test.YtndhhgpmpnmljaaGreatDoorProg
namespace Go.Proofs.YtndhhgpmpnmljaaGreatDoor
open Go Go.RowKit
theorem entLay : ElemLay Tryz.prog 52 54 5 56 enCells where
  sl := Tryz.underlying52
  info := elem_info (z := .agg #[.string ⟨#[]⟩, .string ⟨#[]⟩, .int .i64 0, .int .i64 0, .int .i64 0]) (by kernel_rfl) rfl
  pos := by decide
  by1 := by decide
  len _ := rfl
  one := enCells_one
def ESortPost (l : List En) (w : World) (e : Ending) (w' : World) : Prop := ∃ v, e = .returned v ∧ Owns w' w.heap.size 54 5 enCells v (sortS l) ∧ Grows w w'
end Go.Proofs.YtndhhgpmpnmljaaGreatDoor
