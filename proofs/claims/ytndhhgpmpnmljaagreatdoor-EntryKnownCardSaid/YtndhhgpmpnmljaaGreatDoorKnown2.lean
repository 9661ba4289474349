import Derived.Test.YtndhhgpmpnmljaaGreatDoorKnown1
import Derived.Test.YtndhhgpmpnmljaaGreatDoorSortW
namespace Go.Proofs.YtndhhgpmpnmljaaGreatDoor
open Go Go.RowKit Go.Shelf

theorem ev_wrong5 : parseS ⟨#[35, 32, 120, 10, 227, 129, 139, 9, 232, 154, 138, 9, 88, 9, 78, 9, 49, 48, 48]⟩ plainL = ([], 2, 150) := by kernel_rfl
theorem ev_k1 : checkS kaB kaK 1 1 30001 2 = 6 := by kernel_rfl
theorem ev_k2 : checkS ⟨#[227, 130, 171]⟩ kaK 1 1 30001 2 = 5 := by kernel_rfl
theorem ev_k3 : checkS kaB ⟨#[10]⟩ 1 1 0 2 = 5 := by kernel_rfl
theorem ev_k4 : checkS kaB kaK 1 1 30001 (-1) = 150 := by kernel_rfl
theorem ev_k5 : checkS kaB ⟨#[194, 128]⟩ 1 1 0 2 = 5 := by kernel_rfl
theorem ev_k6 : checkS kaB ⟨#[194, 160]⟩ 1 1 0 2 = 0 := by kernel_rfl
theorem ev_printz : printS [⟨ByteArray.empty, ByteArray.empty, 0, 0, 0⟩] [] = ([], 5) := by kernel_rfl
theorem ev_big {t : ByteArray} (h : 1048576 < t.size) : parseS t plainL = ([], 0, 2) := by
  unfold parseS
  rw [show posValid plainL = true by kernel_rfl]
  simp [h]
end Go.Proofs.YtndhhgpmpnmljaaGreatDoor
