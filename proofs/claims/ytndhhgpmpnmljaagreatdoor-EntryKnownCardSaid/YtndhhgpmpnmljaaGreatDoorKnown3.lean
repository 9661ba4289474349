import Derived.Test.YtndhhgpmpnmljaaGreatDoorKnown2
namespace Go.Proofs.YtndhhgpmpnmljaaGreatDoor
open Go Go.RowKit Go.Shelf

def kA : En := ⟨kaB, kaK, 1, 1, 200⟩
def kB2 : En := ⟨kaB, kaK, 1, 1, 50⟩
def kC : En := ⟨kaB, ⟨#[232, 170, 178]⟩, 1, 1, 100⟩
theorem ev_sort : sortS [kA, kC, kB2] = [kB2, kC] := by kernel_rfl
theorem sort_three (la : Option Addr) (w : World) (hat : AtCells w la 5 ([kA, kC, kB2].map enCells)) :
    Calls Tryz.prog 25 #[.slice la 3 3] w fun e w' => ∃ v, e = .returned v ∧ Owns w' w.heap.size 54 5 enCells v [kB2, kC] ∧ Grows w w' := by
  have h := esort_any [kA, kC, kB2] la 3 w (by decide) (fun x hx => by
    simp only [List.mem_cons, List.not_mem_nil, or_false] at hx
    rcases hx with rfl | rfl | rfl <;> exact ⟨by decide, by decide, by decide, by decide, by decide⟩) hat
  unfold ESortPost at h
  rw [ev_sort] at h
  exact h
theorem sort_none (w : World) : Calls Tryz.prog 25 #[.slice none 0 0] w fun e w' => ∃ v, e = .returned v ∧ Owns w' w.heap.size 54 5 enCells v [] ∧ Grows w w' :=
  esort_any [] none 0 w (by decide) (fun x hx => by cases hx) (AtCells.nil _ _ _)
end Go.Proofs.YtndhhgpmpnmljaaGreatDoor
