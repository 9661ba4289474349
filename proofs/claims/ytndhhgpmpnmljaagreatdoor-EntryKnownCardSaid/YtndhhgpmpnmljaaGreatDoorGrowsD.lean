import Derived.Test.YtndhhgpmpnmljaaGreatDoorMem
import Derived.Sort.Grow
import Derived.Deep.Draws
namespace Go.Proofs.YtndhhgpmpnmljaaGreatDoor
open Go Go.RowKit

/-- Nothing that is there has turned, and no draw is taken back. -/
def GrowsD (w w' : World) : Prop := Grows w w' ∧ w.drawn ≤ w'.drawn
theorem GrowsD.refl (w : World) : GrowsD w w := ⟨Grows.refl w, Nat.le_refl _⟩
theorem GrowsD.trans (a b c : World) (h : GrowsD a b) (k : GrowsD b c) : GrowsD a c := ⟨Grows.trans _ _ _ h.1 k.1, Nat.le_trans h.2 k.2⟩
theorem GrowsD.tr {a b c : World} (h : GrowsD a b) (k : GrowsD b c) : GrowsD a c := GrowsD.trans _ _ _ h k
theorem GrowsD.alloc (w : World) (o : Obj) : GrowsD w (w.alloc o) := ⟨Grows.alloc _ _, Nat.le_refl _⟩
theorem GrowsD.drew (w : World) : GrowsD w w.drew := ⟨Grows.drew _, Nat.le_succ _⟩
instance (w : World) : Nonempty (Ext GrowsD w) := ⟨⟨w, GrowsD.refl w⟩⟩
theorem ext_cellD {w : World} {p : Addr} {v : Value} (hc : w.cell? p = some v) (x : Ext GrowsD w) : x.u.cell? p = some v := x.h.1.cell hc
theorem calls_ext_sameD {P : Program} {f : FuncId} {args : Array Value} {w : World} {v : Value} (h : Calls P f args w fun e w' => e = .returned v ∧ w = w') :
    Calls P f args w fun e w'' => e = .returned v ∧ ∃ y : Ext GrowsD w, w'' = y.u := h.mono fun _ _ ⟨he, hw⟩ => ⟨he, ⟨w, GrowsD.refl w⟩, hw.symm⟩
theorem GrowsD.grow {w w' : World} (h : GrowsD w w') : ∃ q os', w' = Sort.grow (w.drewN q) os' := by
  obtain ⟨⟨h1, h2, h3, h4, h5⟩, h6⟩ := h
  refine ⟨w'.drawn - w.drawn, w'.heap.extract w.heap.size w'.heap.size, ?_⟩
  have hh : w'.heap = w.heap ++ w'.heap.extract w.heap.size w'.heap.size := by
    apply Array.ext_getElem?
    intro i
    by_cases hi : i < w.heap.size
    · rw [Array.getElem?_append_left hi]; exact h5 i hi
    · have hi' : w.heap.size ≤ i := Nat.le_of_not_lt hi
      rw [Array.getElem?_append_right hi', Array.getElem?_extract]
      by_cases hi2 : i < w'.heap.size
      · rw [if_pos (by omega)]; congr 1; omega
      · rw [if_neg (by omega)]; exact Array.getElem?_eq_none (by omega)
  obtain ⟨a1, a2, a3, a4, a5⟩ := w
  obtain ⟨b1, b2, b3, b4, b5⟩ := w'
  simp only at h1 h2 h3 h6 hh
  subst h1 h2 h3
  unfold Sort.grow World.drewN
  simp only [World.mk.injEq, true_and, and_true]
  exact ⟨hh, by omega⟩

end Go.Proofs.YtndhhgpmpnmljaaGreatDoor
