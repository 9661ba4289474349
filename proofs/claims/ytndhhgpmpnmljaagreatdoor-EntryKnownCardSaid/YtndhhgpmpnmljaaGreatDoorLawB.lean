import Derived.Test.YtndhhgpmpnmljaaGreatDoorFew
import Derived.Test.YtndhhgpmpnmljaaGreatDoorApp2
namespace Go.Proofs.YtndhhgpmpnmljaaGreatDoor
open Go Go.RowKit

theorem fewS_parts2 {l : List En} (h : fewS l = true) : l.length ≤ 100 ∧ ∀ x ∈ l, x.r.size ≤ 1000 ∧ x.s.size ≤ 1000 := by
  unfold fewS at h
  simp only [Bool.and_eq_true, decide_eq_true_eq, List.all_eq_true] at h
  exact ⟨h.1, fun x hx => by have := h.2 x hx; simpa [fewOne] using this⟩
theorem same_is (a b : List En) (r : Bool) (hr : decide (a = b) = r) (pa pb : Option Addr) (ca cb : Nat) (w : World) (la : a.length ≤ 4611686018427387904) (ha : AtCells w pa 5 (a.map enCells)) (hb : AtCells w pb 5 (b.map enCells)) :
    Calls Tryz.prog 26 #[.slice pa a.length ca, .slice pb b.length cb] w fun e w' => e = .returned (.bool r) ∧ Grows w w' := by
  have h := same_any a b pa pb ca cb w la ha hb
  rwa [hr] at h
theorem same_self2 (a : List En) (pa pb : Option Addr) (ca cb : Nat) (w : World) (la : a.length ≤ 4611686018427387904) (ha : AtCells w pa 5 (a.map enCells)) (hb : AtCells w pb 5 (a.map enCells)) :
    Calls Tryz.prog 26 #[.slice pa a.length ca, .slice pb a.length cb] w fun e w' => e = .returned (.bool true) ∧ Grows w w' := same_is a a true (by simp) pa pb ca cb w la ha hb
/-- A new block holds the cells of a list. -/
theorem box_rows {α : Type} {enc : α → List Value} {k : Nat} (hk : ∀ x, (enc x).length = k) (xs : List α) (w : World) (cs : Array Value) (t : TypeId) (h : cs.toList = xs.flatMap enc) (n : Nat) (hn : n = w.heap.size) : AtCells (w.alloc (.cells cs t)) (some ⟨n, 0, none⟩) k (xs.map enc) := fun _ => ⟨n, 0, rfl, fun i row hi j v hj => by
  rw [List.getElem?_map] at hi
  cases hx : xs[i]? with
  | none => rw [hx] at hi; cases hi
  | some x =>
    rw [hx] at hi
    obtain rfl := Option.some.inj hi
    have hf := flat_get hk xs i j x v hx hj
    rw [← h] at hf
    subst hn
    refine cell_box _ _ _ _ _ _ ?_
    rw [Nat.zero_add]
    simpa using hf⟩
end Go.Proofs.YtndhhgpmpnmljaaGreatDoor
