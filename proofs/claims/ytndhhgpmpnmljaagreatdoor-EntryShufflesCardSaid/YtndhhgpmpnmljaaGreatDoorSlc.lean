import Derived.Test.YtndhhgpmpnmljaaGreatDoorOpenS
namespace Go.Proofs.YtndhhgpmpnmljaaGreatDoor
open Go Go.RowKit

/-- A part of a slice. -/
theorem sliced_at {α : Type} {enc : α → List Value} {k : Nat} {w : World} {a : Option Addr} {xs : List α} {c l h : Nat} (hat : AtCells w a k (xs.map enc)) (hn : a = none → c = 0) (_ : l ≤ h) (hh : h ≤ xs.length) (hc : xs.length ≤ c) :
    ∃ a', sliced a l h c k = .slice a' (h - l) (c - l) ∧ AtCells w a' k (((xs.take h).drop l).map enc) ∧ (a' = none → c - l = 0) := by
  unfold sliced
  by_cases hm : c = l
  · rw [if_pos hm]
    refine ⟨a, rfl, ?_, fun _ => by omega⟩
    have : (xs.take h).drop l = [] := List.drop_eq_nil_of_le (by rw [List.length_take]; omega)
    rw [this]
    exact AtCells.nil _ _ _
  · rw [if_neg hm]
    refine ⟨_, rfl, fun hne => ?_, fun h0 => ?_⟩
    · have hx : xs.map enc ≠ [] := by
        rintro e
        rw [List.map_eq_nil_iff] at e
        subst e; simp at hne
      obtain ⟨b, off, rfl, hcell⟩ := hat hx
      refine ⟨b, off + l * k, by rw [Option.map_some, add_zero_off], fun i row hi j v hj => ?_⟩
      rw [List.getElem?_map, List.getElem?_drop] at hi
      have h1 : (xs.map enc)[l + i]? = some row := by
        rw [List.getElem?_map]
        rw [List.getElem?_take] at hi
        split at hi
        · exact hi
        · cases hi
      have := hcell (l + i) row h1 j v hj
      rwa [Nat.add_mul, ← Nat.add_assoc] at this
    · have h1 : a = none := by cases a with
        | none => rfl
        | some x => simp at h0
      have := hn h1
      omega
theorem at_take {α : Type} {enc : α → List Value} {k : Nat} {w : World} {a : Option Addr} {xs : List α} (h : AtCells w a k (xs.map enc)) (n : Nat) : AtCells w a k ((xs.take n).map enc) := fun hne => by
  have hx : xs.map enc ≠ [] := by
    rintro e
    rw [List.map_eq_nil_iff] at e
    subst e; simp at hne
  obtain ⟨b, off, ha, hc⟩ := h hx
  refine ⟨b, off, ha, fun i row hi j v hj => hc i row ?_ j v hj⟩
  rw [List.getElem?_map] at hi ⊢
  rw [List.getElem?_take] at hi
  split at hi
  · exact hi
  · cases hi
end Go.Proofs.YtndhhgpmpnmljaaGreatDoor
