import Derived.Test.YtndhhgpmpnmljaaGreatDoorSortP
namespace Go.Proofs.YtndhhgpmpnmljaaGreatDoor
open Go

/-- What bars an entry from the reference's sorted list. -/
def Bad (x : En) (i : Nat) (y : En) (j : Nat) : Prop := sameKey x y ∧ (y.c < x.c ∨ y.c = x.c ∧ j < i)
instance (x : En) (i : Nat) (y : En) (j : Nat) : Decidable (Bad x i y j) := by unfold Bad; exact inferInstance
theorem sameKey_symm {x y : En} (h : sameKey x y) : sameKey y x := ⟨h.1.symm, h.2.1.symm, h.2.2.1.symm, h.2.2.2.symm⟩
theorem same_eq {x y : En} (h : sameKey x y) (hc : y.c = x.c) : x = y := by
  obtain ⟨a, b, c, d, e⟩ := x
  obtain ⟨a', b', c', d', e'⟩ := y
  obtain ⟨rfl, rfl, rfl, rfl⟩ := h
  simp only at hc
  subst hc; rfl
theorem keep_iff {l : List En} {i : Nat} {x : En} (hx : l[i]? = some x) : (∀ j y, j < l.length → l[j]? = some y → ¬ Bad x i y j) ↔ leastB l x = true ∧ x ∉ l.take i := by
  have hm : x ∈ l := List.mem_of_getElem? hx
  constructor
  · intro h
    refine ⟨(leastB_iff hm).2 ⟨hm, fun z hz hk => ?_⟩, fun ht => ?_⟩
    · obtain ⟨j, hj, rfl⟩ := List.getElem_of_mem hz
      have h1 := h j l[j] hj (List.getElem?_eq_getElem hj)
      exact Int.not_lt.1 fun hlt => h1 ⟨sameKey_symm hk, Or.inl hlt⟩
    · obtain ⟨j, hj, he⟩ := List.getElem_of_mem ht
      have hj' : j < i := by have := hj; rw [List.length_take] at this; omega
      have hj2 : j < l.length := by have := hj; rw [List.length_take] at this; omega
      rw [List.getElem_take] at he
      exact h j x hj2 (by rw [List.getElem?_eq_getElem hj2, he]) ⟨⟨rfl, rfl, rfl, rfl⟩, Or.inr ⟨rfl, hj'⟩⟩
  · rintro ⟨h1, h2⟩ j y hj hy ⟨hk, hc⟩
    have h3 := ((leastB_iff hm).1 h1).2 y (List.mem_of_getElem? hy) (sameKey_symm hk)
    rcases hc with hc | ⟨hc, hji⟩
    · omega
    · refine h2 ?_
      rw [same_eq hk hc]
      exact List.mem_of_getElem? (i := j) (by rw [List.getElem?_take_of_lt hji]; exact hy)

/-- The reference's sorted list, after i entries. -/
def SInv (l : List En) (i : Nat) (o : List En) : Prop := SortedE o ∧ ∀ y, y ∈ o ↔ y ∈ l.take i ∧ leastB l y = true
theorem SInv.start (l : List En) : SInv l 0 [] := ⟨by simp [SortedE], by simp⟩
theorem take_snoc {l : List En} {i : Nat} {x : En} (hx : l[i]? = some x) : l.take (i + 1) = l.take i ++ [x] := by rw [List.take_add_one, hx]; rfl
theorem SInv.skip {l o : List En} {i : Nat} {x : En} (h : SInv l i o) (hx : l[i]? = some x) (hk : ¬ (leastB l x = true ∧ x ∉ l.take i)) : SInv l (i + 1) o := by
  refine ⟨h.1, fun y => ?_⟩
  rw [h.2 y, take_snoc hx]
  constructor
  · rintro ⟨a, b⟩
    exact ⟨List.mem_append_left _ a, b⟩
  · rintro ⟨a, b⟩
    rcases List.mem_append.1 a with a | a
    · exact ⟨a, b⟩
    · obtain rfl : y = x := by simpa using a
      exact ⟨Decidable.byContradiction fun hn => hk ⟨b, hn⟩, b⟩
theorem SInv.ins {l o : List En} {i : Nat} {x : En} (h : SInv l i o) (hx : l[i]? = some x) (h1 : leastB l x = true) (h2 : x ∉ l.take i) : SInv l (i + 1) (insE x o) := by
  refine ⟨sorted_insE h.1 fun hm => h2 ((h.2 x).1 hm).1, fun y => ?_⟩
  rw [mem_insE, h.2 y, take_snoc hx]
  constructor
  · rintro (rfl | ⟨a, b⟩)
    · exact ⟨by simp, h1⟩
    · exact ⟨List.mem_append_left _ a, b⟩
  · rintro ⟨a, b⟩
    rcases List.mem_append.1 a with a | a
    · exact Or.inr ⟨a, b⟩
    · exact Or.inl (by simpa using a)
theorem SInv.isSort {l o : List En} (h : SInv l l.length o) : IsSort l o := by
  refine ⟨h.1, fun y => ?_⟩
  rw [h.2 y, List.take_length]
  exact ⟨fun ⟨a, b⟩ => (leastB_iff a).1 b, fun h => ⟨h.1, (leastB_iff h.1).2 h⟩⟩
theorem SInv.done {l o : List En} (h : SInv l l.length o) : o = sortS l := h.isSort.unique (sortS_spec l)
theorem length_insE (x : En) : ∀ o : List En, (insE x o).length = o.length + 1
  | [] => rfl
  | y :: r => by
    unfold insE
    split
    · rw [List.length_cons, length_insE x r, List.length_cons]
    · rfl
theorem insE_at {x : En} : ∀ {o : List En} {k : Nat}, k ≤ o.length → (∀ j y, j < k → o[j]? = some y → lessS y x = true) → (k = o.length ∨ ∃ y, o[k]? = some y ∧ lessS y x = false) → insE x o = o.take k ++ ([x] ++ o.drop k)
  | [], k, hk, _, _ => by
    obtain rfl : k = 0 := by simpa using hk
    rfl
  | y :: r, 0, _, _, h => by
    rcases h with h | ⟨z, hz, hl⟩
    · simp at h
    · obtain rfl : y = z := by simpa using hz
      unfold insE
      rw [if_neg (by rw [hl]; simp)]; rfl
  | y :: r, k + 1, hk, ha, h => by
    have h0 := ha 0 y (by omega) rfl
    unfold insE
    rw [if_pos h0]
    have hr : insE x r = r.take k ++ ([x] ++ r.drop k) := insE_at (by simpa using hk) (fun j z hj hz => ha (j + 1) z (by omega) (by simpa using hz)) (by
      rcases h with h | ⟨z, hz, hl⟩
      · exact Or.inl (by simpa using h)
      · exact Or.inr ⟨z, by simpa using hz, hl⟩)
    rw [hr]; rfl
end Go.Proofs.YtndhhgpmpnmljaaGreatDoor
