import Derived.Test.YtndhhgpmpnmljaaGreatDoorSortR
namespace Go.Proofs.YtndhhgpmpnmljaaGreatDoor
open Go

theorem sortS_mem {l : List En} {y : En} (h : y ∈ sortS l) : IsLeast l y := ((sortS_spec l).2 y).1 h
theorem sortS_idem (l : List En) : sortS (sortS l) = sortS l := by
  have h := sortS_spec l
  have h2 : IsSort (sortS l) (sortS l) := ⟨h.1, fun y => ⟨fun hy => ⟨hy, fun z hz hk => (sortS_mem hy).2 z (sortS_mem hz).1 hk⟩, fun hy => hy.1⟩⟩
  exact (sortS_spec (sortS l)).unique h2
theorem sortS_turn (l : List En) (k : Nat) : sortS (l.drop k ++ l.take k) = sortS l := by
  have hm : ∀ y, y ∈ l ↔ y ∈ l.drop k ++ l.take k := fun y => by
    rw [List.mem_append]
    conv => lhs; rw [← List.take_append_drop k l]
    rw [List.mem_append]
    exact or_comm
  exact (sortS_spec _).unique ((sortS_spec l).of_mem hm)
theorem sorted_next {o : List En} (h : SortedE o) {i : Nat} {x y : En} (hx : o[i]? = some x) (hy : o[i + 1]? = some y) : lessS x y = true := by
  obtain ⟨h1, e1⟩ := List.getElem?_eq_some_iff.1 hx
  obtain ⟨h2, e2⟩ := List.getElem?_eq_some_iff.1 hy
  have := List.pairwise_iff_getElem.1 h i (i + 1) h1 h2 (Nat.lt_succ_self _)
  rwa [e1, e2] at this
theorem min_exists {p : En → Prop} : ∀ {l : List En}, (∃ x ∈ l, p x) → ∃ z ∈ l, p z ∧ ∀ z' ∈ l, p z' → z.c ≤ z'.c
  | [], h => by obtain ⟨x, hx, _⟩ := h; simp at hx
  | a :: r, h => by
    by_cases hr : ∃ x ∈ r, p x
    · obtain ⟨z, hz, hp, hm⟩ := min_exists hr
      by_cases ha : p a
      · by_cases hc : a.c < z.c
        · refine ⟨a, by simp, ha, fun z' hz' hp' => ?_⟩
          rcases List.mem_cons.1 hz' with rfl | hz'
          · exact Int.le_refl _
          · have := hm z' hz' hp'; omega
        · refine ⟨z, by simp [hz], hp, fun z' hz' hp' => ?_⟩
          rcases List.mem_cons.1 hz' with rfl | hz'
          · omega
          · exact hm z' hz' hp'
      · refine ⟨z, by simp [hz], hp, fun z' hz' hp' => ?_⟩
        rcases List.mem_cons.1 hz' with rfl | hz'
        · exact absurd hp' ha
        · exact hm z' hz' hp'
    · obtain ⟨x, hx, hp⟩ := h
      rcases List.mem_cons.1 hx with rfl | hx
      · refine ⟨x, by simp, hp, fun z' hz' hp' => ?_⟩
        rcases List.mem_cons.1 hz' with rfl | hz'
        · exact Int.le_refl _
        · exact absurd ⟨z', hz', hp'⟩ hr
      · exact absurd ⟨x, hx, hp⟩ hr
def GoodE (x y : En) : Prop := sameKey y x ∧ y.c ≤ x.c
theorem sortS_good {l : List En} {x : En} (hx : x ∈ l) : ∃ (j : Nat) (y : En), j < (sortS l).length ∧ (sortS l)[j]? = some y ∧ GoodE x y := by
  obtain ⟨z, hz, hp, hm⟩ := min_exists (p := fun z => sameKey z x) ⟨x, hx, rfl, rfl, rfl, rfl⟩
  have hl : z ∈ sortS l := ((sortS_spec l).2 z).2 ⟨hz, fun z' hz' hk => hm z' hz' ⟨hk.1.trans hp.1, hk.2.1.trans hp.2.1, hk.2.2.1.trans hp.2.2.1, hk.2.2.2.trans hp.2.2.2⟩⟩
  obtain ⟨j, hj, he⟩ := List.getElem_of_mem hl
  exact ⟨j, z, hj, by rw [List.getElem?_eq_getElem hj, he], hp, hm x hx ⟨rfl, rfl, rfl, rfl⟩⟩
end Go.Proofs.YtndhhgpmpnmljaaGreatDoor
