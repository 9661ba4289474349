import Derived.Test.YtndhhgpmpnmljaaGreatDoorOrderP
namespace Go.Proofs.YtndhhgpmpnmljaaGreatDoor
open Go

/-- The same entry but for the cost. -/
def sameKey (x y : En) : Prop := x.r = y.r ∧ x.s = y.s ∧ x.l = y.l ∧ x.t = y.t
instance (x y : En) : Decidable (sameKey x y) := by unfold sameKey; exact inferInstance
/-- The cheapest of its kind in a list. -/
def IsLeast (l : List En) (y : En) : Prop := y ∈ l ∧ ∀ z ∈ l, sameKey z y → y.c ≤ z.c
def SortedE (o : List En) : Prop := o.Pairwise fun x y => lessS x y = true
/-- The sorted list of the cheapest ones. -/
def IsSort (l o : List En) : Prop := SortedE o ∧ ∀ y, y ∈ o ↔ IsLeast l y
theorem sorted_unique : ∀ {o o' : List En}, SortedE o → SortedE o' → (∀ y, y ∈ o ↔ y ∈ o') → o = o'
  | [], [], _, _, _ => rfl
  | [], b :: s, _, _, h => by have := (h b).2 (by simp); cases this
  | a :: r, [], _, _, h => by have := (h a).1 (by simp); cases this
  | a :: r, b :: s, h1, h2, h => by
    obtain ⟨ha, hr⟩ := List.pairwise_cons.1 h1
    obtain ⟨hb, hs⟩ := List.pairwise_cons.1 h2
    have hab : a = b := by
      rcases List.mem_cons.1 ((h a).1 (by simp)) with e | e
      · exact e
      · rcases List.mem_cons.1 ((h b).2 (by simp)) with e' | e'
        · exact e'.symm
        · have k1 := hb a e
          have k2 := ha b e'
          have := lessS_trans k1 k2
          rw [lessS_irrefl] at this; cases this
    subst hab
    have hn1 : a ∉ r := fun hm => by have := ha a hm; rw [lessS_irrefl] at this; cases this
    have hn2 : a ∉ s := fun hm => by have := hb a hm; rw [lessS_irrefl] at this; cases this
    rw [sorted_unique hr hs fun y => ?_]
    constructor
    · intro hy
      rcases List.mem_cons.1 ((h y).1 (by simp [hy])) with e | e
      · subst e; exact absurd hy hn1
      · exact e
    · intro hy
      rcases List.mem_cons.1 ((h y).2 (by simp [hy])) with e | e
      · subst e; exact absurd hy hn2
      · exact e
theorem IsSort.unique {l o o' : List En} (h : IsSort l o) (h' : IsSort l o') : o = o' := sorted_unique h.1 h'.1 fun y => (h.2 y).trans (h'.2 y).symm
theorem IsSort.of_mem {l l' o : List En} (h : IsSort l o) (hm : ∀ y, y ∈ l ↔ y ∈ l') : IsSort l' o := by
  refine ⟨h.1, fun y => (h.2 y).trans ?_⟩
  unfold IsLeast
  rw [hm]
  exact ⟨fun ⟨a, b⟩ => ⟨a, fun z hz => b z ((hm z).2 hz)⟩, fun ⟨a, b⟩ => ⟨a, fun z hz => b z ((hm z).1 hz)⟩⟩
/-- An entry into a sorted list that lacks it. -/
def insE (x : En) : List En → List En
  | [] => [x]
  | y :: r => if lessS y x then y :: insE x r else x :: y :: r
theorem mem_insE {x y : En} : ∀ {o : List En}, y ∈ insE x o ↔ y = x ∨ y ∈ o
  | [] => by simp [insE]
  | z :: r => by
    unfold insE
    split
    · rw [List.mem_cons, mem_insE (o := r), List.mem_cons]
      constructor
      · rintro (h | h | h)
        · exact Or.inr (Or.inl h)
        · exact Or.inl h
        · exact Or.inr (Or.inr h)
      · rintro (h | h | h)
        · exact Or.inr (Or.inl h)
        · exact Or.inl h
        · exact Or.inr (Or.inr h)
    · simp
theorem sorted_insE {x : En} : ∀ {o : List En}, SortedE o → x ∉ o → SortedE (insE x o)
  | [], _, _ => by simp [insE, SortedE]
  | z :: r, h, hx => by
    obtain ⟨hz, hr⟩ := List.pairwise_cons.1 h
    have hxz : x ≠ z := fun e => hx (by simp [e])
    have hxr : x ∉ r := fun e => hx (by simp [e])
    unfold insE
    split
    · rename_i hl
      refine List.pairwise_cons.2 ⟨fun y hy => ?_, sorted_insE hr hxr⟩
      rcases mem_insE.1 hy with rfl | hy
      · exact hl
      · exact hz y hy
    · rename_i hl
      have hl' : lessS x z = true := by
        have := lessS_one (x := z) (y := x) (Ne.symm hxz)
        rw [this]; simpa using hl
      refine List.pairwise_cons.2 ⟨fun y hy => ?_, h⟩
      rcases List.mem_cons.1 hy with rfl | hy
      · exact hl'
      · exact lessS_trans hl' (hz y hy)
/-- The sorted list, as the reference builds it: kept are the cheapest, each value once. -/
def leastB (l : List En) (y : En) : Bool := l.all fun z => !decide (sameKey z y) || decide (y.c ≤ z.c)
theorem leastB_iff {l : List En} {y : En} (hy : y ∈ l) : leastB l y = true ↔ IsLeast l y := by
  unfold leastB IsLeast
  rw [List.all_eq_true]
  constructor
  · intro h
    refine ⟨hy, fun z hz hk => ?_⟩
    have := h z hz
    simpa [hk] using this
  · rintro ⟨_, h⟩ z hz
    by_cases hk : sameKey z y
    · simp [hk, h z hz hk]
    · simp [hk]
def sortGo (l : List En) : List En → List En → List En
  | [], o => o
  | x :: r, o => if leastB l x && !decide (x ∈ o) then sortGo l r (insE x o) else sortGo l r o
def sortS (l : List En) : List En := sortGo l l []
theorem sortGo_spec (l : List En) : ∀ (r done o : List En), l = done ++ r → SortedE o → (∀ y, y ∈ o ↔ y ∈ done ∧ leastB l y = true) → IsSort l (sortGo l r o)
  | [], done, o, hl, hs, hm => by
    refine ⟨hs, fun y => ?_⟩
    rw [List.append_nil] at hl
    subst hl
    show y ∈ o ↔ _
    rw [hm y]
    exact ⟨fun ⟨a, b⟩ => (leastB_iff a).1 b, fun h => ⟨h.1, (leastB_iff h.1).2 h⟩⟩
  | x :: r, done, o, hl, hs, hm => by
    have hl2 : l = (done ++ [x]) ++ r := by rw [hl]; simp
    unfold sortGo
    split
    · rename_i hc
      simp only [Bool.and_eq_true, Bool.not_eq_true', decide_eq_false_iff_not] at hc
      refine sortGo_spec l r _ _ hl2 (sorted_insE hs hc.2) fun y => ?_
      rw [mem_insE, hm y]
      constructor
      · rintro (rfl | ⟨a, b⟩)
        · exact ⟨by simp, hc.1⟩
        · exact ⟨by simp [a], b⟩
      · rintro ⟨a, b⟩
        rcases List.mem_append.1 a with a | a
        · exact Or.inr ⟨a, b⟩
        · exact Or.inl (by simpa using a)
    · rename_i hc
      simp only [Bool.and_eq_true, Bool.not_eq_true', decide_eq_false_iff_not, not_and, Decidable.not_not] at hc
      refine sortGo_spec l r _ _ hl2 hs fun y => ?_
      rw [hm y]
      constructor
      · rintro ⟨a, b⟩
        exact ⟨by simp [a], b⟩
      · rintro ⟨a, b⟩
        rcases List.mem_append.1 a with a | a
        · exact ⟨a, b⟩
        · obtain rfl : y = x := by simpa using a
          exact (hm y).1 (hc b)
theorem sortS_spec (l : List En) : IsSort l (sortS l) := sortGo_spec l l [] [] rfl (by simp [SortedE]) (by simp)
end Go.Proofs.YtndhhgpmpnmljaaGreatDoor
