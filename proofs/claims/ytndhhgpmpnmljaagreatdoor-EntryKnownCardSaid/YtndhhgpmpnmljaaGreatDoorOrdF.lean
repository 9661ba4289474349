import Derived.Test.YtndhhgpmpnmljaaGreatDoorOrdT
/-
  A region that draws its order, walked by a tree of orders: where several late operations stand free, each of them comes first once.
-/
namespace Go.Proofs.YtndhhgpmpnmljaaGreatDoor
open Go Go.RowKit

inductive OTree where
  | done
  | quiet (i : Nat) (t : OTree)
  | late (i : Nat) (t : OTree)
  | alt (s t : OTree)
def OTree.heads : OTree → List Nat
  | .late i _ => [i]
  | .alt s t => s.heads ++ t.heads
  | _ => []
def OTree.len : OTree → Nat
  | .done => 0
  | .quiet _ t => t.len + 1
  | .late _ t => t.len + 1
  | .alt s _ => s.len
section
variable {P : Program} {ops : Array Oper} {Q : Exit → Act → World → Prop} {md : Region.Mode} {E : World → World → Prop} {fin : Act → World → Prop}
def wpTree (P : Program) (ops : Array Oper) (E : World → World → Prop) (Q : Exit → Act → World → Prop) (fin : Act → World → Prop) : OTree → Act → World → Prop
  | .done, a, w => fin a w
  | .quiet i t, a, w => match ops[i]? with
    | none => False
    | some o => if Region.wanted o (yielded ops a.tmps) then quietE2 P o a E w (fun a' => wpTree P ops E Q fin t a' w) else wpTree P ops E Q fin t (a.put o.dst undef) w
  | .late i t, a, w => match ops[i]? with
    | none => False
    | some o => if Region.wanted o (yielded ops a.tmps) then o.wp P a w (fun a' w' => E w w' ∧ wpTree P ops E Q fin t a' w') Q else wpTree P ops E Q fin t (a.put o.dst undef) w
  | .alt s t, a, w => wpTree P ops E Q fin s a w ∧ wpTree P ops E Q fin t a w
/-- Do the tree's orders cover those that the edges allow? -/
def treeB (md : Region.Mode) (ops : Array Oper) : Bool → OTree → Array Bool → Bool
  | b, .done, listed => !b && decide (Region.ready md ops listed = [])
  | b, .quiet i t, listed => !b && (Region.ready md ops listed).contains i && Region.free md ops listed i && treeB md ops false t (listed.setIfInBounds i true)
  | b, .late i t, listed => (Region.ready md ops listed).contains i && (b || (Region.ready md ops listed).all fun j => j == i) && treeB md ops false t (listed.setIfInBounds i true)
  | b, .alt s t, listed => decide (s.len = t.len) && (b || (Region.ready md ops listed).all fun j => (s.heads ++ t.heads).contains j) && treeB md ops true s listed && treeB md ops true t listed
theorem wpTree_late (hr : ∀ w, E w w) {i : Nat} {t : OTree} {a : Act} {w : World} {n : Nat} {listed : Array Bool} (h : wpTree P ops E Q fin (.late i t) a w) (hk : ∀ a' w', wpTree P ops E Q fin t a' w' → wpAnyE2 P md ops Q E n (listed.setIfInBounds i true) a' w') :
    wpOp P ops Q i (fun a' w' => (E w w' ∧ wpAnyE2 P md ops Q E n (listed.setIfInBounds i true) a' w') ∨ (tailB md ops i = true ∧ wpAny P md ops Q n (listed.setIfInBounds i true) a' w')) a w := by
  unfold wpTree at h
  unfold wpOp
  split at h
  · exact h.elim
  · rename_i o ho
    simp only [ho]
    split at h
    · rename_i hw
      simp only [hw, if_true]
      exact .inl (Oper.wp_mono (fun a' w' h' => .inl ⟨h'.1, hk _ _ h'.2⟩) h)
    · rename_i hw
      simp only [hw] at ⊢
      exact .inl ⟨hr _, hk _ _ h⟩
theorem treeB_head : ∀ (t : OTree) (listed : Array Bool), treeB md ops true t listed = true → (∃ n, t.len = n + 1) ∧ ∃ i, i ∈ Region.ready md ops listed
  | .done, _, h => by simp [treeB] at h
  | .quiet _ _, _, h => by simp [treeB] at h
  | .late i t, _, h => by
    simp only [treeB, Bool.and_eq_true] at h
    exact ⟨⟨t.len, rfl⟩, i, by simpa using h.1.1⟩
  | .alt s t, listed, h => by
    simp only [treeB, Bool.and_eq_true] at h
    exact treeB_head s listed h.1.2
theorem wpAnyE_of_tree (hr : ∀ w, E w w) (ht : ∀ a b c, E a b → E b c → E a c) (hs : Region.noSelect ops = true)
    (hQ : ∀ d v c a w, Q (.panic c) (a.put d v) w → Q (.panic c) a w) (hfin : ∀ a w, fin a w → Q .normal a w) : ∀ (t : OTree) (listed : Array Bool), ClosedL md ops listed →
    (∀ a w, treeB md ops false t listed = true → wpTree P ops E Q fin t a w → wpAnyE2 P md ops Q E t.len listed a w) ∧
    (∀ a w, treeB md ops true t listed = true → wpTree P ops E Q fin t a w → ∀ n, t.len = n + 1 → ∀ i ∈ t.heads, i ∈ Region.ready md ops listed →
      wpOp P ops Q i (fun a' w' => (E w w' ∧ wpAnyE2 P md ops Q E n (listed.setIfInBounds i true) a' w') ∨ (tailB md ops i = true ∧ wpAny P md ops Q n (listed.setIfInBounds i true) a' w')) a w)
  | .done, listed, hcl => by
    refine ⟨fun a w hB h => ?_, fun a w hB => by simp [treeB] at hB⟩
    simp only [treeB, Bool.not_false, Bool.true_and, decide_eq_true_eq] at hB
    exact ⟨hB, hfin _ _ h⟩
  | .quiet i t, listed, hcl => by
    refine ⟨fun a w hB h => ?_, fun a w hB => by simp [treeB] at hB⟩
    simp only [treeB, Bool.and_eq_true] at hB
    obtain ⟨⟨⟨_, hrd⟩, hf⟩, hB'⟩ := hB
    have hrd' : i ∈ Region.ready md ops listed := by simpa using hrd
    unfold wpTree at h
    show wpAnyE2 P md ops Q E (t.len + 1) listed a w
    split at h
    · exact h.elim
    · rename_i o ho
      split at h
      · rename_i hw
        obtain ⟨v, hv, hk⟩ := h
        exact wpAnyE_first2 hr ht ho (Region.noSelect_spec hs) hQ _ listed a w hcl (Region.free_spec ho hf) hrd' (.inl ⟨hw, hv⟩) ((wpAnyE_of_tree hr ht hs hQ hfin t _ (closedL_set hcl hrd')).1 _ _ hB' hk)
      · rename_i hw
        exact wpAnyE_first2 hr ht ho (Region.noSelect_spec hs) hQ _ listed a w hcl (Region.free_spec ho hf) hrd' (.inr ⟨by simpa using hw, rfl⟩) ((wpAnyE_of_tree hr ht hs hQ hfin t _ (closedL_set hcl hrd')).1 _ _ hB' h)
  | .late i t, listed, hcl => by
    have key : ∀ b a w, treeB md ops b (.late i t) listed = true → wpTree P ops E Q fin (.late i t) a w → wpOp P ops Q i (fun a' w' => (E w w' ∧ wpAnyE2 P md ops Q E t.len (listed.setIfInBounds i true) a' w') ∨ (tailB md ops i = true ∧ wpAny P md ops Q t.len (listed.setIfInBounds i true) a' w')) a w := fun b a w hB h => by
      simp only [treeB, Bool.and_eq_true] at hB
      obtain ⟨⟨hrd, _⟩, hB'⟩ := hB
      have hrd' : i ∈ Region.ready md ops listed := by simpa using hrd
      exact wpTree_late hr h fun a' w' h' => (wpAnyE_of_tree hr ht hs hQ hfin t _ (closedL_set hcl hrd')).1 _ _ hB' h'
    refine ⟨fun a w hB h => ?_, fun a w hB h n hn j hj _ => ?_⟩
    · have hB2 := hB
      simp only [treeB, Bool.and_eq_true, Bool.false_or] at hB2
      obtain ⟨⟨hrd, hall⟩, _⟩ := hB2
      refine ⟨fun h0 => (by rw [h0] at hrd; simp at hrd), fun j hj => ?_⟩
      obtain rfl : j = i := by simpa using List.all_eq_true.1 hall j hj
      exact key false a w hB h
    · obtain rfl : j = i := by simpa [OTree.heads] using hj
      obtain rfl : t.len = n := by simpa [OTree.len] using hn
      exact key true a w hB h
  | .alt s t, listed, hcl => by
    have both : ∀ b a w, treeB md ops b (.alt s t) listed = true → wpTree P ops E Q fin (.alt s t) a w → ∀ n, s.len = n + 1 → ∀ i ∈ s.heads ++ t.heads, i ∈ Region.ready md ops listed →
        wpOp P ops Q i (fun a' w' => (E w w' ∧ wpAnyE2 P md ops Q E n (listed.setIfInBounds i true) a' w') ∨ (tailB md ops i = true ∧ wpAny P md ops Q n (listed.setIfInBounds i true) a' w')) a w := fun b a w hB h n hn i hi hrd => by
      simp only [treeB, Bool.and_eq_true, decide_eq_true_eq] at hB
      obtain ⟨⟨⟨hl, _⟩, hs1⟩, hs2⟩ := hB
      rcases List.mem_append.1 hi with hi | hi
      · exact (wpAnyE_of_tree hr ht hs hQ hfin s listed hcl).2 a w hs1 h.1 n hn i hi hrd
      · exact (wpAnyE_of_tree hr ht hs hQ hfin t listed hcl).2 a w hs2 h.2 n (by rw [← hl]; exact hn) i hi hrd
    refine ⟨fun a w hB h => ?_, fun a w hB h n hn i hi hrd => both true a w hB h n hn i hi hrd⟩
    have hB2 := hB
    simp only [treeB, Bool.and_eq_true, decide_eq_true_eq, Bool.false_or] at hB2
    obtain ⟨⟨⟨hl, hall⟩, hs1⟩, hs2⟩ := hB2
    show wpAnyE2 P md ops Q E s.len listed a w
    obtain ⟨⟨n, hn⟩, i0, hi0⟩ := treeB_head s listed hs1
    rw [hn]
    refine ⟨fun h0 => (by rw [h0] at hi0; cases hi0), fun j hj => both false a w hB h n hn j (by simpa using List.all_eq_true.1 hall j hj) hj⟩
/-- Does the tree cover all orders of a region? -/
def treeAllB (ops : Array Oper) (t : OTree) : Bool := Region.noSelect ops && decide (t.len = ops.size) && treeB .any ops false t (Array.replicate ops.size false)
/-- The steps, under a cover that is not opened by itself. -/
structure OrdF (P : Program) (ops : Array Oper) (E : World → World → Prop) (Q : Exit → Act → World → Prop) (fin : Act → World → Prop) (t : OTree) (a : Act) (w : World) : Prop where
  out : wpTree P ops E Q fin t a w
theorem f_region (E : World → World → Prop) (t : OTree) {id : Nat} {a : Act} {w : World} (hr : ∀ w, E w w) (ht : ∀ a b c, E a b → E b c → E a c)
    (hm : P.follows .mixedOrders = true) (hB : treeAllB ops t = true)
    (hQ : ∀ d v c a w, Q (.panic c) (a.put d v) w → Q (.panic c) a w) (h : OrdF P ops E Q (Q .normal) t a w.drew) : (Code.region id ops true).wp P Q a w := by
  simp only [treeAllB, Bool.and_eq_true, decide_eq_true_eq] at hB
  obtain ⟨⟨hs, hl⟩, hB⟩ := hB
  have := (wpAnyE_of_tree (md := .any) hr ht hs hQ (fun _ _ h => h) t _ (closedL_none _ _)).1 a w.drew hB h.out
  rw [hl] at this
  exact wp_region_any hm (wpAny_of_E2 _ _ _ _ this)
/-- Slots that are laid one behind the other. -/
def puts (a : Act) (l : List (Option Nat × Value)) : Act := l.foldl (fun a p => a.put p.1 p.2) a
/-- .. whose orders meet again: what holds behind it, whichever order was drawn. -/
theorem f_meet {ι : Type} (E : World → World → Prop) (t : OTree) (upd : ι → List (Option Nat × Value)) (F : ι → World → Prop) {id : Nat} {a : Act} {w : World} (hr : ∀ w, E w w) (ht : ∀ a b c, E a b → E b c → E a c)
    (hm : P.follows .mixedOrders = true) (hB : treeAllB ops t = true)
    (hQ : ∀ d v c a w, Q (.panic c) (a.put d v) w → Q (.panic c) a w) (h : OrdF P ops E Q (fun a' w' => ∃ x, F x w' ∧ a' = puts a (upd x)) t a w.drew)
    (hk : ∀ x w', F x w' → Q .normal (puts a (upd x)) w') : (Code.region id ops true).wp P Q a w := by
  simp only [treeAllB, Bool.and_eq_true, decide_eq_true_eq] at hB
  obtain ⟨⟨hs, hl⟩, hB⟩ := hB
  have := (wpAnyE_of_tree (md := .any) (Q := Q) hr ht hs hQ (fun a' w' (h : ∃ x, F x w' ∧ a' = puts a (upd x)) => by obtain ⟨x, hF, rfl⟩ := h; exact hk x w' hF) t _ (closedL_none _ _)).1 a w.drew hB h.out
  rw [hl] at this
  exact wp_region_any hm (wpAny_of_E2 _ _ _ _ this)
theorem f_quiet {i : Nat} {t : OTree} {a : Act} {w : World} {o : Oper} (ho : ops[i]? = some o)
    (h : ∀ K : Act → Prop, (∀ a, OrdF P ops E Q fin t a w → K a) → if Region.wanted o (yielded ops a.tmps) then quietE2 P o a E w K else K (a.put o.dst undef)) : OrdF P ops E Q fin (.quiet i t) a w := by
  refine ⟨?_⟩
  unfold wpTree
  simp only [ho]
  exact h _ fun _ ha => ha.out
theorem f_late {i : Nat} {t : OTree} {a : Act} {w : World} {o : Oper} (ho : ops[i]? = some o) (hw : Region.wanted o (yielded ops a.tmps) = true)
    (h : ∀ K : Act → World → Prop, (∀ a w, OrdF P ops E Q fin t a w → K a w) → o.wp P a w (fun a' w' => E w w' ∧ K a' w') Q) : OrdF P ops E Q fin (.late i t) a w := by
  refine ⟨?_⟩
  unfold wpTree
  simp only [ho, hw, if_true]
  exact h _ fun _ _ ha => ha.out
theorem f_alt {s t : OTree} {a : Act} {w : World} (h1 : OrdF P ops E Q fin s a w) (h2 : OrdF P ops E Q fin t a w) : OrdF P ops E Q fin (.alt s t) a w := ⟨⟨h1.out, h2.out⟩⟩
theorem f_end {a : Act} {w : World} (h : fin a w) : OrdF P ops E Q fin .done a w := ⟨h⟩
end
end Go.Proofs.YtndhhgpmpnmljaaGreatDoor
