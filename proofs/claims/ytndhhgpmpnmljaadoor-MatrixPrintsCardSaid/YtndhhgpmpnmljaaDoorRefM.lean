import Derived.Test.YtndhhgpmpnmljaaDoorMat2
import Derived.Test.YtndhhgpmpnmljaaDoorApp
namespace Go.Proofs.YtndhhgpmpnmljaaDoor
open Go Go.RowKit
attribute [local go_sem] quietE

def intC (x : Int) : List Value := [.int .i64 x]
theorem intLay : ElemLay Tryd.prog 56 3 1 8 intC where
  sl := Tryd.underlying56
  info := elem_info (z := .int .i64 0) (by kernel_rfl) rfl
  pos := by decide
  by1 := by decide
  len _ := rfl
  one x u hu := by
    simp [intC] at hu
    subst hu; rfl
theorem grownBy_froz {w w' : World} {row : Option Nat} (hg : w.grownBy w' row) {p : Addr} (hlt : p.block < w.heap.size) (hne : some p.block ≠ row) : w'.frozen? p = w.frozen? p := by
  have hb := hg.block p.block hlt hne
  unfold World.frozen?
  rw [hb]
theorem Grows.grownBy_set {w W : World} (h : Grows w W) (g i : Nat) (v : Value) : w.grownBy (W.setCell ⟨g, i, none⟩ v) (some g) where
  os := (show W.os = w.os from Below.os h)
  tape := (show W.tape = w.tape from Below.tape h)
  output := (show W.output = w.output from Below.output h)
  size := by have := h.size; simpa using this
  block := fun k hk hne => by
    rw [heap_setCell_other _ _ _ _ (fun e => hne (by rw [e]))]
    exact Below.block h k hk
/-- Block rb is the document's matrix; its costs lie behind it. -/
structure RefAt (w : World) (rb : Nat) (m : Mx) : Prop where
  ok : m.OK
  c0 : w.cell? ⟨rb, 0, none⟩ = some (.int .i64 m.n)
  c1 : w.cell? ⟨rb, 1, none⟩ = some (.int .i64 m.d)
  own : ∃ v, w.cell? ⟨rb, 2, none⟩ = some v ∧ Owns w (rb + 1) 3 1 intC v m.cs
theorem RefAt.grows {w w' : World} {rb : Nat} {m : Mx} (h : RefAt w rb m) (hg : Grows w w') : RefAt w' rb m :=
  ⟨h.ok, hg.cell h.c0, hg.cell h.c1, let ⟨v, hv, ho⟩ := h.own; ⟨v, hg.cell hv, ho.grows hg⟩⟩
theorem RefAt.lt {w : World} {rb : Nat} {m : Mx} (h : RefAt w rb m) : rb < w.heap.size := World.block_lt_of_cell? w _ h.c0
/-- The document's matrix is kept where a map turns. -/
theorem RefAt.kept {w w' : World} {rb bm mb : Nat} {m m' : Mx} (h : RefAt w rb m) (hm : MatAt w mb bm m') (hg : w.grownBy w' (some bm)) : RefAt w' rb m := by
  obtain ⟨v, hv, ho⟩ := h.own
  obtain ⟨D, hmo, _⟩ := hm.own
  have hne : some rb ≠ some bm := by
    intro e
    obtain rfl := Option.some.inj e
    have hc := h.c0
    obtain ⟨es, clock, hb, _⟩ := hmo
    simp [World.cell?, hb] at hc
  refine ⟨h.ok, grownBy_cell hg h.c0 hne, grownBy_cell hg h.c1 hne, v, grownBy_cell hg hv hne, ?_⟩
  exact World.ownsRow.kept ho hg (Or.inr fun e => owns_ne_map ho hmo e.symm)
/-- Its costs, one by one, and what a store does. -/
theorem RefAt.costs {w : World} {rb : Nat} {m : Mx} (h : RefAt w rb m) : ∃ g cap, w.cell? ⟨rb, 2, none⟩ = some (.slice (some ⟨g, 0, none⟩) m.cs.length cap) ∧ rb < g ∧ g < w.heap.size ∧
    (∀ (i : Nat) (c : Int), m.cs[i]? = some c → w.cell? ⟨g, i, none⟩ = some (.int .i64 c)) ∧ (∀ i, w.frozen? ⟨g, i, none⟩ = false) ∧
    ∀ W, Grows w W → ∀ (x : Int × Int) (c : Int), m.setB x c = true → RefAt (W.setCell ⟨g, at2 m.n x, none⟩ (.int .i64 c)) rb (m.set x c) := by
  obtain ⟨v, hv, ho⟩ := h.own
  have hlen := h.ok.len
  have hn1 := h.ok.n1
  have hpos : 0 < m.cs.length := by rw [hlen]; exact Nat.mul_pos (by omega) (by omega)
  rcases ho.2 with ⟨rfl, h0⟩ | ⟨g, cap, cur, rfl, hb, hh, hn, hc, hs, ht⟩
  · omega
  · have hfm : m.cs.flatMap intC = m.cs.map fun c => Value.int .i64 c := by
      induction m.cs with
      | nil => rfl
      | cons a r ih => rw [List.flatMap_cons, ih]; rfl
    have hcell : ∀ (i : Nat) (c : Int), m.cs[i]? = some c → w.cell? ⟨g, i, none⟩ = some (.int .i64 c) := fun i c hi => by
      have h1 : (m.cs.flatMap intC)[i]? = some (.int .i64 c) := by rw [hfm, List.getElem?_map, hi]; rfl
      rw [← ht, List.getElem?_take] at h1
      split at h1
      · simp [World.cell?, hh]; simpa using h1
      · cases h1
    have hglt : g < w.heap.size := by
      rcases Nat.lt_or_ge g w.heap.size with h | h
      · exact h
      · rw [Array.getElem?_eq_none h] at hh; cases hh
    refine ⟨g, cap, hv, hb, hglt, hcell, fun i => by simp [World.frozen?, hh], fun W hW x c hx => ?_⟩
    have hv := hW.cell hv
    have hh := (Below.block hW g hglt).trans hh
    have h := h.grows hW
    have hx2 := hx
    simp only [Mx.setB, Bool.and_eq_true] at hx2
    have hat : at2 m.n x < m.cs.length := by rw [hlen]; exact at2_lt hx2.1
    have hne : ∀ j, (⟨g, at2 m.n x, none⟩ : Addr) ≠ ⟨rb, j, none⟩ := fun j e => by
      have := congrArg Addr.block e
      simp only at this
      omega
    refine ⟨h.ok.set hx, ?_, ?_, .slice (some ⟨g, 0, none⟩) m.cs.length cap, ?_, ?_⟩
    · rw [World.cell?_setCell_other _ _ _ _ (hne 0)]; exact h.c0
    · rw [World.cell?_setCell_other _ _ _ _ (hne 1)]; exact h.c1
    · rw [World.cell?_setCell_other _ _ _ _ (hne 2)]
      exact hv
    · have hfs : (m.set x c).cs.flatMap intC = (m.cs.map fun c => Value.int .i64 c).set (at2 m.n x) (.int .i64 c) := by
        show (m.cs.set (at2 m.n x) c).flatMap intC = _
        rw [← List.map_set]
        induction m.cs.set (at2 m.n x) c with
        | nil => rfl
        | cons a r ih => rw [List.flatMap_cons, ih]; rfl
      have hls : (m.set x c).cs.length = m.cs.length := List.length_set
      show World.ownsRow _ _ _ _ _ (m.set x c).cs.length _
      rw [hls]
      refine ⟨by rw [hfs]; simp, Or.inr ⟨g, cap, cur.setIfInBounds (at2 m.n x) (.int .i64 c), rfl, hb, heap_setCell_same W g _ cur _ _ hh, hn, hc, by simpa using hs, ?_⟩⟩
      rw [hfs, ← hfm, ← ht, Array.toList_setIfInBounds, List.take_set]
end Go.Proofs.YtndhhgpmpnmljaaDoor
