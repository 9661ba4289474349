import Derived.Test.YtndhhgpmpnmljaaGreatDoorEnv
import Derived.Lib.SplitLaws
namespace Go.Proofs.YtndhhgpmpnmljaaGreatDoor
open Go Go.RowKit Go.Shelf

/-- The pieces of a string between the bytes c. -/
def splitS (c : UInt8) (s : ByteArray) : List ByteArray := Lib.splitB ⟨#[c]⟩ 0 (Lib.countB s ⟨#[c]⟩) s
theorem splitB_size (c : UInt8) : ∀ (k : Nat) (s x : ByteArray), x ∈ Lib.splitB ⟨#[c]⟩ 0 k s → x.size ≤ s.size
  | 0, s, x, h => by rw [Lib.splitB_zero] at h; simp at h; rw [h]; exact Nat.le_refl _
  | k + 1, s, x, h => by
    unfold Lib.splitB at h
    split at h
    · simp at h; rw [h]; exact Nat.le_refl _
    · rcases List.mem_cons.1 h with h | h
      · rw [h, ByteArray.size_extract]; omega
      · have := splitB_size c k _ x h
        rw [ByteArray.size_extract] at this; omega
theorem splitS_size {c : UInt8} {s x : ByteArray} (h : x ∈ splitS c s) : x.size ≤ s.size := splitB_size c _ s x h
theorem infoStr : (Tryz.prog.info? 9).map (fun i => (i.zero, i.size, i.bytes)) = some (some (.string ByteArray.empty), 1, 16) := by kernel_rfl
def strCell (x : ByteArray) : List Value := [.string x]
theorem split_any (c : UInt8) (s : ByteArray) (w : World) (hs : s.size < 4294967281) (he : Env w) :
    Calls Tryz.prog 40 #[.string s, .string ⟨#[c]⟩] w fun e w' => e = .returned (.slice (some ⟨w.heap.size, 0, none⟩) (splitS c s).length (splitS c s).length) ∧
      AtCells w' (some ⟨w.heap.size, 0, none⟩) 1 ((splitS c s).map strCell) ∧ Grows w w' := by
  obtain ⟨m, hm⟩ := he.mx
  have h1c : 1 ≤ (⟨#[c]⟩ : ByteArray).size := Nat.le_refl 1
  have hl := Lib.splitB_all ⟨#[c]⟩ h1c 0 _ s rfl
  have h := Any.strings_Split Tryz.laysSplit infoStr s ⟨#[c]⟩ m w hs hm h1c
  refine Calls.mono h ?_
  rintro e w' ⟨rfl, rfl⟩
  have hl' : (splitS c s).length = Lib.countB s ⟨#[c]⟩ + 1 := hl
  refine ⟨by rw [hl'], fun _ => ⟨_, _, rfl, fun i row hi j v hj => ?_⟩, Grows.alloc _ _⟩
  rw [List.getElem?_map] at hi
  cases hx : (splitS c s)[i]? with
  | none => rw [hx] at hi; cases hi
  | some x =>
    rw [hx] at hi
    obtain rfl := Option.some.inj hi
    match j, hj with
    | 0, hj =>
      obtain rfl := Option.some.inj hj
      refine cell_box w _ _ _ _ _ ?_
      have hx' : (Lib.splitB ⟨#[c]⟩ 0 (Lib.countB s ⟨#[c]⟩) s)[i]? = some x := hx
      simp [hx']
    | j + 1, hj => simp [strCell] at hj

theorem Grows.cl {w w' : World} (h : Grows w w') {b : Nat} (j : Nat) (hb : b < w.heap.size) : w'.cell? ⟨b, j, none⟩ = w.cell? ⟨b, j, none⟩ := Below.cell h hb
theorem Grows.fz {w w' : World} (h : Grows w w') {b : Nat} (j : Nat) (hb : b < w.heap.size) : w'.frozen? ⟨b, j, none⟩ = w.frozen? ⟨b, j, none⟩ := h.froz hb
theorem box_cells {w w' : World} {cs : Array Value} {t : TypeId} (hg : Grows (w.alloc (.cells cs t)) w') : (∀ j v, cs[j]? = some v → w'.cell? ⟨w.heap.size, j, none⟩ = some v) ∧ (∀ j, w'.frozen? ⟨w.heap.size, j, none⟩ = false) := by
  refine ⟨fun j v h => hg.cell (cell_box w cs t _ j v h), fun j => ?_⟩
  rw [hg.froz (by simp)]
  have hh : (w.alloc (.cells cs t)).heap[w.heap.size]? = some (.cells cs t (0, 0)) := by
    show (w.heap.push _)[w.heap.size]? = _
    simp
  unfold World.frozen?
  simp only [hh]
  simp

theorem put_cell {w : World} {b j : Nat} {u : Value} (v : Value) (h : w.cell? ⟨b, j, none⟩ = some u) : (w.setCell ⟨b, j, none⟩ v).cell? ⟨b, j, none⟩ = some v :=
  World.cell?_setCell_same' _ _ _ (by rw [h]; rfl)
theorem put_other {w : World} {b j b' j' : Nat} (v : Value) (h : b' ≠ b ∨ j' ≠ j) : (w.setCell ⟨b, j, none⟩ v).cell? ⟨b', j', none⟩ = w.cell? ⟨b', j', none⟩ := by
  by_cases hb : b' = b
  · subst hb
    have hj : j' ≠ j := by rcases h with h | h; exact absurd rfl h; exact h
    simp only [World.cell?, World.setCell, Array.getElem?_modify]
    simp only [if_true]
    cases hh : w.heap[b']? with
    | none => simp
    | some o => cases o <;> simp [Ne.symm hj]
  · exact World.cell?_of_block (w := w) (Below.heap_setCell _ _ _ _ (by exact hb))
theorem put_froz (w : World) (a : Addr) (v : Value) (p : Addr) : (w.setCell a v).frozen? p = w.frozen? p := World.frozen?_setCell _ _ _ _
theorem put_size (w : World) (a : Addr) (v : Value) : (w.setCell a v).heap.size = w.heap.size := by simp [World.setCell]
/-- Five cells of one block are written. -/
theorem put5_spec {w : World} {b : Nat} {u0 u1 u2 u3 u4 : Value} (v0 v1 v2 v3 v4 : Value) (h0 : w.cell? ⟨b, 0, none⟩ = some u0) (h1 : w.cell? ⟨b, 1, none⟩ = some u1) (h2 : w.cell? ⟨b, 2, none⟩ = some u2) (h3 : w.cell? ⟨b, 3, none⟩ = some u3) (h4 : w.cell? ⟨b, 4, none⟩ = some u4) {W : World}
    (hW : (((((w.setCell ⟨b, 0, none⟩ v0).setCell ⟨b, 1, none⟩ v1).setCell ⟨b, 2, none⟩ v2).setCell ⟨b, 3, none⟩ v3).setCell ⟨b, 4, none⟩ v4) = W) :
    (W.cell? ⟨b, 0, none⟩ = some v0 ∧ W.cell? ⟨b, 1, none⟩ = some v1 ∧ W.cell? ⟨b, 2, none⟩ = some v2 ∧ W.cell? ⟨b, 3, none⟩ = some v3 ∧ W.cell? ⟨b, 4, none⟩ = some v4) ∧
      (∀ b' j', b' ≠ b → W.cell? ⟨b', j', none⟩ = w.cell? ⟨b', j', none⟩) ∧ (∀ p, W.frozen? p = w.frozen? p) ∧ W.heap.size = w.heap.size := by
  subst hW
  refine ⟨⟨?_, ?_, ?_, ?_, ?_⟩, fun b' j' hb => ?_, fun p => ?_, ?_⟩
  · rw [put_other _ (by simp), put_other _ (by simp), put_other _ (by simp), put_other _ (by simp)]; exact put_cell _ h0
  · rw [put_other _ (by simp), put_other _ (by simp), put_other _ (by simp)]; exact put_cell (u := u1) _ (by rw [put_other _ (by simp)]; exact h1)
  · rw [put_other _ (by simp), put_other _ (by simp)]; exact put_cell (u := u2) _ (by rw [put_other _ (by simp), put_other _ (by simp)]; exact h2)
  · rw [put_other _ (by simp)]; exact put_cell (u := u3) _ (by rw [put_other _ (by simp), put_other _ (by simp), put_other _ (by simp)]; exact h3)
  · exact put_cell (u := u4) _ (by rw [put_other _ (by simp), put_other _ (by simp), put_other _ (by simp), put_other _ (by simp)]; exact h4)
  · rw [put_other _ (.inl hb), put_other _ (.inl hb), put_other _ (.inl hb), put_other _ (.inl hb), put_other _ (.inl hb)]
  · simp only [put_froz]
  · simp only [put_size]
end Go.Proofs.YtndhhgpmpnmljaaGreatDoor
