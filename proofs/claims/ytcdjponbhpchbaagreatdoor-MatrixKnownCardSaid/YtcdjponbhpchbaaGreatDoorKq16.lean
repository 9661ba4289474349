/- The texts EncP, one behind the other. -/
import Derived.Test.YtcdjponbhpchbaaGreatDoorKq2
import Derived.Test.YtcdjponbhpchbaaGreatDoorKq8
namespace Go.Proofs.YtcdjponbhpchbaaGreatDoor
open Go Go.RowKit

/-- The code of a matrix. -/
def encGo (m : Mx) : Int → List Nat → List UInt8
  | _, [] => []
  | last, i :: r => putU ((i : Int) - last).toNat ++ (putU (m.cs.getD i 0).toNat ++ encGo m i r)
def Mx.enc (m : Mx) : List UInt8 := putU m.n ++ (putU m.d.toNat ++ (putU m.idx.length ++ encGo m (-1) m.idx))
theorem Mx.idx_len {m : Mx} (h : m.OK) : m.idx.length ≤ 4096 := by have := Mx.pairs_len h; unfold Mx.pairs at this; rwa [List.length_map] at this
theorem Mx.idx_get {m : Mx} (h : m.OK) {k i : Nat} (hi : m.idx[k]? = some i) : i < m.n * m.n ∧ m.pairs[k]? = some (pairAt m.n i) ∧ 0 ≤ m.cs.getD i 0 ∧ m.cs.getD i 0 ≤ 30000 ∧ m.cost (pairAt m.n i) = m.cs.getD i 0 := by
  have hm := Mx.mem_idx.1 (List.mem_of_getElem? hi)
  obtain ⟨h1, h2⟩ := pairAt_in hm.1
  have h3 : m.cost (pairAt m.n i) = m.cs.getD i 0 := by unfold Mx.cost; rw [if_pos h1, h2]
  have h4 := Mx.cost_ok h (pairAt m.n i)
  rw [h3] at h4
  exact ⟨hm.1, by unfold Mx.pairs; rw [List.getElem?_map, hi]; rfl, h4.1, h4.2, h3⟩
theorem Mx.idx_up {m : Mx} : m.idx.Pairwise (· < ·) := List.Pairwise.filter _ List.pairwise_lt_range
theorem int_u64 {n : Int} (h : 0 ≤ n) (h2 : n ≤ 1048576) : n = ((n.toNat : Nat) : Int) := by omega

/-- The last place of a list. -/
def lastI : Int → List Nat → Int
  | s, [] => s
  | _, i :: r => lastI i r
theorem lastI_snoc : ∀ (l : List Nat) (s : Int) (i : Nat), lastI s (l ++ [i]) = i
  | [], _, _ => rfl
  | a :: l, _, i => by rw [List.cons_append]; exact lastI_snoc l a i
theorem encGo_snoc (m : Mx) : ∀ (l : List Nat) (s : Int) (i : Nat), encGo m s (l ++ [i]) = encGo m s l ++ (putU ((i : Int) - lastI s l).toNat ++ putU (m.cs.getD i 0).toNat)
  | [], s, i => by simp [encGo, lastI]
  | a :: l, s, i => by
    rw [List.cons_append]
    show putU _ ++ (putU _ ++ encGo m a (l ++ [i])) = (putU _ ++ (putU _ ++ encGo m a l)) ++ _
    rw [encGo_snoc m l a i]
    simp [lastI]
/-- The places below k whose cost is not the default cost. -/
def Mx.idxTo (m : Mx) (k : Nat) : List Nat := (List.range k).filter fun i => decide (m.cs.getD i 0 ≠ m.d)
theorem idxTo_hit {m : Mx} {k : Nat} (h : m.cs.getD k 0 ≠ m.d) : m.idxTo (k + 1) = m.idxTo k ++ [k] := by
  unfold Mx.idxTo
  rw [List.range_succ, List.filter_append]
  rw [List.getD_eq_getElem?_getD] at h
  simp [h]
theorem idxTo_miss {m : Mx} {k : Nat} (h : m.cs.getD k 0 = m.d) : m.idxTo (k + 1) = m.idxTo k := by
  unfold Mx.idxTo
  rw [List.range_succ, List.filter_append]
  rw [List.getD_eq_getElem?_getD] at h
  simp [h]
theorem idxTo_full {m : Mx} (h : m.OK) : m.idxTo m.cs.length = m.idx := by unfold Mx.idxTo Mx.idx; rw [h.len]
theorem idxTo_len (m : Mx) (k : Nat) : (m.idxTo k).length ≤ k := by
  unfold Mx.idxTo
  have := List.length_filter_le (fun i => decide (m.cs.getD i 0 ≠ m.d)) (List.range k)
  rwa [List.length_range] at this
/-- What the reference's Encode has gathered below place k. -/
structure EncInv (m : Mx) (k n : Nat) (L : Int) (acc : List UInt8) : Prop where
  num : n = (m.idxTo k).length
  last : L = lastI (-1) (m.idxTo k)
  lo : -1 ≤ L
  hi : L < k
  len : acc.length ≤ 20 * k
  acc : acc = encGo m (-1) (m.idxTo k)
theorem EncInv.start (m : Mx) : EncInv m 0 0 (-1) [] := ⟨rfl, rfl, by omega, by omega, by simp, rfl⟩
theorem EncInv.hit {m : Mx} {k n : Nat} {L : Int} {acc : List UInt8} (h : EncInv m k n L acc) {c : Int} (hc : m.cs[k]? = some c) (hd : c ≠ m.d) :
    EncInv m (k + 1) (n + 1) k ((acc ++ putU ((k : Int) - L).toNat) ++ putU c.toNat) := by
  have hg : m.cs.getD k 0 = c := by simp [List.getD, hc]
  have hx : m.idxTo (k + 1) = m.idxTo k ++ [k] := idxTo_hit (by rw [hg]; exact hd)
  have h1 := h.num
  have h2 := h.len
  have h3 := putU_len ((k : Int) - L).toNat
  have h4 := putU_len c.toNat
  refine ⟨by rw [hx]; simp; omega, by rw [hx, lastI_snoc], by omega, by omega, ?_, ?_⟩
  · simp only [List.length_append]; omega
  · rw [hx, encGo_snoc, ← h.acc, ← h.last, hg]; simp
theorem EncInv.miss {m : Mx} {k n : Nat} {L : Int} {acc : List UInt8} (h : EncInv m k n L acc) {c : Int} (hc : m.cs[k]? = some c) (hd : c = m.d) : EncInv m (k + 1) n L acc := by
  have hg : m.cs.getD k 0 = c := by simp [List.getD, hc]
  have hx : m.idxTo (k + 1) = m.idxTo k := idxTo_miss (by rw [hg]; exact hd)
  have h2 := h.len
  have h3 := h.hi
  exact ⟨by rw [hx]; exact h.num, by rw [hx]; exact h.last, h.lo, by omega, by omega, by rw [hx]; exact h.acc⟩
theorem EncInv.fin {m : Mx} {n : Nat} {L : Int} {acc : List UInt8} (h : EncInv m m.cs.length n L acc) (hok : m.OK) (d : Nat) (hd : m.d = d) : m.enc = ((putU m.n ++ putU d) ++ putU n) ++ acc := by
  have h1 := h.num
  have h2 := h.acc
  rw [idxTo_full hok] at h1 h2
  unfold Mx.enc
  rw [h1, h2, hd]
  simp
theorem EncInv.num_le {m : Mx} {k n : Nat} {L : Int} {acc : List UInt8} (h : EncInv m k n L acc) : n ≤ k := by rw [h.num]; exact idxTo_len m k
end Go.Proofs.YtcdjponbhpchbaaGreatDoor
