import Derived.Test.YtndhhgpmpnmljaaGreatDoorChk
import Derived.Test.YtndhhgpmpnmljaaGreatDoorEnv
import Derived.Lib.ItoaLen
namespace Go.Proofs.YtndhhgpmpnmljaaGreatDoor
open Go Go.RowKit Go.Shelf
attribute [local go_sem] quietE

def nameAt (p : List PosV) (i : Int) : ByteArray := ((p[i.toNat]?).map (·.name)).getD ByteArray.empty
theorem itoa_any (n : Int) (w : World) (h0 : 0 ≤ n) (h1 : n ≤ 30000) (he : Env w) :
    Calls Tryz.prog 56 #[.int .i64 n] w fun e w' => e = .returned (.string ⟨(Lib.itoa n).toArray⟩) ∧ Grows w w' :=
  Calls.mono (Tryz.strconv_Itoa n (by omega) (by omega) w he.pow) fun _ _ ⟨h, k, os, hw⟩ => ⟨h, by rw [hw]; exact grow_grows _ _ _⟩

theorem posAll_get {L : List PosV} : ∀ {l : List PosV} {i j : Nat} {q : PosV}, posAll L l i = true → l[j]? = some q → posOK L (i + j) q = true
  | [], _, _, _, _, h => by simp at h
  | p :: r, i, 0, q, h, hj => by
    obtain rfl : p = q := by simpa using hj
    simp only [posAll, Bool.and_eq_true] at h
    exact h.1
  | p :: r, i, j + 1, q, h, hj => by
    simp only [posAll, Bool.and_eq_true] at h
    have := posAll_get h.2 (j := j) (by simpa using hj)
    rwa [show i + (j + 1) = i + 1 + j by omega]
theorem name_size {p : List PosV} (hv : posValid p = true) {i : Nat} {q : PosV} (hq : p[i]? = some q) : q.name.size ≤ 16 := by
  cases p with
  | nil => simp at hq
  | cons p0 r =>
    have h : (decide ((p0 :: r).length ≤ 64) && isBos p0 && posAll (p0 :: r) (p0 :: r) 0) = true := hv
    simp only [Bool.and_eq_true] at h
    have := posAll_get h.2 hq
    simp only [posOK, namedS, Bool.and_eq_true, decide_eq_true_eq] at this
    exact this.1.1.2.1.2
theorem isBuilder_grows {T e : TypeId} {B b : Nat} {bs : List Value} {w w' : World} (h : Lib.IsBuilderF T e B b bs w) (hg : Grows w w') : Lib.IsBuilderF T e B b bs w' := by
  have key : ∀ q, Lib.BuilderAtF T e B b q bs w → Lib.BuilderAtF T e B b q bs w' := fun q ⟨hB, v, hb, hown, hne⟩ => by
    refine ⟨hB, v, by rw [hg.block b (Array.getElem?_eq_some_iff.1 hb).1]; exact hb, ⟨hown.1, ?_⟩, hne⟩
    rcases hown.2 with h2 | ⟨g, cap, cur, fz, hv, hb, hh, r⟩
    · exact Or.inl h2
    · exact Or.inr ⟨g, cap, cur, fz, hv, hb, by rw [hg.block g (Array.getElem?_eq_some_iff.1 hh).1]; exact hh, r⟩
  exact h.imp (key _) (key _)
theorem builder_ge {T e : TypeId} {B b : Nat} {bs : List Value} {w : World} (h : Lib.IsBuilderF T e B b bs w) : B ≤ w.heap.size := by
  rcases h with ⟨hB, v, hb, _⟩ | ⟨hB, v, hb, _⟩ <;> have := (Array.getElem?_eq_some_iff.1 hb).1 <;> omega

theorem builder_more {T e : TypeId} {B b : Nat} {v : Value} {acc L : List UInt8} {s : ByteArray} {w : World} (h : Lib.BuilderAtF T e B b v (Lib.byteCells acc ++ Lib.strCells s) w) (hs : s.data.toList = L) : Lib.BuilderAtF T e B b v (Lib.byteCells (acc ++ L)) w := by
  rw [Lib.byteCells_append, ← hs, ← Lib.strCells_eq]; exact h

end Go.Proofs.YtndhhgpmpnmljaaGreatDoor
