import Derived.Test.YtndhhgpmpnmljaaGreatDoorOrd
import Derived.Lib.Strings
import Derived.Lib.Hide
namespace Go.Proofs.YtndhhgpmpnmljaaGreatDoor
open Go Go.RowKit

theorem Grows.tr {a b c : World} (h : Grows a b) (k : Grows b c) : Grows a c := Grows.trans _ _ _ h k
theorem Grows.al {a b : World} (h : Grows a b) (o : Obj) : Grows a (b.alloc o) := h.tr (Grows.alloc _ _)
theorem Grows.dr {a b : World} (h : Grows a b) : Grows a b.drew := h.tr (Grows.drew _)
theorem Grows.set {a b : World} (h : Grows a b) {p : Addr} (hp : a.heap.size ≤ p.block) (v : Value) : Grows a (b.setCell p v) := Below.setCell h hp v
theorem Grows.below {a b : World} (h : Grows a b) : Below a.heap.size a b := h
theorem grows_of {a b : World} (h : Below a.heap.size a b) : Grows a b := h
theorem Grows.lt {a b : World} (h : Grows a b) {k : Nat} (hk : k < a.heap.size) : k < b.heap.size := Nat.lt_of_lt_of_le hk h.size
theorem Grows.froz {w w' : World} (h : Grows w w') {p : Addr} (hb : p.block < w.heap.size) : w'.frozen? p = w.frozen? p := Below.frozen h hb

/-- Two strings are equal. -/
def seq (x y : ByteArray) : Bool := x.toList == y.toList
theorem seq_iff {x y : ByteArray} : seq x y = true ↔ x = y := by
  unfold seq
  rw [Lib.toList_data, Lib.toList_data, beq_iff_eq]
  constructor
  · intro h
    have := congrArg (fun l => (⟨l.toArray⟩ : ByteArray)) h
    rwa [Lib.mk_data, Lib.mk_data] at this
  · rintro rfl; rfl
theorem seq_false {x y : ByteArray} : seq x y = false ↔ x ≠ y := by
  rw [Ne, ← seq_iff (x := x) (y := y)]; simp

/-- The cells of the rows (k cells each) lie at a slice's address. -/
def AtCells (w : World) (a : Option Addr) (k : Nat) (rows : List (List Value)) : Prop :=
  rows ≠ [] → ∃ b off, a = some ⟨b, off, none⟩ ∧ ∀ (i : Nat) (row : List Value), rows[i]? = some row → ∀ (j : Nat) (v : Value), row[j]? = some v → w.cell? ⟨b, off + i * k + j, none⟩ = some v
theorem AtCells.grows {w w' : World} {a : Option Addr} {k : Nat} {rows : List (List Value)} (h : AtCells w a k rows) (hg : Grows w w') : AtCells w' a k rows := fun hn => by
  obtain ⟨b, off, ha, hc⟩ := h hn
  exact ⟨b, off, ha, fun i row hi j v hj => hg.cell (hc i row hi j v hj)⟩
theorem AtCells.drew {w : World} {a : Option Addr} {k : Nat} {rows : List (List Value)} (h : AtCells w a k rows) : AtCells w.drew a k rows := h.grows (Grows.drew _)
theorem AtCells.nil (w : World) (a : Option Addr) (k : Nat) : AtCells w a k [] := fun h => absurd rfl h
/-- One element's cell. -/
theorem AtCells.get {α : Type} {w : World} {a : Option Addr} {k : Nat} {xs : List α} {enc : α → List Value} (h : AtCells w a k (xs.map enc)) (hn : xs ≠ []) :
    ∃ b off, a = some ⟨b, off, none⟩ ∧ ∀ (i : Nat) (x : α), xs[i]? = some x → ∀ (j : Nat) (v : Value), (enc x)[j]? = some v → w.cell? ⟨b, off + i * k + j, none⟩ = some v := by
  obtain ⟨b, off, ha, hc⟩ := h (by simpa using hn)
  exact ⟨b, off, ha, fun i x hi j v hj => hc i (enc x) (by simp [hi]) j v hj⟩
theorem ne_nil_of_lt {α : Type} {xs : List α} {k : Nat} (h : k < xs.length) : xs ≠ [] := by rintro rfl; simp at h

theorem ret_int {k : IntKind} {a b : Int} (h : a = b) : Ending.returned (.int k a) = .returned (.int k b) := by rw [h]
theorem ret_bool {a b : Bool} (h : a = b) : Ending.returned (.bool a) = .returned (.bool b) := by rw [h]
theorem ret_ib {a b : Int} {c d : Bool} (h : a = b) (k : c = d) : Ending.returned (.tuple #[.int .i64 a, .bool c]) = .returned (.tuple #[.int .i64 b, .bool d]) := by rw [h, k]

/-- A part of speech. -/
structure PosV where
  name : ByteArray
  kind : Int
def posCells (p : PosV) : List Value := [.string p.name, .int .i64 p.kind]
/-- The place of a name. -/
def findAt (name : ByteArray) : List PosV → Nat → Option Nat
  | [], _ => none
  | p :: l, i => if seq p.name name then some i else findAt name l (i + 1)
def posFind (l : List PosV) (name : ByteArray) : Option Nat := findAt name l 0
theorem findAt_drop (name : ByteArray) : ∀ (l : List PosV) (i k : Nat), (∀ j p, j < k → l[j]? = some p → seq p.name name = false) → findAt name l i = findAt name (l.drop k) (i + k)
  | [], i, k, _ => by simp [findAt]
  | p :: l, i, 0, _ => by simp
  | p :: l, i, k + 1, h => by
    have h0 : seq p.name name = false := h 0 p (by omega) rfl
    rw [findAt, h0, List.drop_succ_cons]
    simp only [Bool.false_eq_true, if_false]
    rw [findAt_drop name l (i + 1) k fun j q hj hq => h (j + 1) q (by omega) (by simpa using hq)]
    congr 1; omega
theorem posFind_hit {l : List PosV} {name : ByteArray} {k : Nat} {p : PosV} (hk : l[k]? = some p) (h : ∀ j q, j < k → l[j]? = some q → seq q.name name = false) (hp : seq p.name name = true) : posFind l name = some k := by
  have hlt : k < l.length := (List.getElem?_eq_some_iff.1 hk).1
  have hp' : l[k] = p := (List.getElem?_eq_some_iff.1 hk).2
  rw [posFind, findAt_drop name l 0 k h, List.drop_eq_getElem_cons hlt, findAt, hp', hp]
  simp
theorem posFind_none {l : List PosV} {name : ByteArray} (h : ∀ j q, j < l.length → l[j]? = some q → seq q.name name = false) : posFind l name = none := by
  rw [posFind, findAt_drop name l 0 _ h]; simp [findAt]
theorem posFind_lt {name : ByteArray} : ∀ {l : List PosV} {i k : Nat}, findAt name l i = some k → i ≤ k ∧ k < i + l.length
  | [], i, k, h => by simp [findAt] at h
  | p :: l, i, k, h => by
    rw [findAt] at h
    split at h
    · obtain rfl := Option.some.inj h; simp
    · have := posFind_lt h; simp; omega

theorem ownsRow_grows {w w' : World} {base : Nat} {e : TypeId} {size : Nat} {v : Value} {n : Nat} {xs : List Value} (h : w.ownsRow base e size v n xs) (hg : Grows w w') : w'.ownsRow base e size v n xs := by
  obtain ⟨h1, h2⟩ := h
  refine ⟨h1, ?_⟩
  rcases h2 with h2 | ⟨g, cap, cur, hv, hb, hh, r⟩
  · exact Or.inl h2
  · exact Or.inr ⟨g, cap, cur, hv, hb, by rw [hg.block g (Array.getElem?_eq_some_iff.1 hh).1]; exact hh, r⟩
theorem ownsRow_base {w : World} {base base' : Nat} {e : TypeId} {size : Nat} {v : Value} {n : Nat} {xs : List Value} (h : w.ownsRow base e size v n xs) (hb : base' ≤ base) : w.ownsRow base' e size v n xs := by
  obtain ⟨h1, h2⟩ := h
  refine ⟨h1, ?_⟩
  rcases h2 with h2 | ⟨g, cap, cur, hv, hg, r⟩
  · exact Or.inl h2
  · exact Or.inr ⟨g, cap, cur, hv, Nat.le_trans hb hg, r⟩
theorem ownBlock_ge {w : World} {base : Nat} {e : TypeId} {size : Nat} {v : Value} {n : Nat} {xs : List Value} (h : w.ownsRow base e size v n xs) : ∀ k, v.ownBlock = some k → base ≤ k := by
  intro k hk
  rcases h.2 with ⟨rfl, _⟩ | ⟨g, cap, cur, rfl, hb, _⟩
  · cases hk
  · have : g = k := Option.some.inj hk
    omega
theorem Grows.grown {a w w' : World} {row : Option Nat} (h : Grows a w) (hg : w.grownBy w' row) (hr : ∀ k, row = some k → a.heap.size ≤ k) : Grows a w' := Below.grown h hg h.size hr
theorem ownsRow_nil (w : World) (base : Nat) (e : TypeId) (size : Nat) : w.ownsRow base e size (.slice none 0 0) 0 [] := World.ownsRow_nil _ _ _ _
/-- An owned row, read as a slice. -/
theorem flat_get {α : Type} {enc : α → List Value} {k : Nat} (hk : ∀ x, (enc x).length = k) : ∀ (xs : List α) (i j : Nat) (x : α) (v : Value), xs[i]? = some x → (enc x)[j]? = some v → (xs.flatMap enc)[i * k + j]? = some v
  | [], i, j, x, v, h, _ => by simp at h
  | y :: r, 0, j, x, v, h, hj => by
    obtain rfl : y = x := by simpa using h
    have hlt : j < (enc y).length := (List.getElem?_eq_some_iff.1 hj).1
    rw [List.flatMap_cons, Nat.zero_mul, Nat.zero_add, List.getElem?_append_left hlt]; exact hj
  | y :: r, i + 1, j, x, v, h, hj => by
    rw [List.flatMap_cons, List.getElem?_append_right (by rw [hk, Nat.succ_mul]; omega), hk, show (i + 1) * k + j - k = i * k + j by rw [Nat.succ_mul]; omega]
    exact flat_get hk r i j x v (by simpa using h) hj
theorem flat_length {α : Type} {enc : α → List Value} {k : Nat} (hk : ∀ x, (enc x).length = k) : ∀ (xs : List α), (xs.flatMap enc).length = xs.length * k
  | [] => by simp
  | y :: r => by rw [List.flatMap_cons, List.length_append, hk, flat_length hk r, List.length_cons, Nat.succ_mul]; omega
/-- The slice value of an owned row, and its cells. -/
theorem ownsRow_at {α : Type} {enc : α → List Value} {k : Nat} (hk : ∀ x, (enc x).length = k) {w : World} {base : Nat} {e : TypeId} {v : Value} {xs : List α} (h : w.ownsRow base e k v xs.length (xs.flatMap enc)) :
    ∃ a cap, v = .slice a xs.length cap ∧ xs.length ≤ cap ∧ cap ≤ maxLen ∧ AtCells w a k (xs.map enc) := by
  rcases h.2 with ⟨rfl, h0⟩ | ⟨g, cap, cur, rfl, hb, hh, hn, hc, hs, ht⟩
  · have : xs = [] := List.length_eq_zero_iff.1 h0
    subst this
    exact ⟨none, 0, rfl, Nat.le_refl _, Nat.zero_le _, AtCells.nil _ _ _⟩
  · refine ⟨_, cap, rfl, hn, hc, fun _ => ⟨g, 0, rfl, fun i row hi j u hj => ?_⟩⟩
    rw [List.getElem?_map] at hi
    cases hx : xs[i]? with
    | none => rw [hx] at hi; cases hi
    | some x =>
      rw [hx] at hi
      obtain rfl := Option.some.inj hi
      have hf := flat_get hk xs i j x u hx hj
      rw [← ht, List.getElem?_take] at hf
      split at hf
      · unfold World.cell?
        simp only [hh, Option.isSome_none, Bool.false_eq_true, if_false]
        rw [Nat.zero_add]
        simpa using hf
      · cases hf

def bos : ByteArray := ⟨#[66, 79, 83]⟩
end Go.Proofs.YtndhhgpmpnmljaaGreatDoor
