import Derived.Test.YtndhhgpmpnmljaaGreatDoorMem
namespace Go.Proofs.YtndhhgpmpnmljaaGreatDoor
open Go Go.RowKit

/-- Elements of k cells. -/
structure ElemLay {α : Type} (P : Program) (t e : TypeId) (k bytes : Nat) (enc : α → List Value) : Prop where
  sl : P.underlying t = some (.slice e)
  info : ∃ i z, P.info? e = some i ∧ i.zero = some z ∧ i.size = k ∧ i.bytes = bytes ∧ z.cells.size = k
  pos : 0 < k
  by1 : 1 ≤ bytes
  len : ∀ x, (enc x).length = k
  one : ∀ x u, u ∈ enc x → u.oneCell' = true
theorem elem_info {P : Program} {e : TypeId} {z : Value} {k bytes : Nat} (h : (P.info? e).map (fun i => (i.zero, i.size, i.bytes)) = some (some z, k, bytes)) (hz : z.cells.size = k) :
    ∃ i z, P.info? e = some i ∧ i.zero = some z ∧ i.size = k ∧ i.bytes = bytes ∧ z.cells.size = k := by
  cases hi : P.info? e with
  | none => rw [hi] at h; cases h
  | some i =>
    rw [hi] at h
    simp only [Option.map_some, Option.some.injEq, Prod.mk.injEq] at h
    exact ⟨i, z, rfl, h.1, h.2.1, h.2.2, hz⟩
/-- The slice value v owns the list xs, in a row among the blocks from base on. -/
def Owns {α : Type} (w : World) (base : Nat) (e : TypeId) (k : Nat) (enc : α → List Value) (v : Value) (xs : List α) : Prop := w.ownsRow base e k v xs.length (xs.flatMap enc)
theorem Owns.nil {α : Type} (w : World) (base : Nat) (e : TypeId) (k : Nat) (enc : α → List Value) : Owns w base e k enc (.slice none 0 0) [] := World.ownsRow_nil _ _ _ _
theorem Owns.grows {α : Type} {w w' : World} {base : Nat} {e : TypeId} {k : Nat} {enc : α → List Value} {v : Value} {xs : List α} (h : Owns w base e k enc v xs) (hg : Grows w w') : Owns w' base e k enc v xs := ownsRow_grows h hg
theorem Owns.base {α : Type} {w : World} {base base' : Nat} {e : TypeId} {k : Nat} {enc : α → List Value} {v : Value} {xs : List α} (h : Owns w base e k enc v xs) (hb : base' ≤ base) : Owns w base' e k enc v xs := ownsRow_base h hb
theorem Owns.at_ {α : Type} {enc : α → List Value} {k : Nat} (hk : ∀ x, (enc x).length = k) {w : World} {base : Nat} {e : TypeId} {v : Value} {xs : List α} (h : Owns w base e k enc v xs) :
    ∃ a cap, v = .slice a xs.length cap ∧ xs.length ≤ cap ∧ cap ≤ maxLen ∧ AtCells w a k (xs.map enc) := ownsRow_at hk h

theorem alloc_new_at {w : World} {cs : Array Value} {t : TypeId} {n : Nat} (hn : n = w.heap.size) (j : Nat) (u : Value) (hj : cs.toList[j]? = some u) : (w.alloc (.cells cs t)).cell? ((⟨n, 0, none⟩ : Addr).add j) = some u := by
  subst hn
  have h := cell_box w cs t (0, 0) j u (by simpa using hj)
  unfold Addr.add
  by_cases h0 : j = 0
  · subst h0; simpa using h
  · simp [h0, h]

theorem add_off {n j : Nat} : (⟨n, 0, none⟩ : Addr).add j = ⟨n, j, none⟩ := by
  unfold Addr.add
  by_cases h0 : j = 0
  · subst h0; simp
  · simp [h0]
/-- append of one element whose cells lie at block n. -/
theorem app_at {α : Type} {P : Program} {t e : TypeId} {k bytes : Nat} {enc : α → List Value} (L : ElemLay P t e k bytes enc) {ops : Array Oper} {rest : List Oper} {o : Oper} {a : Act} {Q : Exit → Act → World → Prop} {w W : World}
    (hgd : o.guard = none) (s x : Operand) (hop : o.op = .call { callee := .builtin .append, args := #[s, x], argTypes := #[t, t] })
    (base : Nat) (v : Value) (xs : List α) (y : α) (hs : a.eval s = v) (hown : Owns w base e k enc v xs) (hgr : Grows w W) (n c : Nat) (hc : ∀ (j : Nat) (u : Value), (enc y)[j]? = some u → W.cell? ⟨n, j, none⟩ = some u)
    (hx : a.eval x = .slice (some ⟨n, 0, none⟩) 1 c) (hlen : (xs.length + 1) * bytes ≤ 140737488355328) (hbase : base ≤ w.heap.size)
    (h : ∀ v' w', Owns w' base e k enc v' (xs ++ [y]) → (∀ a0, Grows a0 w → a0.heap.size ≤ base → Grows a0 w') → wpList P ops Q rest (a.put o.dst v') w') :
    wpList P ops Q (o :: rest) a W := by
  obtain ⟨i, z, hi, hz, hsize, hby, hzs⟩ := L.info
  have hl1 : xs.length + 1 ≤ 140737488355328 := Nat.le_trans (Nat.le_mul_of_pos_right _ L.by1) hlen
  refine wpList_append_own _ hgd s x t hop base e i z k bytes L.sl hi hz hsize hby hzs L.pos v xs.length (xs.flatMap enc) hs (ownsRow_grows hown hgr) ⟨n, 0, none⟩ 1 c (enc y) hx (by rw [L.len, Nat.one_mul])
    (fun j u hu => by rw [add_off]; exact hc j u hu) (L.one y) (by unfold maxLen; omega) hlen (Nat.le_trans hbase hgr.size) ?_
  intro v' w' h1 h2 _
  refine h v' w' ?_ (fun a0 h0 hb => (h0.tr hgr).grown h2 (fun q hq => Nat.le_trans hb (ownBlock_ge hown q hq)))
  unfold Owns
  rw [List.length_append, List.length_singleton, List.flatMap_append]
  simpa using h1
/-- .. that the walk has just laid. -/
theorem app_one {α : Type} {P : Program} {t e : TypeId} {k bytes : Nat} {enc : α → List Value} (L : ElemLay P t e k bytes enc) {ops : Array Oper} {rest : List Oper} {o : Oper} {a : Act} {Q : Exit → Act → World → Prop} {w W : World}
    (hgd : o.guard = none) (s x : Operand) (hop : o.op = .call { callee := .builtin .append, args := #[s, x], argTypes := #[t, t] })
    (base : Nat) (v : Value) (xs : List α) (y : α) (hs : a.eval s = v) (hown : Owns w base e k enc v xs) (hgr : Grows w W) (n c : Nat) (hn : n = W.heap.size) (cs : Array Value) (hcs : cs.toList = enc y)
    (hx : a.eval x = .slice (some ⟨n, 0, none⟩) 1 c) (hlen : (xs.length + 1) * bytes ≤ 140737488355328) (hbase : base ≤ w.heap.size)
    (h : ∀ v' w', Owns w' base e k enc v' (xs ++ [y]) → (∀ a0, Grows a0 w → a0.heap.size ≤ base → Grows a0 w') → wpList P ops Q rest (a.put o.dst v') w') :
    wpList P ops Q (o :: rest) a (W.alloc (.cells cs e)) :=
  app_at L hgd s x hop base v xs y hs hown (hgr.al _) n c (fun j u hu => by
    have := alloc_new_at (w := W) (cs := cs) (t := e) hn j u (by rw [hcs]; exact hu)
    rw [add_off] at this; exact this) hx hlen hbase h
/-- The cells of a new block, in later worlds. -/
theorem box_in {w w' : World} {cs : Array Value} {t : TypeId} (hg : Grows (w.alloc (.cells cs t)) w') {l : List Value} (hl : cs.toList = l) : ∀ (j : Nat) (u : Value), l[j]? = some u → w'.cell? ⟨w.heap.size, j, none⟩ = some u := fun j u hu =>
  hg.cell (cell_box w cs t _ j u (by rw [← hl] at hu; simpa using hu))
end Go.Proofs.YtndhhgpmpnmljaaGreatDoor
