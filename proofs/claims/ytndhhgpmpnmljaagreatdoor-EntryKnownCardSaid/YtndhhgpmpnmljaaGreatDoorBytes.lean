import Derived.Test.YtndhhgpmpnmljaaGreatDoorApp
import Derived.Test.YtndhhgpmpnmljaaGreatDoorSplitP
import Derived.Test.YtndhhgpmpnmljaaGreatDoorProg
import Derived.Lib.AppendStr
import Derived.Lib.BufferRead
import Derived.Lib.SlBytesRow
namespace Go.Proofs.YtndhhgpmpnmljaaGreatDoor
open Go Go.RowKit

def byteC (b : UInt8) : List Value := [.int .u8 b.toNat]
theorem byteLay : ElemLay Tryz.prog 40 5 1 1 byteC where
  sl := Tryz.underlying40
  info := elem_info (z := .int .u8 0) (by kernel_rfl) rfl
  pos := by decide
  by1 := by decide
  len _ := rfl
  one x u hu := by
    simp [byteC] at hu
    subst hu; rfl
theorem byteInfo : ∃ i, Tryz.prog.info? 5 = some i ∧ i.zero = some (.int .u8 0) ∧ i.size = 1 ∧ i.bytes = 1 := by
  have h : (Tryz.prog.info? 5).map (fun i => (i.zero, i.size, i.bytes)) = some (some (.int .u8 0), 1, 1) := by kernel_rfl
  cases hi : Tryz.prog.info? 5 with
  | none => rw [hi] at h; cases h
  | some i =>
    rw [hi] at h
    simp only [Option.map_some, Option.some.injEq, Prod.mk.injEq] at h
    exact ⟨i, rfl, h.1, h.2.1, h.2.2⟩
theorem flat_bytes (l : List UInt8) : l.flatMap byteC = l.map fun b => Value.int .u8 b.toNat := by
  induction l with
  | nil => rfl
  | cons b l ih => rw [List.flatMap_cons, ih]; rfl
theorem strCells_flat (s : ByteArray) : Lib.strCells s = s.data.toList.flatMap byteC := by rw [flat_bytes]; rfl

/-- Another row, of another element type, is kept. -/
theorem Owns.other {α : Type} {w w' : World} {base : Nat} {e e' : TypeId} {k : Nat} {enc : α → List Value} {v v2 : Value} {xs : List α} {n2 k2 b2 : Nat} {ys : List Value} (h : Owns w base e k enc v xs) (h2 : w.ownsRow b2 e' k2 v2 n2 ys) (hne : e ≠ e') (hg : w.grownBy w' v2.ownBlock) : Owns w' base e k enc v xs := by
  obtain ⟨h1, h3⟩ := h
  refine ⟨h1, ?_⟩
  rcases h3 with h3 | ⟨g, cap, cur, rfl, hb, hh, r⟩
  · exact Or.inl h3
  · refine Or.inr ⟨g, cap, cur, rfl, hb, ?_, r⟩
    rw [hg.block g (Array.getElem?_eq_some_iff.1 hh).1 ?_]
    · exact hh
    · rcases h2.2 with ⟨rfl, _⟩ | ⟨g', cap', cur', rfl, _, hh', _⟩
      · simp [Value.ownBlock]
      · intro he
        have : g = g' := by simpa [Value.ownBlock] using he
        subst this
        rw [hh] at hh'
        injection hh' with hh'
        injection hh' with _ ht
        exact hne ht
theorem Owns.al {α : Type} {w : World} {base : Nat} {e : TypeId} {k : Nat} {enc : α → List Value} {v : Value} {xs : List α} (h : Owns w base e k enc v xs) (o : Obj) : Owns (w.alloc o) base e k enc v xs := h.grows (Grows.alloc _ _)

/-- append of a string to bytes. -/
theorem app_str {ops : Array Oper} {rest : List Oper} {o : Oper} {a : Act} {Q : Exit → Act → World → Prop} {w W : World}
    (hgd : o.guard = none) (s x : Operand) (hop : o.op = .call { callee := .builtin .append, args := #[s, x], argTypes := #[40, 9] })
    (base : Nat) (v : Value) (xs : List UInt8) (y : ByteArray) (hs : a.eval s = v) (hown : Owns w base 5 1 byteC v xs) (hgr : Grows w W)
    (hx : a.eval x = .string y) (hlen : xs.length + y.size ≤ 140737488355328) (hbase : base ≤ w.heap.size)
    (h : ∀ v' w', Owns w' base 5 1 byteC v' (xs ++ y.data.toList) → (∀ a0, Grows a0 w → a0.heap.size ≤ base → Grows a0 w') → (∀ {α : Type} {b2 k2 : Nat} {e2 : TypeId} {enc2 : α → List Value} {v2 : Value} {ys : List α}, e2 ≠ 5 → Owns w b2 e2 k2 enc2 v2 ys → Owns w' b2 e2 k2 enc2 v2 ys) → wpList Tryz.prog ops Q rest (a.put o.dst v') w') :
    wpList Tryz.prog ops Q (o :: rest) a W := by
  obtain ⟨i, hi, hz, hsize, hby⟩ := byteInfo
  have hown2 := ownsRow_grows hown hgr
  refine Lib.wpList_append_own_string W hgd s x 40 9 hop base 5 i Tryz.underlying40 Tryz.underlying9 hi hz hsize hby v xs.length (xs.flatMap byteC) hs hown2 y hx (by unfold maxLen; omega) hlen (Nat.le_trans hbase hgr.size) ?_
  intro v' w' h1 h2 _
  refine h v' w' ?_ (fun a0 h0 hb => (h0.tr hgr).grown h2 (fun q hq => Nat.le_trans hb (ownBlock_ge hown q hq))) (fun hne ho => (ho.grows hgr).other hown2 hne h2)
  unfold Owns
  rw [List.length_append, ← Lib.size_eq, List.flatMap_append, ← strCells_flat]
  exact h1
/-- append of one element; rows of other types are kept. -/
theorem app_one2 {α : Type} {P : Program} {t e : TypeId} {k bytes : Nat} {enc : α → List Value} (L : ElemLay P t e k bytes enc) {ops : Array Oper} {rest : List Oper} {o : Oper} {a : Act} {Q : Exit → Act → World → Prop} {w W : World}
    (hgd : o.guard = none) (s x : Operand) (hop : o.op = .call { callee := .builtin .append, args := #[s, x], argTypes := #[t, t] })
    (base : Nat) (v : Value) (xs : List α) (y : α) (hs : a.eval s = v) (hown : Owns w base e k enc v xs) (hgr : Grows w W) (n c : Nat) (hn : n = W.heap.size) (cs : Array Value) (hcs : cs.toList = enc y)
    (hx : a.eval x = .slice (some ⟨n, 0, none⟩) 1 c) (hlen : (xs.length + 1) * bytes ≤ 140737488355328) (hbase : base ≤ w.heap.size)
    (h : ∀ v' w', Owns w' base e k enc v' (xs ++ [y]) → (∀ a0, Grows a0 w → a0.heap.size ≤ base → Grows a0 w') → (∀ {α : Type} {b2 k2 : Nat} {e2 : TypeId} {enc2 : α → List Value} {v2 : Value} {ys : List α}, e2 ≠ e → Owns w b2 e2 k2 enc2 v2 ys → Owns w' b2 e2 k2 enc2 v2 ys) → wpList P ops Q rest (a.put o.dst v') w') :
    wpList P ops Q (o :: rest) a (W.alloc (.cells cs e)) := by
  obtain ⟨i, z, hi, hz, hsize, hby, hzs⟩ := L.info
  have hl1 : xs.length + 1 ≤ 140737488355328 := Nat.le_trans (Nat.le_mul_of_pos_right _ L.by1) hlen
  have hgr2 : Grows w (W.alloc (.cells cs e)) := hgr.al _
  have hown2 := ownsRow_grows hown hgr2
  refine wpList_append_own _ hgd s x t hop base e i z k bytes L.sl hi hz hsize hby hzs L.pos v xs.length (xs.flatMap enc) hs hown2 ⟨n, 0, none⟩ 1 c (enc y) hx (by rw [L.len, Nat.one_mul])
    (fun j u hu => alloc_new_at hn j u (by rw [hcs]; exact hu)) (L.one y) (by unfold maxLen; omega) hlen (Nat.le_trans hbase hgr2.size) ?_
  intro v' w' h1 h2 _
  refine h v' w' ?_ (fun a0 h0 hb => (h0.tr hgr2).grown h2 (fun q hq => Nat.le_trans hb (ownBlock_ge hown q hq))) (fun hne ho => (ho.grows hgr2).other hown2 hne h2)
  unfold Owns
  rw [List.length_append, List.length_singleton, List.flatMap_append]
  simpa using h1
/-- 'string(b)'. -/
theorem conv_owns {w : World} {base : Nat} {v : Value} {l : List UInt8} (h : Owns w base 5 1 byteC v l) : (convert 40 9 v).run Tryz.prog w = .ok (.string (mkB l)) w := by
  rcases h.2 with ⟨rfl, h0⟩ | ⟨g, cap, cur, rfl, hb, hh, hn, hc, hs, ht⟩
  · obtain rfl : l = [] := List.eq_nil_of_length_eq_zero h0
    exact Lib.run_convert_nil_bytes w _ _ 5 0 Tryz.underlying40 Tryz.underlying5 Tryz.underlying9
  · have hz : (mkB l).size = l.length := by rw [Lib.size_eq, mkB_data]
    have hB : Lib.Bytes w g 0 (mkB l) := fun i hi => by
      rw [hz] at hi
      have hf := flat_get (enc := byteC) (k := 1) (fun _ => rfl) l i 0 l[i] (.int .u8 l[i].toNat) (List.getElem?_eq_getElem hi) rfl
      rw [← ht, List.getElem?_take] at hf
      split at hf
      · unfold World.cell?
        simp only [hh, Option.isSome_none, Bool.false_eq_true, if_false]
        rw [Nat.zero_add]
        have hg : (mkB l)[i]'(by rw [hz]; exact hi) = l[i] := rfl
        rw [hg]
        simpa using hf
      · cases hf
    have := Lib.run_convert_whole (P := Tryz.prog) w 40 5 9 Tryz.underlying40 Tryz.underlying5 Tryz.underlying9 g 0 (mkB l) hB cap
    rw [hz] at this
    exact this
end Go.Proofs.YtndhhgpmpnmljaaGreatDoor
