import Derived.Test.YtndhhgpmpnmljaaGreatDoorBytes
import Derived.Laws.AppendOwnNone
namespace Go.Proofs.YtndhhgpmpnmljaaGreatDoor
open Go Go.RowKit

theorem flat_split {α : Type} {enc : α → List Value} {k : Nat} (hk : ∀ x, (enc x).length = k) : ∀ (ys : List α) (j : Nat) (u : Value), (ys.flatMap enc)[j]? = some u → ∃ i jj y, j = i * k + jj ∧ ys[i]? = some y ∧ (enc y)[jj]? = some u
  | [], j, u, h => by simp at h
  | y :: r, j, u, h => by
    rw [List.flatMap_cons] at h
    rcases Nat.lt_or_ge j (enc y).length with hlt | hge
    · rw [List.getElem?_append_left hlt] at h
      exact ⟨0, j, y, by omega, rfl, h⟩
    · rw [List.getElem?_append_right hge] at h
      obtain ⟨i, jj, z, h1, h2, h3⟩ := flat_split hk r _ u h
      refine ⟨i + 1, jj, z, ?_, by simpa using h2, h3⟩
      rw [hk] at hge h1
      rw [Nat.succ_mul]; omega
/-- append of a list that lies somewhere. -/
theorem app_many {α : Type} {P : Program} {t e : TypeId} {k bytes : Nat} {enc : α → List Value} (L : ElemLay P t e k bytes enc) {ops : Array Oper} {rest : List Oper} {o : Oper} {a : Act} {Q : Exit → Act → World → Prop} {w W : World}
    (hgd : o.guard = none) (s x : Operand) (hop : o.op = .call { callee := .builtin .append, args := #[s, x], argTypes := #[t, t] })
    (base : Nat) (v : Value) (xs ys : List α) (hs : a.eval s = v) (hown : Owns w base e k enc v xs) (hgr : Grows w W) (sa : Option Addr) (sc : Nat)
    (hx : a.eval x = .slice sa ys.length sc) (hsrc : AtCells W sa k (ys.map enc)) (hnone : sa = none → sc = 0) (hlen : (xs.length + ys.length) * bytes ≤ 140737488355328) (hbase : base ≤ w.heap.size)
    (h : ∀ v' w', Owns w' base e k enc v' (xs ++ ys) → (∀ a0, Grows a0 w → a0.heap.size ≤ base → Grows a0 w') → wpList P ops Q rest (a.put o.dst v') w') :
    wpList P ops Q (o :: rest) a W := by
  obtain ⟨i, z, hi, hz, hsize, hby, hzs⟩ := L.info
  have hl1 : xs.length + ys.length ≤ 140737488355328 := Nat.le_trans (Nat.le_mul_of_pos_right _ L.by1) hlen
  have hown2 := ownsRow_grows hown hgr
  cases sa with
  | none =>
    obtain rfl := hnone rfl
    have hy : ys = [] := Decidable.byContradiction fun hne => by
      have hne2 : ys.map enc ≠ [] := by simpa using hne
      obtain ⟨b, off, ha, _⟩ := hsrc hne2
      cases ha
    subst hy
    refine wpList_append_own_none hgd s x t hop base e i k L.sl hi v xs.length (xs.flatMap enc) hs hown2 hx ?_
    refine h v W ?_ (fun a0 h0 _ => h0.tr hgr)
    rw [List.append_nil]; exact hown2
  | some ad =>
    refine wpList_append_own _ hgd s x t hop base e i z k bytes L.sl hi hz hsize hby hzs L.pos v xs.length (xs.flatMap enc) hs hown2 ad ys.length sc (ys.flatMap enc) hx (flat_length L.len ys)
      (fun j u hu => ?_) (fun u hu => by obtain ⟨y, _, hy⟩ := List.mem_flatMap.1 hu; exact L.one y u hy) (by unfold maxLen; omega) hlen (Nat.le_trans hbase hgr.size) ?_
    · obtain ⟨i', jj, y, h1, h2, h3⟩ := flat_split L.len ys j u hu
      have hne : ys.map enc ≠ [] := by rintro e; rw [List.map_eq_nil_iff] at e; subst e; simp at h2
      obtain ⟨b, off, ha, hc⟩ := hsrc hne
      obtain rfl := Option.some.inj ha
      have hcell := hc i' (enc y) (by rw [List.getElem?_map, h2]; rfl) jj u h3
      unfold Addr.add
      by_cases h0 : j = 0
      · subst h0
        have hz0 : i' * k = 0 ∧ jj = 0 := by omega
        rw [if_pos rfl]
        rw [hz0.1, hz0.2] at hcell
        simpa using hcell
      · rw [if_neg h0]
        subst h1
        rw [← Nat.add_assoc]; exact hcell
    · intro v' w' h1 h2 _
      refine h v' w' ?_ (fun a0 h0 hb => (h0.tr hgr).grown h2 (fun q hq => Nat.le_trans hb (ownBlock_ge hown q hq)))
      unfold Owns
      rw [List.length_append, List.flatMap_append]
      exact h1
/-- The empty literal. -/
theorem owns_lit {α : Type} {enc : α → List Value} {k : Nat} {w : World} {e : TypeId} (base : Nat) (hb : base ≤ w.heap.size) : Owns (w.alloc (.cells #[] e)) base e k enc (.slice (some ⟨w.heap.size, 0, none⟩) 0 0) [] := by
  refine ⟨by simp, Or.inr ⟨w.heap.size, 0, #[], rfl, hb, ?_, Nat.le_refl _, Nat.zero_le _, by simp, by simp⟩⟩
  show (w.heap.push _)[w.heap.size]? = _
  simp
end Go.Proofs.YtndhhgpmpnmljaaGreatDoor
