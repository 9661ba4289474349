import Derived.Test.YtndhhgpmpnmljaaGreatDoorApp2
namespace Go.Proofs.YtndhhgpmpnmljaaGreatDoor
open Go Go.RowKit

/-- Nothing below a block has turned. -/
def EB (B : Nat) (w w' : World) : Prop := Below B w w' ∧ w.heap.size ≤ w'.heap.size
theorem EB.refl (B : Nat) (w : World) : EB B w w := ⟨Below.refl _ _, Nat.le_refl _⟩
theorem EB.trans (B : Nat) (a b c : World) (h : EB B a b) (k : EB B b c) : EB B a c := ⟨Below.trans h.1 k.1, Nat.le_trans h.2 k.2⟩
instance (B : Nat) (w : World) : Nonempty (Ext (EB B) w) := ⟨⟨w, EB.refl B w⟩⟩
theorem EB.of {B : Nat} {w w' : World} (h : Grows w w') (hB : B ≤ w.heap.size) : EB B w w' := ⟨Below.mono h hB, h.size⟩
theorem EB.grows {a w w' : World} (h : Grows a w) (k : EB a.heap.size w w') : Grows a w' := Below.trans h k.1
/-- append of a list that lies somewhere, as one operation of a region. -/
theorem app_many_wp {α : Type} {P : Program} {t e : TypeId} {k bytes : Nat} {enc : α → List Value} (L : ElemLay P t e k bytes enc) {o : Oper} {a : Act} {Q : Exit → Act → World → Prop} {w W : World} {Next : Act → World → Prop}
    (s x : Operand) (hop : o.op = .call { callee := .builtin .append, args := #[s, x], argTypes := #[t, t] })
    (base : Nat) (v : Value) (xs ys : List α) (hs : a.eval s = v) (hown : Owns w base e k enc v xs) (hgr : Grows w W) (sa : Option Addr) (sc : Nat)
    (hx : a.eval x = .slice sa ys.length sc) (hsrc : AtCells W sa k (ys.map enc)) (hnone : sa = none → sc = 0) (hlen : (xs.length + ys.length) * bytes ≤ 140737488355328) (hbase : base ≤ w.heap.size)
    (h : ∀ v' w', Owns w' base e k enc v' (xs ++ ys) → EB base W w' → Next (a.put o.dst v') w') :
    o.wp P a W Next Q := by
  obtain ⟨i, z, hi, hz, hsize, hby, hzs⟩ := L.info
  have hl1 : xs.length + ys.length ≤ 140737488355328 := Nat.le_trans (Nat.le_mul_of_pos_right _ L.by1) hlen
  have hown2 := ownsRow_grows hown hgr
  cases sa with
  | none =>
    obtain rfl := hnone rfl
    have hy : ys = [] := Decidable.byContradiction fun hne => by
      have hne2 : ys.map enc ≠ [] := by simpa using hne
      obtain ⟨b, off, ha, _⟩ := hsrc hne2
      cases ha
    subst hy
    have hrun := run_append_owned_none (P := P) (w := W) base t o.type e i k L.sl hi v xs.length (xs.flatMap enc) hown2
    have hx2 : a.eval x = .slice none 0 0 := hx
    unfold Oper.wp
    simp [execOp, hop, resolve, invoke, builtin, hs, hx2, hrun, Result.andThen]
    refine h v W ?_ (EB.refl _ _)
    rw [List.append_nil]; exact hown2
  | some ad =>
    obtain ⟨v', w', hrun, h1, h2, _⟩ := run_append_own (P := P) W base t o.type e i z k bytes L.sl hi hz hsize hby hzs L.pos v xs.length (xs.flatMap enc) hown2 ad ys.length sc (ys.flatMap enc) (flat_length L.len ys)
      (fun j u hu => by
        obtain ⟨i', jj, y, h1, h2, h3⟩ := flat_split L.len ys j u hu
        have hne : ys.map enc ≠ [] := by rintro e; rw [List.map_eq_nil_iff] at e; subst e; simp at h2
        obtain ⟨b, off, ha, hc⟩ := hsrc hne
        obtain rfl := Option.some.inj ha
        have hcell := hc i' (enc y) (by rw [List.getElem?_map, h2]; rfl) jj u h3
        unfold Addr.add
        by_cases h0 : j = 0
        · subst h0
          have hz0 : i' * k = 0 ∧ jj = 0 := by omega
          rw [if_pos rfl]
          rw [hz0.1, hz0.2] at hcell
          simpa using hcell
        · rw [if_neg h0]
          subst h1
          rw [← Nat.add_assoc]; exact hcell)
      (fun u hu => by obtain ⟨y, _, hy⟩ := List.mem_flatMap.1 hu; exact L.one y u hy) (by unfold maxLen; omega) hlen (Nat.le_trans hbase hgr.size)
    unfold Oper.wp
    simp [execOp, hop, resolve, invoke, builtin, hs, hx, hrun, Result.andThen]
    refine h v' w' ?_ ⟨?_, h2.size⟩
    · unfold Owns
      rw [List.length_append, List.flatMap_append]
      exact h1
    · exact Below.grown (Below.refl _ _) h2 (Nat.le_trans hbase hgr.size) (fun q hq => ownBlock_ge hown2 q hq)
end Go.Proofs.YtndhhgpmpnmljaaGreatDoor
