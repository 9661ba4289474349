import Derived.Test.YtndhhgpmpnmljaaGreatDoorApp3
import Derived.ArgAppend
import Derived.Deep.Upon
namespace Go.Proofs.YtndhhgpmpnmljaaGreatDoor
open Go Go.RowKit

/-- append to an empty literal, as one operation of a region: what is there is kept. -/
theorem app_lit_wp {α : Type} {P : Program} {t e : TypeId} {k bytes : Nat} {enc : α → List Value} (L : ElemLay P t e k bytes enc) {o : Oper} {a : Act} {Q : Exit → Act → World → Prop} {W : World} {Next : Act → World → Prop}
    (s x : Operand) (hop : o.op = .call { callee := .builtin .append, args := #[s, x], argTypes := #[t, t] })
    (base : Nat) (b : Addr) (ys : List α) (hs : a.eval s = .slice (some b) 0 0) (hown : Owns W base e k enc (.slice (some b) 0 0) []) (sa : Option Addr) (sc : Nat)
    (hx : a.eval x = .slice sa ys.length sc) (hsrc : AtCells W sa k (ys.map enc)) (hnone : sa = none → sc = 0) (hlen : ys.length * bytes ≤ 140737488355328) (hbase : base ≤ W.heap.size)
    (h : ∀ v' w', Owns w' base e k enc v' ys → Grows W w' → Next (a.put o.dst v') w') :
    o.wp P a W Next Q := by
  obtain ⟨i, z, hi, hz, hsize, hby, hzs⟩ := L.info
  have hl1 : ys.length ≤ 140737488355328 := Nat.le_trans (Nat.le_mul_of_pos_right _ L.by1) hlen
  cases ys with
  | nil =>
    cases sa with
    | none =>
      obtain rfl := hnone rfl
      have hrun := run_append_owned_none (P := P) (w := W) base t o.type e i k L.sl hi _ 0 [] hown
      have hx2 : a.eval x = .slice none 0 0 := hx
      unfold Oper.wp
      simp [execOp, hop, resolve, invoke, builtin, hs, hx2, hrun, Result.andThen]
      exact h _ W hown (Grows.refl _)
    | some ad =>
      have hrun := run_append_nothing (P := P) W t t o.type e i L.sl hi (some b) 0 0 (Nat.le_refl _) (.slice (some ad) 0 sc) (Go.Src.ofSlice W L.sl ad 0 sc [] (by simp) (fun j u hu => by simp at hu) (fun u hu => by cases hu))
      have hx2 : a.eval x = .slice (some ad) 0 sc := hx
      unfold Oper.wp
      simp [execOp, hop, resolve, invoke, builtin, hs, hx2, hrun, Result.andThen]
      exact h _ W hown (Grows.refl _)
  | cons y r =>
    obtain ⟨bb, off, rfl, hc⟩ := hsrc (by simp)
    obtain ⟨v', w', hrun, h1, h2⟩ := run_append_arg_grows (P := P) W t o.type e i z k bytes L.sl hi hz hsize hby hzs L.pos b 0 0 [] (by simp) (fun j u hu => by simp at hu) ⟨bb, off, none⟩ (y :: r).length sc ((y :: r).flatMap enc) (flat_length L.len (y :: r))
      (fun j u hu => by
        obtain ⟨i', jj, y', g1, g2, g3⟩ := flat_split L.len (y :: r) j u hu
        have hcell := hc i' (enc y') (by rw [List.getElem?_map, g2]; rfl) jj u g3
        unfold Addr.add
        by_cases h0 : j = 0
        · subst h0
          have hz0 : i' * k = 0 ∧ jj = 0 := by omega
          rw [if_pos rfl]
          rw [hz0.1, hz0.2] at hcell
          simpa using hcell
        · rw [if_neg h0]
          subst g1
          rw [← Nat.add_assoc]; exact hcell) (by simp) (by unfold maxLen; omega) (by rw [Nat.zero_add]; exact hlen)
    rw [List.length_cons] at hrun hx
    unfold Oper.wp
    simp [execOp, hop, resolve, invoke, builtin, hs, hx, hrun, Result.andThen]
    refine h v' w' ?_ ((Grows.refl W).grown h2 (fun q hq => by cases hq))
    have h3 : w'.ownsRow W.heap.size e k v' (y :: r).length ((y :: r).flatMap enc) := by simpa using h1
    exact ownsRow_base h3 hbase
end Go.Proofs.YtndhhgpmpnmljaaGreatDoor
