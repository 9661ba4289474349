import Derived.Test.YtndhhgpmpnmljaaGreatDoorOrd
namespace Go.Proofs.YtndhhgpmpnmljaaGreatDoor
open Go Go.RowKit

/-- The steps of a region in an order of the prover's choice, under a cover that is not opened by itself. -/
structure OrdS (P : Program) (ops : Array Oper) (E : World → World → Prop) (Q : Exit → Act → World → Prop) (fin : Act → World → Prop) (l : List (Nat × Bool)) (a : Act) (w : World) : Prop where
  out : wpOrd P ops E Q fin l a w

section
variable {P : Program} {ops : Array Oper} {Q : Exit → Act → World → Prop} {E : World → World → Prop} {fin : Act → World → Prop}
theorem s_region (E : World → World → Prop) (l : List (Nat × Bool)) {id : Nat} {a : Act} {w : World} (hr : ∀ w, E w w) (ht : ∀ a b c, E a b → E b c → E a c)
    (hm : P.follows .mixedOrders = true) (hB : ordAllB ops l = true)
    (hQ : ∀ d v c a w, Q (.panic c) (a.put d v) w → Q (.panic c) a w) (h : OrdS P ops E Q (Q .normal) l a w.drew) : (Code.region id ops true).wp P Q a w := wp_region_ord E l hr ht hm hB hQ h.out
theorem s_quiet {i : Nat} {rest : List (Nat × Bool)} {a : Act} {w : World} {o : Oper} (ho : ops[i]? = some o)
    (h : ∀ K : Act → Prop, (∀ a, OrdS P ops E Q fin rest a w → K a) → if Region.wanted o (yielded ops a.tmps) then quietE P o a E w K else K (a.put o.dst undef)) : OrdS P ops E Q fin ((i, false) :: rest) a w :=
  ⟨ord_quiet ho fun K hK => h K fun a ha => hK a ha.out⟩
theorem s_late_w {i : Nat} {rest : List (Nat × Bool)} {a : Act} {w : World} {o : Oper} (ho : ops[i]? = some o) (hw : Region.wanted o (yielded ops a.tmps) = true)
    (h : ∀ K : Act → World → Prop, (∀ a w, OrdS P ops E Q fin rest a w → K a w) → ∀ w2, E w w2 → o.wp P a w2 (fun a' w' => E w2 w' ∧ K a' w') Q) : OrdS P ops E Q fin ((i, true) :: rest) a w :=
  ⟨ord_late_w ho hw fun K hK => h K fun a w ha => hK a w ha.out⟩
theorem s_end {a : Act} {w : World} (h : ∀ w2, E w w2 → fin a w2) : OrdS P ops E Q fin [] a w := ⟨ord_end h⟩
end
theorem s_tail {P : Program} {Q : Exit → Act → World → Prop} (E : World → World → Prop) (k : Nat) (l : List (Nat × Bool)) {id : Nat} {L : List Oper} {a : Act} {w : World} (hr : ∀ w, E w w) (ht : ∀ a b c, E a b → E b c → E a c)
    (hm : P.follows .mixedOrders = true) (hB : ordTailB L.toArray k l = true)
    (hQ : ∀ d v c a w, Q (.panic c) (a.put d v) w → Q (.panic c) a w) (h : OrdS P L.toArray E Q (wpList P L.toArray Q (L.drop k)) l a w.drew) : (Code.region id L.toArray true).wp P Q a w := wp_region_tail E k l hr ht hm hB hQ h.out
end Go.Proofs.YtndhhgpmpnmljaaGreatDoor
