import Derived.Test.YtndhhgpmpnmljaaGreatDoorOrdS
import Derived.Test.YtndhhgpmpnmljaaGreatDoorApp3
/-
  A region that draws its order, walked once, in an order of the prover's choice: the early operations turn nothing, so nothing comes between the late ones.
-/
namespace Go.Proofs.YtndhhgpmpnmljaaGreatDoor
open Go Go.RowKit
section
variable {P : Program} {ops : Array Oper} {Q : Exit → Act → World → Prop} {md : Region.Mode} {E : World → World → Prop} {fin : Act → World → Prop}

/-- One value in every later world; what comes behind it is later still. -/
def quietE2 (P : Program) (o : Oper) (a : Act) (E : World → World → Prop) (w : World) (next : Act → Prop) : Prop :=
  ∃ v, (∀ w2, (∃ x : Ext E w, w2 = x.u) → o.quietAt P a (fun w3 => w3 = w2) w2 v) ∧ next (a.put o.dst v)

def wpOrd2 (P : Program) (ops : Array Oper) (E : World → World → Prop) (Q : Exit → Act → World → Prop) (fin : Act → World → Prop) : List (Nat × Bool) → Act → World → Prop
  | [], a, w => fin a w
  | (i, late) :: rest, a, w => match ops[i]? with
    | none => False
    | some o => if Region.wanted o (yielded ops a.tmps) then
        (if late then o.wp P a w (fun a' w' => E w w' ∧ wpOrd2 P ops E Q fin rest a' w') Q else quietE2 P o a E w (fun a' => wpOrd2 P ops E Q fin rest a' w))
      else wpOrd2 P ops E Q fin rest (a.put o.dst undef) w

/-- Whatever order is picked, from whatever later world. -/
def wpAnyE2 (P : Program) (md : Region.Mode) (ops : Array Oper) (Q : Exit → Act → World → Prop) (E : World → World → Prop) : Nat → Array Bool → Act → World → Prop
  | 0, listed, a, w => Region.ready md ops listed = [] ∧ Q .normal a w
  | fuel + 1, listed, a, w =>
    (Region.ready md ops listed = [] → Q .normal a w) ∧
    ∀ i ∈ Region.ready md ops listed, wpOp P ops Q i (fun a' w' => (E w w' ∧ wpAnyE2 P md ops Q E fuel (listed.setIfInBounds i true) a' w') ∨ (tailB md ops i = true ∧ wpAny P md ops Q fuel (listed.setIfInBounds i true) a' w')) a w

theorem wpAny_of_E2 : ∀ (fuel : Nat) (listed : Array Bool) (a : Act) (w : World), wpAnyE2 P md ops Q E fuel listed a w → wpAny P md ops Q fuel listed a w
  | 0, _, _, _, h => ⟨h.1, h.2⟩
  | fuel + 1, _, _, _, h => ⟨fun h0 => h.1 h0, fun i hi => wpOp_mono (fun a' w' h' => h'.elim (fun h' => wpAny_of_E2 fuel _ a' w' h'.2) (fun h' => h'.2)) (h.2 i hi)⟩

def YieldsE2 (P : Program) (ops : Array Oper) (E : World → World → Prop) (o : Oper) (v : Value) (a : Act) (w : World) : Prop :=
  (Region.wanted o (yielded ops a.tmps) = true ∧ ∀ w2, (∃ x : Ext E w, w2 = x.u) → o.quietAt P a (fun w3 => w3 = w2) w2 v) ∨
  (Region.wanted o (yielded ops a.tmps) = false ∧ v = undef)

theorem YieldsE2.later (ht : ∀ a b c, E a b → E b c → E a c) {o : Oper} {v : Value} {a : Act} {w w' : World} (hw : E w w') (h : YieldsE2 P ops E o v a w) : YieldsE2 P ops E o v a w' :=
  h.imp (fun ⟨h1, h2⟩ => ⟨h1, fun w2 ⟨x, hx⟩ => h2 w2 ⟨⟨x.u, ht _ _ _ hw x.h⟩, hx⟩⟩) id

theorem YieldsE2.of_same {o : Oper} {v : Value} {a a' : Act} {w : World} (hy : YieldsE2 P ops E o v a w) (he : execOp a'.eval o = execOp a.eval o)
    (hw : Region.wanted o (yielded ops a'.tmps) = Region.wanted o (yielded ops a.tmps)) : YieldsE2 P ops E o v a' w := by
  unfold YieldsE2 Oper.quietAt at *
  rw [he, hw]
  exact hy

theorem wp_of_quietAt2 {o : Oper} {v : Value} {a : Act} {w : World} {K : Act → World → Prop} (h : o.quietAt P a (fun w3 => w3 = w) w v) (hk : K (a.put o.dst v) w) : o.wp P a w K Q := by
  unfold Oper.quietAt at h
  unfold Oper.wp
  generalize (execOp a.eval o).run P w = r at *
  cases r with
  | ok n w' =>
    cases n <;> simp only [Oper.quietUpon] at h <;> simp only [Oper.upon]
    case value u =>
      obtain ⟨e1, e2⟩ := h
      rw [e1, e2]
      exact hk
    case skip =>
      obtain ⟨e1, e2⟩ := h
      rw [e1, ← e2]
      exact hk
    case enter f args =>
      obtain ⟨e1, hc⟩ := h
      rw [e1]
      exact hc.mono fun e w'' ⟨he, hy⟩ => by subst he; subst hy; exact hk
  | halt x w' => simp only [Oper.quietUpon] at h

theorem YieldsE2.wpOp {i : Nat} {o : Oper} {v : Value} {a : Act} {w : World} (hr : E w w) (hi : ops[i]? = some o) (hy : YieldsE2 P ops E o v a w)
    {K : Act → World → Prop} (h : K (a.put o.dst v) w) : wpOp P ops Q i K a w := by
  unfold Go.wpOp
  simp only [hi]
  rcases hy with ⟨hw, hv⟩ | ⟨hw, rfl⟩
  · simp only [hw, if_true]; exact .inl (wp_of_quietAt2 (hv w ⟨⟨w, hr⟩, rfl⟩) h)
  · simp only [hw, Bool.false_eq_true, if_false]; exact h

theorem wpOp_putE2 {j : Nat} {oi oj : Oper} {v : Value} (hj : ops[j]? = some oj) (hap : oi.apart ops oj = true)
    (hsi : ∀ cs b, oi.op ≠ .select cs b) (hsj : ∀ cs b, oj.op ≠ .select cs b)
    (hQ : ∀ d v c a w, Q (.panic c) (a.put d v) w → Q (.panic c) a w) {K : Act → World → Prop} {a : Act} {w wb : World}
    (hy : YieldsE2 P ops E oi v a wb) (h : wpOp P ops Q j K (a.put oi.dst v) w) :
    wpOp P ops Q j (fun a' w' => YieldsE2 P ops E oi v a' wb ∧ K (a'.put oi.dst v) w') a w := by
  obtain ⟨h1, h2, h3⟩ := Oper.apart_spec hap
  have keep : ∀ (a : Act), YieldsE2 P ops E oi v a wb → ∀ u, YieldsE2 P ops E oi v (a.put oj.dst u) wb := fun a hy u =>
    hy.of_same (execOp_put oi hsi a oj.dst u h3) (wanted_put oi a oj.dst u h3)
  have keepD : ∀ d, YieldsE2 P ops E oi v { a with defers := d :: a.defers } wb := fun d => hy.of_same rfl rfl
  unfold wpOp at *
  simp only [hj] at *
  rw [wanted_put oj a oi.dst v h1] at h
  split
  · rename_i hw
    simp only [hw, if_true] at h
    rcases h with h | ⟨hasks, hlets⟩
    case inr => exact .inr ⟨by unfold Oper.asks at *; rw [execOp_put oj hsj a oi.dst v h1] at hasks; exact hasks, hlets⟩
    refine .inl ?_
    unfold Oper.wp at *
    rw [execOp_put oj hsj a oi.dst v h1] at h
    generalize (execOp a.eval oj).run P w = r at *
    cases r with
    | ok n w' =>
      cases n <;> simp only [Oper.upon] at h ⊢
      case value u => exact ⟨keep a hy u, by rw [← Act.put_comm a v u h2]; exact h⟩
      case skip => exact ⟨keep a hy _, by rw [← Act.put_comm a v undef h2]; exact h⟩
      case defer d =>
        refine ⟨keep _ (keepD d) _, ?_⟩
        rw [← Act.put_comm _ v undef h2, ← Act.put_defers]
        exact h
      case enter f args =>
        refine Calls.mono h fun e w'' he => ?_
        cases e with
        | returned u => exact ⟨keep a hy u, by rw [← Act.put_comm a v u h2]; exact he⟩
        | panicked c => exact hQ _ _ _ _ _ he
        | outgrown => exact he
      case row row args => exact Rows.mono h fun u w'' he => ⟨keep a hy u, by rw [← Act.put_comm a v u h2]; exact he⟩
    | halt x w' =>
      cases x <;> simp only [Oper.upon] at h ⊢
      case panic u => exact hQ _ _ _ _ _ h
  · rename_i hw
    simp only [hw] at h
    exact ⟨keep a hy _, by rw [← Act.put_comm a v undef h2]; exact h⟩

theorem wpAnyE_first2 (hr : ∀ w, E w w) (ht : ∀ a b c, E a b → E b c → E a c) {i : Nat} {oi : Oper} {v : Value} (hi : ops[i]? = some oi) (hsel : ∀ (j : Nat) (o : Oper) cs b, ops[j]? = some o → o.op ≠ .select cs b)
    (hQ : ∀ d v c a w, Q (.panic c) (a.put d v) w → Q (.panic c) a w) :
    ∀ (fuel : Nat) (listed : Array Bool) (a : Act) (w : World), ClosedL md ops listed →
      (∀ j oj, ops[j]? = some oj → j ≠ i → listed.getD j true = false → (∀ e ∈ oj.after, Region.binds md e = true → e.on ≠ i) → oi.apart ops oj = true) →
      i ∈ Region.ready md ops listed → YieldsE2 P ops E oi v a w →
      wpAnyE2 P md ops Q E fuel (listed.setIfInBounds i true) (a.put oi.dst v) w → wpAnyE2 P md ops Q E (fuel + 1) listed a w := by
  intro fuel
  induction fuel with
  | zero =>
    intro listed a w _ _ hrd hy H
    refine ⟨fun h => (by rw [h] at hrd; cases hrd), fun j hj => ?_⟩
    by_cases hji : j = i
    · subst hji; exact hy.wpOp (hr _) hi (.inl ⟨hr _, H⟩)
    · have := ready_mono hj hji
      rw [H.1] at this
      cases this
  | succ fuel ih =>
    intro listed a w hcl hfree hrd hy H
    refine ⟨fun h => (by rw [h] at hrd; cases hrd), fun j hj => ?_⟩
    by_cases hji : j = i
    · subst hji; exact hy.wpOp (hr _) hi (.inl ⟨hr _, H⟩)
    · have h1 := H.2 j (ready_mono hj hji)
      obtain ⟨hjun, oj, hoj, hall⟩ := mem_ready.1 hj
      have hnot : ∀ e ∈ oj.after, Region.binds md e = true → e.on ≠ i := fun e he hb heq => by
        have h1 := hall e he hb
        have h0 := (mem_ready.1 hrd).1
        rw [heq] at h1
        rcases Nat.lt_or_ge i listed.size with h' | h'
        · simp [h'] at h0 h1; rw [h0] at h1; cases h1
        · simp [Array.getElem?_eq_none h'] at h1
      have h2 := wpOp_putE2 hoj (hfree j oj hoj hji hjun hnot) (fun cs b => hsel i oi cs b hi) (fun cs b => hsel j oj cs b hoj) hQ hy h1
      have hfree' : ∀ k ok, ops[k]? = some ok → k ≠ i → (listed.setIfInBounds j true).getD k true = false →
          (∀ e ∈ ok.after, Region.binds md e = true → e.on ≠ i) → oi.apart ops ok = true := fun k ok hk hki hun hno => by
        refine hfree k ok hk hki ?_ hno
        by_cases hjk : j = k
        · subst hjk; exact hjun
        · rw [getD_set_ne true hjk] at hun; exact hun
      refine wpOp_mono (fun a' w' h3 => ?_) h2
      rcases h3.2 with h4 | h4
      · refine .inl ⟨h4.1, ih (listed.setIfInBounds j true) a' w' (closedL_set hcl hj) hfree' (ready_mono hrd (Ne.symm hji)) (h3.1.later ht h4.1) ?_⟩
        rw [Array.setIfInBounds_comm _ _ hji]
        exact h4.2
      · exact (tail_excludes hcl hrd hj hji h4.1).elim

theorem wpAnyE_of_ord2 (hr : ∀ w, E w w) (ht : ∀ a b c, E a b → E b c → E a c) (hs : Region.noSelect ops = true)
    (hQ : ∀ d v c a w, Q (.panic c) (a.put d v) w → Q (.panic c) a w) {g k : Nat}
    (hfin : ∀ listed a w, Region.seqB md ops g k listed = true → fin a w → wpAnyE2 P md ops Q E g listed a w) :
    ∀ (l : List (Nat × Bool)) (listed : Array Bool) (a : Act) (w : World), ClosedL md ops listed → ordB md ops g k l listed = true → wpOrd2 P ops E Q fin l a w → wpAnyE2 P md ops Q E (l.length + g) listed a w
  | [], listed, a, w, _, hB, h => by rw [List.length_nil, Nat.zero_add]; exact hfin listed a w hB h
  | (i, false) :: rest, listed, a, w, hcl, hB, h => by
    simp only [ordB, Bool.and_eq_true] at hB
    obtain ⟨⟨hrd, hf⟩, hB'⟩ := hB
    have hrd' : i ∈ Region.ready md ops listed := by simpa using hrd
    unfold wpOrd2 at h
    rw [List.length_cons, show rest.length + 1 + g = (rest.length + g) + 1 by omega]
    split at h
    · exact h.elim
    · rename_i o ho
      split at h
      · rename_i hw
        simp only [Bool.false_eq_true, if_false] at h
        obtain ⟨v, hv, hk⟩ := h
        exact wpAnyE_first2 hr ht ho (Region.noSelect_spec hs) hQ _ listed a w hcl (Region.free_spec ho hf) hrd' (.inl ⟨hw, hv⟩) (wpAnyE_of_ord2 hr ht hs hQ hfin rest _ _ _ (closedL_set hcl hrd') hB' hk)
      · rename_i hw
        exact wpAnyE_first2 hr ht ho (Region.noSelect_spec hs) hQ _ listed a w hcl (Region.free_spec ho hf) hrd' (.inr ⟨by simpa using hw, rfl⟩) (wpAnyE_of_ord2 hr ht hs hQ hfin rest _ _ _ (closedL_set hcl hrd') hB' h)
  | (i, true) :: rest, listed, a, w, hcl, hB, h => by
    simp only [ordB, Bool.and_eq_true, decide_eq_true_eq] at hB
    obtain ⟨hrd, hB'⟩ := hB
    rw [List.length_cons, show rest.length + 1 + g = (rest.length + g) + 1 by omega]
    refine ⟨fun h0 => (by rw [h0] at hrd; cases hrd), fun j hj => ?_⟩
    have hj0 := hj
    rw [hrd] at hj
    have hji : j = i := by simpa using hj
    subst hji
    unfold wpOrd2 at h
    unfold wpOp
    split at h
    · exact h.elim
    · rename_i o ho
      simp only [ho]
      split at h
      · rename_i hw
        simp only [hw, if_true] at h ⊢
        exact .inl (Oper.wp_mono (fun a' w' h' => .inl ⟨h'.1, wpAnyE_of_ord2 hr ht hs hQ hfin rest _ _ _ (closedL_set hcl hj0) hB' h'.2⟩) h)
      · rename_i hw
        simp only [hw] at ⊢
        exact .inl ⟨hr _, wpAnyE_of_ord2 hr ht hs hQ hfin rest _ _ _ (closedL_set hcl hj0) hB' h⟩

/-- ONE WALK IN THE CHOSEN ORDER SERVES EVERY ORDER. -/
theorem wp_region_ord2 (E : World → World → Prop) (l : List (Nat × Bool)) {id : Nat} {a : Act} {w : World} (hr : ∀ w, E w w) (ht : ∀ a b c, E a b → E b c → E a c)
    (hm : P.follows .mixedOrders = true) (hB : ordAllB ops l = true)
    (hQ : ∀ d v c a w, Q (.panic c) (a.put d v) w → Q (.panic c) a w) (h : wpOrd2 P ops E Q (Q .normal) l a w.drew) : (Code.region id ops true).wp P Q a w := by
  simp only [ordAllB, Bool.and_eq_true, decide_eq_true_eq] at hB
  obtain ⟨⟨hs, hl⟩, hB⟩ := hB
  have := wpAnyE_of_ord2 (md := .any) (g := 0) (k := 0) hr ht hs hQ (fun listed a w hB h => ⟨by simpa [Region.seqB] using hB, h⟩) l _ a w.drew (closedL_none _ _) hB h
  rw [Nat.add_zero, hl] at this
  exact wp_region_any hm (wpAny_of_E2 _ _ _ _ this)
/-- .. the last operations, from number k on, in the order of the text. -/
theorem wp_region_tail2 (E : World → World → Prop) (k : Nat) (l : List (Nat × Bool)) {id : Nat} {L : List Oper} {a : Act} {w : World} (hr : ∀ w, E w w) (ht : ∀ a b c, E a b → E b c → E a c)
    (hm : P.follows .mixedOrders = true) (hB : ordTailB L.toArray k l = true)
    (hQ : ∀ d v c a w, Q (.panic c) (a.put d v) w → Q (.panic c) a w) (h : wpOrd2 P L.toArray E Q (wpList P L.toArray Q (L.drop k)) l a w.drew) : (Code.region id L.toArray true).wp P Q a w := by
  simp only [ordTailB, Bool.and_eq_true, decide_eq_true_eq] at hB
  obtain ⟨⟨⟨⟨hs, hl⟩, hk⟩, htl⟩, hB⟩ := hB
  have hdl : (L.drop k).length = L.toArray.size - k := by simp
  have := wpAnyE_of_ord2 (P := P) (Q := Q) (md := .any) (ops := L.toArray) (fin := wpList P L.toArray Q (L.drop k)) (g := L.toArray.size - k) (k := k) hr ht hs hQ (fun listed a w hB h => by
    obtain ⟨g, hg⟩ : ∃ g, L.toArray.size - k = g + 1 := ⟨L.toArray.size - k - 1, by omega⟩
    have hrd : Region.ready .any L.toArray listed = [k] := by
      rw [hg] at hB; simp only [Region.seqB, Bool.and_eq_true, decide_eq_true_eq] at hB; exact hB.1
    have hall := wpAny_of_seq (md := .any) (Q' := Q) (L.drop k) k listed a w (fun j => by simp [List.getElem?_drop]) (by rw [hdl]; exact hB) h
    rw [hg]
    refine ⟨fun h0 => (by rw [h0] at hrd; cases hrd), fun j hj => ?_⟩
    have h1 := hall
    rw [hdl, hg] at h1
    have hjk : j = k := by rw [hrd] at hj; simpa using hj
    subst hjk
    exact wpOp_mono (fun a' w' h' => .inr ⟨htl, h'⟩) (h1.2 j hj)) l _ a w.drew (closedL_none _ _) hB h
  rw [hl, show k + (L.toArray.size - k) = L.toArray.size by omega] at this
  exact wp_region_any hm (wpAny_of_E2 _ _ _ _ this)

/-- The steps. -/
theorem ord_quiet2 {i : Nat} {rest : List (Nat × Bool)} {a : Act} {w : World} {o : Oper} (ho : ops[i]? = some o)
    (h : ∀ K : Act → Prop, (∀ a, wpOrd2 P ops E Q fin rest a w → K a) → if Region.wanted o (yielded ops a.tmps) then quietE2 P o a E w K else K (a.put o.dst undef)) : wpOrd2 P ops E Q fin ((i, false) :: rest) a w := by
  unfold wpOrd2
  simp only [ho]
  exact h _ (fun _ h => h)
theorem ord_late2 {i : Nat} {rest : List (Nat × Bool)} {a : Act} {w : World} {o : Oper} (ho : ops[i]? = some o)
    (h : ∀ K : Act → World → Prop, (∀ a w, wpOrd2 P ops E Q fin rest a w → K a w) → if Region.wanted o (yielded ops a.tmps) then o.wp P a w (fun a' w' => E w w' ∧ K a' w') Q else K (a.put o.dst undef) w) : wpOrd2 P ops E Q fin ((i, true) :: rest) a w := by
  unfold wpOrd2
  simp only [ho]
  exact h _ (fun _ _ h => h)
theorem ord_late_w2 {i : Nat} {rest : List (Nat × Bool)} {a : Act} {w : World} {o : Oper} (ho : ops[i]? = some o) (hw : Region.wanted o (yielded ops a.tmps) = true)
    (h : ∀ K : Act → World → Prop, (∀ a w, wpOrd2 P ops E Q fin rest a w → K a w) → o.wp P a w (fun a' w' => E w w' ∧ K a' w') Q) : wpOrd2 P ops E Q fin ((i, true) :: rest) a w :=
  ord_late2 ho fun K hK => by rw [if_pos hw]; exact h K hK
theorem ord_skip2 {i : Nat} {b : Bool} {rest : List (Nat × Bool)} {a : Act} {w : World} {o : Oper} (ho : ops[i]? = some o) (hw : Region.wanted o (yielded ops a.tmps) = false)
    (h : wpOrd2 P ops E Q fin rest (a.put o.dst undef) w) : wpOrd2 P ops E Q fin ((i, b) :: rest) a w := by
  unfold wpOrd2
  simp only [ho, hw, Bool.false_eq_true, if_false]
  exact h
theorem ord_end2 {a : Act} {w : World} (h : fin a w) : wpOrd2 P ops E Q fin [] a w := h

/-- The steps, under a cover that is not opened by itself. -/
structure OrdT (P : Program) (ops : Array Oper) (E : World → World → Prop) (Q : Exit → Act → World → Prop) (fin : Act → World → Prop) (l : List (Nat × Bool)) (a : Act) (w : World) : Prop where
  out : wpOrd2 P ops E Q fin l a w
theorem t_region (E : World → World → Prop) (l : List (Nat × Bool)) {id : Nat} {a : Act} {w : World} (hr : ∀ w, E w w) (ht : ∀ a b c, E a b → E b c → E a c)
    (hm : P.follows .mixedOrders = true) (hB : ordAllB ops l = true)
    (hQ : ∀ d v c a w, Q (.panic c) (a.put d v) w → Q (.panic c) a w) (h : OrdT P ops E Q (Q .normal) l a w.drew) : (Code.region id ops true).wp P Q a w := wp_region_ord2 E l hr ht hm hB hQ h.out
theorem t_tail {P : Program} {Q : Exit → Act → World → Prop} (E : World → World → Prop) (k : Nat) (l : List (Nat × Bool)) {id : Nat} {L : List Oper} {a : Act} {w : World} (hr : ∀ w, E w w) (ht : ∀ a b c, E a b → E b c → E a c)
    (hm : P.follows .mixedOrders = true) (hB : ordTailB L.toArray k l = true)
    (hQ : ∀ d v c a w, Q (.panic c) (a.put d v) w → Q (.panic c) a w) (h : OrdT P L.toArray E Q (wpList P L.toArray Q (L.drop k)) l a w.drew) : (Code.region id L.toArray true).wp P Q a w := wp_region_tail2 E k l hr ht hm hB hQ h.out
theorem t_quiet {i : Nat} {rest : List (Nat × Bool)} {a : Act} {w : World} {o : Oper} (ho : ops[i]? = some o)
    (h : ∀ K : Act → Prop, (∀ a, OrdT P ops E Q fin rest a w → K a) → if Region.wanted o (yielded ops a.tmps) then quietE2 P o a E w K else K (a.put o.dst undef)) : OrdT P ops E Q fin ((i, false) :: rest) a w :=
  ⟨ord_quiet2 ho fun K hK => h K fun a ha => hK a ha.out⟩
theorem t_late {i : Nat} {rest : List (Nat × Bool)} {a : Act} {w : World} {o : Oper} (ho : ops[i]? = some o) (hw : Region.wanted o (yielded ops a.tmps) = true)
    (h : ∀ K : Act → World → Prop, (∀ a w, OrdT P ops E Q fin rest a w → K a w) → o.wp P a w (fun a' w' => E w w' ∧ K a' w') Q) : OrdT P ops E Q fin ((i, true) :: rest) a w :=
  ⟨ord_late_w2 ho hw fun K hK => h K fun a w ha => hK a w ha.out⟩
theorem t_skip {i : Nat} {b : Bool} {rest : List (Nat × Bool)} {a : Act} {w : World} {o : Oper} (ho : ops[i]? = some o) (hw : Region.wanted o (yielded ops a.tmps) = false)
    (h : OrdT P ops E Q fin rest (a.put o.dst undef) w) : OrdT P ops E Q fin ((i, b) :: rest) a w := ⟨ord_skip2 ho hw h.out⟩
theorem t_end {a : Act} {w : World} (h : fin a w) : OrdT P ops E Q fin [] a w := ⟨h⟩
end
theorem calls_same {P : Program} {f : FuncId} {args : Array Value} {w : World} {v : Value} (h : Calls P f args w fun e w' => e = .returned v ∧ w = w') : Calls P f args w fun e w'' => e = .returned v ∧ w'' = w := h.mono fun _ _ ⟨he, hw⟩ => ⟨he, hw.symm⟩
theorem ext_cellB {B : Nat} {w : World} {p : Addr} {v : Value} (hb : p.block < B) (hc : w.cell? p = some v) (x : Ext (EB B) w) : x.u.cell? p = some v := by
  rw [Below.cell x.h.1 hb]; exact hc
end Go.Proofs.YtndhhgpmpnmljaaGreatDoor
