/- The texts Ord Mem App OrdS, one behind the other. -/
import Derived.Deep.QuietTactic
import Derived.OrdersHeld
import Derived.StillTail
import Derived.WalkKit
import Derived.Lib.Strings
import Derived.Lib.Hide
namespace Go.Proofs.YtepoiefadjoabaaGreatDoor
open Go Go.RowKit
structure Ext (E : World → World → Prop) (w : World) where
 u : World
 h : E w u
section
variable {P : Program} {ops : Array Oper} {Q : Exit → Act → World → Prop} {md : Region.Mode} {E : World → World → Prop} {fin : Act → World → Prop}
def quietE (P : Program) (o : Oper) (a : Act) (E : World → World → Prop) (w : World) (next : Act → Prop) : Prop :=
 ∃ v,(∀ w2,(∃ x : Ext E w,w2 = x.u) → o.quietAt P a (fun w3 => ∃ y : Ext E w2,w3 = y.u) w2 v)∧next (a.put o.dst v)
def wpOrd (P : Program) (ops : Array Oper) (E : World → World → Prop) (Q : Exit → Act → World → Prop) (fin : Act → World → Prop) : List (Nat × Bool) → Act → World → Prop
 | [],a,w => ∀ x : Ext E w,fin a x.u
 | (i,late) :: rest,a,w => match ops[i]? with
  | none => False
  | some o => if Region.wanted o (yielded ops a.tmps) then
    (if late then ∀ x : Ext E w,o.wp P a x.u (fun a' w' => E x.u w'∧wpOrd P ops E Q fin rest a' w') Q else quietE P o a E w (fun a' => wpOrd P ops E Q fin rest a' w))
   else wpOrd P ops E Q fin rest (a.put o.dst undef) w
def waits (md : Region.Mode) (ops : Array Oper) : Nat → Nat → Nat → Bool
 | 0,_,_ => false
 | f + 1,i,j => match ops[i]? with
  | some o => o.after.any fun e => Region.binds md e && (e.on == j || waits md ops f e.on j)
  | none => false
def tailB (md : Region.Mode) (ops : Array Oper) (i : Nat) : Bool :=
 (List.range ops.size).all fun j => j == i || waits md ops ops.size i j || waits md ops ops.size j i
def ClosedL (md : Region.Mode) (ops : Array Oper) (listed : Array Bool) : Prop :=
 ∀ (j : Nat) (oj : Oper),ops[j]? = some oj → listed.getD j false = true → ∀ e ∈ oj.after,Region.binds md e = true → listed.getD e.on false = true
theorem waits_listed {listed : Array Bool} (hc : ClosedL md ops listed) : ∀ (f i j : Nat), listed.getD i false = true → waits md ops f i j = true → listed.getD j false = true
 | 0,_,_,_,h => by cases h
 | f + 1,i,j,hi,h => by
  unfold waits at h
  split at h
  ·rename_i o ho
   obtain ⟨e,he,hb⟩:=Array.any_eq_true'.1 h
   simp only [Bool.and_eq_true,Bool.or_eq_true,beq_iff_eq] at hb
   have hon:=hc i o ho hi e he hb.1
   rcases hb.2 with h1 | h1
   ·rw [← h1];exact hon
   ·exact waits_listed hc f e.on j hon h1
  ·cases h
theorem waits_ready {listed : Array Bool} (hc : ClosedL md ops listed) {f i j : Nat} (hi : i ∈ Region.ready md ops listed) (h : waits md ops f i j = true) : listed.getD j false = true := by
 obtain ⟨_,oi,hoi,hall⟩:=mem_ready.1 hi
 cases f with
 | zero => cases h
 | succ f =>
  unfold waits at h
  simp only [hoi] at h
  obtain ⟨e,he,hb⟩:=Array.any_eq_true'.1 h
  simp only [Bool.and_eq_true,Bool.or_eq_true,beq_iff_eq] at hb
  have hon:=hall e he hb.1
  rcases hb.2 with h1 | h1
  ·rw [← h1];exact hon
  ·exact waits_listed hc f e.on j hon h1
theorem closedL_set {listed : Array Bool} (hc : ClosedL md ops listed) {i : Nat} (hi : i ∈ Region.ready md ops listed) : ClosedL md ops (listed.setIfInBounds i true) := by
 obtain ⟨_,oi,hoi,hall⟩:=mem_ready.1 hi
 intro j oj hj hl e he hb
 by_cases hij : i = j
 ·subst hij
  have : oj = oi:=Option.some.inj (hj.symm.trans hoi)
  subst this
  exact getD_set_true (hall e he hb)
 ·rw [getD_set_ne false hij] at hl
  exact getD_set_true (hc j oj hj hl e he hb)
theorem tail_excludes {listed : Array Bool} (hc : ClosedL md ops listed) {i j : Nat} (hi : i ∈ Region.ready md ops listed) (hj : j ∈ Region.ready md ops listed) (hji : j ≠ i) (ht : tailB md ops j = true) : False := by
 obtain ⟨hui,oi,hoi,_⟩:=mem_ready.1 hi
 obtain ⟨huj,oj,hoj,_⟩:=mem_ready.1 hj
 have h1:=List.all_eq_true.1 ht i (List.mem_range.2 (Array.getElem?_eq_some_iff.1 hoi).1)
 simp only [Bool.or_eq_true,beq_iff_eq] at h1
 rcases h1 with (h1 | h1) | h1
 ·exact hji h1.symm
 ·have:=waits_ready hc hj h1;rw [getD_both hui] at this;cases this
 ·have:=waits_ready hc hi h1;rw [getD_both huj] at this;cases this
def wpAnyE (P : Program) (md : Region.Mode) (ops : Array Oper) (Q : Exit → Act → World → Prop) (E : World → World → Prop) : Nat → Array Bool → Act → World → Prop
 | 0,listed,a,w => Region.ready md ops listed = []∧∀ x : Ext E w,Q .normal a x.u
 | fuel + 1,listed,a,w =>
  (Region.ready md ops listed = [] → ∀ x : Ext E w,Q .normal a x.u) ∧
  ∀ i ∈ Region.ready md ops listed,∀ x : Ext E w,wpOp P ops Q i (fun a' w' => (E x.u w'∧wpAnyE P md ops Q E fuel (listed.setIfInBounds i true) a' w') ∨ (tailB md ops i = true∧wpAny P md ops Q fuel (listed.setIfInBounds i true) a' w')) a x.u
theorem wpAny_of_E (hr : ∀ w, E w w) : ∀ (fuel : Nat) (listed : Array Bool) (a : Act) (w : World), wpAnyE P md ops Q E fuel listed a w → wpAny P md ops Q fuel listed a w
 | 0,_,_,w,h => ⟨h.1,h.2 ⟨w,hr w⟩⟩
 | fuel + 1,_,_,w,h => ⟨fun h0 => h.1 h0 ⟨w,hr w⟩,fun i hi => wpOp_mono (fun a' w' h' => h'.elim (fun h' => wpAny_of_E hr fuel _ a' w' h'.2) (fun h' => h'.2)) (h.2 i hi ⟨w,hr w⟩)⟩
theorem wpAnyE_later (ht : ∀ a b c, E a b → E b c → E a c) {fuel : Nat} {listed : Array Bool} {a : Act} {w w' : World} (hw : E w w') (h : wpAnyE P md ops Q E fuel listed a w) : wpAnyE P md ops Q E fuel listed a w' := by
 cases fuel with
 | zero => exact ⟨h.1,fun x => h.2 ⟨x.u,ht _ _ _ hw x.h⟩⟩
 | succ fuel => exact ⟨fun h0 x => h.1 h0 ⟨x.u,ht _ _ _ hw x.h⟩,fun i hi x => h.2 i hi ⟨x.u,ht _ _ _ hw x.h⟩⟩
def YieldsE (P : Program) (ops : Array Oper) (E : World → World → Prop) (o : Oper) (v : Value) (a : Act) (w : World) : Prop :=
 (Region.wanted o (yielded ops a.tmps) = true∧∀ w2,(∃ x : Ext E w,w2 = x.u) → o.quietAt P a (fun w3 => ∃ y : Ext E w2,w3 = y.u) w2 v) ∨
 (Region.wanted o (yielded ops a.tmps) = false∧v = undef)
theorem YieldsE.later (ht : ∀ a b c, E a b → E b c → E a c) {o : Oper} {v : Value} {a : Act} {w w' : World} (hw : E w w') (h : YieldsE P ops E o v a w) : YieldsE P ops E o v a w' :=
 h.imp (fun ⟨h1,h2⟩ => ⟨h1,fun w2 ⟨x,hx⟩ => h2 w2 ⟨⟨x.u,ht _ _ _ hw x.h⟩,hx⟩⟩) id
theorem YieldsE.of_same {o : Oper} {v : Value} {a a' : Act} {w : World} (hy : YieldsE P ops E o v a w) (he : execOp a'.eval o = execOp a.eval o)
  (hw : Region.wanted o (yielded ops a'.tmps) = Region.wanted o (yielded ops a.tmps)) : YieldsE P ops E o v a' w:=by
 unfold YieldsE Oper.quietAt at *
 rw [he,hw]
 exact hy
theorem wp_of_quietAt {o : Oper} {v : Value} {a : Act} {w : World} {K : Act → World → Prop} (hr : E w w) (h : o.quietAt P a (fun w3 => ∃ y : Ext E w, w3 = y.u) w v) (hk : ∀ w3, E w w3 → K (a.put o.dst v) w3) : o.wp P a w K Q := by
 unfold Oper.quietAt at h
 unfold Oper.wp
 generalize (execOp a.eval o).run P w = r at *
 cases r with
 | ok n w' =>
  cases n <;> simp only [Oper.quietUpon] at h <;> simp only [Oper.upon]
  case value u =>
   obtain ⟨e1,e2⟩:=h
   rw [e1,e2]
   exact hk _ hr
  case skip =>
   obtain ⟨e1,e2⟩:=h
   rw [e1,← e2]
   exact hk _ hr
  case enter f args =>
   obtain ⟨e1,hc⟩:=h
   rw [e1]
   exact hc.mono fun e w'' ⟨he,y,hy⟩ => by subst he;subst hy;exact hk _ y.h
 | halt x w' => simp only [Oper.quietUpon] at h
theorem YieldsE.wpOp {i : Nat} {o : Oper} {v : Value} {a : Act} {w : World} (hr : E w w) (hi : ops[i]? = some o) (hy : YieldsE P ops E o v a w)
  {K : Act → World → Prop} (h : ∀ w3,E w w3 → K (a.put o.dst v) w3) : wpOp P ops Q i K a w:=by
 unfold Go.wpOp
 simp only [hi]
 rcases hy with ⟨hw,hv⟩ | ⟨hw,rfl⟩
 ·simp only [hw,if_true];exact .inl (wp_of_quietAt hr (hv w ⟨⟨w,hr⟩,rfl⟩) h)
 ·simp only [hw,Bool.false_eq_true,if_false];exact h _ hr
theorem wpOp_putE {j : Nat} {oi oj : Oper} {v : Value} (hj : ops[j]? = some oj) (hap : oi.apart ops oj = true)
  (hsi : ∀ cs b,oi.op ≠ .select cs b) (hsj : ∀ cs b,oj.op ≠ .select cs b)
  (hQ : ∀ d v c a w,Q (.panic c) (a.put d v) w → Q (.panic c) a w) {K : Act → World → Prop} {a : Act} {w wb : World}
  (hy : YieldsE P ops E oi v a wb) (h : wpOp P ops Q j K (a.put oi.dst v) w) :
  wpOp P ops Q j (fun a' w' => YieldsE P ops E oi v a' wb∧K (a'.put oi.dst v) w') a w:=by
 obtain ⟨h1,h2,h3⟩:=Oper.apart_spec hap
 have keep : ∀ (a : Act),YieldsE P ops E oi v a wb → ∀ u,YieldsE P ops E oi v (a.put oj.dst u) wb:=fun a hy u =>
  hy.of_same (execOp_put oi hsi a oj.dst u h3) (wanted_put oi a oj.dst u h3)
 have keepD : ∀ d,YieldsE P ops E oi v { a with defers:=d :: a.defers } wb:=fun d => hy.of_same rfl rfl
 unfold wpOp at *
 simp only [hj] at *
 rw [wanted_put oj a oi.dst v h1] at h
 split
 ·rename_i hw
  simp only [hw,if_true] at h
  rcases h with h | ⟨hasks,hlets⟩
  case inr => exact .inr ⟨by unfold Oper.asks at *;rw [execOp_put oj hsj a oi.dst v h1] at hasks;exact hasks,hlets⟩
  refine .inl ?_
  unfold Oper.wp at *
  rw [execOp_put oj hsj a oi.dst v h1] at h
  generalize (execOp a.eval oj).run P w = r at *
  cases r with
  | ok n w' =>
   cases n <;> simp only [Oper.upon] at h ⊢
   case value u => exact ⟨keep a hy u,by rw [← Act.put_comm a v u h2];exact h⟩
   case skip => exact ⟨keep a hy _,by rw [← Act.put_comm a v undef h2];exact h⟩
   case defer d =>
    refine ⟨keep _ (keepD d) _, ?_⟩
    rw [← Act.put_comm _ v undef h2,← Act.put_defers]
    exact h
   case enter f args =>
    refine Calls.mono h fun e w'' he => ?_
    cases e with
    | returned u => exact ⟨keep a hy u,by rw [← Act.put_comm a v u h2];exact he⟩
    | panicked c => exact hQ _ _ _ _ _ he
    | outgrown => exact he
   case row row args => exact Rows.mono h fun u w'' he => ⟨keep a hy u,by rw [← Act.put_comm a v u h2];exact he⟩
  | halt x w' =>
   cases x <;> simp only [Oper.upon] at h ⊢
   case panic u => exact hQ _ _ _ _ _ h
 ·rename_i hw
  simp only [hw] at h
  exact ⟨keep a hy _,by rw [← Act.put_comm a v undef h2];exact h⟩
theorem wpAnyE_first (hr : ∀ w, E w w) (ht : ∀ a b c, E a b → E b c → E a c) {i : Nat} {oi : Oper} {v : Value} (hi : ops[i]? = some oi) (hsel : ∀ (j : Nat) (o : Oper) cs b, ops[j]? = some o → o.op ≠ .select cs b)
  (hQ : ∀ d v c a w,Q (.panic c) (a.put d v) w → Q (.panic c) a w) :
  ∀ (fuel : Nat) (listed : Array Bool) (a : Act) (w : World),ClosedL md ops listed →
   (∀ j oj,ops[j]? = some oj → j ≠ i → listed.getD j true = false → (∀ e ∈ oj.after,Region.binds md e = true → e.on ≠ i) → oi.apart ops oj = true) →
   i ∈ Region.ready md ops listed → YieldsE P ops E oi v a w →
   wpAnyE P md ops Q E fuel (listed.setIfInBounds i true) (a.put oi.dst v) w → wpAnyE P md ops Q E (fuel + 1) listed a w:=by
 intro fuel
 induction fuel with
 | zero =>
  intro listed a w _ _ hrd hy H
  refine ⟨fun h => (by rw [h] at hrd;cases hrd),fun j hj x => ?_⟩
  by_cases hji : j = i
  ·subst hji;exact (hy.later ht x.h).wpOp (hr _) hi (fun w3 h3 => .inl ⟨h3,wpAnyE_later ht (ht _ _ _ x.h h3) H⟩)
  ·have:=ready_mono hj hji
   rw [H.1] at this
   cases this
 | succ fuel ih =>
  intro listed a w hcl hfree hrd hy H
  refine ⟨fun h => (by rw [h] at hrd;cases hrd),fun j hj x => ?_⟩
  by_cases hji : j = i
  ·subst hji;exact (hy.later ht x.h).wpOp (hr _) hi (fun w3 h3 => .inl ⟨h3,wpAnyE_later ht (ht _ _ _ x.h h3) H⟩)
  ·have h1:=H.2 j (ready_mono hj hji) x
   obtain ⟨hjun,oj,hoj,hall⟩:=mem_ready.1 hj
   have hnot : ∀ e ∈ oj.after,Region.binds md e = true → e.on ≠ i:=fun e he hb heq => by
    have h1:=hall e he hb
    have h0:=(mem_ready.1 hrd).1
    rw [heq] at h1
    rcases Nat.lt_or_ge i listed.size with h' | h'
    ·simp [h'] at h0 h1;rw [h0] at h1;cases h1
    ·simp [Array.getElem?_eq_none h'] at h1
   have h2:=wpOp_putE hoj (hfree j oj hoj hji hjun hnot) (fun cs b => hsel i oi cs b hi) (fun cs b => hsel j oj cs b hoj) hQ hy h1
   have hfree' : ∀ k ok,ops[k]? = some ok → k ≠ i → (listed.setIfInBounds j true).getD k true = false →
     (∀ e ∈ ok.after,Region.binds md e = true → e.on ≠ i) → oi.apart ops ok = true:=fun k ok hk hki hun hno => by
    refine hfree k ok hk hki ?_ hno
    by_cases hjk : j = k
    ·subst hjk;exact hjun
    ·rw [getD_set_ne true hjk] at hun;exact hun
   refine wpOp_mono (fun a' w' h3 => ?_) h2
   rcases h3.2 with h4 | h4
   ·refine .inl ⟨h4.1,ih (listed.setIfInBounds j true) a' w' (closedL_set hcl hj) hfree' (ready_mono hrd (Ne.symm hji)) (h3.1.later ht (ht _ _ _ x.h h4.1)) ?_⟩
    rw [Array.setIfInBounds_comm _ _ hji]
    exact h4.2
   ·exact (tail_excludes hcl hrd hj hji h4.1).elim
def ordB (md : Region.Mode) (ops : Array Oper) (g k : Nat) : List (Nat × Bool) → Array Bool → Bool
 | [],listed => Region.seqB md ops g k listed
 | (i,false) :: rest,listed => (Region.ready md ops listed).contains i && Region.free md ops listed i && ordB md ops g k rest (listed.setIfInBounds i true)
 | (i,true) :: rest,listed => decide (Region.ready md ops listed = [i]) && ordB md ops g k rest (listed.setIfInBounds i true)
theorem wpAnyE_of_ord (hr : ∀ w, E w w) (ht : ∀ a b c, E a b → E b c → E a c) (hs : Region.noSelect ops = true)
  (hQ : ∀ d v c a w,Q (.panic c) (a.put d v) w → Q (.panic c) a w) {g k : Nat}
  (hfin : ∀ listed a w,Region.seqB md ops g k listed = true → (∀ x : Ext E w,fin a x.u) → wpAnyE P md ops Q E g listed a w) :
  ∀ (l : List (Nat × Bool)) (listed : Array Bool) (a : Act) (w : World),ClosedL md ops listed → ordB md ops g k l listed = true → wpOrd P ops E Q fin l a w → wpAnyE P md ops Q E (l.length + g) listed a w
 | [],listed,a,w,_,hB,h => by rw [List.length_nil,Nat.zero_add];exact hfin listed a w hB h
 | (i,false) :: rest,listed,a,w,hcl,hB,h => by
  simp only [ordB,Bool.and_eq_true] at hB
  obtain ⟨⟨hrd,hf⟩,hB'⟩:=hB
  have hrd' : i ∈ Region.ready md ops listed:=by simpa using hrd
  unfold wpOrd at h
  rw [List.length_cons,show rest.length + 1 + g = (rest.length + g) + 1 by omega]
  split at h
  ·exact h.elim
  ·rename_i o ho
   split at h
   ·rename_i hw
    simp only [Bool.false_eq_true,if_false] at h
    obtain ⟨v,hv,hk⟩:=h
    exact wpAnyE_first hr ht ho (Region.noSelect_spec hs) hQ _ listed a w hcl (Region.free_spec ho hf) hrd' (.inl ⟨hw,hv⟩) (wpAnyE_of_ord hr ht hs hQ hfin rest _ _ _ (closedL_set hcl hrd') hB' hk)
   ·rename_i hw
    exact wpAnyE_first hr ht ho (Region.noSelect_spec hs) hQ _ listed a w hcl (Region.free_spec ho hf) hrd' (.inr ⟨by simpa using hw,rfl⟩) (wpAnyE_of_ord hr ht hs hQ hfin rest _ _ _ (closedL_set hcl hrd') hB' h)
 | (i,true) :: rest,listed,a,w,hcl,hB,h => by
  simp only [ordB,Bool.and_eq_true,decide_eq_true_eq] at hB
  obtain ⟨hrd,hB'⟩:=hB
  rw [List.length_cons,show rest.length + 1 + g = (rest.length + g) + 1 by omega]
  refine ⟨fun h0 => (by rw [h0] at hrd;cases hrd),fun j hj x => ?_⟩
  have hj0:=hj
  rw [hrd] at hj
  have hji : j = i:=by simpa using hj
  subst hji
  unfold wpOrd at h
  unfold wpOp
  split at h
  ·exact h.elim
  ·rename_i o ho
   simp only [ho]
   split at h
   ·rename_i hw
    simp only [hw,if_true] at h ⊢
    exact .inl (Oper.wp_mono (fun a' w' h' => .inl ⟨h'.1,wpAnyE_of_ord hr ht hs hQ hfin rest _ _ _ (closedL_set hcl hj0) hB' h'.2⟩) (h x))
   ·rename_i hw
    simp only [hw] at ⊢
    exact .inl ⟨hr _,wpAnyE_later ht x.h (wpAnyE_of_ord hr ht hs hQ hfin rest _ _ _ (closedL_set hcl hj0) hB' h)⟩
def ordAllB (ops : Array Oper) (l : List (Nat × Bool)) : Bool :=
 Region.noSelect ops && decide (l.length = ops.size) && ordB .any ops 0 0 l (Array.replicate ops.size false)
def ordTailB (ops : Array Oper) (k : Nat) (l : List (Nat × Bool)) : Bool :=
 Region.noSelect ops && decide (l.length = k) && decide (k < ops.size) && tailB .any ops k && ordB .any ops (ops.size - k) k l (Array.replicate ops.size false)
theorem closedL_none (md : Region.Mode) (ops : Array Oper) : ClosedL md ops (Array.replicate ops.size false) := fun j oj _ hl => by rw [getD_replicate_false] at hl; cases hl
theorem wp_region_ord (E : World → World → Prop) (l : List (Nat × Bool)) {id : Nat} {a : Act} {w : World} (hr : ∀ w, E w w) (ht : ∀ a b c, E a b → E b c → E a c)
  (hm : P.follows .mixedOrders = true) (hB : ordAllB ops l = true)
  (hQ : ∀ d v c a w,Q (.panic c) (a.put d v) w → Q (.panic c) a w) (h : wpOrd P ops E Q (Q .normal) l a w.drew) : (Code.region id ops true).wp P Q a w:=by
 simp only [ordAllB,Bool.and_eq_true,decide_eq_true_eq] at hB
 obtain ⟨⟨hs,hl⟩,hB⟩:=hB
 have:=wpAnyE_of_ord (md:=.any) (g:=0) (k:=0) hr ht hs hQ (fun listed a w hB h => ⟨by simpa [Region.seqB] using hB,h⟩) l _ a w.drew (closedL_none _ _) hB h
 rw [Nat.add_zero,hl] at this
 exact wp_region_any hm (wpAny_of_E hr _ _ _ _ this)
theorem wp_region_tail (E : World → World → Prop) (k : Nat) (l : List (Nat × Bool)) {id : Nat} {L : List Oper} {a : Act} {w : World} (hr : ∀ w, E w w) (ht : ∀ a b c, E a b → E b c → E a c)
  (hm : P.follows .mixedOrders = true) (hB : ordTailB L.toArray k l = true)
  (hQ : ∀ d v c a w,Q (.panic c) (a.put d v) w → Q (.panic c) a w) (h : wpOrd P L.toArray E Q (wpList P L.toArray Q (L.drop k)) l a w.drew) : (Code.region id L.toArray true).wp P Q a w:=by
 simp only [ordTailB,Bool.and_eq_true,decide_eq_true_eq] at hB
 obtain ⟨⟨⟨⟨hs,hl⟩,hk⟩,htl⟩,hB⟩:=hB
 have hdl : (L.drop k).length = L.toArray.size - k:=by simp
 have:=wpAnyE_of_ord (P:=P) (Q:=Q) (md:=.any) (ops:=L.toArray) (fin:=wpList P L.toArray Q (L.drop k)) (g:=L.toArray.size - k) (k:=k) hr ht hs hQ (fun listed a w hB h => by
  obtain ⟨g,hg⟩ : ∃ g,L.toArray.size - k = g + 1:=⟨L.toArray.size - k - 1,by omega⟩
  have hrd : Region.ready .any L.toArray listed = [k]:=by
   rw [hg] at hB;simp only [Region.seqB,Bool.and_eq_true,decide_eq_true_eq] at hB;exact hB.1
  have hall:=fun x : Ext E w => wpAny_of_seq (md:=.any) (Q':=Q) (L.drop k) k listed a x.u (fun j => by simp [List.getElem?_drop]) (by rw [hdl];exact hB) (h x)
  rw [hg]
  refine ⟨fun h0 => (by rw [h0] at hrd;cases hrd),fun j hj x => ?_⟩
  have h1:=hall x
  rw [hdl,hg] at h1
  have hjk : j = k:=by rw [hrd] at hj;simpa using hj
  subst hjk
  exact wpOp_mono (fun a' w' h' => .inr ⟨htl,h'⟩) (h1.2 j hj)) l _ a w.drew (closedL_none _ _) hB h
 rw [hl,show k + (L.toArray.size - k) = L.toArray.size by omega] at this
 exact wp_region_any hm (wpAny_of_E hr _ _ _ _ this)
theorem ord_quiet {i : Nat} {rest : List (Nat × Bool)} {a : Act} {w : World} {o : Oper} (ho : ops[i]? = some o)
  (h : ∀ K : Act → Prop,(∀ a,wpOrd P ops E Q fin rest a w → K a) → if Region.wanted o (yielded ops a.tmps) then quietE P o a E w K else K (a.put o.dst undef)) : wpOrd P ops E Q fin ((i,false) :: rest) a w:=by
 unfold wpOrd
 simp only [ho]
 exact h _ (fun _ h => h)
theorem ord_late {i : Nat} {rest : List (Nat × Bool)} {a : Act} {w : World} {o : Oper} (ho : ops[i]? = some o)
  (h : ∀ K : Act → World → Prop,(∀ a w,wpOrd P ops E Q fin rest a w → K a w) → if Region.wanted o (yielded ops a.tmps) then ∀ x : Ext E w,o.wp P a x.u (fun a' w' => E x.u w'∧K a' w') Q else K (a.put o.dst undef) w) : wpOrd P ops E Q fin ((i,true) :: rest) a w:=by
 unfold wpOrd
 simp only [ho]
 exact h _ (fun _ _ h => h)
theorem ord_late_w {i : Nat} {rest : List (Nat × Bool)} {a : Act} {w : World} {o : Oper} (ho : ops[i]? = some o) (hw : Region.wanted o (yielded ops a.tmps) = true)
  (h : ∀ K : Act → World → Prop,(∀ a w,wpOrd P ops E Q fin rest a w → K a w) → ∀ w2,E w w2 → o.wp P a w2 (fun a' w' => E w2 w'∧K a' w') Q) : wpOrd P ops E Q fin ((i,true) :: rest) a w :=
 ord_late ho fun K hK => by rw [if_pos hw];exact fun x => h K hK x.u x.h
theorem ord_end {a : Act} {w : World} (h : ∀ w2, E w w2 → fin a w2) : wpOrd P ops E Q fin [] a w := fun x => h x.u x.h
end
def Grows (w w' : World) : Prop := Below w.heap.size w w'
theorem Grows.refl (w : World) : Grows w w := Below.refl _ _
instance (w : World) : Nonempty (Ext Grows w) := ⟨⟨w, Grows.refl w⟩⟩
theorem Grows.trans (a b c : World) (h : Grows a b) (k : Grows b c) : Grows a c := Below.trans h (Below.mono k h.size)
theorem Grows.cell {w w' : World} (h : Grows w w') {p : Addr} {v : Value} (hc : w.cell? p = some v) : w'.cell? p = some v :=
 (Below.cell h (World.block_lt_of_cell? w _ hc)).trans hc
theorem Grows.size {w w' : World} (h : Grows w w') : w.heap.size ≤ w'.heap.size := Below.size h
theorem Grows.alloc (w : World) (o : Obj) : Grows w (w.alloc o) := (Below.refl _ _).alloc (Nat.le_refl _) _
theorem Grows.drew (w : World) : Grows w w.drew := (Below.refl _ _).drew
theorem ext_cell {w : World} {p : Addr} {v : Value} (hc : w.cell? p = some v) (x : Ext Grows w) : x.u.cell? p = some v := x.h.cell hc
theorem cell_box (w : World) (cs : Array Value) (t : TypeId) (fr : Nat × Nat) (j : Nat) (v : Value) (h : cs[j]? = some v) : (w.alloc (.cells cs t fr)).cell? ⟨w.heap.size, j, none⟩ = some v := by
 have hh : (w.alloc (.cells cs t fr)).heap[w.heap.size]? = some (.cells cs t fr):=by
  show (w.heap.push _)[w.heap.size]? = _
  simp
 unfold World.cell?
 simp only [hh,Option.isSome_none,Bool.false_eq_true,if_false,h]
end Go.Proofs.YtepoiefadjoabaaGreatDoor
namespace Go.Proofs.YtepoiefadjoabaaGreatDoor
open Go Go.RowKit
theorem Grows.tr {a b c : World} (h : Grows a b) (k : Grows b c) : Grows a c := Grows.trans _ _ _ h k
theorem Grows.al {a b : World} (h : Grows a b) (o : Obj) : Grows a (b.alloc o) := h.tr (Grows.alloc _ _)
theorem Grows.dr {a b : World} (h : Grows a b) : Grows a b.drew := h.tr (Grows.drew _)
theorem Grows.set {a b : World} (h : Grows a b) {p : Addr} (hp : a.heap.size ≤ p.block) (v : Value) : Grows a (b.setCell p v) := Below.setCell h hp v
theorem Grows.froz {w w' : World} (h : Grows w w') {p : Addr} (hb : p.block < w.heap.size) : w'.frozen? p = w.frozen? p := Below.frozen h hb
def seq (x y : ByteArray) : Bool := x.toList == y.toList
theorem seq_iff {x y : ByteArray} : seq x y = true ↔ x = y := by
 unfold seq
 rw [Lib.toList_data,Lib.toList_data,beq_iff_eq]
 constructor
 ·intro h
  have:=congrArg (fun l => (⟨l.toArray⟩ : ByteArray)) h
  rwa [Lib.mk_data,Lib.mk_data] at this
 ·rintro rfl;rfl
theorem seq_false {x y : ByteArray} : seq x y = false ↔ x ≠ y := by
 rw [Ne,← seq_iff (x:=x) (y:=y)];simp
def AtCells (w : World) (a : Option Addr) (k : Nat) (rows : List (List Value)) : Prop :=
 rows ≠ [] → ∃ b off,a = some ⟨b,off,none⟩∧∀ (i : Nat) (row : List Value),rows[i]? = some row → ∀ (j : Nat) (v : Value),row[j]? = some v → w.cell? ⟨b,off + i * k + j,none⟩ = some v
theorem AtCells.grows {w w' : World} {a : Option Addr} {k : Nat} {rows : List (List Value)} (h : AtCells w a k rows) (hg : Grows w w') : AtCells w' a k rows := fun hn => by
 obtain ⟨b,off,ha,hc⟩:=h hn
 exact ⟨b,off,ha,fun i row hi j v hj => hg.cell (hc i row hi j v hj)⟩
theorem AtCells.nil (w : World) (a : Option Addr) (k : Nat) : AtCells w a k [] := fun h => absurd rfl h
theorem AtCells.get {α : Type} {w : World} {a : Option Addr} {k : Nat} {xs : List α} {enc : α → List Value} (h : AtCells w a k (xs.map enc)) (hn : xs ≠ []) :
  ∃ b off,a = some ⟨b,off,none⟩∧∀ (i : Nat) (x : α),xs[i]? = some x → ∀ (j : Nat) (v : Value),(enc x)[j]? = some v → w.cell? ⟨b,off + i * k + j,none⟩ = some v:=by
 obtain ⟨b,off,ha,hc⟩:=h (by simpa using hn)
 exact ⟨b,off,ha,fun i x hi j v hj => hc i (enc x) (by simp [hi]) j v hj⟩
theorem ne_nil_of_lt {α : Type} {xs : List α} {k : Nat} (h : k < xs.length) : xs ≠ [] := by rintro rfl; simp at h
theorem ret_int {k : IntKind} {a b : Int} (h : a = b) : Ending.returned (.int k a) = .returned (.int k b) := by rw [h]
theorem ret_bool {a b : Bool} (h : a = b) : Ending.returned (.bool a) = .returned (.bool b) := by rw [h]
structure PosV where
 name : ByteArray
 kind : Int
def posCells (p : PosV) : List Value := [.string p.name, .int .i64 p.kind]
def findAt (name : ByteArray) : List PosV → Nat → Option Nat
 | [],_ => none
 | p :: l,i => if seq p.name name then some i else findAt name l (i + 1)
def posFind (l : List PosV) (name : ByteArray) : Option Nat := findAt name l 0
theorem findAt_drop (name : ByteArray) : ∀ (l : List PosV) (i k : Nat), (∀ j p, j < k → l[j]? = some p → seq p.name name = false) → findAt name l i = findAt name (l.drop k) (i + k)
 | [],i,k,_ => by simp [findAt]
 | p :: l,i,0,_ => by simp
 | p :: l,i,k + 1,h => by
  have h0 : seq p.name name = false:=h 0 p (by omega) rfl
  rw [findAt,h0,List.drop_succ_cons]
  simp only [Bool.false_eq_true,if_false]
  rw [findAt_drop name l (i + 1) k fun j q hj hq => h (j + 1) q (by omega) (by simpa using hq)]
  congr 1;omega
theorem posFind_hit {l : List PosV} {name : ByteArray} {k : Nat} {p : PosV} (hk : l[k]? = some p) (h : ∀ j q, j < k → l[j]? = some q → seq q.name name = false) (hp : seq p.name name = true) : posFind l name = some k := by
 have hlt : k < l.length:=(List.getElem?_eq_some_iff.1 hk).1
 have hp' : l[k] = p:=(List.getElem?_eq_some_iff.1 hk).2
 rw [posFind,findAt_drop name l 0 k h,List.drop_eq_getElem_cons hlt,findAt,hp',hp]
 simp
theorem posFind_none {l : List PosV} {name : ByteArray} (h : ∀ j q, j < l.length → l[j]? = some q → seq q.name name = false) : posFind l name = none := by
 rw [posFind,findAt_drop name l 0 _ h];simp [findAt]
theorem ownsRow_grows {w w' : World} {base : Nat} {e : TypeId} {size : Nat} {v : Value} {n : Nat} {xs : List Value} (h : w.ownsRow base e size v n xs) (hg : Grows w w') : w'.ownsRow base e size v n xs := by
 obtain ⟨h1,h2⟩:=h
 refine ⟨h1, ?_⟩
 rcases h2 with h2 | ⟨g,cap,cur,hv,hb,hh,r⟩
 ·exact Or.inl h2
 ·exact Or.inr ⟨g,cap,cur,hv,hb,by rw [hg.block g (Array.getElem?_eq_some_iff.1 hh).1];exact hh,r⟩
theorem ownsRow_base {w : World} {base base' : Nat} {e : TypeId} {size : Nat} {v : Value} {n : Nat} {xs : List Value} (h : w.ownsRow base e size v n xs) (hb : base' ≤ base) : w.ownsRow base' e size v n xs := by
 obtain ⟨h1,h2⟩:=h
 refine ⟨h1, ?_⟩
 rcases h2 with h2 | ⟨g,cap,cur,hv,hg,r⟩
 ·exact Or.inl h2
 ·exact Or.inr ⟨g,cap,cur,hv,Nat.le_trans hb hg,r⟩
theorem ownBlock_ge {w : World} {base : Nat} {e : TypeId} {size : Nat} {v : Value} {n : Nat} {xs : List Value} (h : w.ownsRow base e size v n xs) : ∀ k, v.ownBlock = some k → base ≤ k := by
 intro k hk
 rcases h.2 with ⟨rfl,_⟩ | ⟨g,cap,cur,rfl,hb,_⟩
 ·cases hk
 ·have : g = k:=Option.some.inj hk
  omega
theorem Grows.grown {a w w' : World} {row : Option Nat} (h : Grows a w) (hg : w.grownBy w' row) (hr : ∀ k, row = some k → a.heap.size ≤ k) : Grows a w' := Below.grown h hg h.size hr
theorem flat_get {α : Type} {enc : α → List Value} {k : Nat} (hk : ∀ x, (enc x).length = k) : ∀ (xs : List α) (i j : Nat) (x : α) (v : Value), xs[i]? = some x → (enc x)[j]? = some v → (xs.flatMap enc)[i * k + j]? = some v
 | [],i,j,x,v,h,_ => by simp at h
 | y :: r,0,j,x,v,h,hj => by
  obtain rfl : y = x:=by simpa using h
  have hlt : j < (enc y).length:=(List.getElem?_eq_some_iff.1 hj).1
  rw [List.flatMap_cons,Nat.zero_mul,Nat.zero_add,List.getElem?_append_left hlt];exact hj
 | y :: r,i + 1,j,x,v,h,hj => by
  rw [List.flatMap_cons,List.getElem?_append_right (by rw [hk,Nat.succ_mul];omega),hk,show (i + 1) * k + j - k = i * k + j by rw [Nat.succ_mul];omega]
  exact flat_get hk r i j x v (by simpa using h) hj
theorem flat_length {α : Type} {enc : α → List Value} {k : Nat} (hk : ∀ x, (enc x).length = k) : ∀ (xs : List α), (xs.flatMap enc).length = xs.length * k
 | [] => by simp
 | y :: r => by rw [List.flatMap_cons,List.length_append,hk,flat_length hk r,List.length_cons,Nat.succ_mul];omega
theorem ownsRow_at {α : Type} {enc : α → List Value} {k : Nat} (hk : ∀ x, (enc x).length = k) {w : World} {base : Nat} {e : TypeId} {v : Value} {xs : List α} (h : w.ownsRow base e k v xs.length (xs.flatMap enc)) :
  ∃ a cap,v = .slice a xs.length cap∧xs.length ≤ cap∧cap ≤ maxLen∧AtCells w a k (xs.map enc):=by
 rcases h.2 with ⟨rfl,h0⟩ | ⟨g,cap,cur,rfl,hb,hh,hn,hc,hs,ht⟩
 ·have : xs = []:=List.length_eq_zero_iff.1 h0
  subst this
  exact ⟨none,0,rfl,Nat.le_refl _,Nat.zero_le _,AtCells.nil _ _ _⟩
 ·refine ⟨_,cap,rfl,hn,hc,fun _ => ⟨g,0,rfl,fun i row hi j u hj => ?_⟩⟩
  rw [List.getElem?_map] at hi
  cases hx : xs[i]? with
  | none => rw [hx] at hi;cases hi
  | some x =>
   rw [hx] at hi
   obtain rfl:=Option.some.inj hi
   have hf:=flat_get hk xs i j x u hx hj
   rw [← ht,List.getElem?_take] at hf
   split at hf
   ·unfold World.cell?
    simp only [hh,Option.isSome_none,Bool.false_eq_true,if_false]
    rw [Nat.zero_add]
    simpa using hf
   ·cases hf
def bos : ByteArray := ⟨#[66, 79, 83]⟩
end Go.Proofs.YtepoiefadjoabaaGreatDoor
namespace Go.Proofs.YtepoiefadjoabaaGreatDoor
open Go Go.RowKit
structure ElemLay {α : Type} (P : Program) (t e : TypeId) (k bytes : Nat) (enc : α → List Value) : Prop where
 sl : P.underlying t = some (.slice e)
 info : ∃ i z,P.info? e = some i∧i.zero = some z∧i.size = k∧i.bytes = bytes∧z.cells.size = k
 pos : 0 < k
 by1 : 1 ≤ bytes
 len : ∀ x,(enc x).length = k
 one : ∀ x u,u ∈ enc x → u.oneCell' = true
theorem elem_info {P : Program} {e : TypeId} {z : Value} {k bytes : Nat} (h : (P.info? e).map (fun i => (i.zero, i.size, i.bytes)) = some (some z, k, bytes)) (hz : z.cells.size = k) :
  ∃ i z,P.info? e = some i∧i.zero = some z∧i.size = k∧i.bytes = bytes∧z.cells.size = k:=by
 cases hi : P.info? e with
 | none => rw [hi] at h;cases h
 | some i =>
  rw [hi] at h
  simp only [Option.map_some,Option.some.injEq,Prod.mk.injEq] at h
  exact ⟨i,z,rfl,h.1,h.2.1,h.2.2,hz⟩
def Owns {α : Type} (w : World) (base : Nat) (e : TypeId) (k : Nat) (enc : α → List Value) (v : Value) (xs : List α) : Prop := w.ownsRow base e k v xs.length (xs.flatMap enc)
theorem Owns.nil {α : Type} (w : World) (base : Nat) (e : TypeId) (k : Nat) (enc : α → List Value) : Owns w base e k enc (.slice none 0 0) [] := World.ownsRow_nil _ _ _ _
theorem Owns.grows {α : Type} {w w' : World} {base : Nat} {e : TypeId} {k : Nat} {enc : α → List Value} {v : Value} {xs : List α} (h : Owns w base e k enc v xs) (hg : Grows w w') : Owns w' base e k enc v xs := ownsRow_grows h hg
theorem Owns.base {α : Type} {w : World} {base base' : Nat} {e : TypeId} {k : Nat} {enc : α → List Value} {v : Value} {xs : List α} (h : Owns w base e k enc v xs) (hb : base' ≤ base) : Owns w base' e k enc v xs := ownsRow_base h hb
theorem Owns.at_ {α : Type} {enc : α → List Value} {k : Nat} (hk : ∀ x, (enc x).length = k) {w : World} {base : Nat} {e : TypeId} {v : Value} {xs : List α} (h : Owns w base e k enc v xs) :
  ∃ a cap,v = .slice a xs.length cap∧xs.length ≤ cap∧cap ≤ maxLen∧AtCells w a k (xs.map enc):=ownsRow_at hk h
theorem alloc_new_at {w : World} {cs : Array Value} {t : TypeId} {n : Nat} (hn : n = w.heap.size) (j : Nat) (u : Value) (hj : cs.toList[j]? = some u) : (w.alloc (.cells cs t)).cell? ((⟨n, 0, none⟩ : Addr).add j) = some u := by
 subst hn
 have h:=cell_box w cs t (0,0) j u (by simpa using hj)
 unfold Addr.add
 by_cases h0 : j = 0
 ·subst h0;simpa using h
 ·simp [h0,h]
theorem add_off {n j : Nat} : (⟨n, 0, none⟩ : Addr).add j = ⟨n, j, none⟩ := by
 unfold Addr.add
 by_cases h0 : j = 0
 ·subst h0;simp
 ·simp [h0]
theorem app_at {α : Type} {P : Program} {t e : TypeId} {k bytes : Nat} {enc : α → List Value} (L : ElemLay P t e k bytes enc) {ops : Array Oper} {rest : List Oper} {o : Oper} {a : Act} {Q : Exit → Act → World → Prop} {w W : World}
  (hgd : o.guard = none) (s x : Operand) (hop : o.op = .call { callee:=.builtin .append,args:=#[s,x],argTypes:=#[t,t] })
  (base : Nat) (v : Value) (xs : List α) (y : α) (hs : a.eval s = v) (hown : Owns w base e k enc v xs) (hgr : Grows w W) (n c : Nat) (hc : ∀ (j : Nat) (u : Value),(enc y)[j]? = some u → W.cell? ⟨n,j,none⟩ = some u)
  (hx : a.eval x = .slice (some ⟨n,0,none⟩) 1 c) (hlen : (xs.length + 1) * bytes ≤ 140737488355328) (hbase : base ≤ w.heap.size)
  (h : ∀ v' w',Owns w' base e k enc v' (xs ++ [y]) → (∀ a0,Grows a0 w → a0.heap.size ≤ base → Grows a0 w') → wpList P ops Q rest (a.put o.dst v') w') :
  wpList P ops Q (o :: rest) a W:=by
 obtain ⟨i,z,hi,hz,hsize,hby,hzs⟩:=L.info
 have hl1 : xs.length + 1 ≤ 140737488355328:=Nat.le_trans (Nat.le_mul_of_pos_right _ L.by1) hlen
 refine wpList_append_own _ hgd s x t hop base e i z k bytes L.sl hi hz hsize hby hzs L.pos v xs.length (xs.flatMap enc) hs (ownsRow_grows hown hgr) ⟨n,0,none⟩ 1 c (enc y) hx (by rw [L.len,Nat.one_mul])
  (fun j u hu => by rw [add_off];exact hc j u hu) (L.one y) (by unfold maxLen;omega) hlen (Nat.le_trans hbase hgr.size) ?_
 intro v' w' h1 h2 _
 refine h v' w' ?_ (fun a0 h0 hb => (h0.tr hgr).grown h2 (fun q hq => Nat.le_trans hb (ownBlock_ge hown q hq)))
 unfold Owns
 rw [List.length_append,List.length_singleton,List.flatMap_append]
 simpa using h1
theorem app_one {α : Type} {P : Program} {t e : TypeId} {k bytes : Nat} {enc : α → List Value} (L : ElemLay P t e k bytes enc) {ops : Array Oper} {rest : List Oper} {o : Oper} {a : Act} {Q : Exit → Act → World → Prop} {w W : World}
  (hgd : o.guard = none) (s x : Operand) (hop : o.op = .call { callee:=.builtin .append,args:=#[s,x],argTypes:=#[t,t] })
  (base : Nat) (v : Value) (xs : List α) (y : α) (hs : a.eval s = v) (hown : Owns w base e k enc v xs) (hgr : Grows w W) (n c : Nat) (hn : n = W.heap.size) (cs : Array Value) (hcs : cs.toList = enc y)
  (hx : a.eval x = .slice (some ⟨n,0,none⟩) 1 c) (hlen : (xs.length + 1) * bytes ≤ 140737488355328) (hbase : base ≤ w.heap.size)
  (h : ∀ v' w',Owns w' base e k enc v' (xs ++ [y]) → (∀ a0,Grows a0 w → a0.heap.size ≤ base → Grows a0 w') → wpList P ops Q rest (a.put o.dst v') w') :
  wpList P ops Q (o :: rest) a (W.alloc (.cells cs e)) :=
 app_at L hgd s x hop base v xs y hs hown (hgr.al _) n c (fun j u hu => by
  have:=alloc_new_at (w:=W) (cs:=cs) (t:=e) hn j u (by rw [hcs];exact hu)
  rw [add_off] at this;exact this) hx hlen hbase h
theorem box_in {w w' : World} {cs : Array Value} {t : TypeId} (hg : Grows (w.alloc (.cells cs t)) w') {l : List Value} (hl : cs.toList = l) : ∀ (j : Nat) (u : Value), l[j]? = some u → w'.cell? ⟨w.heap.size, j, none⟩ = some u := fun j u hu =>
 hg.cell (cell_box w cs t _ j u (by rw [← hl] at hu;simpa using hu))
end Go.Proofs.YtepoiefadjoabaaGreatDoor
namespace Go.Proofs.YtepoiefadjoabaaGreatDoor
open Go Go.RowKit
structure OrdS (P : Program) (ops : Array Oper) (E : World → World → Prop) (Q : Exit → Act → World → Prop) (fin : Act → World → Prop) (l : List (Nat × Bool)) (a : Act) (w : World) : Prop where
 out : wpOrd P ops E Q fin l a w
section
variable {P : Program} {ops : Array Oper} {Q : Exit → Act → World → Prop} {E : World → World → Prop} {fin : Act → World → Prop}
theorem s_region (E : World → World → Prop) (l : List (Nat × Bool)) {id : Nat} {a : Act} {w : World} (hr : ∀ w, E w w) (ht : ∀ a b c, E a b → E b c → E a c)
  (hm : P.follows .mixedOrders = true) (hB : ordAllB ops l = true)
  (hQ : ∀ d v c a w,Q (.panic c) (a.put d v) w → Q (.panic c) a w) (h : OrdS P ops E Q (Q .normal) l a w.drew) : (Code.region id ops true).wp P Q a w:=wp_region_ord E l hr ht hm hB hQ h.out
theorem s_quiet {i : Nat} {rest : List (Nat × Bool)} {a : Act} {w : World} {o : Oper} (ho : ops[i]? = some o)
  (h : ∀ K : Act → Prop,(∀ a,OrdS P ops E Q fin rest a w → K a) → if Region.wanted o (yielded ops a.tmps) then quietE P o a E w K else K (a.put o.dst undef)) : OrdS P ops E Q fin ((i,false) :: rest) a w :=
 ⟨ord_quiet ho fun K hK => h K fun a ha => hK a ha.out⟩
theorem s_late_w {i : Nat} {rest : List (Nat × Bool)} {a : Act} {w : World} {o : Oper} (ho : ops[i]? = some o) (hw : Region.wanted o (yielded ops a.tmps) = true)
  (h : ∀ K : Act → World → Prop,(∀ a w,OrdS P ops E Q fin rest a w → K a w) → ∀ w2,E w w2 → o.wp P a w2 (fun a' w' => E w2 w'∧K a' w') Q) : OrdS P ops E Q fin ((i,true) :: rest) a w :=
 ⟨ord_late_w ho hw fun K hK => h K fun a w ha => hK a w ha.out⟩
theorem s_end {a : Act} {w : World} (h : ∀ w2, E w w2 → fin a w2) : OrdS P ops E Q fin [] a w := ⟨ord_end h⟩
end
end Go.Proofs.YtepoiefadjoabaaGreatDoor
