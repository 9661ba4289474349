/- The texts Rnd, one behind the other. -/
import Derived.Test.YtepoiefadjoabaaGreatDoorH21
import Derived.RangeFuncBox
import Derived.RangeFuncNested
import Derived.RangeFuncLeaves
import Derived.RangeFuncCalls
import Derived.OrdersIn
import Derived.TacticsInMore
namespace Go.Proofs.YtepoiefadjoabaaGreatDoor
open Go Go.RowKit
section
variable {P : Program} {ops : Array Oper} {Q : Exit → Act → World → Prop} {md : Region.Mode} {E : World → World → Prop} {rl n : Nat}
def notDefer (o : Oper) : Bool := match o.op with | .defer _ => false | _ => true
theorem notDefer_spec {o : Oper} (h : notDefer o = true) : ∀ c, o.op ≠ .defer c := fun c hc => by
 unfold notDefer at h
 rw [hc] at h;cases h
theorem rows_round {row : String} {args : Array Value} {w : World} {R : Value → World → Prop} (h : Rows P row args w R) : RowsIn (Fence.wide.inRound rl) n P row args w R :=
 fun c cs _ => let ⟨v,w',r,s⟩:=h c cs;⟨v,w',r,stepsIn_wide.2 s⟩
theorem round_op {o : Oper} {a : Act} {w : World} {K : Act → World → Prop} (hnd : notDefer o = true) (h : o.wp P a w K Q) : o.wpIn (Fence.wide.inRound rl) n P a w K Q := by
 refine ⟨fun _ _ => trivial, ?_⟩
 rw [show (Fence.wide.inRound rl).round = some rl from rfl,Oper.semAt_some rl _ o (notDefer_spec hnd)]
 unfold Oper.wp at h
 generalize (execOp a.eval o).run P w = r at *
 cases r with
 | ok x w' =>
  cases x <;> simp only [Oper.upon] at h <;> simp only [Oper.uponIn]
  case value v => exact h
  case skip => exact h
  case defer d => exact h
  case enter f args => exact ⟨fun hd => (by cases hd),(callsIn_wide.2 h).inRound rl⟩
  case row row args => exact ⟨fun hd => (by cases hd),rows_round h⟩
 | halt x w' => cases x <;> simp only [Oper.upon] at h <;> simp only [Oper.uponIn];exact h
theorem round_list (hl : ¬ LetsOut Q) : ∀ (rest : List Oper) {a : Act} {w : World}, rest.all notDefer = true → wpList P ops Q rest a w → wpListIn (Fence.wide.inRound rl) n P ops Q rest a w
 | [],a,w,_,h => h
 | o :: rest,a,w,hn,h => by
  rw [List.all_cons,Bool.and_eq_true] at hn
  unfold wpList at h
  unfold wpListIn
  split
  ·rename_i hw
   simp only [hw,if_true] at h
   rcases h with h | ⟨_,h⟩
   ·exact round_op hn.1 (Oper.wp_mono (fun a' w' h' => round_list hl rest hn.2 h') h)
   ·exact (hl h).elim
  ·rename_i hw
   simp only [hw] at h
   exact ⟨fun _ _ => trivial,round_list hl rest hn.2 h⟩
theorem round_any (hl : ¬ LetsOut Q) (hn : ops.toList.all notDefer = true) : ∀ (fuel : Nat) (listed : Array Bool) (a : Act) (w : World), wpAny P md ops Q fuel listed a w → wpAnyIn (Fence.wide.inRound rl) n P md ops Q fuel listed a w
 | 0,_,_,_,h => h
 | fuel + 1,listed,a,w,h => by
  refine ⟨h.1,fun i hi => ?_⟩
  have h1:=h.2 i hi
  unfold wpOp at h1
  unfold wpOpIn
  cases ho : ops[i]? with
  | none => simp only [ho] at h1;exact round_any hl hn fuel _ a w h1
  | some o =>
   simp only [ho] at h1 ⊢
   have hno : notDefer o = true:=List.all_eq_true.1 hn o (by rw [← Array.getElem?_toList] at ho;exact List.mem_of_getElem? ho)
   split
   ·rename_i hw
    simp only [hw,if_true] at h1
    rcases h1 with h1 | ⟨_,h1⟩
    ·exact round_op hno (Oper.wp_mono (fun a' w' h' => round_any hl hn fuel _ a' w' h') h1)
    ·exact (hl h1).elim
   ·rename_i hw
    simp only [hw] at h1
    exact ⟨fun _ _ => trivial,round_any hl hn fuel _ _ w h1⟩
theorem r_list {id : Nat} {l : List Oper} {a : Act} {w : World} (hl : ¬ LetsOut Q) (hn : l.all notDefer = true) (h : wpList P l.toArray Q l a w) : (Code.region id l.toArray false).wpIn (Fence.wide.inRound rl) n P Q a w :=
 wpIn_region_lit (round_list hl l hn h)
theorem r_tail (E : World → World → Prop) (k : Nat) (l : List (Nat × Bool)) {id : Nat} {L : List Oper} {a : Act} {w : World} (hl : ¬ LetsOut Q) (hn : L.all notDefer = true) (hr : ∀ w, E w w) (ht : ∀ a b c, E a b → E b c → E a c)
  (hm : P.follows .mixedOrders = true) (hB : ordTailB L.toArray k l = true)
  (hQ : ∀ d v c a w,Q (.panic c) (a.put d v) w → Q (.panic c) a w) (h : OrdT P L.toArray E Q (wpList P L.toArray Q (L.drop k)) l a w.drew) : (Code.region id L.toArray true).wpIn (Fence.wide.inRound rl) n P Q a w:=by
 have h:=h.out
 simp only [ordTailB,Bool.and_eq_true,decide_eq_true_eq] at hB
 obtain ⟨⟨⟨⟨hs,hll⟩,hk⟩,htl⟩,hB⟩:=hB
 have hdl : (L.drop k).length = L.toArray.size - k:=by simp
 have:=wpAnyE_of_ord2 (P:=P) (Q:=Q) (md:=.any) (ops:=L.toArray) (fin:=wpList P L.toArray Q (L.drop k)) (g:=L.toArray.size - k) (k:=k) hr ht hs hQ (fun listed a w hB h => by
  obtain ⟨g,hg⟩ : ∃ g,L.toArray.size - k = g + 1:=⟨L.toArray.size - k - 1,by omega⟩
  have hrd : Region.ready .any L.toArray listed = [k]:=by
   rw [hg] at hB;simp only [Region.seqB,Bool.and_eq_true,decide_eq_true_eq] at hB;exact hB.1
  have hall:=wpAny_of_seq (md:=.any) (Q':=Q) (L.drop k) k listed a w (fun j => by simp [List.getElem?_drop]) (by rw [hdl];exact hB) h
  rw [hg]
  refine ⟨fun h0 => (by rw [h0] at hrd;cases hrd),fun j hj => ?_⟩
  have h1:=hall
  rw [hdl,hg] at h1
  have hjk : j = k:=by rw [hrd] at hj;simpa using hj
  subst hjk
  exact wpOp_mono (fun a' w' h' => .inr ⟨htl,h'⟩) (h1.2 j hj)) l _ a w.drew (closedL_none _ _) hB h
 rw [hll,show k + (L.toArray.size - k) = L.toArray.size by omega] at this
 exact wpIn_region_any hm (round_any hl (by simpa using hn) _ _ _ _ (wpAny_of_E2 _ _ _ _ this))
end
theorem in_wide {P : Program} (id n : Nat) {ops : Array Oper} {dr : Bool} {Q : Exit → Act → World → Prop} {a : Act} {w : World} (h : (Code.region id ops dr).wpIn Fence.wide n P Q a w) : (Code.region id ops dr).wp P Q a w := wpIn_wide.1 h
def marksOf (ds : List Nat) : List Deferred := ds.map fun D => { target := .collected D, args := #[] }
structure Marks (w : World) (lo : Nat) (ds : List Nat) : Prop where
 at_ : ∀ D ∈ ds,lo ≤ D∧w.heap[D]? = some (Obj.deferred (some []))
 nodup : ds.Nodup
theorem Marks.nil (w : World) (lo : Nat) : Marks w lo [] := ⟨fun _ h => by simp at h, List.nodup_nil⟩
theorem leaves_marks {P : Program} {n : Nat} {fn : Func} {tmps : Array Value} {R : Ending → World → Prop} {lo : Nat} : ∀ {ds : List Nat} {w : World}, Marks w lo ds →
  (∀ w',(∀ k,k < w.heap.size → k ∉ ds → w'.heap[k]? = w.heap[k]?) → w'.heap.size = w.heap.size → (w'.os = w.os∧w'.tape = w.tape∧w'.output = w.output) → ∃ v,(results fn tmps).run P w' = .ok v w'∧R (.returned v) w') → LeavesInM Fence.wide n P fn tmps R (marksOf ds) .returning w
 | [],w,_,h => h w (fun _ _ _ => rfl) rfl ⟨rfl,rfl,rfl⟩
 | D :: ds,w,hm,h => by
  obtain ⟨h1,h2⟩:=hm.at_ D (by simp)
  have hnd:=List.nodup_cons.1 hm.nodup
  refine ⟨by simp,.inl ⟨D,_,rfl,run_takeDeferred h2,leaves_marks (lo:=lo) ⟨fun D' hD' => ⟨(hm.at_ D' (by simp [hD'])).1, ?_⟩,hnd.2⟩ fun w' a b c => h w' (fun k hk hkd => ?_) ?_ ?_⟩⟩
  ·have hne : D ≠ D':=fun e => hnd.1 (e ▸ hD')
   rw [World.putObj_heap_other (Ne.symm hne)]
   exact (hm.at_ D' (by simp [hD'])).2
  ·rw [a k (by simpa using hk) (fun hk2 => hkd (by simp [hk2])),World.putObj_heap_other (fun e => hkd (by simp [e]))]
  ·rw [b];simp
  ·exact c
theorem grows_marks {w V w' : World} {lo : Nat} {ds : List Nat} (hg : Grows w V) (hm : Marks V lo ds) (hlo : lo = w.heap.size) (h1 : ∀ k, k < V.heap.size → k ∉ ds → w'.heap[k]? = V.heap[k]?) (h2 : w'.heap.size = V.heap.size) (h3 : w'.os = V.os ∧ w'.tape = V.tape ∧ w'.output = V.output) : Grows w w' :=
 Below.grown (row:=none) (Below.refl _ _) ⟨h3.1.trans (Below.os hg),h3.2.1.trans (Below.tape hg),h3.2.2.trans (Below.output hg),by rw [h2];exact hg.size,fun k hk _ => (h1 k (Nat.lt_of_lt_of_le hk hg.size) (fun hin => by have:=(hm.at_ k hin).1;omega)).trans (Below.block hg k hk)⟩ (Nat.le_refl _) (fun k h => by cases h)
end Go.Proofs.YtepoiefadjoabaaGreatDoor
