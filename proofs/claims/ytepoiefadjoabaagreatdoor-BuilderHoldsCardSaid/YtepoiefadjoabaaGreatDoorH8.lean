/- The texts SetP, one behind the other. -/
import Derived.Test.YtepoiefadjoabaaGreatDoorH4
import Derived.Lib.SlicesCompact
import Derived.Sort.Walk0
namespace Go.Proofs.YtepoiefadjoabaaGreatDoor
open Go
abbrev Less (a b : List UInt8) : Prop := Op.bytesLess a b = true
theorem less_irr (a : List UInt8) : ¬ Less a a := by unfold Less; rw [bytesLess_irrefl]; decide
theorem less_tr (a b c : List UInt8) (h1 : Less a b) (h2 : Less b c) : Less a c := bytesLess_trans h1 h2
def putR : List (List UInt8) → List UInt8 → List (List UInt8)
 | [],s => [s]
 | x :: l,s => if Op.bytesLess x s = true then x :: putR l s else if x = s then x :: l else s :: x :: l
theorem putR_mem : ∀ (l : List (List UInt8)) (s x : List UInt8), x ∈ putR l s ↔ x = s ∨ x ∈ l
 | [],s,x => by simp [putR]
 | y :: l,s,x => by
  unfold putR
  split
  ·rw [List.mem_cons,putR_mem l s x,List.mem_cons]
   constructor
   ·rintro (h | h | h)
    ·exact Or.inr (Or.inl h)
    ·exact Or.inl h
    ·exact Or.inr (Or.inr h)
   ·rintro (h | h | h)
    ·exact Or.inr (Or.inl h)
    ·exact Or.inl h
    ·exact Or.inr (Or.inr h)
  ·split
   ·rename_i h
    subst h
    simp
   ·simp
theorem putR_asc : ∀ {l : List (List UInt8)} (s : List UInt8), l.Pairwise Less → (putR l s).Pairwise Less
 | [],s,_ => by simp [putR]
 | y :: l,s,h => by
  obtain ⟨h1,h2⟩:=List.pairwise_cons.1 h
  unfold putR
  split
  ·rename_i hy
   refine List.pairwise_cons.2 ⟨fun z hz => ?_,putR_asc s h2⟩
   rcases (putR_mem l s z).1 hz with e | e
   ·subst e;exact hy
   ·exact h1 z e
  ·rename_i hy
   split
   ·exact h
   ·rename_i hne
    have hsy : Less s y:=bytesLess_total (by simpa using hy) hne
    refine List.pairwise_cons.2 ⟨fun z hz => ?_,h⟩
    rcases List.mem_cons.1 hz with e | e
    ·subst e;exact hsy
    ·exact less_tr _ _ _ hsy (h1 z e)
def putStep (s : List UInt8) (st : List (List UInt8) × Bool) (x : List UInt8) : List (List UInt8) × Bool :=
 let st1:=if st.2 = false∧Op.bytesLess x s = false then (st.1 ++ [s],true) else st
 if x = s then st1 else (st1.1 ++ [x],st1.2)
def putEnd (s : List UInt8) (st : List (List UInt8) × Bool) : List (List UInt8) := if st.2 = true then st.1 else st.1 ++ [s]
def putL (l : List (List UInt8)) (s : List UInt8) : List (List UInt8) := putEnd s (l.foldl (putStep s) ([], false))
theorem putStep_done {s : List UInt8} : ∀ {l out : List (List UInt8)}, (∀ x ∈ l, x ≠ s) → l.foldl (putStep s) (out, true) = (out ++ l, true)
 | [],out,_ => by simp
 | x :: l,out,h => by
  have hx:=h x (by simp)
  have : putStep s (out,true) x = (out ++ [x],true):=by unfold putStep;simp [hx]
  rw [List.foldl_cons,this,putStep_done (fun y hy => h y (by simp [hy]))]
  simp
theorem putStep_all {s : List UInt8} : ∀ {l out : List (List UInt8)}, l.Pairwise Less → putEnd s (l.foldl (putStep s) (out, false)) = out ++ putR l s
 | [],out,_ => by simp [putEnd,putR]
 | x :: l,out,h => by
  obtain ⟨h1,h2⟩:=List.pairwise_cons.1 h
  rw [List.foldl_cons]
  unfold putR
  by_cases hx : Op.bytesLess x s = true
  ·have hne : x ≠ s:=fun e => by rw [e,bytesLess_irrefl] at hx;cases hx
   have : putStep s (out,false) x = (out ++ [x],false):=by unfold putStep;simp [hx,hne]
   rw [this,putStep_all h2,if_pos hx]
   simp
  ·have hx' : Op.bytesLess x s = false:=by simpa using hx
   rw [if_neg hx]
   by_cases he : x = s
   ·subst he
    have : putStep x (out,false) x = (out ++ [x],true):=by unfold putStep;simp [hx']
    rw [this,putStep_done (fun y hy e => by subst e;exact less_irr _ (h1 y hy)),if_pos rfl]
    simp [putEnd]
   ·have : putStep s (out,false) x = (out ++ [s] ++ [x],true):=by unfold putStep;simp [hx',he]
    have hsx : Less s x:=bytesLess_total hx' he
    rw [this,putStep_done (fun y hy e => by subst e;exact less_irr _ (less_tr _ _ _ hsx (h1 y hy))),if_neg he]
    simp [putEnd]
theorem putL_eq {l : List (List UInt8)} (h : l.Pairwise Less) (s : List UInt8) : putL l s = putR l s := by
 unfold putL
 rw [putStep_all h,List.nil_append]
def setL (ss : List (List UInt8)) : List (List UInt8) := ss.foldl putL []
theorem foldl_put : ∀ (ss : List (List UInt8)) {l : List (List UInt8)}, l.Pairwise Less → (ss.foldl putL l).Pairwise Less ∧ ∀ x, x ∈ ss.foldl putL l ↔ x ∈ l ∨ x ∈ ss
 | [],l,h => ⟨h,fun x => by simp⟩
 | s :: ss,l,h => by
  have h1:=putR_asc s h
  rw [← putL_eq h] at h1
  obtain ⟨a,b⟩:=foldl_put ss h1
  refine ⟨a,fun x => ?_⟩
  rw [List.foldl_cons,b,putL_eq h,putR_mem,List.mem_cons]
  constructor
  ·rintro ((h | h) | h)
   ·exact Or.inr (Or.inl h)
   ·exact Or.inl h
   ·exact Or.inr (Or.inr h)
  ·rintro (h | h | h)
   ·exact Or.inl (Or.inr h)
   ·exact Or.inl (Or.inl h)
   ·exact Or.inr h
theorem setL_asc (ss : List (List UInt8)) : (setL ss).Pairwise Less := (foldl_put ss List.Pairwise.nil).1
theorem setL_mem (ss : List (List UInt8)) (x : List UInt8) : x ∈ setL ss ↔ x ∈ ss := by
 unfold setL
 rw [(foldl_put ss List.Pairwise.nil).2 x]
 simp
theorem setL_unique {ss l : List (List UInt8)} (h1 : l.Pairwise Less) (h2 : ∀ x, x ∈ l ↔ x ∈ ss) : l = setL ss :=
 pairwise_unique less_irr less_tr h1 (setL_asc ss) fun x => by rw [h2,setL_mem]
theorem setL_same {ss tt : List (List UInt8)} (h : ∀ x, x ∈ ss ↔ x ∈ tt) : setL ss = setL tt := setL_unique (setL_asc ss) fun x => by rw [setL_mem, h]
theorem compact_spec {zs : List (List UInt8)} (hs : zs.Pairwise fun a b => Op.bytesLess b a = false) : ∀ m, m ≤ zs.length → (Lib.compactUpTo zs.toArray m).Pairwise Less ∧ ∀ x, x ∈ Lib.compactUpTo zs.toArray m ↔ ∃ j, j < m ∧ zs.toArray[j]! = x
 | 0,_ => ⟨by simp [Lib.compactUpTo],fun x => by simp [Lib.compactUpTo]⟩
 | m + 1,hm => by
  obtain ⟨h1,h2⟩:=compact_spec hs m (by omega)
  have hord : ∀ i j,i < j → j < zs.length → Op.bytesLess zs.toArray[j]! zs.toArray[i]! = false:=fun i j hij hj => by
   have:=List.pairwise_iff_getElem.1 hs i j (by omega) hj hij
   rw [getElem!_pos _ _ (by simpa using hj),getElem!_pos _ _ (by simp;omega)]
   simpa using this
  rw [Lib.compactUpTo_succ]
  by_cases hk : Lib.keeps zs.toArray m = true
  ·rw [if_pos hk]
   constructor
   ·refine List.pairwise_append.2 ⟨h1,by simp,fun x hx y hy => ?_⟩
    obtain rfl : y = zs.toArray[m]!:=by simpa using hy
    obtain ⟨j,hj,rfl⟩:=(h2 x).1 hx
    have hkk : m = 0 ∨ zs.toArray[m]! ≠ zs.toArray[m - 1]!:=by simpa [Lib.keeps] using hk
    have hne : zs.toArray[j]! ≠ zs.toArray[m]!:=fun e => by
     rcases hkk with h | h
     ·omega
     ·apply h
      apply Classical.byContradiction
      intro hd
      have k1 : Less zs.toArray[m - 1]! zs.toArray[m]!:=bytesLess_total (hord _ _ (by omega) (by omega)) hd
      rcases Nat.lt_or_ge j (m - 1) with hj2 | hj2
      ·have k2:=hord j (m - 1) hj2 (by omega)
       rw [e] at k2
       unfold Less at k1
       rw [k2] at k1;cases k1
      ·rw [show m - 1 = j by omega,e] at k1
       exact less_irr _ k1
    exact bytesLess_total (hord j m hj (by omega)) hne.symm
   ·intro x
    rw [List.mem_append,h2,List.mem_singleton]
    constructor
    ·rintro (⟨j,hj,e⟩ | e)
     ·exact ⟨j,by omega,e⟩
     ·exact ⟨m,by omega,e.symm⟩
    ·rintro ⟨j,hj,e⟩
     rcases Nat.lt_or_ge j m with h | h
     ·exact Or.inl ⟨j,h,e⟩
     ·exact Or.inr (by rw [← e,show j = m by omega])
  ·rw [if_neg hk,List.append_nil]
   refine ⟨h1,fun x => ?_⟩
   rw [h2]
   have hkk : ¬ (m = 0 ∨ zs.toArray[m]! ≠ zs.toArray[m - 1]!):=by simpa [Lib.keeps] using hk
   have hm0 : m ≠ 0:=fun h => hkk (Or.inl h)
   have he : zs.toArray[m]! = zs.toArray[m - 1]!:=Classical.byContradiction fun h => hkk (Or.inr h)
   constructor
   ·rintro ⟨j,hj,e⟩;exact ⟨j,by omega,e⟩
   ·rintro ⟨j,hj,e⟩
    rcases Nat.lt_or_ge j m with h | h
    ·exact ⟨j,h,e⟩
    ·exact ⟨m - 1,by omega,by rw [← e,show j = m by omega,he]⟩
theorem compact_set {zs : List (List UInt8)} (hs : zs.Pairwise fun a b => Op.bytesLess b a = false) : Lib.compact zs = setL zs := by
 obtain ⟨h1,h2⟩:=compact_spec hs zs.length (Nat.le_refl _)
 refine setL_unique h1 fun x => ?_
 show x ∈ Lib.compactUpTo zs.toArray zs.length ↔ _
 rw [h2]
 constructor
 ·rintro ⟨j,hj,e⟩
  rw [getElem!_pos _ _ (by simpa using hj)] at e
  rw [← e]
  simp
 ·intro hx
  obtain ⟨j,hj,e⟩:=List.mem_iff_getElem.1 hx
  exact ⟨j,hj,by rw [getElem!_pos _ _ (by simpa using hj)];simpa using e⟩
theorem sort_sorted (ss : List (List UInt8)) : (ss.mergeSort fun x y => decide (x ≤ y)).Pairwise fun a b => Op.bytesLess b a = false := by
 have h:=List.pairwise_mergeSort (le:=fun x y : List UInt8 => decide (x ≤ y)) (fun a b c h1 h2 => by
  simp only [decide_eq_true_eq] at *
  exact List.le_trans h1 h2) (fun a b => by
  have:=List.le_total a b
  simpa using this) ss
 refine h.imp fun {a b} hab => ?_
 rw [bytesLess_eq]
 simp only [decide_eq_true_eq,decide_eq_false_iff_not] at *
 exact hab
theorem compact_sort (ss : List (List UInt8)) : Lib.compact (ss.mergeSort fun x y => decide (x ≤ y)) = setL ss := by
 rw [compact_set (sort_sorted ss)]
 exact setL_same fun x => List.mem_mergeSort
end Go.Proofs.YtepoiefadjoabaaGreatDoor
