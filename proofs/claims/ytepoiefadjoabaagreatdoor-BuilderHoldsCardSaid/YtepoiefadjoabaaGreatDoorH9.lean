/- The texts SortK, one behind the other. -/
import Derived.Test.YtepoiefadjoabaaGreatDoorH2
import Derived.Shelf.SlSortCmp.NoneTotal
namespace Go.Proofs.YtepoiefadjoabaaGreatDoor
open Go Go.RowKit Go.Sort Go.Shelf
section
variable {α : Type} [Inhabited α] {enc : α → List Value} {k : Nat}
theorem flatK_toList (hk : ∀ x, (enc x).length = k) (hpos : 0 < k) (l : List α) : (flatK enc k l.toArray).toList = l.flatMap enc := by
 have hlen:=flat_length hk l
 have hsz : (flatK enc k l.toArray).toList.length = l.length * k:=by simp
 refine List.ext_getElem (by rw [hsz,hlen]) fun t h1 h2 => ?_
 have ht : t < l.length * k:=by rw [← hlen];exact h2
 have hi : t / k < l.length:=Nat.div_lt_of_lt_mul (by rw [Nat.mul_comm];exact ht)
 have hj : t % k < (enc l[t / k]).length:=by rw [hk];exact Nat.mod_lt _ hpos
 have h3:=flat_get hk l (t / k) (t % k) l[t / k] (enc l[t / k])[t % k] (List.getElem?_eq_getElem hi) (List.getElem?_eq_getElem hj)
 have e : t / k * k + t % k = t:=by rw [Nat.mul_comm];exact Nat.div_add_mod t k
 rw [e,List.getElem?_eq_getElem h2] at h3
 rw [Option.some.inj h3]
 have h4:=get_flatK enc k l.toArray t (by simpa using ht)
 have h5 : (flatK enc k l.toArray)[t]! = (flatK enc k l.toArray).toList[t]:=by
  rw [getElem!_pos _ t (by simpa using ht)];simp
 rw [← h5,h4]
 have h6 : l.toArray[t / k]! = l[t / k]:=by rw [getElem!_pos _ _ (by simpa using hi)];simp
 rw [h6,getElem!_pos (enc l[t / k]) (t % k) hj]
theorem holdsK_block (hk : ∀ x, (enc x).length = k) (hpos : 0 < k) {w : World} {g : Nat} {cur : Array Value} {e : TypeId} {l : List α} (hb : w.heap[g]? = some (.cells cur e (0, 0))) (ht : cur.toList.take (l.length * k) = l.flatMap enc) : HoldsK enc k w g 0 l.toArray := by
 intro j hj
 have hj' : j < l.length * k:=by simpa using hj
 refine ⟨?_,by simp [World.frozen?,hb]⟩
 have h1 : (cur.toList.take (l.length * k))[j]? = (l.flatMap enc)[j]?:=by rw [ht]
 rw [List.getElem?_take_of_lt hj',← flatK_toList hk hpos] at h1
 simp only [World.cell?,hb,Nat.zero_add]
 simp only [Option.isSome_none,Bool.false_eq_true,if_false]
 rw [← Array.getElem?_toList,h1,getElem!_pos _ j hj,Array.getElem?_toList,Array.getElem?_eq_getElem hj]
 rfl
theorem heap_sortedK {w : World} {g n : Nat} {os : Array Obj} {cur : Array Value} {e : TypeId} {fr : Nat × Nat} (d : Array α) (hb : w.heap[g]? = some (.cells cur e fr)) :
  (sortWorldK enc k w g 0 n d os).heap[g]? = some (.cells (putCells id 0 (flatK enc k d) cur) e fr):=by
 have hg : g < w.heap.size:=(Array.getElem?_eq_some_iff.1 hb).1
 unfold sortWorldK putRowK
 rw [heap_grow_old _ _ (by simpa using hg)]
 simp [putRow,mapBlock,Sort.ahead,Array.getElem?_modify,hb,onCells]
theorem grownBy_sortedK {w : World} {g n : Nat} {os : Array Obj} (d : Array α) : w.grownBy (sortWorldK enc k w g 0 n d os) (some g) := by
 unfold sortWorldK putRowK
 refine ⟨rfl,rfl,rfl,by simp,fun j hj hne => ?_⟩
 rw [heap_grow_old _ _ (by simpa using hj)]
 have : g ≠ j:=fun e => hne (by rw [e])
 simp [putRow,mapBlock,Sort.ahead,Array.getElem?_modify,this]
theorem take_putCellsK (cur F : Array Value) (h : F.size ≤ cur.size) : (putCells id 0 F cur).toList.take F.size = F.toList := by
 apply List.ext_getElem?
 intro j
 by_cases hj : j < F.size
 ·rw [List.getElem?_take_of_lt hj,Array.getElem?_toList]
  simp [putCells,hj,show j < cur.size by omega]
 ·rw [List.getElem?_take_eq_none (by omega),List.getElem?_eq_none (by simp;omega)]
theorem owns_sorted (hk : ∀ x, (enc x).length = k) (hpos : 0 < k) {w : World} {base g cap n : Nat} {e : TypeId} {os : Array Obj} {cur : Array Value} {l l' : List α} (hl : l'.length = l.length) (hbase : base ≤ g) (hb : w.heap[g]? = some (.cells cur e (0, 0)))
  (h1 : l.length ≤ cap) (h2 : cap ≤ maxLen) (h3 : cur.size = cap * k) : Owns (sortWorldK enc k w g 0 n l'.toArray os) base e k enc (.slice (some ⟨g,0,none⟩) l.length cap) l':=by
 have hF : (flatK enc k l'.toArray).size = l'.length * k:=by simp
 have hle : (flatK enc k l'.toArray).size ≤ cur.size:=by rw [hF,h3,hl];exact Nat.mul_le_mul_right _ h1
 refine ⟨flat_length hk l',.inr ⟨g,cap,_,by rw [hl],hbase,heap_sortedK _ hb,by rw [hl];exact h1,h2,by simp [putCells,h3], ?_⟩⟩
 have:=take_putCellsK cur (flatK enc k l'.toArray) hle
 rw [hF,flatK_toList hk hpos] at this
 exact this
theorem sortFunc_owns {P : Program} {ρ : Ren} (L : SlLaysF0.n6 P ρ) (aE : ∀ w, (isAgg (ρ.t 24)).run P w = .ok true w) (zE : ∀ w, (Go.sizeOf (ρ.t 24)).run P w = .ok k w) (hk : ∀ x, (enc x).length = k) (hpos : 0 < k) (h1 : ∀ x, ∀ v ∈ enc x, v.oneCell' = true) (cf : α → α → Int) (hO : SWO (ltOf cf)) (g : Nat) (cb : Array Value)
  (eg : ∀ args w,(callFunc g args).run P w = .ok (.enter g args) w) (hcmp : ∀ blk off size w,CmpLays P g cb enc k cf blk off size w) (w : World) (base : Nat) (e : TypeId) (v : Value) (l : List α) (hown : Owns w base e k enc v l) (hl : l.length < 4611686018427387904) :
  Calls P (ρ.f 6) #[v,.func (.func g) #[] cb] w fun e' w' => e' = .returned (.tuple #[])∧∃ l',l'.Perm l∧l'.Pairwise (fun x y => ltOf cf y x = false)∧Owns w' base e k enc v l'∧w.grownBy w' v.ownBlock:=by
 rcases hown.2 with ⟨rfl,h0⟩ | ⟨b,cap,cur,rfl,hb,hh,hn,hc,hs,ht⟩
 ·obtain rfl : l = []:=List.eq_nil_of_length_eq_zero h0
  exact (AnyF.slices_SortFunc_none L none 0 _ w).mono fun e' w' ⟨he,hw⟩ => ⟨he,[],List.Perm.refl _,List.Pairwise.nil,by rw [hw];exact hown,by rw [hw];exact ⟨rfl,rfl,rfl,Nat.le_refl _,fun _ _ _ => rfl⟩⟩
 ·have hH:=holdsK_block hk hpos hh ht
  have hlt : b < w.heap.size:=(Array.getElem?_eq_some_iff.1 hh).1
  have hz : l.toArray.size < 4611686018427387904:=by simpa using hl
  have h:=AnyQ.slices_SortFunc L k aE zE enc hk h1 cf hO g cb b 0 cap l.toArray w eg (hcmp b 0 l.toArray.size w) hH hlt hz
  refine h.mono fun e' w' ⟨he,d',n,os,hp,hsd,hw⟩ => ⟨he,d'.toList, ?_, ?_, ?_, ?_⟩
  ·obtain ⟨hp1,_,hp3⟩:=hp
   have e1 : d'.extract 0 l.toArray.size = d':=by rw [← hp1];simp
   rw [e1] at hp3
   simpa using hp3
  ·refine List.pairwise_iff_getElem.2 fun i j hi hj hij => ?_
   have hj' : j < d'.size:=by simpa using hj
   have hi' : i < d'.size:=by simpa using hi
   have:=hsd i j (Nat.zero_le _) hij (by rw [← hp.1];exact hj')
   rw [getElem!_pos d' j hj',getElem!_pos d' i hi'] at this
   simpa using this
  ·have hl' : d'.toList.length = l.length:=by have:=hp.1;simpa using this
   rw [hw]
   have:=owns_sorted (enc:=enc) (k:=k) (os:=os) (n:=n) (l:=l) (l':=d'.toList) hk hpos hl' hb hh hn hc hs
   simpa using this
  ·rw [hw];exact grownBy_sortedK _
end
end Go.Proofs.YtepoiefadjoabaaGreatDoor
