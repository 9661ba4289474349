/- The texts SortK, one behind the other. -/
import Derived.Test.YtiopheoljccmpaaGreatDoorCq1
import Derived.Shelf.SlSortCmp.NoneTotal
open List renaming getElem?_eq_getElem → Aa,getElem?_take_of_lt → Ac
open Array renaming getElem?_toList → Ab,getElem?_modify → Ad
open Nat renaming mul_comm → Ae
namespace Go.Proofs.YtiopheoljccmpaaGreatDoor
open Go Go.RowKit Go.Sort Go.Shelf
section
variable {α:Type} [Inhabited α] {enc:α->List Value} {k:Nat}
theorem xC (hk:∀x,(enc x).length=k) (cu:0<k) (l:List α):(flatK enc k l.toArray).toList=l.flatMap enc:=by
 have ay:=fO hk l;have dm:(flatK enc k l.toArray).toList.length=l.length*k:=by simp
 refine List.ext_getElem (by rw[dm,ay]) λt h1 h2=>?_;have ht:t<l.length*k:=by rw[<-ay];exact h2
 have hi:t/k<l.length:=Nat.div_lt_of_lt_mul (by rw[Ae];exact ht);have hj:t%k<(enc l[t/k]).length:=by rw[hk];exact Nat.mod_lt _ cu
 have h3:=yB hk l (t/k) (t%k) l[t/k] (enc l[t/k])[t%k] (Aa hi) (Aa hj);have e:t/k*k+t%k=t:=by rw[Ae];exact Nat.div_add_mod t k
 rw[e,Aa h2]at h3;rw[Option.some.inj h3];have h4:=get_flatK enc k l.toArray t (by simpa using ht)
 have h5:(flatK enc k l.toArray)[t]! = (flatK enc k l.toArray).toList[t]:=by
  rw[getElem!_pos _ t (by simpa using ht)];simp
 rw[<-h5,h4];have h6:l.toArray[t/k]! = l[t/k]:=by rw[getElem!_pos _ _ (by simpa using hi)];simp
 rw[h6,getElem!_pos (enc l[t/k]) (t%k) hj]
theorem hJ0 (hk:∀x,(enc x).length=k) (cu:0<k) {w:World} {g:Nat} {ei:Array Value} {e:TypeId} {l:List α} (hb:w.heap[g]?=some (.cells ei e (0,0))) (ht:ei.toList.take (l.length*k)=l.flatMap enc):HoldsK enc k w g 0 l.toArray:=by
 intro j hj;have hj':j<l.length*k:=by simpa using hj
 refine⟨?_,by simp[World.frozen?,hb]⟩;have h1:(ei.toList.take (l.length*k))[j]?=(l.flatMap enc)[j]?:=by rw[ht]
 rw[Ac hj',<-xC hk cu]at h1;simp only[World.cell?,hb,Nat.zero_add];simp only[Option.isSome_none,Bool.false_eq_true,if_false];rw[<-Ab,h1,getElem!_pos _ j hj,Ab,Array.getElem?_eq_getElem hj];rfl
theorem iW0 {w:World} {g n:Nat} {os:Array Obj} {ei:Array Value} {e:TypeId} {fr:Nat×Nat} (d:Array α) (hb:w.heap[g]?=some (.cells ei e fr)) :
  (sortWorldK enc k w g 0 n d os).heap[g]?=some (.cells (putCells id 0 (flatK enc k d) ei) e fr):=by
 have hg:g<w.heap.size:=(Array.getElem?_eq_some_iff.1 hb).1;unfold sortWorldK putRowK;rw[heap_grow_old _ _ (by simpa using hg)];simp[putRow,mapBlock,Sort.ahead,Ad,hb,onCells]
theorem zB {w:World} {g n:Nat} {os:Array Obj} (d:Array α):w.grownBy (sortWorldK enc k w g 0 n d os) (some g):=by
 unfold sortWorldK putRowK;refine⟨rfl,rfl,rfl,by simp,λj hj aw=>?_⟩;rw[heap_grow_old _ _ (by simpa using hj)]
 have:g≠j:=λe=>aw (by rw[e])
 simp[putRow,mapBlock,Sort.ahead,Ad,this]
theorem bW0 (ei F:Array Value) (h:F.size<=ei.size):(putCells id 0 F ei).toList.take F.size=F.toList:=by
 apply List.ext_getElem?
 intro j;by_cases hj:j<F.size
 ·rw[Ac hj,Ab]
  simp[putCells,hj,show j<ei.size by omega]
 ·rw[List.getElem?_take_eq_none (by omega),List.getElem?_eq_none (by simp;omega)]
theorem mC0 (hk:∀x,(enc x).length=k) (cu:0<k) {w:World} {base g cap n:Nat} {e:TypeId} {os:Array Obj} {ei:Array Value} {l l':List α} (hl:l'.length=l.length) (dl:base<=g) (hb:w.heap[g]?=some (.cells ei e (0,0)))
  (h1:l.length<=cap) (h2:cap<=maxLen) (h3:ei.size=cap*k):aO (sortWorldK enc k w g 0 n l'.toArray os) base e k enc (.slice (some ⟨g,0,none⟩) l.length cap) l':=by
 have hF:(flatK enc k l'.toArray).size=l'.length*k:=by simp
 have o4:(flatK enc k l'.toArray).size<=ei.size:=by rw[hF,h3,hl];exact Nat.mul_le_mul_right _ h1
 refine⟨fO hk l',.inr ⟨g,cap,_,by rw[hl],dl,iW0 _ hb,by rw[hl];exact h1,h2,by simp[putCells,h3],?_⟩⟩
 have:=bW0 ei (flatK enc k l'.toArray) o4
 rw[hF,xC hk cu]at this;exact this
theorem tS {P:Program} {ρ:Ren} (L:SlLaysF0.n6 P ρ) (aE:∀w,(isAgg (ρ.t 24)).run P w=.ok true w) (zE:∀w,(Go.sizeOf (ρ.t 24)).run P w=.ok k w) (hk:∀x,(enc x).length=k) (cu:0<k) (h1:∀x, ∀v∈enc x,v.oneCell'=true) (cf:α->α->Int) (hO:SWO (ltOf cf)) (g:Nat) (cb:Array Value)
  (eg:∀args w,(callFunc g args).run P w=.ok (.enter g args) w) (adl:∀bh off size w,CmpLays P g cb enc k cf bh off size w) (w:World) (base:Nat) (e:TypeId) (v:Value) (l:List α) (ae:aO w base e k enc v l) (hl:l.length<4611686018427387904) :
  Calls P (ρ.f 6) #[v,.func (.func g) #[] cb] w λe' w'=>e' = .returned (.tuple #[])/\∃l',l'.Perm l/\l'.Pairwise (λx y=>ltOf cf y x=false)/\aO w' base e k enc v l'/\w.grownBy w' v.ownBlock:=by
 rcases ae.2 with ⟨rfl,h0⟩|⟨b,cap,ei,rfl,hb,hh,hn,hc,hs,ht⟩
 ·obtain rfl:l=[]:=List.eq_nil_of_length_eq_zero h0
  exact(AnyF.slices_SortFunc_none L none 0 _ w).mono λe' w' ⟨he,hw⟩=>⟨he,[],List.Perm.refl _,List.Pairwise.nil,by rw[hw];exact ae,by rw[hw];exact⟨rfl,rfl,rfl,Nat.le_refl _,λ_ _ _=>rfl⟩⟩
 ·have hH:=hJ0 hk cu hh ht
  have af:b<w.heap.size:=(Array.getElem?_eq_some_iff.1 hh).1;have hz:l.toArray.size<4611686018427387904:=by simpa using hl
  have h:=AnyQ.slices_SortFunc L k aE zE enc hk h1 cf hO g cb b 0 cap l.toArray w eg (adl b 0 l.toArray.size w) hH af hz;refine h.mono λe' w' ⟨he,d',n,os,hp,hsd,hw⟩=>⟨he,d'.toList,?_,?_,?_,?_⟩
  ·obtain⟨hp1,_,il⟩:=hp
   have e1:d'.extract 0 l.toArray.size=d':=by rw[<-hp1];simp
   rw[e1]at il;simpa using il
  ·refine List.pairwise_iff_getElem.2 λi j hi hj hij=>?_
   have hj':j<d'.size:=by simpa using hj
   have hi':i<d'.size:=by simpa using hi
   have:=hsd i j (Nat.zero_le _) hij (by rw[<-hp.1];exact hj')
   rw[getElem!_pos d' j hj',getElem!_pos d' i hi']at this;simpa using this
  ·have zz:d'.toList.length=l.length:=by have:=hp.1;simpa using this
   rw[hw]
   have:=mC0 (enc:=enc) (k:=k) (os:=os) (n:=n) (l:=l) (l':=d'.toList) hk cu zz hb hh hn hc hs
   simpa using this
  ·rw[hw];exact zB _
end
end Go.Proofs.YtiopheoljccmpaaGreatDoor
