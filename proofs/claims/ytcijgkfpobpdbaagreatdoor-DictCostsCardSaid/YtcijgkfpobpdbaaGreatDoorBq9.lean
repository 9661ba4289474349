/- The texts SetP, one behind the other. -/
import Derived.Test.YtcijgkfpobpdbaaGreatDoorBq4
import Derived.Lib.SlicesCompact
import Derived.Sort.Walk0
open Go.Op renaming bytesLess → Aa
open Go.Lib renaming compactUpTo → Ab,keeps → Ag,compact → Ah
open Classical renaming byContradiction → Ac
open List renaming foldl_cons → Ad,mem_cons → Ae
open Nat renaming lt_or_ge → Af
namespace Go.Proofs.YtcijgkfpobpdbaaGreatDoor
open Go
abbrev gO0 (a b:List UInt8):Prop:=Aa a b=true
theorem nX (a:List UInt8):¬gO0 a a:=by unfold gO0; rw[bytesLess_irrefl]; decide
theorem fN0 (a b c:List UInt8) (h1:gO0 a b) (h2:gO0 b c):gO0 a c:=gA h1 h2
def yL0:List (List UInt8)->List UInt8->List (List UInt8)
 | [],s=>[s]
 | x::l,s=>if Aa x s=true then x::yL0 l s else if x=s then x::l else s::x::l
theorem fX0:∀(l:List (List UInt8)) (s x:List UInt8),x∈yL0 l s↔x=s\/x∈l
 | [],s,x=>by simp[yL0]
 | y::l,s,x=>by
  unfold yL0;split
  ·rw[Ae,fX0 l s x,Ae]
   constructor
   ·rintro(h|h|h)
    ·exact Or.inr (Or.inl h)
    ·exact Or.inl h
    ·exact Or.inr (Or.inr h)
   ·rintro(h|h|h)
    ·exact Or.inr (Or.inl h)
    ·exact Or.inl h
    ·exact Or.inr (Or.inr h)
  ·split
   ·rename_i h
    subst h;simp
   ·simp
theorem rT0:∀ {l:List (List UInt8)} (s:List UInt8),l.Pairwise gO0->(yL0 l s).Pairwise gO0
 | [],s,_=>by simp[yL0]
 | y::l,s,h=>by
  obtain⟨h1,h2⟩:=List.pairwise_cons.1 h;unfold yL0;split
  ·rename_i hy
   refine List.pairwise_cons.2 ⟨λz hz=>?_,rT0 s h2⟩;rcases (fX0 l s z).1 hz with e|e
   ·subst e;exact hy
   ·exact h1 z e
  ·rename_i hy
   split
   ·exact h
   ·rename_i aj
    have hsy:gO0 s y:=dI (by simpa using hy) aj;refine List.pairwise_cons.2 ⟨λz hz=>?_,h⟩;rcases List.mem_cons.1 hz with e|e
    ·subst e;exact hsy
    ·exact fN0 _ _ _ hsy (h1 z e)
def fP (s:List UInt8) (st:List (List UInt8)×Bool) (x:List UInt8):List (List UInt8)×Bool :=
 let st1:=if st.2=false/\Aa x s=false then (st.1++[s],true) else st
 if x=s then st1 else (st1.1++[x],st1.2)
def xM (s:List UInt8) (st:List (List UInt8)×Bool):List (List UInt8):=if st.2=true then st.1 else st.1++[s]
def cS1 (l:List (List UInt8)) (s:List UInt8):List (List UInt8):=xM s (l.foldl (fP s) ([],false))
theorem pO {s:List UInt8}:∀ {l out:List (List UInt8)},(∀x∈l,x≠s)->l.foldl (fP s) (out,true)=(out++l,true)
 | [],out,_=>by simp
 | x::l,out,h=>by
  have hx:=h x (by simp)
  have:fP s (out,true) x=(out++[x],true):=by unfold fP;simp[hx]
  rw[Ad,this,pO (λy hy=>h y (by simp[hy]))];simp
theorem zO {s:List UInt8}:∀ {l out:List (List UInt8)},l.Pairwise gO0->xM s (l.foldl (fP s) (out,false))=out++yL0 l s
 | [],out,_=>by simp[xM,yL0]
 | x::l,out,h=>by
  obtain⟨h1,h2⟩:=List.pairwise_cons.1 h;rw[Ad];unfold yL0;by_cases hx:Aa x s=true
  ·have aj:x≠s:=λe=>by rw[e,bytesLess_irrefl]at hx;cases hx
   have:fP s (out,false) x=(out++[x],false):=by unfold fP;simp[hx,aj]
   rw[this,zO h2,if_pos hx];simp
  ·have hx':Aa x s=false:=by simpa using hx
   rw[if_neg hx];by_cases he:x=s
   ·subst he
    have:fP x (out,false) x=(out++[x],true):=by unfold fP;simp[hx']
    rw[this,pO (λy hy e=>by subst e;exact nX _ (h1 y hy)),if_pos rfl];simp[xM]
   ·have:fP s (out,false) x=(out++[s]++[x],true):=by unfold fP;simp[hx',he]
    have hsx:gO0 s x:=dI hx' he;rw[this,pO (λy hy e=>by subst e;exact nX _ (fN0 _ _ _ hsx (h1 y hy))),if_neg he];simp[xM]
theorem bV1 {l:List (List UInt8)} (h:l.Pairwise gO0) (s:List UInt8):cS1 l s=yL0 l s:=by
 unfold cS1;rw[zO h,List.nil_append]
def oS0 (ss:List (List UInt8)):List (List UInt8):=ss.foldl cS1 []
theorem zG:∀(ss:List (List UInt8)) {l:List (List UInt8)},l.Pairwise gO0->(ss.foldl cS1 l).Pairwise gO0/\∀x,x∈ss.foldl cS1 l↔x∈l\/x∈ss
 | [],l,h=>⟨h,λx=>by simp⟩
 | s::ss,l,h=>by
  have h1:=rT0 s h;rw[<-bV1 h]at h1;obtain⟨a,b⟩:=zG ss h1;refine⟨a,λx=>?_⟩;rw[Ad,b,bV1 h,fX0,Ae];constructor
  ·rintro((h|h)|h)
   ·exact Or.inr (Or.inl h)
   ·exact Or.inl h
   ·exact Or.inr (Or.inr h)
  ·rintro(h|h|h)
   ·exact Or.inl (Or.inr h)
   ·exact Or.inl (Or.inl h)
   ·exact Or.inr h
theorem yN (ss:List (List UInt8)):(oS0 ss).Pairwise gO0:=(zG ss List.Pairwise.nil).1
theorem yK (ss:List (List UInt8)) (x:List UInt8):x∈oS0 ss↔x∈ss:=by
 unfold oS0;rw[(zG ss List.Pairwise.nil).2 x];simp
theorem cI0 {ss l:List (List UInt8)} (h1:l.Pairwise gO0) (h2:∀x,x∈l↔x∈ss):l=oS0 ss :=
 iL nX fN0 h1 (yN ss) λx=>by rw[h2,yK]
theorem zH0 {ss tt:List (List UInt8)} (h:∀x,x∈ss↔x∈tt):oS0 ss=oS0 tt:=cI0 (yN ss) λx=>by rw[yK,h]
theorem wX {zs:List (List UInt8)} (hs:zs.Pairwise λa b=>Aa b a=false):∀m,m<=zs.length->(Ab zs.toArray m).Pairwise gO0/\∀x,x∈Ab zs.toArray m↔∃j,j<m/\zs.toArray[j]! = x
 | 0,_=>⟨by simp[Ab],λx=>by simp[Ab]⟩
 | m+1,hm=>by
  obtain⟨h1,h2⟩:=wX hs m (by omega)
  have ack:∀i j,i<j->j<zs.length->Aa zs.toArray[j]! zs.toArray[i]! = false:=λi j oe hj=>by
   have:=List.pairwise_iff_getElem.1 hs i j (by omega) hj oe
   rw[getElem!_pos _ _ (by simpa using hj),getElem!_pos _ _ (by simp;omega)];simpa using this
  rw[Lib.compactUpTo_succ];by_cases hk:Ag zs.toArray m=true
  ·rw[if_pos hk]
   constructor
   ·refine List.pairwise_append.2 ⟨h1,by simp,λx hx y hy=>?_⟩
    obtain rfl:y=zs.toArray[m]!:=by simpa using hy
    obtain⟨j,hj,rfl⟩:=(h2 x).1 hx;have zt:m=0\/zs.toArray[m]! ≠ zs.toArray[m-1]!:=by simpa [Ag] using hk
    have aj:zs.toArray[j]! ≠ zs.toArray[m]!:=λe=>by
     rcases zt with h|h
     ·omega
     ·apply h
      apply Ac
      intro hd;have k1:gO0 zs.toArray[m-1]! zs.toArray[m]!:=dI (ack _ _ (by omega) (by omega)) hd;rcases Af j (m-1) with km|km
      ·have k2:=ack j (m-1) km (by omega)
       rw[e]at k2;unfold gO0 at k1;rw[k2]at k1;cases k1
      ·rw[show m-1=j by omega,e]at k1
       exact nX _ k1
    exact dI (ack j m hj (by omega)) aj.symm
   ·intro x
    rw[List.mem_append,h2,List.mem_singleton];constructor
    ·rintro(⟨j,hj,e⟩|e)
     ·exact⟨j,by omega,e⟩
     ·exact⟨m,by omega,e.symm⟩
    ·rintro⟨j,hj,e⟩
     rcases Af j m with h|h
     ·exact Or.inl ⟨j,h,e⟩
     ·exact Or.inr (by rw[<-e,show j=m by omega])
  ·rw[if_neg hk,List.append_nil]
   refine⟨h1,λx=>?_⟩;rw[h2];have zt:¬(m=0\/zs.toArray[m]! ≠ zs.toArray[m-1]!):=by simpa [Ag] using hk
   have hm0:m≠0:=λh=>zt (Or.inl h);have he:zs.toArray[m]! = zs.toArray[m-1]!:=Ac λh=>zt (Or.inr h);constructor
   ·rintro⟨j,hj,e⟩;exact⟨j,by omega,e⟩
   ·rintro⟨j,hj,e⟩
    rcases Af j m with h|h
    ·exact⟨j,h,e⟩
    ·exact⟨m-1,by omega,by rw[<-e,show j=m by omega,he]⟩
theorem nK0 {zs:List (List UInt8)} (hs:zs.Pairwise λa b=>Aa b a=false):Ah zs=oS0 zs:=by
 obtain⟨h1,h2⟩:=wX hs zs.length (Nat.le_refl _);refine cI0 h1 λx=>?_;show x∈Ab zs.toArray zs.length↔_
 rw[h2];constructor
 ·rintro⟨j,hj,e⟩
  rw[getElem!_pos _ _ (by simpa using hj)]at e;rw[<-e];simp
 ·intro hx
  obtain⟨j,hj,e⟩:=List.mem_iff_getElem.1 hx;exact⟨j,hj,by rw[getElem!_pos _ _ (by simpa using hj)];simpa using e⟩
theorem oZ0 (ss:List (List UInt8)):(ss.mergeSort λx y=>decide (x<=y)).Pairwise λa b=>Aa b a=false:=by
 have h:=List.pairwise_mergeSort (le:=λx y:List UInt8=>decide (x<=y)) (λa b c h1 h2=>by
  simp only[decide_eq_true_eq] at *;exact List.le_trans h1 h2) (λa b=>by
  have:=List.le_total a b
  simpa using this) ss
 refine h.imp λ{a b} ev=>?_;rw[bytesLess_eq];simp only[decide_eq_true_eq,decide_eq_false_iff_not] at *;exact ev
theorem xW (ss:List (List UInt8)):Ah (ss.mergeSort λx y=>decide (x<=y))=oS0 ss:=by
 rw[nK0 (oZ0 ss)];exact zH0 λx=>List.mem_mergeSort
end Go.Proofs.YtcijgkfpobpdbaaGreatDoor
