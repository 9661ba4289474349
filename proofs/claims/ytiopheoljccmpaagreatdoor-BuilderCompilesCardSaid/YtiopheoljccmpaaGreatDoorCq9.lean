/- The texts SetP, one behind the other. -/
import Derived.Test.YtiopheoljccmpaaGreatDoorCq2
import Derived.Lib.SlicesCompact
import Derived.Sort.Walk0
open Go.Op renaming bytesLess → Aa
open Go.Lib renaming compactUpTo → Ab,keeps → Ag,compact → Ah
open Classical renaming byContradiction → Ac
open List renaming foldl_cons → Ad,mem_cons → Ae
open Nat renaming lt_or_ge → Af
namespace Go.Proofs.YtiopheoljccmpaaGreatDoor
open Go
abbrev fK0 (a b:List UInt8):Prop:=Aa a b=true
theorem gB0 (a:List UInt8):¬fK0 a a:=by unfold fK0; rw[bytesLess_irrefl]; decide
theorem xP0 (a b c:List UInt8) (h1:fK0 a b) (h2:fK0 b c):fK0 a c:=fP h1 h2
def wD0:List (List UInt8)->List UInt8->List (List UInt8)
 | [],s=>[s]
 | x::l,s=>if Aa x s=true then x::wD0 l s else if x=s then x::l else s::x::l
theorem fA0:∀(l:List (List UInt8)) (s x:List UInt8),x∈wD0 l s↔x=s\/x∈l
 | [],s,x=>by simp[wD0]
 | y::l,s,x=>by
  unfold wD0;split
  ·rw[Ae,fA0 l s x,Ae]
   grind
  grind
theorem pB0:∀ {l:List (List UInt8)} (s:List UInt8),l.Pairwise fK0->(wD0 l s).Pairwise fK0
 | [],s,_=>by simp[wD0]
 | y::l,s,h=>by
  obtain⟨h1,h2⟩:=List.pairwise_cons.1 h;unfold wD0;split
  ·rename_i hy
   refine List.pairwise_cons.2 ⟨λz hz=>?_,pB0 s h2⟩;rcases (fA0 l s z).1 hz with e|e
   ·subst e;exact hy
   ·exact h1 z e
  ·rename_i hy
   split
   ·exact h
   ·rename_i aw
    have hsy:fK0 s y:=dB (by simpa using hy) aw;refine List.pairwise_cons.2 ⟨λz hz=>?_,h⟩;rcases List.mem_cons.1 hz with e|e
    ·subst e;exact hsy
    ·exact xP0 _ _ _ hsy (h1 z e)
def fC (s:List UInt8) (st:List (List UInt8)×Bool) (x:List UInt8):List (List UInt8)×Bool :=
 let st1:=if st.2=false/\Aa x s=false then (st.1++[s],true) else st
 if x=s then st1 else (st1.1++[x],st1.2)
def xJ (s:List UInt8) (st:List (List UInt8)×Bool):List (List UInt8):=if st.2=true then st.1 else st.1++[s]
def aI1 (l:List (List UInt8)) (s:List UInt8):List (List UInt8):=xJ s (l.foldl (fC s) ([],false))
theorem pH {s:List UInt8}:∀ {l out:List (List UInt8)},(∀x∈l,x≠s)->l.foldl (fC s) (out,true)=(out++l,true)
 | [],out,_=>by simp
 | x::l,out,h=>by
  have hx:=h x (by simp)
  have:fC s (out,true) x=(out++[x],true):=by unfold fC;simp[hx]
  rw[Ad,this,pH (by simp_all)];simp
theorem aY0 {s:List UInt8}:∀ {l out:List (List UInt8)},l.Pairwise fK0->xJ s (l.foldl (fC s) (out,false))=out++wD0 l s
 | [],out,_=>by simp[xJ,wD0]
 | x::l,out,h=>by
  obtain⟨h1,h2⟩:=List.pairwise_cons.1 h;rw[Ad];unfold wD0;by_cases hx:Aa x s=true
  ·have aw:x≠s:=by grind [bytesLess_irrefl]
   have:fC s (out,false) x=(out++[x],false):=by unfold fC;simp[hx,aw]
   rw[this,aY0 h2,if_pos hx];simp
  ·have hx':Aa x s=false:=by simpa using hx
   rw[if_neg hx];by_cases he:x=s
   ·subst he
    have:fC x (out,false) x=(out++[x],true):=by unfold fC;simp[hx']
    rw[this,pH (by grind),if_pos rfl];simp[xJ]
   ·have:fC s (out,false) x=(out++[s]++[x],true):=by unfold fC;simp[hx',he]
    have hsx:fK0 s x:=dB hx' he;rw[this,pH (by grind),if_neg he];simp[xJ]
theorem uM0 {l:List (List UInt8)} (h:l.Pairwise fK0) (s:List UInt8):aI1 l s=wD0 l s:=by
 unfold aI1;rw[aY0 h,List.nil_append]
def sU0 (ss:List (List UInt8)):List (List UInt8):=ss.foldl aI1 []
theorem yO:∀(ss:List (List UInt8)) {l:List (List UInt8)},l.Pairwise fK0->(ss.foldl aI1 l).Pairwise fK0/\∀x,x∈ss.foldl aI1 l↔x∈l\/x∈ss
 | [],l,h=>by simp_all
 | s::ss,l,h=>by
  have h1:=pB0 s h;rw[<-uM0 h]at h1;obtain⟨a,b⟩:=yO ss h1;refine⟨a,λx=>?_⟩;rw[Ad,b,uM0 h,fA0,Ae];grind
theorem eD0 (ss:List (List UInt8)):(sU0 ss).Pairwise fK0:=(yO ss List.Pairwise.nil).1
theorem xW (ss:List (List UInt8)) (x:List UInt8):x∈sU0 ss↔x∈ss:=by
 unfold sU0;rw[(yO ss List.Pairwise.nil).2 x];simp
theorem zP {ss l:List (List UInt8)} (h1:l.Pairwise fK0) (h2:∀x,x∈l↔x∈ss):l=sU0 ss :=
 (by grind [kE,gB0,xP0,eD0,xW])
theorem aG1 {ss tt:List (List UInt8)} (h:∀x,x∈ss↔x∈tt):sU0 ss=sU0 tt:=by grind [zP,eD0,xW]
theorem xB {zs:List (List UInt8)} (hs:zs.Pairwise λa b=>Aa b a=false):∀m,m<=zs.length->(Ab zs.toArray m).Pairwise fK0/\∀x,x∈Ab zs.toArray m↔∃j,j<m/\zs.toArray[j]! = x
 | 0,_=>⟨by simp[Ab],λx=>by simp[Ab]⟩
 | m+1,hm=>by
  obtain⟨h1,h2⟩:=xB hs m (by omega)
  have adk:∀i j,i<j->j<zs.length->Aa zs.toArray[j]! zs.toArray[i]! = false:=λi j hij hj=>by
   have:=List.pairwise_iff_getElem.1 hs i j (by omega) hj hij
   rw[getElem!_pos _ _ (by simpa using hj),getElem!_pos _ _ (by simp;omega)];simpa using this
  rw[Lib.compactUpTo_succ];by_cases hk:Ag zs.toArray m=true
  ·rw[if_pos hk]
   constructor
   ·refine List.pairwise_append.2 ⟨h1,by simp,λx hx y hy=>?_⟩
    obtain rfl:y=zs.toArray[m]!:=by simpa using hy
    obtain⟨j,hj,rfl⟩:=(h2 x).1 hx;have kp:m=0\/zs.toArray[m]! ≠ zs.toArray[m-1]!:=by simpa [Ag] using hk
    have aw:zs.toArray[j]! ≠ zs.toArray[m]!:=λe=>by
     rcases kp with h|h
     ·omega
     ·apply h
      apply Ac
      intro hd;have k1:fK0 zs.toArray[m-1]! zs.toArray[m]!:=dB (adk _ _ (by omega) (by omega)) hd;rcases Af j (m-1) with od|od
      ·have k2:=adk j (m-1) od (by omega)
       rw[e]at k2;unfold fK0 at k1;rw[k2]at k1;cases k1
      ·rw[show m-1=j by omega,e]at k1
       exact gB0 _ k1
    exact dB (adk j m hj (by omega)) aw.symm
   ·intro x
    rw[List.mem_append,h2,List.mem_singleton];constructor
    ·rintro(⟨j,hj,e⟩|e)
     ·exact⟨j,by omega,e⟩
     ·exact⟨m,by omega,e.symm⟩
    ·rintro⟨j,hj,e⟩
     rcases Af j m with h|h
     ·exact Or.inl ⟨j,h,e⟩
     ·exact Or.inr (by rw[<-e,show j=m by omega])
  ·rw[if_neg hk,List.append_nil]
   refine⟨h1,λx=>?_⟩;rw[h2];have kp:¬(m=0\/zs.toArray[m]! ≠ zs.toArray[m-1]!):=by simpa [Ag] using hk
   have hm0:m≠0:=λh=>kp (Or.inl h);have he:zs.toArray[m]! = zs.toArray[m-1]!:=Ac λh=>kp (Or.inr h);constructor
   ·rintro⟨j,hj,e⟩;exact⟨j,by omega,e⟩
   ·rintro⟨j,hj,e⟩
    rcases Af j m with h|h
    ·exact⟨j,h,e⟩
    ·exact⟨m-1,by omega,by rw[<-e,show j=m by omega,he]⟩
theorem kW0 {zs:List (List UInt8)} (hs:zs.Pairwise λa b=>Aa b a=false):Ah zs=sU0 zs:=by
 obtain⟨h1,h2⟩:=xB hs zs.length (Nat.le_refl _);refine zP h1 λx=>?_;show x∈Ab zs.toArray zs.length↔_
 rw[h2];constructor
 ·grind
 ·intro hx
  obtain⟨j,hj,e⟩:=List.mem_iff_getElem.1 hx;exact⟨j,hj,by simp_all⟩
theorem lW0 (ss:List (List UInt8)):(ss.mergeSort λx y=>decide (x<=y)).Pairwise λa b=>Aa b a=false:=by
 have h:=List.pairwise_mergeSort (le:=λx y:List UInt8=>decide (x<=y)) (by grind) (by grind) ss;refine h.imp λ{a b} qd=>?_;rw[bytesLess_eq];simp_all
theorem vU (ss:List (List UInt8)):Ah (ss.mergeSort λx y=>decide (x<=y))=sU0 ss:=by
 grind [kW0,lW0,aG1,List.mem_mergeSort]
end Go.Proofs.YtiopheoljccmpaaGreatDoor
