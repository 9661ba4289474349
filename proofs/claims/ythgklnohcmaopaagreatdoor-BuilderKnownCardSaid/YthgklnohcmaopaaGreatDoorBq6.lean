/- The texts SetP, one behind the other. -/
import Derived.Test.YthgklnohcmaopaaGreatDoorBq2
import Derived.Lib.SlicesCompact
import Derived.Sort.Walk0
open Go.Op renaming bytesLess → Aa
open Go.Lib renaming compactUpTo → Ab,keeps → Ag,compact → Ah
open Classical renaming byContradiction → Ac
open List renaming foldl_cons → Ad,mem_cons → Ae
open Nat renaming lt_or_ge → Af
namespace Go.Proofs.YthgklnohcmaopaaGreatDoor
open Go
abbrev xS (a b:List UInt8):Prop:=Aa a b=true
theorem yK (a:List UInt8):¬xS a a:=by unfold xS; rw[bytesLess_irrefl]; decide
theorem oT0 (a b c:List UInt8) (h1:xS a b) (h2:xS b c):xS a c:=eI h1 h2
def kZ0:List (List UInt8)->List UInt8->List (List UInt8)
 | [],s=>[s]
 | x::l,s=>if Aa x s=true then x::kZ0 l s else if x=s then x::l else s::x::l
theorem zB:∀(l:List (List UInt8)) (s x:List UInt8),x∈kZ0 l s↔x=s\/x∈l
 | [],s,x=>by simp[kZ0]
 | y::l,s,x=>by
  unfold kZ0;split
  ·rw[Ae,zB l s x,Ae]
   grind
  grind
theorem gI0:∀ {l:List (List UInt8)} (s:List UInt8),l.Pairwise xS->(kZ0 l s).Pairwise xS
 | [],s,_=>by simp[kZ0]
 | y::l,s,h=>by
  obtain⟨h1,h2⟩:=List.pairwise_cons.1 h;unfold kZ0;split
  ·rename_i hy
   refine List.pairwise_cons.2 ⟨λz hz=>?_,gI0 s h2⟩;rcases (zB l s z).1 hz with e|e
   ·subst e;exact hy
   ·exact h1 z e
  ·rename_i hy
   split
   ·exact h
   ·rename_i aq
    have hsy:xS s y:=cT (by simpa using hy) aq;refine List.pairwise_cons.2 ⟨λz hz=>?_,h⟩;rcases List.mem_cons.1 hz with e|e
    ·subst e;exact hsy
    ·exact oT0 _ _ _ hsy (h1 z e)
def iD (s:List UInt8) (st:List (List UInt8)×Bool) (x:List UInt8):List (List UInt8)×Bool :=
 let st1:=if st.2=false/\Aa x s=false then (st.1++[s],true) else st
 if x=s then st1 else (st1.1++[x],st1.2)
def bC0 (s:List UInt8) (st:List (List UInt8)×Bool):List (List UInt8):=if st.2=true then st.1 else st.1++[s]
def xV0 (l:List (List UInt8)) (s:List UInt8):List (List UInt8):=bC0 s (l.foldl (iD s) ([],false))
theorem lL {s:List UInt8}:∀ {l out:List (List UInt8)},(∀x∈l,x≠s)->l.foldl (iD s) (out,true)=(out++l,true)
 | [],out,_=>by simp
 | x::l,out,h=>by
  have hx:=h x (by simp)
  have:iD s (out,true) x=(out++[x],true):=by unfold iD;simp[hx]
  rw[Ad,this,lL (by simp_all)];simp
theorem tY {s:List UInt8}:∀ {l out:List (List UInt8)},l.Pairwise xS->bC0 s (l.foldl (iD s) (out,false))=out++kZ0 l s
 | [],out,_=>by simp[bC0,kZ0]
 | x::l,out,h=>by
  obtain⟨h1,h2⟩:=List.pairwise_cons.1 h;rw[Ad];unfold kZ0;by_cases hx:Aa x s=true
  ·have aq:x≠s:=by grind [bytesLess_irrefl]
   have:iD s (out,false) x=(out++[x],false):=by unfold iD;simp[hx,aq]
   rw[this,tY h2,if_pos hx];simp
  ·have hx':Aa x s=false:=by simpa using hx
   rw[if_neg hx];by_cases he:x=s
   ·subst he
    have:iD x (out,false) x=(out++[x],true):=by unfold iD;simp[hx']
    rw[this,lL (by grind),if_pos rfl];simp[bC0]
   ·have:iD s (out,false) x=(out++[s]++[x],true):=by unfold iD;simp[hx',he]
    have hsx:xS s x:=cT hx' he;rw[this,lL (by grind),if_neg he];simp[bC0]
theorem pP0 {l:List (List UInt8)} (h:l.Pairwise xS) (s:List UInt8):xV0 l s=kZ0 l s:=by
 unfold xV0;rw[tY h,List.nil_append]
def kX0 (ss:List (List UInt8)):List (List UInt8):=ss.foldl xV0 []
theorem sY:∀(ss:List (List UInt8)) {l:List (List UInt8)},l.Pairwise xS->(ss.foldl xV0 l).Pairwise xS/\∀x,x∈ss.foldl xV0 l↔x∈l\/x∈ss
 | [],l,h=>by simp_all
 | s::ss,l,h=>by
  have h1:=gI0 s h;rw[<-pP0 h]at h1;obtain⟨a,b⟩:=sY ss h1;refine⟨a,λx=>?_⟩;rw[Ad,b,pP0 h,zB,Ae];grind
theorem yR (ss:List (List UInt8)):(kX0 ss).Pairwise xS:=(sY ss List.Pairwise.nil).1
theorem rL (ss:List (List UInt8)) (x:List UInt8):x∈kX0 ss↔x∈ss:=by
 unfold kX0;rw[(sY ss List.Pairwise.nil).2 x];simp
theorem tL {ss l:List (List UInt8)} (h1:l.Pairwise xS) (h2:∀x,x∈l↔x∈ss):l=kX0 ss :=
 (by grind [iQ,yK,oT0,yR,rL])
theorem lB0 {ss tt:List (List UInt8)} (h:∀x,x∈ss↔x∈tt):kX0 ss=kX0 tt:=by grind [tL,yR,rL]
theorem qM {zs:List (List UInt8)} (hs:zs.Pairwise λa b=>Aa b a=false):∀m,m<=zs.length->(Ab zs.toArray m).Pairwise xS/\∀x,x∈Ab zs.toArray m↔∃j,j<m/\zs.toArray[j]! = x
 | 0,_=>⟨by simp[Ab],λx=>by simp[Ab]⟩
 | m+1,hm=>by
  obtain⟨h1,h2⟩:=qM hs m (by omega)
  have yq:∀i j,i<j->j<zs.length->Aa zs.toArray[j]! zs.toArray[i]! = false:=λi j rp hj=>by
   have:=List.pairwise_iff_getElem.1 hs i j (by omega) hj rp
   rw[getElem!_pos _ _ (by simpa using hj),getElem!_pos _ _ (by simp;omega)];simpa using this
  rw[Lib.compactUpTo_succ];by_cases hk:Ag zs.toArray m=true
  ·rw[if_pos hk]
   constructor
   ·refine List.pairwise_append.2 ⟨h1,by simp,λx hx y hy=>?_⟩
    obtain rfl:y=zs.toArray[m]!:=by simpa using hy
    obtain⟨j,hj,rfl⟩:=(h2 x).1 hx;have qt:m=0\/zs.toArray[m]! ≠ zs.toArray[m-1]!:=by simpa [Ag] using hk
    have aq:zs.toArray[j]! ≠ zs.toArray[m]!:=λe=>by
     rcases qt with h|h
     ·omega
     ·apply h
      apply Ac
      intro hd;have k1:xS zs.toArray[m-1]! zs.toArray[m]!:=cT (yq _ _ (by omega) (by omega)) hd;rcases Af j (m-1) with jw|jw
      ·have k2:=yq j (m-1) jw (by omega)
       rw[e]at k2;unfold xS at k1;rw[k2]at k1;cases k1
      ·rw[show m-1=j by omega,e]at k1
       exact yK _ k1
    exact cT (yq j m hj (by omega)) aq.symm
   ·intro x
    rw[List.mem_append,h2,List.mem_singleton];constructor
    ·rintro(⟨j,hj,e⟩|e)
     ·exact⟨j,by omega,e⟩
     ·exact⟨m,by omega,e.symm⟩
    ·rintro⟨j,hj,e⟩
     rcases Af j m with h|h
     ·exact Or.inl ⟨j,h,e⟩
     ·exact Or.inr (by rw[<-e,show j=m by omega])
  ·rw[if_neg hk,List.append_nil]
   refine⟨h1,λx=>?_⟩;rw[h2];have qt:¬(m=0\/zs.toArray[m]! ≠ zs.toArray[m-1]!):=by simpa [Ag] using hk
   have hm0:m≠0:=λh=>qt (Or.inl h);have he:zs.toArray[m]! = zs.toArray[m-1]!:=Ac λh=>qt (Or.inr h);constructor
   ·rintro⟨j,hj,e⟩;exact⟨j,by omega,e⟩
   ·rintro⟨j,hj,e⟩
    rcases Af j m with h|h
    ·exact⟨j,h,e⟩
    ·exact⟨m-1,by omega,by rw[<-e,show j=m by omega,he]⟩
theorem dB0 {zs:List (List UInt8)} (hs:zs.Pairwise λa b=>Aa b a=false):Ah zs=kX0 zs:=by
 obtain⟨h1,h2⟩:=qM hs zs.length (Nat.le_refl _);refine tL h1 λx=>?_;show x∈Ab zs.toArray zs.length↔_
 rw[h2];constructor
 ·grind
 ·intro hx
  obtain⟨j,hj,e⟩:=List.mem_iff_getElem.1 hx;exact⟨j,hj,by simp_all⟩
theorem eE0 (ss:List (List UInt8)):(ss.mergeSort λx y=>decide (x<=y)).Pairwise λa b=>Aa b a=false:=by
 have h:=List.pairwise_mergeSort (le:=λx y:List UInt8=>decide (x<=y)) (by grind) (by grind) ss;refine h.imp λ{a b} j7=>?_;rw[bytesLess_eq];simp_all
theorem qL (ss:List (List UInt8)):Ah (ss.mergeSort λx y=>decide (x<=y))=kX0 ss:=by
 grind [dB0,eE0,lB0,List.mem_mergeSort]
end Go.Proofs.YthgklnohcmaopaaGreatDoor
