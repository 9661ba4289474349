/- The texts SetP, one behind the other. -/
import Derived.Test.YtjhajgffmnkocaaGreatDoorPq2
import Derived.Lib.SlicesCompact
import Derived.Sort.Walk0
open Go.Op renaming bytesLess → Aa
open Go.Lib renaming compactUpTo → Ab,keeps → Ag,compact → Ah
open Classical renaming byContradiction → Ac
open List renaming foldl_cons → Ad,mem_cons → Ae
open Nat renaming lt_or_ge → Af
namespace Go.Proofs.YtjhajgffmnkocaaGreatDoor
open Go
abbrev gD0 (a b:List UInt8):Prop:=Aa a b=true
theorem xW (a:List UInt8):¬gD0 a a:=by unfold gD0; rw[bytesLess_irrefl]; decide
theorem mX0 (a b c:List UInt8) (h1:gD0 a b) (h2:gD0 b c):gD0 a c:=fW h1 h2
def bL1:List (List UInt8)->List UInt8->List (List UInt8)
 | [],s=>[s]
 | x::l,s=>if Aa x s=true then x::bL1 l s else if x=s then x::l else s::x::l
theorem eT0:∀(l:List (List UInt8)) (s x:List UInt8),x∈bL1 l s↔x=s\/x∈l
 | [],s,x=>by simp[bL1]
 | y::l,s,x=>by
  unfold bL1;split
  ·rw[Ae,eT0 l s x,Ae]
   grind
  grind
theorem pQ0:∀ {l:List (List UInt8)} (s:List UInt8),l.Pairwise gD0->(bL1 l s).Pairwise gD0
 | [],s,_=>by simp[bL1]
 | y::l,s,h=>by
  obtain⟨h1,h2⟩:=List.pairwise_cons.1 h;unfold bL1;split
  ·rename_i hy
   refine List.pairwise_cons.2 ⟨λz hz=>?_,pQ0 s h2⟩;rcases (eT0 l s z).1 hz with e|e
   ·subst e;exact hy
   ·exact h1 z e
  ·rename_i hy
   split
   ·exact h
   ·rename_i ak
    have hsy:gD0 s y:=dO (by simpa using hy) ak;refine List.pairwise_cons.2 ⟨λz hz=>?_,h⟩;rcases List.mem_cons.1 hz with e|e
    ·subst e;exact hsy
    ·exact mX0 _ _ _ hsy (h1 z e)
def kL (s:List UInt8) (st:List (List UInt8)×Bool) (x:List UInt8):List (List UInt8)×Bool :=
 let st1:=if st.2=false/\Aa x s=false then (st.1++[s],true) else st
 if x=s then st1 else (st1.1++[x],st1.2)
def jA0 (s:List UInt8) (st:List (List UInt8)×Bool):List (List UInt8):=if st.2=true then st.1 else st.1++[s]
def nM1 (l:List (List UInt8)) (s:List UInt8):List (List UInt8):=jA0 s (l.foldl (kL s) ([],false))
theorem oX {s:List UInt8}:∀ {l out:List (List UInt8)},(∀x∈l,x≠s)->l.foldl (kL s) (out,true)=(out++l,true)
 | [],out,_=>by simp
 | x::l,out,h=>by
  have hx:=h x (by simp)
  have:kL s (out,true) x=(out++[x],true):=by unfold kL;simp[hx]
  rw[Ad,this,oX (by simp_all)];simp
theorem aD0 {s:List UInt8}:∀ {l out:List (List UInt8)},l.Pairwise gD0->jA0 s (l.foldl (kL s) (out,false))=out++bL1 l s
 | [],out,_=>by simp[jA0,bL1]
 | x::l,out,h=>by
  obtain⟨h1,h2⟩:=List.pairwise_cons.1 h;rw[Ad];unfold bL1;by_cases hx:Aa x s=true
  ·have ak:x≠s:=by grind [bytesLess_irrefl]
   have:kL s (out,false) x=(out++[x],false):=by unfold kL;simp[hx,ak]
   rw[this,aD0 h2,if_pos hx];simp
  ·have hx':Aa x s=false:=by simpa using hx
   rw[if_neg hx];by_cases he:x=s
   ·subst he
    have:kL x (out,false) x=(out++[x],true):=by unfold kL;simp[hx']
    rw[this,oX (by grind),if_pos rfl];simp[jA0]
   ·have:kL s (out,false) x=(out++[s]++[x],true):=by unfold kL;simp[hx',he]
    have hsx:gD0 s x:=dO hx' he;rw[this,oX (by grind),if_neg he];simp[jA0]
theorem aK1 {l:List (List UInt8)} (h:l.Pairwise gD0) (s:List UInt8):nM1 l s=bL1 l s:=by
 unfold nM1;rw[aD0 h,List.nil_append]
def qP0 (ss:List (List UInt8)):List (List UInt8):=ss.foldl nM1 []
theorem aQ0:∀(ss:List (List UInt8)) {l:List (List UInt8)},l.Pairwise gD0->(ss.foldl nM1 l).Pairwise gD0/\∀x,x∈ss.foldl nM1 l↔x∈l\/x∈ss
 | [],l,h=>by simp_all
 | s::ss,l,h=>by
  have h1:=pQ0 s h;rw[<-aK1 h]at h1;obtain⟨a,b⟩:=aQ0 ss h1;refine⟨a,λx=>?_⟩;rw[Ad,b,aK1 h,eT0,Ae];grind
theorem xX (ss:List (List UInt8)):(qP0 ss).Pairwise gD0:=(aQ0 ss List.Pairwise.nil).1
theorem xO (ss:List (List UInt8)) (x:List UInt8):x∈qP0 ss↔x∈ss:=by
 unfold qP0;rw[(aQ0 ss List.Pairwise.nil).2 x];simp
theorem aN0 {ss l:List (List UInt8)} (h1:l.Pairwise gD0) (h2:∀x,x∈l↔x∈ss):l=qP0 ss :=
 (by grind [iO,xW,mX0,xX,xO])
theorem bE1 {ss tt:List (List UInt8)} (h:∀x,x∈ss↔x∈tt):qP0 ss=qP0 tt:=by grind [aN0,xX,xO]
theorem vT {zs:List (List UInt8)} (hs:zs.Pairwise λa b=>Aa b a=false):∀m,m<=zs.length->(Ab zs.toArray m).Pairwise gD0/\∀x,x∈Ab zs.toArray m↔∃j,j<m/\zs.toArray[j]! = x
 | 0,_=>⟨by simp[Ab],λx=>by simp[Ab]⟩
 | m+1,hm=>by
  obtain⟨h1,h2⟩:=vT hs m (by omega)
  have ach:∀i j,i<j->j<zs.length->Aa zs.toArray[j]! zs.toArray[i]! = false:=λi j r9 hj=>by
   have:=List.pairwise_iff_getElem.1 hs i j (by omega) hj r9
   rw[getElem!_pos _ _ (by simpa using hj),getElem!_pos _ _ (by simp;omega)];simpa using this
  rw[Lib.compactUpTo_succ];by_cases hk:Ag zs.toArray m=true
  ·rw[if_pos hk]
   constructor
   ·refine List.pairwise_append.2 ⟨h1,by simp,λx hx y hy=>?_⟩
    obtain rfl:y=zs.toArray[m]!:=by simpa using hy
    obtain⟨j,hj,rfl⟩:=(h2 x).1 hx;have yw:m=0\/zs.toArray[m]! ≠ zs.toArray[m-1]!:=by simpa [Ag] using hk
    have ak:zs.toArray[j]! ≠ zs.toArray[m]!:=λe=>by
     rcases yw with h|h
     ·omega
     ·apply h
      apply Ac
      intro hd;have k1:gD0 zs.toArray[m-1]! zs.toArray[m]!:=dO (ach _ _ (by omega) (by omega)) hd;rcases Af j (m-1) with nr|nr
      ·have k2:=ach j (m-1) nr (by omega)
       rw[e]at k2;unfold gD0 at k1;rw[k2]at k1;cases k1
      ·rw[show m-1=j by omega,e]at k1
       exact xW _ k1
    exact dO (ach j m hj (by omega)) ak.symm
   ·intro x
    rw[List.mem_append,h2,List.mem_singleton];constructor
    ·rintro(⟨j,hj,e⟩|e)
     ·exact⟨j,by omega,e⟩
     ·exact⟨m,by omega,e.symm⟩
    ·rintro⟨j,hj,e⟩
     rcases Af j m with h|h
     ·exact Or.inl ⟨j,h,e⟩
     ·exact Or.inr (by rw[<-e,show j=m by omega])
  ·rw[if_neg hk,List.append_nil]
   refine⟨h1,λx=>?_⟩;rw[h2];have yw:¬(m=0\/zs.toArray[m]! ≠ zs.toArray[m-1]!):=by simpa [Ag] using hk
   have hm0:m≠0:=λh=>yw (Or.inl h);have he:zs.toArray[m]! = zs.toArray[m-1]!:=Ac λh=>yw (Or.inr h);constructor
   ·rintro⟨j,hj,e⟩;exact⟨j,by omega,e⟩
   ·rintro⟨j,hj,e⟩
    rcases Af j m with h|h
    ·exact⟨j,h,e⟩
    ·exact⟨m-1,by omega,by rw[<-e,show j=m by omega,he]⟩
theorem mB0 {zs:List (List UInt8)} (hs:zs.Pairwise λa b=>Aa b a=false):Ah zs=qP0 zs:=by
 obtain⟨h1,h2⟩:=vT hs zs.length (Nat.le_refl _);refine aN0 h1 λx=>?_;show x∈Ab zs.toArray zs.length↔_
 rw[h2];constructor
 ·grind
 ·intro hx
  obtain⟨j,hj,e⟩:=List.mem_iff_getElem.1 hx;exact⟨j,hj,by simp_all⟩
theorem nU0 (ss:List (List UInt8)):(ss.mergeSort λx y=>decide (x<=y)).Pairwise λa b=>Aa b a=false:=by
 have h:=List.pairwise_mergeSort (le:=λx y:List UInt8=>decide (x<=y)) (by grind) (by grind) ss;refine h.imp λ{a b} eo=>?_;rw[bytesLess_eq];simp_all
theorem wF (ss:List (List UInt8)):Ah (ss.mergeSort λx y=>decide (x<=y))=qP0 ss:=by
 grind [mB0,nU0,bE1,List.mem_mergeSort]
end Go.Proofs.YtjhajgffmnkocaaGreatDoor
