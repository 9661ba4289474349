/- The texts SetP, one behind the other. -/
import Derived.Test.YtaogeadljgjpcaaGreatDoorRq2
import Derived.Lib.SlicesCompact
import Derived.Sort.Walk0
open Go.Op renaming bytesLess → Aa
open Go.Lib renaming compactUpTo → Ab,keeps → Ag,compact → Ah
open Classical renaming byContradiction → Ac
open List renaming foldl_cons → Ad,mem_cons → Ae
open Nat renaming lt_or_ge → Af
namespace Go.Proofs.YtaogeadljgjpcaaGreatDoor
open Go
abbrev fI0 (a b:List UInt8):Prop:=Aa a b=true
theorem xX (a:List UInt8):¬fI0 a a:=by unfold fI0; rw[bytesLess_irrefl]; decide
theorem mZ0 (a b c:List UInt8) (h1:fI0 a b) (h2:fI0 b c):fI0 a c:=gF h1 h2
def xI0:List (List UInt8)->List UInt8->List (List UInt8)
 | [],s=>[s]
 | x::l,s=>if Aa x s=true then x::xI0 l s else if x=s then x::l else s::x::l
theorem fL0:∀(l:List (List UInt8)) (s x:List UInt8),x∈xI0 l s↔x=s\/x∈l
 | [],s,x=>by simp[xI0]
 | y::l,s,x=>by
  unfold xI0;split
  ·rw[Ae,fL0 l s x,Ae]
   grind
  grind
theorem pH0:∀ {l:List (List UInt8)} (s:List UInt8),l.Pairwise fI0->(xI0 l s).Pairwise fI0
 | [],s,_=>by simp[xI0]
 | y::l,s,h=>by
  obtain⟨h1,h2⟩:=List.pairwise_cons.1 h;unfold xI0;split
  ·rename_i hy
   refine List.pairwise_cons.2 ⟨λz hz=>?_,pH0 s h2⟩;rcases (fL0 l s z).1 hz with e|e
   ·subst e;exact hy
   ·exact h1 z e
  ·rename_i hy
   split
   ·exact h
   ·rename_i aj
    have hsy:fI0 s y:=dT (by simpa using hy) aj;refine List.pairwise_cons.2 ⟨λz hz=>?_,h⟩;rcases List.mem_cons.1 hz with e|e
    ·subst e;exact hsy
    ·exact mZ0 _ _ _ hsy (h1 z e)
def kV (s:List UInt8) (st:List (List UInt8)×Bool) (x:List UInt8):List (List UInt8)×Bool :=
 let st1:=if st.2=false/\Aa x s=false then (st.1++[s],true) else st
 if x=s then st1 else (st1.1++[x],st1.2)
def iP0 (s:List UInt8) (st:List (List UInt8)×Bool):List (List UInt8):=if st.2=true then st.1 else st.1++[s]
def oW1 (l:List (List UInt8)) (s:List UInt8):List (List UInt8):=iP0 s (l.foldl (kV s) ([],false))
theorem pE {s:List UInt8}:∀ {l out:List (List UInt8)},(∀x∈l,x≠s)->l.foldl (kV s) (out,true)=(out++l,true)
 | [],out,_=>by simp
 | x::l,out,h=>by
  have hx:=h x (by simp)
  have:kV s (out,true) x=(out++[x],true):=by unfold kV;simp[hx]
  rw[Ad,this,pE (by simp_all)];simp
theorem zW {s:List UInt8}:∀ {l out:List (List UInt8)},l.Pairwise fI0->iP0 s (l.foldl (kV s) (out,false))=out++xI0 l s
 | [],out,_=>by simp[iP0,xI0]
 | x::l,out,h=>by
  obtain⟨h1,h2⟩:=List.pairwise_cons.1 h;rw[Ad];unfold xI0;by_cases hx:Aa x s=true
  ·have aj:x≠s:=by grind [bytesLess_irrefl]
   have:kV s (out,false) x=(out++[x],false):=by unfold kV;simp[hx,aj]
   rw[this,zW h2,if_pos hx];simp
  ·have qw:Aa x s=false:=by simpa using hx
   rw[if_neg hx];by_cases he:x=s
   ·subst he
    have:kV x (out,false) x=(out++[x],true):=by unfold kV;simp[qw]
    rw[this,pE (by grind),if_pos rfl];simp[iP0]
   ·have:kV s (out,false) x=(out++[s]++[x],true):=by unfold kV;simp[qw,he]
    have hsx:fI0 s x:=dT qw he;rw[this,pE (by grind),if_neg he];simp[iP0]
theorem aO1 {l:List (List UInt8)} (h:l.Pairwise fI0) (s:List UInt8):oW1 l s=xI0 l s:=by
 unfold oW1;rw[zW h,List.nil_append]
def rP0 (ss:List (List UInt8)):List (List UInt8):=ss.foldl oW1 []
theorem yN:∀(ss:List (List UInt8)) {l:List (List UInt8)},l.Pairwise fI0->(ss.foldl oW1 l).Pairwise fI0/\∀x,x∈ss.foldl oW1 l↔x∈l\/x∈ss
 | [],l,h=>by simp_all
 | s::ss,l,h=>by
  have h1:=pH0 s h;rw[<-aO1 h]at h1;obtain⟨a,b⟩:=yN ss h1;refine⟨a,λx=>?_⟩;rw[Ad,b,aO1 h,fL0,Ae];grind
theorem yA (ss:List (List UInt8)):(rP0 ss).Pairwise fI0:=(yN ss List.Pairwise.nil).1
theorem yG (ss:List (List UInt8)) (x:List UInt8):x∈rP0 ss↔x∈ss:=by
 unfold rP0;rw[(yN ss List.Pairwise.nil).2 x];simp
theorem zV {ss l:List (List UInt8)} (h1:l.Pairwise fI0) (h2:∀x,x∈l↔x∈ss):l=rP0 ss :=
 (by grind [iT,xX,mZ0,yA,yG])
theorem wP0 {ss tt:List (List UInt8)} (h:∀x,x∈ss↔x∈tt):rP0 ss=rP0 tt:=by grind [zV,yA,yG]
theorem wY {zs:List (List UInt8)} (hs:zs.Pairwise λa b=>Aa b a=false):∀m,m<=zs.length->(Ab zs.toArray m).Pairwise fI0/\∀x,x∈Ab zs.toArray m↔∃j,j<m/\zs.toArray[j]! = x
 | 0,_=>⟨by simp[Ab],λx=>by simp[Ab]⟩
 | m+1,hm=>by
  obtain⟨h1,h2⟩:=wY hs m (by omega)
  have acg:∀i j,i<j->j<zs.length->Aa zs.toArray[j]! zs.toArray[i]! = false:=λi j jf hj=>by
   have:=List.pairwise_iff_getElem.1 hs i j (by omega) hj jf
   rw[getElem!_pos _ _ (by simpa using hj),getElem!_pos _ _ (by simp;omega)];simpa using this
  rw[Lib.compactUpTo_succ];by_cases hk:Ag zs.toArray m=true
  ·rw[if_pos hk]
   constructor
   ·refine List.pairwise_append.2 ⟨h1,by simp,λx hx y hy=>?_⟩
    obtain rfl:y=zs.toArray[m]!:=by simpa using hy
    obtain⟨j,hj,rfl⟩:=(h2 x).1 hx;have nf:m=0\/zs.toArray[m]! ≠ zs.toArray[m-1]!:=by simpa [Ag] using hk
    have aj:zs.toArray[j]! ≠ zs.toArray[m]!:=λe=>by
     rcases nf with h|h
     ·omega
     ·apply h
      apply Ac
      intro hd;have k1:fI0 zs.toArray[m-1]! zs.toArray[m]!:=dT (acg _ _ (by omega) (by omega)) hd;rcases Af j (m-1) with lf|lf
      ·have k2:=acg j (m-1) lf (by omega)
       rw[e]at k2;unfold fI0 at k1;rw[k2]at k1;cases k1
      ·rw[show m-1=j by omega,e]at k1
       exact xX _ k1
    exact dT (acg j m hj (by omega)) aj.symm
   ·intro x
    rw[List.mem_append,h2,List.mem_singleton];constructor
    ·rintro(⟨j,hj,e⟩|e)
     ·exact⟨j,by omega,e⟩
     ·exact⟨m,by omega,e.symm⟩
    ·rintro⟨j,hj,e⟩
     rcases Af j m with h|h
     ·exact Or.inl ⟨j,h,e⟩
     ·exact Or.inr (by rw[<-e,show j=m by omega])
  ·rw[if_neg hk,List.append_nil]
   refine⟨h1,λx=>?_⟩;rw[h2];have nf:¬(m=0\/zs.toArray[m]! ≠ zs.toArray[m-1]!):=by simpa [Ag] using hk
   have hm0:m≠0:=λh=>nf (Or.inl h);have he:zs.toArray[m]! = zs.toArray[m-1]!:=Ac λh=>nf (Or.inr h);constructor
   ·rintro⟨j,hj,e⟩;exact⟨j,by omega,e⟩
   ·rintro⟨j,hj,e⟩
    rcases Af j m with h|h
    ·exact⟨j,h,e⟩
    ·exact⟨m-1,by omega,by rw[<-e,show j=m by omega,he]⟩
theorem mJ0 {zs:List (List UInt8)} (hs:zs.Pairwise λa b=>Aa b a=false):Ah zs=rP0 zs:=by
 obtain⟨h1,h2⟩:=wY hs zs.length (Nat.le_refl _);refine zV h1 λx=>?_;show x∈Ab zs.toArray zs.length↔_
 rw[h2];constructor
 ·grind
 ·intro hx
  obtain⟨j,hj,e⟩:=List.mem_iff_getElem.1 hx;exact⟨j,hj,by simp_all⟩
theorem oM0 (ss:List (List UInt8)):(ss.mergeSort λx y=>decide (x<=y)).Pairwise λa b=>Aa b a=false:=by
 have h:=List.pairwise_mergeSort (le:=λx y:List UInt8=>decide (x<=y)) (by grind) (by grind) ss;refine h.imp λ{a b} ic=>?_;rw[bytesLess_eq];simp_all
theorem vO (ss:List (List UInt8)):Ah (ss.mergeSort λx y=>decide (x<=y))=rP0 ss:=by
 grind [mJ0,oM0,wP0,List.mem_mergeSort]
end Go.Proofs.YtaogeadljgjpcaaGreatDoor
