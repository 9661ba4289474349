/- The texts SetP, one behind the other. -/
import Derived.Test.YthgklnohcmaopaaGreatDoorLq2
import Derived.Lib.SlicesCompact
import Derived.Sort.Walk0
open Go.Op renaming bytesLess → Aa
open Go.Lib renaming compactUpTo → Ab,keeps → Ag,compact → Ah
open Classical renaming byContradiction → Ac
open List renaming foldl_cons → Ad,mem_cons → Ae
open Nat renaming lt_or_ge → Af
namespace Go.Proofs.YthgklnohcmaopaaGreatDoor
open Go
abbrev fW0 (a b:List UInt8):Prop:=Aa a b=true
theorem yW (a:List UInt8):¬fW0 a a:=by unfold fW0; rw[bytesLess_irrefl]; decide
theorem nC0 (a b c:List UInt8) (h1:fW0 a b) (h2:fW0 b c):fW0 a c:=gK h1 h2
def dQ1:List (List UInt8)->List UInt8->List (List UInt8)
 | [],s=>[s]
 | x::l,s=>if Aa x s=true then x::dQ1 l s else if x=s then x::l else s::x::l
theorem iB0:∀(l:List (List UInt8)) (s x:List UInt8),x∈dQ1 l s↔x=s\/x∈l
 | [],s,x=>by simp[dQ1]
 | y::l,s,x=>by
  unfold dQ1;split
  ·rw[Ae,iB0 l s x,Ae]
   grind
  grind
theorem rR0:∀ {l:List (List UInt8)} (s:List UInt8),l.Pairwise fW0->(dQ1 l s).Pairwise fW0
 | [],s,_=>by simp[dQ1]
 | y::l,s,h=>by
  obtain⟨h1,h2⟩:=List.pairwise_cons.1 h;unfold dQ1;split
  ·rename_i hy
   refine List.pairwise_cons.2 ⟨λz hz=>?_,rR0 s h2⟩;rcases (iB0 l s z).1 hz with e|e
   ·subst e;exact hy
   ·exact h1 z e
  ·rename_i hy
   split
   ·exact h
   ·rename_i aj
    have hsy:fW0 s y:=dW (by simpa using hy) aj;refine List.pairwise_cons.2 ⟨λz hz=>?_,h⟩;rcases List.mem_cons.1 hz with e|e
    ·subst e;exact hsy
    ·exact nC0 _ _ _ hsy (h1 z e)
def lH (s:List UInt8) (st:List (List UInt8)×Bool) (x:List UInt8):List (List UInt8)×Bool :=
 let st1:=if st.2=false/\Aa x s=false then (st.1++[s],true) else st
 if x=s then st1 else (st1.1++[x],st1.2)
def jR0 (s:List UInt8) (st:List (List UInt8)×Bool):List (List UInt8):=if st.2=true then st.1 else st.1++[s]
def pM1 (l:List (List UInt8)) (s:List UInt8):List (List UInt8):=jR0 s (l.foldl (lH s) ([],false))
theorem pL {s:List UInt8}:∀ {l out:List (List UInt8)},(∀x∈l,x≠s)->l.foldl (lH s) (out,true)=(out++l,true)
 | [],out,_=>by simp
 | x::l,out,h=>by
  have hx:=h x (by simp)
  have:lH s (out,true) x=(out++[x],true):=by unfold lH;simp[hx]
  rw[Ad,this,pL (by simp_all)];simp
theorem zK {s:List UInt8}:∀ {l out:List (List UInt8)},l.Pairwise fW0->jR0 s (l.foldl (lH s) (out,false))=out++dQ1 l s
 | [],out,_=>by simp[jR0,dQ1]
 | x::l,out,h=>by
  obtain⟨h1,h2⟩:=List.pairwise_cons.1 h;rw[Ad];unfold dQ1;by_cases hx:Aa x s=true
  ·have aj:x≠s:=by grind [bytesLess_irrefl]
   have:lH s (out,false) x=(out++[x],false):=by unfold lH;simp[hx,aj]
   rw[this,zK h2,if_pos hx];simp
  ·have q8:Aa x s=false:=by simpa using hx
   rw[if_neg hx];by_cases he:x=s
   ·subst he
    have:lH x (out,false) x=(out++[x],true):=by unfold lH;simp[q8]
    rw[this,pL (by grind),if_pos rfl];simp[jR0]
   ·have:lH s (out,false) x=(out++[s]++[x],true):=by unfold lH;simp[q8,he]
    have hsx:fW0 s x:=dW q8 he;rw[this,pL (by grind),if_neg he];simp[jR0]
theorem wV0 {l:List (List UInt8)} (h:l.Pairwise fW0) (s:List UInt8):pM1 l s=dQ1 l s:=by
 unfold pM1;rw[zK h,List.nil_append]
def qJ0 (ss:List (List UInt8)):List (List UInt8):=ss.foldl pM1 []
theorem zF:∀(ss:List (List UInt8)) {l:List (List UInt8)},l.Pairwise fW0->(ss.foldl pM1 l).Pairwise fW0/\∀x,x∈ss.foldl pM1 l↔x∈l\/x∈ss
 | [],l,h=>by simp_all
 | s::ss,l,h=>by
  have h1:=rR0 s h;rw[<-wV0 h]at h1;obtain⟨a,b⟩:=zF ss h1;refine⟨a,λx=>?_⟩;rw[Ad,b,wV0 h,iB0,Ae];grind
theorem sS (ss:List (List UInt8)):(qJ0 ss).Pairwise fW0:=(zF ss List.Pairwise.nil).1
theorem yI (ss:List (List UInt8)) (x:List UInt8):x∈qJ0 ss↔x∈ss:=by
 unfold qJ0;rw[(zF ss List.Pairwise.nil).2 x];simp
theorem bE0 {ss l:List (List UInt8)} (h1:l.Pairwise fW0) (h2:∀x,x∈l↔x∈ss):l=qJ0 ss :=
 (by grind [iV,yW,nC0,sS,yI])
theorem dH1 {ss tt:List (List UInt8)} (h:∀x,x∈ss↔x∈tt):qJ0 ss=qJ0 tt:=by grind [bE0,sS,yI]
theorem wZ {zs:List (List UInt8)} (hs:zs.Pairwise λa b=>Aa b a=false):∀m,m<=zs.length->(Ab zs.toArray m).Pairwise fW0/\∀x,x∈Ab zs.toArray m↔∃j,j<m/\zs.toArray[j]! = x
 | 0,_=>⟨by simp[Ab],λx=>by simp[Ab]⟩
 | m+1,hm=>by
  obtain⟨h1,h2⟩:=wZ hs m (by omega)
  have ack:∀i j,i<j->j<zs.length->Aa zs.toArray[j]! zs.toArray[i]! = false:=λi j kw hj=>by
   have:=List.pairwise_iff_getElem.1 hs i j (by omega) hj kw
   rw[getElem!_pos _ _ (by simpa using hj),getElem!_pos _ _ (by simp;omega)];simpa using this
  rw[Lib.compactUpTo_succ];by_cases hk:Ag zs.toArray m=true
  ·rw[if_pos hk]
   constructor
   ·refine List.pairwise_append.2 ⟨h1,by simp,λx hx y hy=>?_⟩
    obtain rfl:y=zs.toArray[m]!:=by simpa using hy
    obtain⟨j,hj,rfl⟩:=(h2 x).1 hx;have og:m=0\/zs.toArray[m]! ≠ zs.toArray[m-1]!:=by simpa [Ag] using hk
    have aj:zs.toArray[j]! ≠ zs.toArray[m]!:=λe=>by
     rcases og with h|h
     ·omega
     ·apply h
      apply Ac
      intro hd;have k1:fW0 zs.toArray[m-1]! zs.toArray[m]!:=dW (ack _ _ (by omega) (by omega)) hd;rcases Af j (m-1) with lx|lx
      ·have k2:=ack j (m-1) lx (by omega)
       rw[e]at k2;unfold fW0 at k1;rw[k2]at k1;cases k1
      ·rw[show m-1=j by omega,e]at k1
       exact yW _ k1
    exact dW (ack j m hj (by omega)) aj.symm
   ·intro x
    rw[List.mem_append,h2,List.mem_singleton];constructor
    ·rintro(⟨j,hj,e⟩|e)
     ·exact⟨j,by omega,e⟩
     ·exact⟨m,by omega,e.symm⟩
    ·rintro⟨j,hj,e⟩
     rcases Af j m with h|h
     ·exact Or.inl ⟨j,h,e⟩
     ·exact Or.inr (by rw[<-e,show j=m by omega])
  ·rw[if_neg hk,List.append_nil]
   refine⟨h1,λx=>?_⟩;rw[h2];have og:¬(m=0\/zs.toArray[m]! ≠ zs.toArray[m-1]!):=by simpa [Ag] using hk
   have hm0:m≠0:=λh=>og (Or.inl h);have he:zs.toArray[m]! = zs.toArray[m-1]!:=Ac λh=>og (Or.inr h);constructor
   ·rintro⟨j,hj,e⟩;exact⟨j,by omega,e⟩
   ·rintro⟨j,hj,e⟩
    rcases Af j m with h|h
    ·exact⟨j,h,e⟩
    ·exact⟨m-1,by omega,by rw[<-e,show j=m by omega,he]⟩
theorem mQ0 {zs:List (List UInt8)} (hs:zs.Pairwise λa b=>Aa b a=false):Ah zs=qJ0 zs:=by
 obtain⟨h1,h2⟩:=wZ hs zs.length (Nat.le_refl _);refine bE0 h1 λx=>?_;show x∈Ab zs.toArray zs.length↔_
 rw[h2];constructor
 ·grind
 ·intro hx
  obtain⟨j,hj,e⟩:=List.mem_iff_getElem.1 hx;exact⟨j,hj,by simp_all⟩
theorem mU0 (ss:List (List UInt8)):(ss.mergeSort λx y=>decide (x<=y)).Pairwise λa b=>Aa b a=false:=by
 have h:=List.pairwise_mergeSort (le:=λx y:List UInt8=>decide (x<=y)) (by grind) (by grind) ss;refine h.imp λ{a b} gp=>?_;rw[bytesLess_eq];simp_all
theorem xH (ss:List (List UInt8)):Ah (ss.mergeSort λx y=>decide (x<=y))=qJ0 ss:=by
 grind [mQ0,mU0,dH1,List.mem_mergeSort]
end Go.Proofs.YthgklnohcmaopaaGreatDoor
