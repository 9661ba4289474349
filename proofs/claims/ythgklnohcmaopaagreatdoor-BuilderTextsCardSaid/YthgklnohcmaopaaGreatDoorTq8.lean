/- The texts SetP, one behind the other. -/
import Derived.Test.YthgklnohcmaopaaGreatDoorTq2
import Derived.Lib.SlicesCompact
import Derived.Sort.Walk0
open Go.Op renaming bytesLess → Aa
open Go.Lib renaming compactUpTo → Ab,keeps → Ag,compact → Ah
open Classical renaming byContradiction → Ac
open List renaming foldl_cons → Ad,mem_cons → Ae
open Nat renaming lt_or_ge → Af
namespace Go.Proofs.YthgklnohcmaopaaGreatDoor
open Go
abbrev bS0 (a b:List UInt8):Prop:=Aa a b=true
theorem cL0 (a:List UInt8):¬bS0 a a:=by unfold bS0; rw[bytesLess_irrefl]; decide
theorem pF0 (a b c:List UInt8) (h1:bS0 a b) (h2:bS0 b c):bS0 a c:=eG h1 h2
def tC0:List (List UInt8)->List UInt8->List (List UInt8)
 | [],s=>[s]
 | x::l,s=>if Aa x s=true then x::tC0 l s else if x=s then x::l else s::x::l
theorem bE0:∀(l:List (List UInt8)) (s x:List UInt8),x∈tC0 l s↔x=s\/x∈l
 | [],s,x=>by simp[tC0]
 | y::l,s,x=>by
  unfold tC0;split
  ·rw[Ae,bE0 l s x,Ae]
   grind
  grind
theorem iX0:∀ {l:List (List UInt8)} (s:List UInt8),l.Pairwise bS0->(tC0 l s).Pairwise bS0
 | [],s,_=>by simp[tC0]
 | y::l,s,h=>by
  obtain⟨h1,h2⟩:=List.pairwise_cons.1 h;unfold tC0;split
  ·rename_i hy
   refine List.pairwise_cons.2 ⟨λz hz=>?_,iX0 s h2⟩;rcases (bE0 l s z).1 hz with e|e
   ·subst e;exact hy
   ·exact h1 z e
  ·rename_i hy
   split
   ·exact h
   ·rename_i ai
    have hsy:bS0 s y:=cQ (by simpa using hy) ai;refine List.pairwise_cons.2 ⟨λz hz=>?_,h⟩;rcases List.mem_cons.1 hz with e|e
    ·subst e;exact hsy
    ·exact pF0 _ _ _ hsy (h1 z e)
def iW (s:List UInt8) (st:List (List UInt8)×Bool) (x:List UInt8):List (List UInt8)×Bool :=
 let st1:=if st.2=false/\Aa x s=false then (st.1++[s],true) else st
 if x=s then st1 else (st1.1++[x],st1.2)
def eR0 (s:List UInt8) (st:List (List UInt8)×Bool):List (List UInt8):=if st.2=true then st.1 else st.1++[s]
def cM1 (l:List (List UInt8)) (s:List UInt8):List (List UInt8):=eR0 s (l.foldl (iW s) ([],false))
theorem mZ {s:List UInt8}:∀ {l out:List (List UInt8)},(∀x∈l,x≠s)->l.foldl (iW s) (out,true)=(out++l,true)
 | [],out,_=>by simp
 | x::l,out,h=>by
  have hx:=h x (by simp)
  have:iW s (out,true) x=(out++[x],true):=by unfold iW;simp[hx]
  rw[Ad,this,mZ (by simp_all)];simp
theorem xT {s:List UInt8}:∀ {l out:List (List UInt8)},l.Pairwise bS0->eR0 s (l.foldl (iW s) (out,false))=out++tC0 l s
 | [],out,_=>by simp[eR0,tC0]
 | x::l,out,h=>by
  obtain⟨h1,h2⟩:=List.pairwise_cons.1 h;rw[Ad];unfold tC0;by_cases hx:Aa x s=true
  ·have ai:x≠s:=by grind [bytesLess_irrefl]
   have:iW s (out,false) x=(out++[x],false):=by unfold iW;simp[hx,ai]
   rw[this,xT h2,if_pos hx];simp
  ·have wy:Aa x s=false:=by simpa using hx
   rw[if_neg hx];by_cases he:x=s
   ·subst he
    have:iW x (out,false) x=(out++[x],true):=by unfold iW;simp[wy]
    rw[this,mZ (by grind),if_pos rfl];simp[eR0]
   ·have:iW s (out,false) x=(out++[s]++[x],true):=by unfold iW;simp[wy,he]
    have hsx:bS0 s x:=cQ wy he;rw[this,mZ (by grind),if_neg he];simp[eR0]
theorem rD0 {l:List (List UInt8)} (h:l.Pairwise bS0) (s:List UInt8):cM1 l s=tC0 l s:=by
 unfold cM1;rw[xT h,List.nil_append]
def oH0 (ss:List (List UInt8)):List (List UInt8):=ss.foldl cM1 []
theorem uA:∀(ss:List (List UInt8)) {l:List (List UInt8)},l.Pairwise bS0->(ss.foldl cM1 l).Pairwise bS0/\∀x,x∈ss.foldl cM1 l↔x∈l\/x∈ss
 | [],l,h=>by simp_all
 | s::ss,l,h=>by
  have h1:=iX0 s h;rw[<-rD0 h]at h1;obtain⟨a,b⟩:=uA ss h1;refine⟨a,λx=>?_⟩;rw[Ad,b,rD0 h,bE0,Ae];grind
theorem bV0 (ss:List (List UInt8)):(oH0 ss).Pairwise bS0:=(uA ss List.Pairwise.nil).1
theorem tX (ss:List (List UInt8)) (x:List UInt8):x∈oH0 ss↔x∈ss:=by
 unfold oH0;rw[(uA ss List.Pairwise.nil).2 x];simp
theorem xH {ss l:List (List UInt8)} (h1:l.Pairwise bS0) (h2:∀x,x∈l↔x∈ss):l=oH0 ss :=
 (by grind [iK,cL0,pF0,bV0,tX])
theorem tW0 {ss tt:List (List UInt8)} (h:∀x,x∈ss↔x∈tt):oH0 ss=oH0 tt:=by grind [xH,bV0,tX]
theorem sQ {zs:List (List UInt8)} (hs:zs.Pairwise λa b=>Aa b a=false):∀m,m<=zs.length->(Ab zs.toArray m).Pairwise bS0/\∀x,x∈Ab zs.toArray m↔∃j,j<m/\zs.toArray[j]! = x
 | 0,_=>⟨by simp[Ab],λx=>by simp[Ab]⟩
 | m+1,hm=>by
  obtain⟨h1,h2⟩:=sQ hs m (by omega)
  have aah:∀i j,i<j->j<zs.length->Aa zs.toArray[j]! zs.toArray[i]! = false:=λi j s5 hj=>by
   have:=List.pairwise_iff_getElem.1 hs i j (by omega) hj s5
   rw[getElem!_pos _ _ (by simpa using hj),getElem!_pos _ _ (by simp;omega)];simpa using this
  rw[Lib.compactUpTo_succ];by_cases hk:Ag zs.toArray m=true
  ·rw[if_pos hk]
   constructor
   ·refine List.pairwise_append.2 ⟨h1,by simp,λx hx y hy=>?_⟩
    obtain rfl:y=zs.toArray[m]!:=by simpa using hy
    obtain⟨j,hj,rfl⟩:=(h2 x).1 hx;have s8:m=0\/zs.toArray[m]! ≠ zs.toArray[m-1]!:=by simpa [Ag] using hk
    have ai:zs.toArray[j]! ≠ zs.toArray[m]!:=λe=>by
     rcases s8 with h|h
     ·omega
     ·apply h
      apply Ac
      intro hd;have k1:bS0 zs.toArray[m-1]! zs.toArray[m]!:=cQ (aah _ _ (by omega) (by omega)) hd;rcases Af j (m-1) with ng|ng
      ·have k2:=aah j (m-1) ng (by omega)
       rw[e]at k2;unfold bS0 at k1;rw[k2]at k1;cases k1
      ·rw[show m-1=j by omega,e]at k1
       exact cL0 _ k1
    exact cQ (aah j m hj (by omega)) ai.symm
   ·intro x
    rw[List.mem_append,h2,List.mem_singleton];constructor
    ·rintro(⟨j,hj,e⟩|e)
     ·exact⟨j,by omega,e⟩
     ·exact⟨m,by omega,e.symm⟩
    ·rintro⟨j,hj,e⟩
     rcases Af j m with h|h
     ·exact Or.inl ⟨j,h,e⟩
     ·exact Or.inr (by rw[<-e,show j=m by omega])
  ·rw[if_neg hk,List.append_nil]
   refine⟨h1,λx=>?_⟩;rw[h2];have s8:¬(m=0\/zs.toArray[m]! ≠ zs.toArray[m-1]!):=by simpa [Ag] using hk
   have hm0:m≠0:=λh=>s8 (Or.inl h);have he:zs.toArray[m]! = zs.toArray[m-1]!:=Ac λh=>s8 (Or.inr h);constructor
   ·rintro⟨j,hj,e⟩;exact⟨j,by omega,e⟩
   ·rintro⟨j,hj,e⟩
    rcases Af j m with h|h
    ·exact⟨j,h,e⟩
    ·exact⟨m-1,by omega,by rw[<-e,show j=m by omega,he]⟩
theorem gY0 {zs:List (List UInt8)} (hs:zs.Pairwise λa b=>Aa b a=false):Ah zs=oH0 zs:=by
 obtain⟨h1,h2⟩:=sQ hs zs.length (Nat.le_refl _);refine xH h1 λx=>?_;show x∈Ab zs.toArray zs.length↔_
 rw[h2];constructor
 ·grind
 ·intro hx
  obtain⟨j,hj,e⟩:=List.mem_iff_getElem.1 hx;exact⟨j,hj,by simp_all⟩
theorem gC0 (ss:List (List UInt8)):(ss.mergeSort λx y=>decide (x<=y)).Pairwise λa b=>Aa b a=false:=by
 have h:=List.pairwise_mergeSort (le:=λx y:List UInt8=>decide (x<=y)) (by grind) (by grind) ss;refine h.imp λ{a b} km=>?_;rw[bytesLess_eq];simp_all
theorem sH (ss:List (List UInt8)):Ah (ss.mergeSort λx y=>decide (x<=y))=oH0 ss:=by
 grind [gY0,gC0,tW0,List.mem_mergeSort]
end Go.Proofs.YthgklnohcmaopaaGreatDoor
