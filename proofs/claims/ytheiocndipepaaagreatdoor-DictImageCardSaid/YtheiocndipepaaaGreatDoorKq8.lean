/- The texts SetP, one behind the other. -/
import Derived.Test.YtheiocndipepaaaGreatDoorKq3
import Derived.Lib.SlicesCompact
import Derived.Sort.Walk0
open Go.Op renaming bytesLess → Aa
open Go.Lib renaming compactUpTo → Ab,keeps → Ag,compact → Ah
open Classical renaming byContradiction → Ac
open List renaming foldl_cons → Ad,mem_cons → Ae
open Nat renaming lt_or_ge → Af
namespace Go.Proofs.YtheiocndipepaaaGreatDoor
open Go
abbrev gH0 (a b:List UInt8):Prop:=Aa a b=true
theorem zF (a:List UInt8):¬gH0 a a:=by unfold gH0; rw[bytesLess_irrefl]; decide
theorem pQ0 (a b c:List UInt8) (h1:gH0 a b) (h2:gH0 b c):gH0 a c:=gJ h1 h2
def bR1:List (List UInt8)->List UInt8->List (List UInt8)
 | [],s=>[s]
 | x::l,s=>if Aa x s=true then x::bR1 l s else if x=s then x::l else s::x::l
theorem gK0:∀(l:List (List UInt8)) (s x:List UInt8),x∈bR1 l s↔x=s\/x∈l
 | [],s,x=>by simp[bR1]
 | y::l,s,x=>by
  unfold bR1;split
  ·rw[Ae,gK0 l s x,Ae]
   grind
  grind
theorem sQ0:∀ {l:List (List UInt8)} (s:List UInt8),l.Pairwise gH0->(bR1 l s).Pairwise gH0
 | [],s,_=>by simp[bR1]
 | y::l,s,h=>by
  obtain⟨h1,h2⟩:=List.pairwise_cons.1 h;unfold bR1;split
  ·rename_i hy
   refine List.pairwise_cons.2 ⟨λz hz=>?_,sQ0 s h2⟩;rcases (gK0 l s z).1 hz with e|e
   ·subst e;exact hy
   ·exact h1 z e
  ·rename_i hy
   split
   ·exact h
   ·rename_i ai
    have hsy:gH0 s y:=dM (by simpa using hy) ai;refine List.pairwise_cons.2 ⟨λz hz=>?_,h⟩;rcases List.mem_cons.1 hz with e|e
    ·subst e;exact hsy
    ·exact pQ0 _ _ _ hsy (h1 z e)
def fY (s:List UInt8) (st:List (List UInt8)×Bool) (x:List UInt8):List (List UInt8)×Bool :=
 let st1:=if st.2=false/\Aa x s=false then (st.1++[s],true) else st
 if x=s then st1 else (st1.1++[x],st1.2)
def yQ (s:List UInt8) (st:List (List UInt8)×Bool):List (List UInt8):=if st.2=true then st.1 else st.1++[s]
def eO1 (l:List (List UInt8)) (s:List UInt8):List (List UInt8):=yQ s (l.foldl (fY s) ([],false))
theorem pW {s:List UInt8}:∀ {l out:List (List UInt8)},(∀x∈l,x≠s)->l.foldl (fY s) (out,true)=(out++l,true)
 | [],out,_=>by simp
 | x::l,out,h=>by
  have hx:=h x (by simp)
  have:fY s (out,true) x=(out++[x],true):=by unfold fY;simp[hx]
  rw[Ad,this,pW (by simp_all)];simp
theorem cV0 {s:List UInt8}:∀ {l out:List (List UInt8)},l.Pairwise gH0->yQ s (l.foldl (fY s) (out,false))=out++bR1 l s
 | [],out,_=>by simp[yQ,bR1]
 | x::l,out,h=>by
  obtain⟨h1,h2⟩:=List.pairwise_cons.1 h;rw[Ad];unfold bR1;by_cases hx:Aa x s=true
  ·have ai:x≠s:=by grind [bytesLess_irrefl]
   have:fY s (out,false) x=(out++[x],false):=by unfold fY;simp[hx,ai]
   rw[this,cV0 h2,if_pos hx];simp
  ·have hx':Aa x s=false:=by simpa using hx
   rw[if_neg hx];by_cases he:x=s
   ·subst he
    have:fY x (out,false) x=(out++[x],true):=by unfold fY;simp[hx']
    rw[this,pW (by grind),if_pos rfl];simp[yQ]
   ·have:fY s (out,false) x=(out++[s]++[x],true):=by unfold fY;simp[hx',he]
    have hsx:gH0 s x:=dM hx' he;rw[this,pW (by grind),if_neg he];simp[yQ]
theorem dN1 {l:List (List UInt8)} (h:l.Pairwise gH0) (s:List UInt8):eO1 l s=bR1 l s:=by
 unfold eO1;rw[cV0 h,List.nil_append]
def pU0 (ss:List (List UInt8)):List (List UInt8):=ss.foldl eO1 []
theorem cQ0:∀(ss:List (List UInt8)) {l:List (List UInt8)},l.Pairwise gH0->(ss.foldl eO1 l).Pairwise gH0/\∀x,x∈ss.foldl eO1 l↔x∈l\/x∈ss
 | [],l,h=>by simp_all
 | s::ss,l,h=>by
  have h1:=sQ0 s h;rw[<-dN1 h]at h1;obtain⟨a,b⟩:=cQ0 ss h1;refine⟨a,λx=>?_⟩;rw[Ad,b,dN1 h,gK0,Ae];grind
theorem zK (ss:List (List UInt8)):(pU0 ss).Pairwise gH0:=(cQ0 ss List.Pairwise.nil).1
theorem zZ (ss:List (List UInt8)) (x:List UInt8):x∈pU0 ss↔x∈ss:=by
 unfold pU0;rw[(cQ0 ss List.Pairwise.nil).2 x];simp
theorem bS0 {ss l:List (List UInt8)} (h1:l.Pairwise gH0) (h2:∀x,x∈l↔x∈ss):l=pU0 ss :=
 (by grind [iM,zF,pQ0,zK,zZ])
theorem bH1 {ss tt:List (List UInt8)} (h:∀x,x∈ss↔x∈tt):pU0 ss=pU0 tt:=by grind [bS0,zK,zZ]
theorem yH {zs:List (List UInt8)} (hs:zs.Pairwise λa b=>Aa b a=false):∀m,m<=zs.length->(Ab zs.toArray m).Pairwise gH0/\∀x,x∈Ab zs.toArray m↔∃j,j<m/\zs.toArray[j]! = x
 | 0,_=>⟨by simp[Ab],λx=>by simp[Ab]⟩
 | m+1,hm=>by
  obtain⟨h1,h2⟩:=yH hs m (by omega)
  have ac8:∀i j,i<j->j<zs.length->Aa zs.toArray[j]! zs.toArray[i]! = false:=λi j uu hj=>by
   have:=List.pairwise_iff_getElem.1 hs i j (by omega) hj uu
   rw[getElem!_pos _ _ (by simpa using hj),getElem!_pos _ _ (by simp;omega)];simpa using this
  rw[Lib.compactUpTo_succ];by_cases hk:Ag zs.toArray m=true
  ·rw[if_pos hk]
   constructor
   ·refine List.pairwise_append.2 ⟨h1,by simp,λx hx y hy=>?_⟩
    obtain rfl:y=zs.toArray[m]!:=by simpa using hy
    obtain⟨j,hj,rfl⟩:=(h2 x).1 hx;have hkk:m=0\/zs.toArray[m]! ≠ zs.toArray[m-1]!:=by simpa [Ag] using hk
    have ai:zs.toArray[j]! ≠ zs.toArray[m]!:=λe=>by
     rcases hkk with h|h
     ·omega
     ·apply h
      apply Ac
      intro hd;have k1:gH0 zs.toArray[m-1]! zs.toArray[m]!:=dM (ac8 _ _ (by omega) (by omega)) hd;rcases Af j (m-1) with m4|m4
      ·have k2:=ac8 j (m-1) m4 (by omega)
       rw[e]at k2;unfold gH0 at k1;rw[k2]at k1;cases k1
      ·rw[show m-1=j by omega,e]at k1
       exact zF _ k1
    exact dM (ac8 j m hj (by omega)) ai.symm
   ·intro x
    rw[List.mem_append,h2,List.mem_singleton];constructor
    ·rintro(⟨j,hj,e⟩|e)
     ·exact⟨j,by omega,e⟩
     ·exact⟨m,by omega,e.symm⟩
    ·rintro⟨j,hj,e⟩
     rcases Af j m with h|h
     ·exact Or.inl ⟨j,h,e⟩
     ·exact Or.inr (by rw[<-e,show j=m by omega])
  ·rw[if_neg hk,List.append_nil]
   refine⟨h1,λx=>?_⟩;rw[h2];have hkk:¬(m=0\/zs.toArray[m]! ≠ zs.toArray[m-1]!):=by simpa [Ag] using hk
   have hm0:m≠0:=λh=>hkk (Or.inl h);have he:zs.toArray[m]! = zs.toArray[m-1]!:=Ac λh=>hkk (Or.inr h);constructor
   ·rintro⟨j,hj,e⟩;exact⟨j,by omega,e⟩
   ·rintro⟨j,hj,e⟩
    rcases Af j m with h|h
    ·exact⟨j,h,e⟩
    ·exact⟨m-1,by omega,by rw[<-e,show j=m by omega,he]⟩
theorem oB0 {zs:List (List UInt8)} (hs:zs.Pairwise λa b=>Aa b a=false):Ah zs=pU0 zs:=by
 obtain⟨h1,h2⟩:=yH hs zs.length (Nat.le_refl _);refine bS0 h1 λx=>?_;show x∈Ab zs.toArray zs.length↔_
 rw[h2];constructor
 ·grind
 ·intro hx
  obtain⟨j,hj,e⟩:=List.mem_iff_getElem.1 hx;exact⟨j,hj,by simp_all⟩
theorem oC0 (ss:List (List UInt8)):(ss.mergeSort λx y=>decide (x<=y)).Pairwise λa b=>Aa b a=false:=by
 have h:=List.pairwise_mergeSort (le:=λx y:List UInt8=>decide (x<=y)) (by grind) (by grind) ss;refine h.imp λ{a b} fi=>?_;rw[bytesLess_eq];simp_all
theorem xT (ss:List (List UInt8)):Ah (ss.mergeSort λx y=>decide (x<=y))=pU0 ss:=by
 grind [oB0,oC0,bH1,List.mem_mergeSort]
end Go.Proofs.YtheiocndipepaaaGreatDoor
