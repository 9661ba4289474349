/- The texts DecP, one behind the other. -/
import Derived.Test.YthgklnohcmaopaaGreatDoorTq17
import Derived.Lib.ItoaMem
open Go.Lib renaming decDigits_one → Aa,decDigits → Ab
open UInt8 renaming ofNat → Ac
open Nat renaming eq_zero_or_pos → Ad,le_refl → Af
open List renaming all_cons → Ae
namespace Go.Proofs.YthgklnohcmaopaaGreatDoor
open Go
theorem aM0:∀(l:List UInt8) (c:UInt8) (acc:Nat),xZ acc (l++[c])=xZ acc l*10+(c.toNat-48)
 | [],c,acc=>rfl
 | b::l,c,acc=>by
  show xZ (acc*10+(b.toNat-48)) (l++[c])=xZ (acc*10+(b.toNat-48)) l*10+_
  exact aM0 l c _
theorem iF0 (l:List UInt8) (c:UInt8):decVal (l++[c])=decVal l*10+(c.toNat-48):=aM0 l c 0
theorem lA {u:Nat} (h:u<10):(Ac (48+u)).toNat=48+u:=by rw[UInt8.toNat_ofNat']; omega
theorem uI {u:Nat} (h:u<10):fC (Ac (48+u))=true:=by unfold fC; rw[lA h]; simp; omega
theorem fX {u:Nat} (h:¬u<10):Ab u=Ab (u/10)++[Ac (48+u%10)]:=by rw[Ab,dif_neg h]
theorem mR (u:Nat):Ab u≠[]:=by
 by_cases h:u<10
 ·rw[Aa h];simp
 ·rw[fX h];simp
theorem iA:∀(k u:Nat),u<=k->(Ab u).all fC=true
 | 0,u,hu=>by
    obtain rfl:u=0:=by omega
    rw[Aa (by omega)];decide
 | k+1,u,hu=>by
  by_cases h:u<10
  ·rw[Aa h,Ae,uI h];rfl
  ·rw[fX h,List.all_append,iA k (u/10) (by omega),Ae,uI (by omega)];rfl
theorem lE:∀(k u:Nat),u<=k->decVal (Ab u)=u
 | 0,u,hu=>by
    obtain rfl:u=0:=by omega
    rw[Aa (by omega)];decide
 | k+1,u,hu=>by
  by_cases h:u<10
  ·rw[Aa h]
   show 0*10+((Ac (48+u)).toNat-48)=u
   rw[lA h];omega
  ·rw[fX h,iF0,lE k (u/10) (by omega),lA (by omega)];omega
theorem nX:∀(k u:Nat),u<=k->1<=u->(Ab u).head?≠some 48
 | 0,u,hu,h1=>by omega
 | k+1,u,hu,h1=>by
  by_cases h:u<10
  ·rw[Aa h]
   simp only[List.head?_cons,ne_eq,Option.some.injEq];intro e
   have:=congrArg UInt8.toNat e
   rw[lA h]at this;simp at this;omega
  ·obtain⟨b,r,hb⟩:=List.exists_cons_of_ne_nil (mR (u/10))
   have ih:=nX k (u/10) (by omega) (by omega);rw[hb]at ih;rw[fX h,hb];exact ih
theorem iR:∀(k u:Nat),1<=k->u<10^k->(Ab u).length<=k
 | 0,u,h,_=>by omega
 | k+1,u,_,hu=>by
  by_cases h:u<10
  ·rw[Aa h];simp
  ·rw[fX h,List.length_append]
   have hk:1<=k:=by
    rcases Ad k with h0|h0
    ·subst h0;simp at hu;omega
    ·exact h0
   have:=iR k (u/10) hk (by rw[Nat.pow_succ]at hu;omega)
   simp;omega
theorem sA0 {l:List UInt8}:numOK l=true↔l≠[]/\l.length<=9/\(l.head?=some 48->l=[48])/\l.all fC=true:=by
 unfold numOK;simp only[Bool.and_eq_true,Bool.not_eq_true',List.isEmpty_eq_false_iff,decide_eq_true_eq,Bool.and_eq_false_iff,Bool.not_eq_false',beq_eq_false_iff_ne,beq_iff_eq,ne_eq];constructor
 ·rintro⟨⟨⟨h1,h2⟩,h3⟩,h4⟩
  exact⟨h1,h2,λh=>h3.elim (λe=>absurd h e) id,h4⟩
 ·rintro⟨h1,h2,h3,h4⟩
  exact⟨⟨⟨h1,h2⟩,(Decidable.em (l.head?=some 48)).elim (λh=>Or.inr (h3 h)) Or.inl⟩,h4⟩
theorem cT0 {u:Nat} (h:u<1000000000):numOK (Ab u)=true:=by
 rw[sA0];refine⟨mR u,iR 9 u (by omega) (by simpa using h),λh0=>?_,iA u u (Af _)⟩;rcases Ad u with h1|h1
 ·subst h1;rw[Aa (by omega)];rfl
 ·exact absurd h0 (nX u u (Af _) h1)
theorem qR0 {l:List UInt8} (h:l.all fC=true) {b:UInt8} (hb:b∈l):48<=b.toNat/\b.toNat<=57:=by
 have:=List.all_eq_true.1 h b hb
 simpa [fC] using this
end Go.Proofs.YthgklnohcmaopaaGreatDoor
