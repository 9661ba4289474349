/- The texts NumP, one behind the other. -/
import Derived.Lib.AtoiAll
import Derived.Lib.SlTrimSet
import Derived.Lib.Strings
open Bool renaming and_eq_true → Aa
open Nat renaming pow_le_pow_right → Ab,lt_of_lt_of_le → Ad,pow_succ → Ag
open List renaming all_cons → Ac,length_cons → Ae
open Go.Lib renaming parseUint10 → Af,parseMag → Ah,atoiAll → Ai,trimS → Aj
namespace Go.Proofs.YthgklnohcmaopaaGreatDoor
open Go
def fC (b:UInt8):Bool:=decide (48<=b.toNat)&&decide (b.toNat<=57)
def uH0:ByteArray:=⟨#[48,49,50,51,52,53,54,55,56,57]⟩
def xZ:Nat->List UInt8->Nat
 | acc,[]=>acc
 | acc,c::r=>xZ (acc*10+(c.toNat-48)) r
def decVal (l:List UInt8):Nat:=xZ 0 l
theorem pD (b:UInt8):uH0.data.toList.contains b=fC b:=by
 rw[Bool.eq_iff_iff];simp only[uH0,fC,List.contains_cons,List.contains_nil,Bool.or_false,Bool.or_eq_true,beq_iff_eq,Aa,decide_eq_true_eq];simp only[<-UInt8.toNat_inj];simp;omega
theorem gZ {p:UInt8->Bool}:∀ {l:List UInt8},l.dropWhile p=[]↔∀b∈l,p b=true
 | []=>by simp
 | c::r=>by
  rw[List.dropWhile_cons];cases h:p c
  ·simp[h]
  ·simp[h,gZ (l:=r)]
theorem cZ0 (l:List UInt8):Aj l uH0.data.toList=[]↔l.all fC=true:=by
 have e:(λx=>uH0.data.toList.contains x)=fC:=funext pD;unfold Aj Lib.trimLeftS Lib.trimRightS;rw[e,List.all_eq_true];constructor
 ·intro h
  by_cases h2:(l.reverse.dropWhile fC).reverse=[]
  ·have h3:l.reverse.dropWhile fC=[]:=by simpa using h2
   rw[gZ]at h3;intro b hb;exact h3 b (by simpa using hb)
  ·exfalso
   have h3:l.reverse.dropWhile fC≠[]:=by simpa using h2
   obtain⟨x,xs,hx⟩:=List.exists_cons_of_ne_nil h3
   have hnx:fC x=false:=by
    have:=List.head?_dropWhile_not fC l.reverse
    rw[hx]at this;simpa using this
   rw[hx,gZ]at h
   have:=h x (by simp)
   rw[this]at hnx;cases hnx
 ·intro h
  have h3:l.reverse.dropWhile fC=[]:=gZ.2 λb hb=>h b (by simpa using hb);rw[h3];rfl
theorem dC0:∀(l:List UInt8) (acc:Nat),l.all fC=true->acc<10^(18-l.length)->l.length<=18->Af acc l=.ok (xZ acc l)
 | [],acc,_,_,_=>rfl
 | c::r,acc,h,ha,hl=>by
  simp only[Ac,Aa]at h;obtain⟨hc,hr⟩:=h;simp only[fC,Aa,decide_eq_true_eq]at hc;simp only[Ae]at ha hl
  have qw:(10:Nat)^(18-r.length)=10^(18-(r.length+1))*10:=by
   rw[show 18-r.length=(18-(r.length+1))+1 by omega,Ag]
  have jd:(10:Nat)^(18-(r.length+1))<=10^17:=Ab (by decide) (by omega);have h17:(10:Nat)^17=100000000000000000:=by decide
  have bh:acc<100000000000000000:=by rw[h17]at jd;exact Ad ha jd
  have nh:acc*10+(c.toNat-48)<10^(18-r.length):=by
   rw[qw];generalize (10:Nat)^(18-(r.length+1))=q at ha;omega
  clear jd qw ha;have h1:¬1844674407370955162<=acc:=by omega
  have h2:¬18446744073709551616<=acc*10+(c.toNat-48):=by omega
  unfold Af;rw[if_pos hc,if_neg h1,if_neg h2];exact dC0 r _ hr nh (by omega)
theorem kO0:∀(l:List UInt8) (acc k:Nat),l.all fC=true->acc<10^k->xZ acc l<10^(k+l.length)
 | [],acc,k,_,h=>by rw[List.length_nil,Nat.add_zero];unfold xZ;exact h
 | c::r,acc,k,h,ha=>by
  simp only[Ac,Aa]at h;obtain⟨hc,hr⟩:=h;simp only[fC,Aa,decide_eq_true_eq]at hc;rw[Ae,show k+(r.length+1)=(k+1)+r.length by omega]
  show xZ (acc*10+(c.toNat-48)) r<_
  exact kO0 r _ (k+1) hr (by rw[Ag];omega)
theorem pZ0 (l:List UInt8) (h:l.all fC=true) (hl:l.length<=9):decVal l<1000000000:=by
 have h1:=kO0 l 0 0 h (Nat.one_pos);rw[Nat.zero_add]at h1;generalize hq:(10:Nat)^l.length=q at h1;have h2:q<=10^9:=by rw[<-hq];exact Ab (by omega) hl
 have h9:(10:Nat)^9=1000000000:=rfl;rw[h9]at h2;exact Ad h1 h2
theorem dI0 (l:List UInt8) (ai:l≠[]) (h:l.all fC=true) (hl:l.length<=9):Ah l=.ok (decVal l):=by
 unfold Ah;rw[if_neg ai];exact dC0 l 0 h (Nat.pow_pos (by omega)) (by omega)
theorem kD0 (l:List UInt8) (ai:l≠[]) (h:l.all fC=true) (hl:l.length<=9):Ai l=.ok (decVal l):=by
 have hm:=dI0 l ai h hl;have ae:=pZ0 l h hl;generalize decVal l=v at hm ae ⊢
 cases l with
 | nil=>exact absurd rfl ai
 | cons c r =>
  have hc:48<=c.toNat/\c.toNat<=57:=by
   simp only[Ac,Aa]at h;simpa [fC] using h.1
  have n43:¬(c.toNat=43\/c.toNat=45):=by omega
  have n45:¬c.toNat=45:=by omega
  have n1:¬(¬c.toNat=45/\9223372036854775808<=v):=by omega
  have n2:¬(c.toNat=45/\9223372036854775808<v):=by omega
  unfold Ai;simp only[if_neg n43,hm,if_neg n1,if_neg n2,if_neg n45]
theorem mW0:∀(j:Nat) (b:UInt8),uH0.data.toList[j]?=some b->b.toNat<128:=by
 intro j b h;have hm:b∈uH0.data.toList:=List.mem_of_getElem? h
 have:uH0.data.toList.contains b=true:=by simpa using hm
 rw[pD]at this;simp[fC]at this;omega
def numOK (l:List UInt8):Bool := !l.isEmpty&&decide (l.length<=9) && !(l.head?==some 48 && !(l==[48]))&&l.all fC
end Go.Proofs.YthgklnohcmaopaaGreatDoor
