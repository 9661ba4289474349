/- The texts NumP, one behind the other. -/
import Derived.Lib.AtoiAll
import Derived.Lib.SlTrimSet
import Derived.Lib.Strings
open Bool renaming and_eq_true → Aa
open Nat renaming pow_le_pow_right → Ab,lt_of_lt_of_le → Ad,pow_succ → Ag
open List renaming all_cons → Ac,length_cons → Ae
open Go.Lib renaming parseUint10 → Af,parseMag → Ah,atoiAll → Ai,trimS → Aj
namespace Go.Proofs.YtiopheoljccmpaaGreatDoor
open Go
def dW (b:UInt8):Bool:=decide (48<=b.toNat)&&decide (b.toNat<=57)
def aO1:ByteArray:=⟨#[48,49,50,51,52,53,54,55,56,57]⟩
def xQ:Nat->List UInt8->Nat
 | acc,[]=>acc
 | acc,c::r=>xQ (acc*10+(c.toNat-48)) r
def decVal (l:List UInt8):Nat:=xQ 0 l
theorem tH (b:UInt8):aO1.data.toList.contains b=dW b:=by
 rw[Bool.eq_iff_iff];simp only[aO1,dW,List.contains_cons,List.contains_nil,Bool.or_false,Bool.or_eq_true,beq_iff_eq,Aa,decide_eq_true_eq];simp only[<-UInt8.toNat_inj];simp;omega
theorem jU {p:UInt8->Bool}:∀ {l:List UInt8},l.dropWhile p=[]↔∀b∈l,p b=true
 | []=>by simp
 | c::r=>by
  rw[List.dropWhile_cons];cases h:p c
  ·simp[h]
  ·simp[h,jU (l:=r)]
theorem jS0 (l:List UInt8):Aj l aO1.data.toList=[]↔l.all dW=true:=by
 have e:(λx=>aO1.data.toList.contains x)=dW:=funext tH;unfold Aj Lib.trimLeftS Lib.trimRightS;rw[e,List.all_eq_true];constructor
 ·intro h
  by_cases h2:(l.reverse.dropWhile dW).reverse=[]
  ·have h3:l.reverse.dropWhile dW=[]:=by simpa using h2
   rw[jU]at h3;intro b hb;exact h3 b (by simpa using hb)
  ·exfalso
   have h3:l.reverse.dropWhile dW≠[]:=by simpa using h2
   obtain⟨x,xs,hx⟩:=List.exists_cons_of_ne_nil h3
   have hnx:dW x=false:=by
    have:=List.head?_dropWhile_not dW l.reverse
    rw[hx]at this;simpa using this
   rw[hx,jU]at h
   have:=h x (by simp)
   rw[this]at hnx;cases hnx
 ·intro h
  have h3:l.reverse.dropWhile dW=[]:=jU.2 λb hb=>h b (by simpa using hb);rw[h3];rfl
theorem jQ0:∀(l:List UInt8) (acc:Nat),l.all dW=true->acc<10^(18-l.length)->l.length<=18->Af acc l=.ok (xQ acc l)
 | [],acc,_,_,_=>rfl
 | c::r,acc,h,ha,hl=>by
  simp only[Ac,Aa]at h;obtain⟨hc,hr⟩:=h;simp only[dW,Aa,decide_eq_true_eq]at hc;simp only[Ae]at ha hl
  have qu:(10:Nat)^(18-r.length)=10^(18-(r.length+1))*10:=by
   rw[show 18-r.length=(18-(r.length+1))+1 by omega,Ag]
  have o4:(10:Nat)^(18-(r.length+1))<=10^17:=Ab (by decide) (by omega);have h17:(10:Nat)^17=100000000000000000:=by decide
  have bk:acc<100000000000000000:=by rw[h17]at o4;exact Ad ha o4
  have oh:acc*10+(c.toNat-48)<10^(18-r.length):=by
   rw[qu];generalize (10:Nat)^(18-(r.length+1))=q at ha;omega
  clear o4 qu ha;have h1:¬1844674407370955162<=acc:=by omega
  have h2:¬18446744073709551616<=acc*10+(c.toNat-48):=by omega
  unfold Af;rw[if_pos hc,if_neg h1,if_neg h2];exact jQ0 r _ hr oh (by omega)
theorem fG0:∀(l:List UInt8) (acc k:Nat),l.all dW=true->acc<10^k->xQ acc l<10^(k+l.length)
 | [],acc,k,_,h=>by rw[List.length_nil,Nat.add_zero];unfold xQ;exact h
 | c::r,acc,k,h,ha=>by
  simp only[Ac,Aa]at h;obtain⟨hc,hr⟩:=h;simp only[dW,Aa,decide_eq_true_eq]at hc;rw[Ae,show k+(r.length+1)=(k+1)+r.length by omega]
  show xQ (acc*10+(c.toNat-48)) r<_
  exact fG0 r _ (k+1) hr (by rw[Ag];omega)
theorem iE0 (l:List UInt8) (h:l.all dW=true) (hl:l.length<=9):decVal l<1000000000:=by
 have h1:=fG0 l 0 0 h (Nat.one_pos);rw[Nat.zero_add]at h1;generalize hq:(10:Nat)^l.length=q at h1;have h2:q<=10^9:=by rw[<-hq];exact Ab (by omega) hl
 have h9:(10:Nat)^9=1000000000:=rfl;rw[h9]at h2;exact Ad h1 h2
theorem gS0 (l:List UInt8) (aw:l≠[]) (h:l.all dW=true) (hl:l.length<=9):Ah l=.ok (decVal l):=by
 unfold Ah;rw[if_neg aw];exact jQ0 l 0 h (Nat.pow_pos (by omega)) (by omega)
theorem nZ0 (l:List UInt8) (aw:l≠[]) (h:l.all dW=true) (hl:l.length<=9):Ai l=.ok (decVal l):=by
 have hm:=gS0 l aw h hl;have af:=iE0 l h hl;generalize decVal l=v at hm af ⊢
 cases l with
 | nil=>exact absurd rfl aw
 | cons c r =>
  have hc:48<=c.toNat/\c.toNat<=57:=by
   simp only[Ac,Aa]at h;simpa [dW] using h.1
  have n43:¬(c.toNat=43\/c.toNat=45):=by omega
  have n45:¬c.toNat=45:=by omega
  have n1:¬(¬c.toNat=45/\9223372036854775808<=v):=by omega
  have n2:¬(c.toNat=45/\9223372036854775808<v):=by omega
  unfold Ai;simp only[if_neg n43,hm,if_neg n1,if_neg n2,if_neg n45]
theorem uA0:∀(j:Nat) (b:UInt8),aO1.data.toList[j]?=some b->b.toNat<128:=by
 intro j b h;have hm:b∈aO1.data.toList:=List.mem_of_getElem? h
 have:aO1.data.toList.contains b=true:=by simpa using hm
 rw[tH]at this;simp[dW]at this;omega
def numOK (l:List UInt8):Bool := !l.isEmpty&&decide (l.length<=9) && !(l.head?==some 48 && !(l==[48]))&&l.all dW
end Go.Proofs.YtiopheoljccmpaaGreatDoor
