/- The texts SplitP Bl, one behind the other. -/
import Derived.Lib.SplitLaws
import Derived.Lib.Strings
import Derived.Lib.Join
open Go.Lib renaming index → Aa,splitK → Ab,count_miss → Ad,countB → Ae,join_cons → Af,size_eq → Ah
open List renaming isPrefixOf → Ac
open Nat renaming add_comm → Ag
namespace Go.Proofs.YthgklnohcmaopaaGreatDoor
section
open Go
def mkB (l:List UInt8):ByteArray:=⟨l.toArray⟩
theorem bQ (l:List UInt8):(mkB l).data.toList=l:=rfl
theorem xO (s:ByteArray):mkB s.data.toList=s:=Lib.mk_data s
theorem zT0 {a b:List UInt8} (h:mkB a=mkB b):a=b:=by grind [bQ]
theorem pL {a b:ByteArray} (h:a.data.toList=b.data.toList):a=b:=by grind [xO]
def cE (c:UInt8):List UInt8->List (List UInt8)
 | []=>[[]]
 | b::l=>if b=c then []::cE c l else (b::(cE c l).headD [])::(cE c l).tail
theorem rO0 (c:UInt8) (l:List UInt8):cE c l≠[]:=by
 cases l with
 | nil=>simp[cE]
 | cons b l=>grind [cE]
theorem uD (c:UInt8) (l:List UInt8):∃x r,cE c l=x::r:=by
 cases h:cE c l with
 | nil=>grind [rO0]
 | cons x r=>exact⟨x,r,rfl⟩
theorem jT0 (c:UInt8):∀l:List UInt8,Ab [c] 0 (Lib.count l [c]) l=cE c l
 | []=>by rw[Ad (by simp[Aa])];rfl
 | b::l=>by
  have ih:=jT0 c l;by_cases h:b=c
  ·subst h
   have hix:Aa (b::l) [b]=((0:Nat):Int):=by rw[Aa];simp[Ac]
   rw[Lib.count_cons_eq,Ag,Ab,hix];grind [cE]
  ·have hp:([c]:List UInt8).isPrefixOf (b::l)=false:=by simp[Ac,Ne.symm h]
   have hix:Aa (b::l) [c]=if Aa l [c] == -1 then -1 else Aa l [c]+1:=by rw[Aa,hp];simp
   rw[Lib.count_cons_ne b c l h];unfold cE;rw[if_neg h,<-ih];by_cases hm:Aa l [c] = -1
   ·rw[Ad hm];rfl
   ·have jn:=Lib.index_ge l [c]
    obtain⟨j,hj⟩:∃j:Nat,Aa l [c]=j:=⟨(Aa l [c]).toNat,by omega⟩;have afj:Aa (b::l) [c]=((j+1:Nat):Int):=by rw[hix,if_neg (by simp_all),hj];omega
    have n1:¬(((j+1:Nat):Int) == -1)=true:=by grind
    have n2:¬((j:Int) == -1)=true:=by simp_all
    rw[Lib.count_hit (by simp) hj,Ag,Ab,Ab,afj,hj,if_neg n1,if_neg n2];simp
theorem tS (c:UInt8) (s:ByteArray):Lib.splitB ⟨#[c]⟩ 0 (Ae s ⟨#[c]⟩) s=(cE c s.data.toList).map mkB:=by
 have h:=Lib.splitB_data ⟨#[c]⟩ 0 (Ae s ⟨#[c]⟩) s;have h2:Ab (⟨#[c]⟩:ByteArray).data.toList 0 (Ae s ⟨#[c]⟩) s.data.toList=cE c s.data.toList:=jT0 c s.data.toList;rw[h2]at h;rw[<-h,List.map_map]
 have:(mkB ∘ λx:ByteArray=>x.data.toList)=id:=funext λx=>xO x
 rw[this,List.map_id]
theorem oQ {c:UInt8}:∀ {l:List UInt8},c∉l->cE c l=[l]
 | [],_=>rfl
 | b::l,h=>by
  have h1:¬b=c:=by grind
  unfold cE;rw[if_neg h1,oQ (l:=l) (by simp_all)];rfl
theorem gE {c:UInt8}:∀ {x:List UInt8} (l:List UInt8),c∉x->cE c (x++c::l)=x::cE c l
 | [],l,_=>by grind [cE]
 | b::x,l,h=>by
  have h1:¬b=c:=by grind
  show cE c (b::(x++c::l))=_
  rw[cE,if_neg h1,gE l (by simp_all)];rfl
def xJ (c:UInt8):List (List UInt8)->List UInt8
 | []=>[]
 | [x]=>x
 | x::y::r=>x++c::xJ c (y::r)
theorem oK (c:UInt8):∀ {xs:List (List UInt8)},xs≠[]->(∀x,x∈xs->c∉x)->cE c (xJ c xs)=xs
 | [],h,_=>absurd rfl h
 | [x],_,h=>oQ (h x (by simp))
 | x::y::r,_,h=>by
  rw[xJ,gE _ (h x (by simp)),oK c (by simp) (by simp_all)]
theorem kN0 (c:UInt8):∀(x:List UInt8) (r:List (List UInt8)),Lib.join (x::r) [c]=xJ c (x::r)
 | x,[]=>by rw[Lib.join_one];rfl
 | x,y::r=>by
  rw[xJ,<-kN0 c y r,Af,Af];simp[Lib.joinTail]
def bl (s:ByteArray):List UInt8:=s.data.toList
theorem gS (s:ByteArray):(bl s).length=s.size:=(Ah s).symm
theorem qJ {s:ByteArray} {k:Nat} (h:k<s.size):(bl s)[k]?=some s[k]:=by
 unfold bl;rw[List.getElem?_eq_getElem (by rw[<-Ah];exact h)];rfl
theorem bT {α:Type} {l:List α} {k:Nat} {x:α} (h:l[k]?=some x):l.take (k+1)=l.take k++[x]:=by
 rw[List.take_add_one,h];rfl
end
end Go.Proofs.YthgklnohcmaopaaGreatDoor
