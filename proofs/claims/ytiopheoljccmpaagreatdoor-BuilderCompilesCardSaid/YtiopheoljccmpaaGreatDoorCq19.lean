/- The texts SplitP Bl, one behind the other. -/
import Derived.Lib.SplitLaws
import Derived.Lib.Strings
import Derived.Lib.Join
open Go.Lib renaming index → Aa,splitK → Ab,count_miss → Ad,countB → Ae,size_eq → Ag
open List renaming isPrefixOf → Ac
open Nat renaming add_comm → Af
namespace Go.Proofs.YtiopheoljccmpaaGreatDoor
section
open Go
def mkB (l:List UInt8):ByteArray:=⟨l.toArray⟩
theorem mU (l:List UInt8):(mkB l).data.toList=l:=rfl
theorem wG (s:ByteArray):mkB s.data.toList=s:=Lib.mk_data s
theorem gW1 {a b:List UInt8} (h:mkB a=mkB b):a=b:=by grind [mU]
theorem jD {a b:ByteArray} (h:a.data.toList=b.data.toList):a=b:=by grind [wG]
def splitL (c:UInt8):List UInt8->List (List UInt8)
 | []=>[[]]
 | b::l=>if b=c then []::splitL c l else (b::(splitL c l).headD [])::(splitL c l).tail
theorem yS (c:UInt8) (l:List UInt8):splitL c l≠[]:=by
 cases l with
 | nil=>simp[splitL]
 | cons b l=>grind [splitL]
theorem nG (c:UInt8) (l:List UInt8):∃x r,splitL c l=x::r:=by
 cases h:splitL c l with
 | nil=>grind [yS]
 | cons x r=>exact⟨x,r,rfl⟩
theorem oB0 (c:UInt8):∀l:List UInt8,Ab [c] 0 (Lib.count l [c]) l=splitL c l
 | []=>by rw[Ad (by simp[Aa])];rfl
 | b::l=>by
  have ih:=oB0 c l;by_cases h:b=c
  ·subst h
   have hix:Aa (b::l) [b]=((0:Nat):Int):=by rw[Aa];simp[Ac]
   rw[Lib.count_cons_eq,Af,Ab,hix];grind [splitL]
  ·have hp:([c]:List UInt8).isPrefixOf (b::l)=false:=by simp[Ac,Ne.symm h]
   have hix:Aa (b::l) [c]=if Aa l [c] == -1 then -1 else Aa l [c]+1:=by rw[Aa,hp];simp
   rw[Lib.count_cons_ne b c l h];unfold splitL;rw[if_neg h,<-ih];by_cases hm:Aa l [c] = -1
   ·rw[Ad hm];rfl
   ·have ze:=Lib.index_ge l [c]
    obtain⟨j,hj⟩:∃j:Nat,Aa l [c]=j:=⟨(Aa l [c]).toNat,by omega⟩;have ah7:Aa (b::l) [c]=((j+1:Nat):Int):=by rw[hix,if_neg (by simp_all),hj];omega
    have n1:¬(((j+1:Nat):Int) == -1)=true:=by grind
    have n2:¬((j:Int) == -1)=true:=by simp_all
    rw[Lib.count_hit (by simp) hj,Af,Ab,Ab,ah7,hj,if_neg n1,if_neg n2];simp
theorem fY0 (c:UInt8) (s:ByteArray):Lib.splitB ⟨#[c]⟩ 0 (Ae s ⟨#[c]⟩) s=(splitL c s.data.toList).map mkB:=by
 have h:=Lib.splitB_data ⟨#[c]⟩ 0 (Ae s ⟨#[c]⟩) s;have h2:Ab (⟨#[c]⟩:ByteArray).data.toList 0 (Ae s ⟨#[c]⟩) s.data.toList=splitL c s.data.toList:=oB0 c s.data.toList;rw[h2]at h;rw[<-h,List.map_map]
 have:(mkB ∘ λx:ByteArray=>x.data.toList)=id:=funext λx=>wG x
 rw[this,List.map_id]
theorem aU0 {c:UInt8}:∀ {l:List UInt8},c∉l->splitL c l=[l]
 | [],_=>rfl
 | b::l,h=>by
  have h1:¬b=c:=by grind
  unfold splitL;rw[if_neg h1,aU0 (l:=l) (by simp_all)];rfl
theorem cY0 {c:UInt8}:∀ {x:List UInt8} (l:List UInt8),c∉x->splitL c (x++c::l)=x::splitL c l
 | [],l,_=>by grind [splitL]
 | b::x,l,h=>by
  have h1:¬b=c:=by grind
  show splitL c (b::(x++c::l))=_
  rw[splitL,if_neg h1,cY0 l (by simp_all)];rfl
def kK0 (c:UInt8):List (List UInt8)->List UInt8
 | []=>[]
 | [x]=>x
 | x::y::r=>x++c::kK0 c (y::r)
theorem aO0 (c:UInt8):∀l:List UInt8,kK0 c (splitL c l)=l
 | []=>rfl
 | b::l=>by
  have ih:=aO0 c l;obtain⟨x,r,hx⟩:=nG c l;unfold splitL;rw[hx]at ih ⊢;split
  ·grind [kK0]
  ·cases r with
   | nil =>
    grind [kK0]
   | cons y r =>
    grind [kK0]
theorem vZ (c:UInt8):∀ {xs:List (List UInt8)},xs≠[]->(kK0 c xs).length+1=(xs.map λx=>x.length+1).sum
 | [],h=>absurd rfl h
 | [x],_=>by simp[kK0]
 | x::y::r,_=>by
  have:=vZ c (xs:=y::r) (by simp)
  grind [kK0]
def bl (s:ByteArray):List UInt8:=s.data.toList
theorem cJ (s:ByteArray):(bl s).length=s.size:=(Ag s).symm
theorem nR {s:ByteArray} {k:Nat} (h:k<s.size):(bl s)[k]?=some s[k]:=by
 unfold bl;rw[List.getElem?_eq_getElem (by rw[<-Ag];exact h)];rfl
theorem bD0 {s t:ByteArray} (h:bl s=bl t):s=t:=jD h
theorem eN1 {s:ByteArray} {n:Nat}:bl (s.extract 0 n)=(bl s).take n:=by
 unfold bl;rw[Lib.extract_data];simp
theorem aY {α:Type} {l:List α} {k:Nat} {x:α} (h:l[k]?=some x):l.take (k+1)=l.take k++[x]:=by
 rw[List.take_add_one,h];rfl
end
end Go.Proofs.YtiopheoljccmpaaGreatDoor
