/- The texts UtfP UtfC Ref1 Ref1N, one behind the other. -/
import Derived.Lib.ValidLaws
import Derived.Lib.RuneCount
import Derived.Shelf.GgClosure.StringsIndexFunc
import Derived.Test.YthgklnohcmaopaaGreatDoorLq1
import Derived.Test.YthgklnohcmaopaaGreatDoorProg
open Go.Lib renaming decodeN → Aa,decodeL → Ab,decodeL_width → Ae,decodeL_N → Ag,runeCountFrom → Ah,decodeL_drop → Ai,idxFuncFrom → Aj,validD_step → Ak,decodeL_le → Al,validD → Am,width_pos → An,runeCount → Ao,idxFunc → Aq
open UInt8 renaming ofNat → Ac,toNat_lt → Af
open List renaming flatten_cons → Ad
open Nat renaming le_refl → Ap
set_option maxHeartbeats 4000000
namespace Go.Proofs.YthgklnohcmaopaaGreatDoor
section
open Go
def runesGo:Nat->List UInt8->List Nat
 | 0,_=>[]
 | n+1,l=>if l=[] then [] else (Ab l).1::runesGo n (l.drop (Ab l).2)
def bD (l:List UInt8):List Nat:=runesGo l.length l
theorem mT0:∀n,runesGo n []=[]
 | 0=>rfl
 | _+1=>by simp[runesGo]
theorem wJ:∀(n m:Nat) (l:List UInt8),l.length<=n->l.length<=m->runesGo n l=runesGo m l
 | 0,m,l,hn,_=>by
  grind [mT0]
 | n+1,0,l,_,hm=>by
  grind [runesGo]
 | n+1,m+1,l,hn,hm=>by
  unfold runesGo;by_cases aj:l=[]
  ·simp[aj]
  ·have hw:=Ae l
   have hl:0<l.length:=by grind
   rw[if_neg aj,if_neg aj,wJ n m (l.drop (Ab l).2) (by grind) (by grind)]
theorem eR0:bD []=[]:=rfl
theorem jD (l:List UInt8) (aj:l≠[]):bD l=(Ab l).1::bD (l.drop (Ab l).2):=by
 have hl:0<l.length:=by grind
 have hw:=Ae l;obtain⟨n,hn⟩:∃n,l.length=n+1:=by simp_all
 unfold bD;rw[hn];show (if l=[] then [] else _)=_
 rw[if_neg aj,wJ n (l.drop (Ab l).2).length _ (by simp_all) (Ap _)]
theorem jH (l:List UInt8):(bD l).length<=l.length:=by
 have key:∀n l,(runesGo n l).length<=n:=by
  intro n
  induction n with
  | zero=>intro l;simp[runesGo]
  | succ n ih=>grind [runesGo]
 exact key _ _
theorem gM {s:ByteArray} {pos:Nat}:s.data.toList.drop pos=[]↔¬pos<s.size:=by
 simp_all
theorem jP0 {s:ByteArray} {pos k:Nat}:(s.data.toList.drop pos).drop k=s.data.toList.drop (pos+k):=by rw[List.drop_drop]
theorem pH (s:ByteArray):∀(f pos:Nat),s.size<=pos+f->Ah s f pos=(bD (s.data.toList.drop pos)).length
 | 0,pos,h=>by
  have h0:s.data.toList.drop pos=[]:=gM.2 (by omega);rw[h0];rfl
 | f+1,pos,h=>by
  unfold Ah;by_cases hp:pos<s.size
  ·have hw:=An s pos
   rw[if_pos hp,pH s f _ (by omega),jD _ (λe=>gM.1 e hp),Ai,jP0,List.length_cons];omega
  ·rw[if_neg hp,gM.2 hp];rfl
theorem rV (s:ByteArray):Ao s=(bD s.data.toList).length:=by
 unfold Ao;grind [pH]
theorem mK0 (p:Nat->Bool) (s:ByteArray):∀(f pos:Nat),s.size<=pos+f->decide (0<=Aj p true s f pos)=(bD (s.data.toList.drop pos)).any p
 | 0,pos,h=>by
  have h0:s.data.toList.drop pos=[]:=by simp_all
  rw[h0];rfl
 | f+1,pos,h=>by
  unfold Aj;by_cases hp:pos<s.size
  ·have hw:=An s pos
   rw[if_pos hp,jD _ (by simp_all),Ai,jP0,List.any_cons,<-mK0 p s f _ (by omega)];grind
  ·rw[if_neg hp,gM.2 hp];rfl
theorem iQ1 (p:Nat->Bool) (s:ByteArray):decide (0<=Aq p true s)=(bD s.data.toList).any p:=by
 unfold Aq;grind [mK0]
def nT1 (b:Nat):Nat×Nat :=
 if b<128 then (1,b) else if 192<=b/\b<224 then (2,b-192) else if 224<=b/\b<240 then (3,b-224) else if 240<=b/\b<248 then (4,b-240) else (0,0)
def lA0 (c:Int):Bool:=decide (0<=c)&&decide (c<=1114111)&&(decide (c<55296)||decide (57343<c))
def yG:List UInt8->Nat->Option Nat
 | [],c=>some c
 | b::r,c=>if b.toNat<128\/191<b.toNat then none else yG r (64*c+b.toNat-128)
def lU0 (n:Nat):Nat:=if n=2 then 128 else if n=3 then 2048 else if n=4 then 65536 else 0
def uQ0 (l:List UInt8):Nat×Nat :=
 match l with
 | []=>(0,0)
 | b::r=>if (nT1 b.toNat).1=0\/r.length+1<(nT1 b.toNat).1 then (0,0) else
  match yG (r.take ((nT1 b.toNat).1-1)) (nT1 b.toNat).2 with
  | none=>(0,0)
  | some c=>if c<lU0 (nT1 b.toNat).1\/lA0 c=false then (0,0) else (c,(nT1 b.toNat).1)
def iI1 (n b0 b1 b2 b3:Nat):Nat×Nat :=
 if b0<128 then (b0,1)
 else if 192<=b0/\b0<224 then (if n<2\/(b1<128\/191<b1)\/64*(b0-192)+b1-128<128 then (0,0) else (64*(b0-192)+b1-128,2))
 else if 224<=b0/\b0<240 then (if n<3\/(b1<128\/191<b1)\/(b2<128\/191<b2)\/64*(64*(b0-224)+b1-128)+b2-128<2048\/lA0 (64*(64*(b0-224)+b1-128)+b2-128:Nat)=false then (0,0) else (64*(64*(b0-224)+b1-128)+b2-128,3))
 else if 240<=b0/\b0<248 then (if n<4\/(b1<128\/191<b1)\/(b2<128\/191<b2)\/(b3<128\/191<b3)\/64*(64*(64*(b0-240)+b1-128)+b2-128)+b3-128<65536\/lA0 (64*(64*(64*(b0-240)+b1-128)+b2-128)+b3-128:Nat)=false then (0,0) else (64*(64*(64*(b0-240)+b1-128)+b2-128)+b3-128,4))
 else (0,0)
theorem lT0 (c:Nat):lA0 c=false↔¬(c<=1114111/\(c<55296\/57343<c)):=by
 grind [lA0]
theorem cS1 {α:Type} {p q:Prop} [Decidable p] [Decidable q] {a b:α}:(if p\/q then a else b)=if p then a else if q then a else b:=by
 grind
theorem lB1 (b:UInt8) (r:List UInt8):uQ0 (b::r)=iI1 (r.length+1) b.toNat (r.getD 0 0).toNat (r.getD 1 0).toNat (r.getD 2 0).toNat:=by
 have hb:=b.toNat_lt;unfold uQ0 iI1 nT1;by_cases h1:b.toNat<128
 ·have hc:lA0 (b.toNat:Nat)=true:=by rw[<-Bool.not_eq_false,lT0];omega
  simp[h1,yG,lU0,hc]
 ·by_cases h2:192<=b.toNat/\b.toNat<224
  ·simp only[h1,h2,if_false,if_true,and_self,lU0]
   match r with
   | []=>simp
   | b1::r =>
    have hc:∀h:¬(b1.toNat<128\/191<b1.toNat),lA0 (64*(b.toNat-192)+b1.toNat-128:Nat)=true:=by grind [lA0]
    by_cases eo:b1.toNat<128\/191<b1.toNat
    ·simp[yG,eo]
    ·simp[yG,eo,hc eo]
     exact cS1.symm
  ·by_cases h3:224<=b.toNat/\b.toNat<240
   ·have h2':¬(192<=b.toNat/\b.toNat<224):=h2
    simp only[h1,h2',h3,if_false,if_true,and_self,lU0]
    match r with
    | []=>simp
    | [b1]=>simp
    | b1::b2::r =>
     by_cases eo:b1.toNat<128\/191<b1.toNat
     ·simp[yG,eo]
     ·by_cases cy:b2.toNat<128\/191<b2.toNat
      ·simp[yG,eo,cy]
      ·simp[yG,eo,cy]
       exact cS1.symm
   ·by_cases h4:240<=b.toNat/\b.toNat<248
    ·simp only[h1,h2,h3,h4,if_false,if_true,and_self,lU0]
     match r with
     | []=>simp
     | [b1]=>simp
     | [b1,b2]=>simp
     | b1::b2::b3::r =>
      by_cases eo:b1.toNat<128\/191<b1.toNat
      ·simp[yG,eo]
      ·by_cases cy:b2.toNat<128\/191<b2.toNat
       ·simp[yG,eo,cy]
       ·by_cases iv:b3.toNat<128\/191<b3.toNat
        ·simp[yG,eo,cy,iv]
        ·simp[yG,eo,cy,iv]
         exact cS1.symm
    grind
theorem lN0 (n b0 b1 b2 b3:Nat) (h0:b0<256) (h1:b1<256) (h2:b2<256) (h3:b3<256) :
  iI1 n b0 b1 b2 b3=if (Aa n b0 b1 b2 b3).1=65533/\(Aa n b0 b1 b2 b3).2=1 then (0,0) else Aa n b0 b1 b2 b3:=by
 unfold iI1;simp only[lT0];by_cases c1:b0<128
 ·grind [Lib.decodeN_ascii]
 ·rw[if_neg c1]
  by_cases c2:192<=b0/\b0<224
  ·rw[if_pos c2]
   by_cases g1:n<2\/(b1<128\/191<b1)
   ·have hD:Aa n b0 b1 b2 b3=(65533,1):=by unfold Aa;rw[if_neg c1,if_neg (by omega),if_neg (by omega),if_neg (by omega)]
    grind
   ·have hv:64*(b0-192)+b1-128=b0%32*64+b1%64:=by omega
    rw[hv];by_cases g2:b0%32*64+b1%64<128
    ·have hD:Aa n b0 b1 b2 b3=(65533,1):=by unfold Aa;rw[if_neg c1,if_pos (by omega),if_neg (by omega)]
     simp_all
    ·have hD:Aa n b0 b1 b2 b3=(b0%32*64+b1%64,2):=by unfold Aa;rw[if_neg c1,if_pos (by omega),if_pos (by omega)]
     simp_all
  ·rw[if_neg c2]
   by_cases c3:224<=b0/\b0<240
   ·rw[if_pos c3]
    by_cases g1:n<3\/(b1<128\/191<b1)\/(b2<128\/191<b2)
    ·have hD:Aa n b0 b1 b2 b3=(65533,1):=by unfold Aa;rw[if_neg c1,if_neg (by omega),if_neg (by omega),if_neg (by omega)]
     grind
    ·have hv:64*(64*(b0-224)+b1-128)+b2-128=b0%16*4096+b1%64*64+b2%64:=by omega
     have hD0:Aa n b0 b1 b2 b3=if b0%16*4096+b1%64*64+b2%64 >= 2048/\(b0%16*4096+b1%64*64+b2%64<55296\/(57344<=b0%16*4096+b1%64*64+b2%64/\b0%16*4096+b1%64*64+b2%64<=1114111)) then (b0%16*4096+b1%64*64+b2%64,3) else (65533,1):=by
      unfold Aa;rw[if_neg c1,if_neg (by omega),if_pos (by omega)]
     grind
   ·rw[if_neg c3]
    by_cases c4:240<=b0/\b0<248
    ·rw[if_pos c4]
     by_cases g1:n<4\/(b1<128\/191<b1)\/(b2<128\/191<b2)\/(b3<128\/191<b3)
     ·have hD:Aa n b0 b1 b2 b3=(65533,1):=by unfold Aa;rw[if_neg c1,if_neg (by omega),if_neg (by omega),if_neg (by omega)]
      grind
     ·have hv:64*(64*(64*(b0-240)+b1-128)+b2-128)+b3-128=b0%8*262144+b1%64*4096+b2%64*64+b3%64:=by omega
      have hD0:Aa n b0 b1 b2 b3=if b0%8*262144+b1%64*4096+b2%64*64+b3%64 >= 65536/\(b0%8*262144+b1%64*4096+b2%64*64+b3%64<55296\/(57344<=b0%8*262144+b1%64*4096+b2%64*64+b3%64/\b0%8*262144+b1%64*4096+b2%64*64+b3%64<=1114111)) then (b0%8*262144+b1%64*4096+b2%64*64+b3%64,4) else (65533,1):=by
       unfold Aa;rw[if_neg c1,if_neg (by omega),if_neg (by omega),if_pos (by omega)]
      grind
    ·have hD:Aa n b0 b1 b2 b3=(65533,1):=by unfold Aa;rw[if_neg c1,if_neg (by omega),if_neg (by omega),if_neg (by omega)]
     rw[hD,if_neg c4];rfl
theorem wV (l:List UInt8) (aj:l≠[]):uQ0 l=if (Ab l).1=65533/\(Ab l).2=1 then (0,0) else Ab l:=by
 cases l with
 | nil=>exact absurd rfl aj
 | cons b r =>
  grind [lB1,Ag,lN0,Af]
theorem iV1 (l:List UInt8):(uQ0 l).1<=1114111/\(uQ0 l).2<=4:=by
 cases l with
 | nil=>simp[uQ0]
 | cons b r =>
  rw[wV _ (by simp)];split
  ·simp
  ·refine⟨Lib.decodeL_rune _,?_⟩
   rw[Ag];unfold Aa;grind
theorem fJ0 (n b0 b1 b2 b3:Nat) (h1:b1<256) (h2:b2<256) (h3:b3<256) (hv:¬((Aa n b0 b1 b2 b3).1=65533/\(Aa n b0 b1 b2 b3).2=1)) :
  (b0<128/\(Aa n b0 b1 b2 b3)=(b0,1))\/(128<=b0/\(Aa n b0 b1 b2 b3).2<=n/\(2<=(Aa n b0 b1 b2 b3).2->128<=b1)/\(3<=(Aa n b0 b1 b2 b3).2->128<=b2)/\(4<=(Aa n b0 b1 b2 b3).2->128<=b3)/\(Aa n b0 b1 b2 b3).2<=4/\128<=(Aa n b0 b1 b2 b3).1):=by
 unfold Aa at *;repeat' split
 all_goals first
  | (left;exact⟨by assumption,rfl⟩)
  | (right;refine⟨by omega,?_,?_,?_,?_,?_,?_⟩<;>simp only<;>omega)
  | simp_all
  | (exfalso;apply hv;(repeat' split)<;>first|exact⟨rfl,rfl⟩|(exfalso;omega))
theorem yF0 {n m b0 b1 b2 b3 c1 c2 c3:Nat} (h:¬((Aa n b0 b1 b2 b3).1=65533/\(Aa n b0 b1 b2 b3).2=1))
  (e1:1<(Aa n b0 b1 b2 b3).2->c1=b1/\1<m) (e2:2<(Aa n b0 b1 b2 b3).2->c2=b2/\2<m) (e3:3<(Aa n b0 b1 b2 b3).2->c3=b3/\3<m):Aa m b0 c1 c2 c3=Aa n b0 b1 b2 b3:=by
 by_cases h0:b0<128
 ·unfold Aa
  simp_all
 by_cases h1:b0/32=6/\(1<n/\b1/64=2)
 ·by_cases h2:b0%32*64+b1%64 >= 128
  ·have hd:Aa n b0 b1 b2 b3=(b0%32*64+b1%64,2):=by
    unfold Aa;rw[if_neg h0,if_pos h1,if_pos h2]
   rw[hd]at e1 ⊢;obtain⟨rfl,hm⟩:=e1 (by show 1<_;simp)
   unfold Aa;simp_all
  ·refine absurd ?_ h
   unfold Aa;grind
 by_cases h2:b0/16=14/\(1<n/\b1/64=2)/\(2<n/\b2/64=2)
 ·by_cases h3:b0%16*4096+b1%64*64+b2%64 >= 2048/\(b0%16*4096+b1%64*64+b2%64<55296\/(57344<=b0%16*4096+b1%64*64+b2%64/\b0%16*4096+b1%64*64+b2%64<=1114111))
  ·have hd:Aa n b0 b1 b2 b3=(b0%16*4096+b1%64*64+b2%64,3):=by
    unfold Aa;rw[if_neg h0,if_neg h1,if_pos h2,if_pos h3]
   rw[hd]at e1 e2 ⊢;obtain⟨rfl,hm⟩:=e1 (by show 1<_;simp)
   obtain⟨rfl,qn⟩:=e2 (by show 2<_;simp)
   unfold Aa;simp_all
  ·refine absurd ?_ h
   unfold Aa;grind
 by_cases h3:b0/8=30/\(1<n/\b1/64=2)/\(2<n/\b2/64=2)/\(3<n/\b3/64=2)
 ·by_cases h4:b0%8*262144+b1%64*4096+b2%64*64+b3%64 >= 65536/\(b0%8*262144+b1%64*4096+b2%64*64+b3%64<55296\/(57344<=b0%8*262144+b1%64*4096+b2%64*64+b3%64/\b0%8*262144+b1%64*4096+b2%64*64+b3%64<=1114111))
  ·have hd:Aa n b0 b1 b2 b3=(b0%8*262144+b1%64*4096+b2%64*64+b3%64,4):=by
    unfold Aa;rw[if_neg h0,if_neg h1,if_neg h2,if_pos h3,if_pos h4]
   rw[hd]at e1 e2 e3 ⊢;obtain⟨rfl,hm⟩:=e1 (by show 1<_;simp)
   obtain⟨rfl,qn⟩:=e2 (by show 2<_;simp)
   obtain⟨rfl,hm3⟩:=e3 (by show 3<_;simp)
   unfold Aa;simp_all
  ·refine absurd ?_ h
   unfold Aa;grind
 ·refine absurd ?_ h
  unfold Aa;grind
structure xV (c:List UInt8):Prop where
 ne:c≠[]
 len:(Ab c).2=c.length
 ok:¬((Ab c).1=65533/\(Ab c).2=1)
theorem lX0 {l m:List UInt8} (h:¬((Ab l).1=65533/\(Ab l).2=1)) (hl:l≠[]) (hm:l.take (Ab l).2 <+: m):Ab m=Ab l:=by
 have hw:=Al l hl;have h1:=Ae l
 have g:∀k,k<(Ab l).2->(m.getD k 0).toNat=(l.getD k 0).toNat/\k<m.length:=λk hk=>by
  obtain⟨t,rfl⟩:=hm;grind
 grind [Ag,yF0]
theorem xV.app {c:List UInt8} (h:xV c) (r:List UInt8):Ab (c++r)=Ab c:=by
 grind [lX0,ok,ne]
theorem nJ0 {l:List UInt8} (hl:l≠[]) (h:¬((Ab l).1=65533/\(Ab l).2=1)):xV (l.take (Ab l).2)/\Ab (l.take (Ab l).2)=Ab l:=by
 have e:=lX0 h hl (List.prefix_refl _);have hw:=Al l hl;have h1:=Ae l;have ah:(l.take (Ab l).2).length=(Ab l).2:=by rw[List.length_take];omega
 exact⟨⟨by grind,by rw[e,ah],by rw[e];exact h⟩,e⟩
def rS (C:List (List UInt8)):List Nat:=C.map λc=>(Ab c).1
def fJ (C:List (List UInt8)):Prop:=∀c∈C,xV c
theorem fJ.drop {C:List (List UInt8)} (h:fJ C) (k:Nat):fJ (C.drop k):=λc hc=>h c (by grind)
theorem fJ.take {C:List (List UInt8)} (h:fJ C) (k:Nat):fJ (C.take k):=λc hc=>h c (by grind)
theorem dY:∀ {C:List (List UInt8)},fJ C->Am C.flatten=true/\bD C.flatten=rS C
 | [],_=>⟨rfl,rfl⟩
 | c::C,h=>by
  have hc:=h c (by simp);obtain⟨h1,h2⟩:=dY (C:=C) (by grind [fJ])
  have aj:(c::C).flatten≠[]:=by
   rw[Ad];intro e;exact hc.ne (by simp_all)
  have hd:Ab (c::C).flatten=Ab c:=by rw[Ad];exact hc.app _
  have hdr:(c::C).flatten.drop (Ab c).2=C.flatten:=by rw[hc.len,Ad,List.drop_left]
  constructor
  ·rw[Ak _ aj,hd,if_neg hc.ok,hdr,h1]
  grind [jD,rS]
theorem rA0:∀(n:Nat) {l:List UInt8},l.length<=n->Am l=true->∃C,fJ C/\C.flatten=l
 | 0,l,hn,_=>⟨[],by grind [fJ],by simp_all⟩
 | n+1,l,hn,hv=>by
  by_cases hl:l=[]
  ·exact⟨[],by grind [fJ],by rw[hl];rfl⟩
  ·rw[Ak l hl]at hv
   split at hv
   ·cases hv
   ·rename_i ag
    have h1:=Ae l;obtain⟨C,hC,hf⟩:=rA0 n (l:=l.drop (Ab l).2) (by grind) hv;refine⟨l.take (Ab l).2::C,λc hc=>?_,by simp_all⟩;rcases List.mem_cons.1 hc with rfl|hc
    ·grind [nJ0]
    ·exact hC c hc
theorem gC {l:List UInt8}:Am l=true↔∃C,fJ C/\C.flatten=l:=⟨rA0 _ (Ap _),by grind [dY]⟩
theorem lO:∀ {R C:List (List UInt8)},fJ R->fJ C->(R.flatten <+: C.flatten↔R <+: C)
 | [],_,_,_=>by simp_all
 | r::R,[],hR,_=>by
  refine⟨λh=>?_,λh=>by simp at h⟩;rw[List.flatten_nil,List.prefix_nil,Ad,List.append_eq_nil_iff]at h;exact absurd h.1 (hR r (by simp)).ne
 | r::R,c::C,hR,hC=>by
  have ih:=lO (R:=R) (C:=C) (by grind [fJ]) (by grind [fJ]);have hr:=hR r (by simp);have hc:=hC c (by simp);constructor
  ·rintro⟨t,ht⟩
   rw[Ad,Ad,List.append_assoc]at ht;have e:=hr.app (R.flatten++t);rw[ht,hc.app]at e;have el:r.length=c.length:=by rw[<-hr.len,<-hc.len,e]
   obtain⟨rfl,e2⟩:=List.append_inj ht el;grind
  simp_all
theorem aJ1 {R C:List (List UInt8)} (hR:fJ R) (hC:fJ C) (h:R.flatten=C.flatten):R=C:=by
 have h1:=(lO hR hC).1 (by simp_all);have h2:=(lO hC hR).1 (by simp_all);exact h1.eq_of_length (by grind)
theorem qW0 {v:Nat} (hv:v<55296\/(57344<=v/\v<=1114111)):(Utf8.encode (v:Int)).data.toList=if v<128 then [Ac v] else if v<2048 then [Ac (192+v/64),Ac (128+v%64)] else if v<65536 then [Ac (224+v/4096),Ac (128+v/64%64),Ac (128+v%64)] else [Ac (240+v/262144),Ac (128+v/4096%64),Ac (128+v/64%64),Ac (128+v%64)]:=by
 have h:Utf8.valid (v:Int)=true:=by
  simp only[Utf8.valid,Bool.or_eq_true,Bool.and_eq_true,decide_eq_true_eq];omega
 unfold Utf8.encode;simp only[h,if_true,Int.toNat_natCast];grind
theorem fU1 {n b0 b1 b2 b3:Nat} (k0:b0<256) (k1:b1<256) (_k2:b2<256) (_k3:b3<256) (h:¬((Aa n b0 b1 b2 b3).1=65533/\(Aa n b0 b1 b2 b3).2=1)) :
  (Utf8.encode ((Aa n b0 b1 b2 b3).1:Int)).data.toList=([b0,b1,b2,b3].take (Aa n b0 b1 b2 b3).2).map Ac:=by
 by_cases h0:b0<128
 ·have hd:Aa n b0 b1 b2 b3=(b0,1):=by
   unfold Aa;rw[if_pos h0]
  rw[hd,qW0 (by omega),if_pos h0];rfl
 by_cases h1:b0/32=6/\(1<n/\b1/64=2)
 ·by_cases h2:b0%32*64+b1%64 >= 128
  ·have hd:Aa n b0 b1 b2 b3=(b0%32*64+b1%64,2):=by
    unfold Aa;rw[if_neg h0,if_pos h1,if_pos h2]
   rw[hd,qW0 (by omega)];grind
  ·refine absurd ?_ h
   unfold Aa;grind
 by_cases h2:b0/16=14/\(1<n/\b1/64=2)/\(2<n/\b2/64=2)
 ·by_cases h3:b0%16*4096+b1%64*64+b2%64 >= 2048/\(b0%16*4096+b1%64*64+b2%64<55296\/(57344<=b0%16*4096+b1%64*64+b2%64/\b0%16*4096+b1%64*64+b2%64<=1114111))
  ·have hd:Aa n b0 b1 b2 b3=(b0%16*4096+b1%64*64+b2%64,3):=by
    unfold Aa;rw[if_neg h0,if_neg h1,if_pos h2,if_pos h3]
   rw[hd,qW0 (by omega)];grind
  ·refine absurd ?_ h
   unfold Aa;grind
 by_cases h3:b0/8=30/\(1<n/\b1/64=2)/\(2<n/\b2/64=2)/\(3<n/\b3/64=2)
 ·by_cases h4:b0%8*262144+b1%64*4096+b2%64*64+b3%64 >= 65536/\(b0%8*262144+b1%64*4096+b2%64*64+b3%64<55296\/(57344<=b0%8*262144+b1%64*4096+b2%64*64+b3%64/\b0%8*262144+b1%64*4096+b2%64*64+b3%64<=1114111))
  ·have hd:Aa n b0 b1 b2 b3=(b0%8*262144+b1%64*4096+b2%64*64+b3%64,4):=by
    unfold Aa;rw[if_neg h0,if_neg h1,if_neg h2,if_pos h3,if_pos h4]
   rw[hd,qW0 (by omega)];obtain⟨v,hv⟩:∃v,v=b0%8*262144+b1%64*4096+b2%64*64+b3%64:=⟨_,rfl⟩;simp only[<-hv];rw[<-hv]at h4;rw[if_neg (by omega),if_neg (by omega),if_neg (by omega),show 240+v/262144=b0 by omega,show 128+v/4096%64=b1 by omega,show 128+v/64%64=b2 by omega,show 128+v%64=b3 by omega]
   rfl
  ·refine absurd ?_ h
   unfold Aa;grind
 ·refine absurd ?_ h
  unfold Aa;grind
theorem fR1 {c:List UInt8} (h:xV c):(Utf8.encode ((Ab c).1:Int)).data.toList=c:=by
 obtain⟨_,ah,ag⟩:=h
 have h4:c.length<=4:=by
  have:=(iV1 c).2
  rw[wV c (by assumption),if_neg ag]at this;omega
 rw[Ag]at ah ag ⊢;rw[fU1 (Af _) (Af _) (Af _) (Af _) ag,ah]
 match c,h4 with
 | [],_=>rfl
 | [a],_=>simp
 | [a,b],_=>simp
 | [a,b,d],_=>simp
 | [a,b,d,e],_=>simp
 | _::_::_::_::_::_,h=>simp at h
end
section
open Go Go.RowKit
attribute [local go_sem] aO
end
end Go.Proofs.YthgklnohcmaopaaGreatDoor
