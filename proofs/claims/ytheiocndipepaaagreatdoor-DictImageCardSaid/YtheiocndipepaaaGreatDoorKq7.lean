/- The texts UtfP Ref1 Ref1N Runes, one behind the other. -/
import Derived.Lib.ValidLaws
import Derived.Lib.RuneCount
import Derived.Shelf.GgClosure.StringsIndexFunc
import Derived.Test.YtheiocndipepaaaGreatDoorKq2
import Derived.Test.YtheiocndipepaaaGreatDoorProg
open Go.Lib renaming decodeN → Aa,decodeL → Ab,validD → Ac,hid → Ad,decodeL_width → Ag,decodeL_N → Ai,runeCountFrom → Aj,decodeL_drop → Ak,idxFuncFrom → Am,width_pos → An,runeCount → Ao,idxFunc → Aq,size_eq → Ar
open UInt8 renaming toNat_lt → Ae
open List renaming drop_eq_getElem_cons → Af,length_drop → Al
open Nat renaming le_refl → Ah,le_trans → Ap
set_option maxHeartbeats 4000000
namespace Go.Proofs.YtheiocndipepaaaGreatDoor
set_option maxRecDepth 100000
section
open Go
def runesGo:Nat->List UInt8->List Nat
 | 0,_=>[]
 | n+1,l=>if l=[] then [] else (Ab l).1::runesGo n (l.drop (Ab l).2)
def runesD (l:List UInt8):List Nat:=runesGo l.length l
theorem oP0:∀n,runesGo n []=[]
 | 0=>rfl
 | _+1=>by simp[runesGo]
theorem yK:∀(n m:Nat) (l:List UInt8),l.length<=n->l.length<=m->runesGo n l=runesGo m l
 | 0,m,l,hn,_=>by
  grind [oP0]
 | n+1,0,l,_,hm=>by
  grind [runesGo]
 | n+1,m+1,l,hn,hm=>by
  unfold runesGo;by_cases ai:l=[]
  ·simp[ai]
  ·have hw:=Ag l
   have hl:0<l.length:=by grind
   rw[if_neg ai,if_neg ai,yK n m (l.drop (Ab l).2) (by grind) (by grind)]
theorem uS0:runesD []=[]:=rfl
theorem mB (l:List UInt8) (ai:l≠[]):runesD l=(Ab l).1::runesD (l.drop (Ab l).2):=by
 have hl:0<l.length:=by grind
 have hw:=Ag l;obtain⟨n,hn⟩:∃n,l.length=n+1:=by simp_all
 unfold runesD;rw[hn];show (if l=[] then [] else _)=_
 rw[if_neg ai,yK n (l.drop (Ab l).2).length _ (by simp_all) (Ah _)]
theorem eT0 (l:List UInt8):(runesD l).length<=l.length:=by
 have key:∀n l,(runesGo n l).length<=n:=by
  intro n
  induction n with
  | zero=>intro l;simp[runesGo]
  | succ n ih=>grind [runesGo]
 exact key _ _
theorem jU {s:ByteArray} {pos:Nat}:s.data.toList.drop pos=[]↔¬pos<s.size:=by
 simp_all
theorem bR0 {s:ByteArray} {pos k:Nat}:(s.data.toList.drop pos).drop k=s.data.toList.drop (pos+k):=by rw[List.drop_drop]
theorem pT (s:ByteArray):∀(f pos:Nat),s.size<=pos+f->Aj s f pos=(runesD (s.data.toList.drop pos)).length
 | 0,pos,h=>by
  have h0:s.data.toList.drop pos=[]:=jU.2 (by omega);rw[h0];rfl
 | f+1,pos,h=>by
  unfold Aj;by_cases hp:pos<s.size
  ·have hw:=An s pos
   rw[if_pos hp,pT s f _ (by omega),mB _ (λe=>jU.1 e hp),Ak,bR0,List.length_cons];omega
  ·rw[if_neg hp,jU.2 hp];rfl
theorem cU0 (s:ByteArray):Ao s=(runesD s.data.toList).length:=by
 unfold Ao;grind [pT]
theorem jZ0 (p:Nat->Bool) (s:ByteArray):∀(f pos:Nat),s.size<=pos+f->decide (0<=Am p true s f pos)=(runesD (s.data.toList.drop pos)).any p
 | 0,pos,h=>by
  have h0:s.data.toList.drop pos=[]:=by simp_all
  rw[h0];rfl
 | f+1,pos,h=>by
  unfold Am;by_cases hp:pos<s.size
  ·have hw:=An s pos
   rw[if_pos hp,mB _ (by simp_all),Ak,bR0,List.any_cons,<-jZ0 p s f _ (by omega)];grind
  ·rw[if_neg hp,jU.2 hp];rfl
theorem jX1 (p:Nat->Bool) (s:ByteArray):decide (0<=Aq p true s)=(runesD s.data.toList).any p:=by
 unfold Aq;grind [jZ0]
def xJ (b:Nat):Nat×Nat :=
 if b<128 then (1,b) else if 192<=b/\b<224 then (2,b-192) else if 224<=b/\b<240 then (3,b-224) else if 240<=b/\b<248 then (4,b-240) else (0,0)
def charS (c:Int):Bool:=decide (0<=c)&&decide (c<=1114111)&&(decide (c<55296)||decide (57343<c))
def rV:List UInt8->Nat->Option Nat
 | [],c=>some c
 | b::r,c=>if b.toNat<128\/191<b.toNat then none else rV r (64*c+b.toNat-128)
def mJ (n:Nat):Nat:=if n=2 then 128 else if n=3 then 2048 else if n=4 then 65536 else 0
def bW1 (l:List UInt8):Nat×Nat :=
 match l with
 | []=>(0,0)
 | b::r=>if (xJ b.toNat).1=0\/r.length+1<(xJ b.toNat).1 then (0,0) else
  match rV (r.take ((xJ b.toNat).1-1)) (xJ b.toNat).2 with
  | none=>(0,0)
  | some c=>if c<mJ (xJ b.toNat).1\/charS c=false then (0,0) else (c,(xJ b.toNat).1)
def fB1 (n b0 b1 b2 b3:Nat):Nat×Nat :=
 if b0<128 then (b0,1)
 else if 192<=b0/\b0<224 then (if n<2\/(b1<128\/191<b1)\/64*(b0-192)+b1-128<128 then (0,0) else (64*(b0-192)+b1-128,2))
 else if 224<=b0/\b0<240 then (if n<3\/(b1<128\/191<b1)\/(b2<128\/191<b2)\/64*(64*(b0-224)+b1-128)+b2-128<2048\/charS (64*(64*(b0-224)+b1-128)+b2-128:Nat)=false then (0,0) else (64*(64*(b0-224)+b1-128)+b2-128,3))
 else if 240<=b0/\b0<248 then (if n<4\/(b1<128\/191<b1)\/(b2<128\/191<b2)\/(b3<128\/191<b3)\/64*(64*(64*(b0-240)+b1-128)+b2-128)+b3-128<65536\/charS (64*(64*(64*(b0-240)+b1-128)+b2-128)+b3-128:Nat)=false then (0,0) else (64*(64*(64*(b0-240)+b1-128)+b2-128)+b3-128,4))
 else (0,0)
theorem mC0 (c:Nat):charS c=false↔¬(c<=1114111/\(c<55296\/57343<c)):=by
 grind [charS]
theorem cY1 {α:Type} {p q:Prop} [Decidable p] [Decidable q] {a b:α}:(if p\/q then a else b)=if p then a else if q then a else b:=by
 grind
theorem oF1 (b:UInt8) (r:List UInt8):bW1 (b::r)=fB1 (r.length+1) b.toNat (r.getD 0 0).toNat (r.getD 1 0).toNat (r.getD 2 0).toNat:=by
 have hb:=b.toNat_lt;unfold bW1 fB1 xJ;by_cases h1:b.toNat<128
 ·have hc:charS (b.toNat:Nat)=true:=by rw[<-Bool.not_eq_false,mC0];omega
  simp[h1,rV,mJ,hc]
 ·by_cases h2:192<=b.toNat/\b.toNat<224
  ·simp only[h1,h2,if_false,if_true,and_self,mJ]
   match r with
   | []=>simp
   | b1::r =>
    have hc:∀h:¬(b1.toNat<128\/191<b1.toNat),charS (64*(b.toNat-192)+b1.toNat-128:Nat)=true:=by grind [charS]
    by_cases fw:b1.toNat<128\/191<b1.toNat
    ·simp[rV,fw]
    ·simp[rV,fw,hc fw]
     exact cY1.symm
  ·by_cases h3:224<=b.toNat/\b.toNat<240
   ·have h2':¬(192<=b.toNat/\b.toNat<224):=h2
    simp only[h1,h2',h3,if_false,if_true,and_self,mJ]
    match r with
    | []=>simp
    | [b1]=>simp
    | b1::b2::r =>
     by_cases fw:b1.toNat<128\/191<b1.toNat
     ·simp[rV,fw]
     ·by_cases eo:b2.toNat<128\/191<b2.toNat
      ·simp[rV,fw,eo]
      ·simp[rV,fw,eo]
       exact cY1.symm
   ·by_cases h4:240<=b.toNat/\b.toNat<248
    ·simp only[h1,h2,h3,h4,if_false,if_true,and_self,mJ]
     match r with
     | []=>simp
     | [b1]=>simp
     | [b1,b2]=>simp
     | b1::b2::b3::r =>
      by_cases fw:b1.toNat<128\/191<b1.toNat
      ·simp[rV,fw]
      ·by_cases eo:b2.toNat<128\/191<b2.toNat
       ·simp[rV,fw,eo]
       ·by_cases mn:b3.toNat<128\/191<b3.toNat
        ·simp[rV,fw,eo,mn]
        ·simp[rV,fw,eo,mn]
         exact cY1.symm
    grind
theorem jY0 (n b0 b1 b2 b3:Nat) (h0:b0<256) (h1:b1<256) (h2:b2<256) (h3:b3<256) :
  fB1 n b0 b1 b2 b3=if (Aa n b0 b1 b2 b3).1=65533/\(Aa n b0 b1 b2 b3).2=1 then (0,0) else Aa n b0 b1 b2 b3:=by
 unfold fB1;simp only[mC0];by_cases c1:b0<128
 ·have:Aa n b0 b1 b2 b3=(b0,1):=Lib.decodeN_ascii n b0 b1 b2 b3 c1
  grind
 ·rw[if_neg c1]
  by_cases c2:192<=b0/\b0<224
  ·rw[if_pos c2]
   by_cases g1:n<2\/(b1<128\/191<b1)
   ·have hD:Aa n b0 b1 b2 b3=(65533,1):=by unfold Aa;rw[if_neg c1,if_neg (by omega),if_neg (by omega),if_neg (by omega)]
    grind
   ·have hv:64*(b0-192)+b1-128=b0%32*64+b1%64:=by omega
    rw[hv];by_cases g2:b0%32*64+b1%64<128
    ·have hD:Aa n b0 b1 b2 b3=(65533,1):=by unfold Aa;rw[if_neg c1,if_pos (by omega),if_neg (by omega)]
     simp_all
    ·have hD:Aa n b0 b1 b2 b3=(b0%32*64+b1%64,2):=by unfold Aa;rw[if_neg c1,if_pos (by omega),if_pos (by omega)]
     simp_all
  ·rw[if_neg c2]
   by_cases c3:224<=b0/\b0<240
   ·rw[if_pos c3]
    by_cases g1:n<3\/(b1<128\/191<b1)\/(b2<128\/191<b2)
    ·have hD:Aa n b0 b1 b2 b3=(65533,1):=by unfold Aa;rw[if_neg c1,if_neg (by omega),if_neg (by omega),if_neg (by omega)]
     grind
    ·have hv:64*(64*(b0-224)+b1-128)+b2-128=b0%16*4096+b1%64*64+b2%64:=by omega
     have hD0:Aa n b0 b1 b2 b3=if b0%16*4096+b1%64*64+b2%64 >= 2048/\(b0%16*4096+b1%64*64+b2%64<55296\/(57344<=b0%16*4096+b1%64*64+b2%64/\b0%16*4096+b1%64*64+b2%64<=1114111)) then (b0%16*4096+b1%64*64+b2%64,3) else (65533,1):=by
      unfold Aa;rw[if_neg c1,if_neg (by omega),if_pos (by omega)]
     grind
   ·rw[if_neg c3]
    by_cases c4:240<=b0/\b0<248
    ·rw[if_pos c4]
     by_cases g1:n<4\/(b1<128\/191<b1)\/(b2<128\/191<b2)\/(b3<128\/191<b3)
     ·have hD:Aa n b0 b1 b2 b3=(65533,1):=by unfold Aa;rw[if_neg c1,if_neg (by omega),if_neg (by omega),if_neg (by omega)]
      grind
     ·have hv:64*(64*(64*(b0-240)+b1-128)+b2-128)+b3-128=b0%8*262144+b1%64*4096+b2%64*64+b3%64:=by omega
      have hD0:Aa n b0 b1 b2 b3=if b0%8*262144+b1%64*4096+b2%64*64+b3%64 >= 65536/\(b0%8*262144+b1%64*4096+b2%64*64+b3%64<55296\/(57344<=b0%8*262144+b1%64*4096+b2%64*64+b3%64/\b0%8*262144+b1%64*4096+b2%64*64+b3%64<=1114111)) then (b0%8*262144+b1%64*4096+b2%64*64+b3%64,4) else (65533,1):=by
       unfold Aa;rw[if_neg c1,if_neg (by omega),if_neg (by omega),if_pos (by omega)]
      grind
    ·have hD:Aa n b0 b1 b2 b3=(65533,1):=by unfold Aa;rw[if_neg c1,if_neg (by omega),if_neg (by omega),if_neg (by omega)]
     rw[hD,if_neg c4];rfl
theorem kU0 (l:List UInt8) (ai:l≠[]):bW1 l=if (Ab l).1=65533/\(Ab l).2=1 then (0,0) else Ab l:=by
 cases l with
 | nil=>exact absurd rfl ai
 | cons b r =>
  grind [oF1,Ai,jY0,Ae]
theorem uX (n b0 b1 b2 b3:Nat) (h1:b1<256) (h2:b2<256) (h3:b3<256) (hv:¬((Aa n b0 b1 b2 b3).1=65533/\(Aa n b0 b1 b2 b3).2=1)) :
  (b0<128/\(Aa n b0 b1 b2 b3)=(b0,1))\/(128<=b0/\(Aa n b0 b1 b2 b3).2<=n/\(2<=(Aa n b0 b1 b2 b3).2->128<=b1)/\(3<=(Aa n b0 b1 b2 b3).2->128<=b2)/\(4<=(Aa n b0 b1 b2 b3).2->128<=b3)/\(Aa n b0 b1 b2 b3).2<=4/\128<=(Aa n b0 b1 b2 b3).1):=by
 unfold Aa at *;repeat' split
 all_goals first
  | (left;exact⟨by assumption,rfl⟩)
  | (right;refine⟨by omega,?_,?_,?_,?_,?_,?_⟩<;>simp only<;>omega)
  | simp_all
  | (exfalso;apply hv;(repeat' split)<;>first|exact⟨rfl,rfl⟩|(exfalso;omega))
end
section
open Go Go.RowKit
attribute [local go_sem] aM
theorem xN0 (b:Nat) (hb:b<256) (w:World) :
  Calls Tryz.prog 246 #[.int .u8 b] w λe w'=>e=.returned (.tuple #[.int .i64 ((xJ b).1:Nat),.int .i32 ((xJ b).2:Nat)])/\w=w':=by
 have h:(b<128/\xJ b=(1,b))\/(192<=b/\b<224/\xJ b=(2,b-192))\/(224<=b/\b<240/\xJ b=(3,b-224))\/(240<=b/\b<248/\xJ b=(4,b-240))\/(128<=b/\b<192/\xJ b=(0,0))\/(248<=b/\xJ b=(0,0)):=by
  unfold xJ;repeat' split
  all_goals simp only[and_true]
  all_goals omega
 rcases h with ⟨h1,h⟩|⟨h1,h2,h⟩|⟨h1,h2,h⟩|⟨h1,h2,h⟩|⟨h1,h2,h⟩|⟨h1,h⟩<;>rw[h]<;>clear h
 ·have g1:(b:Int)<128:=by omega
  go_enter Tryz.func246,Tryz.ntmps246
  go_wp2
  go_ret2;exact⟨rfl,rfl⟩
 ·have g1:¬(b:Int)<128:=by omega
  have g2:(192:Int)<=b:=by omega
  have g3:(b:Int)<224:=by omega
  have g4:((b-192:Nat):Int)=(b:Int)-192:=by omega
  rw[g4];go_enter Tryz.func246,Tryz.ntmps246
  go_wp2
  go_ret2;exact⟨rfl,rfl⟩
 ·have g1:¬(b:Int)<128:=by omega
  have g2:(192:Int)<=b:=by omega
  have g3:¬(b:Int)<224:=by omega
  have g5:(224:Int)<=b:=by omega
  have g6:(b:Int)<240:=by omega
  have g4:((b-224:Nat):Int)=(b:Int)-224:=by omega
  rw[g4];go_enter Tryz.func246,Tryz.ntmps246
  go_wp2
  go_ret2;exact⟨rfl,rfl⟩
 ·have g1:¬(b:Int)<128:=by omega
  have g2:(192:Int)<=b:=by omega
  have g3:¬(b:Int)<224:=by omega
  have g5:(224:Int)<=b:=by omega
  have g6:¬(b:Int)<240:=by omega
  have g7:(240:Int)<=b:=by omega
  have g8:(b:Int)<248:=by omega
  have g4:((b-240:Nat):Int)=(b:Int)-240:=by omega
  rw[g4];go_enter Tryz.func246,Tryz.ntmps246
  go_wp2
  go_ret2;exact⟨rfl,rfl⟩
 ·have g1:¬(b:Int)<128:=by omega
  have g2:¬(192:Int)<=b:=by omega
  have g5:¬(224:Int)<=b:=by omega
  have g7:¬(240:Int)<=b:=by omega
  go_enter Tryz.func246,Tryz.ntmps246
  go_wp2
  go_ret2;exact⟨rfl,rfl⟩
 ·have g1:¬(b:Int)<128:=by omega
  have g2:(192:Int)<=b:=by omega
  have g3:¬(b:Int)<224:=by omega
  have g5:(224:Int)<=b:=by omega
  have g6:¬(b:Int)<240:=by omega
  have g7:(240:Int)<=b:=by omega
  have g8:¬(b:Int)<248:=by omega
  go_enter Tryz.func246,Tryz.ntmps246
  go_wp2
  go_ret2;exact⟨rfl,rfl⟩
theorem hO0 (c:Int) (w:World) :
  Calls Tryz.prog 247 #[.int .i32 c] w λe w'=>e=.returned (.bool (charS c))/\w=w':=by
 go_enter Tryz.func247,Tryz.ntmps247
 go_wp2
 all_goals go_ret
 ·exact⟨by unfold charS;simp[*],rfl⟩
 ·exact⟨by unfold charS;simp[*],rfl⟩
 ·have h:¬c<=1114111:=by omega
  exact⟨by unfold charS;simp[h],rfl⟩
 ·have h:¬0<=c:=by omega
  exact⟨by unfold charS;simp[h],rfl⟩
def nextS (s:ByteArray) (i:Nat):Nat×Nat:=bW1 (s.data.toList.drop i)
theorem wZ0 (b:Nat) (hb:b<256):(xJ b).1<=4/\(xJ b).2<128/\((xJ b).1=2->(xJ b).2<32)/\((xJ b).1=3->(xJ b).2<16)/\((xJ b).1=4->(xJ b).2<8):=by
 unfold xJ;repeat' split
 all_goals simp only
 all_goals omega
def iD0 (s:ByteArray) (i n k:Nat):List UInt8:=(s.data.toList.drop (i+k)).take (n-k)
theorem uE0 {s:ByteArray} {i n k:Nat} (hk:k<n) (h:i+k<s.size):iD0 s i n k=s[i+k]::iD0 s i n (k+1):=by
 unfold iD0;have h2:i+k<s.data.toList.length:=by simpa using h
 rw[Af h2,show n-k=(n-(k+1))+1 by omega,List.take_succ_cons,show i+k+1=i+(k+1) by omega]
 rfl
theorem yG0 {s:ByteArray} {i n k:Nat} (hk:n<=k):iD0 s i n k=[]:=by
 unfold iD0;rw[show n-k=0 by omega];rfl
theorem gF1 {s:ByteArray} {i n c:Nat} (hi:i<s.size) (hn:xJ s[i].toNat=(n,c)):nextS s i=if n=0\/s.size-i<n then (0,0) else
  match rV (iD0 s i n 1) c with
  | none=>(0,0)
  | some c=>if c<mJ n\/charS c=false then (0,0) else (c,n):=by
 unfold nextS bW1 iD0;have h2:i<s.data.toList.length:=by simpa using hi
 have h3:s.data.toList.drop i=s[i]::s.data.toList.drop (i+1):=by rw[Af h2];rfl
 rw[h3];simp only[hn]
 have h4:(s.data.toList.drop (i+1)).length+1=s.size-i:=by
  rw[Al];have:s.data.toList.length=s.size:=rfl;omega
 rw[h4]<;>rfl
theorem gP1 (s:ByteArray) (i:Nat) (w:World) (hs:s.size<4611686018427387904) (hi:i<s.size) :
  Calls Tryz.prog 233 #[.string s,.int .i64 i] w λe w'=>e=.returned (.tuple #[.int .i32 ((nextS s i).1:Nat),.int .i64 ((nextS s i).2:Nat)])/\Grows w w':=by
 obtain⟨n,c,hn⟩:∃n c,xJ s[i].toNat=(n,c):=⟨_,_,rfl⟩;have hc:=wZ0 s[i].toNat (by have:=s[i].toNat_lt;omega);have HL:=λW=>Ad (xN0 s[i].toNat (by have:=s[i].toNat_lt;omega) W);have hq:=gF1 hi hn;rw[hn]at HL hc;simp only at HL hc;generalize nextS s i=R at hq ⊢;by_cases h0:n=0
 ·have jc:R=(0,0):=by rw[hq,if_pos (Or.inl h0)]
  subst jc h0;clear hq hn hc;go_enter Tryz.func233,Tryz.ntmps233
  go_wp2_with (first|(go_at_call 246;refine(HL _).out.mono ?_;rintro e w1 ⟨rfl,rfl⟩))
  all_goals (go_ret2;exact⟨rfl,Grows.refl _⟩)
 ·by_cases h1:s.size-i<n
  ·have jc:R=(0,0):=by rw[hq,if_pos (Or.inr h1)]
   subst jc;have g0:¬(n:Int)=0:=by omega
   have g1:(s.size:Int)-i<n:=by omega
   clear hq hn hc;go_enter Tryz.func233,Tryz.ntmps233
   go_wp2_with (first|(go_at_call 246;refine(HL _).out.mono ?_;rintro e w1 ⟨rfl,rfl⟩))
   all_goals (go_ret2;exact⟨rfl,Grows.refl _⟩)
  ·have g0:((n:Int)==0)=false:=by simpa using h0
   have g1:¬(s.size:Int)-i<n:=by omega
   have fk:i+n<=s.size:=by omega
   rw[if_neg (by omega)]at hq;have HQ:=Ad hq;have HC:=Ad hc;clear hq hn hc h1;go_enter Tryz.func233,Tryz.ntmps233
   go_wp2_with (first|(go_at_call 246;refine(HL _).out.mono ?_;rintro e w1 ⟨rfl,rfl⟩))
   go_loop [7,8] (λx y=>∃k c':Nat,1<=k/\k<=n/\x=.int .i32 c'/\y=.int .i64 k/\Hid (rV (iD0 s i n 1) c=rV (iD0 s i n k) c')/\Hid ((c'+1)*64^(n-k)<=2097152)) (λ_ y=>n-(intOf y).toNat)
   case atStart =>
    refine⟨1,c,Ah _,by omega,rfl,rfl,rfl,?_⟩;obtain⟨q1,q2,q3,q4,q5⟩:=HC.out;show _<=_
    rcases (by omega:n=1\/n=2\/n=3\/n=4) with rfl|rfl|rfl|rfl<;>simp<;>omega
   case round =>
    obtain⟨k,c',k1,k2,rfl,rfl,hco,pm⟩:=hrel;by_cases ae:k<n
    ·have yx:64^(n-k)=64*64^(n-(k+1)):=by rw[show n-k=(n-(k+1))+1 by omega,Nat.pow_succ];omega
     have dm:1<=64^(n-(k+1)):=Nat.pow_pos (by omega);have fw:(c'+1)*64*64^(n-(k+1))<=2097152:=by have:=pm.out;rw[yx,<-Nat.mul_assoc]at this;exact this
     have eo:(c'+1)*64<=2097152:=Ap (Nat.le_mul_of_pos_right _ dm) fw;have hik:i+k<s.size:=by omega
     have bz:=s[i+k].toNat_lt;have j9:=hco.out;rw[uE0 ae hik]at j9;have HB1:=Ad fw;clear yx dm fw pm hco;by_cases cz:s[i+k].toNat<128\/191<s[i+k].toNat
     ·have hR:R=(0,0):=by
       rw[HQ.out,j9];unfold rV;rw[if_pos cz]
      subst hR;clear j9 HQ;rcases cz with h|h
      ·have e1:(s[i+k].toNat:Int)<128:=by omega
       go_wp2
       go_ret2;exact⟨rfl,Grows.refl _⟩
      ·have e1:¬(s[i+k].toNat:Int)<128:=by omega
       have e2:(191:Int)<s[i+k].toNat:=by omega
       go_wp2
       go_ret2;exact⟨rfl,Grows.refl _⟩
     ·have e1:¬(s[i+k].toNat:Int)<128:=by omega
      have e2:¬(191:Int)<s[i+k].toNat:=by omega
      go_wp2
      refine⟨⟨k+1,64*c'+s[i+k].toNat-128,by omega,ae,?_,?_,?_,?_⟩,?_⟩
      ·rw[show ((64*c'+s[i+k].toNat-128:Nat):Int)=64*(c':Int)+s[i+k].toNat-128 by omega]
      ·go_num
      ·show _=_
       rw[j9];exact if_neg cz
      ·refine Ap (Nat.mul_le_mul_right _ ?_) HB1.out
       omega
      ·simp[intOf];omega
    ·obtain rfl:k=n:=by omega
     have j9:=hco.out;rw[yG0 (Ah _)]at j9;have hR:R=if c'<mJ k\/charS c'=false then (0,0) else (c',k):=by rw[HQ.out,j9];rfl
     have HR:=Ad hR;have xg:=λW=>Ad (hO0 c' W);generalize charS c'=ch at xg HR;clear j9 hR HQ pm hco ae HL;obtain⟨q1,_⟩:=HC.out;clear HC;rcases (by omega:k=1\/k=2\/k=3\/k=4) with rfl|rfl|rfl|rfl
     ·have gw:¬(c':Int)<0:=by omega
      cases ch
      ·have hR:R=(0,0):=by rw[HR.out];simp
       subst hR;clear HR;go_wp2_with (first|(go_at_call 247;refine(xg _).out.mono ?_;rintro e w1 ⟨rfl,rfl⟩))
       go_ret2;exact⟨rfl,Grows.alloc _ _⟩
      ·have hR:R=(c',1):=by rw[HR.out];simp[mJ]
       subst hR;clear HR;go_wp2_with (first|(go_at_call 247;refine(xg _).out.mono ?_;rintro e w1 ⟨rfl,rfl⟩))
       go_ret2;exact⟨rfl,Grows.alloc _ _⟩
     ·by_cases hl:c'<128
      ·have gw:(c':Int)<128:=by omega
       have hR:R=(0,0):=by rw[HR.out];simp[mJ,hl]
       subst hR;clear HR hl;go_wp2_with (first|(go_at_call 247;refine(xg _).out.mono ?_;rintro e w1 ⟨rfl,rfl⟩))
       go_ret2;exact⟨rfl,Grows.alloc _ _⟩
      ·have gw:¬(c':Int)<128:=by omega
       cases ch
       ·have hR:R=(0,0):=by rw[HR.out];simp
        subst hR;clear HR hl;go_wp2_with (first|(go_at_call 247;refine(xg _).out.mono ?_;rintro e w1 ⟨rfl,rfl⟩))
        go_ret2;exact⟨rfl,Grows.alloc _ _⟩
       ·have hR:R=(c',2):=by rw[HR.out];simp[mJ,hl]
        subst hR;clear HR hl;go_wp2_with (first|(go_at_call 247;refine(xg _).out.mono ?_;rintro e w1 ⟨rfl,rfl⟩))
        go_ret2;exact⟨rfl,Grows.alloc _ _⟩
     ·by_cases hl:c'<2048
      ·have gw:(c':Int)<2048:=by omega
       have hR:R=(0,0):=by rw[HR.out];simp[mJ,hl]
       subst hR;clear HR hl;go_wp2_with (first|(go_at_call 247;refine(xg _).out.mono ?_;rintro e w1 ⟨rfl,rfl⟩))
       go_ret2;exact⟨rfl,Grows.alloc _ _⟩
      ·have gw:¬(c':Int)<2048:=by omega
       cases ch
       ·have hR:R=(0,0):=by rw[HR.out];simp
        subst hR;clear HR hl;go_wp2_with (first|(go_at_call 247;refine(xg _).out.mono ?_;rintro e w1 ⟨rfl,rfl⟩))
        go_ret2;exact⟨rfl,Grows.alloc _ _⟩
       ·have hR:R=(c',3):=by rw[HR.out];simp[mJ,hl]
        subst hR;clear HR hl;go_wp2_with (first|(go_at_call 247;refine(xg _).out.mono ?_;rintro e w1 ⟨rfl,rfl⟩))
        go_ret2;exact⟨rfl,Grows.alloc _ _⟩
     ·by_cases hl:c'<65536
      ·have gw:(c':Int)<65536:=by omega
       have hR:R=(0,0):=by rw[HR.out];simp[mJ,hl]
       subst hR;clear HR hl;go_wp2_with (first|(go_at_call 247;refine(xg _).out.mono ?_;rintro e w1 ⟨rfl,rfl⟩))
       go_ret2;exact⟨rfl,Grows.alloc _ _⟩
      ·have gw:¬(c':Int)<65536:=by omega
       cases ch
       ·have hR:R=(0,0):=by rw[HR.out];simp
        subst hR;clear HR hl;go_wp2_with (first|(go_at_call 247;refine(xg _).out.mono ?_;rintro e w1 ⟨rfl,rfl⟩))
        go_ret2;exact⟨rfl,Grows.alloc _ _⟩
       ·have hR:R=(c',4):=by rw[HR.out];simp[mJ,hl]
        subst hR;clear HR hl;go_wp2_with (first|(go_at_call 247;refine(xg _).out.mono ?_;rintro e w1 ⟨rfl,rfl⟩))
        go_ret2;exact⟨rfl,Grows.alloc _ _⟩
def cD1 (c:Nat):List Value:=[.int .i32 c]
theorem cG1:eW Tryz.prog 269 21 1 4 cD1 where
 sl:=Tryz.underlying269
 info:=gF (z:=.int .i32 0) (by kernel_rfl) rfl
 pos:=by decide
 by1:=by decide
 len _:=rfl
 one x u hu:=by
  simp[cD1]at hu;subst hu;rfl
theorem xA0 {s:ByteArray} {k:Nat} (hk:k<s.size) :
  ((nextS s k).2=0/\Ac (s.data.toList.drop k)=false)\/(1<=(nextS s k).2/\k+(nextS s k).2<=s.size/\Ac (s.data.toList.drop k)=Ac (s.data.toList.drop (k+(nextS s k).2))/\runesD (s.data.toList.drop k)=(nextS s k).1::runesD (s.data.toList.drop (k+(nextS s k).2))):=by
 have ai:s.data.toList.drop k≠[]:=λe=>jU.1 e hk;have hd:=kU0 _ ai;unfold nextS;rw[hd,Lib.validD_step _ ai,mB _ ai];by_cases hb:(Ab (s.data.toList.drop k)).1=65533/\(Ab (s.data.toList.drop k)).2=1
 ·rw[if_pos hb,if_pos hb];exact Or.inl ⟨rfl,rfl⟩
 ·rw[if_neg hb,if_neg hb,bR0]
  have hs:=uX (s.data.toList.drop k).length ((s.data.toList.drop k).getD 0 0).toNat ((s.data.toList.drop k).getD 1 0).toNat ((s.data.toList.drop k).getD 2 0).toNat ((s.data.toList.drop k).getD 3 0).toNat (Ae _) (Ae _) (Ae _) (by rw[<-Ai];exact hb);rw[<-Ai]at hs;refine Or.inr ⟨Ag _,?_,rfl,rfl⟩;have hl:(s.data.toList.drop k).length=s.size-k:=by rw[Al,Ar]
  rcases hs with ⟨_,h⟩|⟨_,h,_⟩
  ·rw[h];show k+1<=_;omega
  ·rw[hl]at h;omega
def pR (s:ByteArray) (w:World) (e:Ending) (w':World):Prop :=
 ∃a cap,e=.returned (.tuple #[.slice a (if Ac s.data.toList then runesD s.data.toList else []).length cap,.bool (Ac s.data.toList)])/\aF w' a 1 ((if Ac s.data.toList then runesD s.data.toList else []).map cD1)/\Grows w w'
theorem nD0 (s:ByteArray) (w:World) (hs:s.size<=35184372088832) :
  Calls Tryz.prog 220 #[.string s] w (pR s w):=by
 go_enter Tryz.func220,Tryz.ntmps220
 go_wp2_with fail
 go_loopw [4,5] (λv i wr=>∃(k:Nat) (rs:List Nat),k<=s.size/\i=.int .i64 k/\aV wr w.heap.size 21 1 cD1 v rs/\Hid (Ac s.data.toList=Ac (s.data.toList.drop k)/\runesD s.data.toList=rs++runesD (s.data.toList.drop k))/\rs.length<=k/\Grows w wr) (λ_ i _=>s.size-(intOf i).toNat)
 case atStart=>exact⟨0,[],Nat.zero_le _,rfl,aV.nil _ _ _ _ _,⟨rfl,rfl⟩,Ah _,Grows.refl _⟩
 case round =>
  obtain⟨k,rs,hk,rfl,aa,ay,hrl,hg⟩:=hrel;obtain⟨a3,c3,rfl,m7,hc2,ac⟩:=aa.at_ cG1.len;by_cases ae:k<s.size
  ·have HN:=λW=>Ad (gP1 s k W (by omega) ae)
   have er:=xA0 ae;generalize nextS s k=R at *;obtain⟨c,n⟩:=R;simp only at HN er;rcases er with ⟨h0,hv⟩|⟨h1,h2,hv,hr⟩
   ·subst h0
    have cz:Ac s.data.toList=false:=ay.out.1.trans hv;have HB:=Ad cz;clear cz hv ay ac;go_wp2_with (first|(go_at_call 233;refine(HN _).out.mono ?_;rintro e w1 ⟨rfl,ag⟩))
    go_ret2;unfold pR;rw[HB.out];exact⟨none,0,rfl,aF.nil _ _ _,hg.tr ag⟩
   ·have nh:Ac s.data.toList=Ac (s.data.toList.drop (k+n))/\runesD s.data.toList=(rs++[c])++runesD (s.data.toList.drop (k+n)):=⟨ay.out.1.trans hv,by rw[ay.out.2,hr];simp⟩
    have HI:=Ad nh;have jg:((n:Int)==0)=false:=by rw[beq_eq_false_iff_ne];omega
    clear ay nh hv hr ac;go_wp2_with (first|(go_at_call 233;refine(HN _).out.mono ?_;rintro e w1 ⟨rfl,ag⟩)|(at_builtin;refine xG cG1 rfl _ _ rfl w.heap.size _ _ c rfl (aa.grows ag) (Grows.refl _) w1.heap.size 1 rfl #[.int .i32 c] rfl rfl (by omega) (hg.tr ag).size ?_;intro v' w5 kc bg))
    have dp:=bg w (hg.tr ag) (Ah _);go_wp2
    go_roundw
    case rel=>exact⟨k+n,rs++[c],h2,by go_num,kc,HI.out,by simp;omega,dp⟩
    case measure=>simp[intOf];omega
  ·obtain rfl:k=s.size:=by omega
   have au:Ac s.data.toList=true/\runesD s.data.toList=rs:=by
    have:=ay.out
    rw[show s.data.toList.drop s.size=[] by rw[Ar,List.drop_length]]at this
    exact⟨this.1,by rw[this.2,uS0,List.append_nil]⟩
   have HF:=Ad au;clear au ay;go_wp2
   go_ret2;unfold pR;rw[HF.out.1,HF.out.2,if_pos rfl];exact⟨_,_,rfl,ac,hg⟩
end
end Go.Proofs.YtheiocndipepaaaGreatDoor
