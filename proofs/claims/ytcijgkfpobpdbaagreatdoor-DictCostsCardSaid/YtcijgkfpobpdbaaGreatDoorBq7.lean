/- The texts UtfP Ref1 Ref1N Runes, one behind the other. -/
import Derived.Lib.ValidLaws
import Derived.Lib.RuneCount
import Derived.Shelf.GgClosure.StringsIndexFunc
import Derived.Test.YtcijgkfpobpdbaaGreatDoorBq2
import Derived.Test.YtcijgkfpobpdbaaGreatDoorProg
open Go.Lib renaming decodeN → Aa,decodeL → Ab,validD → Ac,hid → Ag,decodeL_width → Ai,decodeL_N → Ak,runeCountFrom → Al,decodeL_drop → An,size_eq → Ao,idxFuncFrom → Ap,width_pos → Aq,runeCount → Ar,idxFunc → At
open UInt8 renaming toNat_lt → Ad
open List renaming length_drop → Ae,eq_nil_of_length_eq_zero → Af,drop_eq_getElem_cons → Ah
open Nat renaming le_refl → Aj,le_trans → As
open Bool renaming not_eq_false → Am
set_option maxHeartbeats 4000000
namespace Go.Proofs.YtcijgkfpobpdbaaGreatDoor
set_option maxRecDepth 100000
section
open Go
def runesGo:Nat->List UInt8->List Nat
 | 0,_=>[]
 | n+1,l=>if l=[] then [] else (Ab l).1::runesGo n (l.drop (Ab l).2)
def runesD (l:List UInt8):List Nat:=runesGo l.length l
theorem oB:∀n,runesGo n []=[]
 | 0=>rfl
 | _+1=>by simp[runesGo]
theorem xS:∀(n m:Nat) (l:List UInt8),l.length<=n->l.length<=m->runesGo n l=runesGo m l
 | 0,m,l,hn,_=>by
  have:l=[]:=Af (by omega)
  subst this;rw[oB,oB]
 | n+1,0,l,_,hm=>by
  have:l=[]:=Af (by omega)
  subst this;rw[oB,oB]
 | n+1,m+1,l,hn,hm=>by
  unfold runesGo;by_cases aj:l=[]
  ·simp[aj]
  ·have hw:=Ai l
   have hl:0<l.length:=List.length_pos_iff.2 aj;rw[if_neg aj,if_neg aj,xS n m (l.drop (Ab l).2) (by rw[Ae];omega) (by rw[Ae];omega)]
theorem sU0:runesD []=[]:=rfl
theorem lQ (l:List UInt8) (aj:l≠[]):runesD l=(Ab l).1::runesD (l.drop (Ab l).2):=by
 have hl:0<l.length:=List.length_pos_iff.2 aj;have hw:=Ai l;obtain⟨n,hn⟩:∃n,l.length=n+1:=⟨l.length-1,by omega⟩;unfold runesD;rw[hn];show (if l=[] then [] else _)=_
 rw[if_neg aj,xS n (l.drop (Ab l).2).length _ (by rw[Ae];omega) (Aj _)]
theorem dJ0 (l:List UInt8):(runesD l).length<=l.length:=by
 have key:∀n l,(runesGo n l).length<=n:=by
  intro n
  induction n with
  | zero=>intro l;simp[runesGo]
  | succ n ih=>intro l;unfold runesGo;split;simp;simp;exact ih _
 exact key _ _
theorem fS {s:ByteArray} {pos:Nat}:s.data.toList.drop pos=[]↔¬pos<s.size:=by
 rw[List.drop_eq_nil_iff,Ao];omega
theorem bS0 {s:ByteArray} {pos k:Nat}:(s.data.toList.drop pos).drop k=s.data.toList.drop (pos+k):=by rw[List.drop_drop]
theorem pW (s:ByteArray):∀(f pos:Nat),s.size<=pos+f->Al s f pos=(runesD (s.data.toList.drop pos)).length
 | 0,pos,h=>by
  have h0:s.data.toList.drop pos=[]:=fS.2 (by omega);rw[h0];rfl
 | f+1,pos,h=>by
  unfold Al;by_cases hp:pos<s.size
  ·have hw:=Aq s pos
   rw[if_pos hp,pW s f _ (by omega),lQ _ (λe=>fS.1 e hp),An,bS0,List.length_cons];omega
  ·rw[if_neg hp,fS.2 hp];rfl
theorem zV (s:ByteArray):Ar s=(runesD s.data.toList).length:=by
 unfold Ar;rw[pW s _ _ (by omega)];rfl
theorem mA0 (p:Nat->Bool) (s:ByteArray):∀(f pos:Nat),s.size<=pos+f->decide (0<=Ap p true s f pos)=(runesD (s.data.toList.drop pos)).any p
 | 0,pos,h=>by
  have h0:s.data.toList.drop pos=[]:=fS.2 (by omega);rw[h0];rfl
 | f+1,pos,h=>by
  unfold Ap;by_cases hp:pos<s.size
  ·have hw:=Aq s pos
   rw[if_pos hp,lQ _ (λe=>fS.1 e hp),An,bS0,List.any_cons,<-mA0 p s f _ (by omega)];cases h1:p (Utf8.decode s pos).1
   ·simp
   ·simp
  ·rw[if_neg hp,fS.2 hp];rfl
theorem gX1 (p:Nat->Bool) (s:ByteArray):decide (0<=At p true s)=(runesD s.data.toList).any p:=by
 unfold At;rw[mA0 p s _ _ (by omega)];rfl
def uY (b:Nat):Nat×Nat :=
 if b<128 then (1,b) else if 192<=b/\b<224 then (2,b-192) else if 224<=b/\b<240 then (3,b-224) else if 240<=b/\b<248 then (4,b-240) else (0,0)
def charS (c:Int):Bool:=decide (0<=c)&&decide (c<=1114111)&&(decide (c<55296)||decide (57343<c))
def rB:List UInt8->Nat->Option Nat
 | [],c=>some c
 | b::r,c=>if b.toNat<128\/191<b.toNat then none else rB r (64*c+b.toNat-128)
def mB (n:Nat):Nat:=if n=2 then 128 else if n=3 then 2048 else if n=4 then 65536 else 0
def yS0 (l:List UInt8):Nat×Nat :=
 match l with
 | []=>(0,0)
 | b::r=>if (uY b.toNat).1=0\/r.length+1<(uY b.toNat).1 then (0,0) else
  match rB (r.take ((uY b.toNat).1-1)) (uY b.toNat).2 with
  | none=>(0,0)
  | some c=>if c<mB (uY b.toNat).1\/charS c=false then (0,0) else (c,(uY b.toNat).1)
def dA1 (n b0 b1 b2 b3:Nat):Nat×Nat :=
 if b0<128 then (b0,1)
 else if 192<=b0/\b0<224 then (if n<2\/(b1<128\/191<b1)\/64*(b0-192)+b1-128<128 then (0,0) else (64*(b0-192)+b1-128,2))
 else if 224<=b0/\b0<240 then (if n<3\/(b1<128\/191<b1)\/(b2<128\/191<b2)\/64*(64*(b0-224)+b1-128)+b2-128<2048\/charS (64*(64*(b0-224)+b1-128)+b2-128:Nat)=false then (0,0) else (64*(64*(b0-224)+b1-128)+b2-128,3))
 else if 240<=b0/\b0<248 then (if n<4\/(b1<128\/191<b1)\/(b2<128\/191<b2)\/(b3<128\/191<b3)\/64*(64*(64*(b0-240)+b1-128)+b2-128)+b3-128<65536\/charS (64*(64*(64*(b0-240)+b1-128)+b2-128)+b3-128:Nat)=false then (0,0) else (64*(64*(64*(b0-240)+b1-128)+b2-128)+b3-128,4))
 else (0,0)
theorem aA0 (c:Nat):charS c=false↔¬(c<=1114111/\(c<55296\/57343<c)):=by
 unfold charS;rw[<-Bool.not_eq_true];simp only[Bool.and_eq_true,Bool.or_eq_true,decide_eq_true_eq];omega
theorem zX0 {α:Type} {p q:Prop} [Decidable p] [Decidable q] {a b:α}:(if p\/q then a else b)=if p then a else if q then a else b:=by
 by_cases h:p<;>by_cases k:q<;>simp[h,k]
theorem lB1 (b:UInt8) (r:List UInt8):yS0 (b::r)=dA1 (r.length+1) b.toNat (r.getD 0 0).toNat (r.getD 1 0).toNat (r.getD 2 0).toNat:=by
 have hb:=b.toNat_lt;unfold yS0 dA1 uY;by_cases h1:b.toNat<128
 ·have hc:charS (b.toNat:Nat)=true:=by rw[<-Am,aA0];omega
  simp[h1,rB,mB,hc]
 ·by_cases h2:192<=b.toNat/\b.toNat<224
  ·simp only[h1,h2,if_false,if_true,and_self,mB]
   match r with
   | []=>simp
   | b1::r =>
    have hc:∀h:¬(b1.toNat<128\/191<b1.toNat),charS (64*(b.toNat-192)+b1.toNat-128:Nat)=true:=λh=>by rw[<-Am,aA0];have:=b1.toNat_lt;omega
    by_cases ga:b1.toNat<128\/191<b1.toNat
    ·simp[rB,ga]
    ·simp[rB,ga,hc ga]
     exact zX0.symm
  ·by_cases h3:224<=b.toNat/\b.toNat<240
   ·have h2':¬(192<=b.toNat/\b.toNat<224):=h2
    simp only[h1,h2',h3,if_false,if_true,and_self,mB]
    match r with
    | []=>simp
    | [b1]=>simp
    | b1::b2::r =>
     by_cases ga:b1.toNat<128\/191<b1.toNat
     ·simp[rB,ga]
     ·by_cases d8:b2.toNat<128\/191<b2.toNat
      ·simp[rB,ga,d8]
      ·simp[rB,ga,d8]
       exact zX0.symm
   ·by_cases h4:240<=b.toNat/\b.toNat<248
    ·simp only[h1,h2,h3,h4,if_false,if_true,and_self,mB]
     match r with
     | []=>simp
     | [b1]=>simp
     | [b1,b2]=>simp
     | b1::b2::b3::r =>
      by_cases ga:b1.toNat<128\/191<b1.toNat
      ·simp[rB,ga]
      ·by_cases d8:b2.toNat<128\/191<b2.toNat
       ·simp[rB,ga,d8]
       ·by_cases lw:b3.toNat<128\/191<b3.toNat
        ·simp[rB,ga,d8,lw]
        ·simp[rB,ga,d8,lw]
         exact zX0.symm
    ·simp[h1,h2,h3,h4]
theorem lP0 (n b0 b1 b2 b3:Nat) (h0:b0<256) (h1:b1<256) (h2:b2<256) (h3:b3<256) :
  dA1 n b0 b1 b2 b3=if (Aa n b0 b1 b2 b3).1=65533/\(Aa n b0 b1 b2 b3).2=1 then (0,0) else Aa n b0 b1 b2 b3:=by
 unfold dA1;simp only[aA0];by_cases c1:b0<128
 ·have:Aa n b0 b1 b2 b3=(b0,1):=Lib.decodeN_ascii n b0 b1 b2 b3 c1
  rw[this,if_pos c1,if_neg (by simp only;omega)]
 ·rw[if_neg c1]
  by_cases c2:192<=b0/\b0<224
  ·rw[if_pos c2]
   by_cases g1:n<2\/(b1<128\/191<b1)
   ·have hD:Aa n b0 b1 b2 b3=(65533,1):=by unfold Aa;rw[if_neg c1,if_neg (by omega),if_neg (by omega),if_neg (by omega)]
    rw[hD,if_pos (by omega)];rfl
   ·have hv:64*(b0-192)+b1-128=b0%32*64+b1%64:=by omega
    rw[hv];by_cases g2:b0%32*64+b1%64<128
    ·have hD:Aa n b0 b1 b2 b3=(65533,1):=by unfold Aa;rw[if_neg c1,if_pos (by omega),if_neg (by omega)]
     rw[hD,if_pos (Or.inr (Or.inr g2))];rfl
    ·have hD:Aa n b0 b1 b2 b3=(b0%32*64+b1%64,2):=by unfold Aa;rw[if_neg c1,if_pos (by omega),if_pos (by omega)]
     rw[hD,if_neg (by omega)];simp
  ·rw[if_neg c2]
   by_cases c3:224<=b0/\b0<240
   ·rw[if_pos c3]
    by_cases g1:n<3\/(b1<128\/191<b1)\/(b2<128\/191<b2)
    ·have hD:Aa n b0 b1 b2 b3=(65533,1):=by unfold Aa;rw[if_neg c1,if_neg (by omega),if_neg (by omega),if_neg (by omega)]
     rw[hD,if_pos (by omega)];rfl
    ·have hv:64*(64*(b0-224)+b1-128)+b2-128=b0%16*4096+b1%64*64+b2%64:=by omega
     have hD0:Aa n b0 b1 b2 b3=if b0%16*4096+b1%64*64+b2%64 >= 2048/\(b0%16*4096+b1%64*64+b2%64<55296\/(57344<=b0%16*4096+b1%64*64+b2%64/\b0%16*4096+b1%64*64+b2%64<=1114111)) then (b0%16*4096+b1%64*64+b2%64,3) else (65533,1):=by
      unfold Aa;rw[if_neg c1,if_neg (by omega),if_pos (by omega)]
     rw[hv];generalize b0%16*4096+b1%64*64+b2%64=q at *;by_cases g2:q<2048\/¬(q<=1114111/\(q<55296\/57343<q))
     ·rw[if_neg (by omega)]at hD0
      rw[hD0,if_pos (Or.inr (Or.inr (Or.inr g2)))];rfl
     ·rw[if_pos (by omega)]at hD0
      rw[hD0,if_neg (by omega)];simp
   ·rw[if_neg c3]
    by_cases c4:240<=b0/\b0<248
    ·rw[if_pos c4]
     by_cases g1:n<4\/(b1<128\/191<b1)\/(b2<128\/191<b2)\/(b3<128\/191<b3)
     ·have hD:Aa n b0 b1 b2 b3=(65533,1):=by unfold Aa;rw[if_neg c1,if_neg (by omega),if_neg (by omega),if_neg (by omega)]
      rw[hD,if_pos (by omega)];rfl
     ·have hv:64*(64*(64*(b0-240)+b1-128)+b2-128)+b3-128=b0%8*262144+b1%64*4096+b2%64*64+b3%64:=by omega
      have hD0:Aa n b0 b1 b2 b3=if b0%8*262144+b1%64*4096+b2%64*64+b3%64 >= 65536/\(b0%8*262144+b1%64*4096+b2%64*64+b3%64<55296\/(57344<=b0%8*262144+b1%64*4096+b2%64*64+b3%64/\b0%8*262144+b1%64*4096+b2%64*64+b3%64<=1114111)) then (b0%8*262144+b1%64*4096+b2%64*64+b3%64,4) else (65533,1):=by
       unfold Aa;rw[if_neg c1,if_neg (by omega),if_neg (by omega),if_pos (by omega)]
      rw[hv];generalize b0%8*262144+b1%64*4096+b2%64*64+b3%64=q at *;by_cases g2:q<65536\/¬(q<=1114111/\(q<55296\/57343<q))
      ·rw[if_neg (by omega)]at hD0
       rw[hD0,if_pos (Or.inr (Or.inr (Or.inr (Or.inr g2))))];rfl
      ·rw[if_pos (by omega)]at hD0
       rw[hD0,if_neg (by omega)];simp
    ·have hD:Aa n b0 b1 b2 b3=(65533,1):=by unfold Aa;rw[if_neg c1,if_neg (by omega),if_neg (by omega),if_neg (by omega)]
     rw[hD,if_neg c4];rfl
theorem lW0 (l:List UInt8) (aj:l≠[]):yS0 l=if (Ab l).1=65533/\(Ab l).2=1 then (0,0) else Ab l:=by
 cases l with
 | nil=>exact absurd rfl aj
 | cons b r =>
  rw[lB1,Ak,lP0 _ _ _ _ _ (Ad _) (Ad _) (Ad _) (Ad _)];simp
theorem tS (n b0 b1 b2 b3:Nat) (h1:b1<256) (h2:b2<256) (h3:b3<256) (hv:¬((Aa n b0 b1 b2 b3).1=65533/\(Aa n b0 b1 b2 b3).2=1)) :
  (b0<128/\(Aa n b0 b1 b2 b3)=(b0,1))\/(128<=b0/\(Aa n b0 b1 b2 b3).2<=n/\(2<=(Aa n b0 b1 b2 b3).2->128<=b1)/\(3<=(Aa n b0 b1 b2 b3).2->128<=b2)/\(4<=(Aa n b0 b1 b2 b3).2->128<=b3)/\(Aa n b0 b1 b2 b3).2<=4/\128<=(Aa n b0 b1 b2 b3).1):=by
 unfold Aa at *;repeat' split
 all_goals first
  | (left;exact⟨by assumption,rfl⟩)
  | (right;refine⟨by omega,?_,?_,?_,?_,?_,?_⟩<;>simp only<;>omega)
  | (exfalso;apply hv;simp[*];done)
  | (exfalso;apply hv;(repeat' split)<;>first|exact⟨rfl,rfl⟩|(exfalso;omega))
end
section
open Go Go.RowKit
attribute [local go_sem] aQ
theorem tW0 (b:Nat) (hb:b<256) (w:World) :
  Calls Tryz.prog 293 #[.int .u8 b] w λe w'=>e=.returned (.tuple #[.int .i64 ((uY b).1:Nat),.int .i32 ((uY b).2:Nat)])/\w=w':=by
 have h:(b<128/\uY b=(1,b))\/(192<=b/\b<224/\uY b=(2,b-192))\/(224<=b/\b<240/\uY b=(3,b-224))\/(240<=b/\b<248/\uY b=(4,b-240))\/(128<=b/\b<192/\uY b=(0,0))\/(248<=b/\uY b=(0,0)):=by
  unfold uY;repeat' split
  all_goals simp only[and_true]
  all_goals omega
 rcases h with ⟨h1,h⟩|⟨h1,h2,h⟩|⟨h1,h2,h⟩|⟨h1,h2,h⟩|⟨h1,h2,h⟩|⟨h1,h⟩<;>rw[h]<;>clear h
 ·have g1:(b:Int)<128:=by omega
  go_enter Tryz.func293,Tryz.ntmps293
  go_wp2
  go_ret2;exact⟨rfl,rfl⟩
 ·have g1:¬(b:Int)<128:=by omega
  have g2:(192:Int)<=b:=by omega
  have g3:(b:Int)<224:=by omega
  have g4:((b-192:Nat):Int)=(b:Int)-192:=by omega
  rw[g4];go_enter Tryz.func293,Tryz.ntmps293
  go_wp2
  go_ret2;exact⟨rfl,rfl⟩
 ·have g1:¬(b:Int)<128:=by omega
  have g2:(192:Int)<=b:=by omega
  have g3:¬(b:Int)<224:=by omega
  have g5:(224:Int)<=b:=by omega
  have g6:(b:Int)<240:=by omega
  have g4:((b-224:Nat):Int)=(b:Int)-224:=by omega
  rw[g4];go_enter Tryz.func293,Tryz.ntmps293
  go_wp2
  go_ret2;exact⟨rfl,rfl⟩
 ·have g1:¬(b:Int)<128:=by omega
  have g2:(192:Int)<=b:=by omega
  have g3:¬(b:Int)<224:=by omega
  have g5:(224:Int)<=b:=by omega
  have g6:¬(b:Int)<240:=by omega
  have g7:(240:Int)<=b:=by omega
  have g8:(b:Int)<248:=by omega
  have g4:((b-240:Nat):Int)=(b:Int)-240:=by omega
  rw[g4];go_enter Tryz.func293,Tryz.ntmps293
  go_wp2
  go_ret2;exact⟨rfl,rfl⟩
 ·have g1:¬(b:Int)<128:=by omega
  have g2:¬(192:Int)<=b:=by omega
  have g5:¬(224:Int)<=b:=by omega
  have g7:¬(240:Int)<=b:=by omega
  go_enter Tryz.func293,Tryz.ntmps293
  go_wp2
  go_ret2;exact⟨rfl,rfl⟩
 ·have g1:¬(b:Int)<128:=by omega
  have g2:(192:Int)<=b:=by omega
  have g3:¬(b:Int)<224:=by omega
  have g5:(224:Int)<=b:=by omega
  have g6:¬(b:Int)<240:=by omega
  have g7:(240:Int)<=b:=by omega
  have g8:¬(b:Int)<248:=by omega
  go_enter Tryz.func293,Tryz.ntmps293
  go_wp2
  go_ret2;exact⟨rfl,rfl⟩
theorem gU0 (c:Int) (w:World) :
  Calls Tryz.prog 294 #[.int .i32 c] w λe w'=>e=.returned (.bool (charS c))/\w=w':=by
 go_enter Tryz.func294,Tryz.ntmps294
 go_wp2
 all_goals go_ret
 ·exact⟨by unfold charS;simp[*],rfl⟩
 ·exact⟨by unfold charS;simp[*],rfl⟩
 ·have h:¬c<=1114111:=by omega
  exact⟨by unfold charS;simp[h],rfl⟩
 ·have h:¬0<=c:=by omega
  exact⟨by unfold charS;simp[h],rfl⟩
def nextS (s:ByteArray) (i:Nat):Nat×Nat:=yS0 (s.data.toList.drop i)
theorem vH0 (b:Nat) (hb:b<256):(uY b).1<=4/\(uY b).2<128/\((uY b).1=2->(uY b).2<32)/\((uY b).1=3->(uY b).2<16)/\((uY b).1=4->(uY b).2<8):=by
 unfold uY;repeat' split
 all_goals simp only
 all_goals omega
def hC0 (s:ByteArray) (i n k:Nat):List UInt8:=(s.data.toList.drop (i+k)).take (n-k)
theorem vF0 {s:ByteArray} {i n k:Nat} (hk:k<n) (h:i+k<s.size):hC0 s i n k=s[i+k]::hC0 s i n (k+1):=by
 unfold hC0;have h2:i+k<s.data.toList.length:=by simpa using h
 rw[Ah h2,show n-k=(n-(k+1))+1 by omega,List.take_succ_cons,show i+k+1=i+(k+1) by omega]
 rfl
theorem zK0 {s:ByteArray} {i n k:Nat} (hk:n<=k):hC0 s i n k=[]:=by
 unfold hC0;rw[show n-k=0 by omega];rfl
theorem fB1 {s:ByteArray} {i n c:Nat} (hi:i<s.size) (hn:uY s[i].toNat=(n,c)):nextS s i=if n=0\/s.size-i<n then (0,0) else
  match rB (hC0 s i n 1) c with
  | none=>(0,0)
  | some c=>if c<mB n\/charS c=false then (0,0) else (c,n):=by
 unfold nextS yS0 hC0;have h2:i<s.data.toList.length:=by simpa using hi
 have h3:s.data.toList.drop i=s[i]::s.data.toList.drop (i+1):=by rw[Ah h2];rfl
 rw[h3];simp only[hn]
 have h4:(s.data.toList.drop (i+1)).length+1=s.size-i:=by
  rw[Ae];have:s.data.toList.length=s.size:=rfl;omega
 rw[h4]<;>rfl
theorem eE1 (s:ByteArray) (i:Nat) (w:World) (hs:s.size<4611686018427387904) (hi:i<s.size) :
  Calls Tryz.prog 281 #[.string s,.int .i64 i] w λe w'=>e=.returned (.tuple #[.int .i32 ((nextS s i).1:Nat),.int .i64 ((nextS s i).2:Nat)])/\Grows w w':=by
 obtain⟨n,c,hn⟩:∃n c,uY s[i].toNat=(n,c):=⟨_,_,rfl⟩;have hc:=vH0 s[i].toNat (by have:=s[i].toNat_lt;omega);have HL:=λW=>Ag (tW0 s[i].toNat (by have:=s[i].toNat_lt;omega) W);have hq:=fB1 hi hn;rw[hn]at HL hc;simp only at HL hc;generalize nextS s i=R at hq ⊢;by_cases h0:n=0
 ·have iy:R=(0,0):=by rw[hq,if_pos (Or.inl h0)]
  subst iy h0;clear hq hn hc;go_enter Tryz.func281,Tryz.ntmps281
  go_wp2_with (first|(go_at_call 293;refine(HL _).out.mono ?_;rintro e w1 ⟨rfl,rfl⟩))
  all_goals (go_ret2;exact⟨rfl,Grows.refl _⟩)
 ·by_cases h1:s.size-i<n
  ·have iy:R=(0,0):=by rw[hq,if_pos (Or.inr h1)]
   subst iy;have g0:¬(n:Int)=0:=by omega
   have g1:(s.size:Int)-i<n:=by omega
   clear hq hn hc;go_enter Tryz.func281,Tryz.ntmps281
   go_wp2_with (first|(go_at_call 293;refine(HL _).out.mono ?_;rintro e w1 ⟨rfl,rfl⟩))
   all_goals (go_ret2;exact⟨rfl,Grows.refl _⟩)
  ·have g0:((n:Int)==0)=false:=by simpa using h0
   have g1:¬(s.size:Int)-i<n:=by omega
   have iw:i+n<=s.size:=by omega
   rw[if_neg (by omega)]at hq;have HQ:=Ag hq;have HC:=Ag hc;clear hq hn hc h1;go_enter Tryz.func281,Tryz.ntmps281
   go_wp2_with (first|(go_at_call 293;refine(HL _).out.mono ?_;rintro e w1 ⟨rfl,rfl⟩))
   go_loop [7,8] (λx y=>∃k c':Nat,1<=k/\k<=n/\x=.int .i32 c'/\y=.int .i64 k/\Hid (rB (hC0 s i n 1) c=rB (hC0 s i n k) c')/\Hid ((c'+1)*64^(n-k)<=2097152)) (λ_ y=>n-(intOf y).toNat)
   case atStart =>
    refine⟨1,c,Aj _,by omega,rfl,rfl,rfl,?_⟩;obtain⟨q1,q2,q3,q4,q5⟩:=HC.out;show _<=_
    rcases (by omega:n=1\/n=2\/n=3\/n=4) with rfl|rfl|rfl|rfl<;>simp<;>omega
   case round =>
    obtain⟨k,c',k1,k2,rfl,rfl,hco,om⟩:=hrel;by_cases ae:k<n
    ·have wg:64^(n-k)=64*64^(n-(k+1)):=by rw[show n-k=(n-(k+1))+1 by omega,Nat.pow_succ];omega
     have du:1<=64^(n-(k+1)):=Nat.pow_pos (by omega);have ga:(c'+1)*64*64^(n-(k+1))<=2097152:=by have:=om.out;rw[wg,<-Nat.mul_assoc]at this;exact this
     have d8:(c'+1)*64<=2097152:=As (Nat.le_mul_of_pos_right _ du) ga;have hik:i+k<s.size:=by omega
     have b9:=s[i+k].toNat_lt;have jw:=hco.out;rw[vF0 ae hik]at jw;have HB1:=Ag ga;clear wg du ga om hco;by_cases fc:s[i+k].toNat<128\/191<s[i+k].toNat
     ·have hR:R=(0,0):=by
       rw[HQ.out,jw];unfold rB;rw[if_pos fc]
      subst hR;clear jw HQ;rcases fc with h|h
      ·have e1:(s[i+k].toNat:Int)<128:=by omega
       go_wp2
       go_ret2;exact⟨rfl,Grows.refl _⟩
      ·have e1:¬(s[i+k].toNat:Int)<128:=by omega
       have e2:(191:Int)<s[i+k].toNat:=by omega
       go_wp2
       go_ret2;exact⟨rfl,Grows.refl _⟩
     ·have e1:¬(s[i+k].toNat:Int)<128:=by omega
      have e2:¬(191:Int)<s[i+k].toNat:=by omega
      go_wp2
      refine⟨⟨k+1,64*c'+s[i+k].toNat-128,by omega,ae,?_,?_,?_,?_⟩,?_⟩
      ·rw[show ((64*c'+s[i+k].toNat-128:Nat):Int)=64*(c':Int)+s[i+k].toNat-128 by omega]
      ·go_num
      ·show _=_
       rw[jw];exact if_neg fc
      ·refine As (Nat.mul_le_mul_right _ ?_) HB1.out
       omega
      ·simp[intOf];omega
    ·obtain rfl:k=n:=by omega
     have jw:=hco.out;rw[zK0 (Aj _)]at jw;have hR:R=if c'<mB k\/charS c'=false then (0,0) else (c',k):=by rw[HQ.out,jw];rfl
     have HR:=Ag hR;have ux:=λW=>Ag (gU0 c' W);generalize charS c'=ch at ux HR;clear jw hR HQ om hco ae HL;obtain⟨q1,_⟩:=HC.out;clear HC;rcases (by omega:k=1\/k=2\/k=3\/k=4) with rfl|rfl|rfl|rfl
     ·have jh:¬(c':Int)<0:=by omega
      cases ch
      ·have hR:R=(0,0):=by rw[HR.out];simp
       subst hR;clear HR;go_wp2_with (first|(go_at_call 294;refine(ux _).out.mono ?_;rintro e w1 ⟨rfl,rfl⟩))
       go_ret2;exact⟨rfl,Grows.alloc _ _⟩
      ·have hR:R=(c',1):=by rw[HR.out];simp[mB]
       subst hR;clear HR;go_wp2_with (first|(go_at_call 294;refine(ux _).out.mono ?_;rintro e w1 ⟨rfl,rfl⟩))
       go_ret2;exact⟨rfl,Grows.alloc _ _⟩
     ·by_cases hl:c'<128
      ·have jh:(c':Int)<128:=by omega
       have hR:R=(0,0):=by rw[HR.out];simp[mB,hl]
       subst hR;clear HR hl;go_wp2_with (first|(go_at_call 294;refine(ux _).out.mono ?_;rintro e w1 ⟨rfl,rfl⟩))
       go_ret2;exact⟨rfl,Grows.alloc _ _⟩
      ·have jh:¬(c':Int)<128:=by omega
       cases ch
       ·have hR:R=(0,0):=by rw[HR.out];simp
        subst hR;clear HR hl;go_wp2_with (first|(go_at_call 294;refine(ux _).out.mono ?_;rintro e w1 ⟨rfl,rfl⟩))
        go_ret2;exact⟨rfl,Grows.alloc _ _⟩
       ·have hR:R=(c',2):=by rw[HR.out];simp[mB,hl]
        subst hR;clear HR hl;go_wp2_with (first|(go_at_call 294;refine(ux _).out.mono ?_;rintro e w1 ⟨rfl,rfl⟩))
        go_ret2;exact⟨rfl,Grows.alloc _ _⟩
     ·by_cases hl:c'<2048
      ·have jh:(c':Int)<2048:=by omega
       have hR:R=(0,0):=by rw[HR.out];simp[mB,hl]
       subst hR;clear HR hl;go_wp2_with (first|(go_at_call 294;refine(ux _).out.mono ?_;rintro e w1 ⟨rfl,rfl⟩))
       go_ret2;exact⟨rfl,Grows.alloc _ _⟩
      ·have jh:¬(c':Int)<2048:=by omega
       cases ch
       ·have hR:R=(0,0):=by rw[HR.out];simp
        subst hR;clear HR hl;go_wp2_with (first|(go_at_call 294;refine(ux _).out.mono ?_;rintro e w1 ⟨rfl,rfl⟩))
        go_ret2;exact⟨rfl,Grows.alloc _ _⟩
       ·have hR:R=(c',3):=by rw[HR.out];simp[mB,hl]
        subst hR;clear HR hl;go_wp2_with (first|(go_at_call 294;refine(ux _).out.mono ?_;rintro e w1 ⟨rfl,rfl⟩))
        go_ret2;exact⟨rfl,Grows.alloc _ _⟩
     ·by_cases hl:c'<65536
      ·have jh:(c':Int)<65536:=by omega
       have hR:R=(0,0):=by rw[HR.out];simp[mB,hl]
       subst hR;clear HR hl;go_wp2_with (first|(go_at_call 294;refine(ux _).out.mono ?_;rintro e w1 ⟨rfl,rfl⟩))
       go_ret2;exact⟨rfl,Grows.alloc _ _⟩
      ·have jh:¬(c':Int)<65536:=by omega
       cases ch
       ·have hR:R=(0,0):=by rw[HR.out];simp
        subst hR;clear HR hl;go_wp2_with (first|(go_at_call 294;refine(ux _).out.mono ?_;rintro e w1 ⟨rfl,rfl⟩))
        go_ret2;exact⟨rfl,Grows.alloc _ _⟩
       ·have hR:R=(c',4):=by rw[HR.out];simp[mB,hl]
        subst hR;clear HR hl;go_wp2_with (first|(go_at_call 294;refine(ux _).out.mono ?_;rintro e w1 ⟨rfl,rfl⟩))
        go_ret2;exact⟨rfl,Grows.alloc _ _⟩
def aI1 (c:Nat):List Value:=[.int .i32 c]
theorem zM0:eG Tryz.prog 299 21 1 4 aI1 where
 sl:=Tryz.underlying299
 info:=fT (z:=.int .i32 0) (by kernel_rfl) rfl
 pos:=by decide
 by1:=by decide
 len _:=rfl
 one x u hu:=by
  simp[aI1]at hu;subst hu;rfl
theorem sE0 {s:ByteArray} {k:Nat} (hk:k<s.size) :
  ((nextS s k).2=0/\Ac (s.data.toList.drop k)=false)\/(1<=(nextS s k).2/\k+(nextS s k).2<=s.size/\Ac (s.data.toList.drop k)=Ac (s.data.toList.drop (k+(nextS s k).2))/\runesD (s.data.toList.drop k)=(nextS s k).1::runesD (s.data.toList.drop (k+(nextS s k).2))):=by
 have aj:s.data.toList.drop k≠[]:=λe=>fS.1 e hk;have hd:=lW0 _ aj;unfold nextS;rw[hd,Lib.validD_step _ aj,lQ _ aj];by_cases hb:(Ab (s.data.toList.drop k)).1=65533/\(Ab (s.data.toList.drop k)).2=1
 ·rw[if_pos hb,if_pos hb];exact Or.inl ⟨rfl,rfl⟩
 ·rw[if_neg hb,if_neg hb,bS0]
  have hs:=tS (s.data.toList.drop k).length ((s.data.toList.drop k).getD 0 0).toNat ((s.data.toList.drop k).getD 1 0).toNat ((s.data.toList.drop k).getD 2 0).toNat ((s.data.toList.drop k).getD 3 0).toNat (Ad _) (Ad _) (Ad _) (by rw[<-Ak];exact hb);rw[<-Ak]at hs;refine Or.inr ⟨Ai _,?_,rfl,rfl⟩;have hl:(s.data.toList.drop k).length=s.size-k:=by rw[Ae,Ao]
  rcases hs with ⟨_,h⟩|⟨_,h,_⟩
  ·rw[h];show k+1<=_;omega
  ·rw[hl]at h;omega
def qD (s:ByteArray) (w:World) (e:Ending) (w':World):Prop :=
 ∃a cap,e=.returned (.tuple #[.slice a (if Ac s.data.toList then runesD s.data.toList else []).length cap,.bool (Ac s.data.toList)])/\aF w' a 1 ((if Ac s.data.toList then runesD s.data.toList else []).map aI1)/\Grows w w'
theorem lF0 (s:ByteArray) (w:World) (hs:s.size<=35184372088832) :
  Calls Tryz.prog 251 #[.string s] w (qD s w):=by
 go_enter Tryz.func251,Tryz.ntmps251
 go_wp2_with fail
 go_loopw [4,5] (λv i wr=>∃(k:Nat) (rs:List Nat),k<=s.size/\i=.int .i64 k/\aU wr w.heap.size 21 1 aI1 v rs/\Hid (Ac s.data.toList=Ac (s.data.toList.drop k)/\runesD s.data.toList=rs++runesD (s.data.toList.drop k))/\rs.length<=k/\Grows w wr) (λ_ i _=>s.size-(intOf i).toNat)
 case atStart=>exact⟨0,[],Nat.zero_le _,rfl,aU.nil _ _ _ _ _,⟨rfl,rfl⟩,Aj _,Grows.refl _⟩
 case round =>
  obtain⟨k,rs,hk,rfl,aa,az,hrl,hg⟩:=hrel;obtain⟨a3,c3,rfl,mj,hc2,ac⟩:=aa.at_ zM0.len;by_cases ae:k<s.size
  ·have HN:=λW=>Ag (eE1 s k W (by omega) ae)
   have eo:=sE0 ae;generalize nextS s k=R at *;obtain⟨c,n⟩:=R;simp only at HN eo;rcases eo with ⟨h0,hv⟩|⟨h1,h2,hv,hr⟩
   ·subst h0
    have fc:Ac s.data.toList=false:=az.out.1.trans hv;have HB:=Ag fc;clear fc hv az ac;go_wp2_with (first|(go_at_call 281;refine(HN _).out.mono ?_;rintro e w1 ⟨rfl,ah⟩))
    go_ret2;unfold qD;rw[HB.out];exact⟨none,0,rfl,aF.nil _ _ _,hg.tr ah⟩
   ·have ms:Ac s.data.toList=Ac (s.data.toList.drop (k+n))/\runesD s.data.toList=(rs++[c])++runesD (s.data.toList.drop (k+n)):=⟨az.out.1.trans hv,by rw[az.out.2,hr];simp⟩
    have HI:=Ag ms;have il:((n:Int)==0)=false:=by rw[beq_eq_false_iff_ne];omega
    clear az ms hv hr ac;go_wp2_with (first|(go_at_call 281;refine(HN _).out.mono ?_;rintro e w1 ⟨rfl,ah⟩)|(at_builtin;refine bT0 zM0 rfl _ _ rfl w.heap.size _ _ c rfl (aa.grows ah) (Grows.refl _) w1.heap.size 1 rfl #[.int .i32 c] rfl rfl (by omega) (hg.tr ah).size ?_;intro v' w5 jx bg))
    have di:=bg w (hg.tr ah) (Aj _);go_wp2
    go_roundw
    case rel=>exact⟨k+n,rs++[c],h2,by go_num,jx,HI.out,by simp;omega,di⟩
    case measure=>simp[intOf];omega
  ·obtain rfl:k=s.size:=by omega
   have au:Ac s.data.toList=true/\runesD s.data.toList=rs:=by
    have:=az.out
    rw[show s.data.toList.drop s.size=[] by rw[Ao,List.drop_length]]at this
    exact⟨this.1,by rw[this.2,sU0,List.append_nil]⟩
   have HF:=Ag au;clear au az;go_wp2
   go_ret2;unfold qD;rw[HF.out.1,HF.out.2,if_pos rfl];exact⟨_,_,rfl,ac,hg⟩
end
end Go.Proofs.YtcijgkfpobpdbaaGreatDoor
