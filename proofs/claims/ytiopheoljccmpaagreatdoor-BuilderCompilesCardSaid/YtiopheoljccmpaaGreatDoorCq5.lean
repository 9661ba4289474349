/- The texts UtfP Ref1 Ref1N, one behind the other. -/
import Derived.Lib.ValidLaws
import Derived.Lib.RuneCount
import Derived.Shelf.GgClosure.StringsIndexFunc
import Derived.Test.YtiopheoljccmpaaGreatDoorCq1
import Derived.Test.YtiopheoljccmpaaGreatDoorProg
open Go.Lib renaming decodeN → Aa,decodeL → Ab,decodeL_width → Ae,decodeL_N → Ag,runeCountFrom → Ah,hid → Ai,decodeL_drop → Aj,idxFuncFrom → Al,width_pos → Am,runeCount → An,idxFunc → Ap
open UInt8 renaming toNat_lt → Ac
open List renaming drop_eq_getElem_cons → Ad,length_drop → Af
open Nat renaming le_refl → Ak,le_trans → Ao
set_option maxHeartbeats 4000000
namespace Go.Proofs.YtiopheoljccmpaaGreatDoor
set_option maxRecDepth 100000
section
open Go
def runesGo:Nat->List UInt8->List Nat
 | 0,_=>[]
 | n+1,l=>if l=[] then [] else (Ab l).1::runesGo n (l.drop (Ab l).2)
def runesD (l:List UInt8):List Nat:=runesGo l.length l
theorem mI0:∀n,runesGo n []=[]
 | 0=>rfl
 | _+1=>by simp[runesGo]
theorem vQ:∀(n m:Nat) (l:List UInt8),l.length<=n->l.length<=m->runesGo n l=runesGo m l
 | 0,m,l,hn,_=>by
  grind [mI0]
 | n+1,0,l,_,hm=>by
  grind [runesGo]
 | n+1,m+1,l,hn,hm=>by
  unfold runesGo;by_cases aw:l=[]
  ·simp[aw]
  ·have hw:=Ae l
   have hl:0<l.length:=by grind
   rw[if_neg aw,if_neg aw,vQ n m (l.drop (Ab l).2) (by grind) (by grind)]
theorem sT0:runesD []=[]:=rfl
theorem gO (l:List UInt8) (aw:l≠[]):runesD l=(Ab l).1::runesD (l.drop (Ab l).2):=by
 have hl:0<l.length:=by grind
 have hw:=Ae l;obtain⟨n,hn⟩:∃n,l.length=n+1:=by simp_all
 unfold runesD;rw[hn];show (if l=[] then [] else _)=_
 rw[if_neg aw,vQ n (l.drop (Ab l).2).length _ (by simp_all) (Ak _)]
theorem cH0 (l:List UInt8):(runesD l).length<=l.length:=by
 have key:∀n l,(runesGo n l).length<=n:=by
  intro n
  induction n with
  | zero=>intro l;simp[runesGo]
  | succ n ih=>grind [runesGo]
 exact key _ _
theorem jC {s:ByteArray} {pos:Nat}:s.data.toList.drop pos=[]↔¬pos<s.size:=by
 simp_all
theorem aC0 {s:ByteArray} {pos k:Nat}:(s.data.toList.drop pos).drop k=s.data.toList.drop (pos+k):=by rw[List.drop_drop]
theorem oJ (s:ByteArray):∀(f pos:Nat),s.size<=pos+f->Ah s f pos=(runesD (s.data.toList.drop pos)).length
 | 0,pos,h=>by
  have h0:s.data.toList.drop pos=[]:=jC.2 (by omega);rw[h0];rfl
 | f+1,pos,h=>by
  unfold Ah;by_cases hp:pos<s.size
  ·have hw:=Am s pos
   rw[if_pos hp,oJ s f _ (by omega),gO _ (λe=>jC.1 e hp),Aj,aC0,List.length_cons];omega
  ·rw[if_neg hp,jC.2 hp];rfl
theorem bE0 (s:ByteArray):An s=(runesD s.data.toList).length:=by
 unfold An;grind [oJ]
theorem jL0 (p:Nat->Bool) (s:ByteArray):∀(f pos:Nat),s.size<=pos+f->decide (0<=Al p true s f pos)=(runesD (s.data.toList.drop pos)).any p
 | 0,pos,h=>by
  have h0:s.data.toList.drop pos=[]:=by simp_all
  rw[h0];rfl
 | f+1,pos,h=>by
  unfold Al;by_cases hp:pos<s.size
  ·have hw:=Am s pos
   rw[if_pos hp,gO _ (by simp_all),Aj,aC0,List.any_cons,<-jL0 p s f _ (by omega)];grind
  ·rw[if_neg hp,jC.2 hp];rfl
theorem dJ1 (p:Nat->Bool) (s:ByteArray):decide (0<=Ap p true s)=(runesD s.data.toList).any p:=by
 unfold Ap;grind [jL0]
def vB (b:Nat):Nat×Nat :=
 if b<128 then (1,b) else if 192<=b/\b<224 then (2,b-192) else if 224<=b/\b<240 then (3,b-224) else if 240<=b/\b<248 then (4,b-240) else (0,0)
def charS (c:Int):Bool:=decide (0<=c)&&decide (c<=1114111)&&(decide (c<55296)||decide (57343<c))
def qL:List UInt8->Nat->Option Nat
 | [],c=>some c
 | b::r,c=>if b.toNat<128\/191<b.toNat then none else qL r (64*c+b.toNat-128)
def kV (n:Nat):Nat:=if n=2 then 128 else if n=3 then 2048 else if n=4 then 65536 else 0
def xI0 (l:List UInt8):Nat×Nat :=
 match l with
 | []=>(0,0)
 | b::r=>if (vB b.toNat).1=0\/r.length+1<(vB b.toNat).1 then (0,0) else
  match qL (r.take ((vB b.toNat).1-1)) (vB b.toNat).2 with
  | none=>(0,0)
  | some c=>if c<kV (vB b.toNat).1\/charS c=false then (0,0) else (c,(vB b.toNat).1)
def dM1 (n b0 b1 b2 b3:Nat):Nat×Nat :=
 if b0<128 then (b0,1)
 else if 192<=b0/\b0<224 then (if n<2\/(b1<128\/191<b1)\/64*(b0-192)+b1-128<128 then (0,0) else (64*(b0-192)+b1-128,2))
 else if 224<=b0/\b0<240 then (if n<3\/(b1<128\/191<b1)\/(b2<128\/191<b2)\/64*(64*(b0-224)+b1-128)+b2-128<2048\/charS (64*(64*(b0-224)+b1-128)+b2-128:Nat)=false then (0,0) else (64*(64*(b0-224)+b1-128)+b2-128,3))
 else if 240<=b0/\b0<248 then (if n<4\/(b1<128\/191<b1)\/(b2<128\/191<b2)\/(b3<128\/191<b3)\/64*(64*(64*(b0-240)+b1-128)+b2-128)+b3-128<65536\/charS (64*(64*(64*(b0-240)+b1-128)+b2-128)+b3-128:Nat)=false then (0,0) else (64*(64*(64*(b0-240)+b1-128)+b2-128)+b3-128,4))
 else (0,0)
theorem iT0 (c:Nat):charS c=false↔¬(c<=1114111/\(c<55296\/57343<c)):=by
 grind [charS]
theorem wK0 {α:Type} {p q:Prop} [Decidable p] [Decidable q] {a b:α}:(if p\/q then a else b)=if p then a else if q then a else b:=by
 grind
theorem gD1 (b:UInt8) (r:List UInt8):xI0 (b::r)=dM1 (r.length+1) b.toNat (r.getD 0 0).toNat (r.getD 1 0).toNat (r.getD 2 0).toNat:=by
 have hb:=b.toNat_lt;unfold xI0 dM1 vB;by_cases h1:b.toNat<128
 ·have hc:charS (b.toNat:Nat)=true:=by rw[<-Bool.not_eq_false,iT0];omega
  simp[h1,qL,kV,hc]
 ·by_cases h2:192<=b.toNat/\b.toNat<224
  ·simp only[h1,h2,if_false,if_true,and_self,kV]
   match r with
   | []=>simp
   | b1::r =>
    have hc:∀h:¬(b1.toNat<128\/191<b1.toNat),charS (64*(b.toNat-192)+b1.toNat-128:Nat)=true:=by grind [charS]
    by_cases gh:b1.toNat<128\/191<b1.toNat
    ·simp[qL,gh]
    ·simp[qL,gh,hc gh]
     exact wK0.symm
  ·by_cases h3:224<=b.toNat/\b.toNat<240
   ·have h2':¬(192<=b.toNat/\b.toNat<224):=h2
    simp only[h1,h2',h3,if_false,if_true,and_self,kV]
    match r with
    | []=>simp
    | [b1]=>simp
    | b1::b2::r =>
     by_cases gh:b1.toNat<128\/191<b1.toNat
     ·simp[qL,gh]
     ·by_cases fp:b2.toNat<128\/191<b2.toNat
      ·simp[qL,gh,fp]
      ·simp[qL,gh,fp]
       exact wK0.symm
   ·by_cases h4:240<=b.toNat/\b.toNat<248
    ·simp only[h1,h2,h3,h4,if_false,if_true,and_self,kV]
     match r with
     | []=>simp
     | [b1]=>simp
     | [b1,b2]=>simp
     | b1::b2::b3::r =>
      by_cases gh:b1.toNat<128\/191<b1.toNat
      ·simp[qL,gh]
      ·by_cases fp:b2.toNat<128\/191<b2.toNat
       ·simp[qL,gh,fp]
       ·by_cases kn:b3.toNat<128\/191<b3.toNat
        ·simp[qL,gh,fp,kn]
        ·simp[qL,gh,fp,kn]
         exact wK0.symm
    grind
theorem iG0 (n b0 b1 b2 b3:Nat) (h0:b0<256) (h1:b1<256) (h2:b2<256) (h3:b3<256) :
  dM1 n b0 b1 b2 b3=if (Aa n b0 b1 b2 b3).1=65533/\(Aa n b0 b1 b2 b3).2=1 then (0,0) else Aa n b0 b1 b2 b3:=by
 unfold dM1;simp only[iT0];by_cases c1:b0<128
 ·grind [Lib.decodeN_ascii]
 ·rw[if_neg c1]
  by_cases c2:192<=b0/\b0<224
  ·rw[if_pos c2]
   by_cases g1:n<2\/(b1<128\/191<b1)
   ·have hD:Aa n b0 b1 b2 b3=(65533,1):=by unfold Aa;rw[if_neg c1,if_neg (by omega),if_neg (by omega),if_neg (by omega)]
    grind
   ·have hv:64*(b0-192)+b1-128=b0%32*64+b1%64:=by omega
    rw[hv];by_cases g2:b0%32*64+b1%64<128
    ·have hD:Aa n b0 b1 b2 b3=(65533,1):=by unfold Aa;rw[if_neg c1,if_pos (by omega),if_neg (by omega)]
     simp_all
    ·have hD:Aa n b0 b1 b2 b3=(b0%32*64+b1%64,2):=by unfold Aa;rw[if_neg c1,if_pos (by omega),if_pos (by omega)]
     simp_all
  ·rw[if_neg c2]
   by_cases c3:224<=b0/\b0<240
   ·rw[if_pos c3]
    by_cases g1:n<3\/(b1<128\/191<b1)\/(b2<128\/191<b2)
    ·have hD:Aa n b0 b1 b2 b3=(65533,1):=by unfold Aa;rw[if_neg c1,if_neg (by omega),if_neg (by omega),if_neg (by omega)]
     grind
    ·have hv:64*(64*(b0-224)+b1-128)+b2-128=b0%16*4096+b1%64*64+b2%64:=by omega
     have hD0:Aa n b0 b1 b2 b3=if b0%16*4096+b1%64*64+b2%64 >= 2048/\(b0%16*4096+b1%64*64+b2%64<55296\/(57344<=b0%16*4096+b1%64*64+b2%64/\b0%16*4096+b1%64*64+b2%64<=1114111)) then (b0%16*4096+b1%64*64+b2%64,3) else (65533,1):=by
      unfold Aa;rw[if_neg c1,if_neg (by omega),if_pos (by omega)]
     grind
   ·rw[if_neg c3]
    by_cases c4:240<=b0/\b0<248
    ·rw[if_pos c4]
     by_cases g1:n<4\/(b1<128\/191<b1)\/(b2<128\/191<b2)\/(b3<128\/191<b3)
     ·have hD:Aa n b0 b1 b2 b3=(65533,1):=by unfold Aa;rw[if_neg c1,if_neg (by omega),if_neg (by omega),if_neg (by omega)]
      grind
     ·have hv:64*(64*(64*(b0-240)+b1-128)+b2-128)+b3-128=b0%8*262144+b1%64*4096+b2%64*64+b3%64:=by omega
      have hD0:Aa n b0 b1 b2 b3=if b0%8*262144+b1%64*4096+b2%64*64+b3%64 >= 65536/\(b0%8*262144+b1%64*4096+b2%64*64+b3%64<55296\/(57344<=b0%8*262144+b1%64*4096+b2%64*64+b3%64/\b0%8*262144+b1%64*4096+b2%64*64+b3%64<=1114111)) then (b0%8*262144+b1%64*4096+b2%64*64+b3%64,4) else (65533,1):=by
       unfold Aa;rw[if_neg c1,if_neg (by omega),if_neg (by omega),if_pos (by omega)]
      grind
    ·have hD:Aa n b0 b1 b2 b3=(65533,1):=by unfold Aa;rw[if_neg c1,if_neg (by omega),if_neg (by omega),if_neg (by omega)]
     rw[hD,if_neg c4];rfl
theorem hN0 (l:List UInt8) (aw:l≠[]):xI0 l=if (Ab l).1=65533/\(Ab l).2=1 then (0,0) else Ab l:=by
 cases l with
 | nil=>exact absurd rfl aw
 | cons b r =>
  grind [gD1,Ag,iG0,Ac]
theorem nA (n b0 b1 b2 b3:Nat) (h1:b1<256) (h2:b2<256) (h3:b3<256) (hv:¬((Aa n b0 b1 b2 b3).1=65533/\(Aa n b0 b1 b2 b3).2=1)) :
  (b0<128/\(Aa n b0 b1 b2 b3)=(b0,1))\/(128<=b0/\(Aa n b0 b1 b2 b3).2<=n/\(2<=(Aa n b0 b1 b2 b3).2->128<=b1)/\(3<=(Aa n b0 b1 b2 b3).2->128<=b2)/\(4<=(Aa n b0 b1 b2 b3).2->128<=b3)/\(Aa n b0 b1 b2 b3).2<=4/\128<=(Aa n b0 b1 b2 b3).1):=by
 unfold Aa at *;repeat' split
 all_goals first
  | (left;exact⟨by assumption,rfl⟩)
  | (right;refine⟨by omega,?_,?_,?_,?_,?_,?_⟩<;>simp only<;>omega)
  | simp_all
  | (exfalso;apply hv;(repeat' split)<;>first|exact⟨rfl,rfl⟩|(exfalso;omega))
theorem gX0:∀(n:Nat) (l:List UInt8),l.length<=n->Lib.validD l=true->∀b,b∈l->b.toNat<128->b.toNat∈runesD l
 | 0,l,hl,_,b,hb,_=>by
  have:l=[]:=List.eq_nil_of_length_eq_zero (by omega)
  subst this;cases hb
 | n+1,l,hl,hv,b,hb,af=>by
  have aw:l≠[]:=by rintro rfl;cases hb
  rw[Lib.validD_step l aw]at hv;rw[gO l aw];have hw:=Ae l;split at hv
  ·cases hv
  ·rename_i fq
   have ay:0<l.length:=List.length_pos_iff.2 aw;have ih:=gX0 n (l.drop (Ab l).2) (by rw[Af];omega) hv b;have hd:=nA l.length (l.getD 0 0).toNat (l.getD 1 0).toNat (l.getD 2 0).toNat (l.getD 3 0).toNat (Ac _) (Ac _) (Ac _) (by rw[<-Ag];exact fq);rw[<-Ag]at hd;by_cases jg:b∈l.drop (Ab l).2
   ·exact List.mem_cons_of_mem _ (ih jg af)
   ·obtain⟨i,hi,rfl⟩:=List.getElem_of_mem hb
    have gb:i<(Ab l).2:=by
     rcases Nat.lt_or_ge i (Ab l).2 with h|h
     ·exact h
     ·exfalso
      apply jg
      have:l[i]=(l.drop (Ab l).2)[i-(Ab l).2]'(by rw[Af];omega):=by
       rw[List.getElem_drop];congr 1;omega
      rw[this];exact List.getElem_mem _
    have ll:l.getD i 0=l[i]:=by simp[List.getD,hi]
    rcases hd with ⟨h1,h2⟩|⟨h1,_,h3,h4,h5,h6,_⟩
    ·rw[h2]at gb ⊢
     simp only at gb;obtain rfl:i=0:=by omega
     rw[ll];exact List.mem_cons_self
    ·exfalso
     have:i=0\/i=1\/i=2\/i=3:=by omega
     rcases this with rfl|rfl|rfl|rfl
     ·rw[ll]at h1;omega
     ·have:=h3 (by omega);rw[ll]at this;omega
     ·have:=h4 (by omega);rw[ll]at this;omega
     ·have:=h5 (by omega);rw[ll]at this;omega
end
section
open Go Go.RowKit
attribute [local go_sem] aM
theorem qZ0 (b:Nat) (hb:b<256) (w:World) :
  Calls Tryz.prog 267 #[.int .u8 b] w λe w'=>e=.returned (.tuple #[.int .i64 ((vB b).1:Nat),.int .i32 ((vB b).2:Nat)])/\w=w':=by
 have h:(b<128/\vB b=(1,b))\/(192<=b/\b<224/\vB b=(2,b-192))\/(224<=b/\b<240/\vB b=(3,b-224))\/(240<=b/\b<248/\vB b=(4,b-240))\/(128<=b/\b<192/\vB b=(0,0))\/(248<=b/\vB b=(0,0)):=by
  unfold vB;repeat' split
  all_goals simp only[and_true]
  all_goals omega
 rcases h with ⟨h1,h⟩|⟨h1,h2,h⟩|⟨h1,h2,h⟩|⟨h1,h2,h⟩|⟨h1,h2,h⟩|⟨h1,h⟩<;>rw[h]<;>clear h
 ·have g1:(b:Int)<128:=by omega
  go_enter Tryz.func267,Tryz.ntmps267
  go_wp2
  go_ret2;exact⟨rfl,rfl⟩
 ·have g1:¬(b:Int)<128:=by omega
  have g2:(192:Int)<=b:=by omega
  have g3:(b:Int)<224:=by omega
  have g4:((b-192:Nat):Int)=(b:Int)-192:=by omega
  rw[g4];go_enter Tryz.func267,Tryz.ntmps267
  go_wp2
  go_ret2;exact⟨rfl,rfl⟩
 ·have g1:¬(b:Int)<128:=by omega
  have g2:(192:Int)<=b:=by omega
  have g3:¬(b:Int)<224:=by omega
  have g5:(224:Int)<=b:=by omega
  have g6:(b:Int)<240:=by omega
  have g4:((b-224:Nat):Int)=(b:Int)-224:=by omega
  rw[g4];go_enter Tryz.func267,Tryz.ntmps267
  go_wp2
  go_ret2;exact⟨rfl,rfl⟩
 ·have g1:¬(b:Int)<128:=by omega
  have g2:(192:Int)<=b:=by omega
  have g3:¬(b:Int)<224:=by omega
  have g5:(224:Int)<=b:=by omega
  have g6:¬(b:Int)<240:=by omega
  have g7:(240:Int)<=b:=by omega
  have g8:(b:Int)<248:=by omega
  have g4:((b-240:Nat):Int)=(b:Int)-240:=by omega
  rw[g4];go_enter Tryz.func267,Tryz.ntmps267
  go_wp2
  go_ret2;exact⟨rfl,rfl⟩
 ·have g1:¬(b:Int)<128:=by omega
  have g2:¬(192:Int)<=b:=by omega
  have g5:¬(224:Int)<=b:=by omega
  have g7:¬(240:Int)<=b:=by omega
  go_enter Tryz.func267,Tryz.ntmps267
  go_wp2
  go_ret2;exact⟨rfl,rfl⟩
 ·have g1:¬(b:Int)<128:=by omega
  have g2:(192:Int)<=b:=by omega
  have g3:¬(b:Int)<224:=by omega
  have g5:(224:Int)<=b:=by omega
  have g6:¬(b:Int)<240:=by omega
  have g7:(240:Int)<=b:=by omega
  have g8:¬(b:Int)<248:=by omega
  go_enter Tryz.func267,Tryz.ntmps267
  go_wp2
  go_ret2;exact⟨rfl,rfl⟩
theorem eR0 (c:Int) (w:World) :
  Calls Tryz.prog 268 #[.int .i32 c] w λe w'=>e=.returned (.bool (charS c))/\w=w':=by
 go_enter Tryz.func268,Tryz.ntmps268
 go_wp2
 all_goals go_ret
 ·exact⟨by unfold charS;simp[*],rfl⟩
 ·exact⟨by unfold charS;simp[*],rfl⟩
 ·have h:¬c<=1114111:=by omega
  exact⟨by unfold charS;simp[h],rfl⟩
 ·have h:¬0<=c:=by omega
  exact⟨by unfold charS;simp[h],rfl⟩
def nextS (s:ByteArray) (i:Nat):Nat×Nat:=xI0 (s.data.toList.drop i)
theorem sR0 (b:Nat) (hb:b<256):(vB b).1<=4/\(vB b).2<128/\((vB b).1=2->(vB b).2<32)/\((vB b).1=3->(vB b).2<16)/\((vB b).1=4->(vB b).2<8):=by
 unfold vB;repeat' split
 all_goals simp only
 all_goals omega
def gH0 (s:ByteArray) (i n k:Nat):List UInt8:=(s.data.toList.drop (i+k)).take (n-k)
theorem sS0 {s:ByteArray} {i n k:Nat} (hk:k<n) (h:i+k<s.size):gH0 s i n k=s[i+k]::gH0 s i n (k+1):=by
 unfold gH0;have h2:i+k<s.data.toList.length:=by simpa using h
 rw[Ad h2,show n-k=(n-(k+1))+1 by omega,List.take_succ_cons,show i+k+1=i+(k+1) by omega]
 rfl
theorem vW0 {s:ByteArray} {i n k:Nat} (hk:n<=k):gH0 s i n k=[]:=by
 unfold gH0;rw[show n-k=0 by omega];rfl
theorem bQ1 {s:ByteArray} {i n c:Nat} (hi:i<s.size) (hn:vB s[i].toNat=(n,c)):nextS s i=if n=0\/s.size-i<n then (0,0) else
  match qL (gH0 s i n 1) c with
  | none=>(0,0)
  | some c=>if c<kV n\/charS c=false then (0,0) else (c,n):=by
 unfold nextS xI0 gH0;have h2:i<s.data.toList.length:=by simpa using hi
 have h3:s.data.toList.drop i=s[i]::s.data.toList.drop (i+1):=by rw[Ad h2];rfl
 rw[h3];simp only[hn]
 have h4:(s.data.toList.drop (i+1)).length+1=s.size-i:=by
  rw[Af];have:s.data.toList.length=s.size:=rfl;omega
 rw[h4]<;>rfl
theorem cO1 (s:ByteArray) (i:Nat) (w:World) (hs:s.size<4611686018427387904) (hi:i<s.size) :
  Calls Tryz.prog 236 #[.string s,.int .i64 i] w λe w'=>e=.returned (.tuple #[.int .i32 ((nextS s i).1:Nat),.int .i64 ((nextS s i).2:Nat)])/\aB w w':=by
 obtain⟨n,c,hn⟩:∃n c,vB s[i].toNat=(n,c):=⟨_,_,rfl⟩;have hc:=sR0 s[i].toNat (by have:=s[i].toNat_lt;omega);have HL:=λW=>Ai (qZ0 s[i].toNat (by have:=s[i].toNat_lt;omega) W);have hq:=bQ1 hi hn;rw[hn]at HL hc;simp only at HL hc;generalize nextS s i=R at hq ⊢;by_cases h0:n=0
 ·have b9:R=(0,0):=by rw[hq,if_pos (Or.inl h0)]
  subst b9 h0;clear hq hn hc;go_enter Tryz.func236,Tryz.ntmps236
  go_wp2_with (first|(go_at_call 267;refine(HL _).out.mono ?_;rintro e w1 ⟨rfl,rfl⟩))
  all_goals (go_ret2;exact⟨rfl,aB.refl _⟩)
 ·by_cases h1:s.size-i<n
  ·have b9:R=(0,0):=by rw[hq,if_pos (Or.inr h1)]
   subst b9;have g0:¬(n:Int)=0:=by omega
   have g1:(s.size:Int)-i<n:=by omega
   clear hq hn hc;go_enter Tryz.func236,Tryz.ntmps236
   go_wp2_with (first|(go_at_call 267;refine(HL _).out.mono ?_;rintro e w1 ⟨rfl,rfl⟩))
   all_goals (go_ret2;exact⟨rfl,aB.refl _⟩)
  ·have g0:((n:Int)==0)=false:=by simpa using h0
   have g1:¬(s.size:Int)-i<n:=by omega
   have j6:i+n<=s.size:=by omega
   rw[if_neg (by omega)]at hq;have HQ:=Ai hq;have HC:=Ai hc;clear hq hn hc h1;go_enter Tryz.func236,Tryz.ntmps236
   go_wp2_with (first|(go_at_call 267;refine(HL _).out.mono ?_;rintro e w1 ⟨rfl,rfl⟩))
   go_loop [7,8] (λx y=>∃k c':Nat,1<=k/\k<=n/\x=.int .i32 c'/\y=.int .i64 k/\Hid (qL (gH0 s i n 1) c=qL (gH0 s i n k) c')/\Hid ((c'+1)*64^(n-k)<=2097152)) (λ_ y=>n-(intOf y).toNat)
   case atStart =>
    refine⟨1,c,Ak _,by omega,rfl,rfl,rfl,?_⟩;obtain⟨q1,q2,q3,q4,q5⟩:=HC.out;show _<=_
    rcases (by omega:n=1\/n=2\/n=3\/n=4) with rfl|rfl|rfl|rfl<;>simp<;>omega
   case round =>
    obtain⟨k,c',k1,k2,rfl,rfl,hco,oe⟩:=hrel;by_cases af:k<n
    ·have qu:64^(n-k)=64*64^(n-(k+1)):=by rw[show n-k=(n-(k+1))+1 by omega,Nat.pow_succ];omega
     have cu:1<=64^(n-(k+1)):=Nat.pow_pos (by omega);have gh:(c'+1)*64*64^(n-(k+1))<=2097152:=by have:=oe.out;rw[qu,<-Nat.mul_assoc]at this;exact this
     have fp:(c'+1)*64<=2097152:=Ao (Nat.le_mul_of_pos_right _ cu) gh;have hik:i+k<s.size:=by omega
     have ci:=s[i+k].toNat_lt;have gn:=hco.out;rw[sS0 af hik]at gn;have HB1:=Ai gh;clear qu cu gh oe hco;by_cases fq:s[i+k].toNat<128\/191<s[i+k].toNat
     ·have hR:R=(0,0):=by
       rw[HQ.out,gn];unfold qL;rw[if_pos fq]
      subst hR;clear gn HQ;rcases fq with h|h
      ·have e1:(s[i+k].toNat:Int)<128:=by omega
       go_wp2
       go_ret2;exact⟨rfl,aB.refl _⟩
      ·have e1:¬(s[i+k].toNat:Int)<128:=by omega
       have e2:(191:Int)<s[i+k].toNat:=by omega
       go_wp2
       go_ret2;exact⟨rfl,aB.refl _⟩
     ·have e1:¬(s[i+k].toNat:Int)<128:=by omega
      have e2:¬(191:Int)<s[i+k].toNat:=by omega
      go_wp2
      refine⟨⟨k+1,64*c'+s[i+k].toNat-128,by omega,af,?_,?_,?_,?_⟩,?_⟩
      ·rw[show ((64*c'+s[i+k].toNat-128:Nat):Int)=64*(c':Int)+s[i+k].toNat-128 by omega]
      ·go_num
      ·show _=_
       rw[gn];exact if_neg fq
      ·refine Ao (Nat.mul_le_mul_right _ ?_) HB1.out
       omega
      ·simp[intOf];omega
    ·obtain rfl:k=n:=by omega
     have gn:=hco.out;rw[vW0 (Ak _)]at gn;have hR:R=if c'<kV k\/charS c'=false then (0,0) else (c',k):=by rw[HQ.out,gn];rfl
     have HR:=Ai hR;have y8:=λW=>Ai (eR0 c' W);generalize charS c'=ch at y8 HR;clear gn hR HQ oe hco af HL;obtain⟨q1,_⟩:=HC.out;clear HC;rcases (by omega:k=1\/k=2\/k=3\/k=4) with rfl|rfl|rfl|rfl
     ·have qe:¬(c':Int)<0:=by omega
      cases ch
      ·have hR:R=(0,0):=by rw[HR.out];simp
       subst hR;clear HR;go_wp2_with (first|(go_at_call 268;refine(y8 _).out.mono ?_;rintro e w1 ⟨rfl,rfl⟩))
       go_ret2;exact⟨rfl,aB.alloc _ _⟩
      ·have hR:R=(c',1):=by rw[HR.out];simp[kV]
       subst hR;clear HR;go_wp2_with (first|(go_at_call 268;refine(y8 _).out.mono ?_;rintro e w1 ⟨rfl,rfl⟩))
       go_ret2;exact⟨rfl,aB.alloc _ _⟩
     ·by_cases hl:c'<128
      ·have qe:(c':Int)<128:=by omega
       have hR:R=(0,0):=by rw[HR.out];simp[kV,hl]
       subst hR;clear HR hl;go_wp2_with (first|(go_at_call 268;refine(y8 _).out.mono ?_;rintro e w1 ⟨rfl,rfl⟩))
       go_ret2;exact⟨rfl,aB.alloc _ _⟩
      ·have qe:¬(c':Int)<128:=by omega
       cases ch
       ·have hR:R=(0,0):=by rw[HR.out];simp
        subst hR;clear HR hl;go_wp2_with (first|(go_at_call 268;refine(y8 _).out.mono ?_;rintro e w1 ⟨rfl,rfl⟩))
        go_ret2;exact⟨rfl,aB.alloc _ _⟩
       ·have hR:R=(c',2):=by rw[HR.out];simp[kV,hl]
        subst hR;clear HR hl;go_wp2_with (first|(go_at_call 268;refine(y8 _).out.mono ?_;rintro e w1 ⟨rfl,rfl⟩))
        go_ret2;exact⟨rfl,aB.alloc _ _⟩
     ·by_cases hl:c'<2048
      ·have qe:(c':Int)<2048:=by omega
       have hR:R=(0,0):=by rw[HR.out];simp[kV,hl]
       subst hR;clear HR hl;go_wp2_with (first|(go_at_call 268;refine(y8 _).out.mono ?_;rintro e w1 ⟨rfl,rfl⟩))
       go_ret2;exact⟨rfl,aB.alloc _ _⟩
      ·have qe:¬(c':Int)<2048:=by omega
       cases ch
       ·have hR:R=(0,0):=by rw[HR.out];simp
        subst hR;clear HR hl;go_wp2_with (first|(go_at_call 268;refine(y8 _).out.mono ?_;rintro e w1 ⟨rfl,rfl⟩))
        go_ret2;exact⟨rfl,aB.alloc _ _⟩
       ·have hR:R=(c',3):=by rw[HR.out];simp[kV,hl]
        subst hR;clear HR hl;go_wp2_with (first|(go_at_call 268;refine(y8 _).out.mono ?_;rintro e w1 ⟨rfl,rfl⟩))
        go_ret2;exact⟨rfl,aB.alloc _ _⟩
     ·by_cases hl:c'<65536
      ·have qe:(c':Int)<65536:=by omega
       have hR:R=(0,0):=by rw[HR.out];simp[kV,hl]
       subst hR;clear HR hl;go_wp2_with (first|(go_at_call 268;refine(y8 _).out.mono ?_;rintro e w1 ⟨rfl,rfl⟩))
       go_ret2;exact⟨rfl,aB.alloc _ _⟩
      ·have qe:¬(c':Int)<65536:=by omega
       cases ch
       ·have hR:R=(0,0):=by rw[HR.out];simp
        subst hR;clear HR hl;go_wp2_with (first|(go_at_call 268;refine(y8 _).out.mono ?_;rintro e w1 ⟨rfl,rfl⟩))
        go_ret2;exact⟨rfl,aB.alloc _ _⟩
       ·have hR:R=(c',4):=by rw[HR.out];simp[kV,hl]
        subst hR;clear HR hl;go_wp2_with (first|(go_at_call 268;refine(y8 _).out.mono ?_;rintro e w1 ⟨rfl,rfl⟩))
        go_ret2;exact⟨rfl,aB.alloc _ _⟩
end
end Go.Proofs.YtiopheoljccmpaaGreatDoor
