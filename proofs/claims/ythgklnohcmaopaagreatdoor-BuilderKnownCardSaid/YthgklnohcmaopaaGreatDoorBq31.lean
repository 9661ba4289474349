/- The texts RefV W14P W14 CrcW W15 PosE SecW SecJ SecP SecC PkDP RefX Bid, one behind the other. -/
import Derived.Test.YthgklnohcmaopaaGreatDoorBq3
import Derived.Test.YthgklnohcmaopaaGreatDoorBq16
import Derived.Test.YthgklnohcmaopaaGreatDoorBq30
import Derived.Test.YthgklnohcmaopaaGreatDoorBq20
import Derived.Test.YthgklnohcmaopaaGreatDoorBq4
import Derived.Test.YthgklnohcmaopaaGreatDoorBq18
import Derived.Test.YthgklnohcmaopaaGreatDoorBq15
import Derived.Test.YthgklnohcmaopaaGreatDoorBq8
import Derived.Maps.Own
import Derived.Carry
import Derived.Lib.SlBytesConst
import Derived.Test.YthgklnohcmaopaaGreatDoorBq21
import Derived.Test.YthgklnohcmaopaaGreatDoorBq29
import Derived.Test.YthgklnohcmaopaaGreatDoorBq19
import Derived.Test.YthgklnohcmaopaaGreatDoorBq9
open List renaming length_append → Aa,append_assoc → Ab,mem_of_getElem? → Af,flatMap_append → Ah,getElem?_eq_getElem → Al,eq_nil_of_length_eq_zero → An,take_append_drop → Ao,getElem?_eq_none → Ap,flatMap_cons → Aq,take_of_length_le → Ar,length_cons → As,drop_eq_getElem_cons → Av,take_length → Ax,length_take → Ay,nil_append → Az,drop_left' → Ba,map_cons → Be,getElem?_map → Bj,take_add_one → Bk,ext_getElem? → Bn,any_append → Bp,any_map → Bs,range → Bv
open Go.Lib renaming hid → Ac,decodeL_ascii → Bh,decodeL_N → Bq,decodeL → Bu
open Nat renaming lt_of_lt_of_le → Ad,le_refl → Ai,zero_le → At,xor_lt_two_pow → Bg,succ_mul → Bi,or_lt_two_pow → Bo,le_of_eq → Bt
open UInt8 renaming ofNat → Ae,toNat_lt → Bd
open Go.IntKind renaming signed → Ag,wrap → Aj,bits → Ak
open Bool renaming and_eq_true → Am,false_and → Au,true_and → Bf,or_false → Br
open Go.World renaming cell?_setCell_other → Aw,frozen?_setCell → Bc
open Int renaming natCast_mul → Bb
set_option maxHeartbeats 8000000
namespace Go.Proofs.YthgklnohcmaopaaGreatDoor
set_option maxRecDepth 100000
section
open Go Go.RowKit
attribute [local go_sem] aM
theorem pT:∀(n:Nat) (l:List UInt8),l.length<=n->(∃b∈l,128<=b.toNat)->∃c∈lW l,128<=c
 | 0,l,hl,⟨b,hb,_⟩=>by
  have:l=[]:=An (by omega)
  subst this;cases hb
 | n+1,l,hl,⟨b,hb,y8⟩=>by
  cases l with
  | nil=>cases hb
  | cons x r =>
   rw[kU _ (by simp)];by_cases hx:x.toNat<128
   ·rw[Bh x r hx]
    rcases List.mem_cons.1 hb with rfl|hb
    ·omega
    ·obtain⟨c,hc,hcg⟩:=pT n r (by simp at hl;omega) ⟨b,hb,y8⟩
     exact⟨c,List.mem_cons_of_mem _ hc,hcg⟩
   ·refine⟨_,List.mem_cons_self,?_⟩
    by_cases er:(Bu (x::r)).1=65533/\(Bu (x::r)).2=1
    ·rw[er.1];decide
    ·have hs:=yH (x::r).length ((x::r).getD 0 0).toNat ((x::r).getD 1 0).toNat ((x::r).getD 2 0).toNat ((x::r).getD 3 0).toNat (Bd _) (Bd _) (Bd _) (by rw[<-Bq];exact er)
     rw[<-Bq]at hs;rcases hs with ⟨h,_⟩|⟨_,_,_,_,_,_,h⟩
     ·exact absurd h (by simpa using hx)
     ·exact h
theorem nE:∀(n:Nat) (l:List UInt8),l.length<=n->(∀b∈l,b.toNat<128)->lW l=l.map (·.toNat)
 | 0,l,hl,_=>by
  have:l=[]:=An (by omega)
  subst this;rfl
 | n+1,l,hl,h=>by
  cases l with
  | nil=>rfl
  | cons x r =>
   rw[kU _ (by simp),Bh x r (h x (by simp)),Be];simp only[List.drop_succ_cons,List.drop_zero];rw[nE n r (by simp at hl;omega) (λb hb=>h b (by simp[hb]))]
theorem oQ {c:Nat} (h:128<=c):nameBad c=true:=by unfold nameBad; simp; omega
theorem jV0 (l:List UInt8):(lW l).any nameBad=l.any λb=>nameBad b.toNat:=by
 by_cases h:∃b∈l,128<=b.toNat
 ·obtain⟨c,hc,hg⟩:=pT _ l (Ai _) h
  obtain⟨b,hb,zk⟩:=h;rw[List.any_eq_true.2 ⟨c,hc,oQ hg⟩,List.any_eq_true.2 ⟨b,hb,oQ zk⟩]
 ·rw[nE _ l (Ai _) (λb hb=>by
   rcases Nat.lt_or_ge b.toNat 128 with h1|h1
   ·exact h1
   ·exact absurd ⟨b,hb,h1⟩ h),Bs]
  rfl
theorem aQ0 (s:ByteArray):oB s=(decide (1<=s.size)&&decide (s.size<=16) && !(s.data.toList.any λb=>nameBad b.toNat)):=by
 rw[qW0,jV0];congr 2
 rw[Lib.toList_data,Lib.size_eq];cases s.data.toList<;>simp
end
section
open Go Go.RowKit
def dE0 (c:Nat):Bool:=decide (c<97)||decide (122<c)
def azS (s:ByteArray):Bool:=decide (1<=s.size)&&decide (s.size<=16) && !(s.data.toList.any λb=>dE0 b.toNat)
theorem nD0 {p:Nat->Bool} (hp:∀c,128<=c->p c=true) (l:List UInt8):(lW l).any p=l.any λb=>p b.toNat:=by
 by_cases h:∃b∈l,128<=b.toNat
 ·obtain⟨c,hc,hg⟩:=pT _ l (Ai _) h
  grind
 ·rw[nE _ l (Ai _) (by simp_all),Bs]
  rfl
theorem fE0 {c:Nat} (h:128<=c):dE0 c=true:=by grind [dE0]
structure aX where
 name:ByteArray
 data:List UInt8
 a:Option Addr
 c:Nat
def iR (p:aX):List Value:=[.string p.name,.slice p.a p.data.length p.c]
structure gF (w:World) (l:List aX):Prop where
 at_:∀p∈l,aF w p.a 1 (p.data.map aQ)
 none_:∀p∈l,p.a=none->p.c=0
 name:∀p∈l,p.name.size<=1099511627776
 data:∀p∈l,p.data.length<=1099511627776
theorem gF.grows {w w':World} {l:List aX} (h:gF w l) (hg:aB w w'):gF w' l:=⟨λp hp=>(h.at_ p hp).grows hg,h.none_,h.name,h.data⟩
def iA (l:List aX):Nat:=(l.map λp=>p.data.length).sum
theorem jI0 (l:List aX) (p:aX):iA (l++[p])=iA l+p.data.length:=by simp[iA]
theorem sE0 {l:List aX} {n:Nat} (h:∀p∈l,p.data.length<=n):iA l<=l.length*n:=by
 unfold iA
 induction l with
 | nil=>simp
 | cons p l ih =>
  rw[Be,List.sum_cons,As,Bi];grind
def rJ:List aX->List ByteArray->Bool
 | [],_=>false
 | p::l,seen=>(seen.any λs=>seq s p.name)||rJ l (seen++[p.name])
def kU0 (l:List aX):Bool:=rJ l []
def eB (l:List aX):Nat:=if 64<l.length\/16777216<iA l then 2 else if (l.any λp => !azS p.name)=true then 1 else if kU0 l=true then 4 else 0
def cH (l:List aX):List UInt8:=l.flatMap λp=>sC p.name++dE p.data.length
def cM (l:List aX):List UInt8:=l.flatMap λp=>p.data
def cK (l:List aX):List UInt8:=([72,78,75,49]++dE l.length)++cH l++cM l
def fR (l:List aX):List UInt8:=cK l++leB 4 (crcSum (cK l))
def xQ (l:List aX) (w:World) (e:Ending) (w':World):Prop :=
 (eB l=0->∃v,e=.returned (.tuple #[v,.int .i64 0])/\aT w' w.heap.size 5 1 aQ v (fR l))/\(eB l≠0->e=.returned (.tuple #[.slice none 0 0,.int .i64 (eB l)]))/\aB w w'
theorem wP (l:List aX):(cM l).length=iA l:=by simp[cM,iA,List.length_flatMap]
theorem eA0 (l:List aX) (p:aX):cH (l++[p])=cH l++(sC p.name++dE p.data.length):=by simp[cH]
theorem dZ0 (l:List aX) (p:aX):cM (l++[p])=cM l++p.data:=by simp[cM]
theorem mY0 {l:List aX} (h:(l.any λp => !azS p.name)=false):∀p∈l,p.name.size<=16:=λp hp=>by
 have:=List.any_eq_false.1 h p hp
 simp only[azS,Bool.not_eq_true',Bool.not_eq_false,Am,decide_eq_true_eq]at this;simp at this;omega
theorem vO {l:List aX} (h:∀p∈l,p.name.size<=16):(cH l).length<=l.length*36:=by
 unfold cH
 induction l with
 | nil=>simp
 | cons p l ih =>
  rw[Aq,Aa,Aa,As,Bi];have h1:=ih (λq hq=>h q (by simp[hq]));have h2:=h p (by simp);have h3:=nP p.name;have h4:=bK p.data.length;omega
theorem fQ0 {l:List aX} (h:eB l=0):l.length<=64/\iA l<=16777216/\(l.any λp => !azS p.name)=false/\kU0 l=false:=by
 unfold eB at h;grind
theorem hQ0 {l:List aX} (h:eB l=0):(cK l).length<=16800000:=by
 grind [fQ0,vO,mY0,wP,bK,cK]
end
section
open Go Go.RowKit
attribute [local go_sem] aM aO
theorem lI0 (n:Nat) (hn:n<4294967296):(#[Value.int .u8 ((n:Int)%256),.int .u8 ((n:Int)/256%256),.int .u8 ((n:Int)/65536%256),.int .u8 ((n:Int)/16777216)]:Array Value).toList=(leB 4 n).flatMap aQ:=by
 have h:leB 4 n=[Ae n,Ae (n/256),Ae (n/65536),Ae (n/16777216)]:=by
  unfold leB;simp[List.range_succ]
 rw[h,mG];simp only[Be,List.map_nil,UInt8.toNat_ofNat'];rw[Nat.mod_eq_of_lt (show n/16777216<2^8 by omega)]
 congr 1
end
section
open Go Go.RowKit Go.Shelf
attribute [local go_sem] aM aO
theorem fJ0 {R q:Nat} (hR:R<4294967296) (hq:crc4 R=R/16 ^^^ q) (hql:q<4294967296):bits .xor .u32 ((R:Int)/16) (q:Int)=((crc4 R:Nat):Int):=by
 have h:=u32_xor_nat (R/16) q (by omega) hql;rw[hq,<-h];rfl
theorem xJ:∀(i q:Nat),gR[i]?=some q->q<4294967296:=by
 intro i q h;have h1:=Af h;simp[gR]at h1;omega
theorem uK0 {R:Nat} (hR:R<4294967296):bits .and .u32 (R:Int) 15=((R%16:Nat):Int):=by
 have h:=u32_and_nat R 15 hR (by decide);rw[nat_mask4]at h;exact h
theorem jW0 (b:List UInt8) (a:Option Addr) (c:Nat) (w:World) (he:Env w) (hb:b.length<=1099511627776) (ac:aF w a 1 (b.map aQ)) :
  Calls Tryz.prog 206 #[.int .u32 0,.slice a b.length c] w λe w'=>e=.returned (.int .u32 (crcSum b))/\w=w':=by
 have HAT:=Ac ac;clear ac;go_enter Tryz.func206,Tryz.ntmps206
 go_wp2_with fail
 go_loop [5,12] (λr i=>∃k R:Nat,k<=b.length/\i=.int .i64 k/\r=.int .u32 R/\R<4294967296/\Hid (R=aL0 4294967295 (b.take k))) (λ_ i=>b.length-(intOf i).toNat)
 case atStart=>exact⟨0,4294967295,At _,rfl,rfl,by decide,rfl⟩
 case round =>
  obtain⟨k,R,hk,rfl,rfl,hR,ch⟩:=hrel;by_cases ae:k<b.length
  ·obtain⟨x,hx⟩:∃x,b[k]?=some x:=⟨_,Al ae⟩
   obtain⟨bb,bo,rfl,hc⟩:=at1 HAT.out (aH ae);have fg:=hc k x hx;have HN:Hid (yY0 (R ^^^ x.toNat)=aL0 4294967295 (b.take (k+1))):=by show _=_;rw[bM hx,vT,<-ch.out]
   have afi:=x.toNat_lt;have hxo:=u32_xor_nat R x.toNat hR (by omega);obtain⟨X,hX⟩:=exq (R ^^^ x.toNat);have hXl:X<4294967296:=by rw[hX];exact Bg (n:=32) hR (by omega)
   rw[<-hX]at hxo HN;obtain⟨q1,hq1,de⟩:=vF X;obtain⟨Y,hY⟩:=exq (crc4 X);have hYl:Y<4294967296:=by rw[hY];exact xP hXl
   have e1:=fJ0 hXl de (xJ _ _ hq1);rw[<-hY]at e1;obtain⟨q2,q6,jh⟩:=vF Y;obtain⟨Z,hZ⟩:=exq (crc4 Y);have hZl:Z<4294967296:=by rw[hZ];exact xP hYl
   have e2:=fJ0 hYl jh (xJ _ _ q6);rw[<-hZ]at e2;have HN2:Hid (Z=aL0 4294967295 (b.take (k+1))):=by show _=_;rw[hZ,hY,<-HN.out];rfl
   have a1:=uK0 hXl;have a2:=uK0 hYl;obtain⟨i1,hi1⟩:=exq (X%16);obtain⟨i2,ou⟩:=exq (Y%16);rw[<-hi1]at a1 hq1;rw[<-ou]at a2 q6;have g1:=he.crc i1 q1 hq1;have g2:=he.crc i2 q2 q6;have l1:(i1:Int)<16:=by omega
   have l2:(i2:Int)<16:=by omega
   clear hc hx ch hX hY hZ hq1 q6 de jh HN hi1 ou;go_wp2_with fail
   go_round
   case rel=>exact⟨k+1,Z,ae,by go_num,rfl,hZl,HN2.out⟩
   case measure=>simp[intOf];omega
  ·have gh:k=b.length:=by omega
   have cp:¬(k:Int)<b.length:=by omega
   have ct:R ^^^ 4294967295=crcSum b:=by rw[ch.out,gh,Ax];rfl
   have hx:bits .xor .u32 IntKind.u32.max (R:Int)=((crcSum b:Nat):Int):=by
    rw[<-ct,Nat.xor_comm];exact u32_xor_nat 4294967295 R (by decide) hR
   clear ch gh ct;go_wp2_with fail
   go_ret;exact⟨rfl,rfl⟩
theorem jH0 (b:List UInt8) (a:Option Addr) (c:Nat) (w:World) (he:Env w) (hb:b.length<=1099511627776) (ac:aF w a 1 (b.map aQ)) :
  Calls Tryz.prog 143 #[.slice a b.length c] w λe w'=>e=.returned (.int .u32 (crcSum b))/\w=w':=by
 go_enter Tryz.func143,Tryz.ntmps143
 go_wp2_with fail
 refine(jW0 b a c w he hb ac).mono ?_;rintro e w1 ⟨rfl,rfl⟩;go_wp2_with fail
 go_ret;exact⟨rfl,rfl⟩
theorem qO (b:List UInt8) (a:Option Addr) (c:Nat) (w:World) (he:Env w) (hb:b.length<=1099511627776) (ac:aF w a 1 (b.map aQ)) :
  Calls Tryz.prog 77 #[.slice a b.length c] w λe w'=>∃v,e=.returned v/\aT w' w.heap.size 5 1 aQ v (leB 4 (crcSum b))/\aB w w':=by
 have cj:crcSum b<4294967296:=Bg (n:=32) (gY0 _ (by decide)) (by decide);have CS:=Ac (jH0 b a c w he hb ac);obtain⟨n,hn⟩:=exq (crcSum b);rw[<-hn]at cj CS ⊢;have HH:=Ac (lI0 n cj);clear hn;go_enter Tryz.func77,Tryz.ntmps77
 go_wp2_with fail
 refine CS.out.mono ?_;rintro e w1 ⟨rfl,rfl⟩;go_wp2_with fail
 go_ret;exact⟨_,rfl,fZ (enc:=aQ) (λ_=>rfl) (Ai _) (leB 4 n) HH.out (n:=4) (by simp[bD]) (by decide),aB.alloc _ _⟩
end
section
open Go Go.RowKit
attribute [local go_sem] aM aO
def mU (p:eP):List UInt8:=sC p.name++dE p.kind.toNat
def tX0 (l:List eP):List UInt8:=dE l.length++l.flatMap mU
theorem pA0 (l:List eP) (p:eP):(l++[p]).flatMap mU=l.flatMap mU++mU p:=by simp
theorem iW0 {p:eP} (h:p.name.size<=16):(mU p).length<=40:=by
 have h1:=nP p.name;have h2:=bK p.kind.toNat;unfold mU;rw[Aa];omega
theorem rZ {l:List eP} (h:∀p∈l,p.name.size<=16):(l.flatMap mU).length<=l.length*40:=by
 induction l with
 | nil=>simp
 | cons p l ih =>
  rw[Aq,Aa,As,Bi];have h1:=ih (λq hq=>h q (by simp[hq]));have h2:=iW0 (h p (by simp));omega
theorem eT0 {s:ByteArray} (h:oB s=true):s.size<=16:=by
 rw[aQ0]at h;simp only[Am,decide_eq_true_eq]at h;exact h.1.2
theorem vV (L:List eP):∀(l:List eP) (i j:Nat) (p:eP),iE L l i=true->l[j]?=some p->tF L (i+j) p=true
 | [],_,_,_,_,h=>by simp at h
 | q::l,i,0,p,h,hp=>by
  rw[iE]at h;simp only[Am]at h;obtain rfl:q=p:=by simpa using hp
  exact h.1
 | q::l,i,j+1,p,h,hp=>by
  rw[iE]at h;simp only[Am]at h
  have:=vV L l (i+1) j p h.2 (by simpa using hp)
  rw[show i+(j+1)=i+1+j by omega];exact this
theorem iY {l:List eP} (h:dQ l=true):l.length<=64/\∀p∈l,p.name.size<=16/\0<=p.kind/\p.kind<=2:=by
 unfold dQ at h
 cases l with
 | nil=>cases h
 | cons q r =>
  simp only[Am,decide_eq_true_eq]at h;refine⟨by have:=h.1;simp at this ⊢;omega,λp hp=>?_⟩;obtain⟨j,hj⟩:=List.mem_iff_getElem?.1 hp
  have:=vV _ _ 0 j p h.2 hj
  unfold tF at this;simp only[Am,decide_eq_true_eq]at this;exact⟨eT0 this.1.1.2,this.1.2,this.2⟩
theorem gD (xs:List UInt8) (a:Option Addr) (c n:Nat) (w:World) (hx:xs.length<=1099511627776) (hv:n<18446744073709551616) (ac:aF w a 1 (xs.map aQ)) (hn:a=none->c=0) :
  Calls Tryz.prog 125 #[.slice a xs.length c,.int .u64 n] w λe w'=>∃v,e=.returned v/\aT w' w.heap.size 5 1 aQ v (xs++dE n)/\aB w w':=by
 have CC:=Ac (aV0 xs a c w hx ac hn);clear ac hn;go_enter Tryz.func125,Tryz.ntmps125
 go_wp2_with fail
 refine CC.out.mono ?_;rintro e w1 ⟨v1,rfl,ar,av⟩;obtain⟨a1,c1,rfl,rs,h12,cv⟩:=ar.at_ bE.len;have jc:=bJ ar;go_wp2_with fail
 refine(gT0 xs a1 c1 w1 rs).mono ?_;rintro e w2 ⟨rfl,rfl⟩;have du:Src w1 w.heap.size (.slice a1 xs.length xs.length) xs:=Or.inr ⟨a1,rfl,cv,λh=>An (by have:=jc h;omega)⟩;clear ar cv jc CC;go_wp2_with fail
 go_loopw [0,1] (λb v wr=>∃(k:Nat) (pre:List UInt8),v=.int .u64 k/\Src wr w.heap.size b (xs++pre)/\Hid (pre++dE k=dE n)/\k<18446744073709551616/\aB w wr) (λ_ v _=>(intOf v).toNat)
 case atStart=>exact⟨n,[],rfl,by rw[List.append_nil];exact du,rfl,hv,av⟩
 case round =>
  obtain⟨k,pre,rfl,hs,hp,hk,hg⟩:=hrel
  have me:pre.length<=10:=by
   have h1:=congrArg List.length hp.out;have h2:=bK n;rw[Aa]at h1;omega
  by_cases za:128<=k
  ·have cp:(128:Int)<=k:=by omega
   have hb:=Ac (aU0 k);rw[oC za hk]at hp;go_wp2_with (at_builtin;refine zM rfl _ _ rfl w.heap.size _ (xs++pre) (Ae (k%128+128)) rfl hs (aB.refl _) _ 1 rfl _ (by rw[hb.out];rfl) rfl (by rw[Aa];omega) hg.size ?_;intro v' w5 ai bk)
   go_roundw
   case rel=>exact⟨k/128,pre++[Ae (k%128+128)],by go_num,Or.inl (by rw[<-Ab];exact ai),by show (pre++[_])++dE (k/128)=dE n;rw[Ab];exact hp.out,by omega,bk w hg (Ai _)⟩
   case measure=>simp[intOf];omega
  ·have cp:¬(128:Int)<=k:=by omega
   have hb:=Ac (nX0 (k:=k) (by omega));rw[gV (by omega)]at hp;go_wp2_with (at_builtin;refine zM rfl _ _ rfl w.heap.size _ (xs++pre) (Ae k) rfl hs (aB.refl _) _ 1 rfl _ (by rw[hb.out];rfl) rfl (by rw[Aa];omega) hg.size ?_;intro v' w5 ai bk)
   go_ret;refine⟨_,rfl,?_,bk w hg (Ai _)⟩;rw[<-hp.out,<-Ab];exact ai
theorem sZ (xs:List UInt8) (a:Option Addr) (c:Nat) (s:ByteArray) (w:World) (hx:xs.length<=1099511627776) (hs:s.size<=1099511627776) (ac:aF w a 1 (xs.map aQ)) (hn:a=none->c=0) :
  Calls Tryz.prog 126 #[.slice a xs.length c,.string s] w λe w'=>∃v,e=.returned v/\aT w' w.heap.size 5 1 aQ v (xs++sC s)/\aB w w':=by
 have hl:=bK s.size;have hw:IntKind.u64.wrap (s.size:Int)=s.size:=by simp[Aj,Ak,Ag];omega
 have CU:=Ac (gD xs a c s.size w hx (by omega) ac hn);clear ac hn;go_enter Tryz.func126,Tryz.ntmps126
 go_wp2_with fail
 refine CU.out.mono ?_;rintro e w1 ⟨v1,rfl,ar,av⟩;go_wp2_with (at_builtin;refine vX0 rfl _ _ rfl w.heap.size _ _ s rfl ar (aB.refl _) rfl (by rw[Aa];omega) av.size ?_;intro v2 w2 af ah _)
 go_ret;exact⟨_,rfl,by unfold sC;rw[<-Ab];exact af,ah w av (Ai _)⟩
theorem kA0 (l:List eP) (a:Option Addr) (c:Nat) (w:World) (hv:dQ l=true) (ac:aF w a 2 (l.map cG)) :
  Calls Tryz.prog 56 #[.slice a l.length c] w λe w'=>∃v,e=.returned (.tuple #[v,.int .i64 0])/\aT w' w.heap.size 5 1 aQ v (tX0 l)/\aB w w':=by
 obtain⟨aeh,da⟩:=iY hv;have HALL:=Ac da;have CC:=Ac (bE0 l a c w ac (by omega));rw[hv]at CC;have HAT:=Ac ac;have hul:=bK l.length;have mh:IntKind.u64.wrap (l.length:Int)=l.length:=by simp[Aj,Ak,Ag];omega
 have li:zN0 true=0:=rfl;rw[li]at CC;clear da ac hv li;go_enter Tryz.func56,Tryz.ntmps56
 go_wp2_with fail
 refine CC.out.mono ?_;rintro e w1 ⟨rfl,av⟩;go_wp2_with fail
 refine(gD [] none 0 l.length w1 (by simp) (by omega) (aF.nil _ _ _) (λ_=>rfl)).mono ?_;rintro e w2 ⟨v2,rfl,af,ah⟩;rw[Az]at af;have cr:=av.tr ah;replace af:=af.base (base':=w.heap.size) av.size;clear av ah CC;go_wp2_with fail
 go_loopw [5,19] (λout i wr=>∃(k:Nat) (bd:List UInt8),k<=l.length/\i=.int .i64 k/\Hid (bd=dE l.length++(l.take k).flatMap mU)/\aT wr w.heap.size 5 1 aQ out bd/\aB w wr) (λ_ i _=>l.length-(intOf i).toNat)
 case atStart=>exact⟨0,_,At _,rfl,(by show _=_;simp),af,cr⟩
 case round =>
  obtain⟨k,bd,hk,rfl,bh,aa,hg⟩:=hrel
  have mg:bd.length<=10+k*40:=by
   rw[bh.out,Aa];have h1:=rZ (l:=l.take k) (λp hp=>(HALL.out p (List.mem_of_mem_take hp)).1);rw[Ay]at h1;have h2:min k l.length*40<=k*40:=Nat.mul_le_mul_right _ (by omega);omega
  by_cases ae:k<l.length
  ·obtain⟨p,hp⟩:∃p,l[k]?=some p:=⟨_,Al ae⟩
   obtain⟨b,o,rfl,hc⟩:=aF.get (enc:=cG) HAT.out (aH ae);obtain⟨pn,pk⟩:=p;have c0:wr.cell? ⟨b,o+k*2,none⟩=some (.string pn):=hg.cell (hc k _ hp 0 _ rfl);have c1:wr.cell? ⟨b,o+k*2+1,none⟩=some (.int .i64 pk):=hg.cell (hc k _ hp 1 _ rfl);obtain⟨oe,li,ig⟩:=HALL.out _ (Af hp);simp only at oe li ig;obtain⟨kd,rfl⟩:∃kd:Nat,pk=kd:=⟨pk.toNat,by omega⟩;have aei:=nP pn;have aej:=bK kd;have hwk:IntKind.u64.wrap (kd:Int)=kd:=by simp[Aj,Ak,Ag];omega
   have HN:Hid ((bd++sC pn)++dE kd=dE l.length++(l.take (k+1)).flatMap mU):=by
    show _=_
    rw[bM hp,pA0,bh.out];simp only[Ab,mU,Int.toNat_natCast]
   have cp:(k:Int)<l.length:=by omega
   have z0:∀x:Ext aB (wr.alloc (.cells #[.string pn,.int .i64 kd] 73)).drew,x.u.cell? ⟨wr.heap.size,0,none⟩=some (.string pn):=aG (aU wr _ _ (0,0) 0 _ rfl);have z1:∀x:Ext aB (wr.alloc (.cells #[.string pn,.int .i64 kd] 73)).drew,x.u.cell? ⟨wr.heap.size,1,none⟩=some (.int .i64 kd):=aG (aU wr _ _ (0,0) 1 _ rfl);obtain⟨ao,co,rfl,_,_,zq⟩:=aa.at_ bE.len;have rq:=bJ aa;have jg:aB wr (wr.alloc (.cells #[.string pn,.int .i64 kd] 73)):=aB.alloc _ _;clear hp bh hc aa;go_wp2_with fail
   refine bI (nN [0,1,2,4,5,6,3,7,8] [3,7,8]) (by kernel_rfl) (λd _ _ _ _ h=>by cases d<;>exact h) ?_
   iterate 6 (refine aK rfl (λK hK=>?_);go_simp;refine hK _ ?_;clear hK K)
   clear z0 z1;refine bU rfl rfl (λK hK=>?_);go_simp;refine(sZ bd ao co pn _ (by omega) (by omega) (zq.grows (jg.dr)) rq).mono ?_;rintro e w3 ⟨v3,rfl,an,bv⟩;obtain⟨B3,ik⟩:=exq (bd++sC pn);rw[<-ik]at an;have jf:B3.length<=10000:=(by rw[ik,Aa];omega);have HB3:=Ac ik;clear ik;obtain⟨a3,c3,rfl,_,_,fm⟩:=an.at_ bE.len;have sf:=bJ an;clear an;refine⟨bv,hK _ _ ?_⟩;clear hK K;refine bU rfl rfl (λK hK=>?_);go_simp;refine(gD B3 a3 c3 kd _ (by omega) (by omega) fm sf).mono ?_;rintro e w4 ⟨v4,rfl,cu,d8⟩;refine⟨d8,hK _ _ ?_⟩;clear hK K;iterate 1 (refine bU rfl rfl (λK hK=>?_);go_simp;refine⟨aB.refl _,hK _ _ ?_⟩;clear hK K)
   refine bT ?_;have pj:=hg.tr ((jg.dr).tr bv);go_wp2_with fail
   go_roundw
   case rel=>exact⟨k+1,_,ae,by go_num,(by show _=_;rw[<-HN.out,HB3.out]),cu.base pj.size,pj.tr d8⟩
   case measure=>simp[intOf];omega
  ·have cp:¬(k:Int)<l.length:=by omega
   have HF:Hid (bd=tX0 l):=by
    show _=_
    rw[bh.out,Ar (by omega)];rfl
   clear bh;go_wp2_with fail
   refine bodyPost_ret (v:=.tuple #[_,.int .i64 0]) (by simp[results,Tryz.results56,go_sem];rfl) rfl ⟨_,rfl,by rw[<-HF.out];exact aa,hg⟩
end
section
open Go Go.RowKit Go.Shelf
attribute [local go_sem] aM aO
theorem eM0 (w:World):PredAt Tryz.prog 249 #[] encR dE0 w:=λW x _=>by
 unfold FnGives;show Calls Tryz.prog 249 #[.int .i32 (x:Int)] W _
 go_enter Tryz.func249,Tryz.ntmps249
 go_wp2
 all_goals (go_ret;refine⟨cX ?_,0,rfl⟩;rw[Bool.eq_iff_iff];simp[dE0];try omega)
theorem iE0 (s:ByteArray) (w:World) (hs:s.size<=9223372036854775807) :
  Calls Tryz.prog 194 #[.string s] w λe w'=>e=.returned (.bool (azS s))/\aB w w':=by
 have ew:=Ac (Tryz.strings_ContainsFunc 249 #[] (enters_of Tryz.func249 (by kernel_rfl) rfl) dE0 s w (eM0 w));rw[yK0,nD0 (λc h=>fE0 h)]at ew;unfold azS;generalize (s.data.toList.any λb=>dE0 b.toNat)=r at ew ⊢;by_cases h1:1<=s.size
 ·have g1:(1:Int)<=s.size:=by omega
  by_cases hz:s.size<=16
  ·have hz':(s.size:Int)<=16:=by omega
   go_enter Tryz.func194,Tryz.ntmps194
   go_wp2_with (go_at_call 200;refine ew.out.mono ?_;rintro e w' ⟨rfl,ah⟩)
   go_ret;exact⟨cX (by simp[h1,hz]),ah⟩
  ·have hz':¬(s.size:Int)<=16:=by omega
   go_enter Tryz.func194,Tryz.ntmps194
   go_wp2
   go_ret;exact⟨cX (by simp<;>omega),aB.refl _⟩
 ·have g1:¬(1:Int)<=s.size:=by omega
  go_enter Tryz.func194,Tryz.ntmps194
  go_wp2
  go_ret;exact⟨cX (by simp<;>omega),aB.refl _⟩
theorem oO {H:Type} {P:Program} {e:TypeId} (he:P.underlying e=some .bool) {v:Value} {z:DataW H×List MemPlace} (h:plainElem P e v=some z):∃b,v=.bool b/\z=(.lit (.bool b),[]):=by
 unfold plainElem at h;rw[he]at h;cases v<;>simp at h
 exact⟨_,rfl,h.symm⟩
theorem zL0 (w:World):(zeroValue 4).run Tryz.prog w=.ok (.bool false) w:=by kernel_rfl
def qG0 (l:List ByteArray) (D:DataW Unit):Prop:=∀s:ByteArray,s.size<=maxLen->D.atKey (.string s.data.toList) (.lit (.bool false))=.lit (.bool (l.any λt=>seq t s))
theorem wV {w:World} {b n:Nat} {D:DataW Unit} {l:List ByteArray} (hM:qG0 l D) (aa:w.ownsMap Tryz.prog 9 (plainElem Tryz.prog 4) b n D) {s:ByteArray} (hs:s.size<=maxLen) :
  (Instr.lookup 285 (.map (some b)) (.string s) false).run Tryz.prog w=.ok (.bool (l.any λt=>seq t s)) w:=by
 obtain⟨v,ps,m5,hv⟩:=aa.lookup (Maps.string_keyed Tryz.underlying9) Tryz.underlying285 (zL0 w) (plainElem_bool Tryz.underlying4 false) (WideMaps.keyOf_string_mk Tryz.underlying9 hs);obtain⟨c,rfl,hc⟩:=oO Tryz.underlying4 hv;simp only[Prod.mk.injEq]at hc;rw[hM s hs]at hc
 have:c=l.any λt=>seq t s:=by have:=hc.1;simpa using this.symm
 rw[<-this];exact m5
theorem nO0 {b n:Nat} {w:World} {D:DataW Unit} {l:List ByteArray} (hM:qG0 l D) (aa:w.ownsMap Tryz.prog 9 (plainElem Tryz.prog 4) b n D) (s:ByteArray):qG0 (l++[s]) (D.put (.string s.data.toList) (.lit (.bool true))):=λt ht=>by
 by_cases h:s=t
 ·subst h
  rw[Maps.atKey_put_same aa.isMap (k:=.string s.data.toList) trivial];simp[eP0]
 ·have aq:(Lit.string t.data.toList) ≠ .string s.data.toList:=λh2=>h (by
   injection h2 with h3
   exact oJ h3.symm)
  rw[Maps.atKey_put_other aq,hM t ht,Bp]
  have:seq s t=false:=lK0.2 h
  simp[this]
theorem wH:∀(l:List aX) (p:aX) (seen:List ByteArray),rJ (l++[p]) seen=(rJ l seen||(seen++l.map (·.name)).any λs=>seq s p.name)
 | [],p,seen=>by simp[rJ]
 | q::l,p,seen=>by
  rw[List.cons_append,rJ,wH l p (seen++[q.name]),rJ];simp[Bool.or_assoc,Ab]
theorem oI0 (l:List aX) (a:Option Addr) (c:Nat) (w:World) (hl:l.length<=1000000) (ac:aF w a 2 (l.map iR)) (il:gF w l) :
  Calls Tryz.prog 129 #[.slice a l.length c] w λe w'=>e=.returned (.int .i64 (eB l))/\aB w w':=by
 have HD:=Ac il.data;have HNM:=Ac il.name;clear il
 have bg:∀k p,l[k]?=some p->∃b o,a=some ⟨b,o,none⟩/\w.cell? ⟨b,o+k*2,none⟩=some (.string p.name)/\w.cell? ⟨b,o+k*2+1,none⟩=some (.slice p.a p.data.length p.c):=by
  intro k p hp;obtain⟨b,o,ha,hc⟩:=aF.get (enc:=iR) ac (aH (List.getElem?_eq_some_iff.1 hp).1);exact⟨b,o,ha,hc k p hp 0 _ rfl,hc k p hp 1 _ rfl⟩
 have HC:=Ac bg;clear bg ac;have yw:=@run_makeMap Tryz.prog;go_enter Tryz.func129,Tryz.ntmps129
 go_wp2_with fail
 have mi:=World.ownsMap_made w Tryz.prog 9 (plainElem (H:=Unit) Tryz.prog 4);have cg:aB w (w.alloc (.map #[] 0)):=aB.alloc _ _;have hbw:w.heap.size<(w.alloc (.map #[] 0)).heap.size:=by simp
 obtain⟨mb,hmb⟩:=exq w.heap.size;generalize w.alloc (.map #[] 0)=w1 at mi cg hbw ⊢;rw[<-hmb]at mi hbw ⊢;have HMB:=Ac hmb;clear hmb yw;go_loopw [3,13] (λn i wr=>∃k N:Nat,k<=l.length/\i=.int .i64 k/\n=.int .i64 N/\N<=k*1099511627776/\Hid (N=iA (l.take k))/\aB w1 wr) (λ_ i _=>l.length-(intOf i).toNat)
 case atStart=>exact⟨0,0,At _,rfl,rfl,by omega,rfl,aB.refl _⟩
 case round =>
  obtain⟨k,N,hk,rfl,rfl,hN,ch,hg⟩:=hrel;by_cases ae:k<l.length
  ·obtain⟨p,hp⟩:∃p,l[k]?=some p:=⟨_,Al ae⟩
   obtain⟨b,o,rfl,d0,d1⟩:=HC.out k p hp;have c0:=(cg.tr hg).cell d0;have c1:=(cg.tr hg).cell d1;have hd:=HD.out p (Af hp);have HS:Hid (N+p.data.length=iA (l.take (k+1))):=by show _=_;rw[bM hp,jI0,<-ch.out]
   have cp:(k:Int)<l.length:=by omega
   clear hp ch d0 d1;go_wp2_with fail
   go_roundw
   case rel=>exact⟨k+1,N+p.data.length,ae,by go_num,by go_num,by omega,HS.out,hg.al _⟩
   case measure=>simp[intOf];omega
  ·have gh:k=l.length:=by omega
   have cp:¬(k:Int)<l.length:=by omega
   have hNs:N=iA l:=by rw[ch.out,gh,Ax]
   have HN:=Ac hNs;clear ch gh hNs;by_cases f6:64<l.length\/16777216<N
   ·have HF:Hid (eB l=2):=by show _=_;unfold eB;rw[<-HN.out,if_pos f6]
    by_cases rr:64<l.length
    ·have abt:(64:Int)<l.length:=by omega
     go_wp2_with fail
     go_ret;exact⟨by rw[HF.out];rfl,cg.tr hg⟩
    ·have abt:¬(64:Int)<l.length:=by omega
     have vh:(16777216:Int)<N:=by omega
     clear f6;go_wp2_with fail
     go_ret;exact⟨by rw[HF.out];rfl,cg.tr hg⟩
   ·have rr:l.length<=64:=by omega
    have abt:¬(64:Int)<l.length:=by omega
    have vh:¬(16777216:Int)<N:=by omega
    have HF:Hid (eB l=if (l.any λp => !azS p.name)=true then 1 else if kU0 l=true then 4 else 0):=by show _=_;unfold eB;rw[<-HN.out,if_neg f6]
    have aa2:=bF mi hg;have et:=cg.tr hg;clear f6 HN mi;go_wp2_with fail
    obtain⟨u0,rfl⟩:=exq wr;go_loopw [5,32] (λe i wr=>∃(k E:Nat) (D:DataW Unit),k<=l.length/\i=.int .i64 k/\e=.int .i64 E/\Hid (((l.take k).any λp => !azS p.name)=false/\E=(if kU0 (l.take k)=true then 4 else 0)/\qG0 ((l.take k).map (·.name)) D)/\wr.ownsMap Tryz.prog 9 (plainElem Tryz.prog 4) mb k D/\mb<wr.heap.size/\aB w wr) (λ_ i _=>l.length-(intOf i).toNat)
    case atStart=>exact⟨0,0,.map [],At _,rfl,rfl,⟨rfl,rfl,λs _=>rfl⟩,aa2,Ad hbw hg.size,et⟩
    case round =>
     obtain⟨k,E,D,hk,rfl,rfl,ch,aa,abu,hg⟩:=hrel;by_cases ae:k<l.length
     ·obtain⟨p,hp⟩:∃p,l[k]?=some p:=⟨_,Al ae⟩
      obtain⟨b,o,rfl,d0,d1⟩:=HC.out k p hp;have c0:=hg.cell d0;have c1:=hg.cell d1;have oe:=HNM.out p (Af hp);have ew:=λW=>iE0 p.name W (by omega);have sy:p.name.size<=maxLen:=by unfold maxLen;omega
      obtain⟨i1,i2,i3⟩:=ch.out;have cp:(k:Int)<l.length:=by omega
      cases s5:azS p.name
      ·have HB:Hid (eB l=1):=by
        show _=_
        rw[HF.out,if_pos (List.any_eq_true.2 ⟨p,Af hp,by rw[s5];rfl⟩)]
       rw[s5]at ew;clear hp ch s5 i1 i2 i3 d0 d1;go_wp2_with fail
       refine(ew _).mono ?_;rintro e w2 ⟨rfl,ah⟩;go_wp2_with fail
       go_ret;exact⟨by rw[HB.out];rfl,(hg.al _).tr ah⟩
      ·have HI:Hid (((l.take (k+1)).any λp => !azS p.name)=false):=by
        show _=_
        rw[bM hp,Bp,i1];simp[s5]
       have hdu:kU0 (l.take (k+1))=(kU0 (l.take k)||((l.take k).map (·.name)).any λs=>seq s p.name):=by
        unfold kU0;rw[bM hp,wH,Az]
       have HNS:Hid ((l.take (k+1)).map (·.name)=(l.take k).map (·.name)++[p.name]):=by show _=_;rw[bM hp,List.map_append];rfl
       rw[s5]at ew;have HDU:=Ac hdu;have HI2:=Ac i2;have HI3:=Ac i3;have hM:=nO0 i3 aa p.name;have HM:=Ac hM;clear hp ch s5 i1 i2 d0 d1 hdu hM;cases hseen:((l.take k).map (·.name)).any λs=>seq s p.name
       ·have HE:Hid (E=if kU0 (l.take (k+1))=true then 4 else 0):=by show _=_;rw[HDU.out,hseen,Br];exact HI2.out
        have lm:=λ(W:World) (hW:W.ownsMap Tryz.prog 9 (plainElem Tryz.prog 4) mb k D)=>wV i3 hW sy;rw[hseen]at lm;clear i3 hseen;go_wp2_with fail
        refine(ew _).mono ?_;rintro e w2 ⟨rfl,ah⟩;have af:=bF aa ((aB.alloc _ _).tr ah);have x0:w2.cell? ⟨wr.heap.size,0,none⟩=some (.string p.name):=ah.cell (aU wr _ _ (0,0) 0 _ rfl);have aek:=lm _ af;have cr:=(hg.al _).tr ah;go_wp2_with (at_mapUpdate;refine wpList_mapUpdate_own _ rfl _ _ _ 285 rfl 9 4 (Maps.string_keyed Tryz.underlying9) Tryz.underlying285 _ mb k D rfl af (by unfold maxLen;omega) _ _ (.string p.name.data.toList) rfl rfl (WideMaps.keyOf_string_mk Tryz.underlying9 sy) _ [] (plainElem_bool Tryz.underlying4 true) ?_;intro w3 an g9)
        go_roundw
        case rel=>exact⟨k+1,E,_,ae,by go_num,rfl,⟨HI.out,HE.out,by rw[HNS.out];exact HM.out⟩,an,Ad (Ad (Ad abu (aB.alloc _ _).size) ah.size) g9.size,cr.grown g9 (λq hq=>by cases hq;exact Bt HMB.out.symm)⟩
        case measure=>simp[intOf];omega
       ·have HE:Hid (4=if kU0 (l.take (k+1))=true then 4 else 0):=by show _=_;rw[HDU.out,hseen,Bool.or_true];rfl
        have lm:=λ(W:World) (hW:W.ownsMap Tryz.prog 9 (plainElem Tryz.prog 4) mb k D)=>wV i3 hW sy;rw[hseen]at lm;clear i3 hseen;go_wp2_with fail
        refine(ew _).mono ?_;rintro e w2 ⟨rfl,ah⟩;have af:=bF aa ((aB.alloc _ _).tr ah);have x0:w2.cell? ⟨wr.heap.size,0,none⟩=some (.string p.name):=ah.cell (aU wr _ _ (0,0) 0 _ rfl);have aek:=lm _ af;have cr:=(hg.al _).tr ah;go_wp2_with (at_mapUpdate;refine wpList_mapUpdate_own _ rfl _ _ _ 285 rfl 9 4 (Maps.string_keyed Tryz.underlying9) Tryz.underlying285 _ mb k D rfl af (by unfold maxLen;omega) _ _ (.string p.name.data.toList) rfl rfl (WideMaps.keyOf_string_mk Tryz.underlying9 sy) _ [] (plainElem_bool Tryz.underlying4 true) ?_;intro w3 an g9)
        go_roundw
        case rel=>exact⟨k+1,4,_,ae,by go_num,rfl,⟨HI.out,HE.out,by rw[HNS.out];exact HM.out⟩,an,Ad (Ad (Ad abu (aB.alloc _ _).size) ah.size) g9.size,cr.grown g9 (λq hq=>by cases hq;exact Bt HMB.out.symm)⟩
        case measure=>simp[intOf];omega
     ·have gh:k=l.length:=by omega
      have cp:¬(k:Int)<l.length:=by omega
      have HB:Hid (eB l=E):=by
       obtain⟨i1,i2,_⟩:=ch.out;show _=_
       rw[gh,Ax]at i1 i2;rw[HF.out,i1,i2];simp
      clear ch gh;go_wp2_with fail
      go_ret;exact⟨by rw[HB.out];rfl,hg⟩
theorem mX {α:Type} {enc:α->List Value} {k:Nat} (hk:∀x,(enc x).length=k) {w:World} {cs:Array Value} {t:TypeId} {fz:Nat×Nat} (xs:List α) (ct:cs.toList=xs.flatMap enc):aF (w.alloc (.cells cs t fz)) (some ⟨w.heap.size,0,none⟩) k (xs.map enc):=λ_=>⟨w.heap.size,0,rfl,λi row hi j u hj=>by
 rw[Bj]at hi
 cases hx:xs[i]? with
 | none=>rw[hx]at hi;cases hi
 | some x =>
  rw[hx]at hi;obtain rfl:=Option.some.inj hi;have h:=mP hk xs i j x u hx hj;rw[<-ct]at h;have h2:=aU w cs t fz (i*k+j) u (by simpa using h);simpa using h2⟩
theorem fS0 (l:List aX) (a:Option Addr) (c:Nat) (w:World) (he:Env w) (hl:l.length<=1000000) (ac:aF w a 2 (l.map iR)) (il:gF w l) :
  Calls Tryz.prog 64 #[.slice a l.length c] w (xQ l w):=by
 have CC:=Ac (oI0 l a c w hl ac il)
 have bg:∀k p,l[k]?=some p->∃b o,a=some ⟨b,o,none⟩/\w.cell? ⟨b,o+k*2,none⟩=some (.string p.name)/\w.cell? ⟨b,o+k*2+1,none⟩=some (.slice p.a p.data.length p.c):=by
  intro k p hp;obtain⟨b,o,ha,hc⟩:=aF.get (enc:=iR) ac (by grind);exact⟨b,o,ha,hc k p hp 0 _ rfl,hc k p hp 1 _ rfl⟩
 have HC:=Ac bg;have HPA:=Ac il;clear bg ac il;by_cases au:eB l=0
 case neg =>
  have HNE:=Ac au;obtain⟨E,hE⟩:∃E,eB l=E:=⟨_,rfl⟩;have HE:=Ac hE;rw[hE]at CC au;have hEb:((E:Int) != 0)=true:=by rw[bne_iff_ne];omega
  clear hE au;go_enter Tryz.func64,Tryz.ntmps64
  go_wp2_with fail
  refine CC.out.mono ?_;rintro e w1 ⟨rfl,av⟩;go_wp2_with fail
  refine bodyPost_ret (v:=.tuple #[.slice none 0 0,.int .i64 E]) (by simp[results,Tryz.results64,go_sem]) rfl (by grind [Go.RowKit.Hid.out,xQ])
 have HOK:=Ac au;rw[au]at CC;obtain⟨aeh,jp,s5,_⟩:=fQ0 au;have HAZ:=Ac (mY0 s5);have HBL:=Ac (hQ0 au);have hul:=bK l.length;clear s5 au;go_enter Tryz.func64,Tryz.ntmps64
 go_wp2_with fail
 refine CC.out.mono ?_;rintro e w1 ⟨rfl,av⟩;have hcv:=Lib.run_convert_bytes_const (P:=Tryz.prog) w1 28 5 #[.int .u8 72,.int .u8 78,.int .u8 75,.int .u8 49] 4 4 Tryz.underlying28 Tryz.underlying5;simp only[show (#[Value.int .u8 72,.int .u8 78,.int .u8 75,.int .u8 49]:Array Value).size=4 from rfl]at hcv
 go_wp2_with fail
 clear hcv;have kn:aF (w1.alloc (.cells #[.int .u8 72,.int .u8 78,.int .u8 75,.int .u8 49] 5 (4,5))) (some ⟨w1.heap.size,0,none⟩) 1 (([72,78,75,49]:List UInt8).map aQ):=by grind [mX,aQ]
 refine(gD [72,78,75,49] (some ⟨w1.heap.size,0,none⟩) 4 l.length _ (by decide) (by omega) kn (λh=>by cases h)).mono ?_;rintro e w2 ⟨v2,rfl,af,ah⟩;have cr:=(av.al _).tr ah;replace af:=af.base (base':=w.heap.size) (av.al _).size;clear kn ah av CC;go_wp2_with fail
 go_loopw [5,23] (λout i wr=>∃(k:Nat) (bd:List UInt8),k<=l.length/\i=.int .i64 k/\Hid (bd=([72,78,75,49]++dE l.length)++cH (l.take k))/\aT wr w.heap.size 5 1 aQ out bd/\aB w wr) (λ_ i _=>l.length-(intOf i).toNat)
 case atStart=>exact⟨0,_,At _,rfl,(by show _=_;simp[cH]),af,cr⟩
 case round =>
  obtain⟨k,bd,hk,rfl,bh,aa,hg⟩:=hrel
  have mg:bd.length<=20+k*36:=by
   rw[bh.out,Aa,Aa];have h1:=vO (l:=l.take k) (λp hp=>HAZ.out p (by grind));rw[Ay]at h1;have h2:min k l.length*36<=k*36:=by omega
   simp only[As,List.length_nil];omega
  by_cases ae:k<l.length
  ·obtain⟨p,hp⟩:∃p,l[k]?=some p:=by simp_all
   obtain⟨b,o,rfl,d0,d1⟩:=HC.out k p hp;have c0:=hg.cell d0;have c1:=hg.cell d1;have oe:=HAZ.out p (by grind);have hpd:=HPA.out.data p (by grind);have aei:=nP p.name;have aej:=bK p.data.length
   have HN:Hid ((bd++sC p.name)++dE p.data.length=([72,78,75,49]++dE l.length)++cH (l.take (k+1))):=by
    show _=_
    rw[bM hp,eA0,bh.out];simp only[Ab]
   have cp:(k:Int)<l.length:=by omega
   have yo:IntKind.u64.wrap (p.data.length:Int)=p.data.length:=by simp[Aj,Ak,Ag];omega
   obtain⟨ao,co,rfl,_,_,zq⟩:=aa.at_ bE.len;have rq:=bJ aa;have jg:aB wr (wr.alloc (.cells #[.string p.name,.slice p.a p.data.length p.c] 119)):=aB.alloc _ _;clear hp bh d0 d1 aa;go_wp2_with fail
   refine(sZ bd ao co p.name _ (by omega) (by omega) (zq.grows jg) rq).mono ?_;rintro e w3 ⟨v3,rfl,an,bv⟩;obtain⟨B3,ik⟩:=exq (bd++sC p.name);rw[<-ik]at an HN;have jf:B3.length<=1000000:=by rw[ik,Aa];omega
   obtain⟨a3,c3,rfl,_,_,fm⟩:=an.at_ bE.len;have sf:=bJ an;have x1:w3.cell? ⟨wr.heap.size,1,none⟩=some (.slice p.a p.data.length p.c):=bv.cell (by simp_all);clear ik an;go_wp2_with fail
   refine(gD B3 a3 c3 p.data.length _ (by omega) (by omega) fm sf).mono ?_;rintro e w4 ⟨v4,rfl,cu,d8⟩;have pj:=hg.tr (jg.tr bv);go_wp2_with fail
   go_roundw
   case rel=>exact⟨k+1,_,ae,by go_num,HN.out,cu.base pj.size,pj.tr d8⟩
   grind [Go.Proofs.intOf]
  ·have cp:¬(k:Int)<l.length:=by omega
   have HA:Hid (bd=([72,78,75,49]++dE l.length)++cH l):=by
    show _=_
    rw[bh.out,Ar (by omega)]
   clear bh;go_wp2_with fail
   obtain⟨u0,rfl⟩:=exq wr;go_loopw [5,40] (λout i wr=>∃(k:Nat) (cw:List UInt8),k<=l.length/\i=.int .i64 k/\Hid (cw=bd++cM (l.take k))/\aT wr w.heap.size 5 1 aQ out cw/\aB w wr) (λ_ i _=>l.length-(intOf i).toNat)
   case atStart=>exact⟨0,_,At _,rfl,(by show _=_;simp[cM]),aa,hg⟩
   case round =>
    obtain⟨k,cw,hk,rfl,dw,aa,hg⟩:=hrel;by_cases ae:k<l.length
    ·obtain⟨p,hp⟩:∃p,l[k]?=some p:=by simp_all
     obtain⟨b,o,rfl,d0,d1⟩:=HC.out k p hp;have c0:=hg.cell d0;have c1:=hg.cell d1;have hpd:=HPA.out.data p (by grind);have ael:=(HPA.out.at_ p (by grind)).grows (hg.al (.cells #[.string p.name,.slice p.a p.data.length p.c] 119));have dm:=HPA.out.none_ p (by grind)
     have HN:Hid (cw++p.data=bd++cM (l.take (k+1))):=by
      show _=_
      rw[bM hp,dZ0,dw.out,Ab]
     have aec:cw.length<=3000+64*1099511627776:=by
      rw[dw.out,Aa,wP];have h1:=sE0 (l:=l.take k) (n:=1099511627776) (λp hp=>HPA.out.data p (by grind));rw[Ay]at h1;have h2:min k l.length*1099511627776<=64*1099511627776:=by omega
      omega
     have ja:=aa.grows (aB.alloc wr (.cells #[.string p.name,.slice p.a p.data.length p.c] 119));have gi:=hg.al (.cells #[.string p.name,.slice p.a p.data.length p.c] 119);clear hp dw d0 d1;go_wp2_with (at_builtin;refine oP bE rfl _ _ rfl w.heap.size _ cw p.data rfl ja (aB.refl _) p.a p.c rfl ael dm (by omega) gi.size ?_;intro v7 w7 dv d9)
     grind [Go.Proofs.intOf]
    ·have cp:¬(k:Int)<l.length:=by omega
     have HB:Hid (cw=cK l):=by
      show _=_
      rw[dw.out,HA.out,Ar (by omega)];rfl
     have ee:cw.length<=16800000:=by rw[HB.out];exact HBL.out
     have hl4:(leB 4 (crcSum cw)).length=4:=bD _ _;obtain⟨a8,c8,rfl,_,_,fo⟩:=aa.at_ bE.len;have hew:=he.grows hg;clear dw;go_wp2_with (first|(go_at_call 77;refine(qO cw a8 c8 _ hew (by omega) fo).mono ?_;rintro e w9 ⟨v9,rfl,di,fq⟩;obtain⟨a9,c9,rfl,_,_,aem⟩:=di.at_ bE.len;have hn9:=bJ di;have aa3:=aa.grows fq;have eo:=hg.tr fq;clear aa di)|(at_builtin;refine oP bE rfl _ _ rfl w.heap.size _ cw (leB 4 (crcSum cw)) rfl aa3 (aB.refl _) a9 c9 rfl aem hn9 (by omega) eo.size ?_;intro v10 zr gl f7))
     have HF:Hid (cw++leB 4 (crcSum cw)=fR l):=by show _=_;rw[HB.out];rfl
     refine bodyPost_ret (v:=.tuple #[v10,.int .i64 0]) (by simp[results,Tryz.results64,go_sem]) rfl ⟨by grind [Go.RowKit.Hid.out],λh=>absurd HOK.out h,by simp_all⟩
end
section
open Go Go.RowKit
theorem jJ0 (s:ByteArray):sC s=dE s.size++bl s:=rfl
def hposP (P:List aX) (i:Nat):Nat:=(([72,78,75,49]++dE P.length)++cH (P.take i):List UInt8).length
def nQ (P:List aX) (i:Nat):Nat:=(([72,78,75,49]++dE P.length)++cH P++cM (P.take i):List UInt8).length
theorem mM0 {P:List aX} {i:Nat} {p:aX} (h:P[i]?=some p):cH P=cH (P.take i)++((sC p.name++dE p.data.length)++cH (P.drop (i+1))):=by
 obtain⟨hi,rfl⟩:=List.getElem?_eq_some_iff.1 h;unfold cH;rw[<-Aq (f:=λp:aX=>sC p.name++dE p.data.length),<-Av hi,<-Ah,Ao]
theorem oV0 {P:List aX} {i:Nat} {p:aX} (h:P[i]?=some p):cM P=cM (P.take i)++(p.data++cM (P.drop (i+1))):=by
 obtain⟨hi,rfl⟩:=List.getElem?_eq_some_iff.1 h;unfold cM;rw[<-Aq (f:=λp:aX=>p.data),<-Av hi,<-Ah,Ao]
theorem fB0 {P:List aX} {i:Nat} {p:aX} (h:P[i]?=some p):cH (P.take (i+1))=cH (P.take i)++(sC p.name++dE p.data.length):=by
 unfold cH;rw[Bk,h,Ah];simp
theorem fC0 {P:List aX} {i:Nat} {p:aX} (h:P[i]?=some p):cM (P.take (i+1))=cM (P.take i)++p.data:=by
 unfold cM;rw[Bk,h,Ah];simp
theorem hV0 (P:List aX):hposP P 0=4+(dE P.length).length:=by unfold hposP cH; simp; omega
theorem jY0 {P:List aX} {i:Nat} {p:aX} (h:P[i]?=some p):hposP P (i+1)=hposP P i+(sC p.name).length+(dE p.data.length).length:=by
 unfold hposP;grind [fB0]
theorem iL0 (P:List aX):nQ P 0=hposP P P.length:=by
 unfold nQ hposP;grind [cM]
theorem vU {P:List aX} {i:Nat} {p:aX} (h:P[i]?=some p):nQ P (i+1)=nQ P i+p.data.length:=by
 unfold nQ;rw[fC0 h];grind
theorem pG0 (P:List aX):nQ P P.length=(cK P).length:=by grind [nQ,cK]
theorem rW0 {P:List aX} {i:Nat}:nQ P i<=(cK P).length:=by
 unfold nQ cK;simp only[Aa]
 have:(cM (P.take i)).length<=(cM P).length:=by
  unfold cM;have h:=Ao i P;have h2:cM P=cM (P.take i)++cM (P.drop i):=by unfold cM;rw[<-Ah,h]
  unfold cM at h2;rw[h2,Aa];omega
 omega
theorem rH0 {P:List aX} {i:Nat}:hposP P i<=(cK P).length:=by
 unfold hposP cK;simp only[Aa]
 have:(cH (P.take i)).length<=(cH P).length:=by
  have h2:cH P=cH (P.take i)++cH (P.drop i):=by unfold cH;rw[<-Ah,Ao]
  rw[h2,Aa];omega
 omega
theorem rJ0 {P:List aX} (hn:P.length<18446744073709551616):rdU ((cK P).drop 4)=some (P.length,(dE P.length).length):=by
 grind [cU0,cK]
theorem bB0 {P:List aX} {i:Nat} {p:aX} (h:P[i]?=some p):(cK P).drop (hposP P i)=(sC p.name++dE p.data.length)++(cH (P.drop (i+1))++cM P):=by
 have e:cK P=(([72,78,75,49]++dE P.length)++cH (P.take i))++((sC p.name++dE p.data.length)++(cH (P.drop (i+1))++cM P)):=by
  unfold cK;rw[mM0 h];simp only[Ab]
 rw[e];exact Ba rfl
theorem wN0 {s:ByteArray} (hs:s.size<18446744073709551616) (r:List UInt8):rdT (sC s++r)=some (s,(sC s).length):=by
 unfold rdT;rw[jJ0,Ab,cU0 hs];simp only;rw[Ba rfl,if_pos (by grind [gJ])];congr 1
 rw[List.take_left' (gJ s),Aa,gJ];exact congrArg (·,_) (gA0 s)
theorem xI0 {P:List aX} {i:Nat} {p:aX} (h:P[i]?=some p) (hs:p.name.size<18446744073709551616):rdT ((cK P).drop (hposP P i))=some (p.name,(sC p.name).length):=by
 grind [bB0,wN0]
theorem uU0 {P:List aX} {i:Nat} {p:aX} (h:P[i]?=some p) (hs:p.data.length<18446744073709551616):rdU ((cK P).drop (hposP P i+(sC p.name).length))=some (p.data.length,(dE p.data.length).length):=by
 rw[<-List.drop_drop,bB0 h,Ab,Ba rfl];exact cU0 hs _
theorem wG0 {P:List aX} {i:Nat} {p:aX} (h:P[i]?=some p):((cK P).take (nQ P i+p.data.length)).drop (nQ P i)=p.data:=by
 have e:cK P=(([72,78,75,49]++dE P.length)++cH P++cM (P.take i))++(p.data++cM (P.drop (i+1))):=by
  unfold cK;rw[oV0 h];simp only[Ab]
 rw[<-List.take_drop];conv=>lhs;rw[e]
 unfold nQ;simp_all
structure nA (W:World) (b m:Nat) (f:Nat->Value):Prop where
 cell:∀j,j<m->W.cell? ⟨b,j,none⟩=some (f j)
 froz:∀j,W.frozen? ⟨b,j,none⟩=false
 lt:b<W.heap.size
theorem nA.grows {W W':World} {b m:Nat} {f:Nat->Value} (h:nA W b m f) (hg:aB W W'):nA W' b m f :=
 ⟨λj hj=>hg.cell (h.cell j hj),λj=>(hg.froz (p:=⟨b,j,none⟩) h.lt).trans (h.froz j),Ad h.lt hg.size⟩
theorem nA.other {W:World} {b m:Nat} {f:Nat->Value} (h:nA W b m f) {b' j':Nat} (hb:b'≠b) (v:Value):nA (W.setCell ⟨b',j',none⟩ v) b m f :=
 ⟨λj hj=>by rw[Aw _ _ _ _ (by simp_all)];exact h.cell j hj,λj=>(Bc _ _ _ _).trans (h.froz j),by simp;exact h.lt⟩
theorem nA.set {W:World} {b m:Nat} {f:Nat->Value} (h:nA W b m f) {k:Nat} (hk:k<m) (v:Value):nA (W.setCell ⟨b,k,none⟩ v) b m (λj=>if j=k then v else f j) :=
 ⟨λj hj=>by
  by_cases e:j=k
  ·subst e
   rw[if_pos rfl];exact World.cell?_setCell_same _ _ _ (h.cell j hj)
  ·rw[if_neg e,Aw _ _ _ _ (by simp_all)]
   exact h.cell j hj,λj=>(Bc _ _ _ _).trans (h.froz j),by simp;exact h.lt⟩
theorem nA.congr {W:World} {b m:Nat} {f g:Nat->Value} (h:nA W b m f) (e:∀j,j<m->f j=g j):nA W b m g:=⟨λj hj=>by rw[<-e j hj]; exact h.cell j hj,h.froz,h.lt⟩
theorem qE0 {w W:World} {cs:Array Value} {t:TypeId} {m:Nat} (hg:aB (w.alloc (.cells cs t)) W) (hm:cs.size=m):nA W w.heap.size m (λj=>cs.getD j undef):=by
 obtain⟨h1,h2⟩:=cO hg;refine⟨λj hj=>h1 j _ ?_,h2,Ad (by simp) hg.size⟩;simp_all
end
section
open Go Go.RowKit Go.Shelf
attribute [local go_sem] aM aO
theorem vR0:∀args w,(callFunc 144 args).run Tryz.prog w=.ok (.enter 144 args) w:=enters_of Tryz.func144 (by kernel_rfl) rfl
theorem fW0 (b:List UInt8) (ba:Option Addr) (bc k v n pb pa po m6:Nat) (w:World) (hk:k<=b.length) (hb:b.length<=1099511627776) (ac:aF w ba 1 (b.map aQ)) (hR:rdU (b.drop k)=some (v,n)) (hv:v<=m6) (hm:m6<=1099511627776)
  (cb:w.cell? ⟨pb,0,none⟩=some (.slice ba b.length bc)) (ca:w.cell? ⟨pa,0,none⟩=some (.int .i64 k)) (co:w.cell? ⟨po,0,none⟩=some (.bool true)) (fa:w.frozen? ⟨pa,0,none⟩=false) :
  Calls Tryz.prog 144 #[.int .i64 m6,.pointer (some ⟨pb,0,none⟩),.pointer (some ⟨pa,0,none⟩),.pointer (some ⟨po,0,none⟩)] w λe w'=>e=.returned (.int .i64 v)/\∃w1,aB w w1/\w'=w1.setCell ⟨pa,0,none⟩ (.int .i64 ((k+n:Nat):Int)):=by
 have CU:=Ac (rY0 b k ba bc w hk hb ac);rw[hR]at CU;unfold lU0 at CU;have il:=World.block_lt_of_cell? w _ ca;obtain⟨K,hK⟩:=exq (k+n);simp only[<-hK]at CU ⊢;clear hR ac hK;have wm:IntKind.u64.wrap (m6:Int)=m6:=by simp[Aj,Ak,Ag];omega
 have wv:IntKind.i64.wrap (v:Int)=v:=by simp[Aj,Ak,Ag];omega
 have hvm:¬(m6:Int)<v:=by omega
 go_enter Tryz.func144,Tryz.ntmps144
 go_wp2_with fail
 refine CU.out.mono ?_;rintro e w1 ⟨rfl,av⟩;have ca1:=av.cell ca;have co1:=av.cell co;have fa1:=(av.froz (p:=⟨pa,0,none⟩) il).trans fa;go_wp2_with fail
 go_ret;exact⟨rfl,w1,av,rfl⟩
theorem vG (l:List UInt8) (a:Option Addr) (c:Nat) (w:World) (hl:l.length<=1099511627776) (hn:a=none->c=0) (ac:aF w a 1 (l.map aQ)) :
  Calls Tryz.prog 147 #[.slice a l.length c] w λe w'=>∃v,e=.returned v/\aT w' w.heap.size 5 1 aQ v l/\aB w w':=by
 cases a with
 | none =>
  have ux:l=[]:=Decidable.byContradiction λh=>by
   obtain⟨_,_,e,_⟩:=ac (by simpa using h);cases e
  subst ux;obtain rfl:=hn rfl;have yu:∀W:World,(binOp .eql 28 (.slice none 0 0) (.slice none 0 0)).run Tryz.prog W=.ok (.bool true) W:=λW=>by rfl
  go_enter Tryz.func147,Tryz.ntmps147
  go_wp2_with fail
  go_ret;exact⟨_,rfl,aT.nil _ _ _ _ _,aB.refl _⟩
 | some q =>
  have HSRC:=Ac (ac.grows (aB.alloc w (.cells #[] 5)));clear ac hn;have yu:∀W:World,(binOp .eql 28 (.slice (some q) l.length c) (.slice none 0 0)).run Tryz.prog W=.ok (.bool false) W:=λW=>by rfl
  go_enter Tryz.func147,Tryz.ntmps147
  go_wp2_with (at_builtin;refine oP bE rfl _ _ rfl w.heap.size _ [] l rfl (fZ0 w.heap.size (Ai _)) (aB.refl _) (some q) c rfl HSRC.out (λh=>by cases h) (by simp;omega) (by simp) ?_;intro v' w3 an bv)
  rw[Az]at an;have sj:=bv w (aB.alloc _ _) (Ai _);go_wp2_with fail
  go_ret;exact⟨_,rfl,an,sj⟩
theorem jV (l m:List UInt8) (a b:Option Addr) (c d:Nat) (w:World) (h1:aF w a 1 (l.map aQ)) (h2:aF w b 1 (m.map aQ)) :
  Calls Tryz.prog 76 #[.slice a l.length c,.slice b m.length d] w λe w'=>e=.returned (.bool (decide (l=m)))/\w=w':=by
 have v1:(convert 28 9 (.slice a l.length c)).run Tryz.prog w=.ok (.string (mkB l)) w:=rS h1;have v2:(convert 28 9 (.slice b m.length d)).run Tryz.prog w=.ok (.string (mkB m)) w:=rS h2;by_cases h:l=m
 ·have e1:((mkB l).toList==(mkB m).toList)=true:=by rw[h];simp
  have HH:=Ac h;clear h;go_enter Tryz.func76,Tryz.ntmps76
  go_wp2_with fail
  go_ret;exact⟨by simp[HH.out],rfl⟩
 ·have e1:((mkB l).toList==(mkB m).toList)=false:=by
   rw[beq_eq_false_iff_ne];intro he;exact h (by have:=congrArg (·.data.toList) (jS he);simpa [gO] using this)
  have HH:=Ac h;clear h;go_enter Tryz.func76,Tryz.ntmps76
  go_wp2_with fail
  go_ret;exact⟨by simp[HH.out],rfl⟩
end
section
open Go Go.RowKit
attribute [local go_sem] aM aO
def lE (l:List Nat) (W k q:Nat):List Nat:=(Bv q).map λQ=>dX (λp=>decide (p<8*k)&&bitAt l W p) (64*Q) 64
theorem jO (l:List Nat) (W k q:Nat):(lE l W k q).length=q:=by simp[lE]
theorem mH {l:List Nat} {W k q Q:Nat} (h:Q<q):(lE l W k q)[Q]?=some (dX (λp=>decide (p<8*k)&&bitAt l W p) (64*Q) 64):=by
 unfold lE;rw[Bj,List.getElem?_range h];rfl
theorem iX0 (f:Nat->Bool) (b k:Nat) (h:∀t,t<k->f (b+t)=false):dX f b k=0:=by
 symm
 exact fM (Nat.two_pow_pos _) λt ht=>by rw[h t ht];simp
theorem eL0 (l:List Nat) (W q:Nat):lE l W 0 q=List.replicate q 0:=by
 apply Bn
 intro i;by_cases h:i<q
 ·rw[mH h,List.getElem?_replicate_of_lt h,iX0 _ _ _ (λt _=>by simp)]
 ·rw[Ap (by rw[jO];omega),Ap (by simp;omega)]
theorem kR0 {l:List Nat} {W p:Nat} (hl:∀x∈l,x<2^W) (h:l.length*W<=p):bitAt l W p=false:=by
 by_cases hW:W=0
 ·subst hW
  unfold bitAt
  have:l.getD (p/0) 0=0:=by
   rw[List.getD_eq_getElem?_getD]
   cases hx:l[p/0]? with
   | none=>rfl
   | some x=>have:=hl x (Af hx);simp at this;simp[this]
  rw[this];simp
 ·exact sV (by omega) h
theorem hT0 {l:List Nat} {W k q:Nat} (hl:∀x∈l,x<2^W) (h:l.length*W<=8*k):lE l W k q=dD l W q:=by
 unfold lE dD eX;apply List.map_congr_left
 intro Q _;apply gY
 intro t _;by_cases hp:64*Q+t<8*k
 ·simp[hp]
 ·rw[kR0 hl (by omega)];simp
theorem jO0 {l:List Nat} {W k t:Nat} (ht:t<64) :
  (dX (λp=>decide (p<8*k)&&bitAt l W p) (64*(k/8)) 64|||(dX (bitAt l W) (8*k) 8<<<(k%8*8))%18446744073709551616).testBit t=(decide (64*(k/8)+t<8*(k+1))&&bitAt l W (64*(k/8)+t)):=by
 rw[Nat.testBit_or,cJ,yM ht,cJ];generalize hB:bitAt l W=B;by_cases h1:t<k%8*8
 ·have e1:64*(k/8)+t<8*k:=by omega
  have e2:¬k%8*8<=t:=by omega
  have e3:64*(k/8)+t<8*(k+1):=by omega
  rw[decide_eq_true ht,decide_eq_true e1,decide_eq_false e2,decide_eq_true e3,Au,Br,Bf,Bf]
 ·have e1:¬64*(k/8)+t<8*k:=by omega
  have e2:k%8*8<=t:=by omega
  rw[decide_eq_true ht,decide_eq_false e1,decide_eq_true e2,Au,Bool.and_false,Bool.false_or,Bf];by_cases h2:t<k%8*8+8
  ·have e3:t-k%8*8<8:=by omega
   have e4:64*(k/8)+t<8*(k+1):=by omega
   have e5:8*k+(t-k%8*8)=64*(k/8)+t:=by omega
   rw[decide_eq_true e3,decide_eq_true e4,e5]
  ·have e3:¬t-k%8*8<8:=by omega
   have e4:¬64*(k/8)+t<8*(k+1):=by omega
   rw[decide_eq_false e3,decide_eq_false e4,Au,Au]
theorem eF0 {l:List Nat} {W k q:Nat} (hq:k/8<q) :
  lE l W (k+1) q=(lE l W k q).set (k/8) (dX (λp=>decide (p<8*k)&&bitAt l W p) (64*(k/8)) 64|||(dX (bitAt l W) (8*k) 8<<<(k%8*8))%18446744073709551616):=by
 apply Bn
 intro i;by_cases hi:i<q
 ·rw[mH hi]
  by_cases he:k/8=i
  ·rw[<-he,List.getElem?_set_self (by rw[jO];exact hq)]
   refine congrArg some ?_;symm
   exact fM (Bo (n:=64) (gN _ _ 64) (Nat.mod_lt _ (by decide))) λt ht=>jO0 ht
  ·rw[List.getElem?_set_ne he,mH hi]
   refine congrArg some ?_;apply gY
   intro t ht;generalize bitAt l W=B;by_cases h1:64*i+t<8*k
   ·have h2:64*i+t<8*(k+1):=by omega
    rw[decide_eq_true h1,decide_eq_true h2]
   ·have h2:¬64*i+t<8*(k+1):=by omega
    rw[decide_eq_false h1,decide_eq_false h2]
 ·rw[Ap (by rw[jO];omega),Ap (by rw[List.length_set,jO];omega)]
theorem pF (a b:Nat) (ha:a<4611686018427387904) (hb:b<4611686018427387904):bits .or .i64 (a:Int) (b:Int)=((a|||b:Nat):Int):=by
 have hx:a|||b<2^62:=Bo (by omega) (by omega)
 show IntKind.i64.wrap ((BitVec.ofInt 64 (a:Int)|||BitVec.ofInt 64 (b:Int)).toNat:Int)=_
 rw[BitVec.toNat_or,ofInt_u64 a (by omega),ofInt_u64 b (by omega)];generalize a|||b=x at hx
 simp[Aj,Ak,Ag];omega
theorem eN0 {a c k:Nat} (h:a<2^k):a|||(c*2^k)=a+c*2^k:=by
 rw[Nat.or_comm,Nat.mul_comm,<-Nat.two_pow_add_eq_or_of_lt h,Nat.add_comm]
theorem uM0 {b0 b1 b2 b3:Nat} (h0:b0<256) (h1:b1<256) (h2:b2<256) (h3:b3<256) :
  bits .or .i64 (b0:Int) ((b1*256:Nat):Int)=((b0+b1*256:Nat):Int)/\bits .or .i64 ((b0+b1*256:Nat):Int) ((b2*65536:Nat):Int)=((b0+b1*256+b2*65536:Nat):Int) /\
  bits .or .i64 ((b0+b1*256+b2*65536:Nat):Int) ((b3*16777216:Nat):Int)=((b0+b1*256+b2*65536+b3*16777216:Nat):Int):=by
 refine⟨?_,?_,?_⟩
 ·rw[pF _ _ (by omega) (by omega),show b1*256=b1*2^8 from rfl,eN0 (by omega)]
 ·rw[pF _ _ (by omega) (by omega),show b2*65536=b2*2^16 from rfl,eN0 (by omega)]
 ·rw[pF _ _ (by omega) (by omega),show b3*16777216=b3*2^24 from rfl,eN0 (by omega)]
theorem fA {x:Nat} (h:x<4611686018427387904):IntKind.i64.wrap (x:Int)=x:=by simp[Aj,Ak,Ag]; omega
theorem nU0 {b0 b1 b2 b3 n:Nat} (h0:b0<256) (h1:b1<256) (h2:b2<256) (h3:b3<256) (hn:n=b0+b1*256+b2*65536+b3*16777216) :
  ∃c1 c2 c3 s1 s2:Nat,IntKind.i64.wrap ((b1:Int)*256)=(c1:Int)/\IntKind.i64.wrap ((b2:Int)*65536)=(c2:Int)/\IntKind.i64.wrap ((b3:Int)*16777216)=(c3:Int) /\
   bits .or .i64 (b0:Int) (c1:Int)=(s1:Int)/\bits .or .i64 (s1:Int) (c2:Int)=(s2:Int)/\bits .or .i64 (s2:Int) (c3:Int)=(n:Int):=by
 obtain⟨o1,o2,o3⟩:=uM0 h0 h1 h2 h3;refine⟨b1*256,b2*65536,b3*16777216,b0+b1*256,b0+b1*256+b2*65536,?_,?_,?_,o1,o2,?_⟩
 ·have:=fA (x:=b1*256) (by omega)
  rwa [Bb]at this
 ·have:=fA (x:=b2*65536) (by omega)
  rwa [Bb]at this
 ·have:=fA (x:=b3*16777216) (by omega)
  rwa [Bb]at this
 ·rw[o3,hn]
theorem kC0 (l:List Nat):∃b0 b1 b2 b3:Nat,bV l=[Ae b0,Ae b1,Ae b2,Ae b3,Ae (lD l)]++uU l/\b0<256/\b1<256/\b2<256/\b3<256/\(l.length<4294967296->l.length=b0+b1*256+b2*65536+b3*16777216):=by
 refine⟨l.length%256,l.length/256%256,l.length/65536%256,l.length/16777216%256,?_,by omega,by omega,by omega,by omega,λh=>by omega⟩;unfold bV leB;simp[Bv,List.range.loop,tO]
end
section
open Go Go.RowKit
attribute [local go_sem] aM
end
section
open Go Go.RowKit Go.Shelf
attribute [local go_sem] aM aO
theorem yF0 (w:World):(zeroValue 3).run Tryz.prog w=.ok (.int .i64 0) w:=by kernel_rfl
def IdM (L:List ByteArray) (k:Nat) (D:DataW Unit):Prop:=∀i s,i<k->L[i]?=some s->D.atKey (.string s.data.toList) (.lit (.int .i64 0))=.lit (.int .i64 i)
theorem yX {w:World} {b n k i:Nat} {D:DataW Unit} {L:List ByteArray} {s:ByteArray} (hM:IdM L k D) (aa:w.ownsMap Tryz.prog 9 (plainElem Tryz.prog 3) b n D) (hi:i<k) (hx:L[i]?=some s) (hs:s.size<=maxLen) :
  (Instr.lookup 105 (.map (some b)) (.string s) false).run Tryz.prog w=.ok (.int .i64 i) w:=by
 obtain⟨c,m5,ac,_⟩:=aa.lookup_int (Maps.string_keyed Tryz.underlying9) Tryz.underlying105 Tryz.underlying3 (yF0 w) (WideMaps.keyOf_string_mk Tryz.underlying9 hs);rw[hM i s hi hx]at ac
 have:(i:Int)=c:=by simpa using ac
 rw[this];exact m5
theorem tL0 (L:List ByteArray) (D:DataW Unit):IdM L 0 D:=λi _ h=>absurd h (Nat.not_lt_zero i)
theorem wM0 {b n k:Nat} {w:World} {D:DataW Unit} {L:List ByteArray} {s:ByteArray} (hM:IdM L k D) (aa:w.ownsMap Tryz.prog 9 (plainElem Tryz.prog 3) b n D) (hd:L.Nodup) (hx:L[k]?=some s):IdM L (k+1) (D.put (.string s.data.toList) (.lit (.int .i64 k))):=λi t hi ht=>by
 by_cases h:i=k
 ·subst h
  obtain rfl:s=t:=by rw[hx]at ht;exact Option.some.inj ht
  rw[Maps.atKey_put_same aa.isMap (k:=.string s.data.toList) trivial]
 ·have aq:(Lit.string t.data.toList) ≠ .string s.data.toList:=λh2=>h (by
   injection h2 with h3
   have h4:t=s:=oJ h3;obtain⟨hi1,ou⟩:=List.getElem?_eq_some_iff.1 ht;obtain⟨hk1,ig⟩:=List.getElem?_eq_some_iff.1 hx;exact(List.getElem_inj hd).1 (by rw[ou,ig,h4]))
  rw[Maps.atKey_put_other aq,hM i t (by omega) ht]
structure uB0 (w:World) (ib:Nat) (L:List ByteArray):Prop where
 ex:∃mb n D,w.cell? ⟨ib,0,none⟩=some (.map (some mb))/\w.ownsMap Tryz.prog 9 (plainElem (H:=Unit) Tryz.prog 3) mb n D/\IdM L L.length D
theorem uB0.grows {w w':World} {ib:Nat} {L:List ByteArray} (h:uB0 w ib L) (hg:aB w w'):uB0 w' ib L:=by
 obtain⟨mb,n,D,h1,h2,h3⟩:=h.ex;exact⟨mb,n,D,hg.cell h1,bF h2 hg,h3⟩
theorem rQ0 (L:List ByteArray) (ib i:Nat) (x:En) (w:World) (h:uB0 w ib L) (hx:L[i]?=some x.s) (hs:x.s.size<=maxLen) :
  Calls Tryz.prog 67 #[x.agg,.pointer (some ⟨ib,0,none⟩)] w λe w'=>e=.returned (.int .i64 i)/\aB w w':=by
 obtain⟨xr,xs,xl,xt,xc⟩:=x;obtain⟨mb,n,D,h1,h2,h3⟩:=h.ex;simp only at hx hs;have c1:(w.alloc (.cells #[.string xr,.string xs,.int .i64 xl,.int .i64 xt,.int .i64 xc] 30)).cell? ⟨ib,0,none⟩=some (.map (some mb)):=(aB.alloc _ _).cell h1;have hl:=yX h3 (bF h2 (aB.alloc w (.cells #[.string xr,.string xs,.int .i64 xl,.int .i64 xt,.int .i64 xc] 30))) (List.getElem?_eq_some_iff.1 hx).1 hx hs;unfold En.agg;clear h h1 h2 h3;go_enter Tryz.func67,Tryz.ntmps67
 go_wp2_with fail
 go_ret;exact⟨rfl,aB.alloc _ _⟩
theorem xE0:∀args w,(callFunc 67 args).run Tryz.prog w=.ok (.enter 67 args) w:=enters_of Tryz.func67 (by kernel_rfl) rfl
theorem wC0:∀args w,(callFunc 60 args).run Tryz.prog w=.ok (.enter 60 args) w:=enters_of Tryz.func60 (by kernel_rfl) rfl
theorem sM0 (L:List ByteArray) (ib eb i j x y:Nat) (l:List En) (ex ey:En) (a:Option Addr) (c:Nat) (w:World) (h:uB0 w ib L) (he:w.cell? ⟨eb,0,none⟩=some (.slice a l.length c)) (ac:aF w a 5 (l.map aZ)) (_hl:l.length<=1048576) (hL:L.length<=1048576)
  (hx:l[x]?=some ex) (hy:l[y]?=some ey) (hi:L[i]?=some ex.s) (hj:L[j]?=some ey.s) (hs:ex.s.size<=maxLen/\ey.s.size<=maxLen) :
  Calls Tryz.prog 60 #[.int .i64 x,.int .i64 y,.pointer (some ⟨ib,0,none⟩),.pointer (some ⟨eb,0,none⟩)] w λe w'=>e=.returned (.int .i64 ((i:Int)-j))/\w'=w.drew:=by
 obtain⟨xr,xs,xl,xt,xc⟩:=ex;obtain⟨yr,ys,yl,yt,yc⟩:=ey;obtain⟨mb,n,D,h1,h2,h3⟩:=h.ex;simp only at hi hj hs;have hxl:=(List.getElem?_eq_some_iff.1 hx).1;have hyl:=(List.getElem?_eq_some_iff.1 hy).1;have sd:=(List.getElem?_eq_some_iff.1 hi).1;have hjl:=(List.getElem?_eq_some_iff.1 hj).1;obtain⟨ba,oa,rfl,cm⟩:=aF.get (enc:=aZ) ac (aH hxl);have z0:∀x:Ext aB w.drew,x.u.cell? ⟨ib,0,none⟩=some (.map (some mb)):=aG ((aB.drew w).cell h1);have z1:∀x:Ext aB w.drew,x.u.cell? ⟨eb,0,none⟩=some (.slice (some ⟨ba,oa,none⟩) l.length c):=aG ((aB.drew w).cell he);have z2:∀u:Ext aB w.drew,u.u.cell? ⟨ba,oa+x*5+1,none⟩=some (.string xs):=aG ((aB.drew w).cell (cm x _ hx 1 _ rfl));have z3:∀u:Ext aB w.drew,u.u.cell? ⟨ba,oa+y*5+1,none⟩=some (.string ys):=aG ((aB.drew w).cell (cm y _ hy 1 _ rfl));have z4:∀u:Ext aB w.drew,(Instr.lookup 105 (.map (some mb)) (.string xs) false).run Tryz.prog u.u=.ok (.int .i64 i) u.u:=λu=>yX h3 (bF (bF h2 (aB.drew w)) u.h) sd hi hs.1;have z5:∀u:Ext aB w.drew,(Instr.lookup 105 (.map (some mb)) (.string ys) false).run Tryz.prog u.u=.ok (.int .i64 j) u.u:=λu=>yX h3 (bF (bF h2 (aB.drew w)) u.h) hjl hj hs.2;have qq:(x:Int)<l.length:=by omega
 have hyi:(y:Int)<l.length:=by omega
 have wij:IntKind.i64.wrap ((i:Int)-j)=(i:Int)-j:=by simp[Aj,Ak,Ag];omega
 clear h he ac hx hy hi hj hs h1 h2 h3 cm;go_enter Tryz.func60,Tryz.ntmps60
 go_wp2_with fail
 refine bI (bB 16 []) (by kernel_rfl) (λd _ _ _ _ h=>by cases d<;>exact h) ?_
 iterate 16 (refine aK rfl (λK hK=>?_);go_simp;refine hK _ ?_;clear hK K)
 clear z0 z1 z2 z3 z4 z5;refine bT ?_;go_wp2_with fail
 go_ret;exact⟨rfl,rfl⟩
end
end Go.Proofs.YthgklnohcmaopaaGreatDoor
