/- The texts kS1 W14P W15 PosE W14 CrcW SecW SecJ RefX Bid SecP, one behind the other. -/
import Derived.Test.YtheiocndipepaaaGreatDoorKq5
import Derived.Test.YtheiocndipepaaaGreatDoorKq16
import Derived.Test.YtheiocndipepaaaGreatDoorKq34
import Derived.Test.YtheiocndipepaaaGreatDoorKq21
import Derived.Test.YtheiocndipepaaaGreatDoorKq1
import Derived.Test.YtheiocndipepaaaGreatDoorKq20
import Derived.Test.YtheiocndipepaaaGreatDoorKq15
import Derived.Test.YtheiocndipepaaaGreatDoorKq10
import Derived.Maps.Own
import Derived.Carry
import Derived.Lib.SlBytesConst
import Derived.Test.YtheiocndipepaaaGreatDoorKq11
import Derived.Test.YtheiocndipepaaaGreatDoorKq22
open List renaming length_append → Aa,append_assoc → Ac,mem_of_getElem? → Ad,getElem?_eq_getElem → Ae,flatMap_append → Ag,eq_nil_of_length_eq_zero → Aj,take_append_drop → Al,length_cons → Am,take_length → An,flatMap_cons → Ap,take_of_length_le → Ar,mem_of_mem_take → As,drop_left' → Av,drop_eq_getElem_cons → Ay,length_take → Ba,map_cons → Be,take_add_one → Bi,length_nil → Bj,nil_append → Bk,any_append → Bl,take_left' → Bn,any_map → Bq
open Go.Lib renaming hid → Ab,toList_data → Au,decodeL_ascii → Bg,decodeL_N → Bo,decodeL → Bs,size_eq → Bt
open Nat renaming lt_of_lt_of_le → Af,le_refl → Ah,zero_le → Ak,mul_le_mul_right → At,xor_lt_two_pow → Bf,succ_mul → Bh,lt_or_ge → Bp,le_of_eq → Br
open Bool renaming and_eq_true → Ai,eq_iff_iff → Bb
open UInt8 renaming ofNat → Ao,toNat_lt → Bd
open Go.IntKind renaming signed → Aq,wrap → Aw,bits → Ax
open Go.World renaming cell?_setCell_other → Az,frozen?_setCell → Bc
set_option maxHeartbeats 8000000
namespace Go.Proofs.YtheiocndipepaaaGreatDoor
set_option maxRecDepth 100000
section
open Go Go.RowKit
attribute [local go_sem] aM
theorem wF:∀(n:Nat) (l:List UInt8),l.length<=n->(∃b∈l,128<=b.toNat)->∃c∈runesD l,128<=c
 | 0,l,hl,⟨b,hb,_⟩=>by
  have:l=[]:=Aj (by omega)
  subst this;cases hb
 | n+1,l,hl,⟨b,hb,xm⟩=>by
  cases l with
  | nil=>cases hb
  | cons x r =>
   rw[mB _ (by simp)];by_cases hx:x.toNat<128
   ·rw[Bg x r hx]
    rcases List.mem_cons.1 hb with rfl|hb
    ·omega
    ·obtain⟨c,hc,hcg⟩:=wF n r (by simp at hl;omega) ⟨b,hb,xm⟩
     exact⟨c,List.mem_cons_of_mem _ hc,hcg⟩
   ·refine⟨_,List.mem_cons_self,?_⟩
    by_cases cz:(Bs (x::r)).1=65533/\(Bs (x::r)).2=1
    ·rw[cz.1];decide
    ·have hs:=uX (x::r).length ((x::r).getD 0 0).toNat ((x::r).getD 1 0).toNat ((x::r).getD 2 0).toNat ((x::r).getD 3 0).toNat (Bd _) (Bd _) (Bd _) (by rw[<-Bo];exact cz)
     rw[<-Bo]at hs;rcases hs with ⟨h,_⟩|⟨_,_,_,_,_,_,h⟩
     ·exact absurd h (by simpa using hx)
     ·exact h
theorem sE:∀(n:Nat) (l:List UInt8),l.length<=n->(∀b∈l,b.toNat<128)->runesD l=l.map (·.toNat)
 | 0,l,hl,_=>by
  have:l=[]:=Aj (by omega)
  subst this;rfl
 | n+1,l,hl,h=>by
  cases l with
  | nil=>rfl
  | cons x r =>
   rw[mB _ (by simp),Bg x r (h x (by simp)),Be];simp only[List.drop_succ_cons,List.drop_zero];rw[sE n r (by simp at hl;omega) (λb hb=>h b (by simp[hb]))]
theorem tO {c:Nat} (h:128<=c):nameBad c=true:=by unfold nameBad; simp; omega
theorem tO0 (l:List UInt8):(runesD l).any nameBad=l.any λb=>nameBad b.toNat:=by
 by_cases h:∃b∈l,128<=b.toNat
 ·obtain⟨c,hc,hg⟩:=wF _ l (Ah _) h
  obtain⟨b,hb,ui⟩:=h;rw[List.any_eq_true.2 ⟨c,hc,tO hg⟩,List.any_eq_true.2 ⟨b,hb,tO ui⟩]
 ·rw[sE _ l (Ah _) (λb hb=>by
   rcases Bp b.toNat 128 with h1|h1
   ·exact h1
   ·exact absurd ⟨b,hb,h1⟩ h),Bq]
  rfl
theorem xZ (s:ByteArray):rY s=(decide (1<=s.size)&&decide (s.size<=16) && !(s.data.toList.any λb=>nameBad b.toNat)):=by
 rw[iI1,tO0];congr 2
 rw[Au,Bt];cases s.data.toList<;>simp
theorem jG1 {p:UInt8->Bool} {s:ByteArray} {k:Nat} (h:k<s.size):(s.data.toList.drop k).any p=(p s[k]||(s.data.toList.drop (k+1)).any p):=by
 rw[yJ0 h,List.any_cons]
theorem cL1 (s:ByteArray) (w:World) (hs:s.size<=9223372036854775807) :
  Calls Tryz.prog 180 #[.string s] w λe w'=>e=.returned (.bool (rY s))/\w=w':=by
 rw[xZ];obtain⟨b,nl⟩:=exq (s.data.toList.any λb=>nameBad b.toNat);rw[<-nl];have HBB:=Ab nl;clear nl;go_enter Tryz.func180,Tryz.ntmps180
 go_wp2_with fail
 go_loop [3] (λi=>∃k:Nat,k<=s.size/\i=.int .i64 k/\Hid (b=(s.data.toList.drop k).any λb=>nameBad b.toNat)) (λi=>s.size-(intOf i).toNat)
 case atStart=>exact⟨0,Ak _,rfl,HBB.out⟩
 case round =>
  obtain⟨k,hk,rfl,ay⟩:=hrel;by_cases ae:k<s.size
  ·have hi:=ay.out
   rw[jG1 ae]at hi;have HI:=Ab hi;clear ay hi;cases hh:nameBad s[k].toNat
   ·have fo:b=(s.data.toList.drop (k+1)).any λb=>nameBad b.toNat:=by rw[HI.out,hh];rfl
    have HI2:=Ab fo
    have q:(65<=(s[k].toNat:Int)/\(s[k].toNat:Int)<=90)\/(¬(s[k].toNat:Int)<=90/\97<=(s[k].toNat:Int)/\(s[k].toNat:Int)<=122)\/(¬65<=(s[k].toNat:Int)/\48<=(s[k].toNat:Int)/\(s[k].toNat:Int)<=57)\/(s[k].toNat:Int)=95\/(s[k].toNat:Int)=45:=by
     unfold nameBad at hh;simp at hh;omega
    clear HI fo hh;rcases q with ⟨q1,q2⟩|⟨q1,q2,q3⟩|⟨q1,q2,q3⟩|q1|q1
    ·go_wp2
     go_round
     case rel=>exact⟨k+1,ae,by go_num,HI2.out⟩
     case measure=>simp[intOf];omega
    ·have q4:65<=(s[k].toNat:Int):=by omega
     go_wp2
     go_round
     case rel=>exact⟨k+1,ae,by go_num,HI2.out⟩
     case measure=>simp[intOf];omega
    ·have q4:¬97<=(s[k].toNat:Int):=by omega
     go_wp2
     go_round
     case rel=>exact⟨k+1,ae,by go_num,HI2.out⟩
     case measure=>simp[intOf];omega
    ·go_wp2
     go_round
     case rel=>exact⟨k+1,ae,by go_num,HI2.out⟩
     case measure=>simp[intOf];omega
    ·go_wp2
     go_round
     case rel=>exact⟨k+1,ae,by go_num,HI2.out⟩
     case measure=>simp[intOf];omega
   ·have fo:b=true:=by rw[HI.out,hh];rfl
    have HI2:=Ab fo
    have q:(¬48<=(s[k].toNat:Int)/\¬65<=(s[k].toNat:Int)/\¬97<=(s[k].toNat:Int)/\(s[k].toNat:Int)≠45)\/(48<=(s[k].toNat:Int)/\¬(s[k].toNat:Int)<=57/\¬65<=(s[k].toNat:Int)/\¬97<=(s[k].toNat:Int))\/(65<=(s[k].toNat:Int)/\¬(s[k].toNat:Int)<=90/\¬97<=(s[k].toNat:Int)/\¬(s[k].toNat:Int)<=57/\(s[k].toNat:Int)≠95)\/(65<=(s[k].toNat:Int)/\¬(s[k].toNat:Int)<=90/\97<=(s[k].toNat:Int)/\¬(s[k].toNat:Int)<=122/\¬(s[k].toNat:Int)<=57):=by
     unfold nameBad at hh;simp at hh;omega
    clear HI fo hh;rcases q with ⟨q1,q2,q3,q4⟩|⟨q1,q2,q3,q4⟩|⟨q1,q2,q3,q4,q5⟩|⟨q1,q2,q3,q4,q5⟩
    ·have q6:((s[k].toNat:Int) != 45)=true:=by simpa using q4
     have q7:((s[k].toNat:Int) != 95)=true:=by rw[bne_iff_ne];omega
     go_wp2
     go_ret;exact⟨bD (by rw[HI2.out];simp),rfl⟩
    ·have q6:((s[k].toNat:Int) != 45)=true:=by rw[bne_iff_ne];omega
     have q7:((s[k].toNat:Int) != 95)=true:=by rw[bne_iff_ne];omega
     go_wp2
     go_ret;exact⟨bD (by rw[HI2.out];simp),rfl⟩
    ·have q6:((s[k].toNat:Int) != 45)=true:=by rw[bne_iff_ne];omega
     have q7:((s[k].toNat:Int) != 95)=true:=by simpa using q5
     go_wp2
     go_ret;exact⟨bD (by rw[HI2.out];simp),rfl⟩
    ·have q6:((s[k].toNat:Int) != 45)=true:=by rw[bne_iff_ne];omega
     have q7:((s[k].toNat:Int) != 95)=true:=by rw[bne_iff_ne];omega
     go_wp2
     go_ret;exact⟨bD (by rw[HI2.out];simp),rfl⟩
 -- behind the loop
  ·obtain rfl:k=s.size:=by omega
   have au:b=false:=by rw[ay.out,Bt,List.drop_length];rfl
   subst au;clear ay HBB;by_cases h1:1<=s.size
   ·have g1:(1:Int)<=s.size:=by omega
    go_wp2
    go_ret;exact⟨bD (by first|rfl|(simp;omega)|(rw[Bb];simp;omega)),rfl⟩
   ·have g1:¬(1:Int)<=s.size:=by omega
    go_wp2
    go_ret;exact⟨bD (by first|rfl|(simp;done)|(rw[Bb];simp;omega)),rfl⟩
theorem yM0 (l:List cH) (name:ByteArray) (a:Option Addr) (cap:Nat) (w:World) (hl:l.length<=4611686018427387904) (hs:aF w a 2 (l.map bG)) :
  Calls Tryz.prog 179 #[.slice a l.length cap,.string name] w λe w'=>e=.returned (.tuple #[.int .i64 (yP0 (posFind l name)),.bool (posFind l name).isSome])/\w=w':=by
 obtain⟨R,hR⟩:=exq (posFind l name);rw[<-hR];have HR:=Ab hR;have HS:=Ab hs;clear hs hR;go_enter Tryz.func179,Tryz.ntmps179
 go_wp2_with fail
 go_loop [6] (λi=>∃k:Nat,k<=l.length/\i=.int .i64 k/\Hid (∀j q,j<k->l[j]?=some q->seq q.name name=false)) (λi=>l.length-(intOf i).toNat)
 case atStart=>exact⟨0,Ak _,rfl,λj q hj=>by omega⟩
 case round =>
  obtain⟨k,hk,rfl,ay⟩:=hrel;by_cases ae:k<l.length
  ·obtain⟨p,hp⟩:∃p,l[k]?=some p:=⟨_,Ae ae⟩
   obtain⟨ba,oa,rfl,be⟩:=HS.out.get (aH ae);have c0:w.cell? ⟨ba,oa+k*2,none⟩=some (.string p.name):=by simpa using be k _ hp 0 _ rfl
   have HP:=Ab hp;clear be hp;cases hq:seq p.name name
   ·have ai:(p.name.toList==name.toList)=false:=hq
    have sg:¬p.name.toList=name.toList:=by simpa using ai
    have HQ:=Ab hq;clear hq;go_wp2
    go_round
    case rel=>exact⟨k+1,ae,by go_num,λj q hj hjq=>by
     rcases Nat.lt_succ_iff_lt_or_eq.1 hj with h|rfl
     ·exact ay.out j q h hjq
     ·rw[HP.out]at hjq;obtain rfl:=Option.some.inj hjq;exact HQ.out⟩
    case measure=>simp[intOf];omega
   ·have wl:(p.name.toList==name.toList)=true:=hq
    have akg:p.name.toList=name.toList:=by simpa using wl
    have au:R=some k:=HR.out.trans (cI0 HP.out ay.out hq);subst au;clear hq ay HR;go_wp2
    go_ret2;exact⟨rfl,rfl⟩
  ·obtain rfl:k=l.length:=by omega
   have au:R=none:=HR.out.trans (yJ ay.out);subst au;clear ay HR;go_wp2
   go_ret2;exact⟨rfl,rfl⟩
end
section
open Go Go.RowKit
def pO0 (c:Nat):Bool:=decide (c<97)||decide (122<c)
def azS (s:ByteArray):Bool:=decide (1<=s.size)&&decide (s.size<=16) && !(s.data.toList.any λb=>pO0 b.toNat)
theorem aD1 {p:Nat->Bool} (hp:∀c,128<=c->p c=true) (l:List UInt8):(runesD l).any p=l.any λb=>p b.toNat:=by
 by_cases h:∃b∈l,128<=b.toNat
 ·obtain⟨c,hc,hg⟩:=wF _ l (Ah _) h
  obtain⟨b,hb,ui⟩:=h;rw[List.any_eq_true.2 ⟨c,hc,hp c hg⟩,List.any_eq_true.2 ⟨b,hb,hp _ ui⟩]
 ·rw[sE _ l (Ah _) (λb hb=>by
   rcases Bp b.toNat 128 with h1|h1
   ·exact h1
   ·exact absurd ⟨b,hb,h1⟩ h),Bq]
  rfl
theorem oQ0 {c:Nat} (h:128<=c):pO0 c=true:=by unfold pO0; simp; omega
structure bF where
 name:ByteArray
 data:List UInt8
 a:Option Addr
 c:Nat
def lZ (p:bF):List Value:=[.string p.name,.slice p.a p.data.length p.c]
structure jA (w:World) (l:List bF):Prop where
 at_:∀p∈l,aF w p.a 1 (p.data.map aX)
 none_:∀p∈l,p.a=none->p.c=0
 name:∀p∈l,p.name.size<=1099511627776
 data:∀p∈l,p.data.length<=1099511627776
theorem jA.grows {w w':World} {l:List bF} (h:jA w l) (hg:Grows w w'):jA w' l:=⟨λp hp=>(h.at_ p hp).grows hg,h.none_,h.name,h.data⟩
def lU (l:List bF):Nat:=(l.map λp=>p.data.length).sum
theorem vC0 (l:List bF) (p:bF):lU (l++[p])=lU l+p.data.length:=by simp[lU]
theorem fW1 {l:List bF} {n:Nat} (h:∀p∈l,p.data.length<=n):lU l<=l.length*n:=by
 unfold lU
 induction l with
 | nil=>simp
 | cons p l ih =>
  rw[Be,List.sum_cons,Am,Bh]
  have:=ih (λq hq=>h q (by simp[hq]))
  have:=h p (by simp)
  omega
def yW:List bF->List ByteArray->Bool
 | [],_=>false
 | p::l,seen=>(seen.any λs=>seq s p.name)||yW l (seen++[p.name])
def yE0 (l:List bF):Bool:=yW l []
def fK (l:List bF):Nat:=if 64<l.length\/16777216<lU l then 2 else if (l.any λp => !azS p.name)=true then 1 else if yE0 l=true then 4 else 0
def dQ (l:List bF):List UInt8:=l.flatMap λp=>tA p.name++putU p.data.length
def dX (l:List bF):List UInt8:=l.flatMap λp=>p.data
def cZ (l:List bF):List UInt8:=([72,78,75,49]++putU l.length)++dQ l++dX l
def file14 (l:List bF):List UInt8:=cZ l++leB 4 (crcSum (cZ l))
def rB0 (l:List bF) (w:World) (e:Ending) (w':World):Prop :=
 (fK l=0->∃v,e=.returned (.tuple #[v,.int .i64 0])/\aV w' w.heap.size 5 1 aX v (file14 l))/\(fK l≠0->e=.returned (.tuple #[.slice none 0 0,.int .i64 (fK l)]))/\Grows w w'
theorem fP0 (l:List bF):(dX l).length=lU l:=by simp[dX,lU,List.length_flatMap]
theorem qW0 (l:List bF) (p:bF):dQ (l++[p])=dQ l++(tA p.name++putU p.data.length):=by simp[dQ]
theorem qJ0 (l:List bF) (p:bF):dX (l++[p])=dX l++p.data:=by simp[dX]
theorem zL0 {l:List bF} (h:(l.any λp => !azS p.name)=false):∀p∈l,p.name.size<=16:=λp hp=>by
 have:=List.any_eq_false.1 h p hp
 simp only[azS,Bool.not_eq_true',Bool.not_eq_false,Ai,decide_eq_true_eq]at this;simp at this;omega
theorem fJ0 {l:List bF} (h:∀p∈l,p.name.size<=16):(dQ l).length<=l.length*36:=by
 unfold dQ
 induction l with
 | nil=>simp
 | cons p l ih =>
  rw[Ap,Aa,Aa,Am,Bh];have h1:=ih (λq hq=>h q (by simp[hq]));have h2:=h p (by simp);have h3:=tZ p.name;have h4:=dB p.data.length;omega
theorem sO0 {l:List bF} (h:fK l=0):l.length<=64/\lU l<=16777216/\(l.any λp => !azS p.name)=false/\yE0 l=false:=by
 unfold fK at h;split at h
 ·omega
 ·rename_i h1
  split at h
  ·omega
  ·rename_i h2
   split at h
   ·omega
   ·rename_i h3
    exact⟨by omega,by omega,by simpa using h2,by simpa using h3⟩
theorem xS0 {l:List bF} (h:fK l=0):(cZ l).length<=16800000:=by
 obtain⟨h1,h2,h3,_⟩:=sO0 h;have h4:=fJ0 (zL0 h3);have h5:=fP0 l;have h6:=dB l.length;unfold cZ;simp only[Aa,Am,Bj];omega
end
section
open Go Go.RowKit
attribute [local go_sem] aM aK
def fZ (p:cH):List UInt8:=tA p.name++putU p.kind.toNat
def posE (l:List cH):List UInt8:=putU l.length++l.flatMap fZ
theorem mV0 (l:List cH) (p:cH):(l++[p]).flatMap fZ=l.flatMap fZ++fZ p:=by simp
theorem xR0 {p:cH} (h:p.name.size<=16):(fZ p).length<=40:=by
 have h1:=tZ p.name;have h2:=dB p.kind.toNat;unfold fZ;rw[Aa];omega
theorem bG0 {l:List cH} (h:∀p∈l,p.name.size<=16):(l.flatMap fZ).length<=l.length*40:=by
 induction l with
 | nil=>simp
 | cons p l ih =>
  rw[Ap,Aa,Am,Bh];have h1:=ih (λq hq=>h q (by simp[hq]));have h2:=xR0 (h p (by simp));omega
theorem qT0 {s:ByteArray} (h:rY s=true):s.size<=16:=by
 rw[xZ]at h;simp only[Ai,decide_eq_true_eq]at h;exact h.1.2
theorem eW0 (L:List cH):∀(l:List cH) (i j:Nat) (p:cH),jS L l i=true->l[j]?=some p->tX L (i+j) p=true
 | [],_,_,_,_,h=>by simp at h
 | q::l,i,0,p,h,hp=>by
  rw[jS]at h;simp only[Ai]at h;obtain rfl:q=p:=by simpa using hp
  exact h.1
 | q::l,i,j+1,p,h,hp=>by
  rw[jS]at h;simp only[Ai]at h
  have:=eW0 L l (i+1) j p h.2 (by simpa using hp)
  rw[show i+(j+1)=i+1+j by omega];exact this
theorem dN {l:List cH} (h:dF l=true):l.length<=64/\∀p∈l,p.name.size<=16/\0<=p.kind/\p.kind<=2:=by
 unfold dF at h
 cases l with
 | nil=>cases h
 | cons q r =>
  simp only[Ai,decide_eq_true_eq]at h;refine⟨by have:=h.1;simp at this ⊢;omega,λp hp=>?_⟩;obtain⟨j,hj⟩:=List.mem_iff_getElem?.1 hp
  have:=eW0 _ _ 0 j p h.2 hj
  unfold tX at this;simp only[Ai,decide_eq_true_eq]at this;exact⟨qT0 this.1.1.2,this.1.2,this.2⟩
theorem jP (xs:List UInt8) (a:Option Addr) (c n:Nat) (w:World) (hx:xs.length<=1099511627776) (hv:n<18446744073709551616) (ac:aF w a 1 (xs.map aX)) (hn:a=none->c=0) :
  Calls Tryz.prog 92 #[.slice a xs.length c,.int .u64 n] w λe w'=>∃v,e=.returned v/\aV w' w.heap.size 5 1 aX v (xs++putU n)/\Grows w w':=by
 have CC:=Ab (kM0 xs a c w hx ac hn);clear ac hn;go_enter Tryz.func92,Tryz.ntmps92
 go_wp2_with fail
 refine CC.out.mono ?_;rintro e w1 ⟨v1,rfl,az,ag⟩;obtain⟨a1,c1,rfl,h11,h12,da⟩:=az.at_ bI.len;have fk:=bQ az;go_wp2_with fail
 refine(sL0 xs a1 c1 w1 h11).mono ?_;rintro e w2 ⟨rfl,rfl⟩;have jq:Src w1 w.heap.size (.slice a1 xs.length xs.length) xs:=Or.inr ⟨a1,rfl,da,λh=>Aj (by have:=fk h;omega)⟩;clear az da fk CC;go_wp2_with fail
 go_loopw [0,1] (λb v wr=>∃(k:Nat) (pre:List UInt8),v=.int .u64 k/\Src wr w.heap.size b (xs++pre)/\Hid (pre++putU k=putU n)/\k<18446744073709551616/\Grows w wr) (λ_ v _=>(intOf v).toNat)
 case atStart=>exact⟨n,[],rfl,by rw[List.append_nil];exact jq,rfl,hv,ag⟩
 case round =>
  obtain⟨k,pre,rfl,hs,hp,hk,hg⟩:=hrel
  have m8:pre.length<=10:=by
   have h1:=congrArg List.length hp.out;have h2:=dB n;rw[Aa]at h1;omega
  by_cases adf:128<=k
  ·have cy:(128:Int)<=k:=by omega
   have hb:=Ab (kP0 k);rw[tB adf hk]at hp;go_wp2_with (at_builtin;refine fZ0 rfl _ _ rfl w.heap.size _ (xs++pre) (Ao (k%128+128)) rfl hs (Grows.refl _) _ 1 rfl _ (by rw[hb.out];rfl) rfl (by rw[Aa];omega) hg.size ?_;intro v' w5 ak bg)
   go_roundw
   case rel=>exact⟨k/128,pre++[Ao (k%128+128)],by go_num,Or.inl (by rw[<-Ac];exact ak),by show (pre++[_])++putU (k/128)=putU n;rw[Ac];exact hp.out,by omega,bg w hg (Ah _)⟩
   case measure=>simp[intOf];omega
  ·have cy:¬(128:Int)<=k:=by omega
   have hb:=Ab (eE1 (k:=k) (by omega));rw[kY (by omega)]at hp;go_wp2_with (at_builtin;refine fZ0 rfl _ _ rfl w.heap.size _ (xs++pre) (Ao k) rfl hs (Grows.refl _) _ 1 rfl _ (by rw[hb.out];rfl) rfl (by rw[Aa];omega) hg.size ?_;intro v' w5 ak bg)
   go_ret;refine⟨_,rfl,?_,bg w hg (Ah _)⟩;rw[<-hp.out,<-Ac];exact ak
theorem cM0 (xs:List UInt8) (a:Option Addr) (c:Nat) (s:ByteArray) (w:World) (hx:xs.length<=1099511627776) (hs:s.size<=1099511627776) (ac:aF w a 1 (xs.map aX)) (hn:a=none->c=0) :
  Calls Tryz.prog 93 #[.slice a xs.length c,.string s] w λe w'=>∃v,e=.returned v/\aV w' w.heap.size 5 1 aX v (xs++tA s)/\Grows w w':=by
 have hl:=dB s.size;have hw:IntKind.u64.wrap (s.size:Int)=s.size:=by simp[Aw,Ax,Aq];omega
 have CU:=Ab (jP xs a c s.size w hx (by omega) ac hn);clear ac hn;go_enter Tryz.func93,Tryz.ntmps93
 go_wp2_with fail
 refine CU.out.mono ?_;rintro e w1 ⟨v1,rfl,az,ag⟩;go_wp2_with (at_builtin;refine lJ1 rfl _ _ rfl w.heap.size _ _ s rfl az (Grows.refl _) rfl (by rw[Aa];omega) ag.size ?_;intro v2 w2 aj af _)
 go_ret;exact⟨_,rfl,by unfold tA;rw[<-Ac];exact aj,af w ag (Ah _)⟩
theorem tQ0 (l:List cH) (a:Option Addr) (c:Nat) (w:World) (hv:dF l=true) (ac:aF w a 2 (l.map bG)) :
  Calls Tryz.prog 41 #[.slice a l.length c] w λe w'=>∃v,e=.returned (.tuple #[v,.int .i64 0])/\aV w' w.heap.size 5 1 aX v (posE l)/\Grows w w':=by
 obtain⟨adq,ci⟩:=dN hv;have HALL:=Ab ci;have CC:=Ab (cD0 l a c w ac (by omega));rw[hv]at CC;have HAT:=Ab ac;have hul:=dB l.length;have s7:IntKind.u64.wrap (l.length:Int)=l.length:=by simp[Aw,Ax,Aq];omega
 have j8:qH1 true=0:=rfl;rw[j8]at CC;clear ci ac hv j8;go_enter Tryz.func41,Tryz.ntmps41
 go_wp2_with fail
 refine CC.out.mono ?_;rintro e w1 ⟨rfl,ag⟩;go_wp2_with fail
 refine(jP [] none 0 l.length w1 (by simp) (by omega) (aF.nil _ _ _) (λ_=>rfl)).mono ?_;rintro e w2 ⟨v2,rfl,aj,af⟩;rw[Bk]at aj;have iq:=ag.tr af;replace aj:=aj.base (base':=w.heap.size) ag.size;clear ag af CC;go_wp2_with fail
 go_loopw [5,19] (λout i wr=>∃(k:Nat) (cd:List UInt8),k<=l.length/\i=.int .i64 k/\Hid (cd=putU l.length++(l.take k).flatMap fZ)/\aV wr w.heap.size 5 1 aX out cd/\Grows w wr) (λ_ i _=>l.length-(intOf i).toNat)
 case atStart=>exact⟨0,_,Ak _,rfl,(by show _=_;simp),aj,iq⟩
 case round =>
  obtain⟨k,cd,hk,rfl,cr,aa,hg⟩:=hrel
  have om:cd.length<=10+k*40:=by
   rw[cr.out,Aa];have h1:=bG0 (l:=l.take k) (λp hp=>(HALL.out p (As hp)).1);rw[Ba]at h1;have h2:min k l.length*40<=k*40:=At _ (by omega);omega
  by_cases ae:k<l.length
  ·obtain⟨p,hp⟩:∃p,l[k]?=some p:=⟨_,Ae ae⟩
   obtain⟨b,o,rfl,hc⟩:=aF.get (enc:=bG) HAT.out (aH ae);obtain⟨pn,pk⟩:=p;have c0:wr.cell? ⟨b,o+k*2,none⟩=some (.string pn):=hg.cell (hc k _ hp 0 _ rfl);have c1:wr.cell? ⟨b,o+k*2+1,none⟩=some (.int .i64 pk):=hg.cell (hc k _ hp 1 _ rfl);obtain⟨qd,j8,fj⟩:=HALL.out _ (Ad hp);simp only at qd j8 fj;obtain⟨kd,rfl⟩:∃kd:Nat,pk=kd:=⟨pk.toNat,by omega⟩;have ain:=tZ pn;have aio:=dB kd;have hwk:IntKind.u64.wrap (kd:Int)=kd:=by simp[Aw,Ax,Aq];omega
   have HN:Hid ((cd++tA pn)++putU kd=putU l.length++(l.take (k+1)).flatMap fZ):=by
    show _=_
    rw[bN hp,mV0,cr.out];simp only[Ac,fZ,Int.toNat_natCast]
   have cy:(k:Int)<l.length:=by omega
   have z0:∀x:Ext Grows (wr.alloc (.cells #[.string pn,.int .i64 kd] 126)).drew,x.u.cell? ⟨wr.heap.size,0,none⟩=some (.string pn):=aB (aT wr _ _ (0,0) 0 _ rfl);have z1:∀x:Ext Grows (wr.alloc (.cells #[.string pn,.int .i64 kd] 126)).drew,x.u.cell? ⟨wr.heap.size,1,none⟩=some (.int .i64 kd):=aB (aT wr _ _ (0,0) 1 _ rfl);obtain⟨ao,co,rfl,_,_,adr⟩:=aa.at_ bI.len;have ry:=bQ aa;have oe:Grows wr (wr.alloc (.cells #[.string pn,.int .i64 kd] 126)):=Grows.alloc _ _;clear hp cr hc aa;go_wp2_with fail
   refine bE (lT [0,1,2,4,5,6,3,7,8] [3,7,8]) (by kernel_rfl) (λd _ _ _ _ h=>by cases d<;>exact h) ?_
   iterate 6 (refine aG rfl (λK hK=>?_);go_simp;refine hK _ ?_;clear hK K)
   clear z0 z1;refine aZ rfl rfl (λK hK=>?_);go_simp;refine(cM0 cd ao co pn _ (by omega) (by omega) (adr.grows (oe.dr)) ry).mono ?_;rintro e w3 ⟨v3,rfl,ax,aw⟩;obtain⟨B3,jt⟩:=exq (cd++tA pn);rw[<-jt]at ax;have mn:B3.length<=10000:=(by rw[jt,Aa];omega);have HB3:=Ab jt;clear jt;obtain⟨a3,c3,rfl,_,_,d9⟩:=ax.at_ bI.len;have lw:=bQ ax;clear ax;refine⟨aw,hK _ _ ?_⟩;clear hK K;refine aZ rfl rfl (λK hK=>?_);go_simp;refine(jP B3 a3 c3 kd _ (by omega) (by omega) d9 lw).mono ?_;rintro e w4 ⟨v4,rfl,cu,bj⟩;refine⟨bj,hK _ _ ?_⟩;clear hK K;iterate 1 (refine aZ rfl rfl (λK hK=>?_);go_simp;refine⟨Grows.refl _,hK _ _ ?_⟩;clear hK K)
   refine bH ?_;have zq:=hg.tr ((oe.dr).tr aw);go_wp2_with fail
   go_roundw
   case rel=>exact⟨k+1,_,ae,by go_num,(by show _=_;rw[<-HN.out,HB3.out]),cu.base zq.size,zq.tr bj⟩
   case measure=>simp[intOf];omega
  ·have cy:¬(k:Int)<l.length:=by omega
   have HF:Hid (cd=posE l):=by
    show _=_
    rw[cr.out,Ar (by omega)];rfl
   clear cr;go_wp2_with fail
   refine bodyPost_ret (v:=.tuple #[_,.int .i64 0]) (by simp[results,Tryz.results41,go_sem];rfl) rfl ⟨_,rfl,by rw[<-HF.out];exact aa,hg⟩
theorem cK1 (n:Nat) (hn:n<4294967296):(#[Value.int .u8 ((n:Int)%256),.int .u8 ((n:Int)/256%256),.int .u8 ((n:Int)/65536%256),.int .u8 ((n:Int)/16777216)]:Array Value).toList=(leB 4 n).flatMap aX:=by
 have h:leB 4 n=[Ao n,Ao (n/256),Ao (n/65536),Ao (n/16777216)]:=by
  unfold leB;simp[List.range_succ]
 rw[h,qY];simp only[Be,List.map_nil,UInt8.toNat_ofNat'];rw[Nat.mod_eq_of_lt (show n/16777216<2^8 by omega)]
 congr 1
end
section
open Go Go.RowKit Go.Shelf
attribute [local go_sem] aM aK
theorem rL0 {R q:Nat} (hR:R<4294967296) (hq:crc4 R=R/16 ^^^ q) (hql:q<4294967296):bits .xor .u32 ((R:Int)/16) (q:Int)=((crc4 R:Nat):Int):=by
 have h:=u32_xor_nat (R/16) q (by omega) hql;rw[hq,<-h];rfl
theorem fQ0:∀(i q:Nat),kW[i]?=some q->q<4294967296:=by
 intro i q h;have h1:=Ad h;simp[kW]at h1;omega
theorem kQ1 {R:Nat} (hR:R<4294967296):bits .and .u32 (R:Int) 15=((R%16:Nat):Int):=by
 have h:=u32_and_nat R 15 hR (by decide);rw[nat_mask4]at h;exact h
theorem vV0 (b:List UInt8) (a:Option Addr) (c:Nat) (w:World) (he:Env w) (hb:b.length<=1099511627776) (ac:aF w a 1 (b.map aX)) :
  Calls Tryz.prog 207 #[.int .u32 0,.slice a b.length c] w λe w'=>e=.returned (.int .u32 (crcSum b))/\w=w':=by
 have HAT:=Ab ac;clear ac;go_enter Tryz.func207,Tryz.ntmps207
 go_wp2_with fail
 go_loop [5,12] (λr i=>∃k R:Nat,k<=b.length/\i=.int .i64 k/\r=.int .u32 R/\R<4294967296/\Hid (R=sL 4294967295 (b.take k))) (λ_ i=>b.length-(intOf i).toNat)
 case atStart=>exact⟨0,4294967295,Ak _,rfl,rfl,by decide,rfl⟩
 case round =>
  obtain⟨k,R,hk,rfl,rfl,hR,ay⟩:=hrel;by_cases ae:k<b.length
  ·obtain⟨x,hx⟩:∃x,b[k]?=some x:=⟨_,Ae ae⟩
   obtain⟨bb,bo,rfl,hc⟩:=at1 HAT.out (aH ae);have jp:=hc k x hx;have HN:Hid (eM1 (R ^^^ x.toNat)=sL 4294967295 (b.take (k+1))):=by show _=_;rw[bN hx,fV0,<-ay.out]
   have ajv:=x.toNat_lt;have hxo:=u32_xor_nat R x.toNat hR (by omega);obtain⟨X,hX⟩:=exq (R ^^^ x.toNat);have hXl:X<4294967296:=by rw[hX];exact Bf (n:=32) hR (by omega)
   rw[<-hX]at hxo HN;obtain⟨q1,lg,ei⟩:=eE0 X;obtain⟨Y,hY⟩:=exq (crc4 X);have hYl:Y<4294967296:=by rw[hY];exact jD hXl
   have e1:=rL0 hXl ei (fQ0 _ _ lg);rw[<-hY]at e1;obtain⟨q2,jc,im⟩:=eE0 Y;obtain⟨Z,hZ⟩:=exq (crc4 Y);have hZl:Z<4294967296:=by rw[hZ];exact jD hYl
   have e2:=rL0 hYl im (fQ0 _ _ jc);rw[<-hZ]at e2;have HN2:Hid (Z=sL 4294967295 (b.take (k+1))):=by show _=_;rw[hZ,hY,<-HN.out];rfl
   have a1:=kQ1 hXl;have a2:=kQ1 hYl;obtain⟨i1,hi1⟩:=exq (X%16);obtain⟨i2,fo⟩:=exq (Y%16);rw[<-hi1]at a1 lg;rw[<-fo]at a2 jc;have g1:=he.crc i1 q1 lg;have g2:=he.crc i2 q2 jc;have l1:(i1:Int)<16:=by omega
   have l2:(i2:Int)<16:=by omega
   clear hc hx ay hX hY hZ lg jc ei im HN hi1 fo;go_wp2_with fail
   go_round
   case rel=>exact⟨k+1,Z,ae,by go_num,rfl,hZl,HN2.out⟩
   case measure=>simp[intOf];omega
  ·have jo:k=b.length:=by omega
   have cy:¬(k:Int)<b.length:=by omega
   have er:R ^^^ 4294967295=crcSum b:=by rw[ay.out,jo,An];rfl
   have hx:bits .xor .u32 IntKind.u32.max (R:Int)=((crcSum b:Nat):Int):=by
    rw[<-er,Nat.xor_comm];exact u32_xor_nat 4294967295 R (by decide) hR
   clear ay jo er;go_wp2_with fail
   go_ret;exact⟨rfl,rfl⟩
theorem wK0 (b:List UInt8) (a:Option Addr) (c:Nat) (w:World) (he:Env w) (hb:b.length<=1099511627776) (ac:aF w a 1 (b.map aX)) :
  Calls Tryz.prog 152 #[.slice a b.length c] w λe w'=>e=.returned (.int .u32 (crcSum b))/\w=w':=by
 go_enter Tryz.func152,Tryz.ntmps152
 go_wp2_with fail
 refine(vV0 b a c w he hb ac).mono ?_;rintro e w1 ⟨rfl,rfl⟩;go_wp2_with fail
 go_ret;exact⟨rfl,rfl⟩
theorem qI (b:List UInt8) (a:Option Addr) (c:Nat) (w:World) (he:Env w) (hb:b.length<=1099511627776) (ac:aF w a 1 (b.map aX)) :
  Calls Tryz.prog 97 #[.slice a b.length c] w λe w'=>∃v,e=.returned v/\aV w' w.heap.size 5 1 aX v (leB 4 (crcSum b))/\Grows w w':=by
 have bh:crcSum b<4294967296:=Bf (n:=32) (zP _ (by decide)) (by decide);have CS:=Ab (wK0 b a c w he hb ac);obtain⟨n,hn⟩:=exq (crcSum b);rw[<-hn]at bh CS ⊢;have HH:=Ab (cK1 n bh);clear hn;go_enter Tryz.func97,Tryz.ntmps97
 go_wp2_with fail
 refine CS.out.mono ?_;rintro e w1 ⟨rfl,rfl⟩;go_wp2_with fail
 go_ret;exact⟨_,rfl,jJ (enc:=aX) (λ_=>rfl) (Ah _) (leB 4 n) HH.out (n:=4) (by simp[bM]) (by decide),Grows.alloc _ _⟩
theorem qK0 (w:World):PredAt Tryz.prog 206 #[] encR pO0 w:=λW x _=>by
 unfold FnGives;show Calls Tryz.prog 206 #[.int .i32 (x:Int)] W _
 go_enter Tryz.func206,Tryz.ntmps206
 go_wp2
 all_goals (go_ret;refine⟨bD ?_,0,rfl⟩;rw[Bb];simp[pO0];try omega)
theorem uW0 (s:ByteArray) (w:World) (hs:s.size<=9223372036854775807) :
  Calls Tryz.prog 151 #[.string s] w λe w'=>e=.returned (.bool (azS s))/\Grows w w':=by
 have il:=Ab (Tryz.strings_ContainsFunc 206 #[] (enters_of Tryz.func206 (by kernel_rfl) rfl) pO0 s w (qK0 w));rw[jX1,aD1 (λc h=>oQ0 h)]at il;unfold azS;generalize (s.data.toList.any λb=>pO0 b.toNat)=r at il ⊢;by_cases h1:1<=s.size
 ·have g1:(1:Int)<=s.size:=by omega
  by_cases hz:s.size<=16
  ·have hz':(s.size:Int)<=16:=by omega
   go_enter Tryz.func151,Tryz.ntmps151
   go_wp2_with (go_at_call 190;refine il.out.mono ?_;rintro e w' ⟨rfl,af⟩)
   go_ret;exact⟨bD (by simp[h1,hz]),af⟩
  ·have hz':¬(s.size:Int)<=16:=by omega
   go_enter Tryz.func151,Tryz.ntmps151
   go_wp2
   go_ret;exact⟨bD (by simp<;>omega),Grows.refl _⟩
 ·have g1:¬(1:Int)<=s.size:=by omega
  go_enter Tryz.func151,Tryz.ntmps151
  go_wp2
  go_ret;exact⟨bD (by simp<;>omega),Grows.refl _⟩
theorem uK {H:Type} {P:Program} {e:TypeId} (he:P.underlying e=some .bool) {v:Value} {z:DataW H×List MemPlace} (h:plainElem P e v=some z):∃b,v=.bool b/\z=(.lit (.bool b),[]):=by
 unfold plainElem at h;rw[he]at h;cases v<;>simp at h
 exact⟨_,rfl,h.symm⟩
theorem qL1 (w:World):(zeroValue 4).run Tryz.prog w=.ok (.bool false) w:=by kernel_rfl
def jC1 (l:List ByteArray) (D:DataW Unit):Prop:=∀s:ByteArray,s.size<=maxLen->D.atKey (.string s.data.toList) (.lit (.bool false))=.lit (.bool (l.any λt=>seq t s))
theorem eZ0 {w:World} {b n:Nat} {D:DataW Unit} {l:List ByteArray} (hM:jC1 l D) (aa:w.ownsMap Tryz.prog 9 (plainElem Tryz.prog 4) b n D) {s:ByteArray} (hs:s.size<=maxLen) :
  (Instr.lookup 210 (.map (some b)) (.string s) false).run Tryz.prog w=.ok (.bool (l.any λt=>seq t s)) w:=by
 obtain⟨v,ps,qn,hv⟩:=aa.lookup (Maps.string_keyed Tryz.underlying9) Tryz.underlying210 (qL1 w) (plainElem_bool Tryz.underlying4 false) (WideMaps.keyOf_string_mk Tryz.underlying9 hs);obtain⟨c,rfl,hc⟩:=uK Tryz.underlying4 hv;simp only[Prod.mk.injEq]at hc;rw[hM s hs]at hc
 have:c=l.any λt=>seq t s:=by have:=hc.1;simpa using this.symm
 rw[<-this];exact qn
theorem zF0 {b n:Nat} {w:World} {D:DataW Unit} {l:List ByteArray} (hM:jC1 l D) (aa:w.ownsMap Tryz.prog 9 (plainElem Tryz.prog 4) b n D) (s:ByteArray):jC1 (l++[s]) (D.put (.string s.data.toList) (.lit (.bool true))):=λt ht=>by
 by_cases h:s=t
 ·subst h
  rw[Maps.atKey_put_same aa.isMap (k:=.string s.data.toList) trivial];simp[cX0]
 ·have ai:(Lit.string t.data.toList) ≠ .string s.data.toList:=λh2=>h (by
   injection h2 with h3
   exact cN0 h3.symm)
  rw[Maps.atKey_put_other ai,hM t ht,Bl]
  have:seq s t=false:=nT.2 h
  simp[this]
theorem eV0:∀(l:List bF) (p:bF) (seen:List ByteArray),yW (l++[p]) seen=(yW l seen||(seen++l.map (·.name)).any λs=>seq s p.name)
 | [],p,seen=>by simp[yW]
 | q::l,p,seen=>by
  rw[List.cons_append,yW,eV0 l p (seen++[q.name]),yW];simp[Bool.or_assoc,Ac]
theorem eK1 (l:List bF) (a:Option Addr) (c:Nat) (w:World) (hl:l.length<=1000000) (ac:aF w a 2 (l.map lZ)) (ku:jA w l) :
  Calls Tryz.prog 96 #[.slice a l.length c] w λe w'=>e=.returned (.int .i64 (fK l))/\Grows w w':=by
 have HD:=Ab ku.data;have HNM:=Ab ku.name;clear ku
 have bv:∀k p,l[k]?=some p->∃b o,a=some ⟨b,o,none⟩/\w.cell? ⟨b,o+k*2,none⟩=some (.string p.name)/\w.cell? ⟨b,o+k*2+1,none⟩=some (.slice p.a p.data.length p.c):=by
  intro k p hp;obtain⟨b,o,ha,hc⟩:=aF.get (enc:=lZ) ac (aH (List.getElem?_eq_some_iff.1 hp).1);exact⟨b,o,ha,hc k p hp 0 _ rfl,hc k p hp 1 _ rfl⟩
 have HC:=Ab bv;clear bv ac;have xh:=@run_makeMap Tryz.prog;go_enter Tryz.func96,Tryz.ntmps96
 go_wp2_with fail
 have uj:=World.ownsMap_made w Tryz.prog 9 (plainElem (H:=Unit) Tryz.prog 4);have dg:Grows w (w.alloc (.map #[] 0)):=Grows.alloc _ _;have hbw:w.heap.size<(w.alloc (.map #[] 0)).heap.size:=by simp
 obtain⟨mb,hmb⟩:=exq w.heap.size;generalize w.alloc (.map #[] 0)=w1 at uj dg hbw ⊢;rw[<-hmb]at uj hbw ⊢;have HMB:=Ab hmb;clear hmb xh;go_loopw [3,13] (λn i wr=>∃k N:Nat,k<=l.length/\i=.int .i64 k/\n=.int .i64 N/\N<=k*1099511627776/\Hid (N=lU (l.take k))/\Grows w1 wr) (λ_ i _=>l.length-(intOf i).toNat)
 case atStart=>exact⟨0,0,Ak _,rfl,rfl,by omega,rfl,Grows.refl _⟩
 case round =>
  obtain⟨k,N,hk,rfl,rfl,hN,ay,hg⟩:=hrel;by_cases ae:k<l.length
  ·obtain⟨p,hp⟩:∃p,l[k]?=some p:=⟨_,Ae ae⟩
   obtain⟨b,o,rfl,d0,d1⟩:=HC.out k p hp;have c0:=(dg.tr hg).cell d0;have c1:=(dg.tr hg).cell d1;have hd:=HD.out p (Ad hp);have HS:Hid (N+p.data.length=lU (l.take (k+1))):=by show _=_;rw[bN hp,vC0,<-ay.out]
   have cy:(k:Int)<l.length:=by omega
   clear hp ay d0 d1;go_wp2_with fail
   go_roundw
   case rel=>exact⟨k+1,N+p.data.length,ae,by go_num,by go_num,by omega,HS.out,hg.al _⟩
   case measure=>simp[intOf];omega
  ·have jo:k=l.length:=by omega
   have cy:¬(k:Int)<l.length:=by omega
   have hNs:N=lU l:=by rw[ay.out,jo,An]
   have HN:=Ab hNs;clear ay jo hNs;by_cases gk:64<l.length\/16777216<N
   ·have HF:Hid (fK l=2):=by show _=_;unfold fK;rw[<-HN.out,if_pos gk]
    by_cases ww:64<l.length
    ·have afq:(64:Int)<l.length:=by omega
     go_wp2_with fail
     go_ret;exact⟨by rw[HF.out];rfl,dg.tr hg⟩
    ·have afq:¬(64:Int)<l.length:=by omega
     have ud:(16777216:Int)<N:=by omega
     clear gk;go_wp2_with fail
     go_ret;exact⟨by rw[HF.out];rfl,dg.tr hg⟩
   ·have ww:l.length<=64:=by omega
    have afq:¬(64:Int)<l.length:=by omega
    have ud:¬(16777216:Int)<N:=by omega
    have HF:Hid (fK l=if (l.any λp => !azS p.name)=true then 1 else if yE0 l=true then 4 else 0):=by show _=_;unfold fK;rw[<-HN.out,if_neg gk]
    have ae0:=cG uj hg;have fh:=dg.tr hg;clear gk HN uj;go_wp2_with fail
    obtain⟨u0,rfl⟩:=exq wr;go_loopw [5,32] (λe i wr=>∃(k E:Nat) (D:DataW Unit),k<=l.length/\i=.int .i64 k/\e=.int .i64 E/\Hid (((l.take k).any λp => !azS p.name)=false/\E=(if yE0 (l.take k)=true then 4 else 0)/\jC1 ((l.take k).map (·.name)) D)/\wr.ownsMap Tryz.prog 9 (plainElem Tryz.prog 4) mb k D/\mb<wr.heap.size/\Grows w wr) (λ_ i _=>l.length-(intOf i).toNat)
    case atStart=>exact⟨0,0,.map [],Ak _,rfl,rfl,⟨rfl,rfl,λs _=>rfl⟩,ae0,Af hbw hg.size,fh⟩
    case round =>
     obtain⟨k,E,D,hk,rfl,rfl,ay,aa,afr,hg⟩:=hrel;by_cases ae:k<l.length
     ·obtain⟨p,hp⟩:∃p,l[k]?=some p:=⟨_,Ae ae⟩
      obtain⟨b,o,rfl,d0,d1⟩:=HC.out k p hp;have c0:=hg.cell d0;have c1:=hg.cell d1;have qd:=HNM.out p (Ad hp);have il:=λW=>uW0 p.name W (by omega);have acb:p.name.size<=maxLen:=by unfold maxLen;omega
      obtain⟨i1,i2,i3⟩:=ay.out;have cy:(k:Int)<l.length:=by omega
      cases haz:azS p.name
      ·have HB:Hid (fK l=1):=by
        show _=_
        rw[HF.out,if_pos (List.any_eq_true.2 ⟨p,Ad hp,by rw[haz];rfl⟩)]
       rw[haz]at il;clear hp ay haz i1 i2 i3 d0 d1;go_wp2_with fail
       refine(il _).mono ?_;rintro e w2 ⟨rfl,af⟩;go_wp2_with fail
       go_ret;exact⟨by rw[HB.out];rfl,(hg.al _).tr af⟩
      ·have HI:Hid (((l.take (k+1)).any λp => !azS p.name)=false):=by
        show _=_
        rw[bN hp,Bl,i1];simp[haz]
       have hdu:yE0 (l.take (k+1))=(yE0 (l.take k)||((l.take k).map (·.name)).any λs=>seq s p.name):=by
        unfold yE0;rw[bN hp,eV0,Bk]
       have HNS:Hid ((l.take (k+1)).map (·.name)=(l.take k).map (·.name)++[p.name]):=by show _=_;rw[bN hp,List.map_append];rfl
       rw[haz]at il;have HDU:=Ab hdu;have HI2:=Ab i2;have HI3:=Ab i3;have hM:=zF0 i3 aa p.name;have HM:=Ab hM;clear hp ay haz i1 i2 d0 d1 hdu hM;cases hseen:((l.take k).map (·.name)).any λs=>seq s p.name
       ·have HE:Hid (E=if yE0 (l.take (k+1))=true then 4 else 0):=by show _=_;rw[HDU.out,hseen,Bool.or_false];exact HI2.out
        have sd:=λ(W:World) (hW:W.ownsMap Tryz.prog 9 (plainElem Tryz.prog 4) mb k D)=>eZ0 i3 hW acb;rw[hseen]at sd;clear i3 hseen;go_wp2_with fail
        refine(il _).mono ?_;rintro e w2 ⟨rfl,af⟩;have aj:=cG aa ((Grows.alloc _ _).tr af);have x0:w2.cell? ⟨wr.heap.size,0,none⟩=some (.string p.name):=af.cell (aT wr _ _ (0,0) 0 _ rfl);have aip:=sd _ aj;have iq:=(hg.al _).tr af;go_wp2_with (at_mapUpdate;refine wpList_mapUpdate_own _ rfl _ _ _ 210 rfl 9 4 (Maps.string_keyed Tryz.underlying9) Tryz.underlying210 _ mb k D rfl aj (by unfold maxLen;omega) _ _ (.string p.name.data.toList) rfl rfl (WideMaps.keyOf_string_mk Tryz.underlying9 acb) _ [] (plainElem_bool Tryz.underlying4 true) ?_;intro w3 ax l8)
        go_roundw
        case rel=>exact⟨k+1,E,_,ae,by go_num,rfl,⟨HI.out,HE.out,by rw[HNS.out];exact HM.out⟩,ax,Af (Af (Af afr (Grows.alloc _ _).size) af.size) l8.size,iq.grown l8 (λq hq=>by cases hq;exact Br HMB.out.symm)⟩
        case measure=>simp[intOf];omega
       ·have HE:Hid (4=if yE0 (l.take (k+1))=true then 4 else 0):=by show _=_;rw[HDU.out,hseen,Bool.or_true];rfl
        have sd:=λ(W:World) (hW:W.ownsMap Tryz.prog 9 (plainElem Tryz.prog 4) mb k D)=>eZ0 i3 hW acb;rw[hseen]at sd;clear i3 hseen;go_wp2_with fail
        refine(il _).mono ?_;rintro e w2 ⟨rfl,af⟩;have aj:=cG aa ((Grows.alloc _ _).tr af);have x0:w2.cell? ⟨wr.heap.size,0,none⟩=some (.string p.name):=af.cell (aT wr _ _ (0,0) 0 _ rfl);have aip:=sd _ aj;have iq:=(hg.al _).tr af;go_wp2_with (at_mapUpdate;refine wpList_mapUpdate_own _ rfl _ _ _ 210 rfl 9 4 (Maps.string_keyed Tryz.underlying9) Tryz.underlying210 _ mb k D rfl aj (by unfold maxLen;omega) _ _ (.string p.name.data.toList) rfl rfl (WideMaps.keyOf_string_mk Tryz.underlying9 acb) _ [] (plainElem_bool Tryz.underlying4 true) ?_;intro w3 ax l8)
        go_roundw
        case rel=>exact⟨k+1,4,_,ae,by go_num,rfl,⟨HI.out,HE.out,by rw[HNS.out];exact HM.out⟩,ax,Af (Af (Af afr (Grows.alloc _ _).size) af.size) l8.size,iq.grown l8 (λq hq=>by cases hq;exact Br HMB.out.symm)⟩
        case measure=>simp[intOf];omega
     ·have jo:k=l.length:=by omega
      have cy:¬(k:Int)<l.length:=by omega
      have HB:Hid (fK l=E):=by
       obtain⟨i1,i2,_⟩:=ay.out;show _=_
       rw[jo,An]at i1 i2;rw[HF.out,i1,i2];simp
      clear ay jo;go_wp2_with fail
      go_ret;exact⟨by rw[HB.out];rfl,hg⟩
theorem mI0 {α:Type} {enc:α->List Value} {k:Nat} (hk:∀x,(enc x).length=k) {w:World} {cs:Array Value} {t:TypeId} {fz:Nat×Nat} (xs:List α) (er:cs.toList=xs.flatMap enc):aF (w.alloc (.cells cs t fz)) (some ⟨w.heap.size,0,none⟩) k (xs.map enc):=λ_=>⟨w.heap.size,0,rfl,λi row hi j u hj=>by
 rw[List.getElem?_map]at hi
 cases hx:xs[i]? with
 | none=>rw[hx]at hi;cases hi
 | some x =>
  rw[hx]at hi;obtain rfl:=Option.some.inj hi;have h:=rP hk xs i j x u hx hj;rw[<-er]at h;have h2:=aT w cs t fz (i*k+j) u (by simpa using h);simpa using h2⟩
theorem rQ0 (l:List bF) (a:Option Addr) (c:Nat) (w:World) (he:Env w) (hl:l.length<=1000000) (ac:aF w a 2 (l.map lZ)) (ku:jA w l) :
  Calls Tryz.prog 49 #[.slice a l.length c] w (rB0 l w):=by
 have CC:=Ab (eK1 l a c w hl ac ku)
 have bv:∀k p,l[k]?=some p->∃b o,a=some ⟨b,o,none⟩/\w.cell? ⟨b,o+k*2,none⟩=some (.string p.name)/\w.cell? ⟨b,o+k*2+1,none⟩=some (.slice p.a p.data.length p.c):=by
  intro k p hp;obtain⟨b,o,ha,hc⟩:=aF.get (enc:=lZ) ac (aH (List.getElem?_eq_some_iff.1 hp).1);exact⟨b,o,ha,hc k p hp 0 _ rfl,hc k p hp 1 _ rfl⟩
 have HC:=Ab bv;have HPA:=Ab ku;clear bv ac ku;by_cases ah:fK l=0
 case neg =>
  have HNE:=Ab ah;obtain⟨E,hE⟩:∃E,fK l=E:=⟨_,rfl⟩;have HE:=Ab hE;rw[hE]at CC ah;have hEb:((E:Int) != 0)=true:=by rw[bne_iff_ne];omega
  clear hE ah;go_enter Tryz.func49,Tryz.ntmps49
  go_wp2_with fail
  refine CC.out.mono ?_;rintro e w1 ⟨rfl,ag⟩;go_wp2_with fail
  refine bodyPost_ret (v:=.tuple #[.slice none 0 0,.int .i64 E]) (by simp[results,Tryz.results49,go_sem]) rfl ⟨λh=>absurd h HNE.out,λ_=>by rw[HE.out],ag⟩
 have HOK:=Ab ah;rw[ah]at CC;obtain⟨adq,oz,haz,_⟩:=sO0 ah;have HAZ:=Ab (zL0 haz);have HBL:=Ab (xS0 ah);have hul:=dB l.length;clear haz ah;go_enter Tryz.func49,Tryz.ntmps49
 go_wp2_with fail
 refine CC.out.mono ?_;rintro e w1 ⟨rfl,ag⟩;have hcv:=Lib.run_convert_bytes_const (P:=Tryz.prog) w1 36 5 #[.int .u8 72,.int .u8 78,.int .u8 75,.int .u8 49] 4 4 Tryz.underlying36 Tryz.underlying5;simp only[show (#[Value.int .u8 72,.int .u8 78,.int .u8 75,.int .u8 49]:Array Value).size=4 from rfl]at hcv
 go_wp2_with fail
 clear hcv;have l9:aF (w1.alloc (.cells #[.int .u8 72,.int .u8 78,.int .u8 75,.int .u8 49] 5 (4,5))) (some ⟨w1.heap.size,0,none⟩) 1 (([72,78,75,49]:List UInt8).map aX):=mI0 (enc:=aX) (λ_=>rfl) [72,78,75,49] rfl;refine(jP [72,78,75,49] (some ⟨w1.heap.size,0,none⟩) 4 l.length _ (by decide) (by omega) l9 (λh=>by cases h)).mono ?_;rintro e w2 ⟨v2,rfl,aj,af⟩;have iq:=(ag.al _).tr af;replace aj:=aj.base (base':=w.heap.size) (ag.al _).size;clear l9 af ag CC;go_wp2_with fail
 go_loopw [5,23] (λout i wr=>∃(k:Nat) (cd:List UInt8),k<=l.length/\i=.int .i64 k/\Hid (cd=([72,78,75,49]++putU l.length)++dQ (l.take k))/\aV wr w.heap.size 5 1 aX out cd/\Grows w wr) (λ_ i _=>l.length-(intOf i).toNat)
 case atStart=>exact⟨0,_,Ak _,rfl,(by show _=_;simp[dQ]),aj,iq⟩
 case round =>
  obtain⟨k,cd,hk,rfl,cr,aa,hg⟩:=hrel
  have om:cd.length<=20+k*36:=by
   rw[cr.out,Aa,Aa];have h1:=fJ0 (l:=l.take k) (λp hp=>HAZ.out p (As hp));rw[Ba]at h1;have h2:min k l.length*36<=k*36:=At _ (by omega);simp only[Am,Bj];omega
  by_cases ae:k<l.length
  ·obtain⟨p,hp⟩:∃p,l[k]?=some p:=⟨_,Ae ae⟩
   obtain⟨b,o,rfl,d0,d1⟩:=HC.out k p hp;have c0:=hg.cell d0;have c1:=hg.cell d1;have qd:=HAZ.out p (Ad hp);have hpd:=HPA.out.data p (Ad hp);have ain:=tZ p.name;have aio:=dB p.data.length
   have HN:Hid ((cd++tA p.name)++putU p.data.length=([72,78,75,49]++putU l.length)++dQ (l.take (k+1))):=by
    show _=_
    rw[bN hp,qW0,cr.out];simp only[Ac]
   have cy:(k:Int)<l.length:=by omega
   have ac5:IntKind.u64.wrap (p.data.length:Int)=p.data.length:=by simp[Aw,Ax,Aq];omega
   obtain⟨ao,co,rfl,_,_,adr⟩:=aa.at_ bI.len;have ry:=bQ aa;have oe:Grows wr (wr.alloc (.cells #[.string p.name,.slice p.a p.data.length p.c] 85)):=Grows.alloc _ _;clear hp cr d0 d1 aa;go_wp2_with fail
   refine(cM0 cd ao co p.name _ (by omega) (by omega) (adr.grows oe) ry).mono ?_;rintro e w3 ⟨v3,rfl,ax,aw⟩;obtain⟨B3,jt⟩:=exq (cd++tA p.name);rw[<-jt]at ax HN;have mn:B3.length<=1000000:=by rw[jt,Aa];omega
   obtain⟨a3,c3,rfl,_,_,d9⟩:=ax.at_ bI.len;have lw:=bQ ax;have x1:w3.cell? ⟨wr.heap.size,1,none⟩=some (.slice p.a p.data.length p.c):=aw.cell (aT wr _ _ (0,0) 1 _ rfl);clear jt ax;go_wp2_with fail
   refine(jP B3 a3 c3 p.data.length _ (by omega) (by omega) d9 lw).mono ?_;rintro e w4 ⟨v4,rfl,cu,bj⟩;have zq:=hg.tr (oe.tr aw);go_wp2_with fail
   go_roundw
   case rel=>exact⟨k+1,_,ae,by go_num,HN.out,cu.base zq.size,zq.tr bj⟩
   case measure=>simp[intOf];omega
  ·have cy:¬(k:Int)<l.length:=by omega
   have HA:Hid (cd=([72,78,75,49]++putU l.length)++dQ l):=by
    show _=_
    rw[cr.out,Ar (by omega)]
   clear cr;go_wp2_with fail
   obtain⟨u0,rfl⟩:=exq wr;go_loopw [5,40] (λout i wr=>∃(k:Nat) (fm:List UInt8),k<=l.length/\i=.int .i64 k/\Hid (fm=cd++dX (l.take k))/\aV wr w.heap.size 5 1 aX out fm/\Grows w wr) (λ_ i _=>l.length-(intOf i).toNat)
   case atStart=>exact⟨0,_,Ak _,rfl,(by show _=_;simp[dX]),aa,hg⟩
   case round =>
    obtain⟨k,fm,hk,rfl,ir,aa,hg⟩:=hrel;by_cases ae:k<l.length
    ·obtain⟨p,hp⟩:∃p,l[k]?=some p:=⟨_,Ae ae⟩
     obtain⟨b,o,rfl,d0,d1⟩:=HC.out k p hp;have c0:=hg.cell d0;have c1:=hg.cell d1;have hpd:=HPA.out.data p (Ad hp);have acd:=(HPA.out.at_ p (Ad hp)).grows (hg.al (.cells #[.string p.name,.slice p.a p.data.length p.c] 85));have ft:=HPA.out.none_ p (Ad hp)
     have HN:Hid (fm++p.data=cd++dX (l.take (k+1))):=by
      show _=_
      rw[bN hp,qJ0,ir.out,Ac]
     have aii:fm.length<=3000+64*1099511627776:=by
      rw[ir.out,Aa,fP0];have h1:=fW1 (l:=l.take k) (n:=1099511627776) (λp hp=>HPA.out.data p (As hp));rw[Ba]at h1;have h2:min k l.length*1099511627776<=64*1099511627776:=At _ (by omega);omega
     have nu:=aa.grows (Grows.alloc wr (.cells #[.string p.name,.slice p.a p.data.length p.c] 85));have kt:=hg.al (.cells #[.string p.name,.slice p.a p.data.length p.c] 85);clear hp ir d0 d1;go_wp2_with (at_builtin;refine kV bI rfl _ _ rfl w.heap.size _ fm p.data rfl nu (Grows.refl _) p.a p.c rfl acd ft (by omega) kt.size ?_;intro v7 w7 du cw)
     go_roundw
     case rel=>exact⟨k+1,_,ae,by go_num,HN.out,du,cw w kt (Ah _)⟩
     case measure=>simp[intOf];omega
    ·have cy:¬(k:Int)<l.length:=by omega
     have HB:Hid (fm=cZ l):=by
      show _=_
      rw[ir.out,HA.out,Ar (by omega)];rfl
     have eo:fm.length<=16800000:=by rw[HB.out];exact HBL.out
     have hl4:(leB 4 (crcSum fm)).length=4:=bM _ _;obtain⟨a8,c8,rfl,_,_,gn⟩:=aa.at_ bI.len;have hew:=he.grows hg;clear ir;go_wp2_with (first|(go_at_call 97;refine(qI fm a8 c8 _ hew (by omega) gn).mono ?_;rintro e w9 ⟨v9,rfl,gu,dz⟩;obtain⟨a9,c9,rfl,_,_,s9⟩:=gu.at_ bI.len;have hn9:=bQ gu;have ae1:=aa.grows dz;have fp:=hg.tr dz;clear aa gu)|(at_builtin;refine kV bI rfl _ _ rfl w.heap.size _ fm (leB 4 (crcSum fm)) rfl ae1 (Grows.refl _) a9 c9 rfl s9 hn9 (by omega) fp.size ?_;intro v10 w10 j3 fu))
     have HF:Hid (fm++leB 4 (crcSum fm)=file14 l):=by show _=_;rw[HB.out];rfl
     refine bodyPost_ret (v:=.tuple #[v10,.int .i64 0]) (by simp[results,Tryz.results49,go_sem]) rfl ⟨λ_=>⟨v10,rfl,by rw[<-HF.out];exact j3⟩,λh=>absurd HOK.out h,fu w fp (Ah _)⟩
end
section
open Go Go.RowKit
attribute [local go_sem] aM
theorem eR0 (l:List cH) (a:Option Addr) (cap:Nat) (w:World) (hs:aF w a 2 (l.map bG)) (hl:l.length<=4611686018427387904) (hn:∀x∈l,x.name.size<=9223372036854775807) :
  Calls Tryz.prog 126 #[.slice a l.length cap] w λe w'=>e=.returned (.bool (dF l))/\Grows w w':=by
 obtain⟨V,hV⟩:=exq (dF l);rw[<-hV];have HS:=Ab hs;clear hs
 cases l with
 | nil =>
  have o0:V=false:=hV;subst o0;clear hV;go_enter Tryz.func126,Tryz.ntmps126
  go_wp2
  go_ret;exact⟨rfl,Grows.refl _⟩
 | cons p0 r =>
  obtain⟨L,hL⟩:=exq (p0::r);have ai:L≠[]:=by rw[hL];simp
  have h0:L[0]?=some p0:=by rw[hL];rfl
  have hv:V=(decide (L.length<=64)&&bL0 p0&&jS L L 0):=by rw[hV,hL];rfl
  rw[<-hL]at HS hl hn ⊢;clear hL hV;obtain⟨b,off,rfl,bv⟩:=HS.out.get ai;have c0:w.cell? ⟨b,off,none⟩=some (.string p0.name):=by simpa using bv 0 p0 h0 0 _ rfl
  have c1:w.cell? ⟨b,off+1,none⟩=some (.int .i64 p0.kind):=by simpa using bv 0 p0 h0 1 _ rfl
  have HC:=Ab bv;have dm:0<L.length:=by cases L with|nil=>exact absurd rfl ai|cons _ _=>simp
  have HV:=Ab hv;clear bv ai h0 hv;have g1:¬(L.length:Int)<1:=by omega
  by_cases ww:L.length<=64
  ·have ac7:¬(64:Int)<L.length:=by omega
   by_cases qd:p0.name.toList=[66,79,83]
   ·by_cases j8:p0.kind=0
    ·have yo:bL0 p0=true:=by simp[bL0,seq,qd,j8,bos,Au]
     have ii:V=jS L L 0:=by rw[HV.out,yo];simp[ww]
     have HV2:=Ab ii
     have HC2:Hid (∀W,Grows w W->∀k p,L[k]?=some p->W.cell? ⟨b,off+k*2,none⟩=some (.string p.name)/\W.cell? ⟨b,off+k*2+1,none⟩=some (.int .i64 p.kind)) :=
      λW hW k p hp=>⟨hW.cell (HC.out k p hp 0 _ rfl),hW.cell (HC.out k p hp 1 _ rfl)⟩
     clear yo ii HV HC;go_enter Tryz.func126,Tryz.ntmps126
     go_wp2_with fail
     clear c0 c1 qd j8;go_loop [3] (λi=>∃k:Nat,k<=L.length/\i=.int .i64 k/\Hid (∀j q,j<k->L[j]?=some q->tX L j q=true)) (λi=>L.length-(intOf i).toNat)
     case atStart=>exact⟨0,Ak _,rfl,λj q hj=>by omega⟩
     case round =>
      obtain⟨k,hk,rfl,hz⟩:=hrel;by_cases ae:k<L.length
      ·obtain⟨p,hp⟩:∃p,L[k]?=some p:=⟨_,Ae ae⟩
       obtain⟨d0,d1⟩:=HC2.out w (Grows.refl _) k p hp;have xy:=hn p (Ad hp);have HP:=Ab hp;clear hp;have hF:=yM0 L p.name (some ⟨b,off,none⟩) cap w hl HS.out;obtain⟨f,hf⟩:=exq (yP0 (posFind L p.name));obtain⟨nm,qd⟩:=exq (rY p.name);have il:=cL1 p.name w xy;have ah:tX L k p=(f==(k:Int)&&nm&&decide (0<=p.kind)&&decide (p.kind<=2)):=by rw[hf,qd];rfl
       rw[<-hf]at hF;rw[<-qd]at il;generalize (posFind L p.name).isSome=fs at hF;have HCON:=Ab il;have HF:=Ab hF;have HOK:=Ab ah;clear hf qd il ah hF;cases nm
       ·have au:V=false:=HV2.out.trans (iI HP.out hz.out (by rw[HOK.out];simp))
        have HFIN:=Ab au;clear au;go_wp2_with (first|(go_at_call 179;refine HF.out.mono ?_;rintro e w1 ⟨rfl,rfl⟩)|(go_at_call 180;refine HCON.out.mono ?_;rintro e w1 ⟨rfl,rfl⟩))
        go_ret;exact⟨bD HFIN.out.symm,Grows.refl _⟩
       ·by_cases j8:p.kind<0
        ·have au:V=false:=HV2.out.trans (iI HP.out hz.out (by rw[HOK.out];simp;omega))
         have HFIN:=Ab au;clear au;go_wp2_with (first|(go_at_call 179;refine HF.out.mono ?_;rintro e w1 ⟨rfl,rfl⟩)|(go_at_call 180;refine HCON.out.mono ?_;rintro e w1 ⟨rfl,rfl⟩))
         go_ret;exact⟨bD HFIN.out.symm,Grows.refl _⟩
        ·by_cases fj:2<p.kind
         ·have au:V=false:=HV2.out.trans (iI HP.out hz.out (by rw[HOK.out];simp;omega))
          have HFIN:=Ab au;clear au;go_wp2_with (first|(go_at_call 179;refine HF.out.mono ?_;rintro e w1 ⟨rfl,rfl⟩)|(go_at_call 180;refine HCON.out.mono ?_;rintro e w1 ⟨rfl,rfl⟩))
          go_ret;exact⟨bD HFIN.out.symm,Grows.refl _⟩
         ·cases pj:(f==(k:Int))
          ·have h1:(f != (k:Int))=true:=by rw[bne,pj];rfl
           have au:V=false:=HV2.out.trans (iI HP.out hz.out (by rw[HOK.out,pj];rfl));have HFIN:=Ab au;clear au pj;go_wp2_with (first|(go_at_call 179;refine HF.out.mono ?_;rintro e w1 ⟨rfl,rfl⟩)|(go_at_call 180;refine HCON.out.mono ?_;rintro e w1 ⟨rfl,rfl⟩))
           go_ret;exact⟨bD HFIN.out.symm,Grows.refl _⟩
          ·have h1:(f != (k:Int))=false:=by rw[bne,pj];rfl
           have ah:tX L k p=true:=by rw[HOK.out,pj];simp;omega
           have HOK2:=Ab ah;clear pj ah;go_wp2_with (first|(go_at_call 179;refine HF.out.mono ?_;rintro e w1 ⟨rfl,rfl⟩)|(go_at_call 180;refine HCON.out.mono ?_;rintro e w1 ⟨rfl,rfl⟩))
           go_round
           case rel=>exact⟨k+1,by omega,by go_num,λj q hj hq=>by
            rcases Nat.lt_succ_iff_lt_or_eq.1 hj with h|rfl
            ·exact hz.out j q h hq
            ·rw[HP.out]at hq;obtain rfl:=Option.some.inj hq;exact HOK2.out⟩
           case measure=>simp[intOf];omega
      ·obtain rfl:k=L.length:=by omega
       have au:V=true:=HV2.out.trans (fO0 hz.out);have HFIN:=Ab au;clear au;go_wp2
       go_ret;exact⟨bD HFIN.out.symm,Grows.refl _⟩
    ·have au:V=false:=by rw[HV.out];simp[bL0,j8]
     have HF:=Ab au;have akh:(p0.kind != 0)=true:=by simpa using j8
     clear au HV;go_enter Tryz.func126,Tryz.ntmps126
     go_wp2
     go_ret;exact⟨bD HF.out.symm,Grows.refl _⟩
   ·have au:V=false:=by rw[HV.out];simp[bL0,seq,bos,Au];intro _ h;exact absurd (by rw[Au];exact h) qd
    have HF:=Ab au;clear au HV;go_enter Tryz.func126,Tryz.ntmps126
    go_wp2
    go_ret;exact⟨bD HF.out.symm,Grows.refl _⟩
  ·have ac7:(64:Int)<L.length:=by omega
   have au:V=false:=by rw[HV.out];simp[ww]
   have HF:=Ab au;clear au HV;go_enter Tryz.func126,Tryz.ntmps126
   go_wp2
   go_ret;exact⟨bD HF.out.symm,Grows.refl _⟩
end
section
open Go Go.RowKit Go.Shelf
attribute [local go_sem] aM aK
theorem pA1 (w:World):(zeroValue 3).run Tryz.prog w=.ok (.int .i64 0) w:=by kernel_rfl
def IdM (L:List ByteArray) (k:Nat) (D:DataW Unit):Prop:=∀i s,i<k->L[i]?=some s->D.atKey (.string s.data.toList) (.lit (.int .i64 0))=.lit (.int .i64 i)
theorem iT0 {w:World} {b n k i:Nat} {D:DataW Unit} {L:List ByteArray} {s:ByteArray} (hM:IdM L k D) (aa:w.ownsMap Tryz.prog 9 (plainElem Tryz.prog 3) b n D) (hi:i<k) (hx:L[i]?=some s) (hs:s.size<=maxLen) :
  (Instr.lookup 73 (.map (some b)) (.string s) false).run Tryz.prog w=.ok (.int .i64 i) w:=by
 obtain⟨c,qn,ac,_⟩:=aa.lookup_int (Maps.string_keyed Tryz.underlying9) Tryz.underlying73 Tryz.underlying3 (pA1 w) (WideMaps.keyOf_string_mk Tryz.underlying9 hs);rw[hM i s hi hx]at ac
 have:(i:Int)=c:=by simpa using ac
 rw[this];exact qn
theorem jB1 (L:List ByteArray) (D:DataW Unit):IdM L 0 D:=λi _ h=>absurd h (Nat.not_lt_zero i)
theorem mB1 {b n k:Nat} {w:World} {D:DataW Unit} {L:List ByteArray} {s:ByteArray} (hM:IdM L k D) (aa:w.ownsMap Tryz.prog 9 (plainElem Tryz.prog 3) b n D) (hd:L.Nodup) (hx:L[k]?=some s):IdM L (k+1) (D.put (.string s.data.toList) (.lit (.int .i64 k))):=λi t hi ht=>by
 by_cases h:i=k
 ·subst h
  obtain rfl:s=t:=by rw[hx]at ht;exact Option.some.inj ht
  rw[Maps.atKey_put_same aa.isMap (k:=.string s.data.toList) trivial]
 ·have ai:(Lit.string t.data.toList) ≠ .string s.data.toList:=λh2=>h (by
   injection h2 with h3
   have h4:t=s:=cN0 h3;obtain⟨hi1,fo⟩:=List.getElem?_eq_some_iff.1 ht;obtain⟨lh,fj⟩:=List.getElem?_eq_some_iff.1 hx;exact(List.getElem_inj hd).1 (by rw[fo,fj,h4]))
  rw[Maps.atKey_put_other ai,hM i t (by omega) ht]
structure kZ1 (w:World) (ib:Nat) (L:List ByteArray):Prop where
 ex:∃mb n D,w.cell? ⟨ib,0,none⟩=some (.map (some mb))/\w.ownsMap Tryz.prog 9 (plainElem (H:=Unit) Tryz.prog 3) mb n D/\IdM L L.length D
theorem kZ1.grows {w w':World} {ib:Nat} {L:List ByteArray} (h:kZ1 w ib L) (hg:Grows w w'):kZ1 w' ib L:=by
 obtain⟨mb,n,D,h1,h2,h3⟩:=h.ex;exact⟨mb,n,D,hg.cell h1,cG h2 hg,h3⟩
theorem gY1 (L:List ByteArray) (ib i:Nat) (x:En) (w:World) (h:kZ1 w ib L) (hx:L[i]?=some x.s) (hs:x.s.size<=maxLen) :
  Calls Tryz.prog 52 #[x.agg,.pointer (some ⟨ib,0,none⟩)] w λe w'=>e=.returned (.int .i64 i)/\Grows w w':=by
 obtain⟨xr,xs,xl,xt,xc⟩:=x;obtain⟨mb,n,D,h1,h2,h3⟩:=h.ex;simp only at hx hs;have c1:(w.alloc (.cells #[.string xr,.string xs,.int .i64 xl,.int .i64 xt,.int .i64 xc] 52)).cell? ⟨ib,0,none⟩=some (.map (some mb)):=(Grows.alloc _ _).cell h1;have hl:=iT0 h3 (cG h2 (Grows.alloc w (.cells #[.string xr,.string xs,.int .i64 xl,.int .i64 xt,.int .i64 xc] 52))) (List.getElem?_eq_some_iff.1 hx).1 hx hs;unfold En.agg;clear h h1 h2 h3;go_enter Tryz.func52,Tryz.ntmps52
 go_wp2_with fail
 go_ret;exact⟨rfl,Grows.alloc _ _⟩
theorem nF1:∀args w,(callFunc 52 args).run Tryz.prog w=.ok (.enter 52 args) w:=enters_of Tryz.func52 (by kernel_rfl) rfl
theorem nN1:∀args w,(callFunc 45 args).run Tryz.prog w=.ok (.enter 45 args) w:=enters_of Tryz.func45 (by kernel_rfl) rfl
theorem hJ1 (L:List ByteArray) (ib eb i j x y:Nat) (l:List En) (ex ey:En) (a:Option Addr) (c:Nat) (w:World) (h:kZ1 w ib L) (he:w.cell? ⟨eb,0,none⟩=some (.slice a l.length c)) (ac:aF w a 5 (l.map aQ)) (_hl:l.length<=1048576) (hL:L.length<=1048576)
  (hx:l[x]?=some ex) (hy:l[y]?=some ey) (hi:L[i]?=some ex.s) (hj:L[j]?=some ey.s) (hs:ex.s.size<=maxLen/\ey.s.size<=maxLen) :
  Calls Tryz.prog 45 #[.int .i64 x,.int .i64 y,.pointer (some ⟨ib,0,none⟩),.pointer (some ⟨eb,0,none⟩)] w λe w'=>e=.returned (.int .i64 ((i:Int)-j))/\w'=w.drew:=by
 obtain⟨xr,xs,xl,xt,xc⟩:=ex;obtain⟨yr,ys,yl,yt,yc⟩:=ey;obtain⟨mb,n,D,h1,h2,h3⟩:=h.ex;simp only at hi hj hs;have hxl:=(List.getElem?_eq_some_iff.1 hx).1;have hyl:=(List.getElem?_eq_some_iff.1 hy).1;have ri:=(List.getElem?_eq_some_iff.1 hi).1;have hjl:=(List.getElem?_eq_some_iff.1 hj).1;obtain⟨ba,oa,rfl,be⟩:=aF.get (enc:=aQ) ac (aH hxl);have z0:∀x:Ext Grows w.drew,x.u.cell? ⟨ib,0,none⟩=some (.map (some mb)):=aB ((Grows.drew w).cell h1);have z1:∀x:Ext Grows w.drew,x.u.cell? ⟨eb,0,none⟩=some (.slice (some ⟨ba,oa,none⟩) l.length c):=aB ((Grows.drew w).cell he);have z2:∀u:Ext Grows w.drew,u.u.cell? ⟨ba,oa+x*5+1,none⟩=some (.string xs):=aB ((Grows.drew w).cell (be x _ hx 1 _ rfl));have z3:∀u:Ext Grows w.drew,u.u.cell? ⟨ba,oa+y*5+1,none⟩=some (.string ys):=aB ((Grows.drew w).cell (be y _ hy 1 _ rfl));have z4:∀u:Ext Grows w.drew,(Instr.lookup 73 (.map (some mb)) (.string xs) false).run Tryz.prog u.u=.ok (.int .i64 i) u.u:=λu=>iT0 h3 (cG (cG h2 (Grows.drew w)) u.h) ri hi hs.1;have z5:∀u:Ext Grows w.drew,(Instr.lookup 73 (.map (some mb)) (.string ys) false).run Tryz.prog u.u=.ok (.int .i64 j) u.u:=λu=>iT0 h3 (cG (cG h2 (Grows.drew w)) u.h) hjl hj hs.2;have tw:(x:Int)<l.length:=by omega
 have hyi:(y:Int)<l.length:=by omega
 have wij:IntKind.i64.wrap ((i:Int)-j)=(i:Int)-j:=by simp[Aw,Ax,Aq];omega
 clear h he ac hx hy hi hj hs h1 h2 h3 be;go_enter Tryz.func45,Tryz.ntmps45
 go_wp2_with fail
 refine bE (aU 16 []) (by kernel_rfl) (λd _ _ _ _ h=>by cases d<;>exact h) ?_
 iterate 16 (refine aG rfl (λK hK=>?_);go_simp;refine hK _ ?_;clear hK K)
 clear z0 z1 z2 z3 z4 z5;refine bH ?_;go_wp2_with fail
 go_ret;exact⟨rfl,rfl⟩
end
section
open Go Go.RowKit
theorem uV0 (s:ByteArray):tA s=putU s.size++bl s:=rfl
def hposP (P:List bF) (i:Nat):Nat:=(([72,78,75,49]++putU P.length)++dQ (P.take i):List UInt8).length
def tY (P:List bF) (i:Nat):Nat:=(([72,78,75,49]++putU P.length)++dQ P++dX (P.take i):List UInt8).length
theorem zV0 {P:List bF} {i:Nat} {p:bF} (h:P[i]?=some p):dQ P=dQ (P.take i)++((tA p.name++putU p.data.length)++dQ (P.drop (i+1))):=by
 obtain⟨hi,rfl⟩:=List.getElem?_eq_some_iff.1 h;unfold dQ;rw[<-Ap (f:=λp:bF=>tA p.name++putU p.data.length),<-Ay hi,<-Ag,Al]
theorem bC1 {P:List bF} {i:Nat} {p:bF} (h:P[i]?=some p):dX P=dX (P.take i)++(p.data++dX (P.drop (i+1))):=by
 obtain⟨hi,rfl⟩:=List.getElem?_eq_some_iff.1 h;unfold dX;rw[<-Ap (f:=λp:bF=>p.data),<-Ay hi,<-Ag,Al]
theorem qM0 {P:List bF} {i:Nat} {p:bF} (h:P[i]?=some p):dQ (P.take (i+1))=dQ (P.take i)++(tA p.name++putU p.data.length):=by
 unfold dQ;rw[Bi,h,Ag];simp
theorem pE0 {P:List bF} {i:Nat} {p:bF} (h:P[i]?=some p):dX (P.take (i+1))=dX (P.take i)++p.data:=by
 unfold dX;rw[Bi,h,Ag];simp
theorem vL0 (P:List bF):hposP P 0=4+(putU P.length).length:=by unfold hposP dQ; simp; omega
theorem xM0 {P:List bF} {i:Nat} {p:bF} (h:P[i]?=some p):hposP P (i+1)=hposP P i+(tA p.name).length+(putU p.data.length).length:=by
 unfold hposP;rw[qM0 h];simp only[Aa];omega
theorem uQ0 (P:List bF):tY P 0=hposP P P.length:=by
 unfold tY hposP;rw[An];simp[dX]
theorem eU0 {P:List bF} {i:Nat} {p:bF} (h:P[i]?=some p):tY P (i+1)=tY P i+p.data.length:=by
 unfold tY;rw[pE0 h];simp only[Aa];omega
theorem eG1 (P:List bF):tY P P.length=(cZ P).length:=by unfold tY cZ; rw[An]
theorem jE1 {P:List bF} {i:Nat}:tY P i<=(cZ P).length:=by
 unfold tY cZ;simp only[Aa]
 have:(dX (P.take i)).length<=(dX P).length:=by
  unfold dX;have h:=Al i P;have h2:dX P=dX (P.take i)++dX (P.drop i):=by unfold dX;rw[<-Ag,h]
  unfold dX at h2;rw[h2,Aa];omega
 omega
theorem iZ1 {P:List bF} {i:Nat}:hposP P i<=(cZ P).length:=by
 unfold hposP cZ;simp only[Aa]
 have:(dQ (P.take i)).length<=(dQ P).length:=by
  have h2:dQ P=dQ (P.take i)++dQ (P.drop i):=by unfold dQ;rw[<-Ag,Al]
  rw[h2,Aa];omega
 omega
theorem iM1 {P:List bF} (hn:P.length<18446744073709551616):rdU ((cZ P).drop 4)=some (P.length,(putU P.length).length):=by
 unfold cZ;rw[Ac,Ac];show rdU (putU P.length++_)=_
 exact vZ hn _
theorem nB0 {P:List bF} {i:Nat} {p:bF} (h:P[i]?=some p):(cZ P).drop (hposP P i)=(tA p.name++putU p.data.length)++(dQ (P.drop (i+1))++dX P):=by
 have e:cZ P=(([72,78,75,49]++putU P.length)++dQ (P.take i))++((tA p.name++putU p.data.length)++(dQ (P.drop (i+1))++dX P)):=by
  unfold cZ;rw[zV0 h];simp only[Ac]
 rw[e];exact Av rfl
theorem aK1 {s:ByteArray} (hs:s.size<18446744073709551616) (r:List UInt8):rdT (tA s++r)=some (s,(tA s).length):=by
 unfold rdT;rw[uV0,Ac,vZ hs];simp only;rw[Av rfl,if_pos (by rw[Aa,dI];omega)];congr 1
 rw[Bn (dI s),Aa,dI];exact congrArg (·,_) (mR s)
theorem nE1 {P:List bF} {i:Nat} {p:bF} (h:P[i]?=some p) (hs:p.name.size<18446744073709551616):rdT ((cZ P).drop (hposP P i))=some (p.name,(tA p.name).length):=by
 rw[nB0 h,Ac];exact aK1 hs _
theorem nW1 {P:List bF} {i:Nat} {p:bF} (h:P[i]?=some p) (hs:p.data.length<18446744073709551616):rdU ((cZ P).drop (hposP P i+(tA p.name).length))=some (p.data.length,(putU p.data.length).length):=by
 rw[<-List.drop_drop,nB0 h,Ac,Av rfl];exact vZ hs _
theorem mE1 {P:List bF} {i:Nat} {p:bF} (h:P[i]?=some p):((cZ P).take (tY P i+p.data.length)).drop (tY P i)=p.data:=by
 have e:cZ P=(([72,78,75,49]++putU P.length)++dQ P++dX (P.take i))++(p.data++dX (P.drop (i+1))):=by
  unfold cZ;rw[bC1 h];simp only[Ac]
 rw[<-List.take_drop];conv=>lhs;rw[e]
 unfold tY;rw[Av rfl];exact Bn rfl
structure sB (W:World) (b m:Nat) (f:Nat->Value):Prop where
 cell:∀j,j<m->W.cell? ⟨b,j,none⟩=some (f j)
 froz:∀j,W.frozen? ⟨b,j,none⟩=false
 lt:b<W.heap.size
theorem sB.grows {W W':World} {b m:Nat} {f:Nat->Value} (h:sB W b m f) (hg:Grows W W'):sB W' b m f :=
 ⟨λj hj=>hg.cell (h.cell j hj),λj=>(hg.froz (p:=⟨b,j,none⟩) h.lt).trans (h.froz j),Af h.lt hg.size⟩
theorem sB.other {W:World} {b m:Nat} {f:Nat->Value} (h:sB W b m f) {b' j':Nat} (hb:b'≠b) (v:Value):sB (W.setCell ⟨b',j',none⟩ v) b m f :=
 ⟨λj hj=>by rw[Az _ _ _ _ (λe=>hb (by simpa using congrArg Addr.block e))];exact h.cell j hj,λj=>(Bc _ _ _ _).trans (h.froz j),by simp;exact h.lt⟩
theorem sB.set {W:World} {b m:Nat} {f:Nat->Value} (h:sB W b m f) {k:Nat} (hk:k<m) (v:Value):sB (W.setCell ⟨b,k,none⟩ v) b m (λj=>if j=k then v else f j) :=
 ⟨λj hj=>by
  by_cases e:j=k
  ·subst e
   rw[if_pos rfl];exact World.cell?_setCell_same _ _ _ (h.cell j hj)
  ·rw[if_neg e,Az _ _ _ _ (λe2=>e (by injection e2 with _ h2;exact h2.symm))]
   exact h.cell j hj,λj=>(Bc _ _ _ _).trans (h.froz j),by simp;exact h.lt⟩
theorem sB.congr {W:World} {b m:Nat} {f g:Nat->Value} (h:sB W b m f) (e:∀j,j<m->f j=g j):sB W b m g:=⟨λj hj=>by rw[<-e j hj]; exact h.cell j hj,h.froz,h.lt⟩
theorem hU1 {w W:World} {cs:Array Value} {t:TypeId} {m:Nat} (hg:Grows (w.alloc (.cells cs t)) W) (hm:cs.size=m):sB W w.heap.size m (λj=>cs.getD j undef):=by
 obtain⟨h1,h2⟩:=bK hg;refine⟨λj hj=>h1 j _ ?_,h2,Af (by simp) hg.size⟩;rw[Array.getD_eq_getD_getElem?,Array.getElem?_eq_getElem (by omega)];rfl
end
end Go.Proofs.YtheiocndipepaaaGreatDoor
