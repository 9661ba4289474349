/- The texts iS1 W14P W14 CrcW W15 PosE SecW SecJ RefX Bid SecP SecC PkDP, one behind the other. -/
import Derived.Test.YtiopheoljccmpaaGreatDoorCq3
import Derived.Test.YtiopheoljccmpaaGreatDoorCq8
import Derived.Test.YtiopheoljccmpaaGreatDoorCq34
import Derived.Test.YtiopheoljccmpaaGreatDoorCq21
import Derived.Test.YtiopheoljccmpaaGreatDoorCq4
import Derived.Test.YtiopheoljccmpaaGreatDoorCq20
import Derived.Test.YtiopheoljccmpaaGreatDoorCq7
import Derived.Test.YtiopheoljccmpaaGreatDoorCq11
import Derived.Maps.Own
import Derived.Carry
import Derived.Lib.SlBytesConst
import Derived.Test.YtiopheoljccmpaaGreatDoorCq12
import Derived.Test.YtiopheoljccmpaaGreatDoorCq22
import Derived.Test.YtiopheoljccmpaaGreatDoorCq26
import Derived.Test.YtiopheoljccmpaaGreatDoorCq23
open Go.Lib renaming hid → Aa,toList_data → Az,decodeL_ascii → Bs,size_eq → Ca,decodeL_N → Cb,decodeL → Ch
open List renaming length_append → Ab,mem_of_getElem? → Ac,getElem?_eq_getElem → Ad,append_assoc → Ae,take_of_length_le → Al,flatMap_append → An,length_cons → Ao,length_take → Aq,eq_nil_of_length_eq_zero → Ar,take_append_drop → As,getElem?_eq_none → At,mem_of_mem_take → Au,take_length → Aw,drop_eq_getElem_cons → Ax,flatMap_cons → Ay,any_append → Ba,map_cons → Be,drop_length → Bf,map_append → Bh,length_nil → Bi,nil_append → Bj,drop_left' → Bk,getElem?_map → Bv,take_add_one → Bw,ext_getElem? → By,any_cons → Cc,any_map → Ce,map_nil → Cf,range → Ci
open Nat renaming le_refl → Af,zero_le → Ag,lt_of_lt_of_le → Ai,mul_le_mul_right → Av,xor_lt_two_pow → Bb,succ_mul → Bt,or_lt_two_pow → Bz,le_of_eq → Cg
open Go.IntKind renaming signed → Ah,wrap → Aj,bits → Ak
open UInt8 renaming ofNat → Am,toNat_lt → Bp
open Bool renaming and_eq_true → Ap,false_and → Bc,eq_iff_iff → Bg,or_false → Bq,true_and → Br,false_or → Cd
open Go.World renaming cell?_setCell_other → Bd,frozen?_setCell → Bo
open Int renaming natCast_mul → Bn,toNat_natCast → Bu
set_option maxHeartbeats 8000000
namespace Go.Proofs.YtiopheoljccmpaaGreatDoor
set_option maxRecDepth 100000
section
open Go Go.RowKit
attribute [local go_sem] aM
theorem vM:∀(n:Nat) (l:List UInt8),l.length<=n->(∃b∈l,128<=b.toNat)->∃c∈runesD l,128<=c
 | 0,l,hl,⟨b,hb,_⟩=>by
  have:l=[]:=Ar (by omega)
  subst this;cases hb
 | n+1,l,hl,⟨b,hb,ze⟩=>by
  cases l with
  | nil=>cases hb
  | cons x r =>
   rw[gO _ (by simp)];by_cases hx:x.toNat<128
   ·rw[Bs x r hx]
    rcases List.mem_cons.1 hb with rfl|hb
    ·omega
    ·obtain⟨c,hc,hcg⟩:=vM n r (by simp at hl;omega) ⟨b,hb,ze⟩
     exact⟨c,List.mem_cons_of_mem _ hc,hcg⟩
   ·refine⟨_,List.mem_cons_self,?_⟩
    by_cases fq:(Ch (x::r)).1=65533/\(Ch (x::r)).2=1
    ·rw[fq.1];decide
    ·have hs:=nA (x::r).length ((x::r).getD 0 0).toNat ((x::r).getD 1 0).toNat ((x::r).getD 2 0).toNat ((x::r).getD 3 0).toNat (Bp _) (Bp _) (Bp _) (by rw[<-Cb];exact fq)
     rw[<-Cb]at hs;rcases hs with ⟨h,_⟩|⟨_,_,_,_,_,_,h⟩
     ·exact absurd h (by simpa using hx)
     ·exact h
theorem qY:∀(n:Nat) (l:List UInt8),l.length<=n->(∀b∈l,b.toNat<128)->runesD l=l.map (·.toNat)
 | 0,l,hl,_=>by
  have:l=[]:=Ar (by omega)
  subst this;rfl
 | n+1,l,hl,h=>by
  cases l with
  | nil=>rfl
  | cons x r =>
   rw[gO _ (by simp),Bs x r (h x (by simp)),Be];simp only[List.drop_succ_cons,List.drop_zero];rw[qY n r (by simp at hl;omega) (λb hb=>h b (by simp[hb]))]
theorem sS {c:Nat} (h:128<=c):nameBad c=true:=by unfold nameBad; simp; omega
theorem tA0 (l:List UInt8):(runesD l).any nameBad=l.any λb=>nameBad b.toNat:=by
 by_cases h:∃b∈l,128<=b.toNat
 ·obtain⟨c,hc,hg⟩:=vM _ l (Af _) h
  obtain⟨b,hb,hbg⟩:=h;rw[List.any_eq_true.2 ⟨c,hc,sS hg⟩,List.any_eq_true.2 ⟨b,hb,sS hbg⟩]
 ·rw[qY _ l (Af _) (λb hb=>by
   rcases Nat.lt_or_ge b.toNat 128 with h1|h1
   ·exact h1
   ·exact absurd ⟨b,hb,h1⟩ h),Ce]
  rfl
theorem wF (s:ByteArray):iI s=(decide (1<=s.size)&&decide (s.size<=16) && !(s.data.toList.any λb=>nameBad b.toNat)):=by
 rw[oK0,tA0];congr 2
 rw[Az,Ca];cases s.data.toList<;>simp
theorem pD0 {p:UInt8->Bool} {s:ByteArray} {k:Nat} (h:k<s.size):(s.data.toList.drop k).any p=(p s[k]||(s.data.toList.drop (k+1)).any p):=by
 rw[sD h,Cc]
theorem jD0 (s:ByteArray) (w:World) (hs:s.size<=9223372036854775807) :
  Calls Tryz.prog 107 #[.string s] w λe w'=>e=.returned (.bool (iI s))/\w=w':=by
 rw[wF];obtain⟨b,kc⟩:=exq (s.data.toList.any λb=>nameBad b.toNat);rw[<-kc];have HBB:=Aa kc;clear kc;go_enter Tryz.func107,Tryz.ntmps107
 go_wp2_with fail
 go_loop [3] (λi=>∃k:Nat,k<=s.size/\i=.int .i64 k/\Hid (b=(s.data.toList.drop k).any λb=>nameBad b.toNat)) (λi=>s.size-(intOf i).toNat)
 case atStart=>exact⟨0,Ag _,rfl,HBB.out⟩
 case round =>
  obtain⟨k,hk,rfl,ak⟩:=hrel;by_cases af:k<s.size
  ·have hi:=ak.out
   rw[pD0 af]at hi;have HI:=Aa hi;clear ak hi;cases hh:nameBad s[k].toNat
   ·have gb:b=(s.data.toList.drop (k+1)).any λb=>nameBad b.toNat:=by rw[HI.out,hh];rfl
    have HI2:=Aa gb
    have q:(65<=(s[k].toNat:Int)/\(s[k].toNat:Int)<=90)\/(¬(s[k].toNat:Int)<=90/\97<=(s[k].toNat:Int)/\(s[k].toNat:Int)<=122)\/(¬65<=(s[k].toNat:Int)/\48<=(s[k].toNat:Int)/\(s[k].toNat:Int)<=57)\/(s[k].toNat:Int)=95\/(s[k].toNat:Int)=45:=by
     unfold nameBad at hh;simp at hh;omega
    clear HI gb hh;rcases q with ⟨q1,q2⟩|⟨q1,q2,q3⟩|⟨q1,q2,q3⟩|q1|q1
    ·go_wp2
     go_round
     case rel=>exact⟨k+1,af,by go_num,HI2.out⟩
     case measure=>simp[intOf];omega
    ·have q4:65<=(s[k].toNat:Int):=by omega
     go_wp2
     go_round
     case rel=>exact⟨k+1,af,by go_num,HI2.out⟩
     case measure=>simp[intOf];omega
    ·have q4:¬97<=(s[k].toNat:Int):=by omega
     go_wp2
     go_round
     case rel=>exact⟨k+1,af,by go_num,HI2.out⟩
     case measure=>simp[intOf];omega
    ·go_wp2
     go_round
     case rel=>exact⟨k+1,af,by go_num,HI2.out⟩
     case measure=>simp[intOf];omega
    ·go_wp2
     go_round
     case rel=>exact⟨k+1,af,by go_num,HI2.out⟩
     case measure=>simp[intOf];omega
   ·have gb:b=true:=by rw[HI.out,hh];rfl
    have HI2:=Aa gb
    have q:(¬48<=(s[k].toNat:Int)/\¬65<=(s[k].toNat:Int)/\¬97<=(s[k].toNat:Int)/\(s[k].toNat:Int)≠45)\/(48<=(s[k].toNat:Int)/\¬(s[k].toNat:Int)<=57/\¬65<=(s[k].toNat:Int)/\¬97<=(s[k].toNat:Int))\/(65<=(s[k].toNat:Int)/\¬(s[k].toNat:Int)<=90/\¬97<=(s[k].toNat:Int)/\¬(s[k].toNat:Int)<=57/\(s[k].toNat:Int)≠95)\/(65<=(s[k].toNat:Int)/\¬(s[k].toNat:Int)<=90/\97<=(s[k].toNat:Int)/\¬(s[k].toNat:Int)<=122/\¬(s[k].toNat:Int)<=57):=by
     unfold nameBad at hh;simp at hh;omega
    clear HI gb hh;rcases q with ⟨q1,q2,q3,q4⟩|⟨q1,q2,q3,q4⟩|⟨q1,q2,q3,q4,q5⟩|⟨q1,q2,q3,q4,q5⟩
    ·have q6:((s[k].toNat:Int) != 45)=true:=by simpa using q4
     have q7:((s[k].toNat:Int) != 95)=true:=by rw[bne_iff_ne];omega
     go_wp2
     go_ret;exact⟨aZ (by rw[HI2.out];simp),rfl⟩
    ·have q6:((s[k].toNat:Int) != 45)=true:=by rw[bne_iff_ne];omega
     have q7:((s[k].toNat:Int) != 95)=true:=by rw[bne_iff_ne];omega
     go_wp2
     go_ret;exact⟨aZ (by rw[HI2.out];simp),rfl⟩
    ·have q6:((s[k].toNat:Int) != 45)=true:=by rw[bne_iff_ne];omega
     have q7:((s[k].toNat:Int) != 95)=true:=by simpa using q5
     go_wp2
     go_ret;exact⟨aZ (by rw[HI2.out];simp),rfl⟩
    ·have q6:((s[k].toNat:Int) != 45)=true:=by rw[bne_iff_ne];omega
     have q7:((s[k].toNat:Int) != 95)=true:=by rw[bne_iff_ne];omega
     go_wp2
     go_ret;exact⟨aZ (by rw[HI2.out];simp),rfl⟩
 -- behind the loop
  ·obtain rfl:k=s.size:=by omega
   have au:b=false:=by rw[ak.out,Ca,Bf];rfl
   subst au;clear ak HBB;by_cases h1:1<=s.size
   ·have g1:(1:Int)<=s.size:=by omega
    go_wp2
    go_ret;exact⟨aZ (by first|rfl|(simp;omega)|(rw[Bg];simp;omega)),rfl⟩
   ·have g1:¬(1:Int)<=s.size:=by omega
    go_wp2
    go_ret;exact⟨aZ (by first|rfl|(simp;done)|(rw[Bg];simp;omega)),rfl⟩
theorem oF (l:List bT) (name:ByteArray) (a:Option Addr) (cap:Nat) (w:World) (hl:l.length<=4611686018427387904) (hs:aF w a 2 (l.map bI)) :
  Calls Tryz.prog 57 #[.slice a l.length cap,.string name] w λe w'=>e=.returned (.tuple #[.int .i64 (findI (posFind l name)),.bool (posFind l name).isSome])/\w=w':=by
 obtain⟨R,hR⟩:=exq (posFind l name);rw[<-hR];have HR:=Aa hR;have HS:=Aa hs;clear hs hR;go_enter Tryz.func57,Tryz.ntmps57
 go_wp2_with fail
 go_loop [6] (λi=>∃k:Nat,k<=l.length/\i=.int .i64 k/\Hid (∀j q,j<k->l[j]?=some q->seq q.name name=false)) (λi=>l.length-(intOf i).toNat)
 case atStart=>exact⟨0,Ag _,rfl,λj q hj=>by omega⟩
 case round =>
  obtain⟨k,hk,rfl,ak⟩:=hrel;by_cases af:k<l.length
  ·obtain⟨p,hp⟩:∃p,l[k]?=some p:=⟨_,Ad af⟩
   obtain⟨ba,oa,rfl,cn⟩:=HS.out.get (aH af);have c0:w.cell? ⟨ba,oa+k*2,none⟩=some (.string p.name):=by simpa using cn k _ hp 0 _ rfl
   have HP:=Aa hp;clear cn hp;cases hq:seq p.name name
   ·have aw:(p.name.toList==name.toList)=false:=hq
    have xx:¬p.name.toList=name.toList:=by simpa using aw
    have HQ:=Aa hq;clear hq;go_wp2
    go_round
    case rel=>exact⟨k+1,af,by go_num,λj q hj hjq=>by
     rcases Nat.lt_succ_iff_lt_or_eq.1 hj with h|rfl
     ·exact ak.out j q h hjq
     ·rw[HP.out]at hjq;obtain rfl:=Option.some.inj hjq;exact HQ.out⟩
    case measure=>simp[intOf];omega
   ·have mj:(p.name.toList==name.toList)=true:=hq
    have akm:p.name.toList=name.toList:=by simpa using mj
    have au:R=some k:=HR.out.trans (yZ HP.out ak.out hq);subst au;clear hq ak HR;go_wp2
    go_ret2;exact⟨rfl,rfl⟩
  ·obtain rfl:k=l.length:=by omega
   have au:R=none:=HR.out.trans (xG ak.out);subst au;clear ak HR;go_wp2
   go_ret2;exact⟨rfl,rfl⟩
end
section
open Go Go.RowKit
def rT (c:Nat):Bool:=decide (c<97)||decide (122<c)
def azS (s:ByteArray):Bool:=decide (1<=s.size)&&decide (s.size<=16) && !(s.data.toList.any λb=>rT b.toNat)
theorem zB0 {p:Nat->Bool} (hp:∀c,128<=c->p c=true) (l:List UInt8):(runesD l).any p=l.any λb=>p b.toNat:=by
 by_cases h:∃b∈l,128<=b.toNat
 ·obtain⟨c,hc,hg⟩:=vM _ l (Af _) h
  grind
 ·rw[qY _ l (Af _) (by simp_all),Ce]
  rfl
theorem mW0 {c:Nat} (h:128<=c):rT c=true:=by grind [rT]
structure bD where
 name:ByteArray
 data:List UInt8
 a:Option Addr
 c:Nat
def iL (p:bD):List Value:=[.string p.name,.slice p.a p.data.length p.c]
structure gX (w:World) (l:List bD):Prop where
 at_:∀p∈l,aF w p.a 1 (p.data.map aQ)
 none_:∀p∈l,p.a=none->p.c=0
 name:∀p∈l,p.name.size<=1099511627776
 data:∀p∈l,p.data.length<=1099511627776
theorem gX.grows {w w':World} {l:List bD} (h:gX w l) (hg:aB w w'):gX w' l:=⟨λp hp=>(h.at_ p hp).grows hg,h.none_,h.name,h.data⟩
def gT (l:List bD):Nat:=(l.map λp=>p.data.length).sum
theorem dE0 (l:List bD) (p:bD):gT (l++[p])=gT l+p.data.length:=by simp[gT]
theorem nK0 {l:List bD} {n:Nat} (h:∀p∈l,p.data.length<=n):gT l<=l.length*n:=by
 unfold gT
 induction l with
 | nil=>simp
 | cons p l ih =>
  rw[Be,List.sum_cons,Ao,Bt];grind
def pN:List bD->List ByteArray->Bool
 | [],_=>false
 | p::l,seen=>(seen.any λs=>seq s p.name)||pN l (seen++[p.name])
def kT0 (l:List bD):Bool:=pN l []
def cZ (l:List bD):Nat:=if 64<l.length\/16777216<gT l then 2 else if (l.any λp => !azS p.name)=true then 1 else if kT0 l=true then 4 else 0
def cP (l:List bD):List UInt8:=l.flatMap λp=>rZ p.name++putU p.data.length
def cY (l:List bD):List UInt8:=l.flatMap λp=>p.data
def dD (l:List bD):List UInt8:=([72,78,75,49]++putU l.length)++cP l++cY l
def file14 (l:List bD):List UInt8:=dD l++leB 4 (crcSum (dD l))
def tA (l:List bD) (w:World) (e:Ending) (w':World):Prop :=
 (cZ l=0->∃v,e=.returned (.tuple #[v,.int .i64 0])/\aO w' w.heap.size 5 1 aQ v (file14 l))/\(cZ l≠0->e=.returned (.tuple #[.slice none 0 0,.int .i64 (cZ l)]))/\aB w w'
theorem uQ (l:List bD):(cY l).length=gT l:=by simp[cY,gT,List.length_flatMap]
theorem zZ (l:List bD) (p:bD):cP (l++[p])=cP l++(rZ p.name++putU p.data.length):=by simp[cP]
theorem bB0 (l:List bD) (p:bD):cY (l++[p])=cY l++p.data:=by simp[cY]
theorem eO0 {l:List bD} (h:(l.any λp => !azS p.name)=false):∀p∈l,p.name.size<=16:=λp hp=>by
 have:=List.any_eq_false.1 h p hp
 simp only[azS,Bool.not_eq_true',Bool.not_eq_false,Ap,decide_eq_true_eq]at this;simp at this;omega
theorem qC {l:List bD} (h:∀p∈l,p.name.size<=16):(cP l).length<=l.length*36:=by
 unfold cP
 induction l with
 | nil=>simp
 | cons p l ih =>
  rw[Ay,Ab,Ab,Ao,Bt];have h1:=ih (λq hq=>h q (by simp[hq]));have h2:=h p (by simp);have h3:=mX p.name;have h4:=bK p.data.length;omega
theorem eT0 {l:List bD} (h:cZ l=0):l.length<=64/\gT l<=16777216/\(l.any λp => !azS p.name)=false/\kT0 l=false:=by
 unfold cZ at h;grind
theorem dB0 {l:List bD} (h:cZ l=0):(dD l).length<=16800000:=by
 grind [eT0,qC,eO0,uQ,bK,dD]
end
section
open Go Go.RowKit
attribute [local go_sem] aM aP
theorem hV0 (n:Nat) (hn:n<4294967296):(#[Value.int .u8 ((n:Int)%256),.int .u8 ((n:Int)/256%256),.int .u8 ((n:Int)/65536%256),.int .u8 ((n:Int)/16777216)]:Array Value).toList=(leB 4 n).flatMap aQ:=by
 have h:leB 4 n=[Am n,Am (n/256),Am (n/65536),Am (n/16777216)]:=by
  unfold leB;simp[List.range_succ]
 rw[h,qB];simp only[Be,Cf,UInt8.toNat_ofNat'];rw[Nat.mod_eq_of_lt (show n/16777216<2^8 by omega)]
 congr 1
theorem yM0 (n:Nat) (w:World) (hn:n<4294967296) :
  Calls Tryz.prog 179 #[.int .u32 n] w λe w'=>∃v,e=.returned v/\aO w' w.heap.size 5 1 aQ v (leB 4 n)/\aB w w':=by
 have HH:=Aa (hV0 n hn);go_enter Tryz.func179,Tryz.ntmps179
 go_wp2_with fail
 go_ret;exact⟨_,rfl,fY (enc:=aQ) (λ_=>rfl) (Af _) (leB 4 n) HH.out (n:=4) (by simp[cE]) (by decide),aB.alloc _ _⟩
theorem nG0 (s:ByteArray) (w:World) (hs:s.size<=9223372036854775807) :
  Calls Tryz.prog 239 #[.string s] w λe w'=>e=.returned (.bool (azS s))/\w=w':=by
 obtain⟨b,kc⟩:=exq (s.data.toList.any λb=>rT b.toNat);unfold azS;rw[<-kc];have HBB:=Aa kc;clear kc;go_enter Tryz.func239,Tryz.ntmps239
 go_wp2_with fail
 go_loop [3] (λi=>∃k:Nat,k<=s.size/\i=.int .i64 k/\Hid (b=(s.data.toList.drop k).any λb=>rT b.toNat)) (λi=>s.size-(intOf i).toNat)
 case atStart=>exact⟨0,Ag _,rfl,HBB.out⟩
 case round =>
  obtain⟨k,hk,rfl,ak⟩:=hrel;by_cases af:k<s.size
  ·have hi:=ak.out
   rw[pD0 (p:=λb=>rT b.toNat) af]at hi;have HI:=Aa hi;clear ak hi;cases hh:rT s[k].toNat
   ·have gb:b=(s.data.toList.drop (k+1)).any λb=>rT b.toNat:=by rw[HI.out,hh];rfl
    have HI2:=Aa gb;have q1:¬(s[k].toNat:Int)<97:=by unfold rT at hh;simp at hh;omega
    have q2:¬(122:Int)<s[k].toNat:=by unfold rT at hh;simp at hh;omega
    clear HI gb hh;go_wp2
    go_round
    case rel=>exact⟨k+1,af,by go_num,HI2.out⟩
    case measure=>simp[intOf];omega
   ·have gb:b=true:=by rw[HI.out,hh];rfl
    have HI2:=Aa gb;by_cases q1:(s[k].toNat:Int)<97
    ·clear HI gb hh
     go_wp2
     go_ret;exact⟨aZ (by rw[HI2.out];simp),rfl⟩
    ·have q2:(122:Int)<s[k].toNat:=by unfold rT at hh;simp at hh;omega
     clear HI gb hh;go_wp2
     go_ret;exact⟨aZ (by rw[HI2.out];simp),rfl⟩
  ·obtain rfl:k=s.size:=by omega
   have au:b=false:=by rw[ak.out,Ca,Bf];rfl
   subst au;clear ak HBB;by_cases h1:1<=s.size
   ·have g1:(1:Int)<=s.size:=by omega
    by_cases h2:s.size<=16
    ·have g2:(s.size:Int)<=16:=by omega
     go_wp2
     go_ret;exact⟨aZ (by simp<;>omega),rfl⟩
    ·have g2:¬(s.size:Int)<=16:=by omega
     go_wp2
     go_ret;exact⟨aZ (by simp<;>omega),rfl⟩
   ·have g1:¬(1:Int)<=s.size:=by omega
    go_wp2
    go_ret;exact⟨aZ (by simp<;>omega),rfl⟩
theorem qL0 {l:List bD} {i:Nat} {p:bD} (hp:l[i]?=some p):pN (l.drop i) ((l.take i).map (·.name))=(((l.take i).map (·.name)).any (λs=>seq s p.name)||pN (l.drop (i+1)) ((l.take (i+1)).map (·.name))):=by
 have af:=(List.getElem?_eq_some_iff.1 hp).1;have hpe:=(List.getElem?_eq_some_iff.1 hp).2;rw[Ax af,hpe,aY hp,Bh];rfl
theorem sK0 (l:List bD) (a:Option Addr) (c:Nat) (w:World) (hl:l.length<=1000000) (ah:aF w a 2 (l.map iL)) (kj:gX w l) :
  Calls Tryz.prog 176 #[.slice a l.length c] w λe w'=>e=.returned (.int .i64 (cZ l))/\aB w w':=by
 have HD:=Aa kj.data;have HNM:=Aa kj.name;clear kj
 have bj:∀k p,l[k]?=some p->∃b o,a=some ⟨b,o,none⟩/\w.cell? ⟨b,o+k*2,none⟩=some (.string p.name)/\w.cell? ⟨b,o+k*2+1,none⟩=some (.slice p.a p.data.length p.c):=by
  intro k p hp;obtain⟨b,o,ha,hc⟩:=aF.get (enc:=iL) ah (aH (List.getElem?_eq_some_iff.1 hp).1);exact⟨b,o,ha,hc k p hp 0 _ rfl,hc k p hp 1 _ rfl⟩
 have HC:=Aa bj;clear bj ah;go_enter Tryz.func176,Tryz.ntmps176
 go_wp2_with fail
 go_loop [3,4] (λn i=>∃k N:Nat,k<=l.length/\i=.int .i64 k/\n=.int .i64 N/\N<=k*1099511627776/\Hid (N=gT (l.take k))) (λ_ i=>l.length-(intOf i).toNat)
 case atStart=>exact⟨0,0,Ag _,rfl,rfl,by omega,rfl⟩
 case round =>
  obtain⟨k,N,hk,rfl,rfl,hN,ak⟩:=hrel;by_cases af:k<l.length
  ·obtain⟨p,hp⟩:∃p,l[k]?=some p:=⟨_,Ad af⟩
   obtain⟨b,o,rfl,c0,c1⟩:=HC.out k p hp;have hd:=HD.out p (Ac hp);have HS:Hid (N+p.data.length=gT (l.take (k+1))):=by show _=_;rw[aY hp,dE0,<-ak.out]
   clear hp ak;go_wp2_with fail
   go_round
   case rel=>exact⟨k+1,N+p.data.length,af,by go_num,by go_num,by omega,HS.out⟩
   case measure=>simp[intOf];omega
  ·have fw:k=l.length:=by omega
   have di:¬(k:Int)<l.length:=by omega
   have hNs:N=gT l:=by rw[ak.out,fw,Aw]
   have HN:=Aa hNs;clear ak fw hNs;by_cases da:64<l.length\/16777216<N
   ·have HF:Hid (cZ l=2):=by show _=_;unfold cZ;rw[<-HN.out,if_pos da]
    by_cases ky:64<l.length
    ·have m5:(64:Int)<l.length:=by omega
     go_wp2_with fail
     go_ret;exact⟨by rw[HF.out];rfl,aB.refl _⟩
    ·have m5:¬(64:Int)<l.length:=by omega
     have zi:(16777216:Int)<N:=by omega
     clear da;go_wp2_with fail
     go_ret;exact⟨by rw[HF.out];rfl,aB.refl _⟩
   ·have ky:l.length<=64:=by omega
    have m5:¬(64:Int)<l.length:=by omega
    have zi:¬(16777216:Int)<N:=by omega
    have HF:Hid (cZ l=if (l.any λp => !azS p.name)=true then 1 else if kT0 l=true then 4 else 0):=by show _=_;unfold cZ;rw[<-HN.out,if_neg da]
    clear da HN;go_wp2_with fail
    go_loop [5] (λi=>∃k:Nat,k<=l.length/\i=.int .i64 k/\Hid (((l.take k).any λp => !azS p.name)=false)) (λi=>l.length-(intOf i).toNat)
    case atStart=>exact⟨0,Ag _,rfl,rfl⟩
    case round =>
     obtain⟨k,hk,rfl,ak⟩:=hrel;by_cases af:k<l.length
     ·obtain⟨p,hp⟩:∃p,l[k]?=some p:=⟨_,Ad af⟩
      obtain⟨b,o,rfl,c0,c1⟩:=HC.out k p hp;have fm:=nG0 p.name w (by have:=HNM.out p (Ac hp);omega);have HP:=Aa hp;cases oq:azS p.name
      ·have HB:Hid (cZ l=1):=by
        show _=_
        rw[HF.out,if_pos (List.any_eq_true.2 ⟨p,Ac hp,by rw[oq];rfl⟩)]
       rw[oq]at fm;clear hp ak oq;go_wp2_with fail
       refine fm.mono ?_;rintro e w1 ⟨rfl,rfl⟩;go_wp2_with fail
       go_ret;exact⟨by rw[HB.out];rfl,aB.refl _⟩
      ·have HI:Hid (((l.take (k+1)).any λp => !azS p.name)=false):=by
        show _=_
        rw[aY hp,Ba,ak.out];simp[oq]
       rw[oq]at fm;clear hp ak oq;go_wp2_with fail
       refine fm.mono ?_;rintro e w1 ⟨rfl,rfl⟩;go_wp2_with fail
       go_round
       case rel=>exact⟨k+1,af,by go_num,HI.out⟩
       case measure=>simp[intOf];omega
     ·have fw:k=l.length:=by omega
      have di:¬(k:Int)<l.length:=by omega
      have HF2:Hid (cZ l=if kT0 l=true then 4 else 0):=by
       show _=_
       have h1:=ak.out;rw[fw,Aw]at h1;rw[HF.out,h1];simp
      clear ak fw HF;go_wp2_with fail
      go_loopw [6] (λi wr=>∃k:Nat,k<=l.length/\i=.int .i64 k/\Hid (kT0 l=pN (l.drop k) ((l.take k).map (·.name)))/\aB w wr) (λi _=>l.length-(intOf i).toNat)
      case atStart=>exact⟨0,Ag _,rfl,rfl,aB.refl _⟩
      case round =>
       obtain⟨i,hi,rfl,ak,hg⟩:=hrel;by_cases af:i<l.length
       ·obtain⟨p,hp⟩:∃p,l[i]?=some p:=⟨_,Ad af⟩
        obtain⟨b,o,rfl,c0,_⟩:=HC.out i p hp;have d9:=ak.out;rw[qL0 hp]at d9;have HI:=Aa d9;clear d9 ak hp;go_wp2_with fail
        obtain⟨u0,rfl⟩:=exq wr;go_loopw [7] (λk wr=>∃q:Nat,q<=i/\k=.int .i64 q/\Hid ((((l.take q).map (·.name)).any λs=>seq s p.name)=false)/\aB w wr) (λk _=>i-(intOf k).toNat)
        case atStart=>exact⟨0,Ag _,rfl,rfl,hg⟩
        case round =>
         obtain⟨q,hq,rfl,gj,hg⟩:=hrel;by_cases hqi:q<i
         ·obtain⟨r,hr⟩:∃r,l[q]?=some r:=⟨_,Ad (by omega)⟩
          obtain⟨b2,o2,vw,d0,_⟩:=HC.out q r hr;obtain⟨rfl,rfl⟩:b=b2/\o=o2:=by simpa using vw
          have y0:∀x:Ext aB wr.drew,x.u.cell? ⟨b,o+i*2,none⟩=some (.string p.name):=aG (hg.dr.cell c0);have y1:∀x:Ext aB wr.drew,x.u.cell? ⟨b,o+q*2,none⟩=some (.string r.name):=aG (hg.dr.cell d0);have hql:(q:Int)<l.length:=by omega
          by_cases he:seq r.name p.name=true
          ·have hb:(r.name.toList==p.name.toList)=true:=he
           have HB:Hid (cZ l=4):=by
            have h1:((l.take i).map (·.name)).any (λs=>seq s p.name)=true:=by
             rw[List.any_eq_true];refine⟨r.name,?_,he⟩;rw[List.mem_map];exact⟨r,Ac (i:=q) (by rw[List.getElem?_take,if_pos hqi];exact hr),rfl⟩
            show _=_
            rw[HF2.out,HI.out,h1];simp
           clear he hr gj;go_wp2_with fail
           refine bH (aT 11 []) (by kernel_rfl) (λd _ _ _ _ h=>by cases d<;>exact h) ?_
           iterate 11 (refine aJ rfl (λK hK=>?_);go_simp;refine hK _ ?_;clear hK K)
           refine bN ?_;go_wp2_with fail
           go_ret;exact⟨by rw[HB.out];rfl,hg.dr⟩
          ·have hb:(r.name.toList==p.name.toList)=false:=by
            have h1:seq r.name p.name=false:=by simpa using he
            exact h1
           have HNO:Hid ((((l.take (q+1)).map (·.name)).any λs=>seq s p.name)=false):=by
            show _=_
            rw[aY hr,Bh,Ba,gj.out];simp only[Be,Cf,Cc,List.any_nil,Bq,Cd];exact hb
           clear he hr gj;go_wp2_with fail
           refine bH (aT 11 []) (by kernel_rfl) (λd _ _ _ _ h=>by cases d<;>exact h) ?_
           iterate 11 (refine aJ rfl (λK hK=>?_);go_simp;refine hK _ ?_;clear hK K)
           refine bN ?_;go_wp2_with fail
           go_roundw
           case rel=>exact⟨q+1,hqi,by go_num,HNO.out,hg.dr⟩
           case measure=>simp[intOf];omega
         ·have hqe:q=i:=by omega
          have akn:¬(q:Int)<i:=by omega
          have HN:Hid (kT0 l=pN (l.drop (i+1)) ((l.take (i+1)).map (·.name))):=by
           show _=_
           rw[HI.out,<-hqe,gj.out];rfl
          clear gj hqe;go_wp2_with fail
          go_roundw
          case rel=>exact⟨i+1,af,by go_num,HN.out,hg⟩
          case measure=>simp[intOf];omega
       ·have fw:i=l.length:=by omega
        have di:¬(i:Int)<l.length:=by omega
        have HB:Hid (cZ l=0):=by
         show _=_
         rw[HF2.out,ak.out,fw,Bf];simp[pN]
        clear ak fw;go_wp2_with fail
        go_ret;exact⟨by rw[HB.out];rfl,hg⟩
theorem zV0 (l:List bD) (a:Option Addr) (c:Nat) (w:World) (hl:l.length<=1000000) (ah:aF w a 2 (l.map iL)) (kj:gX w l) :
  Calls Tryz.prog 120 #[.slice a l.length c] w (tA l w):=by
 have CC:=Aa (sK0 l a c w hl ah kj)
 have bj:∀k p,l[k]?=some p->∃b o,a=some ⟨b,o,none⟩/\w.cell? ⟨b,o+k*2,none⟩=some (.string p.name)/\w.cell? ⟨b,o+k*2+1,none⟩=some (.slice p.a p.data.length p.c):=by
  intro k p hp;obtain⟨b,o,ha,hc⟩:=aF.get (enc:=iL) ah (aH (List.getElem?_eq_some_iff.1 hp).1);exact⟨b,o,ha,hc k p hp 0 _ rfl,hc k p hp 1 _ rfl⟩
 have HC:=Aa bj;have HPA:=Aa kj;clear bj ah kj;by_cases be:cZ l=0
 case neg =>
  have HNE:=Aa be;obtain⟨E,hE⟩:∃E,cZ l=E:=⟨_,rfl⟩;have HE:=Aa hE;rw[hE]at CC be;have hEb:((E:Int) != 0)=true:=by rw[bne_iff_ne];omega
  clear hE be;go_enter Tryz.func120,Tryz.ntmps120
  go_wp2_with fail
  refine CC.out.mono ?_;rintro e w1 ⟨rfl,aq⟩;go_wp2_with fail
  refine bodyPost_ret (v:=.tuple #[.slice none 0 0,.int .i64 E]) (by simp[results,Tryz.results120,go_sem]) rfl ⟨λh=>absurd h HNE.out,λ_=>by rw[HE.out],aq⟩
 have HOK:=Aa be;rw[be]at CC;obtain⟨ad9,na,oq,_⟩:=eT0 be;have HAZ:=Aa (eO0 oq);have HBL:=Aa (dB0 be);have hul:=bK l.length;have HU16:=Aa (qC (eO0 oq));clear oq be;go_enter Tryz.func120,Tryz.ntmps120
 go_wp2_with (first|(go_at_call 176;refine CC.out.mono ?_;rintro e w1 ⟨rfl,aq⟩)|(go_at_call 177;refine(lV l.length _ (by omega)).mono ?_;rintro e w2 ⟨v2,rfl,aj,an⟩;obtain⟨a2,c2,rfl,_,_,gz⟩:=aj.at_ aR.len;have ii:=bC aj;have ace:=(fY (enc:=aQ) (e:=5) (w:=w1) (base:=w.heap.size) (λ_=>rfl) aq.size [72,78,75,49] (cs:=#[.int .u8 72,.int .u8 78,.int .u8 75,.int .u8 49]) rfl (n:=4) rfl (by decide)).grows an;have hgL:=(aq.al (.cells #[.int .u8 72,.int .u8 78,.int .u8 75,.int .u8 49] 5)).tr an)|(at_builtin;refine dE aR rfl _ _ rfl w.heap.size _ [72,78,75,49] (putU l.length) rfl ace (aB.refl _) a2 c2 rfl gz ii (by simp only[Ao,Bi];omega) hgL.size ?_;intro v3 w3 bd bu;have jq:=bu w hgL (Af _);clear bu hgL ace gz ii aj))
 go_loopw [5,6] (λout i wr=>∃(k:Nat) (acc:List UInt8),k<=l.length/\i=.int .i64 k/\Hid (acc=([72,78,75,49]++putU l.length)++cP (l.take k))/\aO wr w.heap.size 5 1 aQ out acc/\aB w wr) (λ_ i _=>l.length-(intOf i).toNat)
 case atStart=>exact⟨0,_,Ag _,rfl,(by show _=_;simp[cP]),bd,jq⟩
 case round =>
  obtain⟨k,acc,hk,rfl,bk,ae,hg⟩:=hrel
  have li:acc.length<=20+k*36:=by
   rw[bk.out,Ab,Ab];have h1:=qC (l:=l.take k) (λp hp=>HAZ.out p (Au hp));rw[Aq]at h1;have h2:min k l.length*36<=k*36:=Av _ (by omega);simp only[Ao,Bi];omega
  by_cases af:k<l.length
  ·obtain⟨p,hp⟩:∃p,l[k]?=some p:=⟨_,Ad af⟩
   obtain⟨b,o,rfl,d0,d1⟩:=HC.out k p hp;have c0:=hg.cell d0;have c1:=hg.cell d1;have i7:=HAZ.out p (Ac hp);have hpd:=HPA.out.data p (Ac hp);have aea:=mX p.name;have aeb:=bK p.data.length
   have HN:Hid ((acc++rZ p.name)++putU p.data.length=([72,78,75,49]++putU l.length)++cP (l.take (k+1))):=by
    show _=_
    rw[aY hp,zZ,bk.out];simp only[Ae]
   have di:(k:Int)<l.length:=by omega
   have acv:IntKind.u64.wrap (p.data.length:Int)=p.data.length:=by simp[Aj,Ak,Ah];omega
   clear hp bk d0;go_wp2_with (first|(go_at_call 178;refine(iH0 p.name _ (by omega)).mono ?_;rintro e w4 ⟨v4,rfl,bv,cd⟩;obtain⟨a4,c4,rfl,_,_,me⟩:=bv.at_ aR.len;have hn4:=bC bv;have ix:=ae.grows cd;have ep:=hg.tr cd;replace c1:=cd.cell c1;clear ae bv c0)|(at_builtin;refine dE aR rfl _ _ rfl w.heap.size _ acc (rZ p.name) rfl ix (aB.refl _) a4 c4 rfl me hn4 (by omega) ep.size ?_;intro v5 w5 ai bg;have aa3:=bg w ep (Af _);clear bg ix ep me hn4;have c1:w5.cell? ⟨b,o+k*2+1,none⟩=some (.slice p.a p.data.length p.c):=aa3.cell d1)|(go_at_call 177;refine(lV p.data.length _ (by omega)).mono ?_;rintro e w6 ⟨v6,rfl,cp,de⟩;obtain⟨a6,c6,rfl,_,_,yf⟩:=cp.at_ aR.len;have hn6:=bC cp;have aah:=ai.grows de;have j5:=aa3.tr de;clear ai cp)|(at_builtin;refine dE aR rfl _ _ rfl w.heap.size _ (acc++rZ p.name) (putU p.data.length) rfl aah (aB.refl _) a6 c6 rfl yf hn6 (by rw[Ab];omega) j5.size ?_;intro v7 w7 bi ck))
   go_roundw
   case rel=>exact⟨k+1,_,af,by go_num,HN.out,bi,ck w j5 (Af _)⟩
   case measure=>simp[intOf];omega
  ·have di:¬(k:Int)<l.length:=by omega
   have HA:Hid (acc=([72,78,75,49]++putU l.length)++cP l):=by
    show _=_
    rw[bk.out,Al (by omega)]
   clear bk;go_wp2_with fail
   obtain⟨u0,rfl⟩:=exq wr;go_loopw [5,7] (λout i wr=>∃(k:Nat) (cq:List UInt8),k<=l.length/\i=.int .i64 k/\Hid (cq=acc++cY (l.take k))/\aO wr w.heap.size 5 1 aQ out cq/\aB w wr) (λ_ i _=>l.length-(intOf i).toNat)
   case atStart=>exact⟨0,_,Ag _,rfl,(by show _=_;simp[cY]),ae,hg⟩
   case round =>
    obtain⟨k,cq,hk,rfl,dy,ae,hg⟩:=hrel;by_cases af:k<l.length
    ·obtain⟨p,hp⟩:∃p,l[k]?=some p:=⟨_,Ad af⟩
     obtain⟨b,o,rfl,d0,d1⟩:=HC.out k p hp;have c1:=hg.cell d1;have hpd:=HPA.out.data p (Ac hp);have aec:=(HPA.out.at_ p (Ac hp)).grows hg;have ga:=HPA.out.none_ p (Ac hp)
     have HN:Hid (cq++p.data=acc++cY (l.take (k+1))):=by
      show _=_
      rw[aY hp,bB0,dy.out,Ae]
     have afw:cq.length<=3000+64*1099511627776:=by
      rw[dy.out,Ab,uQ];have h1:=nK0 (l:=l.take k) (n:=1099511627776) (λp hp=>HPA.out.data p (Au hp));rw[Aq]at h1;have h2:min k l.length*1099511627776<=64*1099511627776:=Av _ (by omega);omega
     clear hp dy d0 d1;go_wp2_with (at_builtin;refine dE aR rfl _ _ rfl w.heap.size _ cq p.data rfl ae (aB.refl _) p.a p.c rfl aec ga (by omega) hg.size ?_;intro v7 w7 bi ck)
     go_roundw
     case rel=>exact⟨k+1,_,af,by go_num,HN.out,bi,ck w hg (Af _)⟩
     case measure=>simp[intOf];omega
    ·have di:¬(k:Int)<l.length:=by omega
     have HB:Hid (cq=dD l):=by
      show _=_
      rw[dy.out,HA.out,Al (by omega)];rfl
     have fp:cq.length<=16800000:=by rw[HB.out];exact HBL.out
     have fu:crcSum cq<4294967296:=Bb (n:=32) (eW0 _ (by decide)) (by decide);have hl4:(leB 4 (crcSum cq)).length=4:=cE _ _;obtain⟨a8,c8,rfl,_,_,pr⟩:=ae.at_ aR.len;clear dy;go_wp2_with (first|(go_at_call 180;refine(dT1 cq a8 c8 _ (by omega) pr).mono ?_;rintro e w9 ⟨rfl,rfl⟩)|(go_at_call 179;refine(yM0 (crcSum cq) _ fu).mono ?_;rintro e w9 ⟨v9,rfl,du,ft⟩;obtain⟨a9,c9,rfl,_,_,aed⟩:=du.at_ aR.len;have hn9:=bC du;have ix:=ae.grows ft;have ep:=hg.tr ft;clear ae du)|(at_builtin;refine dE aR rfl _ _ rfl w.heap.size _ cq (leB 4 (crcSum cq)) rfl ix (aB.refl _) a9 c9 rfl aed hn9 (by omega) ep.size ?_;intro v10 w10 el et))
     have HF:Hid (cq++leB 4 (crcSum cq)=file14 l):=by show _=_;rw[HB.out];rfl
     refine bodyPost_ret (v:=.tuple #[v10,.int .i64 0]) (by simp[results,Tryz.results120,go_sem]) rfl ⟨λ_=>⟨v10,rfl,by rw[<-HF.out];exact el⟩,λh=>absurd HOK.out h,et w ep (Af _)⟩
end
section
open Go Go.RowKit Go.Shelf
attribute [local go_sem] aM aP
theorem oL0 {R q:Nat} (hR:R<4294967296) (hq:crc4 R=R/16 ^^^ q) (hql:q<4294967296):bits .xor .u32 ((R:Int)/16) (q:Int)=((crc4 R:Nat):Int):=by
 have h:=u32_xor_nat (R/16) q (by omega) hql;rw[hq,<-h];rfl
theorem dL0:∀(i q:Nat),jY[i]?=some q->q<4294967296:=by
 intro i q h;have h1:=Ac h;simp[jY]at h1;omega
theorem eO1 {R:Nat} (hR:R<4294967296):bits .and .u32 (R:Int) 15=((R%16:Nat):Int):=by
 have h:=u32_and_nat R 15 hR (by decide);rw[nat_mask4]at h;exact h
theorem tY0 (b:List UInt8) (a:Option Addr) (c:Nat) (w:World) (he:Env w) (hb:b.length<=1099511627776) (ah:aF w a 1 (b.map aQ)) :
  Calls Tryz.prog 186 #[.int .u32 0,.slice a b.length c] w λe w'=>e=.returned (.int .u32 (crcSum b))/\w=w':=by
 have HAT:=Aa ah;clear ah;go_enter Tryz.func186,Tryz.ntmps186
 go_wp2_with fail
 go_loop [5,12] (λr i=>∃k R:Nat,k<=b.length/\i=.int .i64 k/\r=.int .u32 R/\R<4294967296/\Hid (R=bU0 4294967295 (b.take k))) (λ_ i=>b.length-(intOf i).toNat)
 case atStart=>exact⟨0,4294967295,Ag _,rfl,rfl,by decide,rfl⟩
 case round =>
  obtain⟨k,R,hk,rfl,rfl,hR,ak⟩:=hrel;by_cases af:k<b.length
  ·obtain⟨x,hx⟩:∃x,b[k]?=some x:=⟨_,Ad af⟩
   obtain⟨bb,bo,rfl,hc⟩:=at1 HAT.out (aH af);have jy:=hc k x hx;have HN:Hid (iQ1 (R ^^^ x.toNat)=bU0 4294967295 (b.take (k+1))):=by show _=_;rw[aY hx,uP,<-ak.out]
   have ae2:=x.toNat_lt;have hxo:=u32_xor_nat R x.toNat hR (by omega);obtain⟨X,hX⟩:=exq (R ^^^ x.toNat);have hXl:X<4294967296:=by rw[hX];exact Bb (n:=32) hR (by omega)
   rw[<-hX]at hxo HN;obtain⟨q1,hq1,gk⟩:=eA0 X;obtain⟨Y,hY⟩:=exq (crc4 X);have hYl:Y<4294967296:=by rw[hY];exact vO hXl
   have e1:=oL0 hXl gk (dL0 _ _ hq1);rw[<-hY]at e1;obtain⟨q2,b9,ir⟩:=eA0 Y;obtain⟨Z,hZ⟩:=exq (crc4 Y);have hZl:Z<4294967296:=by rw[hZ];exact vO hYl
   have e2:=oL0 hYl ir (dL0 _ _ b9);rw[<-hZ]at e2;have HN2:Hid (Z=bU0 4294967295 (b.take (k+1))):=by show _=_;rw[hZ,hY,<-HN.out];rfl
   have a1:=eO1 hXl;have a2:=eO1 hYl;obtain⟨i1,hi1⟩:=exq (X%16);obtain⟨i2,gb⟩:=exq (Y%16);rw[<-hi1]at a1 hq1;rw[<-gb]at a2 b9;have g1:=he.crc i1 q1 hq1;have g2:=he.crc i2 q2 b9;have l1:(i1:Int)<16:=by omega
   have l2:(i2:Int)<16:=by omega
   clear hc hx ak hX hY hZ hq1 b9 gk ir HN hi1 gb;go_wp2_with fail
   go_round
   case rel=>exact⟨k+1,Z,af,by go_num,rfl,hZl,HN2.out⟩
   case measure=>simp[intOf];omega
  ·have fw:k=b.length:=by omega
   have di:¬(k:Int)<b.length:=by omega
   have dz:R ^^^ 4294967295=crcSum b:=by rw[ak.out,fw,Aw];rfl
   have hx:bits .xor .u32 IntKind.u32.max (R:Int)=((crcSum b:Nat):Int):=by
    rw[<-dz,Nat.xor_comm];exact u32_xor_nat 4294967295 R (by decide) hR
   clear ak fw dz;go_wp2_with fail
   go_ret;exact⟨rfl,rfl⟩
theorem qR0 (b:List UInt8) (a:Option Addr) (c:Nat) (w:World) (he:Env w) (hb:b.length<=1099511627776) (ah:aF w a 1 (b.map aQ)) :
  Calls Tryz.prog 125 #[.slice a b.length c] w λe w'=>e=.returned (.int .u32 (crcSum b))/\w=w':=by
 go_enter Tryz.func125,Tryz.ntmps125
 go_wp2_with fail
 refine(tY0 b a c w he hb ah).mono ?_;rintro e w1 ⟨rfl,rfl⟩;go_wp2_with fail
 go_ret;exact⟨rfl,rfl⟩
theorem vR (b:List UInt8) (a:Option Addr) (c:Nat) (w:World) (he:Env w) (hb:b.length<=1099511627776) (ah:aF w a 1 (b.map aQ)) :
  Calls Tryz.prog 68 #[.slice a b.length c] w λe w'=>∃v,e=.returned v/\aO w' w.heap.size 5 1 aQ v (leB 4 (crcSum b))/\aB w w':=by
 have fu:crcSum b<4294967296:=Bb (n:=32) (eW0 _ (by decide)) (by decide);have CS:=Aa (qR0 b a c w he hb ah);obtain⟨n,hn⟩:=exq (crcSum b);rw[<-hn]at fu CS ⊢;have HH:=Aa (hV0 n fu);clear hn;go_enter Tryz.func68,Tryz.ntmps68
 go_wp2_with fail
 refine CS.out.mono ?_;rintro e w1 ⟨rfl,rfl⟩;go_wp2_with fail
 go_ret;exact⟨_,rfl,fY (enc:=aQ) (λ_=>rfl) (Af _) (leB 4 n) HH.out (n:=4) (by simp[cE]) (by decide),aB.alloc _ _⟩
end
section
open Go Go.RowKit
attribute [local go_sem] aM aP
def mD (p:bT):List UInt8:=rZ p.name++putU p.kind.toNat
def zK0 (l:List bT):List UInt8:=putU l.length++l.flatMap mD
theorem hC0 (l:List bT) (p:bT):(l++[p]).flatMap mD=l.flatMap mD++mD p:=by simp
theorem rG0 {p:bT} (h:p.name.size<=16):(mD p).length<=40:=by
 have h1:=mX p.name;have h2:=bK p.kind.toNat;unfold mD;rw[Ab];omega
theorem rI {l:List bT} (h:∀p∈l,p.name.size<=16):(l.flatMap mD).length<=l.length*40:=by
 induction l with
 | nil=>simp
 | cons p l ih =>
  rw[Ay,Ab,Ao,Bt];have h1:=ih (λq hq=>h q (by simp[hq]));have h2:=rG0 (h p (by simp));omega
theorem lZ0 {s:ByteArray} (h:iI s=true):s.size<=16:=by
 rw[wF]at h;simp only[Ap,decide_eq_true_eq]at h;exact h.1.2
theorem cV0 (L:List bT):∀(l:List bT) (i j:Nat) (p:bT),iN L l i=true->l[j]?=some p->sB L (i+j) p=true
 | [],_,_,_,_,h=>by simp at h
 | q::l,i,0,p,h,hp=>by
  rw[iN]at h;simp only[Ap]at h;obtain rfl:q=p:=by simpa using hp
  exact h.1
 | q::l,i,j+1,p,h,hp=>by
  rw[iN]at h;simp only[Ap]at h
  have:=cV0 L l (i+1) j p h.2 (by simpa using hp)
  rw[show i+(j+1)=i+1+j by omega];exact this
theorem fK {l:List bT} (h:bP l=true):l.length<=64/\∀p∈l,p.name.size<=16/\0<=p.kind/\p.kind<=2:=by
 unfold bP at h
 cases l with
 | nil=>cases h
 | cons q r =>
  simp only[Ap,decide_eq_true_eq]at h;refine⟨by have:=h.1;simp at this ⊢;omega,λp hp=>?_⟩;obtain⟨j,hj⟩:=List.mem_iff_getElem?.1 hp
  have:=cV0 _ _ 0 j p h.2 hj
  unfold sB at this;simp only[Ap,decide_eq_true_eq]at this;exact⟨lZ0 this.1.1.2,this.1.2,this.2⟩
theorem jE (xs:List UInt8) (a:Option Addr) (c n:Nat) (w:World) (hx:xs.length<=1099511627776) (hv:n<18446744073709551616) (ah:aF w a 1 (xs.map aQ)) (hn:a=none->c=0) :
  Calls Tryz.prog 98 #[.slice a xs.length c,.int .u64 n] w λe w'=>∃v,e=.returned v/\aO w' w.heap.size 5 1 aQ v (xs++putU n)/\aB w w':=by
 have CC:=Aa (jY0 xs a c w hx ah hn);clear ah hn;go_enter Tryz.func98,Tryz.ntmps98
 go_wp2_with fail
 refine CC.out.mono ?_;rintro e w1 ⟨v1,rfl,ax,aq⟩;obtain⟨a1,c1,rfl,h11,h12,dw⟩:=ax.at_ aR.len;have j6:=bC ax;go_wp2_with fail
 refine(pN0 xs a1 c1 w1 h11).mono ?_;rintro e w2 ⟨rfl,rfl⟩;have jn:Src w1 w.heap.size (.slice a1 xs.length xs.length) xs:=Or.inr ⟨a1,rfl,dw,λh=>Ar (by have:=j6 h;omega)⟩;clear ax dw j6 CC;go_wp2_with fail
 go_loopw [0,1] (λb v wr=>∃(k:Nat) (pre:List UInt8),v=.int .u64 k/\Src wr w.heap.size b (xs++pre)/\Hid (pre++putU k=putU n)/\k<18446744073709551616/\aB w wr) (λ_ v _=>(intOf v).toNat)
 case atStart=>exact⟨n,[],rfl,by rw[List.append_nil];exact jn,rfl,hv,aq⟩
 case round =>
  obtain⟨k,pre,rfl,hs,hp,hk,hg⟩:=hrel
  have jd:pre.length<=10:=by
   have h1:=congrArg List.length hp.out;have h2:=bK n;rw[Ab]at h1;omega
  by_cases ul:128<=k
  ·have di:(128:Int)<=k:=by omega
   have hb:=Aa (iM0 k);rw[pU ul hk]at hp;go_wp2_with (at_builtin;refine eG0 rfl _ _ rfl w.heap.size _ (xs++pre) (Am (k%128+128)) rfl hs (aB.refl _) _ 1 rfl _ (by rw[hb.out];rfl) rfl (by rw[Ab];omega) hg.size ?_;intro v' w5 ai bg)
   go_roundw
   case rel=>exact⟨k/128,pre++[Am (k%128+128)],by go_num,Or.inl (by rw[<-Ae];exact ai),by show (pre++[_])++putU (k/128)=putU n;rw[Ae];exact hp.out,by omega,bg w hg (Af _)⟩
   case measure=>simp[intOf];omega
  ·have di:¬(128:Int)<=k:=by omega
   have hb:=Aa (eQ0 (k:=k) (by omega));rw[gS (by omega)]at hp;go_wp2_with (at_builtin;refine eG0 rfl _ _ rfl w.heap.size _ (xs++pre) (Am k) rfl hs (aB.refl _) _ 1 rfl _ (by rw[hb.out];rfl) rfl (by rw[Ab];omega) hg.size ?_;intro v' w5 ai bg)
   go_ret;refine⟨_,rfl,?_,bg w hg (Af _)⟩;rw[<-hp.out,<-Ae];exact ai
theorem yJ (xs:List UInt8) (a:Option Addr) (c:Nat) (s:ByteArray) (w:World) (hx:xs.length<=1099511627776) (hs:s.size<=1099511627776) (ah:aF w a 1 (xs.map aQ)) (hn:a=none->c=0) :
  Calls Tryz.prog 99 #[.slice a xs.length c,.string s] w λe w'=>∃v,e=.returned v/\aO w' w.heap.size 5 1 aQ v (xs++rZ s)/\aB w w':=by
 have hl:=bK s.size;have hw:IntKind.u64.wrap (s.size:Int)=s.size:=by simp[Aj,Ak,Ah];omega
 have CU:=Aa (jE xs a c s.size w hx (by omega) ah hn);clear ah hn;go_enter Tryz.func99,Tryz.ntmps99
 go_wp2_with fail
 refine CU.out.mono ?_;rintro e w1 ⟨v1,rfl,ax,aq⟩;go_wp2_with (at_builtin;refine yZ0 rfl _ _ rfl w.heap.size _ _ s rfl ax (aB.refl _) rfl (by rw[Ab];omega) aq.size ?_;intro v2 w2 aj an _)
 go_ret;exact⟨_,rfl,by unfold rZ;rw[<-Ae];exact aj,an w aq (Af _)⟩
theorem dD1 (l:List bT) (a:Option Addr) (c:Nat) (w:World) (hv:bP l=true) (ah:aF w a 2 (l.map bI)) :
  Calls Tryz.prog 121 #[.slice a l.length c] w λe w'=>∃v,e=.returned v/\aO w' w.heap.size 5 1 aQ v (zK0 l)/\aB w w':=by
 obtain⟨ad9,d5⟩:=fK hv;have HALL:=Aa d5;have HAT:=Aa ah;have hul:=bK l.length;have hwl:IntKind.u64.wrap (l.length:Int)=l.length:=by simp[Aj,Ak,Ah];omega
 clear d5 ah hv;go_enter Tryz.func121,Tryz.ntmps121
 go_wp2_with fail
 refine(lV l.length w (by omega)).mono ?_;rintro e w1 ⟨v1,rfl,ax,aq⟩;go_wp2_with fail
 go_loopw [3,4] (λout i wr=>∃(k:Nat) (acc:List UInt8),k<=l.length/\i=.int .i64 k/\Hid (acc=putU l.length++(l.take k).flatMap mD)/\aO wr w.heap.size 5 1 aQ out acc/\aB w wr) (λ_ i _=>l.length-(intOf i).toNat)
 case atStart=>exact⟨0,_,Ag _,rfl,(by show _=_;simp),ax,aq⟩
 case round =>
  obtain⟨k,acc,hk,rfl,bk,ae,hg⟩:=hrel
  have li:acc.length<=10+k*40:=by
   rw[bk.out,Ab];have h1:=rI (l:=l.take k) (λp hp=>(HALL.out p (Au hp)).1);rw[Aq]at h1;have h2:min k l.length*40<=k*40:=Av _ (by omega);omega
  by_cases af:k<l.length
  ·obtain⟨p,hp⟩:∃p,l[k]?=some p:=⟨_,Ad af⟩
   obtain⟨b,o,rfl,hc⟩:=aF.get (enc:=bI) HAT.out (aH af);obtain⟨pn,pk⟩:=p;have d0:w.cell? ⟨b,o+k*2,none⟩=some (.string pn):=hc k _ hp 0 _ rfl;have d1:w.cell? ⟨b,o+k*2+1,none⟩=some (.int .i64 pk):=hc k _ hp 1 _ rfl;have c0:=hg.cell d0;obtain⟨i7,jt,j7⟩:=HALL.out _ (Ac hp);simp only at i7 jt j7;obtain⟨K,rfl⟩:∃K:Nat,pk=K:=⟨pk.toNat,by omega⟩;have aea:=mX pn;have aeb:=bK K;have hwk:IntKind.u64.wrap (K:Int)=K:=by simp[Aj,Ak,Ah];omega
   have HN:Hid ((acc++rZ pn)++putU K=putU l.length++(l.take (k+1)).flatMap mD):=by
    show _=_
    rw[aY hp,hC0,bk.out];simp only[Ae,mD,Bu]
   have di:(k:Int)<l.length:=by omega
   clear hp bk d0 hc;go_wp2_with (first|(go_at_call 178;refine(iH0 pn _ (by omega)).mono ?_;rintro e w4 ⟨v4,rfl,bv,cd⟩;obtain⟨a4,c4,rfl,_,_,me⟩:=bv.at_ aR.len;have hn4:=bC bv;have ix:=ae.grows cd;have ep:=hg.tr cd;clear ae bv c0)|(at_builtin;refine dE aR rfl _ _ rfl w.heap.size _ acc (rZ pn) rfl ix (aB.refl _) a4 c4 rfl me hn4 (by omega) ep.size ?_;intro v5 w5 ai bg;have aa3:=bg w ep (Af _);clear bg ix ep me hn4;have c1:=aa3.cell d1)|(go_at_call 177;refine(lV K _ (by omega)).mono ?_;rintro e w6 ⟨v6,rfl,cp,de⟩;obtain⟨a6,c6,rfl,_,_,yf⟩:=cp.at_ aR.len;have hn6:=bC cp;have aah:=ai.grows de;have j5:=aa3.tr de;clear ai cp)|(at_builtin;refine dE aR rfl _ _ rfl w.heap.size _ (acc++rZ pn) (putU K) rfl aah (aB.refl _) a6 c6 rfl yf hn6 (by rw[Ab];omega) j5.size ?_;intro v7 w7 bi ck))
   go_roundw
   case rel=>exact⟨k+1,_,af,by go_num,HN.out,bi,ck w j5 (Af _)⟩
   case measure=>simp[intOf];omega
  ·have di:¬(k:Int)<l.length:=by omega
   have HF:Hid (acc=zK0 l):=by
    show _=_
    rw[bk.out,Al (by omega)];rfl
   clear bk;go_wp2_with fail
   go_ret;exact⟨_,rfl,by rw[<-HF.out];exact ae,hg⟩
theorem rW0 (l:List bT) (a:Option Addr) (c:Nat) (w:World) (hv:bP l=true) (ah:aF w a 2 (l.map bI)) :
  Calls Tryz.prog 40 #[.slice a l.length c] w λe w'=>∃v,e=.returned (.tuple #[v,.int .i64 0])/\aO w' w.heap.size 5 1 aQ v (zK0 l)/\aB w w':=by
 obtain⟨ad9,d5⟩:=fK hv;have HALL:=Aa d5;have CC:=Aa (sN l a c w ah (by omega));rw[hv]at CC;have HAT:=Aa ah;have hul:=bK l.length;have hwl:IntKind.u64.wrap (l.length:Int)=l.length:=by simp[Aj,Ak,Ah];omega
 have jt:jZ1 true=0:=rfl;rw[jt]at CC;clear d5 ah hv jt;go_enter Tryz.func40,Tryz.ntmps40
 go_wp2_with fail
 refine CC.out.mono ?_;rintro e w1 ⟨rfl,aq⟩;go_wp2_with fail
 refine(jE [] none 0 l.length w1 (by simp) (by omega) (aF.nil _ _ _) (λ_=>rfl)).mono ?_;rintro e w2 ⟨v2,rfl,aj,an⟩;rw[Bj]at aj;have gq:=aq.tr an;replace aj:=aj.base (base':=w.heap.size) aq.size;clear aq an CC;go_wp2_with fail
 go_loopw [5,19] (λout i wr=>∃(k:Nat) (acc:List UInt8),k<=l.length/\i=.int .i64 k/\Hid (acc=putU l.length++(l.take k).flatMap mD)/\aO wr w.heap.size 5 1 aQ out acc/\aB w wr) (λ_ i _=>l.length-(intOf i).toNat)
 case atStart=>exact⟨0,_,Ag _,rfl,(by show _=_;simp),aj,gq⟩
 case round =>
  obtain⟨k,acc,hk,rfl,bk,ae,hg⟩:=hrel
  have li:acc.length<=10+k*40:=by
   rw[bk.out,Ab];have h1:=rI (l:=l.take k) (λp hp=>(HALL.out p (Au hp)).1);rw[Aq]at h1;have h2:min k l.length*40<=k*40:=Av _ (by omega);omega
  by_cases af:k<l.length
  ·obtain⟨p,hp⟩:∃p,l[k]?=some p:=⟨_,Ad af⟩
   obtain⟨b,o,rfl,hc⟩:=aF.get (enc:=bI) HAT.out (aH af);obtain⟨pn,pk⟩:=p;have c0:wr.cell? ⟨b,o+k*2,none⟩=some (.string pn):=hg.cell (hc k _ hp 0 _ rfl);have c1:wr.cell? ⟨b,o+k*2+1,none⟩=some (.int .i64 pk):=hg.cell (hc k _ hp 1 _ rfl);obtain⟨i7,jt,j7⟩:=HALL.out _ (Ac hp);simp only at i7 jt j7;obtain⟨kd,rfl⟩:∃kd:Nat,pk=kd:=⟨pk.toNat,by omega⟩;have aea:=mX pn;have aeb:=bK kd;have hwk:IntKind.u64.wrap (kd:Int)=kd:=by simp[Aj,Ak,Ah];omega
   have HN:Hid ((acc++rZ pn)++putU kd=putU l.length++(l.take (k+1)).flatMap mD):=by
    show _=_
    rw[aY hp,hC0,bk.out];simp only[Ae,mD,Bu]
   have di:(k:Int)<l.length:=by omega
   have z0:∀x:Ext aB (wr.alloc (.cells #[.string pn,.int .i64 kd] 74)).drew,x.u.cell? ⟨wr.heap.size,0,none⟩=some (.string pn):=aG (aX wr _ _ (0,0) 0 _ rfl);have z1:∀x:Ext aB (wr.alloc (.cells #[.string pn,.int .i64 kd] 74)).drew,x.u.cell? ⟨wr.heap.size,1,none⟩=some (.int .i64 kd):=aG (aX wr _ _ (0,0) 1 _ rfl);obtain⟨ao,co,rfl,_,_,rj⟩:=ae.at_ aR.len;have gj:=bC ae;have ld:aB wr (wr.alloc (.cells #[.string pn,.int .i64 kd] 74)):=aB.alloc _ _;clear hp bk hc ae;go_wp2_with fail
   refine bH (oC [0,1,2,4,5,6,3,7,8] [3,7,8]) (by kernel_rfl) (λd _ _ _ _ h=>by cases d<;>exact h) ?_
   iterate 6 (refine aJ rfl (λK hK=>?_);go_simp;refine hK _ ?_;clear hK K)
   clear z0 z1;refine bM rfl rfl (λK hK=>?_);go_simp;refine(yJ acc ao co pn _ (by omega) (by omega) (rj.grows (ld.dr)) gj).mono ?_;rintro e w3 ⟨v3,rfl,bd,bu⟩;obtain⟨B3,qh⟩:=exq (acc++rZ pn);rw[<-qh]at bd;have kn:B3.length<=10000:=(by rw[qh,Ab];omega);have HB3:=Aa qh;clear qh;obtain⟨a3,c3,rfl,_,_,iv⟩:=bd.at_ aR.len;have pg:=bC bd;clear bd;refine⟨bu,hK _ _ ?_⟩;clear hK K;refine bM rfl rfl (λK hK=>?_);go_simp;refine(jE B3 a3 c3 kd _ (by omega) (by omega) iv pg).mono ?_;rintro e w4 ⟨v4,rfl,bv,cd⟩;refine⟨cd,hK _ _ ?_⟩;clear hK K;iterate 1 (refine bM rfl rfl (λK hK=>?_);go_simp;refine⟨aB.refl _,hK _ _ ?_⟩;clear hK K)
   refine bN ?_;have aa4:=hg.tr ((ld.dr).tr bu);go_wp2_with fail
   go_roundw
   case rel=>exact⟨k+1,_,af,by go_num,(by show _=_;rw[<-HN.out,HB3.out]),bv.base aa4.size,aa4.tr cd⟩
   case measure=>simp[intOf];omega
  ·have di:¬(k:Int)<l.length:=by omega
   have HF:Hid (acc=zK0 l):=by
    show _=_
    rw[bk.out,Al (by omega)];rfl
   clear bk;go_wp2_with fail
   refine bodyPost_ret (v:=.tuple #[_,.int .i64 0]) (by simp[results,Tryz.results40,go_sem];rfl) rfl ⟨_,rfl,by rw[<-HF.out];exact ae,hg⟩
end
section
open Go Go.RowKit Go.Shelf
attribute [local go_sem] aM aP
theorem lI0 (w:World):PredAt Tryz.prog 232 #[] encR rT w:=λW x _=>by
 unfold FnGives;show Calls Tryz.prog 232 #[.int .i32 (x:Int)] W _
 go_enter Tryz.func232,Tryz.ntmps232
 go_wp2
 all_goals (go_ret;refine⟨aZ ?_,0,rfl⟩;rw[Bg];simp[rT];try omega)
theorem tV0 (s:ByteArray) (w:World) (hs:s.size<=9223372036854775807) :
  Calls Tryz.prog 165 #[.string s] w λe w'=>e=.returned (.bool (azS s))/\aB w w':=by
 have fm:=Aa (Tryz.strings_ContainsFunc 232 #[] (enters_of Tryz.func232 (by kernel_rfl) rfl) rT s w (lI0 w));rw[dJ1,zB0 (λc h=>mW0 h)]at fm;unfold azS;generalize (s.data.toList.any λb=>rT b.toNat)=r at fm ⊢;by_cases h1:1<=s.size
 ·have g1:(1:Int)<=s.size:=by omega
  by_cases hz:s.size<=16
  ·have hz':(s.size:Int)<=16:=by omega
   go_enter Tryz.func165,Tryz.ntmps165
   go_wp2_with (go_at_call 78;refine fm.out.mono ?_;rintro e w' ⟨rfl,an⟩)
   go_ret;exact⟨aZ (by simp[h1,hz]),an⟩
  ·have hz':¬(s.size:Int)<=16:=by omega
   go_enter Tryz.func165,Tryz.ntmps165
   go_wp2
   go_ret;exact⟨aZ (by simp<;>omega),aB.refl _⟩
 ·have g1:¬(1:Int)<=s.size:=by omega
  go_enter Tryz.func165,Tryz.ntmps165
  go_wp2
  go_ret;exact⟨aZ (by simp<;>omega),aB.refl _⟩
theorem tO {H:Type} {P:Program} {e:TypeId} (he:P.underlying e=some .bool) {v:Value} {z:DataW H×List MemPlace} (h:plainElem P e v=some z):∃b,v=.bool b/\z=(.lit (.bool b),[]):=by
 unfold plainElem at h;rw[he]at h;cases v<;>simp at h
 exact⟨_,rfl,h.symm⟩
theorem kQ1 (w:World):(zeroValue 4).run Tryz.prog w=.ok (.bool false) w:=by kernel_rfl
def dU1 (l:List ByteArray) (D:DataW Unit):Prop:=∀s:ByteArray,s.size<=maxLen->D.atKey (.string s.data.toList) (.lit (.bool false))=.lit (.bool (l.any λt=>seq t s))
theorem cT0 {w:World} {b n:Nat} {D:DataW Unit} {l:List ByteArray} (hM:dU1 l D) (ae:w.ownsMap Tryz.prog 9 (plainElem Tryz.prog 4) b n D) {s:ByteArray} (hs:s.size<=maxLen) :
  (Instr.lookup 236 (.map (some b)) (.string s) false).run Tryz.prog w=.ok (.bool (l.any λt=>seq t s)) w:=by
 obtain⟨v,ps,jb,hv⟩:=ae.lookup (Maps.string_keyed Tryz.underlying9) Tryz.underlying236 (kQ1 w) (plainElem_bool Tryz.underlying4 false) (WideMaps.keyOf_string_mk Tryz.underlying9 hs);obtain⟨c,rfl,hc⟩:=tO Tryz.underlying4 hv;simp only[Prod.mk.injEq]at hc;rw[hM s hs]at hc
 have:c=l.any λt=>seq t s:=by have:=hc.1;simpa using this.symm
 rw[<-this];exact jb
theorem xT0 {b n:Nat} {w:World} {D:DataW Unit} {l:List ByteArray} (hM:dU1 l D) (ae:w.ownsMap Tryz.prog 9 (plainElem Tryz.prog 4) b n D) (s:ByteArray):dU1 (l++[s]) (D.put (.string s.data.toList) (.lit (.bool true))):=λt ht=>by
 by_cases h:s=t
 ·subst h
  rw[Maps.atKey_put_same ae.isMap (k:=.string s.data.toList) trivial];simp[rK]
 ·have aw:(Lit.string t.data.toList) ≠ .string s.data.toList:=λh2=>h (by
   injection h2 with h3
   exact jD h3.symm)
  rw[Maps.atKey_put_other aw,hM t ht,Ba]
  have:seq s t=false:=mJ.2 h
  simp[this]
theorem dQ0:∀(l:List bD) (p:bD) (seen:List ByteArray),pN (l++[p]) seen=(pN l seen||(seen++l.map (·.name)).any λs=>seq s p.name)
 | [],p,seen=>by simp[pN]
 | q::l,p,seen=>by
  rw[List.cons_append,pN,dQ0 l p (seen++[q.name]),pN];simp[Bool.or_assoc,Ae]
theorem vP0 (l:List bD) (a:Option Addr) (c:Nat) (w:World) (hl:l.length<=1000000) (ah:aF w a 2 (l.map iL)) (kj:gX w l) :
  Calls Tryz.prog 102 #[.slice a l.length c] w λe w'=>e=.returned (.int .i64 (cZ l))/\aB w w':=by
 have HD:=Aa kj.data;have HNM:=Aa kj.name;clear kj
 have bj:∀k p,l[k]?=some p->∃b o,a=some ⟨b,o,none⟩/\w.cell? ⟨b,o+k*2,none⟩=some (.string p.name)/\w.cell? ⟨b,o+k*2+1,none⟩=some (.slice p.a p.data.length p.c):=by
  intro k p hp;obtain⟨b,o,ha,hc⟩:=aF.get (enc:=iL) ah (aH (List.getElem?_eq_some_iff.1 hp).1);exact⟨b,o,ha,hc k p hp 0 _ rfl,hc k p hp 1 _ rfl⟩
 have HC:=Aa bj;clear bj ah;have hmm:=@run_makeMap Tryz.prog;go_enter Tryz.func102,Tryz.ntmps102
 go_wp2_with fail
 have vz:=World.ownsMap_made w Tryz.prog 9 (plainElem (H:=Unit) Tryz.prog 4);have ee:aB w (w.alloc (.map #[] 0)):=aB.alloc _ _;have hbw:w.heap.size<(w.alloc (.map #[] 0)).heap.size:=by simp
 obtain⟨mb,zy⟩:=exq w.heap.size;generalize w.alloc (.map #[] 0)=w1 at vz ee hbw ⊢;rw[<-zy]at vz hbw ⊢;have HMB:=Aa zy;clear zy hmm;go_loopw [3,13] (λn i wr=>∃k N:Nat,k<=l.length/\i=.int .i64 k/\n=.int .i64 N/\N<=k*1099511627776/\Hid (N=gT (l.take k))/\aB w1 wr) (λ_ i _=>l.length-(intOf i).toNat)
 case atStart=>exact⟨0,0,Ag _,rfl,rfl,by omega,rfl,aB.refl _⟩
 case round =>
  obtain⟨k,N,hk,rfl,rfl,hN,ak,hg⟩:=hrel;by_cases af:k<l.length
  ·obtain⟨p,hp⟩:∃p,l[k]?=some p:=⟨_,Ad af⟩
   obtain⟨b,o,rfl,d0,d1⟩:=HC.out k p hp;have c0:=(ee.tr hg).cell d0;have c1:=(ee.tr hg).cell d1;have hd:=HD.out p (Ac hp);have HS:Hid (N+p.data.length=gT (l.take (k+1))):=by show _=_;rw[aY hp,dE0,<-ak.out]
   have di:(k:Int)<l.length:=by omega
   clear hp ak d0 d1;go_wp2_with fail
   go_roundw
   case rel=>exact⟨k+1,N+p.data.length,af,by go_num,by go_num,by omega,HS.out,hg.al _⟩
   case measure=>simp[intOf];omega
  ·have fw:k=l.length:=by omega
   have di:¬(k:Int)<l.length:=by omega
   have hNs:N=gT l:=by rw[ak.out,fw,Aw]
   have HN:=Aa hNs;clear ak fw hNs;by_cases da:64<l.length\/16777216<N
   ·have HF:Hid (cZ l=2):=by show _=_;unfold cZ;rw[<-HN.out,if_pos da]
    by_cases ky:64<l.length
    ·have m5:(64:Int)<l.length:=by omega
     go_wp2_with fail
     go_ret;exact⟨by rw[HF.out];rfl,ee.tr hg⟩
    ·have m5:¬(64:Int)<l.length:=by omega
     have zi:(16777216:Int)<N:=by omega
     clear da;go_wp2_with fail
     go_ret;exact⟨by rw[HF.out];rfl,ee.tr hg⟩
   ·have ky:l.length<=64:=by omega
    have m5:¬(64:Int)<l.length:=by omega
    have zi:¬(16777216:Int)<N:=by omega
    have HF:Hid (cZ l=if (l.any λp => !azS p.name)=true then 1 else if kT0 l=true then 4 else 0):=by show _=_;unfold cZ;rw[<-HN.out,if_neg da]
    have ae6:=bQ vz hg;have fx:=ee.tr hg;clear da HN vz;go_wp2_with fail
    obtain⟨u0,rfl⟩:=exq wr;go_loopw [5,32] (λe i wr=>∃(k E:Nat) (D:DataW Unit),k<=l.length/\i=.int .i64 k/\e=.int .i64 E/\Hid (((l.take k).any λp => !azS p.name)=false/\E=(if kT0 (l.take k)=true then 4 else 0)/\dU1 ((l.take k).map (·.name)) D)/\wr.ownsMap Tryz.prog 9 (plainElem Tryz.prog 4) mb k D/\mb<wr.heap.size/\aB w wr) (λ_ i _=>l.length-(intOf i).toNat)
    case atStart=>exact⟨0,0,.map [],Ag _,rfl,rfl,⟨rfl,rfl,λs _=>rfl⟩,ae6,Ai hbw hg.size,fx⟩
    case round =>
     obtain⟨k,E,D,hk,rfl,rfl,ak,ae,afx,hg⟩:=hrel;by_cases af:k<l.length
     ·obtain⟨p,hp⟩:∃p,l[k]?=some p:=⟨_,Ad af⟩
      obtain⟨b,o,rfl,d0,d1⟩:=HC.out k p hp;have c0:=hg.cell d0;have c1:=hg.cell d1;have i7:=HNM.out p (Ac hp);have fm:=λW=>tV0 p.name W (by omega);have ac5:p.name.size<=maxLen:=by unfold maxLen;omega
      obtain⟨i1,i2,i3⟩:=ak.out;have di:(k:Int)<l.length:=by omega
      cases oq:azS p.name
      ·have HB:Hid (cZ l=1):=by
        show _=_
        rw[HF.out,if_pos (List.any_eq_true.2 ⟨p,Ac hp,by rw[oq];rfl⟩)]
       rw[oq]at fm;clear hp ak oq i1 i2 i3 d0 d1;go_wp2_with fail
       refine(fm _).mono ?_;rintro e w2 ⟨rfl,an⟩;go_wp2_with fail
       go_ret;exact⟨by rw[HB.out];rfl,(hg.al _).tr an⟩
      ·have HI:Hid (((l.take (k+1)).any λp => !azS p.name)=false):=by
        show _=_
        rw[aY hp,Ba,i1];simp[oq]
       have hdu:kT0 (l.take (k+1))=(kT0 (l.take k)||((l.take k).map (·.name)).any λs=>seq s p.name):=by
        unfold kT0;rw[aY hp,dQ0,Bj]
       have HNS:Hid ((l.take (k+1)).map (·.name)=(l.take k).map (·.name)++[p.name]):=by show _=_;rw[aY hp,Bh];rfl
       rw[oq]at fm;have HDU:=Aa hdu;have HI2:=Aa i2;have HI3:=Aa i3;have hM:=xT0 i3 ae p.name;have HM:=Aa hM;clear hp ak oq i1 i2 d0 d1 hdu hM;cases hseen:((l.take k).map (·.name)).any λs=>seq s p.name
       ·have HE:Hid (E=if kT0 (l.take (k+1))=true then 4 else 0):=by show _=_;rw[HDU.out,hseen,Bq];exact HI2.out
        have ud:=λ(W:World) (hW:W.ownsMap Tryz.prog 9 (plainElem Tryz.prog 4) mb k D)=>cT0 i3 hW ac5;rw[hseen]at ud;clear i3 hseen;go_wp2_with fail
        refine(fm _).mono ?_;rintro e w2 ⟨rfl,an⟩;have aj:=bQ ae ((aB.alloc _ _).tr an);have x0:w2.cell? ⟨wr.heap.size,0,none⟩=some (.string p.name):=an.cell (aX wr _ _ (0,0) 0 _ rfl);have aiq:=ud _ aj;have gq:=(hg.al _).tr an;go_wp2_with (at_mapUpdate;refine wpList_mapUpdate_own _ rfl _ _ _ 236 rfl 9 4 (Maps.string_keyed Tryz.underlying9) Tryz.underlying236 _ mb k D rfl aj (by unfold maxLen;omega) _ _ (.string p.name.data.toList) rfl rfl (WideMaps.keyOf_string_mk Tryz.underlying9 ac5) _ [] (plainElem_bool Tryz.underlying4 true) ?_;intro w3 bd mf)
        go_roundw
        case rel=>exact⟨k+1,E,_,af,by go_num,rfl,⟨HI.out,HE.out,by rw[HNS.out];exact HM.out⟩,bd,Ai (Ai (Ai afx (aB.alloc _ _).size) an.size) mf.size,gq.grown mf (λq hq=>by cases hq;exact Cg HMB.out.symm)⟩
        case measure=>simp[intOf];omega
       ·have HE:Hid (4=if kT0 (l.take (k+1))=true then 4 else 0):=by show _=_;rw[HDU.out,hseen,Bool.or_true];rfl
        have ud:=λ(W:World) (hW:W.ownsMap Tryz.prog 9 (plainElem Tryz.prog 4) mb k D)=>cT0 i3 hW ac5;rw[hseen]at ud;clear i3 hseen;go_wp2_with fail
        refine(fm _).mono ?_;rintro e w2 ⟨rfl,an⟩;have aj:=bQ ae ((aB.alloc _ _).tr an);have x0:w2.cell? ⟨wr.heap.size,0,none⟩=some (.string p.name):=an.cell (aX wr _ _ (0,0) 0 _ rfl);have aiq:=ud _ aj;have gq:=(hg.al _).tr an;go_wp2_with (at_mapUpdate;refine wpList_mapUpdate_own _ rfl _ _ _ 236 rfl 9 4 (Maps.string_keyed Tryz.underlying9) Tryz.underlying236 _ mb k D rfl aj (by unfold maxLen;omega) _ _ (.string p.name.data.toList) rfl rfl (WideMaps.keyOf_string_mk Tryz.underlying9 ac5) _ [] (plainElem_bool Tryz.underlying4 true) ?_;intro w3 bd mf)
        go_roundw
        case rel=>exact⟨k+1,4,_,af,by go_num,rfl,⟨HI.out,HE.out,by rw[HNS.out];exact HM.out⟩,bd,Ai (Ai (Ai afx (aB.alloc _ _).size) an.size) mf.size,gq.grown mf (λq hq=>by cases hq;exact Cg HMB.out.symm)⟩
        case measure=>simp[intOf];omega
     ·have fw:k=l.length:=by omega
      have di:¬(k:Int)<l.length:=by omega
      have HB:Hid (cZ l=E):=by
       obtain⟨i1,i2,_⟩:=ak.out;show _=_
       rw[fw,Aw]at i1 i2;rw[HF.out,i1,i2];simp
      clear ak fw;go_wp2_with fail
      go_ret;exact⟨by rw[HB.out];rfl,hg⟩
theorem qR {α:Type} {enc:α->List Value} {k:Nat} (hk:∀x,(enc x).length=k) {w:World} {cs:Array Value} {t:TypeId} {fz:Nat×Nat} (xs:List α) (dz:cs.toList=xs.flatMap enc):aF (w.alloc (.cells cs t fz)) (some ⟨w.heap.size,0,none⟩) k (xs.map enc):=λ_=>⟨w.heap.size,0,rfl,λi row hi j u hj=>by
 rw[Bv]at hi
 cases hx:xs[i]? with
 | none=>rw[hx]at hi;cases hi
 | some x =>
  rw[hx]at hi;obtain rfl:=Option.some.inj hi;have h:=yB hk xs i j x u hx hj;rw[<-dz]at h;have h2:=aX w cs t fz (i*k+j) u (by simpa using h);simpa using h2⟩
theorem oT0 (l:List bD) (a:Option Addr) (c:Nat) (w:World) (he:Env w) (hl:l.length<=1000000) (ah:aF w a 2 (l.map iL)) (kj:gX w l) :
  Calls Tryz.prog 48 #[.slice a l.length c] w (tA l w):=by
 have CC:=Aa (vP0 l a c w hl ah kj)
 have bj:∀k p,l[k]?=some p->∃b o,a=some ⟨b,o,none⟩/\w.cell? ⟨b,o+k*2,none⟩=some (.string p.name)/\w.cell? ⟨b,o+k*2+1,none⟩=some (.slice p.a p.data.length p.c):=by
  intro k p hp;obtain⟨b,o,ha,hc⟩:=aF.get (enc:=iL) ah (by grind);exact⟨b,o,ha,hc k p hp 0 _ rfl,hc k p hp 1 _ rfl⟩
 have HC:=Aa bj;have HPA:=Aa kj;clear bj ah kj;by_cases be:cZ l=0
 case neg =>
  have HNE:=Aa be;obtain⟨E,hE⟩:∃E,cZ l=E:=⟨_,rfl⟩;have HE:=Aa hE;rw[hE]at CC be;have hEb:((E:Int) != 0)=true:=by rw[bne_iff_ne];omega
  clear hE be;go_enter Tryz.func48,Tryz.ntmps48
  go_wp2_with fail
  refine CC.out.mono ?_;rintro e w1 ⟨rfl,aq⟩;go_wp2_with fail
  refine bodyPost_ret (v:=.tuple #[.slice none 0 0,.int .i64 E]) (by simp[results,Tryz.results48,go_sem]) rfl (by grind [Go.RowKit.Hid.out,tA])
 have HOK:=Aa be;rw[be]at CC;obtain⟨ad9,na,oq,_⟩:=eT0 be;have HAZ:=Aa (eO0 oq);have HBL:=Aa (dB0 be);have hul:=bK l.length;clear oq be;go_enter Tryz.func48,Tryz.ntmps48
 go_wp2_with fail
 refine CC.out.mono ?_;rintro e w1 ⟨rfl,aq⟩;have hcv:=Lib.run_convert_bytes_const (P:=Tryz.prog) w1 24 5 #[.int .u8 72,.int .u8 78,.int .u8 75,.int .u8 49] 4 4 Tryz.underlying24 Tryz.underlying5;simp only[show (#[Value.int .u8 72,.int .u8 78,.int .u8 75,.int .u8 49]:Array Value).size=4 from rfl]at hcv
 go_wp2_with fail
 clear hcv;have mc:aF (w1.alloc (.cells #[.int .u8 72,.int .u8 78,.int .u8 75,.int .u8 49] 5 (4,5))) (some ⟨w1.heap.size,0,none⟩) 1 (([72,78,75,49]:List UInt8).map aQ):=by grind [qR,aQ]
 refine(jE [72,78,75,49] (some ⟨w1.heap.size,0,none⟩) 4 l.length _ (by decide) (by omega) mc (λh=>by cases h)).mono ?_;rintro e w2 ⟨v2,rfl,aj,an⟩;have gq:=(aq.al _).tr an;replace aj:=aj.base (base':=w.heap.size) (aq.al _).size;clear mc an aq CC;go_wp2_with fail
 go_loopw [5,23] (λout i wr=>∃(k:Nat) (acc:List UInt8),k<=l.length/\i=.int .i64 k/\Hid (acc=([72,78,75,49]++putU l.length)++cP (l.take k))/\aO wr w.heap.size 5 1 aQ out acc/\aB w wr) (λ_ i _=>l.length-(intOf i).toNat)
 case atStart=>exact⟨0,_,Ag _,rfl,(by show _=_;simp[cP]),aj,gq⟩
 case round =>
  obtain⟨k,acc,hk,rfl,bk,ae,hg⟩:=hrel
  have li:acc.length<=20+k*36:=by
   rw[bk.out,Ab,Ab];have h1:=qC (l:=l.take k) (λp hp=>HAZ.out p (by grind));rw[Aq]at h1;have h2:min k l.length*36<=k*36:=by omega
   simp only[Ao,Bi];omega
  by_cases af:k<l.length
  ·obtain⟨p,hp⟩:∃p,l[k]?=some p:=by simp_all
   obtain⟨b,o,rfl,d0,d1⟩:=HC.out k p hp;have c0:=hg.cell d0;have c1:=hg.cell d1;have i7:=HAZ.out p (by grind);have hpd:=HPA.out.data p (by grind);have aea:=mX p.name;have aeb:=bK p.data.length
   have HN:Hid ((acc++rZ p.name)++putU p.data.length=([72,78,75,49]++putU l.length)++cP (l.take (k+1))):=by
    show _=_
    rw[aY hp,zZ,bk.out];simp only[Ae]
   have di:(k:Int)<l.length:=by omega
   have acv:IntKind.u64.wrap (p.data.length:Int)=p.data.length:=by simp[Aj,Ak,Ah];omega
   obtain⟨ao,co,rfl,_,_,rj⟩:=ae.at_ aR.len;have gj:=bC ae;have ld:aB wr (wr.alloc (.cells #[.string p.name,.slice p.a p.data.length p.c] 113)):=aB.alloc _ _;clear hp bk d0 d1 ae;go_wp2_with fail
   refine(yJ acc ao co p.name _ (by omega) (by omega) (rj.grows ld) gj).mono ?_;rintro e w3 ⟨v3,rfl,bd,bu⟩;obtain⟨B3,qh⟩:=exq (acc++rZ p.name);rw[<-qh]at bd HN;have kn:B3.length<=1000000:=by rw[qh,Ab];omega
   obtain⟨a3,c3,rfl,_,_,iv⟩:=bd.at_ aR.len;have pg:=bC bd;have x1:w3.cell? ⟨wr.heap.size,1,none⟩=some (.slice p.a p.data.length p.c):=bu.cell (by simp_all);clear qh bd;go_wp2_with fail
   refine(jE B3 a3 c3 p.data.length _ (by omega) (by omega) iv pg).mono ?_;rintro e w4 ⟨v4,rfl,bv,cd⟩;have aa4:=hg.tr (ld.tr bu);go_wp2_with fail
   go_roundw
   case rel=>exact⟨k+1,_,af,by go_num,HN.out,bv.base aa4.size,aa4.tr cd⟩
   grind [Go.Proofs.intOf]
  ·have di:¬(k:Int)<l.length:=by omega
   have HA:Hid (acc=([72,78,75,49]++putU l.length)++cP l):=by
    show _=_
    rw[bk.out,Al (by omega)]
   clear bk;go_wp2_with fail
   obtain⟨u0,rfl⟩:=exq wr;go_loopw [5,40] (λout i wr=>∃(k:Nat) (cq:List UInt8),k<=l.length/\i=.int .i64 k/\Hid (cq=acc++cY (l.take k))/\aO wr w.heap.size 5 1 aQ out cq/\aB w wr) (λ_ i _=>l.length-(intOf i).toNat)
   case atStart=>exact⟨0,_,Ag _,rfl,(by show _=_;simp[cY]),ae,hg⟩
   case round =>
    obtain⟨k,cq,hk,rfl,dy,ae,hg⟩:=hrel;by_cases af:k<l.length
    ·obtain⟨p,hp⟩:∃p,l[k]?=some p:=by simp_all
     obtain⟨b,o,rfl,d0,d1⟩:=HC.out k p hp;have c0:=hg.cell d0;have c1:=hg.cell d1;have hpd:=HPA.out.data p (by grind);have aec:=(HPA.out.at_ p (by grind)).grows (hg.al (.cells #[.string p.name,.slice p.a p.data.length p.c] 113));have ga:=HPA.out.none_ p (by grind)
     have HN:Hid (cq++p.data=acc++cY (l.take (k+1))):=by
      show _=_
      rw[aY hp,bB0,dy.out,Ae]
     have afw:cq.length<=3000+64*1099511627776:=by
      rw[dy.out,Ab,uQ];have h1:=nK0 (l:=l.take k) (n:=1099511627776) (λp hp=>HPA.out.data p (by grind));rw[Aq]at h1;have h2:min k l.length*1099511627776<=64*1099511627776:=by omega
      omega
     have om:=ae.grows (aB.alloc wr (.cells #[.string p.name,.slice p.a p.data.length p.c] 113));have j5:=hg.al (.cells #[.string p.name,.slice p.a p.data.length p.c] 113);clear hp dy d0 d1;go_wp2_with (at_builtin;refine dE aR rfl _ _ rfl w.heap.size _ cq p.data rfl om (aB.refl _) p.a p.c rfl aec ga (by omega) j5.size ?_;intro v7 w7 bi ck)
     grind [Go.Proofs.intOf]
    ·have di:¬(k:Int)<l.length:=by omega
     have HB:Hid (cq=dD l):=by
      show _=_
      rw[dy.out,HA.out,Al (by omega)];rfl
     have fp:cq.length<=16800000:=by rw[HB.out];exact HBL.out
     have hl4:(leB 4 (crcSum cq)).length=4:=cE _ _;obtain⟨a8,c8,rfl,_,_,pr⟩:=ae.at_ aR.len;have hew:=he.grows hg;clear dy;go_wp2_with (first|(go_at_call 68;refine(vR cq a8 c8 _ hew (by omega) pr).mono ?_;rintro e w9 ⟨v9,rfl,du,ft⟩;obtain⟨a9,c9,rfl,_,_,aed⟩:=du.at_ aR.len;have hn9:=bC du;have ix:=ae.grows ft;have ep:=hg.tr ft;clear ae du)|(at_builtin;refine dE aR rfl _ _ rfl w.heap.size _ cq (leB 4 (crcSum cq)) rfl ix (aB.refl _) a9 c9 rfl aed hn9 (by omega) ep.size ?_;intro v10 w10 el et))
     have HF:Hid (cq++leB 4 (crcSum cq)=file14 l):=by show _=_;rw[HB.out];rfl
     refine bodyPost_ret (v:=.tuple #[v10,.int .i64 0]) (by simp[results,Tryz.results48,go_sem]) rfl ⟨by grind [Go.RowKit.Hid.out],λh=>absurd HOK.out h,by simp_all⟩
end
section
open Go Go.RowKit
attribute [local go_sem] aM
theorem pW (l:List bT) (a:Option Addr) (cap:Nat) (w:World) (hs:aF w a 2 (l.map bI)) (hl:l.length<=4611686018427387904) (hn:∀x∈l,x.name.size<=9223372036854775807) :
  Calls Tryz.prog 58 #[.slice a l.length cap] w λe w'=>e=.returned (.bool (bP l))/\aB w w':=by
 obtain⟨V,hV⟩:=exq (bP l);rw[<-hV];have HS:=Aa hs;clear hs
 cases l with
 | nil =>
  have qg:V=false:=hV;subst qg;clear hV;go_enter Tryz.func58,Tryz.ntmps58
  go_wp2
  go_ret;exact⟨rfl,aB.refl _⟩
 | cons p0 r =>
  obtain⟨L,hL⟩:=exq (p0::r);have aw:L≠[]:=by rw[hL];simp
  have h0:L[0]?=some p0:=by rw[hL];rfl
  have hv:V=(decide (L.length<=64)&&lK p0&&iN L L 0):=by rw[hV,hL];rfl
  rw[<-hL]at HS hl hn ⊢;clear hL hV;obtain⟨b,off,rfl,bj⟩:=HS.out.get aw;have c0:w.cell? ⟨b,off,none⟩=some (.string p0.name):=by simpa using bj 0 p0 h0 0 _ rfl
  have c1:w.cell? ⟨b,off+1,none⟩=some (.int .i64 p0.kind):=by simpa using bj 0 p0 h0 1 _ rfl
  have HC:=Aa bj;have cu:0<L.length:=by cases L with|nil=>exact absurd rfl aw|cons _ _=>simp
  have HV:=Aa hv;clear bj aw h0 hv;have g1:¬(L.length:Int)<1:=by omega
  by_cases ky:L.length<=64
  ·have adj:¬(64:Int)<L.length:=by omega
   by_cases i7:p0.name.toList=[66,79,83]
   ·by_cases jt:p0.kind=0
    ·have kz:lK p0=true:=by simp[lK,seq,i7,jt,bos,Az]
     have ji:V=iN L L 0:=by rw[HV.out,kz];simp[ky]
     have HV2:=Aa ji
     have HC2:Hid (∀W,aB w W->∀k p,L[k]?=some p->W.cell? ⟨b,off+k*2,none⟩=some (.string p.name)/\W.cell? ⟨b,off+k*2+1,none⟩=some (.int .i64 p.kind)) :=
      λW hW k p hp=>⟨hW.cell (HC.out k p hp 0 _ rfl),hW.cell (HC.out k p hp 1 _ rfl)⟩
     clear kz ji HV HC;go_enter Tryz.func58,Tryz.ntmps58
     go_wp2_with fail
     clear c0 c1 i7 jt;go_loop [3] (λi=>∃k:Nat,k<=L.length/\i=.int .i64 k/\Hid (∀j q,j<k->L[j]?=some q->sB L j q=true)) (λi=>L.length-(intOf i).toNat)
     case atStart=>exact⟨0,Ag _,rfl,λj q hj=>by omega⟩
     case round =>
      obtain⟨k,hk,rfl,hz⟩:=hrel;by_cases af:k<L.length
      ·obtain⟨p,hp⟩:∃p,L[k]?=some p:=⟨_,Ad af⟩
       obtain⟨d0,d1⟩:=HC2.out w (aB.refl _) k p hp;have x8:=hn p (Ac hp);have HP:=Aa hp;clear hp;have hF:=oF L p.name (some ⟨b,off,none⟩) cap w hl HS.out;obtain⟨f,hf⟩:=exq (findI (posFind L p.name));obtain⟨nm,i7⟩:=exq (iI p.name);have fm:=jD0 p.name w x8;have be:sB L k p=(f==(k:Int)&&nm&&decide (0<=p.kind)&&decide (p.kind<=2)):=by rw[hf,i7];rfl
       rw[<-hf]at hF;rw[<-i7]at fm;generalize (posFind L p.name).isSome=fs at hF;have HCON:=Aa fm;have HF:=Aa hF;have HOK:=Aa be;clear hf i7 fm be hF;cases nm
       ·have au:V=false:=HV2.out.trans (gR HP.out hz.out (by rw[HOK.out];simp))
        have HFIN:=Aa au;clear au;go_wp2_with (first|(go_at_call 57;refine HF.out.mono ?_;rintro e w1 ⟨rfl,rfl⟩)|(go_at_call 107;refine HCON.out.mono ?_;rintro e w1 ⟨rfl,rfl⟩))
        go_ret;exact⟨aZ HFIN.out.symm,aB.refl _⟩
       ·by_cases jt:p.kind<0
        ·have au:V=false:=HV2.out.trans (gR HP.out hz.out (by rw[HOK.out];simp;omega))
         have HFIN:=Aa au;clear au;go_wp2_with (first|(go_at_call 57;refine HF.out.mono ?_;rintro e w1 ⟨rfl,rfl⟩)|(go_at_call 107;refine HCON.out.mono ?_;rintro e w1 ⟨rfl,rfl⟩))
         go_ret;exact⟨aZ HFIN.out.symm,aB.refl _⟩
        ·by_cases j7:2<p.kind
         ·have au:V=false:=HV2.out.trans (gR HP.out hz.out (by rw[HOK.out];simp;omega))
          have HFIN:=Aa au;clear au;go_wp2_with (first|(go_at_call 57;refine HF.out.mono ?_;rintro e w1 ⟨rfl,rfl⟩)|(go_at_call 107;refine HCON.out.mono ?_;rintro e w1 ⟨rfl,rfl⟩))
          go_ret;exact⟨aZ HFIN.out.symm,aB.refl _⟩
         ·cases hfk:(f==(k:Int))
          ·have h1:(f != (k:Int))=true:=by rw[bne,hfk];rfl
           have au:V=false:=HV2.out.trans (gR HP.out hz.out (by rw[HOK.out,hfk];rfl));have HFIN:=Aa au;clear au hfk;go_wp2_with (first|(go_at_call 57;refine HF.out.mono ?_;rintro e w1 ⟨rfl,rfl⟩)|(go_at_call 107;refine HCON.out.mono ?_;rintro e w1 ⟨rfl,rfl⟩))
           go_ret;exact⟨aZ HFIN.out.symm,aB.refl _⟩
          ·have h1:(f != (k:Int))=false:=by rw[bne,hfk];rfl
           have be:sB L k p=true:=by rw[HOK.out,hfk];simp;omega
           have HOK2:=Aa be;clear hfk be;go_wp2_with (first|(go_at_call 57;refine HF.out.mono ?_;rintro e w1 ⟨rfl,rfl⟩)|(go_at_call 107;refine HCON.out.mono ?_;rintro e w1 ⟨rfl,rfl⟩))
           go_round
           case rel=>exact⟨k+1,by omega,by go_num,λj q hj hq=>by
            rcases Nat.lt_succ_iff_lt_or_eq.1 hj with h|rfl
            ·exact hz.out j q h hq
            ·rw[HP.out]at hq;obtain rfl:=Option.some.inj hq;exact HOK2.out⟩
           case measure=>simp[intOf];omega
      ·obtain rfl:k=L.length:=by omega
       have au:V=true:=HV2.out.trans (dO0 hz.out);have HFIN:=Aa au;clear au;go_wp2
       go_ret;exact⟨aZ HFIN.out.symm,aB.refl _⟩
    ·have au:V=false:=by rw[HV.out];simp[lK,jt]
     have HF:=Aa au;have ako:(p0.kind != 0)=true:=by simpa using jt
     clear au HV;go_enter Tryz.func58,Tryz.ntmps58
     go_wp2
     go_ret;exact⟨aZ HF.out.symm,aB.refl _⟩
   ·have au:V=false:=by rw[HV.out];simp[lK,seq,bos,Az];intro _ h;exact absurd (by rw[Az];exact h) i7
    have HF:=Aa au;clear au HV;go_enter Tryz.func58,Tryz.ntmps58
    go_wp2
    go_ret;exact⟨aZ HF.out.symm,aB.refl _⟩
  ·have adj:(64:Int)<L.length:=by omega
   have au:V=false:=by rw[HV.out];simp[ky]
   have HF:=Aa au;clear au HV;go_enter Tryz.func58,Tryz.ntmps58
   go_wp2
   go_ret;exact⟨aZ HF.out.symm,aB.refl _⟩
end
section
open Go Go.RowKit Go.Shelf
attribute [local go_sem] aM aP
theorem jL1 (w:World):(zeroValue 3).run Tryz.prog w=.ok (.int .i64 0) w:=by kernel_rfl
def IdM (L:List ByteArray) (k:Nat) (D:DataW Unit):Prop:=∀i s,i<k->L[i]?=some s->D.atKey (.string s.data.toList) (.lit (.int .i64 0))=.lit (.int .i64 i)
theorem fS0 {w:World} {b n k i:Nat} {D:DataW Unit} {L:List ByteArray} {s:ByteArray} (hM:IdM L k D) (ae:w.ownsMap Tryz.prog 9 (plainElem Tryz.prog 3) b n D) (hi:i<k) (hx:L[i]?=some s) (hs:s.size<=maxLen) :
  (Instr.lookup 99 (.map (some b)) (.string s) false).run Tryz.prog w=.ok (.int .i64 i) w:=by
 obtain⟨c,jb,ah,_⟩:=ae.lookup_int (Maps.string_keyed Tryz.underlying9) Tryz.underlying99 Tryz.underlying3 (jL1 w) (WideMaps.keyOf_string_mk Tryz.underlying9 hs);rw[hM i s hi hx]at ah
 have:(i:Int)=c:=by simpa using ah
 rw[this];exact jb
theorem aZ1 (L:List ByteArray) (D:DataW Unit):IdM L 0 D:=λi _ h=>absurd h (Nat.not_lt_zero i)
theorem hR1 {b n k:Nat} {w:World} {D:DataW Unit} {L:List ByteArray} {s:ByteArray} (hM:IdM L k D) (ae:w.ownsMap Tryz.prog 9 (plainElem Tryz.prog 3) b n D) (hd:L.Nodup) (hx:L[k]?=some s):IdM L (k+1) (D.put (.string s.data.toList) (.lit (.int .i64 k))):=λi t hi ht=>by
 by_cases h:i=k
 ·subst h
  obtain rfl:s=t:=by rw[hx]at ht;exact Option.some.inj ht
  rw[Maps.atKey_put_same ae.isMap (k:=.string s.data.toList) trivial]
 ·have aw:(Lit.string t.data.toList) ≠ .string s.data.toList:=λh2=>h (by
   injection h2 with h3
   have h4:t=s:=jD h3;obtain⟨hi1,gb⟩:=List.getElem?_eq_some_iff.1 ht;obtain⟨y9,j7⟩:=List.getElem?_eq_some_iff.1 hx;exact(List.getElem_inj hd).1 (by rw[gb,j7,h4]))
  rw[Maps.atKey_put_other aw,hM i t (by omega) ht]
structure eT1 (w:World) (ib:Nat) (L:List ByteArray):Prop where
 ex:∃mb n D,w.cell? ⟨ib,0,none⟩=some (.map (some mb))/\w.ownsMap Tryz.prog 9 (plainElem (H:=Unit) Tryz.prog 3) mb n D/\IdM L L.length D
theorem eT1.grows {w w':World} {ib:Nat} {L:List ByteArray} (h:eT1 w ib L) (hg:aB w w'):eT1 w' ib L:=by
 obtain⟨mb,n,D,h1,h2,h3⟩:=h.ex;exact⟨mb,n,D,hg.cell h1,bQ h2 hg,h3⟩
theorem cK1 (L:List ByteArray) (ib i:Nat) (x:En) (w:World) (h:eT1 w ib L) (hx:L[i]?=some x.s) (hs:x.s.size<=maxLen) :
  Calls Tryz.prog 51 #[x.agg,.pointer (some ⟨ib,0,none⟩)] w λe w'=>e=.returned (.int .i64 i)/\aB w w':=by
 obtain⟨xr,xs,xl,xt,xc⟩:=x;obtain⟨mb,n,D,h1,h2,h3⟩:=h.ex;simp only at hx hs;have c1:(w.alloc (.cells #[.string xr,.string xs,.int .i64 xl,.int .i64 xt,.int .i64 xc] 89)).cell? ⟨ib,0,none⟩=some (.map (some mb)):=(aB.alloc _ _).cell h1;have hl:=fS0 h3 (bQ h2 (aB.alloc w (.cells #[.string xr,.string xs,.int .i64 xl,.int .i64 xt,.int .i64 xc] 89))) (List.getElem?_eq_some_iff.1 hx).1 hx hs;unfold En.agg;clear h h1 h2 h3;go_enter Tryz.func51,Tryz.ntmps51
 go_wp2_with fail
 go_ret;exact⟨rfl,aB.alloc _ _⟩
theorem gO1:∀args w,(callFunc 51 args).run Tryz.prog w=.ok (.enter 51 args) w:=enters_of Tryz.func51 (by kernel_rfl) rfl
theorem fV1:∀args w,(callFunc 44 args).run Tryz.prog w=.ok (.enter 44 args) w:=enters_of Tryz.func44 (by kernel_rfl) rfl
theorem dW1 (L:List ByteArray) (ib eb i j x y:Nat) (l:List En) (ex ey:En) (a:Option Addr) (c:Nat) (w:World) (h:eT1 w ib L) (he:w.cell? ⟨eb,0,none⟩=some (.slice a l.length c)) (ah:aF w a 5 (l.map bE)) (_hl:l.length<=1048576) (hL:L.length<=1048576)
  (hx:l[x]?=some ex) (hy:l[y]?=some ey) (hi:L[i]?=some ex.s) (hj:L[j]?=some ey.s) (hs:ex.s.size<=maxLen/\ey.s.size<=maxLen) :
  Calls Tryz.prog 44 #[.int .i64 x,.int .i64 y,.pointer (some ⟨ib,0,none⟩),.pointer (some ⟨eb,0,none⟩)] w λe w'=>e=.returned (.int .i64 ((i:Int)-j))/\w'=w.drew:=by
 obtain⟨xr,xs,xl,xt,xc⟩:=ex;obtain⟨yr,ys,yl,yt,yc⟩:=ey;obtain⟨mb,n,D,h1,h2,h3⟩:=h.ex;simp only at hi hj hs;have hxl:=(List.getElem?_eq_some_iff.1 hx).1;have hyl:=(List.getElem?_eq_some_iff.1 hy).1;have hil:=(List.getElem?_eq_some_iff.1 hi).1;have hjl:=(List.getElem?_eq_some_iff.1 hj).1;obtain⟨ba,oa,rfl,cn⟩:=aF.get (enc:=bE) ah (aH hxl);have z0:∀x:Ext aB w.drew,x.u.cell? ⟨ib,0,none⟩=some (.map (some mb)):=aG ((aB.drew w).cell h1);have z1:∀x:Ext aB w.drew,x.u.cell? ⟨eb,0,none⟩=some (.slice (some ⟨ba,oa,none⟩) l.length c):=aG ((aB.drew w).cell he);have z2:∀u:Ext aB w.drew,u.u.cell? ⟨ba,oa+x*5+1,none⟩=some (.string xs):=aG ((aB.drew w).cell (cn x _ hx 1 _ rfl));have z3:∀u:Ext aB w.drew,u.u.cell? ⟨ba,oa+y*5+1,none⟩=some (.string ys):=aG ((aB.drew w).cell (cn y _ hy 1 _ rfl));have z4:∀u:Ext aB w.drew,(Instr.lookup 99 (.map (some mb)) (.string xs) false).run Tryz.prog u.u=.ok (.int .i64 i) u.u:=λu=>fS0 h3 (bQ (bQ h2 (aB.drew w)) u.h) hil hi hs.1;have z5:∀u:Ext aB w.drew,(Instr.lookup 99 (.map (some mb)) (.string ys) false).run Tryz.prog u.u=.ok (.int .i64 j) u.u:=λu=>fS0 h3 (bQ (bQ h2 (aB.drew w)) u.h) hjl hj hs.2;have hxi:(x:Int)<l.length:=by omega
 have hyi:(y:Int)<l.length:=by omega
 have wij:IntKind.i64.wrap ((i:Int)-j)=(i:Int)-j:=by simp[Aj,Ak,Ah];omega
 clear h he ah hx hy hi hj hs h1 h2 h3 cn;go_enter Tryz.func44,Tryz.ntmps44
 go_wp2_with fail
 refine bH (aT 16 []) (by kernel_rfl) (λd _ _ _ _ h=>by cases d<;>exact h) ?_
 iterate 16 (refine aJ rfl (λK hK=>?_);go_simp;refine hK _ ?_;clear hK K)
 clear z0 z1 z2 z3 z4 z5;refine bN ?_;go_wp2_with fail
 go_ret;exact⟨rfl,rfl⟩
end
section
open Go Go.RowKit
theorem rS0 (s:ByteArray):rZ s=putU s.size++bl s:=rfl
def hposP (P:List bD) (i:Nat):Nat:=(([72,78,75,49]++putU P.length)++cP (P.take i):List UInt8).length
def tW (P:List bD) (i:Nat):Nat:=(([72,78,75,49]++putU P.length)++cP P++cY (P.take i):List UInt8).length
theorem uV0 {P:List bD} {i:Nat} {p:bD} (h:P[i]?=some p):cP P=cP (P.take i)++((rZ p.name++putU p.data.length)++cP (P.drop (i+1))):=by
 obtain⟨hi,rfl⟩:=List.getElem?_eq_some_iff.1 h;unfold cP;rw[<-Ay (f:=λp:bD=>rZ p.name++putU p.data.length),<-Ax hi,<-An,As]
theorem wN0 {P:List bD} {i:Nat} {p:bD} (h:P[i]?=some p):cY P=cY (P.take i)++(p.data++cY (P.drop (i+1))):=by
 obtain⟨hi,rfl⟩:=List.getElem?_eq_some_iff.1 h;unfold cY;rw[<-Ay (f:=λp:bD=>p.data),<-Ax hi,<-An,As]
theorem mU0 {P:List bD} {i:Nat} {p:bD} (h:P[i]?=some p):cP (P.take (i+1))=cP (P.take i)++(rZ p.name++putU p.data.length):=by
 unfold cP;rw[Bw,h,An];simp
theorem lE0 {P:List bD} {i:Nat} {p:bD} (h:P[i]?=some p):cY (P.take (i+1))=cY (P.take i)++p.data:=by
 unfold cY;rw[Bw,h,An];simp
theorem qK0 (P:List bD):hposP P 0=4+(putU P.length).length:=by unfold hposP cP; simp; omega
theorem rJ0 {P:List bD} {i:Nat} {p:bD} (h:P[i]?=some p):hposP P (i+1)=hposP P i+(rZ p.name).length+(putU p.data.length).length:=by
 unfold hposP;grind [mU0]
theorem rX0 (P:List bD):tW P 0=hposP P P.length:=by
 unfold tW hposP;grind [cY]
theorem cP0 {P:List bD} {i:Nat} {p:bD} (h:P[i]?=some p):tW P (i+1)=tW P i+p.data.length:=by
 unfold tW;rw[lE0 h];grind
theorem yW0 (P:List bD):tW P P.length=(dD P).length:=by grind [tW,dD]
theorem cA1 {P:List bD} {i:Nat}:tW P i<=(dD P).length:=by
 unfold tW dD;simp only[Ab]
 have:(cY (P.take i)).length<=(cY P).length:=by
  unfold cY;have h:=As i P;have h2:cY P=cY (P.take i)++cY (P.drop i):=by unfold cY;rw[<-An,h]
  unfold cY at h2;rw[h2,Ab];omega
 omega
theorem dG1 {P:List bD} {i:Nat}:hposP P i<=(dD P).length:=by
 unfold hposP dD;simp only[Ab]
 have:(cP (P.take i)).length<=(cP P).length:=by
  have h2:cP P=cP (P.take i)++cP (P.drop i):=by unfold cP;rw[<-An,As]
  rw[h2,Ab];omega
 omega
theorem cL1 {P:List bD} (hn:P.length<18446744073709551616):rdU ((dD P).drop 4)=some (P.length,(putU P.length).length):=by
 grind [uL,dD]
theorem jH0 {P:List bD} {i:Nat} {p:bD} (h:P[i]?=some p):(dD P).drop (hposP P i)=(rZ p.name++putU p.data.length)++(cP (P.drop (i+1))++cY P):=by
 have e:dD P=(([72,78,75,49]++putU P.length)++cP (P.take i))++((rZ p.name++putU p.data.length)++(cP (P.drop (i+1))++cY P)):=by
  unfold dD;rw[uV0 h];simp only[Ae]
 rw[e];exact Bk rfl
theorem fS1 {s:ByteArray} (hs:s.size<18446744073709551616) (r:List UInt8):rdT (rZ s++r)=some (s,(rZ s).length):=by
 unfold rdT;rw[rS0,Ae,uL hs];simp only;rw[Bk rfl,if_pos (by grind [cJ])];congr 1
 rw[List.take_left' (cJ s),Ab,cJ];exact congrArg (·,_) (wG s)
theorem iM1 {P:List bD} {i:Nat} {p:bD} (h:P[i]?=some p) (hs:p.name.size<18446744073709551616):rdT ((dD P).drop (hposP P i))=some (p.name,(rZ p.name).length):=by
 grind [jH0,fS1]
theorem iE1 {P:List bD} {i:Nat} {p:bD} (h:P[i]?=some p) (hs:p.data.length<18446744073709551616):rdU ((dD P).drop (hposP P i+(rZ p.name).length))=some (p.data.length,(putU p.data.length).length):=by
 rw[<-List.drop_drop,jH0 h,Ae,Bk rfl];exact uL hs _
theorem hS1 {P:List bD} {i:Nat} {p:bD} (h:P[i]?=some p):((dD P).take (tW P i+p.data.length)).drop (tW P i)=p.data:=by
 have e:dD P=(([72,78,75,49]++putU P.length)++cP P++cY (P.take i))++(p.data++cY (P.drop (i+1))):=by
  unfold dD;rw[wN0 h];simp only[Ae]
 rw[<-List.take_drop];conv=>lhs;rw[e]
 unfold tW;simp_all
structure sM (W:World) (b m:Nat) (f:Nat->Value):Prop where
 cell:∀j,j<m->W.cell? ⟨b,j,none⟩=some (f j)
 froz:∀j,W.frozen? ⟨b,j,none⟩=false
 lt:b<W.heap.size
theorem sM.grows {W W':World} {b m:Nat} {f:Nat->Value} (h:sM W b m f) (hg:aB W W'):sM W' b m f :=
 ⟨λj hj=>hg.cell (h.cell j hj),λj=>(hg.froz (p:=⟨b,j,none⟩) h.lt).trans (h.froz j),Ai h.lt hg.size⟩
theorem sM.other {W:World} {b m:Nat} {f:Nat->Value} (h:sM W b m f) {b' j':Nat} (hb:b'≠b) (v:Value):sM (W.setCell ⟨b',j',none⟩ v) b m f :=
 ⟨λj hj=>by rw[Bd _ _ _ _ (by simp_all)];exact h.cell j hj,λj=>(Bo _ _ _ _).trans (h.froz j),by simp;exact h.lt⟩
theorem sM.set {W:World} {b m:Nat} {f:Nat->Value} (h:sM W b m f) {k:Nat} (hk:k<m) (v:Value):sM (W.setCell ⟨b,k,none⟩ v) b m (λj=>if j=k then v else f j) :=
 ⟨λj hj=>by
  by_cases e:j=k
  ·subst e
   rw[if_pos rfl];exact World.cell?_setCell_same _ _ _ (h.cell j hj)
  ·rw[if_neg e,Bd _ _ _ _ (by simp_all)]
   exact h.cell j hj,λj=>(Bo _ _ _ _).trans (h.froz j),by simp;exact h.lt⟩
theorem sM.congr {W:World} {b m:Nat} {f g:Nat->Value} (h:sM W b m f) (e:∀j,j<m->f j=g j):sM W b m g:=⟨λj hj=>by rw[<-e j hj]; exact h.cell j hj,h.froz,h.lt⟩
end
section
open Go Go.RowKit Go.Shelf
attribute [local go_sem] aM aP
theorem fH1:∀args w,(callFunc 126 args).run Tryz.prog w=.ok (.enter 126 args) w:=enters_of Tryz.func126 (by kernel_rfl) rfl
theorem pR0 (b:List UInt8) (ba:Option Addr) (bc k v n pb pa po yh:Nat) (w:World) (hk:k<=b.length) (hb:b.length<=1099511627776) (ah:aF w ba 1 (b.map aQ)) (hR:rdU (b.drop k)=some (v,n)) (hv:v<=yh) (hm:yh<=1099511627776)
  (cb:w.cell? ⟨pb,0,none⟩=some (.slice ba b.length bc)) (ca:w.cell? ⟨pa,0,none⟩=some (.int .i64 k)) (co:w.cell? ⟨po,0,none⟩=some (.bool true)) (fa:w.frozen? ⟨pa,0,none⟩=false) :
  Calls Tryz.prog 126 #[.int .i64 yh,.pointer (some ⟨pb,0,none⟩),.pointer (some ⟨pa,0,none⟩),.pointer (some ⟨po,0,none⟩)] w λe w'=>e=.returned (.int .i64 v)/\∃w1,aB w w1/\w'=w1.setCell ⟨pa,0,none⟩ (.int .i64 ((k+n:Nat):Int)):=by
 have CU:=Aa (bK1 b k ba bc w hk hb ah);rw[hR]at CU;unfold xU0 at CU;have kj:=World.block_lt_of_cell? w _ ca;obtain⟨K,hK⟩:=exq (k+n);simp only[<-hK]at CU ⊢;clear hR ah hK;have wm:IntKind.u64.wrap (yh:Int)=yh:=by simp[Aj,Ak,Ah];omega
 have wv:IntKind.i64.wrap (v:Int)=v:=by simp[Aj,Ak,Ah];omega
 have hvm:¬(yh:Int)<v:=by omega
 go_enter Tryz.func126,Tryz.ntmps126
 go_wp2_with fail
 refine CU.out.mono ?_;rintro e w1 ⟨rfl,aq⟩;have ca1:=aq.cell ca;have co1:=aq.cell co;have fa1:=(aq.froz (p:=⟨pa,0,none⟩) kj).trans fa;go_wp2_with fail
 go_ret;exact⟨rfl,w1,aq,rfl⟩
theorem dR0 (l:List UInt8) (a:Option Addr) (c:Nat) (w:World) (hl:l.length<=1099511627776) (hn:a=none->c=0) (ah:aF w a 1 (l.map aQ)) :
  Calls Tryz.prog 129 #[.slice a l.length c] w λe w'=>∃v,e=.returned v/\aO w' w.heap.size 5 1 aQ v l/\aB w w':=by
 cases a with
 | none =>
  have hl0:l=[]:=Decidable.byContradiction λh=>by
   obtain⟨_,_,e,_⟩:=ah (by simpa using h);cases e
  subst hl0;obtain rfl:=hn rfl;have adl:∀W:World,(binOp .eql 24 (.slice none 0 0) (.slice none 0 0)).run Tryz.prog W=.ok (.bool true) W:=λW=>by rfl
  go_enter Tryz.func129,Tryz.ntmps129
  go_wp2_with fail
  go_ret;exact⟨_,rfl,aO.nil _ _ _ _ _,aB.refl _⟩
 | some q =>
  have HSRC:=Aa (ah.grows (aB.alloc w (.cells #[] 5)));clear ah hn;have adl:∀W:World,(binOp .eql 24 (.slice (some q) l.length c) (.slice none 0 0)).run Tryz.prog W=.ok (.bool false) W:=λW=>by rfl
  go_enter Tryz.func129,Tryz.ntmps129
  go_wp2_with (at_builtin;refine dE aR rfl _ _ rfl w.heap.size _ [] l rfl (oN0 w.heap.size (Af _)) (aB.refl _) (some q) c rfl HSRC.out (λh=>by cases h) (by simp;omega) (by simp) ?_;intro v' w3 bd bu)
  rw[Bj]at bd;have j4:=bu w (aB.alloc _ _) (Af _);go_wp2_with fail
  go_ret;exact⟨_,rfl,bd,j4⟩
theorem uV (l m:List UInt8) (a b:Option Addr) (c d:Nat) (w:World) (h1:aF w a 1 (l.map aQ)) (h2:aF w b 1 (m.map aQ)) :
  Calls Tryz.prog 67 #[.slice a l.length c,.slice b m.length d] w λe w'=>e=.returned (.bool (decide (l=m)))/\w=w':=by
 have v1:(convert 24 9 (.slice a l.length c)).run Tryz.prog w=.ok (.string (mkB l)) w:=yH h1;have v2:(convert 24 9 (.slice b m.length d)).run Tryz.prog w=.ok (.string (mkB m)) w:=yH h2;by_cases h:l=m
 ·have e1:((mkB l).toList==(mkB m).toList)=true:=by rw[h];simp
  have HH:=Aa h;clear h;go_enter Tryz.func67,Tryz.ntmps67
  go_wp2_with fail
  go_ret;exact⟨by simp[HH.out],rfl⟩
 ·have e1:((mkB l).toList==(mkB m).toList)=false:=by
   rw[beq_eq_false_iff_ne];intro he;exact h (by have:=congrArg (·.data.toList) (dR he);simpa [mU] using this)
  have HH:=Aa h;clear h;go_enter Tryz.func67,Tryz.ntmps67
  go_wp2_with fail
  go_ret;exact⟨by simp[HH.out],rfl⟩
end
section
open Go Go.RowKit
attribute [local go_sem] aM aP
def pL (l:List Nat) (W k q:Nat):List Nat:=(Ci q).map λQ=>dG (λp=>decide (p<8*k)&&bitAt l W p) (64*Q) 64
theorem mO (l:List Nat) (W k q:Nat):(pL l W k q).length=q:=by simp[pL]
theorem qF {l:List Nat} {W k q Q:Nat} (h:Q<q):(pL l W k q)[Q]?=some (dG (λp=>decide (p<8*k)&&bitAt l W p) (64*Q) 64):=by
 unfold pL;rw[Bv,List.getElem?_range h];rfl
theorem qV0 (f:Nat->Bool) (b k:Nat) (h:∀t,t<k->f (b+t)=false):dG f b k=0:=by
 symm
 exact iC (Nat.two_pow_pos _) λt ht=>by rw[h t ht];simp
theorem mP0 (l:List Nat) (W q:Nat):pL l W 0 q=List.replicate q 0:=by
 apply By
 intro i;by_cases h:i<q
 ·rw[qF h,List.getElem?_replicate_of_lt h,qV0 _ _ _ (λt _=>by simp)]
 ·rw[At (by rw[mO];omega),At (by simp;omega)]
theorem rC0 {l:List Nat} {W p:Nat} (hl:∀x∈l,x<2^W) (h:l.length*W<=p):bitAt l W p=false:=by
 by_cases hW:W=0
 ·subst hW
  unfold bitAt
  have:l.getD (p/0) 0=0:=by
   rw[List.getD_eq_getElem?_getD]
   cases hx:l[p/0]? with
   | none=>rfl
   | some x=>have:=hl x (Ac hx);simp at this;simp[this]
  rw[this];simp
 ·exact sE (by omega) h
theorem qS0 {l:List Nat} {W k q:Nat} (hl:∀x∈l,x<2^W) (h:l.length*W<=8*k):pL l W k q=dZ l W q:=by
 unfold pL dZ gI;apply List.map_congr_left
 intro Q _;apply kF
 intro t _;by_cases hp:64*Q+t<8*k
 ·simp[hp]
 ·rw[rC0 hl (by omega)];simp
theorem sX0 {l:List Nat} {W k t:Nat} (ht:t<64) :
  (dG (λp=>decide (p<8*k)&&bitAt l W p) (64*(k/8)) 64|||(dG (bitAt l W) (8*k) 8<<<(k%8*8))%18446744073709551616).testBit t=(decide (64*(k/8)+t<8*(k+1))&&bitAt l W (64*(k/8)+t)):=by
 rw[Nat.testBit_or,dT,fU0 ht,dT];generalize hB:bitAt l W=B;by_cases h1:t<k%8*8
 ·have e1:64*(k/8)+t<8*k:=by omega
  have e2:¬k%8*8<=t:=by omega
  have e3:64*(k/8)+t<8*(k+1):=by omega
  rw[decide_eq_true ht,decide_eq_true e1,decide_eq_false e2,decide_eq_true e3,Bc,Bq,Br,Br]
 ·have e1:¬64*(k/8)+t<8*k:=by omega
  have e2:k%8*8<=t:=by omega
  rw[decide_eq_true ht,decide_eq_false e1,decide_eq_true e2,Bc,Bool.and_false,Cd,Br];by_cases h2:t<k%8*8+8
  ·have e3:t-k%8*8<8:=by omega
   have e4:64*(k/8)+t<8*(k+1):=by omega
   have e5:8*k+(t-k%8*8)=64*(k/8)+t:=by omega
   rw[decide_eq_true e3,decide_eq_true e4,e5]
  ·have e3:¬t-k%8*8<8:=by omega
   have e4:¬64*(k/8)+t<8*(k+1):=by omega
   rw[decide_eq_false e3,decide_eq_false e4,Bc,Bc]
theorem lT0 {l:List Nat} {W k q:Nat} (hq:k/8<q) :
  pL l W (k+1) q=(pL l W k q).set (k/8) (dG (λp=>decide (p<8*k)&&bitAt l W p) (64*(k/8)) 64|||(dG (bitAt l W) (8*k) 8<<<(k%8*8))%18446744073709551616):=by
 apply By
 intro i;by_cases hi:i<q
 ·rw[qF hi]
  by_cases he:k/8=i
  ·rw[<-he,List.getElem?_set_self (by rw[mO];exact hq)]
   refine congrArg some ?_;symm
   exact iC (Bz (n:=64) (gV _ _ 64) (Nat.mod_lt _ (by decide))) λt ht=>sX0 ht
  ·rw[List.getElem?_set_ne he,qF hi]
   refine congrArg some ?_;apply kF
   intro t ht;generalize bitAt l W=B;by_cases h1:64*i+t<8*k
   ·have h2:64*i+t<8*(k+1):=by omega
    rw[decide_eq_true h1,decide_eq_true h2]
   ·have h2:¬64*i+t<8*(k+1):=by omega
    rw[decide_eq_false h1,decide_eq_false h2]
 ·rw[At (by rw[mO];omega),At (by rw[List.length_set,mO];omega)]
theorem uF (a b:Nat) (ha:a<4611686018427387904) (hb:b<4611686018427387904):bits .or .i64 (a:Int) (b:Int)=((a|||b:Nat):Int):=by
 have hx:a|||b<2^62:=Bz (by omega) (by omega)
 show IntKind.i64.wrap ((BitVec.ofInt 64 (a:Int)|||BitVec.ofInt 64 (b:Int)).toNat:Int)=_
 rw[BitVec.toNat_or,ofInt_u64 a (by omega),ofInt_u64 b (by omega)];generalize a|||b=x at hx
 simp[Aj,Ak,Ah];omega
theorem mA0 {a c k:Nat} (h:a<2^k):a|||(c*2^k)=a+c*2^k:=by
 rw[Nat.or_comm,Nat.mul_comm,<-Nat.two_pow_add_eq_or_of_lt h,Nat.add_comm]
theorem hH1 {b0 b1 b2 b3:Nat} (h0:b0<256) (h1:b1<256) (h2:b2<256) (h3:b3<256) :
  bits .or .i64 (b0:Int) ((b1*256:Nat):Int)=((b0+b1*256:Nat):Int)/\bits .or .i64 ((b0+b1*256:Nat):Int) ((b2*65536:Nat):Int)=((b0+b1*256+b2*65536:Nat):Int) /\
  bits .or .i64 ((b0+b1*256+b2*65536:Nat):Int) ((b3*16777216:Nat):Int)=((b0+b1*256+b2*65536+b3*16777216:Nat):Int):=by
 refine⟨?_,?_,?_⟩
 ·rw[uF _ _ (by omega) (by omega),show b1*256=b1*2^8 from rfl,mA0 (by omega)]
 ·rw[uF _ _ (by omega) (by omega),show b2*65536=b2*2^16 from rfl,mA0 (by omega)]
 ·rw[uF _ _ (by omega) (by omega),show b3*16777216=b3*2^24 from rfl,mA0 (by omega)]
theorem gJ {x:Nat} (h:x<4611686018427387904):IntKind.i64.wrap (x:Int)=x:=by simp[Aj,Ak,Ah]; omega
theorem gV1 {b0 b1 b2 b3 n:Nat} (h0:b0<256) (h1:b1<256) (h2:b2<256) (h3:b3<256) (hn:n=b0+b1*256+b2*65536+b3*16777216) :
  ∃c1 c2 c3 s1 s2:Nat,IntKind.i64.wrap ((b1:Int)*256)=(c1:Int)/\IntKind.i64.wrap ((b2:Int)*65536)=(c2:Int)/\IntKind.i64.wrap ((b3:Int)*16777216)=(c3:Int) /\
   bits .or .i64 (b0:Int) (c1:Int)=(s1:Int)/\bits .or .i64 (s1:Int) (c2:Int)=(s2:Int)/\bits .or .i64 (s2:Int) (c3:Int)=(n:Int):=by
 obtain⟨o1,o2,o3⟩:=hH1 h0 h1 h2 h3;refine⟨b1*256,b2*65536,b3*16777216,b0+b1*256,b0+b1*256+b2*65536,?_,?_,?_,o1,o2,?_⟩
 ·have:=gJ (x:=b1*256) (by omega)
  rwa [Bn]at this
 ·have:=gJ (x:=b2*65536) (by omega)
  rwa [Bn]at this
 ·have:=gJ (x:=b3*16777216) (by omega)
  rwa [Bn]at this
 ·rw[o3,hn]
theorem tJ0 (l:List Nat):∃b0 b1 b2 b3:Nat,cG l=[Am b0,Am b1,Am b2,Am b3,Am (gU l)]++xP l/\b0<256/\b1<256/\b2<256/\b3<256/\(l.length<4294967296->l.length=b0+b1*256+b2*65536+b3*16777216):=by
 refine⟨l.length%256,l.length/256%256,l.length/65536%256,l.length/16777216%256,?_,by omega,by omega,by omega,by omega,λh=>by omega⟩;unfold cG leB;simp[Ci,List.range.loop,iJ0]
end
end Go.Proofs.YtiopheoljccmpaaGreatDoor
