/- The texts iK1 W14P W15 PosE W14 CrcW SecW SecJ RefX Bid SecP, one behind the other. -/
import Derived.Test.YtcijgkfpobpdbaaGreatDoorBq5
import Derived.Test.YtcijgkfpobpdbaaGreatDoorBq12
import Derived.Test.YtcijgkfpobpdbaaGreatDoorBq35
import Derived.Test.YtcijgkfpobpdbaaGreatDoorBq22
import Derived.Test.YtcijgkfpobpdbaaGreatDoorBq1
import Derived.Test.YtcijgkfpobpdbaaGreatDoorBq21
import Derived.Test.YtcijgkfpobpdbaaGreatDoorBq11
import Derived.Test.YtcijgkfpobpdbaaGreatDoorBq13
import Derived.Maps.Own
import Derived.Carry
import Derived.Lib.SlBytesConst
import Derived.Test.YtcijgkfpobpdbaaGreatDoorBq14
import Derived.Test.YtcijgkfpobpdbaaGreatDoorBq23
open List renaming length_append → Aa,append_assoc → Ac,mem_of_getElem? → Ad,getElem?_eq_getElem → Ae,flatMap_append → Ag,eq_nil_of_length_eq_zero → Aj,take_append_drop → Al,length_cons → Am,take_length → An,flatMap_cons → Ap,take_of_length_le → Ar,mem_of_mem_take → As,drop_left' → Av,drop_eq_getElem_cons → Ay,length_take → Ba,map_cons → Be,take_add_one → Bi,length_nil → Bj,nil_append → Bk,any_append → Bl,take_left' → Bn,any_map → Bq
open Go.Lib renaming hid → Ab,toList_data → Au,decodeL_ascii → Bg,decodeL_N → Bo,decodeL → Bs,size_eq → Bt
open Nat renaming lt_of_lt_of_le → Af,le_refl → Ah,zero_le → Ak,mul_le_mul_right → At,xor_lt_two_pow → Bf,succ_mul → Bh,lt_or_ge → Bp,le_of_eq → Br
open Bool renaming and_eq_true → Ai,eq_iff_iff → Bb
open UInt8 renaming ofNat → Ao,toNat_lt → Bd
open Go.IntKind renaming signed → Aq,wrap → Aw,bits → Ax
open Go.World renaming cell?_setCell_other → Az,frozen?_setCell → Bc
set_option maxHeartbeats 8000000
namespace Go.Proofs.YtcijgkfpobpdbaaGreatDoor
set_option maxRecDepth 100000
section
open Go Go.RowKit
attribute [local go_sem] aQ
theorem uX:∀(n:Nat) (l:List UInt8),l.length<=n->(∃b∈l,128<=b.toNat)->∃c∈runesD l,128<=c
 | 0,l,hl,⟨b,hb,_⟩=>by
  have:l=[]:=Aj (by omega)
  subst this;cases hb
 | n+1,l,hl,⟨b,hb,uy⟩=>by
  cases l with
  | nil=>cases hb
  | cons x r =>
   rw[lQ _ (by simp)];by_cases hx:x.toNat<128
   ·rw[Bg x r hx]
    rcases List.mem_cons.1 hb with rfl|hb
    ·omega
    ·obtain⟨c,hc,hcg⟩:=uX n r (by simp at hl;omega) ⟨b,hb,uy⟩
     exact⟨c,List.mem_cons_of_mem _ hc,hcg⟩
   ·refine⟨_,List.mem_cons_self,?_⟩
    by_cases fc:(Bs (x::r)).1=65533/\(Bs (x::r)).2=1
    ·rw[fc.1];decide
    ·have hs:=tS (x::r).length ((x::r).getD 0 0).toNat ((x::r).getD 1 0).toNat ((x::r).getD 2 0).toNat ((x::r).getD 3 0).toNat (Bd _) (Bd _) (Bd _) (by rw[<-Bo];exact fc)
     rw[<-Bo]at hs;rcases hs with ⟨h,_⟩|⟨_,_,_,_,_,_,h⟩
     ·exact absurd h (by simpa using hx)
     ·exact h
theorem rZ:∀(n:Nat) (l:List UInt8),l.length<=n->(∀b∈l,b.toNat<128)->runesD l=l.map (·.toNat)
 | 0,l,hl,_=>by
  have:l=[]:=Aj (by omega)
  subst this;rfl
 | n+1,l,hl,h=>by
  cases l with
  | nil=>rfl
  | cons x r =>
   rw[lQ _ (by simp),Bg x r (h x (by simp)),Be];simp only[List.drop_succ_cons,List.drop_zero];rw[rZ n r (by simp at hl;omega) (λb hb=>h b (by simp[hb]))]
theorem uH {c:Nat} (h:128<=c):nameBad c=true:=by unfold nameBad; simp; omega
theorem tZ0 (l:List UInt8):(runesD l).any nameBad=l.any λb=>nameBad b.toNat:=by
 by_cases h:∃b∈l,128<=b.toNat
 ·obtain⟨c,hc,hg⟩:=uX _ l (Ah _) h
  obtain⟨b,hb,hbg⟩:=h;rw[List.any_eq_true.2 ⟨c,hc,uH hg⟩,List.any_eq_true.2 ⟨b,hb,uH hbg⟩]
 ·rw[rZ _ l (Ah _) (λb hb=>by
   rcases Bp b.toNat 128 with h1|h1
   ·exact h1
   ·exact absurd ⟨b,hb,h1⟩ h),Bq]
  rfl
theorem xY (s:ByteArray):rK s=(decide (1<=s.size)&&decide (s.size<=16) && !(s.data.toList.any λb=>nameBad b.toNat)):=by
 rw[fW1,tZ0];congr 2
 rw[Au,Bt];cases s.data.toList<;>simp
theorem eF1 {p:UInt8->Bool} {s:ByteArray} {k:Nat} (h:k<s.size):(s.data.toList.drop k).any p=(p s[k]||(s.data.toList.drop (k+1)).any p):=by
 rw[cC1 h,List.any_cons]
theorem xC0 (s:ByteArray) (w:World) (hs:s.size<=9223372036854775807) :
  Calls Tryz.prog 193 #[.string s] w λe w'=>e=.returned (.bool (rK s))/\w=w':=by
 rw[xY];obtain⟨b,mx⟩:=exq (s.data.toList.any λb=>nameBad b.toNat);rw[<-mx];have HBB:=Ab mx;clear mx;go_enter Tryz.func193,Tryz.ntmps193
 go_wp2_with fail
 go_loop [3] (λi=>∃k:Nat,k<=s.size/\i=.int .i64 k/\Hid (b=(s.data.toList.drop k).any λb=>nameBad b.toNat)) (λi=>s.size-(intOf i).toNat)
 case atStart=>exact⟨0,Ak _,rfl,HBB.out⟩
 case round =>
  obtain⟨k,hk,rfl,az⟩:=hrel;by_cases ae:k<s.size
  ·have hi:=az.out
   rw[eF1 ae]at hi;have HI:=Ab hi;clear az hi;cases hh:nameBad s[k].toNat
   ·have fg:b=(s.data.toList.drop (k+1)).any λb=>nameBad b.toNat:=by rw[HI.out,hh];rfl
    have HI2:=Ab fg
    have q:(65<=(s[k].toNat:Int)/\(s[k].toNat:Int)<=90)\/(¬(s[k].toNat:Int)<=90/\97<=(s[k].toNat:Int)/\(s[k].toNat:Int)<=122)\/(¬65<=(s[k].toNat:Int)/\48<=(s[k].toNat:Int)/\(s[k].toNat:Int)<=57)\/(s[k].toNat:Int)=95\/(s[k].toNat:Int)=45:=by
     unfold nameBad at hh;simp at hh;omega
    clear HI fg hh;rcases q with ⟨q1,q2⟩|⟨q1,q2,q3⟩|⟨q1,q2,q3⟩|q1|q1
    ·go_wp2
     go_round
     case rel=>exact⟨k+1,ae,by go_num,HI2.out⟩
     case measure=>simp[intOf];omega
    ·have q4:65<=(s[k].toNat:Int):=by omega
     go_wp2
     go_round
     case rel=>exact⟨k+1,ae,by go_num,HI2.out⟩
     case measure=>simp[intOf];omega
    ·have q4:¬97<=(s[k].toNat:Int):=by omega
     go_wp2
     go_round
     case rel=>exact⟨k+1,ae,by go_num,HI2.out⟩
     case measure=>simp[intOf];omega
    ·go_wp2
     go_round
     case rel=>exact⟨k+1,ae,by go_num,HI2.out⟩
     case measure=>simp[intOf];omega
    ·go_wp2
     go_round
     case rel=>exact⟨k+1,ae,by go_num,HI2.out⟩
     case measure=>simp[intOf];omega
   ·have fg:b=true:=by rw[HI.out,hh];rfl
    have HI2:=Ab fg
    have q:(¬48<=(s[k].toNat:Int)/\¬65<=(s[k].toNat:Int)/\¬97<=(s[k].toNat:Int)/\(s[k].toNat:Int)≠45)\/(48<=(s[k].toNat:Int)/\¬(s[k].toNat:Int)<=57/\¬65<=(s[k].toNat:Int)/\¬97<=(s[k].toNat:Int))\/(65<=(s[k].toNat:Int)/\¬(s[k].toNat:Int)<=90/\¬97<=(s[k].toNat:Int)/\¬(s[k].toNat:Int)<=57/\(s[k].toNat:Int)≠95)\/(65<=(s[k].toNat:Int)/\¬(s[k].toNat:Int)<=90/\97<=(s[k].toNat:Int)/\¬(s[k].toNat:Int)<=122/\¬(s[k].toNat:Int)<=57):=by
     unfold nameBad at hh;simp at hh;omega
    clear HI fg hh;rcases q with ⟨q1,q2,q3,q4⟩|⟨q1,q2,q3,q4⟩|⟨q1,q2,q3,q4,q5⟩|⟨q1,q2,q3,q4,q5⟩
    ·have q6:((s[k].toNat:Int) != 45)=true:=by simpa using q4
     have q7:((s[k].toNat:Int) != 95)=true:=by rw[bne_iff_ne];omega
     go_wp2
     go_ret;exact⟨aZ (by rw[HI2.out];simp),rfl⟩
    ·have q6:((s[k].toNat:Int) != 45)=true:=by rw[bne_iff_ne];omega
     have q7:((s[k].toNat:Int) != 95)=true:=by rw[bne_iff_ne];omega
     go_wp2
     go_ret;exact⟨aZ (by rw[HI2.out];simp),rfl⟩
    ·have q6:((s[k].toNat:Int) != 45)=true:=by rw[bne_iff_ne];omega
     have q7:((s[k].toNat:Int) != 95)=true:=by simpa using q5
     go_wp2
     go_ret;exact⟨aZ (by rw[HI2.out];simp),rfl⟩
    ·have q6:((s[k].toNat:Int) != 45)=true:=by rw[bne_iff_ne];omega
     have q7:((s[k].toNat:Int) != 95)=true:=by rw[bne_iff_ne];omega
     go_wp2
     go_ret;exact⟨aZ (by rw[HI2.out];simp),rfl⟩
 -- behind the loop
  ·obtain rfl:k=s.size:=by omega
   have au:b=false:=by rw[az.out,Bt,List.drop_length];rfl
   subst au;clear az HBB;by_cases h1:1<=s.size
   ·have g1:(1:Int)<=s.size:=by omega
    go_wp2
    go_ret;exact⟨aZ (by first|rfl|(simp;omega)|(rw[Bb];simp;omega)),rfl⟩
   ·have g1:¬(1:Int)<=s.size:=by omega
    go_wp2
    go_ret;exact⟨aZ (by first|rfl|(simp;done)|(rw[Bb];simp;omega)),rfl⟩
theorem yB0 (l:List cJ) (name:ByteArray) (a:Option Addr) (cap:Nat) (w:World) (hl:l.length<=4611686018427387904) (hs:aF w a 2 (l.map bE)) :
  Calls Tryz.prog 192 #[.slice a l.length cap,.string name] w λe w'=>e=.returned (.tuple #[.int .i64 (aG1 (posFind l name)),.bool (posFind l name).isSome])/\w=w':=by
 obtain⟨R,hR⟩:=exq (posFind l name);rw[<-hR];have HR:=Ab hR;have HS:=Ab hs;clear hs hR;go_enter Tryz.func192,Tryz.ntmps192
 go_wp2_with fail
 go_loop [6] (λi=>∃k:Nat,k<=l.length/\i=.int .i64 k/\Hid (∀j q,j<k->l[j]?=some q->seq q.name name=false)) (λi=>l.length-(intOf i).toNat)
 case atStart=>exact⟨0,Ak _,rfl,λj q hj=>by omega⟩
 case round =>
  obtain⟨k,hk,rfl,az⟩:=hrel;by_cases ae:k<l.length
  ·obtain⟨p,hp⟩:∃p,l[k]?=some p:=⟨_,Ae ae⟩
   obtain⟨ba,oa,rfl,be⟩:=HS.out.get (aH ae);have c0:w.cell? ⟨ba,oa+k*2,none⟩=some (.string p.name):=by simpa using be k _ hp 0 _ rfl
   have HP:=Ab hp;clear be hp;cases hq:seq p.name name
   ·have aj:(p.name.toList==name.toList)=false:=hq
    have qu:¬p.name.toList=name.toList:=by simpa using aj
    have HQ:=Ab hq;clear hq;go_wp2
    go_round
    case rel=>exact⟨k+1,ae,by go_num,λj q hj hjq=>by
     rcases Nat.lt_succ_iff_lt_or_eq.1 hj with h|rfl
     ·exact az.out j q h hjq
     ·rw[HP.out]at hjq;obtain rfl:=Option.some.inj hjq;exact HQ.out⟩
    case measure=>simp[intOf];omega
   ·have p9:(p.name.toList==name.toList)=true:=hq
    have ajd:p.name.toList=name.toList:=by simpa using p9
    have au:R=some k:=HR.out.trans (bB0 HP.out az.out hq);subst au;clear hq az HR;go_wp2
    go_ret2;exact⟨rfl,rfl⟩
  ·obtain rfl:k=l.length:=by omega
   have au:R=none:=HR.out.trans (xD az.out);subst au;clear az HR;go_wp2
   go_ret2;exact⟨rfl,rfl⟩
end
section
open Go Go.RowKit
def oM0 (c:Nat):Bool:=decide (c<97)||decide (122<c)
def azS (s:ByteArray):Bool:=decide (1<=s.size)&&decide (s.size<=16) && !(s.data.toList.any λb=>oM0 b.toNat)
theorem bA1 {p:Nat->Bool} (hp:∀c,128<=c->p c=true) (l:List UInt8):(runesD l).any p=l.any λb=>p b.toNat:=by
 by_cases h:∃b∈l,128<=b.toNat
 ·obtain⟨c,hc,hg⟩:=uX _ l (Ah _) h
  obtain⟨b,hb,hbg⟩:=h;rw[List.any_eq_true.2 ⟨c,hc,hp c hg⟩,List.any_eq_true.2 ⟨b,hb,hp _ hbg⟩]
 ·rw[rZ _ l (Ah _) (λb hb=>by
   rcases Bp b.toNat 128 with h1|h1
   ·exact h1
   ·exact absurd ⟨b,hb,h1⟩ h),Bq]
  rfl
theorem oV0 {c:Nat} (h:128<=c):oM0 c=true:=by unfold oM0; simp; omega
structure bD where
 name:ByteArray
 data:List UInt8
 a:Option Addr
 c:Nat
def lG (p:bD):List Value:=[.string p.name,.slice p.a p.data.length p.c]
structure iV (w:World) (l:List bD):Prop where
 at_:∀p∈l,aF w p.a 1 (p.data.map aX)
 none_:∀p∈l,p.a=none->p.c=0
 name:∀p∈l,p.name.size<=1099511627776
 data:∀p∈l,p.data.length<=1099511627776
theorem iV.grows {w w':World} {l:List bD} (h:iV w l) (hg:Grows w w'):iV w' l:=⟨λp hp=>(h.at_ p hp).grows hg,h.none_,h.name,h.data⟩
def lI (l:List bD):Nat:=(l.map λp=>p.data.length).sum
theorem uL0 (l:List bD) (p:bD):lI (l++[p])=lI l+p.data.length:=by simp[lI]
theorem hD1 {l:List bD} {n:Nat} (h:∀p∈l,p.data.length<=n):lI l<=l.length*n:=by
 unfold lI
 induction l with
 | nil=>simp
 | cons p l ih =>
  rw[Be,List.sum_cons,Am,Bh]
  have:=ih (λq hq=>h q (by simp[hq]))
  have:=h p (by simp)
  omega
def yD:List bD->List ByteArray->Bool
 | [],_=>false
 | p::l,seen=>(seen.any λs=>seq s p.name)||yD l (seen++[p.name])
def wH0 (l:List bD):Bool:=yD l []
def fO (l:List bD):Nat:=if 64<l.length\/16777216<lI l then 2 else if (l.any λp => !azS p.name)=true then 1 else if wH0 l=true then 4 else 0
def dK (l:List bD):List UInt8:=l.flatMap λp=>sE p.name++putU p.data.length
def dT (l:List bD):List UInt8:=l.flatMap λp=>p.data
def dO (l:List bD):List UInt8:=([72,78,75,49]++putU l.length)++dK l++dT l
def file14 (l:List bD):List UInt8:=dO l++leB 4 (crcSum (dO l))
def rN0 (l:List bD) (w:World) (e:Ending) (w':World):Prop :=
 (fO l=0->∃v,e=.returned (.tuple #[v,.int .i64 0])/\aU w' w.heap.size 5 1 aX v (file14 l))/\(fO l≠0->e=.returned (.tuple #[.slice none 0 0,.int .i64 (fO l)]))/\Grows w w'
theorem eH0 (l:List bD):(dT l).length=lI l:=by simp[dT,lI,List.length_flatMap]
theorem nT0 (l:List bD) (p:bD):dK (l++[p])=dK l++(sE p.name++putU p.data.length):=by simp[dK]
theorem oE0 (l:List bD) (p:bD):dT (l++[p])=dT l++p.data:=by simp[dT]
theorem xX0 {l:List bD} (h:(l.any λp => !azS p.name)=false):∀p∈l,p.name.size<=16:=λp hp=>by
 have:=List.any_eq_false.1 h p hp
 simp only[azS,Bool.not_eq_true',Bool.not_eq_false,Ai,decide_eq_true_eq]at this;simp at this;omega
theorem dL0 {l:List bD} (h:∀p∈l,p.name.size<=16):(dK l).length<=l.length*36:=by
 unfold dK
 induction l with
 | nil=>simp
 | cons p l ih =>
  rw[Ap,Aa,Aa,Am,Bh];have h1:=ih (λq hq=>h q (by simp[hq]));have h2:=h p (by simp);have h3:=sJ p.name;have h4:=cT p.data.length;omega
theorem qN0 {l:List bD} (h:fO l=0):l.length<=64/\lI l<=16777216/\(l.any λp => !azS p.name)=false/\wH0 l=false:=by
 unfold fO at h;split at h
 ·omega
 ·rename_i h1
  split at h
  ·omega
  ·rename_i h2
   split at h
   ·omega
   ·rename_i h3
    exact⟨by omega,by omega,by simpa using h2,by simpa using h3⟩
theorem uW0 {l:List bD} (h:fO l=0):(dO l).length<=16800000:=by
 obtain⟨h1,h2,h3,_⟩:=qN0 h;have h4:=dL0 (xX0 h3);have h5:=eH0 l;have h6:=cT l.length;unfold dO;simp only[Aa,Am,Bj];omega
end
section
open Go Go.RowKit
attribute [local go_sem] aQ aM
def fR (p:cJ):List UInt8:=sE p.name++putU p.kind.toNat
def posE (l:List cJ):List UInt8:=putU l.length++l.flatMap fR
theorem jU0 (l:List cJ) (p:cJ):(l++[p]).flatMap fR=l.flatMap fR++fR p:=by simp
theorem tS0 {p:cJ} (h:p.name.size<=16):(fR p).length<=40:=by
 have h1:=sJ p.name;have h2:=cT p.kind.toNat;unfold fR;rw[Aa];omega
theorem aJ0 {l:List cJ} (h:∀p∈l,p.name.size<=16):(l.flatMap fR).length<=l.length*40:=by
 induction l with
 | nil=>simp
 | cons p l ih =>
  rw[Ap,Aa,Am,Bh];have h1:=ih (λq hq=>h q (by simp[hq]));have h2:=tS0 (h p (by simp));omega
theorem oD0 {s:ByteArray} (h:rK s=true):s.size<=16:=by
 rw[xY]at h;simp only[Ai,decide_eq_true_eq]at h;exact h.1.2
theorem dW0 (L:List cJ):∀(l:List cJ) (i j:Nat) (p:cJ),jG L l i=true->l[j]?=some p->sR L (i+j) p=true
 | [],_,_,_,_,h=>by simp at h
 | q::l,i,0,p,h,hp=>by
  rw[jG]at h;simp only[Ai]at h;obtain rfl:q=p:=by simpa using hp
  exact h.1
 | q::l,i,j+1,p,h,hp=>by
  rw[jG]at h;simp only[Ai]at h
  have:=dW0 L l (i+1) j p h.2 (by simpa using hp)
  rw[show i+(j+1)=i+1+j by omega];exact this
theorem dJ {l:List cJ} (h:dC l=true):l.length<=64/\∀p∈l,p.name.size<=16/\0<=p.kind/\p.kind<=2:=by
 unfold dC at h
 cases l with
 | nil=>cases h
 | cons q r =>
  simp only[Ai,decide_eq_true_eq]at h;refine⟨by have:=h.1;simp at this ⊢;omega,λp hp=>?_⟩;obtain⟨j,hj⟩:=List.mem_iff_getElem?.1 hp
  have:=dW0 _ _ 0 j p h.2 hj
  unfold sR at this;simp only[Ai,decide_eq_true_eq]at this;exact⟨oD0 this.1.1.2,this.1.2,this.2⟩
theorem jH (xs:List UInt8) (a:Option Addr) (c n:Nat) (w:World) (hx:xs.length<=1099511627776) (hv:n<18446744073709551616) (ac:aF w a 1 (xs.map aX)) (hn:a=none->c=0) :
  Calls Tryz.prog 154 #[.slice a xs.length c,.int .u64 n] w λe w'=>∃v,e=.returned v/\aU w' w.heap.size 5 1 aX v (xs++putU n)/\Grows w w':=by
 have CC:=Ab (jA0 xs a c w hx ac hn);clear ac hn;go_enter Tryz.func154,Tryz.ntmps154
 go_wp2_with fail
 refine CC.out.mono ?_;rintro e w1 ⟨v1,rfl,ay,ah⟩;obtain⟨a1,c1,rfl,h11,h12,ct⟩:=ay.at_ bK.len;have iw:=bN ay;go_wp2_with fail
 refine(pY0 xs a1 c1 w1 h11).mono ?_;rintro e w2 ⟨rfl,rfl⟩;have jc:Src w1 w.heap.size (.slice a1 xs.length xs.length) xs:=Or.inr ⟨a1,rfl,ct,λh=>Aj (by have:=iw h;omega)⟩;clear ay ct iw CC;go_wp2_with fail
 go_loopw [0,1] (λb v wr=>∃(k:Nat) (pre:List UInt8),v=.int .u64 k/\Src wr w.heap.size b (xs++pre)/\Hid (pre++putU k=putU n)/\k<18446744073709551616/\Grows w wr) (λ_ v _=>(intOf v).toNat)
 case atStart=>exact⟨n,[],rfl,by rw[List.append_nil];exact jc,rfl,hv,ah⟩
 case round =>
  obtain⟨k,pre,rfl,hs,hp,hk,hg⟩:=hrel
  have ml:pre.length<=10:=by
   have h1:=congrArg List.length hp.out;have h2:=cT n;rw[Aa]at h1;omega
  by_cases acq:128<=k
  ·have dg:(128:Int)<=k:=by omega
   have hb:=Ab (mB0 k);rw[uJ acq hk]at hp;go_wp2_with (at_builtin;refine fL0 rfl _ _ rfl w.heap.size _ (xs++pre) (Ao (k%128+128)) rfl hs (Grows.refl _) _ 1 rfl _ (by rw[hb.out];rfl) rfl (by rw[Aa];omega) hg.size ?_;intro v' w5 an bg)
   go_roundw
   case rel=>exact⟨k/128,pre++[Ao (k%128+128)],by go_num,Or.inl (by rw[<-Ac];exact an),by show (pre++[_])++putU (k/128)=putU n;rw[Ac];exact hp.out,by omega,bg w hg (Ah _)⟩
   case measure=>simp[intOf];omega
  ·have dg:¬(128:Int)<=k:=by omega
   have hb:=Ab (bO1 (k:=k) (by omega));rw[kR (by omega)]at hp;go_wp2_with (at_builtin;refine fL0 rfl _ _ rfl w.heap.size _ (xs++pre) (Ao k) rfl hs (Grows.refl _) _ 1 rfl _ (by rw[hb.out];rfl) rfl (by rw[Aa];omega) hg.size ?_;intro v' w5 an bg)
   go_ret;refine⟨_,rfl,?_,bg w hg (Ah _)⟩;rw[<-hp.out,<-Ac];exact an
theorem aE0 (xs:List UInt8) (a:Option Addr) (c:Nat) (s:ByteArray) (w:World) (hx:xs.length<=1099511627776) (hs:s.size<=1099511627776) (ac:aF w a 1 (xs.map aX)) (hn:a=none->c=0) :
  Calls Tryz.prog 155 #[.slice a xs.length c,.string s] w λe w'=>∃v,e=.returned v/\aU w' w.heap.size 5 1 aX v (xs++sE s)/\Grows w w':=by
 have hl:=cT s.size;have hw:IntKind.u64.wrap (s.size:Int)=s.size:=by simp[Aw,Ax,Aq];omega
 have CU:=Ab (jH xs a c s.size w hx (by omega) ac hn);clear ac hn;go_enter Tryz.func155,Tryz.ntmps155
 go_wp2_with fail
 refine CU.out.mono ?_;rintro e w1 ⟨v1,rfl,ay,ah⟩;go_wp2_with (at_builtin;refine jF1 rfl _ _ rfl w.heap.size _ _ s rfl ay (Grows.refl _) rfl (by rw[Aa];omega) ah.size ?_;intro v2 w2 ai af _)
 go_ret;exact⟨_,rfl,by unfold sE;rw[<-Ac];exact ai,af w ah (Ah _)⟩
theorem sL0 (l:List cJ) (a:Option Addr) (c:Nat) (w:World) (hv:dC l=true) (ac:aF w a 2 (l.map bE)) :
  Calls Tryz.prog 78 #[.slice a l.length c] w λe w'=>∃v,e=.returned (.tuple #[v,.int .i64 0])/\aU w' w.heap.size 5 1 aX v (posE l)/\Grows w w':=by
 obtain⟨ac1,cg⟩:=dJ hv;have HALL:=Ab cg;have CC:=Ab (zU l a c w ac (by omega));rw[hv]at CC;have HAT:=Ab ac;have hul:=cT l.length;have qz:IntKind.u64.wrap (l.length:Int)=l.length:=by simp[Aw,Ax,Aq];omega
 have jv:nJ1 true=0:=rfl;rw[jv]at CC;clear cg ac hv jv;go_enter Tryz.func78,Tryz.ntmps78
 go_wp2_with fail
 refine CC.out.mono ?_;rintro e w1 ⟨rfl,ah⟩;go_wp2_with fail
 refine(jH [] none 0 l.length w1 (by simp) (by omega) (aF.nil _ _ _) (λ_=>rfl)).mono ?_;rintro e w2 ⟨v2,rfl,ai,af⟩;rw[Bk]at ai;have ia:=ah.tr af;replace ai:=ai.base (base':=w.heap.size) ah.size;clear ah af CC;go_wp2_with fail
 go_loopw [5,19] (λout i wr=>∃(k:Nat) (bv:List UInt8),k<=l.length/\i=.int .i64 k/\Hid (bv=putU l.length++(l.take k).flatMap fR)/\aU wr w.heap.size 5 1 aX out bv/\Grows w wr) (λ_ i _=>l.length-(intOf i).toNat)
 case atStart=>exact⟨0,_,Ak _,rfl,(by show _=_;simp),ai,ia⟩
 case round =>
  obtain⟨k,bv,hk,rfl,cm,aa,hg⟩:=hrel
  have ni:bv.length<=10+k*40:=by
   rw[cm.out,Aa];have h1:=aJ0 (l:=l.take k) (λp hp=>(HALL.out p (As hp)).1);rw[Ba]at h1;have h2:min k l.length*40<=k*40:=At _ (by omega);omega
  by_cases ae:k<l.length
  ·obtain⟨p,hp⟩:∃p,l[k]?=some p:=⟨_,Ae ae⟩
   obtain⟨b,o,rfl,hc⟩:=aF.get (enc:=bE) HAT.out (aH ae);obtain⟨pn,pk⟩:=p;have c0:wr.cell? ⟨b,o+k*2,none⟩=some (.string pn):=hg.cell (hc k _ hp 0 _ rfl);have c1:wr.cell? ⟨b,o+k*2+1,none⟩=some (.int .i64 pk):=hg.cell (hc k _ hp 1 _ rfl);obtain⟨o4,jv,gw⟩:=HALL.out _ (Ad hp);simp only at o4 jv gw;obtain⟨kd,rfl⟩:∃kd:Nat,pk=kd:=⟨pk.toNat,by omega⟩;have aho:=sJ pn;have ahp:=cT kd;have hwk:IntKind.u64.wrap (kd:Int)=kd:=by simp[Aw,Ax,Aq];omega
   have HN:Hid ((bv++sE pn)++putU kd=putU l.length++(l.take (k+1)).flatMap fR):=by
    show _=_
    rw[bI hp,jU0,cm.out];simp only[Ac,fR,Int.toNat_natCast]
   have dg:(k:Int)<l.length:=by omega
   have z0:∀x:Ext Grows (wr.alloc (.cells #[.string pn,.int .i64 kd] 147)).drew,x.u.cell? ⟨wr.heap.size,0,none⟩=some (.string pn):=aB (aT wr _ _ (0,0) 0 _ rfl);have z1:∀x:Ext Grows (wr.alloc (.cells #[.string pn,.int .i64 kd] 147)).drew,x.u.cell? ⟨wr.heap.size,1,none⟩=some (.int .i64 kd):=aB (aT wr _ _ (0,0) 1 _ rfl);obtain⟨ao,co,rfl,_,_,ac2⟩:=aa.at_ bK.len;have qn:=bN aa;have nf:Grows wr (wr.alloc (.cells #[.string pn,.int .i64 kd] 147)):=Grows.alloc _ _;clear hp cm hc aa;go_wp2_with fail
   refine bF (lK [0,1,2,4,5,6,3,7,8] [3,7,8]) (by kernel_rfl) (λd _ _ _ _ h=>by cases d<;>exact h) ?_
   iterate 6 (refine aG rfl (λK hK=>?_);go_simp;refine hK _ ?_;clear hK K)
   clear z0 z1;refine aY rfl rfl (λK hK=>?_);go_simp;refine(aE0 bv ao co pn _ (by omega) (by omega) (ac2.grows (nf.dr)) qn).mono ?_;rintro e w3 ⟨v3,rfl,aw,ax⟩;obtain⟨B3,je⟩:=exq (bv++sE pn);rw[<-je]at aw;have lw:B3.length<=10000:=(by rw[je,Aa];omega);have HB3:=Ab je;clear je;obtain⟨a3,c3,rfl,_,_,ei⟩:=aw.at_ bK.len;have qh:=bN aw;clear aw;refine⟨ax,hK _ _ ?_⟩;clear hK K;refine aY rfl rfl (λK hK=>?_);go_simp;refine(jH B3 a3 c3 kd _ (by omega) (by omega) ei qh).mono ?_;rintro e w4 ⟨v4,rfl,cr,bu⟩;refine⟨bu,hK _ _ ?_⟩;clear hK K;iterate 1 (refine aY rfl rfl (λK hK=>?_);go_simp;refine⟨Grows.refl _,hK _ _ ?_⟩;clear hK K)
   refine bH ?_;have xz:=hg.tr ((nf.dr).tr ax);go_wp2_with fail
   go_roundw
   case rel=>exact⟨k+1,_,ae,by go_num,(by show _=_;rw[<-HN.out,HB3.out]),cr.base xz.size,xz.tr bu⟩
   case measure=>simp[intOf];omega
  ·have dg:¬(k:Int)<l.length:=by omega
   have HF:Hid (bv=posE l):=by
    show _=_
    rw[cm.out,Ar (by omega)];rfl
   clear cm;go_wp2_with fail
   refine bodyPost_ret (v:=.tuple #[_,.int .i64 0]) (by simp[results,Tryz.results78,go_sem];rfl) rfl ⟨_,rfl,by rw[<-HF.out];exact aa,hg⟩
theorem yI0 (n:Nat) (hn:n<4294967296):(#[Value.int .u8 ((n:Int)%256),.int .u8 ((n:Int)/256%256),.int .u8 ((n:Int)/65536%256),.int .u8 ((n:Int)/16777216)]:Array Value).toList=(leB 4 n).flatMap aX:=by
 have h:leB 4 n=[Ao n,Ao (n/256),Ao (n/65536),Ao (n/16777216)]:=by
  unfold leB;simp[List.range_succ]
 rw[h,qL];simp only[Be,List.map_nil,UInt8.toNat_ofNat'];rw[Nat.mod_eq_of_lt (show n/16777216<2^8 by omega)]
 congr 1
end
section
open Go Go.RowKit Go.Shelf
attribute [local go_sem] aQ aM
theorem pX0 {R q:Nat} (hR:R<4294967296) (hq:crc4 R=R/16 ^^^ q) (hql:q<4294967296):bits .xor .u32 ((R:Int)/16) (q:Int)=((crc4 R:Nat):Int):=by
 have h:=u32_xor_nat (R/16) q (by omega) hql;rw[hq,<-h];rfl
theorem eS0:∀(i q:Nat),kN[i]?=some q->q<4294967296:=by
 intro i q h;have h1:=Ad h;simp[kN]at h1;omega
theorem hT1 {R:Nat} (hR:R<4294967296):bits .and .u32 (R:Int) 15=((R%16:Nat):Int):=by
 have h:=u32_and_nat R 15 hR (by decide);rw[nat_mask4]at h;exact h
theorem tO0 (b:List UInt8) (a:Option Addr) (c:Nat) (w:World) (he:Env w) (hb:b.length<=1099511627776) (ac:aF w a 1 (b.map aX)) :
  Calls Tryz.prog 236 #[.int .u32 0,.slice a b.length c] w λe w'=>e=.returned (.int .u32 (crcSum b))/\w=w':=by
 have HAT:=Ab ac;clear ac;go_enter Tryz.func236,Tryz.ntmps236
 go_wp2_with fail
 go_loop [5,12] (λr i=>∃k R:Nat,k<=b.length/\i=.int .i64 k/\r=.int .u32 R/\R<4294967296/\Hid (R=kI0 4294967295 (b.take k))) (λ_ i=>b.length-(intOf i).toNat)
 case atStart=>exact⟨0,4294967295,Ak _,rfl,rfl,by decide,rfl⟩
 case round =>
  obtain⟨k,R,hk,rfl,rfl,hR,az⟩:=hrel;by_cases ae:k<b.length
  ·obtain⟨x,hx⟩:∃x,b[k]?=some x:=⟨_,Ae ae⟩
   obtain⟨bb,bo,rfl,hc⟩:=at1 HAT.out (aH ae);have jb:=hc k x hx;have HN:Hid (nV1 (R ^^^ x.toNat)=kI0 4294967295 (b.take (k+1))):=by show _=_;rw[bI hx,dM0,<-az.out]
   have ais:=x.toNat_lt;have hxo:=u32_xor_nat R x.toNat hR (by omega);obtain⟨X,hX⟩:=exq (R ^^^ x.toNat);have hXl:X<4294967296:=by rw[hX];exact Bf (n:=32) hR (by omega)
   rw[<-hX]at hxo HN;obtain⟨q1,kp,ew⟩:=dH0 X;obtain⟨Y,hY⟩:=exq (crc4 X);have hYl:Y<4294967296:=by rw[hY];exact fR0 hXl
   have e1:=pX0 hXl ew (eS0 _ _ kp);rw[<-hY]at e1;obtain⟨q2,iy,i5⟩:=dH0 Y;obtain⟨Z,hZ⟩:=exq (crc4 Y);have hZl:Z<4294967296:=by rw[hZ];exact fR0 hYl
   have e2:=pX0 hYl i5 (eS0 _ _ iy);rw[<-hZ]at e2;have HN2:Hid (Z=kI0 4294967295 (b.take (k+1))):=by show _=_;rw[hZ,hY,<-HN.out];rfl
   have a1:=hT1 hXl;have a2:=hT1 hYl;obtain⟨i1,hi1⟩:=exq (X%16);obtain⟨i2,fg⟩:=exq (Y%16);rw[<-hi1]at a1 kp;rw[<-fg]at a2 iy;have g1:=he.crc i1 q1 kp;have g2:=he.crc i2 q2 iy;have l1:(i1:Int)<16:=by omega
   have l2:(i2:Int)<16:=by omega
   clear hc hx az hX hY hZ kp iy ew i5 HN hi1 fg;go_wp2_with fail
   go_round
   case rel=>exact⟨k+1,Z,ae,by go_num,rfl,hZl,HN2.out⟩
   case measure=>simp[intOf];omega
  ·have ja:k=b.length:=by omega
   have dg:¬(k:Int)<b.length:=by omega
   have eo:R ^^^ 4294967295=crcSum b:=by rw[az.out,ja,An];rfl
   have hx:bits .xor .u32 IntKind.u32.max (R:Int)=((crcSum b:Nat):Int):=by
    rw[<-eo,Nat.xor_comm];exact u32_xor_nat 4294967295 R (by decide) hR
   clear az ja eo;go_wp2_with fail
   go_ret;exact⟨rfl,rfl⟩
theorem sI0 (b:List UInt8) (a:Option Addr) (c:Nat) (w:World) (he:Env w) (hb:b.length<=1099511627776) (ac:aF w a 1 (b.map aX)) :
  Calls Tryz.prog 172 #[.slice a b.length c] w λe w'=>e=.returned (.int .u32 (crcSum b))/\w=w':=by
 go_enter Tryz.func172,Tryz.ntmps172
 go_wp2_with fail
 refine(tO0 b a c w he hb ac).mono ?_;rintro e w1 ⟨rfl,rfl⟩;go_wp2_with fail
 go_ret;exact⟨rfl,rfl⟩
theorem xZ (b:List UInt8) (a:Option Addr) (c:Nat) (w:World) (he:Env w) (hb:b.length<=1099511627776) (ac:aF w a 1 (b.map aX)) :
  Calls Tryz.prog 111 #[.slice a b.length c] w λe w'=>∃v,e=.returned v/\aU w' w.heap.size 5 1 aX v (leB 4 (crcSum b))/\Grows w w':=by
 have cw:crcSum b<4294967296:=Bf (n:=32) (pO0 _ (by decide)) (by decide);have CS:=Ab (sI0 b a c w he hb ac);obtain⟨n,hn⟩:=exq (crcSum b);rw[<-hn]at cw CS ⊢;have HH:=Ab (yI0 n cw);clear hn;go_enter Tryz.func111,Tryz.ntmps111
 go_wp2_with fail
 refine CS.out.mono ?_;rintro e w1 ⟨rfl,rfl⟩;go_wp2_with fail
 go_ret;exact⟨_,rfl,jB (enc:=aX) (λ_=>rfl) (Ah _) (leB 4 n) HH.out (n:=4) (by simp[bM]) (by decide),Grows.alloc _ _⟩
theorem oA0 (w:World):PredAt Tryz.prog 271 #[] encR oM0 w:=λW x _=>by
 unfold FnGives;show Calls Tryz.prog 271 #[.int .i32 (x:Int)] W _
 go_enter Tryz.func271,Tryz.ntmps271
 go_wp2
 all_goals (go_ret;refine⟨aZ ?_,0,rfl⟩;rw[Bb];simp[oM0];try omega)
theorem uO0 (s:ByteArray) (w:World) (hs:s.size<=9223372036854775807) :
  Calls Tryz.prog 219 #[.string s] w λe w'=>e=.returned (.bool (azS s))/\Grows w w':=by
 have gv:=Ab (Tryz.strings_ContainsFunc 271 #[] (enters_of Tryz.func271 (by kernel_rfl) rfl) oM0 s w (oA0 w));rw[gX1,bA1 (λc h=>oV0 h)]at gv;unfold azS;generalize (s.data.toList.any λb=>oM0 b.toNat)=r at gv ⊢;by_cases h1:1<=s.size
 ·have g1:(1:Int)<=s.size:=by omega
  by_cases hz:s.size<=16
  ·have hz':(s.size:Int)<=16:=by omega
   go_enter Tryz.func219,Tryz.ntmps219
   go_wp2_with (go_at_call 241;refine gv.out.mono ?_;rintro e w' ⟨rfl,af⟩)
   go_ret;exact⟨aZ (by simp[h1,hz]),af⟩
  ·have hz':¬(s.size:Int)<=16:=by omega
   go_enter Tryz.func219,Tryz.ntmps219
   go_wp2
   go_ret;exact⟨aZ (by simp<;>omega),Grows.refl _⟩
 ·have g1:¬(1:Int)<=s.size:=by omega
  go_enter Tryz.func219,Tryz.ntmps219
  go_wp2
  go_ret;exact⟨aZ (by simp<;>omega),Grows.refl _⟩
theorem sQ {H:Type} {P:Program} {e:TypeId} (he:P.underlying e=some .bool) {v:Value} {z:DataW H×List MemPlace} (h:plainElem P e v=some z):∃b,v=.bool b/\z=(.lit (.bool b),[]):=by
 unfold plainElem at h;rw[he]at h;cases v<;>simp at h
 exact⟨_,rfl,h.symm⟩
theorem nE1 (w:World):(zeroValue 4).run Tryz.prog w=.ok (.bool false) w:=by kernel_rfl
def eC1 (l:List ByteArray) (D:DataW Unit):Prop:=∀s:ByteArray,s.size<=maxLen->D.atKey (.string s.data.toList) (.lit (.bool false))=.lit (.bool (l.any λt=>seq t s))
theorem eK0 {w:World} {b n:Nat} {D:DataW Unit} {l:List ByteArray} (hM:eC1 l D) (aa:w.ownsMap Tryz.prog 9 (plainElem Tryz.prog 4) b n D) {s:ByteArray} (hs:s.size<=maxLen) :
  (Instr.lookup 269 (.map (some b)) (.string s) false).run Tryz.prog w=.ok (.bool (l.any λt=>seq t s)) w:=by
 obtain⟨v,ps,jf,hv⟩:=aa.lookup (Maps.string_keyed Tryz.underlying9) Tryz.underlying269 (nE1 w) (plainElem_bool Tryz.underlying4 false) (WideMaps.keyOf_string_mk Tryz.underlying9 hs);obtain⟨c,rfl,hc⟩:=sQ Tryz.underlying4 hv;simp only[Prod.mk.injEq]at hc;rw[hM s hs]at hc
 have:c=l.any λt=>seq t s:=by have:=hc.1;simpa using this.symm
 rw[<-this];exact jf
theorem cD1 {b n:Nat} {w:World} {D:DataW Unit} {l:List ByteArray} (hM:eC1 l D) (aa:w.ownsMap Tryz.prog 9 (plainElem Tryz.prog 4) b n D) (s:ByteArray):eC1 (l++[s]) (D.put (.string s.data.toList) (.lit (.bool true))):=λt ht=>by
 by_cases h:s=t
 ·subst h
  rw[Maps.atKey_put_same aa.isMap (k:=.string s.data.toList) trivial];simp[zN]
 ·have aj:(Lit.string t.data.toList) ≠ .string s.data.toList:=λh2=>h (by
   injection h2 with h3
   exact aQ0 h3.symm)
  rw[Maps.atKey_put_other aj,hM t ht,Bl]
  have:seq s t=false:=nD.2 h
  simp[this]
theorem eM0:∀(l:List bD) (p:bD) (seen:List ByteArray),yD (l++[p]) seen=(yD l seen||(seen++l.map (·.name)).any λs=>seq s p.name)
 | [],p,seen=>by simp[yD]
 | q::l,p,seen=>by
  rw[List.cons_append,yD,eM0 l p (seen++[q.name]),yD];simp[Bool.or_assoc,Ac]
theorem bX1 (l:List bD) (a:Option Addr) (c:Nat) (w:World) (hl:l.length<=1000000) (ac:aF w a 2 (l.map lG)) (ke:iV w l) :
  Calls Tryz.prog 158 #[.slice a l.length c] w λe w'=>e=.returned (.int .i64 (fO l))/\Grows w w':=by
 have HD:=Ab ke.data;have HNM:=Ab ke.name;clear ke
 have bz:∀k p,l[k]?=some p->∃b o,a=some ⟨b,o,none⟩/\w.cell? ⟨b,o+k*2,none⟩=some (.string p.name)/\w.cell? ⟨b,o+k*2+1,none⟩=some (.slice p.a p.data.length p.c):=by
  intro k p hp;obtain⟨b,o,ha,hc⟩:=aF.get (enc:=lG) ac (aH (List.getElem?_eq_some_iff.1 hp).1);exact⟨b,o,ha,hc k p hp 0 _ rfl,hc k p hp 1 _ rfl⟩
 have HC:=Ab bz;clear bz ac;have vd:=@run_makeMap Tryz.prog;go_enter Tryz.func158,Tryz.ntmps158
 go_wp2_with fail
 have s5:=World.ownsMap_made w Tryz.prog 9 (plainElem (H:=Unit) Tryz.prog 4);have dh:Grows w (w.alloc (.map #[] 0)):=Grows.alloc _ _;have hbw:w.heap.size<(w.alloc (.map #[] 0)).heap.size:=by simp
 obtain⟨mb,hmb⟩:=exq w.heap.size;generalize w.alloc (.map #[] 0)=w1 at s5 dh hbw ⊢;rw[<-hmb]at s5 hbw ⊢;have HMB:=Ab hmb;clear hmb vd;go_loopw [3,13] (λn i wr=>∃k N:Nat,k<=l.length/\i=.int .i64 k/\n=.int .i64 N/\N<=k*1099511627776/\Hid (N=lI (l.take k))/\Grows w1 wr) (λ_ i _=>l.length-(intOf i).toNat)
 case atStart=>exact⟨0,0,Ak _,rfl,rfl,by omega,rfl,Grows.refl _⟩
 case round =>
  obtain⟨k,N,hk,rfl,rfl,hN,az,hg⟩:=hrel;by_cases ae:k<l.length
  ·obtain⟨p,hp⟩:∃p,l[k]?=some p:=⟨_,Ae ae⟩
   obtain⟨b,o,rfl,d0,d1⟩:=HC.out k p hp;have c0:=(dh.tr hg).cell d0;have c1:=(dh.tr hg).cell d1;have hd:=HD.out p (Ad hp);have HS:Hid (N+p.data.length=lI (l.take (k+1))):=by show _=_;rw[bI hp,uL0,<-az.out]
   have dg:(k:Int)<l.length:=by omega
   clear hp az d0 d1;go_wp2_with fail
   go_roundw
   case rel=>exact⟨k+1,N+p.data.length,ae,by go_num,by go_num,by omega,HS.out,hg.al _⟩
   case measure=>simp[intOf];omega
  ·have ja:k=l.length:=by omega
   have dg:¬(k:Int)<l.length:=by omega
   have hNs:N=lI l:=by rw[az.out,ja,An]
   have HN:=Ab hNs;clear az ja hNs;by_cases fu:64<l.length\/16777216<N
   ·have HF:Hid (fO l=2):=by show _=_;unfold fO;rw[<-HN.out,if_pos fu]
    by_cases uu:64<l.length
    ·have ae0:(64:Int)<l.length:=by omega
     go_wp2_with fail
     go_ret;exact⟨by rw[HF.out];rfl,dh.tr hg⟩
    ·have ae0:¬(64:Int)<l.length:=by omega
     have se:(16777216:Int)<N:=by omega
     clear fu;go_wp2_with fail
     go_ret;exact⟨by rw[HF.out];rfl,dh.tr hg⟩
   ·have uu:l.length<=64:=by omega
    have ae0:¬(64:Int)<l.length:=by omega
    have se:¬(16777216:Int)<N:=by omega
    have HF:Hid (fO l=if (l.any λp => !azS p.name)=true then 1 else if wH0 l=true then 4 else 0):=by show _=_;unfold fO;rw[<-HN.out,if_neg fu]
    have ad9:=cB s5 hg;have iv:=dh.tr hg;clear fu HN s5;go_wp2_with fail
    obtain⟨u0,rfl⟩:=exq wr;go_loopw [5,32] (λe i wr=>∃(k E:Nat) (D:DataW Unit),k<=l.length/\i=.int .i64 k/\e=.int .i64 E/\Hid (((l.take k).any λp => !azS p.name)=false/\E=(if wH0 (l.take k)=true then 4 else 0)/\eC1 ((l.take k).map (·.name)) D)/\wr.ownsMap Tryz.prog 9 (plainElem Tryz.prog 4) mb k D/\mb<wr.heap.size/\Grows w wr) (λ_ i _=>l.length-(intOf i).toNat)
    case atStart=>exact⟨0,0,.map [],Ak _,rfl,rfl,⟨rfl,rfl,λs _=>rfl⟩,ad9,Af hbw hg.size,iv⟩
    case round =>
     obtain⟨k,E,D,hk,rfl,rfl,az,aa,ae1,hg⟩:=hrel;by_cases ae:k<l.length
     ·obtain⟨p,hp⟩:∃p,l[k]?=some p:=⟨_,Ae ae⟩
      obtain⟨b,o,rfl,d0,d1⟩:=HC.out k p hp;have c0:=hg.cell d0;have c1:=hg.cell d1;have o4:=HNM.out p (Ad hp);have gv:=λW=>uO0 p.name W (by omega);have abq:p.name.size<=maxLen:=by unfold maxLen;omega
      obtain⟨i1,i2,i3⟩:=az.out;have dg:(k:Int)<l.length:=by omega
      cases haz:azS p.name
      ·have HB:Hid (fO l=1):=by
        show _=_
        rw[HF.out,if_pos (List.any_eq_true.2 ⟨p,Ad hp,by rw[haz];rfl⟩)]
       rw[haz]at gv;clear hp az haz i1 i2 i3 d0 d1;go_wp2_with fail
       refine(gv _).mono ?_;rintro e w2 ⟨rfl,af⟩;go_wp2_with fail
       go_ret;exact⟨by rw[HB.out];rfl,(hg.al _).tr af⟩
      ·have HI:Hid (((l.take (k+1)).any λp => !azS p.name)=false):=by
        show _=_
        rw[bI hp,Bl,i1];simp[haz]
       have hdu:wH0 (l.take (k+1))=(wH0 (l.take k)||((l.take k).map (·.name)).any λs=>seq s p.name):=by
        unfold wH0;rw[bI hp,eM0,Bk]
       have HNS:Hid ((l.take (k+1)).map (·.name)=(l.take k).map (·.name)++[p.name]):=by show _=_;rw[bI hp,List.map_append];rfl
       rw[haz]at gv;have HDU:=Ab hdu;have HI2:=Ab i2;have HI3:=Ab i3;have hM:=cD1 i3 aa p.name;have HM:=Ab hM;clear hp az haz i1 i2 d0 d1 hdu hM;cases hseen:((l.take k).map (·.name)).any λs=>seq s p.name
       ·have HE:Hid (E=if wH0 (l.take (k+1))=true then 4 else 0):=by show _=_;rw[HDU.out,hseen,Bool.or_false];exact HI2.out
        have qq:=λ(W:World) (hW:W.ownsMap Tryz.prog 9 (plainElem Tryz.prog 4) mb k D)=>eK0 i3 hW abq;rw[hseen]at qq;clear i3 hseen;go_wp2_with fail
        refine(gv _).mono ?_;rintro e w2 ⟨rfl,af⟩;have ai:=cB aa ((Grows.alloc _ _).tr af);have x0:w2.cell? ⟨wr.heap.size,0,none⟩=some (.string p.name):=af.cell (aT wr _ _ (0,0) 0 _ rfl);have ahq:=qq _ ai;have ia:=(hg.al _).tr af;go_wp2_with (at_mapUpdate;refine wpList_mapUpdate_own _ rfl _ _ _ 269 rfl 9 4 (Maps.string_keyed Tryz.underlying9) Tryz.underlying269 _ mb k D rfl ai (by unfold maxLen;omega) _ _ (.string p.name.data.toList) rfl rfl (WideMaps.keyOf_string_mk Tryz.underlying9 abq) _ [] (plainElem_bool Tryz.underlying4 true) ?_;intro w3 aw k9)
        go_roundw
        case rel=>exact⟨k+1,E,_,ae,by go_num,rfl,⟨HI.out,HE.out,by rw[HNS.out];exact HM.out⟩,aw,Af (Af (Af ae1 (Grows.alloc _ _).size) af.size) k9.size,ia.grown k9 (λq hq=>by cases hq;exact Br HMB.out.symm)⟩
        case measure=>simp[intOf];omega
       ·have HE:Hid (4=if wH0 (l.take (k+1))=true then 4 else 0):=by show _=_;rw[HDU.out,hseen,Bool.or_true];rfl
        have qq:=λ(W:World) (hW:W.ownsMap Tryz.prog 9 (plainElem Tryz.prog 4) mb k D)=>eK0 i3 hW abq;rw[hseen]at qq;clear i3 hseen;go_wp2_with fail
        refine(gv _).mono ?_;rintro e w2 ⟨rfl,af⟩;have ai:=cB aa ((Grows.alloc _ _).tr af);have x0:w2.cell? ⟨wr.heap.size,0,none⟩=some (.string p.name):=af.cell (aT wr _ _ (0,0) 0 _ rfl);have ahq:=qq _ ai;have ia:=(hg.al _).tr af;go_wp2_with (at_mapUpdate;refine wpList_mapUpdate_own _ rfl _ _ _ 269 rfl 9 4 (Maps.string_keyed Tryz.underlying9) Tryz.underlying269 _ mb k D rfl ai (by unfold maxLen;omega) _ _ (.string p.name.data.toList) rfl rfl (WideMaps.keyOf_string_mk Tryz.underlying9 abq) _ [] (plainElem_bool Tryz.underlying4 true) ?_;intro w3 aw k9)
        go_roundw
        case rel=>exact⟨k+1,4,_,ae,by go_num,rfl,⟨HI.out,HE.out,by rw[HNS.out];exact HM.out⟩,aw,Af (Af (Af ae1 (Grows.alloc _ _).size) af.size) k9.size,ia.grown k9 (λq hq=>by cases hq;exact Br HMB.out.symm)⟩
        case measure=>simp[intOf];omega
     ·have ja:k=l.length:=by omega
      have dg:¬(k:Int)<l.length:=by omega
      have HB:Hid (fO l=E):=by
       obtain⟨i1,i2,_⟩:=az.out;show _=_
       rw[ja,An]at i1 i2;rw[HF.out,i1,i2];simp
      clear az ja;go_wp2_with fail
      go_ret;exact⟨by rw[HB.out];rfl,hg⟩
theorem mC0 {α:Type} {enc:α->List Value} {k:Nat} (hk:∀x,(enc x).length=k) {w:World} {cs:Array Value} {t:TypeId} {fz:Nat×Nat} (xs:List α) (eo:cs.toList=xs.flatMap enc):aF (w.alloc (.cells cs t fz)) (some ⟨w.heap.size,0,none⟩) k (xs.map enc):=λ_=>⟨w.heap.size,0,rfl,λi row hi j u hj=>by
 rw[List.getElem?_map]at hi
 cases hx:xs[i]? with
 | none=>rw[hx]at hi;cases hi
 | some x =>
  rw[hx]at hi;obtain rfl:=Option.some.inj hi;have h:=qT hk xs i j x u hx hj;rw[<-eo]at h;have h2:=aT w cs t fz (i*k+j) u (by simpa using h);simpa using h2⟩
theorem qX0 (l:List bD) (a:Option Addr) (c:Nat) (w:World) (he:Env w) (hl:l.length<=1000000) (ac:aF w a 2 (l.map lG)) (ke:iV w l) :
  Calls Tryz.prog 86 #[.slice a l.length c] w (rN0 l w):=by
 have CC:=Ab (bX1 l a c w hl ac ke)
 have bz:∀k p,l[k]?=some p->∃b o,a=some ⟨b,o,none⟩/\w.cell? ⟨b,o+k*2,none⟩=some (.string p.name)/\w.cell? ⟨b,o+k*2+1,none⟩=some (.slice p.a p.data.length p.c):=by
  intro k p hp;obtain⟨b,o,ha,hc⟩:=aF.get (enc:=lG) ac (aH (List.getElem?_eq_some_iff.1 hp).1);exact⟨b,o,ha,hc k p hp 0 _ rfl,hc k p hp 1 _ rfl⟩
 have HC:=Ab bz;have HPA:=Ab ke;clear bz ac ke;by_cases ag:fO l=0
 case neg =>
  have HNE:=Ab ag;obtain⟨E,hE⟩:∃E,fO l=E:=⟨_,rfl⟩;have HE:=Ab hE;rw[hE]at CC ag;have hEb:((E:Int) != 0)=true:=by rw[bne_iff_ne];omega
  clear hE ag;go_enter Tryz.func86,Tryz.ntmps86
  go_wp2_with fail
  refine CC.out.mono ?_;rintro e w1 ⟨rfl,ah⟩;go_wp2_with fail
  refine bodyPost_ret (v:=.tuple #[.slice none 0 0,.int .i64 E]) (by simp[results,Tryz.results86,go_sem]) rfl ⟨λh=>absurd h HNE.out,λ_=>by rw[HE.out],ah⟩
 have HOK:=Ab ag;rw[ag]at CC;obtain⟨ac1,nu,haz,_⟩:=qN0 ag;have HAZ:=Ab (xX0 haz);have HBL:=Ab (uW0 ag);have hul:=cT l.length;clear haz ag;go_enter Tryz.func86,Tryz.ntmps86
 go_wp2_with fail
 refine CC.out.mono ?_;rintro e w1 ⟨rfl,ah⟩;have hcv:=Lib.run_convert_bytes_const (P:=Tryz.prog) w1 42 5 #[.int .u8 72,.int .u8 78,.int .u8 75,.int .u8 49] 4 4 Tryz.underlying42 Tryz.underlying5;simp only[show (#[Value.int .u8 72,.int .u8 78,.int .u8 75,.int .u8 49]:Array Value).size=4 from rfl]at hcv
 go_wp2_with fail
 clear hcv;have ld:aF (w1.alloc (.cells #[.int .u8 72,.int .u8 78,.int .u8 75,.int .u8 49] 5 (4,5))) (some ⟨w1.heap.size,0,none⟩) 1 (([72,78,75,49]:List UInt8).map aX):=mC0 (enc:=aX) (λ_=>rfl) [72,78,75,49] rfl;refine(jH [72,78,75,49] (some ⟨w1.heap.size,0,none⟩) 4 l.length _ (by decide) (by omega) ld (λh=>by cases h)).mono ?_;rintro e w2 ⟨v2,rfl,ai,af⟩;have ia:=(ah.al _).tr af;replace ai:=ai.base (base':=w.heap.size) (ah.al _).size;clear ld af ah CC;go_wp2_with fail
 go_loopw [5,23] (λout i wr=>∃(k:Nat) (bv:List UInt8),k<=l.length/\i=.int .i64 k/\Hid (bv=([72,78,75,49]++putU l.length)++dK (l.take k))/\aU wr w.heap.size 5 1 aX out bv/\Grows w wr) (λ_ i _=>l.length-(intOf i).toNat)
 case atStart=>exact⟨0,_,Ak _,rfl,(by show _=_;simp[dK]),ai,ia⟩
 case round =>
  obtain⟨k,bv,hk,rfl,cm,aa,hg⟩:=hrel
  have ni:bv.length<=20+k*36:=by
   rw[cm.out,Aa,Aa];have h1:=dL0 (l:=l.take k) (λp hp=>HAZ.out p (As hp));rw[Ba]at h1;have h2:min k l.length*36<=k*36:=At _ (by omega);simp only[Am,Bj];omega
  by_cases ae:k<l.length
  ·obtain⟨p,hp⟩:∃p,l[k]?=some p:=⟨_,Ae ae⟩
   obtain⟨b,o,rfl,d0,d1⟩:=HC.out k p hp;have c0:=hg.cell d0;have c1:=hg.cell d1;have o4:=HAZ.out p (Ad hp);have hpd:=HPA.out.data p (Ad hp);have aho:=sJ p.name;have ahp:=cT p.data.length
   have HN:Hid ((bv++sE p.name)++putU p.data.length=([72,78,75,49]++putU l.length)++dK (l.take (k+1))):=by
    show _=_
    rw[bI hp,nT0,cm.out];simp only[Ac]
   have dg:(k:Int)<l.length:=by omega
   have ach:IntKind.u64.wrap (p.data.length:Int)=p.data.length:=by simp[Aw,Ax,Aq];omega
   obtain⟨ao,co,rfl,_,_,ac2⟩:=aa.at_ bK.len;have qn:=bN aa;have nf:Grows wr (wr.alloc (.cells #[.string p.name,.slice p.a p.data.length p.c] 137)):=Grows.alloc _ _;clear hp cm d0 d1 aa;go_wp2_with fail
   refine(aE0 bv ao co p.name _ (by omega) (by omega) (ac2.grows nf) qn).mono ?_;rintro e w3 ⟨v3,rfl,aw,ax⟩;obtain⟨B3,je⟩:=exq (bv++sE p.name);rw[<-je]at aw HN;have lw:B3.length<=1000000:=by rw[je,Aa];omega
   obtain⟨a3,c3,rfl,_,_,ei⟩:=aw.at_ bK.len;have qh:=bN aw;have x1:w3.cell? ⟨wr.heap.size,1,none⟩=some (.slice p.a p.data.length p.c):=ax.cell (aT wr _ _ (0,0) 1 _ rfl);clear je aw;go_wp2_with fail
   refine(jH B3 a3 c3 p.data.length _ (by omega) (by omega) ei qh).mono ?_;rintro e w4 ⟨v4,rfl,cr,bu⟩;have xz:=hg.tr (nf.tr ax);go_wp2_with fail
   go_roundw
   case rel=>exact⟨k+1,_,ae,by go_num,HN.out,cr.base xz.size,xz.tr bu⟩
   case measure=>simp[intOf];omega
  ·have dg:¬(k:Int)<l.length:=by omega
   have HA:Hid (bv=([72,78,75,49]++putU l.length)++dK l):=by
    show _=_
    rw[cm.out,Ar (by omega)]
   clear cm;go_wp2_with fail
   obtain⟨u0,rfl⟩:=exq wr;go_loopw [5,40] (λout i wr=>∃(k:Nat) (fe:List UInt8),k<=l.length/\i=.int .i64 k/\Hid (fe=bv++dT (l.take k))/\aU wr w.heap.size 5 1 aX out fe/\Grows w wr) (λ_ i _=>l.length-(intOf i).toNat)
   case atStart=>exact⟨0,_,Ak _,rfl,(by show _=_;simp[dT]),aa,hg⟩
   case round =>
    obtain⟨k,fe,hk,rfl,ic,aa,hg⟩:=hrel;by_cases ae:k<l.length
    ·obtain⟨p,hp⟩:∃p,l[k]?=some p:=⟨_,Ae ae⟩
     obtain⟨b,o,rfl,d0,d1⟩:=HC.out k p hp;have c0:=hg.cell d0;have c1:=hg.cell d1;have hpd:=HPA.out.data p (Ad hp);have abr:=(HPA.out.at_ p (Ad hp)).grows (hg.al (.cells #[.string p.name,.slice p.a p.data.length p.c] 137));have fi:=HPA.out.none_ p (Ad hp)
     have HN:Hid (fe++p.data=bv++dT (l.take (k+1))):=by
      show _=_
      rw[bI hp,oE0,ic.out,Ac]
     have ahj:fe.length<=3000+64*1099511627776:=by
      rw[ic.out,Aa,eH0];have h1:=hD1 (l:=l.take k) (n:=1099511627776) (λp hp=>HPA.out.data p (As hp));rw[Ba]at h1;have h2:min k l.length*1099511627776<=64*1099511627776:=At _ (by omega);omega
     have m5:=aa.grows (Grows.alloc wr (.cells #[.string p.name,.slice p.a p.data.length p.c] 137));have kc:=hg.al (.cells #[.string p.name,.slice p.a p.data.length p.c] 137);clear hp ic d0 d1;go_wp2_with (at_builtin;refine jA bK rfl _ _ rfl w.heap.size _ fe p.data rfl m5 (Grows.refl _) p.a p.c rfl abr fi (by omega) kc.size ?_;intro v7 w7 ep cu)
     go_roundw
     case rel=>exact⟨k+1,_,ae,by go_num,HN.out,ep,cu w kc (Ah _)⟩
     case measure=>simp[intOf];omega
    ·have dg:¬(k:Int)<l.length:=by omega
     have HB:Hid (fe=dO l):=by
      show _=_
      rw[ic.out,HA.out,Ar (by omega)];rfl
     have d8:fe.length<=16800000:=by rw[HB.out];exact HBL.out
     have hl4:(leB 4 (crcSum fe)).length=4:=bM _ _;obtain⟨a8,c8,rfl,_,_,mn⟩:=aa.at_ bK.len;have hew:=he.grows hg;clear ic;go_wp2_with (first|(go_at_call 111;refine(xZ fe a8 c8 _ hew (by omega) mn).mono ?_;rintro e w9 ⟨v9,rfl,gh,jl⟩;obtain⟨a9,c9,rfl,_,_,ahr⟩:=gh.at_ bK.len;have hn9:=bN gh;have aea:=aa.grows jl;have fh:=hg.tr jl;clear aa gh)|(at_builtin;refine jA bK rfl _ _ rfl w.heap.size _ fe (leB 4 (crcSum fe)) rfl aea (Grows.refl _) a9 c9 rfl ahr hn9 (by omega) fh.size ?_;intro v10 w10 jq mo))
     have HF:Hid (fe++leB 4 (crcSum fe)=file14 l):=by show _=_;rw[HB.out];rfl
     refine bodyPost_ret (v:=.tuple #[v10,.int .i64 0]) (by simp[results,Tryz.results86,go_sem]) rfl ⟨λ_=>⟨v10,rfl,by rw[<-HF.out];exact jq⟩,λh=>absurd HOK.out h,mo w fh (Ah _)⟩
end
section
open Go Go.RowKit
attribute [local go_sem] aQ
theorem eC0 (l:List cJ) (a:Option Addr) (cap:Nat) (w:World) (hs:aF w a 2 (l.map bE)) (hl:l.length<=4611686018427387904) (hn:∀x∈l,x.name.size<=9223372036854775807) :
  Calls Tryz.prog 131 #[.slice a l.length cap] w λe w'=>e=.returned (.bool (dC l))/\Grows w w':=by
 obtain⟨V,hV⟩:=exq (dC l);rw[<-hV];have HS:=Ab hs;clear hs
 cases l with
 | nil =>
  have ny:V=false:=hV;subst ny;clear hV;go_enter Tryz.func131,Tryz.ntmps131
  go_wp2
  go_ret;exact⟨rfl,Grows.refl _⟩
 | cons p0 r =>
  obtain⟨L,hL⟩:=exq (p0::r);have aj:L≠[]:=by rw[hL];simp
  have h0:L[0]?=some p0:=by rw[hL];rfl
  have hv:V=(decide (L.length<=64)&&bG0 p0&&jG L L 0):=by rw[hV,hL];rfl
  rw[<-hL]at HS hl hn ⊢;clear hL hV;obtain⟨b,off,rfl,bz⟩:=HS.out.get aj;have c0:w.cell? ⟨b,off,none⟩=some (.string p0.name):=by simpa using bz 0 p0 h0 0 _ rfl
  have c1:w.cell? ⟨b,off+1,none⟩=some (.int .i64 p0.kind):=by simpa using bz 0 p0 h0 1 _ rfl
  have HC:=Ab bz;have du:0<L.length:=by cases L with|nil=>exact absurd rfl aj|cons _ _=>simp
  have HV:=Ab hv;clear bz aj h0 hv;have g1:¬(L.length:Int)<1:=by omega
  by_cases uu:L.length<=64
  ·have acj:¬(64:Int)<L.length:=by omega
   by_cases o4:p0.name.toList=[66,79,83]
   ·by_cases jv:p0.kind=0
    ·have vx:bG0 p0=true:=by simp[bG0,seq,o4,jv,bos,Au]
     have fm:V=jG L L 0:=by rw[HV.out,vx];simp[uu]
     have HV2:=Ab fm
     have HC2:Hid (∀W,Grows w W->∀k p,L[k]?=some p->W.cell? ⟨b,off+k*2,none⟩=some (.string p.name)/\W.cell? ⟨b,off+k*2+1,none⟩=some (.int .i64 p.kind)) :=
      λW hW k p hp=>⟨hW.cell (HC.out k p hp 0 _ rfl),hW.cell (HC.out k p hp 1 _ rfl)⟩
     clear vx fm HV HC;go_enter Tryz.func131,Tryz.ntmps131
     go_wp2_with fail
     clear c0 c1 o4 jv;go_loop [3] (λi=>∃k:Nat,k<=L.length/\i=.int .i64 k/\Hid (∀j q,j<k->L[j]?=some q->sR L j q=true)) (λi=>L.length-(intOf i).toNat)
     case atStart=>exact⟨0,Ak _,rfl,λj q hj=>by omega⟩
     case round =>
      obtain⟨k,hk,rfl,hz⟩:=hrel;by_cases ae:k<L.length
      ·obtain⟨p,hp⟩:∃p,L[k]?=some p:=⟨_,Ae ae⟩
       obtain⟨d0,d1⟩:=HC2.out w (Grows.refl _) k p hp;have vm:=hn p (Ad hp);have HP:=Ab hp;clear hp;have hF:=yB0 L p.name (some ⟨b,off,none⟩) cap w hl HS.out;obtain⟨f,hf⟩:=exq (aG1 (posFind L p.name));obtain⟨nm,o4⟩:=exq (rK p.name);have gv:=xC0 p.name w vm;have ag:sR L k p=(f==(k:Int)&&nm&&decide (0<=p.kind)&&decide (p.kind<=2)):=by rw[hf,o4];rfl
       rw[<-hf]at hF;rw[<-o4]at gv;generalize (posFind L p.name).isSome=fs at hF;have HCON:=Ab gv;have HF:=Ab hF;have HOK:=Ab ag;clear hf o4 gv ag hF;cases nm
       ·have au:V=false:=HV2.out.trans (iH HP.out hz.out (by rw[HOK.out];simp))
        have HFIN:=Ab au;clear au;go_wp2_with (first|(go_at_call 192;refine HF.out.mono ?_;rintro e w1 ⟨rfl,rfl⟩)|(go_at_call 193;refine HCON.out.mono ?_;rintro e w1 ⟨rfl,rfl⟩))
        go_ret;exact⟨aZ HFIN.out.symm,Grows.refl _⟩
       ·by_cases jv:p.kind<0
        ·have au:V=false:=HV2.out.trans (iH HP.out hz.out (by rw[HOK.out];simp;omega))
         have HFIN:=Ab au;clear au;go_wp2_with (first|(go_at_call 192;refine HF.out.mono ?_;rintro e w1 ⟨rfl,rfl⟩)|(go_at_call 193;refine HCON.out.mono ?_;rintro e w1 ⟨rfl,rfl⟩))
         go_ret;exact⟨aZ HFIN.out.symm,Grows.refl _⟩
        ·by_cases gw:2<p.kind
         ·have au:V=false:=HV2.out.trans (iH HP.out hz.out (by rw[HOK.out];simp;omega))
          have HFIN:=Ab au;clear au;go_wp2_with (first|(go_at_call 192;refine HF.out.mono ?_;rintro e w1 ⟨rfl,rfl⟩)|(go_at_call 193;refine HCON.out.mono ?_;rintro e w1 ⟨rfl,rfl⟩))
          go_ret;exact⟨aZ HFIN.out.symm,Grows.refl _⟩
         ·cases ol:(f==(k:Int))
          ·have h1:(f != (k:Int))=true:=by rw[bne,ol];rfl
           have au:V=false:=HV2.out.trans (iH HP.out hz.out (by rw[HOK.out,ol];rfl));have HFIN:=Ab au;clear au ol;go_wp2_with (first|(go_at_call 192;refine HF.out.mono ?_;rintro e w1 ⟨rfl,rfl⟩)|(go_at_call 193;refine HCON.out.mono ?_;rintro e w1 ⟨rfl,rfl⟩))
           go_ret;exact⟨aZ HFIN.out.symm,Grows.refl _⟩
          ·have h1:(f != (k:Int))=false:=by rw[bne,ol];rfl
           have ag:sR L k p=true:=by rw[HOK.out,ol];simp;omega
           have HOK2:=Ab ag;clear ol ag;go_wp2_with (first|(go_at_call 192;refine HF.out.mono ?_;rintro e w1 ⟨rfl,rfl⟩)|(go_at_call 193;refine HCON.out.mono ?_;rintro e w1 ⟨rfl,rfl⟩))
           go_round
           case rel=>exact⟨k+1,by omega,by go_num,λj q hj hq=>by
            rcases Nat.lt_succ_iff_lt_or_eq.1 hj with h|rfl
            ·exact hz.out j q h hq
            ·rw[HP.out]at hq;obtain rfl:=Option.some.inj hq;exact HOK2.out⟩
           case measure=>simp[intOf];omega
      ·obtain rfl:k=L.length:=by omega
       have au:V=true:=HV2.out.trans (eE0 hz.out);have HFIN:=Ab au;clear au;go_wp2
       go_ret;exact⟨aZ HFIN.out.symm,Grows.refl _⟩
    ·have au:V=false:=by rw[HV.out];simp[bG0,jv]
     have HF:=Ab au;have aje:(p0.kind != 0)=true:=by simpa using jv
     clear au HV;go_enter Tryz.func131,Tryz.ntmps131
     go_wp2
     go_ret;exact⟨aZ HF.out.symm,Grows.refl _⟩
   ·have au:V=false:=by rw[HV.out];simp[bG0,seq,bos,Au];intro _ h;exact absurd (by rw[Au];exact h) o4
    have HF:=Ab au;clear au HV;go_enter Tryz.func131,Tryz.ntmps131
    go_wp2
    go_ret;exact⟨aZ HF.out.symm,Grows.refl _⟩
  ·have acj:(64:Int)<L.length:=by omega
   have au:V=false:=by rw[HV.out];simp[uu]
   have HF:=Ab au;clear au HV;go_enter Tryz.func131,Tryz.ntmps131
   go_wp2
   go_ret;exact⟨aZ HF.out.symm,Grows.refl _⟩
end
section
open Go Go.RowKit Go.Shelf
attribute [local go_sem] aQ aM
theorem mF1 (w:World):(zeroValue 3).run Tryz.prog w=.ok (.int .i64 0) w:=by kernel_rfl
def IdM (L:List ByteArray) (k:Nat) (D:DataW Unit):Prop:=∀i s,i<k->L[i]?=some s->D.atKey (.string s.data.toList) (.lit (.int .i64 0))=.lit (.int .i64 i)
theorem hJ0 {w:World} {b n k i:Nat} {D:DataW Unit} {L:List ByteArray} {s:ByteArray} (hM:IdM L k D) (aa:w.ownsMap Tryz.prog 9 (plainElem Tryz.prog 3) b n D) (hi:i<k) (hx:L[i]?=some s) (hs:s.size<=maxLen) :
  (Instr.lookup 126 (.map (some b)) (.string s) false).run Tryz.prog w=.ok (.int .i64 i) w:=by
 obtain⟨c,jf,ac,_⟩:=aa.lookup_int (Maps.string_keyed Tryz.underlying9) Tryz.underlying126 Tryz.underlying3 (mF1 w) (WideMaps.keyOf_string_mk Tryz.underlying9 hs);rw[hM i s hi hx]at ac
 have:(i:Int)=c:=by simpa using ac
 rw[this];exact jf
theorem gF1 (L:List ByteArray) (D:DataW Unit):IdM L 0 D:=λi _ h=>absurd h (Nat.not_lt_zero i)
theorem kW1 {b n k:Nat} {w:World} {D:DataW Unit} {L:List ByteArray} {s:ByteArray} (hM:IdM L k D) (aa:w.ownsMap Tryz.prog 9 (plainElem Tryz.prog 3) b n D) (hd:L.Nodup) (hx:L[k]?=some s):IdM L (k+1) (D.put (.string s.data.toList) (.lit (.int .i64 k))):=λi t hi ht=>by
 by_cases h:i=k
 ·subst h
  obtain rfl:s=t:=by rw[hx]at ht;exact Option.some.inj ht
  rw[Maps.atKey_put_same aa.isMap (k:=.string s.data.toList) trivial]
 ·have aj:(Lit.string t.data.toList) ≠ .string s.data.toList:=λh2=>h (by
   injection h2 with h3
   have h4:t=s:=aQ0 h3;obtain⟨hi1,fg⟩:=List.getElem?_eq_some_iff.1 ht;obtain⟨vj,gw⟩:=List.getElem?_eq_some_iff.1 hx;exact(List.getElem_inj hd).1 (by rw[fg,gw,h4]))
  rw[Maps.atKey_put_other aj,hM i t (by omega) ht]
structure hS1 (w:World) (ib:Nat) (L:List ByteArray):Prop where
 ex:∃mb n D,w.cell? ⟨ib,0,none⟩=some (.map (some mb))/\w.ownsMap Tryz.prog 9 (plainElem (H:=Unit) Tryz.prog 3) mb n D/\IdM L L.length D
theorem hS1.grows {w w':World} {ib:Nat} {L:List ByteArray} (h:hS1 w ib L) (hg:Grows w w'):hS1 w' ib L:=by
 obtain⟨mb,n,D,h1,h2,h3⟩:=h.ex;exact⟨mb,n,D,hg.cell h1,cB h2 hg,h3⟩
theorem gR1 (L:List ByteArray) (ib i:Nat) (x:En) (w:World) (h:hS1 w ib L) (hx:L[i]?=some x.s) (hs:x.s.size<=maxLen) :
  Calls Tryz.prog 89 #[x.agg,.pointer (some ⟨ib,0,none⟩)] w λe w'=>e=.returned (.int .i64 i)/\Grows w w':=by
 obtain⟨xr,xs,xl,xt,xc⟩:=x;obtain⟨mb,n,D,h1,h2,h3⟩:=h.ex;simp only at hx hs;have c1:(w.alloc (.cells #[.string xr,.string xs,.int .i64 xl,.int .i64 xt,.int .i64 xc] 59)).cell? ⟨ib,0,none⟩=some (.map (some mb)):=(Grows.alloc _ _).cell h1;have hl:=hJ0 h3 (cB h2 (Grows.alloc w (.cells #[.string xr,.string xs,.int .i64 xl,.int .i64 xt,.int .i64 xc] 59))) (List.getElem?_eq_some_iff.1 hx).1 hx hs;unfold En.agg;clear h h1 h2 h3;go_enter Tryz.func89,Tryz.ntmps89
 go_wp2_with fail
 go_ret;exact⟨rfl,Grows.alloc _ _⟩
theorem jE1:∀args w,(callFunc 89 args).run Tryz.prog w=.ok (.enter 89 args) w:=enters_of Tryz.func89 (by kernel_rfl) rfl
theorem iW1:∀args w,(callFunc 82 args).run Tryz.prog w=.ok (.enter 82 args) w:=enters_of Tryz.func82 (by kernel_rfl) rfl
theorem gQ1 (L:List ByteArray) (ib eb i j x y:Nat) (l:List En) (ex ey:En) (a:Option Addr) (c:Nat) (w:World) (h:hS1 w ib L) (he:w.cell? ⟨eb,0,none⟩=some (.slice a l.length c)) (ac:aF w a 5 (l.map aJ)) (_hl:l.length<=1048576) (hL:L.length<=1048576)
  (hx:l[x]?=some ex) (hy:l[y]?=some ey) (hi:L[i]?=some ex.s) (hj:L[j]?=some ey.s) (hs:ex.s.size<=maxLen/\ey.s.size<=maxLen) :
  Calls Tryz.prog 82 #[.int .i64 x,.int .i64 y,.pointer (some ⟨ib,0,none⟩),.pointer (some ⟨eb,0,none⟩)] w λe w'=>e=.returned (.int .i64 ((i:Int)-j))/\w'=w.drew:=by
 obtain⟨xr,xs,xl,xt,xc⟩:=ex;obtain⟨yr,ys,yl,yt,yc⟩:=ey;obtain⟨mb,n,D,h1,h2,h3⟩:=h.ex;simp only at hi hj hs;have hxl:=(List.getElem?_eq_some_iff.1 hx).1;have hyl:=(List.getElem?_eq_some_iff.1 hy).1;have qg:=(List.getElem?_eq_some_iff.1 hi).1;have hjl:=(List.getElem?_eq_some_iff.1 hj).1;obtain⟨ba,oa,rfl,be⟩:=aF.get (enc:=aJ) ac (aH hxl);have z0:∀x:Ext Grows w.drew,x.u.cell? ⟨ib,0,none⟩=some (.map (some mb)):=aB ((Grows.drew w).cell h1);have z1:∀x:Ext Grows w.drew,x.u.cell? ⟨eb,0,none⟩=some (.slice (some ⟨ba,oa,none⟩) l.length c):=aB ((Grows.drew w).cell he);have z2:∀u:Ext Grows w.drew,u.u.cell? ⟨ba,oa+x*5+1,none⟩=some (.string xs):=aB ((Grows.drew w).cell (be x _ hx 1 _ rfl));have z3:∀u:Ext Grows w.drew,u.u.cell? ⟨ba,oa+y*5+1,none⟩=some (.string ys):=aB ((Grows.drew w).cell (be y _ hy 1 _ rfl));have z4:∀u:Ext Grows w.drew,(Instr.lookup 126 (.map (some mb)) (.string xs) false).run Tryz.prog u.u=.ok (.int .i64 i) u.u:=λu=>hJ0 h3 (cB (cB h2 (Grows.drew w)) u.h) qg hi hs.1;have z5:∀u:Ext Grows w.drew,(Instr.lookup 126 (.map (some mb)) (.string ys) false).run Tryz.prog u.u=.ok (.int .i64 j) u.u:=λu=>hJ0 h3 (cB (cB h2 (Grows.drew w)) u.h) hjl hj hs.2;have rz:(x:Int)<l.length:=by omega
 have hyi:(y:Int)<l.length:=by omega
 have wij:IntKind.i64.wrap ((i:Int)-j)=(i:Int)-j:=by simp[Aw,Ax,Aq];omega
 clear h he ac hx hy hi hj hs h1 h2 h3 be;go_enter Tryz.func82,Tryz.ntmps82
 go_wp2_with fail
 refine bF (aV 16 []) (by kernel_rfl) (λd _ _ _ _ h=>by cases d<;>exact h) ?_
 iterate 16 (refine aG rfl (λK hK=>?_);go_simp;refine hK _ ?_;clear hK K)
 clear z0 z1 z2 z3 z4 z5;refine bH ?_;go_wp2_with fail
 go_ret;exact⟨rfl,rfl⟩
end
section
open Go Go.RowKit
theorem vL0 (s:ByteArray):sE s=putU s.size++bl s:=rfl
def hposP (P:List bD) (i:Nat):Nat:=(([72,78,75,49]++putU P.length)++dK (P.take i):List UInt8).length
def sP (P:List bD) (i:Nat):Nat:=(([72,78,75,49]++putU P.length)++dK P++dT (P.take i):List UInt8).length
theorem yO0 {P:List bD} {i:Nat} {p:bD} (h:P[i]?=some p):dK P=dK (P.take i)++((sE p.name++putU p.data.length)++dK (P.drop (i+1))):=by
 obtain⟨hi,rfl⟩:=List.getElem?_eq_some_iff.1 h;unfold dK;rw[<-Ap (f:=λp:bD=>sE p.name++putU p.data.length),<-Ay hi,<-Ag,Al]
theorem bE1 {P:List bD} {i:Nat} {p:bD} (h:P[i]?=some p):dT P=dT (P.take i)++(p.data++dT (P.drop (i+1))):=by
 obtain⟨hi,rfl⟩:=List.getElem?_eq_some_iff.1 h;unfold dT;rw[<-Ap (f:=λp:bD=>p.data),<-Ay hi,<-Ag,Al]
theorem oP0 {P:List bD} {i:Nat} {p:bD} (h:P[i]?=some p):dK (P.take (i+1))=dK (P.take i)++(sE p.name++putU p.data.length):=by
 unfold dK;rw[Bi,h,Ag];simp
theorem nA0 {P:List bD} {i:Nat} {p:bD} (h:P[i]?=some p):dT (P.take (i+1))=dT (P.take i)++p.data:=by
 unfold dT;rw[Bi,h,Ag];simp
theorem uR0 (P:List bD):hposP P 0=4+(putU P.length).length:=by unfold hposP dK; simp; omega
theorem tL0 {P:List bD} {i:Nat} {p:bD} (h:P[i]?=some p):hposP P (i+1)=hposP P i+(sE p.name).length+(putU p.data.length).length:=by
 unfold hposP;rw[oP0 h];simp only[Aa];omega
theorem vN0 (P:List bD):sP P 0=hposP P P.length:=by
 unfold sP hposP;rw[An];simp[dT]
theorem dB0 {P:List bD} {i:Nat} {p:bD} (h:P[i]?=some p):sP P (i+1)=sP P i+p.data.length:=by
 unfold sP;rw[nA0 h];simp only[Aa];omega
theorem yD0 (P:List bD):sP P P.length=(dO P).length:=by unfold sP dO; rw[An]
theorem fC1 {P:List bD} {i:Nat}:sP P i<=(dO P).length:=by
 unfold sP dO;simp only[Aa]
 have:(dT (P.take i)).length<=(dT P).length:=by
  unfold dT;have h:=Al i P;have h2:dT P=dT (P.take i)++dT (P.drop i):=by unfold dT;rw[<-Ag,h]
  unfold dT at h2;rw[h2,Aa];omega
 omega
theorem cX1 {P:List bD} {i:Nat}:hposP P i<=(dO P).length:=by
 unfold hposP dO;simp only[Aa]
 have:(dK (P.take i)).length<=(dK P).length:=by
  have h2:dK P=dK (P.take i)++dK (P.drop i):=by unfold dK;rw[<-Ag,Al]
  rw[h2,Aa];omega
 omega
theorem dE1 {P:List bD} (hn:P.length<18446744073709551616):rdU ((dO P).drop 4)=some (P.length,(putU P.length).length):=by
 unfold dO;rw[Ac,Ac];show rdU (putU P.length++_)=_
 exact vU hn _
theorem iU0 {P:List bD} {i:Nat} {p:bD} (h:P[i]?=some p):(dO P).drop (hposP P i)=(sE p.name++putU p.data.length)++(dK (P.drop (i+1))++dT P):=by
 have e:dO P=(([72,78,75,49]++putU P.length)++dK (P.take i))++((sE p.name++putU p.data.length)++(dK (P.drop (i+1))++dT P)):=by
  unfold dO;rw[yO0 h];simp only[Ac]
 rw[e];exact Av rfl
theorem yE0 {s:ByteArray} (hs:s.size<18446744073709551616) (r:List UInt8):rdT (sE s++r)=some (s,(sE s).length):=by
 unfold rdT;rw[vL0,Ac,vU hs];simp only;rw[Av rfl,if_pos (by rw[Aa,dB];omega)];congr 1
 rw[Bn (dB s),Aa,dB];exact congrArg (·,_) (kD s)
theorem iZ1 {P:List bD} {i:Nat} {p:bD} (h:P[i]?=some p) (hs:p.name.size<18446744073709551616):rdT ((dO P).drop (hposP P i))=some (p.name,(sE p.name).length):=by
 rw[iU0 h,Ac];exact yE0 hs _
theorem kR1 {P:List bD} {i:Nat} {p:bD} (h:P[i]?=some p) (hs:p.data.length<18446744073709551616):rdU ((dO P).drop (hposP P i+(sE p.name).length))=some (p.data.length,(putU p.data.length).length):=by
 rw[<-List.drop_drop,iU0 h,Ac,Av rfl];exact vU hs _
theorem kH1 {P:List bD} {i:Nat} {p:bD} (h:P[i]?=some p):((dO P).take (sP P i+p.data.length)).drop (sP P i)=p.data:=by
 have e:dO P=(([72,78,75,49]++putU P.length)++dK P++dT (P.take i))++(p.data++dT (P.drop (i+1))):=by
  unfold dO;rw[bE1 h];simp only[Ac]
 rw[<-List.take_drop];conv=>lhs;rw[e]
 unfold sP;rw[Av rfl];exact Bn rfl
structure rH (W:World) (b m:Nat) (f:Nat->Value):Prop where
 cell:∀j,j<m->W.cell? ⟨b,j,none⟩=some (f j)
 froz:∀j,W.frozen? ⟨b,j,none⟩=false
 lt:b<W.heap.size
theorem rH.grows {W W':World} {b m:Nat} {f:Nat->Value} (h:rH W b m f) (hg:Grows W W'):rH W' b m f :=
 ⟨λj hj=>hg.cell (h.cell j hj),λj=>(hg.froz (p:=⟨b,j,none⟩) h.lt).trans (h.froz j),Af h.lt hg.size⟩
theorem rH.other {W:World} {b m:Nat} {f:Nat->Value} (h:rH W b m f) {b' j':Nat} (hb:b'≠b) (v:Value):rH (W.setCell ⟨b',j',none⟩ v) b m f :=
 ⟨λj hj=>by rw[Az _ _ _ _ (λe=>hb (by simpa using congrArg Addr.block e))];exact h.cell j hj,λj=>(Bc _ _ _ _).trans (h.froz j),by simp;exact h.lt⟩
theorem rH.set {W:World} {b m:Nat} {f:Nat->Value} (h:rH W b m f) {k:Nat} (hk:k<m) (v:Value):rH (W.setCell ⟨b,k,none⟩ v) b m (λj=>if j=k then v else f j) :=
 ⟨λj hj=>by
  by_cases e:j=k
  ·subst e
   rw[if_pos rfl];exact World.cell?_setCell_same _ _ _ (h.cell j hj)
  ·rw[if_neg e,Az _ _ _ _ (λe2=>e (by injection e2 with _ h2;exact h2.symm))]
   exact h.cell j hj,λj=>(Bc _ _ _ _).trans (h.froz j),by simp;exact h.lt⟩
theorem rH.congr {W:World} {b m:Nat} {f g:Nat->Value} (h:rH W b m f) (e:∀j,j<m->f j=g j):rH W b m g:=⟨λj hj=>by rw[<-e j hj]; exact h.cell j hj,h.froz,h.lt⟩
theorem gD1 {w W:World} {cs:Array Value} {t:TypeId} {m:Nat} (hg:Grows (w.alloc (.cells cs t)) W) (hm:cs.size=m):rH W w.heap.size m (λj=>cs.getD j undef):=by
 obtain⟨h1,h2⟩:=bJ hg;refine⟨λj hj=>h1 j _ ?_,h2,Af (by simp) hg.size⟩;rw[Array.getD_eq_getD_getElem?,Array.getElem?_eq_getElem (by omega)];rfl
end
end Go.Proofs.YtcijgkfpobpdbaaGreatDoor
