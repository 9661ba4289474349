/- The texts RefV W14P W14 CrcW W15 PosE SecW KeyA SecJ RefX Bid SecP PosD SecC PkDP PrdV, one behind the other. -/
import Derived.Test.YtjhajgffmnkocaaGreatDoorPq3
import Derived.Test.YtjhajgffmnkocaaGreatDoorPq8
import Derived.Test.YtjhajgffmnkocaaGreatDoorPq37
import Derived.Test.YtjhajgffmnkocaaGreatDoorPq21
import Derived.Test.YtjhajgffmnkocaaGreatDoorPq4
import Derived.Test.YtjhajgffmnkocaaGreatDoorPq20
import Derived.Test.YtjhajgffmnkocaaGreatDoorPq7
import Derived.Test.YtjhajgffmnkocaaGreatDoorPq11
import Derived.Maps.Own
import Derived.Carry
import Derived.Test.YtjhajgffmnkocaaGreatDoorPq28
import Derived.Test.YtjhajgffmnkocaaGreatDoorPq2
import Derived.DeepKeys4
import Derived.Maps.RangeWalk
import Derived.Maps.Views
import Derived.Maps.OwnSet
import Derived.Lib.SlBytesConst
import Derived.Test.YtjhajgffmnkocaaGreatDoorPq12
import Derived.Test.YtjhajgffmnkocaaGreatDoorPq23
import Derived.Test.YtjhajgffmnkocaaGreatDoorPq24
import Derived.Test.YtjhajgffmnkocaaGreatDoorPq25
import Derived.Test.YtjhajgffmnkocaaGreatDoorPq22
import Derived.Test.YtjhajgffmnkocaaGreatDoorPq35
open List renaming length_append → Aa,append_assoc → Ab,mem_of_getElem? → Ac,getElem?_eq_getElem → Ae,flatMap_append → Ag,take_append_drop → Aj,length_cons → An,take_length → Ap,eq_nil_of_length_eq_zero → Aq,take_of_length_le → Ar,getElem?_eq_none → As,flatMap_cons → At,drop_eq_getElem_cons → Av,length_take → Aw,mem_of_mem_take → Ay,drop_left' → Ba,nil_append → Bd,map_cons → Bh,getElem?_map → Bo,take_add_one → Bp,ext_getElem? → Bq,length_nil → Bs,any_append → Bt,take_left' → Bu,drop_zero → Bv,nodup_nil → Bw,drop_drop → Bz,drop_left → Ca,mem_cons → Cd,any_map → Cf,range → Ci
open Go.Lib renaming hid → Ad,decodeL_ascii → Bj,decodeL_N → Cb,decodeL → Ch
open Nat renaming lt_of_lt_of_le → Af,le_refl → Ai,zero_le → Au,mul_le_mul_right → Az,xor_lt_two_pow → Bi,succ_mul → Bk,or_lt_two_pow → Br,lt_or_ge → Ce,le_of_eq → Cg
open Go.IntKind renaming signed → Ah,wrap → Al,bits → Am
open UInt8 renaming ofNat → Ak,toNat_lt → Bg
open Bool renaming and_eq_true → Ao,true_and → Ax,false_and → Bb,or_false → Cc
open Go.World renaming cell?_setCell_other → Bc,frozen?_setCell → Bf
open Int renaming natCast_mul → Be,toNat_natCast → Bn
open Prod renaming ext → By
set_option maxHeartbeats 8000000
namespace Go.Proofs.YtjhajgffmnkocaaGreatDoor
set_option maxRecDepth 100000
section
open Go Go.RowKit
attribute [local go_sem] aO
theorem uR:∀(n:Nat) (l:List UInt8),l.length<=n->(∃b∈l,128<=b.toNat)->∃c∈runesD l,128<=c
 | 0,l,hl,⟨b,hb,_⟩=>by
  have:l=[]:=Aq (by omega)
  subst this;cases hb
 | n+1,l,hl,⟨b,hb,yv⟩=>by
  cases l with
  | nil=>cases hb
  | cons x r =>
   rw[iX _ (by simp)];by_cases hx:x.toNat<128
   ·rw[Bj x r hx]
    rcases List.mem_cons.1 hb with rfl|hb
    ·omega
    ·obtain⟨c,hc,hcg⟩:=uR n r (by simp at hl;omega) ⟨b,hb,yv⟩
     exact⟨c,List.mem_cons_of_mem _ hc,hcg⟩
   ·refine⟨_,List.mem_cons_self,?_⟩
    by_cases dl:(Ch (x::r)).1=65533/\(Ch (x::r)).2=1
    ·rw[dl.1];decide
    ·have hs:=nR (x::r).length ((x::r).getD 0 0).toNat ((x::r).getD 1 0).toNat ((x::r).getD 2 0).toNat ((x::r).getD 3 0).toNat (Bg _) (Bg _) (Bg _) (by rw[<-Cb];exact dl)
     rw[<-Cb]at hs;rcases hs with ⟨h,_⟩|⟨_,_,_,_,_,_,h⟩
     ·exact absurd h (by simpa using hx)
     ·exact h
theorem rA:∀(n:Nat) (l:List UInt8),l.length<=n->(∀b∈l,b.toNat<128)->runesD l=l.map (·.toNat)
 | 0,l,hl,_=>by
  have:l=[]:=Aq (by omega)
  subst this;rfl
 | n+1,l,hl,h=>by
  cases l with
  | nil=>rfl
  | cons x r =>
   rw[iX _ (by simp),Bj x r (h x (by simp)),Bh];simp only[List.drop_succ_cons,Bv];rw[rA n r (by simp at hl;omega) (λb hb=>h b (by simp[hb]))]
theorem tP {c:Nat} (h:128<=c):nameBad c=true:=by unfold nameBad; simp; omega
theorem sF0 (l:List UInt8):(runesD l).any nameBad=l.any λb=>nameBad b.toNat:=by
 by_cases h:∃b∈l,128<=b.toNat
 ·obtain⟨c,hc,hg⟩:=uR _ l (Ai _) h
  obtain⟨b,hb,hbg⟩:=h;rw[List.any_eq_true.2 ⟨c,hc,tP hg⟩,List.any_eq_true.2 ⟨b,hb,tP hbg⟩]
 ·rw[rA _ l (Ai _) (λb hb=>by
   rcases Ce b.toNat 128 with h1|h1
   ·exact h1
   ·exact absurd ⟨b,hb,h1⟩ h),Cf]
  rfl
theorem iM0 (s:ByteArray):wY s=(decide (1<=s.size)&&decide (s.size<=16) && !(s.data.toList.any λb=>nameBad b.toNat)):=by
 rw[gH1,sF0];congr 2
 rw[Lib.toList_data,Lib.size_eq];cases s.data.toList<;>simp
end
section
open Go Go.RowKit
def mN0 (c:Nat):Bool:=decide (c<97)||decide (122<c)
def azS (s:ByteArray):Bool:=decide (1<=s.size)&&decide (s.size<=16) && !(s.data.toList.any λb=>mN0 b.toNat)
theorem xZ0 {p:Nat->Bool} (hp:∀c,128<=c->p c=true) (l:List UInt8):(runesD l).any p=l.any λb=>p b.toNat:=by
 by_cases h:∃b∈l,128<=b.toNat
 ·obtain⟨c,hc,hg⟩:=uR _ l (Ai _) h
  obtain⟨b,hb,hbg⟩:=h;rw[List.any_eq_true.2 ⟨c,hc,hp c hg⟩,List.any_eq_true.2 ⟨b,hb,hp _ hbg⟩]
 ·rw[rA _ l (Ai _) (λb hb=>by
   rcases Ce b.toNat 128 with h1|h1
   ·exact h1
   ·exact absurd ⟨b,hb,h1⟩ h),Cf]
  rfl
theorem oK0 {c:Nat} (h:128<=c):mN0 c=true:=by unfold mN0; simp; omega
structure bD where
 name:ByteArray
 data:List UInt8
 a:Option Addr
 c:Nat
def kZ (p:bD):List Value:=[.string p.name,.slice p.a p.data.length p.c]
structure iU (w:World) (l:List bD):Prop where
 at_:∀p∈l,aG w p.a 1 (p.data.map aV)
 none_:∀p∈l,p.a=none->p.c=0
 name:∀p∈l,p.name.size<=1099511627776
 data:∀p∈l,p.data.length<=1099511627776
theorem iU.grows {w w':World} {l:List bD} (h:iU w l) (hg:aB w w'):iU w' l:=⟨λp hp=>(h.at_ p hp).grows hg,h.none_,h.name,h.data⟩
def kX (l:List bD):Nat:=(l.map λp=>p.data.length).sum
theorem uJ0 (l:List bD) (p:bD):kX (l++[p])=kX l+p.data.length:=by simp[kX]
theorem hU1 {l:List bD} {n:Nat} (h:∀p∈l,p.data.length<=n):kX l<=l.length*n:=by
 unfold kX
 induction l with
 | nil=>simp
 | cons p l ih =>
  rw[Bh,List.sum_cons,An,Bk]
  have:=ih (λq hq=>h q (by simp[hq]))
  have:=h p (by simp)
  omega
def xM:List bD->List ByteArray->Bool
 | [],_=>false
 | p::l,seen=>(seen.any λs=>seq s p.name)||xM l (seen++[p.name])
def vM0 (l:List bD):Bool:=xM l []
def fF (l:List bD):Nat:=if 64<l.length\/16777216<kX l then 2 else if (l.any λp => !azS p.name)=true then 1 else if vM0 l=true then 4 else 0
def dF (l:List bD):List UInt8:=l.flatMap λp=>rP p.name++putU p.data.length
def dH (l:List bD):List UInt8:=l.flatMap λp=>p.data
def dD (l:List bD):List UInt8:=([72,78,75,49]++putU l.length)++dF l++dH l
def file14 (l:List bD):List UInt8:=dD l++leB 4 (crcSum (dD l))
def oS0 (l:List bD) (w:World) (e:Ending) (w':World):Prop :=
 (fF l=0->∃v,e=.returned (.tuple #[v,.int .i64 0])/\aU w' w.heap.size 5 1 aV v (file14 l))/\(fF l≠0->e=.returned (.tuple #[.slice none 0 0,.int .i64 (fF l)]))/\aB w w'
theorem cM0 (l:List bD):(dH l).length=kX l:=by simp[dH,kX,List.length_flatMap]
theorem mZ0 (l:List bD) (p:bD):dF (l++[p])=dF l++(rP p.name++putU p.data.length):=by simp[dF]
theorem nH0 (l:List bD) (p:bD):dH (l++[p])=dH l++p.data:=by simp[dH]
theorem zX0 {l:List bD} (h:(l.any λp => !azS p.name)=false):∀p∈l,p.name.size<=16:=λp hp=>by
 have:=List.any_eq_false.1 h p hp
 simp only[azS,Bool.not_eq_true',Bool.not_eq_false,Ao,decide_eq_true_eq]at this;simp at this;omega
theorem cS0 {l:List bD} (h:∀p∈l,p.name.size<=16):(dF l).length<=l.length*36:=by
 unfold dF
 induction l with
 | nil=>simp
 | cons p l ih =>
  rw[At,Aa,Aa,An,Bk];have h1:=ih (λq hq=>h q (by simp[hq]));have h2:=h p (by simp);have h3:=sP p.name;have h4:=cK p.data.length;omega
theorem qS0 {l:List bD} (h:fF l=0):l.length<=64/\kX l<=16777216/\(l.any λp => !azS p.name)=false/\vM0 l=false:=by
 unfold fF at h;split at h
 ·omega
 ·rename_i h1
  split at h
  ·omega
  ·rename_i h2
   split at h
   ·omega
   ·rename_i h3
    exact⟨by omega,by omega,by simpa using h2,by simpa using h3⟩
theorem uY0 {l:List bD} (h:fF l=0):(dD l).length<=16800000:=by
 obtain⟨h1,h2,h3,_⟩:=qS0 h;have h4:=cS0 (zX0 h3);have h5:=cM0 l;have h6:=cK l.length;unfold dD;simp only[Aa,An,Bs];omega
end
section
open Go Go.RowKit
attribute [local go_sem] aO aM
theorem xX0 (n:Nat) (hn:n<4294967296):(#[Value.int .u8 ((n:Int)%256),.int .u8 ((n:Int)/256%256),.int .u8 ((n:Int)/65536%256),.int .u8 ((n:Int)/16777216)]:Array Value).toList=(leB 4 n).flatMap aV:=by
 have h:leB 4 n=[Ak n,Ak (n/256),Ak (n/65536),Ak (n/16777216)]:=by
  unfold leB;simp[List.range_succ]
 rw[h,pQ];simp only[Bh,List.map_nil,UInt8.toNat_ofNat'];rw[Nat.mod_eq_of_lt (show n/16777216<2^8 by omega)]
 congr 1
end
section
open Go Go.RowKit Go.Shelf
attribute [local go_sem] aO aM
theorem pU0 {R q:Nat} (hR:R<4294967296) (hq:crc4 R=R/16 ^^^ q) (hql:q<4294967296):bits .xor .u32 ((R:Int)/16) (q:Int)=((crc4 R:Nat):Int):=by
 have h:=u32_xor_nat (R/16) q (by omega) hql;rw[hq,<-h];rfl
theorem cK0:∀(i q:Nat),jX[i]?=some q->q<4294967296:=by
 intro i q h;have h1:=Ac h;simp[jX]at h1;omega
theorem iG1 {R:Nat} (hR:R<4294967296):bits .and .u32 (R:Int) 15=((R%16:Nat):Int):=by
 have h:=u32_and_nat R 15 hR (by decide);rw[nat_mask4]at h;exact h
theorem tL0 (b:List UInt8) (a:Option Addr) (c:Nat) (w:World) (he:Env w) (hb:b.length<=1099511627776) (ac:aG w a 1 (b.map aV)) :
  Calls Tryz.prog 228 #[.int .u32 0,.slice a b.length c] w λe w'=>e=.returned (.int .u32 (crcSum b))/\w=w':=by
 have HAT:=Ad ac;clear ac;go_enter Tryz.func228,Tryz.ntmps228
 go_wp2_with fail
 go_loop [5,12] (λr i=>∃k R:Nat,k<=b.length/\i=.int .i64 k/\r=.int .u32 R/\R<4294967296/\Hid (R=hE0 4294967295 (b.take k))) (λ_ i=>b.length-(intOf i).toNat)
 case atStart=>exact⟨0,4294967295,Au _,rfl,rfl,by decide,rfl⟩
 case round =>
  obtain⟨k,R,hk,rfl,rfl,hR,cp⟩:=hrel;by_cases af:k<b.length
  ·obtain⟨x,hx⟩:∃x,b[k]?=some x:=⟨_,Ae af⟩
   obtain⟨bb,bo,rfl,hc⟩:=at1 HAT.out (aJ af);have jc:=hc k x hx;have HN:Hid (oP1 (R ^^^ x.toNat)=hE0 4294967295 (b.take (k+1))):=by show _=_;rw[bJ hx,cV0,<-cp.out]
   have ain:=x.toNat_lt;have hxo:=u32_xor_nat R x.toNat hR (by omega);obtain⟨X,hX⟩:=exq (R ^^^ x.toNat);have vr:X<4294967296:=by rw[hX];exact Bi (n:=32) hR (by omega)
   rw[<-hX]at hxo HN;obtain⟨q1,hq1,fe⟩:=cH0 X;obtain⟨Y,hY⟩:=exq (crc4 X);have hYl:Y<4294967296:=by rw[hY];exact gC0 vr
   have e1:=pU0 vr fe (cK0 _ _ hq1);rw[<-hY]at e1;obtain⟨q2,mm,iq⟩:=cH0 Y;obtain⟨Z,hZ⟩:=exq (crc4 Y);have hZl:Z<4294967296:=by rw[hZ];exact gC0 hYl
   have e2:=pU0 hYl iq (cK0 _ _ mm);rw[<-hZ]at e2;have HN2:Hid (Z=hE0 4294967295 (b.take (k+1))):=by show _=_;rw[hZ,hY,<-HN.out];rfl
   have a1:=iG1 vr;have a2:=iG1 hYl;obtain⟨i1,hi1⟩:=exq (X%16);obtain⟨i2,j7⟩:=exq (Y%16);rw[<-hi1]at a1 hq1;rw[<-j7]at a2 mm;have g1:=he.crc i1 q1 hq1;have g2:=he.crc i2 q2 mm;have l1:(i1:Int)<16:=by omega
   have l2:(i2:Int)<16:=by omega
   clear hc hx cp hX hY hZ hq1 mm fe iq HN hi1 j7;go_wp2_with fail
   go_round
   case rel=>exact⟨k+1,Z,af,by go_num,rfl,hZl,HN2.out⟩
   case measure=>simp[intOf];omega
  ·have jt:k=b.length:=by omega
   have cz:¬(k:Int)<b.length:=by omega
   have dg:R ^^^ 4294967295=crcSum b:=by rw[cp.out,jt,Ap];rfl
   have hx:bits .xor .u32 IntKind.u32.max (R:Int)=((crcSum b:Nat):Int):=by
    rw[<-dg,Nat.xor_comm];exact u32_xor_nat 4294967295 R (by decide) hR
   clear cp jt dg;go_wp2_with fail
   go_ret;exact⟨rfl,rfl⟩
theorem rL0 (b:List UInt8) (a:Option Addr) (c:Nat) (w:World) (he:Env w) (hb:b.length<=1099511627776) (ac:aG w a 1 (b.map aV)) :
  Calls Tryz.prog 182 #[.slice a b.length c] w λe w'=>e=.returned (.int .u32 (crcSum b))/\w=w':=by
 go_enter Tryz.func182,Tryz.ntmps182
 go_wp2_with fail
 refine(tL0 b a c w he hb ac).mono ?_;rintro e w1 ⟨rfl,rfl⟩;go_wp2_with fail
 go_ret;exact⟨rfl,rfl⟩
theorem vM (b:List UInt8) (a:Option Addr) (c:Nat) (w:World) (he:Env w) (hb:b.length<=1099511627776) (ac:aG w a 1 (b.map aV)) :
  Calls Tryz.prog 118 #[.slice a b.length c] w λe w'=>∃v,e=.returned v/\aU w' w.heap.size 5 1 aV v (leB 4 (crcSum b))/\aB w w':=by
 have cr:crcSum b<4294967296:=Bi (n:=32) (oZ0 _ (by decide)) (by decide);have CS:=Ad (rL0 b a c w he hb ac);obtain⟨n,hn⟩:=exq (crcSum b);rw[<-hn]at cr CS ⊢;have HH:=Ad (xX0 n cr);clear hn;go_enter Tryz.func118,Tryz.ntmps118
 go_wp2_with fail
 refine CS.out.mono ?_;rintro e w1 ⟨rfl,rfl⟩;go_wp2_with fail
 go_ret;exact⟨_,rfl,jB (enc:=aV) (λ_=>rfl) (Ai _) (leB 4 n) HH.out (n:=4) (by simp[bM]) (by decide),aB.alloc _ _⟩
end
section
open Go Go.RowKit
attribute [local go_sem] aO aM
def fG (p:cY):List UInt8:=rP p.name++putU p.kind.toNat
def posE (l:List cY):List UInt8:=putU l.length++l.flatMap fG
theorem lB0 (l:List cY) (p:cY):(l++[p]).flatMap fG=l.flatMap fG++fG p:=by simp
theorem tV0 {p:cY} (h:p.name.size<=16):(fG p).length<=40:=by
 have h1:=sP p.name;have h2:=cK p.kind.toNat;unfold fG;rw[Aa];omega
theorem aH0 {l:List cY} (h:∀p∈l,p.name.size<=16):(l.flatMap fG).length<=l.length*40:=by
 induction l with
 | nil=>simp
 | cons p l ih =>
  rw[At,Aa,An,Bk];have h1:=ih (λq hq=>h q (by simp[hq]));have h2:=tV0 (h p (by simp));omega
theorem nL0 {s:ByteArray} (h:wY s=true):s.size<=16:=by
 rw[iM0]at h;simp only[Ao,decide_eq_true_eq]at h;exact h.1.2
theorem dN0 (L:List cY):∀(l:List cY) (i j:Nat) (p:cY),kO L l i=true->l[j]?=some p->bD0 L (i+j) p=true
 | [],_,_,_,_,h=>by simp at h
 | q::l,i,0,p,h,hp=>by
  rw[kO]at h;simp only[Ao]at h;obtain rfl:q=p:=by simpa using hp
  exact h.1
 | q::l,i,j+1,p,h,hp=>by
  rw[kO]at h;simp only[Ao]at h
  have:=dN0 L l (i+1) j p h.2 (by simpa using hp)
  rw[show i+(j+1)=i+1+j by omega];exact this
theorem fZ {l:List cY} (h:eH l=true):l.length<=64/\∀p∈l,p.name.size<=16/\0<=p.kind/\p.kind<=2:=by
 unfold eH at h
 cases l with
 | nil=>cases h
 | cons q r =>
  simp only[Ao,decide_eq_true_eq]at h;refine⟨by have:=h.1;simp at this ⊢;omega,λp hp=>?_⟩;obtain⟨j,hj⟩:=List.mem_iff_getElem?.1 hp
  have:=dN0 _ _ 0 j p h.2 hj
  unfold bD0 at this;simp only[Ao,decide_eq_true_eq]at this;exact⟨nL0 this.1.1.2,this.1.2,this.2⟩
theorem jD (xs:List UInt8) (a:Option Addr) (c n:Nat) (w:World) (hx:xs.length<=1099511627776) (hv:n<18446744073709551616) (ac:aG w a 1 (xs.map aV)) (hn:a=none->c=0) :
  Calls Tryz.prog 172 #[.slice a xs.length c,.int .u64 n] w λe w'=>∃v,e=.returned v/\aU w' w.heap.size 5 1 aV v (xs++putU n)/\aB w w':=by
 have CC:=Ad (iJ0 xs a c w hx ac hn);clear ac hn;go_enter Tryz.func172,Tryz.ntmps172
 go_wp2_with fail
 refine CC.out.mono ?_;rintro e w1 ⟨v1,rfl,ay,ai⟩;obtain⟨a1,c1,rfl,zv,h12,cw⟩:=ay.at_ bI.len;have jl:=cF ay;go_wp2_with fail
 refine(qG0 xs a1 c1 w1 zv).mono ?_;rintro e w2 ⟨rfl,rfl⟩;have gj:Src w1 w.heap.size (.slice a1 xs.length xs.length) xs:=Or.inr ⟨a1,rfl,cw,λh=>Aq (by have:=jl h;omega)⟩;clear ay cw jl CC;go_wp2_with fail
 go_loopw [0,1] (λb v wr=>∃(k:Nat) (pre:List UInt8),v=.int .u64 k/\Src wr w.heap.size b (xs++pre)/\Hid (pre++putU k=putU n)/\k<18446744073709551616/\aB w wr) (λ_ v _=>(intOf v).toNat)
 case atStart=>exact⟨n,[],rfl,by rw[List.append_nil];exact gj,rfl,hv,ai⟩
 case round =>
  obtain⟨k,pre,rfl,hs,hp,hk,hg⟩:=hrel
  have ou:pre.length<=10:=by
   have h1:=congrArg List.length hp.out;have h2:=cK n;rw[Aa]at h1;omega
  by_cases acl:128<=k
  ·have cz:(128:Int)<=k:=by omega
   have hb:=Ad (jF0 k);rw[tJ acl hk]at hp;go_wp2_with (at_builtin;refine eO0 rfl _ _ rfl w.heap.size _ (xs++pre) (Ak (k%128+128)) rfl hs (aB.refl _) _ 1 rfl _ (by rw[hb.out];rfl) rfl (by rw[Aa];omega) hg.size ?_;intro v' w5 au bi)
   go_roundw
   case rel=>exact⟨k/128,pre++[Ak (k%128+128)],by go_num,Or.inl (by rw[<-Ab];exact au),by show (pre++[_])++putU (k/128)=putU n;rw[Ab];exact hp.out,by omega,bi w hg (Ai _)⟩
   case measure=>simp[intOf];omega
  ·have cz:¬(128:Int)<=k:=by omega
   have hb:=Ad (xA0 (k:=k) (by omega));rw[kJ (by omega)]at hp;go_wp2_with (at_builtin;refine eO0 rfl _ _ rfl w.heap.size _ (xs++pre) (Ak k) rfl hs (aB.refl _) _ 1 rfl _ (by rw[hb.out];rfl) rfl (by rw[Aa];omega) hg.size ?_;intro v' w5 au bi)
   go_ret;refine⟨_,rfl,?_,bi w hg (Ai _)⟩;rw[<-hp.out,<-Ab];exact au
theorem bC0 (xs:List UInt8) (a:Option Addr) (c:Nat) (s:ByteArray) (w:World) (hx:xs.length<=1099511627776) (hs:s.size<=1099511627776) (ac:aG w a 1 (xs.map aV)) (hn:a=none->c=0) :
  Calls Tryz.prog 173 #[.slice a xs.length c,.string s] w λe w'=>∃v,e=.returned v/\aU w' w.heap.size 5 1 aV v (xs++rP s)/\aB w w':=by
 have hl:=cK s.size;have hw:IntKind.u64.wrap (s.size:Int)=s.size:=by simp[Al,Am,Ah];omega
 have CU:=Ad (jD xs a c s.size w hx (by omega) ac hn);clear ac hn;go_enter Tryz.func173,Tryz.ntmps173
 go_wp2_with fail
 refine CU.out.mono ?_;rintro e w1 ⟨v1,rfl,ay,ai⟩;go_wp2_with (at_builtin;refine lS1 rfl _ _ rfl w.heap.size _ _ s rfl ay (aB.refl _) rfl (by rw[Aa];omega) ai.size ?_;intro v2 w2 ah ae _)
 go_ret;exact⟨_,rfl,by unfold rP;rw[<-Ab];exact ah,ae w ai (Ai _)⟩
theorem tY0 (l:List cY) (a:Option Addr) (c:Nat) (w:World) (hv:eH l=true) (ac:aG w a 2 (l.map cB)) :
  Calls Tryz.prog 100 #[.slice a l.length c] w λe w'=>∃v,e=.returned (.tuple #[v,.int .i64 0])/\aU w' w.heap.size 5 1 aV v (posE l)/\aB w w':=by
 obtain⟨acs,bg⟩:=fZ hv;have HALL:=Ad bg;have CC:=Ad (aM0 l a c w ac (by omega));rw[hv]at CC;have HAT:=Ad ac;have hul:=cK l.length;have qj:IntKind.u64.wrap (l.length:Int)=l.length:=by simp[Al,Am,Ah];omega
 have l7:oO1 true=0:=rfl;rw[l7]at CC;clear bg ac hv l7;go_enter Tryz.func100,Tryz.ntmps100
 go_wp2_with fail
 refine CC.out.mono ?_;rintro e w1 ⟨rfl,ai⟩;go_wp2_with fail
 refine(jD [] none 0 l.length w1 (by simp) (by omega) (aG.nil _ _ _) (λ_=>rfl)).mono ?_;rintro e w2 ⟨v2,rfl,ah,ae⟩;rw[Bd]at ah;have fj:=ai.tr ae;replace ah:=ah.base (base':=w.heap.size) ai.size;clear ai ae CC;go_wp2_with fail
 go_loopw [5,19] (λout i wr=>∃(k:Nat) (cd:List UInt8),k<=l.length/\i=.int .i64 k/\Hid (cd=putU l.length++(l.take k).flatMap fG)/\aU wr w.heap.size 5 1 aV out cd/\aB w wr) (λ_ i _=>l.length-(intOf i).toNat)
 case atStart=>exact⟨0,_,Au _,rfl,(by show _=_;simp),ah,fj⟩
 case round =>
  obtain⟨k,cd,hk,rfl,ci,aa,hg⟩:=hrel
  have mw:cd.length<=10+k*40:=by
   rw[ci.out,Aa];have h1:=aH0 (l:=l.take k) (λp hp=>(HALL.out p (Ay hp)).1);rw[Aw]at h1;have h2:min k l.length*40<=k*40:=Az _ (by omega);omega
  by_cases af:k<l.length
  ·obtain⟨p,hp⟩:∃p,l[k]?=some p:=⟨_,Ae af⟩
   obtain⟨b,o,rfl,hc⟩:=aG.get (enc:=cB) HAT.out (aJ af);obtain⟨pn,pk⟩:=p;have c0:wr.cell? ⟨b,o+k*2,none⟩=some (.string pn):=hg.cell (hc k _ hp 0 _ rfl);have c1:wr.cell? ⟨b,o+k*2+1,none⟩=some (.int .i64 pk):=hg.cell (hc k _ hp 1 _ rfl);obtain⟨se,l7,ig⟩:=HALL.out _ (Ac hp);simp only at se l7 ig;obtain⟨kd,rfl⟩:∃kd:Nat,pk=kd:=⟨pk.toNat,by omega⟩;have ahb:=sP pn;have ahc:=cK kd;have hwk:IntKind.u64.wrap (kd:Int)=kd:=by simp[Al,Am,Ah];omega
   have HN:Hid ((cd++rP pn)++putU kd=putU l.length++(l.take (k+1)).flatMap fG):=by
    show _=_
    rw[bJ hp,lB0,ci.out];simp only[Ab,fG,Bn]
   have cz:(k:Int)<l.length:=by omega
   have z0:∀x:Ext aB (wr.alloc (.cells #[.string pn,.int .i64 kd] 99)).drew,x.u.cell? ⟨wr.heap.size,0,none⟩=some (.string pn):=aF (aT wr _ _ (0,0) 0 _ rfl);have z1:∀x:Ext aB (wr.alloc (.cells #[.string pn,.int .i64 kd] 99)).drew,x.u.cell? ⟨wr.heap.size,1,none⟩=some (.int .i64 kd):=aF (aT wr _ _ (0,0) 1 _ rfl);obtain⟨ao,co,rfl,_,_,acu⟩:=aa.at_ bI.len;have n9:=cF aa;have mq:aB wr (wr.alloc (.cells #[.string pn,.int .i64 kd] 99)):=aB.alloc _ _;clear hp ci hc aa;go_wp2_with fail
   refine bH (nU [0,1,2,4,5,6,3,7,8] [3,7,8]) (by kernel_rfl) (λd _ _ _ _ h=>by cases d<;>exact h) ?_
   iterate 6 (refine aH rfl (λK hK=>?_);go_simp;refine hK _ ?_;clear hK K)
   clear z0 z1;refine bG rfl rfl (λK hK=>?_);go_simp;refine(bC0 cd ao co pn _ (by omega) (by omega) (acu.grows (mq.dr)) n9).mono ?_;rintro e w3 ⟨v3,rfl,av,aw⟩;obtain⟨B3,jh⟩:=exq (cd++rP pn);rw[<-jh]at av;have jr:B3.length<=10000:=(by rw[jh,Aa];omega);have HB3:=Ad jh;clear jh;obtain⟨a3,c3,rfl,_,_,ir⟩:=av.at_ bI.len;have t9:=cF av;clear av;refine⟨aw,hK _ _ ?_⟩;clear hK K;refine bG rfl rfl (λK hK=>?_);go_simp;refine(jD B3 a3 c3 kd _ (by omega) (by omega) ir t9).mono ?_;rintro e w4 ⟨v4,rfl,ee,cu⟩;refine⟨cu,hK _ _ ?_⟩;clear hK K;iterate 1 (refine bG rfl rfl (λK hK=>?_);go_simp;refine⟨aB.refl _,hK _ _ ?_⟩;clear hK K)
   refine bN ?_;have vs:=hg.tr ((mq.dr).tr aw);go_wp2_with fail
   go_roundw
   case rel=>exact⟨k+1,_,af,by go_num,(by show _=_;rw[<-HN.out,HB3.out]),ee.base vs.size,vs.tr cu⟩
   case measure=>simp[intOf];omega
  ·have cz:¬(k:Int)<l.length:=by omega
   have HF:Hid (cd=posE l):=by
    show _=_
    rw[ci.out,Ar (by omega)];rfl
   clear ci;go_wp2_with fail
   refine bodyPost_ret (v:=.tuple #[_,.int .i64 0]) (by simp[results,Tryz.results100,go_sem];rfl) rfl ⟨_,rfl,by rw[<-HF.out];exact aa,hg⟩
end
section
open Go Go.RowKit Go.Shelf
attribute [local go_sem] aO aM
theorem nX0 (w:World):PredAt Tryz.prog 265 #[] encR mN0 w:=λW x _=>by
 unfold FnGives;show Calls Tryz.prog 265 #[.int .i32 (x:Int)] W _
 go_enter Tryz.func265,Tryz.ntmps265
 go_wp2
 all_goals (go_ret;refine⟨dI ?_,0,rfl⟩;rw[Bool.eq_iff_iff];simp[mN0];try omega)
theorem tJ0 (s:ByteArray) (w:World) (hs:s.size<=9223372036854775807) :
  Calls Tryz.prog 223 #[.string s] w λe w'=>e=.returned (.bool (azS s))/\aB w w':=by
 have ie:=Ad (Tryz.strings_ContainsFunc 265 #[] (enters_of Tryz.func265 (by kernel_rfl) rfl) mN0 s w (nX0 w));rw[jX1,xZ0 (λc h=>oK0 h)]at ie;unfold azS;generalize (s.data.toList.any λb=>mN0 b.toNat)=r at ie ⊢;by_cases h1:1<=s.size
 ·have g1:(1:Int)<=s.size:=by omega
  by_cases hz:s.size<=16
  ·have hz':(s.size:Int)<=16:=by omega
   go_enter Tryz.func223,Tryz.ntmps223
   go_wp2_with (go_at_call 140;refine ie.out.mono ?_;rintro e w' ⟨rfl,ae⟩)
   go_ret;exact⟨dI (by simp[h1,hz]),ae⟩
  ·have hz':¬(s.size:Int)<=16:=by omega
   go_enter Tryz.func223,Tryz.ntmps223
   go_wp2
   go_ret;exact⟨dI (by simp<;>omega),aB.refl _⟩
 ·have g1:¬(1:Int)<=s.size:=by omega
  go_enter Tryz.func223,Tryz.ntmps223
  go_wp2
  go_ret;exact⟨dI (by simp<;>omega),aB.refl _⟩
theorem lG {H:Type} {P:Program} {e:TypeId} (he:P.underlying e=some .bool) {v:Value} {z:DataW H×List MemPlace} (h:plainElem P e v=some z):∃b,v=.bool b/\z=(.lit (.bool b),[]):=by
 unfold plainElem at h;rw[he]at h;cases v<;>simp at h
 exact⟨_,rfl,h.symm⟩
theorem oQ1 (w:World):(zeroValue 4).run Tryz.prog w=.ok (.bool false) w:=by kernel_rfl
def fX1 (l:List ByteArray) (D:DataW Unit):Prop:=∀s:ByteArray,s.size<=maxLen->D.atKey (.string s.data.toList) (.lit (.bool false))=.lit (.bool (l.any λt=>seq t s))
theorem dF0 {w:World} {b n:Nat} {D:DataW Unit} {l:List ByteArray} (hM:fX1 l D) (aa:w.ownsMap Tryz.prog 9 (plainElem Tryz.prog 4) b n D) {s:ByteArray} (hs:s.size<=maxLen) :
  (Instr.lookup 281 (.map (some b)) (.string s) false).run Tryz.prog w=.ok (.bool (l.any λt=>seq t s)) w:=by
 obtain⟨v,ps,i6,hv⟩:=aa.lookup (Maps.string_keyed Tryz.underlying9) Tryz.underlying281 (oQ1 w) (plainElem_bool Tryz.underlying4 false) (WideMaps.keyOf_string_mk Tryz.underlying9 hs);obtain⟨c,rfl,hc⟩:=lG Tryz.underlying4 hv;simp only[Prod.mk.injEq]at hc;rw[hM s hs]at hc
 have:c=l.any λt=>seq t s:=by have:=hc.1;simpa using this.symm
 rw[<-this];exact i6
theorem zH0 {b n:Nat} {w:World} {D:DataW Unit} {l:List ByteArray} (hM:fX1 l D) (aa:w.ownsMap Tryz.prog 9 (plainElem Tryz.prog 4) b n D) (s:ByteArray):fX1 (l++[s]) (D.put (.string s.data.toList) (.lit (.bool true))):=λt ht=>by
 by_cases h:s=t
 ·subst h
  rw[Maps.atKey_put_same aa.isMap (k:=.string s.data.toList) trivial];simp[oC0]
 ·have ak:(Lit.string t.data.toList) ≠ .string s.data.toList:=λh2=>h (by
   injection h2 with h3
   exact pA h3.symm)
  rw[Maps.atKey_put_other ak,hM t ht,Bt]
  have:seq s t=false:=iD0.2 h
  simp[this]
theorem cW0:∀(l:List bD) (p:bD) (seen:List ByteArray),xM (l++[p]) seen=(xM l seen||(seen++l.map (·.name)).any λs=>seq s p.name)
 | [],p,seen=>by simp[xM]
 | q::l,p,seen=>by
  rw[List.cons_append,xM,cW0 l p (seen++[q.name]),xM];simp[Bool.or_assoc,Ab]
theorem aQ1 (l:List bD) (a:Option Addr) (c:Nat) (w:World) (hl:l.length<=1000000) (ac:aG w a 2 (l.map kZ)) (jx:iU w l) :
  Calls Tryz.prog 176 #[.slice a l.length c] w λe w'=>e=.returned (.int .i64 (fF l))/\aB w w':=by
 have HD:=Ad jx.data;have HNM:=Ad jx.name;clear jx
 have cg:∀k p,l[k]?=some p->∃b o,a=some ⟨b,o,none⟩/\w.cell? ⟨b,o+k*2,none⟩=some (.string p.name)/\w.cell? ⟨b,o+k*2+1,none⟩=some (.slice p.a p.data.length p.c):=by
  intro k p hp;obtain⟨b,o,ha,hc⟩:=aG.get (enc:=kZ) ac (aJ (List.getElem?_eq_some_iff.1 hp).1);exact⟨b,o,ha,hc k p hp 0 _ rfl,hc k p hp 1 _ rfl⟩
 have HC:=Ad cg;clear cg ac;have qu:=@run_makeMap Tryz.prog;go_enter Tryz.func176,Tryz.ntmps176
 go_wp2_with fail
 have rj:=World.ownsMap_made w Tryz.prog 9 (plainElem (H:=Unit) Tryz.prog 4);have da:aB w (w.alloc (.map #[] 0)):=aB.alloc _ _;have hbw:w.heap.size<(w.alloc (.map #[] 0)).heap.size:=by simp
 obtain⟨mb,tp⟩:=exq w.heap.size;generalize w.alloc (.map #[] 0)=w1 at rj da hbw ⊢;rw[<-tp]at rj hbw ⊢;have HMB:=Ad tp;clear tp qu;go_loopw [3,13] (λn i wr=>∃k N:Nat,k<=l.length/\i=.int .i64 k/\n=.int .i64 N/\N<=k*1099511627776/\Hid (N=kX (l.take k))/\aB w1 wr) (λ_ i _=>l.length-(intOf i).toNat)
 case atStart=>exact⟨0,0,Au _,rfl,rfl,by omega,rfl,aB.refl _⟩
 case round =>
  obtain⟨k,N,hk,rfl,rfl,hN,cp,hg⟩:=hrel;by_cases af:k<l.length
  ·obtain⟨p,hp⟩:∃p,l[k]?=some p:=⟨_,Ae af⟩
   obtain⟨b,o,rfl,d0,d1⟩:=HC.out k p hp;have c0:=(da.tr hg).cell d0;have c1:=(da.tr hg).cell d1;have hd:=HD.out p (Ac hp);have HS:Hid (N+p.data.length=kX (l.take (k+1))):=by show _=_;rw[bJ hp,uJ0,<-cp.out]
   have cz:(k:Int)<l.length:=by omega
   clear hp cp d0 d1;go_wp2_with fail
   go_roundw
   case rel=>exact⟨k+1,N+p.data.length,af,by go_num,by go_num,by omega,HS.out,hg.al _⟩
   case measure=>simp[intOf];omega
  ·have jt:k=l.length:=by omega
   have cz:¬(k:Int)<l.length:=by omega
   have hNs:N=kX l:=by rw[cp.out,jt,Ap]
   have HN:=Ad hNs;clear cp jt hNs;by_cases ia:64<l.length\/16777216<N
   ·have HF:Hid (fF l=2):=by show _=_;unfold fF;rw[<-HN.out,if_pos ia]
    by_cases zp:64<l.length
    ·have aeo:(64:Int)<l.length:=by omega
     go_wp2_with fail
     go_ret;exact⟨by rw[HF.out];rfl,da.tr hg⟩
    ·have aeo:¬(64:Int)<l.length:=by omega
     have q8:(16777216:Int)<N:=by omega
     clear ia;go_wp2_with fail
     go_ret;exact⟨by rw[HF.out];rfl,da.tr hg⟩
   ·have zp:l.length<=64:=by omega
    have aeo:¬(64:Int)<l.length:=by omega
    have q8:¬(16777216:Int)<N:=by omega
    have HF:Hid (fF l=if (l.any λp => !azS p.name)=true then 1 else if vM0 l=true then 4 else 0):=by show _=_;unfold fF;rw[<-HN.out,if_neg ia]
    have adz:=aZ rj hg;have gh:=da.tr hg;clear ia HN rj;go_wp2_with fail
    obtain⟨u0,rfl⟩:=exq wr;go_loopw [5,32] (λe i wr=>∃(k E:Nat) (D:DataW Unit),k<=l.length/\i=.int .i64 k/\e=.int .i64 E/\Hid (((l.take k).any λp => !azS p.name)=false/\E=(if vM0 (l.take k)=true then 4 else 0)/\fX1 ((l.take k).map (·.name)) D)/\wr.ownsMap Tryz.prog 9 (plainElem Tryz.prog 4) mb k D/\mb<wr.heap.size/\aB w wr) (λ_ i _=>l.length-(intOf i).toNat)
    case atStart=>exact⟨0,0,.map [],Au _,rfl,rfl,⟨rfl,rfl,λs _=>rfl⟩,adz,Af hbw hg.size,gh⟩
    case round =>
     obtain⟨k,E,D,hk,rfl,rfl,cp,aa,aep,hg⟩:=hrel;by_cases af:k<l.length
     ·obtain⟨p,hp⟩:∃p,l[k]?=some p:=⟨_,Ae af⟩
      obtain⟨b,o,rfl,d0,d1⟩:=HC.out k p hp;have c0:=hg.cell d0;have c1:=hg.cell d1;have se:=HNM.out p (Ac hp);have ie:=λW=>tJ0 p.name W (by omega);have abm:p.name.size<=maxLen:=by unfold maxLen;omega
      obtain⟨i1,i2,i3⟩:=cp.out;have cz:(k:Int)<l.length:=by omega
      cases haz:azS p.name
      ·have HB:Hid (fF l=1):=by
        show _=_
        rw[HF.out,if_pos (List.any_eq_true.2 ⟨p,Ac hp,by rw[haz];rfl⟩)]
       rw[haz]at ie;clear hp cp haz i1 i2 i3 d0 d1;go_wp2_with fail
       refine(ie _).mono ?_;rintro e w2 ⟨rfl,ae⟩;go_wp2_with fail
       go_ret;exact⟨by rw[HB.out];rfl,(hg.al _).tr ae⟩
      ·have HI:Hid (((l.take (k+1)).any λp => !azS p.name)=false):=by
        show _=_
        rw[bJ hp,Bt,i1];simp[haz]
       have hdu:vM0 (l.take (k+1))=(vM0 (l.take k)||((l.take k).map (·.name)).any λs=>seq s p.name):=by
        unfold vM0;rw[bJ hp,cW0,Bd]
       have HNS:Hid ((l.take (k+1)).map (·.name)=(l.take k).map (·.name)++[p.name]):=by show _=_;rw[bJ hp,List.map_append];rfl
       rw[haz]at ie;have HDU:=Ad hdu;have HI2:=Ad i2;have HI3:=Ad i3;have hM:=zH0 i3 aa p.name;have HM:=Ad hM;clear hp cp haz i1 i2 d0 d1 hdu hM;cases hseen:((l.take k).map (·.name)).any λs=>seq s p.name
       ·have HE:Hid (E=if vM0 (l.take (k+1))=true then 4 else 0):=by show _=_;rw[HDU.out,hseen,Cc];exact HI2.out
        have ma:=λ(W:World) (hW:W.ownsMap Tryz.prog 9 (plainElem Tryz.prog 4) mb k D)=>dF0 i3 hW abm;rw[hseen]at ma;clear i3 hseen;go_wp2_with fail
        refine(ie _).mono ?_;rintro e w2 ⟨rfl,ae⟩;have ah:=aZ aa ((aB.alloc _ _).tr ae);have x0:w2.cell? ⟨wr.heap.size,0,none⟩=some (.string p.name):=ae.cell (aT wr _ _ (0,0) 0 _ rfl);have ahd:=ma _ ah;have fj:=(hg.al _).tr ae;go_wp2_with (at_mapUpdate;refine wpList_mapUpdate_own _ rfl _ _ _ 281 rfl 9 4 (Maps.string_keyed Tryz.underlying9) Tryz.underlying281 _ mb k D rfl ah (by unfold maxLen;omega) _ _ (.string p.name.data.toList) rfl rfl (WideMaps.keyOf_string_mk Tryz.underlying9 abm) _ [] (plainElem_bool Tryz.underlying4 true) ?_;intro w3 av fh)
        go_roundw
        case rel=>exact⟨k+1,E,_,af,by go_num,rfl,⟨HI.out,HE.out,by rw[HNS.out];exact HM.out⟩,av,Af (Af (Af aep (aB.alloc _ _).size) ae.size) fh.size,fj.grown fh (λq hq=>by cases hq;exact Cg HMB.out.symm)⟩
        case measure=>simp[intOf];omega
       ·have HE:Hid (4=if vM0 (l.take (k+1))=true then 4 else 0):=by show _=_;rw[HDU.out,hseen,Bool.or_true];rfl
        have ma:=λ(W:World) (hW:W.ownsMap Tryz.prog 9 (plainElem Tryz.prog 4) mb k D)=>dF0 i3 hW abm;rw[hseen]at ma;clear i3 hseen;go_wp2_with fail
        refine(ie _).mono ?_;rintro e w2 ⟨rfl,ae⟩;have ah:=aZ aa ((aB.alloc _ _).tr ae);have x0:w2.cell? ⟨wr.heap.size,0,none⟩=some (.string p.name):=ae.cell (aT wr _ _ (0,0) 0 _ rfl);have ahd:=ma _ ah;have fj:=(hg.al _).tr ae;go_wp2_with (at_mapUpdate;refine wpList_mapUpdate_own _ rfl _ _ _ 281 rfl 9 4 (Maps.string_keyed Tryz.underlying9) Tryz.underlying281 _ mb k D rfl ah (by unfold maxLen;omega) _ _ (.string p.name.data.toList) rfl rfl (WideMaps.keyOf_string_mk Tryz.underlying9 abm) _ [] (plainElem_bool Tryz.underlying4 true) ?_;intro w3 av fh)
        go_roundw
        case rel=>exact⟨k+1,4,_,af,by go_num,rfl,⟨HI.out,HE.out,by rw[HNS.out];exact HM.out⟩,av,Af (Af (Af aep (aB.alloc _ _).size) ae.size) fh.size,fj.grown fh (λq hq=>by cases hq;exact Cg HMB.out.symm)⟩
        case measure=>simp[intOf];omega
     ·have jt:k=l.length:=by omega
      have cz:¬(k:Int)<l.length:=by omega
      have HB:Hid (fF l=E):=by
       obtain⟨i1,i2,_⟩:=cp.out;show _=_
       rw[jt,Ap]at i1 i2;rw[HF.out,i1,i2];simp
      clear cp jt;go_wp2_with fail
      go_ret;exact⟨by rw[HB.out];rfl,hg⟩
end
section
open Go Go.RowKit
def nN1 (r s:ByteArray):Value := .agg #[.string r,.string s]
def klA (r s:ByteArray):Lit := .string (keyBytes [.string r.data.toList,.string s.data.toList])
theorem pM0:Go.Maps.Keyed Tryz.prog 80:=Go.Maps.Keyed.of_law (deep_law_laid fD0 (m:=3) (by decide) (of_decide_eq_true (by kernel_rfl)) (by kernel_rfl) (by kernel_rfl))
theorem oH1 {r s:ByteArray} (h1:r.size<=maxLen) (h2:s.size<=maxLen):Go.keyOf Tryz.prog 80 (nN1 r s)=some (klA r s):=by
 obtain⟨m,hm⟩:∃m,Tryz.prog.types.size=m+1:=⟨Tryz.prog.types.size-1,by have:0<Tryz.prog.types.size:=of_decide_eq_true (by kernel_rfl);omega⟩
 have hS:∀(s:ByteArray),s.size<=maxLen->Tryz.prog.keyLits (m+1) 9 [.string s]=some [.string s.data.toList]:=λs hs=>by
  unfold Program.keyLits;simp only[Tryz.underlying9,if_pos hs]
 have hk:Tryz.prog.keyType 80=true:=by kernel_rfl
 have hc:Tryz.prog.cellsOf 80=2:=by kernel_rfl
 have dg:Tryz.prog.cellsOf 9=1:=by kernel_rfl
 have g1:=hS r h1;have g2:=hS s h2;unfold Go.keyOf;simp only[Tryz.underlying80,hk,Ax];unfold Value.formed nN1;simp only[Tryz.underlying80,hc];have hz:((#[Value.string r,.string s]:Array Value).size==2)=true:=rfl;rw[if_pos hz,hm];unfold Program.keyLits;simp only[Tryz.underlying80,hc,Value.cells];simp[dg,g1,g2,klA]
theorem xM0 {r s r' s':ByteArray} (h1:r.size<=maxLen) (h2:s.size<=maxLen) (h3:r'.size<=maxLen) (h4:s'.size<=maxLen) (h:klA r s=klA r' s'):r=r'/\s=s':=by
 have k1:=oH1 h1 h2;have k2:=oH1 h3 h4;rw[h]at k1
 have:=pM0.inj k1 k2
 simpa [nN1] using this
theorem oU0 {key:Value} {kl:Lit} (h:Go.keyOf Tryz.prog 80 key=some kl):∃r s:ByteArray,r.size<=maxLen/\s.size<=maxLen/\key=nN1 r s/\kl=klA r s:=by
 obtain⟨m,hm⟩:∃m,Tryz.prog.types.size=m+1:=⟨Tryz.prog.types.size-1,by have:0<Tryz.prog.types.size:=of_decide_eq_true (by kernel_rfl);omega⟩
 have hS:∀(v:Value) (ls:List Lit),Tryz.prog.keyLits (m+1) 9 [v]=some ls->∃s:ByteArray,v=.string s/\s.size<=maxLen/\ls=[.string s.data.toList]:=λv ls h=>by
  unfold Program.keyLits at h;simp only[Tryz.underlying9]at h;cases v<;>simp at h
  rename_i s
  exact⟨s,rfl,h.1,h.2.symm⟩
 have hk:Tryz.prog.keyType 80=true:=by kernel_rfl
 have hc:Tryz.prog.cellsOf 80=2:=by kernel_rfl
 have dg:Tryz.prog.cellsOf 9=1:=by kernel_rfl
 unfold Go.keyOf at h;simp only[Tryz.underlying80,hk,Ax]at h;split at h
 ·rename_i hf
  rw[hm]at h
  obtain⟨cs,rfl,dm⟩:∃cs,key=.agg cs/\cs.size=2:=by
   unfold Value.formed at hf;cases key<;>simp[Tryz.underlying80,hc]at hf
   exact⟨_,rfl,hf⟩
  obtain⟨l⟩:=cs
  match l,dm with
  | [c0,c1],_ =>
   rw[lW Tryz.underlying80]at h;simp only[Value.cells]at h;simp[dg,hc,Option.bind_eq_some_iff,List.mapM_cons]at h;obtain⟨l0,g0,ls,⟨l1,g1,rfl⟩,rfl⟩:=h;obtain⟨s0,rfl,z0,rfl⟩:=hS _ _ g0;obtain⟨s1,rfl,z1,rfl⟩:=hS _ _ g1;exact⟨s0,s1,z0,z1,rfl,by simp[klA]⟩
 ·cases h
theorem kR1 (r s:ByteArray):WideAt.IsKeyLit (klA r s):=by simp[klA,WideAt.IsKeyLit]
theorem eE1 (r s:ByteArray):(klA r s).sameKey (klA r s)=true:=by simp[klA,Lit.sameKey]
section
variable {H:Type}
structure dM1 (V:List (ByteArray×ByteArray)) (D:DataW H):Prop where
 tidy:Maps.Tidy D
 size:Maps.size D=V.length
 ok:∀x∈V,x.1.size<=maxLen/\x.2.size<=maxLen
 one:V.Nodup
 has:∀r s:ByteArray,r.size<=maxLen->s.size<=maxLen->(Maps.has D (klA r s)=true↔(r,s)∈V)
theorem gG1:dM1 (H:=H) [] (.map []):=⟨Maps.tidy_empty,rfl,λx h=>(by cases h),Bw,λr s _ _=>⟨λh=>(by cases h),λh=>(by cases h)⟩⟩
def stF {α:Type} [DecidableEq α] (V:List α) (x:α):List α:=if x∈V then V else x::V
theorem dY0 {α:Type} [DecidableEq α] {V:List α} {x y:α}:y∈stF V x↔y∈V\/y=x:=by
 unfold stF;split
 ·rename_i h
  exact⟨Or.inl,λh2=>h2.elim id λe=>e▸h⟩
 ·rw[Cd]
  exact Or.comm
theorem dM1.store {V:List (ByteArray×ByteArray)} {D:DataW H} (h:dM1 V D) {x:ByteArray×ByteArray} (hx:x.1.size<=maxLen/\x.2.size<=maxLen):dM1 (stF V x) (D.put (klA x.1 x.2) (.lit (.bool true))):=by
 have hk:=kR1 x.1 x.2;refine⟨h.tidy.put hk _,?_,λy hy=>?_,?_,λr s hr hs=>?_⟩
 ·rw[Maps.size_put h.tidy,h.size]
  have hh:=h.has x.1 x.2 hx.1 hx.2;by_cases hm:x∈V
  ·rw[if_pos (hh.2 hm)]
   unfold stF;rw[if_pos hm]
  ·rw[if_neg (λhc=>hm (hh.1 hc))]
   unfold stF;rw[if_neg hm,An]
 ·rcases dY0.1 hy with hy|rfl
  ·exact h.ok y hy
  ·exact hx
 ·unfold stF
  split
  ·exact h.one
  ·rename_i hm
   exact List.nodup_cons.2 ⟨hm,h.one⟩
 ·by_cases e:klA r s=klA x.1 x.2
  ·obtain⟨e1,e2⟩:=xM0 hr hs hx.1 hx.2 e
   rw[e];exact⟨λ_=>dY0.2 (Or.inr (By e1 e2)),λ_=>Maps.has_put_same h.tidy.isMap hk _⟩
  ·rw[Maps.has_put_other e,h.has r s hr hs,dY0]
   exact⟨Or.inl,λh2=>h2.elim id λe2=>absurd (by rw[<-e2]) e⟩
structure nC0 (V:List (ByteArray×ByteArray)) (left:Lit->Bool) (ys:List (ByteArray×ByteArray)):Prop where
 nd:ys.Nodup
 sub:∀y∈ys,y∈V
 iff:∀y∈V,y∈ys↔left (klA y.1 y.2)=false
theorem dM1.start {V:List (ByteArray×ByteArray)} {D:DataW H} (h:dM1 V D):nC0 V (Maps.has D) []:=⟨Bw,λy hy=>(by cases hy),λy hy=>by
 rw[(h.has _ _ (h.ok y hy).1 (h.ok y hy).2).2 hy];simp⟩
theorem nC0.step {V:List (ByteArray×ByteArray)} {D:DataW H} (hM:dM1 V D) {left:Lit->Bool} {ys:List (ByteArray×ByteArray)} (h:nC0 V left ys) {x:ByteArray×ByteArray} (hx:x∈V) (hl:left (klA x.1 x.2)=true):nC0 V (λz=>left z && !z.sameKey (klA x.1 x.2)) (ys++[x]):=by
 have ud:x∉ys:=λhm=>by
  have:=(h.iff x hx).1 hm
  rw[hl]at this;cases this
 refine⟨List.nodup_append.2 ⟨h.nd,by simp,λa ha b hb e=>?_⟩,λy hy=>?_,λy hy=>?_⟩
 ·obtain rfl:b=x:=by simpa using hb
  exact ud (e▸ha)
 ·rcases List.mem_append.1 hy with hy|hy
  ·exact h.sub y hy
  ·obtain rfl:y=x:=by simpa using hy
   exact hx
 ·rw[List.mem_append,h.iff y hy]
  by_cases e:klA y.1 y.2=klA x.1 x.2
  ·obtain⟨e1,e2⟩:=xM0 (hM.ok y hy).1 (hM.ok y hy).2 (hM.ok x hx).1 (hM.ok x hx).2 e
   obtain rfl:y=x:=By e1 e2;simp[eE1]
  ·rw[Maps.sameKey_ne e]
   have:y≠x:=λe2=>e (by rw[e2])
   simp[this]
theorem nC0.perm {V:List (ByteArray×ByteArray)} {D:DataW H} (hM:dM1 V D) {left:Lit->Bool} {ys:List (ByteArray×ByteArray)} (h:nC0 V left ys) (h0:∀kl,left kl=false):ys.Perm V :=
 (List.perm_ext_iff_of_nodup h.nd hM.one).2 λy=>⟨h.sub y,λhy=>(h.iff y hy).2 (h0 _)⟩
structure yM0 (cs:List Cnt) (D:DataW H):Prop where
 map:Maps.IsMap D
 has:∀k:ByteArray,k.size<=maxLen->(Maps.has D (.string k.data.toList)=true↔∃c∈cs,c.k=k)
 at_:∀k:ByteArray,k.size<=maxLen->D.atKey (.string k.data.toList) (.lit (.int .i64 0))=.lit (.int .i64 (pS cs k))
theorem dE1:yM0 (H:=H) [] (.map []):=⟨Maps.isMap_empty,λk _=>⟨λh=>(by cases h),λ⟨x,h,_⟩=>(by cases h)⟩,λk _=>rfl⟩
theorem dT0 (k:ByteArray):WideAt.IsKeyLit (.string k.data.toList):=trivial
theorem yW {a b:ByteArray} (h:a≠b):(Lit.string a.data.toList) ≠ .string b.data.toList:=λe=>h (pA (by injection e))
theorem gR0 (cs:List Cnt) (c:Cnt) (k:ByteArray):pS (cs++[c]) k=if ∃x∈cs,x.k=k then pS cs k else if c.k=k then bonI c.v else 0:=by
 unfold pS;rw[List.find?_append];by_cases h:∃x∈cs,x.k=k
 ·rw[if_pos h]
  obtain⟨x,hx,e⟩:=h
  cases hf:cs.find? λc=>decide (c.k=k) with
  | some y=>rfl
  | none=>exact absurd e (by simpa using List.find?_eq_none.1 hf x hx)
 ·rw[if_neg h]
  have:cs.find? (λc=>decide (c.k=k))=none:=List.find?_eq_none.2 λx hx=>by
   intro e;exact h ⟨x,hx,by simpa using e⟩
  rw[this,Option.none_or];by_cases e:c.k=k
  ·rw[List.find?_cons_of_pos (by simpa using e),if_pos e]
  ·rw[List.find?_cons_of_neg (by simpa using e),if_neg e]
   rfl
theorem hC0 {cs:List Cnt} {k:ByteArray} (h:¬ ∃x∈cs,x.k=k):pS cs k=0:=by
 have:=mQ cs k
 by_cases h0:0<pS cs k
 ·exact absurd (pD0 h0) h
 ·omega
theorem yM0.skip {cs:List Cnt} {D:DataW H} (h:yM0 cs D) {c:Cnt} (hc:∃x∈cs,x.k=c.k):yM0 (cs++[c]) D:=by
 refine⟨h.map,λk hk=>?_,λk hk=>?_⟩
 ·rw[h.has k hk]
  constructor
  ·rintro⟨x,hx,e⟩
   exact⟨x,by simp[hx],e⟩
  ·rintro⟨x,hx,e⟩
   rcases List.mem_append.1 hx with hx|hx
   ·exact⟨x,hx,e⟩
   ·obtain rfl:x=c:=by simpa using hx
    obtain⟨y,hy,e2⟩:=hc;exact⟨y,hy,e2.trans e⟩
 ·rw[h.at_ k hk,gR0]
  by_cases hh:∃x∈cs,x.k=k
  ·rw[if_pos hh]
  ·rw[if_neg hh,hC0 hh,if_neg]
   rintro rfl;exact hh hc
theorem yM0.store {cs:List Cnt} {D:DataW H} (h:yM0 cs D) {c:Cnt} (hz:c.k.size<=maxLen) (hc:¬ ∃x∈cs,x.k=c.k):yM0 (cs++[c]) (D.put (.string c.k.data.toList) (.lit (.int .i64 (bonI c.v)))):=by
 refine⟨h.map.put _ _,λk hk=>?_,λk hk=>?_⟩
 ·by_cases e:k=c.k
  ·subst e
   exact⟨λ_=>⟨c,by simp,rfl⟩,λ_=>Maps.has_put_same h.map (dT0 _) _⟩
  ·rw[Maps.has_put_other (yW e),h.has k hk]
   constructor
   ·rintro⟨x,hx,e⟩
    exact⟨x,by simp[hx],e⟩
   ·rintro⟨x,hx,e3⟩
    rcases List.mem_append.1 hx with hx|hx
    ·exact⟨x,hx,e3⟩
    ·obtain rfl:x=c:=by simpa using hx
     exact absurd e3.symm e
 ·rw[gR0]
  by_cases e:k=c.k
  ·subst e
   rw[if_neg hc,if_pos rfl];exact Maps.atKey_put_same h.map (dT0 _) _ _
  ·rw[Maps.atKey_put_other (yW e),h.at_ k hk]
   by_cases hh:∃x∈cs,x.k=k
   ·rw[if_pos hh]
   ·rw[if_neg hh,if_neg (λe2=>e e2.symm),hC0 hh]
end
end
section
open Go Go.RowKit Go.Shelf
attribute [local go_sem] aO aM
theorem oZ {α:Type} {enc:α->List Value} {k:Nat} (hk:∀x,(enc x).length=k) {w:World} {cs:Array Value} {t:TypeId} {fz:Nat×Nat} (xs:List α) (dg:cs.toList=xs.flatMap enc):aG (w.alloc (.cells cs t fz)) (some ⟨w.heap.size,0,none⟩) k (xs.map enc):=λ_=>⟨w.heap.size,0,rfl,λi row hi j u hj=>by
 rw[Bo]at hi
 cases hx:xs[i]? with
 | none=>rw[hx]at hi;cases hi
 | some x =>
  rw[hx]at hi;obtain rfl:=Option.some.inj hi;have h:=qF hk xs i j x u hx hj;rw[<-dg]at h;have h2:=aT w cs t fz (i*k+j) u (by simpa using h);simpa using h2⟩
theorem qN0 (l:List bD) (a:Option Addr) (c:Nat) (w:World) (he:Env w) (hl:l.length<=1000000) (ac:aG w a 2 (l.map kZ)) (jx:iU w l) :
  Calls Tryz.prog 108 #[.slice a l.length c] w (oS0 l w):=by
 have CC:=Ad (aQ1 l a c w hl ac jx)
 have cg:∀k p,l[k]?=some p->∃b o,a=some ⟨b,o,none⟩/\w.cell? ⟨b,o+k*2,none⟩=some (.string p.name)/\w.cell? ⟨b,o+k*2+1,none⟩=some (.slice p.a p.data.length p.c):=by
  intro k p hp;obtain⟨b,o,ha,hc⟩:=aG.get (enc:=kZ) ac (aJ (List.getElem?_eq_some_iff.1 hp).1);exact⟨b,o,ha,hc k p hp 0 _ rfl,hc k p hp 1 _ rfl⟩
 have HC:=Ad cg;have HPA:=Ad jx;clear cg ac jx;by_cases ag:fF l=0
 case neg =>
  have HNE:=Ad ag;obtain⟨E,hE⟩:∃E,fF l=E:=⟨_,rfl⟩;have HE:=Ad hE;rw[hE]at CC ag;have hEb:((E:Int) != 0)=true:=by rw[bne_iff_ne];omega
  clear hE ag;go_enter Tryz.func108,Tryz.ntmps108
  go_wp2_with fail
  refine CC.out.mono ?_;rintro e w1 ⟨rfl,ai⟩;go_wp2_with fail
  refine bodyPost_ret (v:=.tuple #[.slice none 0 0,.int .i64 E]) (by simp[results,Tryz.results108,go_sem]) rfl ⟨λh=>absurd h HNE.out,λ_=>by rw[HE.out],ai⟩
 have HOK:=Ad ag;rw[ag]at CC;obtain⟨acs,m7,haz,_⟩:=qS0 ag;have HAZ:=Ad (zX0 haz);have HBL:=Ad (uY0 ag);have hul:=cK l.length;clear haz ag;go_enter Tryz.func108,Tryz.ntmps108
 go_wp2_with fail
 refine CC.out.mono ?_;rintro e w1 ⟨rfl,ai⟩;have hcv:=Lib.run_convert_bytes_const (P:=Tryz.prog) w1 67 5 #[.int .u8 72,.int .u8 78,.int .u8 75,.int .u8 49] 4 4 Tryz.underlying67 Tryz.underlying5;simp only[show (#[Value.int .u8 72,.int .u8 78,.int .u8 75,.int .u8 49]:Array Value).size=4 from rfl]at hcv
 go_wp2_with fail
 clear hcv;have ko:aG (w1.alloc (.cells #[.int .u8 72,.int .u8 78,.int .u8 75,.int .u8 49] 5 (4,5))) (some ⟨w1.heap.size,0,none⟩) 1 (([72,78,75,49]:List UInt8).map aV):=oZ (enc:=aV) (λ_=>rfl) [72,78,75,49] rfl;refine(jD [72,78,75,49] (some ⟨w1.heap.size,0,none⟩) 4 l.length _ (by decide) (by omega) ko (λh=>by cases h)).mono ?_;rintro e w2 ⟨v2,rfl,ah,ae⟩;have fj:=(ai.al _).tr ae;replace ah:=ah.base (base':=w.heap.size) (ai.al _).size;clear ko ae ai CC;go_wp2_with fail
 go_loopw [5,23] (λout i wr=>∃(k:Nat) (cd:List UInt8),k<=l.length/\i=.int .i64 k/\Hid (cd=([72,78,75,49]++putU l.length)++dF (l.take k))/\aU wr w.heap.size 5 1 aV out cd/\aB w wr) (λ_ i _=>l.length-(intOf i).toNat)
 case atStart=>exact⟨0,_,Au _,rfl,(by show _=_;simp[dF]),ah,fj⟩
 case round =>
  obtain⟨k,cd,hk,rfl,ci,aa,hg⟩:=hrel
  have mw:cd.length<=20+k*36:=by
   rw[ci.out,Aa,Aa];have h1:=cS0 (l:=l.take k) (λp hp=>HAZ.out p (Ay hp));rw[Aw]at h1;have h2:min k l.length*36<=k*36:=Az _ (by omega);simp only[An,Bs];omega
  by_cases af:k<l.length
  ·obtain⟨p,hp⟩:∃p,l[k]?=some p:=⟨_,Ae af⟩
   obtain⟨b,o,rfl,d0,d1⟩:=HC.out k p hp;have c0:=hg.cell d0;have c1:=hg.cell d1;have se:=HAZ.out p (Ac hp);have hpd:=HPA.out.data p (Ac hp);have ahb:=sP p.name;have ahc:=cK p.data.length
   have HN:Hid ((cd++rP p.name)++putU p.data.length=([72,78,75,49]++putU l.length)++dF (l.take (k+1))):=by
    show _=_
    rw[bJ hp,mZ0,ci.out];simp only[Ab]
   have cz:(k:Int)<l.length:=by omega
   have acg:IntKind.u64.wrap (p.data.length:Int)=p.data.length:=by simp[Al,Am,Ah];omega
   obtain⟨ao,co,rfl,_,_,acu⟩:=aa.at_ bI.len;have n9:=cF aa;have mq:aB wr (wr.alloc (.cells #[.string p.name,.slice p.a p.data.length p.c] 170)):=aB.alloc _ _;clear hp ci d0 d1 aa;go_wp2_with fail
   refine(bC0 cd ao co p.name _ (by omega) (by omega) (acu.grows mq) n9).mono ?_;rintro e w3 ⟨v3,rfl,av,aw⟩;obtain⟨B3,jh⟩:=exq (cd++rP p.name);rw[<-jh]at av HN;have jr:B3.length<=1000000:=by rw[jh,Aa];omega
   obtain⟨a3,c3,rfl,_,_,ir⟩:=av.at_ bI.len;have t9:=cF av;have x1:w3.cell? ⟨wr.heap.size,1,none⟩=some (.slice p.a p.data.length p.c):=aw.cell (aT wr _ _ (0,0) 1 _ rfl);clear jh av;go_wp2_with fail
   refine(jD B3 a3 c3 p.data.length _ (by omega) (by omega) ir t9).mono ?_;rintro e w4 ⟨v4,rfl,ee,cu⟩;have vs:=hg.tr (mq.tr aw);go_wp2_with fail
   go_roundw
   case rel=>exact⟨k+1,_,af,by go_num,HN.out,ee.base vs.size,vs.tr cu⟩
   case measure=>simp[intOf];omega
  ·have cz:¬(k:Int)<l.length:=by omega
   have HA:Hid (cd=([72,78,75,49]++putU l.length)++dF l):=by
    show _=_
    rw[ci.out,Ar (by omega)]
   clear ci;go_wp2_with fail
   obtain⟨u0,rfl⟩:=exq wr;go_loopw [5,40] (λout i wr=>∃(k:Nat) (ew:List UInt8),k<=l.length/\i=.int .i64 k/\Hid (ew=cd++dH (l.take k))/\aU wr w.heap.size 5 1 aV out ew/\aB w wr) (λ_ i _=>l.length-(intOf i).toNat)
   case atStart=>exact⟨0,_,Au _,rfl,(by show _=_;simp[dH]),aa,hg⟩
   case round =>
    obtain⟨k,ew,hk,rfl,gl,aa,hg⟩:=hrel;by_cases af:k<l.length
    ·obtain⟨p,hp⟩:∃p,l[k]?=some p:=⟨_,Ae af⟩
     obtain⟨b,o,rfl,d0,d1⟩:=HC.out k p hp;have c0:=hg.cell d0;have c1:=hg.cell d1;have hpd:=HPA.out.data p (Ac hp);have abn:=(HPA.out.at_ p (Ac hp)).grows (hg.al (.cells #[.string p.name,.slice p.a p.data.length p.c] 170));have ga:=HPA.out.none_ p (Ac hp)
     have HN:Hid (ew++p.data=cd++dH (l.take (k+1))):=by
      show _=_
      rw[bJ hp,nH0,gl.out,Ab]
     have ag6:ew.length<=3000+64*1099511627776:=by
      rw[gl.out,Aa,cM0];have h1:=hU1 (l:=l.take k) (n:=1099511627776) (λp hp=>HPA.out.data p (Ay hp));rw[Aw]at h1;have h2:min k l.length*1099511627776<=64*1099511627776:=Az _ (by omega);omega
     have mf:=aa.grows (aB.alloc wr (.cells #[.string p.name,.slice p.a p.data.length p.c] 170));have jv:=hg.al (.cells #[.string p.name,.slice p.a p.data.length p.c] 170);clear hp gl d0 d1;go_wp2_with (at_builtin;refine tC bI rfl _ _ rfl w.heap.size _ ew p.data rfl mf (aB.refl _) p.a p.c rfl abn ga (by omega) jv.size ?_;intro v7 w7 fu ep)
     go_roundw
     case rel=>exact⟨k+1,_,af,by go_num,HN.out,fu,ep w jv (Ai _)⟩
     case measure=>simp[intOf];omega
    ·have cz:¬(k:Int)<l.length:=by omega
     have HB:Hid (ew=dD l):=by
      show _=_
      rw[gl.out,HA.out,Ar (by omega)];rfl
     have dn:ew.length<=16800000:=by rw[HB.out];exact HBL.out
     have hl4:(leB 4 (crcSum ew)).length=4:=bM _ _;obtain⟨a8,c8,rfl,_,_,lx⟩:=aa.at_ bI.len;have hew:=he.grows hg;clear gl;go_wp2_with (first|(go_at_call 118;refine(vM ew a8 c8 _ hew (by omega) lx).mono ?_;rintro e w9 ⟨v9,rfl,dd,jb⟩;obtain⟨a9,c9,rfl,_,_,ahe⟩:=dd.at_ bI.len;have hn9:=cF dd;have ad0:=aa.grows jb;have ik:=hg.tr jb;clear aa dd)|(at_builtin;refine tC bI rfl _ _ rfl w.heap.size _ ew (leB 4 (crcSum ew)) rfl ad0 (aB.refl _) a9 c9 rfl ahe hn9 (by omega) ik.size ?_;intro v10 w10 ed jy))
     have HF:Hid (ew++leB 4 (crcSum ew)=file14 l):=by show _=_;rw[HB.out];rfl
     refine bodyPost_ret (v:=.tuple #[v10,.int .i64 0]) (by simp[results,Tryz.results108,go_sem]) rfl ⟨λ_=>⟨v10,rfl,by rw[<-HF.out];exact ed⟩,λh=>absurd HOK.out h,jy w ik (Ai _)⟩
end
section
open Go Go.RowKit
attribute [local go_sem] aO
end
section
open Go Go.RowKit Go.Shelf
attribute [local go_sem] aO aM
theorem mW1 (w:World):(zeroValue 3).run Tryz.prog w=.ok (.int .i64 0) w:=by kernel_rfl
def IdM (L:List ByteArray) (k:Nat) (D:DataW Unit):Prop:=∀i s,i<k->L[i]?=some s->D.atKey (.string s.data.toList) (.lit (.int .i64 0))=.lit (.int .i64 i)
theorem fN0 {w:World} {b n k i:Nat} {D:DataW Unit} {L:List ByteArray} {s:ByteArray} (hM:IdM L k D) (aa:w.ownsMap Tryz.prog 9 (plainElem Tryz.prog 3) b n D) (hi:i<k) (hx:L[i]?=some s) (hs:s.size<=maxLen) :
  (Instr.lookup 75 (.map (some b)) (.string s) false).run Tryz.prog w=.ok (.int .i64 i) w:=by
 obtain⟨c,i6,ac,_⟩:=aa.lookup_int (Maps.string_keyed Tryz.underlying9) Tryz.underlying75 Tryz.underlying3 (mW1 w) (WideMaps.keyOf_string_mk Tryz.underlying9 hs);rw[hM i s hi hx]at ac
 have:(i:Int)=c:=by simpa using ac
 rw[this];exact i6
theorem fE1 (L:List ByteArray) (D:DataW Unit):IdM L 0 D:=λi _ h=>absurd h (Nat.not_lt_zero i)
theorem kM1 {b n k:Nat} {w:World} {D:DataW Unit} {L:List ByteArray} {s:ByteArray} (hM:IdM L k D) (aa:w.ownsMap Tryz.prog 9 (plainElem Tryz.prog 3) b n D) (hd:L.Nodup) (hx:L[k]?=some s):IdM L (k+1) (D.put (.string s.data.toList) (.lit (.int .i64 k))):=λi t hi ht=>by
 by_cases h:i=k
 ·subst h
  obtain rfl:s=t:=by rw[hx]at ht;exact Option.some.inj ht
  rw[Maps.atKey_put_same aa.isMap (k:=.string s.data.toList) trivial]
 ·have ak:(Lit.string t.data.toList) ≠ .string s.data.toList:=λh2=>h (by
   injection h2 with h3
   have h4:t=s:=pA h3;obtain⟨hi1,j7⟩:=List.getElem?_eq_some_iff.1 ht;obtain⟨hk1,ig⟩:=List.getElem?_eq_some_iff.1 hx;exact(List.getElem_inj hd).1 (by rw[j7,ig,h4]))
  rw[Maps.atKey_put_other ak,hM i t (by omega) ht]
structure iK1 (w:World) (ib:Nat) (L:List ByteArray):Prop where
 ex:∃mb n D,w.cell? ⟨ib,0,none⟩=some (.map (some mb))/\w.ownsMap Tryz.prog 9 (plainElem (H:=Unit) Tryz.prog 3) mb n D/\IdM L L.length D
theorem iK1.grows {w w':World} {ib:Nat} {L:List ByteArray} (h:iK1 w ib L) (hg:aB w w'):iK1 w' ib L:=by
 obtain⟨mb,n,D,h1,h2,h3⟩:=h.ex;exact⟨mb,n,D,hg.cell h1,aZ h2 hg,h3⟩
theorem eX1 (L:List ByteArray) (ib i:Nat) (x:En) (w:World) (h:iK1 w ib L) (hx:L[i]?=some x.s) (hs:x.s.size<=maxLen) :
  Calls Tryz.prog 111 #[x.agg,.pointer (some ⟨ib,0,none⟩)] w λe w'=>e=.returned (.int .i64 i)/\aB w w':=by
 obtain⟨xr,xs,xl,xt,xc⟩:=x;obtain⟨mb,n,D,h1,h2,h3⟩:=h.ex;simp only at hx hs;have c1:(w.alloc (.cells #[.string xr,.string xs,.int .i64 xl,.int .i64 xt,.int .i64 xc] 62)).cell? ⟨ib,0,none⟩=some (.map (some mb)):=(aB.alloc _ _).cell h1;have hl:=fN0 h3 (aZ h2 (aB.alloc w (.cells #[.string xr,.string xs,.int .i64 xl,.int .i64 xt,.int .i64 xc] 62))) (List.getElem?_eq_some_iff.1 hx).1 hx hs;unfold En.agg;clear h h1 h2 h3;go_enter Tryz.func111,Tryz.ntmps111
 go_wp2_with fail
 go_ret;exact⟨rfl,aB.alloc _ _⟩
theorem lL1:∀args w,(callFunc 111 args).run Tryz.prog w=.ok (.enter 111 args) w:=enters_of Tryz.func111 (by kernel_rfl) rfl
theorem kO1:∀args w,(callFunc 104 args).run Tryz.prog w=.ok (.enter 104 args) w:=enters_of Tryz.func104 (by kernel_rfl) rfl
theorem fI1 (L:List ByteArray) (ib eb i j x y:Nat) (l:List En) (ex ey:En) (a:Option Addr) (c:Nat) (w:World) (h:iK1 w ib L) (he:w.cell? ⟨eb,0,none⟩=some (.slice a l.length c)) (ac:aG w a 5 (l.map bF)) (_hl:l.length<=1048576) (hL:L.length<=1048576)
  (hx:l[x]?=some ex) (hy:l[y]?=some ey) (hi:L[i]?=some ex.s) (hj:L[j]?=some ey.s) (hs:ex.s.size<=maxLen/\ey.s.size<=maxLen) :
  Calls Tryz.prog 104 #[.int .i64 x,.int .i64 y,.pointer (some ⟨ib,0,none⟩),.pointer (some ⟨eb,0,none⟩)] w λe w'=>e=.returned (.int .i64 ((i:Int)-j))/\w'=w.drew:=by
 obtain⟨xr,xs,xl,xt,xc⟩:=ex;obtain⟨yr,ys,yl,yt,yc⟩:=ey;obtain⟨mb,n,D,h1,h2,h3⟩:=h.ex;simp only at hi hj hs;have hxl:=(List.getElem?_eq_some_iff.1 hx).1;have hyl:=(List.getElem?_eq_some_iff.1 hy).1;have pm:=(List.getElem?_eq_some_iff.1 hi).1;have hjl:=(List.getElem?_eq_some_iff.1 hj).1;obtain⟨ba,oa,rfl,bz⟩:=aG.get (enc:=bF) ac (aJ hxl);have z0:∀x:Ext aB w.drew,x.u.cell? ⟨ib,0,none⟩=some (.map (some mb)):=aF ((aB.drew w).cell h1);have z1:∀x:Ext aB w.drew,x.u.cell? ⟨eb,0,none⟩=some (.slice (some ⟨ba,oa,none⟩) l.length c):=aF ((aB.drew w).cell he);have z2:∀u:Ext aB w.drew,u.u.cell? ⟨ba,oa+x*5+1,none⟩=some (.string xs):=aF ((aB.drew w).cell (bz x _ hx 1 _ rfl));have z3:∀u:Ext aB w.drew,u.u.cell? ⟨ba,oa+y*5+1,none⟩=some (.string ys):=aF ((aB.drew w).cell (bz y _ hy 1 _ rfl));have z4:∀u:Ext aB w.drew,(Instr.lookup 75 (.map (some mb)) (.string xs) false).run Tryz.prog u.u=.ok (.int .i64 i) u.u:=λu=>fN0 h3 (aZ (aZ h2 (aB.drew w)) u.h) pm hi hs.1;have z5:∀u:Ext aB w.drew,(Instr.lookup 75 (.map (some mb)) (.string ys) false).run Tryz.prog u.u=.ok (.int .i64 j) u.u:=λu=>fN0 h3 (aZ (aZ h2 (aB.drew w)) u.h) hjl hj hs.2;have qt:(x:Int)<l.length:=by omega
 have hyi:(y:Int)<l.length:=by omega
 have wij:IntKind.i64.wrap ((i:Int)-j)=(i:Int)-j:=by simp[Al,Am,Ah];omega
 clear h he ac hx hy hi hj hs h1 h2 h3 bz;go_enter Tryz.func104,Tryz.ntmps104
 go_wp2_with fail
 refine bH (bE 16 []) (by kernel_rfl) (λd _ _ _ _ h=>by cases d<;>exact h) ?_
 iterate 16 (refine aH rfl (λK hK=>?_);go_simp;refine hK _ ?_;clear hK K)
 clear z0 z1 z2 z3 z4 z5;refine bN ?_;go_wp2_with fail
 go_ret;exact⟨rfl,rfl⟩
end
section
open Go Go.RowKit
theorem rZ0 (s:ByteArray):rP s=putU s.size++bl s:=rfl
def hposP (P:List bD) (i:Nat):Nat:=(([72,78,75,49]++putU P.length)++dF (P.take i):List UInt8).length
def tI (P:List bD) (i:Nat):Nat:=(([72,78,75,49]++putU P.length)++dF P++dH (P.take i):List UInt8).length
theorem aA1 {P:List bD} {i:Nat} {p:bD} (h:P[i]?=some p):dF P=dF (P.take i)++((rP p.name++putU p.data.length)++dF (P.drop (i+1))):=by
 obtain⟨hi,rfl⟩:=List.getElem?_eq_some_iff.1 h;unfold dF;rw[<-At (f:=λp:bD=>rP p.name++putU p.data.length),<-Av hi,<-Ag,Aj]
theorem bO1 {P:List bD} {i:Nat} {p:bD} (h:P[i]?=some p):dH P=dH (P.take i)++(p.data++dH (P.drop (i+1))):=by
 obtain⟨hi,rfl⟩:=List.getElem?_eq_some_iff.1 h;unfold dH;rw[<-At (f:=λp:bD=>p.data),<-Av hi,<-Ag,Aj]
theorem lV0 {P:List bD} {i:Nat} {p:bD} (h:P[i]?=some p):dF (P.take (i+1))=dF (P.take i)++(rP p.name++putU p.data.length):=by
 unfold dF;rw[Bp,h,Ag];simp
theorem mS0 {P:List bD} {i:Nat} {p:bD} (h:P[i]?=some p):dH (P.take (i+1))=dH (P.take i)++p.data:=by
 unfold dH;rw[Bp,h,Ag];simp
theorem uH0 (P:List bD):hposP P 0=4+(putU P.length).length:=by unfold hposP dF; simp; omega
theorem uU0 {P:List bD} {i:Nat} {p:bD} (h:P[i]?=some p):hposP P (i+1)=hposP P i+(rP p.name).length+(putU p.data.length).length:=by
 unfold hposP;rw[lV0 h];simp only[Aa];omega
theorem tH0 (P:List bD):tI P 0=hposP P P.length:=by
 unfold tI hposP;rw[Ap];simp[dH]
theorem dQ0 {P:List bD} {i:Nat} {p:bD} (h:P[i]?=some p):tI P (i+1)=tI P i+p.data.length:=by
 unfold tI;rw[mS0 h];simp only[Aa];omega
theorem bS1 (P:List bD):tI P P.length=(dD P).length:=by unfold tI dD; rw[Ap]
theorem cR1 {P:List bD} {i:Nat}:tI P i<=(dD P).length:=by
 unfold tI dD;simp only[Aa]
 have:(dH (P.take i)).length<=(dH P).length:=by
  unfold dH;have h:=Aj i P;have h2:dH P=dH (P.take i)++dH (P.drop i):=by unfold dH;rw[<-Ag,h]
  unfold dH at h2;rw[h2,Aa];omega
 omega
theorem gZ1 {P:List bD} {i:Nat}:hposP P i<=(dD P).length:=by
 unfold hposP dD;simp only[Aa]
 have:(dF (P.take i)).length<=(dF P).length:=by
  have h2:dF P=dF (P.take i)++dF (P.drop i):=by unfold dF;rw[<-Ag,Aj]
  rw[h2,Aa];omega
 omega
theorem dO1 {P:List bD} (hn:P.length<18446744073709551616):rdU ((dD P).drop 4)=some (P.length,(putU P.length).length):=by
 unfold dD;rw[Ab,Ab];show rdU (putU P.length++_)=_
 exact uB hn _
theorem lL0 {P:List bD} {i:Nat} {p:bD} (h:P[i]?=some p):(dD P).drop (hposP P i)=(rP p.name++putU p.data.length)++(dF (P.drop (i+1))++dH P):=by
 have e:dD P=(([72,78,75,49]++putU P.length)++dF (P.take i))++((rP p.name++putU p.data.length)++(dF (P.drop (i+1))++dH P)):=by
  unfold dD;rw[aA1 h];simp only[Ab]
 rw[e];exact Ba rfl
theorem zK0 {s:ByteArray} (hs:s.size<18446744073709551616) (r:List UInt8):rdT (rP s++r)=some (s,(rP s).length):=by
 unfold rdT;rw[rZ0,Ab,uB hs];simp only;rw[Ba rfl,if_pos (by rw[Aa,eE];omega)];congr 1
 rw[Bu (eE s),Aa,eE];exact congrArg (·,_) (lI s)
theorem jF1 {P:List bD} {i:Nat} {p:bD} (h:P[i]?=some p) (hs:p.name.size<18446744073709551616):rdT ((dD P).drop (hposP P i))=some (p.name,(rP p.name).length):=by
 rw[lL0 h,Ab];exact zK0 hs _
theorem lO1 {P:List bD} {i:Nat} {p:bD} (h:P[i]?=some p) (hs:p.data.length<18446744073709551616):rdU ((dD P).drop (hposP P i+(rP p.name).length))=some (p.data.length,(putU p.data.length).length):=by
 rw[<-Bz,lL0 h,Ab,Ba rfl];exact uB hs _
theorem kQ1 {P:List bD} {i:Nat} {p:bD} (h:P[i]?=some p):((dD P).take (tI P i+p.data.length)).drop (tI P i)=p.data:=by
 have e:dD P=(([72,78,75,49]++putU P.length)++dF P++dH (P.take i))++(p.data++dH (P.drop (i+1))):=by
  unfold dD;rw[bO1 h];simp only[Ab]
 rw[<-List.take_drop];conv=>lhs;rw[e]
 unfold tI;rw[Ba rfl];exact Bu rfl
structure qX (W:World) (b m:Nat) (f:Nat->Value):Prop where
 cell:∀j,j<m->W.cell? ⟨b,j,none⟩=some (f j)
 froz:∀j,W.frozen? ⟨b,j,none⟩=false
 lt:b<W.heap.size
theorem qX.grows {W W':World} {b m:Nat} {f:Nat->Value} (h:qX W b m f) (hg:aB W W'):qX W' b m f :=
 ⟨λj hj=>hg.cell (h.cell j hj),λj=>(hg.froz (p:=⟨b,j,none⟩) h.lt).trans (h.froz j),Af h.lt hg.size⟩
theorem qX.other {W:World} {b m:Nat} {f:Nat->Value} (h:qX W b m f) {b' j':Nat} (hb:b'≠b) (v:Value):qX (W.setCell ⟨b',j',none⟩ v) b m f :=
 ⟨λj hj=>by rw[Bc _ _ _ _ (λe=>hb (by simpa using congrArg Addr.block e))];exact h.cell j hj,λj=>(Bf _ _ _ _).trans (h.froz j),by simp;exact h.lt⟩
theorem qX.set {W:World} {b m:Nat} {f:Nat->Value} (h:qX W b m f) {k:Nat} (hk:k<m) (v:Value):qX (W.setCell ⟨b,k,none⟩ v) b m (λj=>if j=k then v else f j) :=
 ⟨λj hj=>by
  by_cases e:j=k
  ·subst e
   rw[if_pos rfl];exact World.cell?_setCell_same _ _ _ (h.cell j hj)
  ·rw[if_neg e,Bc _ _ _ _ (λe2=>e (by injection e2 with _ h2;exact h2.symm))]
   exact h.cell j hj,λj=>(Bf _ _ _ _).trans (h.froz j),by simp;exact h.lt⟩
theorem qX.congr {W:World} {b m:Nat} {f g:Nat->Value} (h:qX W b m f) (e:∀j,j<m->f j=g j):qX W b m g:=⟨λj hj=>by rw[<-e j hj]; exact h.cell j hj,h.froz,h.lt⟩
theorem fB1 {w W:World} {cs:Array Value} {t:TypeId} {m:Nat} (hg:aB (w.alloc (.cells cs t)) W) (hm:cs.size=m):qX W w.heap.size m (λj=>cs.getD j undef):=by
 obtain⟨h1,h2⟩:=cG hg;refine⟨λj hj=>h1 j _ ?_,h2,Af (by simp) hg.size⟩;rw[Array.getD_eq_getD_getElem?,Array.getElem?_eq_getElem (by omega)];rfl
end
section
open Go Go.RowKit Go.Shelf
attribute [local go_sem] aO aM
theorem fH1:∃i,Tryz.prog.info? 99=some i/\∃z,i.zero=some z/\i.size=2/\i.bytes=24/\z.cells.size=2:=by
 have h:(Tryz.prog.info? 99).map (λi=>(i.zero,i.size,i.bytes))=some (some (.agg #[.string ⟨#[]⟩,.int .i64 0]),2,24):=by kernel_rfl
 cases hi:Tryz.prog.info? 99 with
 | none=>rw[hi]at h;cases h
 | some i =>
  rw[hi]at h;simp only[Option.map_some,Option.some.injEq,Prod.mk.injEq]at h;exact⟨i,rfl,_,h.1,h.2.1,h.2.2,rfl⟩
theorem gI0:dZ Tryz.prog 22 99 2 24 cB where
 sl:=Tryz.underlying22
 info:=by obtain⟨i,h1,z,h2,h3,h4,h5⟩:=fH1;exact⟨i,z,h1,h2,h3,h4,h5⟩
 pos:=by decide
 by1:=by decide
 len:=λ_=>rfl
 one:=λx u hu=>by
  simp only[cB,Cd,List.not_mem_nil,or_false]at hu;rcases hu with rfl|rfl<;>rfl
def pposP (p:List cY) (i:Nat):Nat:=(putU p.length++(p.take i).flatMap fG).length
theorem uN0 (p:List cY):pposP p 0=(putU p.length).length:=by simp[pposP]
theorem cY0 {p:List cY} {i:Nat} {x:cY} (h:p[i]?=some x):pposP p (i+1)=pposP p i+(rP x.name).length+(putU x.kind.toNat).length:=by
 unfold pposP;have h2:(fG x).length=(rP x.name).length+(putU x.kind.toNat).length:=by rw[fG,Aa]
 rw[bJ h,lB0,<-Ab,Aa,h2];omega
theorem wM0 (p:List cY):pposP p p.length=(posE p).length:=by unfold pposP posE; rw[Ap]
theorem dG0 {p:List cY} {i:Nat} {x:cY} (h:p[i]?=some x):(posE p).drop (pposP p i)=rP x.name++(putU x.kind.toNat++(p.drop (i+1)).flatMap fG):=by
 have hi:=(List.getElem?_eq_some_iff.1 h).1
 have e:posE p=(putU p.length++(p.take i).flatMap fG)++(fG x++(p.drop (i+1)).flatMap fG):=by
  unfold posE;have h1:p.flatMap fG=(p.take i).flatMap fG++(p.drop i).flatMap fG:=by rw[<-Ag,Aj]
  rw[h1,Av hi,(List.getElem?_eq_some_iff.1 h).2,At,Ab]
 unfold pposP;rw[e,Ca,fG,Ab]
theorem oX0 {p:List cY} {i:Nat}:pposP p i<=(posE p).length:=by
 unfold pposP posE;have h1:p.flatMap fG=(p.take i).flatMap fG++(p.drop i).flatMap fG:=by rw[<-Ag,Aj]
 rw[h1,Aa,Aa,Aa];omega
theorem vC0 (p:List cY) (ba:Option Addr) (bc:Nat) (w:World) (hv:eH p=true) (gd:(posE p).length<=1099511627776) (fo:(posE p).length<=bc) (jw:ba=none->bc=0) (ac:aG w ba 1 ((posE p).map aV)) :
  Calls Tryz.prog 56 #[.slice ba (posE p).length bc] w λe w'=>∃v,e=.returned (.tuple #[v,.int .i64 0])/\aU w' w.heap.size 99 2 cB v p/\aB w w':=by
 obtain⟨acs,bg⟩:=fZ hv
 have C0:Hid (Calls Tryz.prog 120 #[.slice ba (posE p).length bc,.int .i64 0] w λe w'=>e=.returned (.tuple #[.int .u64 (p.length:Nat),.int .i64 (pposP p 0:Nat),.bool true])/\aB w w'):=by
  have h:=xU (posE p) 0 ba bc w (Au _) gd ac;rw[Bv,show rdU (posE p)=some (p.length,(putU p.length).length) from uB (by omega) _,fH0,Nat.zero_add,<-uN0]at h
  exact h
 have CT:∀(i:Nat) (x:cY) (u:World),p[i]?=some x->aB w u->Hid (Calls Tryz.prog 121 #[.slice ba (posE p).length bc,.int .i64 (pposP p i:Nat)] u λe w'=>e=.returned (.tuple #[.string x.name,.int .i64 (pposP p i+(rP x.name).length:Nat),.bool true])/\aB u w'):=λi x u hx hu=>by
  have h:=dD0 (posE p) (pposP p i) ba bc u oX0 gd fo jw (ac.grows hu);have hs:=(bg x (Ac hx)).1;rw[dG0 hx,zK0 (by omega),sA0]at h;exact h
 have CU:∀(i:Nat) (x:cY) (u:World),p[i]?=some x->aB w u->Hid (Calls Tryz.prog 120 #[.slice ba (posE p).length bc,.int .i64 (pposP p i+(rP x.name).length:Nat)] u λe w'=>e=.returned (.tuple #[.int .u64 (x.kind.toNat:Nat),.int .i64 (pposP p (i+1):Nat),.bool true])/\aB u w'):=λi x u hx hu=>by
  have hs:=(bg x (Ac hx)).2
  have gv:pposP p i+(rP x.name).length<=(posE p).length:=by
   have:=oX0 (p:=p) (i:=i+1)
   rw[cY0 hx]at this;omega
  have h:=xU (posE p) (pposP p i+(rP x.name).length) ba bc u gv gd (ac.grows hu);rw[<-Bz,dG0 hx,Ca,uB (by omega),fH0,<-cY0 hx]at h;exact h
 have HALL:=Ad bg;have HEND:=Ad (wM0 p);have HV:=Ad hv;obtain⟨N,hN⟩:=exq ((posE p).length);rw[<-hN]at C0 CT CU HEND ⊢;obtain⟨n,hn⟩:=exq p.length;have HNL:=Ad hn;rw[<-hn]at C0 acs;have zp:¬(64:Int)<n:=by omega
 clear ac bg hv gd fo jw hN hn;go_enter Tryz.func56,Tryz.ntmps56
 go_wp2_with fail
 refine C0.out.mono ?_;rintro e w1 ⟨rfl,ai⟩;clear C0;go_wp2_with fail
 go_loopw [5,7,27] (λvA v i wr=>∃k:Nat,k<=n/\i=.int .u64 k/\vA=.int .i64 (pposP p k:Nat)/\Hid (aU wr w.heap.size 99 2 cB v (p.take k))/\Hid (aB w wr)) (λ_ _ i _=>n-(intOf i).toNat)
 case atStart=>exact⟨0,Au _,rfl,rfl,aU.nil _ _ _ _ _,ai⟩
 case round =>
  clear ai;obtain⟨k,hk,rfl,rfl,aa,hg⟩:=hrel;by_cases af:k<n
  ·have cz:(k:Int)<n:=by omega
   obtain⟨⟨nm,kd⟩,hx⟩:∃x,p[k]?=some x:=⟨_,Ae (by have:=HNL.out;omega)⟩;have HX:=Ad hx;obtain⟨hs,l7,ig⟩:=HALL.out _ (Ac hx);simp only at hs l7 ig;obtain⟨K,rfl⟩:∃K:Nat,kd=(K:Int):=⟨kd.toNat,by omega⟩;have CT1:=CT k _ wr hx hg.out;simp only at CT1;clear hx;go_wp2_with fail
   refine CT1.out.mono ?_;rintro e w2 ⟨rfl,ae⟩;have CU1:=CU k _ w2 HX.out (hg.out.tr ae);simp only[Bn]at CU1;clear CT1;go_wp2_with fail
   refine CU1.out.mono ?_;rintro e w3 ⟨rfl,aw⟩;clear CU1;have ld:¬(2:Int)<K:=by omega
   have wK:IntKind.i64.wrap (K:Int)=K:=by simp[Al,Am,Ah];omega
   have nj:(p.take k).length=k:=by rw[Aw];have:=HNL.out;omega
   have av:=(aa.out.grows ae).grows aw;have kp:=(hg.out.tr ae).tr aw;have HT:=Ad (bJ HX.out);generalize p.take k=cd at av HT nj;go_wp2_with (at_builtin;refine eV gI0 rfl _ _ rfl w.heap.size _ cd ⟨nm,(K:Int)⟩ rfl av (aB.refl _) _ 1 rfl #[.string nm,.int .i64 K] rfl rfl (by omega) kp.size ?_;intro v5 w5 au _ _ bi)
   have HG5:=bi w kp (Ai _);rw[<-HT.out]at au;go_wp2_with fail
   go_roundw
   case rel=>exact⟨k+1,af,by go_num,rfl,au,HG5⟩
   case measure=>simp[intOf];omega
  ·obtain rfl:k=n:=by omega
   have ho:=aa.out;rw[Ar (by have:=HNL.out;omega)]at ho;obtain⟨a,c,rfl,_,_,o5⟩:=ho.at_ gI0.len;have CC:=Ad (aM0 p a c wr o5 (by have:=HNL.out;omega));rw[HV.out]at CC;have HO:=Ad ho;have e1:pposP p k=N:=by rw[HNL.out];exact HEND.out
   rw[e1];clear ho o5 aa e1;go_wp2_with fail
   refine CC.out.mono ?_;rintro e w6 ⟨rfl,dw⟩;go_wp2
   go_ret2;exact⟨_,rfl,HO.out.grows dw,hg.out.tr dw⟩
theorem kA1:∀args w,(callFunc 183 args).run Tryz.prog w=.ok (.enter 183 args) w:=enters_of Tryz.func183 (by kernel_rfl) rfl
theorem qR0 (b:List UInt8) (ba:Option Addr) (bc k v n pb pa po ar:Nat) (w:World) (hk:k<=b.length) (hb:b.length<=1099511627776) (ac:aG w ba 1 (b.map aV)) (hR:rdU (b.drop k)=some (v,n)) (hv:v<=ar) (hm:ar<=1099511627776)
  (cb:w.cell? ⟨pb,0,none⟩=some (.slice ba b.length bc)) (ca:w.cell? ⟨pa,0,none⟩=some (.int .i64 k)) (co:w.cell? ⟨po,0,none⟩=some (.bool true)) (fa:w.frozen? ⟨pa,0,none⟩=false) :
  Calls Tryz.prog 183 #[.int .i64 ar,.pointer (some ⟨pb,0,none⟩),.pointer (some ⟨pa,0,none⟩),.pointer (some ⟨po,0,none⟩)] w λe w'=>e=.returned (.int .i64 v)/\∃w1,aB w w1/\w'=w1.setCell ⟨pa,0,none⟩ (.int .i64 ((k+n:Nat):Int)):=by
 have CU:=Ad (xU b k ba bc w hk hb ac);rw[hR]at CU;unfold fH0 at CU;have jx:=World.block_lt_of_cell? w _ ca;obtain⟨K,hK⟩:=exq (k+n);simp only[<-hK]at CU ⊢;clear hR ac hK;have wm:IntKind.u64.wrap (ar:Int)=ar:=by simp[Al,Am,Ah];omega
 have wv:IntKind.i64.wrap (v:Int)=v:=by simp[Al,Am,Ah];omega
 have hvm:¬(ar:Int)<v:=by omega
 go_enter Tryz.func183,Tryz.ntmps183
 go_wp2_with fail
 refine CU.out.mono ?_;rintro e w1 ⟨rfl,ai⟩;have ca1:=ai.cell ca;have co1:=ai.cell co;have fa1:=(ai.froz (p:=⟨pa,0,none⟩) jx).trans fa;go_wp2_with fail
 go_ret;exact⟨rfl,w1,ai,rfl⟩
theorem dH0 (l:List UInt8) (a:Option Addr) (c:Nat) (w:World) (hl:l.length<=1099511627776) (hn:a=none->c=0) (ac:aG w a 1 (l.map aV)) :
  Calls Tryz.prog 184 #[.slice a l.length c] w λe w'=>∃v,e=.returned v/\aU w' w.heap.size 5 1 aV v l/\aB w w':=by
 cases a with
 | none =>
  have qv:l=[]:=Decidable.byContradiction λh=>by
   obtain⟨_,_,e,_⟩:=ac (by simpa using h);cases e
  subst qv;obtain rfl:=hn rfl;have aci:∀W:World,(binOp .eql 67 (.slice none 0 0) (.slice none 0 0)).run Tryz.prog W=.ok (.bool true) W:=λW=>by rfl
  go_enter Tryz.func184,Tryz.ntmps184
  go_wp2_with fail
  go_ret;exact⟨_,rfl,aU.nil _ _ _ _ _,aB.refl _⟩
 | some q =>
  have HSRC:=Ad (ac.grows (aB.alloc w (.cells #[] 5)));clear ac hn;have aci:∀W:World,(binOp .eql 67 (.slice (some q) l.length c) (.slice none 0 0)).run Tryz.prog W=.ok (.bool false) W:=λW=>by rfl
  go_enter Tryz.func184,Tryz.ntmps184
  go_wp2_with (at_builtin;refine tC bI rfl _ _ rfl w.heap.size _ [] l rfl (qE0 w.heap.size (Ai _)) (aB.refl _) (some q) c rfl HSRC.out (λh=>by cases h) (by simp;omega) (by simp) ?_;intro v' w3 av aw)
  rw[Bd]at av;have hgx:=aw w (aB.alloc _ _) (Ai _);go_wp2_with fail
  go_ret;exact⟨_,rfl,av,hgx⟩
theorem mS (l m:List UInt8) (a b:Option Addr) (c d:Nat) (w:World) (h1:aG w a 1 (l.map aV)) (h2:aG w b 1 (m.map aV)) :
  Calls Tryz.prog 117 #[.slice a l.length c,.slice b m.length d] w λe w'=>e=.returned (.bool (decide (l=m)))/\w=w':=by
 have v1:(convert 67 9 (.slice a l.length c)).run Tryz.prog w=.ok (.string (mkB l)) w:=rW h1;have v2:(convert 67 9 (.slice b m.length d)).run Tryz.prog w=.ok (.string (mkB m)) w:=rW h2;by_cases h:l=m
 ·have e1:((mkB l).toList==(mkB m).toList)=true:=by rw[h];simp
  have HH:=Ad h;clear h;go_enter Tryz.func117,Tryz.ntmps117
  go_wp2_with fail
  go_ret;exact⟨by simp[HH.out],rfl⟩
 ·have e1:((mkB l).toList==(mkB m).toList)=false:=by
   rw[beq_eq_false_iff_ne];intro he;exact h (by have:=congrArg (·.data.toList) (iV he);simpa [iR] using this)
  have HH:=Ad h;clear h;go_enter Tryz.func117,Tryz.ntmps117
  go_wp2_with fail
  go_ret;exact⟨by simp[HH.out],rfl⟩
end
section
open Go Go.RowKit
attribute [local go_sem] aO aM
def oP (l:List Nat) (W k q:Nat):List Nat:=(Ci q).map λQ=>fE (λp=>decide (p<8*k)&&bitAt l W p) (64*Q) 64
theorem mG (l:List Nat) (W k q:Nat):(oP l W k q).length=q:=by simp[oP]
theorem qO {l:List Nat} {W k q Q:Nat} (h:Q<q):(oP l W k q)[Q]?=some (fE (λp=>decide (p<8*k)&&bitAt l W p) (64*Q) 64):=by
 unfold oP;rw[Bo,List.getElem?_range h];rfl
theorem sX0 (f:Nat->Bool) (b k:Nat) (h:∀t,t<k->f (b+t)=false):fE f b k=0:=by
 symm
 exact iJ (Nat.two_pow_pos _) λt ht=>by rw[h t ht];simp
theorem mJ0 (l:List Nat) (W q:Nat):oP l W 0 q=List.replicate q 0:=by
 apply Bq
 intro i;by_cases h:i<q
 ·rw[qO h,List.getElem?_replicate_of_lt h,sX0 _ _ _ (λt _=>by simp)]
 ·rw[As (by rw[mG];omega),As (by simp;omega)]
theorem uX0 {l:List Nat} {W p:Nat} (hl:∀x∈l,x<2^W) (h:l.length*W<=p):bitAt l W p=false:=by
 by_cases hW:W=0
 ·subst hW
  unfold bitAt
  have:l.getD (p/0) 0=0:=by
   rw[List.getD_eq_getElem?_getD]
   cases hx:l[p/0]? with
   | none=>rfl
   | some x=>have:=hl x (Ac hx);simp at this;simp[this]
  rw[this];simp
 ·exact yR (by omega) h
theorem tC0 {l:List Nat} {W k q:Nat} (hl:∀x∈l,x<2^W) (h:l.length*W<=8*k):oP l W k q=eD l W q:=by
 unfold oP eD gQ;apply List.map_congr_left
 intro Q _;apply kQ
 intro t _;by_cases hp:64*Q+t<8*k
 ·simp[hp]
 ·rw[uX0 hl (by omega)];simp
theorem tS0 {l:List Nat} {W k t:Nat} (ht:t<64) :
  (fE (λp=>decide (p<8*k)&&bitAt l W p) (64*(k/8)) 64|||(fE (bitAt l W) (8*k) 8<<<(k%8*8))%18446744073709551616).testBit t=(decide (64*(k/8)+t<8*(k+1))&&bitAt l W (64*(k/8)+t)):=by
 rw[Nat.testBit_or,dE,eA0 ht,dE];generalize hB:bitAt l W=B;by_cases h1:t<k%8*8
 ·have e1:64*(k/8)+t<8*k:=by omega
  have e2:¬k%8*8<=t:=by omega
  have e3:64*(k/8)+t<8*(k+1):=by omega
  rw[decide_eq_true ht,decide_eq_true e1,decide_eq_false e2,decide_eq_true e3,Bb,Cc,Ax,Ax]
 ·have e1:¬64*(k/8)+t<8*k:=by omega
  have e2:k%8*8<=t:=by omega
  rw[decide_eq_true ht,decide_eq_false e1,decide_eq_true e2,Bb,Bool.and_false,Bool.false_or,Ax];by_cases h2:t<k%8*8+8
  ·have e3:t-k%8*8<8:=by omega
   have e4:64*(k/8)+t<8*(k+1):=by omega
   have e5:8*k+(t-k%8*8)=64*(k/8)+t:=by omega
   rw[decide_eq_true e3,decide_eq_true e4,e5]
  ·have e3:¬t-k%8*8<8:=by omega
   have e4:¬64*(k/8)+t<8*(k+1):=by omega
   rw[decide_eq_false e3,decide_eq_false e4,Bb,Bb]
theorem nF0 {l:List Nat} {W k q:Nat} (hq:k/8<q) :
  oP l W (k+1) q=(oP l W k q).set (k/8) (fE (λp=>decide (p<8*k)&&bitAt l W p) (64*(k/8)) 64|||(fE (bitAt l W) (8*k) 8<<<(k%8*8))%18446744073709551616):=by
 apply Bq
 intro i;by_cases hi:i<q
 ·rw[qO hi]
  by_cases he:k/8=i
  ·rw[<-he,List.getElem?_set_self (by rw[mG];exact hq)]
   refine congrArg some ?_;symm
   exact iJ (Br (n:=64) (jU _ _ 64) (Nat.mod_lt _ (by decide))) λt ht=>tS0 ht
  ·rw[List.getElem?_set_ne he,qO hi]
   refine congrArg some ?_;apply kQ
   intro t ht;generalize bitAt l W=B;by_cases h1:64*i+t<8*k
   ·have h2:64*i+t<8*(k+1):=by omega
    rw[decide_eq_true h1,decide_eq_true h2]
   ·have h2:¬64*i+t<8*(k+1):=by omega
    rw[decide_eq_false h1,decide_eq_false h2]
 ·rw[As (by rw[mG];omega),As (by rw[List.length_set,mG];omega)]
theorem uN (a b:Nat) (ha:a<4611686018427387904) (hb:b<4611686018427387904):bits .or .i64 (a:Int) (b:Int)=((a|||b:Nat):Int):=by
 have hx:a|||b<2^62:=Br (by omega) (by omega)
 show IntKind.i64.wrap ((BitVec.ofInt 64 (a:Int)|||BitVec.ofInt 64 (b:Int)).toNat:Int)=_
 rw[BitVec.toNat_or,ofInt_u64 a (by omega),ofInt_u64 b (by omega)];generalize a|||b=x at hx
 simp[Al,Am,Ah];omega
theorem mY0 {a c k:Nat} (h:a<2^k):a|||(c*2^k)=a+c*2^k:=by
 rw[Nat.or_comm,Nat.mul_comm,<-Nat.two_pow_add_eq_or_of_lt h,Nat.add_comm]
theorem lM1 {b0 b1 b2 b3:Nat} (h0:b0<256) (h1:b1<256) (h2:b2<256) (h3:b3<256) :
  bits .or .i64 (b0:Int) ((b1*256:Nat):Int)=((b0+b1*256:Nat):Int)/\bits .or .i64 ((b0+b1*256:Nat):Int) ((b2*65536:Nat):Int)=((b0+b1*256+b2*65536:Nat):Int) /\
  bits .or .i64 ((b0+b1*256+b2*65536:Nat):Int) ((b3*16777216:Nat):Int)=((b0+b1*256+b2*65536+b3*16777216:Nat):Int):=by
 refine⟨?_,?_,?_⟩
 ·rw[uN _ _ (by omega) (by omega),show b1*256=b1*2^8 from rfl,mY0 (by omega)]
 ·rw[uN _ _ (by omega) (by omega),show b2*65536=b2*2^16 from rfl,mY0 (by omega)]
 ·rw[uN _ _ (by omega) (by omega),show b3*16777216=b3*2^24 from rfl,mY0 (by omega)]
theorem gY {x:Nat} (h:x<4611686018427387904):IntKind.i64.wrap (x:Int)=x:=by simp[Al,Am,Ah]; omega
theorem vY0 {b0 b1 b2 b3 n:Nat} (h0:b0<256) (h1:b1<256) (h2:b2<256) (h3:b3<256) (hn:n=b0+b1*256+b2*65536+b3*16777216) :
  ∃c1 c2 c3 s1 s2:Nat,IntKind.i64.wrap ((b1:Int)*256)=(c1:Int)/\IntKind.i64.wrap ((b2:Int)*65536)=(c2:Int)/\IntKind.i64.wrap ((b3:Int)*16777216)=(c3:Int) /\
   bits .or .i64 (b0:Int) (c1:Int)=(s1:Int)/\bits .or .i64 (s1:Int) (c2:Int)=(s2:Int)/\bits .or .i64 (s2:Int) (c3:Int)=(n:Int):=by
 obtain⟨o1,o2,o3⟩:=lM1 h0 h1 h2 h3;refine⟨b1*256,b2*65536,b3*16777216,b0+b1*256,b0+b1*256+b2*65536,?_,?_,?_,o1,o2,?_⟩
 ·have:=gY (x:=b1*256) (by omega)
  rwa [Be]at this
 ·have:=gY (x:=b2*65536) (by omega)
  rwa [Be]at this
 ·have:=gY (x:=b3*16777216) (by omega)
  rwa [Be]at this
 ·rw[o3,hn]
theorem tX0 (l:List Nat):∃b0 b1 b2 b3:Nat,packE l=[Ak b0,Ak b1,Ak b2,Ak b3,Ak (nZ l)]++bY0 l/\b0<256/\b1<256/\b2<256/\b3<256/\(l.length<4294967296->l.length=b0+b1*256+b2*65536+b3*16777216):=by
 refine⟨l.length%256,l.length/256%256,l.length/65536%256,l.length/16777216%256,?_,by omega,by omega,by omega,by omega,λh=>by omega⟩;unfold packE leB;simp[Ci,List.range.loop,yN]
end
section
open Go Go.RowKit
abbrev Wd:=ByteArray×ByteArray
def jG1 (es:List En) (pf:ByteArray) (y:Wd):Prop:=pf≠⟨#[]⟩/\∃x∈jQ es pf 200,(x.r,x.s)=y
def jN0 (es:List En) (cs:List Cnt) (pf pv k:ByteArray) (y:Wd):Prop:=pS cs k≠0/\((kU k 1 y.1 y.2/\(pf≠⟨#[]⟩\/0<bonK cs 2 pv y.2))\/(kU k 2 pv y.2/\∃x∈ofL es y.2,(x.r,x.s)=y))
def nZ0 (cs:List Cnt) (left:Lit->Bool) (k:ByteArray):Prop:=(∃c∈cs,c.k=k)/\left (.string k.data.toList)=false
def aI0 (es:List En) (cs:List Cnt) (pf pv:ByteArray) (za:ByteArray->Prop) (V:List Wd):Prop:=∀y,y∈V↔qR y.1 pf=true/\(jG1 es pf y\/∃k,za k/\jN0 es cs pf pv k y)
theorem rY0 {H:Type} {cs:List Cnt} {D:DataW H} (h:yM0 cs D) (hz:∀c∈cs,c.k.size<=maxLen) (k:ByteArray):¬nZ0 cs (Maps.has D) k:=λ⟨⟨c,hc,e⟩,h2⟩=>by
 have hk:k.size<=maxLen:=e▸hz c hc;rw[(h.has k hk).2 ⟨c,hc,e⟩]at h2;cases h2
theorem cF1 {cs:List Cnt} {left:Lit->Bool} {k:ByteArray} (hk:∃c∈cs,c.k=k) (k':ByteArray):nZ0 cs (λz=>left z && !z.sameKey (.string k.data.toList)) k'↔nZ0 cs left k'\/k'=k:=by
 unfold nZ0;by_cases e:k'=k
 ·subst e
  simp[hk,Lit.sameKey]
 ·have:(Lit.string k'.data.toList).sameKey (.string k.data.toList)=false:=Maps.sameKey_ne (yW e)
  simp[this,e]
theorem aI0.start {es:List En} {cs:List Cnt} {pf pv:ByteArray} {za:ByteArray->Prop} {V:List Wd} (h:∀y,y∈V↔qR y.1 pf=true/\jG1 es pf y) (hv:∀k, ¬za k):aI0 es cs pf pv za V:=λy=>by
 rw[h];exact and_congr_right λ_=>⟨Or.inl,λh=>h.elim id λ⟨k,h1,_⟩=>absurd h1 (hv k)⟩
theorem aI0.step {es:List En} {cs:List Cnt} {pf pv k:ByteArray} {za vt:ByteArray->Prop} {V V':List Wd} (h:aI0 es cs pf pv za V) (hv:∀k',vt k'↔za k'\/k'=k) (hV:∀y,y∈V'↔y∈V\/(qR y.1 pf=true/\jN0 es cs pf pv k y)):aI0 es cs pf pv vt V':=λy=>by
 rw[hV,h y];constructor
 ·rintro(⟨h1,h2|⟨k',h2,h3⟩⟩|⟨h1,h2⟩)
  ·exact⟨h1,Or.inl h2⟩
  ·exact⟨h1,Or.inr ⟨k',(hv k').2 (Or.inl h2),h3⟩⟩
  ·exact⟨h1,Or.inr ⟨k,(hv k).2 (Or.inr rfl),h2⟩⟩
 ·rintro⟨h1,h2|⟨k',h2,h3⟩⟩
  ·exact Or.inl ⟨h1,Or.inl h2⟩
  ·rcases (hv k').1 h2 with h2|rfl
   ·exact Or.inl ⟨h1,Or.inr ⟨k',h2,h3⟩⟩
   ·exact Or.inr ⟨h1,h3⟩
theorem aI0.same {es:List En} {cs:List Cnt} {pf pv k:ByteArray} {za vt:ByteArray->Prop} {V:List Wd} (h:aI0 es cs pf pv za V) (hv:∀k',vt k'↔za k'\/k'=k) (n9:∀y, ¬jN0 es cs pf pv k y):aI0 es cs pf pv vt V:=h.step hv λy=>⟨Or.inl,λh=>h.elim id λh2=>absurd h2.2 (n9 y)⟩
section
variable {es:List En} {cs:List Cnt} {pf pv k:ByteArray}
theorem wT0 (h:pS cs k=0) (y:Wd):¬jN0 es cs pf pv k y:=λhs=>hs.1 h
theorem yY0 (h:(dR k).1≠1) (h2:¬((dR k).1=2/\(dR k).2.1=pv)) (y:Wd):¬jN0 es cs pf pv k y:=λ⟨_,h3⟩=>by
 rcases h3 with ⟨h3,_⟩|⟨h3,_⟩
 ·rw[mF h3]at h
  exact h rfl
 ·rw[mF h3]at h2
  exact h2 ⟨rfl,rfl⟩
theorem lD0 {a b:ByteArray} (h0:pS cs k≠0) (hp:dR k=(1,a,b)) (hc:pf≠⟨#[]⟩\/0<bonK cs 2 pv b) (y:Wd):jN0 es cs pf pv k y↔y=(a,b):=by
 have hk:kU k 1 a b:=mL.2 ⟨hp,by decide⟩;constructor
 ·rintro⟨_,⟨h3,_⟩|⟨h3,_⟩⟩
  ·obtain⟨_,e1,e2⟩:=h3.inj hk
   exact By e1 e2
  ·have:=(h3.inj hk).1
   omega
 ·rintro rfl
  exact⟨h0,Or.inl ⟨hk,hc⟩⟩
theorem mH0 {a b:ByteArray} (hp:dR k=(1,a,b)) (hc:¬(pf≠⟨#[]⟩\/0<bonK cs 2 pv b)) (y:Wd):¬jN0 es cs pf pv k y:=by
 have hk:kU k 1 a b:=mL.2 ⟨hp,by decide⟩;rintro⟨_,⟨h3,h4⟩|⟨h3,_⟩⟩
 ·obtain⟨_,_,e2⟩:=h3.inj hk
  rw[e2]at h4;exact hc h4
 ·have:=(h3.inj hk).1
  omega
theorem bV1 {b:ByteArray} (h0:pS cs k≠0) (hp:dR k=(2,pv,b)) (y:Wd):jN0 es cs pf pv k y↔∃x∈ofL es b,(x.r,x.s)=y:=by
 have hk:kU k 2 pv b:=mL.2 ⟨hp,by decide⟩;constructor
 ·rintro⟨_,⟨h3,_⟩|⟨h3,x,hx,e⟩⟩
  ·have:=(h3.inj hk).1
   omega
  ·obtain⟨_,_,e2⟩:=h3.inj hk
   exact⟨x,e2▸hx,e⟩
 ·rintro⟨x,hx,rfl⟩
  have e:x.s=b:=by simpa using (List.mem_filter.1 hx).2
  exact⟨h0,Or.inr ⟨by rw[e];exact hk,x,by rw[e];exact hx,rfl⟩⟩
end
theorem aI0.done {es:List En} {cs:List Cnt} {pf pv:ByteArray} {left:Lit->Bool} {V:List Wd} (h:aI0 es cs pf pv (nZ0 cs left) V) (h0:∀z,left z=false) (r s:ByteArray):(r,s)∈V↔uK es cs pf pv r s:=by
 refine kD1.pred (V:=λr s=>(r,s)∈V) ⟨λr s=>?_⟩ r s;rw[h (r,s)];refine and_congr_right λ_=>or_congr ?_ ?_
 ·unfold jG1
  simp
 ·constructor
  ·rintro⟨k,⟨⟨c,hc,rfl⟩,_⟩,h1,h2⟩
   refine⟨c,hc,h1,?_⟩;simpa using h2
  ·rintro⟨c,hc,h1,h2⟩
   refine⟨c.k,⟨⟨c,hc,rfl⟩,h0 _⟩,h1,?_⟩;simpa using h2
def toG (es:List En) (cs:List Cnt) (pv:ByteArray) (y:Wd):Gs:=⟨y.1,y.2,gsS es cs pv y.1 y.2⟩
theorem iT1 {es:List En} {cs:List Cnt} {pf pv:ByteArray} {V ys:List Wd} (hV:∀r s,(r,s)∈V↔uK es cs pf pv r s) (hp:ys.Perm V) (x:Gs):x∈ys.map (toG es cs pv)↔uK es cs pf pv x.r x.s/\x.c=gsS es cs pv x.r x.s:=by
 rw[List.mem_map];constructor
 ·rintro⟨y,hy,rfl⟩
  exact⟨(hV _ _).1 (hp.mem_iff.1 hy),rfl⟩
 ·rintro⟨h1,h2⟩
  refine⟨(x.r,x.s),hp.mem_iff.2 ((hV _ _).2 h1),?_⟩;obtain⟨r,s,c⟩:=x;simp only at h2;rw[h2];rfl
theorem wE0 {es:List En} {cs:List Cnt} {pv:ByteArray} {ys:List Wd} (h:ys.Nodup):(ys.map (toG es cs pv)).Nodup :=
 List.pairwise_map.2 (List.Pairwise.imp (λ{a b} eo e=>eo (by
  unfold toG at e;simp only[Gs.mk.injEq]at e;exact By e.1 e.2.1)) h)
end
end Go.Proofs.YtjhajgffmnkocaaGreatDoor
