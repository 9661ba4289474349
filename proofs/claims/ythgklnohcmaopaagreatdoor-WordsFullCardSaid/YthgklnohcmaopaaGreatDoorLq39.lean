/- The texts RefV W14P W15 PosE W14 CrcW SecW SecJ RefX Bid SecP PosD SecC PkDP, one behind the other. -/
import Derived.Test.YthgklnohcmaopaaGreatDoorLq3
import Derived.Test.YthgklnohcmaopaaGreatDoorLq9
import Derived.Test.YthgklnohcmaopaaGreatDoorLq38
import Derived.Test.YthgklnohcmaopaaGreatDoorLq21
import Derived.Test.YthgklnohcmaopaaGreatDoorLq4
import Derived.Test.YthgklnohcmaopaaGreatDoorLq20
import Derived.Test.YthgklnohcmaopaaGreatDoorLq8
import Derived.Test.YthgklnohcmaopaaGreatDoorLq11
import Derived.Maps.Own
import Derived.Carry
import Derived.Lib.SlBytesConst
import Derived.Test.YthgklnohcmaopaaGreatDoorLq12
import Derived.Test.YthgklnohcmaopaaGreatDoorLq22
import Derived.Test.YthgklnohcmaopaaGreatDoorLq24
import Derived.Test.YthgklnohcmaopaaGreatDoorLq25
import Derived.Test.YthgklnohcmaopaaGreatDoorLq23
open List renaming length_append → Aa,append_assoc → Ab,mem_of_getElem? → Ad,flatMap_append → Af,take_append_drop → Ah,getElem?_eq_getElem → Ai,eq_nil_of_length_eq_zero → Ao,take_of_length_le → Ap,getElem?_eq_none → Aq,flatMap_cons → Ar,drop_eq_getElem_cons → At,length_cons → Au,length_take → Av,take_length → Aw,nil_append → Az,drop_left' → Ba,map_cons → Be,getElem?_map → Bk,take_add_one → Bn,ext_getElem? → Bo,any_append → Bq,drop_zero → Br,drop_drop → Bs,drop_left → Bt,any_map → Bw,range → Ca
open Go.Lib renaming hid → Ac,decodeL_ascii → Bh,decodeL_N → Bu,decodeL → Bz
open Nat renaming lt_of_lt_of_le → Ae,le_refl → Am,zero_le → As,xor_lt_two_pow → Bg,succ_mul → Bi,or_lt_two_pow → Bp,le_of_eq → By
open Go.IntKind renaming signed → Ag,wrap → Ak,bits → Al
open UInt8 renaming ofNat → Aj,toNat_lt → Bd
open Bool renaming and_eq_true → An,false_and → Ax,true_and → Bf,or_false → Bv
open Go.World renaming cell?_setCell_other → Ay,frozen?_setCell → Bc
open Int renaming natCast_mul → Bb,toNat_natCast → Bj
set_option maxHeartbeats 8000000
namespace Go.Proofs.YthgklnohcmaopaaGreatDoor
set_option maxRecDepth 100000
section
open Go Go.RowKit
attribute [local go_sem] aO
theorem vB:∀(n:Nat) (l:List UInt8),l.length<=n->(∃b∈l,128<=b.toNat)->∃c∈bD l,128<=c
 | 0,l,hl,⟨b,hb,_⟩=>by
  have:l=[]:=Ao (by omega)
  subst this;cases hb
 | n+1,l,hl,⟨b,hb,hge⟩=>by
  cases l with
  | nil=>cases hb
  | cons x r =>
   rw[jD _ (by simp)];by_cases hx:x.toNat<128
   ·rw[Bh x r hx]
    rcases List.mem_cons.1 hb with rfl|hb
    ·omega
    ·obtain⟨c,hc,hcg⟩:=vB n r (by simp at hl;omega) ⟨b,hb,hge⟩
     exact⟨c,List.mem_cons_of_mem _ hc,hcg⟩
   ·refine⟨_,List.mem_cons_self,?_⟩
    by_cases gu:(Bz (x::r)).1=65533/\(Bz (x::r)).2=1
    ·rw[gu.1];decide
    ·have hs:=fJ0 (x::r).length ((x::r).getD 0 0).toNat ((x::r).getD 1 0).toNat ((x::r).getD 2 0).toNat ((x::r).getD 3 0).toNat (Bd _) (Bd _) (Bd _) (by rw[<-Bu];exact gu)
     rw[<-Bu]at hs;rcases hs with ⟨h,_⟩|⟨_,_,_,_,_,_,h⟩
     ·exact absurd h (by simpa using hx)
     ·exact h
theorem rN:∀(n:Nat) (l:List UInt8),l.length<=n->(∀b∈l,b.toNat<128)->bD l=l.map (·.toNat)
 | 0,l,hl,_=>by
  have:l=[]:=Ao (by omega)
  subst this;rfl
 | n+1,l,hl,h=>by
  cases l with
  | nil=>rfl
  | cons x r =>
   rw[jD _ (by simp),Bh x r (h x (by simp)),Be];simp only[List.drop_succ_cons,Br];rw[rN n r (by simp at hl;omega) (λb hb=>h b (by simp[hb]))]
theorem tO {c:Nat} (h:128<=c):nameBad c=true:=by unfold nameBad; simp; omega
theorem vY0 (l:List UInt8):(bD l).any nameBad=l.any λb=>nameBad b.toNat:=by
 by_cases h:∃b∈l,128<=b.toNat
 ·obtain⟨c,hc,hg⟩:=vB _ l (Am _) h
  obtain⟨b,hb,hbg⟩:=h;rw[List.any_eq_true.2 ⟨c,hc,tO hg⟩,List.any_eq_true.2 ⟨b,hb,tO hbg⟩]
 ·rw[rN _ l (Am _) (λb hb=>by
   rcases Nat.lt_or_ge b.toNat 128 with h1|h1
   ·exact h1
   ·exact absurd ⟨b,hb,h1⟩ h),Bw]
  rfl
theorem lW0 (s:ByteArray):xN s=(decide (1<=s.size)&&decide (s.size<=16) && !(s.data.toList.any λb=>nameBad b.toNat)):=by
 rw[hT1,vY0];congr 2
 rw[Lib.toList_data,Lib.size_eq];cases s.data.toList<;>simp
end
section
open Go Go.RowKit
def mX0 (c:Nat):Bool:=decide (c<97)||decide (122<c)
def azS (s:ByteArray):Bool:=decide (1<=s.size)&&decide (s.size<=16) && !(s.data.toList.any λb=>mX0 b.toNat)
theorem xK0 {p:Nat->Bool} (hp:∀c,128<=c->p c=true) (l:List UInt8):(bD l).any p=l.any λb=>p b.toNat:=by
 by_cases h:∃b∈l,128<=b.toNat
 ·obtain⟨c,hc,hg⟩:=vB _ l (Am _) h
  grind
 ·rw[rN _ l (Am _) (by simp_all),Bw]
  rfl
theorem oF0 {c:Nat} (h:128<=c):mX0 c=true:=by grind [mX0]
structure bE where
 name:ByteArray
 data:List UInt8
 a:Option Addr
 c:Nat
def kZ (p:bE):List Value:=[.string p.name,.slice p.a p.data.length p.c]
structure jG (w:World) (l:List bE):Prop where
 at_:∀p∈l,aG w p.a 1 (p.data.map aY)
 none_:∀p∈l,p.a=none->p.c=0
 name:∀p∈l,p.name.size<=1099511627776
 data:∀p∈l,p.data.length<=1099511627776
theorem jG.grows {w w':World} {l:List bE} (h:jG w l) (hg:aB w w'):jG w' l:=⟨λp hp=>(h.at_ p hp).grows hg,h.none_,h.name,h.data⟩
def kQ (l:List bE):Nat:=(l.map λp=>p.data.length).sum
theorem vG0 (l:List bE) (p:bE):kQ (l++[p])=kQ l+p.data.length:=by simp[kQ]
theorem hU1 {l:List bE} {n:Nat} (h:∀p∈l,p.data.length<=n):kQ l<=l.length*n:=by
 unfold kQ
 induction l with
 | nil=>simp
 | cons p l ih =>
  rw[Be,List.sum_cons,Au,Bi];grind
def yA:List bE->List ByteArray->Bool
 | [],_=>false
 | p::l,seen=>(seen.any λs=>seq s p.name)||yA l (seen++[p.name])
def wM0 (l:List bE):Bool:=yA l []
def fO (l:List bE):Nat:=if 64<l.length\/16777216<kQ l then 2 else if (l.any λp => !azS p.name)=true then 1 else if wM0 l=true then 4 else 0
def dN (l:List bE):List UInt8:=l.flatMap λp=>sC p.name++putU p.data.length
def dQ (l:List bE):List UInt8:=l.flatMap λp=>p.data
def dM (l:List bE):List UInt8:=([72,78,75,49]++putU l.length)++dN l++dQ l
def file14 (l:List bE):List UInt8:=dM l++leB 4 (crcSum (dM l))
def gZ0 (l:List bE) (w:World) (e:Ending) (w':World):Prop :=
 (fO l=0->∃v,e=.returned (.tuple #[v,.int .i64 0])/\aX w' w.heap.size 5 1 aY v (file14 l))/\(fO l≠0->e=.returned (.tuple #[.slice none 0 0,.int .i64 (fO l)]))/\aB w w'
theorem dH0 (l:List bE):(dQ l).length=kQ l:=by simp[dQ,kQ,List.length_flatMap]
theorem nU0 (l:List bE) (p:bE):dN (l++[p])=dN l++(sC p.name++putU p.data.length):=by simp[dN]
theorem pA0 (l:List bE) (p:bE):dQ (l++[p])=dQ l++p.data:=by simp[dQ]
theorem aB1 {l:List bE} (h:(l.any λp => !azS p.name)=false):∀p∈l,p.name.size<=16:=λp hp=>by
 have:=List.any_eq_false.1 h p hp
 simp only[azS,Bool.not_eq_true',Bool.not_eq_false,An,decide_eq_true_eq]at this;simp at this;omega
theorem eS0 {l:List bE} (h:∀p∈l,p.name.size<=16):(dN l).length<=l.length*36:=by
 unfold dN
 induction l with
 | nil=>simp
 | cons p l ih =>
  rw[Ar,Aa,Aa,Au,Bi];have h1:=ih (λq hq=>h q (by simp[hq]));have h2:=h p (by simp);have h3:=tC p.name;have h4:=cY p.data.length;omega
theorem rU0 {l:List bE} (h:fO l=0):l.length<=64/\kQ l<=16777216/\(l.any λp => !azS p.name)=false/\wM0 l=false:=by
 unfold fO at h;grind
theorem wE0 {l:List bE} (h:fO l=0):(dM l).length<=16800000:=by
 grind [rU0,eS0,aB1,dH0,cY,dM]
end
section
open Go Go.RowKit
attribute [local go_sem] aO aM
def fV (p:dE):List UInt8:=sC p.name++putU p.kind.toNat
def posE (l:List dE):List UInt8:=putU l.length++l.flatMap fV
theorem kB0 (l:List dE) (p:dE):(l++[p]).flatMap fV=l.flatMap fV++fV p:=by simp
theorem tN0 {p:dE} (h:p.name.size<=16):(fV p).length<=40:=by
 have h1:=tC p.name;have h2:=cY p.kind.toNat;unfold fV;rw[Aa];omega
theorem zW {l:List dE} (h:∀p∈l,p.name.size<=16):(l.flatMap fV).length<=l.length*40:=by
 induction l with
 | nil=>simp
 | cons p l ih =>
  rw[Ar,Aa,Au,Bi];have h1:=ih (λq hq=>h q (by simp[hq]));have h2:=tN0 (h p (by simp));omega
theorem oA0 {s:ByteArray} (h:xN s=true):s.size<=16:=by
 rw[lW0]at h;simp only[An,decide_eq_true_eq]at h;exact h.1.2
theorem dX0 (L:List dE):∀(l:List dE) (i j:Nat) (p:dE),kU L l i=true->l[j]?=some p->aJ0 L (i+j) p=true
 | [],_,_,_,_,h=>by simp at h
 | q::l,i,0,p,h,hp=>by
  rw[kU]at h;simp only[An]at h;obtain rfl:q=p:=by simpa using hp
  exact h.1
 | q::l,i,j+1,p,h,hp=>by
  rw[kU]at h;simp only[An]at h
  have:=dX0 L l (i+1) j p h.2 (by simpa using hp)
  rw[show i+(j+1)=i+1+j by omega];exact this
theorem fA {l:List dE} (h:eO l=true):l.length<=64/\∀p∈l,p.name.size<=16/\0<=p.kind/\p.kind<=2:=by
 unfold eO at h
 cases l with
 | nil=>cases h
 | cons q r =>
  simp only[An,decide_eq_true_eq]at h;refine⟨by have:=h.1;simp at this ⊢;omega,λp hp=>?_⟩;obtain⟨j,hj⟩:=List.mem_iff_getElem?.1 hp
  have:=dX0 _ _ 0 j p h.2 hj
  unfold aJ0 at this;simp only[An,decide_eq_true_eq]at this;exact⟨oA0 this.1.1.2,this.1.2,this.2⟩
theorem jP (xs:List UInt8) (a:Option Addr) (c n:Nat) (w:World) (hx:xs.length<=1099511627776) (hv:n<18446744073709551616) (ac:aG w a 1 (xs.map aY)) (hn:a=none->c=0) :
  Calls Tryz.prog 125 #[.slice a xs.length c,.int .u64 n] w λe w'=>∃v,e=.returned v/\aX w' w.heap.size 5 1 aY v (xs++putU n)/\aB w w':=by
 have CC:=Ac (jE0 xs a c w hx ac hn);clear ac hn;go_enter Tryz.func125,Tryz.ntmps125
 go_wp2_with fail
 refine CC.out.mono ?_;rintro e w1 ⟨v1,rfl,aq,an⟩;obtain⟨a1,c1,rfl,h11,h12,cm⟩:=aq.at_ bJ.len;have jf:=cM aq;go_wp2_with fail
 refine(sH0 xs a1 c1 w1 h11).mono ?_;rintro e w2 ⟨rfl,rfl⟩;have fw:Src w1 w.heap.size (.slice a1 xs.length xs.length) xs:=Or.inr ⟨a1,rfl,cm,λh=>Ao (by have:=jf h;omega)⟩;clear aq cm jf CC;go_wp2_with fail
 go_loopw [0,1] (λb v wr=>∃(k:Nat) (pre:List UInt8),v=.int .u64 k/\Src wr w.heap.size b (xs++pre)/\Hid (pre++putU k=putU n)/\k<18446744073709551616/\aB w wr) (λ_ v _=>(intOf v).toNat)
 case atStart=>exact⟨n,[],rfl,by rw[List.append_nil];exact fw,rfl,hv,an⟩
 case round =>
  obtain⟨k,pre,rfl,hs,hp,hk,hg⟩:=hrel
  have nc:pre.length<=10:=by
   have h1:=congrArg List.length hp.out;have h2:=cY n;rw[Aa]at h1;omega
  by_cases acq:128<=k
  ·have cn:(128:Int)<=k:=by omega
   have hb:=Ac (jB0 k);rw[tP acq hk]at hp;go_wp2_with (at_builtin;refine gA0 rfl _ _ rfl w.heap.size _ (xs++pre) (Aj (k%128+128)) rfl hs (aB.refl _) _ 1 rfl _ (by rw[hb.out];rfl) rfl (by rw[Aa];omega) hg.size ?_;intro v' w5 ar bv)
   go_roundw
   case rel=>exact⟨k/128,pre++[Aj (k%128+128)],by go_num,Or.inl (by rw[<-Ab];exact ar),by show (pre++[_])++putU (k/128)=putU n;rw[Ab];exact hp.out,by omega,bv w hg (Am _)⟩
   case measure=>simp[intOf];omega
  ·have cn:¬(128:Int)<=k:=by omega
   have hb:=Ac (bY1 (k:=k) (by omega));rw[kN (by omega)]at hp;go_wp2_with (at_builtin;refine gA0 rfl _ _ rfl w.heap.size _ (xs++pre) (Aj k) rfl hs (aB.refl _) _ 1 rfl _ (by rw[hb.out];rfl) rfl (by rw[Aa];omega) hg.size ?_;intro v' w5 ar bv)
   go_ret;refine⟨_,rfl,?_,bv w hg (Am _)⟩;rw[<-hp.out,<-Ab];exact ar
theorem bG0 (xs:List UInt8) (a:Option Addr) (c:Nat) (s:ByteArray) (w:World) (hx:xs.length<=1099511627776) (hs:s.size<=1099511627776) (ac:aG w a 1 (xs.map aY)) (hn:a=none->c=0) :
  Calls Tryz.prog 126 #[.slice a xs.length c,.string s] w λe w'=>∃v,e=.returned v/\aX w' w.heap.size 5 1 aY v (xs++sC s)/\aB w w':=by
 have hl:=cY s.size;have hw:IntKind.u64.wrap (s.size:Int)=s.size:=by simp[Ak,Al,Ag];omega
 have CU:=Ac (jP xs a c s.size w hx (by omega) ac hn);clear ac hn;go_enter Tryz.func126,Tryz.ntmps126
 go_wp2_with fail
 refine CU.out.mono ?_;rintro e w1 ⟨v1,rfl,aq,an⟩;go_wp2_with (at_builtin;refine mW1 rfl _ _ rfl w.heap.size _ _ s rfl aq (aB.refl _) rfl (by rw[Aa];omega) an.size ?_;intro v2 w2 ai af _)
 go_ret;exact⟨_,rfl,by unfold sC;rw[<-Ab];exact ai,af w an (Am _)⟩
theorem tD0 (l:List dE) (a:Option Addr) (c:Nat) (w:World) (hv:eO l=true) (ac:aG w a 2 (l.map cX)) :
  Calls Tryz.prog 56 #[.slice a l.length c] w λe w'=>∃v,e=.returned (.tuple #[v,.int .i64 0])/\aX w' w.heap.size 5 1 aY v (posE l)/\aB w w':=by
 obtain⟨acy,aw⟩:=fA hv;have HALL:=Ac aw;have CC:=Ac (aP0 l a c w ac (by omega));rw[hv]at CC;have HAT:=Ac ac;have hul:=cY l.length;have ru:IntKind.u64.wrap (l.length:Int)=l.length:=by simp[Ak,Al,Ag];omega
 have ow:qG1 true=0:=rfl;rw[ow]at CC;clear aw ac hv ow;go_enter Tryz.func56,Tryz.ntmps56
 go_wp2_with fail
 refine CC.out.mono ?_;rintro e w1 ⟨rfl,an⟩;go_wp2_with fail
 refine(jP [] none 0 l.length w1 (by simp) (by omega) (aG.nil _ _ _) (λ_=>rfl)).mono ?_;rintro e w2 ⟨v2,rfl,ai,af⟩;rw[Az]at ai;have fc:=an.tr af;replace ai:=ai.base (base':=w.heap.size) an.size;clear an af CC;go_wp2_with fail
 go_loopw [5,19] (λout i wr=>∃(k:Nat) (bk:List UInt8),k<=l.length/\i=.int .i64 k/\Hid (bk=putU l.length++(l.take k).flatMap fV)/\aX wr w.heap.size 5 1 aY out bk/\aB w wr) (λ_ i _=>l.length-(intOf i).toNat)
 case atStart=>exact⟨0,_,As _,rfl,(by show _=_;simp),ai,fc⟩
 case round =>
  obtain⟨k,bk,hk,rfl,b9,aa,hg⟩:=hrel
  have pm:bk.length<=10+k*40:=by
   rw[b9.out,Aa];have h1:=zW (l:=l.take k) (λp hp=>(HALL.out p (List.mem_of_mem_take hp)).1);rw[Av]at h1;have h2:min k l.length*40<=k*40:=Nat.mul_le_mul_right _ (by omega);omega
  by_cases ae:k<l.length
  ·obtain⟨p,hp⟩:∃p,l[k]?=some p:=⟨_,Ai ae⟩
   obtain⟨b,o,rfl,hc⟩:=aG.get (enc:=cX) HAT.out (aK ae);obtain⟨pn,pk⟩:=p;have c0:wr.cell? ⟨b,o+k*2,none⟩=some (.string pn):=hg.cell (hc k _ hp 0 _ rfl);have c1:wr.cell? ⟨b,o+k*2+1,none⟩=some (.int .i64 pk):=hg.cell (hc k _ hp 1 _ rfl);obtain⟨ws,ow,jp⟩:=HALL.out _ (Ad hp);simp only at ws ow jp;obtain⟨kd,rfl⟩:∃kd:Nat,pk=kd:=⟨pk.toNat,by omega⟩;have ahv:=tC pn;have ahw:=cY kd;have hwk:IntKind.u64.wrap (kd:Int)=kd:=by simp[Ak,Al,Ag];omega
   have HN:Hid ((bk++sC pn)++putU kd=putU l.length++(l.take (k+1)).flatMap fV):=by
    show _=_
    rw[bM hp,kB0,b9.out];simp only[Ab,fV,Bj]
   have cn:(k:Int)<l.length:=by omega
   have z0:∀x:Ext aB (wr.alloc (.cells #[.string pn,.int .i64 kd] 73)).drew,x.u.cell? ⟨wr.heap.size,0,none⟩=some (.string pn):=aF (aT wr _ _ (0,0) 0 _ rfl);have z1:∀x:Ext aB (wr.alloc (.cells #[.string pn,.int .i64 kd] 73)).drew,x.u.cell? ⟨wr.heap.size,1,none⟩=some (.int .i64 kd):=aF (aT wr _ _ (0,0) 1 _ rfl);obtain⟨ao,co,rfl,_,_,acz⟩:=aa.at_ bJ.len;have g9:=cM aa;have lf:aB wr (wr.alloc (.cells #[.string pn,.int .i64 kd] 73)):=aB.alloc _ _;clear hp b9 hc aa;go_wp2_with fail
   refine bK (oK [0,1,2,4,5,6,3,7,8] [3,7,8]) (by kernel_rfl) (λd _ _ _ _ h=>by cases d<;>exact h) ?_
   iterate 6 (refine aH rfl (λK hK=>?_);go_simp;refine hK _ ?_;clear hK K)
   clear z0 z1;refine bH rfl rfl (λK hK=>?_);go_simp;refine(bG0 bk ao co pn _ (by omega) (by omega) (acz.grows (lf.dr)) g9).mono ?_;rintro e w3 ⟨v3,rfl,au,ax⟩;obtain⟨B3,ju⟩:=exq (bk++sC pn);rw[<-ju]at au;have iv:B3.length<=10000:=(by rw[ju,Aa];omega);have HB3:=Ac ju;clear ju;obtain⟨a3,c3,rfl,_,_,fp⟩:=au.at_ bJ.len;have th:=cM au;clear au;refine⟨ax,hK _ _ ?_⟩;clear hK K;refine bH rfl rfl (λK hK=>?_);go_simp;refine(jP B3 a3 c3 kd _ (by omega) (by omega) fp th).mono ?_;rintro e w4 ⟨v4,rfl,du,ch⟩;refine⟨ch,hK _ _ ?_⟩;clear hK K;iterate 1 (refine bH rfl rfl (λK hK=>?_);go_simp;refine⟨aB.refl _,hK _ _ ?_⟩;clear hK K)
   refine cB ?_;have yw:=hg.tr ((lf.dr).tr ax);go_wp2_with fail
   go_roundw
   case rel=>exact⟨k+1,_,ae,by go_num,(by show _=_;rw[<-HN.out,HB3.out]),du.base yw.size,yw.tr ch⟩
   case measure=>simp[intOf];omega
  ·have cn:¬(k:Int)<l.length:=by omega
   have HF:Hid (bk=posE l):=by
    show _=_
    rw[b9.out,Ap (by omega)];rfl
   clear b9;go_wp2_with fail
   refine bodyPost_ret (v:=.tuple #[_,.int .i64 0]) (by simp[results,Tryz.results56,go_sem];rfl) rfl ⟨_,rfl,by rw[<-HF.out];exact aa,hg⟩
theorem xT0 (n:Nat) (hn:n<4294967296):(#[Value.int .u8 ((n:Int)%256),.int .u8 ((n:Int)/256%256),.int .u8 ((n:Int)/65536%256),.int .u8 ((n:Int)/16777216)]:Array Value).toList=(leB 4 n).flatMap aY:=by
 have h:leB 4 n=[Aj n,Aj (n/256),Aj (n/65536),Aj (n/16777216)]:=by
  unfold leB;simp[List.range_succ]
 rw[h,qD];simp only[Be,List.map_nil,UInt8.toNat_ofNat'];rw[Nat.mod_eq_of_lt (show n/16777216<2^8 by omega)]
 congr 1
end
section
open Go Go.RowKit Go.Shelf
attribute [local go_sem] aO aM
theorem qZ0 {R q:Nat} (hR:R<4294967296) (hq:crc4 R=R/16 ^^^ q) (hql:q<4294967296):bits .xor .u32 ((R:Int)/16) (q:Int)=((crc4 R:Nat):Int):=by
 have h:=u32_xor_nat (R/16) q (by omega) hql;rw[hq,<-h];rfl
theorem eL0:∀(i q:Nat),kG[i]?=some q->q<4294967296:=by
 intro i q h;have h1:=Ad h;simp[kG]at h1;omega
theorem kF1 {R:Nat} (hR:R<4294967296):bits .and .u32 (R:Int) 15=((R%16:Nat):Int):=by
 have h:=u32_and_nat R 15 hR (by decide);rw[nat_mask4]at h;exact h
theorem uZ0 (b:List UInt8) (a:Option Addr) (c:Nat) (w:World) (he:Env w) (hb:b.length<=1099511627776) (ac:aG w a 1 (b.map aY)) :
  Calls Tryz.prog 206 #[.int .u32 0,.slice a b.length c] w λe w'=>e=.returned (.int .u32 (crcSum b))/\w=w':=by
 have HAT:=Ac ac;clear ac;go_enter Tryz.func206,Tryz.ntmps206
 go_wp2_with fail
 go_loop [5,12] (λr i=>∃k R:Nat,k<=b.length/\i=.int .i64 k/\r=.int .u32 R/\R<4294967296/\Hid (R=kE0 4294967295 (b.take k))) (λ_ i=>b.length-(intOf i).toNat)
 case atStart=>exact⟨0,4294967295,As _,rfl,rfl,by decide,rfl⟩
 case round =>
  obtain⟨k,R,hk,rfl,rfl,hR,ct⟩:=hrel;by_cases ae:k<b.length
  ·obtain⟨x,hx⟩:∃x,b[k]?=some x:=⟨_,Ai ae⟩
   obtain⟨bb,bo,rfl,hc⟩:=at1 HAT.out (aK ae);have gn:=hc k x hx;have HN:Hid (qI1 (R ^^^ x.toNat)=kE0 4294967295 (b.take (k+1))):=by show _=_;rw[bM hx,eO0,<-ct.out]
   have ai7:=x.toNat_lt;have hxo:=u32_xor_nat R x.toNat hR (by omega);obtain⟨X,hX⟩:=exq (R ^^^ x.toNat);have hXl:X<4294967296:=by rw[hX];exact Bg (n:=32) hR (by omega)
   rw[<-hX]at hxo HN;obtain⟨q1,hq1,dw⟩:=dL0 X;obtain⟨Y,hY⟩:=exq (crc4 X);have hYl:Y<4294967296:=by rw[hY];exact gB0 hXl
   have e1:=qZ0 hXl dw (eL0 _ _ hq1);rw[<-hY]at e1;obtain⟨q2,yj,ew⟩:=dL0 Y;obtain⟨Z,hZ⟩:=exq (crc4 Y);have hZl:Z<4294967296:=by rw[hZ];exact gB0 hYl
   have e2:=qZ0 hYl ew (eL0 _ _ yj);rw[<-hZ]at e2;have HN2:Hid (Z=kE0 4294967295 (b.take (k+1))):=by show _=_;rw[hZ,hY,<-HN.out];rfl
   have a1:=kF1 hXl;have a2:=kF1 hYl;obtain⟨i1,hi1⟩:=exq (X%16);obtain⟨i2,ld⟩:=exq (Y%16);rw[<-hi1]at a1 hq1;rw[<-ld]at a2 yj;have g1:=he.crc i1 q1 hq1;have g2:=he.crc i2 q2 yj;have l1:(i1:Int)<16:=by omega
   have l2:(i2:Int)<16:=by omega
   clear hc hx ct hX hY hZ hq1 yj dw ew HN hi1 ld;go_wp2_with fail
   go_round
   case rel=>exact⟨k+1,Z,ae,by go_num,rfl,hZl,HN2.out⟩
   case measure=>simp[intOf];omega
  ·have jr:k=b.length:=by omega
   have cn:¬(k:Int)<b.length:=by omega
   have cj:R ^^^ 4294967295=crcSum b:=by rw[ct.out,jr,Aw];rfl
   have hx:bits .xor .u32 IntKind.u32.max (R:Int)=((crcSum b:Nat):Int):=by
    rw[<-cj,Nat.xor_comm];exact u32_xor_nat 4294967295 R (by decide) hR
   clear ct jr cj;go_wp2_with fail
   go_ret;exact⟨rfl,rfl⟩
theorem sS0 (b:List UInt8) (a:Option Addr) (c:Nat) (w:World) (he:Env w) (hb:b.length<=1099511627776) (ac:aG w a 1 (b.map aY)) :
  Calls Tryz.prog 143 #[.slice a b.length c] w λe w'=>e=.returned (.int .u32 (crcSum b))/\w=w':=by
 go_enter Tryz.func143,Tryz.ntmps143
 go_wp2_with fail
 refine(uZ0 b a c w he hb ac).mono ?_;rintro e w1 ⟨rfl,rfl⟩;go_wp2_with fail
 go_ret;exact⟨rfl,rfl⟩
theorem xF (b:List UInt8) (a:Option Addr) (c:Nat) (w:World) (he:Env w) (hb:b.length<=1099511627776) (ac:aG w a 1 (b.map aY)) :
  Calls Tryz.prog 77 #[.slice a b.length c] w λe w'=>∃v,e=.returned v/\aX w' w.heap.size 5 1 aY v (leB 4 (crcSum b))/\aB w w':=by
 have ci:crcSum b<4294967296:=Bg (n:=32) (sB0 _ (by decide)) (by decide);have CS:=Ac (sS0 b a c w he hb ac);obtain⟨n,hn⟩:=exq (crcSum b);rw[<-hn]at ci CS ⊢;have HH:=Ac (xT0 n ci);clear hn;go_enter Tryz.func77,Tryz.ntmps77
 go_wp2_with fail
 refine CS.out.mono ?_;rintro e w1 ⟨rfl,rfl⟩;go_wp2_with fail
 go_ret;exact⟨_,rfl,jK (enc:=aY) (λ_=>rfl) (Am _) (leB 4 n) HH.out (n:=4) (by simp[bN]) (by decide),aB.alloc _ _⟩
theorem oQ0 (w:World):PredAt Tryz.prog 249 #[] encR mX0 w:=λW x _=>by
 unfold FnGives;show Calls Tryz.prog 249 #[.int .i32 (x:Int)] W _
 go_enter Tryz.func249,Tryz.ntmps249
 go_wp2
 all_goals (go_ret;refine⟨dZ ?_,0,rfl⟩;rw[Bool.eq_iff_iff];simp[mX0];try omega)
theorem tT0 (s:ByteArray) (w:World) (hs:s.size<=9223372036854775807) :
  Calls Tryz.prog 194 #[.string s] w λe w'=>e=.returned (.bool (azS s))/\aB w w':=by
 have ii:=Ac (Tryz.strings_ContainsFunc 249 #[] (enters_of Tryz.func249 (by kernel_rfl) rfl) mX0 s w (oQ0 w));rw[iQ1,xK0 (λc h=>oF0 h)]at ii;unfold azS;generalize (s.data.toList.any λb=>mX0 b.toNat)=r at ii ⊢;by_cases h1:1<=s.size
 ·have g1:(1:Int)<=s.size:=by omega
  by_cases hz:s.size<=16
  ·have hz':(s.size:Int)<=16:=by omega
   go_enter Tryz.func194,Tryz.ntmps194
   go_wp2_with (go_at_call 200;refine ii.out.mono ?_;rintro e w' ⟨rfl,af⟩)
   go_ret;exact⟨dZ (by simp[h1,hz]),af⟩
  ·have hz':¬(s.size:Int)<=16:=by omega
   go_enter Tryz.func194,Tryz.ntmps194
   go_wp2
   go_ret;exact⟨dZ (by simp<;>omega),aB.refl _⟩
 ·have g1:¬(1:Int)<=s.size:=by omega
  go_enter Tryz.func194,Tryz.ntmps194
  go_wp2
  go_ret;exact⟨dZ (by simp<;>omega),aB.refl _⟩
theorem tK {H:Type} {P:Program} {e:TypeId} (he:P.underlying e=some .bool) {v:Value} {z:DataW H×List MemPlace} (h:plainElem P e v=some z):∃b,v=.bool b/\z=(.lit (.bool b),[]):=by
 unfold plainElem at h;rw[he]at h;cases v<;>simp at h
 exact⟨_,rfl,h.symm⟩
theorem qH1 (w:World):(zeroValue 4).run Tryz.prog w=.ok (.bool false) w:=by kernel_rfl
def gK1 (l:List ByteArray) (D:DataW Unit):Prop:=∀s:ByteArray,s.size<=maxLen->D.atKey (.string s.data.toList) (.lit (.bool false))=.lit (.bool (l.any λt=>seq t s))
theorem dT0 {w:World} {b n:Nat} {D:DataW Unit} {l:List ByteArray} (hM:gK1 l D) (aa:w.ownsMap Tryz.prog 9 (plainElem Tryz.prog 4) b n D) {s:ByteArray} (hs:s.size<=maxLen) :
  (Instr.lookup 285 (.map (some b)) (.string s) false).run Tryz.prog w=.ok (.bool (l.any λt=>seq t s)) w:=by
 obtain⟨v,ps,ix,hv⟩:=aa.lookup (Maps.string_keyed Tryz.underlying9) Tryz.underlying285 (qH1 w) (plainElem_bool Tryz.underlying4 false) (WideMaps.keyOf_string_mk Tryz.underlying9 hs);obtain⟨c,rfl,hc⟩:=tK Tryz.underlying4 hv;simp only[Prod.mk.injEq]at hc;rw[hM s hs]at hc
 have:c=l.any λt=>seq t s:=by have:=hc.1;simpa using this.symm
 rw[<-this];exact ix
theorem aO1 {b n:Nat} {w:World} {D:DataW Unit} {l:List ByteArray} (hM:gK1 l D) (aa:w.ownsMap Tryz.prog 9 (plainElem Tryz.prog 4) b n D) (s:ByteArray):gK1 (l++[s]) (D.put (.string s.data.toList) (.lit (.bool true))):=λt ht=>by
 by_cases h:s=t
 ·subst h
  rw[Maps.atKey_put_same aa.isMap (k:=.string s.data.toList) trivial];simp[nA0]
 ·have aj:(Lit.string t.data.toList) ≠ .string s.data.toList:=λh2=>h (by
   injection h2 with h3
   exact nB h3.symm)
  rw[Maps.atKey_put_other aj,hM t ht,Bq]
  have:seq s t=false:=lC0.2 h
  simp[this]
theorem eU0:∀(l:List bE) (p:bE) (seen:List ByteArray),yA (l++[p]) seen=(yA l seen||(seen++l.map (·.name)).any λs=>seq s p.name)
 | [],p,seen=>by simp[yA]
 | q::l,p,seen=>by
  rw[List.cons_append,yA,eU0 l p (seen++[q.name]),yA];simp[Bool.or_assoc,Ab]
theorem xD0 (l:List bE) (a:Option Addr) (c:Nat) (w:World) (hl:l.length<=1000000) (ac:aG w a 2 (l.map kZ)) (jk:jG w l) :
  Calls Tryz.prog 129 #[.slice a l.length c] w λe w'=>e=.returned (.int .i64 (fO l))/\aB w w':=by
 have HD:=Ac jk.data;have HNM:=Ac jk.name;clear jk
 have bj:∀k p,l[k]?=some p->∃b o,a=some ⟨b,o,none⟩/\w.cell? ⟨b,o+k*2,none⟩=some (.string p.name)/\w.cell? ⟨b,o+k*2+1,none⟩=some (.slice p.a p.data.length p.c):=by
  intro k p hp;obtain⟨b,o,ha,hc⟩:=aG.get (enc:=kZ) ac (aK (List.getElem?_eq_some_iff.1 hp).1);exact⟨b,o,ha,hc k p hp 0 _ rfl,hc k p hp 1 _ rfl⟩
 have HC:=Ac bj;clear bj ac;have s8:=@run_makeMap Tryz.prog;go_enter Tryz.func129,Tryz.ntmps129
 go_wp2_with fail
 have jd:=World.ownsMap_made w Tryz.prog 9 (plainElem (H:=Unit) Tryz.prog 4);have ck:aB w (w.alloc (.map #[] 0)):=aB.alloc _ _;have hbw:w.heap.size<(w.alloc (.map #[] 0)).heap.size:=by simp
 obtain⟨mb,jo⟩:=exq w.heap.size;generalize w.alloc (.map #[] 0)=w1 at jd ck hbw ⊢;rw[<-jo]at jd hbw ⊢;have HMB:=Ac jo;clear jo s8;go_loopw [3,13] (λn i wr=>∃k N:Nat,k<=l.length/\i=.int .i64 k/\n=.int .i64 N/\N<=k*1099511627776/\Hid (N=kQ (l.take k))/\aB w1 wr) (λ_ i _=>l.length-(intOf i).toNat)
 case atStart=>exact⟨0,0,As _,rfl,rfl,by omega,rfl,aB.refl _⟩
 case round =>
  obtain⟨k,N,hk,rfl,rfl,hN,ct,hg⟩:=hrel;by_cases ae:k<l.length
  ·obtain⟨p,hp⟩:∃p,l[k]?=some p:=⟨_,Ai ae⟩
   obtain⟨b,o,rfl,d0,d1⟩:=HC.out k p hp;have c0:=(ck.tr hg).cell d0;have c1:=(ck.tr hg).cell d1;have hd:=HD.out p (Ad hp);have HS:Hid (N+p.data.length=kQ (l.take (k+1))):=by show _=_;rw[bM hp,vG0,<-ct.out]
   have cn:(k:Int)<l.length:=by omega
   clear hp ct d0 d1;go_wp2_with fail
   go_roundw
   case rel=>exact⟨k+1,N+p.data.length,ae,by go_num,by go_num,by omega,HS.out,hg.al _⟩
   case measure=>simp[intOf];omega
  ·have jr:k=l.length:=by omega
   have cn:¬(k:Int)<l.length:=by omega
   have hNs:N=kQ l:=by rw[ct.out,jr,Aw]
   have HN:=Ac hNs;clear ct jr hNs;by_cases cu:64<l.length\/16777216<N
   ·have HF:Hid (fO l=2):=by show _=_;unfold fO;rw[<-HN.out,if_pos cu]
    by_cases mm:64<l.length
    ·have ae8:(64:Int)<l.length:=by omega
     go_wp2_with fail
     go_ret;exact⟨by rw[HF.out];rfl,ck.tr hg⟩
    ·have ae8:¬(64:Int)<l.length:=by omega
     have lj:(16777216:Int)<N:=by omega
     clear cu;go_wp2_with fail
     go_ret;exact⟨by rw[HF.out];rfl,ck.tr hg⟩
   ·have mm:l.length<=64:=by omega
    have ae8:¬(64:Int)<l.length:=by omega
    have lj:¬(16777216:Int)<N:=by omega
    have HF:Hid (fO l=if (l.any λp => !azS p.name)=true then 1 else if wM0 l=true then 4 else 0):=by show _=_;unfold fO;rw[<-HN.out,if_neg cu]
    have aeg:=aJ jd hg;have ia:=ck.tr hg;clear cu HN jd;go_wp2_with fail
    obtain⟨u0,rfl⟩:=exq wr;go_loopw [5,32] (λe i wr=>∃(k E:Nat) (D:DataW Unit),k<=l.length/\i=.int .i64 k/\e=.int .i64 E/\Hid (((l.take k).any λp => !azS p.name)=false/\E=(if wM0 (l.take k)=true then 4 else 0)/\gK1 ((l.take k).map (·.name)) D)/\wr.ownsMap Tryz.prog 9 (plainElem Tryz.prog 4) mb k D/\mb<wr.heap.size/\aB w wr) (λ_ i _=>l.length-(intOf i).toNat)
    case atStart=>exact⟨0,0,.map [],As _,rfl,rfl,⟨rfl,rfl,λs _=>rfl⟩,aeg,Ae hbw hg.size,ia⟩
    case round =>
     obtain⟨k,E,D,hk,rfl,rfl,ct,aa,abp,hg⟩:=hrel;by_cases ae:k<l.length
     ·obtain⟨p,hp⟩:∃p,l[k]?=some p:=⟨_,Ai ae⟩
      obtain⟨b,o,rfl,d0,d1⟩:=HC.out k p hp;have c0:=hg.cell d0;have c1:=hg.cell d1;have ws:=HNM.out p (Ad hp);have ii:=λW=>tT0 p.name W (by omega);have abr:p.name.size<=maxLen:=by unfold maxLen;omega
      obtain⟨i1,i2,i3⟩:=ct.out;have cn:(k:Int)<l.length:=by omega
      cases haz:azS p.name
      ·have HB:Hid (fO l=1):=by
        show _=_
        rw[HF.out,if_pos (List.any_eq_true.2 ⟨p,Ad hp,by rw[haz];rfl⟩)]
       rw[haz]at ii;clear hp ct haz i1 i2 i3 d0 d1;go_wp2_with fail
       refine(ii _).mono ?_;rintro e w2 ⟨rfl,af⟩;go_wp2_with fail
       go_ret;exact⟨by rw[HB.out];rfl,(hg.al _).tr af⟩
      ·have HI:Hid (((l.take (k+1)).any λp => !azS p.name)=false):=by
        show _=_
        rw[bM hp,Bq,i1];simp[haz]
       have hdu:wM0 (l.take (k+1))=(wM0 (l.take k)||((l.take k).map (·.name)).any λs=>seq s p.name):=by
        unfold wM0;rw[bM hp,eU0,Az]
       have HNS:Hid ((l.take (k+1)).map (·.name)=(l.take k).map (·.name)++[p.name]):=by show _=_;rw[bM hp,List.map_append];rfl
       rw[haz]at ii;have HDU:=Ac hdu;have HI2:=Ac i2;have HI3:=Ac i3;have hM:=aO1 i3 aa p.name;have HM:=Ac hM;clear hp ct haz i1 i2 d0 d1 hdu hM;cases hseen:((l.take k).map (·.name)).any λs=>seq s p.name
       ·have HE:Hid (E=if wM0 (l.take (k+1))=true then 4 else 0):=by show _=_;rw[HDU.out,hseen,Bv];exact HI2.out
        have jq:=λ(W:World) (hW:W.ownsMap Tryz.prog 9 (plainElem Tryz.prog 4) mb k D)=>dT0 i3 hW abr;rw[hseen]at jq;clear i3 hseen;go_wp2_with fail
        refine(ii _).mono ?_;rintro e w2 ⟨rfl,af⟩;have ai:=aJ aa ((aB.alloc _ _).tr af);have x0:w2.cell? ⟨wr.heap.size,0,none⟩=some (.string p.name):=af.cell (aT wr _ _ (0,0) 0 _ rfl);have ahx:=jq _ ai;have fc:=(hg.al _).tr af;go_wp2_with (at_mapUpdate;refine wpList_mapUpdate_own _ rfl _ _ _ 285 rfl 9 4 (Maps.string_keyed Tryz.underlying9) Tryz.underlying285 _ mb k D rfl ai (by unfold maxLen;omega) _ _ (.string p.name.data.toList) rfl rfl (WideMaps.keyOf_string_mk Tryz.underlying9 abr) _ [] (plainElem_bool Tryz.underlying4 true) ?_;intro w3 au fy)
        go_roundw
        case rel=>exact⟨k+1,E,_,ae,by go_num,rfl,⟨HI.out,HE.out,by rw[HNS.out];exact HM.out⟩,au,Ae (Ae (Ae abp (aB.alloc _ _).size) af.size) fy.size,fc.grown fy (λq hq=>by cases hq;exact By HMB.out.symm)⟩
        case measure=>simp[intOf];omega
       ·have HE:Hid (4=if wM0 (l.take (k+1))=true then 4 else 0):=by show _=_;rw[HDU.out,hseen,Bool.or_true];rfl
        have jq:=λ(W:World) (hW:W.ownsMap Tryz.prog 9 (plainElem Tryz.prog 4) mb k D)=>dT0 i3 hW abr;rw[hseen]at jq;clear i3 hseen;go_wp2_with fail
        refine(ii _).mono ?_;rintro e w2 ⟨rfl,af⟩;have ai:=aJ aa ((aB.alloc _ _).tr af);have x0:w2.cell? ⟨wr.heap.size,0,none⟩=some (.string p.name):=af.cell (aT wr _ _ (0,0) 0 _ rfl);have ahx:=jq _ ai;have fc:=(hg.al _).tr af;go_wp2_with (at_mapUpdate;refine wpList_mapUpdate_own _ rfl _ _ _ 285 rfl 9 4 (Maps.string_keyed Tryz.underlying9) Tryz.underlying285 _ mb k D rfl ai (by unfold maxLen;omega) _ _ (.string p.name.data.toList) rfl rfl (WideMaps.keyOf_string_mk Tryz.underlying9 abr) _ [] (plainElem_bool Tryz.underlying4 true) ?_;intro w3 au fy)
        go_roundw
        case rel=>exact⟨k+1,4,_,ae,by go_num,rfl,⟨HI.out,HE.out,by rw[HNS.out];exact HM.out⟩,au,Ae (Ae (Ae abp (aB.alloc _ _).size) af.size) fy.size,fc.grown fy (λq hq=>by cases hq;exact By HMB.out.symm)⟩
        case measure=>simp[intOf];omega
     ·have jr:k=l.length:=by omega
      have cn:¬(k:Int)<l.length:=by omega
      have HB:Hid (fO l=E):=by
       obtain⟨i1,i2,_⟩:=ct.out;show _=_
       rw[jr,Aw]at i1 i2;rw[HF.out,i1,i2];simp
      clear ct jr;go_wp2_with fail
      go_ret;exact⟨by rw[HB.out];rfl,hg⟩
theorem xP {α:Type} {enc:α->List Value} {k:Nat} (hk:∀x,(enc x).length=k) {w:World} {cs:Array Value} {t:TypeId} {fz:Nat×Nat} (xs:List α) (cj:cs.toList=xs.flatMap enc):aG (w.alloc (.cells cs t fz)) (some ⟨w.heap.size,0,none⟩) k (xs.map enc):=λ_=>⟨w.heap.size,0,rfl,λi row hi j u hj=>by
 rw[Bk]at hi
 cases hx:xs[i]? with
 | none=>rw[hx]at hi;cases hi
 | some x =>
  rw[hx]at hi;obtain rfl:=Option.some.inj hi;have h:=rC hk xs i j x u hx hj;rw[<-cj]at h;have h2:=aT w cs t fz (i*k+j) u (by simpa using h);simpa using h2⟩
theorem pX0 (l:List bE) (a:Option Addr) (c:Nat) (w:World) (he:Env w) (hl:l.length<=1000000) (ac:aG w a 2 (l.map kZ)) (jk:jG w l) :
  Calls Tryz.prog 64 #[.slice a l.length c] w (gZ0 l w):=by
 have CC:=Ac (xD0 l a c w hl ac jk)
 have bj:∀k p,l[k]?=some p->∃b o,a=some ⟨b,o,none⟩/\w.cell? ⟨b,o+k*2,none⟩=some (.string p.name)/\w.cell? ⟨b,o+k*2+1,none⟩=some (.slice p.a p.data.length p.c):=by
  intro k p hp;obtain⟨b,o,ha,hc⟩:=aG.get (enc:=kZ) ac (by grind);exact⟨b,o,ha,hc k p hp 0 _ rfl,hc k p hp 1 _ rfl⟩
 have HC:=Ac bj;have HPA:=Ac jk;clear bj ac jk;by_cases ag:fO l=0
 case neg =>
  have HNE:=Ac ag;obtain⟨E,hE⟩:∃E,fO l=E:=⟨_,rfl⟩;have HE:=Ac hE;rw[hE]at CC ag;have hEb:((E:Int) != 0)=true:=by rw[bne_iff_ne];omega
  clear hE ag;go_enter Tryz.func64,Tryz.ntmps64
  go_wp2_with fail
  refine CC.out.mono ?_;rintro e w1 ⟨rfl,an⟩;go_wp2_with fail
  refine bodyPost_ret (v:=.tuple #[.slice none 0 0,.int .i64 E]) (by simp[results,Tryz.results64,go_sem]) rfl (by grind [Go.RowKit.Hid.out,gZ0])
 have HOK:=Ac ag;rw[ag]at CC;obtain⟨acy,np,haz,_⟩:=rU0 ag;have HAZ:=Ac (aB1 haz);have HBL:=Ac (wE0 ag);have hul:=cY l.length;clear haz ag;go_enter Tryz.func64,Tryz.ntmps64
 go_wp2_with fail
 refine CC.out.mono ?_;rintro e w1 ⟨rfl,an⟩;have te:=Lib.run_convert_bytes_const (P:=Tryz.prog) w1 28 5 #[.int .u8 72,.int .u8 78,.int .u8 75,.int .u8 49] 4 4 Tryz.underlying28 Tryz.underlying5;simp only[show (#[Value.int .u8 72,.int .u8 78,.int .u8 75,.int .u8 49]:Array Value).size=4 from rfl]at te
 go_wp2_with fail
 clear te;have j9:aG (w1.alloc (.cells #[.int .u8 72,.int .u8 78,.int .u8 75,.int .u8 49] 5 (4,5))) (some ⟨w1.heap.size,0,none⟩) 1 (([72,78,75,49]:List UInt8).map aY):=by grind [xP,aY]
 refine(jP [72,78,75,49] (some ⟨w1.heap.size,0,none⟩) 4 l.length _ (by decide) (by omega) j9 (λh=>by cases h)).mono ?_;rintro e w2 ⟨v2,rfl,ai,af⟩;have fc:=(an.al _).tr af;replace ai:=ai.base (base':=w.heap.size) (an.al _).size;clear j9 af an CC;go_wp2_with fail
 go_loopw [5,23] (λout i wr=>∃(k:Nat) (bk:List UInt8),k<=l.length/\i=.int .i64 k/\Hid (bk=([72,78,75,49]++putU l.length)++dN (l.take k))/\aX wr w.heap.size 5 1 aY out bk/\aB w wr) (λ_ i _=>l.length-(intOf i).toNat)
 case atStart=>exact⟨0,_,As _,rfl,(by show _=_;simp[dN]),ai,fc⟩
 case round =>
  obtain⟨k,bk,hk,rfl,b9,aa,hg⟩:=hrel
  have pm:bk.length<=20+k*36:=by
   rw[b9.out,Aa,Aa];have h1:=eS0 (l:=l.take k) (λp hp=>HAZ.out p (by grind));rw[Av]at h1;have h2:min k l.length*36<=k*36:=by omega
   simp only[Au,List.length_nil];omega
  by_cases ae:k<l.length
  ·obtain⟨p,hp⟩:∃p,l[k]?=some p:=by simp_all
   obtain⟨b,o,rfl,d0,d1⟩:=HC.out k p hp;have c0:=hg.cell d0;have c1:=hg.cell d1;have ws:=HAZ.out p (by grind);have hpd:=HPA.out.data p (by grind);have ahv:=tC p.name;have ahw:=cY p.data.length
   have HN:Hid ((bk++sC p.name)++putU p.data.length=([72,78,75,49]++putU l.length)++dN (l.take (k+1))):=by
    show _=_
    rw[bM hp,nU0,b9.out];simp only[Ab]
   have cn:(k:Int)<l.length:=by omega
   have acj:IntKind.u64.wrap (p.data.length:Int)=p.data.length:=by simp[Ak,Al,Ag];omega
   obtain⟨ao,co,rfl,_,_,acz⟩:=aa.at_ bJ.len;have g9:=cM aa;have lf:aB wr (wr.alloc (.cells #[.string p.name,.slice p.a p.data.length p.c] 119)):=aB.alloc _ _;clear hp b9 d0 d1 aa;go_wp2_with fail
   refine(bG0 bk ao co p.name _ (by omega) (by omega) (acz.grows lf) g9).mono ?_;rintro e w3 ⟨v3,rfl,au,ax⟩;obtain⟨B3,ju⟩:=exq (bk++sC p.name);rw[<-ju]at au HN;have iv:B3.length<=1000000:=by rw[ju,Aa];omega
   obtain⟨a3,c3,rfl,_,_,fp⟩:=au.at_ bJ.len;have th:=cM au;have x1:w3.cell? ⟨wr.heap.size,1,none⟩=some (.slice p.a p.data.length p.c):=ax.cell (by simp_all);clear ju au;go_wp2_with fail
   refine(jP B3 a3 c3 p.data.length _ (by omega) (by omega) fp th).mono ?_;rintro e w4 ⟨v4,rfl,du,ch⟩;have yw:=hg.tr (lf.tr ax);go_wp2_with fail
   go_roundw
   case rel=>exact⟨k+1,_,ae,by go_num,HN.out,du.base yw.size,yw.tr ch⟩
   grind [Go.Proofs.intOf]
  ·have cn:¬(k:Int)<l.length:=by omega
   have HA:Hid (bk=([72,78,75,49]++putU l.length)++dN l):=by
    show _=_
    rw[b9.out,Ap (by omega)]
   clear b9;go_wp2_with fail
   obtain⟨u0,rfl⟩:=exq wr;go_loopw [5,40] (λout i wr=>∃(k:Nat) (ei:List UInt8),k<=l.length/\i=.int .i64 k/\Hid (ei=bk++dQ (l.take k))/\aX wr w.heap.size 5 1 aY out ei/\aB w wr) (λ_ i _=>l.length-(intOf i).toNat)
   case atStart=>exact⟨0,_,As _,rfl,(by show _=_;simp[dQ]),aa,hg⟩
   case round =>
    obtain⟨k,ei,hk,rfl,ga,aa,hg⟩:=hrel;by_cases ae:k<l.length
    ·obtain⟨p,hp⟩:∃p,l[k]?=some p:=by simp_all
     obtain⟨b,o,rfl,d0,d1⟩:=HC.out k p hp;have c0:=hg.cell d0;have c1:=hg.cell d1;have hpd:=HPA.out.data p (by grind);have abt:=(HPA.out.at_ p (by grind)).grows (hg.al (.cells #[.string p.name,.slice p.a p.data.length p.c] 119));have fq:=HPA.out.none_ p (by grind)
     have HN:Hid (ei++p.data=bk++dQ (l.take (k+1))):=by
      show _=_
      rw[bM hp,pA0,ga.out,Ab]
     have ahq:ei.length<=3000+64*1099511627776:=by
      rw[ga.out,Aa,dH0];have h1:=hU1 (l:=l.take k) (n:=1099511627776) (λp hp=>HPA.out.data p (by grind));rw[Av]at h1;have h2:min k l.length*1099511627776<=64*1099511627776:=by omega
      omega
     have mu:=aa.grows (aB.alloc wr (.cells #[.string p.name,.slice p.a p.data.length p.c] 119));have jt:=hg.al (.cells #[.string p.name,.slice p.a p.data.length p.c] 119);clear hp ga d0 d1;go_wp2_with (at_builtin;refine tG bJ rfl _ _ rfl w.heap.size _ ei p.data rfl mu (aB.refl _) p.a p.c rfl abt fq (by omega) jt.size ?_;intro v7 w7 fx cw)
     grind [Go.Proofs.intOf]
    ·have cn:¬(k:Int)<l.length:=by omega
     have HB:Hid (ei=dM l):=by
      show _=_
      rw[ga.out,HA.out,Ap (by omega)];rfl
     have cy:ei.length<=16800000:=by rw[HB.out];exact HBL.out
     have hl4:(leB 4 (crcSum ei)).length=4:=bN _ _;obtain⟨a8,c8,rfl,_,_,ma⟩:=aa.at_ bJ.len;have hew:=he.grows hg;clear ga;go_wp2_with (first|(go_at_call 77;refine(xF ei a8 c8 _ hew (by omega) ma).mono ?_;rintro e w9 ⟨v9,rfl,cz,fu⟩;obtain⟨a9,c9,rfl,_,_,ahy⟩:=cz.at_ bJ.len;have hn9:=cM cz;have aeh:=aa.grows fu;have gk:=hg.tr fu;clear aa cz)|(at_builtin;refine tG bJ rfl _ _ rfl w.heap.size _ ei (leB 4 (crcSum ei)) rfl aeh (aB.refl _) a9 c9 rfl ahy hn9 (by omega) gk.size ?_;intro v10 w10 et nr))
     have HF:Hid (ei++leB 4 (crcSum ei)=file14 l):=by show _=_;rw[HB.out];rfl
     refine bodyPost_ret (v:=.tuple #[v10,.int .i64 0]) (by simp[results,Tryz.results64,go_sem]) rfl ⟨by grind [Go.RowKit.Hid.out],λh=>absurd HOK.out h,by simp_all⟩
end
section
open Go Go.RowKit
attribute [local go_sem] aO
end
section
open Go Go.RowKit Go.Shelf
attribute [local go_sem] aO aM
theorem oV1 (w:World):(zeroValue 3).run Tryz.prog w=.ok (.int .i64 0) w:=by kernel_rfl
def IdM (L:List ByteArray) (k:Nat) (D:DataW Unit):Prop:=∀i s,i<k->L[i]?=some s->D.atKey (.string s.data.toList) (.lit (.int .i64 0))=.lit (.int .i64 i)
theorem hJ0 {w:World} {b n k i:Nat} {D:DataW Unit} {L:List ByteArray} {s:ByteArray} (hM:IdM L k D) (aa:w.ownsMap Tryz.prog 9 (plainElem Tryz.prog 3) b n D) (hi:i<k) (hx:L[i]?=some s) (hs:s.size<=maxLen) :
  (Instr.lookup 105 (.map (some b)) (.string s) false).run Tryz.prog w=.ok (.int .i64 i) w:=by
 obtain⟨c,ix,ac,_⟩:=aa.lookup_int (Maps.string_keyed Tryz.underlying9) Tryz.underlying105 Tryz.underlying3 (oV1 w) (WideMaps.keyOf_string_mk Tryz.underlying9 hs);rw[hM i s hi hx]at ac
 have:(i:Int)=c:=by simpa using ac
 rw[this];exact ix
theorem fE1 (L:List ByteArray) (D:DataW Unit):IdM L 0 D:=λi _ h=>absurd h (Nat.not_lt_zero i)
theorem nB1 {b n k:Nat} {w:World} {D:DataW Unit} {L:List ByteArray} {s:ByteArray} (hM:IdM L k D) (aa:w.ownsMap Tryz.prog 9 (plainElem Tryz.prog 3) b n D) (hd:L.Nodup) (hx:L[k]?=some s):IdM L (k+1) (D.put (.string s.data.toList) (.lit (.int .i64 k))):=λi t hi ht=>by
 by_cases h:i=k
 ·subst h
  obtain rfl:s=t:=by rw[hx]at ht;exact Option.some.inj ht
  rw[Maps.atKey_put_same aa.isMap (k:=.string s.data.toList) trivial]
 ·have aj:(Lit.string t.data.toList) ≠ .string s.data.toList:=λh2=>h (by
   injection h2 with h3
   have h4:t=s:=nB h3;obtain⟨hi1,ld⟩:=List.getElem?_eq_some_iff.1 ht;obtain⟨hk1,jp⟩:=List.getElem?_eq_some_iff.1 hx;exact(List.getElem_inj hd).1 (by rw[ld,jp,h4]))
  rw[Maps.atKey_put_other aj,hM i t (by omega) ht]
structure jQ1 (w:World) (ib:Nat) (L:List ByteArray):Prop where
 ex:∃mb n D,w.cell? ⟨ib,0,none⟩=some (.map (some mb))/\w.ownsMap Tryz.prog 9 (plainElem (H:=Unit) Tryz.prog 3) mb n D/\IdM L L.length D
theorem jQ1.grows {w w':World} {ib:Nat} {L:List ByteArray} (h:jQ1 w ib L) (hg:aB w w'):jQ1 w' ib L:=by
 obtain⟨mb,n,D,h1,h2,h3⟩:=h.ex;exact⟨mb,n,D,hg.cell h1,aJ h2 hg,h3⟩
theorem iY1 (L:List ByteArray) (ib i:Nat) (x:En) (w:World) (h:jQ1 w ib L) (hx:L[i]?=some x.s) (hs:x.s.size<=maxLen) :
  Calls Tryz.prog 67 #[x.agg,.pointer (some ⟨ib,0,none⟩)] w λe w'=>e=.returned (.int .i64 i)/\aB w w':=by
 obtain⟨xr,xs,xl,xt,xc⟩:=x;obtain⟨mb,n,D,h1,h2,h3⟩:=h.ex;simp only at hx hs;have c1:(w.alloc (.cells #[.string xr,.string xs,.int .i64 xl,.int .i64 xt,.int .i64 xc] 30)).cell? ⟨ib,0,none⟩=some (.map (some mb)):=(aB.alloc _ _).cell h1;have hl:=hJ0 h3 (aJ h2 (aB.alloc w (.cells #[.string xr,.string xs,.int .i64 xl,.int .i64 xt,.int .i64 xc] 30))) (List.getElem?_eq_some_iff.1 hx).1 hx hs;unfold En.agg;clear h h1 h2 h3;go_enter Tryz.func67,Tryz.ntmps67
 go_wp2_with fail
 go_ret;exact⟨rfl,aB.alloc _ _⟩
theorem nU1:∀args w,(callFunc 67 args).run Tryz.prog w=.ok (.enter 67 args) w:=enters_of Tryz.func67 (by kernel_rfl) rfl
theorem kM1:∀args w,(callFunc 60 args).run Tryz.prog w=.ok (.enter 60 args) w:=enters_of Tryz.func60 (by kernel_rfl) rfl
theorem hD1 (L:List ByteArray) (ib eb i j x y:Nat) (l:List En) (ex ey:En) (a:Option Addr) (c:Nat) (w:World) (h:jQ1 w ib L) (he:w.cell? ⟨eb,0,none⟩=some (.slice a l.length c)) (ac:aG w a 5 (l.map bF)) (_hl:l.length<=1048576) (hL:L.length<=1048576)
  (hx:l[x]?=some ex) (hy:l[y]?=some ey) (hi:L[i]?=some ex.s) (hj:L[j]?=some ey.s) (hs:ex.s.size<=maxLen/\ey.s.size<=maxLen) :
  Calls Tryz.prog 60 #[.int .i64 x,.int .i64 y,.pointer (some ⟨ib,0,none⟩),.pointer (some ⟨eb,0,none⟩)] w λe w'=>e=.returned (.int .i64 ((i:Int)-j))/\w'=w.drew:=by
 obtain⟨xr,xs,xl,xt,xc⟩:=ex;obtain⟨yr,ys,yl,yt,yc⟩:=ey;obtain⟨mb,n,D,h1,h2,h3⟩:=h.ex;simp only at hi hj hs;have hxl:=(List.getElem?_eq_some_iff.1 hx).1;have hyl:=(List.getElem?_eq_some_iff.1 hy).1;have up:=(List.getElem?_eq_some_iff.1 hi).1;have ft:=(List.getElem?_eq_some_iff.1 hj).1;obtain⟨ba,oa,rfl,be⟩:=aG.get (enc:=bF) ac (aK hxl);have z0:∀x:Ext aB w.drew,x.u.cell? ⟨ib,0,none⟩=some (.map (some mb)):=aF ((aB.drew w).cell h1);have z1:∀x:Ext aB w.drew,x.u.cell? ⟨eb,0,none⟩=some (.slice (some ⟨ba,oa,none⟩) l.length c):=aF ((aB.drew w).cell he);have z2:∀u:Ext aB w.drew,u.u.cell? ⟨ba,oa+x*5+1,none⟩=some (.string xs):=aF ((aB.drew w).cell (be x _ hx 1 _ rfl));have z3:∀u:Ext aB w.drew,u.u.cell? ⟨ba,oa+y*5+1,none⟩=some (.string ys):=aF ((aB.drew w).cell (be y _ hy 1 _ rfl));have z4:∀u:Ext aB w.drew,(Instr.lookup 105 (.map (some mb)) (.string xs) false).run Tryz.prog u.u=.ok (.int .i64 i) u.u:=λu=>hJ0 h3 (aJ (aJ h2 (aB.drew w)) u.h) up hi hs.1;have z5:∀u:Ext aB w.drew,(Instr.lookup 105 (.map (some mb)) (.string ys) false).run Tryz.prog u.u=.ok (.int .i64 j) u.u:=λu=>hJ0 h3 (aJ (aJ h2 (aB.drew w)) u.h) ft hj hs.2;have o7:(x:Int)<l.length:=by omega
 have hyi:(y:Int)<l.length:=by omega
 have wij:IntKind.i64.wrap ((i:Int)-j)=(i:Int)-j:=by simp[Ak,Al,Ag];omega
 clear h he ac hx hy hi hj hs h1 h2 h3 be;go_enter Tryz.func60,Tryz.ntmps60
 go_wp2_with fail
 refine bK (bB 16 []) (by kernel_rfl) (λd _ _ _ _ h=>by cases d<;>exact h) ?_
 iterate 16 (refine aH rfl (λK hK=>?_);go_simp;refine hK _ ?_;clear hK K)
 clear z0 z1 z2 z3 z4 z5;refine cB ?_;go_wp2_with fail
 go_ret;exact⟨rfl,rfl⟩
end
section
open Go Go.RowKit
theorem uW0 (s:ByteArray):sC s=putU s.size++bl s:=rfl
def hposP (P:List bE) (i:Nat):Nat:=(([72,78,75,49]++putU P.length)++dN (P.take i):List UInt8).length
def sM (P:List bE) (i:Nat):Nat:=(([72,78,75,49]++putU P.length)++dN P++dQ (P.take i):List UInt8).length
theorem dL1 {P:List bE} {i:Nat} {p:bE} (h:P[i]?=some p):dN P=dN (P.take i)++((sC p.name++putU p.data.length)++dN (P.drop (i+1))):=by
 obtain⟨hi,rfl⟩:=List.getElem?_eq_some_iff.1 h;unfold dN;rw[<-Ar (f:=λp:bE=>sC p.name++putU p.data.length),<-At hi,<-Af,Ah]
theorem dC1 {P:List bE} {i:Nat} {p:bE} (h:P[i]?=some p):dQ P=dQ (P.take i)++(p.data++dQ (P.drop (i+1))):=by
 obtain⟨hi,rfl⟩:=List.getElem?_eq_some_iff.1 h;unfold dQ;rw[<-Ar (f:=λp:bE=>p.data),<-At hi,<-Af,Ah]
theorem nE0 {P:List bE} {i:Nat} {p:bE} (h:P[i]?=some p):dN (P.take (i+1))=dN (P.take i)++(sC p.name++putU p.data.length):=by
 unfold dN;rw[Bn,h,Af];simp
theorem pM0 {P:List bE} {i:Nat} {p:bE} (h:P[i]?=some p):dQ (P.take (i+1))=dQ (P.take i)++p.data:=by
 unfold dQ;rw[Bn,h,Af];simp
theorem uN0 (P:List bE):hposP P 0=4+(putU P.length).length:=by unfold hposP dN; simp; omega
theorem tB0 {P:List bE} {i:Nat} {p:bE} (h:P[i]?=some p):hposP P (i+1)=hposP P i+(sC p.name).length+(putU p.data.length).length:=by
 unfold hposP;grind [nE0]
theorem sU0 (P:List bE):sM P 0=hposP P P.length:=by
 unfold sM hposP;grind [dQ]
theorem dB0 {P:List bE} {i:Nat} {p:bE} (h:P[i]?=some p):sM P (i+1)=sM P i+p.data.length:=by
 unfold sM;rw[pM0 h];grind
theorem cE1 (P:List bE):sM P P.length=(dM P).length:=by grind [sM,dM]
theorem hC1 {P:List bE} {i:Nat}:sM P i<=(dM P).length:=by
 unfold sM dM;simp only[Aa]
 have:(dQ (P.take i)).length<=(dQ P).length:=by
  unfold dQ;have h:=Ah i P;have h2:dQ P=dQ (P.take i)++dQ (P.drop i):=by unfold dQ;rw[<-Af,h]
  unfold dQ at h2;rw[h2,Aa];omega
 omega
theorem jM1 {P:List bE} {i:Nat}:hposP P i<=(dM P).length:=by
 unfold hposP dM;simp only[Aa]
 have:(dN (P.take i)).length<=(dN P).length:=by
  have h2:dN P=dN (P.take i)++dN (P.drop i):=by unfold dN;rw[<-Af,Ah]
  rw[h2,Aa];omega
 omega
theorem iA1 {P:List bE} (hn:P.length<18446744073709551616):rdU ((dM P).drop 4)=some (P.length,(putU P.length).length):=by
 grind [vF,dM]
theorem mA0 {P:List bE} {i:Nat} {p:bE} (h:P[i]?=some p):(dM P).drop (hposP P i)=(sC p.name++putU p.data.length)++(dN (P.drop (i+1))++dQ P):=by
 have e:dM P=(([72,78,75,49]++putU P.length)++dN (P.take i))++((sC p.name++putU p.data.length)++(dN (P.drop (i+1))++dQ P)):=by
  unfold dM;rw[dL1 h];simp only[Ab]
 rw[e];exact Ba rfl
theorem zB0 {s:ByteArray} (hs:s.size<18446744073709551616) (r:List UInt8):rdT (sC s++r)=some (s,(sC s).length):=by
 unfold rdT;rw[uW0,Ab,vF hs];simp only;rw[Ba rfl,if_pos (by grind [dO])];congr 1
 rw[List.take_left' (dO s),Aa,dO];exact congrArg (·,_) (pK s)
theorem lY1 {P:List bE} {i:Nat} {p:bE} (h:P[i]?=some p) (hs:p.name.size<18446744073709551616):rdT ((dM P).drop (hposP P i))=some (p.name,(sC p.name).length):=by
 grind [mA0,zB0]
theorem mJ1 {P:List bE} {i:Nat} {p:bE} (h:P[i]?=some p) (hs:p.data.length<18446744073709551616):rdU ((dM P).drop (hposP P i+(sC p.name).length))=some (p.data.length,(putU p.data.length).length):=by
 rw[<-Bs,mA0 h,Ab,Ba rfl];exact vF hs _
theorem nD1 {P:List bE} {i:Nat} {p:bE} (h:P[i]?=some p):((dM P).take (sM P i+p.data.length)).drop (sM P i)=p.data:=by
 have e:dM P=(([72,78,75,49]++putU P.length)++dN P++dQ (P.take i))++(p.data++dQ (P.drop (i+1))):=by
  unfold dM;rw[dC1 h];simp only[Ab]
 rw[<-List.take_drop];conv=>lhs;rw[e]
 unfold sM;simp_all
structure rJ (W:World) (b m:Nat) (f:Nat->Value):Prop where
 cell:∀j,j<m->W.cell? ⟨b,j,none⟩=some (f j)
 froz:∀j,W.frozen? ⟨b,j,none⟩=false
 lt:b<W.heap.size
theorem rJ.grows {W W':World} {b m:Nat} {f:Nat->Value} (h:rJ W b m f) (hg:aB W W'):rJ W' b m f :=
 ⟨λj hj=>hg.cell (h.cell j hj),λj=>(hg.froz (p:=⟨b,j,none⟩) h.lt).trans (h.froz j),Ae h.lt hg.size⟩
theorem rJ.other {W:World} {b m:Nat} {f:Nat->Value} (h:rJ W b m f) {b' j':Nat} (hb:b'≠b) (v:Value):rJ (W.setCell ⟨b',j',none⟩ v) b m f :=
 ⟨λj hj=>by rw[Ay _ _ _ _ (by simp_all)];exact h.cell j hj,λj=>(Bc _ _ _ _).trans (h.froz j),by simp;exact h.lt⟩
theorem rJ.set {W:World} {b m:Nat} {f:Nat->Value} (h:rJ W b m f) {k:Nat} (hk:k<m) (v:Value):rJ (W.setCell ⟨b,k,none⟩ v) b m (λj=>if j=k then v else f j) :=
 ⟨λj hj=>by
  by_cases e:j=k
  ·subst e
   rw[if_pos rfl];exact World.cell?_setCell_same _ _ _ (h.cell j hj)
  ·rw[if_neg e,Ay _ _ _ _ (by simp_all)]
   exact h.cell j hj,λj=>(Bc _ _ _ _).trans (h.froz j),by simp;exact h.lt⟩
theorem rJ.congr {W:World} {b m:Nat} {f g:Nat->Value} (h:rJ W b m f) (e:∀j,j<m->f j=g j):rJ W b m g:=⟨λj hj=>by rw[<-e j hj]; exact h.cell j hj,h.froz,h.lt⟩
theorem gJ1 {w W:World} {cs:Array Value} {t:TypeId} {m:Nat} (hg:aB (w.alloc (.cells cs t)) W) (hm:cs.size=m):rJ W w.heap.size m (λj=>cs.getD j undef):=by
 obtain⟨h1,h2⟩:=bT hg;refine⟨λj hj=>h1 j _ ?_,h2,Ae (by simp) hg.size⟩;simp_all
end
section
open Go Go.RowKit Go.Shelf
attribute [local go_sem] aO aM
theorem iT1:∃i,Tryz.prog.info? 73=some i/\∃z,i.zero=some z/\i.size=2/\i.bytes=24/\z.cells.size=2:=by
 have h:(Tryz.prog.info? 73).map (λi=>(i.zero,i.size,i.bytes))=some (some (.agg #[.string ⟨#[]⟩,.int .i64 0]),2,24):=by kernel_rfl
 cases hi:Tryz.prog.info? 73 with
 | none=>rw[hi]at h;cases h
 | some i =>
  rw[hi]at h;simp only[Option.map_some,Option.some.injEq,Prod.mk.injEq]at h;exact⟨i,rfl,_,h.1,h.2.1,h.2.2,rfl⟩
theorem vY:eG Tryz.prog 22 73 2 24 cX where
 sl:=Tryz.underlying22
 info:=by obtain⟨i,h1,z,h2,h3,h4,h5⟩:=iT1;exact⟨i,z,h1,h2,h3,h4,h5⟩
 pos:=by decide
 by1:=by decide
 len:=λ_=>rfl
 one:=λx u hu=>by
  simp only[cX,List.mem_cons,List.not_mem_nil,or_false]at hu;rcases hu with rfl|rfl<;>rfl
def pposP (p:List dE) (i:Nat):Nat:=(putU p.length++(p.take i).flatMap fV).length
theorem vR0 (p:List dE):pposP p 0=(putU p.length).length:=by simp[pposP]
theorem dZ0 {p:List dE} {i:Nat} {x:dE} (h:p[i]?=some x):pposP p (i+1)=pposP p i+(sC x.name).length+(putU x.kind.toNat).length:=by
 unfold pposP;have h2:(fV x).length=(sC x.name).length+(putU x.kind.toNat).length:=by rw[fV,Aa]
 rw[bM h,kB0,<-Ab,Aa,h2];omega
theorem dS1 (p:List dE):pposP p p.length=(posE p).length:=by unfold pposP posE; rw[Aw]
theorem eW0 {p:List dE} {i:Nat} {x:dE} (h:p[i]?=some x):(posE p).drop (pposP p i)=sC x.name++(putU x.kind.toNat++(p.drop (i+1)).flatMap fV):=by
 have hi:=(List.getElem?_eq_some_iff.1 h).1
 have e:posE p=(putU p.length++(p.take i).flatMap fV)++(fV x++(p.drop (i+1)).flatMap fV):=by
  unfold posE;have h1:p.flatMap fV=(p.take i).flatMap fV++(p.drop i).flatMap fV:=by rw[<-Af,Ah]
  rw[h1,At hi,(List.getElem?_eq_some_iff.1 h).2,Ar,Ab]
 unfold pposP;rw[e,Bt,fV,Ab]
theorem qM0 {p:List dE} {i:Nat}:pposP p i<=(posE p).length:=by
 unfold pposP posE;have h1:p.flatMap fV=(p.take i).flatMap fV++(p.drop i).flatMap fV:=by rw[<-Af,Ah]
 rw[h1,Aa,Aa,Aa];omega
theorem tZ0 (p:List dE) (ba:Option Addr) (bc:Nat) (w:World) (hv:eO p=true) (gm:(posE p).length<=1099511627776) (fg:(posE p).length<=bc) (jh:ba=none->bc=0) (ac:aG w ba 1 ((posE p).map aY)) :
  Calls Tryz.prog 91 #[.slice ba (posE p).length bc] w λe w'=>∃v,e=.returned (.tuple #[v,.int .i64 0])/\aX w' w.heap.size 73 2 cX v p/\aB w w':=by
 obtain⟨acy,aw⟩:=fA hv
 have C0:Hid (Calls Tryz.prog 145 #[.slice ba (posE p).length bc,.int .i64 0] w λe w'=>e=.returned (.tuple #[.int .u64 (p.length:Nat),.int .i64 (pposP p 0:Nat),.bool true])/\aB w w'):=by
  have h:=yT (posE p) 0 ba bc w (As _) gm ac;rw[Br,show rdU (posE p)=some (p.length,(putU p.length).length) from vF (by omega) _,gC0,Nat.zero_add,<-vR0]at h
  exact h
 have CT:∀(i:Nat) (x:dE) (u:World),p[i]?=some x->aB w u->Hid (Calls Tryz.prog 146 #[.slice ba (posE p).length bc,.int .i64 (pposP p i:Nat)] u λe w'=>e=.returned (.tuple #[.string x.name,.int .i64 (pposP p i+(sC x.name).length:Nat),.bool true])/\aB u w'):=λi x u hx hu=>by
  have h:=dV0 (posE p) (pposP p i) ba bc u qM0 gm fg jh (ac.grows hu);have hs:=(aw x (Ad hx)).1;rw[eW0 hx,zB0 (by omega),uK0]at h;exact h
 have CU:∀(i:Nat) (x:dE) (u:World),p[i]?=some x->aB w u->Hid (Calls Tryz.prog 145 #[.slice ba (posE p).length bc,.int .i64 (pposP p i+(sC x.name).length:Nat)] u λe w'=>e=.returned (.tuple #[.int .u64 (x.kind.toNat:Nat),.int .i64 (pposP p (i+1):Nat),.bool true])/\aB u w'):=λi x u hx hu=>by
  have hs:=(aw x (Ad hx)).2
  have gv:pposP p i+(sC x.name).length<=(posE p).length:=by
   have:=qM0 (p:=p) (i:=i+1)
   rw[dZ0 hx]at this;omega
  have h:=yT (posE p) (pposP p i+(sC x.name).length) ba bc u gv gm (ac.grows hu);rw[<-Bs,eW0 hx,Bt,vF (by omega),gC0,<-dZ0 hx]at h;exact h
 have HALL:=Ac aw;have HEND:=Ac (dS1 p);have HV:=Ac hv;obtain⟨N,hN⟩:=exq ((posE p).length);rw[<-hN]at C0 CT CU HEND ⊢;obtain⟨n,hn⟩:=exq p.length;have HNL:=Ac hn;rw[<-hn]at C0 acy;have mm:¬(64:Int)<n:=by omega
 clear ac aw hv gm fg jh hN hn;go_enter Tryz.func91,Tryz.ntmps91
 go_wp2_with fail
 refine C0.out.mono ?_;rintro e w1 ⟨rfl,an⟩;clear C0;go_wp2_with fail
 go_loopw [5,7,27] (λvA v i wr=>∃k:Nat,k<=n/\i=.int .u64 k/\vA=.int .i64 (pposP p k:Nat)/\Hid (aX wr w.heap.size 73 2 cX v (p.take k))/\Hid (aB w wr)) (λ_ _ i _=>n-(intOf i).toNat)
 case atStart=>exact⟨0,As _,rfl,rfl,aX.nil _ _ _ _ _,an⟩
 case round =>
  clear an;obtain⟨k,hk,rfl,rfl,aa,hg⟩:=hrel;by_cases ae:k<n
  ·have cn:(k:Int)<n:=by omega
   obtain⟨⟨nm,kd⟩,hx⟩:∃x,p[k]?=some x:=⟨_,Ai (by have:=HNL.out;omega)⟩;have HX:=Ac hx;obtain⟨hs,ow,jp⟩:=HALL.out _ (Ad hx);simp only at hs ow jp;obtain⟨K,rfl⟩:∃K:Nat,kd=(K:Int):=⟨kd.toNat,by omega⟩;have CT1:=CT k _ wr hx hg.out;simp only at CT1;clear hx;go_wp2_with fail
   refine CT1.out.mono ?_;rintro e w2 ⟨rfl,af⟩;have CU1:=CU k _ w2 HX.out (hg.out.tr af);simp only[Bj]at CU1;clear CT1;go_wp2_with fail
   refine CU1.out.mono ?_;rintro e w3 ⟨rfl,ax⟩;clear CU1;have oe:¬(2:Int)<K:=by omega
   have wK:IntKind.i64.wrap (K:Int)=K:=by simp[Ak,Al,Ag];omega
   have mj:(p.take k).length=k:=by rw[Av];have:=HNL.out;omega
   have au:=(aa.out.grows af).grows ax;have ke:=(hg.out.tr af).tr ax;have HT:=Ac (bM HX.out);generalize p.take k=bk at au HT mj;go_wp2_with (at_builtin;refine fG vY rfl _ _ rfl w.heap.size _ bk ⟨nm,(K:Int)⟩ rfl au (aB.refl _) _ 1 rfl #[.string nm,.int .i64 K] rfl rfl (by omega) ke.size ?_;intro v5 w5 ar _ _ bv)
   have HG5:=bv w ke (Am _);rw[<-HT.out]at ar;go_wp2_with fail
   go_roundw
   case rel=>exact⟨k+1,ae,by go_num,rfl,ar,HG5⟩
   case measure=>simp[intOf];omega
  ·obtain rfl:k=n:=by omega
   have ho:=aa.out;rw[Ap (by have:=HNL.out;omega)]at ho;obtain⟨a,c,rfl,_,_,jl⟩:=ho.at_ vY.len;have CC:=Ac (aP0 p a c wr jl (by have:=HNL.out;omega));rw[HV.out]at CC;have HO:=Ac ho;have e1:pposP p k=N:=by rw[HNL.out];exact HEND.out
   rw[e1];clear ho jl aa e1;go_wp2_with fail
   refine CC.out.mono ?_;rintro e w6 ⟨rfl,dl⟩;go_wp2
   go_ret2;exact⟨_,rfl,HO.out.grows dl,hg.out.tr dl⟩
theorem lF1:∀args w,(callFunc 144 args).run Tryz.prog w=.ok (.enter 144 args) w:=enters_of Tryz.func144 (by kernel_rfl) rfl
theorem sA0 (b:List UInt8) (ba:Option Addr) (bc k v n pb pa po uu:Nat) (w:World) (hk:k<=b.length) (hb:b.length<=1099511627776) (ac:aG w ba 1 (b.map aY)) (hR:rdU (b.drop k)=some (v,n)) (hv:v<=uu) (hm:uu<=1099511627776)
  (cb:w.cell? ⟨pb,0,none⟩=some (.slice ba b.length bc)) (ca:w.cell? ⟨pa,0,none⟩=some (.int .i64 k)) (co:w.cell? ⟨po,0,none⟩=some (.bool true)) (fa:w.frozen? ⟨pa,0,none⟩=false) :
  Calls Tryz.prog 144 #[.int .i64 uu,.pointer (some ⟨pb,0,none⟩),.pointer (some ⟨pa,0,none⟩),.pointer (some ⟨po,0,none⟩)] w λe w'=>e=.returned (.int .i64 v)/\∃w1,aB w w1/\w'=w1.setCell ⟨pa,0,none⟩ (.int .i64 ((k+n:Nat):Int)):=by
 have CU:=Ac (yT b k ba bc w hk hb ac);rw[hR]at CU;unfold gC0 at CU;have jk:=World.block_lt_of_cell? w _ ca;obtain⟨K,hK⟩:=exq (k+n);simp only[<-hK]at CU ⊢;clear hR ac hK;have wm:IntKind.u64.wrap (uu:Int)=uu:=by simp[Ak,Al,Ag];omega
 have wv:IntKind.i64.wrap (v:Int)=v:=by simp[Ak,Al,Ag];omega
 have hvm:¬(uu:Int)<v:=by omega
 go_enter Tryz.func144,Tryz.ntmps144
 go_wp2_with fail
 refine CU.out.mono ?_;rintro e w1 ⟨rfl,an⟩;have ca1:=an.cell ca;have co1:=an.cell co;have fa1:=(an.froz (p:=⟨pa,0,none⟩) jk).trans fa;go_wp2_with fail
 go_ret;exact⟨rfl,w1,an,rfl⟩
theorem dG0 (l:List UInt8) (a:Option Addr) (c:Nat) (w:World) (hl:l.length<=1099511627776) (hn:a=none->c=0) (ac:aG w a 1 (l.map aY)) :
  Calls Tryz.prog 147 #[.slice a l.length c] w λe w'=>∃v,e=.returned v/\aX w' w.heap.size 5 1 aY v l/\aB w w':=by
 cases a with
 | none =>
  have s9:l=[]:=Decidable.byContradiction λh=>by
   obtain⟨_,_,e,_⟩:=ac (by simpa using h);cases e
  subst s9;obtain rfl:=hn rfl;have acl:∀W:World,(binOp .eql 28 (.slice none 0 0) (.slice none 0 0)).run Tryz.prog W=.ok (.bool true) W:=λW=>by rfl
  go_enter Tryz.func147,Tryz.ntmps147
  go_wp2_with fail
  go_ret;exact⟨_,rfl,aX.nil _ _ _ _ _,aB.refl _⟩
 | some q =>
  have HSRC:=Ac (ac.grows (aB.alloc w (.cells #[] 5)));clear ac hn;have acl:∀W:World,(binOp .eql 28 (.slice (some q) l.length c) (.slice none 0 0)).run Tryz.prog W=.ok (.bool false) W:=λW=>by rfl
  go_enter Tryz.func147,Tryz.ntmps147
  go_wp2_with (at_builtin;refine tG bJ rfl _ _ rfl w.heap.size _ [] l rfl (yQ w.heap.size (Am _)) (aB.refl _) (some q) c rfl HSRC.out (λh=>by cases h) (by simp;omega) (by simp) ?_;intro v' w3 au ax)
  rw[Az]at au;have nl:=ax w (aB.alloc _ _) (Am _);go_wp2_with fail
  go_ret;exact⟨_,rfl,au,nl⟩
theorem mH (l m:List UInt8) (a b:Option Addr) (c d:Nat) (w:World) (h1:aG w a 1 (l.map aY)) (h2:aG w b 1 (m.map aY)) :
  Calls Tryz.prog 76 #[.slice a l.length c,.slice b m.length d] w λe w'=>e=.returned (.bool (decide (l=m)))/\w=w':=by
 have v1:(convert 28 9 (.slice a l.length c)).run Tryz.prog w=.ok (.string (mkB l)) w:=yK h1;have v2:(convert 28 9 (.slice b m.length d)).run Tryz.prog w=.ok (.string (mkB m)) w:=yK h2;by_cases h:l=m
 ·have e1:((mkB l).toList==(mkB m).toList)=true:=by rw[h];simp
  have HH:=Ac h;clear h;go_enter Tryz.func76,Tryz.ntmps76
  go_wp2_with fail
  go_ret;exact⟨by simp[HH.out],rfl⟩
 ·have e1:((mkB l).toList==(mkB m).toList)=false:=by
   rw[beq_eq_false_iff_ne];intro he;exact h (by have:=congrArg (·.data.toList) (kO he);simpa [jM] using this)
  have HH:=Ac h;clear h;go_enter Tryz.func76,Tryz.ntmps76
  go_wp2_with fail
  go_ret;exact⟨by simp[HH.out],rfl⟩
end
section
open Go Go.RowKit
attribute [local go_sem] aO aM
def pO (l:List Nat) (W k q:Nat):List Nat:=(Ca q).map λQ=>fU (λp=>decide (p<8*k)&&bitAt l W p) (64*Q) 64
theorem nE (l:List Nat) (W k q:Nat):(pO l W k q).length=q:=by simp[pO]
theorem qV {l:List Nat} {W k q Q:Nat} (h:Q<q):(pO l W k q)[Q]?=some (fU (λp=>decide (p<8*k)&&bitAt l W p) (64*Q) 64):=by
 unfold pO;rw[Bk,List.getElem?_range h];rfl
theorem wI0 (f:Nat->Bool) (b k:Nat) (h:∀t,t<k->f (b+t)=false):fU f b k=0:=by
 symm
 exact iM (Nat.two_pow_pos _) λt ht=>by rw[h t ht];simp
theorem oS0 (l:List Nat) (W q:Nat):pO l W 0 q=List.replicate q 0:=by
 apply Bo
 intro i;by_cases h:i<q
 ·rw[qV h,List.getElem?_replicate_of_lt h,wI0 _ _ _ (λt _=>by simp)]
 ·rw[Aq (by rw[nE];omega),Aq (by simp;omega)]
theorem vM0 {l:List Nat} {W p:Nat} (hl:∀x∈l,x<2^W) (h:l.length*W<=p):bitAt l W p=false:=by
 by_cases hW:W=0
 ·subst hW
  unfold bitAt
  have:l.getD (p/0) 0=0:=by
   rw[List.getD_eq_getElem?_getD]
   cases hx:l[p/0]? with
   | none=>rfl
   | some x=>have:=hl x (Ad hx);simp at this;simp[this]
  rw[this];simp
 ·exact zZ (by omega) h
theorem wF0 {l:List Nat} {W k q:Nat} (hl:∀x∈l,x<2^W) (h:l.length*W<=8*k):pO l W k q=eI l W q:=by
 unfold pO eI gZ;apply List.map_congr_left
 intro Q _;apply lI
 intro t _;by_cases hp:64*Q+t<8*k
 ·simp[hp]
 ·rw[vM0 hl (by omega)];simp
theorem vC0 {l:List Nat} {W k t:Nat} (ht:t<64) :
  (fU (λp=>decide (p<8*k)&&bitAt l W p) (64*(k/8)) 64|||(fU (bitAt l W) (8*k) 8<<<(k%8*8))%18446744073709551616).testBit t=(decide (64*(k/8)+t<8*(k+1))&&bitAt l W (64*(k/8)+t)):=by
 rw[Nat.testBit_or,dK,gY0 ht,dK];generalize hB:bitAt l W=B;by_cases h1:t<k%8*8
 ·have e1:64*(k/8)+t<8*k:=by omega
  have e2:¬k%8*8<=t:=by omega
  have e3:64*(k/8)+t<8*(k+1):=by omega
  rw[decide_eq_true ht,decide_eq_true e1,decide_eq_false e2,decide_eq_true e3,Ax,Bv,Bf,Bf]
 ·have e1:¬64*(k/8)+t<8*k:=by omega
  have e2:k%8*8<=t:=by omega
  rw[decide_eq_true ht,decide_eq_false e1,decide_eq_true e2,Ax,Bool.and_false,Bool.false_or,Bf];by_cases h2:t<k%8*8+8
  ·have e3:t-k%8*8<8:=by omega
   have e4:64*(k/8)+t<8*(k+1):=by omega
   have e5:8*k+(t-k%8*8)=64*(k/8)+t:=by omega
   rw[decide_eq_true e3,decide_eq_true e4,e5]
  ·have e3:¬t-k%8*8<8:=by omega
   have e4:¬64*(k/8)+t<8*(k+1):=by omega
   rw[decide_eq_false e3,decide_eq_false e4,Ax,Ax]
theorem oJ0 {l:List Nat} {W k q:Nat} (hq:k/8<q) :
  pO l W (k+1) q=(pO l W k q).set (k/8) (fU (λp=>decide (p<8*k)&&bitAt l W p) (64*(k/8)) 64|||(fU (bitAt l W) (8*k) 8<<<(k%8*8))%18446744073709551616):=by
 apply Bo
 intro i;by_cases hi:i<q
 ·rw[qV hi]
  by_cases he:k/8=i
  ·rw[<-he,List.getElem?_set_self (by rw[nE];exact hq)]
   refine congrArg some ?_;symm
   exact iM (Bp (n:=64) (kJ _ _ 64) (Nat.mod_lt _ (by decide))) λt ht=>vC0 ht
  ·rw[List.getElem?_set_ne he,qV hi]
   refine congrArg some ?_;apply lI
   intro t ht;generalize bitAt l W=B;by_cases h1:64*i+t<8*k
   ·have h2:64*i+t<8*(k+1):=by omega
    rw[decide_eq_true h1,decide_eq_true h2]
   ·have h2:¬64*i+t<8*(k+1):=by omega
    rw[decide_eq_false h1,decide_eq_false h2]
 ·rw[Aq (by rw[nE];omega),Aq (by rw[List.length_set,nE];omega)]
theorem uQ (a b:Nat) (ha:a<4611686018427387904) (hb:b<4611686018427387904):bits .or .i64 (a:Int) (b:Int)=((a|||b:Nat):Int):=by
 have hx:a|||b<2^62:=Bp (by omega) (by omega)
 show IntKind.i64.wrap ((BitVec.ofInt 64 (a:Int)|||BitVec.ofInt 64 (b:Int)).toNat:Int)=_
 rw[BitVec.toNat_or,ofInt_u64 a (by omega),ofInt_u64 b (by omega)];generalize a|||b=x at hx
 simp[Ak,Al,Ag];omega
theorem oC0 {a c k:Nat} (h:a<2^k):a|||(c*2^k)=a+c*2^k:=by
 rw[Nat.or_comm,Nat.mul_comm,<-Nat.two_pow_add_eq_or_of_lt h,Nat.add_comm]
theorem nS1 {b0 b1 b2 b3:Nat} (h0:b0<256) (h1:b1<256) (h2:b2<256) (h3:b3<256) :
  bits .or .i64 (b0:Int) ((b1*256:Nat):Int)=((b0+b1*256:Nat):Int)/\bits .or .i64 ((b0+b1*256:Nat):Int) ((b2*65536:Nat):Int)=((b0+b1*256+b2*65536:Nat):Int) /\
  bits .or .i64 ((b0+b1*256+b2*65536:Nat):Int) ((b3*16777216:Nat):Int)=((b0+b1*256+b2*65536+b3*16777216:Nat):Int):=by
 refine⟨?_,?_,?_⟩
 ·rw[uQ _ _ (by omega) (by omega),show b1*256=b1*2^8 from rfl,oC0 (by omega)]
 ·rw[uQ _ _ (by omega) (by omega),show b2*65536=b2*2^16 from rfl,oC0 (by omega)]
 ·rw[uQ _ _ (by omega) (by omega),show b3*16777216=b3*2^24 from rfl,oC0 (by omega)]
theorem iE {x:Nat} (h:x<4611686018427387904):IntKind.i64.wrap (x:Int)=x:=by simp[Ak,Al,Ag]; omega
theorem zM0 {b0 b1 b2 b3 n:Nat} (h0:b0<256) (h1:b1<256) (h2:b2<256) (h3:b3<256) (hn:n=b0+b1*256+b2*65536+b3*16777216) :
  ∃c1 c2 c3 s1 s2:Nat,IntKind.i64.wrap ((b1:Int)*256)=(c1:Int)/\IntKind.i64.wrap ((b2:Int)*65536)=(c2:Int)/\IntKind.i64.wrap ((b3:Int)*16777216)=(c3:Int) /\
   bits .or .i64 (b0:Int) (c1:Int)=(s1:Int)/\bits .or .i64 (s1:Int) (c2:Int)=(s2:Int)/\bits .or .i64 (s2:Int) (c3:Int)=(n:Int):=by
 obtain⟨o1,o2,o3⟩:=nS1 h0 h1 h2 h3;refine⟨b1*256,b2*65536,b3*16777216,b0+b1*256,b0+b1*256+b2*65536,?_,?_,?_,o1,o2,?_⟩
 ·have:=iE (x:=b1*256) (by omega)
  rwa [Bb]at this
 ·have:=iE (x:=b2*65536) (by omega)
  rwa [Bb]at this
 ·have:=iE (x:=b3*16777216) (by omega)
  rwa [Bb]at this
 ·rw[o3,hn]
theorem uJ0 (l:List Nat):∃b0 b1 b2 b3:Nat,packE l=[Aj b0,Aj b1,Aj b2,Aj b3,Aj (oV l)]++cN0 l/\b0<256/\b1<256/\b2<256/\b3<256/\(l.length<4294967296->l.length=b0+b1*256+b2*65536+b3*16777216):=by
 refine⟨l.length%256,l.length/256%256,l.length/65536%256,l.length/16777216%256,?_,by omega,by omega,by omega,by omega,λh=>by omega⟩;unfold packE leB;simp[Ca,List.range.loop,bT0]
end
end Go.Proofs.YthgklnohcmaopaaGreatDoor
