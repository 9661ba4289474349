/- The texts oV1 W14P W15 PosE W14 CrcW SecW SecJ RefX Bid SecP PosD SecC PkDP, one behind the other. -/
import Derived.Test.YtaogeadljgjpcaaGreatDoorRq3
import Derived.Test.YtaogeadljgjpcaaGreatDoorRq8
import Derived.Test.YtaogeadljgjpcaaGreatDoorRq38
import Derived.Test.YtaogeadljgjpcaaGreatDoorRq21
import Derived.Test.YtaogeadljgjpcaaGreatDoorRq4
import Derived.Test.YtaogeadljgjpcaaGreatDoorRq20
import Derived.Test.YtaogeadljgjpcaaGreatDoorRq7
import Derived.Test.YtaogeadljgjpcaaGreatDoorRq11
import Derived.Maps.Own
import Derived.Carry
import Derived.Lib.SlBytesConst
import Derived.Test.YtaogeadljgjpcaaGreatDoorRq12
import Derived.Test.YtaogeadljgjpcaaGreatDoorRq22
import Derived.Test.YtaogeadljgjpcaaGreatDoorRq24
import Derived.Test.YtaogeadljgjpcaaGreatDoorRq25
import Derived.Test.YtaogeadljgjpcaaGreatDoorRq23
open List renaming length_append → Aa,append_assoc → Ab,mem_of_getElem? → Ac,getElem?_eq_getElem → Ae,flatMap_append → Ag,take_append_drop → Aj,take_length → Ao,eq_nil_of_length_eq_zero → Ap,take_of_length_le → Aq,getElem?_eq_none → Ar,flatMap_cons → As,length_cons → Au,drop_eq_getElem_cons → Av,length_take → Aw,mem_of_mem_take → Ax,drop_left' → Az,nil_append → Bc,map_cons → Bg,getElem?_map → Bo,take_add_one → Bp,ext_getElem? → Bq,length_nil → Bs,any_append → Bt,take_left' → Bu,drop_zero → Bv,drop_drop → Bw,drop_left → By,any_map → Cc,range → Cf
open Go.Lib renaming hid → Ad,decodeL_ascii → Bj,decodeL_N → Bz,decodeL → Ce
open Nat renaming lt_of_lt_of_le → Af,le_refl → Ai,zero_le → At,mul_le_mul_right → Ay,xor_lt_two_pow → Bi,succ_mul → Bk,or_lt_two_pow → Br,lt_or_ge → Cb,le_of_eq → Cd
open Go.IntKind renaming signed → Ah,wrap → Al,bits → Am
open UInt8 renaming ofNat → Ak,toNat_lt → Bf
open Bool renaming and_eq_true → An,false_and → Ba,true_and → Bh,or_false → Ca
open Go.World renaming cell?_setCell_other → Bb,frozen?_setCell → Be
open Int renaming natCast_mul → Bd,toNat_natCast → Bn
set_option maxHeartbeats 8000000
namespace Go.Proofs.YtaogeadljgjpcaaGreatDoor
set_option maxRecDepth 100000
section
open Go Go.RowKit
attribute [local go_sem] aQ
theorem tZ:∀(n:Nat) (l:List UInt8),l.length<=n->(∃b∈l,128<=b.toNat)->∃c∈bD l,128<=c
 | 0,l,hl,⟨b,hb,_⟩=>by
  have:l=[]:=Ap (by omega)
  subst this;cases hb
 | n+1,l,hl,⟨b,hb,zv⟩=>by
  cases l with
  | nil=>cases hb
  | cons x r =>
   rw[jB _ (by simp)];by_cases hx:x.toNat<128
   ·rw[Bj x r hx]
    rcases List.mem_cons.1 hb with rfl|hb
    ·omega
    ·obtain⟨c,hc,hcg⟩:=tZ n r (by simp at hl;omega) ⟨b,hb,zv⟩
     exact⟨c,List.mem_cons_of_mem _ hc,hcg⟩
   ·refine⟨_,List.mem_cons_self,?_⟩
    by_cases gv:(Ce (x::r)).1=65533/\(Ce (x::r)).2=1
    ·rw[gv.1];decide
    ·have hs:=eS0 (x::r).length ((x::r).getD 0 0).toNat ((x::r).getD 1 0).toNat ((x::r).getD 2 0).toNat ((x::r).getD 3 0).toNat (Bf _) (Bf _) (Bf _) (by rw[<-Bz];exact gv)
     rw[<-Bz]at hs;rcases hs with ⟨h,_⟩|⟨_,_,_,_,_,_,h⟩
     ·exact absurd h (by simpa using hx)
     ·exact h
theorem rQ:∀(n:Nat) (l:List UInt8),l.length<=n->(∀b∈l,b.toNat<128)->bD l=l.map (·.toNat)
 | 0,l,hl,_=>by
  have:l=[]:=Ap (by omega)
  subst this;rfl
 | n+1,l,hl,h=>by
  cases l with
  | nil=>rfl
  | cons x r =>
   rw[jB _ (by simp),Bj x r (h x (by simp)),Bg];simp only[List.drop_succ_cons,Bv];rw[rQ n r (by simp at hl;omega) (λb hb=>h b (by simp[hb]))]
theorem tG {c:Nat} (h:128<=c):nameBad c=true:=by unfold nameBad; simp; omega
theorem sQ0 (l:List UInt8):(bD l).any nameBad=l.any λb=>nameBad b.toNat:=by
 by_cases h:∃b∈l,128<=b.toNat
 ·obtain⟨c,hc,hg⟩:=tZ _ l (Ai _) h
  obtain⟨b,hb,hbg⟩:=h;rw[List.any_eq_true.2 ⟨c,hc,tG hg⟩,List.any_eq_true.2 ⟨b,hb,tG hbg⟩]
 ·rw[rQ _ l (Ai _) (λb hb=>by
   rcases Cb b.toNat 128 with h1|h1
   ·exact h1
   ·exact absurd ⟨b,hb,h1⟩ h),Cc]
  rfl
theorem iT0 (s:ByteArray):xB s=(decide (1<=s.size)&&decide (s.size<=16) && !(s.data.toList.any λb=>nameBad b.toNat)):=by
 rw[dO1,sQ0];congr 2
 rw[Lib.toList_data,Lib.size_eq];cases s.data.toList<;>simp
end
section
open Go Go.RowKit
def nE0 (c:Nat):Bool:=decide (c<97)||decide (122<c)
def azS (s:ByteArray):Bool:=decide (1<=s.size)&&decide (s.size<=16) && !(s.data.toList.any λb=>nE0 b.toNat)
theorem cG1 {p:Nat->Bool} (hp:∀c,128<=c->p c=true) (l:List UInt8):(bD l).any p=l.any λb=>p b.toNat:=by
 by_cases h:∃b∈l,128<=b.toNat
 ·obtain⟨c,hc,hg⟩:=tZ _ l (Ai _) h
  obtain⟨b,hb,hbg⟩:=h;rw[List.any_eq_true.2 ⟨c,hc,hp c hg⟩,List.any_eq_true.2 ⟨b,hb,hp _ hbg⟩]
 ·rw[rQ _ l (Ai _) (λb hb=>by
   rcases Cb b.toNat 128 with h1|h1
   ·exact h1
   ·exact absurd ⟨b,hb,h1⟩ h),Cc]
  rfl
theorem mH0 {c:Nat} (h:128<=c):nE0 c=true:=by unfold nE0; simp; omega
structure bE where
 name:ByteArray
 data:List UInt8
 a:Option Addr
 c:Nat
def lE (p:bE):List Value:=[.string p.name,.slice p.a p.data.length p.c]
structure jE (w:World) (l:List bE):Prop where
 at_:∀p∈l,aG w p.a 1 (p.data.map aZ)
 none_:∀p∈l,p.a=none->p.c=0
 name:∀p∈l,p.name.size<=1099511627776
 data:∀p∈l,p.data.length<=1099511627776
theorem jE.grows {w w':World} {l:List bE} (h:jE w l) (hg:aB w w'):jE w' l:=⟨λp hp=>(h.at_ p hp).grows hg,h.none_,h.name,h.data⟩
def kU (l:List bE):Nat:=(l.map λp=>p.data.length).sum
theorem tV0 (l:List bE) (p:bE):kU (l++[p])=kU l+p.data.length:=by simp[kU]
theorem gC1 {l:List bE} {n:Nat} (h:∀p∈l,p.data.length<=n):kU l<=l.length*n:=by
 unfold kU
 induction l with
 | nil=>simp
 | cons p l ih =>
  rw[Bg,List.sum_cons,Au,Bk]
  have:=ih (λq hq=>h q (by simp[hq]))
  have:=h p (by simp)
  omega
def xM:List bE->List ByteArray->Bool
 | [],_=>false
 | p::l,seen=>(seen.any λs=>seq s p.name)||xM l (seen++[p.name])
def vZ0 (l:List bE):Bool:=xM l []
def fJ (l:List bE):Nat:=if 64<l.length\/16777216<kU l then 2 else if (l.any λp => !azS p.name)=true then 1 else if vZ0 l=true then 4 else 0
def dH (l:List bE):List UInt8:=l.flatMap λp=>rT p.name++putU p.data.length
def dK (l:List bE):List UInt8:=l.flatMap λp=>p.data
def dF (l:List bE):List UInt8:=([72,78,75,49]++putU l.length)++dH l++dK l
def file14 (l:List bE):List UInt8:=dF l++leB 4 (crcSum (dF l))
def rQ0 (l:List bE) (w:World) (e:Ending) (w':World):Prop :=
 (fJ l=0->∃v,e=.returned (.tuple #[v,.int .i64 0])/\aV w' w.heap.size 5 1 aZ v (file14 l))/\(fJ l≠0->e=.returned (.tuple #[.slice none 0 0,.int .i64 (fJ l)]))/\aB w w'
theorem dE0 (l:List bE):(dK l).length=kU l:=by simp[dK,kU,List.length_flatMap]
theorem mD0 (l:List bE) (p:bE):dH (l++[p])=dH l++(rT p.name++putU p.data.length):=by simp[dH]
theorem mG0 (l:List bE) (p:bE):dK (l++[p])=dK l++p.data:=by simp[dK]
theorem cU1 {l:List bE} (h:(l.any λp => !azS p.name)=false):∀p∈l,p.name.size<=16:=λp hp=>by
 have:=List.any_eq_false.1 h p hp
 simp only[azS,Bool.not_eq_true',Bool.not_eq_false,An,decide_eq_true_eq]at this;simp at this;omega
theorem dV0 {l:List bE} (h:∀p∈l,p.name.size<=16):(dH l).length<=l.length*36:=by
 unfold dH
 induction l with
 | nil=>simp
 | cons p l ih =>
  rw[As,Aa,Aa,Au,Bk];have h1:=ih (λq hq=>h q (by simp[hq]));have h2:=h p (by simp);have h3:=sM p.name;have h4:=cT p.data.length;omega
theorem qA0 {l:List bE} (h:fJ l=0):l.length<=64/\kU l<=16777216/\(l.any λp => !azS p.name)=false/\vZ0 l=false:=by
 unfold fJ at h;split at h
 ·omega
 ·rename_i h1
  split at h
  ·omega
  ·rename_i h2
   split at h
   ·omega
   ·rename_i h3
    exact⟨by omega,by omega,by simpa using h2,by simpa using h3⟩
theorem sA0 {l:List bE} (h:fJ l=0):(dF l).length<=16800000:=by
 obtain⟨h1,h2,h3,_⟩:=qA0 h;have h4:=dV0 (cU1 h3);have h5:=dE0 l;have h6:=cT l.length;unfold dF;simp only[Aa,Au,Bs];omega
end
section
open Go Go.RowKit
attribute [local go_sem] aQ aM
def fM (p:cO):List UInt8:=rT p.name++putU p.kind.toNat
def posE (l:List cO):List UInt8:=putU l.length++l.flatMap fM
theorem kV0 (l:List cO) (p:cO):(l++[p]).flatMap fM=l.flatMap fM++fM p:=by simp
theorem vO0 {p:cO} (h:p.name.size<=16):(fM p).length<=40:=by
 have h1:=sM p.name;have h2:=cT p.kind.toNat;unfold fM;rw[Aa];omega
theorem zM {l:List cO} (h:∀p∈l,p.name.size<=16):(l.flatMap fM).length<=l.length*40:=by
 induction l with
 | nil=>simp
 | cons p l ih =>
  rw[As,Aa,Au,Bk];have h1:=ih (λq hq=>h q (by simp[hq]));have h2:=vO0 (h p (by simp));omega
theorem oB0 {s:ByteArray} (h:xB s=true):s.size<=16:=by
 rw[iT0]at h;simp only[An,decide_eq_true_eq]at h;exact h.1.2
theorem dL0 (L:List cO):∀(l:List cO) (i j:Nat) (p:cO),kQ L l i=true->l[j]?=some p->zO L (i+j) p=true
 | [],_,_,_,_,h=>by simp at h
 | q::l,i,0,p,h,hp=>by
  rw[kQ]at h;simp only[An]at h;obtain rfl:q=p:=by simpa using hp
  exact h.1
 | q::l,i,j+1,p,h,hp=>by
  rw[kQ]at h;simp only[An]at h
  have:=dL0 L l (i+1) j p h.2 (by simpa using hp)
  rw[show i+(j+1)=i+1+j by omega];exact this
theorem eV {l:List cO} (h:eE l=true):l.length<=64/\∀p∈l,p.name.size<=16/\0<=p.kind/\p.kind<=2:=by
 unfold eE at h
 cases l with
 | nil=>cases h
 | cons q r =>
  simp only[An,decide_eq_true_eq]at h;refine⟨by have:=h.1;simp at this ⊢;omega,λp hp=>?_⟩;obtain⟨j,hj⟩:=List.mem_iff_getElem?.1 hp
  have:=dL0 _ _ 0 j p h.2 hj
  unfold zO at this;simp only[An,decide_eq_true_eq]at this;exact⟨oB0 this.1.1.2,this.1.2,this.2⟩
theorem jM (xs:List UInt8) (a:Option Addr) (c n:Nat) (w:World) (hx:xs.length<=1099511627776) (hv:n<18446744073709551616) (ac:aG w a 1 (xs.map aZ)) (hn:a=none->c=0) :
  Calls Tryz.prog 178 #[.slice a xs.length c,.int .u64 n] w λe w'=>∃v,e=.returned v/\aV w' w.heap.size 5 1 aZ v (xs++putU n)/\aB w w':=by
 have CC:=Ad (kR0 xs a c w hx ac hn);clear ac hn;go_enter Tryz.func178,Tryz.ntmps178
 go_wp2_with fail
 refine CC.out.mono ?_;rintro e w1 ⟨v1,rfl,ar,aq⟩;obtain⟨a1,c1,rfl,z8,h12,cu⟩:=ar.at_ bI.len;have io:=cJ ar;go_wp2_with fail
 refine(qQ0 xs a1 c1 w1 z8).mono ?_;rintro e w2 ⟨rfl,rfl⟩;have fx:Src w1 w.heap.size (.slice a1 xs.length xs.length) xs:=Or.inr ⟨a1,rfl,cu,λh=>Ap (by have:=io h;omega)⟩;clear ar cu io CC;go_wp2_with fail
 go_loopw [0,1] (λb v wr=>∃(k:Nat) (pre:List UInt8),v=.int .u64 k/\Src wr w.heap.size b (xs++pre)/\Hid (pre++putU k=putU n)/\k<18446744073709551616/\aB w wr) (λ_ v _=>(intOf v).toNat)
 case atStart=>exact⟨n,[],rfl,by rw[List.append_nil];exact fx,rfl,hv,aq⟩
 case round =>
  obtain⟨k,pre,rfl,hs,hp,hk,hg⟩:=hrel
  have mm:pre.length<=10:=by
   have h1:=congrArg List.length hp.out;have h2:=cT n;rw[Aa]at h1;omega
  by_cases acm:128<=k
  ·have cn:(128:Int)<=k:=by omega
   have hb:=Ad (jE0 k);rw[sT acm hk]at hp;go_wp2_with (at_builtin;refine fN0 rfl _ _ rfl w.heap.size _ (xs++pre) (Ak (k%128+128)) rfl hs (aB.refl _) _ 1 rfl _ (by rw[hb.out];rfl) rfl (by rw[Aa];omega) hg.size ?_;intro v' w5 an bk)
   go_roundw
   case rel=>exact⟨k/128,pre++[Ak (k%128+128)],by go_num,Or.inl (by rw[<-Ab];exact an),by show (pre++[_])++putU (k/128)=putU n;rw[Ab];exact hp.out,by omega,bk w hg (Ai _)⟩
   case measure=>simp[intOf];omega
  ·have cn:¬(128:Int)<=k:=by omega
   have hb:=Ad (xG0 (k:=k) (by omega));rw[kM (by omega)]at hp;go_wp2_with (at_builtin;refine fN0 rfl _ _ rfl w.heap.size _ (xs++pre) (Ak k) rfl hs (aB.refl _) _ 1 rfl _ (by rw[hb.out];rfl) rfl (by rw[Aa];omega) hg.size ?_;intro v' w5 an bk)
   go_ret;refine⟨_,rfl,?_,bk w hg (Ai _)⟩;rw[<-hp.out,<-Ab];exact an
theorem bJ0 (xs:List UInt8) (a:Option Addr) (c:Nat) (s:ByteArray) (w:World) (hx:xs.length<=1099511627776) (hs:s.size<=1099511627776) (ac:aG w a 1 (xs.map aZ)) (hn:a=none->c=0) :
  Calls Tryz.prog 179 #[.slice a xs.length c,.string s] w λe w'=>∃v,e=.returned v/\aV w' w.heap.size 5 1 aZ v (xs++rT s)/\aB w w':=by
 have hl:=cT s.size;have hw:IntKind.u64.wrap (s.size:Int)=s.size:=by simp[Al,Am,Ah];omega
 have CU:=Ad (jM xs a c s.size w hx (by omega) ac hn);clear ac hn;go_enter Tryz.func179,Tryz.ntmps179
 go_wp2_with fail
 refine CU.out.mono ?_;rintro e w1 ⟨v1,rfl,ar,aq⟩;go_wp2_with (at_builtin;refine mZ1 rfl _ _ rfl w.heap.size _ _ s rfl ar (aB.refl _) rfl (by rw[Aa];omega) aq.size ?_;intro v2 w2 ai af _)
 go_ret;exact⟨_,rfl,by unfold rT;rw[<-Ab];exact ai,af w aq (Ai _)⟩
theorem sE0 (l:List cO) (a:Option Addr) (c:Nat) (w:World) (hv:eE l=true) (ac:aG w a 2 (l.map bN)) :
  Calls Tryz.prog 108 #[.slice a l.length c] w λe w'=>∃v,e=.returned (.tuple #[v,.int .i64 0])/\aV w' w.heap.size 5 1 aZ v (posE l)/\aB w w':=by
 obtain⟨acu,ax⟩:=eV hv;have HALL:=Ad ax;have CC:=Ad (bF0 l a c w ac (by omega));rw[hv]at CC;have HAT:=Ad ac;have hul:=cT l.length;have qe:IntKind.u64.wrap (l.length:Int)=l.length:=by simp[Al,Am,Ah];omega
 have nt:qH1 true=0:=rfl;rw[nt]at CC;clear ax ac hv nt;go_enter Tryz.func108,Tryz.ntmps108
 go_wp2_with fail
 refine CC.out.mono ?_;rintro e w1 ⟨rfl,aq⟩;go_wp2_with fail
 refine(jM [] none 0 l.length w1 (by simp) (by omega) (aG.nil _ _ _) (λ_=>rfl)).mono ?_;rintro e w2 ⟨v2,rfl,ai,af⟩;rw[Bc]at ai;have ew:=aq.tr af;replace ai:=ai.base (base':=w.heap.size) aq.size;clear aq af CC;go_wp2_with fail
 go_loopw [5,19] (λout i wr=>∃(k:Nat) (bz:List UInt8),k<=l.length/\i=.int .i64 k/\Hid (bz=putU l.length++(l.take k).flatMap fM)/\aV wr w.heap.size 5 1 aZ out bz/\aB w wr) (λ_ i _=>l.length-(intOf i).toNat)
 case atStart=>exact⟨0,_,At _,rfl,(by show _=_;simp),ai,ew⟩
 case round =>
  obtain⟨k,bz,hk,rfl,cd,aa,hg⟩:=hrel
  have og:bz.length<=10+k*40:=by
   rw[cd.out,Aa];have h1:=zM (l:=l.take k) (λp hp=>(HALL.out p (Ax hp)).1);rw[Aw]at h1;have h2:min k l.length*40<=k*40:=Ay _ (by omega);omega
  by_cases ae:k<l.length
  ·obtain⟨p,hp⟩:∃p,l[k]?=some p:=⟨_,Ae ae⟩
   obtain⟨b,o,rfl,hc⟩:=aG.get (enc:=bN) HAT.out (aK ae);obtain⟨pn,pk⟩:=p;have c0:wr.cell? ⟨b,o+k*2,none⟩=some (.string pn):=hg.cell (hc k _ hp 0 _ rfl);have c1:wr.cell? ⟨b,o+k*2+1,none⟩=some (.int .i64 pk):=hg.cell (hc k _ hp 1 _ rfl);obtain⟨ur,nt,jq⟩:=HALL.out _ (Ac hp);simp only at ur nt jq;obtain⟨kd,rfl⟩:∃kd:Nat,pk=kd:=⟨pk.toNat,by omega⟩;have ahk:=sM pn;have ahl:=cT kd;have hwk:IntKind.u64.wrap (kd:Int)=kd:=by simp[Al,Am,Ah];omega
   have HN:Hid ((bz++rT pn)++putU kd=putU l.length++(l.take (k+1)).flatMap fM):=by
    show _=_
    rw[bM hp,kV0,cd.out];simp only[Ab,fM,Bn]
   have cn:(k:Int)<l.length:=by omega
   have z0:∀x:Ext aB (wr.alloc (.cells #[.string pn,.int .i64 kd] 110)).drew,x.u.cell? ⟨wr.heap.size,0,none⟩=some (.string pn):=aF (aT wr _ _ (0,0) 0 _ rfl);have z1:∀x:Ext aB (wr.alloc (.cells #[.string pn,.int .i64 kd] 110)).drew,x.u.cell? ⟨wr.heap.size,1,none⟩=some (.int .i64 kd):=aF (aT wr _ _ (0,0) 1 _ rfl);obtain⟨ao,co,rfl,_,_,acv⟩:=aa.at_ bI.len;have im:=cJ aa;have ko:aB wr (wr.alloc (.cells #[.string pn,.int .i64 kd] 110)):=aB.alloc _ _;clear hp cd hc aa;go_wp2_with fail
   refine bK (oK [0,1,2,4,5,6,3,7,8] [3,7,8]) (by kernel_rfl) (λd _ _ _ _ h=>by cases d<;>exact h) ?_
   iterate 6 (refine aH rfl (λK hK=>?_);go_simp;refine hK _ ?_;clear hK K)
   clear z0 z1;refine bJ rfl rfl (λK hK=>?_);go_simp;refine(bJ0 bz ao co pn _ (by omega) (by omega) (acv.grows (ko.dr)) im).mono ?_;rintro e w3 ⟨v3,rfl,au,ay⟩;obtain⟨B3,iz⟩:=exq (bz++rT pn);rw[<-iz]at au;have iv:B3.length<=10000:=(by rw[iz,Aa];omega);have HB3:=Ad iz;clear iz;obtain⟨a3,c3,rfl,_,_,fq⟩:=au.at_ bI.len;have rj:=cJ au;clear au;refine⟨ay,hK _ _ ?_⟩;clear hK K;refine bJ rfl rfl (λK hK=>?_);go_simp;refine(jM B3 a3 c3 kd _ (by omega) (by omega) fq rj).mono ?_;rintro e w4 ⟨v4,rfl,dw,cp⟩;refine⟨cp,hK _ _ ?_⟩;clear hK K;iterate 1 (refine bJ rfl rfl (λK hK=>?_);go_simp;refine⟨aB.refl _,hK _ _ ?_⟩;clear hK K)
   refine bQ ?_;have vw:=hg.tr ((ko.dr).tr ay);go_wp2_with fail
   go_roundw
   case rel=>exact⟨k+1,_,ae,by go_num,(by show _=_;rw[<-HN.out,HB3.out]),dw.base vw.size,vw.tr cp⟩
   case measure=>simp[intOf];omega
  ·have cn:¬(k:Int)<l.length:=by omega
   have HF:Hid (bz=posE l):=by
    show _=_
    rw[cd.out,Aq (by omega)];rfl
   clear cd;go_wp2_with fail
   refine bodyPost_ret (v:=.tuple #[_,.int .i64 0]) (by simp[results,Tryz.results108,go_sem];rfl) rfl ⟨_,rfl,by rw[<-HF.out];exact aa,hg⟩
theorem wT0 (n:Nat) (hn:n<4294967296):(#[Value.int .u8 ((n:Int)%256),.int .u8 ((n:Int)/256%256),.int .u8 ((n:Int)/65536%256),.int .u8 ((n:Int)/16777216)]:Array Value).toList=(leB 4 n).flatMap aZ:=by
 have h:leB 4 n=[Ak n,Ak (n/256),Ak (n/65536),Ak (n/16777216)]:=by
  unfold leB;simp[List.range_succ]
 rw[h,qI];simp only[Bg,List.map_nil,UInt8.toNat_ofNat'];rw[Nat.mod_eq_of_lt (show n/16777216<2^8 by omega)]
 congr 1
end
section
open Go Go.RowKit Go.Shelf
attribute [local go_sem] aQ aM
theorem rL0 {R q:Nat} (hR:R<4294967296) (hq:crc4 R=R/16 ^^^ q) (hql:q<4294967296):bits .xor .u32 ((R:Int)/16) (q:Int)=((crc4 R:Nat):Int):=by
 have h:=u32_xor_nat (R/16) q (by omega) hql;rw[hq,<-h];rfl
theorem dZ0:∀(i q:Nat),kI[i]?=some q->q<4294967296:=by
 intro i q h;have h1:=Ac h;simp[kI]at h1;omega
theorem jU1 {R:Nat} (hR:R<4294967296):bits .and .u32 (R:Int) 15=((R%16:Nat):Int):=by
 have h:=u32_and_nat R 15 hR (by decide);rw[nat_mask4]at h;exact h
theorem sD0 (b:List UInt8) (a:Option Addr) (c:Nat) (w:World) (he:Env w) (hb:b.length<=1099511627776) (ac:aG w a 1 (b.map aZ)) :
  Calls Tryz.prog 233 #[.int .u32 0,.slice a b.length c] w λe w'=>e=.returned (.int .u32 (crcSum b))/\w=w':=by
 have HAT:=Ad ac;clear ac;go_enter Tryz.func233,Tryz.ntmps233
 go_wp2_with fail
 go_loop [5,12] (λr i=>∃k R:Nat,k<=b.length/\i=.int .i64 k/\r=.int .u32 R/\R<4294967296/\Hid (R=jC0 4294967295 (b.take k))) (λ_ i=>b.length-(intOf i).toNat)
 case atStart=>exact⟨0,4294967295,At _,rfl,rfl,by decide,rfl⟩
 case round =>
  obtain⟨k,R,hk,rfl,rfl,hR,cw⟩:=hrel;by_cases ae:k<b.length
  ·obtain⟨x,hx⟩:∃x,b[k]?=some x:=⟨_,Ae ae⟩
   obtain⟨bb,bo,rfl,hc⟩:=at1 HAT.out (aK ae);have gq:=hc k x hx;have HN:Hid (qG1 (R ^^^ x.toNat)=jC0 4294967295 (b.take (k+1))):=by show _=_;rw[bM hx,cS0,<-cw.out]
   have aiw:=x.toNat_lt;have hxo:=u32_xor_nat R x.toNat hR (by omega);obtain⟨X,hX⟩:=exq (R ^^^ x.toNat);have hXl:X<4294967296:=by rw[hX];exact Bi (n:=32) hR (by omega)
   rw[<-hX]at hxo HN;obtain⟨q1,hq1,ed⟩:=cQ0 X;obtain⟨Y,hY⟩:=exq (crc4 X);have hYl:Y<4294967296:=by rw[hY];exact fZ0 hXl
   have e1:=rL0 hXl ed (dZ0 _ _ hq1);rw[<-hY]at e1;obtain⟨q2,sg,ev⟩:=cQ0 Y;obtain⟨Z,hZ⟩:=exq (crc4 Y);have hZl:Z<4294967296:=by rw[hZ];exact fZ0 hYl
   have e2:=rL0 hYl ev (dZ0 _ _ sg);rw[<-hZ]at e2;have HN2:Hid (Z=jC0 4294967295 (b.take (k+1))):=by show _=_;rw[hZ,hY,<-HN.out];rfl
   have a1:=jU1 hXl;have a2:=jU1 hYl;obtain⟨i1,zi⟩:=exq (X%16);obtain⟨i2,ji⟩:=exq (Y%16);rw[<-zi]at a1 hq1;rw[<-ji]at a2 sg;have g1:=he.crc i1 q1 hq1;have g2:=he.crc i2 q2 sg;have l1:(i1:Int)<16:=by omega
   have l2:(i2:Int)<16:=by omega
   clear hc hx cw hX hY hZ hq1 sg ed ev HN zi ji;go_wp2_with fail
   go_round
   case rel=>exact⟨k+1,Z,ae,by go_num,rfl,hZl,HN2.out⟩
   case measure=>simp[intOf];omega
  ·have jt:k=b.length:=by omega
   have cn:¬(k:Int)<b.length:=by omega
   have ck:R ^^^ 4294967295=crcSum b:=by rw[cw.out,jt,Ao];rfl
   have hx:bits .xor .u32 IntKind.u32.max (R:Int)=((crcSum b:Nat):Int):=by
    rw[<-ck,Nat.xor_comm];exact u32_xor_nat 4294967295 R (by decide) hR
   clear cw jt ck;go_wp2_with fail
   go_ret;exact⟨rfl,rfl⟩
theorem vA0 (b:List UInt8) (a:Option Addr) (c:Nat) (w:World) (he:Env w) (hb:b.length<=1099511627776) (ac:aG w a 1 (b.map aZ)) :
  Calls Tryz.prog 188 #[.slice a b.length c] w λe w'=>e=.returned (.int .u32 (crcSum b))/\w=w':=by
 go_enter Tryz.func188,Tryz.ntmps188
 go_wp2_with fail
 refine(sD0 b a c w he hb ac).mono ?_;rintro e w1 ⟨rfl,rfl⟩;go_wp2_with fail
 go_ret;exact⟨rfl,rfl⟩
theorem wZ (b:List UInt8) (a:Option Addr) (c:Nat) (w:World) (he:Env w) (hb:b.length<=1099511627776) (ac:aG w a 1 (b.map aZ)) :
  Calls Tryz.prog 126 #[.slice a b.length c] w λe w'=>∃v,e=.returned v/\aV w' w.heap.size 5 1 aZ v (leB 4 (crcSum b))/\aB w w':=by
 have ci:crcSum b<4294967296:=Bi (n:=32) (qH0 _ (by decide)) (by decide);have CS:=Ad (vA0 b a c w he hb ac);obtain⟨n,hn⟩:=exq (crcSum b);rw[<-hn]at ci CS ⊢;have HH:=Ad (wT0 n ci);clear hn;go_enter Tryz.func126,Tryz.ntmps126
 go_wp2_with fail
 refine CS.out.mono ?_;rintro e w1 ⟨rfl,rfl⟩;go_wp2_with fail
 go_ret;exact⟨_,rfl,jI (enc:=aZ) (λ_=>rfl) (Ai _) (leB 4 n) HH.out (n:=4) (by simp[bP]) (by decide),aB.alloc _ _⟩
theorem mR0 (w:World):PredAt Tryz.prog 261 #[] encR nE0 w:=λW x _=>by
 unfold FnGives;show Calls Tryz.prog 261 #[.int .i32 (x:Int)] W _
 go_enter Tryz.func261,Tryz.ntmps261
 go_wp2
 all_goals (go_ret;refine⟨dD ?_,0,rfl⟩;rw[Bool.eq_iff_iff];simp[nE0];try omega)
theorem rT0 (s:ByteArray) (w:World) (hs:s.size<=9223372036854775807) :
  Calls Tryz.prog 228 #[.string s] w λe w'=>e=.returned (.bool (azS s))/\aB w w':=by
 have ij:=Ad (Tryz.strings_ContainsFunc 261 #[] (enters_of Tryz.func261 (by kernel_rfl) rfl) nE0 s w (mR0 w));rw[eB1,cG1 (λc h=>mH0 h)]at ij;unfold azS;generalize (s.data.toList.any λb=>nE0 b.toNat)=r at ij ⊢;by_cases h1:1<=s.size
 ·have g1:(1:Int)<=s.size:=by omega
  by_cases hz:s.size<=16
  ·have hz':(s.size:Int)<=16:=by omega
   go_enter Tryz.func228,Tryz.ntmps228
   go_wp2_with (go_at_call 207;refine ij.out.mono ?_;rintro e w' ⟨rfl,af⟩)
   go_ret;exact⟨dD (by simp[h1,hz]),af⟩
  ·have hz':¬(s.size:Int)<=16:=by omega
   go_enter Tryz.func228,Tryz.ntmps228
   go_wp2
   go_ret;exact⟨dD (by simp<;>omega),aB.refl _⟩
 ·have g1:¬(1:Int)<=s.size:=by omega
  go_enter Tryz.func228,Tryz.ntmps228
  go_wp2
  go_ret;exact⟨dD (by simp<;>omega),aB.refl _⟩
theorem tJ {H:Type} {P:Program} {e:TypeId} (he:P.underlying e=some .bool) {v:Value} {z:DataW H×List MemPlace} (h:plainElem P e v=some z):∃b,v=.bool b/\z=(.lit (.bool b),[]):=by
 unfold plainElem at h;rw[he]at h;cases v<;>simp at h
 exact⟨_,rfl,h.symm⟩
theorem pT1 (w:World):(zeroValue 4).run Tryz.prog w=.ok (.bool false) w:=by kernel_rfl
def dX1 (l:List ByteArray) (D:DataW Unit):Prop:=∀s:ByteArray,s.size<=maxLen->D.atKey (.string s.data.toList) (.lit (.bool false))=.lit (.bool (l.any λt=>seq t s))
theorem cE0 {w:World} {b n:Nat} {D:DataW Unit} {l:List ByteArray} (hM:dX1 l D) (aa:w.ownsMap Tryz.prog 9 (plainElem Tryz.prog 4) b n D) {s:ByteArray} (hs:s.size<=maxLen) :
  (Instr.lookup 295 (.map (some b)) (.string s) false).run Tryz.prog w=.ok (.bool (l.any λt=>seq t s)) w:=by
 obtain⟨v,ps,iw,hv⟩:=aa.lookup (Maps.string_keyed Tryz.underlying9) Tryz.underlying295 (pT1 w) (plainElem_bool Tryz.underlying4 false) (WideMaps.keyOf_string_mk Tryz.underlying9 hs);obtain⟨c,rfl,hc⟩:=tJ Tryz.underlying4 hv;simp only[Prod.mk.injEq]at hc;rw[hM s hs]at hc
 have:c=l.any λt=>seq t s:=by have:=hc.1;simpa using this.symm
 rw[<-this];exact iw
theorem yB0 {b n:Nat} {w:World} {D:DataW Unit} {l:List ByteArray} (hM:dX1 l D) (aa:w.ownsMap Tryz.prog 9 (plainElem Tryz.prog 4) b n D) (s:ByteArray):dX1 (l++[s]) (D.put (.string s.data.toList) (.lit (.bool true))):=λt ht=>by
 by_cases h:s=t
 ·subst h
  rw[Maps.atKey_put_same aa.isMap (k:=.string s.data.toList) trivial];simp[mW0]
 ·have aj:(Lit.string t.data.toList) ≠ .string s.data.toList:=λh2=>h (by
   injection h2 with h3
   exact mR h3.symm)
  rw[Maps.atKey_put_other aj,hM t ht,Bt]
  have:seq s t=false:=lE0.2 h
  simp[this]
theorem dC0:∀(l:List bE) (p:bE) (seen:List ByteArray),xM (l++[p]) seen=(xM l seen||(seen++l.map (·.name)).any λs=>seq s p.name)
 | [],p,seen=>by simp[xM]
 | q::l,p,seen=>by
  rw[List.cons_append,xM,dC0 l p (seen++[q.name]),xM];simp[Bool.or_assoc,Ab]
theorem xS0 (l:List bE) (a:Option Addr) (c:Nat) (w:World) (hl:l.length<=1000000) (ac:aG w a 2 (l.map lE)) (jn:jE w l) :
  Calls Tryz.prog 182 #[.slice a l.length c] w λe w'=>e=.returned (.int .i64 (fJ l))/\aB w w':=by
 have HD:=Ad jn.data;have HNM:=Ad jn.name;clear jn
 have bv:∀k p,l[k]?=some p->∃b o,a=some ⟨b,o,none⟩/\w.cell? ⟨b,o+k*2,none⟩=some (.string p.name)/\w.cell? ⟨b,o+k*2+1,none⟩=some (.slice p.a p.data.length p.c):=by
  intro k p hp;obtain⟨b,o,ha,hc⟩:=aG.get (enc:=lE) ac (aK (List.getElem?_eq_some_iff.1 hp).1);exact⟨b,o,ha,hc k p hp 0 _ rfl,hc k p hp 1 _ rfl⟩
 have HC:=Ad bv;clear bv ac;have q6:=@run_makeMap Tryz.prog;go_enter Tryz.func182,Tryz.ntmps182
 go_wp2_with fail
 have jd:=World.ownsMap_made w Tryz.prog 9 (plainElem (H:=Unit) Tryz.prog 4);have cm:aB w (w.alloc (.map #[] 0)):=aB.alloc _ _;have hbw:w.heap.size<(w.alloc (.map #[] 0)).heap.size:=by simp
 obtain⟨mb,pu⟩:=exq w.heap.size;generalize w.alloc (.map #[] 0)=w1 at jd cm hbw ⊢;rw[<-pu]at jd hbw ⊢;have HMB:=Ad pu;clear pu q6;go_loopw [3,13] (λn i wr=>∃k N:Nat,k<=l.length/\i=.int .i64 k/\n=.int .i64 N/\N<=k*1099511627776/\Hid (N=kU (l.take k))/\aB w1 wr) (λ_ i _=>l.length-(intOf i).toNat)
 case atStart=>exact⟨0,0,At _,rfl,rfl,by omega,rfl,aB.refl _⟩
 case round =>
  obtain⟨k,N,hk,rfl,rfl,hN,cw,hg⟩:=hrel;by_cases ae:k<l.length
  ·obtain⟨p,hp⟩:∃p,l[k]?=some p:=⟨_,Ae ae⟩
   obtain⟨b,o,rfl,d0,d1⟩:=HC.out k p hp;have c0:=(cm.tr hg).cell d0;have c1:=(cm.tr hg).cell d1;have hd:=HD.out p (Ac hp);have HS:Hid (N+p.data.length=kU (l.take (k+1))):=by show _=_;rw[bM hp,tV0,<-cw.out]
   have cn:(k:Int)<l.length:=by omega
   clear hp cw d0 d1;go_wp2_with fail
   go_roundw
   case rel=>exact⟨k+1,N+p.data.length,ae,by go_num,by go_num,by omega,HS.out,hg.al _⟩
   case measure=>simp[intOf];omega
  ·have jt:k=l.length:=by omega
   have cn:¬(k:Int)<l.length:=by omega
   have hNs:N=kU l:=by rw[cw.out,jt,Ao]
   have HN:=Ad hNs;clear cw jt hNs;by_cases cy:64<l.length\/16777216<N
   ·have HF:Hid (fJ l=2):=by show _=_;unfold fJ;rw[<-HN.out,if_pos cy]
    by_cases me:64<l.length
    ·have aev:(64:Int)<l.length:=by omega
     go_wp2_with fail
     go_ret;exact⟨by rw[HF.out];rfl,cm.tr hg⟩
    ·have aev:¬(64:Int)<l.length:=by omega
     have kr:(16777216:Int)<N:=by omega
     clear cy;go_wp2_with fail
     go_ret;exact⟨by rw[HF.out];rfl,cm.tr hg⟩
   ·have me:l.length<=64:=by omega
    have aev:¬(64:Int)<l.length:=by omega
    have kr:¬(16777216:Int)<N:=by omega
    have HF:Hid (fJ l=if (l.any λp => !azS p.name)=true then 1 else if vZ0 l=true then 4 else 0):=by show _=_;unfold fJ;rw[<-HN.out,if_neg cy]
    have ad7:=aJ jd hg;have fm:=cm.tr hg;clear cy HN jd;go_wp2_with fail
    obtain⟨u0,rfl⟩:=exq wr;go_loopw [5,32] (λe i wr=>∃(k E:Nat) (D:DataW Unit),k<=l.length/\i=.int .i64 k/\e=.int .i64 E/\Hid (((l.take k).any λp => !azS p.name)=false/\E=(if vZ0 (l.take k)=true then 4 else 0)/\dX1 ((l.take k).map (·.name)) D)/\wr.ownsMap Tryz.prog 9 (plainElem Tryz.prog 4) mb k D/\mb<wr.heap.size/\aB w wr) (λ_ i _=>l.length-(intOf i).toNat)
    case atStart=>exact⟨0,0,.map [],At _,rfl,rfl,⟨rfl,rfl,λs _=>rfl⟩,ad7,Af hbw hg.size,fm⟩
    case round =>
     obtain⟨k,E,D,hk,rfl,rfl,cw,aa,abm,hg⟩:=hrel;by_cases ae:k<l.length
     ·obtain⟨p,hp⟩:∃p,l[k]?=some p:=⟨_,Ae ae⟩
      obtain⟨b,o,rfl,d0,d1⟩:=HC.out k p hp;have c0:=hg.cell d0;have c1:=hg.cell d1;have ur:=HNM.out p (Ac hp);have ij:=λW=>rT0 p.name W (by omega);have abo:p.name.size<=maxLen:=by unfold maxLen;omega
      obtain⟨i1,i2,i3⟩:=cw.out;have cn:(k:Int)<l.length:=by omega
      cases haz:azS p.name
      ·have HB:Hid (fJ l=1):=by
        show _=_
        rw[HF.out,if_pos (List.any_eq_true.2 ⟨p,Ac hp,by rw[haz];rfl⟩)]
       rw[haz]at ij;clear hp cw haz i1 i2 i3 d0 d1;go_wp2_with fail
       refine(ij _).mono ?_;rintro e w2 ⟨rfl,af⟩;go_wp2_with fail
       go_ret;exact⟨by rw[HB.out];rfl,(hg.al _).tr af⟩
      ·have HI:Hid (((l.take (k+1)).any λp => !azS p.name)=false):=by
        show _=_
        rw[bM hp,Bt,i1];simp[haz]
       have hdu:vZ0 (l.take (k+1))=(vZ0 (l.take k)||((l.take k).map (·.name)).any λs=>seq s p.name):=by
        unfold vZ0;rw[bM hp,dC0,Bc]
       have HNS:Hid ((l.take (k+1)).map (·.name)=(l.take k).map (·.name)++[p.name]):=by show _=_;rw[bM hp,List.map_append];rfl
       rw[haz]at ij;have HDU:=Ad hdu;have HI2:=Ad i2;have HI3:=Ad i3;have hM:=yB0 i3 aa p.name;have HM:=Ad hM;clear hp cw haz i1 i2 d0 d1 hdu hM;cases hseen:((l.take k).map (·.name)).any λs=>seq s p.name
       ·have HE:Hid (E=if vZ0 (l.take (k+1))=true then 4 else 0):=by show _=_;rw[HDU.out,hseen,Ca];exact HI2.out
        have jr:=λ(W:World) (hW:W.ownsMap Tryz.prog 9 (plainElem Tryz.prog 4) mb k D)=>cE0 i3 hW abo;rw[hseen]at jr;clear i3 hseen;go_wp2_with fail
        refine(ij _).mono ?_;rintro e w2 ⟨rfl,af⟩;have ai:=aJ aa ((aB.alloc _ _).tr af);have x0:w2.cell? ⟨wr.heap.size,0,none⟩=some (.string p.name):=af.cell (aT wr _ _ (0,0) 0 _ rfl);have ahm:=jr _ ai;have ew:=(hg.al _).tr af;go_wp2_with (at_mapUpdate;refine wpList_mapUpdate_own _ rfl _ _ _ 295 rfl 9 4 (Maps.string_keyed Tryz.underlying9) Tryz.underlying295 _ mb k D rfl ai (by unfold maxLen;omega) _ _ (.string p.name.data.toList) rfl rfl (WideMaps.keyOf_string_mk Tryz.underlying9 abo) _ [] (plainElem_bool Tryz.underlying4 true) ?_;intro w3 au fy)
        go_roundw
        case rel=>exact⟨k+1,E,_,ae,by go_num,rfl,⟨HI.out,HE.out,by rw[HNS.out];exact HM.out⟩,au,Af (Af (Af abm (aB.alloc _ _).size) af.size) fy.size,ew.grown fy (λq hq=>by cases hq;exact Cd HMB.out.symm)⟩
        case measure=>simp[intOf];omega
       ·have HE:Hid (4=if vZ0 (l.take (k+1))=true then 4 else 0):=by show _=_;rw[HDU.out,hseen,Bool.or_true];rfl
        have jr:=λ(W:World) (hW:W.ownsMap Tryz.prog 9 (plainElem Tryz.prog 4) mb k D)=>cE0 i3 hW abo;rw[hseen]at jr;clear i3 hseen;go_wp2_with fail
        refine(ij _).mono ?_;rintro e w2 ⟨rfl,af⟩;have ai:=aJ aa ((aB.alloc _ _).tr af);have x0:w2.cell? ⟨wr.heap.size,0,none⟩=some (.string p.name):=af.cell (aT wr _ _ (0,0) 0 _ rfl);have ahm:=jr _ ai;have ew:=(hg.al _).tr af;go_wp2_with (at_mapUpdate;refine wpList_mapUpdate_own _ rfl _ _ _ 295 rfl 9 4 (Maps.string_keyed Tryz.underlying9) Tryz.underlying295 _ mb k D rfl ai (by unfold maxLen;omega) _ _ (.string p.name.data.toList) rfl rfl (WideMaps.keyOf_string_mk Tryz.underlying9 abo) _ [] (plainElem_bool Tryz.underlying4 true) ?_;intro w3 au fy)
        go_roundw
        case rel=>exact⟨k+1,4,_,ae,by go_num,rfl,⟨HI.out,HE.out,by rw[HNS.out];exact HM.out⟩,au,Af (Af (Af abm (aB.alloc _ _).size) af.size) fy.size,ew.grown fy (λq hq=>by cases hq;exact Cd HMB.out.symm)⟩
        case measure=>simp[intOf];omega
     ·have jt:k=l.length:=by omega
      have cn:¬(k:Int)<l.length:=by omega
      have HB:Hid (fJ l=E):=by
       obtain⟨i1,i2,_⟩:=cw.out;show _=_
       rw[jt,Ao]at i1 i2;rw[HF.out,i1,i2];simp
      clear cw jt;go_wp2_with fail
      go_ret;exact⟨by rw[HB.out];rfl,hg⟩
theorem vY {α:Type} {enc:α->List Value} {k:Nat} (hk:∀x,(enc x).length=k) {w:World} {cs:Array Value} {t:TypeId} {fz:Nat×Nat} (xs:List α) (ck:cs.toList=xs.flatMap enc):aG (w.alloc (.cells cs t fz)) (some ⟨w.heap.size,0,none⟩) k (xs.map enc):=λ_=>⟨w.heap.size,0,rfl,λi row hi j u hj=>by
 rw[Bo]at hi
 cases hx:xs[i]? with
 | none=>rw[hx]at hi;cases hi
 | some x =>
  rw[hx]at hi;obtain rfl:=Option.some.inj hi;have h:=qK hk xs i j x u hx hj;rw[<-ck]at h;have h2:=aT w cs t fz (i*k+j) u (by simpa using h);simpa using h2⟩
theorem pK0 (l:List bE) (a:Option Addr) (c:Nat) (w:World) (he:Env w) (hl:l.length<=1000000) (ac:aG w a 2 (l.map lE)) (jn:jE w l) :
  Calls Tryz.prog 116 #[.slice a l.length c] w (rQ0 l w):=by
 have CC:=Ad (xS0 l a c w hl ac jn)
 have bv:∀k p,l[k]?=some p->∃b o,a=some ⟨b,o,none⟩/\w.cell? ⟨b,o+k*2,none⟩=some (.string p.name)/\w.cell? ⟨b,o+k*2+1,none⟩=some (.slice p.a p.data.length p.c):=by
  intro k p hp;obtain⟨b,o,ha,hc⟩:=aG.get (enc:=lE) ac (aK (List.getElem?_eq_some_iff.1 hp).1);exact⟨b,o,ha,hc k p hp 0 _ rfl,hc k p hp 1 _ rfl⟩
 have HC:=Ad bv;have HPA:=Ad jn;clear bv ac jn;by_cases ag:fJ l=0
 case neg =>
  have HNE:=Ad ag;obtain⟨E,hE⟩:∃E,fJ l=E:=⟨_,rfl⟩;have HE:=Ad hE;rw[hE]at CC ag;have hEb:((E:Int) != 0)=true:=by rw[bne_iff_ne];omega
  clear hE ag;go_enter Tryz.func116,Tryz.ntmps116
  go_wp2_with fail
  refine CC.out.mono ?_;rintro e w1 ⟨rfl,aq⟩;go_wp2_with fail
  refine bodyPost_ret (v:=.tuple #[.slice none 0 0,.int .i64 E]) (by simp[results,Tryz.results116,go_sem]) rfl ⟨λh=>absurd h HNE.out,λ_=>by rw[HE.out],aq⟩
 have HOK:=Ad ag;rw[ag]at CC;obtain⟨acu,mw,haz,_⟩:=qA0 ag;have HAZ:=Ad (cU1 haz);have HBL:=Ad (sA0 ag);have hul:=cT l.length;clear haz ag;go_enter Tryz.func116,Tryz.ntmps116
 go_wp2_with fail
 refine CC.out.mono ?_;rintro e w1 ⟨rfl,aq⟩;have rh:=Lib.run_convert_bytes_const (P:=Tryz.prog) w1 60 5 #[.int .u8 72,.int .u8 78,.int .u8 75,.int .u8 49] 4 4 Tryz.underlying60 Tryz.underlying5;simp only[show (#[Value.int .u8 72,.int .u8 78,.int .u8 75,.int .u8 49]:Array Value).size=4 from rfl]at rh
 go_wp2_with fail
 clear rh;have j5:aG (w1.alloc (.cells #[.int .u8 72,.int .u8 78,.int .u8 75,.int .u8 49] 5 (4,5))) (some ⟨w1.heap.size,0,none⟩) 1 (([72,78,75,49]:List UInt8).map aZ):=vY (enc:=aZ) (λ_=>rfl) [72,78,75,49] rfl;refine(jM [72,78,75,49] (some ⟨w1.heap.size,0,none⟩) 4 l.length _ (by decide) (by omega) j5 (λh=>by cases h)).mono ?_;rintro e w2 ⟨v2,rfl,ai,af⟩;have ew:=(aq.al _).tr af;replace ai:=ai.base (base':=w.heap.size) (aq.al _).size;clear j5 af aq CC;go_wp2_with fail
 go_loopw [5,23] (λout i wr=>∃(k:Nat) (bz:List UInt8),k<=l.length/\i=.int .i64 k/\Hid (bz=([72,78,75,49]++putU l.length)++dH (l.take k))/\aV wr w.heap.size 5 1 aZ out bz/\aB w wr) (λ_ i _=>l.length-(intOf i).toNat)
 case atStart=>exact⟨0,_,At _,rfl,(by show _=_;simp[dH]),ai,ew⟩
 case round =>
  obtain⟨k,bz,hk,rfl,cd,aa,hg⟩:=hrel
  have og:bz.length<=20+k*36:=by
   rw[cd.out,Aa,Aa];have h1:=dV0 (l:=l.take k) (λp hp=>HAZ.out p (Ax hp));rw[Aw]at h1;have h2:min k l.length*36<=k*36:=Ay _ (by omega);simp only[Au,Bs];omega
  by_cases ae:k<l.length
  ·obtain⟨p,hp⟩:∃p,l[k]?=some p:=⟨_,Ae ae⟩
   obtain⟨b,o,rfl,d0,d1⟩:=HC.out k p hp;have c0:=hg.cell d0;have c1:=hg.cell d1;have ur:=HAZ.out p (Ac hp);have hpd:=HPA.out.data p (Ac hp);have ahk:=sM p.name;have ahl:=cT p.data.length
   have HN:Hid ((bz++rT p.name)++putU p.data.length=([72,78,75,49]++putU l.length)++dH (l.take (k+1))):=by
    show _=_
    rw[bM hp,mD0,cd.out];simp only[Ab]
   have cn:(k:Int)<l.length:=by omega
   have acf:IntKind.u64.wrap (p.data.length:Int)=p.data.length:=by simp[Al,Am,Ah];omega
   obtain⟨ao,co,rfl,_,_,acv⟩:=aa.at_ bI.len;have im:=cJ aa;have ko:aB wr (wr.alloc (.cells #[.string p.name,.slice p.a p.data.length p.c] 184)):=aB.alloc _ _;clear hp cd d0 d1 aa;go_wp2_with fail
   refine(bJ0 bz ao co p.name _ (by omega) (by omega) (acv.grows ko) im).mono ?_;rintro e w3 ⟨v3,rfl,au,ay⟩;obtain⟨B3,iz⟩:=exq (bz++rT p.name);rw[<-iz]at au HN;have iv:B3.length<=1000000:=by rw[iz,Aa];omega
   obtain⟨a3,c3,rfl,_,_,fq⟩:=au.at_ bI.len;have rj:=cJ au;have x1:w3.cell? ⟨wr.heap.size,1,none⟩=some (.slice p.a p.data.length p.c):=ay.cell (aT wr _ _ (0,0) 1 _ rfl);clear iz au;go_wp2_with fail
   refine(jM B3 a3 c3 p.data.length _ (by omega) (by omega) fq rj).mono ?_;rintro e w4 ⟨v4,rfl,dw,cp⟩;have vw:=hg.tr (ko.tr ay);go_wp2_with fail
   go_roundw
   case rel=>exact⟨k+1,_,ae,by go_num,HN.out,dw.base vw.size,vw.tr cp⟩
   case measure=>simp[intOf];omega
  ·have cn:¬(k:Int)<l.length:=by omega
   have HA:Hid (bz=([72,78,75,49]++putU l.length)++dH l):=by
    show _=_
    rw[cd.out,Aq (by omega)]
   clear cd;go_wp2_with fail
   obtain⟨u0,rfl⟩:=exq wr;go_loopw [5,40] (λout i wr=>∃(k:Nat) (ep:List UInt8),k<=l.length/\i=.int .i64 k/\Hid (ep=bz++dK (l.take k))/\aV wr w.heap.size 5 1 aZ out ep/\aB w wr) (λ_ i _=>l.length-(intOf i).toNat)
   case atStart=>exact⟨0,_,At _,rfl,(by show _=_;simp[dK]),aa,hg⟩
   case round =>
    obtain⟨k,ep,hk,rfl,ga,aa,hg⟩:=hrel;by_cases ae:k<l.length
    ·obtain⟨p,hp⟩:∃p,l[k]?=some p:=⟨_,Ae ae⟩
     obtain⟨b,o,rfl,d0,d1⟩:=HC.out k p hp;have c0:=hg.cell d0;have c1:=hg.cell d1;have hpd:=HPA.out.data p (Ac hp);have abp:=(HPA.out.at_ p (Ac hp)).grows (hg.al (.cells #[.string p.name,.slice p.a p.data.length p.c] 184));have ft:=HPA.out.none_ p (Ac hp)
     have HN:Hid (ep++p.data=bz++dK (l.take (k+1))):=by
      show _=_
      rw[bM hp,mG0,ga.out,Ab]
     have ahf:ep.length<=3000+64*1099511627776:=by
      rw[ga.out,Aa,dE0];have h1:=gC1 (l:=l.take k) (n:=1099511627776) (λp hp=>HPA.out.data p (Ax hp));rw[Aw]at h1;have h2:min k l.length*1099511627776<=64*1099511627776:=Ay _ (by omega);omega
     have l8:=aa.grows (aB.alloc wr (.cells #[.string p.name,.slice p.a p.data.length p.c] 184));have jm:=hg.al (.cells #[.string p.name,.slice p.a p.data.length p.c] 184);clear hp ga d0 d1;go_wp2_with (at_builtin;refine sZ bI rfl _ _ rfl w.heap.size _ ep p.data rfl l8 (aB.refl _) p.a p.c rfl abp ft (by omega) jm.size ?_;intro v7 w7 fk dd)
     go_roundw
     case rel=>exact⟨k+1,_,ae,by go_num,HN.out,fk,dd w jm (Ai _)⟩
     case measure=>simp[intOf];omega
    ·have cn:¬(k:Int)<l.length:=by omega
     have HB:Hid (ep=dF l):=by
      show _=_
      rw[ga.out,HA.out,Aq (by omega)];rfl
     have ct:ep.length<=16800000:=by rw[HB.out];exact HBL.out
     have hl4:(leB 4 (crcSum ep)).length=4:=bP _ _;obtain⟨a8,c8,rfl,_,_,lm⟩:=aa.at_ bI.len;have hew:=he.grows hg;clear ga;go_wp2_with (first|(go_at_call 126;refine(wZ ep a8 c8 _ hew (by omega) lm).mono ?_;rintro e w9 ⟨v9,rfl,de,fw⟩;obtain⟨a9,c9,rfl,_,_,ahn⟩:=de.at_ bI.len;have hn9:=cJ de;have ad8:=aa.grows fw;have gh:=hg.tr fw;clear aa de)|(at_builtin;refine sZ bI rfl _ _ rfl w.heap.size _ ep (leB 4 (crcSum ep)) rfl ad8 (aB.refl _) a9 c9 rfl ahn hn9 (by omega) gh.size ?_;intro v10 w10 d9 lq))
     have HF:Hid (ep++leB 4 (crcSum ep)=file14 l):=by show _=_;rw[HB.out];rfl
     refine bodyPost_ret (v:=.tuple #[v10,.int .i64 0]) (by simp[results,Tryz.results116,go_sem]) rfl ⟨λ_=>⟨v10,rfl,by rw[<-HF.out];exact d9⟩,λh=>absurd HOK.out h,lq w gh (Ai _)⟩
end
section
open Go Go.RowKit
attribute [local go_sem] aQ
end
section
open Go Go.RowKit Go.Shelf
attribute [local go_sem] aQ aM
theorem nR1 (w:World):(zeroValue 3).run Tryz.prog w=.ok (.int .i64 0) w:=by kernel_rfl
def IdM (L:List ByteArray) (k:Nat) (D:DataW Unit):Prop:=∀i s,i<k->L[i]?=some s->D.atKey (.string s.data.toList) (.lit (.int .i64 0))=.lit (.int .i64 i)
theorem gH0 {w:World} {b n k i:Nat} {D:DataW Unit} {L:List ByteArray} {s:ByteArray} (hM:IdM L k D) (aa:w.ownsMap Tryz.prog 9 (plainElem Tryz.prog 3) b n D) (hi:i<k) (hx:L[i]?=some s) (hs:s.size<=maxLen) :
  (Instr.lookup 173 (.map (some b)) (.string s) false).run Tryz.prog w=.ok (.int .i64 i) w:=by
 obtain⟨c,iw,ac,_⟩:=aa.lookup_int (Maps.string_keyed Tryz.underlying9) Tryz.underlying173 Tryz.underlying3 (nR1 w) (WideMaps.keyOf_string_mk Tryz.underlying9 hs);rw[hM i s hi hx]at ac
 have:(i:Int)=c:=by simpa using ac
 rw[this];exact iw
theorem gS1 (L:List ByteArray) (D:DataW Unit):IdM L 0 D:=λi _ h=>absurd h (Nat.not_lt_zero i)
theorem kO1 {b n k:Nat} {w:World} {D:DataW Unit} {L:List ByteArray} {s:ByteArray} (hM:IdM L k D) (aa:w.ownsMap Tryz.prog 9 (plainElem Tryz.prog 3) b n D) (hd:L.Nodup) (hx:L[k]?=some s):IdM L (k+1) (D.put (.string s.data.toList) (.lit (.int .i64 k))):=λi t hi ht=>by
 by_cases h:i=k
 ·subst h
  obtain rfl:s=t:=by rw[hx]at ht;exact Option.some.inj ht
  rw[Maps.atKey_put_same aa.isMap (k:=.string s.data.toList) trivial]
 ·have aj:(Lit.string t.data.toList) ≠ .string s.data.toList:=λh2=>h (by
   injection h2 with h3
   have h4:t=s:=mR h3;obtain⟨zi,ji⟩:=List.getElem?_eq_some_iff.1 ht;obtain⟨hk1,jq⟩:=List.getElem?_eq_some_iff.1 hx;exact(List.getElem_inj hd).1 (by rw[ji,jq,h4]))
  rw[Maps.atKey_put_other aj,hM i t (by omega) ht]
structure jD1 (w:World) (ib:Nat) (L:List ByteArray):Prop where
 ex:∃mb n D,w.cell? ⟨ib,0,none⟩=some (.map (some mb))/\w.ownsMap Tryz.prog 9 (plainElem (H:=Unit) Tryz.prog 3) mb n D/\IdM L L.length D
theorem jD1.grows {w w':World} {ib:Nat} {L:List ByteArray} (h:jD1 w ib L) (hg:aB w w'):jD1 w' ib L:=by
 obtain⟨mb,n,D,h1,h2,h3⟩:=h.ex;exact⟨mb,n,D,hg.cell h1,aJ h2 hg,h3⟩
theorem hD1 (L:List ByteArray) (ib i:Nat) (x:En) (w:World) (h:jD1 w ib L) (hx:L[i]?=some x.s) (hs:x.s.size<=maxLen) :
  Calls Tryz.prog 119 #[x.agg,.pointer (some ⟨ib,0,none⟩)] w λe w'=>e=.returned (.int .i64 i)/\aB w w':=by
 obtain⟨xr,xs,xl,xt,xc⟩:=x;obtain⟨mb,n,D,h1,h2,h3⟩:=h.ex;simp only at hx hs;have c1:(w.alloc (.cells #[.string xr,.string xs,.int .i64 xl,.int .i64 xt,.int .i64 xc] 62)).cell? ⟨ib,0,none⟩=some (.map (some mb)):=(aB.alloc _ _).cell h1;have hl:=gH0 h3 (aJ h2 (aB.alloc w (.cells #[.string xr,.string xs,.int .i64 xl,.int .i64 xt,.int .i64 xc] 62))) (List.getElem?_eq_some_iff.1 hx).1 hx hs;unfold En.agg;clear h h1 h2 h3;go_enter Tryz.func119,Tryz.ntmps119
 go_wp2_with fail
 go_ret;exact⟨rfl,aB.alloc _ _⟩
theorem kT1:∀args w,(callFunc 119 args).run Tryz.prog w=.ok (.enter 119 args) w:=enters_of Tryz.func119 (by kernel_rfl) rfl
theorem jZ1:∀args w,(callFunc 112 args).run Tryz.prog w=.ok (.enter 112 args) w:=enters_of Tryz.func112 (by kernel_rfl) rfl
theorem iP1 (L:List ByteArray) (ib eb i j x y:Nat) (l:List En) (ex ey:En) (a:Option Addr) (c:Nat) (w:World) (h:jD1 w ib L) (he:w.cell? ⟨eb,0,none⟩=some (.slice a l.length c)) (ac:aG w a 5 (l.map bF)) (_hl:l.length<=1048576) (hL:L.length<=1048576)
  (hx:l[x]?=some ex) (hy:l[y]?=some ey) (hi:L[i]?=some ex.s) (hj:L[j]?=some ey.s) (hs:ex.s.size<=maxLen/\ey.s.size<=maxLen) :
  Calls Tryz.prog 112 #[.int .i64 x,.int .i64 y,.pointer (some ⟨ib,0,none⟩),.pointer (some ⟨eb,0,none⟩)] w λe w'=>e=.returned (.int .i64 ((i:Int)-j))/\w'=w.drew:=by
 obtain⟨xr,xs,xl,xt,xc⟩:=ex;obtain⟨yr,ys,yl,yt,yc⟩:=ey;obtain⟨mb,n,D,h1,h2,h3⟩:=h.ex;simp only at hi hj hs;have hxl:=(List.getElem?_eq_some_iff.1 hx).1;have hyl:=(List.getElem?_eq_some_iff.1 hy).1;have sw:=(List.getElem?_eq_some_iff.1 hi).1;have hjl:=(List.getElem?_eq_some_iff.1 hj).1;obtain⟨ba,oa,rfl,bj⟩:=aG.get (enc:=bF) ac (aK hxl);have z0:∀x:Ext aB w.drew,x.u.cell? ⟨ib,0,none⟩=some (.map (some mb)):=aF ((aB.drew w).cell h1);have z1:∀x:Ext aB w.drew,x.u.cell? ⟨eb,0,none⟩=some (.slice (some ⟨ba,oa,none⟩) l.length c):=aF ((aB.drew w).cell he);have z2:∀u:Ext aB w.drew,u.u.cell? ⟨ba,oa+x*5+1,none⟩=some (.string xs):=aF ((aB.drew w).cell (bj x _ hx 1 _ rfl));have z3:∀u:Ext aB w.drew,u.u.cell? ⟨ba,oa+y*5+1,none⟩=some (.string ys):=aF ((aB.drew w).cell (bj y _ hy 1 _ rfl));have z4:∀u:Ext aB w.drew,(Instr.lookup 173 (.map (some mb)) (.string xs) false).run Tryz.prog u.u=.ok (.int .i64 i) u.u:=λu=>gH0 h3 (aJ (aJ h2 (aB.drew w)) u.h) sw hi hs.1;have z5:∀u:Ext aB w.drew,(Instr.lookup 173 (.map (some mb)) (.string ys) false).run Tryz.prog u.u=.ok (.int .i64 j) u.u:=λu=>gH0 h3 (aJ (aJ h2 (aB.drew w)) u.h) hjl hj hs.2;have nz:(x:Int)<l.length:=by omega
 have hyi:(y:Int)<l.length:=by omega
 have wij:IntKind.i64.wrap ((i:Int)-j)=(i:Int)-j:=by simp[Al,Am,Ah];omega
 clear h he ac hx hy hi hj hs h1 h2 h3 bj;go_enter Tryz.func112,Tryz.ntmps112
 go_wp2_with fail
 refine bK (bB 16 []) (by kernel_rfl) (λd _ _ _ _ h=>by cases d<;>exact h) ?_
 iterate 16 (refine aH rfl (λK hK=>?_);go_simp;refine hK _ ?_;clear hK K)
 clear z0 z1 z2 z3 z4 z5;refine bQ ?_;go_wp2_with fail
 go_ret;exact⟨rfl,rfl⟩
end
section
open Go Go.RowKit
theorem vC0 (s:ByteArray):rT s=putU s.size++bl s:=rfl
def hposP (P:List bE) (i:Nat):Nat:=(([72,78,75,49]++putU P.length)++dH (P.take i):List UInt8).length
def sV (P:List bE) (i:Nat):Nat:=(([72,78,75,49]++putU P.length)++dH P++dK (P.take i):List UInt8).length
theorem xV0 {P:List bE} {i:Nat} {p:bE} (h:P[i]?=some p):dH P=dH (P.take i)++((rT p.name++putU p.data.length)++dH (P.drop (i+1))):=by
 obtain⟨hi,rfl⟩:=List.getElem?_eq_some_iff.1 h;unfold dH;rw[<-As (f:=λp:bE=>rT p.name++putU p.data.length),<-Av hi,<-Ag,Aj]
theorem bZ1 {P:List bE} {i:Nat} {p:bE} (h:P[i]?=some p):dK P=dK (P.take i)++(p.data++dK (P.drop (i+1))):=by
 obtain⟨hi,rfl⟩:=List.getElem?_eq_some_iff.1 h;unfold dK;rw[<-As (f:=λp:bE=>p.data),<-Av hi,<-Ag,Aj]
theorem oI0 {P:List bE} {i:Nat} {p:bE} (h:P[i]?=some p):dH (P.take (i+1))=dH (P.take i)++(rT p.name++putU p.data.length):=by
 unfold dH;rw[Bp,h,Ag];simp
theorem oD0 {P:List bE} {i:Nat} {p:bE} (h:P[i]?=some p):dK (P.take (i+1))=dK (P.take i)++p.data:=by
 unfold dK;rw[Bp,h,Ag];simp
theorem tX0 (P:List bE):hposP P 0=4+(putU P.length).length:=by unfold hposP dH; simp; omega
theorem uY0 {P:List bE} {i:Nat} {p:bE} (h:P[i]?=some p):hposP P (i+1)=hposP P i+(rT p.name).length+(putU p.data.length).length:=by
 unfold hposP;rw[oI0 h];simp only[Aa];omega
theorem uI0 (P:List bE):sV P 0=hposP P P.length:=by
 unfold sV hposP;rw[Ao];simp[dK]
theorem dF0 {P:List bE} {i:Nat} {p:bE} (h:P[i]?=some p):sV P (i+1)=sV P i+p.data.length:=by
 unfold sV;rw[oD0 h];simp only[Aa];omega
theorem zD0 (P:List bE):sV P P.length=(dF P).length:=by unfold sV dF; rw[Ao]
theorem fW1 {P:List bE} {i:Nat}:sV P i<=(dF P).length:=by
 unfold sV dF;simp only[Aa]
 have:(dK (P.take i)).length<=(dK P).length:=by
  unfold dK;have h:=Aj i P;have h2:dK P=dK (P.take i)++dK (P.drop i):=by unfold dK;rw[<-Ag,h]
  unfold dK at h2;rw[h2,Aa];omega
 omega
theorem hP1 {P:List bE} {i:Nat}:hposP P i<=(dF P).length:=by
 unfold hposP dF;simp only[Aa]
 have:(dH (P.take i)).length<=(dH P).length:=by
  have h2:dH P=dH (P.take i)++dH (P.drop i):=by unfold dH;rw[<-Ag,Aj]
  rw[h2,Aa];omega
 omega
theorem iX1 {P:List bE} (hn:P.length<18446744073709551616):rdU ((dF P).drop 4)=some (P.length,(putU P.length).length):=by
 unfold dF;rw[Ab,Ab];show rdU (putU P.length++_)=_
 exact tP hn _
theorem jG0 {P:List bE} {i:Nat} {p:bE} (h:P[i]?=some p):(dF P).drop (hposP P i)=(rT p.name++putU p.data.length)++(dH (P.drop (i+1))++dK P):=by
 have e:dF P=(([72,78,75,49]++putU P.length)++dH (P.take i))++((rT p.name++putU p.data.length)++(dH (P.drop (i+1))++dK P)):=by
  unfold dF;rw[xV0 h];simp only[Ab]
 rw[e];exact Az rfl
theorem bG1 {s:ByteArray} (hs:s.size<18446744073709551616) (r:List UInt8):rdT (rT s++r)=some (s,(rT s).length):=by
 unfold rdT;rw[vC0,Ab,tP hs];simp only;rw[Az rfl,if_pos (by rw[Aa,dJ];omega)];congr 1
 rw[Bu (dJ s),Aa,dJ];exact congrArg (·,_) (pH s)
theorem nE1 {P:List bE} {i:Nat} {p:bE} (h:P[i]?=some p) (hs:p.name.size<18446744073709551616):rdT ((dF P).drop (hposP P i))=some (p.name,(rT p.name).length):=by
 rw[jG0 h,Ab];exact bG1 hs _
theorem mI1 {P:List bE} {i:Nat} {p:bE} (h:P[i]?=some p) (hs:p.data.length<18446744073709551616):rdU ((dF P).drop (hposP P i+(rT p.name).length))=some (p.data.length,(putU p.data.length).length):=by
 rw[<-Bw,jG0 h,Ab,Az rfl];exact tP hs _
theorem nB1 {P:List bE} {i:Nat} {p:bE} (h:P[i]?=some p):((dF P).take (sV P i+p.data.length)).drop (sV P i)=p.data:=by
 have e:dF P=(([72,78,75,49]++putU P.length)++dH P++dK (P.take i))++(p.data++dK (P.drop (i+1))):=by
  unfold dF;rw[bZ1 h];simp only[Ab]
 rw[<-List.take_drop];conv=>lhs;rw[e]
 unfold sV;rw[Az rfl];exact Bu rfl
structure rC (W:World) (b m:Nat) (f:Nat->Value):Prop where
 cell:∀j,j<m->W.cell? ⟨b,j,none⟩=some (f j)
 froz:∀j,W.frozen? ⟨b,j,none⟩=false
 lt:b<W.heap.size
theorem rC.grows {W W':World} {b m:Nat} {f:Nat->Value} (h:rC W b m f) (hg:aB W W'):rC W' b m f :=
 ⟨λj hj=>hg.cell (h.cell j hj),λj=>(hg.froz (p:=⟨b,j,none⟩) h.lt).trans (h.froz j),Af h.lt hg.size⟩
theorem rC.other {W:World} {b m:Nat} {f:Nat->Value} (h:rC W b m f) {b' j':Nat} (hb:b'≠b) (v:Value):rC (W.setCell ⟨b',j',none⟩ v) b m f :=
 ⟨λj hj=>by rw[Bb _ _ _ _ (λe=>hb (by simpa using congrArg Addr.block e))];exact h.cell j hj,λj=>(Be _ _ _ _).trans (h.froz j),by simp;exact h.lt⟩
theorem rC.set {W:World} {b m:Nat} {f:Nat->Value} (h:rC W b m f) {k:Nat} (hk:k<m) (v:Value):rC (W.setCell ⟨b,k,none⟩ v) b m (λj=>if j=k then v else f j) :=
 ⟨λj hj=>by
  by_cases e:j=k
  ·subst e
   rw[if_pos rfl];exact World.cell?_setCell_same _ _ _ (h.cell j hj)
  ·rw[if_neg e,Bb _ _ _ _ (λe2=>e (by injection e2 with _ h2;exact h2.symm))]
   exact h.cell j hj,λj=>(Be _ _ _ _).trans (h.froz j),by simp;exact h.lt⟩
theorem rC.congr {W:World} {b m:Nat} {f g:Nat->Value} (h:rC W b m f) (e:∀j,j<m->f j=g j):rC W b m g:=⟨λj hj=>by rw[<-e j hj]; exact h.cell j hj,h.froz,h.lt⟩
theorem gA1 {w W:World} {cs:Array Value} {t:TypeId} {m:Nat} (hg:aB (w.alloc (.cells cs t)) W) (hm:cs.size=m):rC W w.heap.size m (λj=>cs.getD j undef):=by
 obtain⟨h1,h2⟩:=cF hg;refine⟨λj hj=>h1 j _ ?_,h2,Af (by simp) hg.size⟩;rw[Array.getD_eq_getD_getElem?,Array.getElem?_eq_getElem (by omega)];rfl
end
section
open Go Go.RowKit Go.Shelf
attribute [local go_sem] aQ aM
theorem eR1:∃i,Tryz.prog.info? 110=some i/\∃z,i.zero=some z/\i.size=2/\i.bytes=24/\z.cells.size=2:=by
 have h:(Tryz.prog.info? 110).map (λi=>(i.zero,i.size,i.bytes))=some (some (.agg #[.string ⟨#[]⟩,.int .i64 0]),2,24):=by kernel_rfl
 cases hi:Tryz.prog.info? 110 with
 | none=>rw[hi]at h;cases h
 | some i =>
  rw[hi]at h;simp only[Option.map_some,Option.some.injEq,Prod.mk.injEq]at h;exact⟨i,rfl,_,h.1,h.2.1,h.2.2,rfl⟩
theorem tY:dO Tryz.prog 26 110 2 24 bN where
 sl:=Tryz.underlying26
 info:=by obtain⟨i,h1,z,h2,h3,h4,h5⟩:=eR1;exact⟨i,z,h1,h2,h3,h4,h5⟩
 pos:=by decide
 by1:=by decide
 len:=λ_=>rfl
 one:=λx u hu=>by
  simp only[bN,List.mem_cons,List.not_mem_nil,or_false]at hu;rcases hu with rfl|rfl<;>rfl
def pposP (p:List cO) (i:Nat):Nat:=(putU p.length++(p.take i).flatMap fM).length
theorem rW0 (p:List cO):pposP p 0=(putU p.length).length:=by simp[pposP]
theorem dQ0 {p:List cO} {i:Nat} {x:cO} (h:p[i]?=some x):pposP p (i+1)=pposP p i+(rT x.name).length+(putU x.kind.toNat).length:=by
 unfold pposP;have h2:(fM x).length=(rT x.name).length+(putU x.kind.toNat).length:=by rw[fM,Aa]
 rw[bM h,kV0,<-Ab,Aa,h2];omega
theorem aY1 (p:List cO):pposP p p.length=(posE p).length:=by unfold pposP posE; rw[Ao]
theorem cP0 {p:List cO} {i:Nat} {x:cO} (h:p[i]?=some x):(posE p).drop (pposP p i)=rT x.name++(putU x.kind.toNat++(p.drop (i+1)).flatMap fM):=by
 have hi:=(List.getElem?_eq_some_iff.1 h).1
 have e:posE p=(putU p.length++(p.take i).flatMap fM)++(fM x++(p.drop (i+1)).flatMap fM):=by
  unfold posE;have h1:p.flatMap fM=(p.take i).flatMap fM++(p.drop i).flatMap fM:=by rw[<-Ag,Aj]
  rw[h1,Av hi,(List.getElem?_eq_some_iff.1 h).2,As,Ab]
 unfold pposP;rw[e,By,fM,Ab]
theorem qJ0 {p:List cO} {i:Nat}:pposP p i<=(posE p).length:=by
 unfold pposP posE;have h1:p.flatMap fM=(p.take i).flatMap fM++(p.drop i).flatMap fM:=by rw[<-Ag,Aj]
 rw[h1,Aa,Aa,Aa];omega
theorem sM0 (p:List cO) (ba:Option Addr) (bc:Nat) (w:World) (hv:eE p=true) (gn:(posE p).length<=1099511627776) (ff:(posE p).length<=bc) (jk:ba=none->bc=0) (ac:aG w ba 1 ((posE p).map aZ)) :
  Calls Tryz.prog 66 #[.slice ba (posE p).length bc] w λe w'=>∃v,e=.returned (.tuple #[v,.int .i64 0])/\aV w' w.heap.size 110 2 bN v p/\aB w w':=by
 obtain⟨acu,ax⟩:=eV hv
 have C0:Hid (Calls Tryz.prog 128 #[.slice ba (posE p).length bc,.int .i64 0] w λe w'=>e=.returned (.tuple #[.int .u64 (p.length:Nat),.int .i64 (pposP p 0:Nat),.bool true])/\aB w w'):=by
  have h:=yF (posE p) 0 ba bc w (At _) gn ac;rw[Bv,show rdU (posE p)=some (p.length,(putU p.length).length) from tP (by omega) _,hJ0,Nat.zero_add,<-rW0]at h
  exact h
 have CT:∀(i:Nat) (x:cO) (u:World),p[i]?=some x->aB w u->Hid (Calls Tryz.prog 129 #[.slice ba (posE p).length bc,.int .i64 (pposP p i:Nat)] u λe w'=>e=.returned (.tuple #[.string x.name,.int .i64 (pposP p i+(rT x.name).length:Nat),.bool true])/\aB u w'):=λi x u hx hu=>by
  have h:=dN0 (posE p) (pposP p i) ba bc u qJ0 gn ff jk (ac.grows hu);have hs:=(ax x (Ac hx)).1;rw[cP0 hx,bG1 (by omega),tS0]at h;exact h
 have CU:∀(i:Nat) (x:cO) (u:World),p[i]?=some x->aB w u->Hid (Calls Tryz.prog 128 #[.slice ba (posE p).length bc,.int .i64 (pposP p i+(rT x.name).length:Nat)] u λe w'=>e=.returned (.tuple #[.int .u64 (x.kind.toNat:Nat),.int .i64 (pposP p (i+1):Nat),.bool true])/\aB u w'):=λi x u hx hu=>by
  have hs:=(ax x (Ac hx)).2
  have gm:pposP p i+(rT x.name).length<=(posE p).length:=by
   have:=qJ0 (p:=p) (i:=i+1)
   rw[dQ0 hx]at this;omega
  have h:=yF (posE p) (pposP p i+(rT x.name).length) ba bc u gm gn (ac.grows hu);rw[<-Bw,cP0 hx,By,tP (by omega),hJ0,<-dQ0 hx]at h;exact h
 have HALL:=Ad ax;have HEND:=Ad (aY1 p);have HV:=Ad hv;obtain⟨N,hN⟩:=exq ((posE p).length);rw[<-hN]at C0 CT CU HEND ⊢;obtain⟨n,hn⟩:=exq p.length;have HNL:=Ad hn;rw[<-hn]at C0 acu;have me:¬(64:Int)<n:=by omega
 clear ac ax hv gn ff jk hN hn;go_enter Tryz.func66,Tryz.ntmps66
 go_wp2_with fail
 refine C0.out.mono ?_;rintro e w1 ⟨rfl,aq⟩;clear C0;go_wp2_with fail
 go_loopw [5,7,27] (λvA v i wr=>∃k:Nat,k<=n/\i=.int .u64 k/\vA=.int .i64 (pposP p k:Nat)/\Hid (aV wr w.heap.size 110 2 bN v (p.take k))/\Hid (aB w wr)) (λ_ _ i _=>n-(intOf i).toNat)
 case atStart=>exact⟨0,At _,rfl,rfl,aV.nil _ _ _ _ _,aq⟩
 case round =>
  clear aq;obtain⟨k,hk,rfl,rfl,aa,hg⟩:=hrel;by_cases ae:k<n
  ·have cn:(k:Int)<n:=by omega
   obtain⟨⟨nm,kd⟩,hx⟩:∃x,p[k]?=some x:=⟨_,Ae (by have:=HNL.out;omega)⟩;have HX:=Ad hx;obtain⟨hs,nt,jq⟩:=HALL.out _ (Ac hx);simp only at hs nt jq;obtain⟨K,rfl⟩:∃K:Nat,kd=(K:Int):=⟨kd.toNat,by omega⟩;have CT1:=CT k _ wr hx hg.out;simp only at CT1;clear hx;go_wp2_with fail
   refine CT1.out.mono ?_;rintro e w2 ⟨rfl,af⟩;have CU1:=CU k _ w2 HX.out (hg.out.tr af);simp only[Bn]at CU1;clear CT1;go_wp2_with fail
   refine CU1.out.mono ?_;rintro e w3 ⟨rfl,ay⟩;clear CU1;have nc:¬(2:Int)<K:=by omega
   have wK:IntKind.i64.wrap (K:Int)=K:=by simp[Al,Am,Ah];omega
   have ld:(p.take k).length=k:=by rw[Aw];have:=HNL.out;omega
   have au:=(aa.out.grows af).grows ay;have j6:=(hg.out.tr af).tr ay;have HT:=Ad (bM HX.out);generalize p.take k=bz at au HT ld;go_wp2_with (at_builtin;refine fF tY rfl _ _ rfl w.heap.size _ bz ⟨nm,(K:Int)⟩ rfl au (aB.refl _) _ 1 rfl #[.string nm,.int .i64 K] rfl rfl (by omega) j6.size ?_;intro v5 w5 an _ _ bk)
   have HG5:=bk w j6 (Ai _);rw[<-HT.out]at an;go_wp2_with fail
   go_roundw
   case rel=>exact⟨k+1,ae,by go_num,rfl,an,HG5⟩
   case measure=>simp[intOf];omega
  ·obtain rfl:k=n:=by omega
   have ho:=aa.out;rw[Aq (by have:=HNL.out;omega)]at ho;obtain⟨a,c,rfl,_,_,jo⟩:=ho.at_ tY.len;have CC:=Ad (bF0 p a c wr jo (by have:=HNL.out;omega));rw[HV.out]at CC;have HO:=Ad ho;have e1:pposP p k=N:=by rw[HNL.out];exact HEND.out
   rw[e1];clear ho jo aa e1;go_wp2_with fail
   refine CC.out.mono ?_;rintro e w6 ⟨rfl,dn⟩;go_wp2
   go_ret2;exact⟨_,rfl,HO.out.grows dn,hg.out.tr dn⟩
theorem lM1:∀args w,(callFunc 189 args).run Tryz.prog w=.ok (.enter 189 args) w:=enters_of Tryz.func189 (by kernel_rfl) rfl
theorem qK0 (b:List UInt8) (ba:Option Addr) (bc k v n pb pa po oo:Nat) (w:World) (hk:k<=b.length) (hb:b.length<=1099511627776) (ac:aG w ba 1 (b.map aZ)) (hR:rdU (b.drop k)=some (v,n)) (hv:v<=oo) (hm:oo<=1099511627776)
  (cb:w.cell? ⟨pb,0,none⟩=some (.slice ba b.length bc)) (ca:w.cell? ⟨pa,0,none⟩=some (.int .i64 k)) (co:w.cell? ⟨po,0,none⟩=some (.bool true)) (fa:w.frozen? ⟨pa,0,none⟩=false) :
  Calls Tryz.prog 189 #[.int .i64 oo,.pointer (some ⟨pb,0,none⟩),.pointer (some ⟨pa,0,none⟩),.pointer (some ⟨po,0,none⟩)] w λe w'=>e=.returned (.int .i64 v)/\∃w1,aB w w1/\w'=w1.setCell ⟨pa,0,none⟩ (.int .i64 ((k+n:Nat):Int)):=by
 have CU:=Ad (yF b k ba bc w hk hb ac);rw[hR]at CU;unfold hJ0 at CU;have jn:=World.block_lt_of_cell? w _ ca;obtain⟨K,hK⟩:=exq (k+n);simp only[<-hK]at CU ⊢;clear hR ac hK;have wm:IntKind.u64.wrap (oo:Int)=oo:=by simp[Al,Am,Ah];omega
 have wv:IntKind.i64.wrap (v:Int)=v:=by simp[Al,Am,Ah];omega
 have hvm:¬(oo:Int)<v:=by omega
 go_enter Tryz.func189,Tryz.ntmps189
 go_wp2_with fail
 refine CU.out.mono ?_;rintro e w1 ⟨rfl,aq⟩;have ca1:=aq.cell ca;have co1:=aq.cell co;have fa1:=(aq.froz (p:=⟨pa,0,none⟩) jn).trans fa;go_wp2_with fail
 go_ret;exact⟨rfl,w1,aq,rfl⟩
theorem cW0 (l:List UInt8) (a:Option Addr) (c:Nat) (w:World) (hl:l.length<=1099511627776) (hn:a=none->c=0) (ac:aG w a 1 (l.map aZ)) :
  Calls Tryz.prog 190 #[.slice a l.length c] w λe w'=>∃v,e=.returned v/\aV w' w.heap.size 5 1 aZ v l/\aB w w':=by
 cases a with
 | none =>
  have q8:l=[]:=Decidable.byContradiction λh=>by
   obtain⟨_,_,e,_⟩:=ac (by simpa using h);cases e
  subst q8;obtain rfl:=hn rfl;have ach:∀W:World,(binOp .eql 60 (.slice none 0 0) (.slice none 0 0)).run Tryz.prog W=.ok (.bool true) W:=λW=>by rfl
  go_enter Tryz.func190,Tryz.ntmps190
  go_wp2_with fail
  go_ret;exact⟨_,rfl,aV.nil _ _ _ _ _,aB.refl _⟩
 | some q =>
  have HSRC:=Ad (ac.grows (aB.alloc w (.cells #[] 5)));clear ac hn;have ach:∀W:World,(binOp .eql 60 (.slice (some q) l.length c) (.slice none 0 0)).run Tryz.prog W=.ok (.bool false) W:=λW=>by rfl
  go_enter Tryz.func190,Tryz.ntmps190
  go_wp2_with (at_builtin;refine sZ bI rfl _ _ rfl w.heap.size _ [] l rfl (rF0 w.heap.size (Ai _)) (aB.refl _) (some q) c rfl HSRC.out (λh=>by cases h) (by simp;omega) (by simp) ?_;intro v' w3 au ay)
  rw[Bc]at au;have mu:=ay w (aB.alloc _ _) (Ai _);go_wp2_with fail
  go_ret;exact⟨_,rfl,au,mu⟩
theorem mX (l m:List UInt8) (a b:Option Addr) (c d:Nat) (w:World) (h1:aG w a 1 (l.map aZ)) (h2:aG w b 1 (m.map aZ)) :
  Calls Tryz.prog 125 #[.slice a l.length c,.slice b m.length d] w λe w'=>e=.returned (.bool (decide (l=m)))/\w=w':=by
 have v1:(convert 60 9 (.slice a l.length c)).run Tryz.prog w=.ok (.string (mkB l)) w:=xP h1;have v2:(convert 60 9 (.slice b m.length d)).run Tryz.prog w=.ok (.string (mkB m)) w:=xP h2;by_cases h:l=m
 ·have e1:((mkB l).toList==(mkB m).toList)=true:=by rw[h];simp
  have HH:=Ad h;clear h;go_enter Tryz.func125,Tryz.ntmps125
  go_wp2_with fail
  go_ret;exact⟨by simp[HH.out],rfl⟩
 ·have e1:((mkB l).toList==(mkB m).toList)=false:=by
   rw[beq_eq_false_iff_ne];intro he;exact h (by have:=congrArg (·.data.toList) (kN he);simpa [jK] using this)
  have HH:=Ad h;clear h;go_enter Tryz.func125,Tryz.ntmps125
  go_wp2_with fail
  go_ret;exact⟨by simp[HH.out],rfl⟩
end
section
open Go Go.RowKit
attribute [local go_sem] aQ aM
def pA (l:List Nat) (W k q:Nat):List Nat:=(Cf q).map λQ=>fK (λp=>decide (p<8*k)&&bitAt l W p) (64*Q) 64
theorem mM (l:List Nat) (W k q:Nat):(pA l W k q).length=q:=by simp[pA]
theorem qL {l:List Nat} {W k q Q:Nat} (h:Q<q):(pA l W k q)[Q]?=some (fK (λp=>decide (p<8*k)&&bitAt l W p) (64*Q) 64):=by
 unfold pA;rw[Bo,List.getElem?_range h];rfl
theorem tT0 (f:Nat->Bool) (b k:Nat) (h:∀t,t<k->f (b+t)=false):fK f b k=0:=by
 symm
 exact iS (Nat.two_pow_pos _) λt ht=>by rw[h t ht];simp
theorem mC0 (l:List Nat) (W q:Nat):pA l W 0 q=List.replicate q 0:=by
 apply Bq
 intro i;by_cases h:i<q
 ·rw[qL h,List.getElem?_replicate_of_lt h,tT0 _ _ _ (λt _=>by simp)]
 ·rw[Ar (by rw[mM];omega),Ar (by simp;omega)]
theorem sH0 {l:List Nat} {W p:Nat} (hl:∀x∈l,x<2^W) (h:l.length*W<=p):bitAt l W p=false:=by
 by_cases hW:W=0
 ·subst hW
  unfold bitAt
  have:l.getD (p/0) 0=0:=by
   rw[List.getD_eq_getElem?_getD]
   cases hx:l[p/0]? with
   | none=>rfl
   | some x=>have:=hl x (Ac hx);simp at this;simp[this]
  rw[this];simp
 ·exact aF0 (by omega) h
theorem rZ0 {l:List Nat} {W k q:Nat} (hl:∀x∈l,x<2^W) (h:l.length*W<=8*k):pA l W k q=eD l W q:=by
 unfold pA eD gX;apply List.map_congr_left
 intro Q _;apply lF
 intro t _;by_cases hp:64*Q+t<8*k
 ·simp[hp]
 ·rw[sH0 hl (by omega)];simp
theorem tB0 {l:List Nat} {W k t:Nat} (ht:t<64) :
  (fK (λp=>decide (p<8*k)&&bitAt l W p) (64*(k/8)) 64|||(fK (bitAt l W) (8*k) 8<<<(k%8*8))%18446744073709551616).testBit t=(decide (64*(k/8)+t<8*(k+1))&&bitAt l W (64*(k/8)+t)):=by
 rw[Nat.testBit_or,dE,fX0 ht,dE];generalize hB:bitAt l W=B;by_cases h1:t<k%8*8
 ·have e1:64*(k/8)+t<8*k:=by omega
  have e2:¬k%8*8<=t:=by omega
  have e3:64*(k/8)+t<8*(k+1):=by omega
  rw[decide_eq_true ht,decide_eq_true e1,decide_eq_false e2,decide_eq_true e3,Ba,Ca,Bh,Bh]
 ·have e1:¬64*(k/8)+t<8*k:=by omega
  have e2:k%8*8<=t:=by omega
  rw[decide_eq_true ht,decide_eq_false e1,decide_eq_true e2,Ba,Bool.and_false,Bool.false_or,Bh];by_cases h2:t<k%8*8+8
  ·have e3:t-k%8*8<8:=by omega
   have e4:64*(k/8)+t<8*(k+1):=by omega
   have e5:8*k+(t-k%8*8)=64*(k/8)+t:=by omega
   rw[decide_eq_true e3,decide_eq_true e4,e5]
  ·have e3:¬t-k%8*8<8:=by omega
   have e4:¬64*(k/8)+t<8*(k+1):=by omega
   rw[decide_eq_false e3,decide_eq_false e4,Ba,Ba]
theorem oP0 {l:List Nat} {W k q:Nat} (hq:k/8<q) :
  pA l W (k+1) q=(pA l W k q).set (k/8) (fK (λp=>decide (p<8*k)&&bitAt l W p) (64*(k/8)) 64|||(fK (bitAt l W) (8*k) 8<<<(k%8*8))%18446744073709551616):=by
 apply Bq
 intro i;by_cases hi:i<q
 ·rw[qL hi]
  by_cases he:k/8=i
  ·rw[<-he,List.getElem?_set_self (by rw[mM];exact hq)]
   refine congrArg some ?_;symm
   exact iS (Br (n:=64) (kC _ _ 64) (Nat.mod_lt _ (by decide))) λt ht=>tB0 ht
  ·rw[List.getElem?_set_ne he,qL hi]
   refine congrArg some ?_;apply lF
   intro t ht;generalize bitAt l W=B;by_cases h1:64*i+t<8*k
   ·have h2:64*i+t<8*(k+1):=by omega
    rw[decide_eq_true h1,decide_eq_true h2]
   ·have h2:¬64*i+t<8*(k+1):=by omega
    rw[decide_eq_false h1,decide_eq_false h2]
 ·rw[Ar (by rw[mM];omega),Ar (by rw[List.length_set,mM];omega)]
theorem uN (a b:Nat) (ha:a<4611686018427387904) (hb:b<4611686018427387904):bits .or .i64 (a:Int) (b:Int)=((a|||b:Nat):Int):=by
 have hx:a|||b<2^62:=Br (by omega) (by omega)
 show IntKind.i64.wrap ((BitVec.ofInt 64 (a:Int)|||BitVec.ofInt 64 (b:Int)).toNat:Int)=_
 rw[BitVec.toNat_or,ofInt_u64 a (by omega),ofInt_u64 b (by omega)];generalize a|||b=x at hx
 simp[Al,Am,Ah];omega
theorem oK0 {a c k:Nat} (h:a<2^k):a|||(c*2^k)=a+c*2^k:=by
 rw[Nat.or_comm,Nat.mul_comm,<-Nat.two_pow_add_eq_or_of_lt h,Nat.add_comm]
theorem mH1 {b0 b1 b2 b3:Nat} (h0:b0<256) (h1:b1<256) (h2:b2<256) (h3:b3<256) :
  bits .or .i64 (b0:Int) ((b1*256:Nat):Int)=((b0+b1*256:Nat):Int)/\bits .or .i64 ((b0+b1*256:Nat):Int) ((b2*65536:Nat):Int)=((b0+b1*256+b2*65536:Nat):Int) /\
  bits .or .i64 ((b0+b1*256+b2*65536:Nat):Int) ((b3*16777216:Nat):Int)=((b0+b1*256+b2*65536+b3*16777216:Nat):Int):=by
 refine⟨?_,?_,?_⟩
 ·rw[uN _ _ (by omega) (by omega),show b1*256=b1*2^8 from rfl,oK0 (by omega)]
 ·rw[uN _ _ (by omega) (by omega),show b2*65536=b2*2^16 from rfl,oK0 (by omega)]
 ·rw[uN _ _ (by omega) (by omega),show b3*16777216=b3*2^24 from rfl,oK0 (by omega)]
theorem iA {x:Nat} (h:x<4611686018427387904):IntKind.i64.wrap (x:Int)=x:=by simp[Al,Am,Ah]; omega
theorem yX0 {b0 b1 b2 b3 n:Nat} (h0:b0<256) (h1:b1<256) (h2:b2<256) (h3:b3<256) (hn:n=b0+b1*256+b2*65536+b3*16777216) :
  ∃c1 c2 c3 s1 s2:Nat,IntKind.i64.wrap ((b1:Int)*256)=(c1:Int)/\IntKind.i64.wrap ((b2:Int)*65536)=(c2:Int)/\IntKind.i64.wrap ((b3:Int)*16777216)=(c3:Int) /\
   bits .or .i64 (b0:Int) (c1:Int)=(s1:Int)/\bits .or .i64 (s1:Int) (c2:Int)=(s2:Int)/\bits .or .i64 (s2:Int) (c3:Int)=(n:Int):=by
 obtain⟨o1,o2,o3⟩:=mH1 h0 h1 h2 h3;refine⟨b1*256,b2*65536,b3*16777216,b0+b1*256,b0+b1*256+b2*65536,?_,?_,?_,o1,o2,?_⟩
 ·have:=iA (x:=b1*256) (by omega)
  rwa [Bd]at this
 ·have:=iA (x:=b2*65536) (by omega)
  rwa [Bd]at this
 ·have:=iA (x:=b3*16777216) (by omega)
  rwa [Bd]at this
 ·rw[o3,hn]
theorem sX0 (l:List Nat):∃b0 b1 b2 b3:Nat,packE l=[Ak b0,Ak b1,Ak b2,Ak b3,Ak (oM l)]++bP0 l/\b0<256/\b1<256/\b2<256/\b3<256/\(l.length<4294967296->l.length=b0+b1*256+b2*65536+b3*16777216):=by
 refine⟨l.length%256,l.length/256%256,l.length/65536%256,l.length/16777216%256,?_,by omega,by omega,by omega,by omega,λh=>by omega⟩;unfold packE leB;simp[Cf,List.range.loop,aS0]
end
end Go.Proofs.YtaogeadljgjpcaaGreatDoor
