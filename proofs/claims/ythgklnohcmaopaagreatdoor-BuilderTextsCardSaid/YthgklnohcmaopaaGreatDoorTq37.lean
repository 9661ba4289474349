/- The texts RefV W14P W15 PosE W14 CrcW SecW SecJ RefX Bid SecP SecC PkDP RefC16, one behind the other. -/
import Derived.Test.YthgklnohcmaopaaGreatDoorTq3
import Derived.Test.YthgklnohcmaopaaGreatDoorTq14
import Derived.Test.YthgklnohcmaopaaGreatDoorTq36
import Derived.Test.YthgklnohcmaopaaGreatDoorTq23
import Derived.Test.YthgklnohcmaopaaGreatDoorTq4
import Derived.Test.YthgklnohcmaopaaGreatDoorTq20
import Derived.Test.YthgklnohcmaopaaGreatDoorTq6
import Derived.Test.YthgklnohcmaopaaGreatDoorTq11
import Derived.Maps.Own
import Derived.Carry
import Derived.Lib.SlBytesConst
import Derived.Test.YthgklnohcmaopaaGreatDoorTq12
import Derived.Test.YthgklnohcmaopaaGreatDoorTq25
import Derived.Test.YthgklnohcmaopaaGreatDoorTq35
import Derived.Test.YthgklnohcmaopaaGreatDoorTq22
import Derived.Test.YthgklnohcmaopaaGreatDoorTq18
import Derived.Test.YthgklnohcmaopaaGreatDoorTq32
open List renaming length_append → Aa,append_assoc → Ab,mem_of_getElem? → Ag,flatMap_append → Ah,getElem?_eq_getElem → Al,eq_nil_of_length_eq_zero → An,take_append_drop → Ao,getElem?_eq_none → Ap,flatMap_cons → Aq,take_of_length_le → Ar,length_cons → As,drop_eq_getElem_cons → Av,length_take → Ax,take_length → Ay,nil_append → Az,drop_left' → Ba,map_cons → Be,getElem?_map → Bj,take_add_one → Bk,ext_getElem? → Bn,any_append → Bp,any_map → Bs,range → Bv
open Go.Lib renaming hid → Ac,decodeL_ascii → Bh,decodeL_N → Bq,decodeL → Bu
open Nat renaming lt_of_lt_of_le → Ad,le_refl → Ai,zero_le → At,xor_lt_two_pow → Bg,succ_mul → Bi,or_lt_two_pow → Bo,le_of_eq → Bt
open UInt8 renaming ofNat → Ae,toNat_lt → Bd
open Go.IntKind renaming signed → Af,wrap → Aj,bits → Ak
open Bool renaming and_eq_true → Am,false_and → Au,true_and → Bf,or_false → Br
open Go.World renaming cell?_setCell_other → Aw,frozen?_setCell → Bc
open Int renaming natCast_mul → Bb
set_option maxHeartbeats 8000000
namespace Go.Proofs.YthgklnohcmaopaaGreatDoor
set_option maxRecDepth 100000
section
open Go Go.RowKit
attribute [local go_sem] aK
theorem rH:∀(n:Nat) (l:List UInt8),l.length<=n->(∃b∈l,128<=b.toNat)->∃c∈eU l,128<=c
 | 0,l,hl,⟨b,hb,_⟩=>by
  have:l=[]:=An (by omega)
  subst this;cases hb
 | n+1,l,hl,⟨b,hb,jn⟩=>by
  cases l with
  | nil=>cases hb
  | cons x r =>
   rw[eO _ (by simp)];by_cases hx:x.toNat<128
   ·rw[Bh x r hx]
    rcases List.mem_cons.1 hb with rfl|hb
    ·omega
    ·obtain⟨c,hc,hcg⟩:=rH n r (by simp at hl;omega) ⟨b,hb,jn⟩
     exact⟨c,List.mem_cons_of_mem _ hc,hcg⟩
   ·refine⟨_,List.mem_cons_self,?_⟩
    by_cases ee:(Bu (x::r)).1=65533/\(Bu (x::r)).2=1
    ·rw[ee.1];decide
    ·have hs:=qB (x::r).length ((x::r).getD 0 0).toNat ((x::r).getD 1 0).toNat ((x::r).getD 2 0).toNat ((x::r).getD 3 0).toNat (Bd _) (Bd _) (Bd _) (by rw[<-Bq];exact ee)
     rw[<-Bq]at hs;rcases hs with ⟨h,_⟩|⟨_,_,_,_,_,_,h⟩
     ·exact absurd h (by simpa using hx)
     ·exact h
theorem oO:∀(n:Nat) (l:List UInt8),l.length<=n->(∀b∈l,b.toNat<128)->eU l=l.map (·.toNat)
 | 0,l,hl,_=>by
  have:l=[]:=An (by omega)
  subst this;rfl
 | n+1,l,hl,h=>by
  cases l with
  | nil=>rfl
  | cons x r =>
   rw[eO _ (by simp),Bh x r (h x (by simp)),Be];simp only[List.drop_succ_cons,List.drop_zero];rw[oO n r (by simp at hl;omega) (λb hb=>h b (by simp[hb]))]
theorem qL {c:Nat} (h:128<=c):nameBad c=true:=by unfold nameBad; simp; omega
theorem mX0 (l:List UInt8):(eU l).any nameBad=l.any λb=>nameBad b.toNat:=by
 by_cases h:∃b∈l,128<=b.toNat
 ·obtain⟨c,hc,hg⟩:=rH _ l (Ai _) h
  obtain⟨b,hb,x9⟩:=h;rw[List.any_eq_true.2 ⟨c,hc,qL hg⟩,List.any_eq_true.2 ⟨b,hb,qL x9⟩]
 ·rw[oO _ l (Ai _) (λb hb=>by
   rcases Nat.lt_or_ge b.toNat 128 with h1|h1
   ·exact h1
   ·exact absurd ⟨b,hb,h1⟩ h),Bs]
  rfl
theorem dU0 (s:ByteArray):fV s=(decide (1<=s.size)&&decide (s.size<=16) && !(s.data.toList.any λb=>nameBad b.toNat)):=by
 rw[tW,mX0];congr 2
 rw[Lib.toList_data,Lib.size_eq];cases s.data.toList<;>simp
end
section
open Go Go.RowKit
def gX0 (c:Nat):Bool:=decide (c<97)||decide (122<c)
def azS (s:ByteArray):Bool:=decide (1<=s.size)&&decide (s.size<=16) && !(s.data.toList.any λb=>gX0 b.toNat)
theorem rI0 {p:Nat->Bool} (hp:∀c,128<=c->p c=true) (l:List UInt8):(eU l).any p=l.any λb=>p b.toNat:=by
 by_cases h:∃b∈l,128<=b.toNat
 ·obtain⟨c,hc,hg⟩:=rH _ l (Ai _) h
  grind
 ·rw[oO _ l (Ai _) (by simp_all),Bs]
  rfl
theorem iC0 {c:Nat} (h:128<=c):gX0 c=true:=by grind [gX0]
structure aR where
 name:ByteArray
 data:List UInt8
 a:Option Addr
 c:Nat
def jZ (p:aR):List Value:=[.string p.name,.slice p.a p.data.length p.c]
structure jE (w:World) (l:List aR):Prop where
 at_:∀p∈l,aF w p.a 1 (p.data.map aV)
 none_:∀p∈l,p.a=none->p.c=0
 name:∀p∈l,p.name.size<=1099511627776
 data:∀p∈l,p.data.length<=1099511627776
theorem jE.grows {w w':World} {l:List aR} (h:jE w l) (hg:aB w w'):jE w' l:=⟨λp hp=>(h.at_ p hp).grows hg,h.none_,h.name,h.data⟩
def iO (l:List aR):Nat:=(l.map λp=>p.data.length).sum
theorem nE0 (l:List aR) (p:aR):iO (l++[p])=iO l+p.data.length:=by simp[iO]
theorem uU0 {l:List aR} {n:Nat} (h:∀p∈l,p.data.length<=n):iO l<=l.length*n:=by
 unfold iO
 induction l with
 | nil=>simp
 | cons p l ih =>
  rw[Be,List.sum_cons,As,Bi];grind
def tM:List aR->List ByteArray->Bool
 | [],_=>false
 | p::l,seen=>(seen.any λs=>seq s p.name)||tM l (seen++[p.name])
def oG0 (l:List aR):Bool:=tM l []
def eE (l:List aR):Nat:=if 64<l.length\/16777216<iO l then 2 else if (l.any λp => !azS p.name)=true then 1 else if oG0 l=true then 4 else 0
def cB (l:List aR):List UInt8:=l.flatMap λp=>xE p.name++dJ p.data.length
def cK (l:List aR):List UInt8:=l.flatMap λp=>p.data
def cJ (l:List aR):List UInt8:=([72,78,75,49]++dJ l.length)++cB l++cK l
def gD (l:List aR):List UInt8:=cJ l++leB 4 (crcSum (cJ l))
def bK0 (l:List aR) (w:World) (e:Ending) (w':World):Prop :=
 (eE l=0->∃v,e=.returned (.tuple #[v,.int .i64 0])/\aU w' w.heap.size 5 1 aV v (gD l))/\(eE l≠0->e=.returned (.tuple #[.slice none 0 0,.int .i64 (eE l)]))/\aB w w'
theorem zG (l:List aR):(cK l).length=iO l:=by simp[cK,iO,List.length_flatMap]
theorem gQ0 (l:List aR) (p:aR):cB (l++[p])=cB l++(xE p.name++dJ p.data.length):=by simp[cB]
theorem gH0 (l:List aR) (p:aR):cK (l++[p])=cK l++p.data:=by simp[cK]
theorem tT0 {l:List aR} (h:(l.any λp => !azS p.name)=false):∀p∈l,p.name.size<=16:=λp hp=>by
 have:=List.any_eq_false.1 h p hp
 simp only[azS,Bool.not_eq_true',Bool.not_eq_false,Am,decide_eq_true_eq]at this;simp at this;omega
theorem zB {l:List aR} (h:∀p∈l,p.name.size<=16):(cB l).length<=l.length*36:=by
 unfold cB
 induction l with
 | nil=>simp
 | cons p l ih =>
  rw[Aq,Aa,Aa,As,Bi];have h1:=ih (λq hq=>h q (by simp[hq]));have h2:=h p (by simp);have h3:=pV p.name;have h4:=bK p.data.length;omega
theorem jF0 {l:List aR} (h:eE l=0):l.length<=64/\iO l<=16777216/\(l.any λp => !azS p.name)=false/\oG0 l=false:=by
 unfold eE at h;grind
theorem nS0 {l:List aR} (h:eE l=0):(cJ l).length<=16800000:=by
 grind [jF0,zB,tT0,zG,bK,cJ]
end
section
open Go Go.RowKit
attribute [local go_sem] aK aP
def nZ (p:bD):List UInt8:=xE p.name++dJ p.kind.toNat
def yR0 (l:List bD):List UInt8:=dJ l.length++l.flatMap nZ
theorem pW0 (l:List bD) (p:bD):(l++[p]).flatMap nZ=l.flatMap nZ++nZ p:=by simp
theorem lE0 {p:bD} (h:p.name.size<=16):(nZ p).length<=40:=by
 have h1:=pV p.name;have h2:=bK p.kind.toNat;unfold nZ;rw[Aa];omega
theorem wV {l:List bD} (h:∀p∈l,p.name.size<=16):(l.flatMap nZ).length<=l.length*40:=by
 induction l with
 | nil=>simp
 | cons p l ih =>
  rw[Aq,Aa,As,Bi];have h1:=ih (λq hq=>h q (by simp[hq]));have h2:=lE0 (h p (by simp));omega
theorem gL0 {s:ByteArray} (h:fV s=true):s.size<=16:=by
 rw[dU0]at h;simp only[Am,decide_eq_true_eq]at h;exact h.1.2
theorem aI0 (L:List bD):∀(l:List bD) (i j:Nat) (p:bD),cO L l i=true->l[j]?=some p->lN L (i+j) p=true
 | [],_,_,_,_,h=>by simp at h
 | q::l,i,0,p,h,hp=>by
  rw[cO]at h;simp only[Am]at h;obtain rfl:q=p:=by simpa using hp
  exact h.1
 | q::l,i,j+1,p,h,hp=>by
  rw[cO]at h;simp only[Am]at h
  have:=aI0 L l (i+1) j p h.2 (by simpa using hp)
  rw[show i+(j+1)=i+1+j by omega];exact this
theorem jK {l:List bD} (h:aQ l=true):l.length<=64/\∀p∈l,p.name.size<=16/\0<=p.kind/\p.kind<=2:=by
 unfold aQ at h
 cases l with
 | nil=>cases h
 | cons q r =>
  simp only[Am,decide_eq_true_eq]at h;refine⟨by have:=h.1;simp at this ⊢;omega,λp hp=>?_⟩;obtain⟨j,hj⟩:=List.mem_iff_getElem?.1 hp
  have:=aI0 _ _ 0 j p h.2 hj
  unfold lN at this;simp only[Am,decide_eq_true_eq]at this;exact⟨gL0 this.1.1.2,this.1.2,this.2⟩
theorem gN (xs:List UInt8) (a:Option Addr) (c n:Nat) (w:World) (hx:xs.length<=1099511627776) (hv:n<18446744073709551616) (ac:aF w a 1 (xs.map aV)) (hn:a=none->c=0) :
  Calls Tryz.prog 125 #[.slice a xs.length c,.int .u64 n] w λe w'=>∃v,e=.returned v/\aU w' w.heap.size 5 1 aV v (xs++dJ n)/\aB w w':=by
 have CC:=Ac (fJ0 xs a c w hx ac hn);clear ac hn;go_enter Tryz.func125,Tryz.ntmps125
 go_wp2_with fail
 refine CC.out.mono ?_;rintro e w1 ⟨v1,rfl,av,aj⟩;obtain⟨a1,c1,rfl,tw,h12,dp⟩:=av.at_ bF.len;have jm:=bJ av;go_wp2_with fail
 refine(kK0 xs a1 c1 w1 tw).mono ?_;rintro e w2 ⟨rfl,rfl⟩;have gd:Src w1 w.heap.size (.slice a1 xs.length xs.length) xs:=Or.inr ⟨a1,rfl,dp,λh=>An (by have:=jm h;omega)⟩;clear av dp jm CC;go_wp2_with fail
 go_loopw [0,1] (λb v wr=>∃(k:Nat) (pre:List UInt8),v=.int .u64 k/\Src wr w.heap.size b (xs++pre)/\Hid (pre++dJ k=dJ n)/\k<18446744073709551616/\aB w wr) (λ_ v _=>(intOf v).toNat)
 case atStart=>exact⟨n,[],rfl,by rw[List.append_nil];exact gd,rfl,hv,aj⟩
 case round =>
  obtain⟨k,pre,rfl,hs,hp,hk,hg⟩:=hrel
  have ik:pre.length<=10:=by
   have h1:=congrArg List.length hp.out;have h2:=bK n;rw[Aa]at h1;omega
  by_cases aaq:128<=k
  ·have cy:(128:Int)<=k:=by omega
   have hb:=Ac (dX0 k);rw[pP aaq hk]at hp;go_wp2_with (at_builtin;refine aX0 rfl _ _ rfl w.heap.size _ (xs++pre) (Ae (k%128+128)) rfl hs (aB.refl _) _ 1 rfl _ (by rw[hb.out];rfl) rfl (by rw[Aa];omega) hg.size ?_;intro v' w5 ak bk)
   go_roundw
   case rel=>exact⟨k/128,pre++[Ae (k%128+128)],by go_num,Or.inl (by rw[<-Ab];exact ak),by show (pre++[_])++dJ (k/128)=dJ n;rw[Ab];exact hp.out,by omega,bk w hg (Ai _)⟩
   case measure=>simp[intOf];omega
  ·have cy:¬(128:Int)<=k:=by omega
   have hb:=Ac (qH0 (k:=k) (by omega));rw[iD (by omega)]at hp;go_wp2_with (at_builtin;refine aX0 rfl _ _ rfl w.heap.size _ (xs++pre) (Ae k) rfl hs (aB.refl _) _ 1 rfl _ (by rw[hb.out];rfl) rfl (by rw[Aa];omega) hg.size ?_;intro v' w5 ak bk)
   go_ret;refine⟨_,rfl,?_,bk w hg (Ai _)⟩;rw[<-hp.out,<-Ab];exact ak
theorem xQ (xs:List UInt8) (a:Option Addr) (c:Nat) (s:ByteArray) (w:World) (hx:xs.length<=1099511627776) (hs:s.size<=1099511627776) (ac:aF w a 1 (xs.map aV)) (hn:a=none->c=0) :
  Calls Tryz.prog 126 #[.slice a xs.length c,.string s] w λe w'=>∃v,e=.returned v/\aU w' w.heap.size 5 1 aV v (xs++xE s)/\aB w w':=by
 have hl:=bK s.size;have hw:IntKind.u64.wrap (s.size:Int)=s.size:=by simp[Aj,Ak,Af];omega
 have CU:=Ac (gN xs a c s.size w hx (by omega) ac hn);clear ac hn;go_enter Tryz.func126,Tryz.ntmps126
 go_wp2_with fail
 refine CU.out.mono ?_;rintro e w1 ⟨v1,rfl,av,aj⟩;go_wp2_with (at_builtin;refine zF0 rfl _ _ rfl w.heap.size _ _ s rfl av (aB.refl _) rfl (by rw[Aa];omega) aj.size ?_;intro v2 w2 ag af _)
 go_ret;exact⟨_,rfl,by unfold xE;rw[<-Ab];exact ag,af w aj (Ai _)⟩
theorem mP0 (l:List bD) (a:Option Addr) (c:Nat) (w:World) (hv:aQ l=true) (ac:aF w a 2 (l.map bH)) :
  Calls Tryz.prog 56 #[.slice a l.length c] w λe w'=>∃v,e=.returned (.tuple #[v,.int .i64 0])/\aU w' w.heap.size 5 1 aV v (yR0 l)/\aB w w':=by
 obtain⟨af3,ay⟩:=jK hv;have HALL:=Ac ay;have CC:=Ac (iX l a c w ac (by omega));rw[hv]at CC;have HAT:=Ac ac;have hul:=bK l.length;have hwl:IntKind.u64.wrap (l.length:Int)=l.length:=by simp[Aj,Ak,Af];omega
 have kp:bO1 true=0:=rfl;rw[kp]at CC;clear ay ac hv kp;go_enter Tryz.func56,Tryz.ntmps56
 go_wp2_with fail
 refine CC.out.mono ?_;rintro e w1 ⟨rfl,aj⟩;go_wp2_with fail
 refine(gN [] none 0 l.length w1 (by simp) (by omega) (aF.nil _ _ _) (λ_=>rfl)).mono ?_;rintro e w2 ⟨v2,rfl,ag,af⟩;rw[Az]at ag;have dh:=aj.tr af;replace ag:=ag.base (base':=w.heap.size) aj.size;clear aj af CC;go_wp2_with fail
 go_loopw [5,19] (λout i wr=>∃(k:Nat) (acc:List UInt8),k<=l.length/\i=.int .i64 k/\Hid (acc=dJ l.length++(l.take k).flatMap nZ)/\aU wr w.heap.size 5 1 aV out acc/\aB w wr) (λ_ i _=>l.length-(intOf i).toNat)
 case atStart=>exact⟨0,_,At _,rfl,(by show _=_;simp),ag,dh⟩
 case round =>
  obtain⟨k,acc,hk,rfl,bh,aa,hg⟩:=hrel
  have js:acc.length<=10+k*40:=by
   rw[bh.out,Aa];have h1:=wV (l:=l.take k) (λp hp=>(HALL.out p (List.mem_of_mem_take hp)).1);rw[Ax]at h1;have h2:min k l.length*40<=k*40:=Nat.mul_le_mul_right _ (by omega);omega
  by_cases ae:k<l.length
  ·obtain⟨p,hp⟩:∃p,l[k]?=some p:=⟨_,Al ae⟩
   obtain⟨b,o,rfl,hc⟩:=aF.get (enc:=bH) HAT.out (aH ae);obtain⟨pn,pk⟩:=p;have c0:wr.cell? ⟨b,o+k*2,none⟩=some (.string pn):=hg.cell (hc k _ hp 0 _ rfl);have c1:wr.cell? ⟨b,o+k*2+1,none⟩=some (.int .i64 pk):=hg.cell (hc k _ hp 1 _ rfl);obtain⟨qm,kp,kq⟩:=HALL.out _ (Ag hp);simp only at qm kp kq;obtain⟨kd,rfl⟩:∃kd:Nat,pk=kd:=⟨pk.toNat,by omega⟩;have af4:=pV pn;have af5:=bK kd;have hwk:IntKind.u64.wrap (kd:Int)=kd:=by simp[Aj,Ak,Af];omega
   have HN:Hid ((acc++xE pn)++dJ kd=dJ l.length++(l.take (k+1)).flatMap nZ):=by
    show _=_
    rw[bT hp,pW0,bh.out];simp only[Ab,nZ,Int.toNat_natCast]
   have cy:(k:Int)<l.length:=by omega
   have z0:∀x:Ext aB (wr.alloc (.cells #[.string pn,.int .i64 kd] 73)).drew,x.u.cell? ⟨wr.heap.size,0,none⟩=some (.string pn):=aG (aM wr _ _ (0,0) 0 _ rfl);have z1:∀x:Ext aB (wr.alloc (.cells #[.string pn,.int .i64 kd] 73)).drew,x.u.cell? ⟨wr.heap.size,1,none⟩=some (.int .i64 kd):=aG (aM wr _ _ (0,0) 1 _ rfl);obtain⟨ao,co,rfl,_,_,aay⟩:=aa.at_ bF.len;have iq:=bJ aa;have iw:aB wr (wr.alloc (.cells #[.string pn,.int .i64 kd] 73)):=aB.alloc _ _;clear hp bh hc aa;go_wp2_with fail
   refine bP (aK0 [0,1,2,4,5,6,3,7,8] [3,7,8]) (by kernel_rfl) (λd _ _ _ _ h=>by cases d<;>exact h) ?_
   iterate 6 (refine aO rfl (λK hK=>?_);go_simp;refine hK _ ?_;clear hK K)
   clear z0 z1;refine cH rfl rfl (λK hK=>?_);go_simp;refine(xQ acc ao co pn _ (by omega) (by omega) (aay.grows (iw.dr)) iq).mono ?_;rintro e w3 ⟨v3,rfl,au,bg⟩;obtain⟨B3,g9⟩:=exq (acc++xE pn);rw[<-g9]at au;have gp:B3.length<=10000:=(by rw[g9,Aa];omega);have HB3:=Ac g9;clear g9;obtain⟨a3,c3,rfl,_,_,fw⟩:=au.at_ bF.len;have uh:=bJ au;clear au;refine⟨bg,hK _ _ ?_⟩;clear hK K;refine cH rfl rfl (λK hK=>?_);go_simp;refine(gN B3 a3 c3 kd _ (by omega) (by omega) fw uh).mono ?_;rintro e w4 ⟨v4,rfl,cj,di⟩;refine⟨di,hK _ _ ?_⟩;clear hK K;iterate 1 (refine cH rfl rfl (λK hK=>?_);go_simp;refine⟨aB.refl _,hK _ _ ?_⟩;clear hK K)
   refine bU ?_;have rs:=hg.tr ((iw.dr).tr bg);go_wp2_with fail
   go_roundw
   case rel=>exact⟨k+1,_,ae,by go_num,(by show _=_;rw[<-HN.out,HB3.out]),cj.base rs.size,rs.tr di⟩
   case measure=>simp[intOf];omega
  ·have cy:¬(k:Int)<l.length:=by omega
   have HF:Hid (acc=yR0 l):=by
    show _=_
    rw[bh.out,Ar (by omega)];rfl
   clear bh;go_wp2_with fail
   refine bodyPost_ret (v:=.tuple #[_,.int .i64 0]) (by simp[results,Tryz.results56,go_sem];rfl) rfl ⟨_,rfl,by rw[<-HF.out];exact aa,hg⟩
theorem uA0 (n:Nat) (hn:n<4294967296):(#[Value.int .u8 ((n:Int)%256),.int .u8 ((n:Int)/256%256),.int .u8 ((n:Int)/65536%256),.int .u8 ((n:Int)/16777216)]:Array Value).toList=(leB 4 n).flatMap aV:=by
 have h:leB 4 n=[Ae n,Ae (n/256),Ae (n/65536),Ae (n/16777216)]:=by
  unfold leB;simp[List.range_succ]
 rw[h,nL];simp only[Be,List.map_nil,UInt8.toNat_ofNat'];rw[Nat.mod_eq_of_lt (show n/16777216<2^8 by omega)]
 congr 1
end
section
open Go Go.RowKit Go.Shelf
attribute [local go_sem] aK aP
theorem jO0 {R q:Nat} (hR:R<4294967296) (hq:crc4 R=R/16 ^^^ q) (hql:q<4294967296):bits .xor .u32 ((R:Int)/16) (q:Int)=((crc4 R:Nat):Int):=by
 have h:=u32_xor_nat (R/16) q (by omega) hql;rw[hq,<-h];rfl
theorem zA:∀(i q:Nat),iB[i]?=some q->q<4294967296:=by
 intro i q h;have h1:=Ag h;simp[iB]at h1;omega
theorem yG0 {R:Nat} (hR:R<4294967296):bits .and .u32 (R:Int) 15=((R%16:Nat):Int):=by
 have h:=u32_and_nat R 15 hR (by decide);rw[nat_mask4]at h;exact h
theorem nQ0 (b:List UInt8) (a:Option Addr) (c:Nat) (w:World) (he:Env w) (hb:b.length<=1099511627776) (ac:aF w a 1 (b.map aV)) :
  Calls Tryz.prog 206 #[.int .u32 0,.slice a b.length c] w λe w'=>e=.returned (.int .u32 (crcSum b))/\w=w':=by
 have HAT:=Ac ac;clear ac;go_enter Tryz.func206,Tryz.ntmps206
 go_wp2_with fail
 go_loop [5,12] (λr i=>∃k R:Nat,k<=b.length/\i=.int .i64 k/\r=.int .u32 R/\R<4294967296/\Hid (R=fB0 4294967295 (b.take k))) (λ_ i=>b.length-(intOf i).toNat)
 case atStart=>exact⟨0,4294967295,At _,rfl,rfl,by decide,rfl⟩
 case round =>
  obtain⟨k,R,hk,rfl,rfl,hR,ch⟩:=hrel;by_cases ae:k<b.length
  ·obtain⟨x,hx⟩:∃x,b[k]?=some x:=⟨_,Al ae⟩
   obtain⟨bb,bo,rfl,hc⟩:=at1 HAT.out (aH ae);have jl:=hc k x hx;have HN:Hid (dK1 (R ^^^ x.toNat)=fB0 4294967295 (b.take (k+1))):=by show _=_;rw[bT hx,aL0,<-ch.out]
   have ag7:=x.toNat_lt;have hxo:=u32_xor_nat R x.toNat hR (by omega);obtain⟨X,hX⟩:=exq (R ^^^ x.toNat);have hXl:X<4294967296:=by rw[hX];exact Bg (n:=32) hR (by omega)
   rw[<-hX]at hxo HN;obtain⟨q1,hq1,ed⟩:=zF X;obtain⟨Y,hY⟩:=exq (crc4 X);have hYl:Y<4294967296:=by rw[hY];exact aV0 hXl
   have e1:=jO0 hXl ed (zA _ _ hq1);rw[<-hY]at e1;obtain⟨q2,tg,ii⟩:=zF Y;obtain⟨Z,hZ⟩:=exq (crc4 Y);have hZl:Z<4294967296:=by rw[hZ];exact aV0 hYl
   have e2:=jO0 hYl ii (zA _ _ tg);rw[<-hZ]at e2;have HN2:Hid (Z=fB0 4294967295 (b.take (k+1))):=by show _=_;rw[hZ,hY,<-HN.out];rfl
   have a1:=yG0 hXl;have a2:=yG0 hYl;obtain⟨i1,hi1⟩:=exq (X%16);obtain⟨i2,jf⟩:=exq (Y%16);rw[<-hi1]at a1 hq1;rw[<-jf]at a2 tg;have g1:=he.crc i1 q1 hq1;have g2:=he.crc i2 q2 tg;have l1:(i1:Int)<16:=by omega
   have l2:(i2:Int)<16:=by omega
   clear hc hx ch hX hY hZ hq1 tg ed ii HN hi1 jf;go_wp2_with fail
   go_round
   case rel=>exact⟨k+1,Z,ae,by go_num,rfl,hZl,HN2.out⟩
   case measure=>simp[intOf];omega
  ·have i5:k=b.length:=by omega
   have cy:¬(k:Int)<b.length:=by omega
   have cn:R ^^^ 4294967295=crcSum b:=by rw[ch.out,i5,Ay];rfl
   have hx:bits .xor .u32 IntKind.u32.max (R:Int)=((crcSum b:Nat):Int):=by
    rw[<-cn,Nat.xor_comm];exact u32_xor_nat 4294967295 R (by decide) hR
   clear ch i5 cn;go_wp2_with fail
   go_ret;exact⟨rfl,rfl⟩
theorem mE0 (b:List UInt8) (a:Option Addr) (c:Nat) (w:World) (he:Env w) (hb:b.length<=1099511627776) (ac:aF w a 1 (b.map aV)) :
  Calls Tryz.prog 143 #[.slice a b.length c] w λe w'=>e=.returned (.int .u32 (crcSum b))/\w=w':=by
 go_enter Tryz.func143,Tryz.ntmps143
 go_wp2_with fail
 refine(nQ0 b a c w he hb ac).mono ?_;rintro e w1 ⟨rfl,rfl⟩;go_wp2_with fail
 go_ret;exact⟨rfl,rfl⟩
theorem sZ (b:List UInt8) (a:Option Addr) (c:Nat) (w:World) (he:Env w) (hb:b.length<=1099511627776) (ac:aF w a 1 (b.map aV)) :
  Calls Tryz.prog 77 #[.slice a b.length c] w λe w'=>∃v,e=.returned v/\aU w' w.heap.size 5 1 aV v (leB 4 (crcSum b))/\aB w w':=by
 have cu:crcSum b<4294967296:=Bg (n:=32) (jY0 _ (by decide)) (by decide);have CS:=Ac (mE0 b a c w he hb ac);obtain⟨n,hn⟩:=exq (crcSum b);rw[<-hn]at cu CS ⊢;have HH:=Ac (uA0 n cu);clear hn;go_enter Tryz.func77,Tryz.ntmps77
 go_wp2_with fail
 refine CS.out.mono ?_;rintro e w1 ⟨rfl,rfl⟩;go_wp2_with fail
 go_ret;exact⟨_,rfl,jQ (enc:=aV) (λ_=>rfl) (Ai _) (leB 4 n) HH.out (n:=4) (by simp[dF]) (by decide),aB.alloc _ _⟩
theorem gF0 (w:World):PredAt Tryz.prog 249 #[] encR gX0 w:=λW x _=>by
 unfold FnGives;show Calls Tryz.prog 249 #[.int .i32 (x:Int)] W _
 go_enter Tryz.func249,Tryz.ntmps249
 go_wp2
 all_goals (go_ret;refine⟨cT ?_,0,rfl⟩;rw[Bool.eq_iff_iff];simp[gX0];try omega)
theorem lL0 (s:ByteArray) (w:World) (hs:s.size<=9223372036854775807) :
  Calls Tryz.prog 194 #[.string s] w λe w'=>e=.returned (.bool (azS s))/\aB w w':=by
 have d5:=Ac (Tryz.strings_ContainsFunc 249 #[] (enters_of Tryz.func249 (by kernel_rfl) rfl) gX0 s w (gF0 w));rw[vO0,rI0 (λc h=>iC0 h)]at d5;unfold azS;generalize (s.data.toList.any λb=>gX0 b.toNat)=r at d5 ⊢;by_cases h1:1<=s.size
 ·have g1:(1:Int)<=s.size:=by omega
  by_cases hz:s.size<=16
  ·have hz':(s.size:Int)<=16:=by omega
   go_enter Tryz.func194,Tryz.ntmps194
   go_wp2_with (go_at_call 200;refine d5.out.mono ?_;rintro e w' ⟨rfl,af⟩)
   go_ret;exact⟨cT (by simp[h1,hz]),af⟩
  ·have hz':¬(s.size:Int)<=16:=by omega
   go_enter Tryz.func194,Tryz.ntmps194
   go_wp2
   go_ret;exact⟨cT (by simp<;>omega),aB.refl _⟩
 ·have g1:¬(1:Int)<=s.size:=by omega
  go_enter Tryz.func194,Tryz.ntmps194
  go_wp2
  go_ret;exact⟨cT (by simp<;>omega),aB.refl _⟩
theorem pZ {H:Type} {P:Program} {e:TypeId} (he:P.underlying e=some .bool) {v:Value} {z:DataW H×List MemPlace} (h:plainElem P e v=some z):∃b,v=.bool b/\z=(.lit (.bool b),[]):=by
 unfold plainElem at h;rw[he]at h;cases v<;>simp at h
 exact⟨_,rfl,h.symm⟩
theorem dP1 (w:World):(zeroValue 4).run Tryz.prog w=.ok (.bool false) w:=by kernel_rfl
def xX0 (l:List ByteArray) (D:DataW Unit):Prop:=∀s:ByteArray,s.size<=maxLen->D.atKey (.string s.data.toList) (.lit (.bool false))=.lit (.bool (l.any λt=>seq t s))
theorem yX {w:World} {b n:Nat} {D:DataW Unit} {l:List ByteArray} (hM:xX0 l D) (aa:w.ownsMap Tryz.prog 9 (plainElem Tryz.prog 4) b n D) {s:ByteArray} (hs:s.size<=maxLen) :
  (Instr.lookup 285 (.map (some b)) (.string s) false).run Tryz.prog w=.ok (.bool (l.any λt=>seq t s)) w:=by
 obtain⟨v,ps,fk,hv⟩:=aa.lookup (Maps.string_keyed Tryz.underlying9) Tryz.underlying285 (dP1 w) (plainElem_bool Tryz.underlying4 false) (WideMaps.keyOf_string_mk Tryz.underlying9 hs);obtain⟨c,rfl,hc⟩:=pZ Tryz.underlying4 hv;simp only[Prod.mk.injEq]at hc;rw[hM s hs]at hc
 have:c=l.any λt=>seq t s:=by have:=hc.1;simpa using this.symm
 rw[<-this];exact fk
theorem oS0 {b n:Nat} {w:World} {D:DataW Unit} {l:List ByteArray} (hM:xX0 l D) (aa:w.ownsMap Tryz.prog 9 (plainElem Tryz.prog 4) b n D) (s:ByteArray):xX0 (l++[s]) (D.put (.string s.data.toList) (.lit (.bool true))):=λt ht=>by
 by_cases h:s=t
 ·subst h
  rw[Maps.atKey_put_same aa.isMap (k:=.string s.data.toList) trivial];simp[rL]
 ·have ai:(Lit.string t.data.toList) ≠ .string s.data.toList:=λh2=>h (by
   injection h2 with h3
   exact pL h3.symm)
  rw[Maps.atKey_put_other ai,hM t ht,Bp]
  have:seq s t=false:=oM0.2 h
  simp[this]
theorem yO:∀(l:List aR) (p:aR) (seen:List ByteArray),tM (l++[p]) seen=(tM l seen||(seen++l.map (·.name)).any λs=>seq s p.name)
 | [],p,seen=>by simp[tM]
 | q::l,p,seen=>by
  rw[List.cons_append,tM,yO l p (seen++[q.name]),tM];simp[Bool.or_assoc,Ab]
theorem oQ0 (l:List aR) (a:Option Addr) (c:Nat) (w:World) (hl:l.length<=1000000) (ac:aF w a 2 (l.map jZ)) (jy:jE w l) :
  Calls Tryz.prog 129 #[.slice a l.length c] w λe w'=>e=.returned (.int .i64 (eE l))/\aB w w':=by
 have HD:=Ac jy.data;have HNM:=Ac jy.name;clear jy
 have be:∀k p,l[k]?=some p->∃b o,a=some ⟨b,o,none⟩/\w.cell? ⟨b,o+k*2,none⟩=some (.string p.name)/\w.cell? ⟨b,o+k*2+1,none⟩=some (.slice p.a p.data.length p.c):=by
  intro k p hp;obtain⟨b,o,ha,hc⟩:=aF.get (enc:=jZ) ac (aH (List.getElem?_eq_some_iff.1 hp).1);exact⟨b,o,ha,hc k p hp 0 _ rfl,hc k p hp 1 _ rfl⟩
 have HC:=Ac be;clear be ac;have tu:=@run_makeMap Tryz.prog;go_enter Tryz.func129,Tryz.ntmps129
 go_wp2_with fail
 have ny:=World.ownsMap_made w Tryz.prog 9 (plainElem (H:=Unit) Tryz.prog 4);have cd:aB w (w.alloc (.map #[] 0)):=aB.alloc _ _;have hbw:w.heap.size<(w.alloc (.map #[] 0)).heap.size:=by simp
 obtain⟨mb,qj⟩:=exq w.heap.size;generalize w.alloc (.map #[] 0)=w1 at ny cd hbw ⊢;rw[<-qj]at ny hbw ⊢;have HMB:=Ac qj;clear qj tu;go_loopw [3,13] (λn i wr=>∃k N:Nat,k<=l.length/\i=.int .i64 k/\n=.int .i64 N/\N<=k*1099511627776/\Hid (N=iO (l.take k))/\aB w1 wr) (λ_ i _=>l.length-(intOf i).toNat)
 case atStart=>exact⟨0,0,At _,rfl,rfl,by omega,rfl,aB.refl _⟩
 case round =>
  obtain⟨k,N,hk,rfl,rfl,hN,ch,hg⟩:=hrel;by_cases ae:k<l.length
  ·obtain⟨p,hp⟩:∃p,l[k]?=some p:=⟨_,Al ae⟩
   obtain⟨b,o,rfl,d0,d1⟩:=HC.out k p hp;have c0:=(cd.tr hg).cell d0;have c1:=(cd.tr hg).cell d1;have hd:=HD.out p (Ag hp);have HS:Hid (N+p.data.length=iO (l.take (k+1))):=by show _=_;rw[bT hp,nE0,<-ch.out]
   have cy:(k:Int)<l.length:=by omega
   clear hp ch d0 d1;go_wp2_with fail
   go_roundw
   case rel=>exact⟨k+1,N+p.data.length,ae,by go_num,by go_num,by omega,HS.out,hg.al _⟩
   case measure=>simp[intOf];omega
  ·have i5:k=l.length:=by omega
   have cy:¬(k:Int)<l.length:=by omega
   have hNs:N=iO l:=by rw[ch.out,i5,Ay]
   have HN:=Ac hNs;clear ch i5 hNs;by_cases cr:64<l.length\/16777216<N
   ·have HF:Hid (eE l=2):=by show _=_;unfold eE;rw[<-HN.out,if_pos cr]
    by_cases pr:64<l.length
    ·have ac0:(64:Int)<l.length:=by omega
     go_wp2_with fail
     go_ret;exact⟨by rw[HF.out];rfl,cd.tr hg⟩
    ·have ac0:¬(64:Int)<l.length:=by omega
     have pw:(16777216:Int)<N:=by omega
     clear cr;go_wp2_with fail
     go_ret;exact⟨by rw[HF.out];rfl,cd.tr hg⟩
   ·have pr:l.length<=64:=by omega
    have ac0:¬(64:Int)<l.length:=by omega
    have pw:¬(16777216:Int)<N:=by omega
    have HF:Hid (eE l=if (l.any λp => !azS p.name)=true then 1 else if oG0 l=true then 4 else 0):=by show _=_;unfold eE;rw[<-HN.out,if_neg cr]
    have abw:=bC ny hg;have dw:=cd.tr hg;clear cr HN ny;go_wp2_with fail
    obtain⟨u0,rfl⟩:=exq wr;go_loopw [5,32] (λe i wr=>∃(k E:Nat) (D:DataW Unit),k<=l.length/\i=.int .i64 k/\e=.int .i64 E/\Hid (((l.take k).any λp => !azS p.name)=false/\E=(if oG0 (l.take k)=true then 4 else 0)/\xX0 ((l.take k).map (·.name)) D)/\wr.ownsMap Tryz.prog 9 (plainElem Tryz.prog 4) mb k D/\mb<wr.heap.size/\aB w wr) (λ_ i _=>l.length-(intOf i).toNat)
    case atStart=>exact⟨0,0,.map [],At _,rfl,rfl,⟨rfl,rfl,λs _=>rfl⟩,abw,Ad hbw hg.size,dw⟩
    case round =>
     obtain⟨k,E,D,hk,rfl,rfl,ch,aa,ac1,hg⟩:=hrel;by_cases ae:k<l.length
     ·obtain⟨p,hp⟩:∃p,l[k]?=some p:=⟨_,Al ae⟩
      obtain⟨b,o,rfl,d0,d1⟩:=HC.out k p hp;have c0:=hg.cell d0;have c1:=hg.cell d1;have qm:=HNM.out p (Ag hp);have d5:=λW=>lL0 p.name W (by omega);have uq:p.name.size<=maxLen:=by unfold maxLen;omega
      obtain⟨i1,i2,i3⟩:=ch.out;have cy:(k:Int)<l.length:=by omega
      cases ur:azS p.name
      ·have HB:Hid (eE l=1):=by
        show _=_
        rw[HF.out,if_pos (List.any_eq_true.2 ⟨p,Ag hp,by rw[ur];rfl⟩)]
       rw[ur]at d5;clear hp ch ur i1 i2 i3 d0 d1;go_wp2_with fail
       refine(d5 _).mono ?_;rintro e w2 ⟨rfl,af⟩;go_wp2_with fail
       go_ret;exact⟨by rw[HB.out];rfl,(hg.al _).tr af⟩
      ·have HI:Hid (((l.take (k+1)).any λp => !azS p.name)=false):=by
        show _=_
        rw[bT hp,Bp,i1];simp[ur]
       have hdu:oG0 (l.take (k+1))=(oG0 (l.take k)||((l.take k).map (·.name)).any λs=>seq s p.name):=by
        unfold oG0;rw[bT hp,yO,Az]
       have HNS:Hid ((l.take (k+1)).map (·.name)=(l.take k).map (·.name)++[p.name]):=by show _=_;rw[bT hp,List.map_append];rfl
       rw[ur]at d5;have HDU:=Ac hdu;have HI2:=Ac i2;have HI3:=Ac i3;have hM:=oS0 i3 aa p.name;have HM:=Ac hM;clear hp ch ur i1 i2 d0 d1 hdu hM;cases hseen:((l.take k).map (·.name)).any λs=>seq s p.name
       ·have HE:Hid (E=if oG0 (l.take (k+1))=true then 4 else 0):=by show _=_;rw[HDU.out,hseen,Br];exact HI2.out
        have mf:=λ(W:World) (hW:W.ownsMap Tryz.prog 9 (plainElem Tryz.prog 4) mb k D)=>yX i3 hW uq;rw[hseen]at mf;clear i3 hseen;go_wp2_with fail
        refine(d5 _).mono ?_;rintro e w2 ⟨rfl,af⟩;have ag:=bC aa ((aB.alloc _ _).tr af);have x0:w2.cell? ⟨wr.heap.size,0,none⟩=some (.string p.name):=af.cell (aM wr _ _ (0,0) 0 _ rfl);have af6:=mf _ ag;have dh:=(hg.al _).tr af;go_wp2_with (at_mapUpdate;refine wpList_mapUpdate_own _ rfl _ _ _ 285 rfl 9 4 (Maps.string_keyed Tryz.underlying9) Tryz.underlying285 _ mb k D rfl ag (by unfold maxLen;omega) _ _ (.string p.name.data.toList) rfl rfl (WideMaps.keyOf_string_mk Tryz.underlying9 uq) _ [] (plainElem_bool Tryz.underlying4 true) ?_;intro w3 au ia)
        go_roundw
        case rel=>exact⟨k+1,E,_,ae,by go_num,rfl,⟨HI.out,HE.out,by rw[HNS.out];exact HM.out⟩,au,Ad (Ad (Ad ac1 (aB.alloc _ _).size) af.size) ia.size,dh.grown ia (λq hq=>by cases hq;exact Bt HMB.out.symm)⟩
        case measure=>simp[intOf];omega
       ·have HE:Hid (4=if oG0 (l.take (k+1))=true then 4 else 0):=by show _=_;rw[HDU.out,hseen,Bool.or_true];rfl
        have mf:=λ(W:World) (hW:W.ownsMap Tryz.prog 9 (plainElem Tryz.prog 4) mb k D)=>yX i3 hW uq;rw[hseen]at mf;clear i3 hseen;go_wp2_with fail
        refine(d5 _).mono ?_;rintro e w2 ⟨rfl,af⟩;have ag:=bC aa ((aB.alloc _ _).tr af);have x0:w2.cell? ⟨wr.heap.size,0,none⟩=some (.string p.name):=af.cell (aM wr _ _ (0,0) 0 _ rfl);have af6:=mf _ ag;have dh:=(hg.al _).tr af;go_wp2_with (at_mapUpdate;refine wpList_mapUpdate_own _ rfl _ _ _ 285 rfl 9 4 (Maps.string_keyed Tryz.underlying9) Tryz.underlying285 _ mb k D rfl ag (by unfold maxLen;omega) _ _ (.string p.name.data.toList) rfl rfl (WideMaps.keyOf_string_mk Tryz.underlying9 uq) _ [] (plainElem_bool Tryz.underlying4 true) ?_;intro w3 au ia)
        go_roundw
        case rel=>exact⟨k+1,4,_,ae,by go_num,rfl,⟨HI.out,HE.out,by rw[HNS.out];exact HM.out⟩,au,Ad (Ad (Ad ac1 (aB.alloc _ _).size) af.size) ia.size,dh.grown ia (λq hq=>by cases hq;exact Bt HMB.out.symm)⟩
        case measure=>simp[intOf];omega
     ·have i5:k=l.length:=by omega
      have cy:¬(k:Int)<l.length:=by omega
      have HB:Hid (eE l=E):=by
       obtain⟨i1,i2,_⟩:=ch.out;show _=_
       rw[i5,Ay]at i1 i2;rw[HF.out,i1,i2];simp
      clear ch i5;go_wp2_with fail
      go_ret;exact⟨by rw[HB.out];rfl,hg⟩
theorem nS {α:Type} {enc:α->List Value} {k:Nat} (hk:∀x,(enc x).length=k) {w:World} {cs:Array Value} {t:TypeId} {fz:Nat×Nat} (xs:List α) (cn:cs.toList=xs.flatMap enc):aF (w.alloc (.cells cs t fz)) (some ⟨w.heap.size,0,none⟩) k (xs.map enc):=λ_=>⟨w.heap.size,0,rfl,λi row hi j u hj=>by
 rw[Bj]at hi
 cases hx:xs[i]? with
 | none=>rw[hx]at hi;cases hi
 | some x =>
  rw[hx]at hi;obtain rfl:=Option.some.inj hi;have h:=pX hk xs i j x u hx hj;rw[<-cn]at h;have h2:=aM w cs t fz (i*k+j) u (by simpa using h);simpa using h2⟩
theorem jJ0 (l:List aR) (a:Option Addr) (c:Nat) (w:World) (he:Env w) (hl:l.length<=1000000) (ac:aF w a 2 (l.map jZ)) (jy:jE w l) :
  Calls Tryz.prog 64 #[.slice a l.length c] w (bK0 l w):=by
 have CC:=Ac (oQ0 l a c w hl ac jy)
 have be:∀k p,l[k]?=some p->∃b o,a=some ⟨b,o,none⟩/\w.cell? ⟨b,o+k*2,none⟩=some (.string p.name)/\w.cell? ⟨b,o+k*2+1,none⟩=some (.slice p.a p.data.length p.c):=by
  intro k p hp;obtain⟨b,o,ha,hc⟩:=aF.get (enc:=jZ) ac (by grind);exact⟨b,o,ha,hc k p hp 0 _ rfl,hc k p hp 1 _ rfl⟩
 have HC:=Ac be;have HPA:=Ac jy;clear be ac jy;by_cases aq:eE l=0
 case neg =>
  have HNE:=Ac aq;obtain⟨E,hE⟩:∃E,eE l=E:=⟨_,rfl⟩;have HE:=Ac hE;rw[hE]at CC aq;have hEb:((E:Int) != 0)=true:=by rw[bne_iff_ne];omega
  clear hE aq;go_enter Tryz.func64,Tryz.ntmps64
  go_wp2_with fail
  refine CC.out.mono ?_;rintro e w1 ⟨rfl,aj⟩;go_wp2_with fail
  refine bodyPost_ret (v:=.tuple #[.slice none 0 0,.int .i64 E]) (by simp[results,Tryz.results64,go_sem]) rfl (by grind [Go.RowKit.Hid.out,bK0])
 have HOK:=Ac aq;rw[aq]at CC;obtain⟨af3,jz,ur,_⟩:=jF0 aq;have HAZ:=Ac (tT0 ur);have HBL:=Ac (nS0 aq);have hul:=bK l.length;clear ur aq;go_enter Tryz.func64,Tryz.ntmps64
 go_wp2_with fail
 refine CC.out.mono ?_;rintro e w1 ⟨rfl,aj⟩;have hcv:=Lib.run_convert_bytes_const (P:=Tryz.prog) w1 28 5 #[.int .u8 72,.int .u8 78,.int .u8 75,.int .u8 49] 4 4 Tryz.underlying28 Tryz.underlying5;simp only[show (#[Value.int .u8 72,.int .u8 78,.int .u8 75,.int .u8 49]:Array Value).size=4 from rfl]at hcv
 go_wp2_with fail
 clear hcv;have lq:aF (w1.alloc (.cells #[.int .u8 72,.int .u8 78,.int .u8 75,.int .u8 49] 5 (4,5))) (some ⟨w1.heap.size,0,none⟩) 1 (([72,78,75,49]:List UInt8).map aV):=by grind [nS,aV]
 refine(gN [72,78,75,49] (some ⟨w1.heap.size,0,none⟩) 4 l.length _ (by decide) (by omega) lq (λh=>by cases h)).mono ?_;rintro e w2 ⟨v2,rfl,ag,af⟩;have dh:=(aj.al _).tr af;replace ag:=ag.base (base':=w.heap.size) (aj.al _).size;clear lq af aj CC;go_wp2_with fail
 go_loopw [5,23] (λout i wr=>∃(k:Nat) (acc:List UInt8),k<=l.length/\i=.int .i64 k/\Hid (acc=([72,78,75,49]++dJ l.length)++cB (l.take k))/\aU wr w.heap.size 5 1 aV out acc/\aB w wr) (λ_ i _=>l.length-(intOf i).toNat)
 case atStart=>exact⟨0,_,At _,rfl,(by show _=_;simp[cB]),ag,dh⟩
 case round =>
  obtain⟨k,acc,hk,rfl,bh,aa,hg⟩:=hrel
  have js:acc.length<=20+k*36:=by
   rw[bh.out,Aa,Aa];have h1:=zB (l:=l.take k) (λp hp=>HAZ.out p (by grind));rw[Ax]at h1;have h2:min k l.length*36<=k*36:=by omega
   simp only[As,List.length_nil];omega
  by_cases ae:k<l.length
  ·obtain⟨p,hp⟩:∃p,l[k]?=some p:=by simp_all
   obtain⟨b,o,rfl,d0,d1⟩:=HC.out k p hp;have c0:=hg.cell d0;have c1:=hg.cell d1;have qm:=HAZ.out p (by grind);have hpd:=HPA.out.data p (by grind);have af4:=pV p.name;have af5:=bK p.data.length
   have HN:Hid ((acc++xE p.name)++dJ p.data.length=([72,78,75,49]++dJ l.length)++cB (l.take (k+1))):=by
    show _=_
    rw[bT hp,gQ0,bh.out];simp only[Ab]
   have cy:(k:Int)<l.length:=by omega
   have aag:IntKind.u64.wrap (p.data.length:Int)=p.data.length:=by simp[Aj,Ak,Af];omega
   obtain⟨ao,co,rfl,_,_,aay⟩:=aa.at_ bF.len;have iq:=bJ aa;have iw:aB wr (wr.alloc (.cells #[.string p.name,.slice p.a p.data.length p.c] 119)):=aB.alloc _ _;clear hp bh d0 d1 aa;go_wp2_with fail
   refine(xQ acc ao co p.name _ (by omega) (by omega) (aay.grows iw) iq).mono ?_;rintro e w3 ⟨v3,rfl,au,bg⟩;obtain⟨B3,g9⟩:=exq (acc++xE p.name);rw[<-g9]at au HN;have gp:B3.length<=1000000:=by rw[g9,Aa];omega
   obtain⟨a3,c3,rfl,_,_,fw⟩:=au.at_ bF.len;have uh:=bJ au;have x1:w3.cell? ⟨wr.heap.size,1,none⟩=some (.slice p.a p.data.length p.c):=bg.cell (by simp_all);clear g9 au;go_wp2_with fail
   refine(gN B3 a3 c3 p.data.length _ (by omega) (by omega) fw uh).mono ?_;rintro e w4 ⟨v4,rfl,cj,di⟩;have rs:=hg.tr (iw.tr bg);go_wp2_with fail
   go_roundw
   case rel=>exact⟨k+1,_,ae,by go_num,HN.out,cj.base rs.size,rs.tr di⟩
   grind [Go.Proofs.intOf]
  ·have cy:¬(k:Int)<l.length:=by omega
   have HA:Hid (acc=([72,78,75,49]++dJ l.length)++cB l):=by
    show _=_
    rw[bh.out,Ar (by omega)]
   clear bh;go_wp2_with fail
   obtain⟨u0,rfl⟩:=exq wr;go_loopw [5,40] (λout i wr=>∃(k:Nat) (da:List UInt8),k<=l.length/\i=.int .i64 k/\Hid (da=acc++cK (l.take k))/\aU wr w.heap.size 5 1 aV out da/\aB w wr) (λ_ i _=>l.length-(intOf i).toNat)
   case atStart=>exact⟨0,_,At _,rfl,(by show _=_;simp[cK]),aa,hg⟩
   case round =>
    obtain⟨k,da,hk,rfl,ej,aa,hg⟩:=hrel;by_cases ae:k<l.length
    ·obtain⟨p,hp⟩:∃p,l[k]?=some p:=by simp_all
     obtain⟨b,o,rfl,d0,d1⟩:=HC.out k p hp;have c0:=hg.cell d0;have c1:=hg.cell d1;have hpd:=HPA.out.data p (by grind);have af7:=(HPA.out.at_ p (by grind)).grows (hg.al (.cells #[.string p.name,.slice p.a p.data.length p.c] 119));have db:=HPA.out.none_ p (by grind)
     have HN:Hid (da++p.data=acc++cK (l.take (k+1))):=by
      show _=_
      rw[bT hp,gH0,ej.out,Ab]
     have afw:da.length<=3000+64*1099511627776:=by
      rw[ej.out,Aa,zG];have h1:=uU0 (l:=l.take k) (n:=1099511627776) (λp hp=>HPA.out.data p (by grind));rw[Ax]at h1;have h2:min k l.length*1099511627776<=64*1099511627776:=by omega
      omega
     have jh:=aa.grows (aB.alloc wr (.cells #[.string p.name,.slice p.a p.data.length p.c] 119));have jv:=hg.al (.cells #[.string p.name,.slice p.a p.data.length p.c] 119);clear hp ej d0 d1;go_wp2_with (at_builtin;refine qM bF rfl _ _ rfl w.heap.size _ da p.data rfl jh (aB.refl _) p.a p.c rfl af7 db (by omega) jv.size ?_;intro v7 w7 dv dx)
     grind [Go.Proofs.intOf]
    ·have cy:¬(k:Int)<l.length:=by omega
     have HB:Hid (da=cJ l):=by
      show _=_
      rw[ej.out,HA.out,Ar (by omega)];rfl
     have dm:da.length<=16800000:=by rw[HB.out];exact HBL.out
     have hl4:(leB 4 (crcSum da)).length=4:=dF _ _;obtain⟨a8,c8,rfl,_,_,m0⟩:=aa.at_ bF.len;have hew:=he.grows hg;clear ej;go_wp2_with (first|(go_at_call 77;refine(sZ da a8 c8 _ hew (by omega) m0).mono ?_;rintro e w9 ⟨v9,rfl,d8,fy⟩;obtain⟨a9,c9,rfl,_,_,af8⟩:=d8.at_ bF.len;have hn9:=bJ d8;have abx:=aa.grows fy;have du:=hg.tr fy;clear aa d8)|(at_builtin;refine qM bF rfl _ _ rfl w.heap.size _ da (leB 4 (crcSum da)) rfl abx (aB.refl _) a9 c9 rfl af8 hn9 (by omega) du.size ?_;intro v10 w10 gu gh))
     have HF:Hid (da++leB 4 (crcSum da)=gD l):=by show _=_;rw[HB.out];rfl
     refine bodyPost_ret (v:=.tuple #[v10,.int .i64 0]) (by simp[results,Tryz.results64,go_sem]) rfl ⟨by grind [Go.RowKit.Hid.out],λh=>absurd HOK.out h,by simp_all⟩
end
section
open Go Go.RowKit
attribute [local go_sem] aK
end
section
open Go Go.RowKit Go.Shelf
attribute [local go_sem] aK aP
theorem cD1 (w:World):(zeroValue 3).run Tryz.prog w=.ok (.int .i64 0) w:=by kernel_rfl
def IdM (L:List ByteArray) (k:Nat) (D:DataW Unit):Prop:=∀i s,i<k->L[i]?=some s->D.atKey (.string s.data.toList) (.lit (.int .i64 0))=.lit (.int .i64 i)
theorem bH0 {w:World} {b n k i:Nat} {D:DataW Unit} {L:List ByteArray} {s:ByteArray} (hM:IdM L k D) (aa:w.ownsMap Tryz.prog 9 (plainElem Tryz.prog 3) b n D) (hi:i<k) (hx:L[i]?=some s) (hs:s.size<=maxLen) :
  (Instr.lookup 105 (.map (some b)) (.string s) false).run Tryz.prog w=.ok (.int .i64 i) w:=by
 obtain⟨c,fk,ac,_⟩:=aa.lookup_int (Maps.string_keyed Tryz.underlying9) Tryz.underlying105 Tryz.underlying3 (cD1 w) (WideMaps.keyOf_string_mk Tryz.underlying9 hs);rw[hM i s hi hx]at ac
 have:(i:Int)=c:=by simpa using ac
 rw[this];exact fk
theorem wM0 (L:List ByteArray) (D:DataW Unit):IdM L 0 D:=λi _ h=>absurd h (Nat.not_lt_zero i)
theorem yS0 {b n k:Nat} {w:World} {D:DataW Unit} {L:List ByteArray} {s:ByteArray} (hM:IdM L k D) (aa:w.ownsMap Tryz.prog 9 (plainElem Tryz.prog 3) b n D) (hd:L.Nodup) (hx:L[k]?=some s):IdM L (k+1) (D.put (.string s.data.toList) (.lit (.int .i64 k))):=λi t hi ht=>by
 by_cases h:i=k
 ·subst h
  obtain rfl:s=t:=by rw[hx]at ht;exact Option.some.inj ht
  rw[Maps.atKey_put_same aa.isMap (k:=.string s.data.toList) trivial]
 ·have ai:(Lit.string t.data.toList) ≠ .string s.data.toList:=λh2=>h (by
   injection h2 with h3
   have h4:t=s:=pL h3;obtain⟨hi1,jf⟩:=List.getElem?_eq_some_iff.1 ht;obtain⟨hk1,kq⟩:=List.getElem?_eq_some_iff.1 hx;exact(List.getElem_inj hd).1 (by rw[jf,kq,h4]))
  rw[Maps.atKey_put_other ai,hM i t (by omega) ht]
structure yE0 (w:World) (ib:Nat) (L:List ByteArray):Prop where
 ex:∃mb n D,w.cell? ⟨ib,0,none⟩=some (.map (some mb))/\w.ownsMap Tryz.prog 9 (plainElem (H:=Unit) Tryz.prog 3) mb n D/\IdM L L.length D
theorem yE0.grows {w w':World} {ib:Nat} {L:List ByteArray} (h:yE0 w ib L) (hg:aB w w'):yE0 w' ib L:=by
 obtain⟨mb,n,D,h1,h2,h3⟩:=h.ex;exact⟨mb,n,D,hg.cell h1,bC h2 hg,h3⟩
theorem vK0 (L:List ByteArray) (ib i:Nat) (x:En) (w:World) (h:yE0 w ib L) (hx:L[i]?=some x.s) (hs:x.s.size<=maxLen) :
  Calls Tryz.prog 67 #[x.agg,.pointer (some ⟨ib,0,none⟩)] w λe w'=>e=.returned (.int .i64 i)/\aB w w':=by
 obtain⟨xr,xs,xl,xt,xc⟩:=x;obtain⟨mb,n,D,h1,h2,h3⟩:=h.ex;simp only at hx hs;have c1:(w.alloc (.cells #[.string xr,.string xs,.int .i64 xl,.int .i64 xt,.int .i64 xc] 30)).cell? ⟨ib,0,none⟩=some (.map (some mb)):=(aB.alloc _ _).cell h1;have hl:=bH0 h3 (bC h2 (aB.alloc w (.cells #[.string xr,.string xs,.int .i64 xl,.int .i64 xt,.int .i64 xc] 30))) (List.getElem?_eq_some_iff.1 hx).1 hx hs;unfold En.agg;clear h h1 h2 h3;go_enter Tryz.func67,Tryz.ntmps67
 go_wp2_with fail
 go_ret;exact⟨rfl,aB.alloc _ _⟩
theorem zK0:∀args w,(callFunc 67 args).run Tryz.prog w=.ok (.enter 67 args) w:=enters_of Tryz.func67 (by kernel_rfl) rfl
theorem aI1:∀args w,(callFunc 60 args).run Tryz.prog w=.ok (.enter 60 args) w:=enters_of Tryz.func60 (by kernel_rfl) rfl
theorem uN0 (L:List ByteArray) (ib eb i j x y:Nat) (l:List En) (ex ey:En) (a:Option Addr) (c:Nat) (w:World) (h:yE0 w ib L) (he:w.cell? ⟨eb,0,none⟩=some (.slice a l.length c)) (ac:aF w a 5 (l.map aZ)) (_hl:l.length<=1048576) (hL:L.length<=1048576)
  (hx:l[x]?=some ex) (hy:l[y]?=some ey) (hi:L[i]?=some ex.s) (hj:L[j]?=some ey.s) (hs:ex.s.size<=maxLen/\ey.s.size<=maxLen) :
  Calls Tryz.prog 60 #[.int .i64 x,.int .i64 y,.pointer (some ⟨ib,0,none⟩),.pointer (some ⟨eb,0,none⟩)] w λe w'=>e=.returned (.int .i64 ((i:Int)-j))/\w'=w.drew:=by
 obtain⟨xr,xs,xl,xt,xc⟩:=ex;obtain⟨yr,ys,yl,yt,yc⟩:=ey;obtain⟨mb,n,D,h1,h2,h3⟩:=h.ex;simp only at hi hj hs;have hxl:=(List.getElem?_eq_some_iff.1 hx).1;have hyl:=(List.getElem?_eq_some_iff.1 hy).1;have xw:=(List.getElem?_eq_some_iff.1 hi).1;have hjl:=(List.getElem?_eq_some_iff.1 hj).1;obtain⟨ba,oa,rfl,ci⟩:=aF.get (enc:=aZ) ac (aH hxl);have z0:∀x:Ext aB w.drew,x.u.cell? ⟨ib,0,none⟩=some (.map (some mb)):=aG ((aB.drew w).cell h1);have z1:∀x:Ext aB w.drew,x.u.cell? ⟨eb,0,none⟩=some (.slice (some ⟨ba,oa,none⟩) l.length c):=aG ((aB.drew w).cell he);have z2:∀u:Ext aB w.drew,u.u.cell? ⟨ba,oa+x*5+1,none⟩=some (.string xs):=aG ((aB.drew w).cell (ci x _ hx 1 _ rfl));have z3:∀u:Ext aB w.drew,u.u.cell? ⟨ba,oa+y*5+1,none⟩=some (.string ys):=aG ((aB.drew w).cell (ci y _ hy 1 _ rfl));have z4:∀u:Ext aB w.drew,(Instr.lookup 105 (.map (some mb)) (.string xs) false).run Tryz.prog u.u=.ok (.int .i64 i) u.u:=λu=>bH0 h3 (bC (bC h2 (aB.drew w)) u.h) xw hi hs.1;have z5:∀u:Ext aB w.drew,(Instr.lookup 105 (.map (some mb)) (.string ys) false).run Tryz.prog u.u=.ok (.int .i64 j) u.u:=λu=>bH0 h3 (bC (bC h2 (aB.drew w)) u.h) hjl hj hs.2;have hxi:(x:Int)<l.length:=by omega
 have hyi:(y:Int)<l.length:=by omega
 have wij:IntKind.i64.wrap ((i:Int)-j)=(i:Int)-j:=by simp[Aj,Ak,Af];omega
 clear h he ac hx hy hi hj hs h1 h2 h3 ci;go_enter Tryz.func60,Tryz.ntmps60
 go_wp2_with fail
 refine bP (bB 16 []) (by kernel_rfl) (λd _ _ _ _ h=>by cases d<;>exact h) ?_
 iterate 16 (refine aO rfl (λK hK=>?_);go_simp;refine hK _ ?_;clear hK K)
 clear z0 z1 z2 z3 z4 z5;refine bU ?_;go_wp2_with fail
 go_ret;exact⟨rfl,rfl⟩
end
section
open Go Go.RowKit
theorem mZ0 (s:ByteArray):xE s=dJ s.size++bl s:=rfl
def hposP (P:List aR) (i:Nat):Nat:=(([72,78,75,49]++dJ P.length)++cB (P.take i):List UInt8).length
def pR (P:List aR) (i:Nat):Nat:=(([72,78,75,49]++dJ P.length)++cB P++cK (P.take i):List UInt8).length
theorem oU0 {P:List aR} {i:Nat} {p:aR} (h:P[i]?=some p):cB P=cB (P.take i)++((xE p.name++dJ p.data.length)++cB (P.drop (i+1))):=by
 obtain⟨hi,rfl⟩:=List.getElem?_eq_some_iff.1 h;unfold cB;rw[<-Aq (f:=λp:aR=>xE p.name++dJ p.data.length),<-Av hi,<-Ah,Ao]
theorem rC0 {P:List aR} {i:Nat} {p:aR} (h:P[i]?=some p):cK P=cK (P.take i)++(p.data++cK (P.drop (i+1))):=by
 obtain⟨hi,rfl⟩:=List.getElem?_eq_some_iff.1 h;unfold cK;rw[<-Aq (f:=λp:aR=>p.data),<-Av hi,<-Ah,Ao]
theorem hD0 {P:List aR} {i:Nat} {p:aR} (h:P[i]?=some p):cB (P.take (i+1))=cB (P.take i)++(xE p.name++dJ p.data.length):=by
 unfold cB;rw[Bk,h,Ah];simp
theorem gG0 {P:List aR} {i:Nat} {p:aR} (h:P[i]?=some p):cK (P.take (i+1))=cK (P.take i)++p.data:=by
 unfold cK;rw[Bk,h,Ah];simp
theorem oC0 (P:List aR):hposP P 0=4+(dJ P.length).length:=by unfold hposP cB; simp; omega
theorem mU0 {P:List aR} {i:Nat} {p:aR} (h:P[i]?=some p):hposP P (i+1)=hposP P i+(xE p.name).length+(dJ p.data.length).length:=by
 unfold hposP;grind [hD0]
theorem lY0 (P:List aR):pR P 0=hposP P P.length:=by
 unfold pR hposP;grind [cK]
theorem zY {P:List aR} {i:Nat} {p:aR} (h:P[i]?=some p):pR P (i+1)=pR P i+p.data.length:=by
 unfold pR;rw[gG0 h];grind
theorem qI0 (P:List aR):pR P P.length=(cJ P).length:=by grind [pR,cJ]
theorem uZ0 {P:List aR} {i:Nat}:pR P i<=(cJ P).length:=by
 unfold pR cJ;simp only[Aa]
 have:(cK (P.take i)).length<=(cK P).length:=by
  unfold cK;have h:=Ao i P;have h2:cK P=cK (P.take i)++cK (P.drop i):=by unfold cK;rw[<-Ah,h]
  unfold cK at h2;rw[h2,Aa];omega
 omega
theorem wV0 {P:List aR} {i:Nat}:hposP P i<=(cJ P).length:=by
 unfold hposP cJ;simp only[Aa]
 have:(cB (P.take i)).length<=(cB P).length:=by
  have h2:cB P=cB (P.take i)++cB (P.drop i):=by unfold cB;rw[<-Ah,Ao]
  rw[h2,Aa];omega
 omega
theorem wS0 {P:List aR} (hn:P.length<18446744073709551616):rdU ((cJ P).drop 4)=some (P.length,(dJ P.length).length):=by
 grind [iO0,cJ]
theorem fH0 {P:List aR} {i:Nat} {p:aR} (h:P[i]?=some p):(cJ P).drop (hposP P i)=(xE p.name++dJ p.data.length)++(cB (P.drop (i+1))++cK P):=by
 have e:cJ P=(([72,78,75,49]++dJ P.length)++cB (P.take i))++((xE p.name++dJ p.data.length)++(cB (P.drop (i+1))++cK P)):=by
  unfold cJ;rw[oU0 h];simp only[Ab]
 rw[e];exact Ba rfl
theorem aE1 {s:ByteArray} (hs:s.size<18446744073709551616) (r:List UInt8):rdT (xE s++r)=some (s,(xE s).length):=by
 unfold rdT;rw[mZ0,Ab,iO0 hs];simp only;rw[Ba rfl,if_pos (by grind [gS])];congr 1
 rw[List.take_left' (gS s),Aa,gS];exact congrArg (·,_) (xO s)
theorem aV1 {P:List aR} {i:Nat} {p:aR} (h:P[i]?=some p) (hs:p.name.size<18446744073709551616):rdT ((cJ P).drop (hposP P i))=some (p.name,(xE p.name).length):=by
 grind [fH0,aE1]
theorem zZ0 {P:List aR} {i:Nat} {p:aR} (h:P[i]?=some p) (hs:p.data.length<18446744073709551616):rdU ((cJ P).drop (hposP P i+(xE p.name).length))=some (p.data.length,(dJ p.data.length).length):=by
 rw[<-List.drop_drop,fH0 h,Ab,Ba rfl];exact iO0 hs _
theorem aS1 {P:List aR} {i:Nat} {p:aR} (h:P[i]?=some p):((cJ P).take (pR P i+p.data.length)).drop (pR P i)=p.data:=by
 have e:cJ P=(([72,78,75,49]++dJ P.length)++cB P++cK (P.take i))++(p.data++cK (P.drop (i+1))):=by
  unfold cJ;rw[rC0 h];simp only[Ab]
 rw[<-List.take_drop];conv=>lhs;rw[e]
 unfold pR;simp_all
structure qH (W:World) (b m:Nat) (f:Nat->Value):Prop where
 cell:∀j,j<m->W.cell? ⟨b,j,none⟩=some (f j)
 froz:∀j,W.frozen? ⟨b,j,none⟩=false
 lt:b<W.heap.size
theorem qH.grows {W W':World} {b m:Nat} {f:Nat->Value} (h:qH W b m f) (hg:aB W W'):qH W' b m f :=
 ⟨λj hj=>hg.cell (h.cell j hj),λj=>(hg.froz (p:=⟨b,j,none⟩) h.lt).trans (h.froz j),Ad h.lt hg.size⟩
theorem qH.other {W:World} {b m:Nat} {f:Nat->Value} (h:qH W b m f) {b' j':Nat} (hb:b'≠b) (v:Value):qH (W.setCell ⟨b',j',none⟩ v) b m f :=
 ⟨λj hj=>by rw[Aw _ _ _ _ (by simp_all)];exact h.cell j hj,λj=>(Bc _ _ _ _).trans (h.froz j),by simp;exact h.lt⟩
theorem qH.set {W:World} {b m:Nat} {f:Nat->Value} (h:qH W b m f) {k:Nat} (hk:k<m) (v:Value):qH (W.setCell ⟨b,k,none⟩ v) b m (λj=>if j=k then v else f j) :=
 ⟨λj hj=>by
  by_cases e:j=k
  ·subst e
   rw[if_pos rfl];exact World.cell?_setCell_same _ _ _ (h.cell j hj)
  ·rw[if_neg e,Aw _ _ _ _ (by simp_all)]
   exact h.cell j hj,λj=>(Bc _ _ _ _).trans (h.froz j),by simp;exact h.lt⟩
theorem qH.congr {W:World} {b m:Nat} {f g:Nat->Value} (h:qH W b m f) (e:∀j,j<m->f j=g j):qH W b m g:=⟨λj hj=>by rw[<-e j hj]; exact h.cell j hj,h.froz,h.lt⟩
end
section
open Go Go.RowKit Go.Shelf
attribute [local go_sem] aK aP
theorem aJ1:∀args w,(callFunc 144 args).run Tryz.prog w=.ok (.enter 144 args) w:=enters_of Tryz.func144 (by kernel_rfl) rfl
theorem jQ0 (b:List UInt8) (ba:Option Addr) (bc k v n pb pa po oz:Nat) (w:World) (hk:k<=b.length) (hb:b.length<=1099511627776) (ac:aF w ba 1 (b.map aV)) (hR:rdU (b.drop k)=some (v,n)) (hv:v<=oz) (hm:oz<=1099511627776)
  (cb:w.cell? ⟨pb,0,none⟩=some (.slice ba b.length bc)) (ca:w.cell? ⟨pa,0,none⟩=some (.int .i64 k)) (co:w.cell? ⟨po,0,none⟩=some (.bool true)) (fa:w.frozen? ⟨pa,0,none⟩=false) :
  Calls Tryz.prog 144 #[.int .i64 oz,.pointer (some ⟨pb,0,none⟩),.pointer (some ⟨pa,0,none⟩),.pointer (some ⟨po,0,none⟩)] w λe w'=>e=.returned (.int .i64 v)/\∃w1,aB w w1/\w'=w1.setCell ⟨pa,0,none⟩ (.int .i64 ((k+n:Nat):Int)):=by
 have CU:=Ac (wO0 b k ba bc w hk hb ac);rw[hR]at CU;unfold sR0 at CU;have jy:=World.block_lt_of_cell? w _ ca;obtain⟨K,hK⟩:=exq (k+n);simp only[<-hK]at CU ⊢;clear hR ac hK;have wm:IntKind.u64.wrap (oz:Int)=oz:=by simp[Aj,Ak,Af];omega
 have wv:IntKind.i64.wrap (v:Int)=v:=by simp[Aj,Ak,Af];omega
 have hvm:¬(oz:Int)<v:=by omega
 go_enter Tryz.func144,Tryz.ntmps144
 go_wp2_with fail
 refine CU.out.mono ?_;rintro e w1 ⟨rfl,aj⟩;have ca1:=aj.cell ca;have co1:=aj.cell co;have fa1:=(aj.froz (p:=⟨pa,0,none⟩) jy).trans fa;go_wp2_with fail
 go_ret;exact⟨rfl,w1,aj,rfl⟩
theorem aB0 (l:List UInt8) (a:Option Addr) (c:Nat) (w:World) (hl:l.length<=1099511627776) (hn:a=none->c=0) (ac:aF w a 1 (l.map aV)) :
  Calls Tryz.prog 147 #[.slice a l.length c] w λe w'=>∃v,e=.returned v/\aU w' w.heap.size 5 1 aV v l/\aB w w':=by
 cases a with
 | none =>
  have xj:l=[]:=Decidable.byContradiction λh=>by
   obtain⟨_,_,e,_⟩:=ac (by simpa using h);cases e
  subst xj;obtain rfl:=hn rfl;have aai:∀W:World,(binOp .eql 28 (.slice none 0 0) (.slice none 0 0)).run Tryz.prog W=.ok (.bool true) W:=λW=>by rfl
  go_enter Tryz.func147,Tryz.ntmps147
  go_wp2_with fail
  go_ret;exact⟨_,rfl,aU.nil _ _ _ _ _,aB.refl _⟩
 | some q =>
  have HSRC:=Ac (ac.grows (aB.alloc w (.cells #[] 5)));clear ac hn;have aai:∀W:World,(binOp .eql 28 (.slice (some q) l.length c) (.slice none 0 0)).run Tryz.prog W=.ok (.bool false) W:=λW=>by rfl
  go_enter Tryz.func147,Tryz.ntmps147
  go_wp2_with (at_builtin;refine qM bF rfl _ _ rfl w.heap.size _ [] l rfl (jZ0 w.heap.size (Ai _)) (aB.refl _) (some q) c rfl HSRC.out (λh=>by cases h) (by simp;omega) (by simp) ?_;intro v' w3 au bg)
  rw[Az]at au;have mn:=bg w (aB.alloc _ _) (Ai _);go_wp2_with fail
  go_ret;exact⟨_,rfl,au,mn⟩
theorem sE (l m:List UInt8) (a b:Option Addr) (c d:Nat) (w:World) (h1:aF w a 1 (l.map aV)) (h2:aF w b 1 (m.map aV)) :
  Calls Tryz.prog 76 #[.slice a l.length c,.slice b m.length d] w λe w'=>e=.returned (.bool (decide (l=m)))/\w=w':=by
 have v1:(convert 28 9 (.slice a l.length c)).run Tryz.prog w=.ok (.string (mkB l)) w:=tT h1;have v2:(convert 28 9 (.slice b m.length d)).run Tryz.prog w=.ok (.string (mkB m)) w:=tT h2;by_cases h:l=m
 ·have e1:((mkB l).toList==(mkB m).toList)=true:=by rw[h];simp
  have HH:=Ac h;clear h;go_enter Tryz.func76,Tryz.ntmps76
  go_wp2_with fail
  go_ret;exact⟨by simp[HH.out],rfl⟩
 ·have e1:((mkB l).toList==(mkB m).toList)=false:=by
   rw[beq_eq_false_iff_ne];intro he;exact h (by have:=congrArg (·.data.toList) (kJ he);simpa [bQ] using this)
  have HH:=Ac h;clear h;go_enter Tryz.func76,Tryz.ntmps76
  go_wp2_with fail
  go_ret;exact⟨by simp[HH.out],rfl⟩
end
section
open Go Go.RowKit
attribute [local go_sem] aK aP
def lX (l:List Nat) (W k q:Nat):List Nat:=(Bv q).map λQ=>eC (λp=>decide (p<8*k)&&bitAt l W p) (64*Q) 64
theorem kF (l:List Nat) (W k q:Nat):(lX l W k q).length=q:=by simp[lX]
theorem nO {l:List Nat} {W k q Q:Nat} (h:Q<q):(lX l W k q)[Q]?=some (eC (λp=>decide (p<8*k)&&bitAt l W p) (64*Q) 64):=by
 unfold lX;rw[Bj,List.getElem?_range h];rfl
theorem nL0 (f:Nat->Bool) (b k:Nat) (h:∀t,t<k->f (b+t)=false):eC f b k=0:=by
 symm
 exact gA (Nat.two_pow_pos _) λt ht=>by rw[h t ht];simp
theorem iP0 (l:List Nat) (W q:Nat):lX l W 0 q=List.replicate q 0:=by
 apply Bn
 intro i;by_cases h:i<q
 ·rw[nO h,List.getElem?_replicate_of_lt h,nL0 _ _ _ (λt _=>by simp)]
 ·rw[Ap (by rw[kF];omega),Ap (by simp;omega)]
theorem lT0 {l:List Nat} {W p:Nat} (hl:∀x∈l,x<2^W) (h:l.length*W<=p):bitAt l W p=false:=by
 by_cases hW:W=0
 ·subst hW
  unfold bitAt
  have:l.getD (p/0) 0=0:=by
   rw[List.getD_eq_getElem?_getD]
   cases hx:l[p/0]? with
   | none=>rfl
   | some x=>have:=hl x (Ag hx);simp at this;simp[this]
  rw[this];simp
 ·exact vV (by omega) h
theorem oE0 {l:List Nat} {W k q:Nat} (hl:∀x∈l,x<2^W) (h:l.length*W<=8*k):lX l W k q=dI l W q:=by
 unfold lX dI fD;apply List.map_congr_left
 intro Q _;apply iU
 intro t _;by_cases hp:64*Q+t<8*k
 ·simp[hp]
 ·rw[lT0 hl (by omega)];simp
theorem mB0 {l:List Nat} {W k t:Nat} (ht:t<64) :
  (eC (λp=>decide (p<8*k)&&bitAt l W p) (64*(k/8)) 64|||(eC (bitAt l W) (8*k) 8<<<(k%8*8))%18446744073709551616).testBit t=(decide (64*(k/8)+t<8*(k+1))&&bitAt l W (64*(k/8)+t)):=by
 rw[Nat.testBit_or,cY,bA0 ht,cY];generalize hB:bitAt l W=B;by_cases h1:t<k%8*8
 ·have e1:64*(k/8)+t<8*k:=by omega
  have e2:¬k%8*8<=t:=by omega
  have e3:64*(k/8)+t<8*(k+1):=by omega
  rw[decide_eq_true ht,decide_eq_true e1,decide_eq_false e2,decide_eq_true e3,Au,Br,Bf,Bf]
 ·have e1:¬64*(k/8)+t<8*k:=by omega
  have e2:k%8*8<=t:=by omega
  rw[decide_eq_true ht,decide_eq_false e1,decide_eq_true e2,Au,Bool.and_false,Bool.false_or,Bf];by_cases h2:t<k%8*8+8
  ·have e3:t-k%8*8<8:=by omega
   have e4:64*(k/8)+t<8*(k+1):=by omega
   have e5:8*k+(t-k%8*8)=64*(k/8)+t:=by omega
   rw[decide_eq_true e3,decide_eq_true e4,e5]
  ·have e3:¬t-k%8*8<8:=by omega
   have e4:¬64*(k/8)+t<8*(k+1):=by omega
   rw[decide_eq_false e3,decide_eq_false e4,Au,Au]
theorem iM0 {l:List Nat} {W k q:Nat} (hq:k/8<q) :
  lX l W (k+1) q=(lX l W k q).set (k/8) (eC (λp=>decide (p<8*k)&&bitAt l W p) (64*(k/8)) 64|||(eC (bitAt l W) (8*k) 8<<<(k%8*8))%18446744073709551616):=by
 apply Bn
 intro i;by_cases hi:i<q
 ·rw[nO hi]
  by_cases he:k/8=i
  ·rw[<-he,List.getElem?_set_self (by rw[kF];exact hq)]
   refine congrArg some ?_;symm
   exact gA (Bo (n:=64) (gY _ _ 64) (Nat.mod_lt _ (by decide))) λt ht=>mB0 ht
  ·rw[List.getElem?_set_ne he,nO hi]
   refine congrArg some ?_;apply iU
   intro t ht;generalize bitAt l W=B;by_cases h1:64*i+t<8*k
   ·have h2:64*i+t<8*(k+1):=by omega
    rw[decide_eq_true h1,decide_eq_true h2]
   ·have h2:¬64*i+t<8*(k+1):=by omega
    rw[decide_eq_false h1,decide_eq_false h2]
 ·rw[Ap (by rw[kF];omega),Ap (by rw[List.length_set,kF];omega)]
theorem rX (a b:Nat) (ha:a<4611686018427387904) (hb:b<4611686018427387904):bits .or .i64 (a:Int) (b:Int)=((a|||b:Nat):Int):=by
 have hx:a|||b<2^62:=Bo (by omega) (by omega)
 show IntKind.i64.wrap ((BitVec.ofInt 64 (a:Int)|||BitVec.ofInt 64 (b:Int)).toNat:Int)=_
 rw[BitVec.toNat_or,ofInt_u64 a (by omega),ofInt_u64 b (by omega)];generalize a|||b=x at hx
 simp[Aj,Ak,Af];omega
theorem gS0 {a c k:Nat} (h:a<2^k):a|||(c*2^k)=a+c*2^k:=by
 rw[Nat.or_comm,Nat.mul_comm,<-Nat.two_pow_add_eq_or_of_lt h,Nat.add_comm]
theorem aB1 {b0 b1 b2 b3:Nat} (h0:b0<256) (h1:b1<256) (h2:b2<256) (h3:b3<256) :
  bits .or .i64 (b0:Int) ((b1*256:Nat):Int)=((b0+b1*256:Nat):Int)/\bits .or .i64 ((b0+b1*256:Nat):Int) ((b2*65536:Nat):Int)=((b0+b1*256+b2*65536:Nat):Int) /\
  bits .or .i64 ((b0+b1*256+b2*65536:Nat):Int) ((b3*16777216:Nat):Int)=((b0+b1*256+b2*65536+b3*16777216:Nat):Int):=by
 refine⟨?_,?_,?_⟩
 ·rw[rX _ _ (by omega) (by omega),show b1*256=b1*2^8 from rfl,gS0 (by omega)]
 ·rw[rX _ _ (by omega) (by omega),show b2*65536=b2*2^16 from rfl,gS0 (by omega)]
 ·rw[rX _ _ (by omega) (by omega),show b3*16777216=b3*2^24 from rfl,gS0 (by omega)]
theorem fH {x:Nat} (h:x<4611686018427387904):IntKind.i64.wrap (x:Int)=x:=by simp[Aj,Ak,Af]; omega
theorem aM1 {b0 b1 b2 b3 n:Nat} (h0:b0<256) (h1:b1<256) (h2:b2<256) (h3:b3<256) (hn:n=b0+b1*256+b2*65536+b3*16777216) :
  ∃c1 c2 c3 s1 s2:Nat,IntKind.i64.wrap ((b1:Int)*256)=(c1:Int)/\IntKind.i64.wrap ((b2:Int)*65536)=(c2:Int)/\IntKind.i64.wrap ((b3:Int)*16777216)=(c3:Int) /\
   bits .or .i64 (b0:Int) (c1:Int)=(s1:Int)/\bits .or .i64 (s1:Int) (c2:Int)=(s2:Int)/\bits .or .i64 (s2:Int) (c3:Int)=(n:Int):=by
 obtain⟨o1,o2,o3⟩:=aB1 h0 h1 h2 h3;refine⟨b1*256,b2*65536,b3*16777216,b0+b1*256,b0+b1*256+b2*65536,?_,?_,?_,o1,o2,?_⟩
 ·have:=fH (x:=b1*256) (by omega)
  rwa [Bb]at this
 ·have:=fH (x:=b2*65536) (by omega)
  rwa [Bb]at this
 ·have:=fH (x:=b3*16777216) (by omega)
  rwa [Bb]at this
 ·rw[o3,hn]
theorem mI0 (l:List Nat):∃b0 b1 b2 b3:Nat,cG l=[Ae b0,Ae b1,Ae b2,Ae b3,Ae (nQ l)]++xX l/\b0<256/\b1<256/\b2<256/\b3<256/\(l.length<4294967296->l.length=b0+b1*256+b2*65536+b3*16777216):=by
 refine⟨l.length%256,l.length/256%256,l.length/65536%256,l.length/16777216%256,?_,by omega,by omega,by omega,by omega,λh=>by omega⟩;unfold cG leB;simp[Bv,List.range.loop,eH0]
end
section
open Go Go.RowKit Go.Shelf
attribute [local go_sem] aK
end
end Go.Proofs.YthgklnohcmaopaaGreatDoor
