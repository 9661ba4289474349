/- The texts PkD LoD DopP Dop1 DicO Dop2 ChapP Wk18P WkH Dop3 DicF W21a W21b W21c, one behind the other. -/
import Derived.Test.YthgklnohcmaopaaGreatDoorLq39
import Derived.Test.YthgklnohcmaopaaGreatDoorLq44
import Derived.Test.YthgklnohcmaopaaGreatDoorLq42
import Derived.Test.YthgklnohcmaopaaGreatDoorLq40
import Derived.Test.YthgklnohcmaopaaGreatDoorLq43
import Derived.Test.YthgklnohcmaopaaGreatDoorLq24
import Derived.Test.YthgklnohcmaopaaGreatDoorLq21
import Derived.Test.YthgklnohcmaopaaGreatDoorLq28
open Go.Lib renaming hid → Aa,decodeL → Ay,validD → Bc,size_eq → Bf
open List renaming length_map → Ab,getElem?_eq_getElem → Ad,mem_of_getElem? → Af,getElem?_map → Ah,take_length → Ao,drop_zero → Aq,any_eq_false → Av,replicate → Bb,length → Bg
open Go.World renaming cell?_setCell_other → Ac,size_alloc → Aw
open Array renaming getElem?_setIfInBounds_self → Ae,getElem?_setIfInBounds_ne → Ak
open Nat renaming zero_le → Ag,le_refl → Ar,add_le_add_right → As,mul_le_mul → Ba,le_trans → Bd,mul_one → Be
open Int renaming tdiv_eq_ediv_of_nonneg → Ai,natCast_add → Ap,natCast_mul → Az
open Go.IntKind renaming signed → Aj,wrap → Am,bits → An
open UInt8 renaming ofNat → Al
open Go.Addr renaming block → At
open Bool renaming not_eq_true' → Au,and_eq_true → Ax
set_option maxHeartbeats 16000000
namespace Go.Proofs.YthgklnohcmaopaaGreatDoor
set_option maxRecDepth 100000
section
open Go Go.RowKit
attribute [local go_sem] aO aM
theorem rJ0 (l:List Nat) (ba:Option Addr) (bc:Nat) (w:World) (hl:l.length<=1048576) (hn:∀n∈l,n<18446744073709551616) (fg:(packE l).length<=bc) (jh:ba=none->bc=0) (ac:aG w ba 1 ((packE l).map aY)) :
  Calls Tryz.prog 150 #[.slice ba (packE l).length bc] w λe w'=>∃pb,e=.returned (.tuple #[.pointer (some ⟨pb,0,none⟩),.int .i64 0])/\nG w' pb l/\aB w w':=by
 have fk:oV l<=64:=oE.2 hn;have ah:=aY0 l;obtain⟨b0,b1,b2,b3,fe,h0,h1,h2,h3,ff⟩:=uJ0 l;replace ff:=ff (by omega);obtain⟨W,hW⟩:=exq (oV l);obtain⟨n,pz⟩:=exq l.length;obtain⟨b,hb⟩:=exq (packE l);rw[<-hb]at fe ah fg ac ⊢;rw[<-hW]at fe ah fk;rw[<-pz]at ah hl ff;obtain⟨M,hM⟩:=exq ((n*W+7)/8);rw[<-hM]at ah;have HAT:=Aa ac;have HNC:=Aa jh;have HB:=Aa hb;have HN:=Aa hn;have HW:=Aa hW;have HNL:=Aa pz;have HHEAD:=Aa fe;have HM:=Aa hM;obtain⟨bb,bo,rfl,hc⟩:=at1 (f:=λx:UInt8=>Value.int .u8 x.toNat) ac (by rw[fe];simp);have tN:∀x:Nat,x<256->((Al x).toNat:Int)=x:=λx hx=>by simp;omega
 have q0:w.cell? ⟨bb,bo,none⟩=some (.int .u8 b0):=by have:=hc 0 (Al b0) (by rw[fe];rfl);rw[tN _ h0]at this;exact this
 have q1:w.cell? ⟨bb,bo+1,none⟩=some (.int .u8 b1):=by have:=hc 1 (Al b1) (by rw[fe];rfl);rw[tN _ h1]at this;exact this
 have q2:w.cell? ⟨bb,bo+2,none⟩=some (.int .u8 b2):=by have:=hc 2 (Al b2) (by rw[fe];rfl);rw[tN _ h2]at this;exact this
 have q3:w.cell? ⟨bb,bo+3,none⟩=some (.int .u8 b3):=by have:=hc 3 (Al b3) (by rw[fe];rfl);rw[tN _ h3]at this;exact this
 have q4:w.cell? ⟨bb,bo+4,none⟩=some (.int .u8 W):=by have:=hc 4 (Al W) (by rw[fe];rfl);rw[tN _ (by omega)]at this;exact this
 have z0:∀x:Ext aB w.drew,x.u.cell? ⟨bb,bo,none⟩=some (.int .u8 b0):=aF ((aB.drew w).cell q0);have z1:∀x:Ext aB w.drew,x.u.cell? ⟨bb,bo+1,none⟩=some (.int .u8 b1):=aF ((aB.drew w).cell q1);have z2:∀x:Ext aB w.drew,x.u.cell? ⟨bb,bo+2,none⟩=some (.int .u8 b2):=aF ((aB.drew w).cell q2);have z3:∀x:Ext aB w.drew,x.u.cell? ⟨bb,bo+3,none⟩=some (.int .u8 b3):=aF ((aB.drew w).cell q3);have z4:∀x:Ext aB w.drew,x.u.cell? ⟨bb,bo+4,none⟩=some (.int .u8 W):=aF ((aB.drew w).cell q4);obtain⟨N,hN⟩:=exq b.length;rw[<-hN]at ah fg ⊢;have HN2:=Aa hN;have HLEN:=Aa ah;have hl5:¬(N:Int)<5:=by omega
 have i0:0<N:=by omega
 have i1:(1:Int)<N:=by omega
 have i2:(2:Int)<N:=by omega
 have i3:(3:Int)<N:=by omega
 have i4:(4:Int)<N:=by omega
 have wi:∀x:Nat,x<256->IntKind.i64.wrap (x:Int)=x:=λx hx=>by simp[Am,An,Aj];omega
 have w0:=wi b0 h0;have w1:=wi b1 h1;have w2:=wi b2 h2;have w3:=wi b3 h3;have wW:=wi W (by omega);obtain⟨c1,c2,c3,s1,s2,m1,m2,m3,o1,o2,o3⟩:=zM0 h0 h1 h2 h3 ff;clear wi ff hN ah ac jh hb hn hW pz fe hM hc tN q0 q1 q2 q3 q4;go_enter Tryz.func150,Tryz.ntmps150
 go_wp2_with fail
 refine bK (bB 29 [27]) (by kernel_rfl) (λd _ _ _ _ h=>by cases d<;>exact h) ?_
 iterate 27 (refine aH rfl (λK hK=>?_);go_simp;refine hK _ ?_;clear hK K)
 refine bH rfl rfl (λK hK=>?_);go_simp;refine⟨aB.alloc _ _,hK _ _ ?_⟩;clear hK K z0 z1 z2 z3 z4;iterate 1 (refine aH rfl (λK hK=>?_);go_simp;refine hK _ ?_;clear hK K)
 refine cB ?_;obtain⟨pb,ed⟩:=exq w.heap.size;obtain⟨WB,ni⟩:=exq ((w.alloc (.cells #[.int .i64 n,.int .i64 W,.slice none 0 0] 279)).drew);have jt:aB w WB:=by rw[ni];exact(aB.alloc w _).dr
 obtain⟨bxc,bxf⟩:=bT (w:=w) (cs:=#[.int .i64 n,.int .i64 W,.slice none 0 0]) (t:=279) (w':=WB) (by rw[ni];exact aB.drew _);rw[<-ed]at bxc bxf;have g0:=bxc 0 _ rfl;have g1:=bxc 1 _ rfl;have g2:=bxc 2 _ rfl;have gf:=bxf 2;have de:WB.heap.size=pb+1:=by rw[ni,ed];show (w.heap.push _).size=_;simp
 rw[<-ni];rw[<-ed];have HPB:=Aa ed;have HGB:=Aa jt;have HSZ:=Aa de;clear bxc bxf ni w0 w1 w2 w3 wW o1 o2 o3 m1 m2 m3 h0 h1 h2 h3 hl5 i0 i1 i2 i3 i4 ed jt de;have hLW:n*W<=1048576*64:=Ba hl fk;obtain⟨MM,hMM⟩:=exq (n*W);have HMM:=Aa hMM;have ya:MM<=1048576*64:=by rw[hMM];exact hLW
 have wM:IntKind.i64.wrap ((n:Int)*W)=MM:=by
  have h1:(n:Int)*W=MM:=by rw[hMM];push_cast;rfl
  rw[h1];exact iE (by omega)
 have hM8:M=(MM+7)/8:=by rw[HM.out,hMM]
 have wM7:IntKind.i64.wrap ((MM:Int)+7)=(MM:Int)+7:=by have:=iE (x:=MM+7) (by omega);rw[Ap]at this;exact this
 have e7:((MM:Int)+7)/8=M:=by omega
 have e7t:((MM:Int)+7).tdiv 8=M:=by rw[Ai (by omega)];exact e7
 have wM8:IntKind.i64.wrap (M:Int)=M:=iE (by omega);have wM5:IntKind.i64.wrap (5+(M:Int))=5+(M:Int):=by have:=iE (x:=5+M) (by omega);rw[Ap]at this;exact this
 have hNe:((N:Int) != 5+(M:Int))=false:=by have:=HLEN.out;simp;omega
 have jf:¬(1048576:Int)<n:=by omega
 have vn:¬(64:Int)<W:=by omega
 have z0:∀y:Ext aB WB.drew,y.u.cell? ⟨pb,0,none⟩=some (.int .i64 n):=aF ((aB.drew WB).cell g0);have z1:∀y:Ext aB WB.drew,y.u.cell? ⟨pb,1,none⟩=some (.int .i64 W):=aF ((aB.drew WB).cell g1);have HM8:=Aa hM8;clear hMM hLW hM8;go_wp2_with fail
 refine bK (bB 29 []) (by kernel_rfl) (λd _ _ _ _ h=>by cases d<;>exact h) ?_
 iterate 29 (refine aH rfl (λK hK=>?_);go_simp;refine hK _ ?_;clear hK K)
 refine cB ?_;clear z0 z1;go_wp2_with fail
 obtain⟨WC,hWC⟩:=exq WB.drew;have hgC:aB WB WC:=by rw[hWC];exact aB.drew WB
 have ads:WC.heap.size=pb+1:=by rw[hWC];exact HSZ.out
 have k0:=hgC.cell g0;have k1:=hgC.cell g1;have k2:=hgC.cell g2;have kf:WC.frozen? ⟨pb,2,none⟩=false:=by rw[hgC.froz (by show pb<WB.heap.size;rw[HSZ.out];omega)];exact gf
 have HGC:=Aa (aB.trans _ _ _ HGB.out hgC);rw[<-hWC];clear hWC hgC g0 g1 g2 gf wM7 e7 e7t wM8 wM5 hNe jf vn;obtain⟨q,hq⟩:=exq ((MM+63)/64);have xx:q<=1048576:=by omega
 have wM2:IntKind.i64.wrap ((MM:Int)+63)=(MM:Int)+63:=by have:=iE (x:=MM+63) (by omega);rw[Ap]at this;exact this
 have tg:((MM:Int)+63)/64=q:=by omega
 have eq2:((MM:Int)+63).tdiv 64=q:=by rw[Ai (by omega)];exact tg
 have z0:∀y:Ext aB WC.drew,y.u.cell? ⟨pb,0,none⟩=some (.int .i64 n):=aF ((aB.drew WC).cell k0);have z1:∀y:Ext aB WC.drew,y.u.cell? ⟨pb,1,none⟩=some (.int .i64 W):=aF ((aB.drew WC).cell k1);have wq:IntKind.i64.wrap (q:Int)=q:=iE (by omega);have l9:=λ(Y:World)=>pH1 q Y xx;have HQ:=Aa hq;clear hq;refine lC 13 (bB 13 [12]) (by kernel_rfl) (λd _ _ _ _ h=>by cases d<;>exact h) ?_
 iterate 12 (refine aH rfl (λK hK=>?_);go_simp;refine hK _ ?_;clear hK K)
 refine bH rfl rfl (λK hK=>?_);go_simp;refine⟨aB.alloc _ _,hK _ _ ?_⟩;clear hK K z0 z1 l9 tg eq2 wM2 wq;refine cB ?_;simp only[List.drop_succ_cons,Aq];have az:=lR0 (w:=WC) xx;rw[Be,ads]at az;obtain⟨W3,ep⟩:=exq ((WC.alloc (.cells (madeCells #[.int .u64 0] q) 213)).drew);have ax:aB WC W3:=by rw[ep];exact(aB.alloc WC _).dr
 have pq:aX W3 (pb+1) 213 1 kI (.slice (some ⟨pb+1,0,none⟩) q q) (Bb q 0):=by rw[ep];exact az.grows (aB.drew _)
 rw[<-ep];try rw[ads]
 have nc:pb+1<W3.heap.size:=by rw[ep];show pb+1<(WC.heap.push _).size;rw[Array.size_push,ads];omega
 have b32:=ax.cell k2;have b3f:W3.frozen? ⟨pb,2,none⟩=false:=by rw[ax.froz (by show pb<WC.heap.size;omega)];exact kf
 have j0:=ax.cell k0;have j1:=ax.cell k1;have ke:=aB.trans _ _ _ HGC.out ax;clear az ep k0 k1 k2 kf ax
 -- the bytes behind the head
 obtain⟨a5,ol,ha5⟩:∃a5,(if bc=5 then (some ⟨bb,bo,none⟩:Option Addr) else some ⟨bb,bo+5,none⟩)=a5/\aG w a5 1 ((cN0 l).map aY):=by
  obtain⟨a',hv',jy,_⟩:=zD (l:=5) (h:=N) HAT.out HNC.out (by have:=HLEN.out;omega) (by rw[HN2.out];exact Ar _) (by rw[<-HN2.out];exact fg);refine⟨a',?_,?_⟩
  ·rw[<-hv',Option.map_some,jQ]
  ·have e:(b.take N).drop 5=cN0 l:=by rw[HN2.out,Ao,HHEAD.out];rfl
   rw[e]at jy;exact jy
 have hN5:5<=N:=by have:=HLEN.out;omega
 have hNM:N-5=M:=by have:=HLEN.out;omega
 have akv:5<=bc:=by omega
 have h5i:(5:Int)<=N:=by omega
 have h5n:(N:Int)<=bc:=by omega
 have f5:(5:Int)<=bc:=by omega
 have HA5:=Aa ha5;clear ha5;go_wp2_with fail
 have e0:(W3.setCell ⟨pb,2,none⟩ (.slice (some ⟨pb+1,0,none⟩) q q)).cell? ⟨pb,0,none⟩=some (.int .i64 n):=(Ac _ _ _ _ (λh=>by cases h)).trans j0;have e1:(W3.setCell ⟨pb,2,none⟩ (.slice (some ⟨pb+1,0,none⟩) q q)).cell? ⟨pb,1,none⟩=some (.int .i64 W):=(Ac _ _ _ _ (λh=>by cases h)).trans j1;have e2:(W3.setCell ⟨pb,2,none⟩ (.slice (some ⟨pb+1,0,none⟩) q q)).cell? ⟨pb,2,none⟩=some (.slice (some ⟨pb+1,0,none⟩) q q):=World.cell?_setCell_same _ _ _ b32;have jx:aB w (W3.setCell ⟨pb,2,none⟩ (.slice (some ⟨pb+1,0,none⟩) q q)):=ke.set (by rw[HPB.out];exact Ar _) _;have n8:=mG pq (p:=⟨pb,2,none⟩) (Nat.lt_succ_self _) (.slice (some ⟨pb+1,0,none⟩) q q);rw[<-oS0 l W q]at n8;have agw:pb+1<(W3.setCell ⟨pb,2,none⟩ (.slice (some ⟨pb+1,0,none⟩) q q)).heap.size:=by simp;exact nc
 obtain⟨W4,py⟩:=exq (W3.setCell ⟨pb,2,none⟩ (.slice (some ⟨pb+1,0,none⟩) q q));rw[<-py]at e0 e1 e2 jx n8 agw ⊢;clear py pq ke j0 j1 b32 b3f nc;go_loopw [89] (λi wr=>∃k:Nat,k<=M/\i=.int .i64 k/\aX wr (pb+1) 213 1 kI (.slice (some ⟨pb+1,0,none⟩) q q) (pO l W k q)/\wr.cell? ⟨pb,0,none⟩=some (.int .i64 n)/\wr.cell? ⟨pb,1,none⟩=some (.int .i64 W)/\wr.cell? ⟨pb,2,none⟩=some (.slice (some ⟨pb+1,0,none⟩) q q)/\aB w wr) (λi _=>M-(intOf i).toNat)
 case atStart=>exact⟨0,Ag _,rfl,n8,e0,e1,e2,jx⟩
 case round =>
  clear n8 e0 e1 e2 jx agw;obtain⟨k,hk,rfl,aa,e0,e1,e2,hg⟩:=hrel;by_cases ae:k<M
  ·have gm:(cN0 l).length=M:=by unfold cN0;rw[Ab,List.length_range,HM.out,HNL.out,HW.out]
   obtain⟨x,hx⟩:∃x,(cN0 l)[k]?=some x:=⟨_,Ad (by rw[gm];exact ae)⟩;obtain⟨ab,ao,ha5,hc5⟩:=at1 (f:=λx:UInt8=>Value.int .u8 x.toNat) (HA5.out.grows hg) (aK (by rw[gm];exact ae));have cx:=hc5 k x hx;subst ha5
   have hxv:x.toNat=fU (bitAt l W) (8*k) 8:=by
    unfold cN0 at hx;rw[Ah,List.getElem?_range (by rw[<-HW.out,<-HNL.out,<-HM.out];exact ae)]at hx;rw[<-Option.some.inj hx,HW.out]
    have:=kJ (bitAt l (oV l)) (8*k) 8
    simp;omega
   obtain⟨c,gn⟩:=exq x.toNat;rw[<-gn]at cx hxv;have aam:c<256:=by rw[hxv];exact kJ _ _ 8
   have hk8:8*k+8<=MM+7:=by have:=HM8.out;omega
   obtain⟨Q8,hQ8⟩:=exq (k/8);obtain⟨R8,hR8⟩:=exq (k%8);obtain⟨S8,hS8⟩:=exq (R8*8);have ur:Q8<q:=by have:=HQ.out;omega
   have hQi:(Q8:Int)<q:=by omega
   have nh:S8<64:=by omega
   have d1:=dC (f:=λn:Nat=>Value.int .u64 n) aa (qV (by rw[<-hQ8];exact ur):(pO l W k q)[k/8]?=_);have HST:=Aa (oJ0 (l:=l) (W:=W) (k:=k) (q:=q) (by rw[<-hQ8];exact ur));rw[<-hQ8]at d1 HST;obtain⟨y,hy⟩:=exq (fU (λp=>decide (p<8*k)&&bitAt l W p) (64*Q8) 64);have j6:y<18446744073709551616:=by rw[hy];exact kJ _ _ 64
   rw[<-hy,<-hxv,<-hR8,<-hS8]at HST;rw[<-hy]at d1;have tf:=kW0 (x:=y) (v:=c) (S:=S8) j6;obtain⟨y1,lk⟩:=exq (y|||(c<<<S8)%18446744073709551616)
   rw[<-lk]at tf HST;obtain⟨fr,_,ai⟩:=eW (f:=λn:Nat=>Value.int .u64 n) aa (k:=Q8) (by rw[nE];exact ur) y1;have eq8:(k:Int)/8=Q8:=by omega
   have akw:(k:Int).tdiv 8=Q8:=by rw[Ai (by omega)];exact eq8
   have er8:(k:Int)%8=R8:=by omega
   have akx:(k:Int).tmod 8=R8:=by rw[Int.tmod_eq_emod_of_nonneg (by omega)];exact er8
   have wQ8:IntKind.i64.wrap (Q8:Int)=Q8:=iE (by omega);have wR8:IntKind.i64.wrap (R8:Int)=R8:=iE (by omega);have wS8:IntKind.i64.wrap ((R8:Int)*8)=S8:=by have:=iE (x:=R8*8) (by omega);rw[Az,<-Az,<-hS8]at this;rw[<-this,hS8];push_cast;rfl
   have uS8:IntKind.u64.wrap (S8:Int)=S8:=by simp[Am,An,Aj];omega
   have uc:IntKind.u64.wrap (c:Int)=c:=by simp[Am,An,Aj];omega
   have cn:(k:Int)<M:=by omega
   have f0:(wr.setCell ⟨pb+1,Q8,none⟩ (.int .u64 y1)).cell? ⟨pb,0,none⟩=some (.int .i64 n):=(Ac _ _ _ _ (λh=>by have:=congrArg At h;simp at this)).trans e0;have f1:(wr.setCell ⟨pb+1,Q8,none⟩ (.int .u64 y1)).cell? ⟨pb,1,none⟩=some (.int .i64 W):=(Ac _ _ _ _ (λh=>by have:=congrArg At h;simp at this)).trans e1;have f2:(wr.setCell ⟨pb+1,Q8,none⟩ (.int .u64 y1)).cell? ⟨pb,2,none⟩=some (.slice (some ⟨pb+1,0,none⟩) q q):=(Ac _ _ _ _ (λh=>by have:=congrArg At h;simp at this)).trans e2;have HF:=Aa (And.intro f0 (And.intro f1 f2));have af:aB w (wr.setCell ⟨pb+1,Q8,none⟩ (.int .u64 y1)):=hg.set (by rw[HPB.out];simp) _;have HO:=Aa ai;clear hx hc5 hxv gn hQ8 hR8 hS8 hy lk ai aa f0 f1 f2 ol;go_wp2_with fail
   go_roundw
   case rel=>exact⟨k+1,ae,by go_num,by rw[HST.out];exact HO.out,HF.out.1,HF.out.2.1,HF.out.2.2,af⟩
   case measure=>simp[intOf];omega
  ·obtain rfl:M=k:=by omega
   rw[wF0 (by rw[HW.out];exact λx hx=>qJ hx) (by rw[<-HNL.out,<-HMM.out];have:=HM8.out;omega)]at aa;have ai1:=λ(Y:World)=>pH1 n Y hl;have km:=lR0 (w:=wr) (n:=n) hl;rw[Be]at km;obtain⟨W5,qz⟩:=exq (wr.alloc (.cells (madeCells #[.int .u64 0] n) 213));have bv:aB wr W5:=by rw[qz];exact aB.alloc _ _
   obtain⟨lb,iz⟩:=exq wr.heap.size;rw[<-qz,<-iz]at km;have aky:pb+1<lb:=by rw[iz];exact gX aa _ rfl
   rw[show Bb n 0=mA l 0 0 by rw[qE,HNL.out]]at km
   have e05:=bv.cell e0;have e15:=bv.cell e1;have e25:=bv.cell e2;have ar:=aa.grows bv;have d8:=aB.trans _ _ _ hg bv;have ai2:w.heap.size<=lb:=by have:=HPB.out;omega
   clear aa;go_wp2_with fail
   try rw[<-qz]
   try rw[<-iz]
   clear qz iz bv e0 e1 e2 hg ol ai1;go_loopw [119] (λi wx=>∃k:Nat,k<=n/\i=.int .i64 k/\aX wx lb 213 1 kI (.slice (some ⟨lb,0,none⟩) n n) (mA l 0 k)/\wx.cell? ⟨pb,0,none⟩=some (.int .i64 n)/\wx.cell? ⟨pb,1,none⟩=some (.int .i64 W)/\wx.cell? ⟨pb,2,none⟩=some (.slice (some ⟨pb+1,0,none⟩) q q)/\aX wx (pb+1) 213 1 kI (.slice (some ⟨pb+1,0,none⟩) q q) (eI l W q)/\aB w wx) (λi _=>n-(intOf i).toNat)
   case atStart=>exact⟨0,Ag _,rfl,km,e05,e15,e25,ar,d8⟩
   case round =>
    clear km e05 e15 e25 ar d8;obtain⟨k,jp,rfl,cd,e0,e1,e2,aa,hg⟩:=hrel;by_cases ay:k<n
    ·obtain⟨x,hx⟩:∃x,l[k]?=some x:=⟨_,Ad (by rw[<-HNL.out];exact ay)⟩
     have cn:(k:Int)<n:=by omega
     have CG:=Aa (rZ0 pb (pb+1) q W k x (pb+1) l wr fk (by rw[<-HNL.out];exact hl) hx (by rw[HW.out];exact qJ (Af hx)) (by rw[<-HNL.out,<-HMM.out];have:=HQ.out;omega) e1 e2 aa);have HFS:=Aa (sO (z:=0) hx);clear hx;go_wp2_with fail
     refine CG.out.mono ?_;rintro e w6 ⟨rfl,dl⟩;have aaa:=cd.grows dl;obtain⟨u0,hu0⟩:∃u,(mA l 0 k)[k]?=some u:=⟨_,Ad (by rw[nC _ _ (by rw[<-HNL.out];omega),<-HNL.out];exact ay)⟩;have cl:=dC (f:=λn:Nat=>Value.int .u64 n) aaa hu0;obtain⟨fr,_,abe⟩:=eW (f:=λn:Nat=>Value.int .u64 n) aaa (k:=k) (by rw[nC _ _ (by rw[<-HNL.out];omega),<-HNL.out];exact ay) x;rw[HFS.out]at abe;have aj:∀j j',(⟨pb,j,none⟩:Addr)≠⟨lb,j',none⟩:=λj j' h=>by have:=congrArg At h;simp only at this;omega
     have f0:(w6.setCell ⟨lb,k,none⟩ (.int .u64 x)).cell? ⟨pb,0,none⟩=some (.int .i64 n):=(Ac _ _ _ _ (λh=>aj _ _ (by first|exact h|exact h.symm))).trans (dl.cell e0)
     have f1:(w6.setCell ⟨lb,k,none⟩ (.int .u64 x)).cell? ⟨pb,1,none⟩=some (.int .i64 W):=(Ac _ _ _ _ (λh=>aj _ _ (by first|exact h|exact h.symm))).trans (dl.cell e1)
     have f2:(w6.setCell ⟨lb,k,none⟩ (.int .u64 x)).cell? ⟨pb,2,none⟩=some (.slice (some ⟨pb+1,0,none⟩) q q):=(Ac _ _ _ _ (λh=>aj _ _ (by first|exact h|exact h.symm))).trans (dl.cell e2)
     have fx:=gU (v:=.slice (some ⟨lb,0,none⟩) n n) (aa.grows dl) ((aB.refl w6).grownBy_set lb k (.int .u64 x)) (λr h1 h2=>by
      have a1:lb=r:=Option.some.inj h1;have a2:pb+1=r:=Option.some.inj h2;omega)
     have cw:aB w (w6.setCell ⟨lb,k,none⟩ (.int .u64 x)):=(aB.trans _ _ _ hg dl).set ai2 _;have HF:=Aa (And.intro f0 (And.intro f1 f2));clear cd aaa e0 e1 e2 aa hg dl hu0 f0 f1 f2 CG;go_wp2_with fail
     go_roundw
     case rel=>exact⟨k+1,ay,by go_num,abe,HF.out.1,HF.out.2.1,HF.out.2.2,fx,cw⟩
     case measure=>simp[intOf];omega
    ·obtain rfl:n=k:=by omega
     have hrw:mA l 0 n=l:=by rw[HNL.out];exact sT l 0
     rw[hrw]at cd;obtain⟨ra,rc,hre,_,_,adt⟩:=cd.at_ (k:=1) (λx=>(rfl:(kI x).length=1));have e1':=(Value.slice.inj hre).1;rw[<-e1']at adt;have CNW:=Aa (fR0 l (some ⟨lb,0,none⟩) n wr (by rw[<-HNL.out];exact hl) HN.out adt);rw[<-HNL.out]at CNW;clear cd hre e1' adt hrw e0 e1 e2 aa;go_wp2_with fail
     refine CNW.out.mono ?_;rintro e w7 ⟨rfl,hpk,cw⟩;obtain⟨nb,l7⟩:=exq wr.heap.size;rw[<-l7]at hpk ⊢;clear l7;go_wp2_with fail
     refine(gE0 l nb w7 (by rw[<-HNL.out];exact hl) HN.out hpk).mono ?_;rintro e w8 ⟨v8,rfl,vs,fh⟩;rw[<-HB.out]at vs;obtain⟨a8,c8,rfl,ma,_⟩:=fK vs;rw[<-HN2.out];have mf:=aB.trans _ _ _ hg (aB.trans _ _ _ cw fh);have CE:=Aa (mH b b a8 (some ⟨bb,bo,none⟩) c8 bc w8 ma (HAT.out.grows mf));rw[<-HN2.out]at CE;simp only[decide_true]at CE;clear vs ma;go_wp2_with fail
     refine CE.out.mono ?_;rintro e w9 ⟨rfl,rfl⟩;go_wp2
     go_ret2;exact⟨nb,rfl,hpk.grows fh,mf⟩
end
section
open Go Go.RowKit Go.Shelf
attribute [local go_sem] aO aM
theorem bG1 {w:World} {a:Option Addr} {c:Nat} {l:List UInt8} (hn:l≠[]) (ac:aG w a 1 (l.map aY)):(convert 28 9 (.slice a l.length c)).run Tryz.prog w=.ok (.string (mkB l)) w:=by
 obtain⟨b,o,rfl,hc⟩:=at1 (f:=λx:UInt8=>Value.int .u8 x.toNat) ac hn;have hz:(mkB l).size=l.length:=by rw[Bf,jM]
 have hBy:Lib.Bytes w b o (mkB l):=λj hj=>by
  rw[hz]at hj;have h:=hc j _ (Ad hj);rw[h];rfl
 have:=Lib.run_convert_whole (P:=Tryz.prog) w 28 5 9 Tryz.underlying28 Tryz.underlying5 Tryz.underlying9 b o (mkB l) hBy c
 rw[hz]at this;exact this
theorem mZ0 (L:List (List UInt8)):loudE L=sA [oT (shapeL L (nodesA L)),labelsL L (nodesA L),oT (isL L (nodesA L)),packE (idsL L (nodesA L))] 0:=by
 unfold loudE sA;simp only[Aq,List.flatMap_cons,List.flatMap_nil,List.append_nil,List.append_assoc]
theorem gN1 (L:List (List UInt8)) (ba:Option Addr) (bc:Nat) (w:World) (lm:fY L=0) (fg:(loudE L).length<=bc) (ac:aG w ba 1 ((loudE L).map aY)) :
  Calls Tryz.prog 80 #[.slice ba (loudE L).length bc] w λe w'=>∃tb,e=.returned (.tuple #[.pointer (some ⟨tb,0,none⟩),.int .i64 0])/\fB w' tb L/\w.heap.size+2<=tb/\aB w w':=by
 obtain⟨ag,hl,hc⟩:=eF lm;obtain⟨z1,z2,z3,z4,z5⟩:=ag.sizes hl hc;have me:∀n∈idsL L (nodesA L),n<18446744073709551616:=λn hn=>by have:=z5 n hn;omega
 have e1:=nX (shapeL L (nodesA L));have e2:=nX (isL L (nodesA L));have e3:=aY0 (idsL L (nodesA L));have hwd:oV (idsL L (nodesA L))<=64:=oE.2 me;have ed:(idsL L (nodesA L)).length*oV (idsL L (nodesA L))<=524287*64:=Ba z4 hwd;have hp:=mZ0 L
 have aj:loudE L≠[]:=by
  rw[hp,hT0 (k:=0) rfl];intro e
  have:=congrArg Bg e
  rw[List.length_append,bN]at this;simp at this
 have HAT:=Aa ac;have HNE:=Aa aj;have CPA:=tW0 (oT (shapeL L (nodesA L))) (labelsL L (nodesA L)) (oT (isL L (nodesA L))) (packE (idsL L (nodesA L))) ba bc w (by omega) (by omega) (by omega) (by omega) (by rw[<-hp];exact fg) (by rw[<-hp];exact ac);rw[<-hp]at CPA;have HCPA:=Aa CPA;have CS:=λ(a:Option Addr) (c:Nat) (u:World) h1 h2=>Aa (qQ0 (shapeL L (nodesA L)) a c u z1 h1 h2);have CI:=λ(a:Option Addr) (c:Nat) (u:World) h1 h2=>Aa (qQ0 (isL L (nodesA L)) a c u (by omega) h1 h2);have CD:=λ(a:Option Addr) (c:Nat) (u:World) h1 h2 h3=>Aa (rJ0 (idsL L (nodesA L)) a c u (by omega) me h1 h2 h3);have CG:=λ(sb ib pb:Nat) (la:Option Addr) (lc:Nat) (u:World) h1 h2 h3 h4=>Aa (hJ1 L sb ib pb la lc u ag hl hc h1 h2 h3 h4)
 have CB:∀(a:Option Addr) (c:Nat) (u:World),(∀q,a=some q->q.block<u.heap.size)->aG u a 1 ((L.map mkB).map stC)->Hid (Calls Tryz.prog 50 #[.slice a L.length c] u λe w'=>∃tb,e=.returned (.tuple #[.pointer (some ⟨tb,0,none⟩),.int .i64 0])/\fB w' tb L/\u.heap.size+2<=tb/\aB u w'):=λa c u h1 h2=>by
  have h:=uK (L.map mkB) a c u (by rw[Ab];omega) (λs hs=>by
   obtain⟨x,hx,rfl⟩:=List.mem_map.1 hs
   have:=ag.len x hx
   rw[Bf,jM];omega) h1 h2
  rw[mE1,Ab]at h;refine h.mono ?_;rintro e w' ⟨hg,h3|h3⟩
  ·obtain⟨_,tb,h4,h5,h6⟩:=h3
   exact⟨tb,h4,h5,h6,hg⟩
  ·exact absurd lm h3.1
 have CE:=λ(tb:Nat) (u:World) h=>Aa (iJ0 L tb u ag hl hc h);obtain⟨b,hb⟩:=exq (loudE L);rw[<-hb]at HAT HNE HCPA CE ⊢;clear lm fg ac ag hl hc z1 z2 z3 z4 z5 me e1 e2 e3 hwd ed hp aj CPA hb;go_enter Tryz.func80,Tryz.ntmps80
 go_wp2_with fail
 refine HCPA.out.mono ?_;rintro e w1 ⟨v0,v1,v2,v3,rfl,h0,h1,h2,h3,an⟩;obtain⟨a0,c0,rfl,x0,y0,t0⟩:=h0.out;obtain⟨a1,c1,rfl,x1,y1,t1⟩:=h1.out;obtain⟨a2,c2,rfl,x2,y2,t2⟩:=h2.out;obtain⟨a3,c3,rfl,x3,y3,t3⟩:=h3.out;clear HCPA h0 h1 h2 h3;obtain⟨W2,d9⟩:=exq (w1.alloc (.cells #[.slice a0 (oT (shapeL L (nodesA L))).length c0,.slice a1 (labelsL L (nodesA L)).length c1,.slice a2 (oT (isL L (nodesA L))).length c2,.slice a3 (packE (idsL L (nodesA L))).length c3] 243));obtain⟨xb,oh⟩:=exq w1.heap.size;have da:=λj u h=>aT w1 #[.slice a0 (oT (shapeL L (nodesA L))).length c0,.slice a1 (labelsL L (nodesA L)).length c1,.slice a2 (oT (isL L (nodesA L))).length c2,.slice a3 (packE (idsL L (nodesA L))).length c3] 243 (0,0) j u h;rw[<-d9,<-oh]at da;have b0:=da 0 _ rfl;have b1:=da 1 _ rfl;have b2:=da 2 _ rfl;have b3:=da 3 _ rfl;have af:aB w1 W2:=by rw[d9];exact aB.alloc _ _
 have HT1:=Aa (t1.grows af);have CS1:=CS a0 c0 W2 x0 (t0.grows af);have CI1:=λu (hu:aB W2 u)=>CI a2 c2 u x2 ((t2.grows af).grows hu);have CD1:=λu (hu:aB W2 u)=>CD a3 c3 u x3 y3 ((t3.grows af).grows hu);have fc:=an.tr af;clear da CS CI CD t0 t1 t2 t3 x0 x1 x2 x3 y0 y1 y2 y3;go_wp2_with fail
 rw[<-d9,<-oh];clear d9 oh an af;refine CS1.out.mono ?_;rintro e w3 ⟨sb,rfl,mq,ax⟩;replace b1:=ax.cell b1;replace b2:=ax.cell b2;replace b3:=ax.cell b3;clear CS1 b0;go_wp2_with fail
 refine(CI1 w3 ax).out.mono ?_;rintro e w4 ⟨ib,rfl,sd,ch⟩;replace b1:=ch.cell b1;replace b3:=ch.cell b3;have agx:=mq.grows ch;have adu:=ax.tr ch;clear CI1 b2 mq;go_wp2_with fail
 refine(CD1 w4 adu).out.mono ?_;rintro e w5 ⟨pb,rfl,ed,bv⟩;replace b1:=bv.cell b1;have agy:=adu.tr bv;have d8:=fc.tr agy;have CG1:=CG sb ib pb a1 c1 w5 (agx.grows bv) (sd.grows bv) ed (HT1.out.grows agy);clear CD1 CG b3 agx sd ed ax ch adu;go_wp2_with fail
 refine CG1.out.mono ?_;rintro e w6 ⟨v6,rfl,mh,dl⟩;have adv:=gX mh;obtain⟨a6,c6,rfl,_,_,qd⟩:=mh.at_ (enc:=stC) (λ_=>rfl);rw[Ab]at adv ⊢;have CB1:=CB a6 c6 w6 (λq hq=>adv q.block (by rw[hq];rfl)) qd;have sg:=d8.tr dl;clear CG1 CB mh adv qd dl bv d8;go_wp2_with fail
 refine CB1.out.mono ?_;rintro e w7 ⟨tb,rfl,htb,iq,cw⟩;have HLO:=Aa (Bd (As sg.size 2) iq);clear iq;have HTB:=Aa htb;have CE1:=CE tb w7.drew (htb.grows (aB.drew w7));have si:=sg.tr cw;have nt:∀x:Ext aB w7.drew,(convert 28 9 (.slice ba b.length bc)).run Tryz.prog x.u=.ok (.string (mkB b)) x.u:=λx=>bG1 (c:=bc) HNE.out (HAT.out.grows (si.dr.tr x.h));clear CB1 CE htb cw sg;go_wp2_with fail
 refine bK (oK [0,1,2,3,6,7,4,5,8,9] [4]) (by kernel_rfl) (λd _ _ _ _ h=>by cases d<;>exact h) ?_
 iterate 6 (refine aH rfl (λK hK=>?_);go_simp;refine hK _ ?_;clear hK K)
 refine bH rfl rfl (λK hK=>?_);go_simp;refine(CE1.out).mono ?_;rintro e w8 ⟨v8,rfl,vs,fh⟩;refine⟨fh,hK _ _ ?_⟩;clear hK K;have te:∀x:Ext aB w8,(convert 28 9 v8).run Tryz.prog x.u=.ok (.string (mkB b)) x.u:=λx=>bZ0 (vs.grows x.h);have mf:=si.dr.tr fh;have HTB8:=Aa (HTB.out.grows ((aB.drew w7).tr fh));have abi:((mkB b).toList==(mkB b).toList)=true:=by simp
 clear CE1 HTB vs fh si nt;iterate 3 (refine aH rfl (λK hK=>?_);go_simp;refine hK _ ?_;clear hK K)
 refine cB ?_;go_wp2
 go_ret2;exact⟨tb,rfl,HTB8.out,HLO.out,mf⟩
end
section
open Go Go.RowKit Go.Shelf
def jK0 (lo:Nat) (p:List dE) (m:Mx) (es:List En) (w:World):Nat->Value->Prop
 | 0,v=>aX w 0 73 2 cX v p
 | 1,v=>∃mb bm,v=.pointer (some ⟨mb,0,none⟩)/\gR w mb bm m
 | 2,v=>∃tb,v=.pointer (some ⟨tb,0,none⟩)/\fB w tb (bls (readL es))/\lo+2<=tb
 | 3,v=>∃tb,v=.pointer (some ⟨tb,0,none⟩)/\fB w tb (bls (dI es))/\lo+2<=tb
 | 4,v=>∃pb,v=.pointer (some ⟨pb,0,none⟩)/\nG w pb (iY uE es es.length)
 | 5,v=>∃pb,v=.pointer (some ⟨pb,0,none⟩)/\nG w pb (es.map (yD (dI es)))
 | 6,v=>∃pb,v=.pointer (some ⟨pb,0,none⟩)/\nG w pb (es.map λx=>x.l.toNat)
 | 7,v=>∃pb,v=.pointer (some ⟨pb,0,none⟩)/\nG w pb (es.map λx=>x.t.toNat)
 | 8,v=>∃pb,v=.pointer (some ⟨pb,0,none⟩)/\nG w pb (es.map λx=>x.c.toNat)
 | 9,v=>∃pb,v=.pointer (some ⟨pb,0,none⟩)/\nG w pb (nH0 es)
 | 10,v=>∃pb,v=.pointer (some ⟨pb,0,none⟩)/\nG w pb (iY mN0 (jA es) es.length)
 | _+11,_=>True
variable {lo db:Nat} {p:List dE} {m:Mx} {es:List En} {w w':World} {i:Nat} {v:Value}
theorem jK0.grows (h:jK0 lo p m es w i v) (hg:aB w w'):jK0 lo p m es w' i v:=by
 match i,h with
 | 0,h=>exact aX.grows h hg
 | 1,⟨mb,bm,e,hm⟩=>exact⟨mb,bm,e,hm.grows hg⟩
 | 2,⟨tb,e,ht,hl⟩=>exact⟨tb,e,ht.grows hg,hl⟩
 | 3,⟨tb,e,ht,hl⟩=>exact⟨tb,e,ht.grows hg,hl⟩
 | 4,⟨pb,e,hp⟩=>exact⟨pb,e,hp.grows hg⟩
 | 5,⟨pb,e,hp⟩=>exact⟨pb,e,hp.grows hg⟩
 | 6,⟨pb,e,hp⟩=>exact⟨pb,e,hp.grows hg⟩
 | 7,⟨pb,e,hp⟩=>exact⟨pb,e,hp.grows hg⟩
 | 8,⟨pb,e,hp⟩=>exact⟨pb,e,hp.grows hg⟩
 | 9,⟨pb,e,hp⟩=>exact⟨pb,e,hp.grows hg⟩
 | 10,⟨pb,e,hp⟩=>exact⟨pb,e,hp.grows hg⟩
 | _+11,_=>trivial
structure wS0 (w:World) (db:Nat) (cs:Array Value):Prop where
 tb:TB w db cs 166
 sz:cs.size=11
 c0:∃a n c,cs[0]?=some (.slice a n c)
theorem wS0.ne {cs:Array Value} (h:wS0 w db cs) {x:Nat} {u:Value} (hc:w.cell? ⟨x,0,none⟩=some u) (hu:∀a n c,u ≠ .slice a n c):¬x=db:=by
 rintro rfl;obtain⟨a,n,c,h0⟩:=h.c0
 have:=h.tb.cell h0
 rw[hc]at this;exact hu a n c (Option.some.inj this)
theorem wS0.out1 {cs:Array Value} (h:wS0 w db cs) {e:TypeId} (aj:166≠e):∀q,(λk=>k=db) q->∃o,w.heap[q]?=some o/\yV o≠some e:=fA1 h.tb aj
theorem wS0.out2 {cs:Array Value} (h:wS0 w db cs):∀q,(λk=>k=db) q->∃o,w.heap[q]?=some o/\yV o≠some 213/\yV o≠some 3:=λq hq=>by
 have:q=db:=hq
 subst this;exact⟨_,h.tb,by simp[yV],by simp[yV]⟩
theorem lU {cs:Array Value} (h:wS0 w db cs) {pb:Nat} {l:List Nat} (hp:nG w pb l) (o:Nat) (u:Value):nG (w.setCell ⟨db,o,none⟩ u) pb l :=
 fZ0 hp (oF w db o u) (h.ne hp.c0 (λ_ _ _ e=>by cases e)) h.out2
theorem qV0 {cs:Array Value} (h:wS0 w db cs) {tb:Nat} {L:List (List UInt8)} (ht:fB w tb L) (o:Nat) (u:Value):fB (w.setCell ⟨db,o,none⟩ u) tb L:=by
 obtain⟨sb,s1,s2⟩:=ht.s;obtain⟨ib,i1,i2⟩:=ht.i;obtain⟨vL,l1,l2⟩:=ht.l;obtain⟨pb,d1,d2⟩:=ht.d;obtain⟨vN,n1,n2⟩:=ht.n;have ho:=oF w db o u;have hn:=h.ne s1 (λ_ _ _ e=>by cases e)
 exact⟨⟨sb,iC s1 ho hn,iU s2 ho (h.ne s2.c0 (λ_ _ _ e=>by cases e)) h.out2⟩,⟨ib,iC i1 ho hn,iU i2 ho (h.ne i2.c0 (λ_ _ _ e=>by cases e)) h.out2⟩,
  ⟨vL,iC l1 ho hn,pA l2 ho (h.out1 (by decide))⟩,⟨pb,iC d1 ho hn,lU h d2 o u⟩,⟨vN,iC n1 ho hn,pA n2 ho (h.out1 (by decide))⟩⟩
theorem kZ1 {cs:Array Value} (h:wS0 w db cs) {mb bm:Nat} {m:Mx} (hm:gR w mb bm m) (o:Nat) (u:Value):gR (w.setCell ⟨db,o,none⟩ u) mb bm m:=by
 refine hm.kept (bG w db o u) (λe=>h.ne hm.c0 (λ_ _ _ e=>by cases e) (Option.some.inj e)) (λe=>?_);obtain⟨D,hD,_⟩:=hm.own;have e2:bm=db:=Option.some.inj e;obtain⟨en,clock,hb,_⟩:=hD;rw[e2,show w.heap[db]?=_ from h.tb]at hb
 cases hb
theorem jK0.set {cs:Array Value} (h:jK0 lo p m es w i v) (hd:wS0 w db cs) (o:Nat) (u:Value):jK0 lo p m es (w.setCell ⟨db,o,none⟩ u) i v:=by
 match i,h with
 | 0,h=>exact pA h (oF w db o u) (hd.out1 (by decide))
 | 1,⟨mb,bm,e,hm⟩=>exact⟨mb,bm,e,kZ1 hd hm o u⟩
 | 2,⟨tb,e,ht,hl⟩=>exact⟨tb,e,qV0 hd ht o u,hl⟩
 | 3,⟨tb,e,ht,hl⟩=>exact⟨tb,e,qV0 hd ht o u,hl⟩
 | 4,⟨pb,e,hp⟩=>exact⟨pb,e,lU hd hp o u⟩
 | 5,⟨pb,e,hp⟩=>exact⟨pb,e,lU hd hp o u⟩
 | 6,⟨pb,e,hp⟩=>exact⟨pb,e,lU hd hp o u⟩
 | 7,⟨pb,e,hp⟩=>exact⟨pb,e,lU hd hp o u⟩
 | 8,⟨pb,e,hp⟩=>exact⟨pb,e,lU hd hp o u⟩
 | 9,⟨pb,e,hp⟩=>exact⟨pb,e,lU hd hp o u⟩
 | 10,⟨pb,e,hp⟩=>exact⟨pb,e,lU hd hp o u⟩
 | _+11,_=>trivial
structure DSt (lo:Nat) (p:List dE) (m:Mx) (es:List En) (ps:List Nat) (db fb:Nat) (fv:Value) (w:World):Prop where
 blk:∃cs,wS0 w db cs
 fl:TB w fb #[fv,.bool false] 163
 at_:∀i∈ps,∃v,w.cell? ⟨db,i,none⟩=some v/\jK0 lo p m es w i v
theorem DSt.grows {ps:List Nat} {fb:Nat} {fv:Value} (h:DSt lo p m es ps db fb fv w) (hg:aB w w'):DSt lo p m es ps db fb fv w' :=
 ⟨let ⟨cs,hb⟩:=h.blk;⟨cs,hb.tb.gr hg,hb.sz,hb.c0⟩,h.fl.gr hg,λi hi=>let ⟨v,h1,h2⟩:=h.at_ i hi;⟨v,hg.cell h1,h2.grows hg⟩⟩
theorem DSt.set {ps:List Nat} {fb:Nat} {fv:Value} (h:DSt lo p m es ps db fb fv w) (hi:i<11) (hv:jK0 lo p m es w i v) (h0:i=0->∃a n c,v=.slice a n c):DSt lo p m es (i::ps) db fb fv (w.setCell ⟨db,i,none⟩ v):=by
 obtain⟨cs,hb⟩:=h.blk
 have cy:wS0 (w.setCell ⟨db,i,none⟩ v) db (cs.setIfInBounds i v):=⟨hb.tb.set i v,by rw[Array.size_setIfInBounds];exact hb.sz,by
  by_cases e:i=0
  ·obtain⟨a,n,c,rfl⟩:=h0 e
   subst e;exact⟨a,n,c,by rw[Ae];simp[hb.sz]⟩
  ·obtain⟨a,n,c,hc⟩:=hb.c0
   exact⟨a,n,c,by rw[Ak e];exact hc⟩⟩
 refine⟨⟨_,cy⟩,h.fl.keep (bG w db i v) hb.tb.rt (by decide),λj hj=>?_⟩;by_cases e:j=i
 ·subst e
  exact⟨v,cy.tb.cell (by rw[Ae];simp[hb.sz,hi]),hv.set hb j v⟩
 ·have lx:j∈ps:=by
   rcases List.mem_cons.1 hj with q|q
   ·exact absurd q e
   ·exact q
  obtain⟨u,h1,h2⟩:=h.at_ j lx;exact⟨u,(Ac _ _ _ _ (λe2=>e (by injection e2 with _ e3 _;exact e3.symm))).trans h1,h2.set hb i v⟩
theorem DSt.dict {ps:List Nat} {fb:Nat} {fv:Value} (h:DSt lo p m es ps db fb fv w) (hp:∀i,i<11->i∈ps):gT w db p m es where
 p:=h.at_ 0 (hp 0 (by decide))
 m:=by obtain⟨v,h1,mb,bm,rfl,h2⟩:=h.at_ 1 (hp 1 (by decide));exact⟨mb,bm,h1,h2⟩
 r:=by obtain⟨v,h1,tb,rfl,h2,_⟩:=h.at_ 2 (hp 2 (by decide));exact⟨tb,h1,h2⟩
 s:=by obtain⟨v,h1,tb,rfl,h2,_⟩:=h.at_ 3 (hp 3 (by decide));exact⟨tb,h1,h2⟩
 f:=by obtain⟨v,h1,pb,rfl,h2⟩:=h.at_ 4 (hp 4 (by decide));exact⟨pb,h1,h2⟩
 i:=by obtain⟨v,h1,pb,rfl,h2⟩:=h.at_ 5 (hp 5 (by decide));exact⟨pb,h1,h2⟩
 l:=by obtain⟨v,h1,pb,rfl,h2⟩:=h.at_ 6 (hp 6 (by decide));exact⟨pb,h1,h2⟩
 t:=by obtain⟨v,h1,pb,rfl,h2⟩:=h.at_ 7 (hp 7 (by decide));exact⟨pb,h1,h2⟩
 c:=by obtain⟨v,h1,pb,rfl,h2⟩:=h.at_ 8 (hp 8 (by decide));exact⟨pb,h1,h2⟩
 o:=by obtain⟨v,h1,pb,rfl,h2⟩:=h.at_ 9 (hp 9 (by decide));exact⟨pb,h1,h2⟩
 a:=by obtain⟨v,h1,pb,rfl,h2⟩:=h.at_ 10 (hp 10 (by decide));exact⟨pb,h1,h2⟩
def mE0 (w:World) (db lo:Nat):Prop:=(∀tb,w.cell? ⟨db,2,none⟩=some (.pointer (some ⟨tb,0,none⟩))->lo+2<=tb)/\(∀tb,w.cell? ⟨db,3,none⟩=some (.pointer (some ⟨tb,0,none⟩))->lo+2<=tb)
theorem DSt.low {ps:List Nat} {fb:Nat} {fv:Value} (h:DSt lo p m es ps db fb fv w) (h2:2∈ps) (h3:3∈ps):mE0 w db lo:=by
 refine⟨λtb ht=>?_,λtb ht=>?_⟩
 ·obtain⟨v,h1,tb',rfl,_,hl⟩:=h.at_ 2 h2
  rw[h1]at ht;injection ht with ht
  injection ht with ht
  injection ht with ht
  injection ht with ht
  omega
 ·obtain⟨v,h1,tb',rfl,_,hl⟩:=h.at_ 3 h3
  rw[h1]at ht;injection ht with ht
  injection ht with ht
  injection ht with ht
  injection ht with ht
  omega
theorem jI {b o:Nat} {cs:Array Value} {t:TypeId} {u:Value} (h:TB w b cs t) (hc:cs[o]?=some u):aB w (w.setCell ⟨b,o,none⟩ u):=by
 refine⟨rfl,rfl,rfl,by simp,λk hk=>?_⟩;by_cases e:k=b
 ·subst e
  rw[show (w.setCell ⟨k,o,none⟩ u).heap[k]?=_ from h.set o u,show w.heap[k]?=_ from h]
  congr 2
  apply Array.ext_getElem?
  intro j;by_cases e2:o=j
  ·subst e2
   rw[hc,Ae];simp[(Array.getElem?_eq_some_iff.1 hc).1]
  ·rw[Ak e2]
 ·exact Below.heap_setCell w ⟨b,o,none⟩ u k e
end
section
open Go Go.RowKit Go.Shelf
attribute [local go_sem] aO aM
theorem zQ (Q:List bE) (k:Nat) (q:bE) (a:Option Addr) (c fb:Nat) (w:World) (hl:Q.length<=1000000) (ac:aG w a 2 (Q.map kZ)) (jk:jG w Q) (hq:Q[k]?=some q) (aj:∀j p,j<k->Q[j]?=some p->p.name≠q.name)
  (hf:TB w fb #[.slice a Q.length c,.bool false] 163) :
  Calls Tryz.prog 92 #[.pointer (some ⟨fb,0,none⟩),.string q.name] w λe w'=>∃v,e=.returned v/\aX w' w.heap.size 5 1 aY v q.data/\aB w w':=by
 have CF:=Aa (wD0 Q k q a c w hl ac jk hq aj);have f0:=hf.cell (o:=0) rfl;generalize Q.length=QL at CF hf f0;clear ac jk hq aj hl;go_enter Tryz.func92,Tryz.ntmps92
 go_wp2_with fail
 refine CF.out.mono ?_;rintro e w1 ⟨v,rfl,hv,an⟩;have T1:=hf.gr an;have b1:=T1.cell (o:=1) rfl;have z1:=T1.froz 1;clear CF f0;go_wp2_with fail
 go_ret;exact⟨v,rfl,hv.grows (jI T1 rfl),an.tr (jI T1 rfl)⟩
theorem jV0 (Q:List bE) (k:Nat) (q:bE) (l:List Nat) (hd:q.data=packE l) (hp:l.length<=1048576/\∀n∈l,n<18446744073709551616) (a:Option Addr) (c fb:Nat) (w:World) (hl:Q.length<=1000000) (ac:aG w a 2 (Q.map kZ)) (jk:jG w Q) (hq:Q[k]?=some q) (aj:∀j p,j<k->Q[j]?=some p->p.name≠q.name)
  (hf:TB w fb #[.slice a Q.length c,.bool false] 163) :
  Calls Tryz.prog 95 #[.pointer (some ⟨fb,0,none⟩),.string q.name] w λe w'=>∃pb,e=.returned (.pointer (some ⟨pb,0,none⟩))/\nG w' pb l/\aB w w':=by
 have CD:=Aa (zQ Q k q a c fb w hl ac jk hq aj hf);rw[hd]at CD;have HHP:=Aa hp;generalize Q.length=QL at CD hf;generalize q.name=nm at CD ⊢;clear ac jk hq aj hl hd hp;go_enter Tryz.func95,Tryz.ntmps95
 go_wp2_with fail
 refine CD.out.mono ?_;rintro e w1 ⟨v,rfl,hv,an⟩;obtain⟨a1,c1,rfl,h1c,_,cm⟩:=hv.at_ bJ.len;have jf:=cM hv;have T1:=hf.gr an;have CE:=Aa (rJ0 l a1 c1 w1 HHP.out.1 HHP.out.2 h1c jf cm);clear CD hv cm jf h1c HHP;generalize (packE l).length=PL at CE ⊢;go_wp2_with fail
 refine CE.out.mono ?_;rintro e w2 ⟨pb,rfl,hpk,af⟩;have T2:=T1.gr af;have b1:=T2.cell (o:=1) rfl;have z1:=T2.froz 1;have hs:=jI (o:=1) (u:=.bool false) T2 rfl;clear CE;go_wp2_with fail
 go_ret;exact⟨pb,rfl,hpk.grows hs,(an.tr af).tr hs⟩
theorem cI1 (Q:List bE) (k:Nat) (q:bE) (L:List (List UInt8)) (hd:q.data=loudE L) (hp:fY L=0) (a:Option Addr) (c fb:Nat) (w:World) (hl:Q.length<=1000000) (ac:aG w a 2 (Q.map kZ)) (jk:jG w Q) (hq:Q[k]?=some q) (aj:∀j p,j<k->Q[j]?=some p->p.name≠q.name)
  (hf:TB w fb #[.slice a Q.length c,.bool false] 163) :
  Calls Tryz.prog 94 #[.pointer (some ⟨fb,0,none⟩),.string q.name] w λe w'=>∃tb,e=.returned (.pointer (some ⟨tb,0,none⟩))/\fB w' tb L/\w.heap.size+2<=tb/\aB w w':=by
 have CD:=Aa (zQ Q k q a c fb w hl ac jk hq aj hf);rw[hd]at CD;have HHP:=Aa hp;generalize Q.length=QL at CD hf;generalize q.name=nm at CD ⊢;clear ac jk hq aj hl hd hp;go_enter Tryz.func94,Tryz.ntmps94
 go_wp2_with fail
 refine CD.out.mono ?_;rintro e w1 ⟨v,rfl,hv,an⟩;obtain⟨a1,c1,rfl,h1c,_,cm⟩:=hv.at_ bJ.len;have T1:=hf.gr an;have CE:=Aa (gN1 L a1 c1 w1 HHP.out h1c cm);clear CD hv cm h1c HHP;generalize (loudE L).length=PL at CE ⊢;go_wp2_with fail
 refine CE.out.mono ?_;rintro e w2 ⟨tb,rfl,htb,iq,af⟩;have T2:=T1.gr af;have b1:=T2.cell (o:=1) rfl;have z1:=T2.froz 1;have hs:=jI (o:=1) (u:=.bool false) T2 rfl;clear CE;go_wp2_with fail
 go_ret;exact⟨tb,rfl,htb.grows hs,Bd (As an.size 2) iq,(an.tr af).tr hs⟩
end
section
open Go Go.RowKit
theorem nE1 {α:Type} {R:α->α->Prop} {l:List α} (h:l.Pairwise R) {i:Nat} {x y:α} (hx:l[i]?=some x) (hy:l[i+1]?=some y):R x y:=by
 obtain⟨h1,e1⟩:=List.getElem?_eq_some_iff.1 hx;obtain⟨h2,e2⟩:=List.getElem?_eq_some_iff.1 hy
 have:=List.pairwise_iff_getElem.1 h i (i+1) h1 h2 (by omega)
 rwa [e1,e2]at this
end
section
open Go Go.RowKit Go.Shelf
attribute [local go_sem] aO aM
theorem aL1 (l:List Nat) (pb i:Nat) (w:World) (ac:nG w pb l) (hi:l.length<=i):Calls Tryz.prog 153 #[.pointer (some ⟨pb,0,none⟩),.int .i64 i] w λe w'=>e=.returned (.tuple #[.int .u64 0,.bool false])/\w=w':=by
 have CL:=Aa (jT l pb w ac);have h0:¬(i:Int)<0:=by omega
 have h1:¬(i:Int)<l.length:=by omega
 have h2:(l.length:Int)<=i:=by omega
 clear ac;go_enter Tryz.func153,Tryz.ntmps153
 go_wp2_with fail
 refine CL.out.mono ?_;rintro e w1 ⟨rfl,rfl⟩;go_wp2
 go_ret2;exact⟨rfl,rfl⟩
theorem bC1 {nw:En->En->Bool} {l:List En} {n:Nat} (hn:0<n):(iY nw l n)[0]?=some 0:=by
 unfold iY;obtain⟨k,rfl⟩:∃k,n=k+1:=⟨n-1,by omega⟩;rw[List.range_succ_eq_map,List.filter_cons,if_pos (by simp[fI0])];rfl
theorem xW0 (p:List dE) (m:Mx) (es:List En) (db:Nat) (w:World) (ag:cT p m es) (ac:gT w db p m es) :
  Calls Tryz.prog 96 #[.pointer (some ⟨db,0,none⟩)] w λe w'=>e=.returned (.bool true)/\aB w w':=by
 have hn:=ag.len;obtain⟨tr,r1,r2⟩:=ac.r;obtain⟨ts,s1,s2⟩:=ac.s;obtain⟨pf,f1,f2⟩:=ac.f;obtain⟨pi,i1,i2⟩:=ac.i;obtain⟨pl,l1,l2⟩:=ac.l;obtain⟨pt,t1,t2⟩:=ac.t;obtain⟨pc,c1,c2⟩:=ac.c;obtain⟨po,o1,o2⟩:=ac.o;obtain⟨pa,a1,a2⟩:=ac.a;obtain⟨N,hN⟩:=exq es.length;obtain⟨R,hR⟩:=exq ((readL es).length);obtain⟨S,hS⟩:=exq ((dI es).length)
 have hRn:R<=N:=by
  rw[hR,hN]
  have:=rL (es.map λx=>x.r)
  rwa [Ab]at this
 have hfl:(iY uE es es.length).length=R:=by rw[ag.first,kE,hR]
 have pm:(iY mN0 (jA es) es.length).length=S:=by rw[jW1,kE,hS]
 have hol:=tI es;have hbR:(bls (readL es)).length=R:=by rw[dT,hR]
 have hbS:(bls (dI es)).length=S:=by rw[dT,hS]
 have CLG:∀(l:List Nat) (pb:Nat) (k:Nat),nG w pb l->l.length=k->∀u,aB w u->Hid (Calls Tryz.prog 152 #[.pointer (some ⟨pb,0,none⟩)] u λe w'=>e=.returned (.int .i64 (k:Nat))/\u=w'):=λl pb k h hk u hu=>by
  have:=jT l pb u (h.grows hu)
  rw[hk]at this;exact this
 have LI:=CLG _ pi N i2 (by rw[Ab,hN]);have LL:=CLG _ pl N l2 (by rw[Ab,hN]);have LT:=CLG _ pt N t2 (by rw[Ab,hN]);have LC:=CLG _ pc N c2 (by rw[Ab,hN]);have LO:=CLG _ po N o2 (by rw[hol,hN]);have LF:=CLG _ pf R f2 hfl;have LA:=CLG _ pa S a2 pm
 have TLR:∀u,aB w u->Hid (Calls Tryz.prog 54 #[.pointer (some ⟨tr,0,none⟩)] u λe w'=>e=.returned (.int .i64 (R:Nat))/\u=w'):=λu hu=>by
  have:=yM _ tr u (r2.grows hu)
  rw[hbR]at this;exact this
 have TLS:∀u,aB w u->Hid (Calls Tryz.prog 54 #[.pointer (some ⟨ts,0,none⟩)] u λe w'=>e=.returned (.int .i64 (S:Nat))/\u=w'):=λu hu=>by
  have:=yM _ ts u (s2.grows hu)
  rw[hbS]at this;exact this
 have HLT:Hid (∀n∈iY uE es es.length,n<N):=λn h=>by rw[hN];exact lJ h
 have HPW:Hid ((iY uE es es.length).Pairwise (· < ·)):=pV0;have HZ:Hid (0<N->(iY uE es es.length)[0]?=some 0):=λh=>bC1 (by omega);obtain⟨F,hF⟩:=exq (iY uE es es.length);rw[<-hF]at HLT HPW HZ f2 hfl;rw[<-hN]at hn;have CGF:=λ(i x:Nat) (hx:F[i]?=some x) (u:World) (hu:aB w u)=>Aa (sH F pf i x u (f2.grows hu) (by omega) (λn h=>by have:=HLT.out n h;omega) hx);have CGO:=Aa (λ(u:World) (hu:aB w u) (hi:F.length<=0)=>aL1 F pf 0 u (f2.grows hu) hi)
 have hG0:Hid (∀u,aB w u->∃b:Bool,(0<N->b=true)/\Calls Tryz.prog 153 #[.pointer (some ⟨pf,0,none⟩),.int .i64 0] u λe w'=>e=.returned (.tuple #[.int .u64 0,.bool b])/\aB u w'):=λu hu=>by
  by_cases h:0<N
  ·exact⟨true,λ_=>rfl,(CGF 0 0 (HZ.out h) u hu).out⟩
  ·exact⟨false,λh2=>absurd h2 h,((CGO.out u hu (by omega)).mono λe w' ⟨h1,h2⟩=>⟨h1,by rw[<-h2];exact aB.refl _⟩)⟩
 have z0:∀y:Ext aB w.drew,y.u.cell? ⟨db,6,none⟩=some (.pointer (some ⟨pl,0,none⟩)):=aF ((aB.drew w).cell l1);have z1:∀y:Ext aB w.drew,y.u.cell? ⟨db,7,none⟩=some (.pointer (some ⟨pt,0,none⟩)):=aF ((aB.drew w).cell t1);have z2:∀y:Ext aB w.drew,y.u.cell? ⟨db,8,none⟩=some (.pointer (some ⟨pc,0,none⟩)):=aF ((aB.drew w).cell c1);have z3:∀y:Ext aB w.drew,y.u.cell? ⟨db,9,none⟩=some (.pointer (some ⟨po,0,none⟩)):=aF ((aB.drew w).cell o1);have z4:∀y:Ext aB w.drew,y.u.cell? ⟨db,4,none⟩=some (.pointer (some ⟨pf,0,none⟩)):=aF ((aB.drew w).cell f1);have z5:∀y:Ext aB w.drew,y.u.cell? ⟨db,2,none⟩=some (.pointer (some ⟨tr,0,none⟩)):=aF ((aB.drew w).cell r1);have z6:∀y:Ext aB w.drew,y.u.cell? ⟨db,10,none⟩=some (.pointer (some ⟨pa,0,none⟩)):=aF ((aB.drew w).cell a1);have z7:∀y:Ext aB w.drew,y.u.cell? ⟨db,3,none⟩=some (.pointer (some ⟨ts,0,none⟩)):=aF ((aB.drew w).cell s1);have od:¬(20000:Int)<N:=by omega
 have wN:IntKind.u64.wrap (N:Int)=N:=by simp[Am,An,Aj];omega
 have HFL:=Aa hfl;clear ac ag r2 s2 f2 i2 l2 t2 c2 o2 a2 pm hol hbR hbS CLG hR hS hN hF CGO HZ hfl r1 s1 l1 t1 c1 o1 a1;go_enter Tryz.func96,Tryz.ntmps96
 go_wp2_with fail
 refine(LI w (aB.refl w)).out.mono ?_;rintro e w1 ⟨rfl,rfl⟩;go_wp2_with fail
 refine bK (bB 64 []) (by kernel_rfl) (λd _ _ _ _ h=>by cases d<;>exact h) ?_
 iterate 7 (refine aH rfl (λK hK=>?_);go_simp;refine hK _ ?_;clear hK K)
 refine aH rfl (λK hK=>?_);go_simp;apply Exists.intro
 refine⟨λx=>?_,hK _ ?_⟩
 ·go_at_call 152;exact dU (LL _ ((aB.drew w).tr x.h)).out
 clear hK K;iterate 8 (refine aH rfl (λK hK=>?_);go_simp;refine hK _ ?_;clear hK K)
 refine aH rfl (λK hK=>?_);go_simp;apply Exists.intro
 refine⟨λx=>?_,hK _ ?_⟩
 ·go_at_call 152;exact dU (LT _ ((aB.drew w).tr x.h)).out
 clear hK K;iterate 8 (refine aH rfl (λK hK=>?_);go_simp;refine hK _ ?_;clear hK K)
 refine aH rfl (λK hK=>?_);go_simp;apply Exists.intro
 refine⟨λx=>?_,hK _ ?_⟩
 ·go_at_call 152;exact dU (LC _ ((aB.drew w).tr x.h)).out
 clear hK K;iterate 8 (refine aH rfl (λK hK=>?_);go_simp;refine hK _ ?_;clear hK K)
 refine aH rfl (λK hK=>?_);go_simp;apply Exists.intro
 refine⟨λx=>?_,hK _ ?_⟩
 ·go_at_call 152;exact dU (LO _ ((aB.drew w).tr x.h)).out
 clear hK K;iterate 8 (refine aH rfl (λK hK=>?_);go_simp;refine hK _ ?_;clear hK K)
 refine aH rfl (λK hK=>?_);go_simp;apply Exists.intro
 refine⟨λx=>?_,hK _ ?_⟩
 ·go_at_call 152;exact dU (LF _ ((aB.drew w).tr x.h)).out
 clear hK K;iterate 4 (refine aH rfl (λK hK=>?_);go_simp;refine hK _ ?_;clear hK K)
 refine aH rfl (λK hK=>?_);go_simp;apply Exists.intro
 refine⟨λx=>?_,hK _ ?_⟩
 ·go_at_call 54;exact dU (TLR _ ((aB.drew w).tr x.h)).out
 clear hK K;iterate 7 (refine aH rfl (λK hK=>?_);go_simp;refine hK _ ?_;clear hK K)
 refine aH rfl (λK hK=>?_);go_simp;apply Exists.intro
 refine⟨λx=>?_,hK _ ?_⟩
 ·go_at_call 152;exact dU (LA _ ((aB.drew w).tr x.h)).out
 clear hK K;iterate 4 (refine aH rfl (λK hK=>?_);go_simp;refine hK _ ?_;clear hK K)
 refine aH rfl (λK hK=>?_);go_simp;apply Exists.intro
 refine⟨λx=>?_,hK _ ?_⟩
 ·go_at_call 54;exact dU (TLS _ ((aB.drew w).tr x.h)).out
 clear hK K;iterate 2 (refine aH rfl (λK hK=>?_);go_simp;refine hK _ ?_;clear hK K)
 refine cB ?_;clear z0 z1 z2 z3 z4 z5 z6 z7 LI LL LT LC LO LA TLR TLS;have f1d:=(aB.drew w).cell f1;obtain⟨b0,hb0,CG0⟩:=hG0.out w.drew (aB.drew w);clear hG0;go_wp2_with fail
 refine CG0.mono ?_;rintro e w2 ⟨rfl,af⟩;have g2:=(aB.drew w).tr af;have f1b:=g2.cell f1;have LF2:=LF w2 g2;clear CG0 LF f1d af;by_cases h0:0<N
 ·have hb:=hb0 h0
  subst hb;have h0i:(0:Int)<N:=by omega
  go_wp2_with fail
  refine LF2.out.mono ?_;rintro e w3 ⟨rfl,rfl⟩;clear LF2;go_wp2_with fail
  go_loopw [6,102] (λv i wr=>∃(k:Nat) (last:Int),k<=R/\i=.int .i64 k/\v=.int .i64 last/\Hid (∀x,F[k]?=some x->last<x)/\Hid (aB w wr)) (λ_ i _=>R-(intOf i).toNat)
  case atStart=>exact⟨0,-1,Ag _,rfl,rfl,λx _=>by omega,g2⟩
  case round =>
   obtain⟨k,last,hk,rfl,rfl,hL,hg⟩:=hrel;by_cases ae:k<R
   ·obtain⟨x,hx⟩:∃x,F[k]?=some x:=⟨_,Ad (by rw[HFL.out];exact ae)⟩
    have hxN:=HLT.out x (Af hx);have hlx:=hL.out x hx;have CG:=CGF k x hx wr hg.out;have f1r:=hg.out.cell f1;have cn:(k:Int)<R:=by omega
    have hxn:¬(N:Int)<=x:=by omega
    have akz:¬(x:Int)<=last:=by omega
    have wx:IntKind.i64.wrap (x:Int)=x:=by simp[Am,An,Aj];omega
    have NX:Hid (∀y,F[k+1]?=some y->(x:Int)<y):=λy hy=>by
     have:=nE1 HPW.out hx hy
     omega
    clear hx hL CGF;go_wp2_with fail
    refine CG.out.mono ?_;rintro e w4 ⟨rfl,ch⟩;have g4:=hg.out.tr ch;clear CG;go_wp2_with fail
    go_roundw
    case rel=>exact⟨k+1,x,ae,by go_num,rfl,NX.out,g4⟩
    case measure=>simp[intOf];omega
   ·have cn:¬(k:Int)<R:=by omega
    go_wp2_with fail
    go_ret;exact⟨rfl,hg.out⟩
 ·have h0i:¬(0:Int)<N:=by omega
  go_wp2_with fail
  refine LF2.out.mono ?_;rintro e w3 ⟨rfl,rfl⟩;clear LF2;go_wp2_with fail
  go_loopw [6,102] (λv i wr=>∃(k:Nat) (last:Int),k<=R/\i=.int .i64 k/\v=.int .i64 last/\Hid (∀x,F[k]?=some x->last<x)/\Hid (aB w wr)) (λ_ i _=>R-(intOf i).toNat)
  case atStart=>exact⟨0,-1,Ag _,rfl,rfl,λx _=>by omega,g2⟩
  case round =>
   obtain⟨k,last,hk,rfl,rfl,hL,hg⟩:=hrel;by_cases ae:k<R
   ·obtain⟨x,hx⟩:∃x,F[k]?=some x:=⟨_,Ad (by rw[HFL.out];exact ae)⟩
    have hxN:=HLT.out x (Af hx);exact absurd hxN (by omega)
   ·have cn:¬(k:Int)<R:=by omega
    go_wp2_with fail
    go_ret;exact⟨rfl,hg.out⟩
theorem eF1 (p:List dE) (m:Mx) (es:List En) (db:Nat) (w:World) (ac:gT w db p m es) :
  Calls Tryz.prog 98 #[.pointer (some ⟨db,0,none⟩)] w λe w'=>e=.returned (.func (.func 224) #[] #[.pointer (some ⟨w.heap.size,0,none⟩),.pointer (some ⟨w.heap.size+1,0,none⟩)]) /\
   w'=(w.alloc (.cells #[.int .i64 0] 3)).alloc (.cells #[.int .i64 (es.length:Nat)] 3):=by
 obtain⟨pi,i1,i2⟩:=ac.i;have h:=jT (es.map (yD (dI es))) pi w i2;rw[Ab]at h;have CL:=Aa h;generalize es.length=N at CL ⊢;clear ac i2 h;go_enter Tryz.func98,Tryz.ntmps98
 go_wp2_with fail
 refine CL.out.mono ?_;rintro e w1 ⟨rfl,rfl⟩;go_wp2_with fail
 refine(qS0 0 (N:Int) w).mono ?_;rintro e w2 ⟨rfl,rfl⟩;go_wp2
 go_ret;exact⟨rfl,rfl⟩
end
section
open Go Go.RowKit Go.Shelf
def oU:List dE:=[⟨⟨#[66,79,83]⟩,0⟩,⟨⟨#[110,111,117,110]⟩,0⟩]
end
section
open Go Go.RowKit
end
section
open Go Go.RowKit Go.Shelf
attribute [local go_sem] aO aM
theorem pI0 (p:List dE) (m:Mx) (es:List En):(imgP p m es).map (·.name)=[⟨#[112,111,115]⟩,⟨#[109,97,116,114,105,120]⟩,⟨#[114,101,97,100,105,110,103,115]⟩,⟨#[102,105,114,115,116]⟩,⟨#[115,117,114,102,97,99,101,115]⟩,⟨#[115,117,114,102,97,99,101]⟩,⟨#[108,101,102,116]⟩,⟨#[114,105,103,104,116]⟩,⟨#[99,111,115,116]⟩,⟨#[111,114,100,101,114]⟩,⟨#[97,116]⟩]:=rfl
theorem oZ1 {p:List dE} {m:Mx} {es:List En} {j k:Nat} {a b:bE} (ha:(imgP p m es)[j]?=some a) (hb:(imgP p m es)[k]?=some b) (h:j<k):a.name≠b.name:=λe=>by
 have hn:((imgP p m es).map (·.name)).Nodup:=by rw[pI0];decide +kernel
 have h1:((imgP p m es).map (·.name))[j]?=some a.name:=by rw[Ah,ha];rfl
 have h2:((imgP p m es).map (·.name))[k]?=some a.name:=by rw[Ah,hb,e];rfl
 have:=yL hn h1 h2
 omega
theorem qG0 {P Q:List bE} (h:Q.map bare=P.map bare) {k:Nat} {p:bE} (hp:P[k]?=some p):∃q,Q[k]?=some q/\q.name=p.name/\q.data=p.data:=by
 have h1:(Q.map bare)[k]?=some (bare p):=by rw[h,Ah,hp];rfl
 rw[Ah]at h1
 cases hq:Q[k]? with
 | none=>rw[hq]at h1;cases h1
 | some q =>
  rw[hq]at h1;have e:bare q=bare p:=Option.some.inj h1;have e1:(bare q).name=(bare p).name:=by rw[e]
  have e2:(bare q).data=(bare p).data:=by rw[e]
  exact⟨q,rfl,e1,e2⟩
theorem DSt.slot {lo:Nat} {p:List dE} {m:Mx} {es:List En} {ps:List Nat} {db fb:Nat} {fv:Value} {w:World} (h:DSt lo p m es ps db fb fv w) {i:Nat} (hi:i<11):(∃u,w.cell? ⟨db,i,none⟩=some u)/\w.frozen? ⟨db,i,none⟩=false:=by
 obtain⟨cs,hb⟩:=h.blk;exact⟨⟨_,hb.tb.cell (Array.getElem?_eq_getElem (by rw[hb.sz];exact hi))⟩,hb.tb.froz i⟩
theorem mE0.grows {lo db:Nat} {p:List dE} {m:Mx} {es:List En} {w w':World} (h:mE0 w db lo) (hd:gT w db p m es) (hg:aB w w'):mE0 w' db lo:=by
 obtain⟨t1,r1,_⟩:=hd.r;obtain⟨t2,r2,_⟩:=hd.s;refine⟨λtb ht=>?_,λtb ht=>?_⟩
 ·rw[hg.cell r1]at ht
  exact h.1 tb (r1.trans ht)
 ·rw[hg.cell r2]at ht
  exact h.2 tb (r2.trans ht)
theorem iY0 {p:List dE} {m:Mx} {es:List En} (ag:cT p m es) (zw:fO (imgP p m es)=0):rH p (some m) es=(0,file14 (imgP p m es)):=by
 have h:=bN0 ag.make (by rw[ag.idem];exact zw);rwa [ag.idem]at h
theorem qE1 {p:List dE} {m:Mx} {es:List En} (ag:cT p m es) (f:En->Int) (hf:∀x∈es,0<=f x/\f x<=30000):(es.map λx=>(f x).toNat).length<=1048576/\∀n∈es.map λx=>(f x).toNat,n<18446744073709551616:=by
 have:=ag.len
 refine⟨by rw[Ab];omega,λn hn=>?_⟩;obtain⟨y,hy,rfl⟩:=List.mem_map.1 hn
 have:=hf y hy
 omega
theorem aC1 (p:List dE) (m:Mx) (es:List En) (ba:Option Addr) (bc:Nat) (w:World) (he:Env w) (ag:cT p m es) (hm:m.OK) (hEn:∀x∈es,yB x) (zw:fO (imgP p m es)=0)
  (fg:(file14 (imgP p m es)).length<=bc) (yh:bc<=maxLen) (jh:ba=none->bc=0) (ac:aG w ba 1 ((file14 (imgP p m es)).map aY)) :
  Calls Tryz.prog 26 #[.slice ba (file14 (imgP p m es)).length bc] w λe w'=>aB w w'/\∃db,e=.returned (.tuple #[.pointer (some ⟨db,0,none⟩),.int .i64 0])/\gT w' db p m es/\mE0 w' db w.heap.size/\w.heap.size<=db:=by
 have ah:=ag.len;have hv:=(dX ag.chk).2.2.1;have agk:=(fA hv).1;have ff:=ag.num;have nc:(imgP p m es).length=11:=rfl;have CS:=Aa (oU0 (imgP p m es) ba bc w he zw fg yh jh ac)
 have HPART:Hid (∀(Q:List bE),Q.map bare=(imgP p m es).map bare->∀(k:Nat) (nm:ByteArray) (vg:List UInt8),(∃q,(imgP p m es)[k]?=some q/\q.name=nm/\q.data=vg)->∃q,Q[k]?=some q/\q.name=nm/\q.data=vg/\∀j p',j<k->Q[j]?=some p'->p'.name≠q.name):=λQ hb k nm vg ⟨q,hq,h1,h2⟩=>by
  obtain⟨q2,yj,e1,e2⟩:=qG0 hb hq;refine⟨q2,yj,e1.trans h1,e2.trans h2,λj p' hj hp'=>?_⟩;obtain⟨p2,hp2,e3,_⟩:=qG0 (P:=Q) (Q:=imgP p m es) hb.symm hp';rw[<-e3,e1];exact oZ1 hp2 hq hj
 have HQL:Hid (∀(Q:List bE),Q.map bare=(imgP p m es).map bare->Q.length=11):=λQ hb=>by
  have:=congrArg Bg hb
  rw[Ab,Ab,nc]at this;exact this
 have HP0:Hid (∃q,(imgP p m es)[0]?=some q/\q.name=⟨#[112,111,115]⟩/\q.data=posE p):=⟨_,rfl,rfl,rfl⟩;have HP1:Hid (∃q,(imgP p m es)[1]?=some q/\q.name=⟨#[109,97,116,114,105,120]⟩/\q.data=m.enc):=⟨_,rfl,rfl,rfl⟩;have HP2:Hid (∃q,(imgP p m es)[2]?=some q/\q.name=⟨#[114,101,97,100,105,110,103,115]⟩/\q.data=loudE (bls (readL es))):=⟨_,rfl,rfl,rfl⟩;have HP3:Hid (∃q,(imgP p m es)[3]?=some q/\q.name=⟨#[102,105,114,115,116]⟩/\q.data=packE (iY uE es es.length)):=⟨_,rfl,rfl,rfl⟩;have HP4:Hid (∃q,(imgP p m es)[4]?=some q/\q.name=⟨#[115,117,114,102,97,99,101,115]⟩/\q.data=loudE (bls (dI es))):=⟨_,rfl,rfl,rfl⟩;have HP5:Hid (∃q,(imgP p m es)[5]?=some q/\q.name=⟨#[115,117,114,102,97,99,101]⟩/\q.data=packE (es.map (yD (dI es)))):=⟨_,rfl,rfl,rfl⟩;have HP6:Hid (∃q,(imgP p m es)[6]?=some q/\q.name=⟨#[108,101,102,116]⟩/\q.data=packE (es.map λx=>x.l.toNat)):=⟨_,rfl,rfl,rfl⟩;have HP7:Hid (∃q,(imgP p m es)[7]?=some q/\q.name=⟨#[114,105,103,104,116]⟩/\q.data=packE (es.map λx=>x.t.toNat)):=⟨_,rfl,rfl,rfl⟩;have HP8:Hid (∃q,(imgP p m es)[8]?=some q/\q.name=⟨#[99,111,115,116]⟩/\q.data=packE (es.map λx=>x.c.toNat)):=⟨_,rfl,rfl,rfl⟩;have HP9:Hid (∃q,(imgP p m es)[9]?=some q/\q.name=⟨#[111,114,100,101,114]⟩/\q.data=packE (nH0 es)):=⟨_,rfl,rfl,rfl⟩;have HP10:Hid (∃q,(imgP p m es)[10]?=some q/\q.name=⟨#[97,116]⟩/\q.data=packE (iY mN0 (jA es) es.length)):=⟨_,rfl,rfl,rfl⟩
 have L3:Hid ((iY uE es es.length).length<=1048576/\∀n∈iY uE es es.length,n<18446744073709551616):=⟨by
  have h1:=(eF ag.rd).2.1;rw[dT]at h1;rw[ag.first,kE]
  omega,λn h=>by have:=lJ h;omega⟩
 have L5:Hid ((es.map (yD (dI es))).length<=1048576/\∀n∈es.map (yD (dI es)),n<18446744073709551616):=⟨by rw[Ab];omega,λn h=>by
  obtain⟨y,hy,rfl⟩:=List.mem_map.1 h
  have:=rO (nR hy)
  have h1:=(eF ag.sf).2.1;rw[dT]at h1;omega⟩
 have L6:=Aa (qE1 ag (λx=>x.l) (λx hx=>by have:=ff x hx;omega));have L7:=Aa (qE1 ag (λx=>x.t) (λx hx=>by have:=ff x hx;omega));have L8:=Aa (qE1 ag (λx=>x.c) (λx hx=>by have:=ff x hx;omega));have L9:Hid ((nH0 es).length<=1048576/\∀n∈nH0 es,n<18446744073709551616):=⟨by rw[tI];omega,λn h=>by have:=pE0 h;omega⟩
 have L10:Hid ((iY mN0 (jA es) es.length).length<=1048576/\∀n∈iY mN0 (jA es) es.length,n<18446744073709551616):=⟨by
  have h1:=(eF ag.sf).2.1;rw[dT]at h1;rw[jW1,kE];omega,λn h=>by have:=lJ h;omega⟩
 have KR:=Aa ag.rd;have KS:=Aa ag.sf;have HDM:Hid (nZ1 m.enc=some m):=iN1.2 ⟨hm,rfl⟩;have HB:=Aa (iY0 ag zw)
 have HZ:Hid (∀x∈es,x.r.size<=1099511627776/\x.s.size<=1099511627776):=λx hx=>by
  have h1:=ag.len_r x hx;have h2:=ag.len_s x hx;omega
 have HOK:=Aa ag;have HE:=Aa he;have HEN:=Aa hEn;have HV:=Aa hv;obtain⟨FB,hFB⟩:=exq (file14 (imgP p m es));rw[<-hFB]at CS HB ac fg ⊢;have HAT:=Aa ac
 have HFN:Hid (FB≠[]):=by
  show _≠_
  rw[hFB];unfold file14 dM;simp
 obtain⟨FL,hFL⟩:=exq FB.length;rw[<-hFL]at CS ⊢;have HFL:=Aa hFL;clear he ag hm hEn zw fg yh jh ac hv ff nc hFB hFL;go_enter Tryz.func26,Tryz.ntmps26
 go_wp2_with fail
 refine CS.out.mono ?_;rintro e w3 ⟨ax,Q,qa,qc,rfl,sv,kj,hqp⟩;have hQl:=HQL.out Q sv;have PF:=HPART.out Q sv
 have CDAT:∀(k:Nat) (nm:ByteArray) (vg:List UInt8) (fb:Nat) (W:World),aB w3 W->TB W fb #[.slice qa 11 qc,.bool false] 163->(∃q,(imgP p m es)[k]?=some q/\q.name=nm/\q.data=vg) ->
   Hid (Calls Tryz.prog 92 #[.pointer (some ⟨fb,0,none⟩),.string nm] W λe w'=>∃v,e=.returned v/\aX w' W.heap.size 5 1 aY v vg/\aB W w'):=λk nm vg fb W hW hf hp=>by
  obtain⟨q,hq,e1,e2,aj⟩:=PF k nm vg hp;rw[<-hQl]at hf;have h:=zQ Q k q qa qc fb W (by omega) (kj.grows hW) (hqp.grows hW) hq aj hf;rw[e1,e2]at h;exact h
 have CNUM:∀(k:Nat) (nm:ByteArray) (l:List Nat) (fb:Nat) (W:World),aB w3 W->TB W fb #[.slice qa 11 qc,.bool false] 163->(∃q,(imgP p m es)[k]?=some q/\q.name=nm/\q.data=packE l)->(l.length<=1048576/\∀n∈l,n<18446744073709551616) ->
   Hid (Calls Tryz.prog 95 #[.pointer (some ⟨fb,0,none⟩),.string nm] W λe w'=>(∃pb,e=.returned (.pointer (some ⟨pb,0,none⟩))/\nG w' pb l)/\aB W w'):=λk nm l fb W hW hf hp hl=>by
  obtain⟨q,hq,e1,e2,aj⟩:=PF k nm _ hp;rw[<-hQl]at hf;have h:=jV0 Q k q l e2 hl qa qc fb W (by omega) (kj.grows hW) (hqp.grows hW) hq aj hf;rw[e1]at h;exact h.mono λe w' ⟨pb,h1,h2,h3⟩=>⟨⟨pb,h1,h2⟩,h3⟩
 have CTRI:∀(k:Nat) (nm:ByteArray) (L:List (List UInt8)) (fb:Nat) (W:World),aB w3 W->TB W fb #[.slice qa 11 qc,.bool false] 163->(∃q,(imgP p m es)[k]?=some q/\q.name=nm/\q.data=loudE L)->fY L=0 ->
   Hid (Calls Tryz.prog 94 #[.pointer (some ⟨fb,0,none⟩),.string nm] W λe w'=>(∃tb,e=.returned (.pointer (some ⟨tb,0,none⟩))/\fB w' tb L/\W.heap.size+2<=tb)/\aB W w'):=λk nm L fb W hW hf hp hl=>by
  obtain⟨q,hq,e1,e2,aj⟩:=PF k nm _ hp;rw[<-hQl]at hf;have h:=cI1 Q k q L e2 hl qa qc fb W (by omega) (kj.grows hW) (hqp.grows hW) hq aj hf;rw[e1]at h;exact h.mono λe w' ⟨tb,h1,h2,h3,h4⟩=>⟨⟨tb,h1,h2,h3⟩,h4⟩
 have SZ:Hid (∀(k:Nat) (vg:List UInt8) (nm:ByteArray),(∃q,(imgP p m es)[k]?=some q/\q.name=nm/\q.data=vg)->vg.length<=1099511627776):=λk vg nm hp=>by
  obtain⟨q,hq,_,e2,_⟩:=PF k nm vg hp;rw[<-e2];exact hqp.data _ (Af hq)
 rw[hQl];obtain⟨W0,cq⟩:=exq ((w3.alloc (.cells #[.slice qa 11 qc,.bool false] 163)).alloc (.cells #[.slice none 0 0,.pointer none,.pointer none,.pointer none,.pointer none,.pointer none,.pointer none,.pointer none,.pointer none,.pointer none,.pointer none] 166));obtain⟨fb,hfb⟩:=exq w3.heap.size;obtain⟨db,hdb⟩:=exq (w3.heap.size+1);have g0:aB w3 W0:=by rw[cq];exact(aB.alloc _ _).al _
 have D0:DSt w.heap.size p m es [] db fb (.slice qa 11 qc) W0:=by
  refine⟨⟨#[.slice none 0 0,.pointer none,.pointer none,.pointer none,.pointer none,.pointer none,.pointer none,.pointer none,.pointer none,.pointer none,.pointer none],?_,rfl,⟨none,0,0,rfl⟩⟩,?_,λi hi=>by cases hi⟩
  ·rw[cq,hdb]
   have:=TB.alloc (w3.alloc (.cells #[.slice qa 11 qc,.bool false] 163)) #[.slice none 0 0,.pointer none,.pointer none,.pointer none,.pointer none,.pointer none,.pointer none,.pointer none,.pointer none,.pointer none,.pointer none] 166
   rw[Aw]at this;exact this
  ·rw[cq,hfb]
   exact(TB.alloc _ _ _).al _
 have hdf:¬db=fb:=by omega
 have hfd:¬fb=db:=by omega
 have jn:w3.heap.size<=db:=by omega
 have ru:=ax.size;clear CS sv kj hqp PF hQl HPART HQL;go_wp2_with fail
 rw[<-cq,<-hdb,<-hfb];clear cq hfb hdb;refine(CDAT 0 ⟨#[112,111,115]⟩ _ fb W0 g0 D0.fl HP0.out).out.mono ?_;rintro e x1 ⟨v1,rfl,iw,adw⟩;have gx1:=g0.tr adw;have Dx1:=D0.grows adw;obtain⟨a1,c1,rfl,h1c,_,cm⟩:=iw.at_ bJ.len;have jf:=cM iw;have CP:=Aa (tZ0 p a1 c1 x1 HV.out (SZ.out 0 _ _ HP0.out) h1c jf cm);generalize (posE p).length=PL at CP ⊢;clear iw cm jf h1c adw;go_wp2_with fail
 refine(CP).out.mono ?_;rintro e x2 ⟨v2,rfl,ic,adx⟩;have gx2:=gx1.tr adx;have Dx2:=Dx1.grows adx;obtain⟨aP,cP,rfl,_,_,_⟩:=ic.at_ vY.len;obtain⟨⟨u0,e0⟩,f0⟩:=Dx2.slot (i:=0) (by decide);have b1:=Dx2.fl.cell (o:=1) rfl;have z1:=Dx2.fl.froz 1;have Da0:=Dx2.set (i:=0) (by decide) (ic.base (Ag _)) (λ_=>⟨_,_,_,rfl⟩);have qe:=gx2.set (p:=⟨db,0,none⟩) jn (.slice aP p.length cP);have hs:=jI (o:=1) (u:=.bool false) Da0.fl rfl;have Db:=Da0.grows hs;have gb:=qe.tr hs;obtain⟨V1,vu⟩:=exq (((x2.setCell ⟨db,0,none⟩ (.slice aP p.length cP)).setCell ⟨fb,1,none⟩ (.bool false)));rw[<-vu]at Db gb;have DV1:=Db;have gV1:=gb;go_wp2_with fail
 rw[<-vu];clear CP adx ic e0 f0 b1 z1 Da0 qe hs Db gb vu D0 g0 Dx1 gx1 Dx2 gx2;refine(CDAT 1 ⟨#[109,97,116,114,105,120]⟩ _ fb V1 gV1 DV1.fl HP1.out).out.mono ?_;rintro e x3 ⟨v1,rfl,iw,ady⟩;have gx3:=gV1.tr ady;have Dx3:=DV1.grows ady;obtain⟨a1,c1,rfl,h1c,_,cm⟩:=iw.at_ bJ.len;have CM:=Aa (sX0 m.enc a1 c1 x3 (SZ.out 1 _ _ HP1.out) cm);rw[HDM.out]at CM;generalize m.enc.length=PL at CM ⊢;clear iw cm h1c ady;go_wp2_with fail
 refine CM.out.mono ?_;rintro e x4 ⟨_,s8,adz⟩;obtain⟨mb,bm,rfl,hma,_,_⟩:=s8 m rfl;have gx4:=gx3.tr adz;have Dx4:=Dx3.grows adz;obtain⟨⟨u1,e1⟩,f1⟩:=Dx4.slot (i:=1) (by decide);have b1:=Dx4.fl.cell (o:=1) rfl;have z1:=Dx4.fl.froz 1;have Da0:=Dx4.set (i:=1) (by decide) (⟨mb,bm,rfl,hma⟩) (λh=>by cases h);have qe:=gx4.set (p:=⟨db,1,none⟩) jn (.pointer (some ⟨mb,0,none⟩));have hs:=jI (o:=1) (u:=.bool false) Da0.fl rfl;have Db:=Da0.grows hs;have gb:=qe.tr hs;obtain⟨V2,p8⟩:=exq (((x4.setCell ⟨db,1,none⟩ (.pointer (some ⟨mb,0,none⟩))).setCell ⟨fb,1,none⟩ (.bool false)));rw[<-p8]at Db gb;have DV2:=Db;have gV2:=gb;go_wp2_with fail
 rw[<-p8];clear CM adz s8 hma e1 f1 b1 z1 Da0 qe hs Db gb p8 DV1 gV1 Dx3 gx3 Dx4 gx4;refine(CTRI 2 ⟨#[114,101,97,100,105,110,103,115]⟩ _ fb V2 gV2 DV2.fl HP2.out KR.out).out.mono ?_;rintro e x5 ⟨⟨tb,rfl,htb,iq⟩,ad0⟩;have gx5:=gV2.tr ad0;have Dx5:=DV2.grows ad0;have aai:w.heap.size+2<=tb:=by have:=gV2.size;omega
 go_wp2_with fail
 refine(CNUM 3 ⟨#[102,105,114,115,116]⟩ _ fb x5 gx5 Dx5.fl HP3.out L3.out).out.mono ?_;rintro e x6 ⟨⟨pb,rfl,ed⟩,acg⟩;have gx6:=gx5.tr acg;have Dx6:=Dx5.grows acg;have aaj:=htb.grows acg;obtain⟨⟨u2,e2⟩,f2⟩:=Dx6.slot (i:=2) (by decide);obtain⟨⟨u4,e4⟩,f4⟩:=Dx6.slot (i:=4) (by decide);obtain⟨cs9,qt⟩:=Dx6.blk;have Da0:=Dx6.set (i:=2) (by decide) (⟨tb,rfl,aaj,aai⟩) (λh=>by cases h);have qe:=gx6.set (p:=⟨db,2,none⟩) jn (.pointer (some ⟨tb,0,none⟩));have Da1:=Da0.set (i:=4) (by decide) (⟨pb,rfl,lU qt ed _ _⟩) (λh=>by cases h);have ua:=qe.set (p:=⟨db,4,none⟩) jn (.pointer (some ⟨pb,0,none⟩));obtain⟨V3,zg⟩:=exq (((x6.setCell ⟨db,2,none⟩ (.pointer (some ⟨tb,0,none⟩))).setCell ⟨db,4,none⟩ (.pointer (some ⟨pb,0,none⟩))));rw[<-zg]at Da1 ua;have DV3:=Da1;have gV3:=ua;go_wp2_with fail
 rw[<-zg];clear htb iq aai ad0 acg aaj ed qt e2 f2 e4 f4 Da0 qe Da1 ua zg DV2 gV2 Dx5 gx5 Dx6 gx6;refine(CTRI 4 ⟨#[115,117,114,102,97,99,101,115]⟩ _ fb V3 gV3 DV3.fl HP4.out KS.out).out.mono ?_;rintro e x7 ⟨⟨tb,rfl,htb,iq⟩,ad1⟩;have gx7:=gV3.tr ad1;have Dx7:=DV3.grows ad1;have aai:w.heap.size+2<=tb:=by have:=gV3.size;omega
 go_wp2_with fail
 refine(CNUM 5 ⟨#[115,117,114,102,97,99,101]⟩ _ fb x7 gx7 Dx7.fl HP5.out L5.out).out.mono ?_;rintro e x8 ⟨⟨pb,rfl,ed⟩,ach⟩;have gx8:=gx7.tr ach;have Dx8:=Dx7.grows ach;have aaj:=htb.grows ach;obtain⟨⟨u3,e3⟩,f3⟩:=Dx8.slot (i:=3) (by decide);obtain⟨⟨u5,e5⟩,f5⟩:=Dx8.slot (i:=5) (by decide);obtain⟨cs9,qt⟩:=Dx8.blk;have Da0:=Dx8.set (i:=3) (by decide) (⟨tb,rfl,aaj,aai⟩) (λh=>by cases h);have qe:=gx8.set (p:=⟨db,3,none⟩) jn (.pointer (some ⟨tb,0,none⟩));have Da1:=Da0.set (i:=5) (by decide) (⟨pb,rfl,lU qt ed _ _⟩) (λh=>by cases h);have ua:=qe.set (p:=⟨db,5,none⟩) jn (.pointer (some ⟨pb,0,none⟩));obtain⟨V4,hV4⟩:=exq (((x8.setCell ⟨db,3,none⟩ (.pointer (some ⟨tb,0,none⟩))).setCell ⟨db,5,none⟩ (.pointer (some ⟨pb,0,none⟩))));rw[<-hV4]at Da1 ua;have DV4:=Da1;have gV4:=ua;go_wp2_with fail
 rw[<-hV4];clear htb iq aai ad1 ach aaj ed qt e3 f3 e5 f5 Da0 qe Da1 ua hV4 DV3 gV3 Dx7 gx7 Dx8 gx8;refine(CNUM 6 ⟨#[108,101,102,116]⟩ _ fb V4 gV4 DV4.fl HP6.out L6.out).out.mono ?_;rintro e x9 ⟨⟨pb0,rfl,kn⟩,ad2⟩;have gx9:=gV4.tr ad2;have Dx9:=DV4.grows ad2;go_wp2_with fail
 refine(CNUM 7 ⟨#[114,105,103,104,116]⟩ _ fb x9 gx9 Dx9.fl HP7.out L7.out).out.mono ?_;rintro e x10 ⟨⟨pb1,rfl,ko⟩,ud⟩;have ad3:=gx9.tr ud;have Dx10:=Dx9.grows ud;replace kn:=kn.grows ud;go_wp2_with fail
 refine(CNUM 8 ⟨#[99,111,115,116]⟩ _ fb x10 ad3 Dx10.fl HP8.out L8.out).out.mono ?_;rintro e x11 ⟨⟨pb2,rfl,vh⟩,qf⟩;have agz:=ad3.tr qf;have Dx11:=Dx10.grows qf;replace kn:=kn.grows qf;replace ko:=ko.grows qf;obtain⟨⟨u6,e6⟩,f6⟩:=Dx11.slot (i:=6) (by decide);obtain⟨⟨u7,e7⟩,f7⟩:=Dx11.slot (i:=7) (by decide);obtain⟨⟨u8,e8⟩,f8⟩:=Dx11.slot (i:=8) (by decide);obtain⟨cs9,qt⟩:=Dx11.blk;have Da0:=Dx11.set (i:=6) (by decide) (⟨pb0,rfl,kn⟩) (λh=>by cases h);have qe:=agz.set (p:=⟨db,6,none⟩) jn (.pointer (some ⟨pb0,0,none⟩));replace ko:=lU qt ko 6 (.pointer (some ⟨pb0,0,none⟩));replace vh:=lU qt vh 6 (.pointer (some ⟨pb0,0,none⟩));obtain⟨cs9,qt⟩:=Da0.blk;have Da1:=Da0.set (i:=7) (by decide) (⟨pb1,rfl,ko⟩) (λh=>by cases h);have ua:=qe.set (p:=⟨db,7,none⟩) jn (.pointer (some ⟨pb1,0,none⟩));replace vh:=lU qt vh 7 (.pointer (some ⟨pb1,0,none⟩));obtain⟨cs9,qt⟩:=Da1.blk;have Da2:=Da1.set (i:=8) (by decide) (⟨pb2,rfl,vh⟩) (λh=>by cases h);have ga2:=ua.set (p:=⟨db,8,none⟩) jn (.pointer (some ⟨pb2,0,none⟩));obtain⟨V5,hV5⟩:=exq ((((x11.setCell ⟨db,6,none⟩ (.pointer (some ⟨pb0,0,none⟩))).setCell ⟨db,7,none⟩ (.pointer (some ⟨pb1,0,none⟩))).setCell ⟨db,8,none⟩ (.pointer (some ⟨pb2,0,none⟩))));rw[<-hV5]at Da2 ga2;have DV5:=Da2;have gV5:=ga2;go_wp2_with fail
 rw[<-hV5];clear kn ko vh ad2 ud qf e6 f6 e7 f7 e8 f8 Da0 qe Da1 ua Da2 ga2 hV5 DV4 gV4 Dx9 gx9 Dx10 ad3 Dx11 agz;refine(CNUM 9 ⟨#[111,114,100,101,114]⟩ _ fb V5 gV5 DV5.fl HP9.out L9.out).out.mono ?_;rintro e x12 ⟨⟨pb0,rfl,kn⟩,aab⟩;have ad4:=gV5.tr aab;have Dx12:=DV5.grows aab;go_wp2_with fail
 refine(CNUM 10 ⟨#[97,116]⟩ _ fb x12 ad4 Dx12.fl HP10.out L10.out).out.mono ?_;rintro e x13 ⟨⟨pb1,rfl,ko⟩,ue⟩;have ag0:=ad4.tr ue;have Dx13:=Dx12.grows ue;replace kn:=kn.grows ue;obtain⟨⟨u9,e9⟩,f9⟩:=Dx13.slot (i:=9) (by decide);obtain⟨⟨u10,e10⟩,f10⟩:=Dx13.slot (i:=10) (by decide);obtain⟨cs9,qt⟩:=Dx13.blk;have Da0:=Dx13.set (i:=9) (by decide) (⟨pb0,rfl,kn⟩) (λh=>by cases h);have qe:=ag0.set (p:=⟨db,9,none⟩) jn (.pointer (some ⟨pb0,0,none⟩));replace ko:=lU qt ko 9 (.pointer (some ⟨pb0,0,none⟩));obtain⟨cs9,qt⟩:=Da0.blk;have Da1:=Da0.set (i:=10) (by decide) (⟨pb1,rfl,ko⟩) (λh=>by cases h);have ua:=qe.set (p:=⟨db,10,none⟩) jn (.pointer (some ⟨pb1,0,none⟩));obtain⟨V6,hV6⟩:=exq (((x13.setCell ⟨db,9,none⟩ (.pointer (some ⟨pb0,0,none⟩))).setCell ⟨db,10,none⟩ (.pointer (some ⟨pb1,0,none⟩))));rw[<-hV6]at Da1 ua;have DV6:=Da1;have gV6:=ua;have b1:=Dx13.fl.cell (o:=1) rfl;go_wp2_with fail
 rw[<-hV6];clear b1;clear kn ko aab ue e9 f9 e10 f10 Da0 qe Da1 ua hV6 DV5 gV5 Dx12 ad4 Dx13 ag0;have HD:=Aa (DV6.dict (by intro i hi;simp;omega));have HL:=Aa (DV6.low (by simp) (by simp));clear DV6 CDAT CNUM CTRI SZ KR KS HDM L3 L5 L6 L7 L8 L9 L10 HP0 HP1 HP2 HP3 HP4 HP5 HP6 HP7 HP8 HP9 HP10;have lu:=ax.tr gV6;refine(xW0 p m es db V6 HOK.out HD.out).mono ?_;rintro e y1 ⟨rfl,lk⟩;have gy1:=lu.tr lk;have HD1:=Aa (HD.out.grows lk);obtain⟨vP,p1,p2⟩:=HD1.out.p;obtain⟨aP,cP,rfl,_,_,abt⟩:=p2.at_ vY.len;obtain⟨mb,bm,m1,m2⟩:=HD1.out.m;have HPA:=Aa abt;have HMA:=Aa m2
 have m9:(List.range' 0 (es.length-0)).map (λj=>es.getD j enZero)=es:=by
  rw[<-aF1 es (Ar _)];unfold lD1;rw[Ao,Aq]
 have CI:∀(u:World) (b1 b2:Nat),aB y1 u->u.cell? ⟨b1,0,none⟩=some (.int .i64 (0:Nat))->u.cell? ⟨b2,0,none⟩=some (.int .i64 (es.length:Nat)) ->
   Hid (Calls Tryz.prog 97 #[.pointer (some ⟨db,0,none⟩),.func (.func 224) #[] #[.pointer (some ⟨b1,0,none⟩),.pointer (some ⟨b2,0,none⟩)]] u λe w'=>∃v,e=.returned v/\aX w' u.heap.size 30 5 bF v es/\aB u w'):=λu b1 b2 hu h1 h2=>by
  have h:=lE0 p m es db 0 es.length b1 b2 u HOK.out (HD1.out.grows hu) (Ag _) (Ar _) h1 h2;rw[m9]at h;exact h
 have CA:Hid (Calls Tryz.prog 98 #[.pointer (some ⟨db,0,none⟩)] y1.drew λe w'=>e=.returned (.func (.func 224) #[] #[.pointer (some ⟨y1.drew.heap.size,0,none⟩),.pointer (some ⟨y1.drew.heap.size+1,0,none⟩)]) /\
   w'=(y1.drew.alloc (.cells #[.int .i64 (0:Nat)] 3)).alloc (.cells #[.int .i64 (es.length:Nat)] 3)):=eF1 p m es db y1.drew (HD1.out.grows (aB.drew y1))
 have z0:∀y:Ext aB y1.drew,y.u.cell? ⟨db,0,none⟩=some (.slice aP p.length cP):=aF ((aB.drew y1).cell p1);have z1:∀y:Ext aB y1.drew,y.u.cell? ⟨db,1,none⟩=some (.pointer (some ⟨mb,0,none⟩)):=aF ((aB.drew y1).cell m1)
 have CB:∀(a:Option Addr) (c:Nat) (u:World),aB y1 u->aG u a 5 (es.map bF) ->
   Hid (Calls Tryz.prog 15 #[.slice aP p.length cP,.pointer (some ⟨mb,0,none⟩),.slice a es.length c] u λe w'=>aB u w'/\∃v,e=.returned (.tuple #[v,.int .i64 0])/\aX w' u.heap.size 5 1 aY v FB):=λa c u hu ha=>by
  have h:=mG0 p mb bm m es aP a cP c u (HE.out.grows (gy1.tr hu)) (by omega) HEN.out HZ.out ah HV.out (HPA.out.grows hu) (HMA.out.grows hu) ha (HOK.out).chk;unfold dG at h;rw[HB.out]at h;exact h
 have HGL:=Aa gy1;clear p1 p2 m1 m2 abt m9 HB HPA HMA HEN HV HZ HE;go_wp2_with fail
 refine bK (bB 18 [10,11,12]) (by kernel_rfl) (λd _ _ _ _ h=>by cases d<;>exact h) ?_
 iterate 10 (refine aH rfl (λK hK=>?_);go_simp;refine hK _ ?_;clear hK K)
 clear z0 z1;refine bH rfl rfl (λK hK=>?_);go_simp;refine CA.out.mono ?_;rintro e y2 ⟨rfl,ut⟩;have af:aB y1.drew y2:=by rw[ut];exact(aB.alloc _ _).al _
 refine⟨af,hK _ _ ?_⟩;clear hK K CA;have c1:y2.cell? ⟨y1.drew.heap.size,0,none⟩=some (.int .i64 (0:Nat)):=tL (cs:=#[.int .i64 (0:Nat)]) (t:=3) (by rw[ut];exact aB.alloc _ _) rfl 0 _ rfl
 have c2:y2.cell? ⟨y1.drew.heap.size+1,0,none⟩=some (.int .i64 (es.length:Nat)):=by
  have:=tL (w:=y1.drew.alloc (.cells #[.int .i64 (0:Nat)] 3)) (w':=y2) (cs:=#[.int .i64 (es.length:Nat)]) (t:=3) (by rw[ut];exact aB.refl _) rfl 0 _ rfl
  rwa [Aw]at this
 have gy2:=(aB.drew y1).tr af;have CI2:=CI y2 _ _ gy2 c1 c2;clear CI ut c1 c2;refine bH rfl rfl (λK hK=>?_);go_simp;refine(CI2.out).mono ?_;rintro e y3 ⟨v,rfl,hv,ag1⟩;refine⟨ag1,hK _ _ ?_⟩;clear hK K;have gy3:=gy2.tr ag1;obtain⟨aE,cE,rfl,_,_,ag2⟩:=hv.at_ bP0.len;have CB3:=CB aE cE y3 gy3 ag2;clear CB CI2 hv ag2;refine bH rfl rfl (λK hK=>?_);go_simp;refine(CB3.out).mono ?_;rintro e y4 ⟨ch,v4,rfl,hv4⟩;refine⟨ch,hK _ _ ?_⟩;clear hK K;iterate 5 (refine aH rfl (λK hK=>?_);go_simp;refine hK _ ?_;clear hK K)
 refine cB ?_;have gy4:=gy3.tr ch;have gw4:=HGL.out.tr gy4;have be:(convert 28 9 v4).run Tryz.prog y4=.ok (.string (mkB FB)) y4:=bZ0 hv4
 have nt:(convert 28 9 (.slice ba FL bc)).run Tryz.prog y4=.ok (.string (mkB FB)) y4:=by
  rw[HFL.out];exact bG1 (c:=bc) HFN.out (HAT.out.grows gw4)
 clear CB3 hv4;go_wp2_with fail
 go_ret2;exact⟨gw4,db,rfl,HD1.out.grows gy4,HL.out.grows HD.out (lk.tr gy4),by omega⟩
end
section
open Go Go.RowKit Go.Shelf
theorem dO1 {x:yH} {m:Mx} (h:cE0 x=some m):m.OK:=by
 unfold cE0 at h;split at h
 ·rename_i hn
  cases h
  exact dC0 _ (nB0 hn)
 ·cases h
structure aO0 (x:yH) (w:World) (db:Nat) (m:Mx):Prop where
 src:cE0 x=some m
 ok:m.OK
 made:makeE x.p (some m) x.e=0
 d:gT w db x.p m (sortS x.e)
theorem aO0.dk {x:yH} {w:World} {db:Nat} {m:Mx} (h:aO0 x w db m):cT x.p m (sortS x.e):=bM0 h.made
theorem aO0.grows {x:yH} {w w':World} {db:Nat} {m:Mx} (h:aO0 x w db m) (hg:aB w w'):aO0 x w' db m:=⟨h.src,h.ok,h.made,h.d.grows hg⟩
def OpP (x:yH) (w:World) (e:Ending) (w':World):Prop :=
 aB w w'/\((makeE x.p (cE0 x) x.e≠0/\e=.returned (.tuple #[.pointer none,.int .i64 (makeE x.p (cE0 x) x.e)]))\/∃db m,e=.returned (.tuple #[.pointer (some ⟨db,0,none⟩),.int .i64 0])/\aO0 x w' db m)
end
section
open Go Go.RowKit Go.Shelf
attribute [local go_sem] aO aM
theorem oN1 (x:yH) (A:cF0) (w:World) (he:Env w) (ag:iK0 x) (k7:∀y∈x.e,y.r.size<=1099511627776/\y.s.size<=1099511627776)
  (ad5:∀m,cE0 x=some m->makeE x.p (some m) x.e=0->fO (imgP x.p m (sortS x.e))=0) (ac:yC w A x) :
  Calls Tryz.prog 8 #[A.agg x] w (OpP x w):=by
 have xw:=ag.e;obtain⟨pa,pc,sa,sc,ea,ec⟩:=A;obtain⟨xp,xd,xs,xe⟩:=x;obtain⟨W1,bi⟩:=exq (w.alloc (.cells #[.slice pa xp.length pc,.int .i64 xd,.slice sa xs.length sc,.slice ea xe.length ec] 26));have an:aB w W1:=by rw[bi];exact aB.alloc _ _
 obtain⟨bc,_⟩:=bT (show aB (w.alloc (.cells #[.slice pa xp.length pc,.int .i64 xd,.slice sa xs.length sc,.slice ea xe.length ec] 26)) W1 by rw[bi];exact aB.refl _)
 have q0:=bc 0 _ rfl;have q1:=bc 1 _ rfl;have q2:=bc 2 _ rfl;have q3:=bc 3 _ rfl;have CI:=Aa (aP1 ⟨xp,xd,xs,xe⟩ ⟨pa,pc,sa,sc,ea,ec⟩ W1 (he.grows an) ag k7 (ac.grows an));unfold cF0.agg cF0.cells dG at CI;simp only at CI;show Calls _ _ #[.agg #[.slice pa xp.length pc,.int .i64 xd,.slice sa xs.length sc,.slice ea xe.length ec]] _ (OpP ⟨xp,xd,xs,xe⟩ w)
 by_cases h0:makeE xp (cE0 ⟨xp,xd,xs,xe⟩) xe=0
 ·obtain⟨m,hm⟩:∃m,cE0 ⟨xp,xd,xs,xe⟩=some m:=by
   cases hs:cE0 ⟨xp,xd,xs,xe⟩ with
   | some m=>exact⟨m,rfl⟩
   | none =>
    rw[hs]at h0
    have:=(qC h0).1
    unfold xA at this;split at this<;>cases this
  rw[hm]at h0;have hmo:=dO1 hm;have zw:=ad5 m hm h0;have ry:=bN0 h0 zw;have hdk:=bM0 h0;rw[hm,ry]at CI;have CO:=λ(b4:Option Addr) (d4:Nat) (u:World) (hu:aB w u) h1 h2 h3 h4=>Aa (aC1 xp m (sortS xe) b4 d4 u (he.grows hu) hdk hmo (λy hy=>xw y (hQ0 hy)) zw h1 h2 h3 h4);have HP:∀w' db,aB w w'->gT w' db xp m (sortS xe)->OpP ⟨xp,xd,xs,xe⟩ w (.returned (.tuple #[.pointer (some ⟨db,0,none⟩),.int .i64 0])) w':=λw' db hg hd=>⟨hg,.inr ⟨db,m,rfl,hm,hmo,h0,hd⟩⟩;have HP:=Aa HP;generalize sortS xe=es at CI CO HP ⊢;clear he ag hm hmo h0 ac xw k7 ad5 zw ry hdk bc;go_enter Tryz.func8,Tryz.ntmps8
  go_wp2_with fail
  rw[<-bi];clear bi;refine CI.out.mono ?_;rintro e w2 ⟨af,v2,rfl,ic⟩;have vd:aX w2 W1.heap.size 5 1 aY v2 (file14 (imgP xp m es)):=ic;obtain⟨b4,d4,rfl,hd4,hm4,zv⟩:=vd.at_ bJ.len;have hn4:=cM vd;have g2:=an.tr af;have CO2:=CO b4 d4 w2 g2 hd4 hm4 hn4 zv;generalize (file14 (imgP xp m es)).length=FL at CO2 ⊢;clear ic vd hd4 hm4 hn4 zv CI CO q0 q1 q2 q3;go_wp2_with fail
  refine CO2.out.mono ?_;rintro e w3 ⟨ax,db,rfl,oy,_,_⟩;have HF:=HP.out w3 db (g2.tr ax) oy;clear CO2 HP oy;go_wp2_with fail
  go_ret2;exact HF
 ·have ry:=uO0 h0
  rw[ry]at CI;have HP:∀w' E,E=makeE xp (cE0 ⟨xp,xd,xs,xe⟩) xe->aB w w'->OpP ⟨xp,xd,xs,xe⟩ w (.returned (.tuple #[.pointer none,.int .i64 E])) w':=λw' E hE hg=>⟨hg,.inl ⟨h0,by rw[hE]⟩⟩;have HP:=Aa HP;obtain⟨E,hE⟩:=exq (makeE xp (cE0 ⟨xp,xd,xs,xe⟩) xe);have HEE:=Aa hE;simp only at CI;rw[<-hE]at CI h0;have hEb:(E != 0)=true:=by simpa using h0
  clear he ag ac xw k7 ad5 ry bc hE h0;go_enter Tryz.func8,Tryz.ntmps8
  go_wp2_with fail
  rw[<-bi];clear bi;refine CI.out.mono ?_;rintro e w2 ⟨af,v2,rfl,ic⟩;have HF:=HP.out w2 E HEE.out (an.tr af);clear CI ic q0 q1 q2 q3 HP HEE;go_wp2_with fail
  go_ret2;exact HF
theorem sL0 (x:yH) (A:cF0) (w:World) (he:Env w) (ag:iK0 x) (hl:mK x=true) (ac:yC w A x) :
  Calls Tryz.prog 8 #[A.agg x] w (OpP x w) :=
 oN1 x A w he ag (rE1 hl ag).2.1 (λ_ hm h=>nL1 (dO1 hm) (mC0 hl).2.2.2.2 h) ac
theorem zU0 (l:List Nd) (a b:Option Addr) (c d:Nat) (w:World) (hl:l.length<=140737488355328) (h1:aG w a 7 (l.map dD)) (h2:aG w b 7 (l.map dD)) :
  Calls Tryz.prog 113 #[.slice a l.length c,.slice b l.length d] w λe w'=>e=.returned (.bool true)/\aB w w':=by
 have H1:=Aa h1;have H2:=Aa h2;clear h1 h2;go_enter Tryz.func113,Tryz.ntmps113
 go_wp2_with fail
 go_loopw [5] (λi wr=>∃j:Nat,j<=l.length/\i=.int .i64 j/\aB w wr) (λi _=>l.length-(intOf i).toNat)
 case atStart=>exact⟨0,Ag _,rfl,aB.refl _⟩
 case round =>
  obtain⟨j,hj,rfl,hg⟩:=hrel;by_cases ae:j<l.length
  ·obtain⟨⟨xf,xt,xs,xl,xr,xc,xk⟩,hx⟩:∃x,l[j]?=some x:=⟨_,Ad ae⟩
   obtain⟨ba,oa,rfl,be⟩:=(H1.out.grows hg).get (aK ae);obtain⟨bb,ob,rfl,nt⟩:=(H2.out.grows hg).get (aK ae);have gi:(j:Int)<l.length:=by omega
   have a0:∀x:Ext aB wr.drew,x.u.cell? ⟨ba,oa+j*7,none⟩=some (.int .i64 xf):=aF ((aB.drew wr).cell (be j _ hx 0 _ rfl));have a1:∀x:Ext aB wr.drew,x.u.cell? ⟨ba,oa+j*7+1,none⟩=some (.int .i64 xt):=aF ((aB.drew wr).cell (be j _ hx 1 _ rfl));have a2:∀x:Ext aB wr.drew,x.u.cell? ⟨ba,oa+j*7+2,none⟩=some (.string xs):=aF ((aB.drew wr).cell (be j _ hx 2 _ rfl));have a3:∀x:Ext aB wr.drew,x.u.cell? ⟨ba,oa+j*7+3,none⟩=some (.int .i64 xl):=aF ((aB.drew wr).cell (be j _ hx 3 _ rfl));have a4:∀x:Ext aB wr.drew,x.u.cell? ⟨ba,oa+j*7+4,none⟩=some (.int .i64 xr):=aF ((aB.drew wr).cell (be j _ hx 4 _ rfl));have a5:∀x:Ext aB wr.drew,x.u.cell? ⟨ba,oa+j*7+5,none⟩=some (.int .i64 xc):=aF ((aB.drew wr).cell (be j _ hx 5 _ rfl));have a6:∀x:Ext aB wr.drew,x.u.cell? ⟨ba,oa+j*7+6,none⟩=some (.int .i64 xk):=aF ((aB.drew wr).cell (be j _ hx 6 _ rfl));have b0:∀x:Ext aB wr.drew,x.u.cell? ⟨bb,ob+j*7,none⟩=some (.int .i64 xf):=aF ((aB.drew wr).cell (nt j _ hx 0 _ rfl));have b1:∀x:Ext aB wr.drew,x.u.cell? ⟨bb,ob+j*7+1,none⟩=some (.int .i64 xt):=aF ((aB.drew wr).cell (nt j _ hx 1 _ rfl));have b2:∀x:Ext aB wr.drew,x.u.cell? ⟨bb,ob+j*7+2,none⟩=some (.string xs):=aF ((aB.drew wr).cell (nt j _ hx 2 _ rfl));have b3:∀x:Ext aB wr.drew,x.u.cell? ⟨bb,ob+j*7+3,none⟩=some (.int .i64 xl):=aF ((aB.drew wr).cell (nt j _ hx 3 _ rfl));have b4:∀x:Ext aB wr.drew,x.u.cell? ⟨bb,ob+j*7+4,none⟩=some (.int .i64 xr):=aF ((aB.drew wr).cell (nt j _ hx 4 _ rfl));have b5:∀x:Ext aB wr.drew,x.u.cell? ⟨bb,ob+j*7+5,none⟩=some (.int .i64 xc):=aF ((aB.drew wr).cell (nt j _ hx 5 _ rfl));have b6:∀x:Ext aB wr.drew,x.u.cell? ⟨bb,ob+j*7+6,none⟩=some (.int .i64 xk):=aF ((aB.drew wr).cell (nt j _ hx 6 _ rfl));have e2:(xs.toList==xs.toList)=true:=by simp
   clear be nt hx;go_wp2_with fail
   refine bK (bB 9 []) (by kernel_rfl) (λd _ _ _ _ h=>by cases d<;>exact h) ?_
   iterate 9 (refine aH rfl (λK hK=>?_);go_simp;refine hK _ ?_;clear hK K)
   refine cB ?_;clear a0 a1 a2 a3 a4 a5 a6 b0 b1 b2 b3 b4 b5 b6;go_wp2_with fail
   go_roundw
   case rel=>exact⟨j+1,ae,by go_num,hg.dr⟩
   case measure=>simp[intOf];omega
  ·obtain rfl:j=l.length:=by omega
   go_wp2_with fail
   go_ret;exact⟨rfl,hg⟩
def mR:List En:=[⟨⟨#[227,129,139]⟩,⟨#[232,154,138]⟩,1,1,100⟩]
def cO0:yH:=⟨oU,0,[],mR⟩
def bV0:Mx:=newM 2 0
theorem gT0:cE0 cO0=some bV0:=by
 unfold cE0 cO0;rw[if_pos (by decide +kernel)];rfl
theorem kT0:makeE oU (some bV0) mR=0:=by decide +kernel
theorem sY0:mK cO0=true:=by decide +kernel
theorem tL0:iK0 cO0 where
 p:=by decide
 s:=λy hy=>by cases hy
 e:=λy hy=>by
  rcases List.mem_cons.1 hy with rfl|hy
  ·exact⟨by decide,by decide,by decide,by decide,by decide⟩
  ·cases hy
 d:=(show (Lit.int .i64 0).wf=true by kernel_rfl)
 lp:=by decide
 ls:=by decide
 le:=by decide
theorem iR0:sortS mR=mR:=by decide +kernel
theorem vO0:plainP oU=1:=by decide +kernel
theorem gX0 (w:World):Calls Tryz.prog 7 #[] w λe w'=>∃A:cF0,e=.returned (A.agg cO0)/\yC w' A cO0/\aB w w':=by
 obtain⟨W0,cq⟩:=exq (w.alloc (.cells #[.slice (some ⟨w.heap.size+1,0,none⟩) 2 2,.int .i64 0,.slice none 0 0,.slice (some ⟨w.heap.size+1+1,0,none⟩) 1 1] 26));obtain⟨W1,bi⟩:=exq (W0.alloc (.cells (oU.flatMap cX).toArray 73));obtain⟨W2,d9⟩:=exq (W1.alloc (.cells (mR.flatMap bF).toArray 30));have dh:aB w W0:=by rw[cq];exact aB.alloc _ _
 have an:aB W0 W1:=by rw[bi];exact aB.alloc _ _
 have af:aB W1 W2:=by rw[d9];exact aB.alloc _ _
 have lg:W0.heap.size=w.heap.size+1:=by rw[cq];simp
 have dw:W1.heap.size=w.heap.size+1+1:=by rw[bi];simp[lg]
 have hp:aG W2 (some ⟨w.heap.size+1,0,none⟩) 2 (oU.map cX):=by
  have h:=xP (enc:=cX) (k:=2) (w:=W0) (t:=73) (fz:=(0,0)) (cs:=(oU.flatMap cX).toArray) (λ_=>rfl) oU rfl;rw[lg,<-bi]at h;exact h.grows af
 have he:aG W2 (some ⟨w.heap.size+1+1,0,none⟩) 5 (mR.map bF):=by
  have h:=xP (enc:=bF) (k:=5) (w:=W1) (t:=30) (fz:=(0,0)) (cs:=(mR.flatMap bF).toArray) (λ_=>rfl) mR rfl;rw[dw,<-d9]at h;exact h
 have HSRC:Hid (yC W2 ⟨some ⟨w.heap.size+1,0,none⟩,2,none,0,some ⟨w.heap.size+1+1,0,none⟩,1⟩ cO0/\aB w W2):=⟨⟨hp,aG.nil _ _ _,he⟩,aB.trans _ _ _ dh (aB.trans _ _ _ an af)⟩;obtain⟨bc,_⟩:=bT (w:=w) (cs:=#[.slice (some ⟨w.heap.size+1,0,none⟩) 2 2,.int .i64 0,.slice none 0 0,.slice (some ⟨w.heap.size+1+1,0,none⟩) 1 1]) (t:=26) (w':=W2) (by rw[<-cq];exact aB.trans _ _ _ an af);have b0:=bc 0 _ rfl;have b1:=bc 1 _ rfl;have b2:=bc 2 _ rfl;have b3:=bc 3 _ rfl
 have hE:W2=((w.alloc (.cells #[.slice (some ⟨w.heap.size+1,0,none⟩) 2 2,.int .i64 0,.slice none 0 0,.slice (some ⟨w.heap.size+1+1,0,none⟩) 1 1] 26)).alloc (.cells #[.string ⟨#[66,79,83]⟩,.int .i64 0,.string ⟨#[110,111,117,110]⟩,.int .i64 0] 73)).alloc (.cells #[.string ⟨#[227,129,139]⟩,.string ⟨#[232,154,138]⟩,.int .i64 1,.int .i64 1,.int .i64 100] 30):=by
  rw[d9,bi,cq];rfl
 have HE:=Aa hE;clear cq bi d9 dh an af lg dw hp he bc hE;go_enter Tryz.func7,Tryz.ntmps7
 go_wp2_with fail
 rw[<-HE.out];refine bodyPost_ret (v:=.agg #[.slice (some ⟨w.heap.size+1,0,none⟩) 2 2,.int .i64 0,.slice none 0 0,.slice (some ⟨w.heap.size+1+1,0,none⟩) 1 1]) (by simp[results,Tryz.results7,go_sem,b0,b1,b2,b3]) rfl ⟨_,rfl,HSRC.out.1,HSRC.out.2⟩
theorem hC0 (f t:Int) (s:ByteArray) (c k:Int) (w:World):Calls Tryz.prog 45 #[.int .i64 f,.int .i64 t,.string s,.int .i64 c,.int .i64 k] w λe w'=>e=.returned (.agg #[.int .i64 f,.int .i64 t,.string s,.int .i64 1,.int .i64 1,.int .i64 c,.int .i64 k])/\aB w w':=by
 obtain⟨W1,bi⟩:=exq (w.alloc (.cells #[.int .i64 f,.int .i64 t,.string s,.int .i64 1,.int .i64 1,.int .i64 c,.int .i64 k] 51));have an:aB w W1:=by rw[bi];exact aB.alloc _ _
 obtain⟨bc,_⟩:=bT (show aB (w.alloc (.cells #[.int .i64 f,.int .i64 t,.string s,.int .i64 1,.int .i64 1,.int .i64 c,.int .i64 k] 51)) W1 by rw[bi];exact aB.refl _)
 have b0:=bc 0 _ rfl;have b1:=bc 1 _ rfl;have b2:=bc 2 _ rfl;have b3:=bc 3 _ rfl;have b4:=bc 4 _ rfl;have b5:=bc 5 _ rfl;have b6:=bc 6 _ rfl;have HW:=Aa bi;clear bc bi;go_enter Tryz.func45,Tryz.ntmps45
 go_wp2_with fail
 rw[<-HW.out];refine bodyPost_ret (v:=.agg #[.int .i64 f,.int .i64 t,.string s,.int .i64 1,.int .i64 1,.int .i64 c,.int .i64 k]) (by simp[results,Tryz.results45,go_sem,b0,b1,b2,b3,b4,b5,b6]) rfl ⟨rfl,an⟩
structure rQ where
 s:yH
 x:ByteArray
 l:List Lrn
structure cQ0 where
 s:cF0
 la:Option Addr
 lc:Nat
def cQ0.agg (A:cQ0) (c:rQ):Value := .agg #[.slice A.s.pa c.s.p.length A.s.pc,.int .i64 c.s.d,.slice A.s.sa c.s.s.length A.s.sc,.slice A.s.ea c.s.e.length A.s.ec,.string c.x,.slice A.la c.l.length A.lc]
structure aE0 (w:World) (A:cQ0) (c:rQ):Prop where
 s:yC w A.s c.s
 l:aG w A.la 3 (c.l.map cU)
theorem aE0.grows {w w':World} {A:cQ0} {c:rQ} (h:aE0 w A c) (hg:aB w w'):aE0 w' A c:=⟨h.s.grows hg,h.l.grows hg⟩
structure pU0 (c:rQ):Prop where
 s:iK0 c.s
 x:c.x.size<=140737488355328
 l:∀y∈c.l,vG y
 ll:c.l.length<=140737488355328
def cV1 (y:Lrn):Bool:=decide (400<y.r.size)||decide (400<y.s.size)
def rI (c:rQ):Bool := !(c.l.take 40).any cV1&&(mK c.s&&(decide (c.x.size<=400)&&decide (c.l.length<=40)))
theorem bI0 {c:rQ} (h:rI c=true):mK c.s=true/\c.x.size<=400/\c.l.length<=40/\∀y∈c.l,y.r.size<=400/\y.s.size<=400:=by
 unfold rI at h;simp only[Ax,Au,decide_eq_true_eq,Av]at h;obtain⟨h1,h2,h3,h4⟩:=h;rw[List.take_of_length_le h4]at h1;refine⟨h2,h3,h4,λy hy=>?_⟩
 have:=h1 y hy
 unfold cV1 at this;simp at this;exact this
theorem oG0 (c:rQ) (A:cQ0) (w:World) (ag:pU0 c) (ac:aE0 w A c) :
  Calls Tryz.prog 47 #[A.agg c] w λe w'=>e=.returned (.bool (rI c))/\aB w w':=by
 have m9:=ag.ll;have hxx:=ag.x;obtain⟨⟨xp,xd,xs,xe⟩,x,ls⟩:=c;obtain⟨⟨pa,pc,sa,sc,ea,ec⟩,la,lc⟩:=A;simp only at m9 hxx;obtain⟨W0,cq⟩:=exq (w.alloc (.cells #[.slice pa xp.length pc,.int .i64 xd,.slice sa xs.length sc,.slice ea xe.length ec,.string x,.slice la ls.length lc] 43));have dh:aB w W0:=by rw[cq];exact aB.alloc _ _
 obtain⟨bc,_⟩:=bT (show aB (w.alloc (.cells #[.slice pa xp.length pc,.int .i64 xd,.slice sa xs.length sc,.slice ea xe.length ec,.string x,.slice la ls.length lc] 43)) W0 by rw[cq];exact aB.refl _)
 have q0:=bc 0 _ rfl;have q1:=bc 1 _ rfl;have q2:=bc 2 _ rfl;have q3:=bc 3 _ rfl;have q4:=bc 4 _ rfl;have q5:=bc 5 _ rfl;have CL:=Aa (zI0 ⟨xp,xd,xs,xe⟩ ⟨pa,pc,sa,sc,ea,ec⟩ W0 ag.s (ac.s.grows dh));unfold cF0.agg cF0.cells at CL;simp only at CL;have HL:Hid (aG W0 la 3 (ls.map cU)):=ac.l.grows dh
 have HQ:Hid (∀k:Nat,k<=40->k<=ls.length->(∀y∈ls.take k,cV1 y=false)->(k=40\/k=ls.length)->rI ⟨⟨xp,xd,xs,xe⟩,x,ls⟩=(mK ⟨xp,xd,xs,xe⟩&&(decide (x.size<=400)&&decide (ls.length<=40)))):=λk h1 h2 h3 h4=>by
  unfold rI;simp only
  have:(ls.take 40).any cV1=false:=by
   rw[Av];intro y hy
   have hy2:y∈ls.take k:=by
    rcases h4 with rfl|rfl
    ·exact hy
    ·rw[Ao];exact List.mem_of_mem_take hy
   rw[h3 y hy2];decide
  rw[this];rfl
 have HB:Hid (∀(k:Nat) (y:Lrn),k<40->ls[k]?=some y->cV1 y=true->rI ⟨⟨xp,xd,xs,xe⟩,x,ls⟩=false):=λk y h1 h2 h3=>by
  unfold rI;simp only
  have:(ls.take 40).any cV1=true:=List.any_eq_true.2 ⟨y,Af (by rw[List.getElem?_take_of_lt h1];exact h2),h3⟩
  rw[this];rfl
 show Calls _ _ #[.agg #[.slice pa xp.length pc,.int .i64 xd,.slice sa xs.length sc,.slice ea xe.length ec,.string x,.slice la ls.length lc]] _ _
 obtain⟨LB,hLB⟩:=exq (rI ⟨⟨xp,xd,xs,xe⟩,x,ls⟩);rw[<-hLB]at HQ HB ⊢;obtain⟨LS,hLS⟩:=exq (mK ⟨xp,xd,xs,xe⟩);rw[<-hLS]at HQ CL;clear hLB hLS ac bc ag;go_enter Tryz.func47,Tryz.ntmps47
 go_wp2_with fail
 rw[<-cq];clear cq;go_loopw [3] (λi wr=>∃k:Nat,k<=ls.length/\k<=40/\i=.int .i64 k/\Hid (∀y∈ls.take k,cV1 y=false)/\wr=W0) (λi _=>ls.length-(intOf i).toNat)
 case atStart=>exact⟨0,Ag _,Ag _,rfl,(λy hy=>by simp at hy),rfl⟩
 case round =>
  obtain⟨k,hk,vc,rfl,hF,rfl⟩:=hrel;by_cases ae:k<ls.length/\k<40
  ·obtain⟨ae,adp⟩:=ae
   have cn:(k:Int)<ls.length:=by omega
   have ak0:(k:Int)<40:=by omega
   obtain⟨⟨yr,ys,yb⟩,hx⟩:∃y,ls[k]?=some y:=⟨_,Ad ae⟩;obtain⟨ba,oa,rfl,be⟩:=HL.out.get (aK ae);have c0:wr.cell? ⟨ba,oa+k*3,none⟩=some (.string yr):=be k _ hx 0 _ rfl;have c1:wr.cell? ⟨ba,oa+k*3+1,none⟩=some (.string ys):=be k _ hx 1 _ rfl;by_cases eo:400<yr.size
   ·have lj:(400:Int)<yr.size:=by omega
    have HX:Hid (LB=false):=HB.out k _ adp hx (by unfold cV1;simp[eo]);clear eo hx be hF HQ;go_wp2_with fail
    go_ret;exact⟨by rw[HX.out];rfl,dh⟩
   ·have lj:¬(400:Int)<yr.size:=by omega
    by_cases cy:400<ys.size
    ·have hbj:(400:Int)<ys.size:=by omega
     have HX:Hid (LB=false):=HB.out k _ adp hx (by unfold cV1;simp[cy]);clear eo cy hx be hF HQ;go_wp2_with fail
     go_ret;exact⟨by rw[HX.out];rfl,dh⟩
    ·have hbj:¬(400:Int)<ys.size:=by omega
     have HF2:Hid (∀y∈ls.take (k+1),cV1 y=false):=λy hy=>by
      rw[bM hx]at hy;rcases List.mem_append.1 hy with hy|hy
      ·exact hF.out y hy
      ·rw[List.mem_singleton.1 hy];unfold cV1;simp;omega
     clear eo cy hx be hF;go_wp2_with fail
     go_roundw
     case rel=>exact⟨k+1,ae,by omega,by go_num,HF2,trivial⟩
     case measure=>simp[intOf];omega
  ·have HX:=Aa (HQ.out k vc hk hF.out (by omega))
   clear HQ HB hF;have o7:∀b:Bool,(decide (x.size<=400)=b)->decide ((x.size:Int)<=400)=b:=λb h=>by rw[<-h];exact decide_eq_decide.2 (by omega)
   have hli:∀b:Bool,(decide (ls.length<=40)=b)->decide ((ls.length:Int)<=40)=b:=λb h=>by rw[<-h];exact decide_eq_decide.2 (by omega)
   have ie:=o7 _ rfl;have ky:=hli _ rfl;have key:∀w',aB wr w'->(Ending.returned (.bool (LS&&(decide (x.size<=400)&&decide (ls.length<=40))))=.returned (.bool LB)/\aB w w'):=λw' hg=>⟨by rw[HX.out],dh.tr hg⟩;have KEY:=Aa key;clear key HX o7 hli;generalize decide (x.size<=400)=B1 at KEY ie;generalize decide (ls.length<=40)=B2 at KEY ky
   have ai3:(decide ((k:Int)<ls.length)=false)\/(decide ((k:Int)<ls.length)=true/\decide ((k:Int)<40)=false):=by
    by_cases h1:k<ls.length
    ·exact Or.inr ⟨decide_eq_true (by omega),decide_eq_false (by omega)⟩
    ·exact Or.inl (decide_eq_false (by omega))
   rcases ai3 with o9|⟨o9,hc2⟩
   ·cases LS with
    | false =>
     go_wp2_with fail
     all_goals
      refine CL.out.mono ?_;rintro e w2 ⟨rfl,af⟩;go_wp2_with fail
      go_ret;exact KEY.out _ af
    | true =>
     cases B1 with
     | false =>
      go_wp2_with fail
      all_goals
       refine CL.out.mono ?_;rintro e w2 ⟨rfl,af⟩;have q4:=af.cell q4;have q5:=af.cell q5;go_wp2_with fail
       go_ret;exact KEY.out _ af
     | true =>
      go_wp2_with fail
      all_goals
       refine CL.out.mono ?_;rintro e w2 ⟨rfl,af⟩;have q4:=af.cell q4;have q5:=af.cell q5;go_wp2_with fail
       go_ret;exact KEY.out _ af
   ·cases LS with
    | false =>
     go_wp2_with fail
     all_goals
      refine CL.out.mono ?_;rintro e w2 ⟨rfl,af⟩;go_wp2_with fail
      go_ret;exact KEY.out _ af
    | true =>
     cases B1 with
     | false =>
      go_wp2_with fail
      all_goals
       refine CL.out.mono ?_;rintro e w2 ⟨rfl,af⟩;have q4:=af.cell q4;have q5:=af.cell q5;go_wp2_with fail
       go_ret;exact KEY.out _ af
     | true =>
      go_wp2_with fail
      all_goals
       refine CL.out.mono ?_;rintro e w2 ⟨rfl,af⟩;have q4:=af.cell q4;have q5:=af.cell q5;go_wp2_with fail
       go_ret;exact KEY.out _ af
theorem dP1 {s:ByteArray} (h:wchk s=0):∃C,fJ C/\C.flatten=bl s/\C≠[]/\C.length<=64:=by
 have hc:0<countS s/\countS s<=64:=by
  unfold wchk at h;split at h
  ·cases h
  ·split at h
   ·cases h
   ·split at h
    ·cases h
    ·omega
 have hv:Bc (bl s)=true:=by
  cases hv:Bc (bl s) with
  | true=>rfl
  | false =>
   unfold countS at hc;rw[if_neg (by rw[show s.data.toList=bl s from rfl,hv];decide)]at hc
   omega
 rw[jE hv]at hc;obtain⟨C,hC,hf⟩:=gC.1 hv
 have hl:(bD (bl s)).length=C.length:=by
  rw[<-hf,(dY hC).2];unfold rS;rw[Ab]
 rw[hl]at hc;exact⟨C,hC,hf,λe=>by rw[e]at hc;simp at hc,by omega⟩
theorem vT0 {s:ByteArray} {C:List (List UInt8)} (hC:fJ C) (hf:C.flatten=bl s) (h0:C≠[]) (mm:C.length<=64):wchk s=0:=by
 have hv:Bc (bl s)=true:=gC.2 ⟨C,hC,hf⟩
 have hl:(bD (bl s)).length=C.length:=by
  rw[<-hf,(dY hC).2];unfold rS;rw[Ab]
 have:=List.length_pos_iff.2 h0
 unfold wchk;rw[jE hv,hl,if_neg (by omega),if_neg (by omega),if_neg (by omega)]
theorem uA0 (db:Nat) (s:ByteArray) (la:Option Addr) (ln lc:Nat) (w:World) (he:Env w) (hs:s.size<9223372036854775807) (h:wchk s≠0) :
  Calls Tryz.prog 9 #[.pointer (some ⟨db,0,none⟩),.string s,.slice la ln lc] w λe w'=>e=.returned (.tuple #[.slice none 0 0,.int .i64 (wchk s)])/\aB w w':=by
 have CC:=Aa (qI s w hs he);obtain⟨E,hE⟩:=exq (wchk s);rw[<-hE]at CC h ⊢;have hEb:(E != 0)=true:=by simpa using h
 clear hE h he;go_enter Tryz.func9,Tryz.ntmps9
 go_wp2_with fail
 refine CC.out.mono ?_;rintro e w2 ⟨rfl,hg⟩;go_wp2_with fail
 go_ret2;exact⟨rfl,hg⟩
theorem kP1:cT oU bV0 mR:=by
 have:=bM0 kT0
 rw[iR0]at this;exact this
theorem kS0 (s:ByteArray) (C:List (List UInt8)) (ls:List Lrn) (la:Option Addr) (lc:Nat) (l:List Nd) (wa:Option Addr) (wc:Nat) (w:World) (he:Env w)
  (hC:fJ C) (hf:C.flatten=bl s) (h0:C≠[]) (mm:C.length<=64) (hs:s.size<=1048576) (hls:ls.length<=100000) (iq:∀x∈ls,vG x) (hlz:∀x∈ls,x.r.size<=1048576/\x.s.size<=1048576) (hla:aG w la 3 (ls.map cU))
  (hl:fP C mR ls 1=l) (m9:l.length<=10000) (hwa:aG w wa 7 (l.map dD)) :
  Calls Tryz.prog 46 #[.string s,.slice la ls.length lc,.slice wa l.length wc] w λe w'=>e=.returned (.bool true)/\aB w w':=by
 have HE:=Aa he;have CO:=λ(A:cF0) (u:World) (hu:aB w u) (ac:yC u A cO0)=>Aa (sL0 cO0 A u (HE.out.grows hu) tL0 sY0 ac);have CN:=λ(db:Nat) (u:World) (hu:aB w u) (hd:gT u db oU bV0 mR)=>Aa (uV oU bV0 mR db s C ls la lc u (HE.out.grows hu) kP1 hd hC hf h0 mm (by decide) hls iq hlz (hla.grows hu) hs (vT0 hC hf h0 mm));rw[vO0,show ((1:Nat):Int)=1 from rfl,hl]at CN
 have HWA:=Aa hwa;clear hC hf h0 mm hls iq hlz hla hl hwa he;go_enter Tryz.func46,Tryz.ntmps46
 go_wp2_with fail
 refine(gX0 w).mono ?_;rintro e w1 ⟨A,rfl,hA,an⟩;have CO2:=CO A w1 an hA;clear CO hA;go_wp2_with fail
 refine CO2.out.mono ?_;rintro e w2 ⟨af,hd⟩;clear CO2
 have ij:∃db,e=.returned (.tuple #[.pointer (some ⟨db,0,none⟩),.int .i64 0])/\gT w2 db oU bV0 mR:=by
  rcases hd with ⟨h,_⟩|⟨db,m,rfl,hd⟩
  ·rw[gT0]at h
   exact absurd kT0 h
  ·have hm:=hd.src
   rw[gT0]at hm;cases hm
   have:=hd.d
   rw[show cO0.e=mR from rfl,iR0]at this
   exact⟨db,rfl,this⟩
 clear hd;obtain⟨db,rfl,hd⟩:=ij;have g2:=an.tr af;have CN2:=CN db w2 g2 hd;clear CN;go_wp2_with fail
 refine CN2.out.mono ?_;rintro e w3 ⟨ax,v3,rfl,nu⟩;rw[if_pos m9]at nu;obtain⟨a3,c3,rfl,_,_,fp⟩:=nu.at_ eL1.len;have CS:=Aa (zU0 l a3 wa c3 wc w3 (by omega) fp (HWA.out.grows (g2.tr ax)));have ol:(if l.length<=10000 then (0:Int) else 7)=0:=if_pos m9
 rw[ol];clear CN2 ol nu fp hd;go_wp2_with fail
 refine CS.out.mono ?_;rintro e w4 ⟨rfl,ch⟩;go_wp2_with fail
 go_ret;exact⟨rfl,(g2.tr ax).tr ch⟩
def ka:List UInt8:=[227,129,139]
theorem kN1 {c:List UInt8} (h:(!decide (c=[])&&(decide ((Ay c).2=c.length) && !decide ((Ay c).1=65533/\(Ay c).2=1)))=true):xV c:=by
 simp only[Ax,Au,decide_eq_true_eq,decide_eq_false_iff_not]at h;exact⟨h.1,h.2.1,h.2.2⟩
theorem yI0:fJ [ka]:=λc hc=>by
 rw[List.mem_singleton.1 hc];exact kN1 (by decide +kernel)
def qU1 (f t:Int) (s:ByteArray) (c k:Int):Nd:=⟨f,t,s,1,1,c,k⟩
def oB1:Nd:=qU1 0 1 ⟨#[232,154,138]⟩ 100 1
def nKa:Nd:=qU1 0 1 ⟨#[227,129,139]⟩ 10000 3
def dO0:Nd:=qU1 0 1 ⟨#[232,154,138]⟩ 70 1
def eS1:List Lrn:=[⟨⟨#[227,129,139]⟩,⟨#[232,154,138]⟩,30⟩]
theorem oE1:fP [ka] mR [] 1=[oB1,nKa]:=by decide +kernel
theorem pQ1:fP [ka] mR eS1 1=[dO0,nKa]:=by decide +kernel
theorem oS1:wchk ⟨#[]⟩=1:=by decide +kernel
theorem pE1:wchk ⟨#[255]⟩=10:=by decide +kernel
theorem lV1:∀x∈eS1,vG x:=λx hx=>by
 rw[List.mem_singleton.1 hx];exact⟨by decide,by decide,xW (n:=30) (by decide) (by decide)⟩
theorem oY1:∀x∈eS1,x.r.size<=1048576/\x.s.size<=1048576:=by decide
theorem nW0 (w:World) (he:Env w):Calls Tryz.prog 11 #[] w λe w'=>e=.returned (.bool true)/\aB w w':=by
 have HE:=Aa he;have CA:=λ(wa:Option Addr) (wc:Nat) (u:World) (hu:aB w u) (h:aG u wa 7 ([oB1,nKa].map dD))=>Aa (kS0 ⟨#[227,129,139]⟩ [ka] [] none 0 [oB1,nKa] wa wc u (HE.out.grows hu) yI0 rfl (by simp) (by decide) (by decide) (by decide) (λx hx=>by cases hx) (λx hx=>by cases hx) (aG.nil _ _ _) oE1 (by decide) h);have CB:=λ(la:Option Addr) (lc:Nat) (wa:Option Addr) (wc:Nat) (u:World) (hu:aB w u) (hl:aG u la 3 (eS1.map cU)) (h:aG u wa 7 ([dO0,nKa].map dD))=>Aa (kS0 ⟨#[227,129,139]⟩ [ka] eS1 la lc [dO0,nKa] wa wc u (HE.out.grows hu) yI0 rfl (by simp) (by decide) (by decide) (by decide) lV1 oY1 hl pQ1 (by decide) h);have C1:=λ(u:World) (hu:aB w u)=>Aa (qI ⟨#[]⟩ u (by decide) (HE.out.grows hu));have C2:=λ(u:World) (hu:aB w u)=>Aa (qI ⟨#[255]⟩ u (by decide) (HE.out.grows hu));rw[oS1]at C1;rw[pE1]at C2;clear he;go_enter Tryz.func11,Tryz.ntmps11
 go_wp2_with fail
 refine(hC0 _ _ _ _ _ _).mono ?_;rintro e w1 ⟨rfl,an⟩;obtain⟨b1,eo⟩:=exq w1.heap.size;obtain⟨W1,bi⟩:=exq (w1.alloc (.cells #[.int .i64 0,.int .i64 1,.string ⟨#[232,154,138]⟩,.int .i64 1,.int .i64 1,.int .i64 100,.int .i64 1] 51));have gW1:aB w1 W1:=by rw[bi];exact aB.alloc _ _
 have bx1:∀j v,#[(.int .i64 0:Value),.int .i64 1,.string ⟨#[232,154,138]⟩,.int .i64 1,.int .i64 1,.int .i64 100,.int .i64 1][j]?=some v->W1.cell? ⟨b1,j,none⟩=some v:=λj v h=>by rw[bi,eo];exact aT w1 _ _ (0,0) j v h
 go_wp2_with fail
 rw[<-bi,<-eo];clear bi eo;refine(hC0 _ _ _ _ _ _).mono ?_;rintro e w2 ⟨rfl,af⟩;obtain⟨b2,cy⟩:=exq w2.heap.size;obtain⟨W2,d9⟩:=exq (w2.alloc (.cells #[.int .i64 0,.int .i64 1,.string ⟨#[227,129,139]⟩,.int .i64 1,.int .i64 1,.int .i64 10000,.int .i64 3] 51));have gW2:aB w2 W2:=by rw[d9];exact aB.alloc _ _
 have s5:∀j v,#[(.int .i64 0:Value),.int .i64 1,.string ⟨#[227,129,139]⟩,.int .i64 1,.int .i64 1,.int .i64 10000,.int .i64 3][j]?=some v->W2.cell? ⟨b2,j,none⟩=some v:=λj v h=>by rw[d9,cy];exact aT w2 _ _ (0,0) j v h
 go_wp2_with fail
 rw[<-d9,<-cy];clear d9 cy;refine(hC0 _ _ _ _ _ _).mono ?_;rintro e w3 ⟨rfl,ax⟩;obtain⟨b3,iv⟩:=exq w3.heap.size;obtain⟨W3,ep⟩:=exq (w3.alloc (.cells #[.int .i64 0,.int .i64 1,.string ⟨#[232,154,138]⟩,.int .i64 1,.int .i64 1,.int .i64 70,.int .i64 1] 51));have t9:aB w3 W3:=by rw[ep];exact aB.alloc _ _
 have bx3:∀j v,#[(.int .i64 0:Value),.int .i64 1,.string ⟨#[232,154,138]⟩,.int .i64 1,.int .i64 1,.int .i64 70,.int .i64 1][j]?=some v->W3.cell? ⟨b3,j,none⟩=some v:=λj v h=>by rw[ep,iv];exact aT w3 _ _ (0,0) j v h
 have g3:aB w W3:=an.tr (gW1.tr (af.tr (gW2.tr (ax.tr t9))));have G1:aB W1 W3:=af.tr (gW2.tr (ax.tr t9));have G2:aB W2 W3:=ax.tr t9;have x0:W3.cell? ⟨b1,0,none⟩=some (.int .i64 0):=G1.cell (bx1 0 _ rfl);have x1:W3.cell? ⟨b1,1,none⟩=some (.int .i64 1):=G1.cell (bx1 1 _ rfl);have x2:W3.cell? ⟨b1,2,none⟩=some (.string ⟨#[232,154,138]⟩):=G1.cell (bx1 2 _ rfl);have x3:W3.cell? ⟨b1,3,none⟩=some (.int .i64 1):=G1.cell (bx1 3 _ rfl);have x4:W3.cell? ⟨b1,4,none⟩=some (.int .i64 1):=G1.cell (bx1 4 _ rfl);have x5:W3.cell? ⟨b1,5,none⟩=some (.int .i64 100):=G1.cell (bx1 5 _ rfl);have x6:W3.cell? ⟨b1,6,none⟩=some (.int .i64 1):=G1.cell (bx1 6 _ rfl);have y0:W3.cell? ⟨b2,0,none⟩=some (.int .i64 0):=G2.cell (s5 0 _ rfl);have y1:W3.cell? ⟨b2,1,none⟩=some (.int .i64 1):=G2.cell (s5 1 _ rfl);have y2:W3.cell? ⟨b2,2,none⟩=some (.string ⟨#[227,129,139]⟩):=G2.cell (s5 2 _ rfl);have y3:W3.cell? ⟨b2,3,none⟩=some (.int .i64 1):=G2.cell (s5 3 _ rfl);have y4:W3.cell? ⟨b2,4,none⟩=some (.int .i64 1):=G2.cell (s5 4 _ rfl);have y5:W3.cell? ⟨b2,5,none⟩=some (.int .i64 10000):=G2.cell (s5 5 _ rfl);have y6:W3.cell? ⟨b2,6,none⟩=some (.int .i64 3):=G2.cell (s5 6 _ rfl);obtain⟨W4,py⟩:=exq (W3.alloc (.cells #[.int .i64 0,.int .i64 1,.string ⟨#[232,154,138]⟩,.int .i64 1,.int .i64 1,.int .i64 100,.int .i64 1,.int .i64 0,.int .i64 1,.string ⟨#[227,129,139]⟩,.int .i64 1,.int .i64 1,.int .i64 10000,.int .i64 3] 51));obtain⟨b4,yz⟩:=exq W3.heap.size;have hA4:aG W4 (some ⟨b4,0,none⟩) 7 ([oB1,nKa].map dD):=by rw[py,yz];exact xP (enc:=dD) (k:=7) (w:=W3) (t:=51) (fz:=(0,0)) (cs:=([oB1,nKa].flatMap dD).toArray) (λ_=>rfl) [oB1,nKa] rfl
 have gW4:aB W3 W4:=by rw[py];exact aB.alloc _ _
 have CA4:=CA (some ⟨b4,0,none⟩) 2 W4 (g3.tr gW4) hA4;clear CA hA4;rw[ep]at x0 y0 x1 y1 x2 y2 x3 y3 x4 y4 x5 y5 x6 y6;have zb:b3+1=b4:=by rw[yz,ep,iv];simp
 have HZB:=Aa (And.intro ep (And.intro iv (And.intro py zb)));clear ep iv py zb yz;go_wp2_with fail
 rw[<-HZB.out.1,<-HZB.out.2.1,<-HZB.out.2.2.1,HZB.out.2.2.2];clear HZB x0 y0 x1 y1 x2 y2 x3 y3 x4 y4 x5 y5 x6 y6;refine CA4.out.mono ?_;rintro e w5 ⟨rfl,bv⟩;clear CA4;have G5:=gW4.tr bv;have y0:w5.cell? ⟨b2,0,none⟩=some (.int .i64 0):=(G2.tr G5).cell (s5 0 _ rfl);have y1:w5.cell? ⟨b2,1,none⟩=some (.int .i64 1):=(G2.tr G5).cell (s5 1 _ rfl);have y2:w5.cell? ⟨b2,2,none⟩=some (.string ⟨#[227,129,139]⟩):=(G2.tr G5).cell (s5 2 _ rfl);have y3:w5.cell? ⟨b2,3,none⟩=some (.int .i64 1):=(G2.tr G5).cell (s5 3 _ rfl);have y4:w5.cell? ⟨b2,4,none⟩=some (.int .i64 1):=(G2.tr G5).cell (s5 4 _ rfl);have y5:w5.cell? ⟨b2,5,none⟩=some (.int .i64 10000):=(G2.tr G5).cell (s5 5 _ rfl);have y6:w5.cell? ⟨b2,6,none⟩=some (.int .i64 3):=(G2.tr G5).cell (s5 6 _ rfl);have z0:w5.cell? ⟨b3,0,none⟩=some (.int .i64 0):=G5.cell (bx3 0 _ rfl);have z1:w5.cell? ⟨b3,1,none⟩=some (.int .i64 1):=G5.cell (bx3 1 _ rfl);have z2:w5.cell? ⟨b3,2,none⟩=some (.string ⟨#[232,154,138]⟩):=G5.cell (bx3 2 _ rfl);have z3:w5.cell? ⟨b3,3,none⟩=some (.int .i64 1):=G5.cell (bx3 3 _ rfl);have z4:w5.cell? ⟨b3,4,none⟩=some (.int .i64 1):=G5.cell (bx3 4 _ rfl);have z5:w5.cell? ⟨b3,5,none⟩=some (.int .i64 70):=G5.cell (bx3 5 _ rfl);have z6:w5.cell? ⟨b3,6,none⟩=some (.int .i64 1):=G5.cell (bx3 6 _ rfl);obtain⟨W6,zz⟩:=exq (w5.alloc (.cells #[.string ⟨#[227,129,139]⟩,.string ⟨#[232,154,138]⟩,.int .i64 30] 45));obtain⟨W7,hW7⟩:=exq (W6.alloc (.cells #[.int .i64 0,.int .i64 1,.string ⟨#[232,154,138]⟩,.int .i64 1,.int .i64 1,.int .i64 70,.int .i64 1,.int .i64 0,.int .i64 1,.string ⟨#[227,129,139]⟩,.int .i64 1,.int .i64 1,.int .i64 10000,.int .i64 3] 51));have lu:aB w5 W6:=by rw[zz];exact aB.alloc _ _
 have gW7:aB W6 W7:=by rw[hW7];exact aB.alloc _ _
 have zW6:W6.heap.size=w5.heap.size+1:=by rw[zz];simp
 have hL7:aG W7 (some ⟨w5.heap.size,0,none⟩) 3 (eS1.map cU):=by
  have h:=xP (enc:=cU) (k:=3) (w:=w5) (t:=45) (fz:=(0,0)) (cs:=(eS1.flatMap cU).toArray) (λ_=>rfl) eS1 rfl;rw[show (eS1.flatMap cU).toArray = #[.string ⟨#[227,129,139]⟩,.string ⟨#[232,154,138]⟩,.int .i64 30] from rfl,<-zz]at h
  exact h.grows gW7
 have vw:aG W7 (some ⟨w5.heap.size+1,0,none⟩) 7 ([dO0,nKa].map dD):=by
  rw[hW7,<-zW6];exact xP (enc:=dD) (k:=7) (w:=W6) (t:=51) (fz:=(0,0)) (cs:=([dO0,nKa].flatMap dD).toArray) (λ_=>rfl) [dO0,nKa] rfl
 have y0:=lu.cell y0;have z0:=lu.cell z0;have y1:=lu.cell y1;have z1:=lu.cell z1;have y2:=lu.cell y2;have z2:=lu.cell z2;have y3:=lu.cell y3;have z3:=lu.cell z3;have y4:=lu.cell y4;have z4:=lu.cell z4;have y5:=lu.cell y5;have z5:=lu.cell z5;have y6:=lu.cell y6;have z6:=lu.cell z6;rw[zz]at y0 z0 y1 z1 y2 z2 y3 z3 y4 z4 y5 z5 y6 z6;have g7:=((g3.tr G5).tr lu).tr gW7;have CB7:=CB (some ⟨w5.heap.size,0,none⟩) 1 (some ⟨w5.heap.size+1,0,none⟩) 2 W7 g7 hL7 vw;have HW:=Aa (And.intro zz hW7);clear CB hL7 vw zz hW7 zW6 bx1 s5 bx3;go_wp2_with fail
 rw[<-HW.out.1,<-HW.out.2];refine CB7.out.mono ?_;rintro e w8 ⟨rfl,fh⟩;clear CB7;go_wp2_with fail
 refine(C1 w8 (g7.tr fh)).out.mono ?_;rintro e w9 ⟨rfl,fu⟩;go_wp2_with fail
 refine(C2 w9 ((g7.tr fh).tr fu)).out.mono ?_;rintro e x1 ⟨rfl,nl⟩;go_wp2_with fail
 go_ret;exact⟨rfl,((g7.tr fh).tr fu).tr nl⟩
end
end Go.Proofs.YthgklnohcmaopaaGreatDoor
