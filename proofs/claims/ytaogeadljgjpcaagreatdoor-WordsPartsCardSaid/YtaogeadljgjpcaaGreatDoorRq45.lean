/- The texts PkD LoD DopP Dop1 DicO Dop2 ChapP Wk18P WkH Dop3 W21a W21b W21c, one behind the other. -/
import Derived.Test.YtaogeadljgjpcaaGreatDoorRq39
import Derived.Test.YtaogeadljgjpcaaGreatDoorRq44
import Derived.Test.YtaogeadljgjpcaaGreatDoorRq42
import Derived.Test.YtaogeadljgjpcaaGreatDoorRq40
import Derived.Test.YtaogeadljgjpcaaGreatDoorRq43
import Derived.Test.YtaogeadljgjpcaaGreatDoorRq24
import Derived.Test.YtaogeadljgjpcaaGreatDoorRq21
import Derived.Test.YtaogeadljgjpcaaGreatDoorRq28
open Go.Lib renaming hid → Aa,decodeL → Ay,validD → Bc,size_eq → Bf
open List renaming length_map → Ab,getElem?_eq_getElem → Ad,mem_of_getElem? → Af,getElem?_map → Ah,take_length → Ao,drop_zero → Aq,any_eq_false → Av,replicate → Bb,length → Bg
open Go.World renaming cell?_setCell_other → Ac,size_alloc → Aw
open Array renaming getElem?_setIfInBounds_self → Ae,getElem?_setIfInBounds_ne → Ak
open Nat renaming zero_le → Ag,le_refl → Ar,add_le_add_right → As,mul_le_mul → Ba,le_trans → Bd,mul_one → Be
open Int renaming tdiv_eq_ediv_of_nonneg → Ai,natCast_add → Ap,natCast_mul → Az
open Go.IntKind renaming signed → Aj,wrap → Am,bits → An
open UInt8 renaming ofNat → Al
open Go.Addr renaming block → At
open Bool renaming not_eq_true' → Au,and_eq_true → Ax
set_option maxHeartbeats 16000000
namespace Go.Proofs.YtaogeadljgjpcaaGreatDoor
set_option maxRecDepth 100000
section
open Go Go.RowKit
attribute [local go_sem] aQ aM
theorem qV0 (l:List Nat) (ba:Option Addr) (bc:Nat) (w:World) (hl:l.length<=1048576) (hn:∀n∈l,n<18446744073709551616) (ff:(packE l).length<=bc) (jk:ba=none->bc=0) (ac:aG w ba 1 ((packE l).map aZ)) :
  Calls Tryz.prog 134 #[.slice ba (packE l).length bc] w λe w'=>∃pb,e=.returned (.tuple #[.pointer (some ⟨pb,0,none⟩),.int .i64 0])/\nD w' pb l/\aB w w':=by
 have fj:oM l<=64:=nS.2 hn;have ah:=aH0 l;obtain⟨b0,b1,b2,b3,fc,h0,h1,h2,h3,fe⟩:=sX0 l;replace fe:=fe (by omega);obtain⟨W,hW⟩:=exq (oM l);obtain⟨n,qj⟩:=exq l.length;obtain⟨b,hb⟩:=exq (packE l);rw[<-hb]at fc ah ff ac ⊢;rw[<-hW]at fc ah fj;rw[<-qj]at ah hl fe;obtain⟨M,hM⟩:=exq ((n*W+7)/8);rw[<-hM]at ah;have HAT:=Aa ac;have HNC:=Aa jk;have HB:=Aa hb;have HN:=Aa hn;have HW:=Aa hW;have HNL:=Aa qj;have HHEAD:=Aa fc;have HM:=Aa hM;obtain⟨bb,bo,rfl,hc⟩:=at1 (f:=λx:UInt8=>Value.int .u8 x.toNat) ac (by rw[fc];simp);have tN:∀x:Nat,x<256->((Al x).toNat:Int)=x:=λx hx=>by simp;omega
 have q0:w.cell? ⟨bb,bo,none⟩=some (.int .u8 b0):=by have:=hc 0 (Al b0) (by rw[fc];rfl);rw[tN _ h0]at this;exact this
 have q1:w.cell? ⟨bb,bo+1,none⟩=some (.int .u8 b1):=by have:=hc 1 (Al b1) (by rw[fc];rfl);rw[tN _ h1]at this;exact this
 have q2:w.cell? ⟨bb,bo+2,none⟩=some (.int .u8 b2):=by have:=hc 2 (Al b2) (by rw[fc];rfl);rw[tN _ h2]at this;exact this
 have q3:w.cell? ⟨bb,bo+3,none⟩=some (.int .u8 b3):=by have:=hc 3 (Al b3) (by rw[fc];rfl);rw[tN _ h3]at this;exact this
 have q4:w.cell? ⟨bb,bo+4,none⟩=some (.int .u8 W):=by have:=hc 4 (Al W) (by rw[fc];rfl);rw[tN _ (by omega)]at this;exact this
 have z0:∀x:Ext aB w.drew,x.u.cell? ⟨bb,bo,none⟩=some (.int .u8 b0):=aF ((aB.drew w).cell q0);have z1:∀x:Ext aB w.drew,x.u.cell? ⟨bb,bo+1,none⟩=some (.int .u8 b1):=aF ((aB.drew w).cell q1);have z2:∀x:Ext aB w.drew,x.u.cell? ⟨bb,bo+2,none⟩=some (.int .u8 b2):=aF ((aB.drew w).cell q2);have z3:∀x:Ext aB w.drew,x.u.cell? ⟨bb,bo+3,none⟩=some (.int .u8 b3):=aF ((aB.drew w).cell q3);have z4:∀x:Ext aB w.drew,x.u.cell? ⟨bb,bo+4,none⟩=some (.int .u8 W):=aF ((aB.drew w).cell q4);obtain⟨N,hN⟩:=exq b.length;rw[<-hN]at ah ff ⊢;have HN2:=Aa hN;have HLEN:=Aa ah;have hl5:¬(N:Int)<5:=by omega
 have i0:0<N:=by omega
 have i1:(1:Int)<N:=by omega
 have i2:(2:Int)<N:=by omega
 have i3:(3:Int)<N:=by omega
 have i4:(4:Int)<N:=by omega
 have wi:∀x:Nat,x<256->IntKind.i64.wrap (x:Int)=x:=λx hx=>by simp[Am,An,Aj];omega
 have w0:=wi b0 h0;have w1:=wi b1 h1;have w2:=wi b2 h2;have w3:=wi b3 h3;have wW:=wi W (by omega);obtain⟨c1,c2,c3,s1,s2,m1,m2,m3,o1,o2,o3⟩:=yX0 h0 h1 h2 h3 fe;clear wi fe hN ah ac jk hb hn hW qj fc hM hc tN q0 q1 q2 q3 q4;go_enter Tryz.func134,Tryz.ntmps134
 go_wp2_with fail
 refine bK (bB 29 [27]) (by kernel_rfl) (λd _ _ _ _ h=>by cases d<;>exact h) ?_
 iterate 27 (refine aH rfl (λK hK=>?_);go_simp;refine hK _ ?_;clear hK K)
 refine bJ rfl rfl (λK hK=>?_);go_simp;refine⟨aB.alloc _ _,hK _ _ ?_⟩;clear hK K z0 z1 z2 z3 z4;iterate 1 (refine aH rfl (λK hK=>?_);go_simp;refine hK _ ?_;clear hK K)
 refine bQ ?_;obtain⟨pb,eo⟩:=exq w.heap.size;obtain⟨WB,mr⟩:=exq ((w.alloc (.cells #[.int .i64 n,.int .i64 W,.slice none 0 0] 276)).drew);have jm:aB w WB:=by rw[mr];exact(aB.alloc w _).dr
 obtain⟨bxc,bxf⟩:=cF (w:=w) (cs:=#[.int .i64 n,.int .i64 W,.slice none 0 0]) (t:=276) (w':=WB) (by rw[mr];exact aB.drew _);rw[<-eo]at bxc bxf;have g0:=bxc 0 _ rfl;have g1:=bxc 1 _ rfl;have g2:=bxc 2 _ rfl;have gf:=bxf 2;have du:WB.heap.size=pb+1:=by rw[mr,eo];show (w.heap.push _).size=_;simp
 rw[<-mr];rw[<-eo];have HPB:=Aa eo;have HGB:=Aa jm;have HSZ:=Aa du;clear bxc bxf mr w0 w1 w2 w3 wW o1 o2 o3 m1 m2 m3 h0 h1 h2 h3 hl5 i0 i1 i2 i3 i4 eo jm du;have hLW:n*W<=1048576*64:=Ba hl fj;obtain⟨MM,hMM⟩:=exq (n*W);have HMM:=Aa hMM;have vn:MM<=1048576*64:=by rw[hMM];exact hLW
 have wM:IntKind.i64.wrap ((n:Int)*W)=MM:=by
  have h1:(n:Int)*W=MM:=by rw[hMM];push_cast;rfl
  rw[h1];exact iA (by omega)
 have hM8:M=(MM+7)/8:=by rw[HM.out,hMM]
 have wM7:IntKind.i64.wrap ((MM:Int)+7)=(MM:Int)+7:=by have:=iA (x:=MM+7) (by omega);rw[Ap]at this;exact this
 have e7:((MM:Int)+7)/8=M:=by omega
 have e7t:((MM:Int)+7).tdiv 8=M:=by rw[Ai (by omega)];exact e7
 have wM8:IntKind.i64.wrap (M:Int)=M:=iA (by omega);have wM5:IntKind.i64.wrap (5+(M:Int))=5+(M:Int):=by have:=iA (x:=5+M) (by omega);rw[Ap]at this;exact this
 have hNe:((N:Int) != 5+(M:Int))=false:=by have:=HLEN.out;simp;omega
 have io:¬(1048576:Int)<n:=by omega
 have ua:¬(64:Int)<W:=by omega
 have z0:∀y:Ext aB WB.drew,y.u.cell? ⟨pb,0,none⟩=some (.int .i64 n):=aF ((aB.drew WB).cell g0);have z1:∀y:Ext aB WB.drew,y.u.cell? ⟨pb,1,none⟩=some (.int .i64 W):=aF ((aB.drew WB).cell g1);have HM8:=Aa hM8;clear hMM hLW hM8;go_wp2_with fail
 refine bK (bB 29 []) (by kernel_rfl) (λd _ _ _ _ h=>by cases d<;>exact h) ?_
 iterate 29 (refine aH rfl (λK hK=>?_);go_simp;refine hK _ ?_;clear hK K)
 refine bQ ?_;clear z0 z1;go_wp2_with fail
 obtain⟨WC,hWC⟩:=exq WB.drew;have hgC:aB WB WC:=by rw[hWC];exact aB.drew WB
 have ado:WC.heap.size=pb+1:=by rw[hWC];exact HSZ.out
 have k0:=hgC.cell g0;have k1:=hgC.cell g1;have k2:=hgC.cell g2;have kf:WC.frozen? ⟨pb,2,none⟩=false:=by rw[hgC.froz (by show pb<WB.heap.size;rw[HSZ.out];omega)];exact gf
 have HGC:=Aa (aB.trans _ _ _ HGB.out hgC);rw[<-hWC];clear hWC hgC g0 g1 g2 gf wM7 e7 e7t wM8 wM5 hNe io ua;obtain⟨q,hq⟩:=exq ((MM+63)/64);have vj:q<=1048576:=by omega
 have wM2:IntKind.i64.wrap ((MM:Int)+63)=(MM:Int)+63:=by have:=iA (x:=MM+63) (by omega);rw[Ap]at this;exact this
 have ri:((MM:Int)+63)/64=q:=by omega
 have zf:((MM:Int)+63).tdiv 64=q:=by rw[Ai (by omega)];exact ri
 have z0:∀y:Ext aB WC.drew,y.u.cell? ⟨pb,0,none⟩=some (.int .i64 n):=aF ((aB.drew WC).cell k0);have z1:∀y:Ext aB WC.drew,y.u.cell? ⟨pb,1,none⟩=some (.int .i64 W):=aF ((aB.drew WC).cell k1);have wq:IntKind.i64.wrap (q:Int)=q:=iA (by omega);have lk:=λ(Y:World)=>nZ1 q Y vj;have HQ:=Aa hq;clear hq;refine jV 13 (bB 13 [12]) (by kernel_rfl) (λd _ _ _ _ h=>by cases d<;>exact h) ?_
 iterate 12 (refine aH rfl (λK hK=>?_);go_simp;refine hK _ ?_;clear hK K)
 refine bJ rfl rfl (λK hK=>?_);go_simp;refine⟨aB.alloc _ _,hK _ _ ?_⟩;clear hK K z0 z1 lk ri zf wM2 wq;refine bQ ?_;simp only[List.drop_succ_cons,Aq];have bg:=kK0 (w:=WC) vj;rw[Be,ado]at bg;obtain⟨W3,gp⟩:=exq ((WC.alloc (.cells (madeCells #[.int .u64 0] q) 192)).drew);have ay:aB WC W3:=by rw[gp];exact(aB.alloc WC _).dr
 have oh:aV W3 (pb+1) 192 1 kG (.slice (some ⟨pb+1,0,none⟩) q q) (Bb q 0):=by rw[gp];exact bg.grows (aB.drew _)
 rw[<-gp];try rw[ado]
 have mm:pb+1<W3.heap.size:=by rw[gp];show pb+1<(WC.heap.push _).size;rw[Array.size_push,ado];omega
 have b32:=ay.cell k2;have b3f:W3.frozen? ⟨pb,2,none⟩=false:=by rw[ay.froz (by show pb<WC.heap.size;omega)];exact kf
 have j0:=ay.cell k0;have j1:=ay.cell k1;have j6:=aB.trans _ _ _ HGC.out ay;clear bg gp k0 k1 k2 kf ay
 -- the bytes behind the head
 obtain⟨a5,ta,ha5⟩:∃a5,(if bc=5 then (some ⟨bb,bo,none⟩:Option Addr) else some ⟨bb,bo+5,none⟩)=a5/\aG w a5 1 ((bP0 l).map aZ):=by
  obtain⟨a',hv',jw,_⟩:=aB0 (l:=5) (h:=N) HAT.out HNC.out (by have:=HLEN.out;omega) (by rw[HN2.out];exact Ar _) (by rw[<-HN2.out];exact ff);refine⟨a',?_,?_⟩
  ·rw[<-hv',Option.map_some,iH]
  ·have e:(b.take N).drop 5=bP0 l:=by rw[HN2.out,Ao,HHEAD.out];rfl
   rw[e]at jw;exact jw
 have hN5:5<=N:=by have:=HLEN.out;omega
 have hNM:N-5=M:=by have:=HLEN.out;omega
 have akj:5<=bc:=by omega
 have h5i:(5:Int)<=N:=by omega
 have h5n:(N:Int)<=bc:=by omega
 have f5:(5:Int)<=bc:=by omega
 have HA5:=Aa ha5;clear ha5;go_wp2_with fail
 have e0:(W3.setCell ⟨pb,2,none⟩ (.slice (some ⟨pb+1,0,none⟩) q q)).cell? ⟨pb,0,none⟩=some (.int .i64 n):=(Ac _ _ _ _ (λh=>by cases h)).trans j0;have e1:(W3.setCell ⟨pb,2,none⟩ (.slice (some ⟨pb+1,0,none⟩) q q)).cell? ⟨pb,1,none⟩=some (.int .i64 W):=(Ac _ _ _ _ (λh=>by cases h)).trans j1;have e2:(W3.setCell ⟨pb,2,none⟩ (.slice (some ⟨pb+1,0,none⟩) q q)).cell? ⟨pb,2,none⟩=some (.slice (some ⟨pb+1,0,none⟩) q q):=World.cell?_setCell_same _ _ _ b32;have ix:aB w (W3.setCell ⟨pb,2,none⟩ (.slice (some ⟨pb+1,0,none⟩) q q)):=j6.set (by rw[HPB.out];exact Ar _) _;have m8:=nC oh (p:=⟨pb,2,none⟩) (Nat.lt_succ_self _) (.slice (some ⟨pb+1,0,none⟩) q q);rw[<-mC0 l W q]at m8;have agk:pb+1<(W3.setCell ⟨pb,2,none⟩ (.slice (some ⟨pb+1,0,none⟩) q q)).heap.size:=by simp;exact mm
 obtain⟨W4,ox⟩:=exq (W3.setCell ⟨pb,2,none⟩ (.slice (some ⟨pb+1,0,none⟩) q q));rw[<-ox]at e0 e1 e2 ix m8 agk ⊢;clear ox oh j6 j0 j1 b32 b3f mm;go_loopw [89] (λi wr=>∃k:Nat,k<=M/\i=.int .i64 k/\aV wr (pb+1) 192 1 kG (.slice (some ⟨pb+1,0,none⟩) q q) (pA l W k q)/\wr.cell? ⟨pb,0,none⟩=some (.int .i64 n)/\wr.cell? ⟨pb,1,none⟩=some (.int .i64 W)/\wr.cell? ⟨pb,2,none⟩=some (.slice (some ⟨pb+1,0,none⟩) q q)/\aB w wr) (λi _=>M-(intOf i).toNat)
 case atStart=>exact⟨0,Ag _,rfl,m8,e0,e1,e2,ix⟩
 case round =>
  clear m8 e0 e1 e2 ix agk;obtain⟨k,hk,rfl,aa,e0,e1,e2,hg⟩:=hrel;by_cases ae:k<M
  ·have gn:(bP0 l).length=M:=by unfold bP0;rw[Ab,List.length_range,HM.out,HNL.out,HW.out]
   obtain⟨x,hx⟩:∃x,(bP0 l)[k]?=some x:=⟨_,Ad (by rw[gn];exact ae)⟩;obtain⟨ab,ao,ha5,hc5⟩:=at1 (f:=λx:UInt8=>Value.int .u8 x.toNat) (HA5.out.grows hg) (aK (by rw[gn];exact ae));have cx:=hc5 k x hx;subst ha5
   have hxv:x.toNat=fK (bitAt l W) (8*k) 8:=by
    unfold bP0 at hx;rw[Ah,List.getElem?_range (by rw[<-HW.out,<-HNL.out,<-HM.out];exact ae)]at hx;rw[<-Option.some.inj hx,HW.out]
    have:=kC (bitAt l (oM l)) (8*k) 8
    simp;omega
   obtain⟨c,gq⟩:=exq x.toNat;rw[<-gq]at cx hxv;have aag:c<256:=by rw[hxv];exact kC _ _ 8
   have hk8:8*k+8<=MM+7:=by have:=HM8.out;omega
   obtain⟨Q8,hQ8⟩:=exq (k/8);obtain⟨R8,hR8⟩:=exq (k%8);obtain⟨S8,zq⟩:=exq (R8*8);have s6:Q8<q:=by have:=HQ.out;omega
   have hQi:(Q8:Int)<q:=by omega
   have mq:S8<64:=by omega
   have d1:=cU (f:=λn:Nat=>Value.int .u64 n) aa (qL (by rw[<-hQ8];exact s6):(pA l W k q)[k/8]?=_);have HST:=Aa (oP0 (l:=l) (W:=W) (k:=k) (q:=q) (by rw[<-hQ8];exact s6));rw[<-hQ8]at d1 HST;obtain⟨y,hy⟩:=exq (fK (λp=>decide (p<8*k)&&bitAt l W p) (64*Q8) 64);have jy:y<18446744073709551616:=by rw[hy];exact kC _ _ 64
   rw[<-hy,<-hxv,<-hR8,<-zq]at HST;rw[<-hy]at d1;have hor:=kD0 (x:=y) (v:=c) (S:=S8) jy;obtain⟨y1,kt⟩:=exq (y|||(c<<<S8)%18446744073709551616)
   rw[<-kt]at hor HST;obtain⟨fr,_,ai⟩:=eP (f:=λn:Nat=>Value.int .u64 n) aa (k:=Q8) (by rw[mM];exact s6) y1;have eq8:(k:Int)/8=Q8:=by omega
   have akk:(k:Int).tdiv 8=Q8:=by rw[Ai (by omega)];exact eq8
   have er8:(k:Int)%8=R8:=by omega
   have akl:(k:Int).tmod 8=R8:=by rw[Int.tmod_eq_emod_of_nonneg (by omega)];exact er8
   have wQ8:IntKind.i64.wrap (Q8:Int)=Q8:=iA (by omega);have wR8:IntKind.i64.wrap (R8:Int)=R8:=iA (by omega);have wS8:IntKind.i64.wrap ((R8:Int)*8)=S8:=by have:=iA (x:=R8*8) (by omega);rw[Az,<-Az,<-zq]at this;rw[<-this,zq];push_cast;rfl
   have uS8:IntKind.u64.wrap (S8:Int)=S8:=by simp[Am,An,Aj];omega
   have uc:IntKind.u64.wrap (c:Int)=c:=by simp[Am,An,Aj];omega
   have cn:(k:Int)<M:=by omega
   have f0:(wr.setCell ⟨pb+1,Q8,none⟩ (.int .u64 y1)).cell? ⟨pb,0,none⟩=some (.int .i64 n):=(Ac _ _ _ _ (λh=>by have:=congrArg At h;simp at this)).trans e0;have f1:(wr.setCell ⟨pb+1,Q8,none⟩ (.int .u64 y1)).cell? ⟨pb,1,none⟩=some (.int .i64 W):=(Ac _ _ _ _ (λh=>by have:=congrArg At h;simp at this)).trans e1;have f2:(wr.setCell ⟨pb+1,Q8,none⟩ (.int .u64 y1)).cell? ⟨pb,2,none⟩=some (.slice (some ⟨pb+1,0,none⟩) q q):=(Ac _ _ _ _ (λh=>by have:=congrArg At h;simp at this)).trans e2;have HF:=Aa (And.intro f0 (And.intro f1 f2));have af:aB w (wr.setCell ⟨pb+1,Q8,none⟩ (.int .u64 y1)):=hg.set (by rw[HPB.out];simp) _;have HO:=Aa ai;clear hx hc5 hxv gq hQ8 hR8 zq hy kt ai aa f0 f1 f2 ta;go_wp2_with fail
   go_roundw
   case rel=>exact⟨k+1,ae,by go_num,by rw[HST.out];exact HO.out,HF.out.1,HF.out.2.1,HF.out.2.2,af⟩
   case measure=>simp[intOf];omega
  ·obtain rfl:M=k:=by omega
   rw[rZ0 (by rw[HW.out];exact λx hx=>qM hx) (by rw[<-HNL.out,<-HMM.out];have:=HM8.out;omega)]at aa;have aiq:=λ(Y:World)=>nZ1 n Y hl;have ke:=kK0 (w:=wr) (n:=n) hl;rw[Be]at ke;obtain⟨W5,pq⟩:=exq (wr.alloc (.cells (madeCells #[.int .u64 0] n) 192));have bk:aB wr W5:=by rw[pq];exact aB.alloc _ _
   obtain⟨lb,nh⟩:=exq wr.heap.size;rw[<-pq,<-nh]at ke;have akm:pb+1<lb:=by rw[nh];exact gM aa _ rfl
   rw[show Bb n 0=lZ l 0 0 by rw[qG,HNL.out]]at ke
   have e05:=bk.cell e0;have e15:=bk.cell e1;have e25:=bk.cell e2;have an:=aa.grows bk;have dh:=aB.trans _ _ _ hg bk;have air:w.heap.size<=lb:=by have:=HPB.out;omega
   clear aa;go_wp2_with fail
   try rw[<-pq]
   try rw[<-nh]
   clear pq nh bk e0 e1 e2 hg ta aiq;go_loopw [119] (λi wx=>∃k:Nat,k<=n/\i=.int .i64 k/\aV wx lb 192 1 kG (.slice (some ⟨lb,0,none⟩) n n) (lZ l 0 k)/\wx.cell? ⟨pb,0,none⟩=some (.int .i64 n)/\wx.cell? ⟨pb,1,none⟩=some (.int .i64 W)/\wx.cell? ⟨pb,2,none⟩=some (.slice (some ⟨pb+1,0,none⟩) q q)/\aV wx (pb+1) 192 1 kG (.slice (some ⟨pb+1,0,none⟩) q q) (eD l W q)/\aB w wx) (λi _=>n-(intOf i).toNat)
   case atStart=>exact⟨0,Ag _,rfl,ke,e05,e15,e25,an,dh⟩
   case round =>
    clear ke e05 e15 e25 an dh;obtain⟨k,jq,rfl,ch,e0,e1,e2,aa,hg⟩:=hrel;by_cases az:k<n
    ·obtain⟨x,hx⟩:∃x,l[k]?=some x:=⟨_,Ad (by rw[<-HNL.out];exact az)⟩
     have cn:(k:Int)<n:=by omega
     have CG:=Aa (pZ0 pb (pb+1) q W k x (pb+1) l wr fj (by rw[<-HNL.out];exact hl) hx (by rw[HW.out];exact qM (Af hx)) (by rw[<-HNL.out,<-HMM.out];have:=HQ.out;omega) e1 e2 aa);have HFS:=Aa (sR (z:=0) hx);clear hx;go_wp2_with fail
     refine CG.out.mono ?_;rintro e w6 ⟨rfl,dn⟩;have yo:=ch.grows dn;obtain⟨u0,hu0⟩:∃u,(lZ l 0 k)[k]?=some u:=⟨_,Ad (by rw[mG _ _ (by rw[<-HNL.out];omega),<-HNL.out];exact az)⟩;have cl:=cU (f:=λn:Nat=>Value.int .u64 n) yo hu0;obtain⟨fr,_,aa8⟩:=eP (f:=λn:Nat=>Value.int .u64 n) yo (k:=k) (by rw[mG _ _ (by rw[<-HNL.out];omega),<-HNL.out];exact az) x;rw[HFS.out]at aa8;have aj:∀j j',(⟨pb,j,none⟩:Addr)≠⟨lb,j',none⟩:=λj j' h=>by have:=congrArg At h;simp only at this;omega
     have f0:(w6.setCell ⟨lb,k,none⟩ (.int .u64 x)).cell? ⟨pb,0,none⟩=some (.int .i64 n):=(Ac _ _ _ _ (λh=>aj _ _ (by first|exact h|exact h.symm))).trans (dn.cell e0)
     have f1:(w6.setCell ⟨lb,k,none⟩ (.int .u64 x)).cell? ⟨pb,1,none⟩=some (.int .i64 W):=(Ac _ _ _ _ (λh=>aj _ _ (by first|exact h|exact h.symm))).trans (dn.cell e1)
     have f2:(w6.setCell ⟨lb,k,none⟩ (.int .u64 x)).cell? ⟨pb,2,none⟩=some (.slice (some ⟨pb+1,0,none⟩) q q):=(Ac _ _ _ _ (λh=>aj _ _ (by first|exact h|exact h.symm))).trans (dn.cell e2)
     have fk:=gS (v:=.slice (some ⟨lb,0,none⟩) n n) (aa.grows dn) ((aB.refl w6).grownBy_set lb k (.int .u64 x)) (λr h1 h2=>by
      have a1:lb=r:=Option.some.inj h1;have a2:pb+1=r:=Option.some.inj h2;omega)
     have dd:aB w (w6.setCell ⟨lb,k,none⟩ (.int .u64 x)):=(aB.trans _ _ _ hg dn).set air _;have HF:=Aa (And.intro f0 (And.intro f1 f2));clear ch yo e0 e1 e2 aa hg dn hu0 f0 f1 f2 CG;go_wp2_with fail
     go_roundw
     case rel=>exact⟨k+1,az,by go_num,aa8,HF.out.1,HF.out.2.1,HF.out.2.2,fk,dd⟩
     case measure=>simp[intOf];omega
    ·obtain rfl:n=k:=by omega
     have hrw:lZ l 0 n=l:=by rw[HNL.out];exact tI l 0
     rw[hrw]at ch;obtain⟨ra,rc,hre,_,_,adp⟩:=ch.at_ (k:=1) (λx=>(rfl:(kG x).length=1));have e1':=(Value.slice.inj hre).1;rw[<-e1']at adp;have CNW:=Aa (eQ0 l (some ⟨lb,0,none⟩) n wr (by rw[<-HNL.out];exact hl) HN.out adp);rw[<-HNL.out]at CNW;clear ch hre e1' adp hrw e0 e1 e2 aa;go_wp2_with fail
     refine CNW.out.mono ?_;rintro e w7 ⟨rfl,hpk,dd⟩;obtain⟨nb,jc⟩:=exq wr.heap.size;rw[<-jc]at hpk ⊢;clear jc;go_wp2_with fail
     refine(eZ0 l nb w7 (by rw[<-HNL.out];exact hl) HN.out hpk).mono ?_;rintro e w8 ⟨v8,rfl,ug,fg⟩;rw[<-HB.out]at ug;obtain⟨a8,c8,rfl,lm,_⟩:=fD ug;rw[<-HN2.out];have lw:=aB.trans _ _ _ hg (aB.trans _ _ _ dd fg);have CE:=Aa (mX b b a8 (some ⟨bb,bo,none⟩) c8 bc w8 lm (HAT.out.grows lw));rw[<-HN2.out]at CE;simp only[decide_true]at CE;clear ug lm;go_wp2_with fail
     refine CE.out.mono ?_;rintro e w9 ⟨rfl,rfl⟩;go_wp2
     go_ret2;exact⟨nb,rfl,hpk.grows fg,lw⟩
end
section
open Go Go.RowKit Go.Shelf
attribute [local go_sem] aQ aM
theorem wN0 {w:World} {a:Option Addr} {c:Nat} {l:List UInt8} (hn:l≠[]) (ac:aG w a 1 (l.map aZ)):(convert 60 9 (.slice a l.length c)).run Tryz.prog w=.ok (.string (mkB l)) w:=by
 obtain⟨b,o,rfl,hc⟩:=at1 (f:=λx:UInt8=>Value.int .u8 x.toNat) ac hn;have hz:(mkB l).size=l.length:=by rw[Bf,jK]
 have hBy:Lib.Bytes w b o (mkB l):=λj hj=>by
  rw[hz]at hj;have h:=hc j _ (Ad hj);rw[h];rfl
 have:=Lib.run_convert_whole (P:=Tryz.prog) w 60 5 9 Tryz.underlying60 Tryz.underlying5 Tryz.underlying9 b o (mkB l) hBy c
 rw[hz]at this;exact this
theorem oR0 (L:List (List UInt8)):loudE L=rP [oP (shapeL L (nodesA L)),labelsL L (nodesA L),oP (isL L (nodesA L)),packE (idsL L (nodesA L))] 0:=by
 unfold loudE rP;simp only[Aq,List.flatMap_cons,List.flatMap_nil,List.append_nil,List.append_assoc]
theorem fX1 (L:List (List UInt8)) (ba:Option Addr) (bc:Nat) (w:World) (ku:gU L=0) (ff:(loudE L).length<=bc) (ac:aG w ba 1 ((loudE L).map aZ)) :
  Calls Tryz.prog 133 #[.slice ba (loudE L).length bc] w λe w'=>∃tb,e=.returned (.tuple #[.pointer (some ⟨tb,0,none⟩),.int .i64 0])/\eZ w' tb L/\w.heap.size+2<=tb/\aB w w':=by
 obtain⟨ag,hl,hc⟩:=eH ku;obtain⟨z1,z2,z3,z4,z5⟩:=ag.sizes hl hc;have lu:∀n∈idsL L (nodesA L),n<18446744073709551616:=λn hn=>by have:=z5 n hn;omega
 have e1:=oB (shapeL L (nodesA L));have e2:=oB (isL L (nodesA L));have e3:=aH0 (idsL L (nodesA L));have hwd:oM (idsL L (nodesA L))<=64:=nS.2 lu;have eo:(idsL L (nodesA L)).length*oM (idsL L (nodesA L))<=524287*64:=Ba z4 hwd;have hp:=oR0 L
 have aj:loudE L≠[]:=by
  rw[hp,fY0 (k:=0) rfl];intro e
  have:=congrArg Bg e
  rw[List.length_append,bP]at this;simp at this
 have HAT:=Aa ac;have HNE:=Aa aj;have CPA:=rV0 (oP (shapeL L (nodesA L))) (labelsL L (nodesA L)) (oP (isL L (nodesA L))) (packE (idsL L (nodesA L))) ba bc w (by omega) (by omega) (by omega) (by omega) (by rw[<-hp];exact ff) (by rw[<-hp];exact ac);rw[<-hp]at CPA;have HCPA:=Aa CPA;have CS:=λ(a:Option Addr) (c:Nat) (u:World) h1 h2=>Aa (qD0 (shapeL L (nodesA L)) a c u z1 h1 h2);have CI:=λ(a:Option Addr) (c:Nat) (u:World) h1 h2=>Aa (qD0 (isL L (nodesA L)) a c u (by omega) h1 h2);have CD:=λ(a:Option Addr) (c:Nat) (u:World) h1 h2 h3=>Aa (qV0 (idsL L (nodesA L)) a c u (by omega) lu h1 h2 h3);have CG:=λ(sb ib pb:Nat) (la:Option Addr) (lc:Nat) (u:World) h1 h2 h3 h4=>Aa (hG1 L sb ib pb la lc u ag hl hc h1 h2 h3 h4)
 have CB:∀(a:Option Addr) (c:Nat) (u:World),(∀q,a=some q->q.block<u.heap.size)->aG u a 1 ((L.map mkB).map stC)->Hid (Calls Tryz.prog 102 #[.slice a L.length c] u λe w'=>∃tb,e=.returned (.tuple #[.pointer (some ⟨tb,0,none⟩),.int .i64 0])/\eZ w' tb L/\u.heap.size+2<=tb/\aB u w'):=λa c u h1 h2=>by
  have h:=uX (L.map mkB) a c u (by rw[Ab];omega) (λs hs=>by
   obtain⟨x,hx,rfl⟩:=List.mem_map.1 hs
   have:=ag.len x hx
   rw[Bf,jK];omega) h1 h2
  rw[mU1,Ab]at h;refine h.mono ?_;rintro e w' ⟨hg,h3|h3⟩
  ·obtain⟨_,tb,h4,h5,h6⟩:=h3
   exact⟨tb,h4,h5,h6,hg⟩
  ·exact absurd ku h3.1
 have CE:=λ(tb:Nat) (u:World) h=>Aa (eX0 L tb u ag hl hc h);obtain⟨b,hb⟩:=exq (loudE L);rw[<-hb]at HAT HNE HCPA CE ⊢;clear ku ff ac ag hl hc z1 z2 z3 z4 z5 lu e1 e2 e3 hwd eo hp aj CPA hb;go_enter Tryz.func133,Tryz.ntmps133
 go_wp2_with fail
 refine HCPA.out.mono ?_;rintro e w1 ⟨v0,v1,v2,v3,rfl,h0,h1,h2,h3,aq⟩;obtain⟨a0,c0,rfl,x0,y0,t0⟩:=h0.out;obtain⟨a1,c1,rfl,x1,y1,t1⟩:=h1.out;obtain⟨a2,c2,rfl,x2,y2,t2⟩:=h2.out;obtain⟨a3,c3,rfl,x3,y3,t3⟩:=h3.out;clear HCPA h0 h1 h2 h3;obtain⟨W2,ei⟩:=exq (w1.alloc (.cells #[.slice a0 (oP (shapeL L (nodesA L))).length c0,.slice a1 (labelsL L (nodesA L)).length c1,.slice a2 (oP (isL L (nodesA L))).length c2,.slice a3 (packE (idsL L (nodesA L))).length c3] 269));obtain⟨xb,ng⟩:=exq w1.heap.size;have da:=λj u h=>aT w1 #[.slice a0 (oP (shapeL L (nodesA L))).length c0,.slice a1 (labelsL L (nodesA L)).length c1,.slice a2 (oP (isL L (nodesA L))).length c2,.slice a3 (packE (idsL L (nodesA L))).length c3] 269 (0,0) j u h;rw[<-ei,<-ng]at da;have b0:=da 0 _ rfl;have b1:=da 1 _ rfl;have b2:=da 2 _ rfl;have b3:=da 3 _ rfl;have af:aB w1 W2:=by rw[ei];exact aB.alloc _ _
 have HT1:=Aa (t1.grows af);have CS1:=CS a0 c0 W2 x0 (t0.grows af);have CI1:=λu (hu:aB W2 u)=>CI a2 c2 u x2 ((t2.grows af).grows hu);have CD1:=λu (hu:aB W2 u)=>CD a3 c3 u x3 y3 ((t3.grows af).grows hu);have ew:=aq.tr af;clear da CS CI CD t0 t1 t2 t3 x0 x1 x2 x3 y0 y1 y2 y3;go_wp2_with fail
 rw[<-ei,<-ng];clear ei ng aq af;refine CS1.out.mono ?_;rintro e w3 ⟨sb,rfl,l7,ay⟩;replace b1:=ay.cell b1;replace b2:=ay.cell b2;replace b3:=ay.cell b3;clear CS1 b0;go_wp2_with fail
 refine(CI1 w3 ay).out.mono ?_;rintro e w4 ⟨ib,rfl,qk,cp⟩;replace b1:=cp.cell b1;replace b3:=cp.cell b3;have agl:=l7.grows cp;have adq:=ay.tr cp;clear CI1 b2 l7;go_wp2_with fail
 refine(CD1 w4 adq).out.mono ?_;rintro e w5 ⟨pb,rfl,eo,bk⟩;replace b1:=bk.cell b1;have agm:=adq.tr bk;have dh:=ew.tr agm;have CG1:=CG sb ib pb a1 c1 w5 (agl.grows bk) (qk.grows bk) eo (HT1.out.grows agm);clear CD1 CG b3 agl qk eo ay cp adq;go_wp2_with fail
 refine CG1.out.mono ?_;rintro e w6 ⟨v6,rfl,zp,dn⟩;have adr:=gM zp;obtain⟨a6,c6,rfl,_,_,ye⟩:=zp.at_ (enc:=stC) (λ_=>rfl);rw[Ab]at adr ⊢;have CB1:=CB a6 c6 w6 (λq hq=>adr q.block (by rw[hq];rfl)) ye;have qn:=dh.tr dn;clear CG1 CB zp adr ye dn bk dh;go_wp2_with fail
 refine CB1.out.mono ?_;rintro e w7 ⟨tb,rfl,yq,iq,dd⟩;have HLO:=Aa (Bd (As qn.size 2) iq);clear iq;have HTB:=Aa yq;have CE1:=CE tb w7.drew (yq.grows (aB.drew w7));have qo:=qn.tr dd;have m0:∀x:Ext aB w7.drew,(convert 60 9 (.slice ba b.length bc)).run Tryz.prog x.u=.ok (.string (mkB b)) x.u:=λx=>wN0 (c:=bc) HNE.out (HAT.out.grows (qo.dr.tr x.h));clear CB1 CE yq dd qn;go_wp2_with fail
 refine bK (oK [0,1,2,3,6,7,4,5,8,9] [4]) (by kernel_rfl) (λd _ _ _ _ h=>by cases d<;>exact h) ?_
 iterate 6 (refine aH rfl (λK hK=>?_);go_simp;refine hK _ ?_;clear hK K)
 refine bJ rfl rfl (λK hK=>?_);go_simp;refine(CE1.out).mono ?_;rintro e w8 ⟨v8,rfl,ug,fg⟩;refine⟨fg,hK _ _ ?_⟩;clear hK K;have rh:∀x:Ext aB w8,(convert 60 9 v8).run Tryz.prog x.u=.ok (.string (mkB b)) x.u:=λx=>yY (ug.grows x.h);have lw:=qo.dr.tr fg;have HTB8:=Aa (HTB.out.grows ((aB.drew w7).tr fg));have z9:((mkB b).toList==(mkB b).toList)=true:=by simp
 clear CE1 HTB ug fg qo m0;iterate 3 (refine aH rfl (λK hK=>?_);go_simp;refine hK _ ?_;clear hK K)
 refine bQ ?_;go_wp2
 go_ret2;exact⟨tb,rfl,HTB8.out,HLO.out,lw⟩
end
section
open Go Go.RowKit Go.Shelf
def iW0 (lo:Nat) (p:List cO) (m:Mx) (es:List En) (w:World):Nat->Value->Prop
 | 0,v=>aV w 0 110 2 bN v p
 | 1,v=>∃mb bm,v=.pointer (some ⟨mb,0,none⟩)/\gJ w mb bm m
 | 2,v=>∃tb,v=.pointer (some ⟨tb,0,none⟩)/\eZ w tb (bls (readL es))/\lo+2<=tb
 | 3,v=>∃tb,v=.pointer (some ⟨tb,0,none⟩)/\eZ w tb (bls (dC es))/\lo+2<=tb
 | 4,v=>∃pb,v=.pointer (some ⟨pb,0,none⟩)/\nD w pb (iX tK es es.length)
 | 5,v=>∃pb,v=.pointer (some ⟨pb,0,none⟩)/\nD w pb (es.map (yD (dC es)))
 | 6,v=>∃pb,v=.pointer (some ⟨pb,0,none⟩)/\nD w pb (es.map λx=>x.l.toNat)
 | 7,v=>∃pb,v=.pointer (some ⟨pb,0,none⟩)/\nD w pb (es.map λx=>x.t.toNat)
 | 8,v=>∃pb,v=.pointer (some ⟨pb,0,none⟩)/\nD w pb (es.map λx=>x.c.toNat)
 | 9,v=>∃pb,v=.pointer (some ⟨pb,0,none⟩)/\nD w pb (oE0 es)
 | 10,v=>∃pb,v=.pointer (some ⟨pb,0,none⟩)/\nD w pb (iX lW0 (jF es) es.length)
 | _+11,_=>True
variable {lo db:Nat} {p:List cO} {m:Mx} {es:List En} {w w':World} {i:Nat} {v:Value}
theorem iW0.grows (h:iW0 lo p m es w i v) (hg:aB w w'):iW0 lo p m es w' i v:=by
 match i,h with
 | 0,h=>exact aV.grows h hg
 | 1,⟨mb,bm,e,hm⟩=>exact⟨mb,bm,e,hm.grows hg⟩
 | 2,⟨tb,e,ht,hl⟩=>exact⟨tb,e,ht.grows hg,hl⟩
 | 3,⟨tb,e,ht,hl⟩=>exact⟨tb,e,ht.grows hg,hl⟩
 | 4,⟨pb,e,hp⟩=>exact⟨pb,e,hp.grows hg⟩
 | 5,⟨pb,e,hp⟩=>exact⟨pb,e,hp.grows hg⟩
 | 6,⟨pb,e,hp⟩=>exact⟨pb,e,hp.grows hg⟩
 | 7,⟨pb,e,hp⟩=>exact⟨pb,e,hp.grows hg⟩
 | 8,⟨pb,e,hp⟩=>exact⟨pb,e,hp.grows hg⟩
 | 9,⟨pb,e,hp⟩=>exact⟨pb,e,hp.grows hg⟩
 | 10,⟨pb,e,hp⟩=>exact⟨pb,e,hp.grows hg⟩
 | _+11,_=>trivial
structure vV0 (w:World) (db:Nat) (cs:Array Value):Prop where
 tb:TB w db cs 108
 sz:cs.size=11
 c0:∃a n c,cs[0]?=some (.slice a n c)
theorem vV0.ne {cs:Array Value} (h:vV0 w db cs) {x:Nat} {u:Value} (hc:w.cell? ⟨x,0,none⟩=some u) (hu:∀a n c,u ≠ .slice a n c):¬x=db:=by
 rintro rfl;obtain⟨a,n,c,h0⟩:=h.c0
 have:=h.tb.cell h0
 rw[hc]at this;exact hu a n c (Option.some.inj this)
theorem vV0.out1 {cs:Array Value} (h:vV0 w db cs) {e:TypeId} (aj:108≠e):∀q,(λk=>k=db) q->∃o,w.heap[q]?=some o/\xU o≠some e:=dJ1 h.tb aj
theorem vV0.out2 {cs:Array Value} (h:vV0 w db cs):∀q,(λk=>k=db) q->∃o,w.heap[q]?=some o/\xU o≠some 192/\xU o≠some 3:=λq hq=>by
 have:q=db:=hq
 subst this;exact⟨_,h.tb,by simp[xU],by simp[xU]⟩
theorem lO {cs:Array Value} (h:vV0 w db cs) {pb:Nat} {l:List Nat} (hp:nD w pb l) (o:Nat) (u:Value):nD (w.setCell ⟨db,o,none⟩ u) pb l :=
 fF0 hp (nQ w db o u) (h.ne hp.c0 (λ_ _ _ e=>by cases e)) h.out2
theorem rA0 {cs:Array Value} (h:vV0 w db cs) {tb:Nat} {L:List (List UInt8)} (ht:eZ w tb L) (o:Nat) (u:Value):eZ (w.setCell ⟨db,o,none⟩ u) tb L:=by
 obtain⟨sb,s1,s2⟩:=ht.s;obtain⟨ib,i1,i2⟩:=ht.i;obtain⟨vL,l1,l2⟩:=ht.l;obtain⟨pb,d1,d2⟩:=ht.d;obtain⟨vN,n1,n2⟩:=ht.n;have ho:=nQ w db o u;have hn:=h.ne s1 (λ_ _ _ e=>by cases e)
 exact⟨⟨sb,iB s1 ho hn,iK s2 ho (h.ne s2.c0 (λ_ _ _ e=>by cases e)) h.out2⟩,⟨ib,iB i1 ho hn,iK i2 ho (h.ne i2.c0 (λ_ _ _ e=>by cases e)) h.out2⟩,
  ⟨vL,iB l1 ho hn,pK l2 ho (h.out1 (by decide))⟩,⟨pb,iB d1 ho hn,lO h d2 o u⟩,⟨vN,iB n1 ho hn,pK n2 ho (h.out1 (by decide))⟩⟩
theorem mW1 {cs:Array Value} (h:vV0 w db cs) {mb bm:Nat} {m:Mx} (hm:gJ w mb bm m) (o:Nat) (u:Value):gJ (w.setCell ⟨db,o,none⟩ u) mb bm m:=by
 refine hm.kept (bG w db o u) (λe=>h.ne hm.c0 (λ_ _ _ e=>by cases e) (Option.some.inj e)) (λe=>?_);obtain⟨D,hD,_⟩:=hm.own;have e2:bm=db:=Option.some.inj e;obtain⟨en,clock,hb,_⟩:=hD;rw[e2,show w.heap[db]?=_ from h.tb]at hb
 cases hb
theorem iW0.set {cs:Array Value} (h:iW0 lo p m es w i v) (hd:vV0 w db cs) (o:Nat) (u:Value):iW0 lo p m es (w.setCell ⟨db,o,none⟩ u) i v:=by
 match i,h with
 | 0,h=>exact pK h (nQ w db o u) (hd.out1 (by decide))
 | 1,⟨mb,bm,e,hm⟩=>exact⟨mb,bm,e,mW1 hd hm o u⟩
 | 2,⟨tb,e,ht,hl⟩=>exact⟨tb,e,rA0 hd ht o u,hl⟩
 | 3,⟨tb,e,ht,hl⟩=>exact⟨tb,e,rA0 hd ht o u,hl⟩
 | 4,⟨pb,e,hp⟩=>exact⟨pb,e,lO hd hp o u⟩
 | 5,⟨pb,e,hp⟩=>exact⟨pb,e,lO hd hp o u⟩
 | 6,⟨pb,e,hp⟩=>exact⟨pb,e,lO hd hp o u⟩
 | 7,⟨pb,e,hp⟩=>exact⟨pb,e,lO hd hp o u⟩
 | 8,⟨pb,e,hp⟩=>exact⟨pb,e,lO hd hp o u⟩
 | 9,⟨pb,e,hp⟩=>exact⟨pb,e,lO hd hp o u⟩
 | 10,⟨pb,e,hp⟩=>exact⟨pb,e,lO hd hp o u⟩
 | _+11,_=>trivial
structure DSt (lo:Nat) (p:List cO) (m:Mx) (es:List En) (ps:List Nat) (db fb:Nat) (fv:Value) (w:World):Prop where
 blk:∃cs,vV0 w db cs
 fl:TB w fb #[fv,.bool false] 118
 at_:∀i∈ps,∃v,w.cell? ⟨db,i,none⟩=some v/\iW0 lo p m es w i v
theorem DSt.grows {ps:List Nat} {fb:Nat} {fv:Value} (h:DSt lo p m es ps db fb fv w) (hg:aB w w'):DSt lo p m es ps db fb fv w' :=
 ⟨let ⟨cs,hb⟩:=h.blk;⟨cs,hb.tb.gr hg,hb.sz,hb.c0⟩,h.fl.gr hg,λi hi=>let ⟨v,h1,h2⟩:=h.at_ i hi;⟨v,hg.cell h1,h2.grows hg⟩⟩
theorem DSt.set {ps:List Nat} {fb:Nat} {fv:Value} (h:DSt lo p m es ps db fb fv w) (hi:i<11) (hv:iW0 lo p m es w i v) (h0:i=0->∃a n c,v=.slice a n c):DSt lo p m es (i::ps) db fb fv (w.setCell ⟨db,i,none⟩ v):=by
 obtain⟨cs,hb⟩:=h.blk
 have ct:vV0 (w.setCell ⟨db,i,none⟩ v) db (cs.setIfInBounds i v):=⟨hb.tb.set i v,by rw[Array.size_setIfInBounds];exact hb.sz,by
  by_cases e:i=0
  ·obtain⟨a,n,c,rfl⟩:=h0 e
   subst e;exact⟨a,n,c,by rw[Ae];simp[hb.sz]⟩
  ·obtain⟨a,n,c,hc⟩:=hb.c0
   exact⟨a,n,c,by rw[Ak e];exact hc⟩⟩
 refine⟨⟨_,ct⟩,h.fl.keep (bG w db i v) hb.tb.rt (by decide),λj hj=>?_⟩;by_cases e:j=i
 ·subst e
  exact⟨v,ct.tb.cell (by rw[Ae];simp[hb.sz,hi]),hv.set hb j v⟩
 ·have lf:j∈ps:=by
   rcases List.mem_cons.1 hj with q|q
   ·exact absurd q e
   ·exact q
  obtain⟨u,h1,h2⟩:=h.at_ j lf;exact⟨u,(Ac _ _ _ _ (λe2=>e (by injection e2 with _ e3 _;exact e3.symm))).trans h1,h2.set hb i v⟩
theorem DSt.dict {ps:List Nat} {fb:Nat} {fv:Value} (h:DSt lo p m es ps db fb fv w) (hp:∀i,i<11->i∈ps):gN w db p m es where
 p:=h.at_ 0 (hp 0 (by decide))
 m:=by obtain⟨v,h1,mb,bm,rfl,h2⟩:=h.at_ 1 (hp 1 (by decide));exact⟨mb,bm,h1,h2⟩
 r:=by obtain⟨v,h1,tb,rfl,h2,_⟩:=h.at_ 2 (hp 2 (by decide));exact⟨tb,h1,h2⟩
 s:=by obtain⟨v,h1,tb,rfl,h2,_⟩:=h.at_ 3 (hp 3 (by decide));exact⟨tb,h1,h2⟩
 f:=by obtain⟨v,h1,pb,rfl,h2⟩:=h.at_ 4 (hp 4 (by decide));exact⟨pb,h1,h2⟩
 i:=by obtain⟨v,h1,pb,rfl,h2⟩:=h.at_ 5 (hp 5 (by decide));exact⟨pb,h1,h2⟩
 l:=by obtain⟨v,h1,pb,rfl,h2⟩:=h.at_ 6 (hp 6 (by decide));exact⟨pb,h1,h2⟩
 t:=by obtain⟨v,h1,pb,rfl,h2⟩:=h.at_ 7 (hp 7 (by decide));exact⟨pb,h1,h2⟩
 c:=by obtain⟨v,h1,pb,rfl,h2⟩:=h.at_ 8 (hp 8 (by decide));exact⟨pb,h1,h2⟩
 o:=by obtain⟨v,h1,pb,rfl,h2⟩:=h.at_ 9 (hp 9 (by decide));exact⟨pb,h1,h2⟩
 a:=by obtain⟨v,h1,pb,rfl,h2⟩:=h.at_ 10 (hp 10 (by decide));exact⟨pb,h1,h2⟩
def kY0 (w:World) (db lo:Nat):Prop:=(∀tb,w.cell? ⟨db,2,none⟩=some (.pointer (some ⟨tb,0,none⟩))->lo+2<=tb)/\(∀tb,w.cell? ⟨db,3,none⟩=some (.pointer (some ⟨tb,0,none⟩))->lo+2<=tb)
theorem DSt.low {ps:List Nat} {fb:Nat} {fv:Value} (h:DSt lo p m es ps db fb fv w) (h2:2∈ps) (h3:3∈ps):kY0 w db lo:=by
 refine⟨λtb ht=>?_,λtb ht=>?_⟩
 ·obtain⟨v,h1,tb',rfl,_,hl⟩:=h.at_ 2 h2
  rw[h1]at ht;injection ht with ht
  injection ht with ht
  injection ht with ht
  injection ht with ht
  omega
 ·obtain⟨v,h1,tb',rfl,_,hl⟩:=h.at_ 3 h3
  rw[h1]at ht;injection ht with ht
  injection ht with ht
  injection ht with ht
  injection ht with ht
  omega
theorem jA {b o:Nat} {cs:Array Value} {t:TypeId} {u:Value} (h:TB w b cs t) (hc:cs[o]?=some u):aB w (w.setCell ⟨b,o,none⟩ u):=by
 refine⟨rfl,rfl,rfl,by simp,λk hk=>?_⟩;by_cases e:k=b
 ·subst e
  rw[show (w.setCell ⟨k,o,none⟩ u).heap[k]?=_ from h.set o u,show w.heap[k]?=_ from h]
  congr 2
  apply Array.ext_getElem?
  intro j;by_cases e2:o=j
  ·subst e2
   rw[hc,Ae];simp[(Array.getElem?_eq_some_iff.1 hc).1]
  ·rw[Ak e2]
 ·exact Below.heap_setCell w ⟨b,o,none⟩ u k e
end
section
open Go Go.RowKit Go.Shelf
attribute [local go_sem] aQ aM
theorem zR (Q:List bE) (k:Nat) (q:bE) (a:Option Addr) (c fb:Nat) (w:World) (hl:Q.length<=1000000) (ac:aG w a 2 (Q.map lE)) (jn:jE w Q) (hq:Q[k]?=some q) (aj:∀j p,j<k->Q[j]?=some p->p.name≠q.name)
  (hf:TB w fb #[.slice a Q.length c,.bool false] 118) :
  Calls Tryz.prog 67 #[.pointer (some ⟨fb,0,none⟩),.string q.name] w λe w'=>∃v,e=.returned v/\aV w' w.heap.size 5 1 aZ v q.data/\aB w w':=by
 have CF:=Aa (uP0 Q k q a c w hl ac jn hq aj);have f0:=hf.cell (o:=0) rfl;generalize Q.length=QL at CF hf f0;clear ac jn hq aj hl;go_enter Tryz.func67,Tryz.ntmps67
 go_wp2_with fail
 refine CF.out.mono ?_;rintro e w1 ⟨v,rfl,hv,aq⟩;have T1:=hf.gr aq;have b1:=T1.cell (o:=1) rfl;have z1:=T1.froz 1;clear CF f0;go_wp2_with fail
 go_ret;exact⟨v,rfl,hv.grows (jA T1 rfl),aq.tr (jA T1 rfl)⟩
theorem lR0 (Q:List bE) (k:Nat) (q:bE) (l:List Nat) (hd:q.data=packE l) (hp:l.length<=1048576/\∀n∈l,n<18446744073709551616) (a:Option Addr) (c fb:Nat) (w:World) (hl:Q.length<=1000000) (ac:aG w a 2 (Q.map lE)) (jn:jE w Q) (hq:Q[k]?=some q) (aj:∀j p,j<k->Q[j]?=some p->p.name≠q.name)
  (hf:TB w fb #[.slice a Q.length c,.bool false] 118) :
  Calls Tryz.prog 70 #[.pointer (some ⟨fb,0,none⟩),.string q.name] w λe w'=>∃pb,e=.returned (.pointer (some ⟨pb,0,none⟩))/\nD w' pb l/\aB w w':=by
 have CD:=Aa (zR Q k q a c fb w hl ac jn hq aj hf);rw[hd]at CD;have HHP:=Aa hp;generalize Q.length=QL at CD hf;generalize q.name=nm at CD ⊢;clear ac jn hq aj hl hd hp;go_enter Tryz.func70,Tryz.ntmps70
 go_wp2_with fail
 refine CD.out.mono ?_;rintro e w1 ⟨v,rfl,hv,aq⟩;obtain⟨a1,c1,rfl,zt,_,cu⟩:=hv.at_ bI.len;have io:=cJ hv;have T1:=hf.gr aq;have CE:=Aa (qV0 l a1 c1 w1 HHP.out.1 HHP.out.2 zt io cu);clear CD hv cu io zt HHP;generalize (packE l).length=PL at CE ⊢;go_wp2_with fail
 refine CE.out.mono ?_;rintro e w2 ⟨pb,rfl,hpk,af⟩;have T2:=T1.gr af;have b1:=T2.cell (o:=1) rfl;have z1:=T2.froz 1;have hs:=jA (o:=1) (u:=.bool false) T2 rfl;clear CE;go_wp2_with fail
 go_ret;exact⟨pb,rfl,hpk.grows hs,(aq.tr af).tr hs⟩
theorem wL0 (Q:List bE) (k:Nat) (q:bE) (L:List (List UInt8)) (hd:q.data=loudE L) (hp:gU L=0) (a:Option Addr) (c fb:Nat) (w:World) (hl:Q.length<=1000000) (ac:aG w a 2 (Q.map lE)) (jn:jE w Q) (hq:Q[k]?=some q) (aj:∀j p,j<k->Q[j]?=some p->p.name≠q.name)
  (hf:TB w fb #[.slice a Q.length c,.bool false] 118) :
  Calls Tryz.prog 69 #[.pointer (some ⟨fb,0,none⟩),.string q.name] w λe w'=>∃tb,e=.returned (.pointer (some ⟨tb,0,none⟩))/\eZ w' tb L/\w.heap.size+2<=tb/\aB w w':=by
 have CD:=Aa (zR Q k q a c fb w hl ac jn hq aj hf);rw[hd]at CD;have HHP:=Aa hp;generalize Q.length=QL at CD hf;generalize q.name=nm at CD ⊢;clear ac jn hq aj hl hd hp;go_enter Tryz.func69,Tryz.ntmps69
 go_wp2_with fail
 refine CD.out.mono ?_;rintro e w1 ⟨v,rfl,hv,aq⟩;obtain⟨a1,c1,rfl,zt,_,cu⟩:=hv.at_ bI.len;have T1:=hf.gr aq;have CE:=Aa (fX1 L a1 c1 w1 HHP.out zt cu);clear CD hv cu zt HHP;generalize (loudE L).length=PL at CE ⊢;go_wp2_with fail
 refine CE.out.mono ?_;rintro e w2 ⟨tb,rfl,yq,iq,af⟩;have T2:=T1.gr af;have b1:=T2.cell (o:=1) rfl;have z1:=T2.froz 1;have hs:=jA (o:=1) (u:=.bool false) T2 rfl;clear CE;go_wp2_with fail
 go_ret;exact⟨tb,rfl,yq.grows hs,Bd (As aq.size 2) iq,(aq.tr af).tr hs⟩
end
section
open Go Go.RowKit
theorem kE1 {α:Type} {R:α->α->Prop} {l:List α} (h:l.Pairwise R) {i:Nat} {x y:α} (hx:l[i]?=some x) (hy:l[i+1]?=some y):R x y:=by
 obtain⟨h1,e1⟩:=List.getElem?_eq_some_iff.1 hx;obtain⟨h2,e2⟩:=List.getElem?_eq_some_iff.1 hy
 have:=List.pairwise_iff_getElem.1 h i (i+1) h1 h2 (by omega)
 rwa [e1,e2]at this
end
section
open Go Go.RowKit Go.Shelf
attribute [local go_sem] aQ aM
theorem aW1 (l:List Nat) (pb i:Nat) (w:World) (ac:nD w pb l) (hi:l.length<=i):Calls Tryz.prog 136 #[.pointer (some ⟨pb,0,none⟩),.int .i64 i] w λe w'=>e=.returned (.tuple #[.int .u64 0,.bool false])/\w=w':=by
 have CL:=Aa (jQ l pb w ac);have h0:¬(i:Int)<0:=by omega
 have h1:¬(i:Int)<l.length:=by omega
 have h2:(l.length:Int)<=i:=by omega
 clear ac;go_enter Tryz.func136,Tryz.ntmps136
 go_wp2_with fail
 refine CL.out.mono ?_;rintro e w1 ⟨rfl,rfl⟩;go_wp2
 go_ret2;exact⟨rfl,rfl⟩
theorem zL0 {nw:En->En->Bool} {l:List En} {n:Nat} (hn:0<n):(iX nw l n)[0]?=some 0:=by
 unfold iX;obtain⟨k,rfl⟩:∃k,n=k+1:=⟨n-1,by omega⟩;rw[List.range_succ_eq_map,List.filter_cons,if_pos (by simp[cD0])];rfl
theorem bC1 (p:List cO) (m:Mx) (es:List En) (db:Nat) (w:World) (ag:cK p m es) (ac:gN w db p m es) :
  Calls Tryz.prog 71 #[.pointer (some ⟨db,0,none⟩)] w λe w'=>e=.returned (.bool true)/\aB w w':=by
 have hn:=ag.len;obtain⟨tr,r1,r2⟩:=ac.r;obtain⟨ts,s1,s2⟩:=ac.s;obtain⟨pf,f1,f2⟩:=ac.f;obtain⟨pi,i1,i2⟩:=ac.i;obtain⟨pl,l1,l2⟩:=ac.l;obtain⟨pt,t1,t2⟩:=ac.t;obtain⟨pc,c1,c2⟩:=ac.c;obtain⟨po,o1,o2⟩:=ac.o;obtain⟨pa,a1,a2⟩:=ac.a;obtain⟨N,hN⟩:=exq es.length;obtain⟨R,hR⟩:=exq ((readL es).length);obtain⟨S,hS⟩:=exq ((dC es).length)
 have hRn:R<=N:=by
  rw[hR,hN]
  have:=yZ (es.map λx=>x.r)
  rwa [Ab]at this
 have zg:(iX tK es es.length).length=R:=by rw[ag.first,kF,hR]
 have og:(iX lW0 (jF es) es.length).length=S:=by rw[jO1,kF,hS]
 have hol:=rX es;have hbR:(bls (readL es)).length=R:=by rw[dP,hR]
 have hbS:(bls (dC es)).length=S:=by rw[dP,hS]
 have CLG:∀(l:List Nat) (pb:Nat) (k:Nat),nD w pb l->l.length=k->∀u,aB w u->Hid (Calls Tryz.prog 135 #[.pointer (some ⟨pb,0,none⟩)] u λe w'=>e=.returned (.int .i64 (k:Nat))/\u=w'):=λl pb k h hk u hu=>by
  have:=jQ l pb u (h.grows hu)
  rw[hk]at this;exact this
 have LI:=CLG _ pi N i2 (by rw[Ab,hN]);have LL:=CLG _ pl N l2 (by rw[Ab,hN]);have LT:=CLG _ pt N t2 (by rw[Ab,hN]);have LC:=CLG _ pc N c2 (by rw[Ab,hN]);have LO:=CLG _ po N o2 (by rw[hol,hN]);have LF:=CLG _ pf R f2 zg;have LA:=CLG _ pa S a2 og
 have TLR:∀u,aB w u->Hid (Calls Tryz.prog 106 #[.pointer (some ⟨tr,0,none⟩)] u λe w'=>e=.returned (.int .i64 (R:Nat))/\u=w'):=λu hu=>by
  have:=xQ _ tr u (r2.grows hu)
  rw[hbR]at this;exact this
 have TLS:∀u,aB w u->Hid (Calls Tryz.prog 106 #[.pointer (some ⟨ts,0,none⟩)] u λe w'=>e=.returned (.int .i64 (S:Nat))/\u=w'):=λu hu=>by
  have:=xQ _ ts u (s2.grows hu)
  rw[hbS]at this;exact this
 have HLT:Hid (∀n∈iX tK es es.length,n<N):=λn h=>by rw[hN];exact kP h
 have HPW:Hid ((iX tK es es.length).Pairwise (· < ·)):=qN0;have HZ:Hid (0<N->(iX tK es es.length)[0]?=some 0):=λh=>zL0 (by omega);obtain⟨F,hF⟩:=exq (iX tK es es.length);rw[<-hF]at HLT HPW HZ f2 zg;rw[<-hN]at hn;have CGF:=λ(i x:Nat) (hx:F[i]?=some x) (u:World) (hu:aB w u)=>Aa (sQ F pf i x u (f2.grows hu) (by omega) (λn h=>by have:=HLT.out n h;omega) hx);have CGO:=Aa (λ(u:World) (hu:aB w u) (hi:F.length<=0)=>aW1 F pf 0 u (f2.grows hu) hi)
 have hG0:Hid (∀u,aB w u->∃b:Bool,(0<N->b=true)/\Calls Tryz.prog 136 #[.pointer (some ⟨pf,0,none⟩),.int .i64 0] u λe w'=>e=.returned (.tuple #[.int .u64 0,.bool b])/\aB u w'):=λu hu=>by
  by_cases h:0<N
  ·exact⟨true,λ_=>rfl,(CGF 0 0 (HZ.out h) u hu).out⟩
  ·exact⟨false,λh2=>absurd h2 h,((CGO.out u hu (by omega)).mono λe w' ⟨h1,h2⟩=>⟨h1,by rw[<-h2];exact aB.refl _⟩)⟩
 have z0:∀y:Ext aB w.drew,y.u.cell? ⟨db,6,none⟩=some (.pointer (some ⟨pl,0,none⟩)):=aF ((aB.drew w).cell l1);have z1:∀y:Ext aB w.drew,y.u.cell? ⟨db,7,none⟩=some (.pointer (some ⟨pt,0,none⟩)):=aF ((aB.drew w).cell t1);have z2:∀y:Ext aB w.drew,y.u.cell? ⟨db,8,none⟩=some (.pointer (some ⟨pc,0,none⟩)):=aF ((aB.drew w).cell c1);have z3:∀y:Ext aB w.drew,y.u.cell? ⟨db,9,none⟩=some (.pointer (some ⟨po,0,none⟩)):=aF ((aB.drew w).cell o1);have z4:∀y:Ext aB w.drew,y.u.cell? ⟨db,4,none⟩=some (.pointer (some ⟨pf,0,none⟩)):=aF ((aB.drew w).cell f1);have z5:∀y:Ext aB w.drew,y.u.cell? ⟨db,2,none⟩=some (.pointer (some ⟨tr,0,none⟩)):=aF ((aB.drew w).cell r1);have z6:∀y:Ext aB w.drew,y.u.cell? ⟨db,10,none⟩=some (.pointer (some ⟨pa,0,none⟩)):=aF ((aB.drew w).cell a1);have z7:∀y:Ext aB w.drew,y.u.cell? ⟨db,3,none⟩=some (.pointer (some ⟨ts,0,none⟩)):=aF ((aB.drew w).cell s1);have km:¬(20000:Int)<N:=by omega
 have wN:IntKind.u64.wrap (N:Int)=N:=by simp[Am,An,Aj];omega
 have HFL:=Aa zg;clear ac ag r2 s2 f2 i2 l2 t2 c2 o2 a2 og hol hbR hbS CLG hR hS hN hF CGO HZ zg r1 s1 l1 t1 c1 o1 a1;go_enter Tryz.func71,Tryz.ntmps71
 go_wp2_with fail
 refine(LI w (aB.refl w)).out.mono ?_;rintro e w1 ⟨rfl,rfl⟩;go_wp2_with fail
 refine bK (bB 64 []) (by kernel_rfl) (λd _ _ _ _ h=>by cases d<;>exact h) ?_
 iterate 7 (refine aH rfl (λK hK=>?_);go_simp;refine hK _ ?_;clear hK K)
 refine aH rfl (λK hK=>?_);go_simp;apply Exists.intro
 refine⟨λx=>?_,hK _ ?_⟩
 ·go_at_call 135;exact dR (LL _ ((aB.drew w).tr x.h)).out
 clear hK K;iterate 8 (refine aH rfl (λK hK=>?_);go_simp;refine hK _ ?_;clear hK K)
 refine aH rfl (λK hK=>?_);go_simp;apply Exists.intro
 refine⟨λx=>?_,hK _ ?_⟩
 ·go_at_call 135;exact dR (LT _ ((aB.drew w).tr x.h)).out
 clear hK K;iterate 8 (refine aH rfl (λK hK=>?_);go_simp;refine hK _ ?_;clear hK K)
 refine aH rfl (λK hK=>?_);go_simp;apply Exists.intro
 refine⟨λx=>?_,hK _ ?_⟩
 ·go_at_call 135;exact dR (LC _ ((aB.drew w).tr x.h)).out
 clear hK K;iterate 8 (refine aH rfl (λK hK=>?_);go_simp;refine hK _ ?_;clear hK K)
 refine aH rfl (λK hK=>?_);go_simp;apply Exists.intro
 refine⟨λx=>?_,hK _ ?_⟩
 ·go_at_call 135;exact dR (LO _ ((aB.drew w).tr x.h)).out
 clear hK K;iterate 8 (refine aH rfl (λK hK=>?_);go_simp;refine hK _ ?_;clear hK K)
 refine aH rfl (λK hK=>?_);go_simp;apply Exists.intro
 refine⟨λx=>?_,hK _ ?_⟩
 ·go_at_call 135;exact dR (LF _ ((aB.drew w).tr x.h)).out
 clear hK K;iterate 4 (refine aH rfl (λK hK=>?_);go_simp;refine hK _ ?_;clear hK K)
 refine aH rfl (λK hK=>?_);go_simp;apply Exists.intro
 refine⟨λx=>?_,hK _ ?_⟩
 ·go_at_call 106;exact dR (TLR _ ((aB.drew w).tr x.h)).out
 clear hK K;iterate 7 (refine aH rfl (λK hK=>?_);go_simp;refine hK _ ?_;clear hK K)
 refine aH rfl (λK hK=>?_);go_simp;apply Exists.intro
 refine⟨λx=>?_,hK _ ?_⟩
 ·go_at_call 135;exact dR (LA _ ((aB.drew w).tr x.h)).out
 clear hK K;iterate 4 (refine aH rfl (λK hK=>?_);go_simp;refine hK _ ?_;clear hK K)
 refine aH rfl (λK hK=>?_);go_simp;apply Exists.intro
 refine⟨λx=>?_,hK _ ?_⟩
 ·go_at_call 106;exact dR (TLS _ ((aB.drew w).tr x.h)).out
 clear hK K;iterate 2 (refine aH rfl (λK hK=>?_);go_simp;refine hK _ ?_;clear hK K)
 refine bQ ?_;clear z0 z1 z2 z3 z4 z5 z6 z7 LI LL LT LC LO LA TLR TLS;have f1d:=(aB.drew w).cell f1;obtain⟨b0,hb0,CG0⟩:=hG0.out w.drew (aB.drew w);clear hG0;go_wp2_with fail
 refine CG0.mono ?_;rintro e w2 ⟨rfl,af⟩;have g2:=(aB.drew w).tr af;have f1b:=g2.cell f1;have LF2:=LF w2 g2;clear CG0 LF f1d af;by_cases h0:0<N
 ·have hb:=hb0 h0
  subst hb;have h0i:(0:Int)<N:=by omega
  go_wp2_with fail
  refine LF2.out.mono ?_;rintro e w3 ⟨rfl,rfl⟩;clear LF2;go_wp2_with fail
  go_loopw [6,102] (λv i wr=>∃(k:Nat) (last:Int),k<=R/\i=.int .i64 k/\v=.int .i64 last/\Hid (∀x,F[k]?=some x->last<x)/\Hid (aB w wr)) (λ_ i _=>R-(intOf i).toNat)
  case atStart=>exact⟨0,-1,Ag _,rfl,rfl,λx _=>by omega,g2⟩
  case round =>
   obtain⟨k,last,hk,rfl,rfl,hL,hg⟩:=hrel;by_cases ae:k<R
   ·obtain⟨x,hx⟩:∃x,F[k]?=some x:=⟨_,Ad (by rw[HFL.out];exact ae)⟩
    have hxN:=HLT.out x (Af hx);have hlx:=hL.out x hx;have CG:=CGF k x hx wr hg.out;have f1r:=hg.out.cell f1;have cn:(k:Int)<R:=by omega
    have hxn:¬(N:Int)<=x:=by omega
    have akn:¬(x:Int)<=last:=by omega
    have wx:IntKind.i64.wrap (x:Int)=x:=by simp[Am,An,Aj];omega
    have NX:Hid (∀y,F[k+1]?=some y->(x:Int)<y):=λy hy=>by
     have:=kE1 HPW.out hx hy
     omega
    clear hx hL CGF;go_wp2_with fail
    refine CG.out.mono ?_;rintro e w4 ⟨rfl,cp⟩;have g4:=hg.out.tr cp;clear CG;go_wp2_with fail
    go_roundw
    case rel=>exact⟨k+1,x,ae,by go_num,rfl,NX.out,g4⟩
    case measure=>simp[intOf];omega
   ·have cn:¬(k:Int)<R:=by omega
    go_wp2_with fail
    go_ret;exact⟨rfl,hg.out⟩
 ·have h0i:¬(0:Int)<N:=by omega
  go_wp2_with fail
  refine LF2.out.mono ?_;rintro e w3 ⟨rfl,rfl⟩;clear LF2;go_wp2_with fail
  go_loopw [6,102] (λv i wr=>∃(k:Nat) (last:Int),k<=R/\i=.int .i64 k/\v=.int .i64 last/\Hid (∀x,F[k]?=some x->last<x)/\Hid (aB w wr)) (λ_ i _=>R-(intOf i).toNat)
  case atStart=>exact⟨0,-1,Ag _,rfl,rfl,λx _=>by omega,g2⟩
  case round =>
   obtain⟨k,last,hk,rfl,rfl,hL,hg⟩:=hrel;by_cases ae:k<R
   ·obtain⟨x,hx⟩:∃x,F[k]?=some x:=⟨_,Ad (by rw[HFL.out];exact ae)⟩
    have hxN:=HLT.out x (Af hx);exact absurd hxN (by omega)
   ·have cn:¬(k:Int)<R:=by omega
    go_wp2_with fail
    go_ret;exact⟨rfl,hg.out⟩
theorem gM1 (p:List cO) (m:Mx) (es:List En) (db:Nat) (w:World) (ac:gN w db p m es) :
  Calls Tryz.prog 73 #[.pointer (some ⟨db,0,none⟩)] w λe w'=>e=.returned (.func (.func 203) #[] #[.pointer (some ⟨w.heap.size,0,none⟩),.pointer (some ⟨w.heap.size+1,0,none⟩)]) /\
   w'=(w.alloc (.cells #[.int .i64 0] 3)).alloc (.cells #[.int .i64 (es.length:Nat)] 3):=by
 obtain⟨pi,i1,i2⟩:=ac.i;have h:=jQ (es.map (yD (dC es))) pi w i2;rw[Ab]at h;have CL:=Aa h;generalize es.length=N at CL ⊢;clear ac i2 h;go_enter Tryz.func73,Tryz.ntmps73
 go_wp2_with fail
 refine CL.out.mono ?_;rintro e w1 ⟨rfl,rfl⟩;go_wp2_with fail
 refine(pS0 0 (N:Int) w).mono ?_;rintro e w2 ⟨rfl,rfl⟩;go_wp2
 go_ret;exact⟨rfl,rfl⟩
end
section
open Go Go.RowKit Go.Shelf
def yX:List cO:=[⟨⟨#[66,79,83]⟩,0⟩,⟨⟨#[110,111,117,110]⟩,0⟩]
end
section
open Go Go.RowKit
end
section
open Go Go.RowKit Go.Shelf
attribute [local go_sem] aQ aM
theorem oT0 (p:List cO) (m:Mx) (es:List En):(imgP p m es).map (·.name)=[⟨#[112,111,115]⟩,⟨#[109,97,116,114,105,120]⟩,⟨#[114,101,97,100,105,110,103,115]⟩,⟨#[102,105,114,115,116]⟩,⟨#[115,117,114,102,97,99,101,115]⟩,⟨#[115,117,114,102,97,99,101]⟩,⟨#[108,101,102,116]⟩,⟨#[114,105,103,104,116]⟩,⟨#[99,111,115,116]⟩,⟨#[111,114,100,101,114]⟩,⟨#[97,116]⟩]:=rfl
theorem oA1 {p:List cO} {m:Mx} {es:List En} {j k:Nat} {a b:bE} (ha:(imgP p m es)[j]?=some a) (hb:(imgP p m es)[k]?=some b) (h:j<k):a.name≠b.name:=λe=>by
 have hn:((imgP p m es).map (·.name)).Nodup:=by rw[oT0];decide +kernel
 have h1:((imgP p m es).map (·.name))[j]?=some a.name:=by rw[Ah,ha];rfl
 have h2:((imgP p m es).map (·.name))[k]?=some a.name:=by rw[Ah,hb,e];rfl
 have:=xZ hn h1 h2
 omega
theorem qL0 {P Q:List bE} (h:Q.map bare=P.map bare) {k:Nat} {p:bE} (hp:P[k]?=some p):∃q,Q[k]?=some q/\q.name=p.name/\q.data=p.data:=by
 have h1:(Q.map bare)[k]?=some (bare p):=by rw[h,Ah,hp];rfl
 rw[Ah]at h1
 cases hq:Q[k]? with
 | none=>rw[hq]at h1;cases h1
 | some q =>
  rw[hq]at h1;have e:bare q=bare p:=Option.some.inj h1;have e1:(bare q).name=(bare p).name:=by rw[e]
  have e2:(bare q).data=(bare p).data:=by rw[e]
  exact⟨q,rfl,e1,e2⟩
theorem DSt.slot {lo:Nat} {p:List cO} {m:Mx} {es:List En} {ps:List Nat} {db fb:Nat} {fv:Value} {w:World} (h:DSt lo p m es ps db fb fv w) {i:Nat} (hi:i<11):(∃u,w.cell? ⟨db,i,none⟩=some u)/\w.frozen? ⟨db,i,none⟩=false:=by
 obtain⟨cs,hb⟩:=h.blk;exact⟨⟨_,hb.tb.cell (Array.getElem?_eq_getElem (by rw[hb.sz];exact hi))⟩,hb.tb.froz i⟩
theorem kY0.grows {lo db:Nat} {p:List cO} {m:Mx} {es:List En} {w w':World} (h:kY0 w db lo) (hd:gN w db p m es) (hg:aB w w'):kY0 w' db lo:=by
 obtain⟨t1,r1,_⟩:=hd.r;obtain⟨t2,r2,_⟩:=hd.s;refine⟨λtb ht=>?_,λtb ht=>?_⟩
 ·rw[hg.cell r1]at ht
  exact h.1 tb (r1.trans ht)
 ·rw[hg.cell r2]at ht
  exact h.2 tb (r2.trans ht)
theorem jI0 {p:List cO} {m:Mx} {es:List En} (ag:cK p m es) (xy:fJ (imgP p m es)=0):rB p (some m) es=(0,file14 (imgP p m es)):=by
 have h:=bC0 ag.make (by rw[ag.idem];exact xy);rwa [ag.idem]at h
theorem pX1 {p:List cO} {m:Mx} {es:List En} (ag:cK p m es) (f:En->Int) (hf:∀x∈es,0<=f x/\f x<=30000):(es.map λx=>(f x).toNat).length<=1048576/\∀n∈es.map λx=>(f x).toNat,n<18446744073709551616:=by
 have:=ag.len
 refine⟨by rw[Ab];omega,λn hn=>?_⟩;obtain⟨y,hy,rfl⟩:=List.mem_map.1 hn
 have:=hf y hy
 omega
theorem zH0 (p:List cO) (m:Mx) (es:List En) (ba:Option Addr) (bc:Nat) (w:World) (he:Env w) (ag:cK p m es) (hm:m.OK) (hEn:∀x∈es,uE x) (xy:fJ (imgP p m es)=0)
  (ff:(file14 (imgP p m es)).length<=bc) (vp:bc<=maxLen) (jk:ba=none->bc=0) (ac:aG w ba 1 ((file14 (imgP p m es)).map aZ)) :
  Calls Tryz.prog 35 #[.slice ba (file14 (imgP p m es)).length bc] w λe w'=>aB w w'/\∃db,e=.returned (.tuple #[.pointer (some ⟨db,0,none⟩),.int .i64 0])/\gN w' db p m es/\kY0 w' db w.heap.size/\w.heap.size<=db:=by
 have ah:=ag.len;have hv:=(eU ag.chk).2.2.1;have af7:=(eV hv).1;have fe:=ag.num;have mm:(imgP p m es).length=11:=rfl;have CS:=Aa (mS0 (imgP p m es) ba bc w he xy ff vp jk ac)
 have HPART:Hid (∀(Q:List bE),Q.map bare=(imgP p m es).map bare->∀(k:Nat) (nm:ByteArray) (ti:List UInt8),(∃q,(imgP p m es)[k]?=some q/\q.name=nm/\q.data=ti)->∃q,Q[k]?=some q/\q.name=nm/\q.data=ti/\∀j p',j<k->Q[j]?=some p'->p'.name≠q.name):=λQ hb k nm ti ⟨q,hq,h1,h2⟩=>by
  obtain⟨q2,sg,e1,e2⟩:=qL0 hb hq;refine⟨q2,sg,e1.trans h1,e2.trans h2,λj p' hj hp'=>?_⟩;obtain⟨p2,hp2,e3,_⟩:=qL0 (P:=Q) (Q:=imgP p m es) hb.symm hp';rw[<-e3,e1];exact oA1 hp2 hq hj
 have HQL:Hid (∀(Q:List bE),Q.map bare=(imgP p m es).map bare->Q.length=11):=λQ hb=>by
  have:=congrArg Bg hb
  rw[Ab,Ab,mm]at this;exact this
 have HP0:Hid (∃q,(imgP p m es)[0]?=some q/\q.name=⟨#[112,111,115]⟩/\q.data=posE p):=⟨_,rfl,rfl,rfl⟩;have HP1:Hid (∃q,(imgP p m es)[1]?=some q/\q.name=⟨#[109,97,116,114,105,120]⟩/\q.data=m.enc):=⟨_,rfl,rfl,rfl⟩;have HP2:Hid (∃q,(imgP p m es)[2]?=some q/\q.name=⟨#[114,101,97,100,105,110,103,115]⟩/\q.data=loudE (bls (readL es))):=⟨_,rfl,rfl,rfl⟩;have HP3:Hid (∃q,(imgP p m es)[3]?=some q/\q.name=⟨#[102,105,114,115,116]⟩/\q.data=packE (iX tK es es.length)):=⟨_,rfl,rfl,rfl⟩;have HP4:Hid (∃q,(imgP p m es)[4]?=some q/\q.name=⟨#[115,117,114,102,97,99,101,115]⟩/\q.data=loudE (bls (dC es))):=⟨_,rfl,rfl,rfl⟩;have HP5:Hid (∃q,(imgP p m es)[5]?=some q/\q.name=⟨#[115,117,114,102,97,99,101]⟩/\q.data=packE (es.map (yD (dC es)))):=⟨_,rfl,rfl,rfl⟩;have HP6:Hid (∃q,(imgP p m es)[6]?=some q/\q.name=⟨#[108,101,102,116]⟩/\q.data=packE (es.map λx=>x.l.toNat)):=⟨_,rfl,rfl,rfl⟩;have HP7:Hid (∃q,(imgP p m es)[7]?=some q/\q.name=⟨#[114,105,103,104,116]⟩/\q.data=packE (es.map λx=>x.t.toNat)):=⟨_,rfl,rfl,rfl⟩;have HP8:Hid (∃q,(imgP p m es)[8]?=some q/\q.name=⟨#[99,111,115,116]⟩/\q.data=packE (es.map λx=>x.c.toNat)):=⟨_,rfl,rfl,rfl⟩;have HP9:Hid (∃q,(imgP p m es)[9]?=some q/\q.name=⟨#[111,114,100,101,114]⟩/\q.data=packE (oE0 es)):=⟨_,rfl,rfl,rfl⟩;have HP10:Hid (∃q,(imgP p m es)[10]?=some q/\q.name=⟨#[97,116]⟩/\q.data=packE (iX lW0 (jF es) es.length)):=⟨_,rfl,rfl,rfl⟩
 have L3:Hid ((iX tK es es.length).length<=1048576/\∀n∈iX tK es es.length,n<18446744073709551616):=⟨by
  have h1:=(eH ag.rd).2.1;rw[dP]at h1;rw[ag.first,kF]
  omega,λn h=>by have:=kP h;omega⟩
 have L5:Hid ((es.map (yD (dC es))).length<=1048576/\∀n∈es.map (yD (dC es)),n<18446744073709551616):=⟨by rw[Ab];omega,λn h=>by
  obtain⟨y,hy,rfl⟩:=List.mem_map.1 h
  have:=rH (nG hy)
  have h1:=(eH ag.sf).2.1;rw[dP]at h1;omega⟩
 have L6:=Aa (pX1 ag (λx=>x.l) (λx hx=>by have:=fe x hx;omega));have L7:=Aa (pX1 ag (λx=>x.t) (λx hx=>by have:=fe x hx;omega));have L8:=Aa (pX1 ag (λx=>x.c) (λx hx=>by have:=fe x hx;omega));have L9:Hid ((oE0 es).length<=1048576/\∀n∈oE0 es,n<18446744073709551616):=⟨by rw[rX];omega,λn h=>by have:=oH0 h;omega⟩
 have L10:Hid ((iX lW0 (jF es) es.length).length<=1048576/\∀n∈iX lW0 (jF es) es.length,n<18446744073709551616):=⟨by
  have h1:=(eH ag.sf).2.1;rw[dP]at h1;rw[jO1,kF];omega,λn h=>by have:=kP h;omega⟩
 have KR:=Aa ag.rd;have KS:=Aa ag.sf;have HDM:Hid (nN1 m.enc=some m):=fE1.2 ⟨hm,rfl⟩;have HB:=Aa (jI0 ag xy)
 have HZ:Hid (∀x∈es,x.r.size<=1099511627776/\x.s.size<=1099511627776):=λx hx=>by
  have h1:=ag.len_r x hx;have h2:=ag.len_s x hx;omega
 have HOK:=Aa ag;have HE:=Aa he;have HEN:=Aa hEn;have HV:=Aa hv;obtain⟨FB,hFB⟩:=exq (file14 (imgP p m es));rw[<-hFB]at CS HB ac ff ⊢;have HAT:=Aa ac
 have HFN:Hid (FB≠[]):=by
  show _≠_
  rw[hFB];unfold file14 dF;simp
 obtain⟨FL,hFL⟩:=exq FB.length;rw[<-hFL]at CS ⊢;have HFL:=Aa hFL;clear he ag hm hEn xy ff vp jk ac hv fe mm hFB hFL;go_enter Tryz.func35,Tryz.ntmps35
 go_wp2_with fail
 refine CS.out.mono ?_;rintro e w3 ⟨ay,Q,qa,qc,rfl,qt,j9,hqp⟩;have zr:=HQL.out Q qt;have PF:=HPART.out Q qt
 have CDAT:∀(k:Nat) (nm:ByteArray) (ti:List UInt8) (fb:Nat) (W:World),aB w3 W->TB W fb #[.slice qa 11 qc,.bool false] 118->(∃q,(imgP p m es)[k]?=some q/\q.name=nm/\q.data=ti) ->
   Hid (Calls Tryz.prog 67 #[.pointer (some ⟨fb,0,none⟩),.string nm] W λe w'=>∃v,e=.returned v/\aV w' W.heap.size 5 1 aZ v ti/\aB W w'):=λk nm ti fb W hW hf hp=>by
  obtain⟨q,hq,e1,e2,aj⟩:=PF k nm ti hp;rw[<-zr]at hf;have h:=zR Q k q qa qc fb W (by omega) (j9.grows hW) (hqp.grows hW) hq aj hf;rw[e1,e2]at h;exact h
 have CNUM:∀(k:Nat) (nm:ByteArray) (l:List Nat) (fb:Nat) (W:World),aB w3 W->TB W fb #[.slice qa 11 qc,.bool false] 118->(∃q,(imgP p m es)[k]?=some q/\q.name=nm/\q.data=packE l)->(l.length<=1048576/\∀n∈l,n<18446744073709551616) ->
   Hid (Calls Tryz.prog 70 #[.pointer (some ⟨fb,0,none⟩),.string nm] W λe w'=>(∃pb,e=.returned (.pointer (some ⟨pb,0,none⟩))/\nD w' pb l)/\aB W w'):=λk nm l fb W hW hf hp hl=>by
  obtain⟨q,hq,e1,e2,aj⟩:=PF k nm _ hp;rw[<-zr]at hf;have h:=lR0 Q k q l e2 hl qa qc fb W (by omega) (j9.grows hW) (hqp.grows hW) hq aj hf;rw[e1]at h;exact h.mono λe w' ⟨pb,h1,h2,h3⟩=>⟨⟨pb,h1,h2⟩,h3⟩
 have CTRI:∀(k:Nat) (nm:ByteArray) (L:List (List UInt8)) (fb:Nat) (W:World),aB w3 W->TB W fb #[.slice qa 11 qc,.bool false] 118->(∃q,(imgP p m es)[k]?=some q/\q.name=nm/\q.data=loudE L)->gU L=0 ->
   Hid (Calls Tryz.prog 69 #[.pointer (some ⟨fb,0,none⟩),.string nm] W λe w'=>(∃tb,e=.returned (.pointer (some ⟨tb,0,none⟩))/\eZ w' tb L/\W.heap.size+2<=tb)/\aB W w'):=λk nm L fb W hW hf hp hl=>by
  obtain⟨q,hq,e1,e2,aj⟩:=PF k nm _ hp;rw[<-zr]at hf;have h:=wL0 Q k q L e2 hl qa qc fb W (by omega) (j9.grows hW) (hqp.grows hW) hq aj hf;rw[e1]at h;exact h.mono λe w' ⟨tb,h1,h2,h3,h4⟩=>⟨⟨tb,h1,h2,h3⟩,h4⟩
 have SZ:Hid (∀(k:Nat) (ti:List UInt8) (nm:ByteArray),(∃q,(imgP p m es)[k]?=some q/\q.name=nm/\q.data=ti)->ti.length<=1099511627776):=λk ti nm hp=>by
  obtain⟨q,hq,_,e2,_⟩:=PF k nm ti hp;rw[<-e2];exact hqp.data _ (Af hq)
 rw[zr];obtain⟨W0,cq⟩:=exq ((w3.alloc (.cells #[.slice qa 11 qc,.bool false] 118)).alloc (.cells #[.slice none 0 0,.pointer none,.pointer none,.pointer none,.pointer none,.pointer none,.pointer none,.pointer none,.pointer none,.pointer none,.pointer none] 108));obtain⟨fb,hfb⟩:=exq w3.heap.size;obtain⟨db,hdb⟩:=exq (w3.heap.size+1);have g0:aB w3 W0:=by rw[cq];exact(aB.alloc _ _).al _
 have D0:DSt w.heap.size p m es [] db fb (.slice qa 11 qc) W0:=by
  refine⟨⟨#[.slice none 0 0,.pointer none,.pointer none,.pointer none,.pointer none,.pointer none,.pointer none,.pointer none,.pointer none,.pointer none,.pointer none],?_,rfl,⟨none,0,0,rfl⟩⟩,?_,λi hi=>by cases hi⟩
  ·rw[cq,hdb]
   have:=TB.alloc (w3.alloc (.cells #[.slice qa 11 qc,.bool false] 118)) #[.slice none 0 0,.pointer none,.pointer none,.pointer none,.pointer none,.pointer none,.pointer none,.pointer none,.pointer none,.pointer none,.pointer none] 108
   rw[Aw]at this;exact this
  ·rw[cq,hfb]
   exact(TB.alloc _ _ _).al _
 have hdf:¬db=fb:=by omega
 have hfd:¬fb=db:=by omega
 have jp:w3.heap.size<=db:=by omega
 have qe:=ay.size;clear CS qt j9 hqp PF zr HPART HQL;go_wp2_with fail
 rw[<-cq,<-hdb,<-hfb];clear cq hfb hdb;refine(CDAT 0 ⟨#[112,111,115]⟩ _ fb W0 g0 D0.fl HP0.out).out.mono ?_;rintro e x1 ⟨v1,rfl,ie,ads⟩;have gx1:=g0.tr ads;have Dx1:=D0.grows ads;obtain⟨a1,c1,rfl,zt,_,cu⟩:=ie.at_ bI.len;have io:=cJ ie;have CP:=Aa (sM0 p a1 c1 x1 HV.out (SZ.out 0 _ _ HP0.out) zt io cu);generalize (posE p).length=PL at CP ⊢;clear ie cu io zt ads;go_wp2_with fail
 refine(CP).out.mono ?_;rintro e x2 ⟨v2,rfl,gw,adt⟩;have gx2:=gx1.tr adt;have Dx2:=Dx1.grows adt;obtain⟨aP,cP,rfl,_,_,_⟩:=gw.at_ tY.len;obtain⟨⟨u0,e0⟩,f0⟩:=Dx2.slot (i:=0) (by decide);have b1:=Dx2.fl.cell (o:=1) rfl;have z1:=Dx2.fl.froz 1;have Da0:=Dx2.set (i:=0) (by decide) (gw.base (Ag _)) (λ_=>⟨_,_,_,rfl⟩);have o0:=gx2.set (p:=⟨db,0,none⟩) jp (.slice aP p.length cP);have hs:=jA (o:=1) (u:=.bool false) Da0.fl rfl;have Db:=Da0.grows hs;have gb:=o0.tr hs;obtain⟨V1,uh⟩:=exq (((x2.setCell ⟨db,0,none⟩ (.slice aP p.length cP)).setCell ⟨fb,1,none⟩ (.bool false)));rw[<-uh]at Db gb;have DV1:=Db;have gV1:=gb;go_wp2_with fail
 rw[<-uh];clear CP adt gw e0 f0 b1 z1 Da0 o0 hs Db gb uh D0 g0 Dx1 gx1 Dx2 gx2;refine(CDAT 1 ⟨#[109,97,116,114,105,120]⟩ _ fb V1 gV1 DV1.fl HP1.out).out.mono ?_;rintro e x3 ⟨v1,rfl,ie,adu⟩;have gx3:=gV1.tr adu;have Dx3:=DV1.grows adu;obtain⟨a1,c1,rfl,zt,_,cu⟩:=ie.at_ bI.len;have CM:=Aa (sO0 m.enc a1 c1 x3 (SZ.out 1 _ _ HP1.out) cu);rw[HDM.out]at CM;generalize m.enc.length=PL at CM ⊢;clear ie cu zt adu;go_wp2_with fail
 refine CM.out.mono ?_;rintro e x4 ⟨_,q6,adv⟩;obtain⟨mb,bm,rfl,hma,_,_⟩:=q6 m rfl;have gx4:=gx3.tr adv;have Dx4:=Dx3.grows adv;obtain⟨⟨u1,e1⟩,f1⟩:=Dx4.slot (i:=1) (by decide);have b1:=Dx4.fl.cell (o:=1) rfl;have z1:=Dx4.fl.froz 1;have Da0:=Dx4.set (i:=1) (by decide) (⟨mb,bm,rfl,hma⟩) (λh=>by cases h);have o0:=gx4.set (p:=⟨db,1,none⟩) jp (.pointer (some ⟨mb,0,none⟩));have hs:=jA (o:=1) (u:=.bool false) Da0.fl rfl;have Db:=Da0.grows hs;have gb:=o0.tr hs;obtain⟨V2,oy⟩:=exq (((x4.setCell ⟨db,1,none⟩ (.pointer (some ⟨mb,0,none⟩))).setCell ⟨fb,1,none⟩ (.bool false)));rw[<-oy]at Db gb;have DV2:=Db;have gV2:=gb;go_wp2_with fail
 rw[<-oy];clear CM adv q6 hma e1 f1 b1 z1 Da0 o0 hs Db gb oy DV1 gV1 Dx3 gx3 Dx4 gx4;refine(CTRI 2 ⟨#[114,101,97,100,105,110,103,115]⟩ _ fb V2 gV2 DV2.fl HP2.out KR.out).out.mono ?_;rintro e x5 ⟨⟨tb,rfl,yq,iq⟩,adw⟩;have gx5:=gV2.tr adw;have Dx5:=DV2.grows adw;have yu:w.heap.size+2<=tb:=by have:=gV2.size;omega
 go_wp2_with fail
 refine(CNUM 3 ⟨#[102,105,114,115,116]⟩ _ fb x5 gx5 Dx5.fl HP3.out L3.out).out.mono ?_;rintro e x6 ⟨⟨pb,rfl,eo⟩,acb⟩;have gx6:=gx5.tr acb;have Dx6:=Dx5.grows acb;have yv:=yq.grows acb;obtain⟨⟨u2,e2⟩,f2⟩:=Dx6.slot (i:=2) (by decide);obtain⟨⟨u4,e4⟩,f4⟩:=Dx6.slot (i:=4) (by decide);obtain⟨cs9,pe⟩:=Dx6.blk;have Da0:=Dx6.set (i:=2) (by decide) (⟨tb,rfl,yv,yu⟩) (λh=>by cases h);have o0:=gx6.set (p:=⟨db,2,none⟩) jp (.pointer (some ⟨tb,0,none⟩));have Da1:=Da0.set (i:=4) (by decide) (⟨pb,rfl,lO pe eo _ _⟩) (λh=>by cases h);have rv:=o0.set (p:=⟨db,4,none⟩) jp (.pointer (some ⟨pb,0,none⟩));obtain⟨V3,wy⟩:=exq (((x6.setCell ⟨db,2,none⟩ (.pointer (some ⟨tb,0,none⟩))).setCell ⟨db,4,none⟩ (.pointer (some ⟨pb,0,none⟩))));rw[<-wy]at Da1 rv;have DV3:=Da1;have zo:=rv;go_wp2_with fail
 rw[<-wy];clear yq iq yu adw acb yv eo pe e2 f2 e4 f4 Da0 o0 Da1 rv wy DV2 gV2 Dx5 gx5 Dx6 gx6;refine(CTRI 4 ⟨#[115,117,114,102,97,99,101,115]⟩ _ fb V3 zo DV3.fl HP4.out KS.out).out.mono ?_;rintro e x7 ⟨⟨tb,rfl,yq,iq⟩,adx⟩;have gx7:=zo.tr adx;have Dx7:=DV3.grows adx;have yu:w.heap.size+2<=tb:=by have:=zo.size;omega
 go_wp2_with fail
 refine(CNUM 5 ⟨#[115,117,114,102,97,99,101]⟩ _ fb x7 gx7 Dx7.fl HP5.out L5.out).out.mono ?_;rintro e x8 ⟨⟨pb,rfl,eo⟩,acd⟩;have gx8:=gx7.tr acd;have Dx8:=Dx7.grows acd;have yv:=yq.grows acd;obtain⟨⟨u3,e3⟩,f3⟩:=Dx8.slot (i:=3) (by decide);obtain⟨⟨u5,e5⟩,f5⟩:=Dx8.slot (i:=5) (by decide);obtain⟨cs9,pe⟩:=Dx8.blk;have Da0:=Dx8.set (i:=3) (by decide) (⟨tb,rfl,yv,yu⟩) (λh=>by cases h);have o0:=gx8.set (p:=⟨db,3,none⟩) jp (.pointer (some ⟨tb,0,none⟩));have Da1:=Da0.set (i:=5) (by decide) (⟨pb,rfl,lO pe eo _ _⟩) (λh=>by cases h);have rv:=o0.set (p:=⟨db,5,none⟩) jp (.pointer (some ⟨pb,0,none⟩));obtain⟨V4,hV4⟩:=exq (((x8.setCell ⟨db,3,none⟩ (.pointer (some ⟨tb,0,none⟩))).setCell ⟨db,5,none⟩ (.pointer (some ⟨pb,0,none⟩))));rw[<-hV4]at Da1 rv;have DV4:=Da1;have gV4:=rv;go_wp2_with fail
 rw[<-hV4];clear yq iq yu adx acd yv eo pe e3 f3 e5 f5 Da0 o0 Da1 rv hV4 DV3 zo Dx7 gx7 Dx8 gx8;refine(CNUM 6 ⟨#[108,101,102,116]⟩ _ fb V4 gV4 DV4.fl HP6.out L6.out).out.mono ?_;rintro e x9 ⟨⟨zu,rfl,kh⟩,ady⟩;have gx9:=gV4.tr ady;have Dx9:=DV4.grows ady;go_wp2_with fail
 refine(CNUM 7 ⟨#[114,105,103,104,116]⟩ _ fb x9 gx9 Dx9.fl HP7.out L7.out).out.mono ?_;rintro e x10 ⟨⟨pb1,rfl,ki⟩,ry⟩;have adz:=gx9.tr ry;have Dx10:=Dx9.grows ry;replace kh:=kh.grows ry;go_wp2_with fail
 refine(CNUM 8 ⟨#[99,111,115,116]⟩ _ fb x10 adz Dx10.fl HP8.out L8.out).out.mono ?_;rintro e x11 ⟨⟨pb2,rfl,tj⟩,o4⟩;have agn:=adz.tr o4;have Dx11:=Dx10.grows o4;replace kh:=kh.grows o4;replace ki:=ki.grows o4;obtain⟨⟨u6,e6⟩,f6⟩:=Dx11.slot (i:=6) (by decide);obtain⟨⟨u7,e7⟩,f7⟩:=Dx11.slot (i:=7) (by decide);obtain⟨⟨u8,e8⟩,f8⟩:=Dx11.slot (i:=8) (by decide);obtain⟨cs9,pe⟩:=Dx11.blk;have Da0:=Dx11.set (i:=6) (by decide) (⟨zu,rfl,kh⟩) (λh=>by cases h);have o0:=agn.set (p:=⟨db,6,none⟩) jp (.pointer (some ⟨zu,0,none⟩));replace ki:=lO pe ki 6 (.pointer (some ⟨zu,0,none⟩));replace tj:=lO pe tj 6 (.pointer (some ⟨zu,0,none⟩));obtain⟨cs9,pe⟩:=Da0.blk;have Da1:=Da0.set (i:=7) (by decide) (⟨pb1,rfl,ki⟩) (λh=>by cases h);have rv:=o0.set (p:=⟨db,7,none⟩) jp (.pointer (some ⟨pb1,0,none⟩));replace tj:=lO pe tj 7 (.pointer (some ⟨pb1,0,none⟩));obtain⟨cs9,pe⟩:=Da1.blk;have Da2:=Da1.set (i:=8) (by decide) (⟨pb2,rfl,tj⟩) (λh=>by cases h);have ga2:=rv.set (p:=⟨db,8,none⟩) jp (.pointer (some ⟨pb2,0,none⟩));obtain⟨V5,hV5⟩:=exq ((((x11.setCell ⟨db,6,none⟩ (.pointer (some ⟨zu,0,none⟩))).setCell ⟨db,7,none⟩ (.pointer (some ⟨pb1,0,none⟩))).setCell ⟨db,8,none⟩ (.pointer (some ⟨pb2,0,none⟩))));rw[<-hV5]at Da2 ga2;have DV5:=Da2;have gV5:=ga2;go_wp2_with fail
 rw[<-hV5];clear kh ki tj ady ry o4 e6 f6 e7 f7 e8 f8 Da0 o0 Da1 rv Da2 ga2 hV5 DV4 gV4 Dx9 gx9 Dx10 adz Dx11 agn;refine(CNUM 9 ⟨#[111,114,100,101,114]⟩ _ fb V5 gV5 DV5.fl HP9.out L9.out).out.mono ?_;rintro e x12 ⟨⟨zu,rfl,kh⟩,yw⟩;have ad0:=gV5.tr yw;have Dx12:=DV5.grows yw;go_wp2_with fail
 refine(CNUM 10 ⟨#[97,116]⟩ _ fb x12 ad0 Dx12.fl HP10.out L10.out).out.mono ?_;rintro e x13 ⟨⟨pb1,rfl,ki⟩,rz⟩;have ago:=ad0.tr rz;have Dx13:=Dx12.grows rz;replace kh:=kh.grows rz;obtain⟨⟨u9,e9⟩,f9⟩:=Dx13.slot (i:=9) (by decide);obtain⟨⟨u10,e10⟩,f10⟩:=Dx13.slot (i:=10) (by decide);obtain⟨cs9,pe⟩:=Dx13.blk;have Da0:=Dx13.set (i:=9) (by decide) (⟨zu,rfl,kh⟩) (λh=>by cases h);have o0:=ago.set (p:=⟨db,9,none⟩) jp (.pointer (some ⟨zu,0,none⟩));replace ki:=lO pe ki 9 (.pointer (some ⟨zu,0,none⟩));obtain⟨cs9,pe⟩:=Da0.blk;have Da1:=Da0.set (i:=10) (by decide) (⟨pb1,rfl,ki⟩) (λh=>by cases h);have rv:=o0.set (p:=⟨db,10,none⟩) jp (.pointer (some ⟨pb1,0,none⟩));obtain⟨V6,hV6⟩:=exq (((x13.setCell ⟨db,9,none⟩ (.pointer (some ⟨zu,0,none⟩))).setCell ⟨db,10,none⟩ (.pointer (some ⟨pb1,0,none⟩))));rw[<-hV6]at Da1 rv;have DV6:=Da1;have gV6:=rv;have b1:=Dx13.fl.cell (o:=1) rfl;go_wp2_with fail
 rw[<-hV6];clear b1;clear kh ki yw rz e9 f9 e10 f10 Da0 o0 Da1 rv hV6 DV5 gV5 Dx12 ad0 Dx13 ago;have HD:=Aa (DV6.dict (by intro i hi;simp;omega));have HL:=Aa (DV6.low (by simp) (by simp));clear DV6 CDAT CNUM CTRI SZ KR KS HDM L3 L5 L6 L7 L8 L9 L10 HP0 HP1 HP2 HP3 HP4 HP5 HP6 HP7 HP8 HP9 HP10;have k7:=ay.tr gV6;refine(bC1 p m es db V6 HOK.out HD.out).mono ?_;rintro e y1 ⟨rfl,kt⟩;have gy1:=k7.tr kt;have HD1:=Aa (HD.out.grows kt);obtain⟨vP,p1,p2⟩:=HD1.out.p;obtain⟨aP,cP,rfl,_,_,abp⟩:=p2.at_ tY.len;obtain⟨mb,bm,m1,m2⟩:=HD1.out.m;have HPA:=Aa abp;have HMA:=Aa m2
 have mh:(List.range' 0 (es.length-0)).map (λj=>es.getD j enZero)=es:=by
  rw[<-wK0 es (Ar _)];unfold mT1;rw[Ao,Aq]
 have CI:∀(u:World) (b1 b2:Nat),aB y1 u->u.cell? ⟨b1,0,none⟩=some (.int .i64 (0:Nat))->u.cell? ⟨b2,0,none⟩=some (.int .i64 (es.length:Nat)) ->
   Hid (Calls Tryz.prog 72 #[.pointer (some ⟨db,0,none⟩),.func (.func 203) #[] #[.pointer (some ⟨b1,0,none⟩),.pointer (some ⟨b2,0,none⟩)]] u λe w'=>∃v,e=.returned v/\aV w' u.heap.size 62 5 bF v es/\aB u w'):=λu b1 b2 hu h1 h2=>by
  have h:=kF0 p m es db 0 es.length b1 b2 u HOK.out (HD1.out.grows hu) (Ag _) (Ar _) h1 h2;rw[mh]at h;exact h
 have CA:Hid (Calls Tryz.prog 73 #[.pointer (some ⟨db,0,none⟩)] y1.drew λe w'=>e=.returned (.func (.func 203) #[] #[.pointer (some ⟨y1.drew.heap.size,0,none⟩),.pointer (some ⟨y1.drew.heap.size+1,0,none⟩)]) /\
   w'=(y1.drew.alloc (.cells #[.int .i64 (0:Nat)] 3)).alloc (.cells #[.int .i64 (es.length:Nat)] 3)):=gM1 p m es db y1.drew (HD1.out.grows (aB.drew y1))
 have z0:∀y:Ext aB y1.drew,y.u.cell? ⟨db,0,none⟩=some (.slice aP p.length cP):=aF ((aB.drew y1).cell p1);have z1:∀y:Ext aB y1.drew,y.u.cell? ⟨db,1,none⟩=some (.pointer (some ⟨mb,0,none⟩)):=aF ((aB.drew y1).cell m1)
 have CB:∀(a:Option Addr) (c:Nat) (u:World),aB y1 u->aG u a 5 (es.map bF) ->
   Hid (Calls Tryz.prog 63 #[.slice aP p.length cP,.pointer (some ⟨mb,0,none⟩),.slice a es.length c] u λe w'=>aB u w'/\∃v,e=.returned (.tuple #[v,.int .i64 0])/\aV w' u.heap.size 5 1 aZ v FB):=λa c u hu ha=>by
  have h:=iH0 p mb bm m es aP a cP c u (HE.out.grows (gy1.tr hu)) (by omega) HEN.out HZ.out ah HV.out (HPA.out.grows hu) (HMA.out.grows hu) ha (HOK.out).chk;unfold cZ at h;rw[HB.out]at h;exact h
 have HGL:=Aa gy1;clear p1 p2 m1 m2 abp mh HB HPA HMA HEN HV HZ HE;go_wp2_with fail
 refine bK (bB 18 [10,11,12]) (by kernel_rfl) (λd _ _ _ _ h=>by cases d<;>exact h) ?_
 iterate 10 (refine aH rfl (λK hK=>?_);go_simp;refine hK _ ?_;clear hK K)
 clear z0 z1;refine bJ rfl rfl (λK hK=>?_);go_simp;refine CA.out.mono ?_;rintro e y2 ⟨rfl,s8⟩;have af:aB y1.drew y2:=by rw[s8];exact(aB.alloc _ _).al _
 refine⟨af,hK _ _ ?_⟩;clear hK K CA;have c1:y2.cell? ⟨y1.drew.heap.size,0,none⟩=some (.int .i64 (0:Nat)):=qZ (cs:=#[.int .i64 (0:Nat)]) (t:=3) (by rw[s8];exact aB.alloc _ _) rfl 0 _ rfl
 have c2:y2.cell? ⟨y1.drew.heap.size+1,0,none⟩=some (.int .i64 (es.length:Nat)):=by
  have:=qZ (w:=y1.drew.alloc (.cells #[.int .i64 (0:Nat)] 3)) (w':=y2) (cs:=#[.int .i64 (es.length:Nat)]) (t:=3) (by rw[s8];exact aB.refl _) rfl 0 _ rfl
  rwa [Aw]at this
 have gy2:=(aB.drew y1).tr af;have CI2:=CI y2 _ _ gy2 c1 c2;clear CI s8 c1 c2;refine bJ rfl rfl (λK hK=>?_);go_simp;refine(CI2.out).mono ?_;rintro e y3 ⟨v,rfl,hv,agp⟩;refine⟨agp,hK _ _ ?_⟩;clear hK K;have gy3:=gy2.tr agp;obtain⟨aE,cE,rfl,_,_,agq⟩:=hv.at_ aW0.len;have CB3:=CB aE cE y3 gy3 agq;clear CB CI2 hv agq;refine bJ rfl rfl (λK hK=>?_);go_simp;refine(CB3.out).mono ?_;rintro e y4 ⟨cp,v4,rfl,hv4⟩;refine⟨cp,hK _ _ ?_⟩;clear hK K;iterate 5 (refine aH rfl (λK hK=>?_);go_simp;refine hK _ ?_;clear hK K)
 refine bQ ?_;have gy4:=gy3.tr cp;have gw4:=HGL.out.tr gy4;have bj:(convert 60 9 v4).run Tryz.prog y4=.ok (.string (mkB FB)) y4:=yY hv4
 have m0:(convert 60 9 (.slice ba FL bc)).run Tryz.prog y4=.ok (.string (mkB FB)) y4:=by
  rw[HFL.out];exact wN0 (c:=bc) HFN.out (HAT.out.grows gw4)
 clear CB3 hv4;go_wp2_with fail
 go_ret2;exact⟨gw4,db,rfl,HD1.out.grows gy4,HL.out.grows HD.out (kt.tr gy4),by omega⟩
theorem mP1 {x:zU} {m:Mx} (h:bB0 x=some m):m.OK:=by
 unfold bB0 at h;split at h
 ·rename_i hn
  cases h
  exact cT0 _ (gE0 hn)
 ·cases h
structure gA0 (x:zU) (w:World) (db:Nat) (m:Mx):Prop where
 src:bB0 x=some m
 ok:m.OK
 made:makeE x.p (some m) x.e=0
 d:gN w db x.p m (sortS x.e)
theorem gA0.dk {x:zU} {w:World} {db:Nat} {m:Mx} (h:gA0 x w db m):cK x.p m (sortS x.e):=zH h.made
theorem gA0.grows {x:zU} {w w':World} {db:Nat} {m:Mx} (h:gA0 x w db m) (hg:aB w w'):gA0 x w' db m:=⟨h.src,h.ok,h.made,h.d.grows hg⟩
def OpP (x:zU) (w:World) (e:Ending) (w':World):Prop :=
 aB w w'/\((makeE x.p (bB0 x) x.e≠0/\e=.returned (.tuple #[.pointer none,.int .i64 (makeE x.p (bB0 x) x.e)]))\/∃db m,e=.returned (.tuple #[.pointer (some ⟨db,0,none⟩),.int .i64 0])/\gA0 x w' db m)
theorem qW0 (x:zU) (A:yT) (w:World) (he:Env w) (ag:eT0 x) (hl:mO x=true) (ac:uS w A x) :
  Calls Tryz.prog 16 #[A.agg x] w (OpP x w):=by
 obtain⟨_,_,_,_,yx⟩:=jT0 hl;obtain⟨vh,kn,iz⟩:=qM1 hl ag;obtain⟨pa,pc,sa,sc,ea,ec⟩:=A;obtain⟨xp,xd,xs,xe⟩:=x;obtain⟨W1,bu⟩:=exq (w.alloc (.cells #[.slice pa xp.length pc,.int .i64 xd,.slice sa xs.length sc,.slice ea xe.length ec] 30));have aq:aB w W1:=by rw[bu];exact aB.alloc _ _
 obtain⟨bc,_⟩:=cF (show aB (w.alloc (.cells #[.slice pa xp.length pc,.int .i64 xd,.slice sa xs.length sc,.slice ea xe.length ec] 30)) W1 by rw[bu];exact aB.refl _)
 have q0:=bc 0 _ rfl;have q1:=bc 1 _ rfl;have q2:=bc 2 _ rfl;have q3:=bc 3 _ rfl;have CI:=Aa (aQ1 ⟨xp,xd,xs,xe⟩ ⟨pa,pc,sa,sc,ea,ec⟩ W1 (he.grows aq) ag kn (ac.grows aq));unfold yT.agg yT.cells cZ at CI;simp only at CI;show Calls _ _ #[.agg #[.slice pa xp.length pc,.int .i64 xd,.slice sa xs.length sc,.slice ea xe.length ec]] _ (OpP ⟨xp,xd,xs,xe⟩ w)
 by_cases h0:makeE xp (bB0 ⟨xp,xd,xs,xe⟩) xe=0
 ·obtain⟨m,hm⟩:∃m,bB0 ⟨xp,xd,xs,xe⟩=some m:=by
   cases hs:bB0 ⟨xp,xd,xs,xe⟩ with
   | some m=>exact⟨m,rfl⟩
   | none =>
    rw[hs]at h0
    have:=(qO h0).1
    unfold xW at this;split at this<;>cases this
  rw[hm]at h0;have hmo:=mP1 hm;have xy:=mK1 hmo yx h0;have qg:=bC0 h0 xy;have hdk:=zH h0;rw[hm,qg]at CI;have CO:=λ(b4:Option Addr) (d4:Nat) (u:World) (hu:aB w u) h1 h2 h3 h4=>Aa (zH0 xp m (sortS xe) b4 d4 u (he.grows hu) hdk hmo (λy hy=>vh y (fB0 hy)) xy h1 h2 h3 h4);have HP:∀w' db,aB w w'->gN w' db xp m (sortS xe)->OpP ⟨xp,xd,xs,xe⟩ w (.returned (.tuple #[.pointer (some ⟨db,0,none⟩),.int .i64 0])) w':=λw' db hg hd=>⟨hg,.inr ⟨db,m,rfl,hm,hmo,h0,hd⟩⟩;have HP:=Aa HP;generalize sortS xe=es at CI CO HP ⊢;clear he ag hl hm hmo h0 ac vh kn iz xy qg hdk bc yx;go_enter Tryz.func16,Tryz.ntmps16
  go_wp2_with fail
  rw[<-bu];clear bu;refine CI.out.mono ?_;rintro e w2 ⟨af,v2,rfl,gw⟩;have tg:aV w2 W1.heap.size 5 1 aZ v2 (file14 (imgP xp m es)):=gw;obtain⟨b4,d4,rfl,hd4,vk,xx⟩:=tg.at_ bI.len;have hn4:=cJ tg;have g2:=aq.tr af;have CO2:=CO b4 d4 w2 g2 hd4 vk hn4 xx;generalize (file14 (imgP xp m es)).length=FL at CO2 ⊢;clear gw tg hd4 vk hn4 xx CI CO q0 q1 q2 q3;go_wp2_with fail
  refine CO2.out.mono ?_;rintro e w3 ⟨ay,db,rfl,mf,_,_⟩;have HF:=HP.out w3 db (g2.tr ay) mf;clear CO2 HP mf;go_wp2_with fail
  go_ret2;exact HF
 ·have qg:=tI0 h0
  rw[qg]at CI;have HP:∀w' E,E=makeE xp (bB0 ⟨xp,xd,xs,xe⟩) xe->aB w w'->OpP ⟨xp,xd,xs,xe⟩ w (.returned (.tuple #[.pointer none,.int .i64 E])) w':=λw' E hE hg=>⟨hg,.inl ⟨h0,by rw[hE]⟩⟩;have HP:=Aa HP;obtain⟨E,hE⟩:=exq (makeE xp (bB0 ⟨xp,xd,xs,xe⟩) xe);have HEE:=Aa hE;simp only at CI;rw[<-hE]at CI h0;have hEb:(E != 0)=true:=by simpa using h0
  clear he ag hl ac vh kn iz qg bc yx hE h0;go_enter Tryz.func16,Tryz.ntmps16
  go_wp2_with fail
  rw[<-bu];clear bu;refine CI.out.mono ?_;rintro e w2 ⟨af,v2,rfl,gw⟩;have HF:=HP.out w2 E HEE.out (aq.tr af);clear CI gw q0 q1 q2 q3 HP HEE;go_wp2_with fail
  go_ret2;exact HF
theorem yQ0 (l:List Nd) (a b:Option Addr) (c d:Nat) (w:World) (hl:l.length<=140737488355328) (h1:aG w a 7 (l.map dX)) (h2:aG w b 7 (l.map dX)) :
  Calls Tryz.prog 20 #[.slice a l.length c,.slice b l.length d] w λe w'=>e=.returned (.bool true)/\aB w w':=by
 have H1:=Aa h1;have H2:=Aa h2;clear h1 h2;go_enter Tryz.func20,Tryz.ntmps20
 go_wp2_with fail
 go_loopw [5] (λi wr=>∃j:Nat,j<=l.length/\i=.int .i64 j/\aB w wr) (λi _=>l.length-(intOf i).toNat)
 case atStart=>exact⟨0,Ag _,rfl,aB.refl _⟩
 case round =>
  obtain⟨j,hj,rfl,hg⟩:=hrel;by_cases ae:j<l.length
  ·obtain⟨⟨xf,xt,xs,xl,xr,xc,xk⟩,hx⟩:∃x,l[j]?=some x:=⟨_,Ad ae⟩
   obtain⟨ba,oa,rfl,bj⟩:=(H1.out.grows hg).get (aK ae);obtain⟨bb,ob,rfl,m0⟩:=(H2.out.grows hg).get (aK ae);have gl:(j:Int)<l.length:=by omega
   have a0:∀x:Ext aB wr.drew,x.u.cell? ⟨ba,oa+j*7,none⟩=some (.int .i64 xf):=aF ((aB.drew wr).cell (bj j _ hx 0 _ rfl));have a1:∀x:Ext aB wr.drew,x.u.cell? ⟨ba,oa+j*7+1,none⟩=some (.int .i64 xt):=aF ((aB.drew wr).cell (bj j _ hx 1 _ rfl));have a2:∀x:Ext aB wr.drew,x.u.cell? ⟨ba,oa+j*7+2,none⟩=some (.string xs):=aF ((aB.drew wr).cell (bj j _ hx 2 _ rfl));have a3:∀x:Ext aB wr.drew,x.u.cell? ⟨ba,oa+j*7+3,none⟩=some (.int .i64 xl):=aF ((aB.drew wr).cell (bj j _ hx 3 _ rfl));have a4:∀x:Ext aB wr.drew,x.u.cell? ⟨ba,oa+j*7+4,none⟩=some (.int .i64 xr):=aF ((aB.drew wr).cell (bj j _ hx 4 _ rfl));have a5:∀x:Ext aB wr.drew,x.u.cell? ⟨ba,oa+j*7+5,none⟩=some (.int .i64 xc):=aF ((aB.drew wr).cell (bj j _ hx 5 _ rfl));have a6:∀x:Ext aB wr.drew,x.u.cell? ⟨ba,oa+j*7+6,none⟩=some (.int .i64 xk):=aF ((aB.drew wr).cell (bj j _ hx 6 _ rfl));have b0:∀x:Ext aB wr.drew,x.u.cell? ⟨bb,ob+j*7,none⟩=some (.int .i64 xf):=aF ((aB.drew wr).cell (m0 j _ hx 0 _ rfl));have b1:∀x:Ext aB wr.drew,x.u.cell? ⟨bb,ob+j*7+1,none⟩=some (.int .i64 xt):=aF ((aB.drew wr).cell (m0 j _ hx 1 _ rfl));have b2:∀x:Ext aB wr.drew,x.u.cell? ⟨bb,ob+j*7+2,none⟩=some (.string xs):=aF ((aB.drew wr).cell (m0 j _ hx 2 _ rfl));have b3:∀x:Ext aB wr.drew,x.u.cell? ⟨bb,ob+j*7+3,none⟩=some (.int .i64 xl):=aF ((aB.drew wr).cell (m0 j _ hx 3 _ rfl));have b4:∀x:Ext aB wr.drew,x.u.cell? ⟨bb,ob+j*7+4,none⟩=some (.int .i64 xr):=aF ((aB.drew wr).cell (m0 j _ hx 4 _ rfl));have b5:∀x:Ext aB wr.drew,x.u.cell? ⟨bb,ob+j*7+5,none⟩=some (.int .i64 xc):=aF ((aB.drew wr).cell (m0 j _ hx 5 _ rfl));have b6:∀x:Ext aB wr.drew,x.u.cell? ⟨bb,ob+j*7+6,none⟩=some (.int .i64 xk):=aF ((aB.drew wr).cell (m0 j _ hx 6 _ rfl));have e2:(xs.toList==xs.toList)=true:=by simp
   clear bj m0 hx;go_wp2_with fail
   refine bK (bB 9 []) (by kernel_rfl) (λd _ _ _ _ h=>by cases d<;>exact h) ?_
   iterate 9 (refine aH rfl (λK hK=>?_);go_simp;refine hK _ ?_;clear hK K)
   refine bQ ?_;clear a0 a1 a2 a3 a4 a5 a6 b0 b1 b2 b3 b4 b5 b6;go_wp2_with fail
   go_roundw
   case rel=>exact⟨j+1,ae,by go_num,hg.dr⟩
   case measure=>simp[intOf];omega
  ·obtain rfl:j=l.length:=by omega
   go_wp2_with fail
   go_ret;exact⟨rfl,hg⟩
def qV:List En:=[⟨⟨#[227,129,139]⟩,⟨#[232,154,138]⟩,1,1,100⟩]
def bW0:zU:=⟨yX,0,[],qV⟩
def uD0:Mx:=newM 2 0
theorem pU0:bB0 bW0=some uD0:=by
 unfold bB0 bW0;rw[if_pos (by decide +kernel)];rfl
theorem iB0:makeE yX (some uD0) qV=0:=by decide +kernel
theorem tQ0:mO bW0=true:=by decide +kernel
theorem sV0:eT0 bW0 where
 p:=by decide
 s:=λy hy=>by cases hy
 e:=λy hy=>by
  rcases List.mem_cons.1 hy with rfl|hy
  ·exact⟨by decide,by decide,by decide,by decide,by decide⟩
  ·cases hy
 d:=(show (Lit.int .i64 0).wf=true by kernel_rfl)
 lp:=by decide
 ls:=by decide
 le:=by decide
theorem kO0:sortS qV=qV:=by decide +kernel
theorem tJ0:plainP yX=1:=by decide +kernel
theorem fA0 (w:World):Calls Tryz.prog 26 #[] w λe w'=>∃A:yT,e=.returned (A.agg bW0)/\uS w' A bW0/\aB w w':=by
 obtain⟨W0,cq⟩:=exq (w.alloc (.cells #[.slice (some ⟨w.heap.size+1,0,none⟩) 2 2,.int .i64 0,.slice none 0 0,.slice (some ⟨w.heap.size+1+1,0,none⟩) 1 1] 30));obtain⟨W1,bu⟩:=exq (W0.alloc (.cells (yX.flatMap bN).toArray 110));obtain⟨W2,ei⟩:=exq (W1.alloc (.cells (qV.flatMap bF).toArray 62));have dg:aB w W0:=by rw[cq];exact aB.alloc _ _
 have aq:aB W0 W1:=by rw[bu];exact aB.alloc _ _
 have af:aB W1 W2:=by rw[ei];exact aB.alloc _ _
 have kp:W0.heap.size=w.heap.size+1:=by rw[cq];simp
 have ed:W1.heap.size=w.heap.size+1+1:=by rw[bu];simp[kp]
 have hp:aG W2 (some ⟨w.heap.size+1,0,none⟩) 2 (yX.map bN):=by
  have h:=vY (enc:=bN) (k:=2) (w:=W0) (t:=110) (fz:=(0,0)) (cs:=(yX.flatMap bN).toArray) (λ_=>rfl) yX rfl;rw[kp,<-bu]at h;exact h.grows af
 have he:aG W2 (some ⟨w.heap.size+1+1,0,none⟩) 5 (qV.map bF):=by
  have h:=vY (enc:=bF) (k:=5) (w:=W1) (t:=62) (fz:=(0,0)) (cs:=(qV.flatMap bF).toArray) (λ_=>rfl) qV rfl;rw[ed,<-ei]at h;exact h
 have HSRC:Hid (uS W2 ⟨some ⟨w.heap.size+1,0,none⟩,2,none,0,some ⟨w.heap.size+1+1,0,none⟩,1⟩ bW0/\aB w W2):=⟨⟨hp,aG.nil _ _ _,he⟩,aB.trans _ _ _ dg (aB.trans _ _ _ aq af)⟩;obtain⟨bc,_⟩:=cF (w:=w) (cs:=#[.slice (some ⟨w.heap.size+1,0,none⟩) 2 2,.int .i64 0,.slice none 0 0,.slice (some ⟨w.heap.size+1+1,0,none⟩) 1 1]) (t:=30) (w':=W2) (by rw[<-cq];exact aB.trans _ _ _ aq af);have b0:=bc 0 _ rfl;have b1:=bc 1 _ rfl;have b2:=bc 2 _ rfl;have b3:=bc 3 _ rfl
 have hE:W2=((w.alloc (.cells #[.slice (some ⟨w.heap.size+1,0,none⟩) 2 2,.int .i64 0,.slice none 0 0,.slice (some ⟨w.heap.size+1+1,0,none⟩) 1 1] 30)).alloc (.cells #[.string ⟨#[66,79,83]⟩,.int .i64 0,.string ⟨#[110,111,117,110]⟩,.int .i64 0] 110)).alloc (.cells #[.string ⟨#[227,129,139]⟩,.string ⟨#[232,154,138]⟩,.int .i64 1,.int .i64 1,.int .i64 100] 62):=by
  rw[ei,bu,cq];rfl
 have HE:=Aa hE;clear cq bu ei dg aq af kp ed hp he bc hE;go_enter Tryz.func26,Tryz.ntmps26
 go_wp2_with fail
 rw[<-HE.out];refine bodyPost_ret (v:=.agg #[.slice (some ⟨w.heap.size+1,0,none⟩) 2 2,.int .i64 0,.slice none 0 0,.slice (some ⟨w.heap.size+1+1,0,none⟩) 1 1]) (by simp[results,Tryz.results26,go_sem,b0,b1,b2,b3]) rfl ⟨_,rfl,HSRC.out.1,HSRC.out.2⟩
theorem gJ0 (f t:Int) (s:ByteArray) (c k:Int) (w:World):Calls Tryz.prog 28 #[.int .i64 f,.int .i64 t,.string s,.int .i64 c,.int .i64 k] w λe w'=>e=.returned (.agg #[.int .i64 f,.int .i64 t,.string s,.int .i64 1,.int .i64 1,.int .i64 c,.int .i64 k])/\aB w w':=by
 obtain⟨W1,bu⟩:=exq (w.alloc (.cells #[.int .i64 f,.int .i64 t,.string s,.int .i64 1,.int .i64 1,.int .i64 c,.int .i64 k] 49));have aq:aB w W1:=by rw[bu];exact aB.alloc _ _
 obtain⟨bc,_⟩:=cF (show aB (w.alloc (.cells #[.int .i64 f,.int .i64 t,.string s,.int .i64 1,.int .i64 1,.int .i64 c,.int .i64 k] 49)) W1 by rw[bu];exact aB.refl _)
 have b0:=bc 0 _ rfl;have b1:=bc 1 _ rfl;have b2:=bc 2 _ rfl;have b3:=bc 3 _ rfl;have b4:=bc 4 _ rfl;have b5:=bc 5 _ rfl;have b6:=bc 6 _ rfl;have HW:=Aa bu;clear bc bu;go_enter Tryz.func28,Tryz.ntmps28
 go_wp2_with fail
 rw[<-HW.out];refine bodyPost_ret (v:=.agg #[.int .i64 f,.int .i64 t,.string s,.int .i64 1,.int .i64 1,.int .i64 c,.int .i64 k]) (by simp[results,Tryz.results28,go_sem,b0,b1,b2,b3,b4,b5,b6]) rfl ⟨rfl,aq⟩
structure xN where
 s:zU
 x:ByteArray
 l:List Lrn
structure nS0 where
 s:yT
 la:Option Addr
 lc:Nat
def nS0.agg (A:nS0) (c:xN):Value := .agg #[.slice A.s.pa c.s.p.length A.s.pc,.int .i64 c.s.d,.slice A.s.sa c.s.s.length A.s.sc,.slice A.s.ea c.s.e.length A.s.ec,.string c.x,.slice A.la c.l.length A.lc]
structure kH0 (w:World) (A:nS0) (c:xN):Prop where
 s:uS w A.s c.s
 l:aG w A.la 3 (c.l.map iW)
theorem kH0.grows {w w':World} {A:nS0} {c:xN} (h:kH0 w A c) (hg:aB w w'):kH0 w' A c:=⟨h.s.grows hg,h.l.grows hg⟩
structure jJ1 (c:xN):Prop where
 s:eT0 c.s
 x:c.x.size<=140737488355328
 l:∀y∈c.l,fK0 y
 ll:c.l.length<=140737488355328
def zY0 (y:Lrn):Bool:=decide (400<y.r.size)||decide (400<y.s.size)
def rA (c:xN):Bool := !(c.l.take 40).any zY0&&(mO c.s&&(decide (c.x.size<=400)&&decide (c.l.length<=40)))
theorem bW1 {c:xN} (h:rA c=true):mO c.s=true/\c.x.size<=400/\c.l.length<=40/\∀y∈c.l,y.r.size<=400/\y.s.size<=400:=by
 unfold rA at h;simp only[Ax,Au,decide_eq_true_eq,Av]at h;obtain⟨h1,h2,h3,h4⟩:=h;rw[List.take_of_length_le h4]at h1;refine⟨h2,h3,h4,λy hy=>?_⟩
 have:=h1 y hy
 unfold zY0 at this;simp at this;exact this
theorem nU0 (c:xN) (A:nS0) (w:World) (ag:jJ1 c) (ac:kH0 w A c) :
  Calls Tryz.prog 15 #[A.agg c] w λe w'=>e=.returned (.bool (rA c))/\aB w w':=by
 have mh:=ag.ll;have hxx:=ag.x;obtain⟨⟨xp,xd,xs,xe⟩,x,ls⟩:=c;obtain⟨⟨pa,pc,sa,sc,ea,ec⟩,la,lc⟩:=A;simp only at mh hxx;obtain⟨W0,cq⟩:=exq (w.alloc (.cells #[.slice pa xp.length pc,.int .i64 xd,.slice sa xs.length sc,.slice ea xe.length ec,.string x,.slice la ls.length lc] 33));have dg:aB w W0:=by rw[cq];exact aB.alloc _ _
 obtain⟨bc,_⟩:=cF (show aB (w.alloc (.cells #[.slice pa xp.length pc,.int .i64 xd,.slice sa xs.length sc,.slice ea xe.length ec,.string x,.slice la ls.length lc] 33)) W0 by rw[cq];exact aB.refl _)
 have q0:=bc 0 _ rfl;have q1:=bc 1 _ rfl;have q2:=bc 2 _ rfl;have q3:=bc 3 _ rfl;have q4:=bc 4 _ rfl;have q5:=bc 5 _ rfl;have CL:=Aa (yY0 ⟨xp,xd,xs,xe⟩ ⟨pa,pc,sa,sc,ea,ec⟩ W0 ag.s (ac.s.grows dg));unfold yT.agg yT.cells at CL;simp only at CL;have HL:Hid (aG W0 la 3 (ls.map iW)):=ac.l.grows dg
 have HQ:Hid (∀k:Nat,k<=40->k<=ls.length->(∀y∈ls.take k,zY0 y=false)->(k=40\/k=ls.length)->rA ⟨⟨xp,xd,xs,xe⟩,x,ls⟩=(mO ⟨xp,xd,xs,xe⟩&&(decide (x.size<=400)&&decide (ls.length<=40)))):=λk h1 h2 h3 h4=>by
  unfold rA;simp only
  have:(ls.take 40).any zY0=false:=by
   rw[Av];intro y hy
   have hy2:y∈ls.take k:=by
    rcases h4 with rfl|rfl
    ·exact hy
    ·rw[Ao];exact List.mem_of_mem_take hy
   rw[h3 y hy2];decide
  rw[this];rfl
 have HB:Hid (∀(k:Nat) (y:Lrn),k<40->ls[k]?=some y->zY0 y=true->rA ⟨⟨xp,xd,xs,xe⟩,x,ls⟩=false):=λk y h1 h2 h3=>by
  unfold rA;simp only
  have:(ls.take 40).any zY0=true:=List.any_eq_true.2 ⟨y,Af (by rw[List.getElem?_take_of_lt h1];exact h2),h3⟩
  rw[this];rfl
 show Calls _ _ #[.agg #[.slice pa xp.length pc,.int .i64 xd,.slice sa xs.length sc,.slice ea xe.length ec,.string x,.slice la ls.length lc]] _ _
 obtain⟨LB,hLB⟩:=exq (rA ⟨⟨xp,xd,xs,xe⟩,x,ls⟩);rw[<-hLB]at HQ HB ⊢;obtain⟨LS,hLS⟩:=exq (mO ⟨xp,xd,xs,xe⟩);rw[<-hLS]at HQ CL;clear hLB hLS ac bc ag;go_enter Tryz.func15,Tryz.ntmps15
 go_wp2_with fail
 rw[<-cq];clear cq;go_loopw [3] (λi wr=>∃k:Nat,k<=ls.length/\k<=40/\i=.int .i64 k/\Hid (∀y∈ls.take k,zY0 y=false)/\wr=W0) (λi _=>ls.length-(intOf i).toNat)
 case atStart=>exact⟨0,Ag _,Ag _,rfl,(λy hy=>by simp at hy),rfl⟩
 case round =>
  obtain⟨k,hk,tf,rfl,hF,rfl⟩:=hrel;by_cases ae:k<ls.length/\k<40
  ·obtain⟨ae,adl⟩:=ae
   have cn:(k:Int)<ls.length:=by omega
   have ako:(k:Int)<40:=by omega
   obtain⟨⟨yr,ys,yb⟩,hx⟩:∃y,ls[k]?=some y:=⟨_,Ad ae⟩;obtain⟨ba,oa,rfl,bj⟩:=HL.out.get (aK ae);have c0:wr.cell? ⟨ba,oa+k*3,none⟩=some (.string yr):=bj k _ hx 0 _ rfl;have c1:wr.cell? ⟨ba,oa+k*3+1,none⟩=some (.string ys):=bj k _ hx 1 _ rfl;by_cases et:400<yr.size
   ·have kr:(400:Int)<yr.size:=by omega
    have HX:Hid (LB=false):=HB.out k _ adl hx (by unfold zY0;simp[et]);clear et hx bj hF HQ;go_wp2_with fail
    go_ret;exact⟨by rw[HX.out];rfl,dg⟩
   ·have kr:¬(400:Int)<yr.size:=by omega
    by_cases ct:400<ys.size
    ·have hbj:(400:Int)<ys.size:=by omega
     have HX:Hid (LB=false):=HB.out k _ adl hx (by unfold zY0;simp[ct]);clear et ct hx bj hF HQ;go_wp2_with fail
     go_ret;exact⟨by rw[HX.out];rfl,dg⟩
    ·have hbj:¬(400:Int)<ys.size:=by omega
     have HF2:Hid (∀y∈ls.take (k+1),zY0 y=false):=λy hy=>by
      rw[bM hx]at hy;rcases List.mem_append.1 hy with hy|hy
      ·exact hF.out y hy
      ·rw[List.mem_singleton.1 hy];unfold zY0;simp;omega
     clear et ct hx bj hF;go_wp2_with fail
     go_roundw
     case rel=>exact⟨k+1,ae,by omega,by go_num,HF2,trivial⟩
     case measure=>simp[intOf];omega
  ·have HX:=Aa (HQ.out k tf hk hF.out (by omega))
   clear HQ HB hF;have nz:∀b:Bool,(decide (x.size<=400)=b)->decide ((x.size:Int)<=400)=b:=λb h=>by rw[<-h];exact decide_eq_decide.2 (by omega)
   have hli:∀b:Bool,(decide (ls.length<=40)=b)->decide ((ls.length:Int)<=40)=b:=λb h=>by rw[<-h];exact decide_eq_decide.2 (by omega)
   have fu:=nz _ rfl;have lg:=hli _ rfl;have key:∀w',aB wr w'->(Ending.returned (.bool (LS&&(decide (x.size<=400)&&decide (ls.length<=40))))=.returned (.bool LB)/\aB w w'):=λw' hg=>⟨by rw[HX.out],dg.tr hg⟩;have KEY:=Aa key;clear key HX nz hli;generalize decide (x.size<=400)=B1 at KEY fu;generalize decide (ls.length<=40)=B2 at KEY lg
   have ais:(decide ((k:Int)<ls.length)=false)\/(decide ((k:Int)<ls.length)=true/\decide ((k:Int)<40)=false):=by
    by_cases h1:k<ls.length
    ·exact Or.inr ⟨decide_eq_true (by omega),decide_eq_false (by omega)⟩
    ·exact Or.inl (decide_eq_false (by omega))
   rcases ais with ml|⟨ml,hc2⟩
   ·cases LS with
    | false =>
     go_wp2_with fail
     all_goals
      refine CL.out.mono ?_;rintro e w2 ⟨rfl,af⟩;go_wp2_with fail
      go_ret;exact KEY.out _ af
    | true =>
     cases B1 with
     | false =>
      go_wp2_with fail
      all_goals
       refine CL.out.mono ?_;rintro e w2 ⟨rfl,af⟩;have q4:=af.cell q4;have q5:=af.cell q5;go_wp2_with fail
       go_ret;exact KEY.out _ af
     | true =>
      go_wp2_with fail
      all_goals
       refine CL.out.mono ?_;rintro e w2 ⟨rfl,af⟩;have q4:=af.cell q4;have q5:=af.cell q5;go_wp2_with fail
       go_ret;exact KEY.out _ af
   ·cases LS with
    | false =>
     go_wp2_with fail
     all_goals
      refine CL.out.mono ?_;rintro e w2 ⟨rfl,af⟩;go_wp2_with fail
      go_ret;exact KEY.out _ af
    | true =>
     cases B1 with
     | false =>
      go_wp2_with fail
      all_goals
       refine CL.out.mono ?_;rintro e w2 ⟨rfl,af⟩;have q4:=af.cell q4;have q5:=af.cell q5;go_wp2_with fail
       go_ret;exact KEY.out _ af
     | true =>
      go_wp2_with fail
      all_goals
       refine CL.out.mono ?_;rintro e w2 ⟨rfl,af⟩;have q4:=af.cell q4;have q5:=af.cell q5;go_wp2_with fail
       go_ret;exact KEY.out _ af
theorem zJ0 {s:ByteArray} (h:wchk s=0):∃C,iQ C/\C.flatten=bl s/\C≠[]/\C.length<=64:=by
 have hc:0<countS s/\countS s<=64:=by
  unfold wchk at h;split at h
  ·cases h
  ·split at h
   ·cases h
   ·split at h
    ·cases h
    ·omega
 have hv:Bc (bl s)=true:=by
  cases hv:Bc (bl s) with
  | true=>rfl
  | false =>
   unfold countS at hc;rw[if_neg (by rw[show s.data.toList=bl s from rfl,hv];decide)]at hc
   omega
 rw[nR hv]at hc;obtain⟨C,hC,hf⟩:=kY.1 hv
 have hl:(bD (bl s)).length=C.length:=by
  rw[<-hf,(fR hC).2];unfold uP;rw[Ab]
 rw[hl]at hc;exact⟨C,hC,hf,λe=>by rw[e]at hc;simp at hc,by omega⟩
theorem uL0 {s:ByteArray} {C:List (List UInt8)} (hC:iQ C) (hf:C.flatten=bl s) (h0:C≠[]) (me:C.length<=64):wchk s=0:=by
 have hv:Bc (bl s)=true:=kY.2 ⟨C,hC,hf⟩
 have hl:(bD (bl s)).length=C.length:=by
  rw[<-hf,(fR hC).2];unfold uP;rw[Ab]
 have:=List.length_pos_iff.2 h0
 unfold wchk;rw[nR hv,hl,if_neg (by omega),if_neg (by omega),if_neg (by omega)]
theorem wnodes_nil (s:ByteArray) (la:Option Addr) (ln lc:Nat) (w:World) :
  Calls Tryz.prog 18 #[.pointer none,.string s,.slice la ln lc] w λe w'=>e=.returned (.tuple #[.slice none 0 0,.int .i64 9])/\w'=w:=by
 go_enter Tryz.func18,Tryz.ntmps18
 go_wp2_with fail
 go_ret2;exact⟨rfl,rfl⟩
theorem uA0 (db:Nat) (s:ByteArray) (la:Option Addr) (ln lc:Nat) (w:World) (he:Env w) (hs:s.size<9223372036854775807) (h:wchk s≠0) :
  Calls Tryz.prog 18 #[.pointer (some ⟨db,0,none⟩),.string s,.slice la ln lc] w λe w'=>e=.returned (.tuple #[.slice none 0 0,.int .i64 (wchk s)])/\aB w w':=by
 have CC:=Aa (qN s w hs he);obtain⟨E,hE⟩:=exq (wchk s);rw[<-hE]at CC h ⊢;have hEb:(E != 0)=true:=by simpa using h
 clear hE h he;go_enter Tryz.func18,Tryz.ntmps18
 go_wp2_with fail
 refine CC.out.mono ?_;rintro e w2 ⟨rfl,hg⟩;go_wp2_with fail
 go_ret2;exact⟨rfl,hg⟩
theorem kD1:cK yX uD0 qV:=by
 have:=zH iB0
 rw[kO0]at this;exact this
theorem jL0 (s:ByteArray) (C:List (List UInt8)) (ls:List Lrn) (la:Option Addr) (lc:Nat) (l:List Nd) (wa:Option Addr) (wc:Nat) (w:World) (he:Env w)
  (hC:iQ C) (hf:C.flatten=bl s) (h0:C≠[]) (me:C.length<=64) (hs:s.size<=1048576) (q7:ls.length<=100000) (iq:∀x∈ls,fK0 x) (hlz:∀x∈ls,x.r.size<=1048576/\x.s.size<=1048576) (hla:aG w la 3 (ls.map iW))
  (hl:fS C qV ls 1=l) (mh:l.length<=10000) (hwa:aG w wa 7 (l.map dX)) :
  Calls Tryz.prog 27 #[.string s,.slice la ls.length lc,.slice wa l.length wc] w λe w'=>e=.returned (.bool true)/\aB w w':=by
 have HE:=Aa he;have CO:=λ(A:yT) (u:World) (hu:aB w u) (ac:uS u A bW0)=>Aa (qW0 bW0 A u (HE.out.grows hu) sV0 tQ0 ac);have CN:=λ(db:Nat) (u:World) (hu:aB w u) (hd:gN u db yX uD0 qV)=>Aa (eB0 yX uD0 qV db s C ls la lc u (HE.out.grows hu) kD1 hd hC hf h0 me (by decide) q7 iq hlz (hla.grows hu) hs (uL0 hC hf h0 me));rw[tJ0,show ((1:Nat):Int)=1 from rfl,hl]at CN
 have HWA:=Aa hwa;clear hC hf h0 me q7 iq hlz hla hl hwa he;go_enter Tryz.func27,Tryz.ntmps27
 go_wp2_with fail
 refine(fA0 w).mono ?_;rintro e w1 ⟨A,rfl,hA,aq⟩;have CO2:=CO A w1 aq hA;clear CO hA;go_wp2_with fail
 refine CO2.out.mono ?_;rintro e w2 ⟨af,hd⟩;clear CO2
 have g9:∃db,e=.returned (.tuple #[.pointer (some ⟨db,0,none⟩),.int .i64 0])/\gN w2 db yX uD0 qV:=by
  rcases hd with ⟨h,_⟩|⟨db,m,rfl,hd⟩
  ·rw[pU0]at h
   exact absurd iB0 h
  ·have hm:=hd.src
   rw[pU0]at hm;cases hm
   have:=hd.d
   rw[show bW0.e=qV from rfl,kO0]at this
   exact⟨db,rfl,this⟩
 clear hd;obtain⟨db,rfl,hd⟩:=g9;have g2:=aq.tr af;have CN2:=CN db w2 g2 hd;clear CN;go_wp2_with fail
 refine CN2.out.mono ?_;rintro e w3 ⟨ay,v3,rfl,m4⟩;rw[if_pos mh]at m4;obtain⟨a3,c3,rfl,_,_,fq⟩:=m4.at_ oE1.len;have CS:=Aa (yQ0 l a3 wa c3 wc w3 (by omega) fq (HWA.out.grows (g2.tr ay)));have ta:(if l.length<=10000 then (0:Int) else 7)=0:=if_pos mh
 rw[ta];clear CN2 ta m4 fq hd;go_wp2_with fail
 refine CS.out.mono ?_;rintro e w4 ⟨rfl,cp⟩;go_wp2_with fail
 go_ret;exact⟨rfl,(g2.tr ay).tr cp⟩
def ka:List UInt8:=[227,129,139]
theorem lI1 {c:List UInt8} (h:(!decide (c=[])&&(decide ((Ay c).2=c.length) && !decide ((Ay c).1=65533/\(Ay c).2=1)))=true):dR0 c:=by
 simp only[Ax,Au,decide_eq_true_eq,decide_eq_false_iff_not]at h;exact⟨h.1,h.2.1,h.2.2⟩
theorem aR1:iQ [ka]:=λc hc=>by
 rw[List.mem_singleton.1 hc];exact lI1 (by decide +kernel)
def pL1 (f t:Int) (s:ByteArray) (c k:Int):Nd:=⟨f,t,s,1,1,c,k⟩
def nJ1:Nd:=pL1 0 1 ⟨#[232,154,138]⟩ 100 1
def nKa:Nd:=pL1 0 1 ⟨#[227,129,139]⟩ 10000 3
def dH0:Nd:=pL1 0 1 ⟨#[232,154,138]⟩ 70 1
def dN1:List Lrn:=[⟨⟨#[227,129,139]⟩,⟨#[232,154,138]⟩,30⟩]
theorem nT1:fS [ka] qV [] 1=[nJ1,nKa]:=by decide +kernel
theorem oM1:fS [ka] qV dN1 1=[dH0,nKa]:=by decide +kernel
theorem oS1:wchk ⟨#[]⟩=1:=by decide +kernel
theorem oF1:wchk ⟨#[255]⟩=10:=by decide +kernel
theorem mR1:∀x∈dN1,fK0 x:=λx hx=>by
 rw[List.mem_singleton.1 hx];exact⟨by decide,by decide,zB (n:=30) (by decide) (by decide)⟩
theorem oK1:∀x∈dN1,x.r.size<=1048576/\x.s.size<=1048576:=by decide
theorem works21_any (w:World) (he:Env w):Calls Tryz.prog 14 #[] w λe w'=>e=.returned (.bool true)/\aB w w':=by
 have HE:=Aa he;have CA:=λ(wa:Option Addr) (wc:Nat) (u:World) (hu:aB w u) (h:aG u wa 7 ([nJ1,nKa].map dX))=>Aa (jL0 ⟨#[227,129,139]⟩ [ka] [] none 0 [nJ1,nKa] wa wc u (HE.out.grows hu) aR1 rfl (by simp) (by decide) (by decide) (by decide) (λx hx=>by cases hx) (λx hx=>by cases hx) (aG.nil _ _ _) nT1 (by decide) h);have CB:=λ(la:Option Addr) (lc:Nat) (wa:Option Addr) (wc:Nat) (u:World) (hu:aB w u) (hl:aG u la 3 (dN1.map iW)) (h:aG u wa 7 ([dH0,nKa].map dX))=>Aa (jL0 ⟨#[227,129,139]⟩ [ka] dN1 la lc [dH0,nKa] wa wc u (HE.out.grows hu) aR1 rfl (by simp) (by decide) (by decide) (by decide) mR1 oK1 hl oM1 (by decide) h);have C1:=λ(u:World) (hu:aB w u)=>Aa (qN ⟨#[]⟩ u (by decide) (HE.out.grows hu));have C2:=λ(u:World) (hu:aB w u)=>Aa (qN ⟨#[255]⟩ u (by decide) (HE.out.grows hu));rw[oS1]at C1;rw[oF1]at C2;clear he;go_enter Tryz.func14,Tryz.ntmps14
 go_wp2_with fail
 refine(gJ0 _ _ _ _ _ _).mono ?_;rintro e w1 ⟨rfl,aq⟩;obtain⟨b1,et⟩:=exq w1.heap.size;obtain⟨W1,bu⟩:=exq (w1.alloc (.cells #[.int .i64 0,.int .i64 1,.string ⟨#[232,154,138]⟩,.int .i64 1,.int .i64 1,.int .i64 100,.int .i64 1] 49));have gW1:aB w1 W1:=by rw[bu];exact aB.alloc _ _
 have bx1:∀j v,#[(.int .i64 0:Value),.int .i64 1,.string ⟨#[232,154,138]⟩,.int .i64 1,.int .i64 1,.int .i64 100,.int .i64 1][j]?=some v->W1.cell? ⟨b1,j,none⟩=some v:=λj v h=>by rw[bu,et];exact aT w1 _ _ (0,0) j v h
 go_wp2_with fail
 rw[<-bu,<-et];clear bu et;refine(gJ0 _ _ _ _ _ _).mono ?_;rintro e w2 ⟨rfl,af⟩;obtain⟨b2,ct⟩:=exq w2.heap.size;obtain⟨W2,ei⟩:=exq (w2.alloc (.cells #[.int .i64 0,.int .i64 1,.string ⟨#[227,129,139]⟩,.int .i64 1,.int .i64 1,.int .i64 10000,.int .i64 3] 49));have gW2:aB w2 W2:=by rw[ei];exact aB.alloc _ _
 have qv:∀j v,#[(.int .i64 0:Value),.int .i64 1,.string ⟨#[227,129,139]⟩,.int .i64 1,.int .i64 1,.int .i64 10000,.int .i64 3][j]?=some v->W2.cell? ⟨b2,j,none⟩=some v:=λj v h=>by rw[ei,ct];exact aT w2 _ _ (0,0) j v h
 go_wp2_with fail
 rw[<-ei,<-ct];clear ei ct;refine(gJ0 _ _ _ _ _ _).mono ?_;rintro e w3 ⟨rfl,ay⟩;obtain⟨b3,iv⟩:=exq w3.heap.size;obtain⟨W3,gp⟩:=exq (w3.alloc (.cells #[.int .i64 0,.int .i64 1,.string ⟨#[232,154,138]⟩,.int .i64 1,.int .i64 1,.int .i64 70,.int .i64 1] 49));have gW3:aB w3 W3:=by rw[gp];exact aB.alloc _ _
 have bx3:∀j v,#[(.int .i64 0:Value),.int .i64 1,.string ⟨#[232,154,138]⟩,.int .i64 1,.int .i64 1,.int .i64 70,.int .i64 1][j]?=some v->W3.cell? ⟨b3,j,none⟩=some v:=λj v h=>by rw[gp,iv];exact aT w3 _ _ (0,0) j v h
 have g3:aB w W3:=aq.tr (gW1.tr (af.tr (gW2.tr (ay.tr gW3))));have G1:aB W1 W3:=af.tr (gW2.tr (ay.tr gW3));have G2:aB W2 W3:=ay.tr gW3;have x0:W3.cell? ⟨b1,0,none⟩=some (.int .i64 0):=G1.cell (bx1 0 _ rfl);have x1:W3.cell? ⟨b1,1,none⟩=some (.int .i64 1):=G1.cell (bx1 1 _ rfl);have x2:W3.cell? ⟨b1,2,none⟩=some (.string ⟨#[232,154,138]⟩):=G1.cell (bx1 2 _ rfl);have x3:W3.cell? ⟨b1,3,none⟩=some (.int .i64 1):=G1.cell (bx1 3 _ rfl);have x4:W3.cell? ⟨b1,4,none⟩=some (.int .i64 1):=G1.cell (bx1 4 _ rfl);have x5:W3.cell? ⟨b1,5,none⟩=some (.int .i64 100):=G1.cell (bx1 5 _ rfl);have x6:W3.cell? ⟨b1,6,none⟩=some (.int .i64 1):=G1.cell (bx1 6 _ rfl);have y0:W3.cell? ⟨b2,0,none⟩=some (.int .i64 0):=G2.cell (qv 0 _ rfl);have y1:W3.cell? ⟨b2,1,none⟩=some (.int .i64 1):=G2.cell (qv 1 _ rfl);have y2:W3.cell? ⟨b2,2,none⟩=some (.string ⟨#[227,129,139]⟩):=G2.cell (qv 2 _ rfl);have y3:W3.cell? ⟨b2,3,none⟩=some (.int .i64 1):=G2.cell (qv 3 _ rfl);have y4:W3.cell? ⟨b2,4,none⟩=some (.int .i64 1):=G2.cell (qv 4 _ rfl);have y5:W3.cell? ⟨b2,5,none⟩=some (.int .i64 10000):=G2.cell (qv 5 _ rfl);have y6:W3.cell? ⟨b2,6,none⟩=some (.int .i64 3):=G2.cell (qv 6 _ rfl);obtain⟨W4,ox⟩:=exq (W3.alloc (.cells #[.int .i64 0,.int .i64 1,.string ⟨#[232,154,138]⟩,.int .i64 1,.int .i64 1,.int .i64 100,.int .i64 1,.int .i64 0,.int .i64 1,.string ⟨#[227,129,139]⟩,.int .i64 1,.int .i64 1,.int .i64 10000,.int .i64 3] 49));obtain⟨b4,vz⟩:=exq W3.heap.size;have hA4:aG W4 (some ⟨b4,0,none⟩) 7 ([nJ1,nKa].map dX):=by rw[ox,vz];exact vY (enc:=dX) (k:=7) (w:=W3) (t:=49) (fz:=(0,0)) (cs:=([nJ1,nKa].flatMap dX).toArray) (λ_=>rfl) [nJ1,nKa] rfl
 have gW4:aB W3 W4:=by rw[ox];exact aB.alloc _ _
 have CA4:=CA (some ⟨b4,0,none⟩) 2 W4 (g3.tr gW4) hA4;clear CA hA4;rw[gp]at x0 y0 x1 y1 x2 y2 x3 y3 x4 y4 x5 y5 x6 y6;have zb:b3+1=b4:=by rw[vz,gp,iv];simp
 have HZB:=Aa (And.intro gp (And.intro iv (And.intro ox zb)));clear gp iv ox zb vz;go_wp2_with fail
 rw[<-HZB.out.1,<-HZB.out.2.1,<-HZB.out.2.2.1,HZB.out.2.2.2];clear HZB x0 y0 x1 y1 x2 y2 x3 y3 x4 y4 x5 y5 x6 y6;refine CA4.out.mono ?_;rintro e w5 ⟨rfl,bk⟩;clear CA4;have G5:=gW4.tr bk;have y0:w5.cell? ⟨b2,0,none⟩=some (.int .i64 0):=(G2.tr G5).cell (qv 0 _ rfl);have y1:w5.cell? ⟨b2,1,none⟩=some (.int .i64 1):=(G2.tr G5).cell (qv 1 _ rfl);have y2:w5.cell? ⟨b2,2,none⟩=some (.string ⟨#[227,129,139]⟩):=(G2.tr G5).cell (qv 2 _ rfl);have y3:w5.cell? ⟨b2,3,none⟩=some (.int .i64 1):=(G2.tr G5).cell (qv 3 _ rfl);have y4:w5.cell? ⟨b2,4,none⟩=some (.int .i64 1):=(G2.tr G5).cell (qv 4 _ rfl);have y5:w5.cell? ⟨b2,5,none⟩=some (.int .i64 10000):=(G2.tr G5).cell (qv 5 _ rfl);have y6:w5.cell? ⟨b2,6,none⟩=some (.int .i64 3):=(G2.tr G5).cell (qv 6 _ rfl);have z0:w5.cell? ⟨b3,0,none⟩=some (.int .i64 0):=G5.cell (bx3 0 _ rfl);have z1:w5.cell? ⟨b3,1,none⟩=some (.int .i64 1):=G5.cell (bx3 1 _ rfl);have z2:w5.cell? ⟨b3,2,none⟩=some (.string ⟨#[232,154,138]⟩):=G5.cell (bx3 2 _ rfl);have z3:w5.cell? ⟨b3,3,none⟩=some (.int .i64 1):=G5.cell (bx3 3 _ rfl);have z4:w5.cell? ⟨b3,4,none⟩=some (.int .i64 1):=G5.cell (bx3 4 _ rfl);have z5:w5.cell? ⟨b3,5,none⟩=some (.int .i64 70):=G5.cell (bx3 5 _ rfl);have z6:w5.cell? ⟨b3,6,none⟩=some (.int .i64 1):=G5.cell (bx3 6 _ rfl);obtain⟨W6,ya⟩:=exq (w5.alloc (.cells #[.string ⟨#[227,129,139]⟩,.string ⟨#[232,154,138]⟩,.int .i64 30] 51));obtain⟨W7,hW7⟩:=exq (W6.alloc (.cells #[.int .i64 0,.int .i64 1,.string ⟨#[232,154,138]⟩,.int .i64 1,.int .i64 1,.int .i64 70,.int .i64 1,.int .i64 0,.int .i64 1,.string ⟨#[227,129,139]⟩,.int .i64 1,.int .i64 1,.int .i64 10000,.int .i64 3] 49));have k7:aB w5 W6:=by rw[ya];exact aB.alloc _ _
 have gW7:aB W6 W7:=by rw[hW7];exact aB.alloc _ _
 have zW6:W6.heap.size=w5.heap.size+1:=by rw[ya];simp
 have hL7:aG W7 (some ⟨w5.heap.size,0,none⟩) 3 (dN1.map iW):=by
  have h:=vY (enc:=iW) (k:=3) (w:=w5) (t:=51) (fz:=(0,0)) (cs:=(dN1.flatMap iW).toArray) (λ_=>rfl) dN1 rfl;rw[show (dN1.flatMap iW).toArray = #[.string ⟨#[227,129,139]⟩,.string ⟨#[232,154,138]⟩,.int .i64 30] from rfl,<-ya]at h
  exact h.grows gW7
 have uj:aG W7 (some ⟨w5.heap.size+1,0,none⟩) 7 ([dH0,nKa].map dX):=by
  rw[hW7,<-zW6];exact vY (enc:=dX) (k:=7) (w:=W6) (t:=49) (fz:=(0,0)) (cs:=([dH0,nKa].flatMap dX).toArray) (λ_=>rfl) [dH0,nKa] rfl
 have y0:=k7.cell y0;have z0:=k7.cell z0;have y1:=k7.cell y1;have z1:=k7.cell z1;have y2:=k7.cell y2;have z2:=k7.cell z2;have y3:=k7.cell y3;have z3:=k7.cell z3;have y4:=k7.cell y4;have z4:=k7.cell z4;have y5:=k7.cell y5;have z5:=k7.cell z5;have y6:=k7.cell y6;have z6:=k7.cell z6;rw[ya]at y0 z0 y1 z1 y2 z2 y3 z3 y4 z4 y5 z5 y6 z6;have g7:=((g3.tr G5).tr k7).tr gW7;have CB7:=CB (some ⟨w5.heap.size,0,none⟩) 1 (some ⟨w5.heap.size+1,0,none⟩) 2 W7 g7 hL7 uj;have HW:=Aa (And.intro ya hW7);clear CB hL7 uj ya hW7 zW6 bx1 qv bx3;go_wp2_with fail
 rw[<-HW.out.1,<-HW.out.2];refine CB7.out.mono ?_;rintro e w8 ⟨rfl,fg⟩;clear CB7;go_wp2_with fail
 refine(C1 w8 (g7.tr fg)).out.mono ?_;rintro e w9 ⟨rfl,fw⟩;go_wp2_with fail
 refine(C2 w9 ((g7.tr fg).tr fw)).out.mono ?_;rintro e x1 ⟨rfl,mu⟩;go_wp2_with fail
 go_ret;exact⟨rfl,((g7.tr fg).tr fw).tr mu⟩
end
end Go.Proofs.YtaogeadljgjpcaaGreatDoor
