/- The texts Mat3, one behind the other. -/
import Derived.Test.YtcijgkfpobpdbaaGreatDoorBq14
import Derived.Test.YtcijgkfpobpdbaaGreatDoorBq19
import Derived.Test.YtcijgkfpobpdbaaGreatDoorBq22
import Derived.Test.YtcijgkfpobpdbaaGreatDoorBq2
open List renaming length_append → Aa,getElem?_eq_getElem → Ab
open Go.Lib renaming hid → Ac
open Go.IntKind renaming signed → Ad,wrap → Af,bits → Ag
open Nat renaming mul_le_mul → Ae
set_option maxHeartbeats 8000000
namespace Go.Proofs.YtcijgkfpobpdbaaGreatDoor
set_option maxRecDepth 100000
open Go Go.RowKit
attribute [local go_sem] aQ
theorem aU0 {n:Nat} (h:n<=1048576):IntKind.i64.wrap (n:Int)=n:=by simp[Af,Ag,Ad]; omega
theorem tV {n:Nat} (h:n<=1048576):IntKind.u64.wrap (n:Int)=n:=by simp[Af,Ag,Ad]; omega
theorem vJ0 (w:World) (mb bm:Nat) (m:Mx) (h:fK w mb bm m) :
  Calls Tryz.prog 87 #[.pointer (some ⟨mb,0,none⟩)] w λe w'=>∃v,e=.returned v/\aU w' w.heap.size 5 1 aX v m.enc/\Grows w w':=by
 have CP:=Ac (bK1 w mb bm m h);have c0:=h.c0;have c1:=h.c1;have c2:=h.c2;have ag:=h.ok;have iw:=ag.n1;have ix:=ag.n2;have ee:=ag.d1;have ik:=ag.d2;have qg:=Mx.idx_len ag;obtain⟨D,aa,hM⟩:=h.own;have ml:m.pairs.length=m.idx.length:=by unfold Mx.pairs;rw[List.length_map]
 obtain⟨d,hd⟩:∃d:Nat,m.d=d:=⟨m.d.toNat,by omega⟩;have HE:Hid (m.enc=putU m.n++(putU d++(putU m.idx.length++qC m (-1) m.idx))):=by show m.enc=_;unfold Mx.enc;rw[hd];rfl
 rw[hd]at c1;have z9:d<=30000:=by omega
 have wN:IntKind.u64.wrap (m.n:Int)=m.n:=tV (by omega);have wD:IntKind.u64.wrap (d:Int)=d:=tV (by omega);have wL:IntKind.u64.wrap (m.idx.length:Int)=m.idx.length:=tV (by omega);clear h ee ik;go_enter Tryz.func87,Tryz.ntmps87
 go_wp2_with fail
 refine CP.out.mono ?_;rintro e w1 ⟨v1,rfl,ay,ah⟩;obtain⟨a1,k1,rfl,h11,h12,ct⟩:=ay.at_ (enc:=cR0) (λ_=>rfl);rw[ml]at h11 ⊢;clear ay;go_wp2_with fail
 have x0:∀x:Ext Grows w1.drew,x.u.cell? ⟨mb,0,none⟩=some (.int .i64 m.n):=aB (ah.dr.cell c0);have x1:∀x:Ext Grows w1.drew,x.u.cell? ⟨mb,1,none⟩=some (.int .i64 d):=aB (ah.dr.cell c1);refine kI Grows (lK [0,1,2,3,4,6,7,8,9,10,12,13,14,5,11,15,16] [5,11,15,16]) Grows.refl Grows.trans (by kernel_rfl) (by kernel_rfl) (λd _ _ _ _ h=>by cases d<;>exact h) ?_
 iterate 13 (refine dE rfl (λK hK=>?_);go_simp;refine hK _ ?_;clear hK K)
 clear x0 x1;refine nW rfl rfl (λK hK w2 h2=>?_);go_simp;refine(lF [] none 0 m.n w2 (by simp) (by omega) (aF.nil _ _ _) (λ_=>rfl)).mono ?_;rintro e w3 ⟨v3,rfl,aw,ax⟩;obtain⟨B3,je⟩:=exq (([]:List UInt8)++putU m.n);rw[<-je]at aw;have lw:B3.length<=10:=by have:=cT m.n;rw[je];simpa using this
 have HB3:=Ac je;clear je;obtain⟨a3,k3,rfl,h31,h32,ei⟩:=aw.at_ bK.len;have qh:=bN aw;clear aw;refine⟨ax,hK _ _ ?_⟩;clear hK K;refine nW rfl rfl (λK hK w4 h4=>?_);go_simp;refine(lF _ a3 k3 d w4 (by omega) (by omega) (ei.grows h4) qh).mono ?_;rintro e w5 ⟨v5,rfl,an,bg⟩;obtain⟨B5,gp⟩:=exq (B3++putU d);rw[<-gp]at an;have gi:B5.length<=20:=by have:=cT d;rw[gp,Aa];omega
 have HB5:=Ac gp;clear gp;obtain⟨a5,k5,rfl,h51,h52,xv⟩:=an.at_ bK.len;have hn5:=bN an;clear an ei qh;refine⟨bg,hK _ _ ?_⟩;clear hK K;refine nW rfl rfl (λK hK w6 h6=>?_);go_simp;refine(lF _ a5 k5 m.idx.length w6 (by omega) (by omega) (xv.grows h6) hn5).mono ?_;rintro e w7 ⟨v7,rfl,ep,cu⟩;clear xv hn5;refine⟨cu,hK _ _ ?_⟩;clear hK K;refine nW rfl rfl (λK hK w8 h8=>?_);go_simp;refine⟨Grows.refl _,hK _ _ ?_⟩;clear hK K;refine vH (λw9 h9=>?_);have abl:Grows w1 w6:=((((Grows.drew w1).tr h2).tr ax).tr h4).tr (bg.tr h6);have abm:Grows w7 w9:=h8.tr h9;have jl:Grows w w9:=((ah.tr abl).tr cu).tr abm;replace ct:=ct.grows ((abl.tr cu).tr abm);have gh:=(ep.grows abm).base (base':=w.heap.size) (ah.tr abl).size;clear ep h2 ax h4 bg h6 cu h8 h9 abl abm ah CP;obtain⟨B9,hB9⟩:=exq (B5++putU m.idx.length);rw[<-hB9]at gh;have qj:B9.length<=30:=by have:=cT m.idx.length;rw[hB9,Aa];omega
 have HE9:Hid (m.enc=B9++qC m (-1) m.idx):=by
  show m.enc=_
  rw[HE.out,hB9,HB5.out,HB3.out];simp
 clear hB9 HE HB5 HB3 lw gi;go_wp2_with fail
 go_loopw [4,5,31] (λb last i wx=>∃(k:Nat) (bv:List UInt8) (L:Int),k<=m.idx.length/\i=.int .i64 k/\last=.int .i64 L/\-1<=L/\L<=4096/\aU wx w.heap.size 5 1 aX b bv/\bv.length<=30+k*20/\Hid (m.enc=bv++qC m L (m.idx.drop k))/\Hid (∀j∈m.idx.drop k,L<(j:Int))/\Grows w9 wx) (λ_ _ i _=>m.idx.length-(intOf i).toNat)
 case atStart=>exact⟨0,B9,-1,Nat.zero_le _,rfl,rfl,by omega,by omega,gh,by omega,HE9.out,λj _=>by omega,Grows.refl _⟩
 case round =>
  obtain⟨k,bv,L,hk,rfl,rfl,hL1,hL2,m5,ni,hE,hLj,i6⟩:=hrel;have jn:=jl.tr i6;obtain⟨ab,cb,rfl,ga,d8,abn⟩:=m5.at_ bK.len;have il:=bN m5;by_cases ae:k<m.idx.length
  ·obtain⟨i,hi⟩:∃i,m.idx[k]?=some i:=⟨_,Ab ae⟩
   obtain⟨ir,hpi,wl,mj,r9⟩:=Mx.idx_get ag hi
   have kq:m.idx.drop k=i::m.idx.drop (k+1):=by
    rw[List.drop_eq_getElem_cons ae];rw[Ab ae]at hi;rw[Option.some.inj hi]
   have hLi:L<(i:Int):=hLj.out i (by rw[kq];simp)
   have hup:∀j∈m.idx.drop (k+1),i<j:=by
    have h1:(m.idx.drop k).Pairwise (· < ·):=Mx.idx_up.sublist (List.drop_sublist k _);rw[kq]at h1;exact(List.pairwise_cons.1 h1).1
   have fg:i<4096:=Nat.lt_of_lt_of_le ir (Ae ix ix);obtain⟨Dl,hDl⟩:∃Dl:Nat,(i:Int)-L=Dl:=⟨((i:Int)-L).toNat,by omega⟩;obtain⟨C,hC⟩:∃C:Nat,m.cs.getD i 0=C:=⟨(m.cs.getD i 0).toNat,by omega⟩
   have aan:m.enc=((bv++putU Dl)++putU C)++qC m i (m.idx.drop (k+1)):=by
    rw[hE.out,kq];show bv++(putU ((i:Int)-L).toNat++(putU (m.cs.getD i 0).toNat++qC m i (m.idx.drop (k+1))))=_
    rw[hDl,hC];simp
   have HNX:=Ac aan;have HUP:Hid (∀j∈m.idx.drop (k+1),(i:Int)<(j:Int)):=λj hj=>by have:=hup j hj;omega
   have fi:=jP ir;have eo:m.cost (eE m.n i)=C:=by rw[r9,hC]
   obtain⟨r,hr⟩:∃r:Nat,r=i/m.n:=⟨_,rfl⟩;obtain⟨q,hq⟩:∃q:Nat,q=i%m.n:=⟨_,rfl⟩;have hpe:eE m.n i=((r:Int),(q:Int)):=by rw[hr,hq];rfl
   rw[hpe]at hpi fi eo
   have hrq:(r:Int)*m.n+q=i:=by
    rw[hr,hq]
    have:=Nat.div_add_mod i m.n
    rw[Nat.mul_comm]at this;exact_mod_cast this
   have ahh:r<64:=by have:=iX.1 fi.1;simp only at this;omega
   have hrn:r*m.n<=4096:=by
    have:=Ae (Nat.le_of_lt ahh) ix;omega
   have ai7:q<64:=by have:=iX.1 fi.1;simp only at this;omega
   obtain⟨lb,lo,rfl,hcp⟩:=(ct.grows i6).get (aH (k:=k) (by omega));have p0:wr.cell? ⟨lb,lo+k*2,none⟩=some (.int .i64 r):=hcp k _ hpi 0 _ rfl;have p1:wr.cell? ⟨lb,lo+k*2+1,none⟩=some (.int .i64 q):=hcp k _ hpi 1 _ rfl;have hw:=nP ix fi.1;have im:=lT1 (x:=((r:Int),(q:Int))) hw.1 hw.2
   have HLK:Hid (∀W,Grows w W->(Instr.lookup 223 (.map (some bm)) (.agg #[.int .i64 r,.int .i64 q]) false).run Tryz.prog W=.ok (.int .i64 C) W):=λW hW=>by
    obtain⟨c,jf,ac,_⟩:=(cB aa hW).lookup_int uI Tryz.underlying223 Tryz.underlying3 (aF1 W) im;have aj:m.cs.getD i 0≠m.d:=(Mx.mem_idx.1 (List.mem_of_getElem? hi)).2;have nc:=(hM ((r:Int),(q:Int)) hw.1 hw.2).1
    have h1:Maps.has D (klP ((r:Int),(q:Int)))=true:=by
     rw[nc,fi.1,eo,<-hC];simpa using aj
    have h2:=(hM.look ag fi.1 ac).1 h1;rw[eo]at h2;rw[h2]at jf;exact jf
   have hCb:C<=30000:=by omega
   have hDb:Dl<=4097:=by omega
   have wDl:IntKind.u64.wrap (Dl:Int)=Dl:=tV (by omega);have wC:IntKind.u64.wrap (C:Int)=C:=tV (by omega);obtain⟨rn,abo⟩:∃rn:Nat,(r:Int)*m.n=rn:=⟨r*m.n,by simp⟩
   have ai8:rn<=4096:=by
    have:rn=r*m.n:=by exact_mod_cast abo.symm
    omega
   have wRN:IntKind.i64.wrap ((r:Int)*m.n)=rn:=by rw[abo];exact aU0 (by omega)
   have wI:IntKind.i64.wrap ((rn:Int)+q)=i:=by rw[<-abo,hrq];exact aU0 (by omega)
   have wDL:IntKind.i64.wrap ((i:Int)-L)=Dl:=by rw[hDl];exact aU0 (by omega)
   clear hcp hpi kq hup ir aan hE hLj wl mj r9 fi eo im hw hi hpe hr hq m5 abo hrq hDl;have z0:∀x:Ext Grows (wr.alloc (.cells #[.int .i64 r,.int .i64 q] 227)).drew,x.u.cell? ⟨wr.heap.size,0,none⟩=some (.int .i64 r):=aB (aT wr _ _ (0,0) 0 _ rfl);have z1:∀x:Ext Grows (wr.alloc (.cells #[.int .i64 r,.int .i64 q] 227)).drew,x.u.cell? ⟨wr.heap.size,1,none⟩=some (.int .i64 q):=aB (aT wr _ _ (0,0) 1 _ rfl);have z2:∀x:Ext Grows (wr.alloc (.cells #[.int .i64 r,.int .i64 q] 227)).drew,x.u.cell? ⟨mb,0,none⟩=some (.int .i64 m.n):=aB ((jn.al _).dr.cell c0);go_wp2_with fail
   refine kI Grows (aV 11 []) Grows.refl Grows.trans (by kernel_rfl) (by kernel_rfl) (λd _ _ _ _ h=>by cases d<;>exact h) ?_
   iterate 11 (refine dE rfl (λK hK=>?_);go_simp;refine hK _ ?_;clear hK K)
   refine vH (λwa ha=>?_);clear z0 z1 z2;have m0:Grows (wr.alloc (.cells #[.int .i64 r,.int .i64 q] 227)) wa:=(Grows.drew _).tr ha;go_wp2_with fail
   have n0:∀x:Ext Grows wa.drew,x.u.cell? ⟨mb,2,none⟩=some (.map (some bm)):=aB (((jn.al _).tr m0).dr.cell c2);have n1:∀x:Ext Grows wa.drew,x.u.cell? ⟨wr.heap.size,0,none⟩=some (.int .i64 r):=aB (m0.dr.cell (aT wr _ _ (0,0) 0 _ rfl));have n2:∀x:Ext Grows wa.drew,x.u.cell? ⟨wr.heap.size,1,none⟩=some (.int .i64 q):=aB (m0.dr.cell (aT wr _ _ (0,0) 1 _ rfl));have n3:∀x:Ext Grows wa.drew,(Instr.lookup 223 (.map (some bm)) (.agg #[.int .i64 r,.int .i64 q]) false).run Tryz.prog x.u=.ok (.int .i64 C) x.u:=λx=>HLK.out _ (((jn.al _).tr m0).dr.tr x.h);refine kI Grows (lK [0,1,2,3,4,6,7,8,9,10,11,12,5,13,14] [5,13,14]) Grows.refl Grows.trans (by kernel_rfl) (by kernel_rfl) (λd _ _ _ _ h=>by cases d<;>exact h) ?_
   iterate 10 (refine dE rfl (λK hK=>?_);go_simp;refine hK _ ?_;clear hK K)
   refine dE rfl (λK hK=>?_);go_simp;refine hK _ ?_;clear hK K;iterate 1 (refine dE rfl (λK hK=>?_);go_simp;refine hK _ ?_;clear hK K)
   clear n0 n1 n2 n3 HLK;refine nW rfl rfl (λK hK w2 h2=>?_);go_simp;have fh:Grows wr w2:=((Grows.alloc wr _).tr m0).dr.tr h2;refine(lF _ ab cb Dl w2 (by omega) (by omega) (abn.grows fh) il).mono ?_;rintro e w3 ⟨v3,rfl,aw,ax⟩;obtain⟨B3,je⟩:=exq (bv++putU Dl);rw[<-je]at aw;have lw:B3.length<=bv.length+10:=by have:=cT Dl;rw[je,Aa];omega
   have HB3:=Ac je;clear je;obtain⟨a3,k3,rfl,h31,h32,ei⟩:=aw.at_ bK.len;have qh:=bN aw;clear aw;refine⟨ax,hK _ _ ?_⟩;clear hK K;refine nW rfl rfl (λK hK w4 h4=>?_);go_simp;refine(lF _ a3 k3 C w4 (by omega) (by omega) (ei.grows h4) qh).mono ?_;rintro e w5 ⟨v5,rfl,an,bg⟩;obtain⟨B5,gp⟩:=exq (B3++putU C);rw[<-gp]at an;have gi:B5.length<=B3.length+10:=by have:=cT C;rw[gp,Aa];omega
   have HN5:Hid (m.enc=B5++qC m i (m.idx.drop (k+1))):=by
    show m.enc=_
    rw[gp,HB3.out,HNX.out]
   clear gp HNX HB3 ei qh;refine⟨bg,hK _ _ ?_⟩;clear hK K;refine nW rfl rfl (λK hK w6 h6=>?_);go_simp;refine⟨Grows.refl _,hK _ _ ?_⟩;clear hK K;refine vH (λw7 h7=>?_);have ac0:Grows w5 w7:=h6.tr h7;have kc:Grows wr w4:=(fh.tr ax).tr h4;have ep:=(an.grows ac0).base (base':=w.heap.size) (jn.tr kc).size;have cu:Grows w9 w7:=((i6.tr kc).tr bg).tr ac0;clear an ac0 kc h2 ax h4 bg h6 h7 fh m0;go_wp2_with fail
   go_roundw
   case rel=>exact⟨k+1,B5,i,ae,by go_num,rfl,by omega,by omega,ep,by omega,HN5,HUP,cu⟩
   case measure=>simp[intOf];omega
  ·obtain rfl:k=m.idx.length:=by omega
   have au:=hE.out;rw[List.drop_length]at au;have aao:m.enc=bv:=by rw[au];show bv++[]=bv;simp
   have HF:=Ac aao;clear au aao hE hLj;go_wp2_with fail
   go_ret;exact⟨_,rfl,by rw[HF.out];exact m5,jn⟩
end Go.Proofs.YtcijgkfpobpdbaaGreatDoor
