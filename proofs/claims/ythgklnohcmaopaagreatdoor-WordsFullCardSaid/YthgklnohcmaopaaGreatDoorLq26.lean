/- The texts Mat3, one behind the other. -/
import Derived.Test.YthgklnohcmaopaaGreatDoorLq12
import Derived.Test.YthgklnohcmaopaaGreatDoorLq18
import Derived.Test.YthgklnohcmaopaaGreatDoorLq21
import Derived.Test.YthgklnohcmaopaaGreatDoorLq1
open List renaming length_append → Aa,getElem?_eq_getElem → Ab
open Go.Lib renaming hid → Ac
open Go.IntKind renaming signed → Ad,wrap → Af,bits → Ag
open Nat renaming mul_le_mul → Ae
set_option maxHeartbeats 8000000
namespace Go.Proofs.YthgklnohcmaopaaGreatDoor
set_option maxRecDepth 100000
open Go Go.RowKit
attribute [local go_sem] aO
theorem aV0 {n:Nat} (h:n<=1048576):IntKind.i64.wrap (n:Int)=n:=by simp[Af,Ag,Ad]; omega
theorem tD {n:Nat} (h:n<=1048576):IntKind.u64.wrap (n:Int)=n:=by simp[Af,Ag,Ad]; omega
theorem tI0 (w:World) (mb bm:Nat) (m:Mx) (h:gR w mb bm m) :
  Calls Tryz.prog 65 #[.pointer (some ⟨mb,0,none⟩)] w λe w'=>∃v,e=.returned v/\aX w' w.heap.size 5 1 aY v m.enc/\aB w w':=by
 have CP:=Ac (bV1 w mb bm m h);have c0:=h.c0;have c1:=h.c1;have c2:=h.c2;have ag:=h.ok;have jf:=ag.n1;have od:=ag.n2;have ev:=ag.d1;have ij:=ag.d2;have up:=Mx.idx_len ag;obtain⟨D,aa,hM⟩:=h.own;have nc:m.pairs.length=m.idx.length:=by unfold Mx.pairs;rw[List.length_map]
 obtain⟨d,hd⟩:∃d:Nat,m.d=d:=⟨m.d.toNat,by omega⟩;have HE:Hid (m.enc=putU m.n++(putU d++(putU m.idx.length++pC m (-1) m.idx))):=by show m.enc=_;unfold Mx.enc;rw[hd];rfl
 rw[hd]at c1;have hdb:d<=30000:=by omega
 have wN:IntKind.u64.wrap (m.n:Int)=m.n:=tD (by omega);have wD:IntKind.u64.wrap (d:Int)=d:=tD (by omega);have wL:IntKind.u64.wrap (m.idx.length:Int)=m.idx.length:=tD (by omega);clear h ev ij;go_enter Tryz.func65,Tryz.ntmps65
 go_wp2_with fail
 refine CP.out.mono ?_;rintro e w1 ⟨v1,rfl,aq,an⟩;obtain⟨a1,k1,rfl,h11,h12,cm⟩:=aq.at_ (enc:=cJ0) (λ_=>rfl);rw[nc]at h11 ⊢;clear aq;go_wp2_with fail
 have x0:∀x:Ext aB w1.drew,x.u.cell? ⟨mb,0,none⟩=some (.int .i64 m.n):=aF (an.dr.cell c0);have x1:∀x:Ext aB w1.drew,x.u.cell? ⟨mb,1,none⟩=some (.int .i64 d):=aF (an.dr.cell c1);refine hM0 aB (oK [0,1,2,3,4,6,7,8,9,10,12,13,14,5,11,15,16] [5,11,15,16]) aB.refl aB.trans (by kernel_rfl) (by kernel_rfl) (λd _ _ _ _ h=>by cases d<;>exact h) ?_
 iterate 13 (refine bK0 rfl (λK hK=>?_);go_simp;refine hK _ ?_;clear hK K)
 clear x0 x1;refine nW rfl rfl (λK hK w2 h2=>?_);go_simp;refine(lD [] none 0 m.n w2 (by simp) (by omega) (aG.nil _ _ _) (λ_=>rfl)).mono ?_;rintro e w3 ⟨v3,rfl,au,ax⟩;obtain⟨B3,ju⟩:=exq (([]:List UInt8)++putU m.n);rw[<-ju]at au;have iv:B3.length<=10:=by have:=cY m.n;rw[ju];simpa using this
 have HB3:=Ac ju;clear ju;obtain⟨a3,k3,rfl,h31,h32,fp⟩:=au.at_ bJ.len;have th:=cM au;clear au;refine⟨ax,hK _ _ ?_⟩;clear hK K;refine nW rfl rfl (λK hK w4 h4=>?_);go_simp;refine(lD _ a3 k3 d w4 (by omega) (by omega) (fp.grows h4) th).mono ?_;rintro e w5 ⟨v5,rfl,ar,bv⟩;obtain⟨B5,vq⟩:=exq (B3++putU d);rw[<-vq]at ar;have hb5:B5.length<=20:=by have:=cY d;rw[vq,Aa];omega
 have HB5:=Ac vq;clear vq;obtain⟨a5,k5,rfl,h51,h52,pu⟩:=ar.at_ bJ.len;have hn5:=cM ar;clear ar fp th;refine⟨bv,hK _ _ ?_⟩;clear hK K;refine nW rfl rfl (λK hK w6 h6=>?_);go_simp;refine(lD _ a5 k5 m.idx.length w6 (by omega) (by omega) (pu.grows h6) hn5).mono ?_;rintro e w7 ⟨v7,rfl,fx,cw⟩;clear pu hn5;refine⟨cw,hK _ _ ?_⟩;clear hK K;refine nW rfl rfl (λK hK w8 h8=>?_);go_simp;refine⟨aB.refl _,hK _ _ ?_⟩;clear hK K;refine nO1 (λw9 h9=>?_);have abl:aB w1 w6:=((((aB.drew w1).tr h2).tr ax).tr h4).tr (bv.tr h6);have abm:aB w7 w9:=h8.tr h9;have fu:aB w w9:=((an.tr abl).tr cw).tr abm;replace cm:=cm.grows ((abl.tr cw).tr abm);have cz:=(fx.grows abm).base (base':=w.heap.size) (an.tr abl).size;clear fx h2 ax h4 bv h6 cw h8 h9 abl abm an CP;obtain⟨B9,hB9⟩:=exq (B5++putU m.idx.length);rw[<-hB9]at cz;have qt:B9.length<=30:=by have:=cY m.idx.length;rw[hB9,Aa];omega
 have HE9:Hid (m.enc=B9++pC m (-1) m.idx):=by
  show m.enc=_
  rw[HE.out,hB9,HB5.out,HB3.out];simp
 clear hB9 HE HB5 HB3 iv hb5;go_wp2_with fail
 go_loopw [4,5,31] (λb last i wx=>∃(k:Nat) (bk:List UInt8) (L:Int),k<=m.idx.length/\i=.int .i64 k/\last=.int .i64 L/\-1<=L/\L<=4096/\aX wx w.heap.size 5 1 aY b bk/\bk.length<=30+k*20/\Hid (m.enc=bk++pC m L (m.idx.drop k))/\Hid (∀j∈m.idx.drop k,L<(j:Int))/\aB w9 wx) (λ_ _ i _=>m.idx.length-(intOf i).toNat)
 case atStart=>exact⟨0,B9,-1,Nat.zero_le _,rfl,rfl,by omega,by omega,cz,by omega,HE9.out,λj _=>by omega,aB.refl _⟩
 case round =>
  obtain⟨k,bk,L,hk,rfl,rfl,hL1,hL2,mu,pm,hE,hLj,nl⟩:=hrel;have qu:=fu.tr nl;obtain⟨ab,cb,rfl,eo,cy,abn⟩:=mu.at_ bJ.len;have l7:=cM mu;by_cases ae:k<m.idx.length
  ·obtain⟨i,hi⟩:∃i,m.idx[k]?=some i:=⟨_,Ab ae⟩
   obtain⟨ja,hpi,rk,o9,td⟩:=Mx.idx_get ag hi
   have jw:m.idx.drop k=i::m.idx.drop (k+1):=by
    rw[List.drop_eq_getElem_cons ae];rw[Ab ae]at hi;rw[Option.some.inj hi]
   have hLi:L<(i:Int):=hLj.out i (by rw[jw];simp)
   have hup:∀j∈m.idx.drop (k+1),i<j:=by
    have h1:(m.idx.drop k).Pairwise (· < ·):=Mx.idx_up.sublist (List.drop_sublist k _);rw[jw]at h1;exact(List.pairwise_cons.1 h1).1
   have ld:i<4096:=Nat.lt_of_lt_of_le ja (Ae od od);obtain⟨Dl,hDl⟩:∃Dl:Nat,(i:Int)-L=Dl:=⟨((i:Int)-L).toNat,by omega⟩;obtain⟨C,hC⟩:∃C:Nat,m.cs.getD i 0=C:=⟨(m.cs.getD i 0).toNat,by omega⟩
   have aaq:m.enc=((bk++putU Dl)++putU C)++pC m i (m.idx.drop (k+1)):=by
    rw[hE.out,jw];show bk++(putU ((i:Int)-L).toNat++(putU (m.cs.getD i 0).toNat++pC m i (m.idx.drop (k+1))))=_
    rw[hDl,hC];simp
   have HNX:=Ac aaq;have HUP:Hid (∀j∈m.idx.drop (k+1),(i:Int)<(j:Int)):=λj hj=>by have:=hup j hj;omega
   have fq:=kV ja;have cj:m.cost (eE m.n i)=C:=by rw[td,hC]
   obtain⟨r,hr⟩:∃r:Nat,r=i/m.n:=⟨_,rfl⟩;obtain⟨q,hq⟩:∃q:Nat,q=i%m.n:=⟨_,rfl⟩;have hpe:eE m.n i=((r:Int),(q:Int)):=by rw[hr,hq];rfl
   rw[hpe]at hpi fq cj
   have hrq:(r:Int)*m.n+q=i:=by
    rw[hr,hq]
    have:=Nat.div_add_mod i m.n
    rw[Nat.mul_comm]at this;exact_mod_cast this
   have aho:r<64:=by have:=rU.1 fq.1;simp only at this;omega
   have hrn:r*m.n<=4096:=by
    have:=Ae (Nat.le_of_lt aho) od;omega
   have ajm:q<64:=by have:=rU.1 fq.1;simp only at this;omega
   obtain⟨lb,lo,rfl,hcp⟩:=(cm.grows nl).get (aK (k:=k) (by omega));have p0:wr.cell? ⟨lb,lo+k*2,none⟩=some (.int .i64 r):=hcp k _ hpi 0 _ rfl;have p1:wr.cell? ⟨lb,lo+k*2+1,none⟩=some (.int .i64 q):=hcp k _ hpi 1 _ rfl;have hw:=qZ od fq.1;have er:=pT1 (x:=((r:Int),(q:Int))) hw.1 hw.2
   have HLK:Hid (∀W,aB w W->(Instr.lookup 151 (.map (some bm)) (.agg #[.int .i64 r,.int .i64 q]) false).run Tryz.prog W=.ok (.int .i64 C) W):=λW hW=>by
    obtain⟨c,ix,ac,_⟩:=(aJ aa hW).lookup_int zO Tryz.underlying151 Tryz.underlying3 (pA1 W) er;have aj:m.cs.getD i 0≠m.d:=(Mx.mem_idx.1 (List.mem_of_getElem? hi)).2;have m7:=(hM ((r:Int),(q:Int)) hw.1 hw.2).1
    have h1:Maps.has D (klP ((r:Int),(q:Int)))=true:=by
     rw[m7,fq.1,cj,<-hC];simpa using aj
    have h2:=(hM.look ag fq.1 ac).1 h1;rw[cj]at h2;rw[h2]at ix;exact ix
   have hCb:C<=30000:=by omega
   have hDb:Dl<=4097:=by omega
   have wDl:IntKind.u64.wrap (Dl:Int)=Dl:=tD (by omega);have wC:IntKind.u64.wrap (C:Int)=C:=tD (by omega);obtain⟨rn,abo⟩:∃rn:Nat,(r:Int)*m.n=rn:=⟨r*m.n,by simp⟩
   have ajn:rn<=4096:=by
    have:rn=r*m.n:=by exact_mod_cast abo.symm
    omega
   have wRN:IntKind.i64.wrap ((r:Int)*m.n)=rn:=by rw[abo];exact aV0 (by omega)
   have wI:IntKind.i64.wrap ((rn:Int)+q)=i:=by rw[<-abo,hrq];exact aV0 (by omega)
   have wDL:IntKind.i64.wrap ((i:Int)-L)=Dl:=by rw[hDl];exact aV0 (by omega)
   clear hcp hpi jw hup ja aaq hE hLj rk o9 td fq cj er hw hi hpe hr hq mu abo hrq hDl;have z0:∀x:Ext aB (wr.alloc (.cells #[.int .i64 r,.int .i64 q] 158)).drew,x.u.cell? ⟨wr.heap.size,0,none⟩=some (.int .i64 r):=aF (aT wr _ _ (0,0) 0 _ rfl);have z1:∀x:Ext aB (wr.alloc (.cells #[.int .i64 r,.int .i64 q] 158)).drew,x.u.cell? ⟨wr.heap.size,1,none⟩=some (.int .i64 q):=aF (aT wr _ _ (0,0) 1 _ rfl);have z2:∀x:Ext aB (wr.alloc (.cells #[.int .i64 r,.int .i64 q] 158)).drew,x.u.cell? ⟨mb,0,none⟩=some (.int .i64 m.n):=aF ((qu.al _).dr.cell c0);go_wp2_with fail
   refine hM0 aB (bB 11 []) aB.refl aB.trans (by kernel_rfl) (by kernel_rfl) (λd _ _ _ _ h=>by cases d<;>exact h) ?_
   iterate 11 (refine bK0 rfl (λK hK=>?_);go_simp;refine hK _ ?_;clear hK K)
   refine nO1 (λwa ha=>?_);clear z0 z1 z2;have mn:aB (wr.alloc (.cells #[.int .i64 r,.int .i64 q] 158)) wa:=(aB.drew _).tr ha;go_wp2_with fail
   have n0:∀x:Ext aB wa.drew,x.u.cell? ⟨mb,2,none⟩=some (.map (some bm)):=aF (((qu.al _).tr mn).dr.cell c2);have n1:∀x:Ext aB wa.drew,x.u.cell? ⟨wr.heap.size,0,none⟩=some (.int .i64 r):=aF (mn.dr.cell (aT wr _ _ (0,0) 0 _ rfl));have n2:∀x:Ext aB wa.drew,x.u.cell? ⟨wr.heap.size,1,none⟩=some (.int .i64 q):=aF (mn.dr.cell (aT wr _ _ (0,0) 1 _ rfl));have n3:∀x:Ext aB wa.drew,(Instr.lookup 151 (.map (some bm)) (.agg #[.int .i64 r,.int .i64 q]) false).run Tryz.prog x.u=.ok (.int .i64 C) x.u:=λx=>HLK.out _ (((qu.al _).tr mn).dr.tr x.h);refine hM0 aB (oK [0,1,2,3,4,6,7,8,9,10,11,12,5,13,14] [5,13,14]) aB.refl aB.trans (by kernel_rfl) (by kernel_rfl) (λd _ _ _ _ h=>by cases d<;>exact h) ?_
   iterate 10 (refine bK0 rfl (λK hK=>?_);go_simp;refine hK _ ?_;clear hK K)
   refine bK0 rfl (λK hK=>?_);go_simp;refine hK _ ?_;clear hK K;iterate 1 (refine bK0 rfl (λK hK=>?_);go_simp;refine hK _ ?_;clear hK K)
   clear n0 n1 n2 n3 HLK;refine nW rfl rfl (λK hK w2 h2=>?_);go_simp;have gk:aB wr w2:=((aB.alloc wr _).tr mn).dr.tr h2;refine(lD _ ab cb Dl w2 (by omega) (by omega) (abn.grows gk) l7).mono ?_;rintro e w3 ⟨v3,rfl,au,ax⟩;obtain⟨B3,ju⟩:=exq (bk++putU Dl);rw[<-ju]at au;have iv:B3.length<=bk.length+10:=by have:=cY Dl;rw[ju,Aa];omega
   have HB3:=Ac ju;clear ju;obtain⟨a3,k3,rfl,h31,h32,fp⟩:=au.at_ bJ.len;have th:=cM au;clear au;refine⟨ax,hK _ _ ?_⟩;clear hK K;refine nW rfl rfl (λK hK w4 h4=>?_);go_simp;refine(lD _ a3 k3 C w4 (by omega) (by omega) (fp.grows h4) th).mono ?_;rintro e w5 ⟨v5,rfl,ar,bv⟩;obtain⟨B5,vq⟩:=exq (B3++putU C);rw[<-vq]at ar;have hb5:B5.length<=B3.length+10:=by have:=cY C;rw[vq,Aa];omega
   have HN5:Hid (m.enc=B5++pC m i (m.idx.drop (k+1))):=by
    show m.enc=_
    rw[vq,HB3.out,HNX.out]
   clear vq HNX HB3 fp th;refine⟨bv,hK _ _ ?_⟩;clear hK K;refine nW rfl rfl (λK hK w6 h6=>?_);go_simp;refine⟨aB.refl _,hK _ _ ?_⟩;clear hK K;refine nO1 (λw7 h7=>?_);have acw:aB w5 w7:=h6.tr h7;have jt:aB wr w4:=(gk.tr ax).tr h4;have fx:=(ar.grows acw).base (base':=w.heap.size) (qu.tr jt).size;have cw:aB w9 w7:=((nl.tr jt).tr bv).tr acw;clear ar acw jt h2 ax h4 bv h6 h7 gk mn;go_wp2_with fail
   go_roundw
   case rel=>exact⟨k+1,B5,i,ae,by go_num,rfl,by omega,by omega,fx,by omega,HN5,HUP,cw⟩
   case measure=>simp[intOf];omega
  ·obtain rfl:k=m.idx.length:=by omega
   have av:=hE.out;rw[List.drop_length]at av;have aar:m.enc=bk:=by rw[av];show bk++[]=bk;simp
   have HF:=Ac aar;clear av aar hE hLj;go_wp2_with fail
   go_ret;exact⟨_,rfl,by rw[HF.out];exact mu,qu⟩
end Go.Proofs.YthgklnohcmaopaaGreatDoor
