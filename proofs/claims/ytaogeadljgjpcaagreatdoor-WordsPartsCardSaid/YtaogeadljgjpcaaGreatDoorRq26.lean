/- The texts Mat3, one behind the other. -/
import Derived.Test.YtaogeadljgjpcaaGreatDoorRq12
import Derived.Test.YtaogeadljgjpcaaGreatDoorRq18
import Derived.Test.YtaogeadljgjpcaaGreatDoorRq21
import Derived.Test.YtaogeadljgjpcaaGreatDoorRq1
open List renaming length_append → Aa,getElem?_eq_getElem → Ab
open Go.Lib renaming hid → Ac
open Go.IntKind renaming signed → Ad,wrap → Af,bits → Ag
open Nat renaming mul_le_mul → Ae
set_option maxHeartbeats 8000000
namespace Go.Proofs.YtaogeadljgjpcaaGreatDoor
set_option maxRecDepth 100000
open Go Go.RowKit
attribute [local go_sem] aQ
theorem aG0 {n:Nat} (h:n<=1048576):IntKind.i64.wrap (n:Int)=n:=by simp[Af,Ag,Ad]; omega
theorem sJ {n:Nat} (h:n<=1048576):IntKind.u64.wrap (n:Int)=n:=by simp[Af,Ag,Ad]; omega
theorem sJ0 (w:World) (mb bm:Nat) (m:Mx) (h:gJ w mb bm m) :
  Calls Tryz.prog 117 #[.pointer (some ⟨mb,0,none⟩)] w λe w'=>∃v,e=.returned v/\aV w' w.heap.size 5 1 aZ v m.enc/\aB w w':=by
 have CP:=Ac (wY0 w mb bm m h);have c0:=h.c0;have c1:=h.c1;have c2:=h.c2;have ag:=h.ok;have io:=ag.n1;have km:=ag.n2;have er:=ag.d1;have g9:=ag.d2;have sw:=Mx.idx_len ag;obtain⟨D,aa,hM⟩:=h.own;have mm:m.pairs.length=m.idx.length:=by unfold Mx.pairs;rw[List.length_map]
 obtain⟨d,hd⟩:∃d:Nat,m.d=d:=⟨m.d.toNat,by omega⟩;have HE:Hid (m.enc=putU m.n++(putU d++(putU m.idx.length++pC m (-1) m.idx))):=by show m.enc=_;unfold Mx.enc;rw[hd];rfl
 rw[hd]at c1;have hdb:d<=30000:=by omega
 have wN:IntKind.u64.wrap (m.n:Int)=m.n:=sJ (by omega);have wD:IntKind.u64.wrap (d:Int)=d:=sJ (by omega);have wL:IntKind.u64.wrap (m.idx.length:Int)=m.idx.length:=sJ (by omega);clear h er g9;go_enter Tryz.func117,Tryz.ntmps117
 go_wp2_with fail
 refine CP.out.mono ?_;rintro e w1 ⟨v1,rfl,ar,aq⟩;obtain⟨a1,k1,rfl,z8,h12,cu⟩:=ar.at_ (enc:=bQ0) (λ_=>rfl);rw[mm]at z8 ⊢;clear ar;go_wp2_with fail
 have x0:∀x:Ext aB w1.drew,x.u.cell? ⟨mb,0,none⟩=some (.int .i64 m.n):=aF (aq.dr.cell c0);have x1:∀x:Ext aB w1.drew,x.u.cell? ⟨mb,1,none⟩=some (.int .i64 d):=aF (aq.dr.cell c1);refine fC0 aB (oK [0,1,2,3,4,6,7,8,9,10,12,13,14,5,11,15,16] [5,11,15,16]) aB.refl aB.trans (by kernel_rfl) (by kernel_rfl) (λd _ _ _ _ h=>by cases d<;>exact h) ?_
 iterate 13 (refine uH rfl (λK hK=>?_);go_simp;refine hK _ ?_;clear hK K)
 clear x0 x1;refine nW rfl rfl (λK hK w2 h2=>?_);go_simp;refine(kS [] none 0 m.n w2 (by simp) (by omega) (aG.nil _ _ _) (λ_=>rfl)).mono ?_;rintro e w3 ⟨v3,rfl,au,ay⟩;obtain⟨B3,iz⟩:=exq (([]:List UInt8)++putU m.n);rw[<-iz]at au;have iv:B3.length<=10:=by have:=cT m.n;rw[iz];simpa using this
 have HB3:=Ac iz;clear iz;obtain⟨a3,k3,rfl,h31,h32,fq⟩:=au.at_ bI.len;have rj:=cJ au;clear au;refine⟨ay,hK _ _ ?_⟩;clear hK K;refine nW rfl rfl (λK hK w4 h4=>?_);go_simp;refine(kS _ a3 k3 d w4 (by omega) (by omega) (fq.grows h4) rj).mono ?_;rintro e w5 ⟨v5,rfl,an,bk⟩;obtain⟨B5,ue⟩:=exq (B3++putU d);rw[<-ue]at an;have hb5:B5.length<=20:=by have:=cT d;rw[ue,Aa];omega
 have HB5:=Ac ue;clear ue;obtain⟨a5,k5,rfl,h51,h52,om⟩:=an.at_ bI.len;have hn5:=cJ an;clear an fq rj;refine⟨bk,hK _ _ ?_⟩;clear hK K;refine nW rfl rfl (λK hK w6 h6=>?_);go_simp;refine(kS _ a5 k5 m.idx.length w6 (by omega) (by omega) (om.grows h6) hn5).mono ?_;rintro e w7 ⟨v7,rfl,fk,dd⟩;clear om hn5;refine⟨dd,hK _ _ ?_⟩;clear hK K;refine nW rfl rfl (λK hK w8 h8=>?_);go_simp;refine⟨aB.refl _,hK _ _ ?_⟩;clear hK K;refine iR1 (λw9 h9=>?_);have abi:aB w1 w6:=((((aB.drew w1).tr h2).tr ay).tr h4).tr (bk.tr h6);have abj:aB w7 w9:=h8.tr h9;have fw:aB w w9:=((aq.tr abi).tr dd).tr abj;replace cu:=cu.grows ((abi.tr dd).tr abj);have de:=(fk.grows abj).base (base':=w.heap.size) (aq.tr abi).size;clear fk h2 ay h4 bk h6 dd h8 h9 abi abj aq CP;obtain⟨B9,zh⟩:=exq (B5++putU m.idx.length);rw[<-zh]at de;have pe:B9.length<=30:=by have:=cT m.idx.length;rw[zh,Aa];omega
 have HE9:Hid (m.enc=B9++pC m (-1) m.idx):=by
  show m.enc=_
  rw[HE.out,zh,HB5.out,HB3.out];simp
 clear zh HE HB5 HB3 iv hb5;go_wp2_with fail
 go_loopw [4,5,31] (λb last i wx=>∃(k:Nat) (bz:List UInt8) (L:Int),k<=m.idx.length/\i=.int .i64 k/\last=.int .i64 L/\-1<=L/\L<=4096/\aV wx w.heap.size 5 1 aZ b bz/\bz.length<=30+k*20/\Hid (m.enc=bz++pC m L (m.idx.drop k))/\Hid (∀j∈m.idx.drop k,L<(j:Int))/\aB w9 wx) (λ_ _ i _=>m.idx.length-(intOf i).toNat)
 case atStart=>exact⟨0,B9,-1,Nat.zero_le _,rfl,rfl,by omega,by omega,de,by omega,HE9.out,λj _=>by omega,aB.refl _⟩
 case round =>
  obtain⟨k,bz,L,hk,rfl,rfl,hL1,hL2,l8,og,hE,hLj,mu⟩:=hrel;have pg:=fw.tr mu;obtain⟨ab,cb,rfl,et,ct,abk⟩:=l8.at_ bI.len;have jc:=cJ l8;by_cases ae:k<m.idx.length
  ·obtain⟨i,hi⟩:∃i,m.idx[k]?=some i:=⟨_,Ab ae⟩
   obtain⟨i7,hpi,p8,ml,re⟩:=Mx.idx_get ag hi
   have jv:m.idx.drop k=i::m.idx.drop (k+1):=by
    rw[List.drop_eq_getElem_cons ae];rw[Ab ae]at hi;rw[Option.some.inj hi]
   have hLi:L<(i:Int):=hLj.out i (by rw[jv];simp)
   have hup:∀j∈m.idx.drop (k+1),i<j:=by
    have h1:(m.idx.drop k).Pairwise (· < ·):=Mx.idx_up.sublist (List.drop_sublist k _);rw[jv]at h1;exact(List.pairwise_cons.1 h1).1
   have ji:i<4096:=Nat.lt_of_lt_of_le i7 (Ae km km);obtain⟨Dl,hDl⟩:∃Dl:Nat,(i:Int)-L=Dl:=⟨((i:Int)-L).toNat,by omega⟩;obtain⟨C,hC⟩:∃C:Nat,m.cs.getD i 0=C:=⟨(m.cs.getD i 0).toNat,by omega⟩
   have aak:m.enc=((bz++putU Dl)++putU C)++pC m i (m.idx.drop (k+1)):=by
    rw[hE.out,jv];show bz++(putU ((i:Int)-L).toNat++(putU (m.cs.getD i 0).toNat++pC m i (m.idx.drop (k+1))))=_
    rw[hDl,hC];simp
   have HNX:=Ac aak;have HUP:Hid (∀j∈m.idx.drop (k+1),(i:Int)<(j:Int)):=λj hj=>by have:=hup j hj;omega
   have ft:=kR i7;have ck:m.cost (eA m.n i)=C:=by rw[re,hC]
   obtain⟨r,hr⟩:∃r:Nat,r=i/m.n:=⟨_,rfl⟩;obtain⟨q,hq⟩:∃q:Nat,q=i%m.n:=⟨_,rfl⟩;have hpe:eA m.n i=((r:Int),(q:Int)):=by rw[hr,hq];rfl
   rw[hpe]at hpi ft ck
   have hrq:(r:Int)*m.n+q=i:=by
    rw[hr,hq]
    have:=Nat.div_add_mod i m.n
    rw[Nat.mul_comm]at this;exact_mod_cast this
   have ahd:r<64:=by have:=lX.1 ft.1;simp only at this;omega
   have hrn:r*m.n<=4096:=by
    have:=Ae (Nat.le_of_lt ahd) km;omega
   have aja:q<64:=by have:=lX.1 ft.1;simp only at this;omega
   obtain⟨lb,lo,rfl,hcp⟩:=(cu.grows mu).get (aK (k:=k) (by omega));have p0:wr.cell? ⟨lb,lo+k*2,none⟩=some (.int .i64 r):=hcp k _ hpi 0 _ rfl;have p1:wr.cell? ⟨lb,lo+k*2+1,none⟩=some (.int .i64 q):=hcp k _ hpi 1 _ rfl;have hw:=qC km ft.1;have eu:=pE1 (x:=((r:Int),(q:Int))) hw.1 hw.2
   have HLK:Hid (∀W,aB w W->(Instr.lookup 254 (.map (some bm)) (.agg #[.int .i64 r,.int .i64 q]) false).run Tryz.prog W=.ok (.int .i64 C) W):=λW hW=>by
    obtain⟨c,iw,ac,_⟩:=(aJ aa hW).lookup_int zC Tryz.underlying254 Tryz.underlying3 (pD1 W) eu;have aj:m.cs.getD i 0≠m.d:=(Mx.mem_idx.1 (List.mem_of_getElem? hi)).2;have mc:=(hM ((r:Int),(q:Int)) hw.1 hw.2).1
    have h1:Maps.has D (klP ((r:Int),(q:Int)))=true:=by
     rw[mc,ft.1,ck,<-hC];simpa using aj
    have h2:=(hM.look ag ft.1 ac).1 h1;rw[ck]at h2;rw[h2]at iw;exact iw
   have hCb:C<=30000:=by omega
   have hDb:Dl<=4097:=by omega
   have wDl:IntKind.u64.wrap (Dl:Int)=Dl:=sJ (by omega);have wC:IntKind.u64.wrap (C:Int)=C:=sJ (by omega);obtain⟨rn,abl⟩:∃rn:Nat,(r:Int)*m.n=rn:=⟨r*m.n,by simp⟩
   have ajb:rn<=4096:=by
    have:rn=r*m.n:=by exact_mod_cast abl.symm
    omega
   have wRN:IntKind.i64.wrap ((r:Int)*m.n)=rn:=by rw[abl];exact aG0 (by omega)
   have wI:IntKind.i64.wrap ((rn:Int)+q)=i:=by rw[<-abl,hrq];exact aG0 (by omega)
   have wDL:IntKind.i64.wrap ((i:Int)-L)=Dl:=by rw[hDl];exact aG0 (by omega)
   clear hcp hpi jv hup i7 aak hE hLj p8 ml re ft ck eu hw hi hpe hr hq l8 abl hrq hDl;have z0:∀x:Ext aB (wr.alloc (.cells #[.int .i64 r,.int .i64 q] 258)).drew,x.u.cell? ⟨wr.heap.size,0,none⟩=some (.int .i64 r):=aF (aT wr _ _ (0,0) 0 _ rfl);have z1:∀x:Ext aB (wr.alloc (.cells #[.int .i64 r,.int .i64 q] 258)).drew,x.u.cell? ⟨wr.heap.size,1,none⟩=some (.int .i64 q):=aF (aT wr _ _ (0,0) 1 _ rfl);have z2:∀x:Ext aB (wr.alloc (.cells #[.int .i64 r,.int .i64 q] 258)).drew,x.u.cell? ⟨mb,0,none⟩=some (.int .i64 m.n):=aF ((pg.al _).dr.cell c0);go_wp2_with fail
   refine fC0 aB (bB 11 []) aB.refl aB.trans (by kernel_rfl) (by kernel_rfl) (λd _ _ _ _ h=>by cases d<;>exact h) ?_
   iterate 11 (refine uH rfl (λK hK=>?_);go_simp;refine hK _ ?_;clear hK K)
   refine iR1 (λwa ha=>?_);clear z0 z1 z2;have lz:aB (wr.alloc (.cells #[.int .i64 r,.int .i64 q] 258)) wa:=(aB.drew _).tr ha;go_wp2_with fail
   have n0:∀x:Ext aB wa.drew,x.u.cell? ⟨mb,2,none⟩=some (.map (some bm)):=aF (((pg.al _).tr lz).dr.cell c2);have n1:∀x:Ext aB wa.drew,x.u.cell? ⟨wr.heap.size,0,none⟩=some (.int .i64 r):=aF (lz.dr.cell (aT wr _ _ (0,0) 0 _ rfl));have n2:∀x:Ext aB wa.drew,x.u.cell? ⟨wr.heap.size,1,none⟩=some (.int .i64 q):=aF (lz.dr.cell (aT wr _ _ (0,0) 1 _ rfl));have n3:∀x:Ext aB wa.drew,(Instr.lookup 254 (.map (some bm)) (.agg #[.int .i64 r,.int .i64 q]) false).run Tryz.prog x.u=.ok (.int .i64 C) x.u:=λx=>HLK.out _ (((pg.al _).tr lz).dr.tr x.h);refine fC0 aB (oK [0,1,2,3,4,6,7,8,9,10,11,12,5,13,14] [5,13,14]) aB.refl aB.trans (by kernel_rfl) (by kernel_rfl) (λd _ _ _ _ h=>by cases d<;>exact h) ?_
   iterate 10 (refine uH rfl (λK hK=>?_);go_simp;refine hK _ ?_;clear hK K)
   refine uH rfl (λK hK=>?_);go_simp;refine hK _ ?_;clear hK K;iterate 1 (refine uH rfl (λK hK=>?_);go_simp;refine hK _ ?_;clear hK K)
   clear n0 n1 n2 n3 HLK;refine nW rfl rfl (λK hK w2 h2=>?_);go_simp;have gh:aB wr w2:=((aB.alloc wr _).tr lz).dr.tr h2;refine(kS _ ab cb Dl w2 (by omega) (by omega) (abk.grows gh) jc).mono ?_;rintro e w3 ⟨v3,rfl,au,ay⟩;obtain⟨B3,iz⟩:=exq (bz++putU Dl);rw[<-iz]at au;have iv:B3.length<=bz.length+10:=by have:=cT Dl;rw[iz,Aa];omega
   have HB3:=Ac iz;clear iz;obtain⟨a3,k3,rfl,h31,h32,fq⟩:=au.at_ bI.len;have rj:=cJ au;clear au;refine⟨ay,hK _ _ ?_⟩;clear hK K;refine nW rfl rfl (λK hK w4 h4=>?_);go_simp;refine(kS _ a3 k3 C w4 (by omega) (by omega) (fq.grows h4) rj).mono ?_;rintro e w5 ⟨v5,rfl,an,bk⟩;obtain⟨B5,ue⟩:=exq (B3++putU C);rw[<-ue]at an;have hb5:B5.length<=B3.length+10:=by have:=cT C;rw[ue,Aa];omega
   have HN5:Hid (m.enc=B5++pC m i (m.idx.drop (k+1))):=by
    show m.enc=_
    rw[ue,HB3.out,HNX.out]
   clear ue HNX HB3 fq rj;refine⟨bk,hK _ _ ?_⟩;clear hK K;refine nW rfl rfl (λK hK w6 h6=>?_);go_simp;refine⟨aB.refl _,hK _ _ ?_⟩;clear hK K;refine iR1 (λw7 h7=>?_);have acr:aB w5 w7:=h6.tr h7;have jm:aB wr w4:=(gh.tr ay).tr h4;have fk:=(an.grows acr).base (base':=w.heap.size) (pg.tr jm).size;have dd:aB w9 w7:=((mu.tr jm).tr bk).tr acr;clear an acr jm h2 ay h4 bk h6 h7 gh lz;go_wp2_with fail
   go_roundw
   case rel=>exact⟨k+1,B5,i,ae,by go_num,rfl,by omega,by omega,fk,by omega,HN5,HUP,dd⟩
   case measure=>simp[intOf];omega
  ·obtain rfl:k=m.idx.length:=by omega
   have aw:=hE.out;rw[List.drop_length]at aw;have aal:m.enc=bz:=by rw[aw];show bz++[]=bz;simp
   have HF:=Ac aal;clear aw aal hE hLj;go_wp2_with fail
   go_ret;exact⟨_,rfl,by rw[HF.out];exact l8,pg⟩
end Go.Proofs.YtaogeadljgjpcaaGreatDoor
