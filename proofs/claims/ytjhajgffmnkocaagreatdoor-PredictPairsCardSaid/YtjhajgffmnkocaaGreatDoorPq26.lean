/- The texts Mat3, one behind the other. -/
import Derived.Test.YtjhajgffmnkocaaGreatDoorPq12
import Derived.Test.YtjhajgffmnkocaaGreatDoorPq18
import Derived.Test.YtjhajgffmnkocaaGreatDoorPq21
import Derived.Test.YtjhajgffmnkocaaGreatDoorPq1
open List renaming length_append → Aa,getElem?_eq_getElem → Ab
open Go.Lib renaming hid → Ac
open Go.IntKind renaming signed → Ad,wrap → Af,bits → Ag
open Nat renaming mul_le_mul → Ae
set_option maxHeartbeats 8000000
namespace Go.Proofs.YtjhajgffmnkocaaGreatDoor
set_option maxRecDepth 100000
open Go Go.RowKit
attribute [local go_sem] aO
theorem bL0 {n:Nat} (h:n<=1048576):IntKind.i64.wrap (n:Int)=n:=by simp[Af,Ag,Ad]; omega
theorem rV {n:Nat} (h:n<=1048576):IntKind.u64.wrap (n:Int)=n:=by simp[Af,Ag,Ad]; omega
theorem tM0 (w:World) (mb bm:Nat) (m:Mx) (h:gF w mb bm m) :
  Calls Tryz.prog 109 #[.pointer (some ⟨mb,0,none⟩)] w λe w'=>∃v,e=.returned v/\aU w' w.heap.size 5 1 aV v m.enc/\aB w w':=by
 have CP:=Ac (yF0 w mb bm m h);have c0:=h.c0;have c1:=h.c1;have c2:=h.c2;have ag:=h.ok;have jl:=ag.n1;have nl:=ag.n2;have fc:=ag.d1;have ja:=ag.d2;have pm:=Mx.idx_len ag;obtain⟨D,aa,hM⟩:=h.own;have ou:m.pairs.length=m.idx.length:=by unfold Mx.pairs;rw[List.length_map]
 obtain⟨d,hd⟩:∃d:Nat,m.d=d:=⟨m.d.toNat,by omega⟩;have HE:Hid (m.enc=putU m.n++(putU d++(putU m.idx.length++pG m (-1) m.idx))):=by show m.enc=_;unfold Mx.enc;rw[hd];rfl
 rw[hd]at c1;have hdb:d<=30000:=by omega
 have wN:IntKind.u64.wrap (m.n:Int)=m.n:=rV (by omega);have wD:IntKind.u64.wrap (d:Int)=d:=rV (by omega);have wL:IntKind.u64.wrap (m.idx.length:Int)=m.idx.length:=rV (by omega);clear h fc ja;go_enter Tryz.func109,Tryz.ntmps109
 go_wp2_with fail
 refine CP.out.mono ?_;rintro e w1 ⟨v1,rfl,ay,ai⟩;obtain⟨a1,k1,rfl,zv,h12,cw⟩:=ay.at_ (enc:=bW0) (λ_=>rfl);rw[ou]at zv ⊢;clear ay;go_wp2_with fail
 have x0:∀x:Ext aB w1.drew,x.u.cell? ⟨mb,0,none⟩=some (.int .i64 m.n):=aF (ai.dr.cell c0);have x1:∀x:Ext aB w1.drew,x.u.cell? ⟨mb,1,none⟩=some (.int .i64 d):=aF (ai.dr.cell c1);refine eK0 aB (nU [0,1,2,3,4,6,7,8,9,10,12,13,14,5,11,15,16] [5,11,15,16]) aB.refl aB.trans (by kernel_rfl) (by kernel_rfl) (λd _ _ _ _ h=>by cases d<;>exact h) ?_
 iterate 13 (refine bF0 rfl (λK hK=>?_);go_simp;refine hK _ ?_;clear hK K)
 clear x0 x1;refine nB rfl rfl (λK hK w2 h2=>?_);go_simp;refine(kP [] none 0 m.n w2 (by simp) (by omega) (aG.nil _ _ _) (λ_=>rfl)).mono ?_;rintro e w3 ⟨v3,rfl,av,aw⟩;obtain⟨B3,jh⟩:=exq (([]:List UInt8)++putU m.n);rw[<-jh]at av;have jr:B3.length<=10:=by have:=cK m.n;rw[jh];simpa using this
 have HB3:=Ac jh;clear jh;obtain⟨a3,k3,rfl,h31,h32,ir⟩:=av.at_ bI.len;have t9:=cF av;clear av;refine⟨aw,hK _ _ ?_⟩;clear hK K;refine nB rfl rfl (λK hK w4 h4=>?_);go_simp;refine(kP _ a3 k3 d w4 (by omega) (by omega) (ir.grows h4) t9).mono ?_;rintro e w5 ⟨v5,rfl,au,bi⟩;obtain⟨B5,ua⟩:=exq (B3++putU d);rw[<-ua]at au;have il:B5.length<=20:=by have:=cK d;rw[ua,Aa];omega
 have HB5:=Ac ua;clear ua;obtain⟨a5,k5,rfl,h51,h52,ji⟩:=au.at_ bI.len;have hn5:=cF au;clear au ir t9;refine⟨bi,hK _ _ ?_⟩;clear hK K;refine nB rfl rfl (λK hK w6 h6=>?_);go_simp;refine(kP _ a5 k5 m.idx.length w6 (by omega) (by omega) (ji.grows h6) hn5).mono ?_;rintro e w7 ⟨v7,rfl,fu,ep⟩;clear ji hn5;refine⟨ep,hK _ _ ?_⟩;clear hK K;refine nB rfl rfl (λK hK w8 h8=>?_);go_simp;refine⟨aB.refl _,hK _ _ ?_⟩;clear hK K;refine lP1 (λw9 h9=>?_);have abh:aB w1 w6:=((((aB.drew w1).tr h2).tr aw).tr h4).tr (bi.tr h6);have abi:aB w7 w9:=h8.tr h9;have jb:aB w w9:=((ai.tr abh).tr ep).tr abi;replace cw:=cw.grows ((abh.tr ep).tr abi);have dd:=(fu.grows abi).base (base':=w.heap.size) (ai.tr abh).size;clear fu h2 aw h4 bi h6 ep h8 h9 abh abi ai CP;obtain⟨B9,y7⟩:=exq (B5++putU m.idx.length);rw[<-y7]at dd;have lw:B9.length<=30:=by have:=cK m.idx.length;rw[y7,Aa];omega
 have HE9:Hid (m.enc=B9++pG m (-1) m.idx):=by
  show m.enc=_
  rw[HE.out,y7,HB5.out,HB3.out];simp
 clear y7 HE HB5 HB3 jr il;go_wp2_with fail
 go_loopw [4,5,31] (λb last i wx=>∃(k:Nat) (cd:List UInt8) (L:Int),k<=m.idx.length/\i=.int .i64 k/\last=.int .i64 L/\-1<=L/\L<=4096/\aU wx w.heap.size 5 1 aV b cd/\cd.length<=30+k*20/\Hid (m.enc=cd++pG m L (m.idx.drop k))/\Hid (∀j∈m.idx.drop k,L<(j:Int))/\aB w9 wx) (λ_ _ i _=>m.idx.length-(intOf i).toNat)
 case atStart=>exact⟨0,B9,-1,Nat.zero_le _,rfl,rfl,by omega,by omega,dd,by omega,HE9.out,λj _=>by omega,aB.refl _⟩
 case round =>
  obtain⟨k,cd,L,hk,rfl,rfl,hL1,hL2,mf,mw,hE,hLj,hgx⟩:=hrel;have o0:=jb.tr hgx;obtain⟨ab,cb,rfl,fi,dn,abj⟩:=mf.at_ bI.len;have lh:=cF mf;by_cases af:k<m.idx.length
  ·obtain⟨i,hi⟩:∃i,m.idx[k]?=some i:=⟨_,Ab af⟩
   obtain⟨jd,hpi,lu,nu,qy⟩:=Mx.idx_get ag hi
   have j9:m.idx.drop k=i::m.idx.drop (k+1):=by
    rw[List.drop_eq_getElem_cons af];rw[Ab af]at hi;rw[Option.some.inj hi]
   have hLi:L<(i:Int):=hLj.out i (by rw[j9];simp)
   have zz:∀j∈m.idx.drop (k+1),i<j:=by
    have h1:(m.idx.drop k).Pairwise (· < ·):=Mx.idx_up.sublist (List.drop_sublist k _);rw[j9]at h1;exact(List.pairwise_cons.1 h1).1
   have j7:i<4096:=Nat.lt_of_lt_of_le jd (Ae nl nl);obtain⟨Dl,hDl⟩:∃Dl:Nat,(i:Int)-L=Dl:=⟨((i:Int)-L).toNat,by omega⟩;obtain⟨C,hC⟩:∃C:Nat,m.cs.getD i 0=C:=⟨(m.cs.getD i 0).toNat,by omega⟩
   have aak:m.enc=((cd++putU Dl)++putU C)++pG m i (m.idx.drop (k+1)):=by
    rw[hE.out,j9];show cd++(putU ((i:Int)-L).toNat++(putU (m.cs.getD i 0).toNat++pG m i (m.idx.drop (k+1))))=_
    rw[hDl,hC];simp
   have HNX:=Ac aak;have HUP:Hid (∀j∈m.idx.drop (k+1),(i:Int)<(j:Int)):=λj hj=>by have:=zz j hj;omega
   have ga:=kY jd;have dg:m.cost (dU m.n i)=C:=by rw[qy,hC]
   obtain⟨r,hr⟩:∃r:Nat,r=i/m.n:=⟨_,rfl⟩;obtain⟨q,hq⟩:∃q:Nat,q=i%m.n:=⟨_,rfl⟩;have hpe:dU m.n i=((r:Int),(q:Int)):=by rw[hr,hq];rfl
   rw[hpe]at hpi ga dg
   have hrq:(r:Int)*m.n+q=i:=by
    rw[hr,hq]
    have:=Nat.div_add_mod i m.n
    rw[Nat.mul_comm]at this;exact_mod_cast this
   have ag5:r<64:=by have:=rD.1 ga.1;simp only at this;omega
   have hrn:r*m.n<=4096:=by
    have:=Ae (Nat.le_of_lt ag5) nl;omega
   have ai0:q<64:=by have:=rD.1 ga.1;simp only at this;omega
   obtain⟨lb,lo,rfl,hcp⟩:=(cw.grows hgx).get (aJ (k:=k) (by omega));have p0:wr.cell? ⟨lb,lo+k*2,none⟩=some (.int .i64 r):=hcp k _ hpi 0 _ rfl;have p1:wr.cell? ⟨lb,lo+k*2+1,none⟩=some (.int .i64 q):=hcp k _ hpi 1 _ rfl;have hw:=pW nl ga.1;have d8:=nR1 (x:=((r:Int),(q:Int))) hw.1 hw.2
   have HLK:Hid (∀W,aB w W->(Instr.lookup 239 (.map (some bm)) (.agg #[.int .i64 r,.int .i64 q]) false).run Tryz.prog W=.ok (.int .i64 C) W):=λW hW=>by
    obtain⟨c,i6,ac,_⟩:=(aZ aa hW).lookup_int yV Tryz.underlying239 Tryz.underlying3 (mQ1 W) d8;have ak:m.cs.getD i 0≠m.d:=(Mx.mem_idx.1 (List.mem_of_getElem? hi)).2;have ml:=(hM ((r:Int),(q:Int)) hw.1 hw.2).1
    have h1:Maps.has D (klP ((r:Int),(q:Int)))=true:=by
     rw[ml,ga.1,dg,<-hC];simpa using ak
    have h2:=(hM.look ag ga.1 ac).1 h1;rw[dg]at h2;rw[h2]at i6;exact i6
   have hCb:C<=30000:=by omega
   have hDb:Dl<=4097:=by omega
   have wDl:IntKind.u64.wrap (Dl:Int)=Dl:=rV (by omega);have wC:IntKind.u64.wrap (C:Int)=C:=rV (by omega);obtain⟨rn,abk⟩:∃rn:Nat,(r:Int)*m.n=rn:=⟨r*m.n,by simp⟩
   have ai1:rn<=4096:=by
    have:rn=r*m.n:=by exact_mod_cast abk.symm
    omega
   have wRN:IntKind.i64.wrap ((r:Int)*m.n)=rn:=by rw[abk];exact bL0 (by omega)
   have wI:IntKind.i64.wrap ((rn:Int)+q)=i:=by rw[<-abk,hrq];exact bL0 (by omega)
   have wDL:IntKind.i64.wrap ((i:Int)-L)=Dl:=by rw[hDl];exact bL0 (by omega)
   clear hcp hpi j9 zz jd aak hE hLj lu nu qy ga dg d8 hw hi hpe hr hq mf abk hrq hDl;have z0:∀x:Ext aB (wr.alloc (.cells #[.int .i64 r,.int .i64 q] 243)).drew,x.u.cell? ⟨wr.heap.size,0,none⟩=some (.int .i64 r):=aF (aT wr _ _ (0,0) 0 _ rfl);have z1:∀x:Ext aB (wr.alloc (.cells #[.int .i64 r,.int .i64 q] 243)).drew,x.u.cell? ⟨wr.heap.size,1,none⟩=some (.int .i64 q):=aF (aT wr _ _ (0,0) 1 _ rfl);have z2:∀x:Ext aB (wr.alloc (.cells #[.int .i64 r,.int .i64 q] 243)).drew,x.u.cell? ⟨mb,0,none⟩=some (.int .i64 m.n):=aF ((o0.al _).dr.cell c0);go_wp2_with fail
   refine eK0 aB (bE 11 []) aB.refl aB.trans (by kernel_rfl) (by kernel_rfl) (λd _ _ _ _ h=>by cases d<;>exact h) ?_
   iterate 11 (refine bF0 rfl (λK hK=>?_);go_simp;refine hK _ ?_;clear hK K)
   refine lP1 (λwa ha=>?_);clear z0 z1 z2;have mc:aB (wr.alloc (.cells #[.int .i64 r,.int .i64 q] 243)) wa:=(aB.drew _).tr ha;go_wp2_with fail
   have n0:∀x:Ext aB wa.drew,x.u.cell? ⟨mb,2,none⟩=some (.map (some bm)):=aF (((o0.al _).tr mc).dr.cell c2);have n1:∀x:Ext aB wa.drew,x.u.cell? ⟨wr.heap.size,0,none⟩=some (.int .i64 r):=aF (mc.dr.cell (aT wr _ _ (0,0) 0 _ rfl));have n2:∀x:Ext aB wa.drew,x.u.cell? ⟨wr.heap.size,1,none⟩=some (.int .i64 q):=aF (mc.dr.cell (aT wr _ _ (0,0) 1 _ rfl));have n3:∀x:Ext aB wa.drew,(Instr.lookup 239 (.map (some bm)) (.agg #[.int .i64 r,.int .i64 q]) false).run Tryz.prog x.u=.ok (.int .i64 C) x.u:=λx=>HLK.out _ (((o0.al _).tr mc).dr.tr x.h);refine eK0 aB (nU [0,1,2,3,4,6,7,8,9,10,11,12,5,13,14] [5,13,14]) aB.refl aB.trans (by kernel_rfl) (by kernel_rfl) (λd _ _ _ _ h=>by cases d<;>exact h) ?_
   iterate 10 (refine bF0 rfl (λK hK=>?_);go_simp;refine hK _ ?_;clear hK K)
   refine bF0 rfl (λK hK=>?_);go_simp;refine hK _ ?_;clear hK K;iterate 1 (refine bF0 rfl (λK hK=>?_);go_simp;refine hK _ ?_;clear hK K)
   clear n0 n1 n2 n3 HLK;refine nB rfl rfl (λK hK w2 h2=>?_);go_simp;have ik:aB wr w2:=((aB.alloc wr _).tr mc).dr.tr h2;refine(kP _ ab cb Dl w2 (by omega) (by omega) (abj.grows ik) lh).mono ?_;rintro e w3 ⟨v3,rfl,av,aw⟩;obtain⟨B3,jh⟩:=exq (cd++putU Dl);rw[<-jh]at av;have jr:B3.length<=cd.length+10:=by have:=cK Dl;rw[jh,Aa];omega
   have HB3:=Ac jh;clear jh;obtain⟨a3,k3,rfl,h31,h32,ir⟩:=av.at_ bI.len;have t9:=cF av;clear av;refine⟨aw,hK _ _ ?_⟩;clear hK K;refine nB rfl rfl (λK hK w4 h4=>?_);go_simp;refine(kP _ a3 k3 C w4 (by omega) (by omega) (ir.grows h4) t9).mono ?_;rintro e w5 ⟨v5,rfl,au,bi⟩;obtain⟨B5,ua⟩:=exq (B3++putU C);rw[<-ua]at au;have il:B5.length<=B3.length+10:=by have:=cK C;rw[ua,Aa];omega
   have HN5:Hid (m.enc=B5++pG m i (m.idx.drop (k+1))):=by
    show m.enc=_
    rw[ua,HB3.out,HNX.out]
   clear ua HNX HB3 ir t9;refine⟨bi,hK _ _ ?_⟩;clear hK K;refine nB rfl rfl (λK hK w6 h6=>?_);go_simp;refine⟨aB.refl _,hK _ _ ?_⟩;clear hK K;refine lP1 (λw7 h7=>?_);have acq:aB w5 w7:=h6.tr h7;have jv:aB wr w4:=(ik.tr aw).tr h4;have fu:=(au.grows acq).base (base':=w.heap.size) (o0.tr jv).size;have ep:aB w9 w7:=((hgx.tr jv).tr bi).tr acq;clear au acq jv h2 aw h4 bi h6 h7 ik mc;go_wp2_with fail
   go_roundw
   case rel=>exact⟨k+1,B5,i,af,by go_num,rfl,by omega,by omega,fu,by omega,HN5,HUP,ep⟩
   case measure=>simp[intOf];omega
  ·obtain rfl:k=m.idx.length:=by omega
   have ax:=hE.out;rw[List.drop_length]at ax;have aal:m.enc=cd:=by rw[ax];show cd++[]=cd;simp
   have HF:=Ac aal;clear ax aal hE hLj;go_wp2_with fail
   go_ret;exact⟨_,rfl,by rw[HF.out];exact mf,o0⟩
end Go.Proofs.YtjhajgffmnkocaaGreatDoor
