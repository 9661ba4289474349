/- The texts Mat3, one behind the other. -/
import Derived.Test.YtheiocndipepaaaGreatDoorKq11
import Derived.Test.YtheiocndipepaaaGreatDoorKq17
import Derived.Test.YtheiocndipepaaaGreatDoorKq21
import Derived.Test.YtheiocndipepaaaGreatDoorKq2
open List renaming length_append → Aa,getElem?_eq_getElem → Ab
open Go.Lib renaming hid → Ac
open Go.IntKind renaming signed → Ad,wrap → Af,bits → Ag
open Nat renaming mul_le_mul → Ae
set_option maxHeartbeats 8000000
namespace Go.Proofs.YtheiocndipepaaaGreatDoor
set_option maxRecDepth 100000
open Go Go.RowKit
attribute [local go_sem] aM
theorem bJ0 {n:Nat} (h:n<=1048576):IntKind.i64.wrap (n:Int)=n:=by simp[Af,Ag,Ad]; omega
theorem uH {n:Nat} (h:n<=1048576):IntKind.u64.wrap (n:Int)=n:=by simp[Af,Ag,Ad]; omega
theorem vA0 (w:World) (mb bm:Nat) (m:Mx) (h:fM w mb bm m) :
  Calls Tryz.prog 50 #[.pointer (some ⟨mb,0,none⟩)] w λe w'=>∃v,e=.returned v/\aV w' w.heap.size 5 1 aX v m.enc/\Grows w w':=by
 have CP:=Ac (dW1 w mb bm m h);have c0:=h.c0;have c1:=h.c1;have c2:=h.c2;have ah:=h.ok;have fk:=ah.n1;have ig:=ah.n2;have fe:=ah.d1;have jb:=ah.d2;have ri:=Mx.idx_len ah;obtain⟨D,aa,hM⟩:=h.own;have m8:m.pairs.length=m.idx.length:=by unfold Mx.pairs;rw[List.length_map]
 obtain⟨d,hd⟩:∃d:Nat,m.d=d:=⟨m.d.toNat,by omega⟩;have HE:Hid (m.enc=putU m.n++(putU d++(putU m.idx.length++pS m (-1) m.idx))):=by show m.enc=_;unfold Mx.enc;rw[hd];rfl
 rw[hd]at c1;have hdb:d<=30000:=by omega
 have wN:IntKind.u64.wrap (m.n:Int)=m.n:=uH (by omega);have wD:IntKind.u64.wrap (d:Int)=d:=uH (by omega);have wL:IntKind.u64.wrap (m.idx.length:Int)=m.idx.length:=uH (by omega);clear h fe jb;go_enter Tryz.func50,Tryz.ntmps50
 go_wp2_with fail
 refine CP.out.mono ?_;rintro e w1 ⟨v1,rfl,az,ag⟩;obtain⟨a1,k1,rfl,h11,h12,da⟩:=az.at_ (enc:=dL0) (λ_=>rfl);rw[m8]at h11 ⊢;clear az;go_wp2_with fail
 have x0:∀x:Ext Grows w1.drew,x.u.cell? ⟨mb,0,none⟩=some (.int .i64 m.n):=aB (ag.dr.cell c0);have x1:∀x:Ext Grows w1.drew,x.u.cell? ⟨mb,1,none⟩=some (.int .i64 d):=aB (ag.dr.cell c1);refine kM Grows (lT [0,1,2,3,4,6,7,8,9,10,12,13,14,5,11,15,16] [5,11,15,16]) Grows.refl Grows.trans (by kernel_rfl) (by kernel_rfl) (λd _ _ _ _ h=>by cases d<;>exact h) ?_
 iterate 13 (refine dH rfl (λK hK=>?_);go_simp;refine hK _ ?_;clear hK K)
 clear x0 x1;refine oM rfl rfl (λK hK w2 h2=>?_);go_simp;refine(lF [] none 0 m.n w2 (by simp) (by omega) (aF.nil _ _ _) (λ_=>rfl)).mono ?_;rintro e w3 ⟨v3,rfl,ax,aw⟩;obtain⟨B3,jt⟩:=exq (([]:List UInt8)++putU m.n);rw[<-jt]at ax;have mn:B3.length<=10:=by have:=dB m.n;rw[jt];simpa using this
 have HB3:=Ac jt;clear jt;obtain⟨a3,k3,rfl,h31,h32,d9⟩:=ax.at_ bI.len;have lw:=bQ ax;clear ax;refine⟨aw,hK _ _ ?_⟩;clear hK K;refine oM rfl rfl (λK hK w4 h4=>?_);go_simp;refine(lF _ a3 k3 d w4 (by omega) (by omega) (d9.grows h4) lw).mono ?_;rintro e w5 ⟨v5,rfl,ak,bg⟩;obtain⟨B5,ju⟩:=exq (B3++putU d);rw[<-ju]at ak;have gh:B5.length<=20:=by have:=dB d;rw[ju,Aa];omega
 have HB5:=Ac ju;clear ju;obtain⟨a5,k5,rfl,h51,h52,lz⟩:=ak.at_ bI.len;have xv:=bQ ak;clear ak d9 lw;refine⟨bg,hK _ _ ?_⟩;clear hK K;refine oM rfl rfl (λK hK w6 h6=>?_);go_simp;refine(lF _ a5 k5 m.idx.length w6 (by omega) (by omega) (lz.grows h6) xv).mono ?_;rintro e w7 ⟨v7,rfl,du,cw⟩;clear lz xv;refine⟨cw,hK _ _ ?_⟩;clear hK K;refine oM rfl rfl (λK hK w8 h8=>?_);go_simp;refine⟨Grows.refl _,hK _ _ ?_⟩;clear hK K;refine wH (λw9 h9=>?_);have ab7:Grows w1 w6:=((((Grows.drew w1).tr h2).tr aw).tr h4).tr (bg.tr h6);have ab8:Grows w7 w9:=h8.tr h9;have dz:Grows w w9:=((ag.tr ab7).tr cw).tr ab8;replace da:=da.grows ((ab7.tr cw).tr ab8);have gu:=(du.grows ab8).base (base':=w.heap.size) (ag.tr ab7).size;clear du h2 aw h4 bg h6 cw h8 h9 ab7 ab8 ag CP;obtain⟨B9,hB9⟩:=exq (B5++putU m.idx.length);rw[<-hB9]at gu;have rk:B9.length<=30:=by have:=dB m.idx.length;rw[hB9,Aa];omega
 have HE9:Hid (m.enc=B9++pS m (-1) m.idx):=by
  show m.enc=_
  rw[HE.out,hB9,HB5.out,HB3.out];simp
 clear hB9 HE HB5 HB3 mn gh;go_wp2_with fail
 go_loopw [4,5,31] (λb last i wx=>∃(k:Nat) (cd:List UInt8) (L:Int),k<=m.idx.length/\i=.int .i64 k/\last=.int .i64 L/\-1<=L/\L<=4096/\aV wx w.heap.size 5 1 aX b cd/\cd.length<=30+k*20/\Hid (m.enc=cd++pS m L (m.idx.drop k))/\Hid (∀j∈m.idx.drop k,L<(j:Int))/\Grows w9 wx) (λ_ _ i _=>m.idx.length-(intOf i).toNat)
 case atStart=>exact⟨0,B9,-1,Nat.zero_le _,rfl,rfl,by omega,by omega,gu,by omega,HE9.out,λj _=>by omega,Grows.refl _⟩
 case round =>
  obtain⟨k,cd,L,hk,rfl,rfl,hL1,hL2,nu,om,hE,hLj,ji⟩:=hrel;have ny:=dz.tr ji;obtain⟨ab,cb,rfl,fw,eo,sw⟩:=nu.at_ bI.len;have jg:=bQ nu;by_cases ae:k<m.idx.length
  ·obtain⟨i,hi⟩:∃i,m.idx[k]?=some i:=⟨_,Ab ae⟩
   obtain⟨jf,hpi,qh,m7,t9⟩:=Mx.idx_get ah hi
   have lm:m.idx.drop k=i::m.idx.drop (k+1):=by
    rw[List.drop_eq_getElem_cons ae];rw[Ab ae]at hi;rw[Option.some.inj hi]
   have hLi:L<(i:Int):=hLj.out i (by rw[lm];simp)
   have hup:∀j∈m.idx.drop (k+1),i<j:=by
    have h1:(m.idx.drop k).Pairwise (· < ·):=Mx.idx_up.sublist (List.drop_sublist k _);rw[lm]at h1;exact(List.pairwise_cons.1 h1).1
   have fo:i<4096:=Nat.lt_of_lt_of_le jf (Ae ig ig);obtain⟨Dl,hDl⟩:∃Dl:Nat,(i:Int)-L=Dl:=⟨((i:Int)-L).toNat,by omega⟩;obtain⟨C,hC⟩:∃C:Nat,m.cs.getD i 0=C:=⟨(m.cs.getD i 0).toNat,by omega⟩
   have aa6:m.enc=((cd++putU Dl)++putU C)++pS m i (m.idx.drop (k+1)):=by
    rw[hE.out,lm];show cd++(putU ((i:Int)-L).toNat++(putU (m.cs.getD i 0).toNat++pS m i (m.idx.drop (k+1))))=_
    rw[hDl,hC];simp
   have HNX:=Ac aa6;have HUP:Hid (∀j∈m.idx.drop (k+1),(i:Int)<(j:Int)):=λj hj=>by have:=hup j hj;omega
   have ft:=jM jf;have er:m.cost (eO m.n i)=C:=by rw[t9,hC]
   obtain⟨r,hr⟩:∃r:Nat,r=i/m.n:=⟨_,rfl⟩;obtain⟨q,hq⟩:∃q:Nat,q=i%m.n:=⟨_,rfl⟩;have hpe:eO m.n i=((r:Int),(q:Int)):=by rw[hr,hq];rfl
   rw[hpe]at hpi ft er
   have hrq:(r:Int)*m.n+q=i:=by
    rw[hr,hq]
    have:=Nat.div_add_mod i m.n
    rw[Nat.mul_comm]at this;exact_mod_cast this
   have aig:r<64:=by have:=jF.1 ft.1;simp only at this;omega
   have hrn:r*m.n<=4096:=by
    have:=Ae (Nat.le_of_lt aig) ig;omega
   have aka:q<64:=by have:=jF.1 ft.1;simp only at this;omega
   obtain⟨lb,lo,rfl,hcp⟩:=(da.grows ji).get (aH (k:=k) (by omega));have p0:wr.cell? ⟨lb,lo+k*2,none⟩=some (.int .i64 r):=hcp k _ hpi 0 _ rfl;have p1:wr.cell? ⟨lb,lo+k*2+1,none⟩=some (.int .i64 q):=hcp k _ hpi 1 _ rfl;have hw:=oH ig ft.1;have i6:=oV1 (x:=((r:Int),(q:Int))) hw.1 hw.2
   have HLK:Hid (∀W,Grows w W->(Instr.lookup 160 (.map (some bm)) (.agg #[.int .i64 r,.int .i64 q]) false).run Tryz.prog W=.ok (.int .i64 C) W):=λW hW=>by
    obtain⟨c,qn,ac,_⟩:=(cG aa hW).lookup_int uA Tryz.underlying160 Tryz.underlying3 (yZ0 W) i6;have ai:m.cs.getD i 0≠m.d:=(Mx.mem_idx.1 (List.mem_of_getElem? hi)).2;have od:=(hM ((r:Int),(q:Int)) hw.1 hw.2).1
    have h1:Maps.has D (klP ((r:Int),(q:Int)))=true:=by
     rw[od,ft.1,er,<-hC];simpa using ai
    have h2:=(hM.look ah ft.1 ac).1 h1;rw[er]at h2;rw[h2]at qn;exact qn
   have hCb:C<=30000:=by omega
   have hDb:Dl<=4097:=by omega
   have wDl:IntKind.u64.wrap (Dl:Int)=Dl:=uH (by omega);have wC:IntKind.u64.wrap (C:Int)=C:=uH (by omega);obtain⟨rn,ab9⟩:∃rn:Nat,(r:Int)*m.n=rn:=⟨r*m.n,by simp⟩
   have akb:rn<=4096:=by
    have:rn=r*m.n:=by exact_mod_cast ab9.symm
    omega
   have wRN:IntKind.i64.wrap ((r:Int)*m.n)=rn:=by rw[ab9];exact bJ0 (by omega)
   have wI:IntKind.i64.wrap ((rn:Int)+q)=i:=by rw[<-ab9,hrq];exact bJ0 (by omega)
   have wDL:IntKind.i64.wrap ((i:Int)-L)=Dl:=by rw[hDl];exact bJ0 (by omega)
   clear hcp hpi lm hup jf aa6 hE hLj qh m7 t9 ft er i6 hw hi hpe hr hq nu ab9 hrq hDl;have z0:∀x:Ext Grows (wr.alloc (.cells #[.int .i64 r,.int .i64 q] 164)).drew,x.u.cell? ⟨wr.heap.size,0,none⟩=some (.int .i64 r):=aB (aT wr _ _ (0,0) 0 _ rfl);have z1:∀x:Ext Grows (wr.alloc (.cells #[.int .i64 r,.int .i64 q] 164)).drew,x.u.cell? ⟨wr.heap.size,1,none⟩=some (.int .i64 q):=aB (aT wr _ _ (0,0) 1 _ rfl);have z2:∀x:Ext Grows (wr.alloc (.cells #[.int .i64 r,.int .i64 q] 164)).drew,x.u.cell? ⟨mb,0,none⟩=some (.int .i64 m.n):=aB ((ny.al _).dr.cell c0);go_wp2_with fail
   refine kM Grows (aU 11 []) Grows.refl Grows.trans (by kernel_rfl) (by kernel_rfl) (λd _ _ _ _ h=>by cases d<;>exact h) ?_
   iterate 11 (refine dH rfl (λK hK=>?_);go_simp;refine hK _ ?_;clear hK K)
   refine wH (λwa ha=>?_);clear z0 z1 z2;have np:Grows (wr.alloc (.cells #[.int .i64 r,.int .i64 q] 164)) wa:=(Grows.drew _).tr ha;go_wp2_with fail
   have n0:∀x:Ext Grows wa.drew,x.u.cell? ⟨mb,2,none⟩=some (.map (some bm)):=aB (((ny.al _).tr np).dr.cell c2);have n1:∀x:Ext Grows wa.drew,x.u.cell? ⟨wr.heap.size,0,none⟩=some (.int .i64 r):=aB (np.dr.cell (aT wr _ _ (0,0) 0 _ rfl));have n2:∀x:Ext Grows wa.drew,x.u.cell? ⟨wr.heap.size,1,none⟩=some (.int .i64 q):=aB (np.dr.cell (aT wr _ _ (0,0) 1 _ rfl));have n3:∀x:Ext Grows wa.drew,(Instr.lookup 160 (.map (some bm)) (.agg #[.int .i64 r,.int .i64 q]) false).run Tryz.prog x.u=.ok (.int .i64 C) x.u:=λx=>HLK.out _ (((ny.al _).tr np).dr.tr x.h);refine kM Grows (lT [0,1,2,3,4,6,7,8,9,10,11,12,5,13,14] [5,13,14]) Grows.refl Grows.trans (by kernel_rfl) (by kernel_rfl) (λd _ _ _ _ h=>by cases d<;>exact h) ?_
   iterate 10 (refine dH rfl (λK hK=>?_);go_simp;refine hK _ ?_;clear hK K)
   refine dH rfl (λK hK=>?_);go_simp;refine hK _ ?_;clear hK K;iterate 1 (refine dH rfl (λK hK=>?_);go_simp;refine hK _ ?_;clear hK K)
   clear n0 n1 n2 n3 HLK;refine oM rfl rfl (λK hK w2 h2=>?_);go_simp;have fp:Grows wr w2:=((Grows.alloc wr _).tr np).dr.tr h2;refine(lF _ ab cb Dl w2 (by omega) (by omega) (sw.grows fp) jg).mono ?_;rintro e w3 ⟨v3,rfl,ax,aw⟩;obtain⟨B3,jt⟩:=exq (cd++putU Dl);rw[<-jt]at ax;have mn:B3.length<=cd.length+10:=by have:=dB Dl;rw[jt,Aa];omega
   have HB3:=Ac jt;clear jt;obtain⟨a3,k3,rfl,h31,h32,d9⟩:=ax.at_ bI.len;have lw:=bQ ax;clear ax;refine⟨aw,hK _ _ ?_⟩;clear hK K;refine oM rfl rfl (λK hK w4 h4=>?_);go_simp;refine(lF _ a3 k3 C w4 (by omega) (by omega) (d9.grows h4) lw).mono ?_;rintro e w5 ⟨v5,rfl,ak,bg⟩;obtain⟨B5,ju⟩:=exq (B3++putU C);rw[<-ju]at ak;have gh:B5.length<=B3.length+10:=by have:=dB C;rw[ju,Aa];omega
   have HN5:Hid (m.enc=B5++pS m i (m.idx.drop (k+1))):=by
    show m.enc=_
    rw[ju,HB3.out,HNX.out]
   clear ju HNX HB3 d9 lw;refine⟨bg,hK _ _ ?_⟩;clear hK K;refine oM rfl rfl (λK hK w6 h6=>?_);go_simp;refine⟨Grows.refl _,hK _ _ ?_⟩;clear hK K;refine wH (λw7 h7=>?_);have adp:Grows w5 w7:=h6.tr h7;have kt:Grows wr w4:=(fp.tr aw).tr h4;have du:=(ak.grows adp).base (base':=w.heap.size) (ny.tr kt).size;have cw:Grows w9 w7:=((ji.tr kt).tr bg).tr adp;clear ak adp kt h2 aw h4 bg h6 h7 fp np;go_wp2_with fail
   go_roundw
   case rel=>exact⟨k+1,B5,i,ae,by go_num,rfl,by omega,by omega,du,by omega,HN5,HUP,cw⟩
   case measure=>simp[intOf];omega
  ·obtain rfl:k=m.idx.length:=by omega
   have au:=hE.out;rw[List.drop_length]at au;have aa7:m.enc=cd:=by rw[au];show cd++[]=cd;simp
   have HF:=Ac aa7;clear au aa7 hE hLj;go_wp2_with fail
   go_ret;exact⟨_,rfl,by rw[HF.out];exact nu,ny⟩
end Go.Proofs.YtheiocndipepaaaGreatDoor
