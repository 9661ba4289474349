/- The texts Mat3, one behind the other. -/
import Derived.Test.YthgklnohcmaopaaGreatDoorBq9
import Derived.Test.YthgklnohcmaopaaGreatDoorBq14
import Derived.Test.YthgklnohcmaopaaGreatDoorBq20
import Derived.Test.YthgklnohcmaopaaGreatDoorBq1
open List renaming length_append → Aa,getElem?_eq_getElem → Ab
open Go.Lib renaming hid → Ac
open Go.IntKind renaming signed → Ad,wrap → Af,bits → Ag
open Nat renaming mul_le_mul → Ae
set_option maxHeartbeats 8000000
namespace Go.Proofs.YthgklnohcmaopaaGreatDoor
set_option maxRecDepth 100000
open Go Go.RowKit
attribute [local go_sem] aM
theorem sE {n:Nat} (h:n<=1048576):IntKind.i64.wrap (n:Int)=n:=by simp[Af,Ag,Ad]; omega
theorem nX {n:Nat} (h:n<=1048576):IntKind.u64.wrap (n:Int)=n:=by simp[Af,Ag,Ad]; omega
theorem jS0 (w:World) (mb bm:Nat) (m:Mx) (h:jR w mb bm m) :
  Calls Tryz.prog 65 #[.pointer (some ⟨mb,0,none⟩)] w λe w'=>∃v,e=.returned v/\aT w' w.heap.size 5 1 aQ v m.enc/\aB w w':=by
 have CP:=Ac (mU0 w mb bm m h);have c0:=h.c0;have c1:=h.c1;have c2:=h.c2;have au:=h.ok;have jc:=au.n1;have jd:=au.n2;have ii:=au.d1;have lj:=au.d2;have sd:=Mx.idx_len au;obtain⟨D,aa,hM⟩:=h.own;have me:m.pairs.length=m.idx.length:=by unfold Mx.pairs;rw[List.length_map]
 obtain⟨d,hd⟩:∃d:Nat,m.d=d:=⟨m.d.toNat,by omega⟩;have HE:Hid (m.enc=dE m.n++(dE d++(dE m.idx.length++tU m (-1) m.idx))):=by show m.enc=_;unfold Mx.enc;rw[hd];rfl
 rw[hd]at c1;have hdb:d<=30000:=by omega
 have wN:IntKind.u64.wrap (m.n:Int)=m.n:=nX (by omega);have wD:IntKind.u64.wrap (d:Int)=d:=nX (by omega);have wL:IntKind.u64.wrap (m.idx.length:Int)=m.idx.length:=nX (by omega);clear h ii lj;go_enter Tryz.func65,Tryz.ntmps65
 go_wp2_with fail
 refine CP.out.mono ?_;rintro e w1 ⟨v1,rfl,ar,av⟩;obtain⟨a1,k1,rfl,rs,h12,cv⟩:=ar.at_ (enc:=uS) (λ_=>rfl);rw[me]at rs ⊢;clear ar;go_wp2_with fail
 have x0:∀x:Ext aB w1.drew,x.u.cell? ⟨mb,0,none⟩=some (.int .i64 m.n):=aG (av.dr.cell c0);have x1:∀x:Ext aB w1.drew,x.u.cell? ⟨mb,1,none⟩=some (.int .i64 d):=aG (av.dr.cell c1);refine xU aB (nN [0,1,2,3,4,6,7,8,9,10,12,13,14,5,11,15,16] [5,11,15,16]) aB.refl aB.trans (by kernel_rfl) (by kernel_rfl) (λd _ _ _ _ h=>by cases d<;>exact h) ?_
 iterate 13 (refine rX rfl (λK hK=>?_);go_simp;refine hK _ ?_;clear hK K)
 clear x0 x1;refine kI rfl rfl (λK hK w2 h2=>?_);go_simp;refine(iJ [] none 0 m.n w2 (by simp) (by omega) (aF.nil _ _ _) (λ_=>rfl)).mono ?_;rintro e w3 ⟨v3,rfl,an,bv⟩;obtain⟨B3,ik⟩:=exq (([]:List UInt8)++dE m.n);rw[<-ik]at an;have jf:B3.length<=10:=by have:=bK m.n;rw[ik];simpa using this
 have HB3:=Ac ik;clear ik;obtain⟨a3,k3,rfl,h31,h32,fm⟩:=an.at_ bE.len;have sf:=bJ an;clear an;refine⟨bv,hK _ _ ?_⟩;clear hK K;refine kI rfl rfl (λK hK w4 h4=>?_);go_simp;refine(iJ _ a3 k3 d w4 (by omega) (by omega) (fm.grows h4) sf).mono ?_;rintro e w5 ⟨v5,rfl,ai,bk⟩;obtain⟨B5,ny⟩:=exq (B3++dE d);rw[<-ny]at ai;have hb5:B5.length<=20:=by have:=bK d;rw[ny,Aa];omega
 have HB5:=Ac ny;clear ny;obtain⟨a5,k5,rfl,h51,h52,o8⟩:=ai.at_ bE.len;have hn5:=bJ ai;clear ai fm sf;refine⟨bk,hK _ _ ?_⟩;clear hK K;refine kI rfl rfl (λK hK w6 h6=>?_);go_simp;refine(iJ _ a5 k5 m.idx.length w6 (by omega) (by omega) (o8.grows h6) hn5).mono ?_;rintro e w7 ⟨v7,rfl,dv,d9⟩;clear o8 hn5;refine⟨d9,hK _ _ ?_⟩;clear hK K;refine kI rfl rfl (λK hK w8 h8=>?_);go_simp;refine⟨aB.refl _,hK _ _ ?_⟩;clear hK K;refine wE0 (λw9 h9=>?_);have sg:aB w1 w6:=((((aB.drew w1).tr h2).tr bv).tr h4).tr (bk.tr h6);have si:aB w7 w9:=h8.tr h9;have fq:aB w w9:=((av.tr sg).tr d9).tr si;replace cv:=cv.grows ((sg.tr d9).tr si);have di:=(dv.grows si).base (base':=w.heap.size) (av.tr sg).size;clear dv h2 bv h4 bk h6 d9 h8 h9 sg si av CP;obtain⟨B9,q7⟩:=exq (B5++dE m.idx.length);rw[<-q7]at di;have hb9:B9.length<=30:=by have:=bK m.idx.length;rw[q7,Aa];omega
 have HE9:Hid (m.enc=B9++tU m (-1) m.idx):=by
  show m.enc=_
  rw[HE.out,q7,HB5.out,HB3.out];simp
 clear q7 HE HB5 HB3 jf hb5;go_wp2_with fail
 go_loopw [4,5,31] (λb last i wx=>∃(k:Nat) (bd:List UInt8) (L:Int),k<=m.idx.length/\i=.int .i64 k/\last=.int .i64 L/\-1<=L/\L<=4096/\aT wx w.heap.size 5 1 aQ b bd/\bd.length<=30+k*20/\Hid (m.enc=bd++tU m L (m.idx.drop k))/\Hid (∀j∈m.idx.drop k,L<(j:Int))/\aB w9 wx) (λ_ _ i _=>m.idx.length-(intOf i).toNat)
 case atStart=>exact⟨0,B9,-1,Nat.zero_le _,rfl,rfl,by omega,by omega,di,by omega,HE9.out,λj _=>by omega,aB.refl _⟩
 case round =>
  obtain⟨k,bd,L,hk,rfl,rfl,hL1,hL2,ja,mg,hE,hLj,sj⟩:=hrel;have hgw:=fq.tr sj;obtain⟨ab,cb,rfl,kc,ee,sn⟩:=ja.at_ bE.len;have nu:=bJ ja;by_cases ae:k<m.idx.length
  ·obtain⟨i,hi⟩:∃i,m.idx[k]?=some i:=⟨_,Ab ae⟩
   obtain⟨gb,uq,ox,jz,vj⟩:=Mx.idx_get au hi
   have gp:m.idx.drop k=i::m.idx.drop (k+1):=by
    rw[List.drop_eq_getElem_cons ae];rw[Ab ae]at hi;rw[Option.some.inj hi]
   have hLi:L<(i:Int):=hLj.out i (by rw[gp];simp)
   have hup:∀j∈m.idx.drop (k+1),i<j:=by
    have h1:(m.idx.drop k).Pairwise (· < ·):=Mx.idx_up.sublist (List.drop_sublist k _);rw[gp]at h1;exact(List.pairwise_cons.1 h1).1
   have ou:i<4096:=Nat.lt_of_lt_of_le gb (Ae jd jd);obtain⟨Dl,hDl⟩:∃Dl:Nat,(i:Int)-L=Dl:=⟨((i:Int)-L).toNat,by omega⟩;obtain⟨C,hC⟩:∃C:Nat,m.cs.getD i 0=C:=⟨(m.cs.getD i 0).toNat,by omega⟩
   have vk:m.enc=((bd++dE Dl)++dE C)++tU m i (m.idx.drop (k+1)):=by
    rw[hE.out,gp];show bd++(dE ((i:Int)-L).toNat++(dE (m.cs.getD i 0).toNat++tU m i (m.idx.drop (k+1))))=_
    rw[hDl,hC];simp
   have HNX:=Ac vk;have HUP:Hid (∀j∈m.idx.drop (k+1),(i:Int)<(j:Int)):=λj hj=>by have:=hup j hj;omega
   have dm:=oK gb;have ct:m.cost (gX m.n i)=C:=by rw[vj,hC]
   obtain⟨r,hr⟩:∃r:Nat,r=i/m.n:=⟨_,rfl⟩;obtain⟨q,hq⟩:∃q:Nat,q=i%m.n:=⟨_,rfl⟩;have hpe:gX m.n i=((r:Int),(q:Int)):=by rw[hr,hq];rfl
   rw[hpe]at uq dm ct
   have hrq:(r:Int)*m.n+q=i:=by
    rw[hr,hq]
    have:=Nat.div_add_mod i m.n
    rw[Nat.mul_comm]at this;exact_mod_cast this
   have aeb:r<64:=by have:=nJ.1 dm.1;simp only at this;omega
   have hrn:r*m.n<=4096:=by
    have:=Ae (Nat.le_of_lt aeb) jd;omega
   have aft:q<64:=by have:=nJ.1 dm.1;simp only at this;omega
   obtain⟨lb,lo,rfl,hcp⟩:=(cv.grows sj).get (aH (k:=k) (by omega));have p0:wr.cell? ⟨lb,lo+k*2,none⟩=some (.int .i64 r):=hcp k _ uq 0 _ rfl;have p1:wr.cell? ⟨lb,lo+k*2+1,none⟩=some (.int .i64 q):=hcp k _ uq 1 _ rfl;have hw:=mO jd dm.1;have fj:=yT0 (x:=((r:Int),(q:Int))) hw.1 hw.2
   have HLK:Hid (∀W,aB w W->(Instr.lookup 151 (.map (some bm)) (.agg #[.int .i64 r,.int .i64 q]) false).run Tryz.prog W=.ok (.int .i64 C) W):=λW hW=>by
    obtain⟨c,m5,ac,_⟩:=(bF aa hW).lookup_int sL Tryz.underlying151 Tryz.underlying3 (xT0 W) fj;have aq:m.cs.getD i 0≠m.d:=(Mx.mem_idx.1 (List.mem_of_getElem? hi)).2;have je:=(hM ((r:Int),(q:Int)) hw.1 hw.2).1
    have h1:Maps.has D (klP ((r:Int),(q:Int)))=true:=by
     rw[je,dm.1,ct,<-hC];simpa using aq
    have h2:=(hM.look au dm.1 ac).1 h1;rw[ct]at h2;rw[h2]at m5;exact m5
   have hCb:C<=30000:=by omega
   have hDb:Dl<=4097:=by omega
   have wDl:IntKind.u64.wrap (Dl:Int)=Dl:=nX (by omega);have wC:IntKind.u64.wrap (C:Int)=C:=nX (by omega);obtain⟨rn,su⟩:∃rn:Nat,(r:Int)*m.n=rn:=⟨r*m.n,by simp⟩
   have afu:rn<=4096:=by
    have:rn=r*m.n:=by exact_mod_cast su.symm
    omega
   have wRN:IntKind.i64.wrap ((r:Int)*m.n)=rn:=by rw[su];exact sE (by omega)
   have wI:IntKind.i64.wrap ((rn:Int)+q)=i:=by rw[<-su,hrq];exact sE (by omega)
   have wDL:IntKind.i64.wrap ((i:Int)-L)=Dl:=by rw[hDl];exact sE (by omega)
   clear hcp uq gp hup gb vk hE hLj ox jz vj dm ct fj hw hi hpe hr hq ja su hrq hDl;have z0:∀x:Ext aB (wr.alloc (.cells #[.int .i64 r,.int .i64 q] 158)).drew,x.u.cell? ⟨wr.heap.size,0,none⟩=some (.int .i64 r):=aG (aU wr _ _ (0,0) 0 _ rfl);have z1:∀x:Ext aB (wr.alloc (.cells #[.int .i64 r,.int .i64 q] 158)).drew,x.u.cell? ⟨wr.heap.size,1,none⟩=some (.int .i64 q):=aG (aU wr _ _ (0,0) 1 _ rfl);have z2:∀x:Ext aB (wr.alloc (.cells #[.int .i64 r,.int .i64 q] 158)).drew,x.u.cell? ⟨mb,0,none⟩=some (.int .i64 m.n):=aG ((hgw.al _).dr.cell c0);go_wp2_with fail
   refine xU aB (bB 11 []) aB.refl aB.trans (by kernel_rfl) (by kernel_rfl) (λd _ _ _ _ h=>by cases d<;>exact h) ?_
   iterate 11 (refine rX rfl (λK hK=>?_);go_simp;refine hK _ ?_;clear hK K)
   refine wE0 (λwa ha=>?_);clear z0 z1 z2;have i9:aB (wr.alloc (.cells #[.int .i64 r,.int .i64 q] 158)) wa:=(aB.drew _).tr ha;go_wp2_with fail
   have n0:∀x:Ext aB wa.drew,x.u.cell? ⟨mb,2,none⟩=some (.map (some bm)):=aG (((hgw.al _).tr i9).dr.cell c2);have n1:∀x:Ext aB wa.drew,x.u.cell? ⟨wr.heap.size,0,none⟩=some (.int .i64 r):=aG (i9.dr.cell (aU wr _ _ (0,0) 0 _ rfl));have n2:∀x:Ext aB wa.drew,x.u.cell? ⟨wr.heap.size,1,none⟩=some (.int .i64 q):=aG (i9.dr.cell (aU wr _ _ (0,0) 1 _ rfl));have n3:∀x:Ext aB wa.drew,(Instr.lookup 151 (.map (some bm)) (.agg #[.int .i64 r,.int .i64 q]) false).run Tryz.prog x.u=.ok (.int .i64 C) x.u:=λx=>HLK.out _ (((hgw.al _).tr i9).dr.tr x.h);refine xU aB (nN [0,1,2,3,4,6,7,8,9,10,11,12,5,13,14] [5,13,14]) aB.refl aB.trans (by kernel_rfl) (by kernel_rfl) (λd _ _ _ _ h=>by cases d<;>exact h) ?_
   iterate 10 (refine rX rfl (λK hK=>?_);go_simp;refine hK _ ?_;clear hK K)
   refine rX rfl (λK hK=>?_);go_simp;refine hK _ ?_;clear hK K;iterate 1 (refine rX rfl (λK hK=>?_);go_simp;refine hK _ ?_;clear hK K)
   clear n0 n1 n2 n3 HLK;refine kI rfl rfl (λK hK w2 h2=>?_);go_simp;have eo:aB wr w2:=((aB.alloc wr _).tr i9).dr.tr h2;refine(iJ _ ab cb Dl w2 (by omega) (by omega) (sn.grows eo) nu).mono ?_;rintro e w3 ⟨v3,rfl,an,bv⟩;obtain⟨B3,ik⟩:=exq (bd++dE Dl);rw[<-ik]at an;have jf:B3.length<=bd.length+10:=by have:=bK Dl;rw[ik,Aa];omega
   have HB3:=Ac ik;clear ik;obtain⟨a3,k3,rfl,h31,h32,fm⟩:=an.at_ bE.len;have sf:=bJ an;clear an;refine⟨bv,hK _ _ ?_⟩;clear hK K;refine kI rfl rfl (λK hK w4 h4=>?_);go_simp;refine(iJ _ a3 k3 C w4 (by omega) (by omega) (fm.grows h4) sf).mono ?_;rintro e w5 ⟨v5,rfl,ai,bk⟩;obtain⟨B5,ny⟩:=exq (B3++dE C);rw[<-ny]at ai;have hb5:B5.length<=B3.length+10:=by have:=bK C;rw[ny,Aa];omega
   have HN5:Hid (m.enc=B5++tU m i (m.idx.drop (k+1))):=by
    show m.enc=_
    rw[ny,HB3.out,HNX.out]
   clear ny HNX HB3 fm sf;refine⟨bk,hK _ _ ?_⟩;clear hK K;refine kI rfl rfl (λK hK w6 h6=>?_);go_simp;refine⟨aB.refl _,hK _ _ ?_⟩;clear hK K;refine wE0 (λw7 h7=>?_);have zn:aB w5 w7:=h6.tr h7;have gi:aB wr w4:=(eo.tr bv).tr h4;have dv:=(ai.grows zn).base (base':=w.heap.size) (hgw.tr gi).size;have d9:aB w9 w7:=((sj.tr gi).tr bk).tr zn;clear ai zn gi h2 bv h4 bk h6 h7 eo i9;go_wp2_with fail
   go_roundw
   case rel=>exact⟨k+1,B5,i,ae,by go_num,rfl,by omega,by omega,dv,by omega,HN5,HUP,d9⟩
   case measure=>simp[intOf];omega
  ·obtain rfl:k=m.idx.length:=by omega
   have ax:=hE.out;rw[List.drop_length]at ax;have vl:m.enc=bd:=by rw[ax];show bd++[]=bd;simp
   have HF:=Ac vl;clear ax vl hE hLj;go_wp2_with fail
   go_ret;exact⟨_,rfl,by rw[HF.out];exact ja,hgw⟩
end Go.Proofs.YthgklnohcmaopaaGreatDoor
