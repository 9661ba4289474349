/- The texts Pairs Mat3 Mat5 Ppr, one behind the other. -/
import Derived.Test.YtiopheoljccmpaaGreatDoorCq13
import Derived.Test.YtiopheoljccmpaaGreatDoorCq16
import Derived.Test.YtiopheoljccmpaaGreatDoorCq12
import Derived.Test.YtiopheoljccmpaaGreatDoorCq21
import Derived.Test.YtiopheoljccmpaaGreatDoorCq1
import Derived.Test.YtiopheoljccmpaaGreatDoorCq22
import Derived.Test.YtiopheoljccmpaaGreatDoorCq20
import Derived.Test.YtiopheoljccmpaaGreatDoorCq19
open List renaming length_append → Aa,length_map → Ab,getElem?_eq_getElem → Ad
open Go.Lib renaming hid → Ac
open Go.IntKind renaming signed → Ae,wrap → Ag,bits → Ah
open Nat renaming mul_le_mul → Af
set_option maxHeartbeats 8000000
namespace Go.Proofs.YtiopheoljccmpaaGreatDoor
set_option maxRecDepth 100000
section
open Go Go.RowKit Go.Shelf
attribute [local go_sem] aM
theorem qM0 {m:Mx} (be:m.OK) {D:DataW Unit} (hM:pI0 m D) {ss:List PW} (hA:aB0 D ss) {l:List (Int×Int)} (hp:l.Perm (ss.map (·.1))) (hs:l.Pairwise λx y=>ltOf aP1 y x=false):l=m.pairs:=by
 have hnd:l.Nodup:=hp.nodup_iff.2 (List.pairwise_map.2 (hA.1.imp λh e=>h (Subtype.ext e)))
 have af:l.Pairwise ltP:=(hs.and hnd).imp λ{x y} ⟨h1,h2⟩=>by
  rcases xD0 h2 with h|h
  ·exact h
  ·rw[(xF y x).2 h]at h1;cases h1
 refine aS0 (lt:=ltP) dC0 (λh k=>iA0 h k) af m.pairs_sorted λy=>?_;rw[hp.mem_iff,Mx.mem_pairs,List.mem_map];constructor
 ·rintro⟨x,hx,rfl⟩
  have h1:=(hA.2 x).1 hx;have h2:=(hM x.1 x.2.1 x.2.2).1;rw[h1]at h2;have h3:=h2.symm;simpa using h3
 ·rintro⟨h1,h2⟩
  have hw:=pX be.n2 h1;refine⟨⟨y,hw.1,hw.2⟩,(hA.2 _).2 ?_,rfl⟩;rw[(hM y hw.1 hw.2).1,h1];simp[h2]
theorem hU1 {w:World} {base:Nat} {v:Value} {ss:List PW} (h:w.ownsRow base 84 2 v ss.length (ss.flatMap oV)):aO w base 84 2 bR0 v (ss.map (·.1)):=by
 unfold aO;rw[Ab,List.flatMap_map];exact h
theorem lJ0 (w:World) (Bm bm nn:Nat) (D:DataW Unit) (m:Mx) (be:m.OK) (hM:pI0 m D) (dm:Maps.size D<=4096) (hm:w.cell? ⟨Bm,0,none⟩=some (.map (some bm))) (ae:w.ownsMap Tryz.prog 84 (plainElem Tryz.prog 3) bm nn D) :
  Calls Tryz.prog 166 #[.func (.func 235) #[] #[.pointer (some ⟨Bm,0,none⟩)],.func (.func 168) #[] #[]] w λe w'=>∃v,e=.returned v/\aO w' w.heap.size 84 2 bR0 v m.pairs/\aB w w':=by
 have CC:=Ac (kO0 w Bm bm nn D dm hm ae);have HE:=λ(ss:List PW) (l:List (Int×Int)) h1 h2 h3=>Ac (qM0 be hM (ss:=ss) (l:=l) h1 h2 h3)
 have HL:Hid (∀ss:List PW,aB0 D ss->ss.length<4611686018427387904):=λss hA=>by
  have h0:=dI (l':=m.pairs) (List.pairwise_map.2 (hA.1.imp λh (e:_=_)=>h (Subtype.ext e)):(ss.map (·.1)).Nodup) (λy hy=>by
   obtain⟨x,hx,rfl⟩:=List.mem_map.1 hy;have h1:=(hA.2 x).1 hx;have h2:=(hM x.1 x.2.1 x.2.2).1;rw[h1]at h2;exact Mx.mem_pairs.2 (by simpa using h2.symm))
  rw[Ab]at h0
  have:=Mx.pairs_len be
  omega
 clear hM be dm hm ae;go_enter Tryz.func166,Tryz.ntmps166
 go_wp2_with fail
 refine CC.out.mono ?_;rintro e w1 ⟨v,ss,rfl,hA,eu,hb⟩;have ax:=hU1 eu;have hl:=HL.out ss hA;go_wp2_with (go_at_call 234;refine(sF0 w1 w.heap.size v _ ax (by rw[Ab];exact hl)).mono ?_;rintro e w2 ⟨rfl,l',hp,hsd,aj,an⟩)
 go_ret;have he:=(HE ss l' hA hp hsd).out;rw[he]at aj;exact⟨_,rfl,aj,(show aB w w1 from hb).grown an (λq hq=>bF ax q hq)⟩
theorem xL0 (w:World) (mb bm:Nat) (m:Mx) (h:gA w mb bm m) :
  Calls Tryz.prog 103 #[.pointer (some ⟨mb,0,none⟩)] w λe w'=>∃v,e=.returned v/\aO w' w.heap.size 84 2 bR0 v m.pairs/\aB w w':=by
 have c2:=h.c2;obtain⟨D,ae,hM⟩:=h.own;have be:=h.ok;have CS:=Ac (lJ0 (w.alloc (.cells #[.map (some bm)] 79)) w.heap.size bm 4096 D m be hM (kA0 be ae hM) (aX _ _ _ _ 0 _ rfl) (ae.alloc _));clear hM be ae h;go_enter Tryz.func103,Tryz.ntmps103
 go_wp2_with (first|(go_at_call 167;refine(uH0 _ _).mono ?_;rintro e w1 ⟨rfl,rfl⟩)|(go_at_call 166;refine CS.out.mono ?_;rintro e w2 ⟨v,rfl,aj,an⟩))
 go_ret;exact⟨_,rfl,aj.base (by simp),(aB.alloc _ _).tr an⟩
end
section
open Go Go.RowKit
attribute [local go_sem] aM
theorem tK {n:Nat} (h:n<=1048576):IntKind.i64.wrap (n:Int)=n:=by simp[Ag,Ah,Ae]; omega
theorem tL {n:Nat} (h:n<=1048576):IntKind.u64.wrap (n:Int)=n:=by simp[Ag,Ah,Ae]; omega
theorem qQ0 (w:World) (mb bm:Nat) (m:Mx) (h:gA w mb bm m) :
  Calls Tryz.prog 49 #[.pointer (some ⟨mb,0,none⟩)] w λe w'=>∃v,e=.returned v/\aO w' w.heap.size 5 1 aQ v m.enc/\aB w w':=by
 have CP:=Ac (xL0 w mb bm m h);have c0:=h.c0;have c1:=h.c1;have c2:=h.c2;have be:=h.ok;have j6:=be.n1;have ii:=be.n2;have ie:=be.d1;have ig:=be.d2;have hil:=Mx.idx_len be;obtain⟨D,ae,hM⟩:=h.own;have jd:m.pairs.length=m.idx.length:=by unfold Mx.pairs;rw[Ab]
 obtain⟨d,hd⟩:∃d:Nat,m.d=d:=⟨m.d.toNat,by omega⟩;have HE:Hid (m.enc=putU m.n++(putU d++(putU m.idx.length++jN m (-1) m.idx))):=by show m.enc=_;unfold Mx.enc;rw[hd];rfl
 rw[hd]at c1;have hdb:d<=30000:=by omega
 have wN:IntKind.u64.wrap (m.n:Int)=m.n:=tL (by omega);have wD:IntKind.u64.wrap (d:Int)=d:=tL (by omega);have wL:IntKind.u64.wrap (m.idx.length:Int)=m.idx.length:=tL (by omega);clear h ie ig;go_enter Tryz.func49,Tryz.ntmps49
 go_wp2_with fail
 refine CP.out.mono ?_;rintro e w1 ⟨v1,rfl,ax,aq⟩;obtain⟨a1,k1,rfl,h11,h12,dw⟩:=ax.at_ (enc:=bR0) (λ_=>rfl);rw[jd]at h11 ⊢;clear ax;go_wp2_with fail
 have x0:∀x:Ext aB w1.drew,x.u.cell? ⟨mb,0,none⟩=some (.int .i64 m.n):=aG (aq.dr.cell c0);have x1:∀x:Ext aB w1.drew,x.u.cell? ⟨mb,1,none⟩=some (.int .i64 d):=aG (aq.dr.cell c1);refine iX aB (oC [0,1,2,3,4,6,7,8,9,10,12,13,14,5,11,15,16] [5,11,15,16]) aB.refl aB.trans (by kernel_rfl) (by kernel_rfl) (λd _ _ _ _ h=>by cases d<;>exact h) ?_
 iterate 13 (refine cQ rfl (λK hK=>?_);go_simp;refine hK _ ?_;clear hK K)
 clear x0 x1;refine nE rfl rfl (λK hK w2 h2=>?_);go_simp;refine(kL [] none 0 m.n w2 (by simp) (by omega) (aF.nil _ _ _) (λ_=>rfl)).mono ?_;rintro e w3 ⟨v3,rfl,bd,bu⟩;obtain⟨B3,qh⟩:=exq (([]:List UInt8)++putU m.n);rw[<-qh]at bd;have kn:B3.length<=10:=by have:=bK m.n;rw[qh];simpa using this
 have HB3:=Ac qh;clear qh;obtain⟨a3,k3,rfl,h31,h32,iv⟩:=bd.at_ aR.len;have pg:=bC bd;clear bd;refine⟨bu,hK _ _ ?_⟩;clear hK K;refine nE rfl rfl (λK hK w4 h4=>?_);go_simp;refine(kL _ a3 k3 d w4 (by omega) (by omega) (iv.grows h4) pg).mono ?_;rintro e w5 ⟨v5,rfl,ai,bg⟩;obtain⟨B5,zm⟩:=exq (B3++putU d);rw[<-zm]at ai;have hb5:B5.length<=20:=by have:=bK d;rw[zm,Aa];omega
 have HB5:=Ac zm;clear zm;obtain⟨a5,k5,rfl,h51,h52,gw⟩:=ai.at_ aR.len;have x9:=bC ai;clear ai iv pg;refine⟨bg,hK _ _ ?_⟩;clear hK K;refine nE rfl rfl (λK hK w6 h6=>?_);go_simp;refine(kL _ a5 k5 m.idx.length w6 (by omega) (by omega) (gw.grows h6) x9).mono ?_;rintro e w7 ⟨v7,rfl,bi,ck⟩;clear gw x9;refine⟨ck,hK _ _ ?_⟩;clear hK K;refine nE rfl rfl (λK hK w8 h8=>?_);go_simp;refine⟨aB.refl _,hK _ _ ?_⟩;clear hK K;refine sG (λw9 h9=>?_);have ac1:aB w1 w6:=((((aB.drew w1).tr h2).tr bu).tr h4).tr (bg.tr h6);have ac2:aB w7 w9:=h8.tr h9;have ft:aB w w9:=((aq.tr ac1).tr ck).tr ac2;replace dw:=dw.grows ((ac1.tr ck).tr ac2);have du:=(bi.grows ac2).base (base':=w.heap.size) (aq.tr ac1).size;clear bi h2 bu h4 bg h6 ck h8 h9 ac1 ac2 aq CP;obtain⟨B9,hB9⟩:=exq (B5++putU m.idx.length);rw[<-hB9]at du;have hb9:B9.length<=30:=by have:=bK m.idx.length;rw[hB9,Aa];omega
 have HE9:Hid (m.enc=B9++jN m (-1) m.idx):=by
  show m.enc=_
  rw[HE.out,hB9,HB5.out,HB3.out];simp
 clear hB9 HE HB5 HB3 kn hb5;go_wp2_with fail
 go_loopw [4,5,31] (λb last i wx=>∃(k:Nat) (acc:List UInt8) (L:Int),k<=m.idx.length/\i=.int .i64 k/\last=.int .i64 L/\-1<=L/\L<=4096/\aO wx w.heap.size 5 1 aQ b acc/\acc.length<=30+k*20/\Hid (m.enc=acc++jN m L (m.idx.drop k))/\Hid (∀j∈m.idx.drop k,L<(j:Int))/\aB w9 wx) (λ_ _ i _=>m.idx.length-(intOf i).toNat)
 case atStart=>exact⟨0,B9,-1,Nat.zero_le _,rfl,rfl,by omega,by omega,du,by omega,HE9.out,λj _=>by omega,aB.refl _⟩
 case round =>
  obtain⟨k,acc,L,hk,rfl,rfl,hL1,hL2,om,li,hE,hLj,j4⟩:=hrel;have ev:=ft.tr j4;obtain⟨ab,cb,rfl,gh,fp,ac3⟩:=om.at_ aR.len;have ko:=bC om;by_cases af:k<m.idx.length
  ·obtain⟨i,hi⟩:∃i,m.idx[k]?=some i:=⟨_,Ad af⟩
   obtain⟨jg,hpi,t9,jr,l7⟩:=Mx.idx_get be hi
   have fj:m.idx.drop k=i::m.idx.drop (k+1):=by
    rw[List.drop_eq_getElem_cons af];rw[Ad af]at hi;rw[Option.some.inj hi]
   have hLi:L<(i:Int):=hLj.out i (by rw[fj];simp)
   have t7:∀j∈m.idx.drop (k+1),i<j:=by
    have h1:(m.idx.drop k).Pairwise (· < ·):=Mx.idx_up.sublist (List.drop_sublist k _);rw[fj]at h1;exact(List.pairwise_cons.1 h1).1
   have gb:i<4096:=Nat.lt_of_lt_of_le jg (Af ii ii);obtain⟨Dl,hDl⟩:∃Dl:Nat,(i:Int)-L=Dl:=⟨((i:Int)-L).toNat,by omega⟩;obtain⟨C,hC⟩:∃C:Nat,m.cs.getD i 0=C:=⟨(m.cs.getD i 0).toNat,by omega⟩
   have oh:m.enc=((acc++putU Dl)++putU C)++jN m i (m.idx.drop (k+1)):=by
    rw[hE.out,fj];show acc++(putU ((i:Int)-L).toNat++(putU (m.cs.getD i 0).toNat++jN m i (m.idx.drop (k+1))))=_
    rw[hDl,hC];simp
   have HNX:=Ac oh;have HUP:Hid (∀j∈m.idx.drop (k+1),(i:Int)<(j:Int)):=λj hj=>by have:=t7 j hj;omega
   have ga:=mA jg;have dz:m.cost (eP m.n i)=C:=by rw[l7,hC]
   obtain⟨r,hr⟩:∃r:Nat,r=i/m.n:=⟨_,rfl⟩;obtain⟨q,hq⟩:∃q:Nat,q=i%m.n:=⟨_,rfl⟩;have hpe:eP m.n i=((r:Int),(q:Int)):=by rw[hr,hq];rfl
   rw[hpe]at hpi ga dz
   have hrq:(r:Int)*m.n+q=i:=by
    rw[hr,hq]
    have:=Nat.div_add_mod i m.n
    rw[Nat.mul_comm]at this;exact_mod_cast this
   have aif:r<64:=by have:=lJ.1 ga.1;simp only at this;omega
   have hrn:r*m.n<=4096:=by
    have:=Af (Nat.le_of_lt aif) ii;omega
   have akb:q<64:=by have:=lJ.1 ga.1;simp only at this;omega
   obtain⟨lb,lo,rfl,hcp⟩:=(dw.grows j4).get (aH (k:=k) (by omega));have p0:wr.cell? ⟨lb,lo+k*2,none⟩=some (.int .i64 r):=hcp k _ hpi 0 _ rfl;have p1:wr.cell? ⟨lb,lo+k*2+1,none⟩=some (.int .i64 q):=hcp k _ hpi 1 _ rfl;have hw:=pX ii ga.1;have ek:=iR1 (x:=((r:Int),(q:Int))) hw.1 hw.2
   have HLK:Hid (∀W,aB w W->(Instr.lookup 79 (.map (some bm)) (.agg #[.int .i64 r,.int .i64 q]) false).run Tryz.prog W=.ok (.int .i64 C) W):=λW hW=>by
    obtain⟨c,jb,ah,_⟩:=(bQ ae hW).lookup_int qP Tryz.underlying79 Tryz.underlying3 (pF0 W) ek;have aw:m.cs.getD i 0≠m.d:=(Mx.mem_idx.1 (List.mem_of_getElem? hi)).2;have o0:=(hM ((r:Int),(q:Int)) hw.1 hw.2).1
    have h1:Maps.has D (klP ((r:Int),(q:Int)))=true:=by
     rw[o0,ga.1,dz,<-hC];simpa using aw
    have h2:=(hM.look be ga.1 ah).1 h1;rw[dz]at h2;rw[h2]at jb;exact jb
   have hCb:C<=30000:=by omega
   have hDb:Dl<=4097:=by omega
   have wDl:IntKind.u64.wrap (Dl:Int)=Dl:=tL (by omega);have wC:IntKind.u64.wrap (C:Int)=C:=tL (by omega);obtain⟨rn,ac4⟩:∃rn:Nat,(r:Int)*m.n=rn:=⟨r*m.n,by simp⟩
   have akc:rn<=4096:=by
    have:rn=r*m.n:=by exact_mod_cast ac4.symm
    omega
   have wRN:IntKind.i64.wrap ((r:Int)*m.n)=rn:=by rw[ac4];exact tK (by omega)
   have wI:IntKind.i64.wrap ((rn:Int)+q)=i:=by rw[<-ac4,hrq];exact tK (by omega)
   have wDL:IntKind.i64.wrap ((i:Int)-L)=Dl:=by rw[hDl];exact tK (by omega)
   clear hcp hpi fj t7 jg oh hE hLj t9 jr l7 ga dz ek hw hi hpe hr hq om ac4 hrq hDl;have z0:∀x:Ext aB (wr.alloc (.cells #[.int .i64 r,.int .i64 q] 84)).drew,x.u.cell? ⟨wr.heap.size,0,none⟩=some (.int .i64 r):=aG (aX wr _ _ (0,0) 0 _ rfl);have z1:∀x:Ext aB (wr.alloc (.cells #[.int .i64 r,.int .i64 q] 84)).drew,x.u.cell? ⟨wr.heap.size,1,none⟩=some (.int .i64 q):=aG (aX wr _ _ (0,0) 1 _ rfl);have z2:∀x:Ext aB (wr.alloc (.cells #[.int .i64 r,.int .i64 q] 84)).drew,x.u.cell? ⟨mb,0,none⟩=some (.int .i64 m.n):=aG ((ev.al _).dr.cell c0);go_wp2_with fail
   refine iX aB (aT 11 []) aB.refl aB.trans (by kernel_rfl) (by kernel_rfl) (λd _ _ _ _ h=>by cases d<;>exact h) ?_
   iterate 11 (refine cQ rfl (λK hK=>?_);go_simp;refine hK _ ?_;clear hK K)
   refine sG (λwa ha=>?_);clear z0 z1 z2;have ol:aB (wr.alloc (.cells #[.int .i64 r,.int .i64 q] 84)) wa:=(aB.drew _).tr ha;go_wp2_with fail
   have n0:∀x:Ext aB wa.drew,x.u.cell? ⟨mb,2,none⟩=some (.map (some bm)):=aG (((ev.al _).tr ol).dr.cell c2);have n1:∀x:Ext aB wa.drew,x.u.cell? ⟨wr.heap.size,0,none⟩=some (.int .i64 r):=aG (ol.dr.cell (aX wr _ _ (0,0) 0 _ rfl));have n2:∀x:Ext aB wa.drew,x.u.cell? ⟨wr.heap.size,1,none⟩=some (.int .i64 q):=aG (ol.dr.cell (aX wr _ _ (0,0) 1 _ rfl));have n3:∀x:Ext aB wa.drew,(Instr.lookup 79 (.map (some bm)) (.agg #[.int .i64 r,.int .i64 q]) false).run Tryz.prog x.u=.ok (.int .i64 C) x.u:=λx=>HLK.out _ (((ev.al _).tr ol).dr.tr x.h);refine iX aB (oC [0,1,2,3,4,6,7,8,9,10,11,12,5,13,14] [5,13,14]) aB.refl aB.trans (by kernel_rfl) (by kernel_rfl) (λd _ _ _ _ h=>by cases d<;>exact h) ?_
   iterate 10 (refine cQ rfl (λK hK=>?_);go_simp;refine hK _ ?_;clear hK K)
   refine cQ rfl (λK hK=>?_);go_simp;refine hK _ ?_;clear hK K;iterate 1 (refine cQ rfl (λK hK=>?_);go_simp;refine hK _ ?_;clear hK K)
   clear n0 n1 n2 n3 HLK;refine nE rfl rfl (λK hK w2 h2=>?_);go_simp;have ep:aB wr w2:=((aB.alloc wr _).tr ol).dr.tr h2;refine(kL _ ab cb Dl w2 (by omega) (by omega) (ac3.grows ep) ko).mono ?_;rintro e w3 ⟨v3,rfl,bd,bu⟩;obtain⟨B3,qh⟩:=exq (acc++putU Dl);rw[<-qh]at bd;have kn:B3.length<=acc.length+10:=by have:=bK Dl;rw[qh,Aa];omega
   have HB3:=Ac qh;clear qh;obtain⟨a3,k3,rfl,h31,h32,iv⟩:=bd.at_ aR.len;have pg:=bC bd;clear bd;refine⟨bu,hK _ _ ?_⟩;clear hK K;refine nE rfl rfl (λK hK w4 h4=>?_);go_simp;refine(kL _ a3 k3 C w4 (by omega) (by omega) (iv.grows h4) pg).mono ?_;rintro e w5 ⟨v5,rfl,ai,bg⟩;obtain⟨B5,zm⟩:=exq (B3++putU C);rw[<-zm]at ai;have hb5:B5.length<=B3.length+10:=by have:=bK C;rw[zm,Aa];omega
   have HN5:Hid (m.enc=B5++jN m i (m.idx.drop (k+1))):=by
    show m.enc=_
    rw[zm,HB3.out,HNX.out]
   clear zm HNX HB3 iv pg;refine⟨bg,hK _ _ ?_⟩;clear hK K;refine nE rfl rfl (λK hK w6 h6=>?_);go_simp;refine⟨aB.refl _,hK _ _ ?_⟩;clear hK K;refine sG (λw7 h7=>?_);have ad0:aB w5 w7:=h6.tr h7;have j5:aB wr w4:=(ep.tr bu).tr h4;have bi:=(ai.grows ad0).base (base':=w.heap.size) (ev.tr j5).size;have ck:aB w9 w7:=((j4.tr j5).tr bg).tr ad0;clear ai ad0 j5 h2 bu h4 bg h6 h7 ep ol;go_wp2_with fail
   go_roundw
   case rel=>exact⟨k+1,B5,i,af,by go_num,rfl,by omega,by omega,bi,by omega,HN5,HUP,ck⟩
   case measure=>simp[intOf];omega
  ·obtain rfl:k=m.idx.length:=by omega
   have au:=hE.out;rw[List.drop_length]at au;have ab8:m.enc=acc:=by rw[au];show acc++[]=acc;simp
   have HF:=Ac ab8;clear au ab8 hE hLj;go_wp2_with fail
   go_ret;exact⟨_,rfl,by rw[HF.out];exact om,ev⟩
def kM1 (p:List bT) (m:Mx) (i:Nat):List UInt8 :=
 ((((eY1 p (i/m.n:Nat)).data.toList++[9])++(eY1 p (i%m.n:Nat)).data.toList)++[9])++Lib.itoa (m.cs.getD i 0)++[10]
def Mx.print (p:List bT) (m:Mx):List UInt8:=([100,101,102,97,117,108,116,9]++Lib.itoa m.d++[10])++m.idx.flatMap (kM1 p m)
end
section
open Go Go.RowKit Go.Shelf
attribute [local go_sem] aM aP
end
end Go.Proofs.YtiopheoljccmpaaGreatDoor
