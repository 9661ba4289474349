/- The texts Pairs Mat3 Mat5 Ppr, one behind the other. -/
import Derived.Test.YthgklnohcmaopaaGreatDoorTq13
import Derived.Test.YthgklnohcmaopaaGreatDoorTq16
import Derived.Test.YthgklnohcmaopaaGreatDoorTq12
import Derived.Test.YthgklnohcmaopaaGreatDoorTq23
import Derived.Test.YthgklnohcmaopaaGreatDoorTq1
import Derived.Test.YthgklnohcmaopaaGreatDoorTq21
import Derived.Test.YthgklnohcmaopaaGreatDoorTq20
import Derived.Test.YthgklnohcmaopaaGreatDoorTq19
open List renaming getElem?_eq_getElem → Aa,length_append → Ab,length_map → Ae,mem_of_getElem? → Af,drop_eq_getElem_cons → Ai,drop_succ_cons → An,drop_length → Ap,length_cons → Aq,length_nil → Ar,drop_zero → Au
open Go.Lib renaming hid → Ac,byteCells → Ad,byteCells_length → Ag,size_eq → Ah,itoa → Ak,IsBuilderF → Al,fresh_isBuilder → Am,itoa_length_le → Ao
open Nat renaming zero_le → Aj,mul_le_mul → At,le_trans → Ax
open Go.IntKind renaming signed → As,wrap → Av,bits → Aw
set_option maxHeartbeats 8000000
namespace Go.Proofs.YthgklnohcmaopaaGreatDoor
set_option maxRecDepth 100000
section
open Go Go.RowKit Go.Shelf
attribute [local go_sem] aK
theorem mV0 {m:Mx} (aq:m.OK) {D:DataW Unit} (hM:jV0 m D) {ss:List PW} (hA:uH D ss) {l:List (Int×Int)} (hp:l.Perm (ss.map (·.1))) (hs:l.Pairwise λx y=>ltOf uI0 y x=false):l=m.pairs:=by
 have xg:l.Nodup:=hp.nodup_iff.2 (List.pairwise_map.2 (hA.1.imp λh e=>h (Subtype.ext e)))
 have ae:l.Pairwise ltP:=(hs.and xg).imp λ{x y} ⟨h1,h2⟩=>by
  rcases pS0 h2 with h|h
  ·exact h
  ·rw[(sO y x).2 h]at h1;cases h1
 refine fA0 (lt:=ltP) zU (λh k=>eF0 h k) ae m.pairs_sorted λy=>?_;rw[hp.mem_iff,Mx.mem_pairs,List.mem_map];constructor
 ·rintro⟨x,hx,rfl⟩
  have h1:=(hA.2 x).1 hx;have h2:=(hM x.1 x.2.1 x.2.2).1;rw[h1]at h2;have h3:=h2.symm;simpa using h3
 ·rintro⟨h1,h2⟩
  have hw:=kO aq.n2 h1;refine⟨⟨y,hw.1,hw.2⟩,(hA.2 _).2 ?_,rfl⟩;rw[(hM y hw.1 hw.2).1,h1];simp[h2]
theorem aP1 {w:World} {base:Nat} {v:Value} {ss:List PW} (h:w.ownsRow base 158 2 v ss.length (ss.flatMap lZ)):aU w base 158 2 qU v (ss.map (·.1)):=by
 unfold aU;rw[Ae,List.flatMap_map];exact h
theorem gT0 (w:World) (Bm bm nn:Nat) (D:DataW Unit) (m:Mx) (aq:m.OK) (hM:jV0 m D) (cw:Maps.size D<=4096) (hm:w.cell? ⟨Bm,0,none⟩=some (.map (some bm))) (aa:w.ownsMap Tryz.prog 158 (plainElem Tryz.prog 3) bm nn D) :
  Calls Tryz.prog 156 #[.func (.func 218) #[] #[.pointer (some ⟨Bm,0,none⟩)],.func (.func 158) #[] #[]] w λe w'=>∃v,e=.returned v/\aU w' w.heap.size 158 2 qU v m.pairs/\aB w w':=by
 have CC:=Ac (cV0 w Bm bm nn D cw hm aa);have HE:=λ(ss:List PW) (l:List (Int×Int)) h1 h2 h3=>Ac (mV0 aq hM (ss:=ss) (l:=l) h1 h2 h3)
 have HL:Hid (∀ss:List PW,uH D ss->ss.length<4611686018427387904):=λss hA=>by
  have h0:=dB (l':=m.pairs) (List.pairwise_map.2 (hA.1.imp λh (e:_=_)=>h (Subtype.ext e)):(ss.map (·.1)).Nodup) (λy hy=>by
   obtain⟨x,hx,rfl⟩:=List.mem_map.1 hy;have h1:=(hA.2 x).1 hx;have h2:=(hM x.1 x.2.1 x.2.2).1;rw[h1]at h2;exact Mx.mem_pairs.2 (by simpa using h2.symm))
  rw[Ae]at h0
  have:=Mx.pairs_len aq
  omega
 clear hM aq cw hm aa;go_enter Tryz.func156,Tryz.ntmps156
 go_wp2_with fail
 refine CC.out.mono ?_;rintro e w1 ⟨v,ss,rfl,hA,de,hb⟩;have av:=aP1 de;have hl:=HL.out ss hA;go_wp2_with (go_at_call 217;refine(mN0 w1 w.heap.size v _ av (by rw[Ae];exact hl)).mono ?_;rintro e w2 ⟨rfl,l',hp,xa,ag,af⟩)
 go_ret;have he:=(HE ss l' hA hp xa).out;rw[he]at ag;exact⟨_,rfl,ag,(show aB w w1 from hb).grown af (λq hq=>bE av q hq)⟩
theorem dY0 (w:World) (mb bm:Nat) (m:Mx) (h:gG w mb bm m) :
  Calls Tryz.prog 87 #[.pointer (some ⟨mb,0,none⟩)] w λe w'=>∃v,e=.returned v/\aU w' w.heap.size 158 2 qU v m.pairs/\aB w w':=by
 have c2:=h.c2;obtain⟨D,aa,hM⟩:=h.own;have aq:=h.ok;have CS:=Ac (gT0 (w.alloc (.cells #[.map (some bm)] 151)) w.heap.size bm 4096 D m aq hM (dW0 aq aa hM) (aM _ _ _ _ 0 _ rfl) (aa.alloc _));clear hM aq aa h;go_enter Tryz.func87,Tryz.ntmps87
 go_wp2_with (first|(go_at_call 157;refine(rN0 _ _).mono ?_;rintro e w1 ⟨rfl,rfl⟩)|(go_at_call 156;refine CS.out.mono ?_;rintro e w2 ⟨v,rfl,ag,af⟩))
 go_ret;exact⟨_,rfl,ag.base (by simp),(aB.alloc _ _).tr af⟩
end
section
open Go Go.RowKit
attribute [local go_sem] aK
theorem pO {n:Nat} (h:n<=1048576):IntKind.i64.wrap (n:Int)=n:=by simp[Av,Aw,As]; omega
theorem qA {n:Nat} (h:n<=1048576):IntKind.u64.wrap (n:Int)=n:=by simp[Av,Aw,As]; omega
theorem lK0 (w:World) (mb bm:Nat) (m:Mx) (h:gG w mb bm m) :
  Calls Tryz.prog 65 #[.pointer (some ⟨mb,0,none⟩)] w λe w'=>∃v,e=.returned v/\aU w' w.heap.size 5 1 aV v m.enc/\aB w w':=by
 have CP:=Ac (dY0 w mb bm m h);have c0:=h.c0;have c1:=h.c1;have c2:=h.c2;have aq:=h.ok;have jm:=aq.n1;have ie:=aq.n2;have gj:=aq.d1;have ma:=aq.d2;have xw:=Mx.idx_len aq;obtain⟨D,aa,hM⟩:=h.own;have ik:m.pairs.length=m.idx.length:=by unfold Mx.pairs;rw[Ae]
 obtain⟨d,hd⟩:∃d:Nat,m.d=d:=⟨m.d.toNat,by omega⟩;have HE:Hid (m.enc=dJ m.n++(dJ d++(dJ m.idx.length++uB m (-1) m.idx))):=by show m.enc=_;unfold Mx.enc;rw[hd];rfl
 rw[hd]at c1;have hdb:d<=30000:=by omega
 have wN:IntKind.u64.wrap (m.n:Int)=m.n:=qA (by omega);have wD:IntKind.u64.wrap (d:Int)=d:=qA (by omega);have wL:IntKind.u64.wrap (m.idx.length:Int)=m.idx.length:=qA (by omega);clear h gj ma;go_enter Tryz.func65,Tryz.ntmps65
 go_wp2_with fail
 refine CP.out.mono ?_;rintro e w1 ⟨v1,rfl,av,aj⟩;obtain⟨a1,k1,rfl,tw,h12,dp⟩:=av.at_ (enc:=qU) (λ_=>rfl);rw[ik]at tw ⊢;clear av;go_wp2_with fail
 have x0:∀x:Ext aB w1.drew,x.u.cell? ⟨mb,0,none⟩=some (.int .i64 m.n):=aG (aj.dr.cell c0);have x1:∀x:Ext aB w1.drew,x.u.cell? ⟨mb,1,none⟩=some (.int .i64 d):=aG (aj.dr.cell c1);refine bZ0 aB (aK0 [0,1,2,3,4,6,7,8,9,10,12,13,14,5,11,15,16] [5,11,15,16]) aB.refl aB.trans (by kernel_rfl) (by kernel_rfl) (λd _ _ _ _ h=>by cases d<;>exact h) ?_
 iterate 13 (refine mI rfl (λK hK=>?_);go_simp;refine hK _ ?_;clear hK K)
 clear x0 x1;refine kZ rfl rfl (λK hK w2 h2=>?_);go_simp;refine(iH [] none 0 m.n w2 (by simp) (by omega) (aF.nil _ _ _) (λ_=>rfl)).mono ?_;rintro e w3 ⟨v3,rfl,au,bg⟩;obtain⟨B3,g9⟩:=exq (([]:List UInt8)++dJ m.n);rw[<-g9]at au;have gp:B3.length<=10:=by have:=bK m.n;rw[g9];simpa using this
 have HB3:=Ac g9;clear g9;obtain⟨a3,k3,rfl,h31,h32,fw⟩:=au.at_ bF.len;have uh:=bJ au;clear au;refine⟨bg,hK _ _ ?_⟩;clear hK K;refine kZ rfl rfl (λK hK w4 h4=>?_);go_simp;refine(iH _ a3 k3 d w4 (by omega) (by omega) (fw.grows h4) uh).mono ?_;rintro e w5 ⟨v5,rfl,ak,bk⟩;obtain⟨B5,pz⟩:=exq (B3++dJ d);rw[<-pz]at ak;have q9:B5.length<=20:=by have:=bK d;rw[pz,Ab];omega
 have HB5:=Ac pz;clear pz;obtain⟨a5,k5,rfl,h51,h52,fj⟩:=ak.at_ bF.len;have hn5:=bJ ak;clear ak fw uh;refine⟨bk,hK _ _ ?_⟩;clear hK K;refine kZ rfl rfl (λK hK w6 h6=>?_);go_simp;refine(iH _ a5 k5 m.idx.length w6 (by omega) (by omega) (fj.grows h6) hn5).mono ?_;rintro e w7 ⟨v7,rfl,dv,dx⟩;clear fj hn5;refine⟨dx,hK _ _ ?_⟩;clear hK K;refine kZ rfl rfl (λK hK w8 h8=>?_);go_simp;refine⟨aB.refl _,hK _ _ ?_⟩;clear hK K;refine wU0 (λw9 h9=>?_);have ui:aB w1 w6:=((((aB.drew w1).tr h2).tr bg).tr h4).tr (bk.tr h6);have uj:aB w7 w9:=h8.tr h9;have fy:aB w w9:=((aj.tr ui).tr dx).tr uj;replace dp:=dp.grows ((ui.tr dx).tr uj);have d8:=(dv.grows uj).base (base':=w.heap.size) (aj.tr ui).size;clear dv h2 bg h4 bk h6 dx h8 h9 ui uj aj CP;obtain⟨B9,tf⟩:=exq (B5++dJ m.idx.length);rw[<-tf]at d8;have hb9:B9.length<=30:=by have:=bK m.idx.length;rw[tf,Ab];omega
 have HE9:Hid (m.enc=B9++uB m (-1) m.idx):=by
  show m.enc=_
  rw[HE.out,tf,HB5.out,HB3.out];simp
 clear tf HE HB5 HB3 gp q9;go_wp2_with fail
 go_loopw [4,5,31] (λb last i wx=>∃(k:Nat) (acc:List UInt8) (L:Int),k<=m.idx.length/\i=.int .i64 k/\last=.int .i64 L/\-1<=L/\L<=4096/\aU wx w.heap.size 5 1 aV b acc/\acc.length<=30+k*20/\Hid (m.enc=acc++uB m L (m.idx.drop k))/\Hid (∀j∈m.idx.drop k,L<(j:Int))/\aB w9 wx) (λ_ _ i _=>m.idx.length-(intOf i).toNat)
 case atStart=>exact⟨0,B9,-1,Aj _,rfl,rfl,by omega,by omega,d8,by omega,HE9.out,λj _=>by omega,aB.refl _⟩
 case round =>
  obtain⟨k,acc,L,hk,rfl,rfl,hL1,hL2,jh,js,hE,hLj,mn⟩:=hrel;have mo:=fy.tr mn;obtain⟨ab,cb,rfl,ld,dm,uk⟩:=jh.at_ bF.len;have nl:=bJ jh;by_cases ae:k<m.idx.length
  ·obtain⟨i,hi⟩:∃i,m.idx[k]?=some i:=⟨_,Aa ae⟩
   obtain⟨ff,oh,me,ix,lj⟩:=Mx.idx_get aq hi
   have cm:m.idx.drop k=i::m.idx.drop (k+1):=by
    rw[Ai ae];rw[Aa ae]at hi;rw[Option.some.inj hi]
   have hLi:L<(i:Int):=hLj.out i (by rw[cm];simp)
   have pu:∀j∈m.idx.drop (k+1),i<j:=by
    have h1:(m.idx.drop k).Pairwise (· < ·):=Mx.idx_up.sublist (List.drop_sublist k _);rw[cm]at h1;exact(List.pairwise_cons.1 h1).1
   have jf:i<4096:=Nat.lt_of_lt_of_le ff (At ie ie);obtain⟨Dl,hDl⟩:∃Dl:Nat,(i:Int)-L=Dl:=⟨((i:Int)-L).toNat,by omega⟩;obtain⟨C,hC⟩:∃C:Nat,m.cs.getD i 0=C:=⟨(m.cs.getD i 0).toNat,by omega⟩
   have nh:m.enc=((acc++dJ Dl)++dJ C)++uB m i (m.idx.drop (k+1)):=by
    rw[hE.out,cm];show acc++(dJ ((i:Int)-L).toNat++(dJ (m.cs.getD i 0).toNat++uB m i (m.idx.drop (k+1))))=_
    rw[hDl,hC];simp
   have HNX:=Ac nh;have HUP:Hid (∀j∈m.idx.drop (k+1),(i:Int)<(j:Int)):=λj hj=>by have:=pu j hj;omega
   have db:=iQ ff;have cn:m.cost (dW m.n i)=C:=by rw[lj,hC]
   obtain⟨r,hr⟩:∃r:Nat,r=i/m.n:=⟨_,rfl⟩;obtain⟨q,hq⟩:∃q:Nat,q=i%m.n:=⟨_,rfl⟩;have x8:dW m.n i=((r:Int),(q:Int)):=by rw[hr,hq];rfl
   rw[x8]at oh db cn
   have hrq:(r:Int)*m.n+q=i:=by
    rw[hr,hq]
    have:=Nat.div_add_mod i m.n
    rw[Nat.mul_comm]at this;exact_mod_cast this
   have afs:r<64:=by have:=jX.1 db.1;simp only at this;omega
   have hrn:r*m.n<=4096:=by
    have:=At (Nat.le_of_lt afs) ie;omega
   have ahq:q<64:=by have:=jX.1 db.1;simp only at this;omega
   obtain⟨lb,lo,rfl,hcp⟩:=(dp.grows mn).get (aH (k:=k) (by omega));have p0:wr.cell? ⟨lb,lo+k*2,none⟩=some (.int .i64 r):=hcp k _ oh 0 _ rfl;have p1:wr.cell? ⟨lb,lo+k*2+1,none⟩=some (.int .i64 q):=hcp k _ oh 1 _ rfl;have hw:=kO ie db.1;have cg:=zQ0 (x:=((r:Int),(q:Int))) hw.1 hw.2
   have HLK:Hid (∀W,aB w W->(Instr.lookup 151 (.map (some bm)) (.agg #[.int .i64 r,.int .i64 q]) false).run Tryz.prog W=.ok (.int .i64 C) W):=λW hW=>by
    obtain⟨c,fk,ac,_⟩:=(bC aa hW).lookup_int lY Tryz.underlying151 Tryz.underlying3 (dZ0 W) cg;have ai:m.cs.getD i 0≠m.d:=(Mx.mem_idx.1 (Af hi)).2;have gm:=(hM ((r:Int),(q:Int)) hw.1 hw.2).1
    have h1:Maps.has D (klP ((r:Int),(q:Int)))=true:=by
     rw[gm,db.1,cn,<-hC];simpa using ai
    have h2:=(hM.look aq db.1 ac).1 h1;rw[cn]at h2;rw[h2]at fk;exact fk
   have hCb:C<=30000:=by omega
   have hDb:Dl<=4097:=by omega
   have wDl:IntKind.u64.wrap (Dl:Int)=Dl:=qA (by omega);have wC:IntKind.u64.wrap (C:Int)=C:=qA (by omega);obtain⟨rn,ul⟩:∃rn:Nat,(r:Int)*m.n=rn:=⟨r*m.n,by simp⟩
   have ahr:rn<=4096:=by
    have:rn=r*m.n:=by exact_mod_cast ul.symm
    omega
   have wRN:IntKind.i64.wrap ((r:Int)*m.n)=rn:=by rw[ul];exact pO (by omega)
   have wI:IntKind.i64.wrap ((rn:Int)+q)=i:=by rw[<-ul,hrq];exact pO (by omega)
   have wDL:IntKind.i64.wrap ((i:Int)-L)=Dl:=by rw[hDl];exact pO (by omega)
   clear hcp oh cm pu ff nh hE hLj me ix lj db cn cg hw hi x8 hr hq jh ul hrq hDl;have z0:∀x:Ext aB (wr.alloc (.cells #[.int .i64 r,.int .i64 q] 158)).drew,x.u.cell? ⟨wr.heap.size,0,none⟩=some (.int .i64 r):=aG (aM wr _ _ (0,0) 0 _ rfl);have z1:∀x:Ext aB (wr.alloc (.cells #[.int .i64 r,.int .i64 q] 158)).drew,x.u.cell? ⟨wr.heap.size,1,none⟩=some (.int .i64 q):=aG (aM wr _ _ (0,0) 1 _ rfl);have z2:∀x:Ext aB (wr.alloc (.cells #[.int .i64 r,.int .i64 q] 158)).drew,x.u.cell? ⟨mb,0,none⟩=some (.int .i64 m.n):=aG ((mo.al _).dr.cell c0);go_wp2_with fail
   refine bZ0 aB (bB 11 []) aB.refl aB.trans (by kernel_rfl) (by kernel_rfl) (λd _ _ _ _ h=>by cases d<;>exact h) ?_
   iterate 11 (refine mI rfl (λK hK=>?_);go_simp;refine hK _ ?_;clear hK K)
   refine wU0 (λwa ha=>?_);clear z0 z1 z2;have jg:aB (wr.alloc (.cells #[.int .i64 r,.int .i64 q] 158)) wa:=(aB.drew _).tr ha;go_wp2_with fail
   have n0:∀x:Ext aB wa.drew,x.u.cell? ⟨mb,2,none⟩=some (.map (some bm)):=aG (((mo.al _).tr jg).dr.cell c2);have n1:∀x:Ext aB wa.drew,x.u.cell? ⟨wr.heap.size,0,none⟩=some (.int .i64 r):=aG (jg.dr.cell (aM wr _ _ (0,0) 0 _ rfl));have n2:∀x:Ext aB wa.drew,x.u.cell? ⟨wr.heap.size,1,none⟩=some (.int .i64 q):=aG (jg.dr.cell (aM wr _ _ (0,0) 1 _ rfl));have n3:∀x:Ext aB wa.drew,(Instr.lookup 151 (.map (some bm)) (.agg #[.int .i64 r,.int .i64 q]) false).run Tryz.prog x.u=.ok (.int .i64 C) x.u:=λx=>HLK.out _ (((mo.al _).tr jg).dr.tr x.h);refine bZ0 aB (aK0 [0,1,2,3,4,6,7,8,9,10,11,12,5,13,14] [5,13,14]) aB.refl aB.trans (by kernel_rfl) (by kernel_rfl) (λd _ _ _ _ h=>by cases d<;>exact h) ?_
   iterate 10 (refine mI rfl (λK hK=>?_);go_simp;refine hK _ ?_;clear hK K)
   refine mI rfl (λK hK=>?_);go_simp;refine hK _ ?_;clear hK K;iterate 1 (refine mI rfl (λK hK=>?_);go_simp;refine hK _ ?_;clear hK K)
   clear n0 n1 n2 n3 HLK;refine kZ rfl rfl (λK hK w2 h2=>?_);go_simp;have du:aB wr w2:=((aB.alloc wr _).tr jg).dr.tr h2;refine(iH _ ab cb Dl w2 (by omega) (by omega) (uk.grows du) nl).mono ?_;rintro e w3 ⟨v3,rfl,au,bg⟩;obtain⟨B3,g9⟩:=exq (acc++dJ Dl);rw[<-g9]at au;have gp:B3.length<=acc.length+10:=by have:=bK Dl;rw[g9,Ab];omega
   have HB3:=Ac g9;clear g9;obtain⟨a3,k3,rfl,h31,h32,fw⟩:=au.at_ bF.len;have uh:=bJ au;clear au;refine⟨bg,hK _ _ ?_⟩;clear hK K;refine kZ rfl rfl (λK hK w4 h4=>?_);go_simp;refine(iH _ a3 k3 C w4 (by omega) (by omega) (fw.grows h4) uh).mono ?_;rintro e w5 ⟨v5,rfl,ak,bk⟩;obtain⟨B5,pz⟩:=exq (B3++dJ C);rw[<-pz]at ak;have q9:B5.length<=B3.length+10:=by have:=bK C;rw[pz,Ab];omega
   have HN5:Hid (m.enc=B5++uB m i (m.idx.drop (k+1))):=by
    show m.enc=_
    rw[pz,HB3.out,HNX.out]
   clear pz HNX HB3 fw uh;refine⟨bk,hK _ _ ?_⟩;clear hK K;refine kZ rfl rfl (λK hK w6 h6=>?_);go_simp;refine⟨aB.refl _,hK _ _ ?_⟩;clear hK K;refine wU0 (λw7 h7=>?_);have aav:aB w5 w7:=h6.tr h7;have jv:aB wr w4:=(du.tr bg).tr h4;have dv:=(ak.grows aav).base (base':=w.heap.size) (mo.tr jv).size;have dx:aB w9 w7:=((mn.tr jv).tr bk).tr aav;clear ak aav jv h2 bg h4 bk h6 h7 du jg;go_wp2_with fail
   go_roundw
   case rel=>exact⟨k+1,B5,i,ae,by go_num,rfl,by omega,by omega,dv,by omega,HN5,HUP,dx⟩
   case measure=>simp[intOf];omega
  ·obtain rfl:k=m.idx.length:=by omega
   have aw:=hE.out;rw[Ap]at aw;have lk:m.enc=acc:=by rw[aw];show acc++[]=acc;simp
   have HF:=Ac lk;clear aw lk hE hLj;go_wp2_with fail
   go_ret;exact⟨_,rfl,by rw[HF.out];exact jh,mo⟩
theorem vW0 {α:Type} {w w':World} {base b:Nat} {e u:TypeId} {k:Nat} {enc:α->List Value} {v:Value} {xs:List α} (h:aU w base e k enc v xs) (hk:Lib.OthersKept u (some b) w w') (hb:b<base) (he:e≠u):aU w' base e k enc v xs:=by
 refine⟨h.1,h.2.imp_right ?_⟩;rintro⟨g,cap,bv,hv,x9,hh,r⟩;exact⟨g,cap,bv,hv,x9,hk g _ hh (by intro h;cases h;omega) (by intro c fz h;cases h;exact he rfl),r⟩
def oZ (p:List bD) (m:Mx) (i:Nat):List UInt8 :=
 ((((dH p (i/m.n:Nat)).data.toList++[9])++(dH p (i%m.n:Nat)).data.toList)++[9])++Ak (m.cs.getD i 0)++[10]
def Mx.print (p:List bD) (m:Mx):List UInt8:=([100,101,102,97,117,108,116,9]++Ak m.d++[10])++m.idx.flatMap (oZ p m)
def jN (p:List bD) (m:Mx):List UInt8×Int:=if aQ p=true/\p.length=m.n then (m.print p,0) else ([],5)
theorem matPrint_any (w:World) (mb bm:Nat) (m:Mx) (h:gG w mb bm m) (p:List bD) (pa:Option Addr) (q6:Nat) (hp:p.length<=4611686018427387904) (he:cI1 w) (jq:aF w pa 2 (p.map bH)) :
  Calls Tryz.prog 24 #[.pointer (some ⟨mb,0,none⟩),.slice pa p.length q6] w λe w'=>e=.returned (.tuple #[.string ⟨(jN p m).1.toArray⟩,.int .i64 (jN p m).2])/\aB w w':=by
 have CC:=Ac (iX p pa q6 w jq hp);have c0:=h.c0;cases hv:aQ p
 ·have hq:jN p m=([],5):=by unfold jN;rw[hv];simp
  rw[hq];rw[hv]at CC;clear hq hv;go_enter Tryz.func24,Tryz.ntmps24
  go_wp2_with (first|(go_at_call 83;refine CC.out.mono ?_;rintro e w1 ⟨rfl,aj⟩))
  go_ret2;exact⟨rfl,aj⟩
 ·by_cases an:p.length=m.n
  ·rw[hv]at CC
   have hq:jN p m=(m.print p,0):=by unfold jN;rw[if_pos ⟨hv,an⟩]
   rw[hq];have HNS:Hid (∀(i:Nat) (q:bD),p[i]?=some q->q.name.size<=16):=λi q hq=>fG0 hv hq;clear hq hv;have HLEN:=Ac an;have aq:=h.ok;have jm:=aq.n1;have ie:=aq.n2;have gj:=aq.d1;have ma:=aq.d2;have HM:=Ac h;have c1:=h.c1;have ll:(p.length:Int)=m.n:=by omega
   clear h an;go_enter Tryz.func24,Tryz.ntmps24
   go_wp2_with (first|(go_at_call 83;refine CC.out.mono ?_;rintro e w1 ⟨rfl,aj⟩;replace c0:=aj.cell c0;replace c1:=aj.cell c1;have c1a:=(aB.alloc w1 (.cells #[.pointer none,.slice none 0 0] 144)).cell c1))
   have du:=aj.al (.cells #[.pointer none,.slice none 0 0] 144);refine(aY0 _ _ gj ma (he.grows du)).mono ?_;rintro e w2 ⟨rfl,af⟩;have ei:=du.tr af;have hI:=Ao m.d (by omega) (by omega);clear c0 c1 c1a;go_wp2_with fail
   refine(Tryz.Builder_WriteString_k w1.heap.size w1.heap.size (Ad []) _ w2 (eV (Lib.IsBuilderF.of (Am _ _ w1)) af) ?hl ?hs).mono ?_;case hl=>rw[Ag];simp[ByteArray.size];omega
   case hs=>have:=af.size;simp at this;omega
   rintro e w3 ⟨rfl,acu,gp,_⟩;obtain⟨B3,g9⟩:=exq ([100,101,102,97,117,108,116,9]++Ak m.d++[10]);have acv:Al 144 5 w1.heap.size w1.heap.size (Ad B3) w3:=Or.inr (jM (acc:=[]) (L:=B3) acu (by rw[g9];simp));have hl3:B3.length<=64:=by rw[g9];simp;omega
   have HB3:Hid (m.print p=B3++m.idx.flatMap (oZ p m)):=by show m.print p=_;rw[g9];rfl
   clear g9 acu;have lc:aB w1 w3:=Below.trans ((aB.alloc w1 _).tr af) gp;have ev:=aj.tr lc
   have abv:w1.heap.size<w3.heap.size:=by
    have h1:=af.size;have h2:=Below.size gp;simp at h1;omega
   go_wp2_with fail
   refine(dY0 w3 mb bm m (HM.out.grows ev)).mono ?_;rintro e w4 ⟨v4,rfl,cj,di⟩;obtain⟨a4,k4,rfl,h41,h42,_⟩:=cj.at_ (enc:=qU) (λ_=>rfl);have ik:m.pairs.length=m.idx.length:=by unfold Mx.pairs;rw[Ae]
   rw[ik]at h41 cj ⊢;have xw:=Mx.idx_len aq;have acl:=eV acv di;have aft:=lc.tr di;clear acv gp hI ei du af CC;go_wp2_with fail
   go_loopw [34] (λi wx=>∃(k:Nat) (acc:List UInt8),k<=m.idx.length/\i=.int .i64 k/\Al 144 5 w1.heap.size w1.heap.size (Ad acc) wx/\aU wx w3.heap.size 158 2 qU (.slice a4 m.idx.length k4) m.pairs/\acc.length<=64+k*64/\Hid (m.print p=acc++(m.idx.drop k).flatMap (oZ p m))/\aB w1 wx) (λi _=>m.idx.length-(intOf i).toNat)
   case atStart=>exact⟨0,B3,Aj _,rfl,acl,cj,by omega,HB3,aft⟩
   case round =>
    obtain⟨k,acc,hk,rfl,fg,aa,js,hE,mn⟩:=hrel;have mo:=aj.tr mn;by_cases ae:k<m.idx.length
    ·obtain⟨i,hi⟩:∃i,m.idx[k]?=some i:=⟨_,Aa ae⟩
     obtain⟨ff,oh,me,ix,lj⟩:=Mx.idx_get aq hi
     have cm:m.idx.drop k=i::m.idx.drop (k+1):=by
      rw[Ai ae];rw[Aa ae]at hi;rw[Option.some.inj hi]
     obtain⟨C,hC⟩:∃C,m.cs.getD i 0=C:=⟨_,rfl⟩;have db:=iQ ff;have cn:m.cost (dW m.n i)=C:=by rw[lj,hC]
     obtain⟨r,hr⟩:∃r:Nat,r=i/m.n:=⟨_,rfl⟩;obtain⟨q,hq⟩:∃q:Nat,q=i%m.n:=⟨_,rfl⟩;have x8:dW m.n i=((r:Int),(q:Int)):=by rw[hr,hq];rfl
     rw[x8]at oh db cn;have hrl:r<p.length:=by have:=jX.1 db.1;simp only at this;omega
     have hql:q<p.length:=by have:=jX.1 db.1;simp only at this;omega
     have hrm:r<m.n:=by omega
     have hqm:q<m.n:=by omega
     obtain⟨P1,ub⟩:∃x,p[r]?=some x:=⟨_,Aa hrl⟩;obtain⟨P2,np⟩:∃x,p[q]?=some x:=⟨_,Aa hql⟩;have ed:=HNS.out _ _ ub;have ii:=HNS.out _ _ np
     have d9:oZ p m i=((((P1.name.data.toList++[9])++P2.name.data.toList)++[9])++Ak C)++[10]:=by
      unfold oZ dH;rw[<-hr,<-hq,hC];simp[ub,np]
     have HL:=Ac d9;have hIC:=Ao C (by omega) (by omega);have t1:¬9223372036854775807<P1.name.size+1:=by omega
     have t2:¬9223372036854775807<P1.name.size+1+P2.name.size:=by omega
     have t3:¬9223372036854775807<P1.name.size+1+P2.name.size+1:=by omega
     have t4:¬9223372036854775807<P1.name.size+1+P2.name.size+1+(Ak C).length:=by omega
     have t5:¬9223372036854775807<P1.name.size+1+P2.name.size+1+(Ak C).length+1:=by omega
     have hll:(oZ p m i).length<=64:=by
      have q3:=Ah P1.name;have q4:=Ah P2.name;rw[d9];simp only[Ab,Aq,Ar];omega
     have HNX:Hid (m.print p=(acc++oZ p m i)++(m.idx.drop (k+1)).flatMap (oZ p m)):=by
      show m.print p=_
      rw[hE.out,cm];simp
     obtain⟨pb,iz,rfl,q8⟩:=(jq.grows mo).get (aH hrl);have f1:wr.cell? ⟨pb,iz+r*2,none⟩=some (.string P1.name):=q8 r P1 ub 0 _ rfl;have f2:wr.cell? ⟨pb,iz+q*2,none⟩=some (.string P2.name):=q8 q P2 np 0 _ rfl;obtain⟨a5,k5,he5,_,_,fj⟩:=aa.at_ (enc:=qU) (λ_=>rfl);obtain rfl:a4=a5:=(Value.slice.inj he5).1;clear he5;obtain⟨lb,lo,rfl,hcp⟩:=fj.get (aH (k:=k) (by omega));have p0:wr.cell? ⟨lb,lo+k*2,none⟩=some (.int .i64 r):=hcp k _ oh 0 _ rfl;have p1:wr.cell? ⟨lb,lo+k*2+1,none⟩=some (.int .i64 q):=hcp k _ oh 1 _ rfl;have hw:=kO ie db.1;have cg:=zQ0 (x:=((r:Int),(q:Int))) hw.1 hw.2;obtain⟨D,ya,um⟩:=HM.out.own
     have HLK:Hid (∀W,aB w W->(Instr.lookup 151 (.map (some bm)) (.agg #[.int .i64 r,.int .i64 q]) false).run Tryz.prog W=.ok (.int .i64 C) W):=λW hW=>by
      obtain⟨c,fk,ac,_⟩:=(bC ya hW).lookup_int lY Tryz.underlying151 Tryz.underlying3 (dZ0 W) cg;have ai:m.cs.getD i 0≠m.d:=(Mx.mem_idx.1 (Af hi)).2;have gm:=(um ((r:Int),(q:Int)) hw.1 hw.2).1
      have h1:Maps.has D (klP ((r:Int),(q:Int)))=true:=by
       rw[gm,db.1,cn,<-hC];simpa using ai
      have h2:=(um.look aq db.1 ac).1 h1;rw[cn]at h2;rw[h2]at fk;exact fk
     have hC0:0<=C:=by omega
     have hC1:C<=30000:=by omega
     have c2:=(HM.out.grows mo).c2;have hEw:cI1 wr:=he.grows mo;clear hcp oh cm ff hE me ix lj db cn cg hw hi x8 hr hq hC d9 ub np q8 ed ii ya um;go_wp2_with fail
     have z0:∀x:Ext aB (wr.alloc (.cells #[.int .i64 r,.int .i64 q] 158)).drew,x.u.cell? ⟨wr.heap.size,0,none⟩=some (.int .i64 r):=aG (aM wr _ _ (0,0) 0 _ rfl);have z1:∀x:Ext aB (wr.alloc (.cells #[.int .i64 r,.int .i64 q] 158)).drew,x.u.cell? ⟨wr.heap.size,1,none⟩=some (.int .i64 q):=aG (aM wr _ _ (0,0) 1 _ rfl);have mq:=(aB.alloc wr (.cells #[.int .i64 r,.int .i64 q] 158)).dr;have z2:∀x:Ext aB (wr.alloc (.cells #[.int .i64 r,.int .i64 q] 158)).drew,x.u.cell? ⟨mb,2,none⟩=some (.map (some bm)):=aG (mq.cell c2);have z3:∀x:Ext aB (wr.alloc (.cells #[.int .i64 r,.int .i64 q] 158)).drew,x.u.cell? ⟨pb,iz+r*2,none⟩=some (.string P1.name):=aG (mq.cell f1);have z4:∀x:Ext aB (wr.alloc (.cells #[.int .i64 r,.int .i64 q] 158)).drew,x.u.cell? ⟨pb,iz+q*2,none⟩=some (.string P2.name):=aG (mq.cell f2);have z5:∀x:Ext aB (wr.alloc (.cells #[.int .i64 r,.int .i64 q] 158)).drew,(Instr.lookup 151 (.map (some bm)) (.agg #[.int .i64 r,.int .i64 q]) false).run Tryz.prog x.u=.ok (.int .i64 C) x.u:=λx=>HLK.out _ ((mo.tr mq).tr x.h);refine cP1 aB 24 (bB 24 []) aB.refl aB.trans (by kernel_rfl) (by kernel_rfl) (λd _ _ _ _ h=>by cases d<;>exact h) ?_
     iterate 21 (refine mI rfl (λK hK=>?_);go_simp;refine hK _ ?_;clear hK K)
     refine mI rfl (λK hK=>?_);go_simp;apply Exists.intro
     refine⟨λx=>?_,hK _ ?_⟩
     ·exact dS0 (aY0 _ _ hC0 hC1 ((hEw.grows mq).grows x.h))
     clear hK K;iterate 2 (refine mI rfl (λK hK=>?_);go_simp;refine hK _ ?_;clear hK K)
     refine wU0 (λw6 h6=>?_);simp only[An,Au];have dd:aB wr w6:=mq.tr h6;clear z0 z1 z2 z3 z4 z5 mq h6 f1 f2 p0 p1 c2 HLK;go_wp2_with fail
     have hWS:=λ(s:ByteArray) (hs:s.data.toList=oZ p m i)=>Ac (Tryz.Builder_WriteString_k w1.heap.size w1.heap.size (Ad acc) s w6 (eV fg dd) (by
      have h9:=Ah s;rw[hs]at h9;rw[Ag];omega) (Ax (iF fg) dd.size))
     refine(hWS _ (by rw[HL.out];simp)).out.mono ?_;rintro e w7 ⟨rfl,aaw,un,hk7⟩;go_wp2_with fail
     have mr:aB w1 w7:=Below.trans (mn.tr dd) un;have dv:=vW0 (aa.grows dd) hk7 abv (by decide);go_roundw
     case rel=>exact⟨k+1,acc++oZ p m i,ae,by go_num,Or.inr (jM (L:=oZ p m i) aaw (by rw[HL.out];simp)),dv,by rw[Ab];omega,HNX,mr⟩
     case measure=>simp[intOf];omega
    ·obtain rfl:k=m.idx.length:=by omega
     have aw:=hE.out;rw[Ap]at aw;have lk:m.print p=acc:=by rw[aw];simp
     have HF:=Ac lk;clear aw lk hE;go_wp2_with (first|(go_at_call 85;refine(Tryz.Builder_String_any_k _ _ _ _ fg (iF fg)).mono ?_;rintro e w5 ⟨rfl,afu,q9,_⟩))
     go_ret2;rw[HF.out];exact⟨rfl,Below.trans mo (Below.mono q9 aj.size)⟩
  ·rw[hv]at CC
   have hq:jN p m=([],5):=by unfold jN;rw[if_neg (λh=>an h.2)]
   rw[hq];have jc:¬(p.length:Int)=m.n:=by omega
   clear hq hv an h;go_enter Tryz.func24,Tryz.ntmps24
   go_wp2_with (first|(go_at_call 83;refine CC.out.mono ?_;rintro e w1 ⟨rfl,aj⟩;replace c0:=aj.cell c0))
   go_ret2;exact⟨rfl,aj⟩
end
section
open Go Go.RowKit Go.Shelf
attribute [local go_sem] aK aP
theorem qP0 {k:Int} (h0:0<=k) (h2:k<=2):∃(n:Nat) (s:ByteArray),k=n/\n<3/\kG[n]?=some s/\s.data.toList=qE0 k/\s.size<=8:=by
 obtain⟨n,rfl⟩:=Int.eq_ofNat_of_zero_le h0;have hn:n=0\/n=1\/n=2:=by omega
 rcases hn with rfl|rfl|rfl<;>exact⟨_,_,rfl,by decide,rfl,rfl,by decide⟩
theorem ppr_any (l:List bD) (a:Option Addr) (cap:Nat) (w:World) (he:uF0 w) (hv:aQ l=true) (ac:aF w a 2 (l.map bH)) :
  Calls Tryz.prog 23 #[.slice a l.length cap] w λe w'=>e=.returned (.tuple #[.string (mkB (oF0 l)),.int .i64 0])/\aB w w':=by
 have pr:=(lG hv).2.1;have CC:=Ac (iX l a cap w ac (by omega));rw[hv,show bO1 true=0 from rfl]at CC
 have HV:=Ac hv;have HAT:=Ac ac;have HK:=Ac he.kin;clear hv ac he;go_enter Tryz.func23,Tryz.ntmps23
 go_wp2_with fail
 refine CC.out.mono ?_;rintro e w1 ⟨rfl,aj⟩;clear CC;go_wp2_with fail
 go_loopw [7,15] (λ_ i wr=>∃(k:Nat) (acc:List UInt8),k<=l.length/\i=.int .i64 k/\Al 144 5 w1.heap.size w1.heap.size (Ad acc) wr/\Hid (acc=oF0 (l.take k))/\acc.length<=k*32/\Hid (aB w1 wr)) (λ_ i _=>l.length-(intOf i).toNat)
 case atStart=>exact⟨0,[],Aj _,rfl,Lib.IsBuilderF.of (Am _ _ w1),rfl,Aj _,aB.alloc _ _⟩
 case round =>
  obtain⟨k,acc,hk,rfl,fg,hE,js,mn⟩:=hrel;have mo:=aj.tr mn.out;by_cases ae:k<l.length
  ·have cy:(k:Int)<l.length:=by omega
   obtain⟨⟨nm,kd⟩,hp⟩:∃x,l[k]?=some x:=⟨_,Aa ae⟩;obtain⟨hn,h0,h2⟩:=kQ HV.out (Af hp);simp only at hn h0 h2;have h16:=(oV hn).2.1;obtain⟨kn,ks,rfl,ky,j9,hkb,hk8⟩:=qP0 h0 h2;obtain⟨pb,iz,rfl,q8⟩:=(HAT.out.grows mo).get (aH ae);have c0:wr.cell? ⟨pb,iz+k*2,none⟩=some (.string nm):=q8 k _ hp 0 _ rfl;have c1:wr.cell? ⟨pb,iz+k*2+1,none⟩=some (.int .i64 kn):=q8 k _ hp 1 _ rfl
   have d9:dG ⟨nm,(kn:Int)⟩++[10]=((nm.data.toList++[9])++ks.data.toList)++[10]:=by
    unfold dG;rw[hkb];simp
   have HL:=Ac d9
   have HNX:Hid (acc++(dG ⟨nm,(kn:Int)⟩++[10])=oF0 (l.take (k+1))):=by
    show _=_
    rw[hE.out,bT hp];unfold oF0;rw[List.flatMap_append];simp
   have t1:¬9223372036854775807<nm.size+1:=by omega
   have t2:¬9223372036854775807<nm.size+1+ks.size:=by omega
   have t3:¬9223372036854775807<nm.size+1+ks.size+1:=by omega
   have hll:(dG ⟨nm,(kn:Int)⟩++[10]).length<=32:=by
    have q3:=Ah nm;have q4:=Ah ks;rw[d9];simp only[Ab,Aq,Ar];omega
   have ahs:(kn:Int)<3:=by omega
   have g0:=mo.cell (HK.out kn ks j9);clear q8 hp hn h0 h2 hkb d9 j9 hE;go_wp2_with fail
   have mq:=(aB.alloc wr (.cells #[.string nm,.int .i64 kn] 73)).dr;have z0:∀x:Ext aB (wr.alloc (.cells #[.string nm,.int .i64 kn] 73)).drew,x.u.cell? ⟨wr.heap.size,0,none⟩=some (.string nm):=aG (aM wr _ _ (0,0) 0 _ rfl);have z1:∀x:Ext aB (wr.alloc (.cells #[.string nm,.int .i64 kn] 73)).drew,x.u.cell? ⟨wr.heap.size,1,none⟩=some (.int .i64 kn):=aG (aM wr _ _ (0,0) 1 _ rfl);have z2:∀x:Ext aB (wr.alloc (.cells #[.string nm,.int .i64 kn] 73)).drew,x.u.cell? ⟨0,kn,none⟩=some (.string ks):=aG (mq.cell g0);refine rP 9 (bB 9 []) (by kernel_rfl) (λd _ _ _ _ h=>by cases d<;>exact h) ?_
   iterate 9 (refine aO rfl (λK hK=>?_);go_simp;refine hK _ ?_;clear hK K)
   refine bU ?_;simp only[An,Au];have hgX:aB wr (wr.alloc (.cells #[.string nm,.int .i64 kn] 73)).drew:=mq;generalize (wr.alloc (.cells #[.string nm,.int .i64 kn] 73)).drew=w6 at *;clear z0 z1 z2 g0 c0 c1 mq;go_wp2_with fail
   have hWS:=λ(s:ByteArray) (hs:s.data.toList=dG ⟨nm,(kn:Int)⟩++[10])=>Ac (Tryz.Builder_WriteString_k w1.heap.size w1.heap.size (Ad acc) s w6 (eV fg hgX) (by
    have h9:=Ah s;rw[hs]at h9;rw[Ag];omega) (Ax (iF fg) hgX.size))
   refine(hWS _ (by rw[HL.out];simp)).out.mono ?_;rintro e w7 ⟨rfl,aaw,un,_⟩;go_wp2_with fail
   have mr:aB w1 w7:=Below.trans (mn.out.tr hgX) un;go_roundw
   case rel=>exact⟨k+1,acc++(dG ⟨nm,(kn:Int)⟩++[10]),ae,by go_num,Or.inr (jM (L:=dG ⟨nm,(kn:Int)⟩++[10]) aaw (by rw[HL.out];simp)),HNX.out,by rw[Ab];omega,mr⟩
   case measure=>simp[intOf];omega
  ·obtain rfl:k=l.length:=by omega
   have aw:acc=oF0 l:=by rw[hE.out,List.take_length]
   have HF:=Ac aw;clear aw hE;go_wp2_with (first|(go_at_call 85;refine(Tryz.Builder_String_any_k _ _ _ _ fg (iF fg)).mono ?_;rintro e w5 ⟨rfl,afu,q9,_⟩))
   go_ret2;rw[<-HF.out];exact⟨rfl,Below.trans mo (Below.mono q9 aj.size)⟩
end
end Go.Proofs.YthgklnohcmaopaaGreatDoor
