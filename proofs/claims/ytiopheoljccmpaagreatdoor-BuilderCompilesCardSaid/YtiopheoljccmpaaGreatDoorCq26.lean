/- The texts RefE16 DecN, one behind the other. -/
import Derived.Test.YtiopheoljccmpaaGreatDoorCq12
import Derived.Test.YtiopheoljccmpaaGreatDoorCq20
import Derived.Test.YtiopheoljccmpaaGreatDoorCq21
open Go.World renaming cell?_setCell_other → Aa,frozen?_setCell → Ab,block_lt_of_cell? → Ae,cell?_setCell_same → Aj
open Go.IntKind renaming signed → Ac,wrap → Af,bits → Ag
open Nat renaming lt_of_lt_of_le → Ad,le_trans → Ah,le_refl → An
open List renaming length_append → Ai
open Go.Addr renaming block → Ak
open Go.Lib renaming hid → Al
open Int renaming toNat_natCast → Am
set_option maxHeartbeats 8000000
namespace Go.Proofs.YtiopheoljccmpaaGreatDoor
set_option maxRecDepth 100000
section
open Go Go.RowKit
attribute [local go_sem] aM aP
theorem eF1 (w:World) (rb:Nat) (m:Mx) (h:iQ w rb m):Calls Tryz.prog 122 #[.pointer (some ⟨rb,0,none⟩)] w λe w'=>∃v,e=.returned v/\aO w' w.heap.size 5 1 aQ v m.enc/\aB w w':=by
 have c0:=h.c0;have c1:=h.c1;have be:=h.ok;have j6:=be.n1;have ii:=be.n2;have ie:=be.d1;have ig:=be.d2;have ay:=be.len;have dz:=be.cost;obtain⟨g,cap,c2,_,hgl,cj,_,_⟩:=h.costs;have o8:=h.lt;obtain⟨d,hd⟩:∃d:Nat,m.d=d:=⟨m.d.toNat,by omega⟩;have HFIN:=λ(n:Nat) (L:Int) (acc:List UInt8) (hi:kO m m.cs.length n L acc)=>Al (hi.fin be d hd);rw[hd]at c1;have hdb:d<=30000:=by omega
 have qq:m.n*m.n<=4096:=Nat.mul_le_mul ii ii;obtain⟨N2,hN2⟩:=exq m.cs.length;have aig:N2<=4096:=by omega
 rw[<-hN2]at c2 HFIN
 have HC:Hid (∀(k:Nat),k<N2->∃c:Nat,m.cs[k]?=some (c:Int)/\c<=30000):=λk hk=>by
  have h9:k<m.cs.length:=by omega
  have h8:=dz _ (List.getElem_mem h9);exact⟨(m.cs[k]).toNat,by rw[List.getElem?_eq_getElem h9];congr 1;omega,by omega⟩
 have HCELL:=Al cj;have HD:=Al hd;clear h be ay dz cj hN2 qq hd ie ig;go_enter Tryz.func122,Tryz.ntmps122
 go_wp2_with fail
 go_loopw [3,4,5,6] (λn r l i wx=>∃(k kq:Nat) (L:Int) (acc:List UInt8),k<=N2/\i=.int .i64 k/\n=.int .i64 kq/\l=.int .i64 L/\aO wx w.heap.size 5 1 aQ r acc/\Hid (kO m k kq L acc)/\aB w wx) (λ_ _ _ i _=>N2-(intOf i).toNat)
 case atStart=>exact⟨0,0,-1,[],Nat.zero_le _,rfl,rfl,rfl,aO.nil _ _ _ _ _,kO.start m,aB.refl _⟩
 case round =>
  obtain⟨k,kq,L,acc,hk,rfl,rfl,rfl,ae,ak,hg⟩:=hrel;have hi1:=ak.out.lo;have gb:=ak.out.hi;have hi3:=ak.out.len;have hi4:=ak.out.num_le;replace c0:=hg.cell c0;replace c1:=hg.cell c1;replace c2:=hg.cell c2;by_cases af:k<N2
  ·obtain⟨c,hc,qi⟩:=HC.out k af
   have cc:=hg.cell (HCELL.out k c hc);by_cases hcd:c=d
   ·subst hcd
    have HN:=Al (ak.out.miss hc HD.out.symm);go_wp2_with fail
    have z1:∀x:Ext aB wr.drew,x.u.cell? ⟨rb,1,none⟩=some (.int .i64 c):=aG ((aB.drew wr).cell c1);have z2:∀x:Ext aB wr.drew,x.u.cell? ⟨rb,2,none⟩=some (.slice (some ⟨g,0,none⟩) N2 cap):=aG ((aB.drew wr).cell c2);have z3:∀x:Ext aB wr.drew,x.u.cell? ⟨g,k,none⟩=some (.int .i64 c):=aG ((aB.drew wr).cell cc);refine iX aB (aT 12 []) aB.refl aB.trans (by kernel_rfl) (by kernel_rfl) (λd _ _ _ _ h=>by cases d<;>exact h) ?_
    iterate 12 (refine cQ rfl (λK hK=>?_);go_simp;refine hK _ ?_;clear hK K)
    refine sG (λwa h4=>?_);clear z1 z2 z3;have cd:=(aB.drew wr).tr h4;go_wp2_with fail
    go_roundw
    case rel=>exact⟨k+1,kq,L,acc,af,by go_num,rfl,rfl,ae.grows cd,HN.out,hg.tr cd⟩
    case measure=>simp[intOf];omega
   ·have akd:((c:Int)==(d:Int))=false:=by rw[beq_eq_false_iff_ne];omega
    go_wp2_with fail
    have z1:∀x:Ext aB wr.drew,x.u.cell? ⟨rb,1,none⟩=some (.int .i64 d):=aG ((aB.drew wr).cell c1);have z2:∀x:Ext aB wr.drew,x.u.cell? ⟨rb,2,none⟩=some (.slice (some ⟨g,0,none⟩) N2 cap):=aG ((aB.drew wr).cell c2);have z3:∀x:Ext aB wr.drew,x.u.cell? ⟨g,k,none⟩=some (.int .i64 c):=aG ((aB.drew wr).cell cc);refine iX aB (aT 12 []) aB.refl aB.trans (by kernel_rfl) (by kernel_rfl) (λd _ _ _ _ h=>by cases d<;>exact h) ?_
    iterate 12 (refine cQ rfl (λK hK=>?_);go_simp;refine hK _ ?_;clear hK K)
    refine sG (λwa h4=>?_);clear z1 z2 z3;have cd:=(aB.drew wr).tr h4;replace c0:=cd.cell c0;replace c1:=cd.cell c1;replace c2:=cd.cell c2;replace cc:=cd.cell cc;replace ae:=ae.grows cd;replace hg:=hg.tr cd;clear h4 cd;go_wp2_with fail
    obtain⟨Dl,hDl⟩:∃Dl:Nat,(k:Int)-L=Dl:=⟨((k:Int)-L).toNat,by omega⟩;have hDb:Dl<=4097:=by omega
    have wDL:IntKind.i64.wrap ((k:Int)-L)=Dl:=by rw[hDl];simp[Af,Ag,Ac];omega
    have wDl:IntKind.u64.wrap (Dl:Int)=Dl:=by simp[Af,Ag,Ac];omega
    have wC:IntKind.u64.wrap (c:Int)=c:=by simp[Af,Ag,Ac];omega
    have HN:=Al (ak.out.hit hc (by rw[HD.out];omega));rw[hDl,Am,Am]at HN;clear hDl;have z2:∀x:Ext (EB w.heap.size) wa.drew,x.u.cell? ⟨rb,2,none⟩=some (.slice (some ⟨g,0,none⟩) N2 cap):=mR o8 c2;have z3:∀x:Ext (EB w.heap.size) wa.drew,x.u.cell? ⟨g,k,none⟩=some (.int .i64 c):=mR hgl cc;refine nF (EB w.heap.size) (oC [0,1,2,3,4,7,8,9,10,11,12,13,14,5,6,15,16,17] [5,6,15,16,17]) (EB.refl w.heap.size) (EB.trans w.heap.size) (by kernel_rfl) (by kernel_rfl) (λd _ _ _ _ h=>by cases d<;>exact h) ?_
    iterate 13 (refine aJ rfl (λK hK=>?_);go_simp;refine hK _ ?_;clear hK K)
    clear z2 z3;have dx:=ae.grows (aB.drew wa);refine bM rfl rfl (λK hK=>?_);go_simp;refine(oU Dl wa.drew (by omega)).mono ?_;rintro e w3 ⟨v3,rfl,bd,bu⟩;obtain⟨a3,c3,rfl,_,_,iv⟩:=bd.at_ aR.len;have pg:=bC bd;have il:=bK Dl;have m4:w.heap.size<=wa.drew.heap.size:=hg.size;have jv:w.heap.size<=w3.heap.size:=Ah m4 bu.size;refine⟨EB.of bu m4,hK _ _ ?_⟩;clear hK K;refine bM rfl rfl (λK hK=>?_);refine rO aR _ _ rfl w.heap.size _ acc (putU Dl) rfl (dx.grows bu) (aB.refl _) a3 c3 rfl iv pg (by omega) jv ?_;intro v4 w4 bv cd;refine⟨cd,hK _ _ ?_⟩;clear hK K;have hs4:w.heap.size<=w4.heap.size:=Ah jv cd.2;refine bM rfl rfl (λK hK=>?_);go_simp;refine(oU c w4 (by omega)).mono ?_;rintro e w5 ⟨v5,rfl,ai,bg⟩;obtain⟨a5,c5,rfl,_,_,gw⟩:=ai.at_ aR.len;have x9:=bC ai;have hp5:=bK c;refine⟨EB.of bg hs4,hK _ _ ?_⟩;clear hK K;refine bM rfl rfl (λK hK=>?_);refine rO aR _ _ rfl w.heap.size _ (acc++putU Dl) (putU c) rfl (bv.grows bg) (aB.refl _) a5 c5 rfl gw x9 (by rw[Ai];omega) (Ah hs4 bg.size) ?_;intro v6 w6 cp de;refine⟨de,hK _ _ ?_⟩;clear hK K;refine bM rfl rfl (λK hK=>?_);go_simp;refine⟨EB.refl _ _,hK _ _ ?_⟩;clear hK K;refine bN ?_;have rk:aB w w6:=EB.grows ((EB.grows (hg.dr.tr bu) cd).tr bg) de;go_wp2_with fail
    go_roundw
    case rel=>exact⟨k+1,kq+1,k,_,af,by go_num,by go_num,by go_num,cp,HN.out,rk⟩
    case measure=>simp[intOf];omega
  ·obtain rfl:k=N2:=by omega
   have HE:=HFIN kq L acc ak.out;have wN:IntKind.u64.wrap (m.n:Int)=m.n:=by simp[Af,Ag,Ac];omega
   have wD:IntKind.u64.wrap (d:Int)=d:=by simp[Af,Ag,Ac];omega
   have wT:IntKind.u64.wrap (kq:Int)=kq:=by simp[Af,Ag,Ac];omega
   go_wp2_with fail
   have z0:∀x:Ext (EB wr.heap.size) wr.drew,x.u.cell? ⟨rb,0,none⟩=some (.int .i64 m.n):=mR (Ad o8 hg.size) c0;have z1:∀x:Ext (EB wr.heap.size) wr.drew,x.u.cell? ⟨rb,1,none⟩=some (.int .i64 d):=mR (Ad o8 hg.size) c1;refine nF (EB wr.heap.size) (oC [0,1,2,3,4,6,7,8,9,10,5,11,12,13] [5,11,12,13]) (EB.refl wr.heap.size) (EB.trans wr.heap.size) (by kernel_rfl) (by kernel_rfl) (λd _ _ _ _ h=>by cases d<;>exact h) ?_
   iterate 10 (refine aJ rfl (λK hK=>?_);go_simp;refine hK _ ?_;clear hK K)
   clear z0 z1;have m4:w.heap.size<=wr.drew.heap.size:=hg.size;have dx:=ae.grows (aB.drew wr);refine bM rfl rfl (λK hK=>?_);go_simp;refine(oU m.n wr.drew (by omega)).mono ?_;rintro e w3 ⟨v3,rfl,bd,bu⟩;have jv:=bu.size;refine⟨EB.of bu (An _),hK _ _ ?_⟩;clear hK K;refine bM rfl rfl (λK hK=>?_);go_simp;refine(oU d w3 (by omega)).mono ?_;rintro e w5 ⟨v5,rfl,ai,bg⟩;obtain⟨a5,c5,rfl,_,_,gw⟩:=ai.at_ aR.len;have x9:=bC ai;have hp5:=bK d;have il:=bK m.n;refine⟨EB.of bg jv,hK _ _ ?_⟩;clear hK K;refine bM rfl rfl (λK hK=>?_);refine rO aR _ _ rfl wr.heap.size _ (putU m.n) (putU d) rfl (bd.grows bg) (aB.refl _) a5 c5 rfl gw x9 (by omega) (Ah jv bg.size) ?_;intro v6 w6 cp de;refine⟨de,hK _ _ ?_⟩;clear hK K;refine bM rfl rfl (λK hK=>?_);go_simp;refine⟨EB.refl _ _,hK _ _ ?_⟩;clear hK K;refine bN ?_;have rk:aB wr.drew w6:=EB.grows (bu.tr bg) de;have hs6:=rk.size;obtain⟨B6,xv⟩:=exq (putU m.n++putU d);rw[<-xv]at cp HE;have hb6:B6.length<=20:=by rw[xv,Ai];omega
   clear xv bd bu ai bg gw x9 de;obtain⟨ar,cr,hvr,_,_,uq⟩:=dx.at_ aR.len;have hnr:ar=none->cr=0:=by rw[hvr]at dx;exact bC dx
   subst hvr;go_wp2_with fail
   refine(oU kq w6 (by omega)).mono ?_;rintro e w7 ⟨v7,rfl,bi,ck⟩;obtain⟨a7,c7,rfl,_,_,aaz⟩:=bi.at_ aR.len;have hn7:=bC bi;have hp7:=bK kq;replace cp:=cp.grows ck;have aft:=rk.tr ck;have hs7:=aft.size;have hac:=ak.out.len;go_wp2_with (first|(at_builtin;refine dE aR rfl _ _ rfl wr.heap.size _ B6 (putU kq) rfl cp (aB.refl _) a7 c7 rfl aaz hn7 (by omega) hs7 ?_;intro v8 w8 f9 eo;have ya:=eo wr.drew aft (An _);have rm:=ya.size;have ae5:=uq.grows ya)|(at_builtin;refine dE aR rfl _ _ rfl wr.heap.size _ (B6++putU kq) acc rfl f9 (aB.refl _) ar cr rfl ae5 hnr (by rw[Ai];omega) rm ?_;intro v9 w9 du ft))
   go_ret;refine⟨_,rfl,?_,ft w (hg.dr.tr ya) hg.size⟩;rw[HE.out];exact du.base hg.size
theorem bK1 (b:List UInt8) (k:Nat) (ba:Option Addr) (bc:Nat) (w:World) (hk:k<=b.length) (hb:b.length<=1099511627776) (ah:aF w ba 1 (b.map aQ)) :
  Calls Tryz.prog 127 #[.slice ba b.length bc,.int .i64 k] w λe w'=>e=.returned (xU0 k (rdU (b.drop k)))/\aB w w':=by
 have CR:=Al (aW1 b k ba bc w hk hb ah)
 cases hR:rdU (b.drop k) with
 | none =>
  rw[hR]at CR;unfold xU0 at CR ⊢;clear hR ah;go_enter Tryz.func127,Tryz.ntmps127
  go_wp2_with fail
  refine CR.out.mono ?_;rintro e w1 ⟨rfl,hg⟩;go_wp2_with fail
  go_ret3;exact⟨rfl,hg⟩
 | some x =>
  obtain⟨v,n⟩:=x;rw[hR]at CR;unfold xU0 at CR ⊢;obtain⟨K,hK⟩:=exq (k+n);simp only[<-hK]at CR ⊢;clear hR ah hK;go_enter Tryz.func127,Tryz.ntmps127
  go_wp2_with fail
  refine CR.out.mono ?_;rintro e w1 ⟨rfl,hg⟩;go_wp2_with fail
  go_ret3;exact⟨rfl,hg⟩
structure NB (p1 p2:Nat) (w w':World):Prop where
 os:w'.os=w.os
 tape:w'.tape=w.tape
 output:w'.output=w.output
 size:w.heap.size<=w'.heap.size
 block:∀k,k<w.heap.size->k≠p1->k≠p2->w'.heap[k]?=w.heap[k]?
theorem NB.of {p1 p2:Nat} {w w':World} (h:aB w w'):NB p1 p2 w w':=⟨Below.os h,Below.tape h,Below.output h,h.size,λk hk _ _=>Below.block h k hk⟩
theorem NB.trans {p1 p2:Nat} {a b c:World} (h:NB p1 p2 a b) (k:NB p1 p2 b c):NB p1 p2 a c :=
 ⟨k.os.trans h.os,k.tape.trans h.tape,k.output.trans h.output,Ah h.size k.size,λi hi h1 h2=>(k.block i (Ad hi h.size) h1 h2).trans (h.block i hi h1 h2)⟩
theorem NB.set {p1 p2 b i:Nat} {w:World} (hb:b=p1\/b=p2) (v:Value):NB p1 p2 w (w.setCell ⟨b,i,none⟩ v) :=
 ⟨rfl,rfl,rfl,by simp,λk _ h1 h2=>heap_setCell_other _ _ _ _ (λe=>by simp only at e;rcases hb with rfl|rfl<;>omega)⟩
theorem NB.grows {p1 p2:Nat} {a w w':World} (h:aB a w) (k:NB p1 p2 w w') (h1:a.heap.size<=p1) (h2:a.heap.size<=p2):aB a w' :=
 ⟨k.os.trans (Below.os h),k.tape.trans (Below.tape h),k.output.trans (Below.output h),Ah h.size k.size,λi hi=>(k.block i (Ad hi h.size) (by omega) (by omega)).trans (Below.block h i hi)⟩
theorem NB.cell {p1 p2:Nat} {w w':World} (h:NB p1 p2 w w') {p:Addr} {v:Value} (hc:w.cell? p=some v) (h1:p.block≠p1) (h2:p.block≠p2):w'.cell? p=some v:=by
 have af:=Ae w _ hc;have hb:=h.block p.block af h1 h2;unfold World.cell? at hc ⊢;rw[hb];exact hc
theorem NB.cells {p1 p2:Nat} {w w':World} {a:Option Addr} {k:Nat} {rows:List (List Value)} (h:NB p1 p2 w w') (ah:aF w a k rows) (hp:∀q:Addr,a=some q->rows≠[]->q.block≠p1/\q.block≠p2):aF w' a k rows:=λhn=>by
 obtain⟨b',off,rfl,hc⟩:=ah hn;obtain⟨h1,h2⟩:=hp _ rfl hn;exact⟨b',off,rfl,λi row hi j v hj=>h.cell (hc i row hi j v hj) h1 h2⟩
theorem gA.nb {w w':World} {mb bm p1 p2:Nat} {m:Mx} (h:gA w mb bm m) (hn:NB p1 p2 w w') (h1:mb≠p1) (h2:mb≠p2) (h3:bm≠p1) (h4:bm≠p2):gA w' mb bm m:=by
 obtain⟨D,ho,hD⟩:=h.own;have af:=ho.lt;obtain⟨es,clock,hb,F,hs,he⟩:=ho;exact⟨h.ok,hn.cell h.c0 h1 h2,hn.cell h.c1 h1 h2,hn.cell h.c2 h1 h2,D,⟨es,clock,(hn.block bm af h3 h4).trans hb,F,hs,he⟩,hD⟩
structure DAt (w:World) (pb p1 p2:Nat) (s:Value) (st:Nat×Bool):Prop where
 cb:w.cell? ⟨pb,0,none⟩=some s
 c1:w.cell? ⟨p1,0,none⟩=some (.int .i64 (st.1:Nat))
 c2:w.cell? ⟨p2,0,none⟩=some (.bool st.2)
 f1:w.frozen? ⟨p1,0,none⟩=false
 f2:w.frozen? ⟨p2,0,none⟩=false
 nb1:pb≠p1
 nb2:pb≠p2
 n12:p1≠p2
theorem DAt.grows {w w':World} {pb p1 p2:Nat} {s:Value} {st:Nat×Bool} (h:DAt w pb p1 p2 s st) (hg:aB w w'):DAt w' pb p1 p2 s st :=
 ⟨hg.cell h.cb,hg.cell h.c1,hg.cell h.c2,(hg.froz (p:=⟨p1,0,none⟩) (Ae w _ h.c1)).trans h.f1,(hg.froz (p:=⟨p2,0,none⟩) (Ae w _ h.c2)).trans h.f2,h.nb1,h.nb2,h.n12⟩
theorem DAt.put1 {w:World} {pb p1 p2:Nat} {s:Value} {st:Nat×Bool} (h:DAt w pb p1 p2 s st) (k:Nat):DAt (w.setCell ⟨p1,0,none⟩ (.int .i64 k)) pb p1 p2 s (k,st.2):=by
 refine⟨?_,Aj _ _ _ h.c1,?_,by rw[Ab];exact h.f1,by rw[Ab];exact h.f2,h.nb1,h.nb2,h.n12⟩
 ·rw[Aa _ _ _ _ (λe=>h.nb1 (congrArg Ak e).symm)];exact h.cb
 ·rw[Aa _ _ _ _ (λe=>h.n12 (congrArg Ak e))];exact h.c2
theorem DAt.put2 {w:World} {pb p1 p2:Nat} {s:Value} {st:Nat×Bool} (h:DAt w pb p1 p2 s st):DAt (w.setCell ⟨p2,0,none⟩ (.bool true)) pb p1 p2 s (st.1,true):=by
 refine⟨?_,?_,Aj _ _ _ h.c2,by rw[Ab];exact h.f1,by rw[Ab];exact h.f2,h.nb1,h.nb2,h.n12⟩
 ·rw[Aa _ _ _ _ (λe=>h.nb2 (congrArg Ak e).symm)];exact h.cb
 ·rw[Aa _ _ _ _ (λe=>h.n12 (congrArg Ak e).symm)];exact h.c1
end
end Go.Proofs.YtiopheoljccmpaaGreatDoor
