/- The texts PairC SortW, one behind the other. -/
import Derived.Test.YtiopheoljccmpaaGreatDoorCq2
import Derived.Test.YtiopheoljccmpaaGreatDoorCq10
import Derived.Test.YtiopheoljccmpaaGreatDoorCq11
import Derived.Test.YtiopheoljccmpaaGreatDoorShelf2
import Derived.Test.YtiopheoljccmpaaGreatDoorCq15
open Go.Lib renaming hid → Aa
open Nat renaming le_refl → Ab
set_option maxHeartbeats 4000000
namespace Go.Proofs.YtiopheoljccmpaaGreatDoor
set_option maxRecDepth 100000
section
open Go Go.RowKit Go.Shelf
attribute [local go_sem] aM
def bR0 (x:Int×Int):List Value:=[.int .i64 x.1,.int .i64 x.2]
theorem lA0 (a b c d:Int) (w:World) :
  Calls Tryz.prog 168 #[.agg #[.int .i64 a,.int .i64 b],.agg #[.int .i64 c,.int .i64 d]] w λe w' =>
   e=.returned (.int .i64 (orI [jT a c,jT b d]))/\bJ w w':=by
 go_enter Tryz.func168,Tryz.ntmps168
 go_wp2
 generalize hW:(w.alloc (.cells #[.int .i64 a,.int .i64 b] 84)).alloc (.cells #[.int .i64 c,.int .i64 d] 84)=W;have hB:bJ w W:=by rw[<-hW];exact(bJ.alloc _ _).tr (bJ.alloc _ _)
 have hx:∀j v,#[Value.int .i64 a,.int .i64 b][j]?=some v->W.drew.cell? ⟨w.heap.size,j,none⟩=some v:=λj v h=>by
  rw[<-hW];exact(aB.alloc _ _).cell (aX w _ _ _ j v h)
 have hy:∀j v,#[Value.int .i64 c,.int .i64 d][j]?=some v->W.drew.cell? ⟨w.heap.size+1,j,none⟩=some v:=λj v h=>by
  rw[<-hW]
  have:=aX (w.alloc (.cells #[.int .i64 a,.int .i64 b] 84)) _ 84 (0,0) j v h
  simpa using this
 clear hW;have x0:∀x:Ext bJ (W.drew),x.u.cell? ⟨w.heap.size,0,none⟩=some (.int .i64 a):=dU (hx 0 _ rfl);have x1:∀x:Ext bJ (W.drew),x.u.cell? ⟨w.heap.size,1,none⟩=some (.int .i64 b):=dU (hx 1 _ rfl);have y0:∀x:Ext bJ (W.drew),x.u.cell? ⟨w.heap.size+1,0,none⟩=some (.int .i64 c):=dU (hy 0 _ rfl);have y1:∀x:Ext bJ (W.drew),x.u.cell? ⟨w.heap.size+1,1,none⟩=some (.int .i64 d):=dU (hy 1 _ rfl);clear hx hy;refine iD bJ (aT 13 [10,11,12]) bJ.refl bJ.trans (by kernel_rfl) (by kernel_rfl) (λd _ _ _ _ h=>by cases d<;>exact h) ?_
 repeat (refine iB rfl (λK hK=>?_);go_simp;first|(refine hK _ ?_;clear hK K)|(apply Exists.intro;refine⟨λx=>?_,hK _ ?_⟩;((first|(go_at_call 151;exact kD (vV _ _ _))));clear hK K))
 clear x0 x1 y0 y1;refine gQ rfl rfl (λK hK w2 h2=>?_);go_simp;refine⟨bJ.alloc _ _,hK _ _ ?_⟩;clear hK K
 have hz:∀k,k<[jT a c,jT b d].length->(w2.alloc (.cells #[.int .i64 (jT a c),.int .i64 (jT b d)] 3)).cell? ⟨w2.heap.size,0+k,none⟩=some (.int .i64 ([jT a c,jT b d][k]?.getD 0)):=λk hk=>by
  refine aX w2 _ _ _ _ _ ?_
  match k,hk with
  | 0,_=>rfl
  | 1,_=>rfl
 have h3:bJ w2 (w2.alloc (.cells #[.int .i64 (jT a c),.int .i64 (jT b d)] 3)):=bJ.alloc _ _;generalize w2.alloc _=w3 at hz h3 ⊢;refine gQ rfl rfl (λK hK w4 h4=>?_);go_simp;refine(fA1 [jT a c,jT b d] w2.heap.size 0 2 w4 (by simp) (λk hk=>h4.1.cell (hz k hk))).mono ?_;rintro e w' ⟨rfl,rfl⟩;refine⟨bJ.refl _,hK _ _ ?_⟩;clear hK K;refine gQ rfl rfl (λK hK w5 h5=>?_);go_simp;refine⟨bJ.refl _,hK _ _ ?_⟩;clear hK K;refine nL (λw6 h6=>?_);have xv:bJ w w6:=(((((hB.tr (bJ.drew _)).tr h2).tr h3).tr h4).tr h5).tr h6;go_wp2
 go_ret;exact⟨rfl,xv⟩
theorem dE1 (bh off size:Nat) (w:World):CmpLays Tryz.prog 168 #[] bR0 2 aP1 bh off size w:=λm os dk _ x y =>
 (lA0 x.1 x.2 y.1 y.2 (sortWorldK bR0 2 w bh off m dk os)).mono λ_ _ ⟨he,hg⟩=>⟨he,hg.grow⟩
theorem xF (x y:Int×Int):ltOf aP1 x y=true↔ltP x y:=by
 rw[<-gC1];simp[ltOf]
theorem lD1:Sort.SWO (ltOf aP1) where
 irrefl x:=by
  cases h:ltOf aP1 x x with
  | false=>rfl
  | true=>exact absurd ((xF x x).1 h) (dC0 x)
 trans x y z h1 h2:=(xF x z).2 (iA0 ((xF x y).1 h1) ((xF y z).1 h2))
 ntrans x y z h1 h2:=by
  have k1:¬ltP x y:=λh=>by rw[(xF x y).2 h]at h1;cases h1
  have k2:¬ltP y z:=λh=>by rw[(xF y z).2 h]at h2;cases h2
  cases h:ltOf aP1 x z with
  | false=>rfl
  | true =>
   have k3:=(xF x z).1 h;unfold ltP at k1 k2 k3;exfalso;omega
theorem fM1 (w:World):(isAgg 84).run Tryz.prog w=.ok true w:=by kernel_rfl
theorem eI1 (w:World):(Go.sizeOf 84).run Tryz.prog w=.ok 2 w:=by kernel_rfl
theorem vH0:∀(x:Int×Int), ∀v∈bR0 x,v.oneCell'=true:=λx v hv=>by
 simp[bR0]at hv;rcases hv with rfl|rfl<;>rfl
theorem sF0 (w:World) (base:Nat) (v:Value) (l:List (Int×Int)) (ae:aO w base 84 2 bR0 v l) (hl:l.length<4611686018427387904) :
  Calls Tryz.prog 234 #[v,.func (.func 168) #[] #[]] w λe w'=>e=.returned (.tuple #[])/\∃l',l'.Perm l/\l'.Pairwise (λx y=>ltOf aP1 y x=false)/\aO w' base 84 2 bR0 v l'/\w.grownBy w' v.ownBlock:=by
 have h:=tS Tryz.sortP fM1 eI1 (λ_=>rfl) (by decide) vH0 aP1 lD1 168 #[] (enters_of Tryz.func168 (by kernel_rfl) rfl) dE1 w base 84 v l ae hl;exact h
theorem hC1 (w:World):(zeroValue 3).run Tryz.prog w=.ok (.int .i64 0) w:=by kernel_rfl
theorem fO1 (w:World):(isAgg 89).run Tryz.prog w=.ok true w:=by kernel_rfl
theorem bT1 (w:World):(Go.sizeOf 89).run Tryz.prog w=.ok 5 w:=by kernel_rfl
theorem qO0 (w:World) (base:Nat) (v:Value) (l:List En) (ae:aO w base 89 5 bE v l) (hl:l.length<4611686018427387904) :
  Calls Tryz.prog 88 #[v,.func (.func 89) #[] #[]] w λe w'=>e=.returned (.tuple #[])/\∃l',l'.Perm l/\l'.Pairwise (λx y=>ltOf qW y x=false)/\aO w' base 89 5 bE v l'/\w.grownBy w' v.ownBlock:=by
 have h:=tS Tryz.sortE fO1 bT1 (λ_=>rfl) (by decide) nD qW lF1 89 #[] (enters_of Tryz.func89 (by kernel_rfl) rfl) dK1 w base 89 v l ae hl;exact h
theorem uT0 (l:List En) (la:Option Addr) (cap:Nat) (w:World) (hl:l.length<=1048576) (be:∀x∈l,xM x) (ah:aF w la 5 (l.map bE)) :
  Calls Tryz.prog 33 #[.slice la l.length cap] w (iD0 l w):=by
 have HAT:=Aa ah;have HOK:=Aa be;clear ah be;have hmm:=@run_makeMap Tryz.prog;go_enter Tryz.func33,Tryz.ntmps33
 go_wp2_with fail
 go_loopw [15] (λi wr=>∃(k:Nat) (D:DataW Unit),k<=l.length/\i=.int .i64 k/\wr.ownsMap Tryz.prog 89 (plainElem Tryz.prog 3) w.heap.size k D/\Hid (rV0 (l.take k) D)/\aB w wr) (λi _=>l.length-(intOf i).toNat)
 case atStart=>exact⟨0,_,Nat.zero_le _,rfl,World.ownsMap_made _ _ _ _,dR1,aB.alloc _ _⟩
 case round =>
  obtain⟨k,D,hk,rfl,ae,hM,hg⟩:=hrel;by_cases af:k<l.length
  ·obtain⟨⟨xr,xs,xl,xt,xc⟩,hx⟩:∃x,l[k]?=some x:=⟨_,List.getElem?_eq_getElem af⟩
   obtain⟨ba,oa,rfl,cn⟩:=(HAT.out.grows hg).get (aH af);have c0:wr.cell? ⟨ba,oa+k*5,none⟩=some (.string xr):=cn k _ hx 0 _ rfl;have c1:wr.cell? ⟨ba,oa+k*5+1,none⟩=some (.string xs):=cn k _ hx 1 _ rfl;have c2:wr.cell? ⟨ba,oa+k*5+2,none⟩=some (.int .i64 xl):=cn k _ hx 2 _ rfl;have c3:wr.cell? ⟨ba,oa+k*5+3,none⟩=some (.int .i64 xt):=cn k _ hx 3 _ rfl;have c4:wr.cell? ⟨ba,oa+k*5+4,none⟩=some (.int .i64 xc):=cn k _ hx 4 _ rfl;have ue:xM ⟨xr,xs,xl,xt,xc⟩:=HOK.out _ (List.mem_of_getElem? hx);have aau:xM ⟨xr,xs,xl,xt,0⟩:=ue.key;have HK:=Aa aau;have adq:(Lit.int .i64 xc).wf=true:=ue.c;obtain⟨o,_,hA⟩:=(hM.out _ aau).2 rfl;have HT:=Aa (zN hx);have HX:=Aa ue;clear cn hx ue
   cases o with
   | none =>
    have hh:Maps.has D (klE ⟨xr,xs,xl,xt,0⟩)=false:=hA;have HS:Hid (rV0 (l.take k++[⟨xr,xs,xl,xt,xc⟩]) (D.put (klE ⟨xr,xs,xl,xt,0⟩) (.lit (.int .i64 xc)))):=hM.out.store ae.isMap HX.out (o:=none) hA (λc hc=>by cases hc);clear hA aau;go_wp2_with (first|(at_lookup;refine wpList_lookup_own_ok_int _ rfl _ _ 162 rfl 89 3 .i64 sP Tryz.underlying162 Tryz.underlying3 (hC1 _) w.heap.size k D rfl ((ae.alloc _).alloc _) _ (klE ⟨xr,xs,xl,xt,0⟩) rfl (fE1 HK.out) ?_;intro c ah hwc;rw[hh];clear ah)|(at_mapUpdate;refine wpList_mapUpdate_own _ rfl _ _ _ 162 rfl 89 3 sP Tryz.underlying162 _ w.heap.size k D rfl ((ae.alloc _).alloc _) (by unfold maxLen;omega) _ _ (klE ⟨xr,xs,xl,xt,0⟩) rfl rfl (fE1 HK.out) _ [] (plainElem_int Tryz.underlying3 adq) ?_;intro w1 ax o7))
    go_roundw
    case rel=>exact⟨k+1,_,af,by go_num,ax,by rw[HT.out];exact HS.out,(((hg.al _).al _).grown o7 (λq hq=>by cases hq;exact Ab _))⟩
    case measure=>simp[intOf];omega
   | some c0 =>
    have hh:Maps.has D (klE ⟨xr,xs,xl,xt,0⟩)=true:=hA.1;have HA:=Aa hA;by_cases hc:xc<c0
    ·have HS:Hid (rV0 (l.take k++[⟨xr,xs,xl,xt,xc⟩]) (D.put (klE ⟨xr,xs,xl,xt,0⟩) (.lit (.int .i64 xc)))):=hM.out.store ae.isMap HX.out (o:=some c0) hA (λc th=>by cases th;exact hc)
     clear hA aau;go_wp2_with (first|(at_lookup;refine wpList_lookup_own_ok_int _ rfl _ _ 162 rfl 89 3 .i64 sP Tryz.underlying162 Tryz.underlying3 (hC1 _) w.heap.size k D rfl ((ae.alloc _).alloc _) _ (klE ⟨xr,xs,xl,xt,0⟩) rfl (fE1 HK.out) ?_;intro c ah hwc;rw[hh];have xq:c=c0:=(by have h1:=HA.out.2 (.lit (.int .i64 0));rw[ah]at h1;simpa using h1);have ci:xc<c:=(by omega);clear ah xq)|(at_mapUpdate;refine wpList_mapUpdate_own _ rfl _ _ _ 162 rfl 89 3 sP Tryz.underlying162 _ w.heap.size k D rfl ((ae.alloc _).alloc _) (by unfold maxLen;omega) _ _ (klE ⟨xr,xs,xl,xt,0⟩) rfl rfl (fE1 HK.out) _ [] (plainElem_int Tryz.underlying3 adq) ?_;intro w1 ax o7))
     go_roundw
     case rel=>exact⟨k+1,_,af,by go_num,ax,by rw[HT.out];exact HS.out,(((hg.al _).al _).grown o7 (λq hq=>by cases hq;exact Ab _))⟩
     case measure=>simp[intOf];omega
    ·have HS:Hid (rV0 (l.take k++[⟨xr,xs,xl,xt,xc⟩]) D):=hM.out.skip (z:=⟨xr,xs,xl,xt,xc⟩) hA (by simp only;omega)
     clear hA aau;go_wp2_with (first|(at_lookup;refine wpList_lookup_own_ok_int _ rfl _ _ 162 rfl 89 3 .i64 sP Tryz.underlying162 Tryz.underlying3 (hC1 _) w.heap.size k D rfl ((ae.alloc _).alloc _) _ (klE ⟨xr,xs,xl,xt,0⟩) rfl (fE1 HK.out) ?_;intro c ah hwc;rw[hh];have xq:c=c0:=(by have h1:=HA.out.2 (.lit (.int .i64 0));rw[ah]at h1;simpa using h1);have ci:¬xc<c:=(by omega);clear ah xq)|(at_mapUpdate;refine wpList_mapUpdate_own _ rfl _ _ _ 162 rfl 89 3 sP Tryz.underlying162 _ w.heap.size k D rfl ((ae.alloc _).alloc _) (by unfold maxLen;omega) _ _ (klE ⟨xr,xs,xl,xt,0⟩) rfl rfl (fE1 HK.out) _ [] (plainElem_int Tryz.underlying3 adq) ?_;intro w1 ax o7))
     go_roundw
     case rel=>exact⟨k+1,D,af,by go_num,((ae.alloc _).alloc _).mono (Nat.le_succ _),by rw[HT.out];exact HS.out,(hg.al _).al _⟩
     case measure=>simp[intOf];omega
  ·obtain rfl:k=l.length:=by omega
   rw[List.take_length]at hM;obtain⟨u0,rfl⟩:=exq wr;have ah1:=ae.size_le;go_wp2_with (first|(at_range;refine wpList_range_own _ rfl _ 162 rfl 89 3 sP Tryz.underlying162 _ w.heap.size l.length D rfl ae ?_;intro w0 adm ij m4))
   go_frame
   go_loopw [9] (λv wx=>∃(left:Lit->Bool) (kq:Nat) (ys:List En),wx.ranges Tryz.prog 89 (plainElem Tryz.prog 3) w.heap.size u0.heap.size l.length D left kq/\ys.length+kq<=l.length/\Hid (lY0 D left ys)/\aO wx w.heap.size 89 5 bE v ys/\aB w wx) (λ_ wx=>wx.rangeLeft w.heap.size u0.heap.size)
   case atStart=>exact⟨_,_,[],adm,by simpa using ah1,lO0 D,aO.nil _ _ _ _ _,hg.grown ij (λq hq=>by cases hq)⟩
   case round =>
    obtain⟨left,kq,ys,hrg,dz,hC,du,ft⟩:=hrel;go_wp2_with (first|(at_next;refine wpList_next_ranges _ rfl _ rfl 89 sP (plainElem Tryz.prog 3) (λx:En => .agg #[.string x.r,.string x.s,.int .i64 x.l,.int .i64 x.t,.int .i64 x.c]) (Value.int .i64) (λkey kl hk=>by obtain⟨x,_,hx,_⟩:=oX0 hk;exact⟨x,hx⟩) (λv y hv=>by obtain⟨c,hc,_⟩:=plainElem_int_inv Tryz.underlying3 hv;exact⟨c,hc⟩) w.heap.size u0.heap.size l.length D left kq rfl hrg ?_ ?_))
    ·intro t9 hl0
     have ew:=λy=>hC.out.least hM.out HOK.out hl0 y;have HMEM:=Aa ew;clear ew t9 hl0;go_wp2_with (first|(go_at_call 88;refine(qO0 _ w.heap.size _ ys du (by omega)).mono ?_;rintro e w9 ⟨rfl,l',hp,hsd,el,ae1⟩))
     go_ret;have hS:qQ l l':=⟨fQ0 (hp.nodup_iff.2 hC.out.1) hsd,λy=>(hp.mem_iff).trans (HMEM.out y)⟩;rw[hS.unique (fZ l)]at el;exact⟨_,rfl,el,ft.grown ae1 (λq hq=>bF du q hq)⟩
    ·intro x c kl yd yp w2 adn ek ud hv ah ado ci an ir hen
     obtain⟨x',ue,ex,rfl⟩:=oX0 ek
     obtain rfl:x=x':=by
      obtain⟨a,b,c,d,e⟩:=x;obtain⟨a',b',c',d',e'⟩:=x';simpa [En.agg] using ex
     obtain⟨c',ec,ez,hwc⟩:=plainElem_int_inv Tryz.underlying3 hv;obtain rfl:c=c':=by simpa using ec
     obtain rfl:yd=.lit (.int .i64 c):=(Prod.mk.inj ez).1;have HC:=Aa (hC.out.step hM.out ue hwc ud ah);have i7:=aG0 du hrg.owns;have hni:=kN0 du hrg;have el:=bC0 du an (Or.inr (Ne.symm hni));have gq:=ft.grown an (λq hq=>by cases hq;exact hg.size);obtain⟨xr,xs,xl,xt,xc⟩:=x;dsimp only at hen HC
     clear ek ex ah hv ec ez ud ir ue;go_wp2_with (first|(at_builtin;refine nM0 sT rfl _ _ rfl w.heap.size _ ys ⟨xr,xs,xl,xt,c⟩ rfl el (aB.alloc _ _) _ 1 (by simp) _ rfl rfl (by omega) gq.size ?_;intro v5 w5 ai ah2 ah3))
     have afj:=(jJ0 ado ((aB.alloc _ _).al _)).kept ah2 i7 hni;have fh:=ah3 w gq (Ab _);go_roundw
     case rel=>exact⟨_,adn,ys++[⟨xr,xs,xl,xt,c⟩],afj,by simp;omega,HC,ai,fh⟩
     case measure=>rw[afj.left_eq,hrg.left_eq];exact ci
end
end Go.Proofs.YtiopheoljccmpaaGreatDoor
