/- The texts PairC SortW, one behind the other. -/
import Derived.Test.YtcijgkfpobpdbaaGreatDoorBq4
import Derived.Test.YtcijgkfpobpdbaaGreatDoorBq10
import Derived.Test.YtcijgkfpobpdbaaGreatDoorBq13
import Derived.Test.YtcijgkfpobpdbaaGreatDoorShelf2
import Derived.Test.YtcijgkfpobpdbaaGreatDoorBq17
import Derived.Test.YtcijgkfpobpdbaaGreatDoorBq8
open Go.Lib renaming hid → Aa
open Nat renaming le_refl → Ab
set_option maxHeartbeats 4000000
namespace Go.Proofs.YtcijgkfpobpdbaaGreatDoor
set_option maxRecDepth 100000
section
open Go Go.RowKit Go.Shelf
attribute [local go_sem] aQ
def cR0 (x:Int×Int):List Value:=[.int .i64 x.1,.int .i64 x.2]
theorem mK0 (a b c d:Int) (w:World) :
  Calls Tryz.prog 222 #[.agg #[.int .i64 a,.int .i64 b],.agg #[.int .i64 c,.int .i64 d]] w λe w' =>
   e=.returned (.int .i64 (orI [kF a c,kF b d]))/\bG w w':=by
 go_enter Tryz.func222,Tryz.ntmps222
 go_wp2
 generalize hW:(w.alloc (.cells #[.int .i64 a,.int .i64 b] 227)).alloc (.cells #[.int .i64 c,.int .i64 d] 227)=W;have hB:bG w W:=by rw[<-hW];exact(bG.alloc _ _).tr (bG.alloc _ _)
 have hx:∀j v,#[Value.int .i64 a,.int .i64 b][j]?=some v->W.drew.cell? ⟨w.heap.size,j,none⟩=some v:=λj v h=>by
  rw[<-hW];exact(Grows.alloc _ _).cell (aT w _ _ _ j v h)
 have hy:∀j v,#[Value.int .i64 c,.int .i64 d][j]?=some v->W.drew.cell? ⟨w.heap.size+1,j,none⟩=some v:=λj v h=>by
  rw[<-hW]
  have:=aT (w.alloc (.cells #[.int .i64 a,.int .i64 b] 227)) _ 227 (0,0) j v h
  simpa using this
 clear hW;have x0:∀x:Ext bG (W.drew),x.u.cell? ⟨w.heap.size,0,none⟩=some (.int .i64 a):=eB (hx 0 _ rfl);have x1:∀x:Ext bG (W.drew),x.u.cell? ⟨w.heap.size,1,none⟩=some (.int .i64 b):=eB (hx 1 _ rfl);have y0:∀x:Ext bG (W.drew),x.u.cell? ⟨w.heap.size+1,0,none⟩=some (.int .i64 c):=eB (hy 0 _ rfl);have y1:∀x:Ext bG (W.drew),x.u.cell? ⟨w.heap.size+1,1,none⟩=some (.int .i64 d):=eB (hy 1 _ rfl);clear hx hy;refine oG bG (aV 13 [10,11,12]) bG.refl bG.trans (by kernel_rfl) (by kernel_rfl) (λd _ _ _ _ h=>by cases d<;>exact h) ?_
 repeat (refine mW rfl (λK hK=>?_);go_simp;first|(refine hK _ ?_;clear hK K)|(apply Exists.intro;refine⟨λx=>?_,hK _ ?_⟩;((first|(go_at_call 169;exact lN (xN _ _ _))));clear hK K))
 clear x0 x1 y0 y1;refine iE rfl rfl (λK hK w2 h2=>?_);go_simp;refine⟨bG.alloc _ _,hK _ _ ?_⟩;clear hK K
 have hz:∀k,k<[kF a c,kF b d].length->(w2.alloc (.cells #[.int .i64 (kF a c),.int .i64 (kF b d)] 3)).cell? ⟨w2.heap.size,0+k,none⟩=some (.int .i64 ([kF a c,kF b d][k]?.getD 0)):=λk hk=>by
  refine aT w2 _ _ _ _ _ ?_
  match k,hk with
  | 0,_=>rfl
  | 1,_=>rfl
 have h3:bG w2 (w2.alloc (.cells #[.int .i64 (kF a c),.int .i64 (kF b d)] 3)):=bG.alloc _ _;generalize w2.alloc _=w3 at hz h3 ⊢;refine iE rfl rfl (λK hK w4 h4=>?_);go_simp;refine(iI1 [kF a c,kF b d] w2.heap.size 0 2 w4 (by simp) (λk hk=>h4.1.cell (hz k hk))).mono ?_;rintro e w' ⟨rfl,rfl⟩;refine⟨bG.refl _,hK _ _ ?_⟩;clear hK K;refine iE rfl rfl (λK hK w5 h5=>?_);go_simp;refine⟨bG.refl _,hK _ _ ?_⟩;clear hK K;refine uS (λw6 h6=>?_);have hB6:bG w w6:=(((((hB.tr (bG.drew _)).tr h2).tr h3).tr h4).tr h5).tr h6;go_wp2
 go_ret;exact⟨rfl,hB6⟩
theorem eM1 (blk off size:Nat) (w:World):CmpLays Tryz.prog 222 #[] cR0 2 cT1 blk off size w:=λm os dk _ x y =>
 (mK0 x.1 x.2 y.1 y.2 (sortWorldK cR0 2 w blk off m dk os)).mono λ_ _ ⟨he,hg⟩=>⟨he,hg.grow⟩
theorem xA (x y:Int×Int):ltOf cT1 x y=true↔ltP x y:=by
 rw[<-iU1];simp[ltOf]
theorem oF1:Sort.SWO (ltOf cT1) where
 irrefl x:=by
  cases h:ltOf cT1 x x with
  | false=>rfl
  | true=>exact absurd ((xA x x).1 h) (eL0 x)
 trans x y z h1 h2:=(xA x z).2 (lD0 ((xA x y).1 h1) ((xA y z).1 h2))
 ntrans x y z h1 h2:=by
  have k1:¬ltP x y:=λh=>by rw[(xA x y).2 h]at h1;cases h1
  have k2:¬ltP y z:=λh=>by rw[(xA y z).2 h]at h2;cases h2
  cases h:ltOf cT1 x z with
  | false=>rfl
  | true =>
   have k3:=(xA x z).1 h;unfold ltP at k1 k2 k3;exfalso;omega
theorem jG1 (w:World):(isAgg 227).run Tryz.prog w=.ok true w:=by kernel_rfl
theorem gZ1 (w:World):(Go.sizeOf 227).run Tryz.prog w=.ok 2 w:=by kernel_rfl
theorem cG1:∀(x:Int×Int), ∀v∈cR0 x,v.oneCell'=true:=λx v hv=>by
 simp[cR0]at hv;rcases hv with rfl|rfl<;>rfl
theorem tX0 (w:World) (base:Nat) (v:Value) (l:List (Int×Int)) (aa:aU w base 227 2 cR0 v l) (hl:l.length<4611686018427387904) :
  Calls Tryz.prog 273 #[v,.func (.func 222) #[] #[]] w λe w'=>e=.returned (.tuple #[])/\∃l',l'.Perm l/\l'.Pairwise (λx y=>ltOf cT1 y x=false)/\aU w' base 227 2 cR0 v l'/\w.grownBy w' v.ownBlock:=by
 have h:=tC Tryz.sortP jG1 gZ1 (λ_=>rfl) (by decide) cG1 cT1 oF1 222 #[] (enters_of Tryz.func222 (by kernel_rfl) rfl) eM1 w base 227 v l aa hl;exact h
theorem lC1 (w:World):(zeroValue 3).run Tryz.prog w=.ok (.int .i64 0) w:=by kernel_rfl
theorem iY1 (w:World):(isAgg 59).run Tryz.prog w=.ok true w:=by kernel_rfl
theorem dV1 (w:World):(Go.sizeOf 59).run Tryz.prog w=.ok 5 w:=by kernel_rfl
theorem vG0 (w:World) (base:Nat) (v:Value) (l:List En) (aa:aU w base 59 5 aJ v l) (hl:l.length<4611686018427387904) :
  Calls Tryz.prog 96 #[v,.func (.func 97) #[] #[]] w λe w'=>e=.returned (.tuple #[])/\∃l',l'.Perm l/\l'.Pairwise (λx y=>ltOf oV y x=false)/\aU w' base 59 5 aJ v l'/\w.grownBy w' v.ownBlock:=by
 have h:=tC Tryz.sortE iY1 dV1 (λ_=>rfl) (by decide) bD0 oV oA1 97 #[] (enters_of Tryz.func97 (by kernel_rfl) rfl) gH1 w base 59 v l aa hl;exact h
theorem yF0 (l:List En) (la:Option Addr) (cap:Nat) (w:World) (hl:l.length<=1048576) (ag:∀x∈l,uO x) (ac:aF w la 5 (l.map aJ)) :
  Calls Tryz.prog 33 #[.slice la l.length cap] w (kX0 l w):=by
 have HAT:=Aa ac;have HOK:=Aa ag;clear ac ag;have vd:=@run_makeMap Tryz.prog;go_enter Tryz.func33,Tryz.ntmps33
 go_wp2_with fail
 go_loopw [15] (λi wr=>∃(k:Nat) (D:DataW Unit),k<=l.length/\i=.int .i64 k/\wr.ownsMap Tryz.prog 59 (plainElem Tryz.prog 3) w.heap.size k D/\Hid (vK0 (l.take k) D)/\Grows w wr) (λi _=>l.length-(intOf i).toNat)
 case atStart=>exact⟨0,_,Nat.zero_le _,rfl,World.ownsMap_made _ _ _ _,gI1,Grows.alloc _ _⟩
 case round =>
  obtain⟨k,D,hk,rfl,aa,hM,hg⟩:=hrel;by_cases ae:k<l.length
  ·obtain⟨⟨xr,xs,xl,xt,xc⟩,hx⟩:∃x,l[k]?=some x:=⟨_,List.getElem?_eq_getElem ae⟩
   obtain⟨ba,oa,rfl,be⟩:=(HAT.out.grows hg).get (aH ae);have c0:wr.cell? ⟨ba,oa+k*5,none⟩=some (.string xr):=be k _ hx 0 _ rfl;have c1:wr.cell? ⟨ba,oa+k*5+1,none⟩=some (.string xs):=be k _ hx 1 _ rfl;have c2:wr.cell? ⟨ba,oa+k*5+2,none⟩=some (.int .i64 xl):=be k _ hx 2 _ rfl;have c3:wr.cell? ⟨ba,oa+k*5+3,none⟩=some (.int .i64 xt):=be k _ hx 3 _ rfl;have c4:wr.cell? ⟨ba,oa+k*5+4,none⟩=some (.int .i64 xc):=be k _ hx 4 _ rfl;have qt:uO ⟨xr,xs,xl,xt,xc⟩:=HOK.out _ (List.mem_of_getElem? hx);have ws:uO ⟨xr,xs,xl,xt,0⟩:=qt.key;have HK:=Aa ws;have acp:(Lit.int .i64 xc).wf=true:=qt.c;obtain⟨o,_,hA⟩:=(hM.out _ ws).2 rfl;have HT:=Aa (bF0 hx);have HX:=Aa qt;clear be hx qt
   cases o with
   | none =>
    have hh:Maps.has D (klE ⟨xr,xs,xl,xt,0⟩)=false:=hA;have HS:Hid (vK0 (l.take k++[⟨xr,xs,xl,xt,xc⟩]) (D.put (klE ⟨xr,xs,xl,xt,0⟩) (.lit (.int .i64 xc)))):=hM.out.store aa.isMap HX.out (o:=none) hA (λc hc=>by cases hc);clear hA ws;go_wp2_with (first|(at_lookup;refine wpList_lookup_own_ok_int _ rfl _ _ 143 rfl 59 3 .i64 tM Tryz.underlying143 Tryz.underlying3 (lC1 _) w.heap.size k D rfl ((aa.alloc _).alloc _) _ (klE ⟨xr,xs,xl,xt,0⟩) rfl (iE1 HK.out) ?_;intro c ac zu;rw[hh];clear ac)|(at_mapUpdate;refine wpList_mapUpdate_own _ rfl _ _ _ 143 rfl 59 3 tM Tryz.underlying143 _ w.heap.size k D rfl ((aa.alloc _).alloc _) (by unfold maxLen;omega) _ _ (klE ⟨xr,xs,xl,xt,0⟩) rfl rfl (iE1 HK.out) _ [] (plainElem_int Tryz.underlying3 acp) ?_;intro w1 ay nh))
    go_roundw
    case rel=>exact⟨k+1,_,ae,by go_num,ay,by rw[HT.out];exact HS.out,(((hg.al _).al _).grown nh (λq hq=>by cases hq;exact Ab _))⟩
    case measure=>simp[intOf];omega
   | some c0 =>
    have hh:Maps.has D (klE ⟨xr,xs,xl,xt,0⟩)=true:=hA.1;have HA:=Aa hA;by_cases hc:xc<c0
    ·have HS:Hid (vK0 (l.take k++[⟨xr,xs,xl,xt,xc⟩]) (D.put (klE ⟨xr,xs,xl,xt,0⟩) (.lit (.int .i64 xc)))):=hM.out.store aa.isMap HX.out (o:=some c0) hA (λc hc2=>by cases hc2;exact hc)
     clear hA ws;go_wp2_with (first|(at_lookup;refine wpList_lookup_own_ok_int _ rfl _ _ 143 rfl 59 3 .i64 tM Tryz.underlying143 Tryz.underlying3 (lC1 _) w.heap.size k D rfl ((aa.alloc _).alloc _) _ (klE ⟨xr,xs,xl,xt,0⟩) rfl (iE1 HK.out) ?_;intro c ac zu;rw[hh];have ly:c=c0:=(by have h1:=HA.out.2 (.lit (.int .i64 0));rw[ac]at h1;simpa using h1);have b9:xc<c:=(by omega);clear ac ly)|(at_mapUpdate;refine wpList_mapUpdate_own _ rfl _ _ _ 143 rfl 59 3 tM Tryz.underlying143 _ w.heap.size k D rfl ((aa.alloc _).alloc _) (by unfold maxLen;omega) _ _ (klE ⟨xr,xs,xl,xt,0⟩) rfl rfl (iE1 HK.out) _ [] (plainElem_int Tryz.underlying3 acp) ?_;intro w1 ay nh))
     go_roundw
     case rel=>exact⟨k+1,_,ae,by go_num,ay,by rw[HT.out];exact HS.out,(((hg.al _).al _).grown nh (λq hq=>by cases hq;exact Ab _))⟩
     case measure=>simp[intOf];omega
    ·have HS:Hid (vK0 (l.take k++[⟨xr,xs,xl,xt,xc⟩]) D):=hM.out.skip (z:=⟨xr,xs,xl,xt,xc⟩) hA (by simp only;omega)
     clear hA ws;go_wp2_with (first|(at_lookup;refine wpList_lookup_own_ok_int _ rfl _ _ 143 rfl 59 3 .i64 tM Tryz.underlying143 Tryz.underlying3 (lC1 _) w.heap.size k D rfl ((aa.alloc _).alloc _) _ (klE ⟨xr,xs,xl,xt,0⟩) rfl (iE1 HK.out) ?_;intro c ac zu;rw[hh];have ly:c=c0:=(by have h1:=HA.out.2 (.lit (.int .i64 0));rw[ac]at h1;simpa using h1);have b9:¬xc<c:=(by omega);clear ac ly)|(at_mapUpdate;refine wpList_mapUpdate_own _ rfl _ _ _ 143 rfl 59 3 tM Tryz.underlying143 _ w.heap.size k D rfl ((aa.alloc _).alloc _) (by unfold maxLen;omega) _ _ (klE ⟨xr,xs,xl,xt,0⟩) rfl rfl (iE1 HK.out) _ [] (plainElem_int Tryz.underlying3 acp) ?_;intro w1 ay nh))
     go_roundw
     case rel=>exact⟨k+1,D,ae,by go_num,((aa.alloc _).alloc _).mono (Nat.le_succ _),by rw[HT.out];exact HS.out,(hg.al _).al _⟩
     case measure=>simp[intOf];omega
  ·obtain rfl:k=l.length:=by omega
   rw[List.take_length]at hM;obtain⟨u0,rfl⟩:=exq wr;have ag8:=aa.size_le;go_wp2_with (first|(at_range;refine wpList_range_own _ rfl _ 143 rfl 59 3 tM Tryz.underlying143 _ w.heap.size l.length D rfl aa ?_;intro w0 acm cd mw))
   go_frame
   go_loopw [9] (λv wx=>∃(left:Lit->Bool) (tp:Nat) (ys:List En),wx.ranges Tryz.prog 59 (plainElem Tryz.prog 3) w.heap.size u0.heap.size l.length D left tp/\ys.length+tp<=l.length/\Hid (pH0 D left ys)/\aU wx w.heap.size 59 5 aJ v ys/\Grows w wx) (λ_ wx=>wx.rangeLeft w.heap.size u0.heap.size)
   case atStart=>exact⟨_,_,[],acm,by simpa using ag8,oQ0 D,aU.nil _ _ _ _ _,hg.grown cd (λq hq=>by cases hq)⟩
   case round =>
    obtain⟨left,tp,ys,hrg,eo,hC,gh,jl⟩:=hrel;go_wp2_with (first|(at_next;refine wpList_next_ranges _ rfl _ rfl 59 tM (plainElem Tryz.prog 3) (λx:En => .agg #[.string x.r,.string x.s,.int .i64 x.l,.int .i64 x.t,.int .i64 x.c]) (Value.int .i64) (λkey kl hk=>by obtain⟨x,_,hx,_⟩:=qK0 hk;exact⟨x,hx⟩) (λv y hv=>by obtain⟨c,hc,_⟩:=plainElem_int_inv Tryz.underlying3 hv;exact⟨c,hc⟩) w.heap.size u0.heap.size l.length D left tp rfl hrg ?_ ?_))
    ·intro wl hl0
     have ft:=λy=>hC.out.least hM.out HOK.out hl0 y;have HMEM:=Aa ft;clear ft wl hl0;go_wp2_with (first|(go_at_call 96;refine(vG0 _ w.heap.size _ ys gh (by omega)).mono ?_;rintro e w9 ⟨rfl,l',hp,tj,jq,ad4⟩))
     go_ret;have hS:xR l l':=⟨gS0 (hp.nodup_iff.2 hC.out.1) tj,λy=>(hp.mem_iff).trans (HMEM.out y)⟩;rw[hS.unique (dX l)]at jq;exact⟨_,rfl,jq,jl.grown ad4 (λq hq=>bB gh q hq)⟩
    ·intro x c kl yd yp w2 acn im qq hv ac aco b9 af i5 hen
     obtain⟨x',qt,ex,rfl⟩:=qK0 im
     obtain rfl:x=x':=by
      obtain⟨a,b,c,d,e⟩:=x;obtain⟨a',b',c',d',e'⟩:=x';simpa [En.agg] using ex
     obtain⟨c',ec,ez,zu⟩:=plainElem_int_inv Tryz.underlying3 hv;obtain rfl:c=c':=by simpa using ec
     obtain rfl:yd=.lit (.int .i64 c):=(Prod.mk.inj ez).1;have HC:=Aa (hC.out.step hM.out qt zu qq ac);have o4:=pK0 gh hrg.owns;have hni:=kT0 gh hrg;have jq:=bP0 gh af (Or.inr (Ne.symm hni));have ia:=jl.grown af (λq hq=>by cases hq;exact hg.size);obtain⟨xr,xs,xl,xt,xc⟩:=x;dsimp only at hen HC
     clear im ex ac hv ec ez qq i5 qt;go_wp2_with (first|(at_builtin;refine rB0 dR rfl _ _ rfl w.heap.size _ ys ⟨xr,xs,xl,xt,c⟩ rfl jq (Grows.alloc _ _) _ 1 (by simp) _ rfl rfl (by omega) ia.size ?_;intro v5 w5 an ag9 aha))
     have aen:=(iV0 aco ((Grows.alloc _ _).al _)).kept ag9 o4 hni;have di:=aha w ia (Ab _);go_roundw
     case rel=>exact⟨_,acn,ys++[⟨xr,xs,xl,xt,c⟩],aen,by simp;omega,HC,an,di⟩
     case measure=>rw[aen.left_eq,hrg.left_eq];exact b9
end
end Go.Proofs.YtcijgkfpobpdbaaGreatDoor
