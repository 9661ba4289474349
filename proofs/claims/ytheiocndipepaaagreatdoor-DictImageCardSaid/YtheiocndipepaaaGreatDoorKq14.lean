/- The texts PairC SortW, one behind the other. -/
import Derived.Test.YtheiocndipepaaaGreatDoorKq4
import Derived.Test.YtheiocndipepaaaGreatDoorKq9
import Derived.Test.YtheiocndipepaaaGreatDoorKq10
import Derived.Test.YtheiocndipepaaaGreatDoorShelf2
import Derived.Test.YtheiocndipepaaaGreatDoorKq13
open Go.Lib renaming hid → Aa
open Nat renaming le_refl → Ab
set_option maxHeartbeats 4000000
namespace Go.Proofs.YtheiocndipepaaaGreatDoor
set_option maxRecDepth 100000
section
open Go Go.RowKit Go.Shelf
attribute [local go_sem] aM
def dL0 (x:Int×Int):List Value:=[.int .i64 x.1,.int .i64 x.2]
theorem pX0 (a b c d:Int) (w:World) :
  Calls Tryz.prog 155 #[.agg #[.int .i64 a,.int .i64 b],.agg #[.int .i64 c,.int .i64 d]] w λe w' =>
   e=.returned (.int .i64 (orI [cmpI a c,cmpI b d]))/\bJ w w':=by
 go_enter Tryz.func155,Tryz.ntmps155
 go_wp2
 generalize hW:(w.alloc (.cells #[.int .i64 a,.int .i64 b] 164)).alloc (.cells #[.int .i64 c,.int .i64 d] 164)=W;have hB:bJ w W:=by rw[<-hW];exact(bJ.alloc _ _).tr (bJ.alloc _ _)
 have hx:∀j v,#[Value.int .i64 a,.int .i64 b][j]?=some v->W.drew.cell? ⟨w.heap.size,j,none⟩=some v:=λj v h=>by
  rw[<-hW];exact(Grows.alloc _ _).cell (aT w _ _ _ j v h)
 have hy:∀j v,#[Value.int .i64 c,.int .i64 d][j]?=some v->W.drew.cell? ⟨w.heap.size+1,j,none⟩=some v:=λj v h=>by
  rw[<-hW]
  have:=aT (w.alloc (.cells #[.int .i64 a,.int .i64 b] 164)) _ 164 (0,0) j v h
  simpa using this
 clear hW;have x0:∀x:Ext bJ (W.drew),x.u.cell? ⟨w.heap.size,0,none⟩=some (.int .i64 a):=eP (hx 0 _ rfl);have x1:∀x:Ext bJ (W.drew),x.u.cell? ⟨w.heap.size,1,none⟩=some (.int .i64 b):=eP (hx 1 _ rfl);have y0:∀x:Ext bJ (W.drew),x.u.cell? ⟨w.heap.size+1,0,none⟩=some (.int .i64 c):=eP (hy 0 _ rfl);have y1:∀x:Ext bJ (W.drew),x.u.cell? ⟨w.heap.size+1,1,none⟩=some (.int .i64 d):=eP (hy 1 _ rfl);clear hx hy;refine kL bJ (aU 13 [10,11,12]) bJ.refl bJ.trans (by kernel_rfl) (by kernel_rfl) (λd _ _ _ _ h=>by cases d<;>exact h) ?_
 repeat (refine lH rfl (λK hK=>?_);go_simp;first|(refine hK _ ?_;clear hK K)|(apply Exists.intro;refine⟨λx=>?_,hK _ ?_⟩;((first|(go_at_call 123;exact mA (pL _ _ _))));clear hK K))
 clear x0 x1 y0 y1;refine fE rfl rfl (λK hK w2 h2=>?_);go_simp;refine⟨bJ.alloc _ _,hK _ _ ?_⟩;clear hK K
 have hz:∀k,k<[cmpI a c,cmpI b d].length->(w2.alloc (.cells #[.int .i64 (cmpI a c),.int .i64 (cmpI b d)] 3)).cell? ⟨w2.heap.size,0+k,none⟩=some (.int .i64 ([cmpI a c,cmpI b d][k]?.getD 0)):=λk hk=>by
  refine aT w2 _ _ _ _ _ ?_
  match k,hk with
  | 0,_=>rfl
  | 1,_=>rfl
 have h3:bJ w2 (w2.alloc (.cells #[.int .i64 (cmpI a c),.int .i64 (cmpI b d)] 3)):=bJ.alloc _ _;generalize w2.alloc _=w3 at hz h3 ⊢;refine fE rfl rfl (λK hK w4 h4=>?_);go_simp;refine(zE0 [cmpI a c,cmpI b d] w2.heap.size 0 2 w4 (by simp) (λk hk=>h4.1.cell (hz k hk))).mono ?_;rintro e w' ⟨rfl,rfl⟩;refine⟨bJ.refl _,hK _ _ ?_⟩;clear hK K;refine fE rfl rfl (λK hK w5 h5=>?_);go_simp;refine⟨bJ.refl _,hK _ _ ?_⟩;clear hK K;refine sS (λw6 h6=>?_);have ym:bJ w w6:=(((((hB.tr (bJ.drew _)).tr h2).tr h3).tr h4).tr h5).tr h6;go_wp2
 go_ret;exact⟨rfl,ym⟩
theorem fU1 (blk off size:Nat) (w:World):CmpLays Tryz.prog 155 #[] dL0 2 eQ1 blk off size w:=λm os dk _ x y =>
 (pX0 x.1 x.2 y.1 y.2 (sortWorldK dL0 2 w blk off m dk os)).mono λ_ _ ⟨he,hg⟩=>⟨he,hg.grow⟩
theorem yB (x y:Int×Int):ltOf eQ1 x y=true↔ltP x y:=by
 rw[<-mS1];simp[ltOf]
theorem rX1:Sort.SWO (ltOf eQ1) where
 irrefl x:=by
  cases h:ltOf eQ1 x x with
  | false=>rfl
  | true=>exact absurd ((yB x x).1 h) (fD0 x)
 trans x y z h1 h2:=(yB x z).2 (kH0 ((yB x y).1 h1) ((yB y z).1 h2))
 ntrans x y z h1 h2:=by
  have k1:¬ltP x y:=λh=>by rw[(yB x y).2 h]at h1;cases h1
  have k2:¬ltP y z:=λh=>by rw[(yB y z).2 h]at h2;cases h2
  cases h:ltOf eQ1 x z with
  | false=>rfl
  | true =>
   have k3:=(yB x z).1 h;unfold ltP at k1 k2 k3;exfalso;omega
theorem nO1 (w:World):(isAgg 164).run Tryz.prog w=.ok true w:=by kernel_rfl
theorem iX1 (w:World):(Go.sizeOf 164).run Tryz.prog w=.ok 2 w:=by kernel_rfl
theorem zO0:∀(x:Int×Int), ∀v∈dL0 x,v.oneCell'=true:=λx v hv=>by
 simp[dL0]at hv;rcases hv with rfl|rfl<;>rfl
theorem xD0 (w:World) (base:Nat) (v:Value) (l:List (Int×Int)) (aa:aV w base 164 2 dL0 v l) (hl:l.length<4611686018427387904) :
  Calls Tryz.prog 209 #[v,.func (.func 155) #[] #[]] w λe w'=>e=.returned (.tuple #[])/\∃l',l'.Perm l/\l'.Pairwise (λx y=>ltOf eQ1 y x=false)/\aV w' base 164 2 dL0 v l'/\w.grownBy w' v.ownBlock:=by
 have h:=uJ Tryz.sortP nO1 iX1 (λ_=>rfl) (by decide) zO0 eQ1 rX1 155 #[] (enters_of Tryz.func155 (by kernel_rfl) rfl) fU1 w base 164 v l aa hl;exact h
theorem mJ1 (w:World):(zeroValue 3).run Tryz.prog w=.ok (.int .i64 0) w:=by kernel_rfl
theorem lT1 (w:World):(isAgg 52).run Tryz.prog w=.ok true w:=by kernel_rfl
theorem hE1 (w:World):(Go.sizeOf 52).run Tryz.prog w=.ok 5 w:=by kernel_rfl
theorem uL0 (w:World) (base:Nat) (v:Value) (l:List En) (aa:aV w base 52 5 aQ v l) (hl:l.length<4611686018427387904) :
  Calls Tryz.prog 71 #[v,.func (.func 72) #[] #[]] w λe w'=>e=.returned (.tuple #[])/\∃l',l'.Perm l/\l'.Pairwise (λx y=>ltOf pI y x=false)/\aV w' base 52 5 aQ v l'/\w.grownBy w' v.ownBlock:=by
 have h:=uJ Tryz.sortE lT1 hE1 (λ_=>rfl) (by decide) aN0 pI rQ1 72 #[] (enters_of Tryz.func72 (by kernel_rfl) rfl) fR1 w base 52 v l aa hl;exact h
theorem mK0 (l:List En) (la:Option Addr) (cap:Nat) (w:World) (hl:l.length<=1048576) (ah:∀x∈l,rZ x) (ac:aF w la 5 (l.map aQ)) :
  Calls Tryz.prog 18 #[.slice la l.length cap] w (cY0 l w):=by
 have HAT:=Aa ac;have HOK:=Aa ah;clear ac ah;have xh:=@run_makeMap Tryz.prog;go_enter Tryz.func18,Tryz.ntmps18
 go_wp2_with fail
 go_loopw [15] (λi wr=>∃(k:Nat) (D:DataW Unit),k<=l.length/\i=.int .i64 k/\wr.ownsMap Tryz.prog 52 (plainElem Tryz.prog 3) w.heap.size k D/\Hid (uD0 (l.take k) D)/\Grows w wr) (λi _=>l.length-(intOf i).toNat)
 case atStart=>exact⟨0,_,Nat.zero_le _,rfl,World.ownsMap_made _ _ _ _,jF1,Grows.alloc _ _⟩
 case round =>
  obtain⟨k,D,hk,rfl,aa,hM,hg⟩:=hrel;by_cases ae:k<l.length
  ·obtain⟨⟨xr,xs,xl,xt,xc⟩,hx⟩:∃x,l[k]?=some x:=⟨_,List.getElem?_eq_getElem ae⟩
   obtain⟨ba,oa,rfl,be⟩:=(HAT.out.grows hg).get (aH ae);have c0:wr.cell? ⟨ba,oa+k*5,none⟩=some (.string xr):=be k _ hx 0 _ rfl;have c1:wr.cell? ⟨ba,oa+k*5+1,none⟩=some (.string xs):=be k _ hx 1 _ rfl;have c2:wr.cell? ⟨ba,oa+k*5+2,none⟩=some (.int .i64 xl):=be k _ hx 2 _ rfl;have c3:wr.cell? ⟨ba,oa+k*5+3,none⟩=some (.int .i64 xt):=be k _ hx 3 _ rfl;have c4:wr.cell? ⟨ba,oa+k*5+4,none⟩=some (.int .i64 xc):=be k _ hx 4 _ rfl;have se:rZ ⟨xr,xs,xl,xt,xc⟩:=HOK.out _ (List.mem_of_getElem? hx);have yz:rZ ⟨xr,xs,xl,xt,0⟩:=se.key;have HK:=Aa yz;have ade:(Lit.int .i64 xc).wf=true:=se.c;obtain⟨o,_,hA⟩:=(hM.out _ yz).2 rfl;have HT:=Aa (aY0 hx);have HX:=Aa se;clear be hx se
   cases o with
   | none =>
    have hh:Maps.has D (klE ⟨xr,xs,xl,xt,0⟩)=false:=hA;have HS:Hid (uD0 (l.take k++[⟨xr,xs,xl,xt,xc⟩]) (D.put (klE ⟨xr,xs,xl,xt,0⟩) (.lit (.int .i64 xc)))):=hM.out.store aa.isMap HX.out (o:=none) hA (λc hc=>by cases hc);clear hA yz;go_wp2_with (first|(at_lookup;refine wpList_lookup_own_ok_int _ rfl _ _ 115 rfl 52 3 .i64 uT Tryz.underlying115 Tryz.underlying3 (mJ1 _) w.heap.size k D rfl ((aa.alloc _).alloc _) _ (klE ⟨xr,xs,xl,xt,0⟩) rfl (lD1 HK.out) ?_;intro c ac hwc;rw[hh];clear ac)|(at_mapUpdate;refine wpList_mapUpdate_own _ rfl _ _ _ 115 rfl 52 3 uT Tryz.underlying115 _ w.heap.size k D rfl ((aa.alloc _).alloc _) (by unfold maxLen;omega) _ _ (klE ⟨xr,xs,xl,xt,0⟩) rfl rfl (lD1 HK.out) _ [] (plainElem_int Tryz.underlying3 ade) ?_;intro w1 az oh))
    go_roundw
    case rel=>exact⟨k+1,_,ae,by go_num,az,by rw[HT.out];exact HS.out,(((hg.al _).al _).grown oh (λq hq=>by cases hq;exact Ab _))⟩
    case measure=>simp[intOf];omega
   | some c0 =>
    have hh:Maps.has D (klE ⟨xr,xs,xl,xt,0⟩)=true:=hA.1;have HA:=Aa hA;by_cases hc:xc<c0
    ·have HS:Hid (uD0 (l.take k++[⟨xr,xs,xl,xt,xc⟩]) (D.put (klE ⟨xr,xs,xl,xt,0⟩) (.lit (.int .i64 xc)))):=hM.out.store aa.isMap HX.out (o:=some c0) hA (λc hc2=>by cases hc2;exact hc)
     clear hA yz;go_wp2_with (first|(at_lookup;refine wpList_lookup_own_ok_int _ rfl _ _ 115 rfl 52 3 .i64 uT Tryz.underlying115 Tryz.underlying3 (mJ1 _) w.heap.size k D rfl ((aa.alloc _).alloc _) _ (klE ⟨xr,xs,xl,xt,0⟩) rfl (lD1 HK.out) ?_;intro c ac hwc;rw[hh];have mq:c=c0:=(by have h1:=HA.out.2 (.lit (.int .i64 0));rw[ac]at h1;simpa using h1);have bz:xc<c:=(by omega);clear ac mq)|(at_mapUpdate;refine wpList_mapUpdate_own _ rfl _ _ _ 115 rfl 52 3 uT Tryz.underlying115 _ w.heap.size k D rfl ((aa.alloc _).alloc _) (by unfold maxLen;omega) _ _ (klE ⟨xr,xs,xl,xt,0⟩) rfl rfl (lD1 HK.out) _ [] (plainElem_int Tryz.underlying3 ade) ?_;intro w1 az oh))
     go_roundw
     case rel=>exact⟨k+1,_,ae,by go_num,az,by rw[HT.out];exact HS.out,(((hg.al _).al _).grown oh (λq hq=>by cases hq;exact Ab _))⟩
     case measure=>simp[intOf];omega
    ·have HS:Hid (uD0 (l.take k++[⟨xr,xs,xl,xt,xc⟩]) D):=hM.out.skip (z:=⟨xr,xs,xl,xt,xc⟩) hA (by simp only;omega)
     clear hA yz;go_wp2_with (first|(at_lookup;refine wpList_lookup_own_ok_int _ rfl _ _ 115 rfl 52 3 .i64 uT Tryz.underlying115 Tryz.underlying3 (mJ1 _) w.heap.size k D rfl ((aa.alloc _).alloc _) _ (klE ⟨xr,xs,xl,xt,0⟩) rfl (lD1 HK.out) ?_;intro c ac hwc;rw[hh];have mq:c=c0:=(by have h1:=HA.out.2 (.lit (.int .i64 0));rw[ac]at h1;simpa using h1);have bz:¬xc<c:=(by omega);clear ac mq)|(at_mapUpdate;refine wpList_mapUpdate_own _ rfl _ _ _ 115 rfl 52 3 uT Tryz.underlying115 _ w.heap.size k D rfl ((aa.alloc _).alloc _) (by unfold maxLen;omega) _ _ (klE ⟨xr,xs,xl,xt,0⟩) rfl rfl (lD1 HK.out) _ [] (plainElem_int Tryz.underlying3 ade) ?_;intro w1 az oh))
     go_roundw
     case rel=>exact⟨k+1,D,ae,by go_num,((aa.alloc _).alloc _).mono (Nat.le_succ _),by rw[HT.out];exact HS.out,(hg.al _).al _⟩
     case measure=>simp[intOf];omega
  ·obtain rfl:k=l.length:=by omega
   rw[List.take_length]at hM;obtain⟨u0,rfl⟩:=exq wr;have ah6:=aa.size_le;go_wp2_with (first|(at_range;refine wpList_range_own _ rfl _ 115 rfl 52 3 uT Tryz.underlying115 _ w.heap.size l.length D rfl aa ?_;intro w0 ada cp nj))
   go_frame
   go_loopw [9] (λv wx=>∃(left:Lit->Bool) (ve:Nat) (ys:List En),wx.ranges Tryz.prog 52 (plainElem Tryz.prog 3) w.heap.size u0.heap.size l.length D left ve/\ys.length+ve<=l.length/\Hid (qN0 D left ys)/\aV wx w.heap.size 52 5 aQ v ys/\Grows w wx) (λ_ wx=>wx.rangeLeft w.heap.size u0.heap.size)
   case atStart=>exact⟨_,_,[],ada,by simpa using ah6,pL0 D,aV.nil _ _ _ _ _,hg.grown cp (λq hq=>by cases hq)⟩
   case round =>
    obtain⟨left,ve,ys,hrg,er,hC,gu,dz⟩:=hrel;go_wp2_with (first|(at_next;refine wpList_next_ranges _ rfl _ rfl 52 uT (plainElem Tryz.prog 3) (λx:En => .agg #[.string x.r,.string x.s,.int .i64 x.l,.int .i64 x.t,.int .i64 x.c]) (Value.int .i64) (λkey kl hk=>by obtain⟨x,_,hx,_⟩:=tB0 hk;exact⟨x,hx⟩) (λv y hv=>by obtain⟨c,hc,_⟩:=plainElem_int_inv Tryz.underlying3 hv;exact⟨c,hc⟩) w.heap.size u0.heap.size l.length D left ve rfl hrg ?_ ?_))
    ·intro qh hl0
     have gj:=λy=>hC.out.least hM.out HOK.out hl0 y;have HMEM:=Aa gj;clear gj qh hl0;go_wp2_with (first|(go_at_call 71;refine(uL0 _ w.heap.size _ ys gu (by omega)).mono ?_;rintro e w9 ⟨rfl,l',hp,vd,j3,aev⟩))
     go_ret;have hS:yD l l':=⟨gS0 (hp.nodup_iff.2 hC.out.1) vd,λy=>(hp.mem_iff).trans (HMEM.out y)⟩;rw[hS.unique (dR l)]at j3;exact⟨_,rfl,j3,dz.grown aev (λq hq=>bB gu q hq)⟩
    ·intro x c kl yd yp w2 adb i6 sd hv ac adc bz af im hen
     obtain⟨x',se,ex,rfl⟩:=tB0 i6
     obtain rfl:x=x':=by
      obtain⟨a,b,c,d,e⟩:=x;obtain⟨a',b',c',d',e'⟩:=x';simpa [En.agg] using ex
     obtain⟨c',ec,ez,hwc⟩:=plainElem_int_inv Tryz.underlying3 hv;obtain rfl:c=c':=by simpa using ec
     obtain rfl:yd=.lit (.int .i64 c):=(Prod.mk.inj ez).1;have HC:=Aa (hC.out.step hM.out se hwc sd ac);have qd:=oS0 gu hrg.owns;have hni:=lL0 gu hrg;have j3:=tC gu af (Or.inr (Ne.symm hni));have iq:=dz.grown af (λq hq=>by cases hq;exact hg.size);obtain⟨xr,xs,xl,xt,xc⟩:=x;dsimp only at hen HC
     clear i6 ex ac hv ec ez sd im se;go_wp2_with (first|(at_builtin;refine rH0 dT rfl _ _ rfl w.heap.size _ ys ⟨xr,xs,xl,xt,c⟩ rfl j3 (Grows.alloc _ _) _ 1 (by simp) _ rfl rfl (by omega) iq.size ?_;intro v5 w5 ak ah7 ah8))
     have afe:=(mD0 adc ((Grows.alloc _ _).al _)).kept ah7 qd hni;have dp:=ah8 w iq (Ab _);go_roundw
     case rel=>exact⟨_,adb,ys++[⟨xr,xs,xl,xt,c⟩],afe,by simp;omega,HC,ak,dp⟩
     case measure=>rw[afe.left_eq,hrg.left_eq];exact bz
end
end Go.Proofs.YtheiocndipepaaaGreatDoor
