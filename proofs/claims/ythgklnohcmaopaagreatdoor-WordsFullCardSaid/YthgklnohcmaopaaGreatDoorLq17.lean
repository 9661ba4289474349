/- The texts SortW, one behind the other. -/
import Derived.Test.YthgklnohcmaopaaGreatDoorLq16
import Derived.Test.YthgklnohcmaopaaGreatDoorLq2
import Derived.Test.YthgklnohcmaopaaGreatDoorLq11
import Derived.Test.YthgklnohcmaopaaGreatDoorShelf2
open Go.Lib renaming hid → Aa
open Nat renaming le_refl → Ab
set_option maxHeartbeats 4000000
namespace Go.Proofs.YthgklnohcmaopaaGreatDoor
set_option maxRecDepth 100000
open Go Go.RowKit Go.Shelf
attribute [local go_sem] aO
theorem mP1 (w:World):(zeroValue 3).run Tryz.prog w=.ok (.int .i64 0) w:=by kernel_rfl
theorem mM1 (w:World):(isAgg 30).run Tryz.prog w=.ok true w:=by kernel_rfl
theorem iK1 (w:World):(Go.sizeOf 30).run Tryz.prog w=.ok 5 w:=by kernel_rfl
theorem uF0 (w:World) (base:Nat) (v:Value) (l:List En) (aa:aX w base 30 5 bF v l) (hl:l.length<4611686018427387904) :
  Calls Tryz.prog 115 #[v,.func (.func 116) #[] #[]] w λe w'=>e=.returned (.tuple #[])/\∃l',l'.Perm l/\l'.Pairwise (λx y=>ltOf cA0 y x=false)/\aX w' base 30 5 bF v l'/\w.grownBy w' v.ownBlock:=by
 have h:=nK Tryz.sortE mM1 iK1 (λ_=>rfl) (by decide) zM cA0 rK1 116 #[] (enters_of Tryz.func116 (by kernel_rfl) rfl) gH1 w base 30 v l aa hl;exact h
theorem dN1 (l:List En) (la:Option Addr) (cap:Nat) (w:World) (hl:l.length<=1048576) (ag:∀x∈l,yB x) (ac:aG w la 5 (l.map bF)) :
  Calls Tryz.prog 49 #[.slice la l.length cap] w (wY0 l w):=by
 have HAT:=Aa ac;have HOK:=Aa ag;clear ac ag;have s8:=@run_makeMap Tryz.prog;go_enter Tryz.func49,Tryz.ntmps49
 go_wp2_with fail
 go_loopw [15] (λi wr=>∃(k:Nat) (D:DataW Unit),k<=l.length/\i=.int .i64 k/\wr.ownsMap Tryz.prog 30 (plainElem Tryz.prog 3) w.heap.size k D/\Hid (sQ0 (l.take k) D)/\aB w wr) (λi _=>l.length-(intOf i).toNat)
 case atStart=>exact⟨0,_,Nat.zero_le _,rfl,World.ownsMap_made _ _ _ _,jC1,aB.alloc _ _⟩
 case round =>
  obtain⟨k,D,hk,rfl,aa,hM,hg⟩:=hrel;by_cases ae:k<l.length
  ·obtain⟨⟨xr,xs,xl,xt,xc⟩,hx⟩:∃x,l[k]?=some x:=⟨_,List.getElem?_eq_getElem ae⟩
   obtain⟨ba,oa,rfl,be⟩:=(HAT.out.grows hg).get (aK ae);have c0:wr.cell? ⟨ba,oa+k*5,none⟩=some (.string xr):=be k _ hx 0 _ rfl;have c1:wr.cell? ⟨ba,oa+k*5+1,none⟩=some (.string xs):=be k _ hx 1 _ rfl;have c2:wr.cell? ⟨ba,oa+k*5+2,none⟩=some (.int .i64 xl):=be k _ hx 2 _ rfl;have c3:wr.cell? ⟨ba,oa+k*5+3,none⟩=some (.int .i64 xt):=be k _ hx 3 _ rfl;have c4:wr.cell? ⟨ba,oa+k*5+4,none⟩=some (.int .i64 xc):=be k _ hx 4 _ rfl;have lz:yB ⟨xr,xs,xl,xt,xc⟩:=HOK.out _ (List.mem_of_getElem? hx);have xm:yB ⟨xr,xs,xl,xt,0⟩:=lz.key;have HK:=Aa xm;have acm:(Lit.int .i64 xc).wf=true:=lz.c;obtain⟨o,_,hA⟩:=(hM.out _ xm).2 rfl;have HT:=Aa (cC1 hx);have HX:=Aa lz;clear be hx lz
   cases o with
   | none =>
    have hh:Maps.has D (klE ⟨xr,xs,xl,xt,0⟩)=false:=hA;have HS:Hid (sQ0 (l.take k++[⟨xr,xs,xl,xt,xc⟩]) (D.put (klE ⟨xr,xs,xl,xt,0⟩) (.lit (.int .i64 xc)))):=hM.out.store aa.isMap HX.out (o:=none) hA (λc hc=>by cases hc);clear hA xm;go_wp2_with (first|(at_lookup;refine wpList_lookup_own_ok_int _ rfl _ _ 198 rfl 30 3 .i64 sL Tryz.underlying198 Tryz.underlying3 (mP1 _) w.heap.size k D rfl ((aa.alloc _).alloc _) _ (klE ⟨xr,xs,xl,xt,0⟩) rfl (jS1 HK.out) ?_;intro c ac hwc;rw[hh];clear ac)|(at_mapUpdate;refine wpList_mapUpdate_own _ rfl _ _ _ 198 rfl 30 3 sL Tryz.underlying198 _ w.heap.size k D rfl ((aa.alloc _).alloc _) (by unfold maxLen;omega) _ _ (klE ⟨xr,xs,xl,xt,0⟩) rfl rfl (jS1 HK.out) _ [] (plainElem_int Tryz.underlying3 acm) ?_;intro w1 aq bg))
    go_roundw
    case rel=>exact⟨k+1,_,ae,by go_num,aq,by rw[HT.out];exact HS.out,(((hg.al _).al _).grown bg (λq hq=>by cases hq;exact Ab _))⟩
    case measure=>simp[intOf];omega
   | some c0 =>
    have hh:Maps.has D (klE ⟨xr,xs,xl,xt,0⟩)=true:=hA.1;have HA:=Aa hA;by_cases hc:xc<c0
    ·have HS:Hid (sQ0 (l.take k++[⟨xr,xs,xl,xt,xc⟩]) (D.put (klE ⟨xr,xs,xl,xt,0⟩) (.lit (.int .i64 xc)))):=hM.out.store aa.isMap HX.out (o:=some c0) hA (λc hc2=>by cases hc2;exact hc)
     clear hA xm;go_wp2_with (first|(at_lookup;refine wpList_lookup_own_ok_int _ rfl _ _ 198 rfl 30 3 .i64 sL Tryz.underlying198 Tryz.underlying3 (mP1 _) w.heap.size k D rfl ((aa.alloc _).alloc _) _ (klE ⟨xr,xs,xl,xt,0⟩) rfl (jS1 HK.out) ?_;intro c ac hwc;rw[hh];have rp:c=c0:=(by have h1:=HA.out.2 (.lit (.int .i64 0));rw[ac]at h1;simpa using h1);have ay:xc<c:=(by omega);clear ac rp)|(at_mapUpdate;refine wpList_mapUpdate_own _ rfl _ _ _ 198 rfl 30 3 sL Tryz.underlying198 _ w.heap.size k D rfl ((aa.alloc _).alloc _) (by unfold maxLen;omega) _ _ (klE ⟨xr,xs,xl,xt,0⟩) rfl rfl (jS1 HK.out) _ [] (plainElem_int Tryz.underlying3 acm) ?_;intro w1 aq bg))
     go_roundw
     case rel=>exact⟨k+1,_,ae,by go_num,aq,by rw[HT.out];exact HS.out,(((hg.al _).al _).grown bg (λq hq=>by cases hq;exact Ab _))⟩
     case measure=>simp[intOf];omega
    ·have HS:Hid (sQ0 (l.take k++[⟨xr,xs,xl,xt,xc⟩]) D):=hM.out.skip (z:=⟨xr,xs,xl,xt,xc⟩) hA (by simp only;omega)
     clear hA xm;go_wp2_with (first|(at_lookup;refine wpList_lookup_own_ok_int _ rfl _ _ 198 rfl 30 3 .i64 sL Tryz.underlying198 Tryz.underlying3 (mP1 _) w.heap.size k D rfl ((aa.alloc _).alloc _) _ (klE ⟨xr,xs,xl,xt,0⟩) rfl (jS1 HK.out) ?_;intro c ac hwc;rw[hh];have rp:c=c0:=(by have h1:=HA.out.2 (.lit (.int .i64 0));rw[ac]at h1;simpa using h1);have ay:¬xc<c:=(by omega);clear ac rp)|(at_mapUpdate;refine wpList_mapUpdate_own _ rfl _ _ _ 198 rfl 30 3 sL Tryz.underlying198 _ w.heap.size k D rfl ((aa.alloc _).alloc _) (by unfold maxLen;omega) _ _ (klE ⟨xr,xs,xl,xt,0⟩) rfl rfl (jS1 HK.out) _ [] (plainElem_int Tryz.underlying3 acm) ?_;intro w1 aq bg))
     go_roundw
     case rel=>exact⟨k+1,D,ae,by go_num,((aa.alloc _).alloc _).mono (Nat.le_succ _),by rw[HT.out];exact HS.out,(hg.al _).al _⟩
     case measure=>simp[intOf];omega
  ·obtain rfl:k=l.length:=by omega
   rw[List.take_length]at hM;obtain⟨u0,rfl⟩:=exq wr;have acn:=aa.size_le;go_wp2_with (first|(at_range;refine wpList_range_own _ rfl _ 198 rfl 30 3 sL Tryz.underlying198 _ w.heap.size l.length D rfl aa ?_;intro w0 rj dh lg))
   go_frame
   go_loopw [9] (λv wx=>∃(left:Lit->Bool) (jb:Nat) (ys:List En),wx.ranges Tryz.prog 30 (plainElem Tryz.prog 3) w.heap.size u0.heap.size l.length D left jb/\ys.length+jb<=l.length/\Hid (oH0 D left ys)/\aX wx w.heap.size 30 5 bF v ys/\aB w wx) (λ_ wx=>wx.rangeLeft w.heap.size u0.heap.size)
   case atStart=>exact⟨_,_,[],rj,by simpa using acn,oV0 D,aX.nil _ _ _ _ _,hg.grown dh (λq hq=>by cases hq)⟩
   case round =>
    obtain⟨left,jb,ys,ik,cj,hC,cz,fu⟩:=hrel;go_wp2_with (first|(at_next;refine wpList_next_ranges _ rfl _ rfl 30 sL (plainElem Tryz.prog 3) (λx:En => .agg #[.string x.r,.string x.s,.int .i64 x.l,.int .i64 x.t,.int .i64 x.c]) (Value.int .i64) (λkey kl hk=>by obtain⟨x,_,hx,_⟩:=rH0 hk;exact⟨x,hx⟩) (λv y hv=>by obtain⟨c,hc,_⟩:=plainElem_int_inv Tryz.underlying3 hv;exact⟨c,hc⟩) w.heap.size u0.heap.size l.length D left jb rfl ik ?_ ?_))
    ·intro rk s9
     have dz:=λy=>hC.out.least hM.out HOK.out s9 y;have HMEM:=Aa dz;clear dz rk s9;go_wp2_with (first|(go_at_call 115;refine(uF0 _ w.heap.size _ ys cz (by omega)).mono ?_;rintro e w9 ⟨rfl,l',hp,qo,et,tc⟩))
     go_ret;have hS:aN0 l l':=⟨gL0 (hp.nodup_iff.2 hC.out.1) qo,λy=>(hp.mem_iff).trans (HMEM.out y)⟩;rw[hS.unique (dJ l)]at et;exact⟨_,rfl,et,fu.grown tc (λq hq=>aZ cz q hq)⟩
    ·intro x c kl yd yp w2 fi er jq hv ac fm ay af ew hen
     obtain⟨x',lz,ex,rfl⟩:=rH0 er
     obtain rfl:x=x':=by
      obtain⟨a,b,c,d,e⟩:=x;obtain⟨a',b',c',d',e'⟩:=x';simpa [En.agg] using ex
     obtain⟨c',ec,ez,hwc⟩:=plainElem_int_inv Tryz.underlying3 hv;obtain rfl:c=c':=by simpa using ec
     obtain rfl:yd=.lit (.int .i64 c):=(Prod.mk.inj ez).1;have HC:=Aa (hC.out.step hM.out lz hwc jq ac);have ws:=aC0 cz ik.owns;have ul:=xR cz ik;have et:=sJ cz af (Or.inr (Ne.symm ul));have fc:=fu.grown af (λq hq=>by cases hq;exact hg.size);obtain⟨xr,xs,xl,xt,xc⟩:=x;dsimp only at hen HC
     clear er ex ac hv ec ez jq ew lz;go_wp2_with (first|(at_builtin;refine sM0 bP0 rfl _ _ rfl w.heap.size _ ys ⟨xr,xs,xl,xt,c⟩ rfl et (aB.alloc _ _) _ 1 (by simp) _ rfl rfl (by omega) fc.size ?_;intro v5 w5 ar aco acp))
     have xo:=(fD fm ((aB.alloc _ _).al _)).kept aco ws ul;have d8:=acp w fc (Ab _);go_roundw
     case rel=>exact⟨_,fi,ys++[⟨xr,xs,xl,xt,c⟩],xo,by simp;omega,HC,ar,d8⟩
     case measure=>rw[xo.left_eq,ik.left_eq];exact ay
end Go.Proofs.YthgklnohcmaopaaGreatDoor
