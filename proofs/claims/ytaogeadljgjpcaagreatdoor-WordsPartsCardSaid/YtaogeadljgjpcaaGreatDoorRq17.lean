/- The texts SortW, one behind the other. -/
import Derived.Test.YtaogeadljgjpcaaGreatDoorRq16
import Derived.Test.YtaogeadljgjpcaaGreatDoorRq2
import Derived.Test.YtaogeadljgjpcaaGreatDoorRq11
import Derived.Test.YtaogeadljgjpcaaGreatDoorShelf2
open Go.Lib renaming hid → Aa
open Nat renaming le_refl → Ab
set_option maxHeartbeats 4000000
namespace Go.Proofs.YtaogeadljgjpcaaGreatDoor
set_option maxRecDepth 100000
open Go Go.RowKit Go.Shelf
attribute [local go_sem] aQ
theorem kZ1 (w:World):(zeroValue 3).run Tryz.prog w=.ok (.int .i64 0) w:=by kernel_rfl
theorem mF1 (w:World):(isAgg 62).run Tryz.prog w=.ok true w:=by kernel_rfl
theorem iL1 (w:World):(Go.sizeOf 62).run Tryz.prog w=.ok 5 w:=by kernel_rfl
theorem tM0 (w:World) (base:Nat) (v:Value) (l:List En) (aa:aV w base 62 5 bF v l) (hl:l.length<4611686018427387904) :
  Calls Tryz.prog 168 #[v,.func (.func 169) #[] #[]] w λe w'=>e=.returned (.tuple #[])/\∃l',l'.Perm l/\l'.Pairwise (λx y=>ltOf aN0 y x=false)/\aV w' base 62 5 bF v l'/\w.grownBy w' v.ownBlock:=by
 have h:=nT Tryz.sortE mF1 iL1 (λ_=>rfl) (by decide) zG aN0 qO1 169 #[] (enters_of Tryz.func169 (by kernel_rfl) rfl) eT1 w base 62 v l aa hl;exact h
theorem bO1 (l:List En) (la:Option Addr) (cap:Nat) (w:World) (hl:l.length<=1048576) (ag:∀x∈l,uE x) (ac:aG w la 5 (l.map bF)) :
  Calls Tryz.prog 101 #[.slice la l.length cap] w (aC1 l w):=by
 have HAT:=Aa ac;have HOK:=Aa ag;clear ac ag;have q6:=@run_makeMap Tryz.prog;go_enter Tryz.func101,Tryz.ntmps101
 go_wp2_with fail
 go_loopw [15] (λi wr=>∃(k:Nat) (D:DataW Unit),k<=l.length/\i=.int .i64 k/\wr.ownsMap Tryz.prog 62 (plainElem Tryz.prog 3) w.heap.size k D/\Hid (uB0 (l.take k) D)/\aB w wr) (λi _=>l.length-(intOf i).toNat)
 case atStart=>exact⟨0,_,Nat.zero_le _,rfl,World.ownsMap_made _ _ _ _,iO1,aB.alloc _ _⟩
 case round =>
  obtain⟨k,D,hk,rfl,aa,hM,hg⟩:=hrel;by_cases ae:k<l.length
  ·obtain⟨⟨xr,xs,xl,xt,xc⟩,hx⟩:∃x,l[k]?=some x:=⟨_,List.getElem?_eq_getElem ae⟩
   obtain⟨ba,oa,rfl,bj⟩:=(HAT.out.grows hg).get (aK ae);have c0:wr.cell? ⟨ba,oa+k*5,none⟩=some (.string xr):=bj k _ hx 0 _ rfl;have c1:wr.cell? ⟨ba,oa+k*5+1,none⟩=some (.string xs):=bj k _ hx 1 _ rfl;have c2:wr.cell? ⟨ba,oa+k*5+2,none⟩=some (.int .i64 xl):=bj k _ hx 2 _ rfl;have c3:wr.cell? ⟨ba,oa+k*5+3,none⟩=some (.int .i64 xt):=bj k _ hx 3 _ rfl;have c4:wr.cell? ⟨ba,oa+k*5+4,none⟩=some (.int .i64 xc):=bj k _ hx 4 _ rfl;have lj:uE ⟨xr,xs,xl,xt,xc⟩:=HOK.out _ (List.mem_of_getElem? hx);have va:uE ⟨xr,xs,xl,xt,0⟩:=lj.key;have HK:=Aa va;have aci:(Lit.int .i64 xc).wf=true:=lj.c;obtain⟨o,_,hA⟩:=(hM.out _ va).2 rfl;have HT:=Aa (aU1 hx);have HX:=Aa lj;clear bj hx lj
   cases o with
   | none =>
    have hh:Maps.has D (klE ⟨xr,xs,xl,xt,0⟩)=false:=hA;have HS:Hid (uB0 (l.take k++[⟨xr,xs,xl,xt,xc⟩]) (D.put (klE ⟨xr,xs,xl,xt,0⟩) (.lit (.int .i64 xc)))):=hM.out.store aa.isMap HX.out (o:=none) hA (λc hc=>by cases hc);clear hA va;go_wp2_with (first|(at_lookup;refine wpList_lookup_own_ok_int _ rfl _ _ 228 rfl 62 3 .i64 tH Tryz.underlying228 Tryz.underlying3 (kZ1 _) w.heap.size k D rfl ((aa.alloc _).alloc _) _ (klE ⟨xr,xs,xl,xt,0⟩) rfl (jY1 HK.out) ?_;intro c ac y9;rw[hh];clear ac)|(at_mapUpdate;refine wpList_mapUpdate_own _ rfl _ _ _ 228 rfl 62 3 tH Tryz.underlying228 _ w.heap.size k D rfl ((aa.alloc _).alloc _) (by unfold maxLen;omega) _ _ (klE ⟨xr,xs,xl,xt,0⟩) rfl rfl (jY1 HK.out) _ [] (plainElem_int Tryz.underlying3 aci) ?_;intro w1 ar bh))
    go_roundw
    case rel=>exact⟨k+1,_,ae,by go_num,ar,by rw[HT.out];exact HS.out,(((hg.al _).al _).grown bh (λq hq=>by cases hq;exact Ab _))⟩
    case measure=>simp[intOf];omega
   | some c0 =>
    have hh:Maps.has D (klE ⟨xr,xs,xl,xt,0⟩)=true:=hA.1;have HA:=Aa hA;by_cases hc:xc<c0
    ·have HS:Hid (uB0 (l.take k++[⟨xr,xs,xl,xt,xc⟩]) (D.put (klE ⟨xr,xs,xl,xt,0⟩) (.lit (.int .i64 xc)))):=hM.out.store aa.isMap HX.out (o:=some c0) hA (λc hc2=>by cases hc2;exact hc)
     clear hA va;go_wp2_with (first|(at_lookup;refine wpList_lookup_own_ok_int _ rfl _ _ 228 rfl 62 3 .i64 tH Tryz.underlying228 Tryz.underlying3 (kZ1 _) w.heap.size k D rfl ((aa.alloc _).alloc _) _ (klE ⟨xr,xs,xl,xt,0⟩) rfl (jY1 HK.out) ?_;intro c ac y9;rw[hh];have o8:c=c0:=(by have h1:=HA.out.2 (.lit (.int .i64 0));rw[ac]at h1;simpa using h1);have az:xc<c:=(by omega);clear ac o8)|(at_mapUpdate;refine wpList_mapUpdate_own _ rfl _ _ _ 228 rfl 62 3 tH Tryz.underlying228 _ w.heap.size k D rfl ((aa.alloc _).alloc _) (by unfold maxLen;omega) _ _ (klE ⟨xr,xs,xl,xt,0⟩) rfl rfl (jY1 HK.out) _ [] (plainElem_int Tryz.underlying3 aci) ?_;intro w1 ar bh))
     go_roundw
     case rel=>exact⟨k+1,_,ae,by go_num,ar,by rw[HT.out];exact HS.out,(((hg.al _).al _).grown bh (λq hq=>by cases hq;exact Ab _))⟩
     case measure=>simp[intOf];omega
    ·have HS:Hid (uB0 (l.take k++[⟨xr,xs,xl,xt,xc⟩]) D):=hM.out.skip (z:=⟨xr,xs,xl,xt,xc⟩) hA (by simp only;omega)
     clear hA va;go_wp2_with (first|(at_lookup;refine wpList_lookup_own_ok_int _ rfl _ _ 228 rfl 62 3 .i64 tH Tryz.underlying228 Tryz.underlying3 (kZ1 _) w.heap.size k D rfl ((aa.alloc _).alloc _) _ (klE ⟨xr,xs,xl,xt,0⟩) rfl (jY1 HK.out) ?_;intro c ac y9;rw[hh];have o8:c=c0:=(by have h1:=HA.out.2 (.lit (.int .i64 0));rw[ac]at h1;simpa using h1);have az:¬xc<c:=(by omega);clear ac o8)|(at_mapUpdate;refine wpList_mapUpdate_own _ rfl _ _ _ 228 rfl 62 3 tH Tryz.underlying228 _ w.heap.size k D rfl ((aa.alloc _).alloc _) (by unfold maxLen;omega) _ _ (klE ⟨xr,xs,xl,xt,0⟩) rfl rfl (jY1 HK.out) _ [] (plainElem_int Tryz.underlying3 aci) ?_;intro w1 ar bh))
     go_roundw
     case rel=>exact⟨k+1,D,ae,by go_num,((aa.alloc _).alloc _).mono (Nat.le_succ _),by rw[HT.out];exact HS.out,(hg.al _).al _⟩
     case measure=>simp[intOf];omega
  ·obtain rfl:k=l.length:=by omega
   rw[List.take_length]at hM;obtain⟨u0,rfl⟩:=exq wr;have acj:=aa.size_le;go_wp2_with (first|(at_range;refine wpList_range_own _ rfl _ 228 rfl 62 3 tH Tryz.underlying228 _ w.heap.size l.length D rfl aa ?_;intro w0 pz dg kp))
   go_frame
   go_loopw [9] (λv wx=>∃(left:Lit->Bool) (ja:Nat) (ys:List En),wx.ranges Tryz.prog 62 (plainElem Tryz.prog 3) w.heap.size u0.heap.size l.length D left ja/\ys.length+ja<=l.length/\Hid (oQ0 D left ys)/\aV wx w.heap.size 62 5 bF v ys/\aB w wx) (λ_ wx=>wx.rangeLeft w.heap.size u0.heap.size)
   case atStart=>exact⟨_,_,[],pz,by simpa using acj,mB0 D,aV.nil _ _ _ _ _,hg.grown dg (λq hq=>by cases hq)⟩
   case round =>
    obtain⟨left,ja,ys,ik,ck,hC,de,fw⟩:=hrel;go_wp2_with (first|(at_next;refine wpList_next_ranges _ rfl _ rfl 62 tH (plainElem Tryz.prog 3) (λx:En => .agg #[.string x.r,.string x.s,.int .i64 x.l,.int .i64 x.t,.int .i64 x.c]) (Value.int .i64) (λkey kl hk=>by obtain⟨x,_,hx,_⟩:=pG0 hk;exact⟨x,hx⟩) (λv y hv=>by obtain⟨c,hc,_⟩:=plainElem_int_inv Tryz.underlying3 hv;exact⟨c,hc⟩) w.heap.size u0.heap.size l.length D left ja rfl ik ?_ ?_))
    ·intro p8 q8
     have d8:=λy=>hC.out.least hM.out HOK.out q8 y;have HMEM:=Aa d8;clear d8 p8 q8;go_wp2_with (first|(go_at_call 168;refine(tM0 _ w.heap.size _ ys de (by omega)).mono ?_;rintro e w9 ⟨rfl,l',hp,sd,d9,q9⟩))
     go_ret;have hS:yJ l l':=⟨fJ0 (hp.nodup_iff.2 hC.out.1) sd,λy=>(hp.mem_iff).trans (HMEM.out y)⟩;rw[hS.unique (dQ l)]at d9;exact⟨_,rfl,d9,fw.grown q9 (λq hq=>aY de q hq)⟩
    ·intro x c kl yd yp w2 fh eu jr hv ac fo az af ev hen
     obtain⟨x',lj,ex,rfl⟩:=pG0 eu
     obtain rfl:x=x':=by
      obtain⟨a,b,c,d,e⟩:=x;obtain⟨a',b',c',d',e'⟩:=x';simpa [En.agg] using ex
     obtain⟨c',ec,ez,y9⟩:=plainElem_int_inv Tryz.underlying3 hv;obtain rfl:c=c':=by simpa using ec
     obtain rfl:yd=.lit (.int .i64 c):=(Prod.mk.inj ez).1;have HC:=Aa (hC.out.step hM.out lj y9 jr ac);have ur:=zX de ik.owns;have sj:=wV de ik;have d9:=sS de af (Or.inr (Ne.symm sj));have ew:=fw.grown af (λq hq=>by cases hq;exact hg.size);obtain⟨xr,xs,xl,xt,xc⟩:=x;dsimp only at hen HC
     clear eu ex ac hv ec ez jr ev lj;go_wp2_with (first|(at_builtin;refine eM0 aW0 rfl _ _ rfl w.heap.size _ ys ⟨xr,xs,xl,xt,c⟩ rfl d9 (aB.alloc _ _) _ 1 (by simp) _ rfl rfl (by omega) ew.size ?_;intro v5 w5 an ack acl))
     have vc:=(eX fo ((aB.alloc _ _).al _)).kept ack ur sj;have dh:=acl w ew (Ab _);go_roundw
     case rel=>exact⟨_,fh,ys++[⟨xr,xs,xl,xt,c⟩],vc,by simp;omega,HC,an,dh⟩
     case measure=>rw[vc.left_eq,ik.left_eq];exact az
end Go.Proofs.YtaogeadljgjpcaaGreatDoor
