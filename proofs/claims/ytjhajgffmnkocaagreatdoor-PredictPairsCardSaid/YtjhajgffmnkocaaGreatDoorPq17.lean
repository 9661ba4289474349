/- The texts SortW, one behind the other. -/
import Derived.Test.YtjhajgffmnkocaaGreatDoorPq16
import Derived.Test.YtjhajgffmnkocaaGreatDoorPq2
import Derived.Test.YtjhajgffmnkocaaGreatDoorPq11
import Derived.Test.YtjhajgffmnkocaaGreatDoorShelf2
open Go.Lib renaming hid → Aa
open Nat renaming le_refl → Ab
set_option maxHeartbeats 4000000
namespace Go.Proofs.YtjhajgffmnkocaaGreatDoor
set_option maxRecDepth 100000
open Go Go.RowKit Go.Shelf
attribute [local go_sem] aO
theorem jU1 (w:World):(zeroValue 3).run Tryz.prog w=.ok (.int .i64 0) w:=by kernel_rfl
theorem iY1 (w:World):(isAgg 62).run Tryz.prog w=.ok true w:=by kernel_rfl
theorem gX1 (w:World):(Go.sizeOf 62).run Tryz.prog w=.ok 5 w:=by kernel_rfl
theorem tP0 (w:World) (base:Nat) (v:Value) (l:List En) (aa:aU w base 62 5 bF v l) (hl:l.length<4611686018427387904) :
  Calls Tryz.prog 162 #[v,.func (.func 163) #[] #[]] w λe w'=>e=.returned (.tuple #[])/\∃l',l'.Perm l/\l'.Pairwise (λx y=>ltOf zR y x=false)/\aU w' base 62 5 bF v l'/\w.grownBy w' v.ownBlock:=by
 have h:=nG Tryz.sortE iY1 gX1 (λ_=>rfl) (by decide) aU0 zR pG1 163 #[] (enters_of Tryz.func163 (by kernel_rfl) rfl) gY1 w base 62 v l aa hl;exact h
theorem vX0 (l:List En) (la:Option Addr) (cap:Nat) (w:World) (hl:l.length<=1048576) (ag:∀x∈l,tS x) (ac:aG w la 5 (l.map bF)) :
  Calls Tryz.prog 93 #[.slice la l.length cap] w (zY0 l w):=by
 have HAT:=Aa ac;have HOK:=Aa ag;clear ac ag;have qu:=@run_makeMap Tryz.prog;go_enter Tryz.func93,Tryz.ntmps93
 go_wp2_with fail
 go_loopw [15] (λi wr=>∃(k:Nat) (D:DataW Unit),k<=l.length/\i=.int .i64 k/\wr.ownsMap Tryz.prog 62 (plainElem Tryz.prog 3) w.heap.size k D/\Hid (tR0 (l.take k) D)/\aB w wr) (λi _=>l.length-(intOf i).toNat)
 case atStart=>exact⟨0,_,Nat.zero_le _,rfl,World.ownsMap_made _ _ _ _,hE1,aB.alloc _ _⟩
 case round =>
  obtain⟨k,D,hk,rfl,aa,hM,hg⟩:=hrel;by_cases af:k<l.length
  ·obtain⟨⟨xr,xs,xl,xt,xc⟩,hx⟩:∃x,l[k]?=some x:=⟨_,List.getElem?_eq_getElem af⟩
   obtain⟨ba,oa,rfl,bz⟩:=(HAT.out.grows hg).get (aJ af);have c0:wr.cell? ⟨ba,oa+k*5,none⟩=some (.string xr):=bz k _ hx 0 _ rfl;have c1:wr.cell? ⟨ba,oa+k*5+1,none⟩=some (.string xs):=bz k _ hx 1 _ rfl;have c2:wr.cell? ⟨ba,oa+k*5+2,none⟩=some (.int .i64 xl):=bz k _ hx 2 _ rfl;have c3:wr.cell? ⟨ba,oa+k*5+3,none⟩=some (.int .i64 xt):=bz k _ hx 3 _ rfl;have c4:wr.cell? ⟨ba,oa+k*5+4,none⟩=some (.int .i64 xc):=bz k _ hx 4 _ rfl;have qf:tS ⟨xr,xs,xl,xt,xc⟩:=HOK.out _ (List.mem_of_getElem? hx);have uy:tS ⟨xr,xs,xl,xt,0⟩:=qf.key;have HK:=Aa uy;have acj:(Lit.int .i64 xc).wf=true:=qf.c;obtain⟨o,_,hA⟩:=(hM.out _ uy).2 rfl;have HT:=Aa (yG0 hx);have HX:=Aa qf;clear bz hx qf
   cases o with
   | none =>
    have hh:Maps.has D (klE ⟨xr,xs,xl,xt,0⟩)=false:=hA;have HS:Hid (tR0 (l.take k++[⟨xr,xs,xl,xt,xc⟩]) (D.put (klE ⟨xr,xs,xl,xt,0⟩) (.lit (.int .i64 xc)))):=hM.out.store aa.isMap HX.out (o:=none) hA (λc hc=>by cases hc);clear hA uy;go_wp2_with (first|(at_lookup;refine wpList_lookup_own_ok_int _ rfl _ _ 216 rfl 62 3 .i64 sR Tryz.underlying216 Tryz.underlying3 (jU1 _) w.heap.size k D rfl ((aa.alloc _).alloc _) _ (klE ⟨xr,xs,xl,xt,0⟩) rfl (iB1 HK.out) ?_;intro c ac yx;rw[hh];clear ac)|(at_mapUpdate;refine wpList_mapUpdate_own _ rfl _ _ _ 216 rfl 62 3 sR Tryz.underlying216 _ w.heap.size k D rfl ((aa.alloc _).alloc _) (by unfold maxLen;omega) _ _ (klE ⟨xr,xs,xl,xt,0⟩) rfl rfl (iB1 HK.out) _ [] (plainElem_int Tryz.underlying3 acj) ?_;intro w1 ay mu))
    go_roundw
    case rel=>exact⟨k+1,_,af,by go_num,ay,by rw[HT.out];exact HS.out,(((hg.al _).al _).grown mu (λq hq=>by cases hq;exact Ab _))⟩
    case measure=>simp[intOf];omega
   | some c0 =>
    have hh:Maps.has D (klE ⟨xr,xs,xl,xt,0⟩)=true:=hA.1;have HA:=Aa hA;by_cases hc:xc<c0
    ·have HS:Hid (tR0 (l.take k++[⟨xr,xs,xl,xt,xc⟩]) (D.put (klE ⟨xr,xs,xl,xt,0⟩) (.lit (.int .i64 xc)))):=hM.out.store aa.isMap HX.out (o:=some c0) hA (λc hc2=>by cases hc2;exact hc)
     clear hA uy;go_wp2_with (first|(at_lookup;refine wpList_lookup_own_ok_int _ rfl _ _ 216 rfl 62 3 .i64 sR Tryz.underlying216 Tryz.underlying3 (jU1 _) w.heap.size k D rfl ((aa.alloc _).alloc _) _ (klE ⟨xr,xs,xl,xt,0⟩) rfl (iB1 HK.out) ?_;intro c ac yx;rw[hh];have jo:c=c0:=(by have h1:=HA.out.2 (.lit (.int .i64 0));rw[ac]at h1;simpa using h1);have az:xc<c:=(by omega);clear ac jo)|(at_mapUpdate;refine wpList_mapUpdate_own _ rfl _ _ _ 216 rfl 62 3 sR Tryz.underlying216 _ w.heap.size k D rfl ((aa.alloc _).alloc _) (by unfold maxLen;omega) _ _ (klE ⟨xr,xs,xl,xt,0⟩) rfl rfl (iB1 HK.out) _ [] (plainElem_int Tryz.underlying3 acj) ?_;intro w1 ay mu))
     go_roundw
     case rel=>exact⟨k+1,_,af,by go_num,ay,by rw[HT.out];exact HS.out,(((hg.al _).al _).grown mu (λq hq=>by cases hq;exact Ab _))⟩
     case measure=>simp[intOf];omega
    ·have HS:Hid (tR0 (l.take k++[⟨xr,xs,xl,xt,xc⟩]) D):=hM.out.skip (z:=⟨xr,xs,xl,xt,xc⟩) hA (by simp only;omega)
     clear hA uy;go_wp2_with (first|(at_lookup;refine wpList_lookup_own_ok_int _ rfl _ _ 216 rfl 62 3 .i64 sR Tryz.underlying216 Tryz.underlying3 (jU1 _) w.heap.size k D rfl ((aa.alloc _).alloc _) _ (klE ⟨xr,xs,xl,xt,0⟩) rfl (iB1 HK.out) ?_;intro c ac yx;rw[hh];have jo:c=c0:=(by have h1:=HA.out.2 (.lit (.int .i64 0));rw[ac]at h1;simpa using h1);have az:¬xc<c:=(by omega);clear ac jo)|(at_mapUpdate;refine wpList_mapUpdate_own _ rfl _ _ _ 216 rfl 62 3 sR Tryz.underlying216 _ w.heap.size k D rfl ((aa.alloc _).alloc _) (by unfold maxLen;omega) _ _ (klE ⟨xr,xs,xl,xt,0⟩) rfl rfl (iB1 HK.out) _ [] (plainElem_int Tryz.underlying3 acj) ?_;intro w1 ay mu))
     go_roundw
     case rel=>exact⟨k+1,D,af,by go_num,((aa.alloc _).alloc _).mono (Nat.le_succ _),by rw[HT.out];exact HS.out,(hg.al _).al _⟩
     case measure=>simp[intOf];omega
  ·obtain rfl:k=l.length:=by omega
   rw[List.take_length]at hM;obtain⟨u0,rfl⟩:=exq wr;have ack:=aa.size_le;go_wp2_with (first|(at_range;refine wpList_range_own _ rfl _ 216 rfl 62 3 sR Tryz.underlying216 _ w.heap.size l.length D rfl aa ?_;intro w0 ol et j8))
   go_frame
   go_loopw [9] (λv wx=>∃(left:Lit->Bool) (io:Nat) (ys:List En),wx.ranges Tryz.prog 62 (plainElem Tryz.prog 3) w.heap.size u0.heap.size l.length D left io/\ys.length+io<=l.length/\Hid (lX0 D left ys)/\aU wx w.heap.size 62 5 bF v ys/\aB w wx) (λ_ wx=>wx.rangeLeft w.heap.size u0.heap.size)
   case atStart=>exact⟨_,_,[],ol,by simpa using ack,lZ0 D,aU.nil _ _ _ _ _,hg.grown et (λq hq=>by cases hq)⟩
   case round =>
    obtain⟨left,io,ys,g9,dg,hC,dd,jb⟩:=hrel;go_wp2_with (first|(at_next;refine wpList_next_ranges _ rfl _ rfl 62 sR (plainElem Tryz.prog 3) (λx:En => .agg #[.string x.r,.string x.s,.int .i64 x.l,.int .i64 x.t,.int .i64 x.c]) (Value.int .i64) (λkey kl hk=>by obtain⟨x,_,hx,_⟩:=oO0 hk;exact⟨x,hx⟩) (λv y hv=>by obtain⟨c,hc,_⟩:=plainElem_int_inv Tryz.underlying3 hv;exact⟨c,hc⟩) w.heap.size u0.heap.size l.length D left io rfl g9 ?_ ?_))
    ·intro lu qv
     have dp:=λy=>hC.out.least hM.out HOK.out qv y;have HMEM:=Aa dp;clear dp lu qv;go_wp2_with (first|(go_at_call 162;refine(tP0 _ w.heap.size _ ys dd (by omega)).mono ?_;rintro e w9 ⟨rfl,l',hp,sj,ed,qw⟩))
     go_ret;have hS:zD l l':=⟨eL0 (hp.nodup_iff.2 hC.out.1) sj,λy=>(hp.mem_iff).trans (HMEM.out y)⟩;rw[hS.unique (dM l)]at ed;exact⟨_,rfl,ed,jb.grown qw (λq hq=>aX dd q hq)⟩
    ·intro x c kl yd yp w2 d9 d8 ma hv ac ff az ae iq hen
     obtain⟨x',qf,ex,rfl⟩:=oO0 d8
     obtain rfl:x=x':=by
      obtain⟨a,b,c,d,e⟩:=x;obtain⟨a',b',c',d',e'⟩:=x';simpa [En.agg] using ex
     obtain⟨c',ec,ez,yx⟩:=plainElem_int_inv Tryz.underlying3 hv;obtain rfl:c=c':=by simpa using ec
     obtain rfl:yd=.lit (.int .i64 c):=(Prod.mk.inj ez).1;have HC:=Aa (hC.out.step hM.out qf yx ma ac);have se:=yT dd g9.owns;have om:=vZ dd g9;have ed:=rT dd ae (Or.inr (Ne.symm om));have fj:=jb.grown ae (λq hq=>by cases hq;exact hg.size);obtain⟨xr,xs,xl,xt,xc⟩:=x;dsimp only at hen HC
     clear d8 ex ac hv ec ez ma iq qf;go_wp2_with (first|(at_builtin;refine pX0 dK0 rfl _ _ rfl w.heap.size _ ys ⟨xr,xs,xl,xt,c⟩ rfl ed (aB.alloc _ _) _ 1 (by simp) _ rfl rfl (by omega) fj.size ?_;intro v5 w5 au agx agy))
     have oo:=(dW ff ((aB.alloc _ _).al _)).kept agx se om;have du:=agy w fj (Ab _);go_roundw
     case rel=>exact⟨_,d9,ys++[⟨xr,xs,xl,xt,c⟩],oo,by simp;omega,HC,au,du⟩
     case measure=>rw[oo.left_eq,g9.left_eq];exact az
end Go.Proofs.YtjhajgffmnkocaaGreatDoor
