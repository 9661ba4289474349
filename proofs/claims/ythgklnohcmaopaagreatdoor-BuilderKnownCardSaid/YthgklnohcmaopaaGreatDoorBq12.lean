/- The texts PairC SortW, one behind the other. -/
import Derived.Test.YthgklnohcmaopaaGreatDoorBq2
import Derived.Test.YthgklnohcmaopaaGreatDoorBq7
import Derived.Test.YthgklnohcmaopaaGreatDoorBq8
import Derived.Test.YthgklnohcmaopaaGreatDoorShelf2
import Derived.Test.YthgklnohcmaopaaGreatDoorBq11
open Go.Lib renaming hid → Aa
open Nat renaming le_refl → Ab
set_option maxHeartbeats 4000000
namespace Go.Proofs.YthgklnohcmaopaaGreatDoor
set_option maxRecDepth 100000
section
open Go Go.RowKit Go.Shelf
attribute [local go_sem] aM
def uS (x:Int×Int):List Value:=[.int .i64 x.1,.int .i64 x.2]
theorem dR0 (a b c d:Int) (w:World) :
  Calls Tryz.prog 158 #[.agg #[.int .i64 a,.int .i64 b],.agg #[.int .i64 c,.int .i64 d]] w λe w' =>
   e=.returned (.int .i64 (orI [iW a c,iW b d]))/\aY w w':=by
 go_enter Tryz.func158,Tryz.ntmps158
 go_wp2
 generalize hW:(w.alloc (.cells #[.int .i64 a,.int .i64 b] 158)).alloc (.cells #[.int .i64 c,.int .i64 d] 158)=W;have hB:aY w W:=by rw[<-hW];exact(aY.alloc _ _).tr (aY.alloc _ _)
 have hx:∀j v,#[Value.int .i64 a,.int .i64 b][j]?=some v->W.drew.cell? ⟨w.heap.size,j,none⟩=some v:=λj v h=>by
  rw[<-hW];exact(aB.alloc _ _).cell (aU w _ _ _ j v h)
 have hy:∀j v,#[Value.int .i64 c,.int .i64 d][j]?=some v->W.drew.cell? ⟨w.heap.size+1,j,none⟩=some v:=λj v h=>by
  rw[<-hW]
  have:=aU (w.alloc (.cells #[.int .i64 a,.int .i64 b] 158)) _ 158 (0,0) j v h
  simpa using this
 clear hW;have x0:∀x:Ext aY (W.drew),x.u.cell? ⟨w.heap.size,0,none⟩=some (.int .i64 a):=dB (hx 0 _ rfl);have x1:∀x:Ext aY (W.drew),x.u.cell? ⟨w.heap.size,1,none⟩=some (.int .i64 b):=dB (hx 1 _ rfl);have y0:∀x:Ext aY (W.drew),x.u.cell? ⟨w.heap.size+1,0,none⟩=some (.int .i64 c):=dB (hy 0 _ rfl);have y1:∀x:Ext aY (W.drew),x.u.cell? ⟨w.heap.size+1,1,none⟩=some (.int .i64 d):=dB (hy 1 _ rfl);clear hx hy;refine kP aY (bB 13 [10,11,12]) aY.refl aY.trans (by kernel_rfl) (by kernel_rfl) (λd _ _ _ _ h=>by cases d<;>exact h) ?_
 repeat (refine mB rfl (λK hK=>?_);go_simp;first|(refine hK _ ?_;clear hK K)|(apply Exists.intro;refine⟨λx=>?_,hK _ ?_⟩;((first|(go_at_call 110;exact iF (rG _ _ _))));clear hK K))
 clear x0 x1 y0 y1;refine fX rfl rfl (λK hK w2 h2=>?_);go_simp;refine⟨aY.alloc _ _,hK _ _ ?_⟩;clear hK K
 have hz:∀k,k<[iW a c,iW b d].length->(w2.alloc (.cells #[.int .i64 (iW a c),.int .i64 (iW b d)] 3)).cell? ⟨w2.heap.size,0+k,none⟩=some (.int .i64 ([iW a c,iW b d][k]?.getD 0)):=λk hk=>by
  refine aU w2 _ _ _ _ _ ?_
  match k,hk with
  | 0,_=>rfl
  | 1,_=>rfl
 have h3:aY w2 (w2.alloc (.cells #[.int .i64 (iW a c),.int .i64 (iW b d)] 3)):=aY.alloc _ _;generalize w2.alloc _=w3 at hz h3 ⊢;refine fX rfl rfl (λK hK w4 h4=>?_);go_simp;refine(uE0 [iW a c,iW b d] w2.heap.size 0 2 w4 (by simp) (λk hk=>h4.1.cell (hz k hk))).mono ?_;rintro e w' ⟨rfl,rfl⟩;refine⟨aY.refl _,hK _ _ ?_⟩;clear hK K;refine fX rfl rfl (λK hK w5 h5=>?_);go_simp;refine⟨aY.refl _,hK _ _ ?_⟩;clear hK K;refine sP (λw6 h6=>?_);have rz:aY w w6:=(((((hB.tr (aY.drew _)).tr h2).tr h3).tr h4).tr h5).tr h6;go_wp2
 go_ret;exact⟨rfl,rz⟩
theorem sL0 (aj off size:Nat) (w:World):CmpLays Tryz.prog 158 #[] uS 2 qC0 aj off size w:=λm os dk _ x y =>
 (dR0 x.1 x.2 y.1 y.2 (sortWorldK uS 2 w aj off m dk os)).mono λ_ _ ⟨he,hg⟩=>⟨he,hg.grow⟩
theorem rA (x y:Int×Int):ltOf qC0 x y=true↔ltP x y:=by
 rw[<-vZ0];simp[ltOf]
theorem zY0:Sort.SWO (ltOf qC0) where
 irrefl x:=by
  cases h:ltOf qC0 x x with
  | false=>rfl
  | true=>exact absurd ((rA x x).1 h) (vB x)
 trans x y z h1 h2:=(rA x z).2 (bO0 ((rA x y).1 h1) ((rA y z).1 h2))
 ntrans x y z h1 h2:=by
  have k1:¬ltP x y:=λh=>by rw[(rA x y).2 h]at h1;cases h1
  have k2:¬ltP y z:=λh=>by rw[(rA y z).2 h]at h2;cases h2
  cases h:ltOf qC0 x z with
  | false=>rfl
  | true =>
   have k3:=(rA x z).1 h;unfold ltP at k1 k2 k3;exfalso;omega
theorem uN0 (w:World):(isAgg 158).run Tryz.prog w=.ok true w:=by kernel_rfl
theorem tB0 (w:World):(Go.sizeOf 158).run Tryz.prog w=.ok 2 w:=by kernel_rfl
theorem mT0:∀(x:Int×Int), ∀v∈uS x,v.oneCell'=true:=λx v hv=>by
 simp[uS]at hv;rcases hv with rfl|rfl<;>rfl
theorem jN0 (w:World) (base:Nat) (v:Value) (l:List (Int×Int)) (aa:aT w base 158 2 uS v l) (hl:l.length<4611686018427387904) :
  Calls Tryz.prog 217 #[v,.func (.func 158) #[] #[]] w λe w'=>e=.returned (.tuple #[])/\∃l',l'.Perm l/\l'.Pairwise (λx y=>ltOf qC0 y x=false)/\aT w' base 158 2 uS v l'/\w.grownBy w' v.ownBlock:=by
 have h:=nR Tryz.sortP uN0 tB0 (λ_=>rfl) (by decide) mT0 qC0 zY0 158 #[] (enters_of Tryz.func158 (by kernel_rfl) rfl) sL0 w base 158 v l aa hl;exact h
theorem wQ0 (w:World):(zeroValue 3).run Tryz.prog w=.ok (.int .i64 0) w:=by kernel_rfl
theorem xJ0 (w:World):(isAgg 30).run Tryz.prog w=.ok true w:=by kernel_rfl
theorem sN0 (w:World):(Go.sizeOf 30).run Tryz.prog w=.ok 5 w:=by kernel_rfl
theorem jT0 (w:World) (base:Nat) (v:Value) (l:List En) (aa:aT w base 30 5 aZ v l) (hl:l.length<4611686018427387904) :
  Calls Tryz.prog 115 #[v,.func (.func 116) #[] #[]] w λe w'=>e=.returned (.tuple #[])/\∃l',l'.Perm l/\l'.Pairwise (λx y=>ltOf uW y x=false)/\aT w' base 30 5 aZ v l'/\w.grownBy w' v.ownBlock:=by
 have h:=nR Tryz.sortE xJ0 sN0 (λ_=>rfl) (by decide) uJ uW zV0 116 #[] (enters_of Tryz.func116 (by kernel_rfl) rfl) qV0 w base 30 v l aa hl;exact h
theorem pR0 (l:List En) (la:Option Addr) (cap:Nat) (w:World) (hl:l.length<=1048576) (au:∀x∈l,uL x) (ac:aF w la 5 (l.map aZ)) :
  Calls Tryz.prog 49 #[.slice la l.length cap] w (lA0 l w):=by
 have HAT:=Aa ac;have HOK:=Aa au;clear ac au;have yw:=@run_makeMap Tryz.prog;go_enter Tryz.func49,Tryz.ntmps49
 go_wp2_with fail
 go_loopw [15] (λi wr=>∃(k:Nat) (D:DataW Unit),k<=l.length/\i=.int .i64 k/\wr.ownsMap Tryz.prog 30 (plainElem Tryz.prog 3) w.heap.size k D/\Hid (hU0 (l.take k) D)/\aB w wr) (λi _=>l.length-(intOf i).toNat)
 case atStart=>exact⟨0,_,Nat.zero_le _,rfl,World.ownsMap_made _ _ _ _,sI0,aB.alloc _ _⟩
 case round =>
  obtain⟨k,D,hk,rfl,aa,hM,hg⟩:=hrel;by_cases ae:k<l.length
  ·obtain⟨⟨xr,xs,xl,xt,xc⟩,hx⟩:∃x,l[k]?=some x:=⟨_,List.getElem?_eq_getElem ae⟩
   obtain⟨ba,oa,rfl,cm⟩:=(HAT.out.grows hg).get (aH ae);have c0:wr.cell? ⟨ba,oa+k*5,none⟩=some (.string xr):=cm k _ hx 0 _ rfl;have c1:wr.cell? ⟨ba,oa+k*5+1,none⟩=some (.string xs):=cm k _ hx 1 _ rfl;have c2:wr.cell? ⟨ba,oa+k*5+2,none⟩=some (.int .i64 xl):=cm k _ hx 2 _ rfl;have c3:wr.cell? ⟨ba,oa+k*5+3,none⟩=some (.int .i64 xt):=cm k _ hx 3 _ rfl;have c4:wr.cell? ⟨ba,oa+k*5+4,none⟩=some (.int .i64 xc):=cm k _ hx 4 _ rfl;have lq:uL ⟨xr,xs,xl,xt,xc⟩:=HOK.out _ (List.mem_of_getElem? hx);have oy:uL ⟨xr,xs,xl,xt,0⟩:=lq.key;have HK:=Aa oy;have y6:(Lit.int .i64 xc).wf=true:=lq.c;obtain⟨o,_,hA⟩:=(hM.out _ oy).2 rfl;have HT:=Aa (lZ0 hx);have HX:=Aa lq;clear cm hx lq
   cases o with
   | none =>
    have hh:Maps.has D (klE ⟨xr,xs,xl,xt,0⟩)=false:=hA;have HS:Hid (hU0 (l.take k++[⟨xr,xs,xl,xt,xc⟩]) (D.put (klE ⟨xr,xs,xl,xt,0⟩) (.lit (.int .i64 xc)))):=hM.out.store aa.isMap HX.out (o:=none) hA (λc hc=>by cases hc);clear hA oy;go_wp2_with (first|(at_lookup;refine wpList_lookup_own_ok_int _ rfl _ _ 198 rfl 30 3 .i64 oE Tryz.underlying198 Tryz.underlying3 (wQ0 _) w.heap.size k D rfl ((aa.alloc _).alloc _) _ (klE ⟨xr,xs,xl,xt,0⟩) rfl (uC0 HK.out) ?_;intro c ac uu;rw[hh];clear ac)|(at_mapUpdate;refine wpList_mapUpdate_own _ rfl _ _ _ 198 rfl 30 3 oE Tryz.underlying198 _ w.heap.size k D rfl ((aa.alloc _).alloc _) (by unfold maxLen;omega) _ _ (klE ⟨xr,xs,xl,xt,0⟩) rfl rfl (uC0 HK.out) _ [] (plainElem_int Tryz.underlying3 y6) ?_;intro w1 ar ji))
    go_roundw
    case rel=>exact⟨k+1,_,ae,by go_num,ar,by rw[HT.out];exact HS.out,(((hg.al _).al _).grown ji (λq hq=>by cases hq;exact Ab _))⟩
    case measure=>simp[intOf];omega
   | some c0 =>
    have hh:Maps.has D (klE ⟨xr,xs,xl,xt,0⟩)=true:=hA.1;have HA:=Aa hA;by_cases hc:xc<c0
    ·have HS:Hid (hU0 (l.take k++[⟨xr,xs,xl,xt,xc⟩]) (D.put (klE ⟨xr,xs,xl,xt,0⟩) (.lit (.int .i64 xc)))):=hM.out.store aa.isMap HX.out (o:=some c0) hA (λc up=>by cases up;exact hc)
     clear hA oy;go_wp2_with (first|(at_lookup;refine wpList_lookup_own_ok_int _ rfl _ _ 198 rfl 30 3 .i64 oE Tryz.underlying198 Tryz.underlying3 (wQ0 _) w.heap.size k D rfl ((aa.alloc _).alloc _) _ (klE ⟨xr,xs,xl,xt,0⟩) rfl (uC0 HK.out) ?_;intro c ac uu;rw[hh];have hcc:c=c0:=(by have h1:=HA.out.2 (.lit (.int .i64 0));rw[ac]at h1;simpa using h1);have ay:xc<c:=(by omega);clear ac hcc)|(at_mapUpdate;refine wpList_mapUpdate_own _ rfl _ _ _ 198 rfl 30 3 oE Tryz.underlying198 _ w.heap.size k D rfl ((aa.alloc _).alloc _) (by unfold maxLen;omega) _ _ (klE ⟨xr,xs,xl,xt,0⟩) rfl rfl (uC0 HK.out) _ [] (plainElem_int Tryz.underlying3 y6) ?_;intro w1 ar ji))
     go_roundw
     case rel=>exact⟨k+1,_,ae,by go_num,ar,by rw[HT.out];exact HS.out,(((hg.al _).al _).grown ji (λq hq=>by cases hq;exact Ab _))⟩
     case measure=>simp[intOf];omega
    ·have HS:Hid (hU0 (l.take k++[⟨xr,xs,xl,xt,xc⟩]) D):=hM.out.skip (z:=⟨xr,xs,xl,xt,xc⟩) hA (by simp only;omega)
     clear hA oy;go_wp2_with (first|(at_lookup;refine wpList_lookup_own_ok_int _ rfl _ _ 198 rfl 30 3 .i64 oE Tryz.underlying198 Tryz.underlying3 (wQ0 _) w.heap.size k D rfl ((aa.alloc _).alloc _) _ (klE ⟨xr,xs,xl,xt,0⟩) rfl (uC0 HK.out) ?_;intro c ac uu;rw[hh];have hcc:c=c0:=(by have h1:=HA.out.2 (.lit (.int .i64 0));rw[ac]at h1;simpa using h1);have ay:¬xc<c:=(by omega);clear ac hcc)|(at_mapUpdate;refine wpList_mapUpdate_own _ rfl _ _ _ 198 rfl 30 3 oE Tryz.underlying198 _ w.heap.size k D rfl ((aa.alloc _).alloc _) (by unfold maxLen;omega) _ _ (klE ⟨xr,xs,xl,xt,0⟩) rfl rfl (uC0 HK.out) _ [] (plainElem_int Tryz.underlying3 y6) ?_;intro w1 ar ji))
     go_roundw
     case rel=>exact⟨k+1,D,ae,by go_num,((aa.alloc _).alloc _).mono (Nat.le_succ _),by rw[HT.out];exact HS.out,(hg.al _).al _⟩
     case measure=>simp[intOf];omega
  ·obtain rfl:k=l.length:=by omega
   rw[List.take_length]at hM;obtain⟨u0,rfl⟩:=exq wr;have ad4:=aa.size_le;go_wp2_with (first|(at_range;refine wpList_range_own _ rfl _ 198 rfl 30 3 oE Tryz.underlying198 _ w.heap.size l.length D rfl aa ?_;intro w0 yx iv i6))
   go_frame
   go_loopw [9] (λv wx=>∃(left:Lit->Bool) (my:Nat) (ys:List En),wx.ranges Tryz.prog 30 (plainElem Tryz.prog 3) w.heap.size u0.heap.size l.length D left my/\ys.length+my<=l.length/\Hid (eJ0 D left ys)/\aT wx w.heap.size 30 5 aZ v ys/\aB w wx) (λ_ wx=>wx.rangeLeft w.heap.size u0.heap.size)
   case atStart=>exact⟨_,_,[],yx,by simpa using ad4,dC0 D,aT.nil _ _ _ _ _,hg.grown iv (λq hq=>by cases hq)⟩
   case round =>
    obtain⟨left,my,ys,uw,ct,hC,di,fq⟩:=hrel;go_wp2_with (first|(at_next;refine wpList_next_ranges _ rfl _ rfl 30 oE (plainElem Tryz.prog 3) (λx:En => .agg #[.string x.r,.string x.s,.int .i64 x.l,.int .i64 x.t,.int .i64 x.c]) (Value.int .i64) (λkey kl hk=>by obtain⟨x,_,hx,_⟩:=gU0 hk;exact⟨x,hx⟩) (λv y hv=>by obtain⟨c,hc,_⟩:=plainElem_int_inv Tryz.underlying3 hv;exact⟨c,hc⟩) w.heap.size u0.heap.size l.length D left my rfl uw ?_ ?_))
    ·intro ox ux
     have dp:=λy=>hC.out.least hM.out HOK.out ux y;have HMEM:=Aa dp;clear dp ox ux;go_wp2_with (first|(go_at_call 115;refine(jT0 _ w.heap.size _ ys di (by omega)).mono ?_;rintro e w9 ⟨rfl,l',hp,mw,gl,aay⟩))
     go_ret;have hS:vE l l':=⟨yA (hp.nodup_iff.2 hC.out.1) mw,λy=>(hp.mem_iff).trans (HMEM.out y)⟩;rw[hS.unique (fY l)]at gl;exact⟨_,rfl,gl,fq.grown aay (λq hq=>aV di q hq)⟩
    ·intro x c kl yd yp w2 yy fj lm hv ac yz ay ah jh hen
     obtain⟨x',lq,ex,rfl⟩:=gU0 fj
     obtain rfl:x=x':=by
      obtain⟨a,b,c,d,e⟩:=x;obtain⟨a',b',c',d',e'⟩:=x';simpa [En.agg] using ex
     obtain⟨c',ec,ez,uu⟩:=plainElem_int_inv Tryz.underlying3 hv;obtain rfl:c=c':=by simpa using ec
     obtain rfl:yd=.lit (.int .i64 c):=(Prod.mk.inj ez).1;have HC:=Aa (hC.out.step hM.out lq uu lm ac);have oe:=dI0 di uw.owns;have u9:=aF0 di uw;have gl:=tE di ah (Or.inr (Ne.symm u9));have cr:=fq.grown ah (λq hq=>by cases hq;exact hg.size);obtain⟨xr,xs,xl,xt,xc⟩:=x;dsimp only at hen HC
     clear fj ex ac hv ec ez lm jh lq;go_wp2_with (first|(at_builtin;refine qR0 xR0 rfl _ _ rfl w.heap.size _ ys ⟨xr,xs,xl,xt,c⟩ rfl gl (aB.alloc _ _) _ 1 (by simp) _ rfl rfl (by omega) cr.size ?_;intro v5 w5 ai ad5 ad6))
     have abg:=(cN0 yz ((aB.alloc _ _).al _)).kept ad5 oe u9;have cn:=ad6 w cr (Ab _);go_roundw
     case rel=>exact⟨_,yy,ys++[⟨xr,xs,xl,xt,c⟩],abg,by simp;omega,HC,ai,cn⟩
     case measure=>rw[abg.left_eq,uw.left_eq];exact ay
end
end Go.Proofs.YthgklnohcmaopaaGreatDoor
