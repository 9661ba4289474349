/- The texts Ecmp2, one behind the other. -/
import Derived.Test.YtjhajgffmnkocaaGreatDoorPq2
import Derived.Test.YtjhajgffmnkocaaGreatDoorPq10
import Derived.Test.YtjhajgffmnkocaaGreatDoorPq11
set_option maxHeartbeats 1000000
namespace Go.Proofs.YtjhajgffmnkocaaGreatDoor
set_option maxRecDepth 100000
open Go Go.RowKit
attribute [local go_sem] aO
theorem gO0 (xr xs yr ys:ByteArray) (xl xt xc yl yt yc:Int) (w:World) :
  Calls Tryz.prog 163 #[.agg #[.string xr,.string xs,.int .i64 xl,.int .i64 xt,.int .i64 xc],.agg #[.string yr,.string ys,.int .i64 yl,.int .i64 yt,.int .i64 yc]] w λe w' =>
   e=.returned (.int .i64 (orI [lA xr yr,iD xc yc,lA xs ys,iD xl yl,iD xt yt]))/\aY w w':=by
 go_enter Tryz.func163,Tryz.ntmps163
 go_wp2
 generalize hW:(w.alloc (.cells #[.string xr,.string xs,.int .i64 xl,.int .i64 xt,.int .i64 xc] 62)).alloc (.cells #[.string yr,.string ys,.int .i64 yl,.int .i64 yt,.int .i64 yc] 62)=W;have hB:aY w W:=by rw[<-hW];exact(aY.alloc _ _).tr (aY.alloc _ _)
 have hx:∀j v,#[Value.string xr,.string xs,.int .i64 xl,.int .i64 xt,.int .i64 xc][j]?=some v->W.drew.cell? ⟨w.heap.size,j,none⟩=some v:=λj v h=>by
  rw[<-hW];exact(aB.alloc _ _).cell (aT w _ _ _ j v h)
 have hy:∀j v,#[Value.string yr,.string ys,.int .i64 yl,.int .i64 yt,.int .i64 yc][j]?=some v->W.drew.cell? ⟨w.heap.size+1,j,none⟩=some v:=λj v h=>by
  rw[<-hW]
  have:=aT (w.alloc (.cells #[.string xr,.string xs,.int .i64 xl,.int .i64 xt,.int .i64 xc] 62)) _ 62 (0,0) j v h
  simpa using this
 clear hW;have x0:∀x:Ext aY (W.drew),x.u.cell? ⟨w.heap.size,0,none⟩=some (.string xr):=cJ (hx 0 _ rfl);have x1:∀x:Ext aY (W.drew),x.u.cell? ⟨w.heap.size,1,none⟩=some (.string xs):=cJ (hx 1 _ rfl);have x2:∀x:Ext aY (W.drew),x.u.cell? ⟨w.heap.size,2,none⟩=some (.int .i64 xl):=cJ (hx 2 _ rfl);have x3:∀x:Ext aY (W.drew),x.u.cell? ⟨w.heap.size,3,none⟩=some (.int .i64 xt):=cJ (hx 3 _ rfl);have x4:∀x:Ext aY (W.drew),x.u.cell? ⟨w.heap.size,4,none⟩=some (.int .i64 xc):=cJ (hx 4 _ rfl);have y0:∀x:Ext aY (W.drew),x.u.cell? ⟨w.heap.size+1,0,none⟩=some (.string yr):=cJ (hy 0 _ rfl);have y1:∀x:Ext aY (W.drew),x.u.cell? ⟨w.heap.size+1,1,none⟩=some (.string ys):=cJ (hy 1 _ rfl);have y2:∀x:Ext aY (W.drew),x.u.cell? ⟨w.heap.size+1,2,none⟩=some (.int .i64 yl):=cJ (hy 2 _ rfl);have y3:∀x:Ext aY (W.drew),x.u.cell? ⟨w.heap.size+1,3,none⟩=some (.int .i64 yt):=cJ (hy 3 _ rfl);have y4:∀x:Ext aY (W.drew),x.u.cell? ⟨w.heap.size+1,4,none⟩=some (.int .i64 yc):=cJ (hy 4 _ rfl);clear hx hy;refine jW aY (bE 28 [25,26,27]) aY.refl aY.trans (by kernel_rfl) (by kernel_rfl) (λd _ _ _ _ h=>by cases d<;>exact h) ?_
 repeat (refine mJ rfl (λK hK=>?_);go_simp;first|(refine hK _ ?_;clear hK K)|(apply Exists.intro;refine⟨λx=>?_,hK _ ?_⟩;((first|(go_at_call 45;exact fS (wO _ _ _))|(go_at_call 44;exact fS (oC _ _ _))));clear hK K))
 clear x0 x1 x2 x3 x4 y0 y1 y2 y3 y4;refine fD rfl rfl (λK hK w2 h2=>?_);go_simp;refine⟨aY.alloc _ _,hK _ _ ?_⟩;clear hK K
 have hz:∀k,k<[lA xr yr,iD xc yc,lA xs ys,iD xl yl,iD xt yt].length->(w2.alloc (.cells #[.int .i64 (lA xr yr),.int .i64 (iD xc yc),.int .i64 (lA xs ys),.int .i64 (iD xl yl),.int .i64 (iD xt yt)] 3)).cell? ⟨w2.heap.size,0+k,none⟩=some (.int .i64 ([lA xr yr,iD xc yc,lA xs ys,iD xl yl,iD xt yt][k]?.getD 0)):=λk hk=>by
  refine aT w2 _ _ _ _ _ ?_
  match k,hk with
  | 0,_=>rfl
  | 1,_=>rfl
  | 2,_=>rfl
  | 3,_=>rfl
  | 4,_=>rfl
 have h3:aY w2 (w2.alloc (.cells #[.int .i64 (lA xr yr),.int .i64 (iD xc yc),.int .i64 (lA xs ys),.int .i64 (iD xl yl),.int .i64 (iD xt yt)] 3)):=aY.alloc _ _;generalize w2.alloc _=w3 at hz h3 ⊢;refine fD rfl rfl (λK hK w4 h4=>?_);go_simp;refine(zU0 [lA xr yr,iD xc yc,lA xs ys,iD xl yl,iD xt yt] w2.heap.size 0 5 w4 (by simp) (λk hk=>h4.1.cell (hz k hk))).mono ?_;rintro e w' ⟨rfl,rfl⟩;refine⟨aY.refl _,hK _ _ ?_⟩;clear hK K;refine fD rfl rfl (λK hK w5 h5=>?_);go_simp;refine⟨aY.refl _,hK _ _ ?_⟩;clear hK K;refine uI (λw6 h6=>?_);have ux:aY w w6:=(((((hB.tr (aY.drew _)).tr h2).tr h3).tr h4).tr h5).tr h6;go_wp2
 go_ret;exact⟨rfl,ux⟩
instance:Inhabited En:=⟨enZero⟩
theorem gY1 (blk off size:Nat) (w:World):CmpLays Tryz.prog 163 #[] bF 5 zR blk off size w:=λm os dk _ x y =>
 (gO0 x.r x.s y.r y.s x.l x.t x.c y.l y.t y.c (sortWorldK bF 5 w blk off m dk os)).mono λ_ _ ⟨he,hg⟩=>⟨he,hg.grow⟩
theorem pG1:Sort.SWO (ltOf zR) where
 irrefl:=fP
 trans x y z:=kS
 ntrans x y z h1 h2:=by
  show lV x z=false
  have h1':lV x y=false:=h1;have h2':lV y z=false:=h2;by_cases e1:x=y
  ·rw[e1];exact h2'
  ·by_cases e2:y=z
   ·rw[<-e2];exact h1'
   ·have k1:lV y x=true:=by rw[sJ e1,h1'];rfl
    have k2:lV z y=true:=by rw[sJ e2,h2'];rfl
    have k3:=kS k2 k1
    cases hxz:lV x z with
    | false=>rfl
    | true=>have:=kS k3 hxz;rw[fP]at this;cases this
theorem eL0 {l:List En} (hn:l.Nodup) (h:l.Pairwise λx y=>ltOf zR y x=false):gA l:=by
 unfold gA;refine(h.and hn).imp λ{x y} ⟨h1,h2⟩=>?_;have h1':lV y x=false:=h1;rw[sJ (Ne.symm h2),h1'];rfl
end Go.Proofs.YtjhajgffmnkocaaGreatDoor
