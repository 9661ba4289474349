/- The texts Ecmp2, one behind the other. -/
import Derived.Test.YthgklnohcmaopaaGreatDoorLq2
import Derived.Test.YthgklnohcmaopaaGreatDoorLq10
import Derived.Test.YthgklnohcmaopaaGreatDoorLq11
set_option maxHeartbeats 1000000
namespace Go.Proofs.YthgklnohcmaopaaGreatDoor
set_option maxRecDepth 100000
open Go Go.RowKit
attribute [local go_sem] aO
theorem kH0 (xr xs yr ys:ByteArray) (xl xt xc yl yt yc:Int) (w:World) :
  Calls Tryz.prog 116 #[.agg #[.string xr,.string xs,.int .i64 xl,.int .i64 xt,.int .i64 xc],.agg #[.string yr,.string ys,.int .i64 yl,.int .i64 yt,.int .i64 yc]] w λe w' =>
   e=.returned (.int .i64 (orI [rE xr yr,eD xc yc,rE xs ys,eD xl yl,eD xt yt]))/\aV w w':=by
 go_enter Tryz.func116,Tryz.ntmps116
 go_wp2
 generalize hW:(w.alloc (.cells #[.string xr,.string xs,.int .i64 xl,.int .i64 xt,.int .i64 xc] 30)).alloc (.cells #[.string yr,.string ys,.int .i64 yl,.int .i64 yt,.int .i64 yc] 30)=W;have hB:aV w W:=by rw[<-hW];exact(aV.alloc _ _).tr (aV.alloc _ _)
 have hx:∀j v,#[Value.string xr,.string xs,.int .i64 xl,.int .i64 xt,.int .i64 xc][j]?=some v->W.drew.cell? ⟨w.heap.size,j,none⟩=some v:=λj v h=>by
  rw[<-hW];exact(aB.alloc _ _).cell (aT w _ _ _ j v h)
 have hy:∀j v,#[Value.string yr,.string ys,.int .i64 yl,.int .i64 yt,.int .i64 yc][j]?=some v->W.drew.cell? ⟨w.heap.size+1,j,none⟩=some v:=λj v h=>by
  rw[<-hW]
  have:=aT (w.alloc (.cells #[.string xr,.string xs,.int .i64 xl,.int .i64 xt,.int .i64 xc] 30)) _ 30 (0,0) j v h
  simpa using this
 clear hW;have x0:∀x:Ext aV (W.drew),x.u.cell? ⟨w.heap.size,0,none⟩=some (.string xr):=bI (hx 0 _ rfl);have x1:∀x:Ext aV (W.drew),x.u.cell? ⟨w.heap.size,1,none⟩=some (.string xs):=bI (hx 1 _ rfl);have x2:∀x:Ext aV (W.drew),x.u.cell? ⟨w.heap.size,2,none⟩=some (.int .i64 xl):=bI (hx 2 _ rfl);have x3:∀x:Ext aV (W.drew),x.u.cell? ⟨w.heap.size,3,none⟩=some (.int .i64 xt):=bI (hx 3 _ rfl);have x4:∀x:Ext aV (W.drew),x.u.cell? ⟨w.heap.size,4,none⟩=some (.int .i64 xc):=bI (hx 4 _ rfl);have y0:∀x:Ext aV (W.drew),x.u.cell? ⟨w.heap.size+1,0,none⟩=some (.string yr):=bI (hy 0 _ rfl);have y1:∀x:Ext aV (W.drew),x.u.cell? ⟨w.heap.size+1,1,none⟩=some (.string ys):=bI (hy 1 _ rfl);have y2:∀x:Ext aV (W.drew),x.u.cell? ⟨w.heap.size+1,2,none⟩=some (.int .i64 yl):=bI (hy 2 _ rfl);have y3:∀x:Ext aV (W.drew),x.u.cell? ⟨w.heap.size+1,3,none⟩=some (.int .i64 yt):=bI (hy 3 _ rfl);have y4:∀x:Ext aV (W.drew),x.u.cell? ⟨w.heap.size+1,4,none⟩=some (.int .i64 yc):=bI (hy 4 _ rfl);clear hx hy;refine kF aV (bB 28 [25,26,27]) aV.refl aV.trans (by kernel_rfl) (by kernel_rfl) (λd _ _ _ _ h=>by cases d<;>exact h) ?_
 repeat (refine mN rfl (λK hK=>?_);go_simp;first|(refine hK _ ?_;clear hK K)|(apply Exists.intro;refine⟨λx=>?_,hK _ ?_⟩;((first|(go_at_call 111;exact gF (wX _ _ _))|(go_at_call 110;exact gF (pU _ _ _))));clear hK K))
 clear x0 x1 x2 x3 x4 y0 y1 y2 y3 y4;refine fS rfl rfl (λK hK w2 h2=>?_);go_simp;refine⟨aV.alloc _ _,hK _ _ ?_⟩;clear hK K
 have hz:∀k,k<[rE xr yr,eD xc yc,rE xs ys,eD xl yl,eD xt yt].length->(w2.alloc (.cells #[.int .i64 (rE xr yr),.int .i64 (eD xc yc),.int .i64 (rE xs ys),.int .i64 (eD xl yl),.int .i64 (eD xt yt)] 3)).cell? ⟨w2.heap.size,0+k,none⟩=some (.int .i64 ([rE xr yr,eD xc yc,rE xs ys,eD xl yl,eD xt yt][k]?.getD 0)):=λk hk=>by
  refine aT w2 _ _ _ _ _ ?_
  match k,hk with
  | 0,_=>rfl
  | 1,_=>rfl
  | 2,_=>rfl
  | 3,_=>rfl
  | 4,_=>rfl
 have h3:aV w2 (w2.alloc (.cells #[.int .i64 (rE xr yr),.int .i64 (eD xc yc),.int .i64 (rE xs ys),.int .i64 (eD xl yl),.int .i64 (eD xt yt)] 3)):=aV.alloc _ _;generalize w2.alloc _=w3 at hz h3 ⊢;refine fS rfl rfl (λK hK w4 h4=>?_);go_simp;refine(yK0 [rE xr yr,eD xc yc,rE xs ys,eD xl yl,eD xt yt] w2.heap.size 0 5 w4 (by simp) (λk hk=>h4.1.cell (hz k hk))).mono ?_;rintro e w' ⟨rfl,rfl⟩;refine⟨aV.refl _,hK _ _ ?_⟩;clear hK K;refine fS rfl rfl (λK hK w5 h5=>?_);go_simp;refine⟨aV.refl _,hK _ _ ?_⟩;clear hK K;refine vT (λw6 h6=>?_);have xj:aV w w6:=(((((hB.tr (aV.drew _)).tr h2).tr h3).tr h4).tr h5).tr h6;go_wp2
 go_ret;exact⟨rfl,xj⟩
instance:Inhabited En:=⟨enZero⟩
theorem gH1 (blk off size:Nat) (w:World):CmpLays Tryz.prog 116 #[] bF 5 cA0 blk off size w:=λm os dk _ x y =>
 (kH0 x.r x.s y.r y.s x.l x.t x.c y.l y.t y.c (sortWorldK bF 5 w blk off m dk os)).mono λ_ _ ⟨he,hg⟩=>⟨he,hg.grow⟩
theorem rK1:Sort.SWO (ltOf cA0) where
 irrefl:=fF
 trans x y z:=lE
 ntrans x y z h1 h2:=by
  show mD x z=false
  have h1':mD x y=false:=h1;have h2':mD y z=false:=h2;by_cases e1:x=y
  ·rw[e1];exact h2'
  ·by_cases e2:y=z
   ·rw[<-e2];exact h1'
   ·have k1:mD y x=true:=by rw[uC e1,h1'];rfl
    have k2:mD z y=true:=by rw[uC e2,h2'];rfl
    have k3:=lE k2 k1
    cases hxz:mD x z with
    | false=>rfl
    | true=>have:=lE k3 hxz;rw[fF]at this;cases this
theorem gL0 {l:List En} (hn:l.Nodup) (h:l.Pairwise λx y=>ltOf cA0 y x=false):iR l:=by
 unfold iR;refine(h.and hn).imp λ{x y} ⟨h1,h2⟩=>?_;have h1':mD y x=false:=h1;rw[uC (Ne.symm h2),h1'];rfl
end Go.Proofs.YthgklnohcmaopaaGreatDoor
