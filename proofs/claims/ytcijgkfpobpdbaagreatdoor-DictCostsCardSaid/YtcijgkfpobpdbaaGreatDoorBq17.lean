/- The texts Ecmp2, one behind the other. -/
import Derived.Test.YtcijgkfpobpdbaaGreatDoorBq4
import Derived.Test.YtcijgkfpobpdbaaGreatDoorBq10
import Derived.Test.YtcijgkfpobpdbaaGreatDoorBq13
set_option maxHeartbeats 1000000
namespace Go.Proofs.YtcijgkfpobpdbaaGreatDoor
set_option maxRecDepth 100000
open Go Go.RowKit
attribute [local go_sem] aQ
theorem kG0 (xr xs yr ys:ByteArray) (xl xt xc yl yt yc:Int) (w:World) :
  Calls Tryz.prog 97 #[.agg #[.string xr,.string xs,.int .i64 xl,.int .i64 xt,.int .i64 xc],.agg #[.string yr,.string ys,.int .i64 yl,.int .i64 yt,.int .i64 yc]] w λe w' =>
   e=.returned (.int .i64 (orI [yB xr yr,kF xc yc,yB xs ys,kF xl yl,kF xt yt]))/\bG w w':=by
 go_enter Tryz.func97,Tryz.ntmps97
 go_wp2
 generalize hW:(w.alloc (.cells #[.string xr,.string xs,.int .i64 xl,.int .i64 xt,.int .i64 xc] 59)).alloc (.cells #[.string yr,.string ys,.int .i64 yl,.int .i64 yt,.int .i64 yc] 59)=W;have hB:bG w W:=by rw[<-hW];exact(bG.alloc _ _).tr (bG.alloc _ _)
 have hx:∀j v,#[Value.string xr,.string xs,.int .i64 xl,.int .i64 xt,.int .i64 xc][j]?=some v->W.drew.cell? ⟨w.heap.size,j,none⟩=some v:=λj v h=>by
  rw[<-hW];exact(Grows.alloc _ _).cell (aT w _ _ _ j v h)
 have hy:∀j v,#[Value.string yr,.string ys,.int .i64 yl,.int .i64 yt,.int .i64 yc][j]?=some v->W.drew.cell? ⟨w.heap.size+1,j,none⟩=some v:=λj v h=>by
  rw[<-hW]
  have:=aT (w.alloc (.cells #[.string xr,.string xs,.int .i64 xl,.int .i64 xt,.int .i64 xc] 59)) _ 59 (0,0) j v h
  simpa using this
 clear hW;have x0:∀x:Ext bG (W.drew),x.u.cell? ⟨w.heap.size,0,none⟩=some (.string xr):=eB (hx 0 _ rfl);have x1:∀x:Ext bG (W.drew),x.u.cell? ⟨w.heap.size,1,none⟩=some (.string xs):=eB (hx 1 _ rfl);have x2:∀x:Ext bG (W.drew),x.u.cell? ⟨w.heap.size,2,none⟩=some (.int .i64 xl):=eB (hx 2 _ rfl);have x3:∀x:Ext bG (W.drew),x.u.cell? ⟨w.heap.size,3,none⟩=some (.int .i64 xt):=eB (hx 3 _ rfl);have x4:∀x:Ext bG (W.drew),x.u.cell? ⟨w.heap.size,4,none⟩=some (.int .i64 xc):=eB (hx 4 _ rfl);have y0:∀x:Ext bG (W.drew),x.u.cell? ⟨w.heap.size+1,0,none⟩=some (.string yr):=eB (hy 0 _ rfl);have y1:∀x:Ext bG (W.drew),x.u.cell? ⟨w.heap.size+1,1,none⟩=some (.string ys):=eB (hy 1 _ rfl);have y2:∀x:Ext bG (W.drew),x.u.cell? ⟨w.heap.size+1,2,none⟩=some (.int .i64 yl):=eB (hy 2 _ rfl);have y3:∀x:Ext bG (W.drew),x.u.cell? ⟨w.heap.size+1,3,none⟩=some (.int .i64 yt):=eB (hy 3 _ rfl);have y4:∀x:Ext bG (W.drew),x.u.cell? ⟨w.heap.size+1,4,none⟩=some (.int .i64 yc):=eB (hy 4 _ rfl);clear hx hy;refine oG bG (aV 28 [25,26,27]) bG.refl bG.trans (by kernel_rfl) (by kernel_rfl) (λd _ _ _ _ h=>by cases d<;>exact h) ?_
 repeat (refine mW rfl (λK hK=>?_);go_simp;first|(refine hK _ ?_;clear hK K)|(apply Exists.intro;refine⟨λx=>?_,hK _ ?_⟩;((first|(go_at_call 168;exact lN (kV0 _ _ _))|(go_at_call 169;exact lN (xN _ _ _))));clear hK K))
 clear x0 x1 x2 x3 x4 y0 y1 y2 y3 y4;refine iE rfl rfl (λK hK w2 h2=>?_);go_simp;refine⟨bG.alloc _ _,hK _ _ ?_⟩;clear hK K
 have hz:∀k,k<[yB xr yr,kF xc yc,yB xs ys,kF xl yl,kF xt yt].length->(w2.alloc (.cells #[.int .i64 (yB xr yr),.int .i64 (kF xc yc),.int .i64 (yB xs ys),.int .i64 (kF xl yl),.int .i64 (kF xt yt)] 3)).cell? ⟨w2.heap.size,0+k,none⟩=some (.int .i64 ([yB xr yr,kF xc yc,yB xs ys,kF xl yl,kF xt yt][k]?.getD 0)):=λk hk=>by
  refine aT w2 _ _ _ _ _ ?_
  match k,hk with
  | 0,_=>rfl
  | 1,_=>rfl
  | 2,_=>rfl
  | 3,_=>rfl
  | 4,_=>rfl
 have h3:bG w2 (w2.alloc (.cells #[.int .i64 (yB xr yr),.int .i64 (kF xc yc),.int .i64 (yB xs ys),.int .i64 (kF xl yl),.int .i64 (kF xt yt)] 3)):=bG.alloc _ _;generalize w2.alloc _=w3 at hz h3 ⊢;refine iE rfl rfl (λK hK w4 h4=>?_);go_simp;refine(iI1 [yB xr yr,kF xc yc,yB xs ys,kF xl yl,kF xt yt] w2.heap.size 0 5 w4 (by simp) (λk hk=>h4.1.cell (hz k hk))).mono ?_;rintro e w' ⟨rfl,rfl⟩;refine⟨bG.refl _,hK _ _ ?_⟩;clear hK K;refine iE rfl rfl (λK hK w5 h5=>?_);go_simp;refine⟨bG.refl _,hK _ _ ?_⟩;clear hK K;refine uS (λw6 h6=>?_);have hB6:bG w w6:=(((((hB.tr (bG.drew _)).tr h2).tr h3).tr h4).tr h5).tr h6;go_wp2
 go_ret;exact⟨rfl,hB6⟩
instance:Inhabited En:=⟨enZero⟩
theorem gH1 (blk off size:Nat) (w:World):CmpLays Tryz.prog 97 #[] aJ 5 oV blk off size w:=λm os dk _ x y =>
 (kG0 x.r x.s y.r y.s x.l x.t x.c y.l y.t y.c (sortWorldK aJ 5 w blk off m dk os)).mono λ_ _ ⟨he,hg⟩=>⟨he,hg.grow⟩
theorem oA1:Sort.SWO (ltOf oV) where
 irrefl:=fU
 trans x y z:=kY
 ntrans x y z h1 h2:=by
  show lessS x z=false
  have h1':lessS x y=false:=h1;have h2':lessS y z=false:=h2;by_cases e1:x=y
  ·rw[e1];exact h2'
  ·by_cases e2:y=z
   ·rw[<-e2];exact h1'
   ·have k1:lessS y x=true:=by rw[sH e1,h1'];rfl
    have k2:lessS z y=true:=by rw[sH e2,h2'];rfl
    have k3:=kY k2 k1
    cases hxz:lessS x z with
    | false=>rfl
    | true=>have:=kY k3 hxz;rw[fU]at this;cases this
theorem gS0 {l:List En} (hn:l.Nodup) (h:l.Pairwise λx y=>ltOf oV y x=false):fE l:=by
 unfold fE;refine(h.and hn).imp λ{x y} ⟨h1,h2⟩=>?_;have h1':lessS y x=false:=h1;rw[sH (Ne.symm h2),h1'];rfl
end Go.Proofs.YtcijgkfpobpdbaaGreatDoor
