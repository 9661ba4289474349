/- The texts Ecmp2, one behind the other. -/
import Derived.Test.YtiopheoljccmpaaGreatDoorCq2
import Derived.Test.YtiopheoljccmpaaGreatDoorCq10
import Derived.Test.YtiopheoljccmpaaGreatDoorCq11
set_option maxHeartbeats 1000000
namespace Go.Proofs.YtiopheoljccmpaaGreatDoor
set_option maxRecDepth 100000
open Go Go.RowKit
attribute [local go_sem] aM
theorem jU0 (xr xs yr ys:ByteArray) (xl xt xc yl yt yc:Int) (w:World) :
  Calls Tryz.prog 89 #[.agg #[.string xr,.string xs,.int .i64 xl,.int .i64 xt,.int .i64 xc],.agg #[.string yr,.string ys,.int .i64 yl,.int .i64 yt,.int .i64 yc]] w λe w' =>
   e=.returned (.int .i64 (orI [xO xr yr,jT xc yc,xO xs ys,jT xl yl,jT xt yt]))/\bJ w w':=by
 go_enter Tryz.func89,Tryz.ntmps89
 go_wp2
 generalize hW:(w.alloc (.cells #[.string xr,.string xs,.int .i64 xl,.int .i64 xt,.int .i64 xc] 89)).alloc (.cells #[.string yr,.string ys,.int .i64 yl,.int .i64 yt,.int .i64 yc] 89)=W;have hB:bJ w W:=by rw[<-hW];exact(bJ.alloc _ _).tr (bJ.alloc _ _)
 have hx:∀j v,#[Value.string xr,.string xs,.int .i64 xl,.int .i64 xt,.int .i64 xc][j]?=some v->W.drew.cell? ⟨w.heap.size,j,none⟩=some v:=λj v h=>by
  rw[<-hW];exact(aB.alloc _ _).cell (aX w _ _ _ j v h)
 have hy:∀j v,#[Value.string yr,.string ys,.int .i64 yl,.int .i64 yt,.int .i64 yc][j]?=some v->W.drew.cell? ⟨w.heap.size+1,j,none⟩=some v:=λj v h=>by
  rw[<-hW]
  have:=aX (w.alloc (.cells #[.string xr,.string xs,.int .i64 xl,.int .i64 xt,.int .i64 xc] 89)) _ 89 (0,0) j v h
  simpa using this
 clear hW;have x0:∀x:Ext bJ (W.drew),x.u.cell? ⟨w.heap.size,0,none⟩=some (.string xr):=dU (hx 0 _ rfl);have x1:∀x:Ext bJ (W.drew),x.u.cell? ⟨w.heap.size,1,none⟩=some (.string xs):=dU (hx 1 _ rfl);have x2:∀x:Ext bJ (W.drew),x.u.cell? ⟨w.heap.size,2,none⟩=some (.int .i64 xl):=dU (hx 2 _ rfl);have x3:∀x:Ext bJ (W.drew),x.u.cell? ⟨w.heap.size,3,none⟩=some (.int .i64 xt):=dU (hx 3 _ rfl);have x4:∀x:Ext bJ (W.drew),x.u.cell? ⟨w.heap.size,4,none⟩=some (.int .i64 xc):=dU (hx 4 _ rfl);have y0:∀x:Ext bJ (W.drew),x.u.cell? ⟨w.heap.size+1,0,none⟩=some (.string yr):=dU (hy 0 _ rfl);have y1:∀x:Ext bJ (W.drew),x.u.cell? ⟨w.heap.size+1,1,none⟩=some (.string ys):=dU (hy 1 _ rfl);have y2:∀x:Ext bJ (W.drew),x.u.cell? ⟨w.heap.size+1,2,none⟩=some (.int .i64 yl):=dU (hy 2 _ rfl);have y3:∀x:Ext bJ (W.drew),x.u.cell? ⟨w.heap.size+1,3,none⟩=some (.int .i64 yt):=dU (hy 3 _ rfl);have y4:∀x:Ext bJ (W.drew),x.u.cell? ⟨w.heap.size+1,4,none⟩=some (.int .i64 yc):=dU (hy 4 _ rfl);clear hx hy;refine iD bJ (aT 28 [25,26,27]) bJ.refl bJ.trans (by kernel_rfl) (by kernel_rfl) (λd _ _ _ _ h=>by cases d<;>exact h) ?_
 repeat (refine iB rfl (λK hK=>?_);go_simp;first|(refine hK _ ?_;clear hK K)|(apply Exists.intro;refine⟨λx=>?_,hK _ ?_⟩;((first|(go_at_call 150;exact kD (gT0 _ _ _))|(go_at_call 151;exact kD (vV _ _ _))));clear hK K))
 clear x0 x1 x2 x3 x4 y0 y1 y2 y3 y4;refine gQ rfl rfl (λK hK w2 h2=>?_);go_simp;refine⟨bJ.alloc _ _,hK _ _ ?_⟩;clear hK K
 have hz:∀k,k<[xO xr yr,jT xc yc,xO xs ys,jT xl yl,jT xt yt].length->(w2.alloc (.cells #[.int .i64 (xO xr yr),.int .i64 (jT xc yc),.int .i64 (xO xs ys),.int .i64 (jT xl yl),.int .i64 (jT xt yt)] 3)).cell? ⟨w2.heap.size,0+k,none⟩=some (.int .i64 ([xO xr yr,jT xc yc,xO xs ys,jT xl yl,jT xt yt][k]?.getD 0)):=λk hk=>by
  refine aX w2 _ _ _ _ _ ?_
  match k,hk with
  | 0,_=>rfl
  | 1,_=>rfl
  | 2,_=>rfl
  | 3,_=>rfl
  | 4,_=>rfl
 have h3:bJ w2 (w2.alloc (.cells #[.int .i64 (xO xr yr),.int .i64 (jT xc yc),.int .i64 (xO xs ys),.int .i64 (jT xl yl),.int .i64 (jT xt yt)] 3)):=bJ.alloc _ _;generalize w2.alloc _=w3 at hz h3 ⊢;refine gQ rfl rfl (λK hK w4 h4=>?_);go_simp;refine(fA1 [xO xr yr,jT xc yc,xO xs ys,jT xl yl,jT xt yt] w2.heap.size 0 5 w4 (by simp) (λk hk=>h4.1.cell (hz k hk))).mono ?_;rintro e w' ⟨rfl,rfl⟩;refine⟨bJ.refl _,hK _ _ ?_⟩;clear hK K;refine gQ rfl rfl (λK hK w5 h5=>?_);go_simp;refine⟨bJ.refl _,hK _ _ ?_⟩;clear hK K;refine nL (λw6 h6=>?_);have xv:bJ w w6:=(((((hB.tr (bJ.drew _)).tr h2).tr h3).tr h4).tr h5).tr h6;go_wp2
 go_ret;exact⟨rfl,xv⟩
instance:Inhabited En:=⟨enZero⟩
theorem dK1 (bh off size:Nat) (w:World):CmpLays Tryz.prog 89 #[] bE 5 qW bh off size w:=λm os dk _ x y =>
 (jU0 x.r x.s y.r y.s x.l x.t x.c y.l y.t y.c (sortWorldK bE 5 w bh off m dk os)).mono λ_ _ ⟨he,hg⟩=>⟨he,hg.grow⟩
theorem lF1:Sort.SWO (ltOf qW) where
 irrefl:=eO
 trans x y z:=kN
 ntrans x y z h1 h2:=by
  show lessS x z=false
  have h1':lessS x y=false:=h1;have h2':lessS y z=false:=h2;by_cases e1:x=y
  ·rw[e1];exact h2'
  ·by_cases e2:y=z
   ·rw[<-e2];exact h1'
   ·have k1:lessS y x=true:=by rw[tJ e1,h1'];rfl
    have k2:lessS z y=true:=by rw[tJ e2,h2'];rfl
    have k3:=kN k2 k1
    cases hxz:lessS x z with
    | false=>rfl
    | true=>have:=kN k3 hxz;rw[eO]at this;cases this
theorem fQ0 {l:List En} (hn:l.Nodup) (h:l.Pairwise λx y=>ltOf qW y x=false):jK l:=by
 unfold jK;refine(h.and hn).imp λ{x y} ⟨h1,h2⟩=>?_;have h1':lessS y x=false:=h1;rw[tJ (Ne.symm h2),h1'];rfl
end Go.Proofs.YtiopheoljccmpaaGreatDoor
