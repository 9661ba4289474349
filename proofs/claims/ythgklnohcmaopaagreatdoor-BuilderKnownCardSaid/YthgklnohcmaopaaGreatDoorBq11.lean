/- The texts Ecmp2, one behind the other. -/
import Derived.Test.YthgklnohcmaopaaGreatDoorBq2
import Derived.Test.YthgklnohcmaopaaGreatDoorBq7
import Derived.Test.YthgklnohcmaopaaGreatDoorBq8
set_option maxHeartbeats 1000000
namespace Go.Proofs.YthgklnohcmaopaaGreatDoor
set_option maxRecDepth 100000
open Go Go.RowKit
attribute [local go_sem] aM
theorem bQ0 (xr xs yr ys:ByteArray) (xl xt xc yl yt yc:Int) (w:World) :
  Calls Tryz.prog 116 #[.agg #[.string xr,.string xs,.int .i64 xl,.int .i64 xt,.int .i64 xc],.agg #[.string yr,.string ys,.int .i64 yl,.int .i64 yt,.int .i64 yc]] w λe w' =>
   e=.returned (.int .i64 (orI [uT xr yr,iW xc yc,uT xs ys,iW xl yl,iW xt yt]))/\aY w w':=by
 go_enter Tryz.func116,Tryz.ntmps116
 go_wp2
 generalize hW:(w.alloc (.cells #[.string xr,.string xs,.int .i64 xl,.int .i64 xt,.int .i64 xc] 30)).alloc (.cells #[.string yr,.string ys,.int .i64 yl,.int .i64 yt,.int .i64 yc] 30)=W;have hB:aY w W:=by rw[<-hW];exact(aY.alloc _ _).tr (aY.alloc _ _)
 have hx:∀j v,#[Value.string xr,.string xs,.int .i64 xl,.int .i64 xt,.int .i64 xc][j]?=some v->W.drew.cell? ⟨w.heap.size,j,none⟩=some v:=λj v h=>by
  rw[<-hW];exact(aB.alloc _ _).cell (aU w _ _ _ j v h)
 have hy:∀j v,#[Value.string yr,.string ys,.int .i64 yl,.int .i64 yt,.int .i64 yc][j]?=some v->W.drew.cell? ⟨w.heap.size+1,j,none⟩=some v:=λj v h=>by
  rw[<-hW]
  have:=aU (w.alloc (.cells #[.string xr,.string xs,.int .i64 xl,.int .i64 xt,.int .i64 xc] 30)) _ 30 (0,0) j v h
  simpa using this
 clear hW;have x0:∀x:Ext aY (W.drew),x.u.cell? ⟨w.heap.size,0,none⟩=some (.string xr):=dB (hx 0 _ rfl);have x1:∀x:Ext aY (W.drew),x.u.cell? ⟨w.heap.size,1,none⟩=some (.string xs):=dB (hx 1 _ rfl);have x2:∀x:Ext aY (W.drew),x.u.cell? ⟨w.heap.size,2,none⟩=some (.int .i64 xl):=dB (hx 2 _ rfl);have x3:∀x:Ext aY (W.drew),x.u.cell? ⟨w.heap.size,3,none⟩=some (.int .i64 xt):=dB (hx 3 _ rfl);have x4:∀x:Ext aY (W.drew),x.u.cell? ⟨w.heap.size,4,none⟩=some (.int .i64 xc):=dB (hx 4 _ rfl);have y0:∀x:Ext aY (W.drew),x.u.cell? ⟨w.heap.size+1,0,none⟩=some (.string yr):=dB (hy 0 _ rfl);have y1:∀x:Ext aY (W.drew),x.u.cell? ⟨w.heap.size+1,1,none⟩=some (.string ys):=dB (hy 1 _ rfl);have y2:∀x:Ext aY (W.drew),x.u.cell? ⟨w.heap.size+1,2,none⟩=some (.int .i64 yl):=dB (hy 2 _ rfl);have y3:∀x:Ext aY (W.drew),x.u.cell? ⟨w.heap.size+1,3,none⟩=some (.int .i64 yt):=dB (hy 3 _ rfl);have y4:∀x:Ext aY (W.drew),x.u.cell? ⟨w.heap.size+1,4,none⟩=some (.int .i64 yc):=dB (hy 4 _ rfl);clear hx hy;refine kP aY (bB 28 [25,26,27]) aY.refl aY.trans (by kernel_rfl) (by kernel_rfl) (λd _ _ _ _ h=>by cases d<;>exact h) ?_
 repeat (refine mB rfl (λK hK=>?_);go_simp;first|(refine hK _ ?_;clear hK K)|(apply Exists.intro;refine⟨λx=>?_,hK _ ?_⟩;((first|(go_at_call 111;exact iF (cM0 _ _ _))|(go_at_call 110;exact iF (rG _ _ _))));clear hK K))
 clear x0 x1 x2 x3 x4 y0 y1 y2 y3 y4;refine fX rfl rfl (λK hK w2 h2=>?_);go_simp;refine⟨aY.alloc _ _,hK _ _ ?_⟩;clear hK K
 have hz:∀k,k<[uT xr yr,iW xc yc,uT xs ys,iW xl yl,iW xt yt].length->(w2.alloc (.cells #[.int .i64 (uT xr yr),.int .i64 (iW xc yc),.int .i64 (uT xs ys),.int .i64 (iW xl yl),.int .i64 (iW xt yt)] 3)).cell? ⟨w2.heap.size,0+k,none⟩=some (.int .i64 ([uT xr yr,iW xc yc,uT xs ys,iW xl yl,iW xt yt][k]?.getD 0)):=λk hk=>by
  refine aU w2 _ _ _ _ _ ?_
  match k,hk with
  | 0,_=>rfl
  | 1,_=>rfl
  | 2,_=>rfl
  | 3,_=>rfl
  | 4,_=>rfl
 have h3:aY w2 (w2.alloc (.cells #[.int .i64 (uT xr yr),.int .i64 (iW xc yc),.int .i64 (uT xs ys),.int .i64 (iW xl yl),.int .i64 (iW xt yt)] 3)):=aY.alloc _ _;generalize w2.alloc _=w3 at hz h3 ⊢;refine fX rfl rfl (λK hK w4 h4=>?_);go_simp;refine(uE0 [uT xr yr,iW xc yc,uT xs ys,iW xl yl,iW xt yt] w2.heap.size 0 5 w4 (by simp) (λk hk=>h4.1.cell (hz k hk))).mono ?_;rintro e w' ⟨rfl,rfl⟩;refine⟨aY.refl _,hK _ _ ?_⟩;clear hK K;refine fX rfl rfl (λK hK w5 h5=>?_);go_simp;refine⟨aY.refl _,hK _ _ ?_⟩;clear hK K;refine sP (λw6 h6=>?_);have rz:aY w w6:=(((((hB.tr (aY.drew _)).tr h2).tr h3).tr h4).tr h5).tr h6;go_wp2
 go_ret;exact⟨rfl,rz⟩
instance:Inhabited En:=⟨dY⟩
theorem qV0 (aj off size:Nat) (w:World):CmpLays Tryz.prog 116 #[] aZ 5 uW aj off size w:=λm os dk _ x y =>
 (bQ0 x.r x.s y.r y.s x.l x.t x.c y.l y.t y.c (sortWorldK aZ 5 w aj off m dk os)).mono λ_ _ ⟨he,hg⟩=>⟨he,hg.grow⟩
theorem zV0:Sort.SWO (ltOf uW) where
 irrefl:=eD
 trans x y z:=iP
 ntrans x y z h1 h2:=by
  show kW x z=false
  have h1':kW x y=false:=h1;have h2':kW y z=false:=h2;by_cases e1:x=y
  ·rw[e1];exact h2'
  ·by_cases e2:y=z
   ·rw[<-e2];exact h1'
   ·have k1:kW y x=true:=by rw[nV e1,h1'];rfl
    have k2:kW z y=true:=by rw[nV e2,h2'];rfl
    have k3:=iP k2 k1
    cases hxz:kW x z with
    | false=>rfl
    | true=>have:=iP k3 hxz;rw[eD]at this;cases this
theorem yA {l:List En} (hn:l.Nodup) (h:l.Pairwise λx y=>ltOf uW y x=false):jH l:=by
 unfold jH;refine(h.and hn).imp λ{x y} ⟨h1,h2⟩=>?_;have h1':kW y x=false:=h1;rw[nV (Ne.symm h2),h1'];rfl
end Go.Proofs.YthgklnohcmaopaaGreatDoor
