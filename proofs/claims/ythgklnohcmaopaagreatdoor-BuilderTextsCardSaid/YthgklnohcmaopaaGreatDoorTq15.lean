/- The texts Ecmp2, one behind the other. -/
import Derived.Test.YthgklnohcmaopaaGreatDoorTq2
import Derived.Test.YthgklnohcmaopaaGreatDoorTq9
import Derived.Test.YthgklnohcmaopaaGreatDoorTq11
set_option maxHeartbeats 1000000
namespace Go.Proofs.YthgklnohcmaopaaGreatDoor
set_option maxRecDepth 100000
open Go Go.RowKit
attribute [local go_sem] aK
theorem fR0 (xr xs yr ys:ByteArray) (xl xt xc yl yt yc:Int) (w:World) :
  Calls Tryz.prog 116 #[.agg #[.string xr,.string xs,.int .i64 xl,.int .i64 xt,.int .i64 xc],.agg #[.string yr,.string ys,.int .i64 yl,.int .i64 yt,.int .i64 yc]] w λe w' =>
   e=.returned (.int .i64 (orI [yJ xr yr,jH xc yc,yJ xs ys,jH xl yl,jH xt yt]))/\aX w w':=by
 go_enter Tryz.func116,Tryz.ntmps116
 go_wp2
 generalize hW:(w.alloc (.cells #[.string xr,.string xs,.int .i64 xl,.int .i64 xt,.int .i64 xc] 30)).alloc (.cells #[.string yr,.string ys,.int .i64 yl,.int .i64 yt,.int .i64 yc] 30)=W;have hB:aX w W:=by rw[<-hW];exact(aX.alloc _ _).tr (aX.alloc _ _)
 have hx:∀j v,#[Value.string xr,.string xs,.int .i64 xl,.int .i64 xt,.int .i64 xc][j]?=some v->W.drew.cell? ⟨w.heap.size,j,none⟩=some v:=λj v h=>by
  rw[<-hW];exact(aB.alloc _ _).cell (aM w _ _ _ j v h)
 have hy:∀j v,#[Value.string yr,.string ys,.int .i64 yl,.int .i64 yt,.int .i64 yc][j]?=some v->W.drew.cell? ⟨w.heap.size+1,j,none⟩=some v:=λj v h=>by
  rw[<-hW]
  have:=aM (w.alloc (.cells #[.string xr,.string xs,.int .i64 xl,.int .i64 xt,.int .i64 xc] 30)) _ 30 (0,0) j v h
  simpa using this
 clear hW;have x0:∀x:Ext aX (W.drew),x.u.cell? ⟨w.heap.size,0,none⟩=some (.string xr):=dC (hx 0 _ rfl);have x1:∀x:Ext aX (W.drew),x.u.cell? ⟨w.heap.size,1,none⟩=some (.string xs):=dC (hx 1 _ rfl);have x2:∀x:Ext aX (W.drew),x.u.cell? ⟨w.heap.size,2,none⟩=some (.int .i64 xl):=dC (hx 2 _ rfl);have x3:∀x:Ext aX (W.drew),x.u.cell? ⟨w.heap.size,3,none⟩=some (.int .i64 xt):=dC (hx 3 _ rfl);have x4:∀x:Ext aX (W.drew),x.u.cell? ⟨w.heap.size,4,none⟩=some (.int .i64 xc):=dC (hx 4 _ rfl);have y0:∀x:Ext aX (W.drew),x.u.cell? ⟨w.heap.size+1,0,none⟩=some (.string yr):=dC (hy 0 _ rfl);have y1:∀x:Ext aX (W.drew),x.u.cell? ⟨w.heap.size+1,1,none⟩=some (.string ys):=dC (hy 1 _ rfl);have y2:∀x:Ext aX (W.drew),x.u.cell? ⟨w.heap.size+1,2,none⟩=some (.int .i64 yl):=dC (hy 2 _ rfl);have y3:∀x:Ext aX (W.drew),x.u.cell? ⟨w.heap.size+1,3,none⟩=some (.int .i64 yt):=dC (hy 3 _ rfl);have y4:∀x:Ext aX (W.drew),x.u.cell? ⟨w.heap.size+1,4,none⟩=some (.int .i64 yc):=dC (hy 4 _ rfl);clear hx hy;refine fU aX (bB 28 [25,26,27]) aX.refl aX.trans (by kernel_rfl) (by kernel_rfl) (λd _ _ _ _ h=>by cases d<;>exact h) ?_
 repeat (refine fT rfl (λK hK=>?_);go_simp;first|(refine hK _ ?_;clear hK K)|(apply Exists.intro;refine⟨λx=>?_,hK _ ?_⟩;((first|(go_at_call 111;exact iS (dT0 _ _ _))|(go_at_call 110;exact iS (tG _ _ _))));clear hK K))
 clear x0 x1 x2 x3 x4 y0 y1 y2 y3 y4;refine fP rfl rfl (λK hK w2 h2=>?_);go_simp;refine⟨aX.alloc _ _,hK _ _ ?_⟩;clear hK K
 have hz:∀k,k<[yJ xr yr,jH xc yc,yJ xs ys,jH xl yl,jH xt yt].length->(w2.alloc (.cells #[.int .i64 (yJ xr yr),.int .i64 (jH xc yc),.int .i64 (yJ xs ys),.int .i64 (jH xl yl),.int .i64 (jH xt yt)] 3)).cell? ⟨w2.heap.size,0+k,none⟩=some (.int .i64 ([yJ xr yr,jH xc yc,yJ xs ys,jH xl yl,jH xt yt][k]?.getD 0)):=λk hk=>by
  refine aM w2 _ _ _ _ _ ?_
  match k,hk with
  | 0,_=>rfl
  | 1,_=>rfl
  | 2,_=>rfl
  | 3,_=>rfl
  | 4,_=>rfl
 have h3:aX w2 (w2.alloc (.cells #[.int .i64 (yJ xr yr),.int .i64 (jH xc yc),.int .i64 (yJ xs ys),.int .i64 (jH xl yl),.int .i64 (jH xt yt)] 3)):=aX.alloc _ _;generalize w2.alloc _=w3 at hz h3 ⊢;refine fP rfl rfl (λK hK w4 h4=>?_);go_simp;refine(yK0 [yJ xr yr,jH xc yc,yJ xs ys,jH xl yl,jH xt yt] w2.heap.size 0 5 w4 (by simp) (λk hk=>h4.1.cell (hz k hk))).mono ?_;rintro e w' ⟨rfl,rfl⟩;refine⟨aX.refl _,hK _ _ ?_⟩;clear hK K;refine fP rfl rfl (λK hK w5 h5=>?_);go_simp;refine⟨aX.refl _,hK _ _ ?_⟩;clear hK K;refine kN (λw6 h6=>?_);have t7:aX w w6:=(((((hB.tr (aX.drew _)).tr h2).tr h3).tr h4).tr h5).tr h6;go_wp2
 go_ret;exact⟨rfl,t7⟩
instance:Inhabited En:=⟨eK⟩
theorem xO0 (ar off size:Nat) (w:World):CmpLays Tryz.prog 116 #[] aZ 5 xY ar off size w:=λm os dk _ x y =>
 (fR0 x.r x.s y.r y.s x.l x.t x.c y.l y.t y.c (sortWorldK aZ 5 w ar off m dk os)).mono λ_ _ ⟨he,hg⟩=>⟨he,hg.grow⟩
theorem dX1:Sort.SWO (ltOf xY) where
 irrefl:=eW
 trans x y z:=jD
 ntrans x y z h1 h2:=by
  show lF x z=false
  have h1':lF x y=false:=h1;have h2':lF y z=false:=h2;by_cases e1:x=y
  ·rw[e1];exact h2'
  ·by_cases e2:y=z
   ·rw[<-e2];exact h1'
   ·have k1:lF y x=true:=by rw[qC e1,h1'];rfl
    have k2:lF z y=true:=by rw[qC e2,h2'];rfl
    have k3:=jD k2 k1
    cases hxz:lF x z with
    | false=>rfl
    | true=>have:=jD k3 hxz;rw[eW]at this;cases this
theorem bW0 {l:List En} (hn:l.Nodup) (h:l.Pairwise λx y=>ltOf xY y x=false):jS l:=by
 unfold jS;refine(h.and hn).imp λ{x y} ⟨h1,h2⟩=>?_;have h1':lF y x=false:=h1;rw[qC (Ne.symm h2),h1'];rfl
end Go.Proofs.YthgklnohcmaopaaGreatDoor
