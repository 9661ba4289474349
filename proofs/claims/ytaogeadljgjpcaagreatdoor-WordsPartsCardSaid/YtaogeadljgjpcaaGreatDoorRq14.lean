/- The texts PairC Nsort, one behind the other. -/
import Derived.Test.YtaogeadljgjpcaaGreatDoorRq2
import Derived.Test.YtaogeadljgjpcaaGreatDoorRq10
import Derived.Test.YtaogeadljgjpcaaGreatDoorRq11
import Derived.Test.YtaogeadljgjpcaaGreatDoorShelf2
import Derived.Test.YtaogeadljgjpcaaGreatDoorRq12
set_option maxHeartbeats 1000000
namespace Go.Proofs.YtaogeadljgjpcaaGreatDoor
set_option maxRecDepth 100000
section
open Go Go.RowKit Go.Shelf
attribute [local go_sem] aQ
def bQ0 (x:Int×Int):List Value:=[.int .i64 x.1,.int .i64 x.2]
theorem mX0 (a b c d:Int) (w:World) :
  Calls Tryz.prog 231 #[.agg #[.int .i64 a,.int .i64 b],.agg #[.int .i64 c,.int .i64 d]] w λe w' =>
   e=.returned (.int .i64 (orI [dV a c,dV b d]))/\aX w w':=by
 go_enter Tryz.func231,Tryz.ntmps231
 go_wp2
 generalize hW:(w.alloc (.cells #[.int .i64 a,.int .i64 b] 258)).alloc (.cells #[.int .i64 c,.int .i64 d] 258)=W;have hB:aX w W:=by rw[<-hW];exact(aX.alloc _ _).tr (aX.alloc _ _)
 have hx:∀j v,#[Value.int .i64 a,.int .i64 b][j]?=some v->W.drew.cell? ⟨w.heap.size,j,none⟩=some v:=λj v h=>by
  rw[<-hW];exact(aB.alloc _ _).cell (aT w _ _ _ j v h)
 have hy:∀j v,#[Value.int .i64 c,.int .i64 d][j]?=some v->W.drew.cell? ⟨w.heap.size+1,j,none⟩=some v:=λj v h=>by
  rw[<-hW]
  have:=aT (w.alloc (.cells #[.int .i64 a,.int .i64 b] 258)) _ 258 (0,0) j v h
  simpa using this
 clear hW;have x0:∀x:Ext aX (W.drew),x.u.cell? ⟨w.heap.size,0,none⟩=some (.int .i64 a):=bH (hx 0 _ rfl);have x1:∀x:Ext aX (W.drew),x.u.cell? ⟨w.heap.size,1,none⟩=some (.int .i64 b):=bH (hx 1 _ rfl);have y0:∀x:Ext aX (W.drew),x.u.cell? ⟨w.heap.size+1,0,none⟩=some (.int .i64 c):=bH (hy 0 _ rfl);have y1:∀x:Ext aX (W.drew),x.u.cell? ⟨w.heap.size+1,1,none⟩=some (.int .i64 d):=bH (hy 1 _ rfl);clear hx hy;refine kH aX (bB 13 [10,11,12]) aX.refl aX.trans (by kernel_rfl) (by kernel_rfl) (λd _ _ _ _ h=>by cases d<;>exact h) ?_
 repeat (refine lB rfl (λK hK=>?_);go_simp;first|(refine hK _ ?_;clear hK K)|(apply Exists.intro;refine⟨λx=>?_,hK _ ?_⟩;((first|(go_at_call 92;exact fV (pN _ _ _))));clear hK K))
 clear x0 x1 y0 y1;refine eN rfl rfl (λK hK w2 h2=>?_);go_simp;refine⟨aX.alloc _ _,hK _ _ ?_⟩;clear hK K
 have hz:∀k,k<[dV a c,dV b d].length->(w2.alloc (.cells #[.int .i64 (dV a c),.int .i64 (dV b d)] 3)).cell? ⟨w2.heap.size,0+k,none⟩=some (.int .i64 ([dV a c,dV b d][k]?.getD 0)):=λk hk=>by
  refine aT w2 _ _ _ _ _ ?_
  match k,hk with
  | 0,_=>rfl
  | 1,_=>rfl
 have h3:aX w2 (w2.alloc (.cells #[.int .i64 (dV a c),.int .i64 (dV b d)] 3)):=aX.alloc _ _;generalize w2.alloc _=w3 at hz h3 ⊢;refine eN rfl rfl (λK hK w4 h4=>?_);go_simp;refine(cK1 [dV a c,dV b d] w2.heap.size 0 2 w4 (by simp) (λk hk=>h4.1.cell (hz k hk))).mono ?_;rintro e w' ⟨rfl,rfl⟩;refine⟨aX.refl _,hK _ _ ?_⟩;clear hK K;refine eN rfl rfl (λK hK w5 h5=>?_);go_simp;refine⟨aX.refl _,hK _ _ ?_⟩;clear hK K;refine rL (λw6 h6=>?_);have uz:aX w w6:=(((((hB.tr (aX.drew _)).tr h2).tr h3).tr h4).tr h5).tr h6;go_wp2
 go_ret;exact⟨rfl,uz⟩
theorem gE1 (blk off size:Nat) (w:World):CmpLays Tryz.prog 231 #[] bQ0 2 cZ1 blk off size w:=λm os dk _ x y =>
 (mX0 x.1 x.2 y.1 y.2 (sortWorldK bQ0 2 w blk off m dk os)).mono λ_ _ ⟨he,hg⟩=>⟨he,hg.grow⟩
theorem vT (x y:Int×Int):ltOf cZ1 x y=true↔ltP x y:=by
 rw[<-lR1];simp[ltOf]
theorem qU1:Sort.SWO (ltOf cZ1) where
 irrefl x:=by
  cases h:ltOf cZ1 x x with
  | false=>rfl
  | true=>exact absurd ((vT x x).1 h) (cV0 x)
 trans x y z h1 h2:=(vT x z).2 (iY0 ((vT x y).1 h1) ((vT y z).1 h2))
 ntrans x y z h1 h2:=by
  have k1:¬ltP x y:=λh=>by rw[(vT x y).2 h]at h1;cases h1
  have k2:¬ltP y z:=λh=>by rw[(vT y z).2 h]at h2;cases h2
  cases h:ltOf cZ1 x z with
  | false=>rfl
  | true =>
   have k3:=(vT x z).1 h;unfold ltP at k1 k2 k3;exfalso;omega
theorem kW1 (w:World):(isAgg 258).run Tryz.prog w=.ok true w:=by kernel_rfl
theorem dV1 (w:World):(Go.sizeOf 258).run Tryz.prog w=.ok 2 w:=by kernel_rfl
theorem zG0:∀(x:Int×Int), ∀v∈bQ0 x,v.oneCell'=true:=λx v hv=>by
 simp[bQ0]at hv;rcases hv with rfl|rfl<;>rfl
theorem tR0 (w:World) (base:Nat) (v:Value) (l:List (Int×Int)) (aa:aV w base 258 2 bQ0 v l) (hl:l.length<4611686018427387904) :
  Calls Tryz.prog 263 #[v,.func (.func 231) #[] #[]] w λe w'=>e=.returned (.tuple #[])/\∃l',l'.Perm l/\l'.Pairwise (λx y=>ltOf cZ1 y x=false)/\aV w' base 258 2 bQ0 v l'/\w.grownBy w' v.ownBlock:=by
 have h:=nT Tryz.sortP kW1 dV1 (λ_=>rfl) (by decide) zG0 cZ1 qU1 231 #[] (enters_of Tryz.func231 (by kernel_rfl) rfl) gE1 w base 258 v l aa hl;exact h
end
section
open Go Go.RowKit Go.Shelf
instance:Inhabited Nd:=⟨⟨0,0,⟨#[]⟩,0,0,0,0⟩⟩
theorem aZ0 (x:Nd):∀u∈dX x,u.oneCell'=true:=by
 intro u hu;simp[dX]at hu;rcases hu with rfl|rfl|rfl|rfl|rfl|rfl|rfl<;>rfl
theorem oE1:dO Tryz.prog 43 49 7 64 dX where
 sl:=Tryz.underlying43
 info:=fG (z:=.agg #[.int .i64 0,.int .i64 0,.string ⟨#[]⟩,.int .i64 0,.int .i64 0,.int .i64 0,.int .i64 0]) (by kernel_rfl) rfl
 pos:=by decide
 by1:=by decide
 len _:=rfl
 one:=aZ0
theorem eY1 (blk off size:Nat) (w:World):CmpLays Tryz.prog 52 #[] dX 7 oF0 blk off size w:=λm os dk _ x y =>
 (iL0 x.s y.s x.f x.t x.l x.r x.c x.k y.f y.t y.l y.r y.c y.k (sortWorldK dX 7 w blk off m dk os)).mono λ_ _ ⟨he,hg⟩=>⟨he,hg.grow⟩
theorem qN1:Sort.SWO (ltOf oF0) where
 irrefl x:=by
  have:=sY x
  unfold ltOf;unfold gY at this;simpa using this
 trans x y z h1 h2:=by
  unfold ltOf at *;exact pJ (x:=x) (y:=y) (z:=z) h1 h2
 ntrans x y z h1 h2:=by
  unfold ltOf at *;simp only[decide_eq_false_iff_not] at *;rw[rY] at *;have f1:=mF.flip (fT x) (fT y);have f2:=mF.flip (fT y) (fT z);have f3:=mF.flip (fT x) (fT z);have f4:=mF.flip (fT y) (fT x);have f5:=mF.flip (fT z) (fT y);intro h3;by_cases e1:fT x=fT y
  ·rw[e1]at h3
   exact h2 h3
  ·by_cases e2:fT y=fT z
   ·rw[<-e2]at h3
    exact h1 h3
   ·have n1:_≠(0:Int):=λh0=>e1 ((mF.zero (fT x) (fT y)).1 h0)
    have n2:_≠(0:Int):=λh0=>e2 ((mF.zero (fT y) (fT z)).1 h0);have k1:=mF.trans (fT z) (fT y) (fT x) (by omega) (by omega);omega
theorem kB1 (w:World):(isAgg 49).run Tryz.prog w=.ok true w:=by kernel_rfl
theorem gJ1 (w:World):(Go.sizeOf 49).run Tryz.prog w=.ok 7 w:=by kernel_rfl
theorem zN0 (w:World) (base:Nat) (v:Value) (l:List Nd) (O:Nd->Prop) (hb:Bests O l) (aa:aV w base 49 7 dX v l) (hl:l.length<4611686018427387904) :
  Calls Tryz.prog 51 #[v,.func (.func 52) #[] #[]] w λe w'=>e=.returned (.tuple #[])/\∃l',iP O l'/\l'.length=l.length/\aV w' base 49 7 dX v l'/\w.grownBy w' v.ownBlock:=by
 have h:=nT Tryz.sortN kB1 gJ1 (λ_=>rfl) (by decide) aZ0 oF0 qN1 52 #[] (enters_of Tryz.func52 (by kernel_rfl) rfl) eY1 w base 49 v l aa hl;refine h.mono λe w' ⟨he,l',hp,hs,ho,hg⟩=>⟨he,l',hb.sorted hp ?_,hp.length_eq,ho,hg⟩;have h1:l'.Pairwise λx y=>¬cG x y:=hb.one.perm hp.symm λ{a b} hn e=>hn e.symm;refine(hs.and h1).imp λ{x y} ⟨up,hn⟩=>?_;by_cases hl:gY x y=true
 ·exact hl
 ·have:=xD (λe=>hn (kZ0 e)) hl
  unfold ltOf at up;unfold gY at this;simp at up this;omega
end
end Go.Proofs.YtaogeadljgjpcaaGreatDoor
