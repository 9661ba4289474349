/- The texts PairC Nsort, one behind the other. -/
import Derived.Test.YthgklnohcmaopaaGreatDoorLq2
import Derived.Test.YthgklnohcmaopaaGreatDoorLq10
import Derived.Test.YthgklnohcmaopaaGreatDoorLq11
import Derived.Test.YthgklnohcmaopaaGreatDoorShelf2
import Derived.Test.YthgklnohcmaopaaGreatDoorLq12
set_option maxHeartbeats 1000000
namespace Go.Proofs.YthgklnohcmaopaaGreatDoor
set_option maxRecDepth 100000
section
open Go Go.RowKit Go.Shelf
attribute [local go_sem] aO
def cJ0 (x:Int×Int):List Value:=[.int .i64 x.1,.int .i64 x.2]
theorem nI0 (a b c d:Int) (w:World) :
  Calls Tryz.prog 158 #[.agg #[.int .i64 a,.int .i64 b],.agg #[.int .i64 c,.int .i64 d]] w λe w' =>
   e=.returned (.int .i64 (orI [eD a c,eD b d]))/\aV w w':=by
 go_enter Tryz.func158,Tryz.ntmps158
 go_wp2
 generalize hW:(w.alloc (.cells #[.int .i64 a,.int .i64 b] 158)).alloc (.cells #[.int .i64 c,.int .i64 d] 158)=W;have hB:aV w W:=by rw[<-hW];exact(aV.alloc _ _).tr (aV.alloc _ _)
 have hx:∀j v,#[Value.int .i64 a,.int .i64 b][j]?=some v->W.drew.cell? ⟨w.heap.size,j,none⟩=some v:=λj v h=>by
  rw[<-hW];exact(aB.alloc _ _).cell (aT w _ _ _ j v h)
 have hy:∀j v,#[Value.int .i64 c,.int .i64 d][j]?=some v->W.drew.cell? ⟨w.heap.size+1,j,none⟩=some v:=λj v h=>by
  rw[<-hW]
  have:=aT (w.alloc (.cells #[.int .i64 a,.int .i64 b] 158)) _ 158 (0,0) j v h
  simpa using this
 clear hW;have x0:∀x:Ext aV (W.drew),x.u.cell? ⟨w.heap.size,0,none⟩=some (.int .i64 a):=bI (hx 0 _ rfl);have x1:∀x:Ext aV (W.drew),x.u.cell? ⟨w.heap.size,1,none⟩=some (.int .i64 b):=bI (hx 1 _ rfl);have y0:∀x:Ext aV (W.drew),x.u.cell? ⟨w.heap.size+1,0,none⟩=some (.int .i64 c):=bI (hy 0 _ rfl);have y1:∀x:Ext aV (W.drew),x.u.cell? ⟨w.heap.size+1,1,none⟩=some (.int .i64 d):=bI (hy 1 _ rfl);clear hx hy;refine kF aV (bB 13 [10,11,12]) aV.refl aV.trans (by kernel_rfl) (by kernel_rfl) (λd _ _ _ _ h=>by cases d<;>exact h) ?_
 repeat (refine mN rfl (λK hK=>?_);go_simp;first|(refine hK _ ?_;clear hK K)|(apply Exists.intro;refine⟨λx=>?_,hK _ ?_⟩;((first|(go_at_call 110;exact gF (pU _ _ _))));clear hK K))
 clear x0 x1 y0 y1;refine fS rfl rfl (λK hK w2 h2=>?_);go_simp;refine⟨aV.alloc _ _,hK _ _ ?_⟩;clear hK K
 have hz:∀k,k<[eD a c,eD b d].length->(w2.alloc (.cells #[.int .i64 (eD a c),.int .i64 (eD b d)] 3)).cell? ⟨w2.heap.size,0+k,none⟩=some (.int .i64 ([eD a c,eD b d][k]?.getD 0)):=λk hk=>by
  refine aT w2 _ _ _ _ _ ?_
  match k,hk with
  | 0,_=>rfl
  | 1,_=>rfl
 have h3:aV w2 (w2.alloc (.cells #[.int .i64 (eD a c),.int .i64 (eD b d)] 3)):=aV.alloc _ _;generalize w2.alloc _=w3 at hz h3 ⊢;refine fS rfl rfl (λK hK w4 h4=>?_);go_simp;refine(yK0 [eD a c,eD b d] w2.heap.size 0 2 w4 (by simp) (λk hk=>h4.1.cell (hz k hk))).mono ?_;rintro e w' ⟨rfl,rfl⟩;refine⟨aV.refl _,hK _ _ ?_⟩;clear hK K;refine fS rfl rfl (λK hK w5 h5=>?_);go_simp;refine⟨aV.refl _,hK _ _ ?_⟩;clear hK K;refine vT (λw6 h6=>?_);have xj:aV w w6:=(((((hB.tr (aV.drew _)).tr h2).tr h3).tr h4).tr h5).tr h6;go_wp2
 go_ret;exact⟨rfl,xj⟩
theorem fV1 (blk off size:Nat) (w:World):CmpLays Tryz.prog 158 #[] cJ0 2 dZ1 blk off size w:=λm os dk _ x y =>
 (nI0 x.1 x.2 y.1 y.2 (sortWorldK cJ0 2 w blk off m dk os)).mono λ_ _ ⟨he,hg⟩=>⟨he,hg.grow⟩
theorem xU (x y:Int×Int):ltOf dZ1 x y=true↔ltP x y:=by
 rw[<-nN1];simp[ltOf]
theorem rL1:Sort.SWO (ltOf dZ1) where
 irrefl x:=by
  cases h:ltOf dZ1 x x with
  | false=>rfl
  | true=>exact absurd ((xU x x).1 h) (eK0 x)
 trans x y z h1 h2:=(xU x z).2 (jY0 ((xU x y).1 h1) ((xU y z).1 h2))
 ntrans x y z h1 h2:=by
  have k1:¬ltP x y:=λh=>by rw[(xU x y).2 h]at h1;cases h1
  have k2:¬ltP y z:=λh=>by rw[(xU y z).2 h]at h2;cases h2
  cases h:ltOf dZ1 x z with
  | false=>rfl
  | true =>
   have k3:=(xU x z).1 h;unfold ltP at k1 k2 k3;exfalso;omega
theorem mQ1 (w:World):(isAgg 158).run Tryz.prog w=.ok true w:=by kernel_rfl
theorem fJ1 (w:World):(Go.sizeOf 158).run Tryz.prog w=.ok 2 w:=by kernel_rfl
theorem xR0:∀(x:Int×Int), ∀v∈cJ0 x,v.oneCell'=true:=λx v hv=>by
 simp[cJ0]at hv;rcases hv with rfl|rfl<;>rfl
theorem vE0 (w:World) (base:Nat) (v:Value) (l:List (Int×Int)) (aa:aX w base 158 2 cJ0 v l) (hl:l.length<4611686018427387904) :
  Calls Tryz.prog 217 #[v,.func (.func 158) #[] #[]] w λe w'=>e=.returned (.tuple #[])/\∃l',l'.Perm l/\l'.Pairwise (λx y=>ltOf dZ1 y x=false)/\aX w' base 158 2 cJ0 v l'/\w.grownBy w' v.ownBlock:=by
 have h:=nK Tryz.sortP mQ1 fJ1 (λ_=>rfl) (by decide) xR0 dZ1 rL1 158 #[] (enters_of Tryz.func158 (by kernel_rfl) rfl) fV1 w base 158 v l aa hl;exact h
end
section
open Go Go.RowKit Go.Shelf
instance:Inhabited Nd:=⟨⟨0,0,⟨#[]⟩,0,0,0,0⟩⟩
theorem aF0 (x:Nd):∀u∈dD x,u.oneCell'=true:=by
 intro u hu;simp[dD]at hu;rcases hu with rfl|rfl|rfl|rfl|rfl|rfl|rfl<;>rfl
theorem eL1:eG Tryz.prog 35 51 7 64 dD where
 sl:=Tryz.underlying35
 info:=gV (z:=.agg #[.int .i64 0,.int .i64 0,.string ⟨#[]⟩,.int .i64 0,.int .i64 0,.int .i64 0,.int .i64 0]) (by kernel_rfl) rfl
 pos:=by decide
 by1:=by decide
 len _:=rfl
 one:=aF0
theorem fI1 (blk off size:Nat) (w:World):CmpLays Tryz.prog 42 #[] dD 7 sW0 blk off size w:=λm os dk _ x y =>
 (iZ0 x.s y.s x.f x.t x.l x.r x.c x.k y.f y.t y.l y.r y.c y.k (sortWorldK dD 7 w blk off m dk os)).mono λ_ _ ⟨he,hg⟩=>⟨he,hg.grow⟩
theorem rI1:Sort.SWO (ltOf sW0) where
 irrefl x:=by
  have:=sY x
  unfold ltOf;unfold iZ at this;simpa using this
 trans x y z h1 h2:=by
  unfold ltOf at *;exact pV (x:=x) (y:=y) (z:=z) h1 h2
 ntrans x y z h1 h2:=by
  unfold ltOf at *;simp only[decide_eq_false_iff_not] at *;rw[tH] at *;have f1:=mP.flip (gA x) (gA y);have f2:=mP.flip (gA y) (gA z);have f3:=mP.flip (gA x) (gA z);have f4:=mP.flip (gA y) (gA x);have f5:=mP.flip (gA z) (gA y);intro h3;by_cases e1:gA x=gA y
  ·rw[e1]at h3
   exact h2 h3
  ·by_cases e2:gA y=gA z
   ·rw[<-e2]at h3
    exact h1 h3
   ·have n1:_≠(0:Int):=λh0=>e1 ((mP.zero (gA x) (gA y)).1 h0)
    have n2:_≠(0:Int):=λh0=>e2 ((mP.zero (gA y) (gA z)).1 h0);have k1:=mP.trans (gA z) (gA y) (gA x) (by omega) (by omega);omega
theorem mU1 (w:World):(isAgg 51).run Tryz.prog w=.ok true w:=by kernel_rfl
theorem gL1 (w:World):(Go.sizeOf 51).run Tryz.prog w=.ok 7 w:=by kernel_rfl
theorem zZ0 (w:World) (base:Nat) (v:Value) (l:List Nd) (O:Nd->Prop) (hb:Bests O l) (aa:aX w base 51 7 dD v l) (hl:l.length<4611686018427387904) :
  Calls Tryz.prog 41 #[v,.func (.func 42) #[] #[]] w λe w'=>e=.returned (.tuple #[])/\∃l',iN O l'/\l'.length=l.length/\aX w' base 51 7 dD v l'/\w.grownBy w' v.ownBlock:=by
 have h:=nK Tryz.sortN mU1 gL1 (λ_=>rfl) (by decide) aF0 sW0 rI1 42 #[] (enters_of Tryz.func42 (by kernel_rfl) rfl) fI1 w base 51 v l aa hl;refine h.mono λe w' ⟨he,l',hp,hs,ho,hg⟩=>⟨he,l',hb.sorted hp ?_,hp.length_eq,ho,hg⟩;have h1:l'.Pairwise λx y=>¬cK x y:=hb.one.perm hp.symm λ{a b} hn e=>hn e.symm;refine(hs.and h1).imp λ{x y} ⟨wg,hn⟩=>?_;by_cases hl:iZ x y=true
 ·exact hl
 ·have:=xY (λe=>hn (iW0 e)) hl
  unfold ltOf at wg;unfold iZ at this;simp at wg this;omega
end
end Go.Proofs.YthgklnohcmaopaaGreatDoor
