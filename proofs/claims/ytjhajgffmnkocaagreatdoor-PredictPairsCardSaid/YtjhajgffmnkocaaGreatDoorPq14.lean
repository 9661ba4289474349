/- The texts PairC Gsort, one behind the other. -/
import Derived.Test.YtjhajgffmnkocaaGreatDoorPq2
import Derived.Test.YtjhajgffmnkocaaGreatDoorPq10
import Derived.Test.YtjhajgffmnkocaaGreatDoorPq11
import Derived.Test.YtjhajgffmnkocaaGreatDoorShelf2
set_option maxHeartbeats 1000000
namespace Go.Proofs.YtjhajgffmnkocaaGreatDoor
set_option maxRecDepth 100000
section
open Go Go.RowKit Go.Shelf
attribute [local go_sem] aO
def bW0 (x:Int×Int):List Value:=[.int .i64 x.1,.int .i64 x.2]
theorem nM0 (a b c d:Int) (w:World) :
  Calls Tryz.prog 226 #[.agg #[.int .i64 a,.int .i64 b],.agg #[.int .i64 c,.int .i64 d]] w λe w' =>
   e=.returned (.int .i64 (orI [iD a c,iD b d]))/\aY w w':=by
 go_enter Tryz.func226,Tryz.ntmps226
 go_wp2
 generalize hW:(w.alloc (.cells #[.int .i64 a,.int .i64 b] 243)).alloc (.cells #[.int .i64 c,.int .i64 d] 243)=W;have hB:aY w W:=by rw[<-hW];exact(aY.alloc _ _).tr (aY.alloc _ _)
 have hx:∀j v,#[Value.int .i64 a,.int .i64 b][j]?=some v->W.drew.cell? ⟨w.heap.size,j,none⟩=some v:=λj v h=>by
  rw[<-hW];exact(aB.alloc _ _).cell (aT w _ _ _ j v h)
 have hy:∀j v,#[Value.int .i64 c,.int .i64 d][j]?=some v->W.drew.cell? ⟨w.heap.size+1,j,none⟩=some v:=λj v h=>by
  rw[<-hW]
  have:=aT (w.alloc (.cells #[.int .i64 a,.int .i64 b] 243)) _ 243 (0,0) j v h
  simpa using this
 clear hW;have x0:∀x:Ext aY (W.drew),x.u.cell? ⟨w.heap.size,0,none⟩=some (.int .i64 a):=cJ (hx 0 _ rfl);have x1:∀x:Ext aY (W.drew),x.u.cell? ⟨w.heap.size,1,none⟩=some (.int .i64 b):=cJ (hx 1 _ rfl);have y0:∀x:Ext aY (W.drew),x.u.cell? ⟨w.heap.size+1,0,none⟩=some (.int .i64 c):=cJ (hy 0 _ rfl);have y1:∀x:Ext aY (W.drew),x.u.cell? ⟨w.heap.size+1,1,none⟩=some (.int .i64 d):=cJ (hy 1 _ rfl);clear hx hy;refine jW aY (bE 13 [10,11,12]) aY.refl aY.trans (by kernel_rfl) (by kernel_rfl) (λd _ _ _ _ h=>by cases d<;>exact h) ?_
 repeat (refine mJ rfl (λK hK=>?_);go_simp;first|(refine hK _ ?_;clear hK K)|(apply Exists.intro;refine⟨λx=>?_,hK _ ?_⟩;((first|(go_at_call 44;exact fS (oC _ _ _))));clear hK K))
 clear x0 x1 y0 y1;refine fD rfl rfl (λK hK w2 h2=>?_);go_simp;refine⟨aY.alloc _ _,hK _ _ ?_⟩;clear hK K
 have hz:∀k,k<[iD a c,iD b d].length->(w2.alloc (.cells #[.int .i64 (iD a c),.int .i64 (iD b d)] 3)).cell? ⟨w2.heap.size,0+k,none⟩=some (.int .i64 ([iD a c,iD b d][k]?.getD 0)):=λk hk=>by
  refine aT w2 _ _ _ _ _ ?_
  match k,hk with
  | 0,_=>rfl
  | 1,_=>rfl
 have h3:aY w2 (w2.alloc (.cells #[.int .i64 (iD a c),.int .i64 (iD b d)] 3)):=aY.alloc _ _;generalize w2.alloc _=w3 at hz h3 ⊢;refine fD rfl rfl (λK hK w4 h4=>?_);go_simp;refine(zU0 [iD a c,iD b d] w2.heap.size 0 2 w4 (by simp) (λk hk=>h4.1.cell (hz k hk))).mono ?_;rintro e w' ⟨rfl,rfl⟩;refine⟨aY.refl _,hK _ _ ?_⟩;clear hK K;refine fD rfl rfl (λK hK w5 h5=>?_);go_simp;refine⟨aY.refl _,hK _ _ ?_⟩;clear hK K;refine uI (λw6 h6=>?_);have ux:aY w w6:=(((((hB.tr (aY.drew _)).tr h2).tr h3).tr h4).tr h5).tr h6;go_wp2
 go_ret;exact⟨rfl,ux⟩
theorem eP1 (blk off size:Nat) (w:World):CmpLays Tryz.prog 226 #[] bW0 2 cP1 blk off size w:=λm os dk _ x y =>
 (nM0 x.1 x.2 y.1 y.2 (sortWorldK bW0 2 w blk off m dk os)).mono λ_ _ ⟨he,hg⟩=>⟨he,hg.grow⟩
theorem vR (x y:Int×Int):ltOf cP1 x y=true↔ltP x y:=by
 rw[<-iS1];simp[ltOf]
theorem pC1:Sort.SWO (ltOf cP1) where
 irrefl x:=by
  cases h:ltOf cP1 x x with
  | false=>rfl
  | true=>exact absurd ((vR x x).1 h) (dS0 x)
 trans x y z h1 h2:=(vR x z).2 (hV0 ((vR x y).1 h1) ((vR y z).1 h2))
 ntrans x y z h1 h2:=by
  have k1:¬ltP x y:=λh=>by rw[(vR x y).2 h]at h1;cases h1
  have k2:¬ltP y z:=λh=>by rw[(vR y z).2 h]at h2;cases h2
  cases h:ltOf cP1 x z with
  | false=>rfl
  | true =>
   have k3:=(vR x z).1 h;unfold ltP at k1 k2 k3;exfalso;omega
theorem iX1 (w:World):(isAgg 243).run Tryz.prog w=.ok true w:=by kernel_rfl
theorem cQ1 (w:World):(Go.sizeOf 243).run Tryz.prog w=.ok 2 w:=by kernel_rfl
theorem yO0:∀(x:Int×Int), ∀v∈bW0 x,v.oneCell'=true:=λx v hv=>by
 simp[bW0]at hv;rcases hv with rfl|rfl<;>rfl
theorem sO0 (w:World) (base:Nat) (v:Value) (l:List (Int×Int)) (aa:aU w base 243 2 bW0 v l) (hl:l.length<4611686018427387904) :
  Calls Tryz.prog 267 #[v,.func (.func 226) #[] #[]] w λe w'=>e=.returned (.tuple #[])/\∃l',l'.Perm l/\l'.Pairwise (λx y=>ltOf cP1 y x=false)/\aU w' base 243 2 bW0 v l'/\w.grownBy w' v.ownBlock:=by
 have h:=nG Tryz.sortP iX1 cQ1 (λ_=>rfl) (by decide) yO0 cP1 pC1 226 #[] (enters_of Tryz.func226 (by kernel_rfl) rfl) eP1 w base 243 v l aa hl;exact h
theorem kT0 (xr xs yr ys:ByteArray) (xc yc:Int) (w:World) :
  Calls Tryz.prog 42 #[.agg #[.string xr,.string xs,.int .i64 xc],.agg #[.string yr,.string ys,.int .i64 yc]] w λe w' =>
   e=.returned (.int .i64 (orI [iD yc xc,lA xr yr,lA xs ys]))/\aY w w':=by
 go_enter Tryz.func42,Tryz.ntmps42
 go_wp2
 generalize hW:(w.alloc (.cells #[.string xr,.string xs,.int .i64 xc] 49)).alloc (.cells #[.string yr,.string ys,.int .i64 yc] 49)=W;have hB:aY w W:=by rw[<-hW];exact(aY.alloc _ _).tr (aY.alloc _ _)
 have hx:∀j v,#[Value.string xr,.string xs,.int .i64 xc][j]?=some v->W.drew.cell? ⟨w.heap.size,j,none⟩=some v:=λj v h=>by
  rw[<-hW];exact(aB.alloc _ _).cell (aT w _ _ _ j v h)
 have hy:∀j v,#[Value.string yr,.string ys,.int .i64 yc][j]?=some v->W.drew.cell? ⟨w.heap.size+1,j,none⟩=some v:=λj v h=>by
  rw[<-hW]
  have:=aT (w.alloc (.cells #[.string xr,.string xs,.int .i64 xc] 49)) _ 49 (0,0) j v h
  simpa using this
 clear hW;have x0:∀x:Ext aY (W.drew),x.u.cell? ⟨w.heap.size,0,none⟩=some (.string xr):=cJ (hx 0 _ rfl);have x1:∀x:Ext aY (W.drew),x.u.cell? ⟨w.heap.size,1,none⟩=some (.string xs):=cJ (hx 1 _ rfl);have x2:∀x:Ext aY (W.drew),x.u.cell? ⟨w.heap.size,2,none⟩=some (.int .i64 xc):=cJ (hx 2 _ rfl);have y0:∀x:Ext aY (W.drew),x.u.cell? ⟨w.heap.size+1,0,none⟩=some (.string yr):=cJ (hy 0 _ rfl);have y1:∀x:Ext aY (W.drew),x.u.cell? ⟨w.heap.size+1,1,none⟩=some (.string ys):=cJ (hy 1 _ rfl);have y2:∀x:Ext aY (W.drew),x.u.cell? ⟨w.heap.size+1,2,none⟩=some (.int .i64 yc):=cJ (hy 2 _ rfl);clear hx hy;refine jW aY (bE 18 [15,16,17]) aY.refl aY.trans (by kernel_rfl) (by kernel_rfl) (λd _ _ _ _ h=>by cases d<;>exact h) ?_
 repeat (refine mJ rfl (λK hK=>?_);go_simp;first|(refine hK _ ?_;clear hK K)|(apply Exists.intro;refine⟨λx=>?_,hK _ ?_⟩;((first|(go_at_call 45;exact fS (wO _ _ _))|(go_at_call 44;exact fS (oC _ _ _))));clear hK K))
 clear x0 x1 x2 y0 y1 y2;refine fD rfl rfl (λK hK w2 h2=>?_);go_simp;refine⟨aY.alloc _ _,hK _ _ ?_⟩;clear hK K
 have hz:∀k,k<[iD yc xc,lA xr yr,lA xs ys].length->(w2.alloc (.cells #[.int .i64 (iD yc xc),.int .i64 (lA xr yr),.int .i64 (lA xs ys)] 3)).cell? ⟨w2.heap.size,0+k,none⟩=some (.int .i64 ([iD yc xc,lA xr yr,lA xs ys][k]?.getD 0)):=λk hk=>by
  refine aT w2 _ _ _ _ _ ?_
  match k,hk with
  | 0,_=>rfl
  | 1,_=>rfl
  | 2,_=>rfl
 have h3:aY w2 (w2.alloc (.cells #[.int .i64 (iD yc xc),.int .i64 (lA xr yr),.int .i64 (lA xs ys)] 3)):=aY.alloc _ _;generalize w2.alloc _=w3 at hz h3 ⊢;refine fD rfl rfl (λK hK w4 h4=>?_);go_simp;refine(zU0 [iD yc xc,lA xr yr,lA xs ys] w2.heap.size 0 3 w4 (by simp) (λk hk=>h4.1.cell (hz k hk))).mono ?_;rintro e w' ⟨rfl,rfl⟩;refine⟨aY.refl _,hK _ _ ?_⟩;clear hK K;refine fD rfl rfl (λK hK w5 h5=>?_);go_simp;refine⟨aY.refl _,hK _ _ ?_⟩;clear hK K;refine uI (λw6 h6=>?_);have ux:aY w w6:=(((((hB.tr (aY.drew _)).tr h2).tr h3).tr h4).tr h5).tr h6;go_wp2
 go_ret;exact⟨rfl,ux⟩
def gI (x:Gs):List Value:=[.string x.r,.string x.s,.int .i64 x.c]
instance:Inhabited Gs:=⟨⟨⟨#[]⟩,⟨#[]⟩,0⟩⟩
theorem yJ (x:Gs):∀u∈gI x,u.oneCell'=true:=by
 intro u hu;simp[gI]at hu;rcases hu with rfl|rfl|rfl<;>rfl
theorem eN1:dZ Tryz.prog 42 49 3 40 gI where
 sl:=Tryz.underlying42
 info:=iH (z:=.agg #[.string ⟨#[]⟩,.string ⟨#[]⟩,.int .i64 0]) (by kernel_rfl) rfl
 pos:=by decide
 by1:=by decide
 len _:=rfl
 one:=yJ
theorem fT1 (blk off size:Nat) (w:World):CmpLays Tryz.prog 42 #[] gI 3 bZ0 blk off size w:=λm os dk _ x y =>
 (kT0 x.r x.s y.r y.s x.c y.c (sortWorldK gI 3 w blk off m dk os)).mono λ_ _ ⟨he,hg⟩=>⟨he,hg.grow⟩
theorem pF1:Sort.SWO (ltOf bZ0) where
 irrefl x:=by
  have:=dK x
  unfold ltOf;unfold dG at this;simpa using this
 trans x y z h1 h2:=by
  unfold ltOf at *;exact fK (x:=x) (y:=y) (z:=z) h1 h2
 ntrans x y z h1 h2:=by
  unfold ltOf at *;simp only[decide_eq_false_iff_not] at *;rw[rR] at *;have f1:=mN.flip (gK x) (gK y);have f2:=mN.flip (gK y) (gK z);have f3:=mN.flip (gK x) (gK z);have f4:=mN.flip (gK y) (gK x);have f5:=mN.flip (gK z) (gK y);intro h3;by_cases e1:gK x=gK y
  ·rw[e1]at h3
   exact h2 h3
  ·by_cases e2:gK y=gK z
   ·rw[<-e2]at h3
    exact h1 h3
   ·have n1:_≠(0:Int):=λh0=>e1 ((mN.zero (gK x) (gK y)).1 h0)
    have n2:_≠(0:Int):=λh0=>e2 ((mN.zero (gK y) (gK z)).1 h0);have k1:=mN.trans (gK z) (gK y) (gK x) (by omega) (by omega);omega
theorem lI1 (w:World):(isAgg 49).run Tryz.prog w=.ok true w:=by kernel_rfl
theorem fU1 (w:World):(Go.sizeOf 49).run Tryz.prog w=.ok 3 w:=by kernel_rfl
theorem yL0 (w:World) (base:Nat) (v:Value) (l:List Gs) (W:ByteArray->ByteArray->Prop) (sc:ByteArray->ByteArray->Int) (hm:∀x,x∈l↔W x.r x.s/\x.c=sc x.r x.s) (hn:l.Nodup) (aa:aU w base 49 3 gI v l) (hl:l.length<4611686018427387904) :
  Calls Tryz.prog 41 #[v,.func (.func 42) #[] #[]] w λe w'=>e=.returned (.tuple #[])/\∃l',mV W sc l'/\l'.length=l.length/\aU w' base 49 3 gI v l'/\w.grownBy w' v.ownBlock:=by
 have h:=nG Tryz.sortG lI1 fU1 (λ_=>rfl) (by decide) yJ bZ0 pF1 42 #[] (enters_of Tryz.func42 (by kernel_rfl) rfl) fT1 w base 49 v l aa hl;refine h.mono λe w' ⟨he,l',hp,hs,ho,hg⟩=>⟨he,l',⟨?_,λx=>(hp.mem_iff).trans (hm x)⟩,hp.length_eq,ho,hg⟩;have h1:l'.Pairwise λx y=>¬x=y:=List.nodup_iff_pairwise_ne.1 (hp.nodup_iff.2 hn);refine(hs.and h1).imp λ{x y} ⟨um,hn⟩=>?_;by_cases hl:dG x y=true
 ·exact hl
 ·have:=oG hn hl
  unfold ltOf at um;unfold dG at this;simp at um this;omega
end
end Go.Proofs.YtjhajgffmnkocaaGreatDoor
