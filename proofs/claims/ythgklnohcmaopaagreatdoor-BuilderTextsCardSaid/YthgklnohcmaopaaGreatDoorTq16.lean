/- The texts PairC SortW, one behind the other. -/
import Derived.Test.YthgklnohcmaopaaGreatDoorTq2
import Derived.Test.YthgklnohcmaopaaGreatDoorTq9
import Derived.Test.YthgklnohcmaopaaGreatDoorTq11
import Derived.Test.YthgklnohcmaopaaGreatDoorShelf2
import Derived.Test.YthgklnohcmaopaaGreatDoorTq15
open Go.Lib renaming hid → Aa
open Nat renaming le_refl → Ab
set_option maxHeartbeats 4000000
namespace Go.Proofs.YthgklnohcmaopaaGreatDoor
set_option maxRecDepth 100000
section
open Go Go.RowKit Go.Shelf
attribute [local go_sem] aK
def qU (x:Int×Int):List Value:=[.int .i64 x.1,.int .i64 x.2]
theorem hN0 (a b c d:Int) (w:World) :
  Calls Tryz.prog 158 #[.agg #[.int .i64 a,.int .i64 b],.agg #[.int .i64 c,.int .i64 d]] w λe w' =>
   e=.returned (.int .i64 (orI [jH a c,jH b d]))/\aX w w':=by
 go_enter Tryz.func158,Tryz.ntmps158
 go_wp2
 generalize hW:(w.alloc (.cells #[.int .i64 a,.int .i64 b] 158)).alloc (.cells #[.int .i64 c,.int .i64 d] 158)=W;have hB:aX w W:=by rw[<-hW];exact(aX.alloc _ _).tr (aX.alloc _ _)
 have hx:∀j v,#[Value.int .i64 a,.int .i64 b][j]?=some v->W.drew.cell? ⟨w.heap.size,j,none⟩=some v:=λj v h=>by
  rw[<-hW];exact(aB.alloc _ _).cell (aM w _ _ _ j v h)
 have hy:∀j v,#[Value.int .i64 c,.int .i64 d][j]?=some v->W.drew.cell? ⟨w.heap.size+1,j,none⟩=some v:=λj v h=>by
  rw[<-hW]
  have:=aM (w.alloc (.cells #[.int .i64 a,.int .i64 b] 158)) _ 158 (0,0) j v h
  simpa using this
 clear hW;have x0:∀x:Ext aX (W.drew),x.u.cell? ⟨w.heap.size,0,none⟩=some (.int .i64 a):=dC (hx 0 _ rfl);have x1:∀x:Ext aX (W.drew),x.u.cell? ⟨w.heap.size,1,none⟩=some (.int .i64 b):=dC (hx 1 _ rfl);have y0:∀x:Ext aX (W.drew),x.u.cell? ⟨w.heap.size+1,0,none⟩=some (.int .i64 c):=dC (hy 0 _ rfl);have y1:∀x:Ext aX (W.drew),x.u.cell? ⟨w.heap.size+1,1,none⟩=some (.int .i64 d):=dC (hy 1 _ rfl);clear hx hy;refine fU aX (bB 13 [10,11,12]) aX.refl aX.trans (by kernel_rfl) (by kernel_rfl) (λd _ _ _ _ h=>by cases d<;>exact h) ?_
 repeat (refine fT rfl (λK hK=>?_);go_simp;first|(refine hK _ ?_;clear hK K)|(apply Exists.intro;refine⟨λx=>?_,hK _ ?_⟩;((first|(go_at_call 110;exact iS (tG _ _ _))));clear hK K))
 clear x0 x1 y0 y1;refine fP rfl rfl (λK hK w2 h2=>?_);go_simp;refine⟨aX.alloc _ _,hK _ _ ?_⟩;clear hK K
 have hz:∀k,k<[jH a c,jH b d].length->(w2.alloc (.cells #[.int .i64 (jH a c),.int .i64 (jH b d)] 3)).cell? ⟨w2.heap.size,0+k,none⟩=some (.int .i64 ([jH a c,jH b d][k]?.getD 0)):=λk hk=>by
  refine aM w2 _ _ _ _ _ ?_
  match k,hk with
  | 0,_=>rfl
  | 1,_=>rfl
 have h3:aX w2 (w2.alloc (.cells #[.int .i64 (jH a c),.int .i64 (jH b d)] 3)):=aX.alloc _ _;generalize w2.alloc _=w3 at hz h3 ⊢;refine fP rfl rfl (λK hK w4 h4=>?_);go_simp;refine(yK0 [jH a c,jH b d] w2.heap.size 0 2 w4 (by simp) (λk hk=>h4.1.cell (hz k hk))).mono ?_;rintro e w' ⟨rfl,rfl⟩;refine⟨aX.refl _,hK _ _ ?_⟩;clear hK K;refine fP rfl rfl (λK hK w5 h5=>?_);go_simp;refine⟨aX.refl _,hK _ _ ?_⟩;clear hK K;refine kN (λw6 h6=>?_);have t7:aX w w6:=(((((hB.tr (aX.drew _)).tr h2).tr h3).tr h4).tr h5).tr h6;go_wp2
 go_ret;exact⟨rfl,t7⟩
theorem xV0 (ar off size:Nat) (w:World):CmpLays Tryz.prog 158 #[] qU 2 uI0 ar off size w:=λm os dk _ x y =>
 (hN0 x.1 x.2 y.1 y.2 (sortWorldK qU 2 w ar off m dk os)).mono λ_ _ ⟨he,hg⟩=>⟨he,hg.grow⟩
theorem sO (x y:Int×Int):ltOf uI0 x y=true↔ltP x y:=by
 rw[<-aF1];simp[ltOf]
theorem dY1:Sort.SWO (ltOf uI0) where
 irrefl x:=by
  cases h:ltOf uI0 x x with
  | false=>rfl
  | true=>exact absurd ((sO x x).1 h) (zU x)
 trans x y z h1 h2:=(sO x z).2 (eF0 ((sO x y).1 h1) ((sO y z).1 h2))
 ntrans x y z h1 h2:=by
  have k1:¬ltP x y:=λh=>by rw[(sO x y).2 h]at h1;cases h1
  have k2:¬ltP y z:=λh=>by rw[(sO y z).2 h]at h2;cases h2
  cases h:ltOf uI0 x z with
  | false=>rfl
  | true =>
   have k3:=(sO x z).1 h;unfold ltP at k1 k2 k3;exfalso;omega
theorem yX0 (w:World):(isAgg 158).run Tryz.prog w=.ok true w:=by kernel_rfl
theorem wX0 (w:World):(Go.sizeOf 158).run Tryz.prog w=.ok 2 w:=by kernel_rfl
theorem qX0:∀(x:Int×Int), ∀v∈qU x,v.oneCell'=true:=λx v hv=>by
 simp[qU]at hv;rcases hv with rfl|rfl<;>rfl
theorem mN0 (w:World) (base:Nat) (v:Value) (l:List (Int×Int)) (aa:aU w base 158 2 qU v l) (hl:l.length<4611686018427387904) :
  Calls Tryz.prog 217 #[v,.func (.func 158) #[] #[]] w λe w'=>e=.returned (.tuple #[])/\∃l',l'.Perm l/\l'.Pairwise (λx y=>ltOf uI0 y x=false)/\aU w' base 158 2 qU v l'/\w.grownBy w' v.ownBlock:=by
 have h:=pC Tryz.sortP yX0 wX0 (λ_=>rfl) (by decide) qX0 uI0 dY1 158 #[] (enters_of Tryz.func158 (by kernel_rfl) rfl) xV0 w base 158 v l aa hl;exact h
theorem aG1 (w:World):(zeroValue 3).run Tryz.prog w=.ok (.int .i64 0) w:=by kernel_rfl
theorem bL1 (w:World):(isAgg 30).run Tryz.prog w=.ok true w:=by kernel_rfl
theorem wW0 (w:World):(Go.sizeOf 30).run Tryz.prog w=.ok 5 w:=by kernel_rfl
theorem mK0 (w:World) (base:Nat) (v:Value) (l:List En) (aa:aU w base 30 5 aZ v l) (hl:l.length<4611686018427387904) :
  Calls Tryz.prog 115 #[v,.func (.func 116) #[] #[]] w λe w'=>e=.returned (.tuple #[])/\∃l',l'.Perm l/\l'.Pairwise (λx y=>ltOf xY y x=false)/\aU w' base 30 5 aZ v l'/\w.grownBy w' v.ownBlock:=by
 have h:=pC Tryz.sortE bL1 wW0 (λ_=>rfl) (by decide) oE xY dX1 116 #[] (enters_of Tryz.func116 (by kernel_rfl) rfl) xO0 w base 30 v l aa hl;exact h
theorem rL0 (l:List En) (la:Option Addr) (cap:Nat) (w:World) (hl:l.length<=1048576) (aq:∀x∈l,tL x) (ac:aF w la 5 (l.map aZ)) :
  Calls Tryz.prog 49 #[.slice la l.length cap] w (qO0 l w):=by
 have HAT:=Aa ac;have HOK:=Aa aq;clear ac aq;have tu:=@run_makeMap Tryz.prog;go_enter Tryz.func49,Tryz.ntmps49
 go_wp2_with fail
 go_loopw [15] (λi wr=>∃(k:Nat) (D:DataW Unit),k<=l.length/\i=.int .i64 k/\wr.ownsMap Tryz.prog 30 (plainElem Tryz.prog 3) w.heap.size k D/\Hid (nP0 (l.take k) D)/\aB w wr) (λi _=>l.length-(intOf i).toNat)
 case atStart=>exact⟨0,_,Nat.zero_le _,rfl,World.ownsMap_made _ _ _ _,vY0,aB.alloc _ _⟩
 case round =>
  obtain⟨k,D,hk,rfl,aa,hM,hg⟩:=hrel;by_cases ae:k<l.length
  ·obtain⟨⟨xr,xs,xl,xt,xc⟩,hx⟩:∃x,l[k]?=some x:=⟨_,List.getElem?_eq_getElem ae⟩
   obtain⟨ba,oa,rfl,ci⟩:=(HAT.out.grows hg).get (aH ae);have c0:wr.cell? ⟨ba,oa+k*5,none⟩=some (.string xr):=ci k _ hx 0 _ rfl;have c1:wr.cell? ⟨ba,oa+k*5+1,none⟩=some (.string xs):=ci k _ hx 1 _ rfl;have c2:wr.cell? ⟨ba,oa+k*5+2,none⟩=some (.int .i64 xl):=ci k _ hx 2 _ rfl;have c3:wr.cell? ⟨ba,oa+k*5+3,none⟩=some (.int .i64 xt):=ci k _ hx 3 _ rfl;have c4:wr.cell? ⟨ba,oa+k*5+4,none⟩=some (.int .i64 xc):=ci k _ hx 4 _ rfl;have mg:tL ⟨xr,xs,xl,xt,xc⟩:=HOK.out _ (List.mem_of_getElem? hx);have qv:tL ⟨xr,xs,xl,xt,0⟩:=mg.key;have HK:=Aa qv;have aan:(Lit.int .i64 xc).wf=true:=mg.c;obtain⟨o,_,hA⟩:=(hM.out _ qv).2 rfl;have HT:=Aa (pK0 hx);have HX:=Aa mg;clear ci hx mg
   cases o with
   | none =>
    have hh:Maps.has D (klE ⟨xr,xs,xl,xt,0⟩)=false:=hA;have HS:Hid (nP0 (l.take k++[⟨xr,xs,xl,xt,xc⟩]) (D.put (klE ⟨xr,xs,xl,xt,0⟩) (.lit (.int .i64 xc)))):=hM.out.store aa.isMap HX.out (o:=none) hA (λc hc=>by cases hc);clear hA qv;go_wp2_with (first|(at_lookup;refine wpList_lookup_own_ok_int _ rfl _ _ 198 rfl 30 3 .i64 pT Tryz.underlying198 Tryz.underlying3 (aG1 _) w.heap.size k D rfl ((aa.alloc _).alloc _) _ (klE ⟨xr,xs,xl,xt,0⟩) rfl (yL0 HK.out) ?_;intro c ac tv;rw[hh];clear ac)|(at_mapUpdate;refine wpList_mapUpdate_own _ rfl _ _ _ 198 rfl 30 3 pT Tryz.underlying198 _ w.heap.size k D rfl ((aa.alloc _).alloc _) (by unfold maxLen;omega) _ _ (klE ⟨xr,xs,xl,xt,0⟩) rfl rfl (yL0 HK.out) _ [] (plainElem_int Tryz.underlying3 aan) ?_;intro w1 av jr))
    go_roundw
    case rel=>exact⟨k+1,_,ae,by go_num,av,by rw[HT.out];exact HS.out,(((hg.al _).al _).grown jr (λq hq=>by cases hq;exact Ab _))⟩
    case measure=>simp[intOf];omega
   | some c0 =>
    have hh:Maps.has D (klE ⟨xr,xs,xl,xt,0⟩)=true:=hA.1;have HA:=Aa hA;by_cases hc:xc<c0
    ·have HS:Hid (nP0 (l.take k++[⟨xr,xs,xl,xt,xc⟩]) (D.put (klE ⟨xr,xs,xl,xt,0⟩) (.lit (.int .i64 xc)))):=hM.out.store aa.isMap HX.out (o:=some c0) hA (λc hc2=>by cases hc2;exact hc)
     clear hA qv;go_wp2_with (first|(at_lookup;refine wpList_lookup_own_ok_int _ rfl _ _ 198 rfl 30 3 .i64 pT Tryz.underlying198 Tryz.underlying3 (aG1 _) w.heap.size k D rfl ((aa.alloc _).alloc _) _ (klE ⟨xr,xs,xl,xt,0⟩) rfl (yL0 HK.out) ?_;intro c ac tv;rw[hh];have hcc:c=c0:=(by have h1:=HA.out.2 (.lit (.int .i64 0));rw[ac]at h1;simpa using h1);have az:xc<c:=(by omega);clear ac hcc)|(at_mapUpdate;refine wpList_mapUpdate_own _ rfl _ _ _ 198 rfl 30 3 pT Tryz.underlying198 _ w.heap.size k D rfl ((aa.alloc _).alloc _) (by unfold maxLen;omega) _ _ (klE ⟨xr,xs,xl,xt,0⟩) rfl rfl (yL0 HK.out) _ [] (plainElem_int Tryz.underlying3 aan) ?_;intro w1 av jr))
     go_roundw
     case rel=>exact⟨k+1,_,ae,by go_num,av,by rw[HT.out];exact HS.out,(((hg.al _).al _).grown jr (λq hq=>by cases hq;exact Ab _))⟩
     case measure=>simp[intOf];omega
    ·have HS:Hid (nP0 (l.take k++[⟨xr,xs,xl,xt,xc⟩]) D):=hM.out.skip (z:=⟨xr,xs,xl,xt,xc⟩) hA (by simp only;omega)
     clear hA qv;go_wp2_with (first|(at_lookup;refine wpList_lookup_own_ok_int _ rfl _ _ 198 rfl 30 3 .i64 pT Tryz.underlying198 Tryz.underlying3 (aG1 _) w.heap.size k D rfl ((aa.alloc _).alloc _) _ (klE ⟨xr,xs,xl,xt,0⟩) rfl (yL0 HK.out) ?_;intro c ac tv;rw[hh];have hcc:c=c0:=(by have h1:=HA.out.2 (.lit (.int .i64 0));rw[ac]at h1;simpa using h1);have az:¬xc<c:=(by omega);clear ac hcc)|(at_mapUpdate;refine wpList_mapUpdate_own _ rfl _ _ _ 198 rfl 30 3 pT Tryz.underlying198 _ w.heap.size k D rfl ((aa.alloc _).alloc _) (by unfold maxLen;omega) _ _ (klE ⟨xr,xs,xl,xt,0⟩) rfl rfl (yL0 HK.out) _ [] (plainElem_int Tryz.underlying3 aan) ?_;intro w1 av jr))
     go_roundw
     case rel=>exact⟨k+1,D,ae,by go_num,((aa.alloc _).alloc _).mono (Nat.le_succ _),by rw[HT.out];exact HS.out,(hg.al _).al _⟩
     case measure=>simp[intOf];omega
  ·obtain rfl:k=l.length:=by omega
   rw[List.take_length]at hM;obtain⟨u0,rfl⟩:=exq wr;have afe:=aa.size_le;go_wp2_with (first|(at_range;refine wpList_range_own _ rfl _ 198 rfl 30 3 pT Tryz.underlying198 _ w.heap.size l.length D rfl aa ?_;intro w0 aaj ft kv))
   go_frame
   go_loopw [9] (λv wx=>∃(left:Lit->Bool) (om:Nat) (ys:List En),wx.ranges Tryz.prog 30 (plainElem Tryz.prog 3) w.heap.size u0.heap.size l.length D left om/\ys.length+om<=l.length/\Hid (hT0 D left ys)/\aU wx w.heap.size 30 5 aZ v ys/\aB w wx) (λ_ wx=>wx.rangeLeft w.heap.size u0.heap.size)
   case atStart=>exact⟨_,_,[],aaj,by simpa using afe,hV0 D,aU.nil _ _ _ _ _,hg.grown ft (λq hq=>by cases hq)⟩
   case round =>
    obtain⟨left,om,ys,xh,cn,hC,d8,fy⟩:=hrel;go_wp2_with (first|(at_next;refine wpList_next_ranges _ rfl _ rfl 30 pT (plainElem Tryz.prog 3) (λx:En => .agg #[.string x.r,.string x.s,.int .i64 x.l,.int .i64 x.t,.int .i64 x.c]) (Value.int .i64) (λkey kl hk=>by obtain⟨x,_,hx,_⟩:=jL0 hk;exact⟨x,hx⟩) (λv y hv=>by obtain⟨c,hc,_⟩:=plainElem_int_inv Tryz.underlying3 hv;exact⟨c,hc⟩) w.heap.size u0.heap.size l.length D left om rfl xh ?_ ?_))
    ·intro me xj
     have cz:=λy=>hC.out.least hM.out HOK.out xj y;have HMEM:=Aa cz;clear cz me xj;go_wp2_with (first|(go_at_call 115;refine(mK0 _ w.heap.size _ ys d8 (by omega)).mono ?_;rintro e w9 ⟨rfl,l',hp,xa,gu,abq⟩))
     go_ret;have hS:yZ l l':=⟨bW0 (hp.nodup_iff.2 hC.out.1) xa,λy=>(hp.mem_iff).trans (HMEM.out y)⟩;rw[hS.unique (gH l)]at gu;exact⟨_,rfl,gu,fy.grown abq (λq hq=>bE d8 q hq)⟩
    ·intro x c kl yd yp w2 aak cg mf hv ac aal az af ii hen
     obtain⟨x',mg,ex,rfl⟩:=jL0 cg
     obtain rfl:x=x':=by
      obtain⟨a,b,c,d,e⟩:=x;obtain⟨a',b',c',d',e'⟩:=x';simpa [En.agg] using ex
     obtain⟨c',ec,ez,tv⟩:=plainElem_int_inv Tryz.underlying3 hv;obtain rfl:c=c':=by simpa using ec
     obtain rfl:yd=.lit (.int .i64 c):=(Prod.mk.inj ez).1;have HC:=Aa (hC.out.step hM.out mg tv mf ac);have qm:=gI0 d8 xh.owns;have hni:=fP0 d8 xh;have gu:=uE d8 af (Or.inr (Ne.symm hni));have dh:=fy.grown af (λq hq=>by cases hq;exact hg.size);obtain⟨xr,xs,xl,xt,xc⟩:=x;dsimp only at hen HC
     clear cg ex ac hv ec ez mf ii mg;go_wp2_with (first|(at_builtin;refine xA0 cL1 rfl _ _ rfl w.heap.size _ ys ⟨xr,xs,xl,xt,c⟩ rfl gu (aB.alloc _ _) _ 1 (by simp) _ rfl rfl (by omega) dh.size ?_;intro v5 w5 ak aff afg))
     have acd:=(fN0 aal ((aB.alloc _ _).al _)).kept aff qm hni;have fu:=afg w dh (Ab _);go_roundw
     case rel=>exact⟨_,aak,ys++[⟨xr,xs,xl,xt,c⟩],acd,by simp;omega,HC,ak,fu⟩
     case measure=>rw[acd.left_eq,xh.left_eq];exact az
end
end Go.Proofs.YthgklnohcmaopaaGreatDoor
