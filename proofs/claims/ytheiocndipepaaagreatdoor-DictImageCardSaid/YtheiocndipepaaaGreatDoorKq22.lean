/- The texts RefS Src RdS CutV, one behind the other. -/
import Derived.Test.YtheiocndipepaaaGreatDoorKq4
import Derived.Test.YtheiocndipepaaaGreatDoorKq20
import Derived.Test.YtheiocndipepaaaGreatDoorKq16
import Derived.Test.YtheiocndipepaaaGreatDoorKq2
import Derived.Test.YtheiocndipepaaaGreatDoorKq11
import Derived.Test.YtheiocndipepaaaGreatDoorKq21
open Go.World renaming cell?_setCell_other → Aa,cell?_setCell_same → Ad,block_lt_of_cell? → Af,frozen?_setCell → Am
open List renaming getElem?_eq_getElem → Ab,length_drop → Ag,take_length → Aj,length_take → Ak,drop_succ_cons → Al,length_append → An,drop_zero → Ao,mem_of_getElem? → At,append_assoc → Au,drop_length → Av,nil_append → Aw
open Go.Lib renaming hid → Ac
open Nat renaming le_refl → Ae,zero_le → Ah,le_trans → Aq,le_of_lt → Az,mul_one → Ba
open Go.Addr renaming block → Ai
open Go.IntKind renaming signed → Ap,wrap → Ar,bits → As
open Array renaming replicate → Ax
open Option renaming map → Ay
set_option maxHeartbeats 8000000
namespace Go.Proofs.YtheiocndipepaaaGreatDoor
set_option maxRecDepth 100000
section
open Go Go.RowKit
attribute [local go_sem] aM
def nA (l:List En) (x:En) (k m:Nat) (kb:Bool):Prop:=kb=true↔∀j y,j<m->l[j]?=some y->¬Bad x k y j
theorem nA.start (l:List En) (x:En) (k:Nat):nA l x k 0 true:=⟨λ_ j y hj=>by omega,λ_=>rfl⟩
theorem nA.bad {l:List En} {x y:En} {k m:Nat} (hy:l[m]?=some y) (hb:Bad x k y m):nA l x k (m+1) false:=⟨λh=>(by cases h),λh=>absurd hb (h m y (Nat.lt_succ_self _) hy)⟩
theorem nA.good {l:List En} {x y:En} {k m:Nat} {kb:Bool} (h:nA l x k m kb) (hy:l[m]?=some y) (hb:¬Bad x k y m):nA l x k (m+1) kb:=by
 constructor
 ·intro hk j z hj hz
  rcases Nat.lt_succ_iff_lt_or_eq.1 hj with hj|rfl
  ·exact h.1 hk j z hj hz
  ·rw[hy]at hz
   rw[<-Option.some.inj hz];exact hb
 ·intro hk
  exact h.2 λj z hj hz=>hk j z (by omega) hz
theorem nA.full {l:List En} {x:En} {k:Nat} {kb:Bool} (h:nA l x k l.length kb) (hx:l[k]?=some x):kb=true↔tT l x=true/\x∉l.take k:=h.trans (iV1 hx)
theorem cO0 {x y:En} {b:Bool} (hb:decide (eA x y)=b) (W:World):Calls Tryz.prog 183 #[x.agg,y.agg] W λe w'=>e=.returned (.bool b)/\Grows W w':=hb▸nG0 x y W
theorem rC0 {x y:En} {b:Bool} (hb:lessS x y=b) (W:World):Calls Tryz.prog 184 #[x.agg,y.agg] W λe w'=>e=.returned (.bool b)/\Grows W w':=hb▸zX0 x y W
theorem dE1 {α:Type} {w:World} {base:Nat} {e:TypeId} {k:Nat} {enc:α->List Value} {a:Option Addr} {n c:Nat} {xs:List α} (h:aV w base e k enc (.slice a n c) xs):a=none->c=0:=by
 intro ha;rcases h.2 with ⟨h1,_⟩|⟨g,cap,cm,h1,_⟩
 ·have:a=none/\n=0/\c=0:=by simpa using h1
  exact this.2.2
 ·rw[ha]at h1;simp at h1
theorem dJ1 (l:List En) (la:Option Addr) (cap:Nat) (w:World) (hl:l.length<=1048576) (ac:aF w la 5 (l.map aQ)) :
  Calls Tryz.prog 128 #[.slice la l.length cap] w (cY0 l w):=by
 have HAT:=Ac ac;clear ac;go_enter Tryz.func128,Tryz.ntmps128
 go_wp2_with fail
 go_loopw [3,4] (λv i wr=>∃(k:Nat) (o:List En),k<=l.length/\i=.int .i64 k/\aV wr w.heap.size 52 5 aQ v o/\o.length<=k/\Hid (nN0 l k o)/\Grows w wr) (λ_ i _=>l.length-(intOf i).toNat)
 case atStart=>exact⟨0,[],Ah _,rfl,aV.nil _ _ _ _ _,Ah _,nN0.start l,Grows.refl _⟩
 case round =>
  obtain⟨k,o,hk,rfl,aa,vl,ay,hg⟩:=hrel;obtain⟨u0,rfl⟩:=exq wr;by_cases ae:k<l.length
  ·obtain⟨⟨xr,xs,xl,xt,xc⟩,hx⟩:∃x,l[k]?=some x:=⟨_,Ab ae⟩
   obtain⟨a3,c3,rfl,m7,hc2,afj⟩:=aa.at_ dT.len;obtain⟨ba,oa,rfl,be⟩:=(HAT.out.grows hg).get (aH ae);have HCA:=Ac be;have HX:=Ac hx;have HO:=Ac afj;clear be hx afj;go_wp2_with fail
   go_loopw [5,6] (λb j wx=>∃(m:Nat) (kb:Bool),m<=l.length/\j=.int .i64 m/\b=.bool kb/\Hid (nA l ⟨xr,xs,xl,xt,xc⟩ k m kb)/\Grows u0 wx) (λ_ j _=>l.length-(intOf j).toNat)
   case atStart=>exact⟨0,true,Ah _,rfl,rfl,nA.start _ _ _,Grows.refl _⟩
   case round =>
    obtain⟨m,kb,hm,rfl,rfl,pq,ji⟩:=hrel;by_cases hml:m<l.length
    ·obtain⟨⟨yr,ys,yl,yt,yc⟩,hy⟩:∃y,l[m]?=some y:=⟨_,Ab hml⟩
     have HY:=Ac hy;clear hy;go_wp2_with fail
     have x0:∀x:Ext Grows wr.drew,x.u.cell? ⟨ba,oa+k*5,none⟩=some (.string xr):=aB (ji.dr.cell (HCA.out k _ HX.out 0 _ rfl));have x1:∀x:Ext Grows wr.drew,x.u.cell? ⟨ba,oa+k*5+1,none⟩=some (.string xs):=aB (ji.dr.cell (HCA.out k _ HX.out 1 _ rfl));have x2:∀x:Ext Grows wr.drew,x.u.cell? ⟨ba,oa+k*5+2,none⟩=some (.int .i64 xl):=aB (ji.dr.cell (HCA.out k _ HX.out 2 _ rfl));have x3:∀x:Ext Grows wr.drew,x.u.cell? ⟨ba,oa+k*5+3,none⟩=some (.int .i64 xt):=aB (ji.dr.cell (HCA.out k _ HX.out 3 _ rfl));have x4:∀x:Ext Grows wr.drew,x.u.cell? ⟨ba,oa+k*5+4,none⟩=some (.int .i64 xc):=aB (ji.dr.cell (HCA.out k _ HX.out 4 _ rfl));have y0:∀x:Ext Grows wr.drew,x.u.cell? ⟨ba,oa+m*5,none⟩=some (.string yr):=aB (ji.dr.cell (HCA.out m _ HY.out 0 _ rfl));have y1:∀x:Ext Grows wr.drew,x.u.cell? ⟨ba,oa+m*5+1,none⟩=some (.string ys):=aB (ji.dr.cell (HCA.out m _ HY.out 1 _ rfl));have y2:∀x:Ext Grows wr.drew,x.u.cell? ⟨ba,oa+m*5+2,none⟩=some (.int .i64 yl):=aB (ji.dr.cell (HCA.out m _ HY.out 2 _ rfl));have y3:∀x:Ext Grows wr.drew,x.u.cell? ⟨ba,oa+m*5+3,none⟩=some (.int .i64 yt):=aB (ji.dr.cell (HCA.out m _ HY.out 3 _ rfl));have y4:∀x:Ext Grows wr.drew,x.u.cell? ⟨ba,oa+m*5+4,none⟩=some (.int .i64 yc):=aB (ji.dr.cell (HCA.out m _ HY.out 4 _ rfl));by_cases hs:eA ⟨xr,xs,xl,xt,xc⟩ ⟨yr,ys,yl,yt,yc⟩
     ·have HSB:Hid (decide (eA ⟨xr,xs,xl,xt,xc⟩ ⟨yr,ys,yl,yt,yc⟩)=true):=decide_eq_true hs
      have HS:=Ac hs;clear hs;refine kM Grows (aU 40 []) Grows.refl Grows.trans (by kernel_rfl) (by kernel_rfl) (λd _ _ _ _ h=>by cases d<;>exact h) ?_
      iterate 8 (refine dH rfl (λK hK=>?_);go_simp;refine hK _ ?_;clear hK K)
      refine dH rfl (λK hK=>?_);go_simp;apply Exists.intro
      refine⟨λx=>?_,hK _ ?_⟩
      ·go_at_call 183;exact tW (cO0 (x:=⟨xr,xs,xl,xt,xc⟩) (y:=⟨yr,ys,yl,yt,yc⟩) HSB.out _)
      clear hK K;iterate 1 (refine dH rfl (λK hK=>?_);go_simp;refine hK _ ?_;clear hK K)
      iterate 12 (refine dH rfl (λK hK=>?_);go_simp;refine hK _ ?_;clear hK K)
      by_cases h1:yc<xc
      ·have HB:Hid (Bad ⟨xr,xs,xl,xt,xc⟩ k ⟨yr,ys,yl,yt,yc⟩ m):=⟨HS.out,Or.inl h1⟩
       iterate 18 (refine dH rfl (λK hK=>?_);go_simp;refine hK _ ?_;clear hK K)
       refine wH (λw4 h4=>?_);go_wp2_with fail
       go_roundw
       case rel=>exact⟨m+1,false,hml,by go_num,rfl,nA.bad HY.out HB.out,ji.dr.tr h4⟩
       case measure=>simp[intOf];omega
      ·iterate 12 (refine dH rfl (λK hK=>?_);go_simp;refine hK _ ?_;clear hK K)
       by_cases h2:yc=xc
       ·by_cases h3:m<k
        ·have HB:Hid (Bad ⟨xr,xs,xl,xt,xc⟩ k ⟨yr,ys,yl,yt,yc⟩ m):=⟨HS.out,Or.inr ⟨h2,h3⟩⟩
         iterate 6 (refine dH rfl (λK hK=>?_);go_simp;refine hK _ ?_;clear hK K)
         refine wH (λw4 h4=>?_);go_wp2_with fail
         go_roundw
         case rel=>exact⟨m+1,false,hml,by go_num,rfl,nA.bad HY.out HB.out,ji.dr.tr h4⟩
         case measure=>simp[intOf];omega
        ·have HB:Hid (¬Bad ⟨xr,xs,xl,xt,xc⟩ k ⟨yr,ys,yl,yt,yc⟩ m):=λh=>by rcases h.2 with h4|⟨_,h4⟩<;>(try simp only at h4)<;>omega
         iterate 6 (refine dH rfl (λK hK=>?_);go_simp;refine hK _ ?_;clear hK K)
         refine wH (λw4 h4=>?_);go_wp2_with fail
         go_roundw
         case rel=>exact⟨m+1,kb,hml,by go_num,rfl,pq.out.good HY.out HB.out,ji.dr.tr h4⟩
         case measure=>simp[intOf];omega
       ·have HB:Hid (¬Bad ⟨xr,xs,xl,xt,xc⟩ k ⟨yr,ys,yl,yt,yc⟩ m):=λh=>by rcases h.2 with h4|⟨h4,_⟩<;>(try simp only at h4)<;>omega
        iterate 6 (refine dH rfl (λK hK=>?_);go_simp;refine hK _ ?_;clear hK K)
        refine wH (λw4 h4=>?_);go_wp2_with fail
        go_roundw
        case rel=>exact⟨m+1,kb,hml,by go_num,rfl,pq.out.good HY.out HB.out,ji.dr.tr h4⟩
        case measure=>simp[intOf];omega
     ·have HSB:Hid (decide (eA ⟨xr,xs,xl,xt,xc⟩ ⟨yr,ys,yl,yt,yc⟩)=false):=decide_eq_false hs
      have HS:=Ac hs;clear hs;refine kM Grows (aU 40 []) Grows.refl Grows.trans (by kernel_rfl) (by kernel_rfl) (λd _ _ _ _ h=>by cases d<;>exact h) ?_
      iterate 8 (refine dH rfl (λK hK=>?_);go_simp;refine hK _ ?_;clear hK K)
      refine dH rfl (λK hK=>?_);go_simp;apply Exists.intro
      refine⟨λx=>?_,hK _ ?_⟩
      ·go_at_call 183;exact tW (cO0 (x:=⟨xr,xs,xl,xt,xc⟩) (y:=⟨yr,ys,yl,yt,yc⟩) HSB.out _)
      clear hK K;iterate 1 (refine dH rfl (λK hK=>?_);go_simp;refine hK _ ?_;clear hK K)
      have HB:Hid (¬Bad ⟨xr,xs,xl,xt,xc⟩ k ⟨yr,ys,yl,yt,yc⟩ m):=λh=>HS.out h.1;iterate 30 (refine dH rfl (λK hK=>?_);go_simp;refine hK _ ?_;clear hK K)
      refine wH (λw4 h4=>?_);go_wp2_with fail
      go_roundw
      case rel=>exact⟨m+1,kb,hml,by go_num,rfl,pq.out.good HY.out HB.out,ji.dr.tr h4⟩
      case measure=>simp[intOf];omega
    ·obtain rfl:m=l.length:=by omega
     have ub:=pq.out.full HX.out;have az:=aa.grows ji;cases kb
     ·have HN:Hid (nN0 l (k+1) o):=ay.out.skip HX.out (λh=>by cases ub.2 h)
      clear ub;go_wp2_with fail
      go_roundw
      case rel=>exact⟨k+1,o,ae,by go_num,az,by omega,HN,hg.tr ji⟩
      case measure=>simp[intOf];omega
     ·obtain⟨hf1,hf2⟩:=ub.1 rfl
      have HN:Hid (nN0 l (k+1) (jJ0 ⟨xr,xs,xl,xt,xc⟩ o)):=ay.out.ins HX.out hf1 hf2;have HCN:Hid (a3=none->c3=0):=dE1 aa;clear ub hf1 hf2;obtain⟨u1,rfl⟩:=exq wr;go_wp2_with fail
      go_loopw [8] (λa wx=>∃(m:Nat),m<=o.length/\a=.int .i64 m/\Hid (∀j y,j<m->o[j]?=some y->lessS y ⟨xr,xs,xl,xt,xc⟩=true)/\Grows u0 wx) (λa _=>o.length-(intOf a).toNat)
      case atStart=>exact⟨0,Ah _,rfl,λj y hj=>by omega,ji⟩
      case round =>
       obtain⟨m,hm,rfl,ci,vm⟩:=hrel;obtain⟨u2,rfl⟩:=exq wr;by_cases hmo:m<o.length
       ·obtain⟨⟨yr,ys,yl,yt,yc⟩,hy⟩:∃y,o[m]?=some y:=⟨_,Ab hmo⟩
        obtain⟨ob,oo,rfl,hco⟩:=HO.out.get (aH hmo);have HCO:=Ac hco;have HY:=Ac hy;clear hco hy;have x0:∀x:Ext Grows u2.drew,x.u.cell? ⟨ba,oa+k*5,none⟩=some (.string xr):=aB (vm.dr.cell (HCA.out k _ HX.out 0 _ rfl));have x1:∀x:Ext Grows u2.drew,x.u.cell? ⟨ba,oa+k*5+1,none⟩=some (.string xs):=aB (vm.dr.cell (HCA.out k _ HX.out 1 _ rfl));have x2:∀x:Ext Grows u2.drew,x.u.cell? ⟨ba,oa+k*5+2,none⟩=some (.int .i64 xl):=aB (vm.dr.cell (HCA.out k _ HX.out 2 _ rfl));have x3:∀x:Ext Grows u2.drew,x.u.cell? ⟨ba,oa+k*5+3,none⟩=some (.int .i64 xt):=aB (vm.dr.cell (HCA.out k _ HX.out 3 _ rfl));have x4:∀x:Ext Grows u2.drew,x.u.cell? ⟨ba,oa+k*5+4,none⟩=some (.int .i64 xc):=aB (vm.dr.cell (HCA.out k _ HX.out 4 _ rfl));have y0:∀x:Ext Grows u2.drew,x.u.cell? ⟨ob,oo+m*5,none⟩=some (.string yr):=aB (vm.dr.cell (HCO.out m _ HY.out 0 _ rfl));have y1:∀x:Ext Grows u2.drew,x.u.cell? ⟨ob,oo+m*5+1,none⟩=some (.string ys):=aB (vm.dr.cell (HCO.out m _ HY.out 1 _ rfl));have y2:∀x:Ext Grows u2.drew,x.u.cell? ⟨ob,oo+m*5+2,none⟩=some (.int .i64 yl):=aB (vm.dr.cell (HCO.out m _ HY.out 2 _ rfl));have y3:∀x:Ext Grows u2.drew,x.u.cell? ⟨ob,oo+m*5+3,none⟩=some (.int .i64 yt):=aB (vm.dr.cell (HCO.out m _ HY.out 3 _ rfl));have y4:∀x:Ext Grows u2.drew,x.u.cell? ⟨ob,oo+m*5+4,none⟩=some (.int .i64 yc):=aB (vm.dr.cell (HCO.out m _ HY.out 4 _ rfl));cases r9:lessS ⟨yr,ys,yl,yt,yc⟩ ⟨xr,xs,xl,xt,xc⟩
        ·have y9:=pG0 (x:=⟨xr,xs,xl,xt,xc⟩) hm ci.out (Or.inr ⟨_,HY.out,r9⟩)
         have HIN:=Ac y9;clear y9;go_wp2_with fail
         refine kM Grows (aU 15 []) Grows.refl Grows.trans (by kernel_rfl) (by kernel_rfl) (λd _ _ _ _ h=>by cases d<;>exact h) ?_
         iterate 13 (refine dH rfl (λK hK=>?_);go_simp;refine hK _ ?_;clear hK K)
         refine dH rfl (λK hK=>?_);go_simp;apply Exists.intro
         refine⟨λx=>?_,hK _ ?_⟩
         ·go_at_call 184;exact tW (rC0 (x:=⟨yr,ys,yl,yt,yc⟩) (y:=⟨xr,xs,xl,xt,xc⟩) r9 _)
         clear hK K;iterate 1 (refine dH rfl (λK hK=>?_);go_simp;refine hK _ ?_;clear hK K)
         refine wH (λw4 h4=>?_);have dl:=vm.dr.tr h4;obtain⟨p2,pr,jc,dd⟩:=qN (k:=5) (l:=m) (h:=o.length) (HO.out.grows dl) HCN.out hm (Ae _) m7;have ai:¬c3=m:=by omega
         obtain rfl:p2=some ⟨ob,oo+m*5,none⟩:=by
          unfold sliced at pr;rw[if_neg ai,Option.map_some,iJ]at pr;injection pr with h
          exact h.symm
         clear pr;rw[Aj]at jc;have lg:=pN (HO.out.grows dl) m;have hmc:m<=c3:=by omega
         have lj:(o.take m).length=m:=by rw[Ak];omega
         have jn:(o.drop m).length=o.length-m:=Ag;have HQ1:=Ac lg;have HQ2:=Ac jc;clear lg jc
         go_wp2_with (first
          | (at_builtin;refine kV dT rfl _ _ rfl w4.heap.size (.slice none 0 0) [] (o.take m) rfl (aV.nil w4 _ _ _ _) (Grows.refl _) _ c3 (by rw[lj];rfl) HQ1.out HCN.out (by rw[lj];simp;omega) (Ae _) ?_;intro v5 w5 ak bg;have jk:=bg w4 (Grows.refl _) (Ae _);clear bg;rw[Aw]at ak;have z0:w5.cell? ⟨ba,oa+k*5,none⟩=some (.string xr):=(dl.tr jk).cell (HCA.out k _ HX.out 0 _ rfl);have z1:w5.cell? ⟨ba,oa+k*5+1,none⟩=some (.string xs):=(dl.tr jk).cell (HCA.out k _ HX.out 1 _ rfl);have z2:w5.cell? ⟨ba,oa+k*5+2,none⟩=some (.int .i64 xl):=(dl.tr jk).cell (HCA.out k _ HX.out 2 _ rfl);have z3:w5.cell? ⟨ba,oa+k*5+3,none⟩=some (.int .i64 xt):=(dl.tr jk).cell (HCA.out k _ HX.out 3 _ rfl);have z4:w5.cell? ⟨ba,oa+k*5+4,none⟩=some (.int .i64 xc):=(dl.tr jk).cell (HCA.out k _ HX.out 4 _ rfl))
          | (at_builtin;refine xG dT rfl _ _ rfl w4.heap.size _ (o.take m) ⟨xr,xs,xl,xt,xc⟩ rfl ak (Grows.refl _) _ 1 rfl _ rfl rfl (by rw[lj];omega) jk.size ?_;intro v6 w6 lq cg;have si:=cg w4 jk (Ae _);clear cg)
          | (at_builtin;refine kV dT rfl _ _ rfl w4.heap.size _ (o.take m++[⟨xr,xs,xl,xt,xc⟩]) (o.drop m) rfl lq (Grows.refl _) _ (c3-m) (by rw[jn];rfl) (HQ2.out.grows si) dd (by rw[An,lj,jn];simp;omega) si.size ?_;intro v7 w7 du cw;have adj:=cw w4 si (Ae _);clear cw))
         go_roundw
         case rel=>exact⟨k+1,jJ0 ⟨xr,xs,xl,xt,xc⟩ o,ae,by go_num,by rw[HIN.out,<-Au];exact du.base (Aq hg.size (dl.size)),by rw[sW];omega,HN,(hg.tr dl).tr adj⟩
         case measure=>simp[intOf];omega
        ·have aex:Hid (∀j y,j<m+1->o[j]?=some y->lessS y ⟨xr,xs,xl,xt,xc⟩=true):=λj y hj hy=>by
          rcases Nat.lt_succ_iff_lt_or_eq.1 hj with h|rfl
          ·exact ci.out j y h hy
          ·rw[HY.out]at hy
           rw[<-Option.some.inj hy];exact r9
         go_wp2_with fail
         refine kM Grows (aU 15 []) Grows.refl Grows.trans (by kernel_rfl) (by kernel_rfl) (λd _ _ _ _ h=>by cases d<;>exact h) ?_
         iterate 13 (refine dH rfl (λK hK=>?_);go_simp;refine hK _ ?_;clear hK K)
         refine dH rfl (λK hK=>?_);go_simp;apply Exists.intro
         refine⟨λx=>?_,hK _ ?_⟩
         ·go_at_call 184;exact tW (rC0 (x:=⟨yr,ys,yl,yt,yc⟩) (y:=⟨xr,xs,xl,xt,xc⟩) r9 _)
         clear hK K;iterate 1 (refine dH rfl (λK hK=>?_);go_simp;refine hK _ ?_;clear hK K)
         refine wH (λw4 h4=>?_);go_wp2_with fail
         go_roundw
         case rel=>exact⟨m+1,hmo,by go_num,aex,vm.dr.tr h4⟩
         case measure=>simp[intOf];omega
       ·have hme:m=o.length:=by omega
        have y9:=pG0 (x:=⟨xr,xs,xl,xt,xc⟩) hm ci.out (Or.inl hme);have HIN:=Ac y9;clear y9 hme;go_wp2_with fail
        refine kM Grows (aU 15 []) Grows.refl Grows.trans (by kernel_rfl) (by kernel_rfl) (λd _ _ _ _ h=>by cases d<;>exact h) ?_
        iterate 15 (refine dH rfl (λK hK=>?_);go_simp;refine hK _ ?_;clear hK K)
        refine wH (λw4 h4=>?_);have dl:=vm.dr.tr h4;obtain⟨p2,pr,jc,dd⟩:=qN (k:=5) (l:=m) (h:=o.length) (HO.out.grows dl) HCN.out hm (Ae _) m7
        have jx:(if c3=m then a3 else Ay (λx=>x.add (m*5)) a3)=p2:=by
         unfold sliced at pr;injection pr
        clear pr;rw[Aj]at jc;have lg:=pN (HO.out.grows dl) m;have hmc:m<=c3:=by omega
        have lj:(o.take m).length=m:=by rw[Ak];omega
        have jn:(o.drop m).length=o.length-m:=Ag;have HQ1:=Ac lg;have HQ2:=Ac jc;clear lg jc
        go_wp2_with (first
         | (at_builtin;refine kV dT rfl _ _ rfl w4.heap.size (.slice none 0 0) [] (o.take m) rfl (aV.nil w4 _ _ _ _) (Grows.refl _) _ c3 (by rw[lj];rfl) HQ1.out HCN.out (by rw[lj];simp;omega) (Ae _) ?_;intro v5 w5 ak bg;have jk:=bg w4 (Grows.refl _) (Ae _);clear bg;rw[Aw]at ak;have z0:w5.cell? ⟨ba,oa+k*5,none⟩=some (.string xr):=(dl.tr jk).cell (HCA.out k _ HX.out 0 _ rfl);have z1:w5.cell? ⟨ba,oa+k*5+1,none⟩=some (.string xs):=(dl.tr jk).cell (HCA.out k _ HX.out 1 _ rfl);have z2:w5.cell? ⟨ba,oa+k*5+2,none⟩=some (.int .i64 xl):=(dl.tr jk).cell (HCA.out k _ HX.out 2 _ rfl);have z3:w5.cell? ⟨ba,oa+k*5+3,none⟩=some (.int .i64 xt):=(dl.tr jk).cell (HCA.out k _ HX.out 3 _ rfl);have z4:w5.cell? ⟨ba,oa+k*5+4,none⟩=some (.int .i64 xc):=(dl.tr jk).cell (HCA.out k _ HX.out 4 _ rfl))
         | (at_builtin;refine xG dT rfl _ _ rfl w4.heap.size _ (o.take m) ⟨xr,xs,xl,xt,xc⟩ rfl ak (Grows.refl _) _ 1 rfl _ rfl rfl (by rw[lj];omega) jk.size ?_;intro v6 w6 lq cg;have si:=cg w4 jk (Ae _);clear cg)
         | (at_builtin;refine kV dT rfl _ _ rfl w4.heap.size _ (o.take m++[⟨xr,xs,xl,xt,xc⟩]) (o.drop m) rfl lq (Grows.refl _) _ (c3-m) (by rw[jn];rfl) (HQ2.out.grows si) dd (by rw[An,lj,jn];simp;omega) si.size ?_;intro v7 w7 du cw;have adj:=cw w4 si (Ae _);clear cw))
        go_roundw
        case rel=>exact⟨k+1,jJ0 ⟨xr,xs,xl,xt,xc⟩ o,ae,by go_num,by rw[HIN.out,<-Au];exact du.base (Aq hg.size (dl.size)),by rw[sW];omega,HN,(hg.tr dl).tr adj⟩
        case measure=>simp[intOf];omega
  ·obtain rfl:k=l.length:=by omega
   have HN:=ay.out.done;go_wp2_with fail
   go_ret;exact⟨_,rfl,HN▸aa,hg⟩
end
section
open Go Go.RowKit
attribute [local go_sem] aM aK
def kS1 (w:World) (v:Value):Option Mx->Prop
 | none=>v=.pointer none
 | some m=>∃rb,v=.pointer (some ⟨rb,0,none⟩)/\jZ w rb m
theorem kS1.grows {w w':World} {v:Value} {m:Option Mx} (h:kS1 w v m) (hg:Grows w w'):kS1 w' v m:=by
 cases m with
 | none=>exact h
 | some m=>obtain⟨rb,e,hr⟩:=h;exact⟨rb,e,hr.grows hg⟩
theorem iY0:eW Tryz.prog 29 196 2 24 bG where
 sl:=Tryz.underlying29
 info:=gF (z:=.agg #[.string ⟨#[]⟩,.int .i64 0]) (by kernel_rfl) rfl
 pos:=by decide
 by1:=by decide
 len _:=rfl
 one x u hu:=by
  simp[bG]at hu;rcases hu with rfl|rfl<;>rfl
structure zB where
 p:List cH
 d:Int
 s:List lZ1
 e:List En
structure kQ where
 pa:Option Addr
 pc:Nat
 sa:Option Addr
 sc:Nat
 ea:Option Addr
 ec:Nat
def kQ.cells (a:kQ) (x:zB):Array Value := #[.slice a.pa x.p.length a.pc,.int .i64 x.d,.slice a.sa x.s.length a.sc,.slice a.ea x.e.length a.ec]
def kQ.agg (a:kQ) (x:zB):Value := .agg (a.cells x)
structure mV (w:World) (a:kQ) (x:zB):Prop where
 p:aF w a.pa 2 (x.p.map bG)
 s:aF w a.sa 3 (x.s.map oJ1)
 e:aF w a.ea 5 (x.e.map aQ)
theorem mV.grows {w w':World} {a:kQ} {x:zB} (h:mV w a x) (hg:Grows w w'):mV w' a x:=⟨h.p.grows hg,h.s.grows hg,h.e.grows hg⟩
structure sO (x:zB):Prop where
 p:∀y∈x.p,y.name.size<=maxLen
 s:∀y∈x.s,WfI y.c
 e:∀y∈x.e,rZ y
 d:WfI x.d
 lp:x.p.length<=140737488355328
 ls:x.s.length<=140737488355328
 le:x.e.length<=140737488355328
def yD0 (y:cH):Bool:=decide (400<y.name.size)
def rT0 (y:En):Bool:=decide (400<y.r.size)||decide (400<y.s.size)
def pY (x:zB):Bool := !x.p.any yD0 && !x.e.any rT0&&decide (x.p.length<=70)&&decide (x.s.length<=300)&&decide (x.e.length<=300)
theorem jL {x:zB} (h:pY x=true):(∀y∈x.p,y.name.size<=400)/\(∀y∈x.e,y.r.size<=400/\y.s.size<=400)/\x.p.length<=70/\x.s.length<=300/\x.e.length<=300:=by
 unfold pY at h;simp only[Bool.and_eq_true,Bool.not_eq_true',decide_eq_true_eq,List.any_eq_false]at h;obtain⟨⟨⟨⟨h1,h2⟩,h3⟩,h4⟩,h5⟩:=h;refine⟨λy hy=>?_,λy hy=>?_,h3,h4,h5⟩
 ·have:=h1 y hy;unfold yD0 at this;simp at this;exact this
 ·have:=h2 y hy;unfold rT0 at this;simp at this;exact this
theorem eB1 {α:Type} {f:α->Bool} {l:List α} {k:Nat} {x:α} (h:l[k]?=some x):(l.drop k).any f=(f x||(l.drop (k+1)).any f):=by
 obtain⟨hk,rfl⟩:=List.getElem?_eq_some_iff.1 h;rw[List.drop_eq_getElem_cons hk,List.any_cons]
def srcM (x:zB):Option Mx:=if oK0 x.p.length x.d then some (runSets (newM x.p.length x.d) x.s) else none
theorem zM0 (x:zB) (A:kQ) (w:World) (ah:sO x) (ac:mV w A x) :
  Calls Tryz.prog 32 #[A.agg x] w λe w'=>e=.returned (.bool (pY x))/\Grows w w':=by
 have hlp:=ah.lp;have ia:=ah.le;have r9:=ah.ls;clear ah;obtain⟨pa,pc,sa,sc,ea,ec⟩:=A;obtain⟨xp,xd,xs,xe⟩:=x;try replace hlp:xp.length<=140737488355328:=hlp
 try replace r9:xs.length<=140737488355328:=r9
 try replace ia:xe.length<=140737488355328:=ia
 obtain⟨W0,b9⟩:=exq (w.alloc (.cells #[.slice pa xp.length pc,.int .i64 xd,.slice sa xs.length sc,.slice ea xe.length ec] 26));have cp:Grows w W0:=by rw[b9];exact Grows.alloc _ _
 have ev:=λj u h=>aT w #[.slice pa xp.length pc,.int .i64 xd,.slice sa xs.length sc,.slice ea xe.length ec] 26 (0,0) j u h;rw[<-b9]at ev;have q0:=ev 0 _ rfl;have q1:=ev 1 _ rfl;have q2:=ev 2 _ rfl;have q3:=ev 3 _ rfl;have HQ:=Ac (And.intro q0 (And.intro q1 (And.intro q2 q3)));have HP:Hid (aF W0 pa 2 (xp.map bG)):=ac.p.grows cp;have HS:Hid (aF W0 sa 3 (xs.map oJ1)):=ac.s.grows cp;have HE:Hid (aF W0 ea 5 (xe.map aQ)):=ac.e.grows cp;have HG0:=Ac cp;clear ev ac cp;show Calls _ _ #[.agg #[.slice pa xp.length pc,.int .i64 xd,.slice sa xs.length sc,.slice ea xe.length ec]] _ _
 have HL:Hid (pY ⟨xp,xd,xs,xe⟩=(!xp.any yD0 && !xe.any rT0&&decide (xp.length<=70)&&decide (xs.length<=300)&&decide (xe.length<=300))):=rfl;obtain⟨LB,hLB⟩:=exq (pY ⟨xp,xd,xs,xe⟩);rw[<-hLB]at HL ⊢;clear hLB q1 q2 q3;go_enter Tryz.func32,Tryz.ntmps32
 go_wp2_with fail
 rw[<-b9];clear b9;go_loopw [3] (λi wr=>∃(k:Nat),k<=xp.length/\i=.int .i64 k/\Hid ((xp.drop k).any yD0=xp.any yD0)/\wr=W0) (λi _=>xp.length-(intOf i).toNat)
 case atStart=>exact⟨0,Ah _,rfl,rfl,rfl⟩
 case round =>
  obtain⟨k,hk,rfl,hF,rfl⟩:=hrel;by_cases ae:k<xp.length
  ·obtain⟨⟨yn,yk⟩,hx⟩:∃y,xp[k]?=some y:=⟨_,Ab ae⟩
   obtain⟨ba,oa,rfl,be⟩:=HP.out.get (aH ae);have c0:wr.cell? ⟨ba,oa+k*2,none⟩=some (.string yn):=be k _ hx 0 _ rfl;have cy:(k:Int)<xp.length:=by omega
   have HD:=Ac (eB1 (f:=yD0) hx);rw[hF.out]at HD;clear be hx hF;by_cases hb:400<yn.size
   ·have ud:(400:Int)<yn.size:=by omega
    have HX:Hid (xp.any yD0=true):=by show _=_;rw[HD.out];unfold yD0;simp[hb]
    clear HD hb;go_wp2_with fail
    go_ret;exact⟨by rw[HL.out,HX.out];rfl,HG0.out⟩
   ·have ud:¬(400:Int)<yn.size:=by omega
    have HX:Hid ((xp.drop (k+1)).any yD0=xp.any yD0):=by show _=_;rw[HD.out];unfold yD0;simp[hb]
    clear HD hb;go_wp2_with fail
    go_roundw
    case rel=>exact⟨k+1,ae,by go_num,HX,trivial⟩
    case measure=>simp[intOf];omega
  ·obtain rfl:k=xp.length:=by omega
   have HPA:Hid (xp.any yD0=false):=by show _=_;rw[<-hF.out,Av];rfl
   have q3:=HQ.out.2.2.2;clear hF;go_wp2_with fail
   go_loopw [4] (λi wx=>∃(k:Nat),k<=xe.length/\i=.int .i64 k/\Hid ((xe.drop k).any rT0=xe.any rT0)/\wx=wr) (λi _=>xe.length-(intOf i).toNat)
   case atStart=>exact⟨0,Ah _,rfl,rfl,rfl⟩
   case round =>
    obtain⟨k,hk,rfl,hF,rfl⟩:=hrel;by_cases ae:k<xe.length
    ·obtain⟨⟨yr,ys,yl,yt,yc⟩,hx⟩:∃y,xe[k]?=some y:=⟨_,Ab ae⟩
     obtain⟨ba,oa,rfl,be⟩:=HE.out.get (aH ae);have c0:wr.cell? ⟨ba,oa+k*5,none⟩=some (.string yr):=be k _ hx 0 _ rfl;have c1:wr.cell? ⟨ba,oa+k*5+1,none⟩=some (.string ys):=be k _ hx 1 _ rfl;have cy:(k:Int)<xe.length:=by omega
     have HD:=Ac (eB1 (f:=rT0) hx);rw[hF.out]at HD;clear be hx hF;by_cases hb:400<yr.size
     ·have ud:(400:Int)<yr.size:=by omega
      have HX:Hid (xe.any rT0=true):=by show _=_;rw[HD.out];unfold rT0;simp[hb]
      clear HD hb;go_wp2_with fail
      go_ret;exact⟨by rw[HL.out,HX.out];simp,HG0.out⟩
     ·have ud:¬(400:Int)<yr.size:=by omega
      by_cases eo:400<ys.size
      ·have aia:(400:Int)<ys.size:=by omega
       have HX:Hid (xe.any rT0=true):=by show _=_;rw[HD.out];unfold rT0;simp[eo]
       clear HD hb eo;go_wp2_with fail
       go_ret;exact⟨by rw[HL.out,HX.out];simp,HG0.out⟩
      ·have aia:¬(400:Int)<ys.size:=by omega
       have HX:Hid ((xe.drop (k+1)).any rT0=xe.any rT0):=by show _=_;rw[HD.out];unfold rT0;simp[hb,eo]
       clear HD hb eo;go_wp2_with fail
       go_roundw
       case rel=>exact⟨k+1,ae,by go_num,HX,trivial⟩
       case measure=>simp[intOf];omega
    ·obtain rfl:k=xe.length:=by omega
     have HEA:Hid (xe.any rT0=false):=by show _=_;rw[<-hF.out,Av];rfl
     have q2:=HQ.out.2.2.1;have e1:decide ((xp.length:Int)<=70)=decide (xp.length<=70):=decide_eq_decide.2 (by omega);have e2:decide ((xs.length:Int)<=300)=decide (xs.length<=300):=decide_eq_decide.2 (by omega);have e3:decide ((xe.length:Int)<=300)=decide (xe.length<=300):=decide_eq_decide.2 (by omega);have HL2:Hid (LB=(decide ((xp.length:Int)<=70)&&decide ((xs.length:Int)<=300)&&decide ((xe.length:Int)<=300))):=by show _=_;rw[HL.out,HPA.out,HEA.out,e1,e2,e3];simp
     clear hF e1 e2 e3 ae;by_cases h1:(xp.length:Int)<=70
     ·by_cases h2:(xs.length:Int)<=300
      ·go_wp2_with fail
       go_ret;exact⟨by rw[HL2.out];simp[h1,h2],HG0.out⟩
      ·go_wp2_with fail
       go_ret;exact⟨by rw[HL2.out];simp;omega,HG0.out⟩
     ·go_wp2_with fail
      go_ret;exact⟨by rw[HL2.out];simp;omega,HG0.out⟩
theorem eG0 (x:zB) (A:kQ) (w:World) (ah:sO x) (ac:mV w A x) :
  Calls Tryz.prog 12 #[A.agg x] w λe w'=>∃v,e=.returned v/\fC1 w' v (srcM x)/\Grows w w':=by
 have HOS:=Ac ah.s;have hlp:=ah.lp;have r9:=ah.ls;clear ah;obtain⟨pa,pc,sa,sc,ea,ec⟩:=A;obtain⟨xp,xd,xs,xe⟩:=x;try replace hlp:xp.length<=140737488355328:=hlp
 try replace r9:xs.length<=140737488355328:=r9
 try replace ia:xe.length<=140737488355328:=ia
 obtain⟨W0,b9⟩:=exq (w.alloc (.cells #[.slice pa xp.length pc,.int .i64 xd,.slice sa xs.length sc,.slice ea xe.length ec] 26));have cp:Grows w W0:=by rw[b9];exact Grows.alloc _ _
 have ev:=λj u h=>aT w #[.slice pa xp.length pc,.int .i64 xd,.slice sa xs.length sc,.slice ea xe.length ec] 26 (0,0) j u h;rw[<-b9]at ev;have q0:=ev 0 _ rfl;have q1:=ev 1 _ rfl;have q2:=ev 2 _ rfl;have q3:=ev 3 _ rfl;have HQ:=Ac (And.intro q0 (And.intro q1 (And.intro q2 q3)));have HP:Hid (aF W0 pa 2 (xp.map bG)):=ac.p.grows cp;have HS:Hid (aF W0 sa 3 (xs.map oJ1)):=ac.s.grows cp;have HE:Hid (aF W0 ea 5 (xe.map aQ)):=ac.e.grows cp;have HG0:=Ac cp;clear ev ac cp;show Calls _ _ #[.agg #[.slice pa xp.length pc,.int .i64 xd,.slice sa xs.length sc,.slice ea xe.length ec]] _ _
 have HSM:Hid (srcM ⟨xp,xd,xs,xe⟩=if oK0 xp.length xd then some (runSets (newM xp.length xd) xs) else none):=rfl
 obtain⟨SM,xq⟩:=exq (srcM ⟨xp,xd,xs,xe⟩);rw[<-xq]at HSM ⊢;clear xq q2 q3;replace HOS:Hid (∀y∈xs,WfI y.c):=HOS;go_enter Tryz.func12,Tryz.ntmps12
 cases jg:oK0 xp.length xd with
 | false =>
  rw[jg]at HSM;go_wp2_with fail
  rw[<-b9];clear b9;refine(dD1 xp.length xd _ jg).mono ?_;rintro e w1 ⟨rfl,rfl⟩;go_wp2_with fail
  go_ret;exact⟨_,rfl,by rw[HSM.out];rfl,HG0.out⟩
 | true =>
  rw[jg]at HSM;replace HSM:Hid (SM=some (runSets (newM xp.length xd) xs)):=HSM;go_wp2_with fail
  rw[<-b9];clear b9;refine(zJ0 xp.length xd _ jg).mono ?_;rintro e w1 ⟨rfl,oc,ag⟩;clear q0 q1;go_wp2_with fail
  go_loopw [5] (λi wr=>∃(k:Nat),k<=xs.length/\i=.int .i64 k/\fM wr (W0.heap.size+1) W0.heap.size (runSets (newM xp.length xd) (xs.take k))/\Grows W0 wr) (λi _=>xs.length-(intOf i).toNat)
  case atStart=>exact⟨0,Ah _,rfl,oc,ag⟩
  case round =>
  obtain⟨k,hk,rfl,hm,hg⟩:=hrel;clear oc ag;by_cases ae:k<xs.length
  ·obtain⟨⟨sr,sl,sq⟩,hs⟩:∃s,xs[k]?=some s:=⟨_,Ab ae⟩
   have hsq:WfI sq:=HOS.out _ (At hs);have HT:=Ac (yR (m:=newM xp.length xd) hs);obtain⟨lb,lo,rfl,bh⟩:=HS.out.get (aH ae);have cy:(k:Int)<xs.length:=by omega
   have b2:=hg.cell HQ.out.2.2.1;have z2:∀x:Ext Grows wr.drew,x.u.cell? ⟨w.heap.size,2,none⟩=some (.slice (some ⟨lb,lo,none⟩) xs.length sc):=aB (hg.dr.cell HQ.out.2.2.1);have y0:∀x:Ext Grows wr.drew,x.u.cell? ⟨lb,lo+k*3,none⟩=some (.int .i64 sr):=aB (hg.dr.cell (bh k _ hs 0 _ rfl));have y1:∀x:Ext Grows wr.drew,x.u.cell? ⟨lb,lo+k*3+1,none⟩=some (.int .i64 sl):=aB (hg.dr.cell (bh k _ hs 1 _ rfl));have y2:∀x:Ext Grows wr.drew,x.u.cell? ⟨lb,lo+k*3+2,none⟩=some (.int .i64 sq):=aB (hg.dr.cell (bh k _ hs 2 _ rfl));clear bh hs;generalize runSets (newM xp.length xd) (xs.take k)=M1 at *;go_wp2_with fail
   refine qA 19 (aU 19 []) (by kernel_rfl) (λd _ _ _ _ h=>by cases d<;>exact h) ?_
   iterate 19 (refine aG rfl (λK hK=>?_);go_simp;refine hK _ ?_;clear hK K)
   refine bH ?_;simp only[Al,Ao];clear z2 y0 y1 y2 b2;have hSV:=yS0 wr.drew _ _ _ (hm.grows (Grows.drew wr)) sr sl sq hsq;go_wp2_with fail
   refine hSV.mono ?_;rintro e w4 ⟨rfl,ou,bj⟩;have dl:Grows W0 w4:=hg.dr.grown bj (λq hq=>by cases hq;exact Ae _);go_wp2_with fail
   go_roundw
   case rel=>exact⟨k+1,ae,by go_num,by rw[HT.out];exact ou,dl⟩
   case measure=>simp[intOf];omega
  ·obtain rfl:k=xs.length:=by omega
   rw[Aj]at hm;have b2:=hg.cell HQ.out.2.2.1;go_wp2_with fail
   go_ret;refine⟨_,rfl,?_,Grows.trans _ _ _ HG0.out hg⟩;rw[HSM.out];exact⟨_,_,rfl,hm⟩
theorem cF1 (x:zB) (A:kQ) (w:World) (ah:sO x) (ac:mV w A x) :
  Calls Tryz.prog 80 #[A.agg x] w λe w'=>∃v,e=.returned v/\kS1 w' v (srcM x)/\Grows w w':=by
 have HOS:=Ac ah.s;have hlp:=ah.lp;have r9:=ah.ls;clear ah;obtain⟨pa,pc,sa,sc,ea,ec⟩:=A;obtain⟨xp,xd,xs,xe⟩:=x;try replace hlp:xp.length<=140737488355328:=hlp
 try replace r9:xs.length<=140737488355328:=r9
 try replace ia:xe.length<=140737488355328:=ia
 obtain⟨W0,b9⟩:=exq (w.alloc (.cells #[.slice pa xp.length pc,.int .i64 xd,.slice sa xs.length sc,.slice ea xe.length ec] 26));have cp:Grows w W0:=by rw[b9];exact Grows.alloc _ _
 have ev:=λj u h=>aT w #[.slice pa xp.length pc,.int .i64 xd,.slice sa xs.length sc,.slice ea xe.length ec] 26 (0,0) j u h;rw[<-b9]at ev;have q0:=ev 0 _ rfl;have q1:=ev 1 _ rfl;have q2:=ev 2 _ rfl;have q3:=ev 3 _ rfl;have HQ:=Ac (And.intro q0 (And.intro q1 (And.intro q2 q3)));have HP:Hid (aF W0 pa 2 (xp.map bG)):=ac.p.grows cp;have HS:Hid (aF W0 sa 3 (xs.map oJ1)):=ac.s.grows cp;have HE:Hid (aF W0 ea 5 (xe.map aQ)):=ac.e.grows cp;have HG0:=Ac cp;clear ev ac cp;show Calls _ _ #[.agg #[.slice pa xp.length pc,.int .i64 xd,.slice sa xs.length sc,.slice ea xe.length ec]] _ _
 have HSM:Hid (srcM ⟨xp,xd,xs,xe⟩=if oK0 xp.length xd then some (runSets (newM xp.length xd) xs) else none):=rfl
 obtain⟨SM,xq⟩:=exq (srcM ⟨xp,xd,xs,xe⟩);rw[<-xq]at HSM ⊢;clear xq q2 q3;replace HOS:Hid (∀y∈xs,WfI y.c):=HOS;go_enter Tryz.func80,Tryz.ntmps80
 cases jg:oK0 xp.length xd with
 | false =>
  rw[jg]at HSM;go_wp2_with fail
  rw[<-b9];clear b9;refine(gJ1 xp.length xd _ jg).mono ?_;rintro e w1 ⟨rfl,rfl⟩;go_wp2_with fail
  go_ret;exact⟨_,rfl,by rw[HSM.out];rfl,HG0.out⟩
 | true =>
  rw[jg]at HSM;replace HSM:Hid (SM=some (runSets (newM xp.length xd) xs)):=HSM;go_wp2_with fail
  rw[<-b9];clear b9;refine(gW1 xp.length xd _ jg).mono ?_;rintro e w1 ⟨rfl,oc,ag⟩;clear q0 q1;go_wp2_with fail
  go_loopw [4] (λi wr=>∃(k:Nat),k<=xs.length/\i=.int .i64 k/\jZ wr W0.heap.size (runSets (newM xp.length xd) (xs.take k))/\Grows W0 wr) (λi _=>xs.length-(intOf i).toNat)
  case atStart=>exact⟨0,Ah _,rfl,oc,ag⟩
  case round =>
  obtain⟨k,hk,rfl,hm,hg⟩:=hrel;clear oc ag;by_cases ae:k<xs.length
  ·obtain⟨⟨sr,sl,sq⟩,hs⟩:∃s,xs[k]?=some s:=⟨_,Ab ae⟩
   have hsq:WfI sq:=HOS.out _ (At hs);have HT:=Ac (yR (m:=newM xp.length xd) hs);obtain⟨lb,lo,rfl,bh⟩:=HS.out.get (aH ae);have cy:(k:Int)<xs.length:=by omega
   have b2:=hg.cell HQ.out.2.2.1;have z2:∀x:Ext Grows wr.drew,x.u.cell? ⟨w.heap.size,2,none⟩=some (.slice (some ⟨lb,lo,none⟩) xs.length sc):=aB (hg.dr.cell HQ.out.2.2.1);have y0:∀x:Ext Grows wr.drew,x.u.cell? ⟨lb,lo+k*3,none⟩=some (.int .i64 sr):=aB (hg.dr.cell (bh k _ hs 0 _ rfl));have y1:∀x:Ext Grows wr.drew,x.u.cell? ⟨lb,lo+k*3+1,none⟩=some (.int .i64 sl):=aB (hg.dr.cell (bh k _ hs 1 _ rfl));have y2:∀x:Ext Grows wr.drew,x.u.cell? ⟨lb,lo+k*3+2,none⟩=some (.int .i64 sq):=aB (hg.dr.cell (bh k _ hs 2 _ rfl));clear bh hs;generalize runSets (newM xp.length xd) (xs.take k)=M1 at *;go_wp2_with fail
   refine qA 19 (aU 19 []) (by kernel_rfl) (λd _ _ _ _ h=>by cases d<;>exact h) ?_
   iterate 19 (refine aG rfl (λK hK=>?_);go_simp;refine hK _ ?_;clear hK K)
   refine bH ?_;simp only[Al,Ao];clear z2 y0 y1 y2 b2;have hSV:=gL1 wr.drew _ _ (hm.grows (Grows.drew wr)) sr sl sq;go_wp2_with fail
   refine hSV.mono ?_;rintro e w4 ⟨rfl,ou,g,hgl,bj⟩;have dl:Grows W0 w4:=hg.dr.grown bj (λq hq=>by cases hq;omega);go_wp2_with fail
   go_roundw
   case rel=>exact⟨k+1,ae,by go_num,by rw[HT.out];exact ou,dl⟩
   case measure=>simp[intOf];omega
  ·obtain rfl:k=xs.length:=by omega
   rw[Aj]at hm;have b2:=hg.cell HQ.out.2.2.1;go_wp2_with fail
   go_ret;refine⟨_,rfl,?_,Grows.trans _ _ _ HG0.out hg⟩;rw[HSM.out];exact⟨_,rfl,hm⟩
def gZ0 (p:List cH) (w:World) (e:Ending) (w':World):Prop:=∃a cap,e=.returned (.slice a p.length cap)/\aF w' a 2 (p.map bG)/\Grows w w'
theorem gL0 (p:List cH) (pa:Option Addr) (ca:Nat) (w:World) (lp:p.length*24<=140737488355328) (hp:aF w pa 2 (p.map bG)) :
  Calls Tryz.prog 79 #[.slice pa p.length ca] w (gZ0 p w):=by
 go_enter Tryz.func79,Tryz.ntmps79
 go_wp2_with fail
 go_loopw [3,4] (λv i wr=>∃(k:Nat),k<=p.length/\i=.int .i64 k/\aV wr w.heap.size 196 2 bG v (p.take k)/\Grows w wr) (λ_ i _=>p.length-(intOf i).toNat)
 case atStart=>exact⟨0,Ah _,rfl,aV.nil _ _ _ _ _,Grows.refl _⟩
 case round =>
  obtain⟨k,hk,rfl,aa,hg⟩:=hrel;by_cases ae:k<p.length
  ·obtain⟨⟨xn,xk⟩,hx⟩:∃x,p[k]?=some x:=⟨_,Ab ae⟩
   obtain⟨ba,oa,rfl,be⟩:=(hp.grows hg).get (aH ae);have c0:wr.cell? ⟨ba,oa+k*2,none⟩=some (.string xn):=be k _ hx 0 _ rfl;have c1:wr.cell? ⟨ba,oa+k*2+1,none⟩=some (.int .i64 xk):=be k _ hx 1 _ rfl;have x0:=aB (w:=wr.drew) c0;have x1:=aB (w:=wr.drew) c1;have htk:p.take (k+1)=p.take k++[⟨xn,xk⟩]:=by rw[List.take_add_one,hx];rfl
   have j7:(p.take k).length=k:=by rw[Ak];omega
   have HT:=Ac htk;obtain⟨a3,c3,rfl,m7,hc2,_⟩:=aa.at_ iY0.len;rw[j7] at *;clear be hx htk j7;go_wp2_with fail
   refine jI Grows 13 (aU 13 [12]) Grows.refl Grows.trans (by kernel_rfl) (by kernel_rfl) (λd _ _ _ _ h=>by cases d<;>exact h) ?_
   repeat (refine lH rfl (λK hK=>?_);go_simp;first|(refine hK _ ?_;clear hK K)|(apply Exists.intro;refine⟨λx=>?_,hK _ ?_⟩;(fail);clear hK K))
   clear x0 x1;refine fE rfl rfl (λK hK w3 h3=>?_);go_simp;refine⟨Grows.alloc _ _,hK _ _ ?_⟩;clear hK K
   refine sS (λw4 h4=>?_);simp only[Al,Ao];have bj:Grows wr w4:=(((Grows.drew _).tr h3).al _).tr h4;go_wp2_with (at_builtin;refine kV1 iY0 rfl _ _ rfl w.heap.size _ _ ⟨xn,xk⟩ rfl aa bj w3.heap.size 1 (kI h4 rfl) rfl (by rw[Ak];omega) hg.size ?_;intro v' w5 kc bg)
   have dp:=bg w hg (Ae _);go_wp2
   go_roundw
   case rel=>exact⟨k+1,ae,by go_num,by rw[HT.out];exact kc,dp⟩
   case measure=>simp[intOf];omega
  ·obtain rfl:k=p.length:=by omega
   rw[Aj]at aa;obtain⟨a3,c3,rfl,m7,hc2,ac⟩:=aa.at_ iY0.len;go_wp2
   go_ret;exact⟨_,_,rfl,ac,hg⟩
theorem mH {w:World} {a:Option Addr} {c:Nat} {l:List UInt8} (h:aF w a 1 (l.map aX)):(convert 36 9 (.slice a l.length c)).run Tryz.prog w=.ok (.string (mkB l)) w:=by
 cases l with
 | nil =>
  rw[run_convert_bytes_string w 36 9 5 a ([]:List UInt8).length c Tryz.underlying36 Tryz.underlying5 Tryz.underlying9];cases a<;>(simp[Conv.bytesToString];rfl)
 | cons x r =>
  obtain⟨b,o,rfl,hc⟩:=h.get (by simp);generalize hL:x::r=L at *;have hz:(mkB L).size=L.length:=by rw[Lib.size_eq,gZ]
  have hB:Lib.Bytes w b o (mkB L):=λi hi=>by
   rw[hz]at hi;have h1:=hc i L[i] (by simp_all) 0 _ rfl;have hg:(mkB L)[i]'(by rw[hz];exact hi)=L[i]:=rfl;simp_all
  have:=Lib.run_convert_whole (P:=Tryz.prog) w 36 5 9 Tryz.underlying36 Tryz.underlying5 Tryz.underlying9 b o (mkB L) hB c
  rw[hz]at this;exact this
def rdT (l:List UInt8):Option (ByteArray×Nat):=match rdU l with
 | none=>none
 | some (n,j)=>if n<=(l.drop j).length then some (mkB ((l.drop j).take n),j+n) else none
def wS0 (k:Nat):Option (ByteArray×Nat)->Value
 | some (v,n) => .tuple #[.string v,.int .i64 ((k+n:Nat):Int),.bool true]
 | none => .tuple #[.string ⟨#[]⟩,.int .i64 0,.bool false]
def nC1 (R:Option (ByteArray×Nat)) (rb k:Nat) (w:World) (e:Ending) (w':World):Prop :=
 ((∃v n,R=some (v,n)/\e=.returned (.string v)/\w'.cell? ⟨rb,1,none⟩=some (.int .i64 ((k+n:Nat):Int)))\/(R=none/\e=.panicked [{ v:=lO0,recovered:=false }]))/\EB rb w w'
theorem tP0 (p0 p1 p2:Nat) (w:World) (qj:List PanicEntry) (v0 v1 v2:Value) (c0:w.cell? ⟨p0,0,none⟩=some v0) (c1:w.cell? ⟨p1,0,none⟩=some v1) (c2:w.cell? ⟨p2,0,none⟩=some v2)
  (f0:w.frozen? ⟨p0,0,none⟩=false) (f1:w.frozen? ⟨p1,0,none⟩=false) (f2:w.frozen? ⟨p2,0,none⟩=false) (n01:p0≠p1) (n02:p0≠p2) (n12:p1≠p2) (B:Nat) (xj:B<=p0) (ol:B<=p1) (ij:B<=p2) :
  CallsD Tryz.prog 213 #[.pointer (some ⟨p0,0,none⟩),.pointer (some ⟨p1,0,none⟩),.pointer (some ⟨p2,0,none⟩)] (.panicking ({ v:=lO0,recovered:=false }::qj)) w λe u' w' =>
   e=.returned (.tuple #[])/\u' = .panicking ({ v:=lO0,recovered:=true }::qj)/\w'.cell? ⟨p0,0,none⟩=some (.string ⟨#[]⟩)/\w'.cell? ⟨p1,0,none⟩=some (.int .i64 0)/\w'.cell? ⟨p2,0,none⟩=some (.bool false)/\EB B w w':=by
 have hta:∀W:World,(Instr.typeAssert (.iface 260 (.agg #[])) 20 260 true).run Tryz.prog W=.ok (.tuple #[.agg #[],.bool true]) W:=λW=>by kernel_rfl
 have np:=Grows.alloc w (.cells #[] 260);have b0:=Af w _ c0;have b1:=Af w _ c1;have b2:=Af w _ c2;have d0:=np.cell c0;have d1:=np.cell c1;have d2:=np.cell c2;have g0:=(np.froz (p:=⟨p0,0,none⟩) b0).trans f0;have g1:=(np.froz (p:=⟨p1,0,none⟩) b1).trans f1;have g2:=(np.froz (p:=⟨p2,0,none⟩) b2).trans f2;have e1:(w.alloc (.cells #[] 260) |>.setCell ⟨p0,0,none⟩ (.string ⟨#[]⟩)).cell? ⟨p1,0,none⟩=some v1:=(Aa _ _ _ _ (by simp_all)).trans d1
 have e2:((w.alloc (.cells #[] 260) |>.setCell ⟨p0,0,none⟩ (.string ⟨#[]⟩)).setCell ⟨p1,0,none⟩ (.int .i64 0)).cell? ⟨p2,0,none⟩=some v2:=(Aa _ _ _ _ (by simp_all)).trans ((Aa _ _ _ _ (by simp_all)).trans d2)
 refine callsD_of_wpS Tryz.func213 rfl λc₀ cs hu=>?_;apply wpS_seq
 apply wpS_region
 simp[wpOpsS,go_sem,recoverD,hu,Tryz.ntmps213,Exit.thenS,lO0]
 refine wpS_of_wp ?_;rw[show (#[Value.pointer (some ⟨p0,0,none⟩),.pointer (some ⟨p1,0,none⟩),.pointer (some ⟨p2,0,none⟩)]++(Ax 11 undef).setIfInBounds 4 (.iface 260 (.agg #[]))) = #[.pointer (some ⟨p0,0,none⟩),.pointer (some ⟨p1,0,none⟩),.pointer (some ⟨p2,0,none⟩),undef,undef,undef,undef,.iface 260 (.agg #[]),undef,undef,undef,undef,undef,undef] from rfl]
 go_wp2
 have nj:(((w.setCell ⟨p0,0,none⟩ (.string ⟨#[]⟩)).setCell ⟨p1,0,none⟩ (.int .i64 0)).setCell ⟨p2,0,none⟩ (.bool false)).cell? ⟨p0,0,none⟩=some (.string ⟨#[]⟩):=by
  rw[Aa _ _ _ _ (by simp_all),Aa _ _ _ _ (by simp_all)];exact Ad _ _ _ c0
 have ei:(((w.setCell ⟨p0,0,none⟩ (.string ⟨#[]⟩)).setCell ⟨p1,0,none⟩ (.int .i64 0)).setCell ⟨p2,0,none⟩ (.bool false)).cell? ⟨p1,0,none⟩=some (.int .i64 0):=by
  rw[Aa _ _ _ _ (by simp_all)];exact Ad _ _ _ ((Aa _ _ _ _ (by simp_all)).trans c1)
 have im:(((w.setCell ⟨p0,0,none⟩ (.string ⟨#[]⟩)).setCell ⟨p1,0,none⟩ (.int .i64 0)).setCell ⟨p2,0,none⟩ (.bool false)).cell? ⟨p2,0,none⟩=some (.bool false) :=
  Ad _ _ _ ((Aa _ _ _ _ (by simp_all)).trans ((Aa _ _ _ _ (by simp_all)).trans c2))
 have gp:Below B w ((((w.setCell ⟨p0,0,none⟩ (.string ⟨#[]⟩)).setCell ⟨p1,0,none⟩ (.int .i64 0)).setCell ⟨p2,0,none⟩ (.bool false)).alloc (.cells #[] 260)):=((((Below.refl B w).setCell (p:=⟨p0,0,none⟩) xj _).setCell (p:=⟨p1,0,none⟩) ol _).setCell (p:=⟨p2,0,none⟩) ij _).alloc (by simp;omega) _;have om:=Grows.alloc (((w.setCell ⟨p0,0,none⟩ (.string ⟨#[]⟩)).setCell ⟨p1,0,none⟩ (.int .i64 0)).setCell ⟨p2,0,none⟩ (.bool false)) (.cells #[] 260);have k0:=om.cell nj;have k1:=om.cell ei;have k2:=om.cell im;have dh:EB B w ((((w.setCell ⟨p0,0,none⟩ (.string ⟨#[]⟩)).setCell ⟨p1,0,none⟩ (.int .i64 0)).setCell ⟨p2,0,none⟩ (.bool false)).alloc (.cells #[] 260)):=⟨gp,gp.size⟩;exact⟨rfl,_,rfl,_,results_none rfl _ _ _,rfl,rfl,k0,k1,k2,dh⟩
theorem fI1 (p0 p1 p2:Nat) (w:World) :
  CallsD Tryz.prog 213 #[.pointer (some ⟨p0,0,none⟩),.pointer (some ⟨p1,0,none⟩),.pointer (some ⟨p2,0,none⟩)] .returning w λe u' w'=>e=.returned (.tuple #[])/\u' = .returning/\w'=w:=by
 refine callsD_of_wpS Tryz.func213 rfl λc₀ cs hu=>?_;apply wpS_seq
 apply wpS_region
 simp[wpOpsS,go_sem,recoverD,hu,Tryz.ntmps213,Exit.thenS]
 refine wpS_of_wp ?_;rw[show (#[Value.pointer (some ⟨p0,0,none⟩),.pointer (some ⟨p1,0,none⟩),.pointer (some ⟨p2,0,none⟩)]++(Ax 11 undef).setIfInBounds 4 .nilIface) = #[.pointer (some ⟨p0,0,none⟩),.pointer (some ⟨p1,0,none⟩),.pointer (some ⟨p2,0,none⟩),undef,undef,undef,undef,.nilIface,undef,undef,undef,undef,undef,undef] from rfl]
 go_wp2
 cases c₀
 simp only at hu;subst hu;exact⟨rfl,_,rfl,_,results_none rfl _ _ _,rfl,rfl,rfl⟩
theorem mG1 (b:List UInt8) (rb k:Nat) (ba:Option Addr) (bc:Nat) (w:World) (hk:k<=b.length) (hb:b.length<=1099511627776) (fg:b.length<=bc) (jl:ba=none->bc=0) (ac:aF w ba 1 (b.map aX)) (hba:∀q:Addr,ba=some q->b≠[]->q.block<rb)
  (c0:w.cell? ⟨rb,0,none⟩=some (.slice ba b.length bc)) (c1:w.cell? ⟨rb,1,none⟩=some (.int .i64 k)) (f1:w.frozen? ⟨rb,1,none⟩=false) :
  Calls Tryz.prog 163 #[.pointer (some ⟨rb,0,none⟩)] w (nC1 (rdT (b.drop k)) rb k w):=by
 have hRT:∀n j,rdU (b.drop k)=some (n,j)->rdT (b.drop k)=if n<=(b.drop (k+j)).length then some (mkB ((b.drop (k+j)).take n),j+n) else none:=λn j h=>by
  unfold rdT;rw[h];simp only;rw[List.drop_drop]
 have hR0:rdU (b.drop k)=none->rdT (b.drop k)=none:=λh=>by unfold rdT;rw[h]
 have CN:=Ac (dG1 b rb k ba bc w hk hb ac hba c0 c1 f1);have HAT:=Ac ac;have HNC:=Ac jl;have HBA:=Ac hba;have hrb:=Af w _ c0;simp only at hrb
 cases hU:rdU (b.drop k) with
 | none =>
  rw[hU]at CN;have HR:=Ac (hR0 hU);clear hRT hR0 hU ac hba;go_enter Tryz.func163,Tryz.ntmps163
  go_wp2_with fail
  refine CN.out.mono ?_;rintro e w1 ⟨kq,dh⟩;rcases kq with ⟨v,n,hR,_⟩|⟨_,rfl⟩
  ·cases hR
  ·exact⟨rfl,Or.inr ⟨HR.out,rfl⟩,dh⟩
 | some x =>
  obtain⟨n,j⟩:=x;rw[hU]at CN;have HR:=Ac (hRT n j hU);obtain⟨r,vk,hlr,hjj⟩:=gE0.1 hU
  have hj:j<=b.length-k:=by
   have:=congrArg List.length hlr
   rw[Ag,An]at this;omega
  clear hlr hjj r;clear hRT hR0 ac hba hU;obtain⟨K,hK⟩:=exq (k+j);have hKb:K<=b.length:=by omega
  rw[<-hK]at HR;have HK:=Ac hK;go_enter Tryz.func163,Tryz.ntmps163
  go_wp2_with fail
  refine CN.out.mono ?_;rintro e w1 ⟨kq,dh⟩;rcases kq with ⟨v,n',hR,rfl,m7,qh,hf1⟩|⟨hR,_⟩
  case inr=>cases hR
  obtain⟨rfl,rfl⟩:n=v/\j=n':=by simpa using hR
  rw[<-hK]at m7;have z0:∀x:Ext Grows w1.drew,x.u.cell? ⟨rb,0,none⟩=some (.slice ba b.length bc):=aB ((Grows.drew w1).cell qh);have z1:∀x:Ext Grows w1.drew,x.u.cell? ⟨rb,1,none⟩=some (.int .i64 (K:Int)):=aB ((Grows.drew w1).cell m7);have adk:IntKind.i64.wrap ((b.length:Int)-(K:Int))=((b.length-K:Nat):Int):=by simp[Ar,As,Ap];omega
  have wcv:IntKind.u64.wrap ((b.length-K:Nat):Int)=((b.length-K:Nat):Int):=by simp[Ar,As,Ap];omega
  clear hR hK;by_cases gk:b.length-K<n
  ·have ud:((b.length-K:Nat):Int)<n:=by omega
   have HRN:Hid (rdT (b.drop k)=none):=by show _=_;rw[HR.out,if_neg (by rw[Ag];omega)]
   clear HR;go_wp2_with fail
   refine bE (aU 13 []) (by kernel_rfl) (λd _ _ _ _ h=>by cases d<;>exact h) ?_
   iterate 13 (refine aG rfl (λK hK=>?_);go_simp;refine hK _ ?_;clear hK K)
   refine bH ?_;clear z0 z1;go_wp2_with fail
   exact⟨rfl,Or.inr ⟨HRN.out,rfl⟩,EB.trans _ _ _ _ dh (EB.of (Grows.drew w1) (Aq (Az hrb) dh.2))⟩
  ·have ud:¬((b.length-K:Nat):Int)<n:=by omega
   have HRS:Hid (rdT (b.drop k)=some (mkB ((b.drop K).take n),j+n)):=by show _=_;rw[HR.out,if_pos (by rw[Ag];omega)]
   clear HR;go_wp2_with fail
   refine bE (aU 13 []) (by kernel_rfl) (λd _ _ _ _ h=>by cases d<;>exact h) ?_
   iterate 13 (refine aG rfl (λK hK=>?_);go_simp;refine hK _ ?_;clear hK K)
   refine bH ?_;clear z0 z1;have y0:∀x:Ext Grows w1.drew.drew,x.u.cell? ⟨rb,0,none⟩=some (.slice ba b.length bc):=aB ((Grows.drew _).cell ((Grows.drew w1).cell qh));have y1:∀x:Ext Grows w1.drew.drew,x.u.cell? ⟨rb,1,none⟩=some (.int .i64 (K:Int)):=aB ((Grows.drew _).cell ((Grows.drew w1).cell m7));have wn:IntKind.i64.wrap (n:Int)=n:=by simp[Ar,As,Ap];omega
   have wa:IntKind.i64.wrap ((K:Int)+n)=((K+n:Nat):Int):=by simp[Ar,As,Ap];omega
   go_wp2_with fail
   refine bE (aU 18 []) (by kernel_rfl) (λd _ _ _ _ h=>by cases d<;>exact h) ?_
   have h01:(0:Int)<=(K:Int)+n:=by omega
   have h02:(K:Int)+n<=bc:=by omega
   have tn:((K:Int)+n).toNat=K+n:=by omega
   have tk:K<=K+n:=by omega
   have tm:K+n-K=n:=by omega
   have HAT1:aF w1 ba 1 (b.map aX):=λai=>by
    obtain⟨bb,bo,e,hc⟩:=HAT.out ai;have ae:=HBA.out _ e (λh0=>ai (by rw[h0];rfl));exact⟨bb,bo,e,λi row hi j v hj=>(Below.cell dh.1 (by simpa using ae)).trans (hc i row hi j v hj)⟩
   obtain⟨a',jx,j4,_⟩:=qN (c:=bc) (l:=K) (h:=K+n) (k:=1) HAT1 HNC.out (by omega) (by omega) (by omega);rw[show K+n-K=n by omega]at jx
   have aib:(if bc=K then ba else Ay (λx=>x.add K) ba)=a':=by
    unfold sliced at jx;by_cases vn:bc=K
    ·rw[if_pos vn]at jx ⊢;exact(Value.slice.inj jx).1
    ·rw[if_neg vn]at jx ⊢
     have:=(Value.slice.inj jx).1
     rw[<-this];congr 1
     funext x
     rw[Ba]
   have ux:((b.take (K+n)).drop K)=(b.drop K).take n:=by rw[List.take_drop]
   have za:((b.drop K).take n).length=n:=by rw[Ak,Ag];omega
   rw[ux]at j4
   have hcv:∀x:Ext Grows w1.drew.drew,(convert 36 9 (.slice a' n (bc-K))).run Tryz.prog x.u=.ok (.string (mkB ((b.drop K).take n))) x.u:=λx=>by
    have:=mH (c:=bc-K) (j4.grows (Grows.trans _ _ _ (Grows.trans _ _ _ (Grows.drew w1) (Grows.drew _)) x.h))
    rw[za]at this;exact this
   generalize (b.drop K).take n=S at *;iterate 18 (refine aG rfl (λK hK=>?_);go_simp;refine hK _ ?_;clear hK K)
   refine bH ?_;go_wp2_with fail
   go_ret;refine⟨Or.inl ⟨_,_,HRS.out,rfl,?_⟩,EB.trans _ _ _ _ (EB.trans _ _ _ _ dh (⟨(Below.refl rb w1).setCell (p:=⟨rb,1,none⟩) (Ae rb) _,by simp⟩:EB rb w1 (w1.setCell ⟨rb,1,none⟩ (.int .i64 ((K:Int)+n))))) (EB.of ((Grows.drew _).dr) (by simp;exact Aq (Az hrb) dh.2))⟩;rw[show ((k+(j+n):Nat):Int)=(K:Int)+n by rw[HK.out];push_cast;omega]
   exact Ad _ _ _ m7
structure rW1 (w:World) (s:Value) (k:Int) (W:World):Prop where
 g:Grows w W
 sz:w.heap.size+1+1+1<W.heap.size
 c0:W.cell? ⟨w.heap.size,0,none⟩=some (.string ⟨#[]⟩)
 f0:W.frozen? ⟨w.heap.size,0,none⟩=false
 c1:W.cell? ⟨w.heap.size+1,0,none⟩=some (.int .i64 0)
 f1:W.frozen? ⟨w.heap.size+1,0,none⟩=false
 c2:W.cell? ⟨w.heap.size+1+1,0,none⟩=some (.bool false)
 f2:W.frozen? ⟨w.heap.size+1+1,0,none⟩=false
 r0:W.cell? ⟨w.heap.size+1+1+1,0,none⟩=some s
 r1:W.cell? ⟨w.heap.size+1+1+1,1,none⟩=some (.int .i64 k)
 rf:W.frozen? ⟨w.heap.size+1+1+1,1,none⟩=false
theorem rV1 (w:World) (s:Value) (k:Int):rW1 w s k ((((w.alloc (.cells #[.string ⟨#[]⟩] 9)).alloc (.cells #[.int .i64 0] 3)).alloc (.cells #[.bool false] 4)).alloc (.cells #[s,.int .i64 k] 262)):=by
 have e1:(w.alloc (.cells #[.string ⟨#[]⟩] 9)).heap.size=w.heap.size+1:=by simp
 have e2:((w.alloc (.cells #[.string ⟨#[]⟩] 9)).alloc (.cells #[.int .i64 0] 3)).heap.size=w.heap.size+1+1:=by simp
 have e3:(((w.alloc (.cells #[.string ⟨#[]⟩] 9)).alloc (.cells #[.int .i64 0] 3)).alloc (.cells #[.bool false] 4)).heap.size=w.heap.size+1+1+1:=by simp
 have b0:=bK (w:=w) (cs:=#[.string ⟨#[]⟩]) (t:=9) (w':=((((w.alloc (.cells #[.string ⟨#[]⟩] 9)).alloc (.cells #[.int .i64 0] 3)).alloc (.cells #[.bool false] 4)).alloc (.cells #[s,.int .i64 k] 262))) (((Grows.alloc _ _).al _).al _);have b1:=bK (w:=w.alloc (.cells #[.string ⟨#[]⟩] 9)) (cs:=#[.int .i64 0]) (t:=3) (w':=((((w.alloc (.cells #[.string ⟨#[]⟩] 9)).alloc (.cells #[.int .i64 0] 3)).alloc (.cells #[.bool false] 4)).alloc (.cells #[s,.int .i64 k] 262))) ((Grows.alloc _ _).al _);have b2:=bK (w:=(w.alloc (.cells #[.string ⟨#[]⟩] 9)).alloc (.cells #[.int .i64 0] 3)) (cs:=#[.bool false]) (t:=4) (w':=((((w.alloc (.cells #[.string ⟨#[]⟩] 9)).alloc (.cells #[.int .i64 0] 3)).alloc (.cells #[.bool false] 4)).alloc (.cells #[s,.int .i64 k] 262))) (Grows.alloc _ _);have b3:=bK (w:=((w.alloc (.cells #[.string ⟨#[]⟩] 9)).alloc (.cells #[.int .i64 0] 3)).alloc (.cells #[.bool false] 4)) (cs:=#[s,.int .i64 k]) (t:=262) (w':=((((w.alloc (.cells #[.string ⟨#[]⟩] 9)).alloc (.cells #[.int .i64 0] 3)).alloc (.cells #[.bool false] 4)).alloc (.cells #[s,.int .i64 k] 262))) (Grows.refl _);rw[e1]at b1;rw[e2]at b2;rw[e3]at b3;exact⟨(((Grows.alloc _ _).al _).al _).al _,by simp,b0.1 0 _ rfl,b0.2 0,b1.1 0 _ rfl,b1.2 0,b2.1 0 _ rfl,b2.2 0,b3.1 0 _ rfl,b3.1 1 _ rfl,b3.2 1⟩
theorem zD0 (b:List UInt8) (k:Nat) (ba:Option Addr) (bc:Nat) (w:World) (hk:k<=b.length) (hb:b.length<=1099511627776) (fg:b.length<=bc) (jl:ba=none->bc=0) (ac:aF w ba 1 (b.map aX)) :
  Calls Tryz.prog 162 #[.slice ba b.length bc,.int .i64 k,.func (.func 163) #[] #[]] w λe w'=>e=.returned (wS0 k (rdT (b.drop k)))/\Grows w w':=by
 have hmf:∀(fn:Fn) (first cap:Array Value) (w:World),(Instr.makeFunc fn first cap).run Tryz.prog w=.ok (.func fn first cap) w:=λ_ _ _ _=>rfl
 have j8:¬(k:Int)<0:=by omega
 have HAT:=Ac ac
 have HBA:Hid (∀q:Addr,ba=some q->b≠[]->q.block<w.heap.size):=λq hq ai=>by
  obtain⟨x,hx⟩:∃x,b[0]?=some x:=⟨_,Ab (List.length_pos_iff.2 ai)⟩;obtain⟨bb,bo,e,fg⟩:=ac.get ai;rw[e]at hq;cases hq
  exact Af _ _ (fg 0 x hx 0 _ rfl)
 obtain⟨R,hR⟩:=exq (rdT (b.drop k));have HR:=Ac hR;rw[<-hR];clear hR ac;go_enter_defers Tryz.func162,Tryz.ntmps162
 go_wp2_with fail
 have hB:=rV1 w (.slice ba b.length bc) k;generalize ((((w.alloc (.cells #[Value.string ⟨#[]⟩] 9)).alloc (.cells #[.int .i64 0] 3)).alloc (.cells #[.bool false] 4)).alloc (.cells #[Value.slice ba b.length bc,.int .i64 k] 262))=W4 at *;refine(mG1 b _ k ba bc W4 hk hb fg jl (HAT.out.grows hB.g) (λq hq ai=>Nat.lt_trans (HBA.out q hq ai) (by omega)) hB.r0 hB.r1 hB.rf).mono ?_;rintro e w5 ⟨kq,dh⟩;rw[<-HR.out]at kq;have hs5:=dh.2;have di:=hB.sz;have c0:w5.cell? ⟨w.heap.size,0,none⟩=_:=(Below.cell dh.1 (by simp only;omega)).trans hB.c0;have c1:w5.cell? ⟨w.heap.size+1,0,none⟩=_:=(Below.cell dh.1 (by simp only;omega)).trans hB.c1;have c2:w5.cell? ⟨w.heap.size+1+1,0,none⟩=_:=(Below.cell dh.1 (by simp only;omega)).trans hB.c2;have f0:w5.frozen? ⟨w.heap.size,0,none⟩=_:=(Below.frozen dh.1 (by simp only;omega)).trans hB.f0;have f1:w5.frozen? ⟨w.heap.size+1,0,none⟩=_:=(Below.frozen dh.1 (by simp only;omega)).trans hB.f1;have f2:w5.frozen? ⟨w.heap.size+1+1,0,none⟩=_:=(Below.frozen dh.1 (by simp only;omega)).trans hB.f2;have bg:Grows w w5:=kD0 hB.g dh (by omega);rcases kq with ⟨v,n,rfl,rfl,hc⟩|⟨rfl,rfl⟩
 ·have g0:(w5.setCell ⟨w.heap.size,0,none⟩ (.string v)).cell? ⟨w.heap.size,0,none⟩=some (.string v):=Ad _ _ _ c0
  have g1:(w5.setCell ⟨w.heap.size,0,none⟩ (.string v)).cell? ⟨w.heap.size+1,0,none⟩=some (.int .i64 0):=(Aa _ _ _ _ (λe=>by have:=congrArg Ai e;simp only at this;omega)).trans c1;have g2:(w5.setCell ⟨w.heap.size,0,none⟩ (.string v)).cell? ⟨w.heap.size+1+1,0,none⟩=some (.bool false):=(Aa _ _ _ _ (λe=>by have:=congrArg Ai e;simp only at this;omega)).trans c2;have g3:(w5.setCell ⟨w.heap.size,0,none⟩ (.string v)).cell? ⟨w.heap.size+1+1+1,1,none⟩=some (.int .i64 ((k+n:Nat):Int)):=(Aa _ _ _ _ (λe=>by have:=congrArg Ai e;simp only at this;omega)).trans hc
  have gg:∀j,j=w.heap.size\/j=w.heap.size+1\/j=w.heap.size+1+1->(w5.setCell ⟨w.heap.size,0,none⟩ (.string v)).frozen? ⟨j,0,none⟩=false:=λj hj=>by
   rw[Am];rcases hj with rfl|rfl|rfl
   ·exact f0
   ·exact f1
   ·exact f2
  obtain⟨K,ml⟩:=exq (k+n);rw[<-ml]at g3 hc;have HK2:=Ac ml;clear ml;have hgp:Grows w (w5.setCell ⟨w.heap.size,0,none⟩ (.string v)):=bg.set (by simp only;omega) _;have hsp:w.heap.size+1+1+1<(w5.setCell ⟨w.heap.size,0,none⟩ (.string v)).heap.size:=by simp;omega
  clear HR hB dh c1 c2 f1 f2 hc bg;go_wp2_with fail
  clear c0 f0;generalize (w5.setCell ⟨w.heap.size,0,none⟩ (.string v))=w6 at *;have z0:∀x:Ext (ES w.heap.size (.string v)) w6.drew,x.u.cell? ⟨w.heap.size,0,none⟩=some (.string v):=λx=>x.h.2.2.2.1 ((Grows.drew _).cell g0);have z3:∀x:Ext (ES w.heap.size (.string v)) w6.drew,x.u.cell? ⟨w.heap.size+1+1+1,1,none⟩=some (.int .i64 (K:Int)):=λx=>x.h.2.1 _ _ (by simp only;omega) ((Grows.drew _).cell g3);have x0:w6.drew.cell? ⟨w.heap.size,0,none⟩=some (.string v):=g0;have xf:w6.drew.frozen? ⟨w.heap.size,0,none⟩=false:=gg _ (Or.inl rfl);refine sD0 ?_;refine sI0 (ES w.heap.size (.string v)) 6 (aU 6 [5]) (ES.refl _ _) (ES.trans _ _) (by kernel_rfl) (by kernel_rfl) (λ_ _ _ _ _ h=>h) ?_;iterate 5 (refine aG rfl (λK hK=>?_);go_simp;refine hK _ ?_;clear hK K)
  refine aZ rfl rfl (λK hK=>?_);go_simp;refine⟨ES.put x0,hK _ _ ?_⟩;clear hK K;refine bH ?_;simp only[Al,Ao];clear z0 z3;have n0:=g0;have y0:(w6.setCell ⟨w.heap.size,0,none⟩ (.string v)).cell? ⟨w.heap.size,0,none⟩=some (.string v):=Ad _ _ _ g0;have y1:(w6.setCell ⟨w.heap.size,0,none⟩ (.string v)).cell? ⟨w.heap.size+1,0,none⟩=some (.int .i64 0):=(Aa _ _ _ _ (λe=>by have:=congrArg Ai e;simp only at this;omega)).trans g1;have y2:(w6.setCell ⟨w.heap.size,0,none⟩ (.string v)).cell? ⟨w.heap.size+1+1,0,none⟩=some (.bool false):=(Aa _ _ _ _ (λe=>by have:=congrArg Ai e;simp only at this;omega)).trans g2;have yg:Grows w (w6.setCell ⟨w.heap.size,0,none⟩ (.string v)):=hgp.set (by simp only;omega) _;have yf1:(w6.setCell ⟨w.heap.size,0,none⟩ (.string v)).frozen? ⟨w.heap.size+1,0,none⟩=false:=(Am _ _ _ _).trans (gg _ (Or.inr (Or.inl rfl)));have yf2:(w6.setCell ⟨w.heap.size,0,none⟩ (.string v)).frozen? ⟨w.heap.size+1+1,0,none⟩=false:=(Am _ _ _ _).trans (gg _ (Or.inr (Or.inr rfl)));clear x0 xf g0 g1 g2 g3 gg n0;generalize w6.setCell ⟨w.heap.size,0,none⟩ (.string v)=w7 at *
  have k1:((w7.setCell ⟨w.heap.size+1,0,none⟩ (.int .i64 K)).setCell ⟨w.heap.size+1+1,0,none⟩ (.bool true)).drew.cell? ⟨w.heap.size+1,0,none⟩=some (.int .i64 K):=by
   refine(Aa _ _ _ _ (λe=>by have:=congrArg Ai e;simp only at this;omega)).trans ?_;exact Ad _ _ _ y1
  have y2':(w7.setCell ⟨w.heap.size+1,0,none⟩ (.int .i64 K)).cell? ⟨w.heap.size+1+1,0,none⟩=some (.bool false):=by
   rw[Aa _ _ _ _ (λe=>by have:=congrArg Ai e;simp only at this;omega)];exact y2
  have k2:((w7.setCell ⟨w.heap.size+1,0,none⟩ (.int .i64 K)).setCell ⟨w.heap.size+1+1,0,none⟩ (.bool true)).drew.cell? ⟨w.heap.size+1+1,0,none⟩=some (.bool true):=Ad _ _ _ y2'
  have k0:((w7.setCell ⟨w.heap.size+1,0,none⟩ (.int .i64 K)).setCell ⟨w.heap.size+1+1,0,none⟩ (.bool true)).drew.cell? ⟨w.heap.size,0,none⟩=some (.string v):=by
   refine(Aa _ _ _ _ (λe=>by have:=congrArg Ai e;simp only at this;omega)).trans ?_;refine(Aa _ _ _ _ (λe=>by have:=congrArg Ai e;simp only at this;omega)).trans ?_;exact y0
  have kg:Grows w ((w7.setCell ⟨w.heap.size+1,0,none⟩ (.int .i64 K)).setCell ⟨w.heap.size+1+1,0,none⟩ (.bool true)).drew:=((yg.set (by simp only;omega) _).set (by simp only;omega) _).dr;go_wp2_with fail
  simp only[yP];go_wp2_with fail
  refine leaves_cons (f:=213) (args:=#[.pointer (some ⟨w.heap.size,0,none⟩),.pointer (some ⟨w.heap.size+1,0,none⟩),.pointer (some ⟨w.heap.size+1+1,0,none⟩)]) (by simp) (by simp[go_sem]) ?_
  refine(fI1 _ _ _ _).mono ?_;rintro e u' n8 ⟨rfl,rfl,rfl⟩;show Leaves _ _ _ _ _ _ _
  simp only[settle];refine⟨.tuple #[.string v,.int .i64 K,.bool true],?_,by rw[HK2.out];rfl,kg⟩;simp[results,Tryz.results162,go_sem,k0,k1,k2]
 ·clear HR hB dh
  go_wp2_with fail
  refine leaves_cons (f:=213) (args:=#[.pointer (some ⟨w.heap.size,0,none⟩),.pointer (some ⟨w.heap.size+1,0,none⟩),.pointer (some ⟨w.heap.size+1+1,0,none⟩)]) (by simp) (by simp[go_sem]) ?_
  refine(tP0 w.heap.size (w.heap.size+1) (w.heap.size+1+1) w5 [] _ _ _ c0 c1 c2 f0 f1 f2 (by omega) (by omega) (by omega) w.heap.size (by omega) (by omega) (by omega)).mono ?_;rintro e u' n8 ⟨rfl,rfl,k0,k1,k2,adh⟩;have kg:Grows w n8:=EB.grows bg adh;show Leaves _ _ _ _ _ _ _
  simp only[settle];refine⟨.tuple #[.string ⟨#[]⟩,.int .i64 0,.bool false],?_,rfl,kg⟩;simp[results,Tryz.results162,go_sem,k0,k1,k2]
theorem eD0 (b:List UInt8) (k:Nat) (ba:Option Addr) (bc:Nat) (w:World) (hk:k<=b.length) (hb:b.length<=1099511627776) (fg:b.length<=bc) (jl:ba=none->bc=0) (ac:aF w ba 1 (b.map aX)) :
  Calls Tryz.prog 113 #[.slice ba b.length bc,.int .i64 k] w λe w'=>e=.returned (wS0 k (rdT (b.drop k)))/\Grows w w':=by
 have CR:=Ac (zD0 b k ba bc w hk hb fg jl ac)
 cases hR:rdT (b.drop k) with
 | none =>
  rw[hR]at CR;unfold wS0 at CR ⊢;clear hR ac;go_enter Tryz.func113,Tryz.ntmps113
  go_wp2_with fail
  refine CR.out.mono ?_;rintro e w1 ⟨rfl,hg⟩;go_wp2_with fail
  go_ret3;exact⟨rfl,hg⟩
 | some x =>
  obtain⟨v,n⟩:=x;rw[hR]at CR;unfold wS0 at CR ⊢;obtain⟨K,hK⟩:=exq (k+n);simp only[<-hK]at CR ⊢;clear hR ac hK;go_enter Tryz.func113,Tryz.ntmps113
  go_wp2_with fail
  refine CR.out.mono ?_;rintro e w1 ⟨rfl,hg⟩;go_wp2_with fail
  go_ret3;exact⟨rfl,hg⟩
end
section
open Go Go.RowKit
theorem xB {w:World} {ba:Option Addr} {b:List UInt8} {bc l h:Nat} (ac:aF w ba 1 (b.map aX)) (hn:ba=none->bc=0) (h1:l<=h) (h2:h<=b.length) (h3:b.length<=bc) :
  ∃a',(if bc=l then ba else Ay (λx=>x.add l) ba)=a'/\aF w a' 1 (((b.take h).drop l).map aX)/\(a'=none->bc-l=0):=by
 obtain⟨a',jx,j4,ab5⟩:=qN (c:=bc) (l:=l) (h:=h) (k:=1) ac hn h1 h2 h3;refine⟨a',?_,j4,ab5⟩;unfold sliced at jx;by_cases vn:bc=l
 ·rw[if_pos vn]at jx ⊢;exact(Value.slice.inj jx).1
 ·rw[if_neg vn]at jx ⊢
  have:=(Value.slice.inj jx).1
  rw[<-this];congr 1
  funext x
  rw[Ba]
end
end Go.Proofs.YtheiocndipepaaaGreatDoor
