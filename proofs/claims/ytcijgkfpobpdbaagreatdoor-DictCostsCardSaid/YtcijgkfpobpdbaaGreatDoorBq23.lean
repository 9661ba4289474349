/- The texts RefS Src RdS CutV, one behind the other. -/
import Derived.Test.YtcijgkfpobpdbaaGreatDoorBq4
import Derived.Test.YtcijgkfpobpdbaaGreatDoorBq8
import Derived.Test.YtcijgkfpobpdbaaGreatDoorBq21
import Derived.Test.YtcijgkfpobpdbaaGreatDoorBq12
import Derived.Test.YtcijgkfpobpdbaaGreatDoorBq2
import Derived.Test.YtcijgkfpobpdbaaGreatDoorBq16
import Derived.Test.YtcijgkfpobpdbaaGreatDoorBq14
import Derived.Test.YtcijgkfpobpdbaaGreatDoorBq22
open Go.World renaming cell?_setCell_other → Aa,cell?_setCell_same → Ad,block_lt_of_cell? → Ag,frozen?_setCell → Am
open List renaming getElem?_eq_getElem → Ab,length_drop → Ah,take_length → Aj,length_take → Ak,drop_succ_cons → Al,length_append → An,drop_zero → Ao,mem_of_getElem? → At,append_assoc → Au,drop_length → Av,nil_append → Aw
open Go.Lib renaming hid → Ac
open Go.Addr renaming block → Ae
open Nat renaming le_refl → Af,zero_le → Ai,le_trans → Aq,le_of_lt → Az,mul_one → Ba
open Go.IntKind renaming signed → Ap,wrap → Ar,bits → As
open Array renaming replicate → Ax
open Option renaming map → Ay
set_option maxHeartbeats 8000000
namespace Go.Proofs.YtcijgkfpobpdbaaGreatDoor
set_option maxRecDepth 100000
section
open Go Go.RowKit
attribute [local go_sem] aQ
def nA (l:List En) (x:En) (k m:Nat) (kb:Bool):Prop:=kb=true↔∀j y,j<m->l[j]?=some y->¬Bad x k y j
theorem nA.start (l:List En) (x:En) (k:Nat):nA l x k 0 true:=⟨λ_ j y hj=>by omega,λ_=>rfl⟩
theorem nA.bad {l:List En} {x y:En} {k m:Nat} (hy:l[m]?=some y) (hb:Bad x k y m):nA l x k (m+1) false:=⟨λh=>(by cases h),λh=>absurd hb (h m y (Nat.lt_succ_self _) hy)⟩
theorem nA.good {l:List En} {x y:En} {k m:Nat} {kb:Bool} (h:nA l x k m kb) (hy:l[m]?=some y) (hb:¬Bad x k y m):nA l x k (m+1) kb:=by
 constructor
 ·intro hk j z hj hz
  rcases Nat.lt_succ_iff_lt_or_eq.1 hj with hj|rfl
  ·exact h.1 hk j z hj hz
  ·rw[hy]at hz
   rw[<-Option.some.inj hz];exact hb
 ·intro hk
  exact h.2 λj z hj hz=>hk j z (by omega) hz
theorem nA.full {l:List En} {x:En} {k:Nat} {kb:Bool} (h:nA l x k l.length kb) (hx:l[k]?=some x):kb=true↔sM l x=true/\x∉l.take k:=h.trans (dK1 hx)
theorem aM0 {x y:En} {b:Bool} (hb:decide (dU x y)=b) (W:World):Calls Tryz.prog 197 #[x.agg,y.agg] W λe w'=>e=.returned (.bool b)/\Grows W w':=hb▸lX0 x y W
theorem qC0 {x y:En} {b:Bool} (hb:lessS x y=b) (W:World):Calls Tryz.prog 128 #[x.agg,y.agg] W λe w'=>e=.returned (.bool b)/\Grows W w':=hb▸aK1 x y W
theorem bR1 {α:Type} {w:World} {base:Nat} {e:TypeId} {k:Nat} {enc:α->List Value} {a:Option Addr} {n c:Nat} {xs:List α} (h:aU w base e k enc (.slice a n c) xs):a=none->c=0:=by
 intro ha;rcases h.2 with ⟨h1,_⟩|⟨g,cap,da,h1,_⟩
 ·have:a=none/\n=0/\c=0:=by simpa using h1
  exact this.2.2
 ·rw[ha]at h1;simp at h1
theorem xM0 (l:List En) (la:Option Addr) (cap:Nat) (w:World) (hl:l.length<=1048576) (ac:aF w la 5 (l.map aJ)) :
  Calls Tryz.prog 136 #[.slice la l.length cap] w (kX0 l w):=by
 have HAT:=Ac ac;clear ac;go_enter Tryz.func136,Tryz.ntmps136
 go_wp2_with fail
 go_loopw [3,4] (λv i wr=>∃(k:Nat) (o:List En),k<=l.length/\i=.int .i64 k/\aU wr w.heap.size 59 5 aJ v o/\o.length<=k/\Hid (mG0 l k o)/\Grows w wr) (λ_ i _=>l.length-(intOf i).toNat)
 case atStart=>exact⟨0,[],Ai _,rfl,aU.nil _ _ _ _ _,Ai _,mG0.start l,Grows.refl _⟩
 case round =>
  obtain⟨k,o,hk,rfl,aa,t9,az,hg⟩:=hrel;obtain⟨u0,rfl⟩:=exq wr;by_cases ae:k<l.length
  ·obtain⟨⟨xr,xs,xl,xt,xc⟩,hx⟩:∃x,l[k]?=some x:=⟨_,Ab ae⟩
   obtain⟨a3,c3,rfl,mj,hc2,aes⟩:=aa.at_ dR.len;obtain⟨ba,oa,rfl,be⟩:=(HAT.out.grows hg).get (aH ae);have HCA:=Ac be;have HX:=Ac hx;have HO:=Ac aes;clear be hx aes;go_wp2_with fail
   go_loopw [5,6] (λb j wx=>∃(m:Nat) (kb:Bool),m<=l.length/\j=.int .i64 m/\b=.bool kb/\Hid (nA l ⟨xr,xs,xl,xt,xc⟩ k m kb)/\Grows u0 wx) (λ_ j _=>l.length-(intOf j).toNat)
   case atStart=>exact⟨0,true,Ai _,rfl,rfl,nA.start _ _ _,Grows.refl _⟩
   case round =>
    obtain⟨m,kb,hm,rfl,rfl,oq,i6⟩:=hrel;by_cases hml:m<l.length
    ·obtain⟨⟨yr,ys,yl,yt,yc⟩,hy⟩:∃y,l[m]?=some y:=⟨_,Ab hml⟩
     have HY:=Ac hy;clear hy;go_wp2_with fail
     have x0:∀x:Ext Grows wr.drew,x.u.cell? ⟨ba,oa+k*5,none⟩=some (.string xr):=aB (i6.dr.cell (HCA.out k _ HX.out 0 _ rfl));have x1:∀x:Ext Grows wr.drew,x.u.cell? ⟨ba,oa+k*5+1,none⟩=some (.string xs):=aB (i6.dr.cell (HCA.out k _ HX.out 1 _ rfl));have x2:∀x:Ext Grows wr.drew,x.u.cell? ⟨ba,oa+k*5+2,none⟩=some (.int .i64 xl):=aB (i6.dr.cell (HCA.out k _ HX.out 2 _ rfl));have x3:∀x:Ext Grows wr.drew,x.u.cell? ⟨ba,oa+k*5+3,none⟩=some (.int .i64 xt):=aB (i6.dr.cell (HCA.out k _ HX.out 3 _ rfl));have x4:∀x:Ext Grows wr.drew,x.u.cell? ⟨ba,oa+k*5+4,none⟩=some (.int .i64 xc):=aB (i6.dr.cell (HCA.out k _ HX.out 4 _ rfl));have y0:∀x:Ext Grows wr.drew,x.u.cell? ⟨ba,oa+m*5,none⟩=some (.string yr):=aB (i6.dr.cell (HCA.out m _ HY.out 0 _ rfl));have y1:∀x:Ext Grows wr.drew,x.u.cell? ⟨ba,oa+m*5+1,none⟩=some (.string ys):=aB (i6.dr.cell (HCA.out m _ HY.out 1 _ rfl));have y2:∀x:Ext Grows wr.drew,x.u.cell? ⟨ba,oa+m*5+2,none⟩=some (.int .i64 yl):=aB (i6.dr.cell (HCA.out m _ HY.out 2 _ rfl));have y3:∀x:Ext Grows wr.drew,x.u.cell? ⟨ba,oa+m*5+3,none⟩=some (.int .i64 yt):=aB (i6.dr.cell (HCA.out m _ HY.out 3 _ rfl));have y4:∀x:Ext Grows wr.drew,x.u.cell? ⟨ba,oa+m*5+4,none⟩=some (.int .i64 yc):=aB (i6.dr.cell (HCA.out m _ HY.out 4 _ rfl));by_cases hs:dU ⟨xr,xs,xl,xt,xc⟩ ⟨yr,ys,yl,yt,yc⟩
     ·have HSB:Hid (decide (dU ⟨xr,xs,xl,xt,xc⟩ ⟨yr,ys,yl,yt,yc⟩)=true):=decide_eq_true hs
      have HS:=Ac hs;clear hs;refine kI Grows (aV 40 []) Grows.refl Grows.trans (by kernel_rfl) (by kernel_rfl) (λd _ _ _ _ h=>by cases d<;>exact h) ?_
      iterate 8 (refine dE rfl (λK hK=>?_);go_simp;refine hK _ ?_;clear hK K)
      refine dE rfl (λK hK=>?_);go_simp;apply Exists.intro
      refine⟨λx=>?_,hK _ ?_⟩
      ·go_at_call 197;exact tK (aM0 (x:=⟨xr,xs,xl,xt,xc⟩) (y:=⟨yr,ys,yl,yt,yc⟩) HSB.out _)
      clear hK K;iterate 1 (refine dE rfl (λK hK=>?_);go_simp;refine hK _ ?_;clear hK K)
      iterate 12 (refine dE rfl (λK hK=>?_);go_simp;refine hK _ ?_;clear hK K)
      by_cases h1:yc<xc
      ·have HB:Hid (Bad ⟨xr,xs,xl,xt,xc⟩ k ⟨yr,ys,yl,yt,yc⟩ m):=⟨HS.out,Or.inl h1⟩
       iterate 18 (refine dE rfl (λK hK=>?_);go_simp;refine hK _ ?_;clear hK K)
       refine vH (λw4 h4=>?_);go_wp2_with fail
       go_roundw
       case rel=>exact⟨m+1,false,hml,by go_num,rfl,nA.bad HY.out HB.out,i6.dr.tr h4⟩
       case measure=>simp[intOf];omega
      ·iterate 12 (refine dE rfl (λK hK=>?_);go_simp;refine hK _ ?_;clear hK K)
       by_cases h2:yc=xc
       ·by_cases h3:m<k
        ·have HB:Hid (Bad ⟨xr,xs,xl,xt,xc⟩ k ⟨yr,ys,yl,yt,yc⟩ m):=⟨HS.out,Or.inr ⟨h2,h3⟩⟩
         iterate 6 (refine dE rfl (λK hK=>?_);go_simp;refine hK _ ?_;clear hK K)
         refine vH (λw4 h4=>?_);go_wp2_with fail
         go_roundw
         case rel=>exact⟨m+1,false,hml,by go_num,rfl,nA.bad HY.out HB.out,i6.dr.tr h4⟩
         case measure=>simp[intOf];omega
        ·have HB:Hid (¬Bad ⟨xr,xs,xl,xt,xc⟩ k ⟨yr,ys,yl,yt,yc⟩ m):=λh=>by rcases h.2 with h4|⟨_,h4⟩<;>(try simp only at h4)<;>omega
         iterate 6 (refine dE rfl (λK hK=>?_);go_simp;refine hK _ ?_;clear hK K)
         refine vH (λw4 h4=>?_);go_wp2_with fail
         go_roundw
         case rel=>exact⟨m+1,kb,hml,by go_num,rfl,oq.out.good HY.out HB.out,i6.dr.tr h4⟩
         case measure=>simp[intOf];omega
       ·have HB:Hid (¬Bad ⟨xr,xs,xl,xt,xc⟩ k ⟨yr,ys,yl,yt,yc⟩ m):=λh=>by rcases h.2 with h4|⟨h4,_⟩<;>(try simp only at h4)<;>omega
        iterate 6 (refine dE rfl (λK hK=>?_);go_simp;refine hK _ ?_;clear hK K)
        refine vH (λw4 h4=>?_);go_wp2_with fail
        go_roundw
        case rel=>exact⟨m+1,kb,hml,by go_num,rfl,oq.out.good HY.out HB.out,i6.dr.tr h4⟩
        case measure=>simp[intOf];omega
     ·have HSB:Hid (decide (dU ⟨xr,xs,xl,xt,xc⟩ ⟨yr,ys,yl,yt,yc⟩)=false):=decide_eq_false hs
      have HS:=Ac hs;clear hs;refine kI Grows (aV 40 []) Grows.refl Grows.trans (by kernel_rfl) (by kernel_rfl) (λd _ _ _ _ h=>by cases d<;>exact h) ?_
      iterate 8 (refine dE rfl (λK hK=>?_);go_simp;refine hK _ ?_;clear hK K)
      refine dE rfl (λK hK=>?_);go_simp;apply Exists.intro
      refine⟨λx=>?_,hK _ ?_⟩
      ·go_at_call 197;exact tK (aM0 (x:=⟨xr,xs,xl,xt,xc⟩) (y:=⟨yr,ys,yl,yt,yc⟩) HSB.out _)
      clear hK K;iterate 1 (refine dE rfl (λK hK=>?_);go_simp;refine hK _ ?_;clear hK K)
      have HB:Hid (¬Bad ⟨xr,xs,xl,xt,xc⟩ k ⟨yr,ys,yl,yt,yc⟩ m):=λh=>HS.out h.1;iterate 30 (refine dE rfl (λK hK=>?_);go_simp;refine hK _ ?_;clear hK K)
      refine vH (λw4 h4=>?_);go_wp2_with fail
      go_roundw
      case rel=>exact⟨m+1,kb,hml,by go_num,rfl,oq.out.good HY.out HB.out,i6.dr.tr h4⟩
      case measure=>simp[intOf];omega
    ·obtain rfl:m=l.length:=by omega
     have sd:=oq.out.full HX.out;have ay:=aa.grows i6;cases kb
     ·have HN:Hid (mG0 l (k+1) o):=az.out.skip HX.out (λh=>by cases sd.2 h)
      clear sd;go_wp2_with fail
      go_roundw
      case rel=>exact⟨k+1,o,ae,by go_num,ay,by omega,HN,hg.tr i6⟩
      case measure=>simp[intOf];omega
     ·obtain⟨hf1,hf2⟩:=sd.1 rfl
      have HN:Hid (mG0 l (k+1) (iJ0 ⟨xr,xs,xl,xt,xc⟩ o)):=az.out.ins HX.out hf1 hf2;have HCN:Hid (a3=none->c3=0):=bR1 aa;clear sd hf1 hf2;obtain⟨u1,rfl⟩:=exq wr;go_wp2_with fail
      go_loopw [8] (λa wx=>∃(m:Nat),m<=o.length/\a=.int .i64 m/\Hid (∀j y,j<m->o[j]?=some y->lessS y ⟨xr,xs,xl,xt,xc⟩=true)/\Grows u0 wx) (λa _=>o.length-(intOf a).toNat)
      case atStart=>exact⟨0,Ai _,rfl,λj y hj=>by omega,i6⟩
      case round =>
       obtain⟨m,hm,rfl,cg,ub⟩:=hrel;obtain⟨u2,rfl⟩:=exq wr;by_cases hmo:m<o.length
       ·obtain⟨⟨yr,ys,yl,yt,yc⟩,hy⟩:∃y,o[m]?=some y:=⟨_,Ab hmo⟩
        obtain⟨ob,oo,rfl,hco⟩:=HO.out.get (aH hmo);have HCO:=Ac hco;have HY:=Ac hy;clear hco hy;have x0:∀x:Ext Grows u2.drew,x.u.cell? ⟨ba,oa+k*5,none⟩=some (.string xr):=aB (ub.dr.cell (HCA.out k _ HX.out 0 _ rfl));have x1:∀x:Ext Grows u2.drew,x.u.cell? ⟨ba,oa+k*5+1,none⟩=some (.string xs):=aB (ub.dr.cell (HCA.out k _ HX.out 1 _ rfl));have x2:∀x:Ext Grows u2.drew,x.u.cell? ⟨ba,oa+k*5+2,none⟩=some (.int .i64 xl):=aB (ub.dr.cell (HCA.out k _ HX.out 2 _ rfl));have x3:∀x:Ext Grows u2.drew,x.u.cell? ⟨ba,oa+k*5+3,none⟩=some (.int .i64 xt):=aB (ub.dr.cell (HCA.out k _ HX.out 3 _ rfl));have x4:∀x:Ext Grows u2.drew,x.u.cell? ⟨ba,oa+k*5+4,none⟩=some (.int .i64 xc):=aB (ub.dr.cell (HCA.out k _ HX.out 4 _ rfl));have y0:∀x:Ext Grows u2.drew,x.u.cell? ⟨ob,oo+m*5,none⟩=some (.string yr):=aB (ub.dr.cell (HCO.out m _ HY.out 0 _ rfl));have y1:∀x:Ext Grows u2.drew,x.u.cell? ⟨ob,oo+m*5+1,none⟩=some (.string ys):=aB (ub.dr.cell (HCO.out m _ HY.out 1 _ rfl));have y2:∀x:Ext Grows u2.drew,x.u.cell? ⟨ob,oo+m*5+2,none⟩=some (.int .i64 yl):=aB (ub.dr.cell (HCO.out m _ HY.out 2 _ rfl));have y3:∀x:Ext Grows u2.drew,x.u.cell? ⟨ob,oo+m*5+3,none⟩=some (.int .i64 yt):=aB (ub.dr.cell (HCO.out m _ HY.out 3 _ rfl));have y4:∀x:Ext Grows u2.drew,x.u.cell? ⟨ob,oo+m*5+4,none⟩=some (.int .i64 yc):=aB (ub.dr.cell (HCO.out m _ HY.out 4 _ rfl));cases qp:lessS ⟨yr,ys,yl,yt,yc⟩ ⟨xr,xs,xl,xt,xc⟩
        ·have xa:=mS0 (x:=⟨xr,xs,xl,xt,xc⟩) hm cg.out (Or.inr ⟨_,HY.out,qp⟩)
         have HIN:=Ac xa;clear xa;go_wp2_with fail
         refine kI Grows (aV 15 []) Grows.refl Grows.trans (by kernel_rfl) (by kernel_rfl) (λd _ _ _ _ h=>by cases d<;>exact h) ?_
         iterate 13 (refine dE rfl (λK hK=>?_);go_simp;refine hK _ ?_;clear hK K)
         refine dE rfl (λK hK=>?_);go_simp;apply Exists.intro
         refine⟨λx=>?_,hK _ ?_⟩
         ·go_at_call 128;exact tK (qC0 (x:=⟨yr,ys,yl,yt,yc⟩) (y:=⟨xr,xs,xl,xt,xc⟩) qp _)
         clear hK K;iterate 1 (refine dE rfl (λK hK=>?_);go_simp;refine hK _ ?_;clear hK K)
         refine vH (λw4 h4=>?_);have cy:=ub.dr.tr h4;obtain⟨p2,nl,iy,cz⟩:=pF (k:=5) (l:=m) (h:=o.length) (HO.out.grows cy) HCN.out hm (Af _) mj;have aj:¬c3=m:=by omega
         obtain rfl:p2=some ⟨ob,oo+m*5,none⟩:=by
          unfold sliced at nl;rw[if_neg aj,Option.map_some,iF]at nl;injection nl with h
          exact h.symm
         clear nl;rw[Aj]at iy;have kp:=fD0 (HO.out.grows cy) m;have hmc:m<=c3:=by omega
         have mg:(o.take m).length=m:=by rw[Ak];omega
         have ji:(o.drop m).length=o.length-m:=Ah;have HQ1:=Ac kp;have HQ2:=Ac iy;clear kp iy
         go_wp2_with (first
          | (at_builtin;refine jA dR rfl _ _ rfl w4.heap.size (.slice none 0 0) [] (o.take m) rfl (aU.nil w4 _ _ _ _) (Grows.refl _) _ c3 (by rw[mg];rfl) HQ1.out HCN.out (by rw[mg];simp;omega) (Af _) ?_;intro v5 w5 an bg;have i7:=bg w4 (Grows.refl _) (Af _);clear bg;rw[Aw]at an;have z0:w5.cell? ⟨ba,oa+k*5,none⟩=some (.string xr):=(cy.tr i7).cell (HCA.out k _ HX.out 0 _ rfl);have z1:w5.cell? ⟨ba,oa+k*5+1,none⟩=some (.string xs):=(cy.tr i7).cell (HCA.out k _ HX.out 1 _ rfl);have z2:w5.cell? ⟨ba,oa+k*5+2,none⟩=some (.int .i64 xl):=(cy.tr i7).cell (HCA.out k _ HX.out 2 _ rfl);have z3:w5.cell? ⟨ba,oa+k*5+3,none⟩=some (.int .i64 xt):=(cy.tr i7).cell (HCA.out k _ HX.out 3 _ rfl);have z4:w5.cell? ⟨ba,oa+k*5+4,none⟩=some (.int .i64 xc):=(cy.tr i7).cell (HCA.out k _ HX.out 4 _ rfl))
          | (at_builtin;refine bT0 dR rfl _ _ rfl w4.heap.size _ (o.take m) ⟨xr,xs,xl,xt,xc⟩ rfl an (Grows.refl _) _ 1 rfl _ rfl rfl (by rw[mg];omega) i7.size ?_;intro v6 w6 kr cp;have qv:=cp w4 i7 (Af _);clear cp)
          | (at_builtin;refine jA dR rfl _ _ rfl w4.heap.size _ (o.take m++[⟨xr,xs,xl,xt,xc⟩]) (o.drop m) rfl kr (Grows.refl _) _ (c3-m) (by rw[ji];rfl) (HQ2.out.grows qv) cz (by rw[An,mg,ji];simp;omega) qv.size ?_;intro v7 w7 ep cu;have acv:=cu w4 qv (Af _);clear cu))
         go_roundw
         case rel=>exact⟨k+1,iJ0 ⟨xr,xs,xl,xt,xc⟩ o,ae,by go_num,by rw[HIN.out,<-Au];exact ep.base (Aq hg.size (cy.size)),by rw[sC];omega,HN,(hg.tr cy).tr acv⟩
         case measure=>simp[intOf];omega
        ·have ad6:Hid (∀j y,j<m+1->o[j]?=some y->lessS y ⟨xr,xs,xl,xt,xc⟩=true):=λj y hj hy=>by
          rcases Nat.lt_succ_iff_lt_or_eq.1 hj with h|rfl
          ·exact cg.out j y h hy
          ·rw[HY.out]at hy
           rw[<-Option.some.inj hy];exact qp
         go_wp2_with fail
         refine kI Grows (aV 15 []) Grows.refl Grows.trans (by kernel_rfl) (by kernel_rfl) (λd _ _ _ _ h=>by cases d<;>exact h) ?_
         iterate 13 (refine dE rfl (λK hK=>?_);go_simp;refine hK _ ?_;clear hK K)
         refine dE rfl (λK hK=>?_);go_simp;apply Exists.intro
         refine⟨λx=>?_,hK _ ?_⟩
         ·go_at_call 128;exact tK (qC0 (x:=⟨yr,ys,yl,yt,yc⟩) (y:=⟨xr,xs,xl,xt,xc⟩) qp _)
         clear hK K;iterate 1 (refine dE rfl (λK hK=>?_);go_simp;refine hK _ ?_;clear hK K)
         refine vH (λw4 h4=>?_);go_wp2_with fail
         go_roundw
         case rel=>exact⟨m+1,hmo,by go_num,ad6,ub.dr.tr h4⟩
         case measure=>simp[intOf];omega
       ·have hme:m=o.length:=by omega
        have xa:=mS0 (x:=⟨xr,xs,xl,xt,xc⟩) hm cg.out (Or.inl hme);have HIN:=Ac xa;clear xa hme;go_wp2_with fail
        refine kI Grows (aV 15 []) Grows.refl Grows.trans (by kernel_rfl) (by kernel_rfl) (λd _ _ _ _ h=>by cases d<;>exact h) ?_
        iterate 15 (refine dE rfl (λK hK=>?_);go_simp;refine hK _ ?_;clear hK K)
        refine vH (λw4 h4=>?_);have cy:=ub.dr.tr h4;obtain⟨p2,nl,iy,cz⟩:=pF (k:=5) (l:=m) (h:=o.length) (HO.out.grows cy) HCN.out hm (Af _) mj
        have jm:(if c3=m then a3 else Ay (λx=>x.add (m*5)) a3)=p2:=by
         unfold sliced at nl;injection nl
        clear nl;rw[Aj]at iy;have kp:=fD0 (HO.out.grows cy) m;have hmc:m<=c3:=by omega
        have mg:(o.take m).length=m:=by rw[Ak];omega
        have ji:(o.drop m).length=o.length-m:=Ah;have HQ1:=Ac kp;have HQ2:=Ac iy;clear kp iy
        go_wp2_with (first
         | (at_builtin;refine jA dR rfl _ _ rfl w4.heap.size (.slice none 0 0) [] (o.take m) rfl (aU.nil w4 _ _ _ _) (Grows.refl _) _ c3 (by rw[mg];rfl) HQ1.out HCN.out (by rw[mg];simp;omega) (Af _) ?_;intro v5 w5 an bg;have i7:=bg w4 (Grows.refl _) (Af _);clear bg;rw[Aw]at an;have z0:w5.cell? ⟨ba,oa+k*5,none⟩=some (.string xr):=(cy.tr i7).cell (HCA.out k _ HX.out 0 _ rfl);have z1:w5.cell? ⟨ba,oa+k*5+1,none⟩=some (.string xs):=(cy.tr i7).cell (HCA.out k _ HX.out 1 _ rfl);have z2:w5.cell? ⟨ba,oa+k*5+2,none⟩=some (.int .i64 xl):=(cy.tr i7).cell (HCA.out k _ HX.out 2 _ rfl);have z3:w5.cell? ⟨ba,oa+k*5+3,none⟩=some (.int .i64 xt):=(cy.tr i7).cell (HCA.out k _ HX.out 3 _ rfl);have z4:w5.cell? ⟨ba,oa+k*5+4,none⟩=some (.int .i64 xc):=(cy.tr i7).cell (HCA.out k _ HX.out 4 _ rfl))
         | (at_builtin;refine bT0 dR rfl _ _ rfl w4.heap.size _ (o.take m) ⟨xr,xs,xl,xt,xc⟩ rfl an (Grows.refl _) _ 1 rfl _ rfl rfl (by rw[mg];omega) i7.size ?_;intro v6 w6 kr cp;have qv:=cp w4 i7 (Af _);clear cp)
         | (at_builtin;refine jA dR rfl _ _ rfl w4.heap.size _ (o.take m++[⟨xr,xs,xl,xt,xc⟩]) (o.drop m) rfl kr (Grows.refl _) _ (c3-m) (by rw[ji];rfl) (HQ2.out.grows qv) cz (by rw[An,mg,ji];simp;omega) qv.size ?_;intro v7 w7 ep cu;have acv:=cu w4 qv (Af _);clear cu))
        go_roundw
        case rel=>exact⟨k+1,iJ0 ⟨xr,xs,xl,xt,xc⟩ o,ae,by go_num,by rw[HIN.out,<-Au];exact ep.base (Aq hg.size (cy.size)),by rw[sC];omega,HN,(hg.tr cy).tr acv⟩
        case measure=>simp[intOf];omega
  ·obtain rfl:k=l.length:=by omega
   have HN:=az.out.done;go_wp2_with fail
   go_ret;exact⟨_,rfl,HN▸aa,hg⟩
end
section
open Go Go.RowKit
attribute [local go_sem] aQ aM
def iK1 (w:World) (v:Value):Option Mx->Prop
 | none=>v=.pointer none
 | some m=>∃rb,v=.pointer (some ⟨rb,0,none⟩)/\jK w rb m
theorem iK1.grows {w w':World} {v:Value} {m:Option Mx} (h:iK1 w v m) (hg:Grows w w'):iK1 w' v m:=by
 cases m with
 | none=>exact h
 | some m=>obtain⟨rb,e,hr⟩:=h;exact⟨rb,e,hr.grows hg⟩
theorem gB0:eG Tryz.prog 28 148 2 24 bE where
 sl:=Tryz.underlying28
 info:=fT (z:=.agg #[.string ⟨#[]⟩,.int .i64 0]) (by kernel_rfl) rfl
 pos:=by decide
 by1:=by decide
 len _:=rfl
 one x u hu:=by
  simp[bE]at hu;rcases hu with rfl|rfl<;>rfl
structure yZ where
 p:List cJ
 d:Int
 s:List kC1
 e:List En
structure nM where
 pa:Option Addr
 pc:Nat
 sa:Option Addr
 sc:Nat
 ea:Option Addr
 ec:Nat
def nM.cells (a:nM) (x:yZ):Array Value := #[.slice a.pa x.p.length a.pc,.int .i64 x.d,.slice a.sa x.s.length a.sc,.slice a.ea x.e.length a.ec]
def nM.agg (a:nM) (x:yZ):Value := .agg (a.cells x)
structure oZ (w:World) (a:nM) (x:yZ):Prop where
 p:aF w a.pa 2 (x.p.map bE)
 s:aF w a.sa 3 (x.s.map lL1)
 e:aF w a.ea 5 (x.e.map aJ)
theorem oZ.grows {w w':World} {a:nM} {x:yZ} (h:oZ w a x) (hg:Grows w w'):oZ w' a x:=⟨h.p.grows hg,h.s.grows hg,h.e.grows hg⟩
structure tG (x:yZ):Prop where
 p:∀y∈x.p,y.name.size<=maxLen
 s:∀y∈x.s,WfI y.c
 e:∀y∈x.e,uO y
 d:WfI x.d
 lp:x.p.length<=140737488355328
 ls:x.s.length<=140737488355328
 le:x.e.length<=140737488355328
def wJ0 (y:cJ):Bool:=decide (400<y.name.size)
def qH0 (y:En):Bool:=decide (400<y.r.size)||decide (400<y.s.size)
def qE (x:yZ):Bool := !x.p.any wJ0 && !x.e.any qH0&&decide (x.p.length<=70)&&decide (x.s.length<=300)&&decide (x.e.length<=300)
theorem uD {x:yZ} (h:qE x=true):(∀y∈x.p,y.name.size<=400)/\(∀y∈x.e,y.r.size<=400/\y.s.size<=400)/\x.p.length<=70/\x.s.length<=300/\x.e.length<=300:=by
 unfold qE at h;simp only[Bool.and_eq_true,Bool.not_eq_true',decide_eq_true_eq,List.any_eq_false]at h;obtain⟨⟨⟨⟨h1,h2⟩,h3⟩,h4⟩,h5⟩:=h;refine⟨λy hy=>?_,λy hy=>?_,h3,h4,h5⟩
 ·have:=h1 y hy;unfold wJ0 at this;simp at this;exact this
 ·have:=h2 y hy;unfold qH0 at this;simp at this;exact this
theorem xV0 {α:Type} {f:α->Bool} {l:List α} {k:Nat} {x:α} (h:l[k]?=some x):(l.drop k).any f=(f x||(l.drop (k+1)).any f):=by
 obtain⟨hk,rfl⟩:=List.getElem?_eq_some_iff.1 h;rw[List.drop_eq_getElem_cons hk,List.any_cons]
def srcM (x:yZ):Option Mx:=if nD0 x.p.length x.d then some (runSets (newM x.p.length x.d) x.s) else none
theorem bB1 (x:yZ) (A:nM) (w:World) (ag:tG x) (ac:oZ w A x) :
  Calls Tryz.prog 45 #[A.agg x] w λe w'=>e=.returned (.bool (qE x))/\Grows w w':=by
 have zw:=ag.lp;have fo:=ag.le;have qp:=ag.ls;clear ag;obtain⟨pa,pc,sa,sc,ea,ec⟩:=A;obtain⟨xp,xd,xs,xe⟩:=x;try replace zw:xp.length<=140737488355328:=zw
 try replace qp:xs.length<=140737488355328:=qp
 try replace fo:xe.length<=140737488355328:=fo
 obtain⟨W0,bh⟩:=exq (w.alloc (.cells #[.slice pa xp.length pc,.int .i64 xd,.slice sa xs.length sc,.slice ea xe.length ec] 26));have cd:Grows w W0:=by rw[bh];exact Grows.alloc _ _
 have dm:=λj u h=>aT w #[.slice pa xp.length pc,.int .i64 xd,.slice sa xs.length sc,.slice ea xe.length ec] 26 (0,0) j u h;rw[<-bh]at dm;have q0:=dm 0 _ rfl;have q1:=dm 1 _ rfl;have q2:=dm 2 _ rfl;have q3:=dm 3 _ rfl;have HQ:=Ac (And.intro q0 (And.intro q1 (And.intro q2 q3)));have HP:Hid (aF W0 pa 2 (xp.map bE)):=ac.p.grows cd;have HS:Hid (aF W0 sa 3 (xs.map lL1)):=ac.s.grows cd;have HE:Hid (aF W0 ea 5 (xe.map aJ)):=ac.e.grows cd;have HG0:=Ac cd;clear dm ac cd;show Calls _ _ #[.agg #[.slice pa xp.length pc,.int .i64 xd,.slice sa xs.length sc,.slice ea xe.length ec]] _ _
 have HL:Hid (qE ⟨xp,xd,xs,xe⟩=(!xp.any wJ0 && !xe.any qH0&&decide (xp.length<=70)&&decide (xs.length<=300)&&decide (xe.length<=300))):=rfl;obtain⟨LB,hLB⟩:=exq (qE ⟨xp,xd,xs,xe⟩);rw[<-hLB]at HL ⊢;clear hLB q1 q2 q3;go_enter Tryz.func45,Tryz.ntmps45
 go_wp2_with fail
 rw[<-bh];clear bh;go_loopw [3] (λi wr=>∃(k:Nat),k<=xp.length/\i=.int .i64 k/\Hid ((xp.drop k).any wJ0=xp.any wJ0)/\wr=W0) (λi _=>xp.length-(intOf i).toNat)
 case atStart=>exact⟨0,Ai _,rfl,rfl,rfl⟩
 case round =>
  obtain⟨k,hk,rfl,hF,rfl⟩:=hrel;by_cases ae:k<xp.length
  ·obtain⟨⟨yn,yk⟩,hx⟩:∃y,xp[k]?=some y:=⟨_,Ab ae⟩
   obtain⟨ba,oa,rfl,be⟩:=HP.out.get (aH ae);have c0:wr.cell? ⟨ba,oa+k*2,none⟩=some (.string yn):=be k _ hx 0 _ rfl;have dg:(k:Int)<xp.length:=by omega
   have HD:=Ac (xV0 (f:=wJ0) hx);rw[hF.out]at HD;clear be hx hF;by_cases hb:400<yn.size
   ·have se:(400:Int)<yn.size:=by omega
    have HX:Hid (xp.any wJ0=true):=by show _=_;rw[HD.out];unfold wJ0;simp[hb]
    clear HD hb;go_wp2_with fail
    go_ret;exact⟨by rw[HL.out,HX.out];rfl,HG0.out⟩
   ·have se:¬(400:Int)<yn.size:=by omega
    have HX:Hid ((xp.drop (k+1)).any wJ0=xp.any wJ0):=by show _=_;rw[HD.out];unfold wJ0;simp[hb]
    clear HD hb;go_wp2_with fail
    go_roundw
    case rel=>exact⟨k+1,ae,by go_num,HX,trivial⟩
    case measure=>simp[intOf];omega
  ·obtain rfl:k=xp.length:=by omega
   have HPA:Hid (xp.any wJ0=false):=by show _=_;rw[<-hF.out,Av];rfl
   have q3:=HQ.out.2.2.2;clear hF;go_wp2_with fail
   go_loopw [4] (λi wx=>∃(k:Nat),k<=xe.length/\i=.int .i64 k/\Hid ((xe.drop k).any qH0=xe.any qH0)/\wx=wr) (λi _=>xe.length-(intOf i).toNat)
   case atStart=>exact⟨0,Ai _,rfl,rfl,rfl⟩
   case round =>
    obtain⟨k,hk,rfl,hF,rfl⟩:=hrel;by_cases ae:k<xe.length
    ·obtain⟨⟨yr,ys,yl,yt,yc⟩,hx⟩:∃y,xe[k]?=some y:=⟨_,Ab ae⟩
     obtain⟨ba,oa,rfl,be⟩:=HE.out.get (aH ae);have c0:wr.cell? ⟨ba,oa+k*5,none⟩=some (.string yr):=be k _ hx 0 _ rfl;have c1:wr.cell? ⟨ba,oa+k*5+1,none⟩=some (.string ys):=be k _ hx 1 _ rfl;have dg:(k:Int)<xe.length:=by omega
     have HD:=Ac (xV0 (f:=qH0) hx);rw[hF.out]at HD;clear be hx hF;by_cases hb:400<yr.size
     ·have se:(400:Int)<yr.size:=by omega
      have HX:Hid (xe.any qH0=true):=by show _=_;rw[HD.out];unfold qH0;simp[hb]
      clear HD hb;go_wp2_with fail
      go_ret;exact⟨by rw[HL.out,HX.out];simp,HG0.out⟩
     ·have se:¬(400:Int)<yr.size:=by omega
      by_cases d8:400<ys.size
      ·have ahb:(400:Int)<ys.size:=by omega
       have HX:Hid (xe.any qH0=true):=by show _=_;rw[HD.out];unfold qH0;simp[d8]
       clear HD hb d8;go_wp2_with fail
       go_ret;exact⟨by rw[HL.out,HX.out];simp,HG0.out⟩
      ·have ahb:¬(400:Int)<ys.size:=by omega
       have HX:Hid ((xe.drop (k+1)).any qH0=xe.any qH0):=by show _=_;rw[HD.out];unfold qH0;simp[hb,d8]
       clear HD hb d8;go_wp2_with fail
       go_roundw
       case rel=>exact⟨k+1,ae,by go_num,HX,trivial⟩
       case measure=>simp[intOf];omega
    ·obtain rfl:k=xe.length:=by omega
     have HEA:Hid (xe.any qH0=false):=by show _=_;rw[<-hF.out,Av];rfl
     have q2:=HQ.out.2.2.1;have e1:decide ((xp.length:Int)<=70)=decide (xp.length<=70):=decide_eq_decide.2 (by omega);have e2:decide ((xs.length:Int)<=300)=decide (xs.length<=300):=decide_eq_decide.2 (by omega);have e3:decide ((xe.length:Int)<=300)=decide (xe.length<=300):=decide_eq_decide.2 (by omega);have HL2:Hid (LB=(decide ((xp.length:Int)<=70)&&decide ((xs.length:Int)<=300)&&decide ((xe.length:Int)<=300))):=by show _=_;rw[HL.out,HPA.out,HEA.out,e1,e2,e3];simp
     clear hF e1 e2 e3 ae;by_cases h1:(xp.length:Int)<=70
     ·by_cases h2:(xs.length:Int)<=300
      ·go_wp2_with fail
       go_ret;exact⟨by rw[HL2.out];simp[h1,h2],HG0.out⟩
      ·go_wp2_with fail
       go_ret;exact⟨by rw[HL2.out];simp;omega,HG0.out⟩
     ·go_wp2_with fail
      go_ret;exact⟨by rw[HL2.out];simp;omega,HG0.out⟩
theorem sS0 (x:yZ) (A:nM) (w:World) (ag:tG x) (ac:oZ w A x) :
  Calls Tryz.prog 28 #[A.agg x] w λe w'=>∃v,e=.returned v/\dT1 w' v (srcM x)/\Grows w w':=by
 have HOS:=Ac ag.s;have zw:=ag.lp;have qp:=ag.ls;clear ag;obtain⟨pa,pc,sa,sc,ea,ec⟩:=A;obtain⟨xp,xd,xs,xe⟩:=x;try replace zw:xp.length<=140737488355328:=zw
 try replace qp:xs.length<=140737488355328:=qp
 try replace fo:xe.length<=140737488355328:=fo
 obtain⟨W0,bh⟩:=exq (w.alloc (.cells #[.slice pa xp.length pc,.int .i64 xd,.slice sa xs.length sc,.slice ea xe.length ec] 26));have cd:Grows w W0:=by rw[bh];exact Grows.alloc _ _
 have dm:=λj u h=>aT w #[.slice pa xp.length pc,.int .i64 xd,.slice sa xs.length sc,.slice ea xe.length ec] 26 (0,0) j u h;rw[<-bh]at dm;have q0:=dm 0 _ rfl;have q1:=dm 1 _ rfl;have q2:=dm 2 _ rfl;have q3:=dm 3 _ rfl;have HQ:=Ac (And.intro q0 (And.intro q1 (And.intro q2 q3)));have HP:Hid (aF W0 pa 2 (xp.map bE)):=ac.p.grows cd;have HS:Hid (aF W0 sa 3 (xs.map lL1)):=ac.s.grows cd;have HE:Hid (aF W0 ea 5 (xe.map aJ)):=ac.e.grows cd;have HG0:=Ac cd;clear dm ac cd;show Calls _ _ #[.agg #[.slice pa xp.length pc,.int .i64 xd,.slice sa xs.length sc,.slice ea xe.length ec]] _ _
 have HSM:Hid (srcM ⟨xp,xd,xs,xe⟩=if nD0 xp.length xd then some (runSets (newM xp.length xd) xs) else none):=rfl
 obtain⟨SM,vf⟩:=exq (srcM ⟨xp,xd,xs,xe⟩);rw[<-vf]at HSM ⊢;clear vf q2 q3;replace HOS:Hid (∀y∈xs,WfI y.c):=HOS;go_enter Tryz.func28,Tryz.ntmps28
 cases il:nD0 xp.length xd with
 | false =>
  rw[il]at HSM;go_wp2_with fail
  rw[<-bh];clear bh;refine(xE0 xp.length xd _ il).mono ?_;rintro e w1 ⟨rfl,rfl⟩;go_wp2_with fail
  go_ret;exact⟨_,rfl,by rw[HSM.out];rfl,HG0.out⟩
 | true =>
  rw[il]at HSM;replace HSM:Hid (SM=some (runSets (newM xp.length xd) xs)):=HSM;go_wp2_with fail
  rw[<-bh];clear bh;refine(wY0 xp.length xd _ il).mono ?_;rintro e w1 ⟨rfl,oh,ah⟩;clear q0 q1;go_wp2_with fail
  go_loopw [5] (λi wr=>∃(k:Nat),k<=xs.length/\i=.int .i64 k/\fK wr (W0.heap.size+1) W0.heap.size (runSets (newM xp.length xd) (xs.take k))/\Grows W0 wr) (λi _=>xs.length-(intOf i).toNat)
  case atStart=>exact⟨0,Ai _,rfl,oh,ah⟩
  case round =>
  obtain⟨k,hk,rfl,hm,hg⟩:=hrel;clear oh ah;by_cases ae:k<xs.length
  ·obtain⟨⟨sr,sl,sq⟩,hs⟩:∃s,xs[k]?=some s:=⟨_,Ab ae⟩
   have hsq:WfI sq:=HOS.out _ (At hs);have HT:=Ac (xQ (m:=newM xp.length xd) hs);obtain⟨lb,lo,rfl,cw⟩:=HS.out.get (aH ae);have dg:(k:Int)<xs.length:=by omega
   have b2:=hg.cell HQ.out.2.2.1;have z2:∀x:Ext Grows wr.drew,x.u.cell? ⟨w.heap.size,2,none⟩=some (.slice (some ⟨lb,lo,none⟩) xs.length sc):=aB (hg.dr.cell HQ.out.2.2.1);have y0:∀x:Ext Grows wr.drew,x.u.cell? ⟨lb,lo+k*3,none⟩=some (.int .i64 sr):=aB (hg.dr.cell (cw k _ hs 0 _ rfl));have y1:∀x:Ext Grows wr.drew,x.u.cell? ⟨lb,lo+k*3+1,none⟩=some (.int .i64 sl):=aB (hg.dr.cell (cw k _ hs 1 _ rfl));have y2:∀x:Ext Grows wr.drew,x.u.cell? ⟨lb,lo+k*3+2,none⟩=some (.int .i64 sq):=aB (hg.dr.cell (cw k _ hs 2 _ rfl));clear cw hs;generalize runSets (newM xp.length xd) (xs.take k)=M1 at *;go_wp2_with fail
   refine mK 19 (aV 19 []) (by kernel_rfl) (λd _ _ _ _ h=>by cases d<;>exact h) ?_
   iterate 19 (refine aG rfl (λK hK=>?_);go_simp;refine hK _ ?_;clear hK K)
   refine bH ?_;simp only[Al,Ao];clear z2 y0 y1 y2 b2;have hSV:=zW0 wr.drew _ _ _ (hm.grows (Grows.drew wr)) sr sl sq hsq;go_wp2_with fail
   refine hSV.mono ?_;rintro e w4 ⟨rfl,sg,bu⟩;have cy:Grows W0 w4:=hg.dr.grown bu (λq hq=>by cases hq;exact Af _);go_wp2_with fail
   go_roundw
   case rel=>exact⟨k+1,ae,by go_num,by rw[HT.out];exact sg,cy⟩
   case measure=>simp[intOf];omega
  ·obtain rfl:k=xs.length:=by omega
   rw[Aj]at hm;have b2:=hg.cell HQ.out.2.2.1;go_wp2_with fail
   go_ret;refine⟨_,rfl,?_,Grows.trans _ _ _ HG0.out hg⟩;rw[HSM.out];exact⟨_,_,rfl,hm⟩
theorem zR0 (x:yZ) (A:nM) (w:World) (ag:tG x) (ac:oZ w A x) :
  Calls Tryz.prog 101 #[A.agg x] w λe w'=>∃v,e=.returned v/\iK1 w' v (srcM x)/\Grows w w':=by
 have HOS:=Ac ag.s;have zw:=ag.lp;have qp:=ag.ls;clear ag;obtain⟨pa,pc,sa,sc,ea,ec⟩:=A;obtain⟨xp,xd,xs,xe⟩:=x;try replace zw:xp.length<=140737488355328:=zw
 try replace qp:xs.length<=140737488355328:=qp
 try replace fo:xe.length<=140737488355328:=fo
 obtain⟨W0,bh⟩:=exq (w.alloc (.cells #[.slice pa xp.length pc,.int .i64 xd,.slice sa xs.length sc,.slice ea xe.length ec] 26));have cd:Grows w W0:=by rw[bh];exact Grows.alloc _ _
 have dm:=λj u h=>aT w #[.slice pa xp.length pc,.int .i64 xd,.slice sa xs.length sc,.slice ea xe.length ec] 26 (0,0) j u h;rw[<-bh]at dm;have q0:=dm 0 _ rfl;have q1:=dm 1 _ rfl;have q2:=dm 2 _ rfl;have q3:=dm 3 _ rfl;have HQ:=Ac (And.intro q0 (And.intro q1 (And.intro q2 q3)));have HP:Hid (aF W0 pa 2 (xp.map bE)):=ac.p.grows cd;have HS:Hid (aF W0 sa 3 (xs.map lL1)):=ac.s.grows cd;have HE:Hid (aF W0 ea 5 (xe.map aJ)):=ac.e.grows cd;have HG0:=Ac cd;clear dm ac cd;show Calls _ _ #[.agg #[.slice pa xp.length pc,.int .i64 xd,.slice sa xs.length sc,.slice ea xe.length ec]] _ _
 have HSM:Hid (srcM ⟨xp,xd,xs,xe⟩=if nD0 xp.length xd then some (runSets (newM xp.length xd) xs) else none):=rfl
 obtain⟨SM,vf⟩:=exq (srcM ⟨xp,xd,xs,xe⟩);rw[<-vf]at HSM ⊢;clear vf q2 q3;replace HOS:Hid (∀y∈xs,WfI y.c):=HOS;go_enter Tryz.func101,Tryz.ntmps101
 cases il:nD0 xp.length xd with
 | false =>
  rw[il]at HSM;go_wp2_with fail
  rw[<-bh];clear bh;refine(hC1 xp.length xd _ il).mono ?_;rintro e w1 ⟨rfl,rfl⟩;go_wp2_with fail
  go_ret;exact⟨_,rfl,by rw[HSM.out];rfl,HG0.out⟩
 | true =>
  rw[il]at HSM;replace HSM:Hid (SM=some (runSets (newM xp.length xd) xs)):=HSM;go_wp2_with fail
  rw[<-bh];clear bh;refine(fQ1 xp.length xd _ il).mono ?_;rintro e w1 ⟨rfl,oh,ah⟩;clear q0 q1;go_wp2_with fail
  go_loopw [4] (λi wr=>∃(k:Nat),k<=xs.length/\i=.int .i64 k/\jK wr W0.heap.size (runSets (newM xp.length xd) (xs.take k))/\Grows W0 wr) (λi _=>xs.length-(intOf i).toNat)
  case atStart=>exact⟨0,Ai _,rfl,oh,ah⟩
  case round =>
  obtain⟨k,hk,rfl,hm,hg⟩:=hrel;clear oh ah;by_cases ae:k<xs.length
  ·obtain⟨⟨sr,sl,sq⟩,hs⟩:∃s,xs[k]?=some s:=⟨_,Ab ae⟩
   have hsq:WfI sq:=HOS.out _ (At hs);have HT:=Ac (xQ (m:=newM xp.length xd) hs);obtain⟨lb,lo,rfl,cw⟩:=HS.out.get (aH ae);have dg:(k:Int)<xs.length:=by omega
   have b2:=hg.cell HQ.out.2.2.1;have z2:∀x:Ext Grows wr.drew,x.u.cell? ⟨w.heap.size,2,none⟩=some (.slice (some ⟨lb,lo,none⟩) xs.length sc):=aB (hg.dr.cell HQ.out.2.2.1);have y0:∀x:Ext Grows wr.drew,x.u.cell? ⟨lb,lo+k*3,none⟩=some (.int .i64 sr):=aB (hg.dr.cell (cw k _ hs 0 _ rfl));have y1:∀x:Ext Grows wr.drew,x.u.cell? ⟨lb,lo+k*3+1,none⟩=some (.int .i64 sl):=aB (hg.dr.cell (cw k _ hs 1 _ rfl));have y2:∀x:Ext Grows wr.drew,x.u.cell? ⟨lb,lo+k*3+2,none⟩=some (.int .i64 sq):=aB (hg.dr.cell (cw k _ hs 2 _ rfl));clear cw hs;generalize runSets (newM xp.length xd) (xs.take k)=M1 at *;go_wp2_with fail
   refine mK 19 (aV 19 []) (by kernel_rfl) (λd _ _ _ _ h=>by cases d<;>exact h) ?_
   iterate 19 (refine aG rfl (λK hK=>?_);go_simp;refine hK _ ?_;clear hK K)
   refine bH ?_;simp only[Al,Ao];clear z2 y0 y1 y2 b2;have hSV:=fI1 wr.drew _ _ (hm.grows (Grows.drew wr)) sr sl sq;go_wp2_with fail
   refine hSV.mono ?_;rintro e w4 ⟨rfl,sg,g,hgl,bu⟩;have cy:Grows W0 w4:=hg.dr.grown bu (λq hq=>by cases hq;omega);go_wp2_with fail
   go_roundw
   case rel=>exact⟨k+1,ae,by go_num,by rw[HT.out];exact sg,cy⟩
   case measure=>simp[intOf];omega
  ·obtain rfl:k=xs.length:=by omega
   rw[Aj]at hm;have b2:=hg.cell HQ.out.2.2.1;go_wp2_with fail
   go_ret;refine⟨_,rfl,?_,Grows.trans _ _ _ HG0.out hg⟩;rw[HSM.out];exact⟨_,rfl,hm⟩
def iF0 (p:List cJ) (w:World) (e:Ending) (w':World):Prop:=∃a cap,e=.returned (.slice a p.length cap)/\aF w' a 2 (p.map bE)/\Grows w w'
theorem fM0 (p:List cJ) (pa:Option Addr) (ca:Nat) (w:World) (lp:p.length*24<=140737488355328) (hp:aF w pa 2 (p.map bE)) :
  Calls Tryz.prog 100 #[.slice pa p.length ca] w (iF0 p w):=by
 go_enter Tryz.func100,Tryz.ntmps100
 go_wp2_with fail
 go_loopw [3,4] (λv i wr=>∃(k:Nat),k<=p.length/\i=.int .i64 k/\aU wr w.heap.size 148 2 bE v (p.take k)/\Grows w wr) (λ_ i _=>p.length-(intOf i).toNat)
 case atStart=>exact⟨0,Ai _,rfl,aU.nil _ _ _ _ _,Grows.refl _⟩
 case round =>
  obtain⟨k,hk,rfl,aa,hg⟩:=hrel;by_cases ae:k<p.length
  ·obtain⟨⟨xn,xk⟩,hx⟩:∃x,p[k]?=some x:=⟨_,Ab ae⟩
   obtain⟨ba,oa,rfl,be⟩:=(hp.grows hg).get (aH ae);have c0:wr.cell? ⟨ba,oa+k*2,none⟩=some (.string xn):=be k _ hx 0 _ rfl;have c1:wr.cell? ⟨ba,oa+k*2+1,none⟩=some (.int .i64 xk):=be k _ hx 1 _ rfl;have x0:=aB (w:=wr.drew) c0;have x1:=aB (w:=wr.drew) c1;have htk:p.take (k+1)=p.take k++[⟨xn,xk⟩]:=by rw[List.take_add_one,hx];rfl
   have me:(p.take k).length=k:=by rw[Ak];omega
   have HT:=Ac htk;obtain⟨a3,c3,rfl,mj,hc2,_⟩:=aa.at_ gB0.len;rw[me] at *;clear be hx htk me;go_wp2_with fail
   refine jD Grows 13 (aV 13 [12]) Grows.refl Grows.trans (by kernel_rfl) (by kernel_rfl) (λd _ _ _ _ h=>by cases d<;>exact h) ?_
   repeat (refine mW rfl (λK hK=>?_);go_simp;first|(refine hK _ ?_;clear hK K)|(apply Exists.intro;refine⟨λx=>?_,hK _ ?_⟩;(fail);clear hK K))
   clear x0 x1;refine iE rfl rfl (λK hK w3 h3=>?_);go_simp;refine⟨Grows.alloc _ _,hK _ _ ?_⟩;clear hK K
   refine uS (λw4 h4=>?_);simp only[Al,Ao];have bu:Grows wr w4:=(((Grows.drew _).tr h3).al _).tr h4;go_wp2_with (at_builtin;refine iC1 gB0 rfl _ _ rfl w.heap.size _ _ ⟨xn,xk⟩ rfl aa bu w3.heap.size 1 (jZ h4 rfl) rfl (by rw[Ak];omega) hg.size ?_;intro v' w5 jx bg)
   have di:=bg w hg (Af _);go_wp2
   go_roundw
   case rel=>exact⟨k+1,ae,by go_num,by rw[HT.out];exact jx,di⟩
   case measure=>simp[intOf];omega
  ·obtain rfl:k=p.length:=by omega
   rw[Aj]at aa;obtain⟨a3,c3,rfl,mj,hc2,ac⟩:=aa.at_ gB0.len;go_wp2
   go_ret;exact⟨_,_,rfl,ac,hg⟩
theorem yS {w:World} {a:Option Addr} {c:Nat} {l:List UInt8} (h:aF w a 1 (l.map aX)):(convert 42 9 (.slice a l.length c)).run Tryz.prog w=.ok (.string (mkB l)) w:=by
 cases l with
 | nil =>
  rw[run_convert_bytes_string w 42 9 5 a ([]:List UInt8).length c Tryz.underlying42 Tryz.underlying5 Tryz.underlying9];cases a<;>(simp[Conv.bytesToString];rfl)
 | cons x r =>
  obtain⟨b,o,rfl,hc⟩:=h.get (by simp);generalize hL:x::r=L at *;have hz:(mkB L).size=L.length:=by rw[Lib.size_eq,fA]
  have hB:Lib.Bytes w b o (mkB L):=λi hi=>by
   rw[hz]at hi;have h1:=hc i L[i] (Ab hi) 0 _ rfl;have hg:(mkB L)[i]'(by rw[hz];exact hi)=L[i]:=rfl;rw[hg];simpa using h1
  have:=Lib.run_convert_whole (P:=Tryz.prog) w 42 5 9 Tryz.underlying42 Tryz.underlying5 Tryz.underlying9 b o (mkB L) hB c
  rw[hz]at this;exact this
def rdT (l:List UInt8):Option (ByteArray×Nat):=match rdU l with
 | none=>none
 | some (n,j)=>if n<=(l.drop j).length then some (mkB ((l.drop j).take n),j+n) else none
def wA0 (k:Nat):Option (ByteArray×Nat)->Value
 | some (v,n) => .tuple #[.string v,.int .i64 ((k+n:Nat):Int),.bool true]
 | none => .tuple #[.string ⟨#[]⟩,.int .i64 0,.bool false]
def lA1 (R:Option (ByteArray×Nat)) (rb k:Nat) (w:World) (e:Ending) (w':World):Prop :=
 ((∃v n,R=some (v,n)/\e=.returned (.string v)/\w'.cell? ⟨rb,1,none⟩=some (.int .i64 ((k+n:Nat):Int)))\/(R=none/\e=.panicked [{ v:=jZ0,recovered:=false }]))/\EB rb w w'
theorem uV0 (p0 p1 p2:Nat) (w:World) (pg:List PanicEntry) (v0 v1 v2:Value) (c0:w.cell? ⟨p0,0,none⟩=some v0) (c1:w.cell? ⟨p1,0,none⟩=some v1) (c2:w.cell? ⟨p2,0,none⟩=some v2)
  (f0:w.frozen? ⟨p0,0,none⟩=false) (f1:w.frozen? ⟨p1,0,none⟩=false) (f2:w.frozen? ⟨p2,0,none⟩=false) (n01:p0≠p1) (n02:p0≠p2) (n12:p1≠p2) (B:Nat) (ve:B<=p0) (t7:B<=p1) (jk:B<=p2) :
  CallsD Tryz.prog 238 #[.pointer (some ⟨p0,0,none⟩),.pointer (some ⟨p1,0,none⟩),.pointer (some ⟨p2,0,none⟩)] (.panicking ({ v:=jZ0,recovered:=false }::pg)) w λe u' w' =>
   e=.returned (.tuple #[])/\u' = .panicking ({ v:=jZ0,recovered:=true }::pg)/\w'.cell? ⟨p0,0,none⟩=some (.string ⟨#[]⟩)/\w'.cell? ⟨p1,0,none⟩=some (.int .i64 0)/\w'.cell? ⟨p2,0,none⟩=some (.bool false)/\EB B w w':=by
 have hta:∀W:World,(Instr.typeAssert (.iface 285 (.agg #[])) 20 285 true).run Tryz.prog W=.ok (.tuple #[.agg #[],.bool true]) W:=λW=>by kernel_rfl
 have m0:=Grows.alloc w (.cells #[] 285);have b0:=Ag w _ c0;have b1:=Ag w _ c1;have b2:=Ag w _ c2;have d0:=m0.cell c0;have d1:=m0.cell c1;have d2:=m0.cell c2;have g0:=(m0.froz (p:=⟨p0,0,none⟩) b0).trans f0;have g1:=(m0.froz (p:=⟨p1,0,none⟩) b1).trans f1;have g2:=(m0.froz (p:=⟨p2,0,none⟩) b2).trans f2;have e1:(w.alloc (.cells #[] 285) |>.setCell ⟨p0,0,none⟩ (.string ⟨#[]⟩)).cell? ⟨p1,0,none⟩=some v1:=(Aa _ _ _ _ (λe=>n01 (congrArg Ae e))).trans d1
 have e2:((w.alloc (.cells #[] 285) |>.setCell ⟨p0,0,none⟩ (.string ⟨#[]⟩)).setCell ⟨p1,0,none⟩ (.int .i64 0)).cell? ⟨p2,0,none⟩=some v2:=(Aa _ _ _ _ (λe=>n12 (congrArg Ae e))).trans ((Aa _ _ _ _ (λe=>n02 (congrArg Ae e))).trans d2)
 refine callsD_of_wpS Tryz.func238 rfl λc₀ cs hu=>?_;apply wpS_seq
 apply wpS_region
 simp[wpOpsS,go_sem,recoverD,hu,Tryz.ntmps238,Exit.thenS,jZ0]
 refine wpS_of_wp ?_;rw[show (#[Value.pointer (some ⟨p0,0,none⟩),.pointer (some ⟨p1,0,none⟩),.pointer (some ⟨p2,0,none⟩)]++(Ax 11 undef).setIfInBounds 4 (.iface 285 (.agg #[]))) = #[.pointer (some ⟨p0,0,none⟩),.pointer (some ⟨p1,0,none⟩),.pointer (some ⟨p2,0,none⟩),undef,undef,undef,undef,.iface 285 (.agg #[]),undef,undef,undef,undef,undef,undef] from rfl]
 go_wp2
 have mw:(((w.setCell ⟨p0,0,none⟩ (.string ⟨#[]⟩)).setCell ⟨p1,0,none⟩ (.int .i64 0)).setCell ⟨p2,0,none⟩ (.bool false)).cell? ⟨p0,0,none⟩=some (.string ⟨#[]⟩):=by
  rw[Aa _ _ _ _ (λe=>n02 (congrArg Ae e).symm),Aa _ _ _ _ (λe=>n01 (congrArg Ae e).symm)];exact Ad _ _ _ c0
 have ew:(((w.setCell ⟨p0,0,none⟩ (.string ⟨#[]⟩)).setCell ⟨p1,0,none⟩ (.int .i64 0)).setCell ⟨p2,0,none⟩ (.bool false)).cell? ⟨p1,0,none⟩=some (.int .i64 0):=by
  rw[Aa _ _ _ _ (λe=>n12 (congrArg Ae e).symm)];exact Ad _ _ _ ((Aa _ _ _ _ (λe=>n01 (congrArg Ae e))).trans c1)
 have i5:(((w.setCell ⟨p0,0,none⟩ (.string ⟨#[]⟩)).setCell ⟨p1,0,none⟩ (.int .i64 0)).setCell ⟨p2,0,none⟩ (.bool false)).cell? ⟨p2,0,none⟩=some (.bool false) :=
  Ad _ _ _ ((Aa _ _ _ _ (λe=>n12 (congrArg Ae e))).trans ((Aa _ _ _ _ (λe=>n02 (congrArg Ae e))).trans c2))
 have gk:Below B w ((((w.setCell ⟨p0,0,none⟩ (.string ⟨#[]⟩)).setCell ⟨p1,0,none⟩ (.int .i64 0)).setCell ⟨p2,0,none⟩ (.bool false)).alloc (.cells #[] 285)):=((((Below.refl B w).setCell (p:=⟨p0,0,none⟩) ve _).setCell (p:=⟨p1,0,none⟩) t7 _).setCell (p:=⟨p2,0,none⟩) jk _).alloc (by simp;omega) _;have ni:=Grows.alloc (((w.setCell ⟨p0,0,none⟩ (.string ⟨#[]⟩)).setCell ⟨p1,0,none⟩ (.int .i64 0)).setCell ⟨p2,0,none⟩ (.bool false)) (.cells #[] 285);have k0:=ni.cell mw;have k1:=ni.cell ew;have k2:=ni.cell i5;have dw:EB B w ((((w.setCell ⟨p0,0,none⟩ (.string ⟨#[]⟩)).setCell ⟨p1,0,none⟩ (.int .i64 0)).setCell ⟨p2,0,none⟩ (.bool false)).alloc (.cells #[] 285)):=⟨gk,gk.size⟩;exact⟨rfl,_,rfl,_,results_none rfl _ _ _,rfl,rfl,k0,k1,k2,dw⟩
theorem fY1 (p0 p1 p2:Nat) (w:World) :
  CallsD Tryz.prog 238 #[.pointer (some ⟨p0,0,none⟩),.pointer (some ⟨p1,0,none⟩),.pointer (some ⟨p2,0,none⟩)] .returning w λe u' w'=>e=.returned (.tuple #[])/\u' = .returning/\w'=w:=by
 refine callsD_of_wpS Tryz.func238 rfl λc₀ cs hu=>?_;apply wpS_seq
 apply wpS_region
 simp[wpOpsS,go_sem,recoverD,hu,Tryz.ntmps238,Exit.thenS]
 refine wpS_of_wp ?_;rw[show (#[Value.pointer (some ⟨p0,0,none⟩),.pointer (some ⟨p1,0,none⟩),.pointer (some ⟨p2,0,none⟩)]++(Ax 11 undef).setIfInBounds 4 .nilIface) = #[.pointer (some ⟨p0,0,none⟩),.pointer (some ⟨p1,0,none⟩),.pointer (some ⟨p2,0,none⟩),undef,undef,undef,undef,.nilIface,undef,undef,undef,undef,undef,undef] from rfl]
 go_wp2
 cases c₀
 simp only at hu;subst hu;exact⟨rfl,_,rfl,_,results_none rfl _ _ _,rfl,rfl,rfl⟩
theorem jT1 (b:List UInt8) (rb k:Nat) (ba:Option Addr) (bc:Nat) (w:World) (hk:k<=b.length) (hb:b.length<=1099511627776) (fq:b.length<=bc) (j8:ba=none->bc=0) (ac:aF w ba 1 (b.map aX)) (hba:∀q:Addr,ba=some q->b≠[]->q.block<rb)
  (c0:w.cell? ⟨rb,0,none⟩=some (.slice ba b.length bc)) (c1:w.cell? ⟨rb,1,none⟩=some (.int .i64 k)) (f1:w.frozen? ⟨rb,1,none⟩=false) :
  Calls Tryz.prog 178 #[.pointer (some ⟨rb,0,none⟩)] w (lA1 (rdT (b.drop k)) rb k w):=by
 have hRT:∀n j,rdU (b.drop k)=some (n,j)->rdT (b.drop k)=if n<=(b.drop (k+j)).length then some (mkB ((b.drop (k+j)).take n),j+n) else none:=λn j h=>by
  unfold rdT;rw[h];simp only;rw[List.drop_drop]
 have zy:rdU (b.drop k)=none->rdT (b.drop k)=none:=λh=>by unfold rdT;rw[h]
 have CN:=Ac (cI1 b rb k ba bc w hk hb ac hba c0 c1 f1);have HAT:=Ac ac;have HNC:=Ac j8;have HBA:=Ac hba;have hrb:=Ag w _ c0;simp only at hrb
 cases hU:rdU (b.drop k) with
 | none =>
  rw[hU]at CN;have HR:=Ac (zy hU);clear hRT zy hU ac hba;go_enter Tryz.func178,Tryz.ntmps178
  go_wp2_with fail
  refine CN.out.mono ?_;rintro e w1 ⟨j7,dw⟩;rcases j7 with ⟨v,n,hR,_⟩|⟨_,rfl⟩
  ·cases hR
  ·exact⟨rfl,Or.inr ⟨HR.out,rfl⟩,dw⟩
 | some x =>
  obtain⟨n,j⟩:=x;rw[hU]at CN;have HR:=Ac (hRT n j hU);obtain⟨r,t5,hlr,hjj⟩:=fB0.1 hU
  have hj:j<=b.length-k:=by
   have:=congrArg List.length hlr
   rw[Ah,An]at this;omega
  clear hlr hjj r;clear hRT zy ac hba hU;obtain⟨K,hK⟩:=exq (k+j);have hKb:K<=b.length:=by omega
  rw[<-hK]at HR;have HK:=Ac hK;go_enter Tryz.func178,Tryz.ntmps178
  go_wp2_with fail
  refine CN.out.mono ?_;rintro e w1 ⟨j7,dw⟩;rcases j7 with ⟨v,n',hR,rfl,mj,wl,hf1⟩|⟨hR,_⟩
  case inr=>cases hR
  obtain⟨rfl,rfl⟩:n=v/\j=n':=by simpa using hR
  rw[<-hK]at mj;have z0:∀x:Ext Grows w1.drew,x.u.cell? ⟨rb,0,none⟩=some (.slice ba b.length bc):=aB ((Grows.drew w1).cell wl);have z1:∀x:Ext Grows w1.drew,x.u.cell? ⟨rb,1,none⟩=some (.int .i64 (K:Int)):=aB ((Grows.drew w1).cell mj);have aet:IntKind.i64.wrap ((b.length:Int)-(K:Int))=((b.length-K:Nat):Int):=by simp[Ar,As,Ap];omega
  have wcv:IntKind.u64.wrap ((b.length-K:Nat):Int)=((b.length-K:Nat):Int):=by simp[Ar,As,Ap];omega
  clear hR hK;by_cases fu:b.length-K<n
  ·have se:((b.length-K:Nat):Int)<n:=by omega
   have HRN:Hid (rdT (b.drop k)=none):=by show _=_;rw[HR.out,if_neg (by rw[Ah];omega)]
   clear HR;go_wp2_with fail
   refine bF (aV 13 []) (by kernel_rfl) (λd _ _ _ _ h=>by cases d<;>exact h) ?_
   iterate 13 (refine aG rfl (λK hK=>?_);go_simp;refine hK _ ?_;clear hK K)
   refine bH ?_;clear z0 z1;go_wp2_with fail
   exact⟨rfl,Or.inr ⟨HRN.out,rfl⟩,EB.trans _ _ _ _ dw (EB.of (Grows.drew w1) (Aq (Az hrb) dw.2))⟩
  ·have se:¬((b.length-K:Nat):Int)<n:=by omega
   have HRS:Hid (rdT (b.drop k)=some (mkB ((b.drop K).take n),j+n)):=by show _=_;rw[HR.out,if_pos (by rw[Ah];omega)]
   clear HR;go_wp2_with fail
   refine bF (aV 13 []) (by kernel_rfl) (λd _ _ _ _ h=>by cases d<;>exact h) ?_
   iterate 13 (refine aG rfl (λK hK=>?_);go_simp;refine hK _ ?_;clear hK K)
   refine bH ?_;clear z0 z1;have y0:∀x:Ext Grows w1.drew.drew,x.u.cell? ⟨rb,0,none⟩=some (.slice ba b.length bc):=aB ((Grows.drew _).cell ((Grows.drew w1).cell wl));have y1:∀x:Ext Grows w1.drew.drew,x.u.cell? ⟨rb,1,none⟩=some (.int .i64 (K:Int)):=aB ((Grows.drew _).cell ((Grows.drew w1).cell mj));have wn:IntKind.i64.wrap (n:Int)=n:=by simp[Ar,As,Ap];omega
   have wa:IntKind.i64.wrap ((K:Int)+n)=((K+n:Nat):Int):=by simp[Ar,As,Ap];omega
   go_wp2_with fail
   refine bF (aV 18 []) (by kernel_rfl) (λd _ _ _ _ h=>by cases d<;>exact h) ?_
   have h01:(0:Int)<=(K:Int)+n:=by omega
   have h02:(K:Int)+n<=bc:=by omega
   have tn:((K:Int)+n).toNat=K+n:=by omega
   have tk:K<=K+n:=by omega
   have tm:K+n-K=n:=by omega
   have HAT1:aF w1 ba 1 (b.map aX):=λaj=>by
    obtain⟨bb,bo,e,hc⟩:=HAT.out aj;have ae:=HBA.out _ e (λh0=>aj (by rw[h0];rfl));exact⟨bb,bo,e,λi row hi j v hj=>(Below.cell dw.1 (by simpa using ae)).trans (hc i row hi j v hj)⟩
   obtain⟨a',jm,jr,_⟩:=pF (c:=bc) (l:=K) (h:=K+n) (k:=1) HAT1 HNC.out (by omega) (by omega) (by omega);rw[show K+n-K=n by omega]at jm
   have ahc:(if bc=K then ba else Ay (λx=>x.add K) ba)=a':=by
    unfold sliced at jm;by_cases ud:bc=K
    ·rw[if_pos ud]at jm ⊢;exact(Value.slice.inj jm).1
    ·rw[if_neg ud]at jm ⊢
     have:=(Value.slice.inj jm).1
     rw[<-this];congr 1
     funext x
     rw[Ba]
   have tg:((b.take (K+n)).drop K)=(b.drop K).take n:=by rw[List.take_drop]
   have xg:((b.drop K).take n).length=n:=by rw[Ak,Ah];omega
   rw[tg]at jr
   have hcv:∀x:Ext Grows w1.drew.drew,(convert 42 9 (.slice a' n (bc-K))).run Tryz.prog x.u=.ok (.string (mkB ((b.drop K).take n))) x.u:=λx=>by
    have:=yS (c:=bc-K) (jr.grows (Grows.trans _ _ _ (Grows.trans _ _ _ (Grows.drew w1) (Grows.drew _)) x.h))
    rw[xg]at this;exact this
   generalize (b.drop K).take n=S at *;iterate 18 (refine aG rfl (λK hK=>?_);go_simp;refine hK _ ?_;clear hK K)
   refine bH ?_;go_wp2_with fail
   go_ret;refine⟨Or.inl ⟨_,_,HRS.out,rfl,?_⟩,EB.trans _ _ _ _ (EB.trans _ _ _ _ dw (⟨(Below.refl rb w1).setCell (p:=⟨rb,1,none⟩) (Af rb) _,by simp⟩:EB rb w1 (w1.setCell ⟨rb,1,none⟩ (.int .i64 ((K:Int)+n))))) (EB.of ((Grows.drew _).dr) (by simp;exact Aq (Az hrb) dw.2))⟩;rw[show ((k+(j+n):Nat):Int)=(K:Int)+n by rw[HK.out];push_cast;omega]
   exact Ad _ _ _ mj
structure oC1 (w:World) (s:Value) (k:Int) (W:World):Prop where
 g:Grows w W
 sz:w.heap.size+1+1+1<W.heap.size
 c0:W.cell? ⟨w.heap.size,0,none⟩=some (.string ⟨#[]⟩)
 f0:W.frozen? ⟨w.heap.size,0,none⟩=false
 c1:W.cell? ⟨w.heap.size+1,0,none⟩=some (.int .i64 0)
 f1:W.frozen? ⟨w.heap.size+1,0,none⟩=false
 c2:W.cell? ⟨w.heap.size+1+1,0,none⟩=some (.bool false)
 f2:W.frozen? ⟨w.heap.size+1+1,0,none⟩=false
 r0:W.cell? ⟨w.heap.size+1+1+1,0,none⟩=some s
 r1:W.cell? ⟨w.heap.size+1+1+1,1,none⟩=some (.int .i64 k)
 rf:W.frozen? ⟨w.heap.size+1+1+1,1,none⟩=false
theorem oG1 (w:World) (s:Value) (k:Int):oC1 w s k ((((w.alloc (.cells #[.string ⟨#[]⟩] 9)).alloc (.cells #[.int .i64 0] 3)).alloc (.cells #[.bool false] 4)).alloc (.cells #[s,.int .i64 k] 287)):=by
 have e1:(w.alloc (.cells #[.string ⟨#[]⟩] 9)).heap.size=w.heap.size+1:=by simp
 have e2:((w.alloc (.cells #[.string ⟨#[]⟩] 9)).alloc (.cells #[.int .i64 0] 3)).heap.size=w.heap.size+1+1:=by simp
 have e3:(((w.alloc (.cells #[.string ⟨#[]⟩] 9)).alloc (.cells #[.int .i64 0] 3)).alloc (.cells #[.bool false] 4)).heap.size=w.heap.size+1+1+1:=by simp
 have b0:=bJ (w:=w) (cs:=#[.string ⟨#[]⟩]) (t:=9) (w':=((((w.alloc (.cells #[.string ⟨#[]⟩] 9)).alloc (.cells #[.int .i64 0] 3)).alloc (.cells #[.bool false] 4)).alloc (.cells #[s,.int .i64 k] 287))) (((Grows.alloc _ _).al _).al _);have b1:=bJ (w:=w.alloc (.cells #[.string ⟨#[]⟩] 9)) (cs:=#[.int .i64 0]) (t:=3) (w':=((((w.alloc (.cells #[.string ⟨#[]⟩] 9)).alloc (.cells #[.int .i64 0] 3)).alloc (.cells #[.bool false] 4)).alloc (.cells #[s,.int .i64 k] 287))) ((Grows.alloc _ _).al _);have b2:=bJ (w:=(w.alloc (.cells #[.string ⟨#[]⟩] 9)).alloc (.cells #[.int .i64 0] 3)) (cs:=#[.bool false]) (t:=4) (w':=((((w.alloc (.cells #[.string ⟨#[]⟩] 9)).alloc (.cells #[.int .i64 0] 3)).alloc (.cells #[.bool false] 4)).alloc (.cells #[s,.int .i64 k] 287))) (Grows.alloc _ _);have b3:=bJ (w:=((w.alloc (.cells #[.string ⟨#[]⟩] 9)).alloc (.cells #[.int .i64 0] 3)).alloc (.cells #[.bool false] 4)) (cs:=#[s,.int .i64 k]) (t:=287) (w':=((((w.alloc (.cells #[.string ⟨#[]⟩] 9)).alloc (.cells #[.int .i64 0] 3)).alloc (.cells #[.bool false] 4)).alloc (.cells #[s,.int .i64 k] 287))) (Grows.refl _);rw[e1]at b1;rw[e2]at b2;rw[e3]at b3;exact⟨(((Grows.alloc _ _).al _).al _).al _,by simp,b0.1 0 _ rfl,b0.2 0,b1.1 0 _ rfl,b1.2 0,b2.1 0 _ rfl,b2.2 0,b3.1 0 _ rfl,b3.1 1 _ rfl,b3.2 1⟩
theorem yZ0 (b:List UInt8) (k:Nat) (ba:Option Addr) (bc:Nat) (w:World) (hk:k<=b.length) (hb:b.length<=1099511627776) (fq:b.length<=bc) (j8:ba=none->bc=0) (ac:aF w ba 1 (b.map aX)) :
  Calls Tryz.prog 177 #[.slice ba b.length bc,.int .i64 k,.func (.func 178) #[] #[]] w λe w'=>e=.returned (wA0 k (rdT (b.drop k)))/\Grows w w':=by
 have hmf:∀(fn:Fn) (first cap:Array Value) (w:World),(Instr.makeFunc fn first cap).run Tryz.prog w=.ok (.func fn first cap) w:=λ_ _ _ _=>rfl
 have jv:¬(k:Int)<0:=by omega
 have HAT:=Ac ac
 have HBA:Hid (∀q:Addr,ba=some q->b≠[]->q.block<w.heap.size):=λq hq aj=>by
  obtain⟨x,hx⟩:∃x,b[0]?=some x:=⟨_,Ab (List.length_pos_iff.2 aj)⟩;obtain⟨bb,bo,e,fq⟩:=ac.get aj;rw[e]at hq;cases hq
  exact Ag _ _ (fq 0 x hx 0 _ rfl)
 obtain⟨R,hR⟩:=exq (rdT (b.drop k));have HR:=Ac hR;rw[<-hR];clear hR ac;go_enter_defers Tryz.func177,Tryz.ntmps177
 go_wp2_with fail
 have hB:=oG1 w (.slice ba b.length bc) k;generalize ((((w.alloc (.cells #[Value.string ⟨#[]⟩] 9)).alloc (.cells #[.int .i64 0] 3)).alloc (.cells #[.bool false] 4)).alloc (.cells #[Value.slice ba b.length bc,.int .i64 k] 287))=W4 at *;refine(jT1 b _ k ba bc W4 hk hb fq j8 (HAT.out.grows hB.g) (λq hq aj=>Nat.lt_trans (HBA.out q hq aj) (by omega)) hB.r0 hB.r1 hB.rf).mono ?_;rintro e w5 ⟨j7,dw⟩;rw[<-HR.out]at j7;have hs5:=dw.2;have dp:=hB.sz;have c0:w5.cell? ⟨w.heap.size,0,none⟩=_:=(Below.cell dw.1 (by simp only;omega)).trans hB.c0;have c1:w5.cell? ⟨w.heap.size+1,0,none⟩=_:=(Below.cell dw.1 (by simp only;omega)).trans hB.c1;have c2:w5.cell? ⟨w.heap.size+1+1,0,none⟩=_:=(Below.cell dw.1 (by simp only;omega)).trans hB.c2;have f0:w5.frozen? ⟨w.heap.size,0,none⟩=_:=(Below.frozen dw.1 (by simp only;omega)).trans hB.f0;have f1:w5.frozen? ⟨w.heap.size+1,0,none⟩=_:=(Below.frozen dw.1 (by simp only;omega)).trans hB.f1;have f2:w5.frozen? ⟨w.heap.size+1+1,0,none⟩=_:=(Below.frozen dw.1 (by simp only;omega)).trans hB.f2;have bg:Grows w w5:=lV0 hB.g dw (by omega);rcases j7 with ⟨v,n,rfl,rfl,hc⟩|⟨rfl,rfl⟩
 ·have g0:(w5.setCell ⟨w.heap.size,0,none⟩ (.string v)).cell? ⟨w.heap.size,0,none⟩=some (.string v):=Ad _ _ _ c0
  have g1:(w5.setCell ⟨w.heap.size,0,none⟩ (.string v)).cell? ⟨w.heap.size+1,0,none⟩=some (.int .i64 0):=(Aa _ _ _ _ (λe=>by have:=congrArg Ae e;simp only at this;omega)).trans c1;have g2:(w5.setCell ⟨w.heap.size,0,none⟩ (.string v)).cell? ⟨w.heap.size+1+1,0,none⟩=some (.bool false):=(Aa _ _ _ _ (λe=>by have:=congrArg Ae e;simp only at this;omega)).trans c2;have g3:(w5.setCell ⟨w.heap.size,0,none⟩ (.string v)).cell? ⟨w.heap.size+1+1+1,1,none⟩=some (.int .i64 ((k+n:Nat):Int)):=(Aa _ _ _ _ (λe=>by have:=congrArg Ae e;simp only at this;omega)).trans hc
  have gg:∀j,j=w.heap.size\/j=w.heap.size+1\/j=w.heap.size+1+1->(w5.setCell ⟨w.heap.size,0,none⟩ (.string v)).frozen? ⟨j,0,none⟩=false:=λj hj=>by
   rw[Am];rcases hj with rfl|rfl|rfl
   ·exact f0
   ·exact f1
   ·exact f2
  obtain⟨K,lr⟩:=exq (k+n);rw[<-lr]at g3 hc;have HK2:=Ac lr;clear lr;have hgp:Grows w (w5.setCell ⟨w.heap.size,0,none⟩ (.string v)):=bg.set (by simp only;omega) _;have hsp:w.heap.size+1+1+1<(w5.setCell ⟨w.heap.size,0,none⟩ (.string v)).heap.size:=by simp;omega
  clear HR hB dw c1 c2 f1 f2 hc bg;go_wp2_with fail
  clear c0 f0;generalize (w5.setCell ⟨w.heap.size,0,none⟩ (.string v))=w6 at *;have z0:∀x:Ext (ES w.heap.size (.string v)) w6.drew,x.u.cell? ⟨w.heap.size,0,none⟩=some (.string v):=λx=>x.h.2.2.2.1 ((Grows.drew _).cell g0);have z3:∀x:Ext (ES w.heap.size (.string v)) w6.drew,x.u.cell? ⟨w.heap.size+1+1+1,1,none⟩=some (.int .i64 (K:Int)):=λx=>x.h.2.1 _ _ (by simp only;omega) ((Grows.drew _).cell g3);have x0:w6.drew.cell? ⟨w.heap.size,0,none⟩=some (.string v):=g0;have xf:w6.drew.frozen? ⟨w.heap.size,0,none⟩=false:=gg _ (Or.inl rfl);refine rH0 ?_;refine rJ0 (ES w.heap.size (.string v)) 6 (aV 6 [5]) (ES.refl _ _) (ES.trans _ _) (by kernel_rfl) (by kernel_rfl) (λ_ _ _ _ _ h=>h) ?_;iterate 5 (refine aG rfl (λK hK=>?_);go_simp;refine hK _ ?_;clear hK K)
  refine aY rfl rfl (λK hK=>?_);go_simp;refine⟨ES.put x0,hK _ _ ?_⟩;clear hK K;refine bH ?_;simp only[Al,Ao];clear z0 z3;have n0:=g0;have y0:(w6.setCell ⟨w.heap.size,0,none⟩ (.string v)).cell? ⟨w.heap.size,0,none⟩=some (.string v):=Ad _ _ _ g0;have y1:(w6.setCell ⟨w.heap.size,0,none⟩ (.string v)).cell? ⟨w.heap.size+1,0,none⟩=some (.int .i64 0):=(Aa _ _ _ _ (λe=>by have:=congrArg Ae e;simp only at this;omega)).trans g1;have y2:(w6.setCell ⟨w.heap.size,0,none⟩ (.string v)).cell? ⟨w.heap.size+1+1,0,none⟩=some (.bool false):=(Aa _ _ _ _ (λe=>by have:=congrArg Ae e;simp only at this;omega)).trans g2;have yg:Grows w (w6.setCell ⟨w.heap.size,0,none⟩ (.string v)):=hgp.set (by simp only;omega) _;have yf1:(w6.setCell ⟨w.heap.size,0,none⟩ (.string v)).frozen? ⟨w.heap.size+1,0,none⟩=false:=(Am _ _ _ _).trans (gg _ (Or.inr (Or.inl rfl)));have yf2:(w6.setCell ⟨w.heap.size,0,none⟩ (.string v)).frozen? ⟨w.heap.size+1+1,0,none⟩=false:=(Am _ _ _ _).trans (gg _ (Or.inr (Or.inr rfl)));clear x0 xf g0 g1 g2 g3 gg n0;generalize w6.setCell ⟨w.heap.size,0,none⟩ (.string v)=w7 at *
  have k1:((w7.setCell ⟨w.heap.size+1,0,none⟩ (.int .i64 K)).setCell ⟨w.heap.size+1+1,0,none⟩ (.bool true)).drew.cell? ⟨w.heap.size+1,0,none⟩=some (.int .i64 K):=by
   refine(Aa _ _ _ _ (λe=>by have:=congrArg Ae e;simp only at this;omega)).trans ?_;exact Ad _ _ _ y1
  have y2':(w7.setCell ⟨w.heap.size+1,0,none⟩ (.int .i64 K)).cell? ⟨w.heap.size+1+1,0,none⟩=some (.bool false):=by
   rw[Aa _ _ _ _ (λe=>by have:=congrArg Ae e;simp only at this;omega)];exact y2
  have k2:((w7.setCell ⟨w.heap.size+1,0,none⟩ (.int .i64 K)).setCell ⟨w.heap.size+1+1,0,none⟩ (.bool true)).drew.cell? ⟨w.heap.size+1+1,0,none⟩=some (.bool true):=Ad _ _ _ y2'
  have k0:((w7.setCell ⟨w.heap.size+1,0,none⟩ (.int .i64 K)).setCell ⟨w.heap.size+1+1,0,none⟩ (.bool true)).drew.cell? ⟨w.heap.size,0,none⟩=some (.string v):=by
   refine(Aa _ _ _ _ (λe=>by have:=congrArg Ae e;simp only at this;omega)).trans ?_;refine(Aa _ _ _ _ (λe=>by have:=congrArg Ae e;simp only at this;omega)).trans ?_;exact y0
  have kg:Grows w ((w7.setCell ⟨w.heap.size+1,0,none⟩ (.int .i64 K)).setCell ⟨w.heap.size+1+1,0,none⟩ (.bool true)).drew:=((yg.set (by simp only;omega) _).set (by simp only;omega) _).dr;go_wp2_with fail
  simp only[xH];go_wp2_with fail
  refine leaves_cons (f:=238) (args:=#[.pointer (some ⟨w.heap.size,0,none⟩),.pointer (some ⟨w.heap.size+1,0,none⟩),.pointer (some ⟨w.heap.size+1+1,0,none⟩)]) (by simp) (by simp[go_sem]) ?_
  refine(fY1 _ _ _ _).mono ?_;rintro e u' ox ⟨rfl,rfl,rfl⟩;show Leaves _ _ _ _ _ _ _
  simp only[settle];refine⟨.tuple #[.string v,.int .i64 K,.bool true],?_,by rw[HK2.out];rfl,kg⟩;simp[results,Tryz.results177,go_sem,k0,k1,k2]
 ·clear HR hB dw
  go_wp2_with fail
  refine leaves_cons (f:=238) (args:=#[.pointer (some ⟨w.heap.size,0,none⟩),.pointer (some ⟨w.heap.size+1,0,none⟩),.pointer (some ⟨w.heap.size+1+1,0,none⟩)]) (by simp) (by simp[go_sem]) ?_
  refine(uV0 w.heap.size (w.heap.size+1) (w.heap.size+1+1) w5 [] _ _ _ c0 c1 c2 f0 f1 f2 (by omega) (by omega) (by omega) w.heap.size (by omega) (by omega) (by omega)).mono ?_;rintro e u' ox ⟨rfl,rfl,k0,k1,k2,acs⟩;have kg:Grows w ox:=EB.grows bg acs;show Leaves _ _ _ _ _ _ _
  simp only[settle];refine⟨.tuple #[.string ⟨#[]⟩,.int .i64 0,.bool false],?_,rfl,kg⟩;simp[results,Tryz.results177,go_sem,k0,k1,k2]
theorem eN0 (b:List UInt8) (k:Nat) (ba:Option Addr) (bc:Nat) (w:World) (hk:k<=b.length) (hb:b.length<=1099511627776) (fq:b.length<=bc) (j8:ba=none->bc=0) (ac:aF w ba 1 (b.map aX)) :
  Calls Tryz.prog 114 #[.slice ba b.length bc,.int .i64 k] w λe w'=>e=.returned (wA0 k (rdT (b.drop k)))/\Grows w w':=by
 have CR:=Ac (yZ0 b k ba bc w hk hb fq j8 ac)
 cases hR:rdT (b.drop k) with
 | none =>
  rw[hR]at CR;unfold wA0 at CR ⊢;clear hR ac;go_enter Tryz.func114,Tryz.ntmps114
  go_wp2_with fail
  refine CR.out.mono ?_;rintro e w1 ⟨rfl,hg⟩;go_wp2_with fail
  go_ret3;exact⟨rfl,hg⟩
 | some x =>
  obtain⟨v,n⟩:=x;rw[hR]at CR;unfold wA0 at CR ⊢;obtain⟨K,hK⟩:=exq (k+n);simp only[<-hK]at CR ⊢;clear hR ac hK;go_enter Tryz.func114,Tryz.ntmps114
  go_wp2_with fail
  refine CR.out.mono ?_;rintro e w1 ⟨rfl,hg⟩;go_wp2_with fail
  go_ret3;exact⟨rfl,hg⟩
end
section
open Go Go.RowKit
theorem bE0 {w:World} {ba:Option Addr} {b:List UInt8} {bc l h:Nat} (ac:aF w ba 1 (b.map aX)) (hn:ba=none->bc=0) (h1:l<=h) (h2:h<=b.length) (h3:b.length<=bc) :
  ∃a',(if bc=l then ba else Ay (λx=>x.add l) ba)=a'/\aF w a' 1 (((b.take h).drop l).map aX)/\(a'=none->bc-l=0):=by
 obtain⟨a',jm,jr,abj⟩:=pF (c:=bc) (l:=l) (h:=h) (k:=1) ac hn h1 h2 h3;refine⟨a',?_,jr,abj⟩;unfold sliced at jm;by_cases ud:bc=l
 ·rw[if_pos ud]at jm ⊢;exact(Value.slice.inj jm).1
 ·rw[if_neg ud]at jm ⊢
  have:=(Value.slice.inj jm).1
  rw[<-this];congr 1
  funext x
  rw[Ba]
end
end Go.Proofs.YtcijgkfpobpdbaaGreatDoor
