/- The texts Wadd, one behind the other. -/
import Derived.Test.YthgklnohcmaopaaGreatDoorLq27
import Derived.Test.YthgklnohcmaopaaGreatDoorLq1
import Derived.Test.YthgklnohcmaopaaGreatDoorLq11
import Derived.Maps.Own
import Derived.Carry
import Derived.Maps.AppendAt
open Nat renaming le_refl → Aa,le_succ → Ac
open Go.Lib renaming hid → Ab
open ByteArray renaming empty → Ad
set_option maxHeartbeats 4000000
namespace Go.Proofs.YthgklnohcmaopaaGreatDoor
set_option maxRecDepth 100000
open Go Go.RowKit
attribute [local go_sem] aO
structure iL (w:World) (fb mb N:Nat) (O:Nd->Prop) (V:List Nd):Prop where
 box:w.cell? ⟨fb,0,none⟩=some (.map (some mb))
 own:∃D:DataW Unit,w.ownsMap Tryz.prog 51 (eB (H:=Unit)) mb N D/\wR0 V D
 bst:Bests O V
theorem iL.grows {w w':World} {fb mb N:Nat} {O:Nd->Prop} {V:List Nd} (h:iL w fb mb N O V) (hg:aB w w'):iL w' fb mb N O V :=
 ⟨hg.cell h.box,let ⟨D,h1,h2⟩:=h.own;⟨D,aJ h1 hg,h2⟩,h.bst⟩
theorem iL.congr {w:World} {fb mb N:Nat} {O O':Nd->Prop} {V:List Nd} (h:iL w fb mb N O V) (he:∀x,O x↔O' x):iL w fb mb N O' V:=⟨h.box,h.own,h.bst.congr he⟩
def gE:Nd:=⟨0,0,Ad,0,0,0,0⟩
theorem cG0 (w:World):(zeroValue 51).run Tryz.prog w=.ok gE.agg w:=by kernel_rfl
def wU0 (x:Nd):Nd:={ x with c:=max x.c 0 }
theorem nI1 {x:Nd} (h:gP0 x):gP0 (wU0 x):=⟨h.f,h.t,h.s,h.l,h.r,by
 unfold wU0;by_cases h0:x.c<=0
 ·rw[show max x.c 0=0 by omega];exact wf0
 ·rw[show max x.c 0=x.c by omega];exact h.c,h.k⟩
def zJ0 (x:Nd) (fb mb N:Nat) (O:Nd->Prop) (w:World) (e:Ending) (w':World):Prop :=
 e=.returned (.tuple #[])/\(∃V',iL w' fb mb (N+1) (λy=>O y\/y=wU0 x) V')/\w.grownBy w' (some mb)
theorem iO {w W w':World} {mb:Nat} (h:aB w W) (hg:W.grownBy w' (some mb)):w.grownBy w' (some mb):=World.grownBy.trans ⟨Below.os h,Below.tape h,Below.output h,Below.size h,λk hk _=>Below.block h k hk⟩ hg
theorem Nd.agg_zero {v:Value} {D:DataW Unit} {kl:Lit} {ps:List MemPlace} (g9:Maps.has D kl=false) (hv:eB (H:=Unit) v=some (D.atKey kl (ndD gE),ps)):v=.agg #[.int .i64 0,.int .i64 0,.string Ad,.int .i64 0,.int .i64 0,.int .i64 0,.int .i64 0]:=by
 rw[Maps.atKey_of_not_has g9]at hv;obtain⟨x,rfl,e⟩:=qR hv;rw[<-pQ0 (Prod.mk.inj e).1];rfl
theorem Nd.agg_of {v:Value} {D:DataW Unit} {kl:Lit} {ps:List MemPlace} {y:Nd} (ac:∀zd,D.atKey kl zd=ndD y) (hv:eB (H:=Unit) v=some (D.atKey kl (ndD gE),ps)):v=.agg #[.int .i64 y.f,.int .i64 y.t,.string y.s,.int .i64 y.l,.int .i64 y.r,.int .i64 y.c,.int .i64 y.k]:=by
 rw[ac]at hv;obtain⟨x,rfl,e⟩:=qR hv;rw[<-pQ0 (Prod.mk.inj e).1];rfl
theorem kR0 {V:List Nd} {x:Nd} (h:∀y∈V, ¬cK y x):jP1 V x=stN V x:=by
 unfold jP1;rw[if_neg];intro ha;obtain⟨z,hz,hb⟩:=List.any_eq_true.1 ha;exact h z hz (of_decide_eq_true hb).1
theorem cB0 {V:List Nd} {x y:Nd} (hy:y∈V) (hs:cK y x) (hb:cF y x):jP1 V x=V:=by
 unfold jP1;rw[if_pos];exact List.any_eq_true.2 ⟨y,hy,decide_eq_true ⟨hs,hb⟩⟩
theorem qU {V:List Nd} {x y:Nd} (hy:y∈V) (hs:cK y x) (h1:V.Pairwise λa b=>¬cK a b) (hb:¬cF y x):jP1 V x=stN V x:=by
 unfold jP1;rw[if_neg];intro ha;obtain⟨z,hz,hzb⟩:=List.any_eq_true.1 ha;obtain⟨k1,k2⟩:=of_decide_eq_true hzb;rw[pC0 h1 hz hy (k1.trans hs.symm)]at k2;exact hb k2
theorem fV0 (x:Nd) (fb mb N:Nat) (O:Nd->Prop) (V:List Nd) (w:World) (h:iL w fb mb N O V) (hx:gP0 x) (hN:N<maxLen) :
  Calls Tryz.prog 31 #[x.agg,.pointer (some ⟨fb,0,none⟩)] w (zJ0 x fb mb N O w):=by
 have q8:=nI1 hx;obtain⟨c0,⟨D,aa,hM⟩,hB⟩:=h;have hfb:fb<w.heap.size:=World.block_lt_of_cell? w _ c0
 have un:mb≠fb:=by
  rintro rfl;obtain⟨es,clock,hb,_⟩:=aa;simp[World.cell?,hb]at c0
 obtain⟨xf,xt,xs,xl,xr,xc,xk⟩:=x;have jq:=hM.look q8;have hk:Go.keyOf Tryz.prog 51 (.agg #[.int .i64 xf,.int .i64 xt,.string xs,.int .i64 xl,.int .i64 xr,.int .i64 0,.int .i64 0])=some (klN ⟨xf,xt,xs,xl,xr,0,0⟩):=qA1 q8.key;obtain⟨m,hm⟩:=exq (max xc 0);have HTOP:Hid (wU0 ⟨xf,xt,xs,xl,xr,xc,xk⟩=⟨xf,xt,xs,xl,xr,m,xk⟩):=by rw[hm];exact rfl
 have HST:=Ab (hM.store q8);have HMM:=Ab hM;have HBB:=Ab hB;rw[HTOP.out]at jq HST;have bh:∀W:World,aB w W->W.cell? ⟨fb,0,none⟩=some (.map (some mb)):=λW hW=>hW.cell c0;have h3:∀a b c,(((w.alloc a).alloc b).alloc c).cell? ⟨fb,0,none⟩=some (.map (some mb)):=λa b c=>(((aB.alloc w a).al b).al c).cell c0;have qn:(xc<0/\m=0)\/(¬xc<0/\xc=m):=by omega
 unfold Nd.agg;clear hx q8 hM hB;clear hm;rcases qn with ⟨hc,rfl⟩|⟨hc,rfl⟩
 ·rcases jq with ⟨hh,di⟩|⟨⟨yf,yt,ys,yl,yr,yc,yk⟩,hy,hs,hh,ac⟩
  ·replace hh:Maps.has D (klN ⟨xf,xt,xs,xl,xr,0,0⟩)=false:=hh
   have HB2:=Ab (HBB.out.add (⟨xf,xt,xs,xl,xr,0,xk⟩:Nd));rw[kR0 di]at HB2;clear di;go_enter Tryz.func31,Tryz.ntmps31
   go_wp2_with (first|(at_lookup;refine wpList_lookup_own_ok _ rfl _ _ 82 rfl 51 51 gG Tryz.underlying82 (eB (H:=Unit)) (cG0 _) (ndD gE) [] (iA gE) mb N D rfl (aJ aa (by repeat' (first|exact aB.refl _|exact Aa _|(simp;done)|refine aB.al ?_ _|refine aB.set ?_ ?_ _))) _ (klN ⟨xf,xt,xs,xl,xr,0,0⟩) rfl hk ?_;intro v ps hv;obtain⟨rfl⟩:=Nd.agg_zero hh hv;rw[hh];clear hv)|(at_mapUpdate;refine wpList_mapUpdate_own _ rfl _ _ _ 82 rfl 51 51 gG Tryz.underlying82 (eB (H:=Unit)) mb N D rfl (aJ aa (by repeat' (first|exact aB.refl _|exact Aa _|(simp;done)|refine aB.al ?_ _|refine aB.set ?_ ?_ _))) hN _ _ (klN ⟨xf,xt,xs,xl,xr,0,0⟩) rfl rfl hk (ndD ⟨xf,xt,xs,xl,xr,0,xk⟩) [] rfl ?_;intro w1 aq bg))
   exact bodyPost_end (v:=.tuple #[]) (by simp[results,Tryz.results31,go_sem]) rfl ⟨rfl,⟨_,bg.cell (h3 _ _ _) (by simpa using Ne.symm un),⟨_,aq,HST.out⟩,(by rw[HTOP.out];exact HB2.out)⟩,iO (by repeat' (first|exact aB.refl _|exact Aa _|(simp;done)|refine aB.al ?_ _|refine aB.set ?_ ?_ _)) bg⟩
  ·replace hh:Maps.has D (klN ⟨xf,xt,xs,xl,xr,0,0⟩)=true:=hh
   replace ac:∀zd,D.atKey (klN ⟨xf,xt,xs,xl,xr,0,0⟩) zd=ndD (⟨yf,yt,ys,yl,yr,yc,yk⟩:Nd):=ac
   have cj:(0<yc)\/(¬0<yc/\(0==yc)=true/\xk<yk)\/cF ⟨yf,yt,ys,yl,yr,yc,yk⟩ (⟨xf,xt,xs,xl,xr,0,xk⟩:Nd):=by
    unfold cF;simp only[beq_iff_eq];omega
   rcases cj with h1|⟨h1,hb,h2⟩|rr
   ·have HB2:=Ab (HBB.out.add (⟨xf,xt,xs,xl,xr,0,xk⟩:Nd))
    rw[qU hy hs (HBB.out.one) (λhb=>by unfold cF at hb;simp only at hb;omega)]at HB2;clear hy hs;go_enter Tryz.func31,Tryz.ntmps31
    go_wp2_with (first|(at_lookup;refine wpList_lookup_own_ok _ rfl _ _ 82 rfl 51 51 gG Tryz.underlying82 (eB (H:=Unit)) (cG0 _) (ndD gE) [] (iA gE) mb N D rfl (aJ aa (by repeat' (first|exact aB.refl _|exact Aa _|(simp;done)|refine aB.al ?_ _|refine aB.set ?_ ?_ _))) _ (klN ⟨xf,xt,xs,xl,xr,0,0⟩) rfl hk ?_;intro v ps hv;obtain⟨rfl⟩:=Nd.agg_of ac hv;rw[hh];clear hv)|(at_mapUpdate;refine wpList_mapUpdate_own _ rfl _ _ _ 82 rfl 51 51 gG Tryz.underlying82 (eB (H:=Unit)) mb N D rfl (aJ aa (by repeat' (first|exact aB.refl _|exact Aa _|(simp;done)|refine aB.al ?_ _|refine aB.set ?_ ?_ _))) hN _ _ (klN ⟨xf,xt,xs,xl,xr,0,0⟩) rfl rfl hk (ndD ⟨xf,xt,xs,xl,xr,0,xk⟩) [] rfl ?_;intro w1 aq bg))
    exact bodyPost_end (v:=.tuple #[]) (by simp[results,Tryz.results31,go_sem]) rfl ⟨rfl,⟨_,bg.cell (h3 _ _ _) (by simpa using Ne.symm un),⟨_,aq,HST.out⟩,(by rw[HTOP.out];exact HB2.out)⟩,iO (by repeat' (first|exact aB.refl _|exact Aa _|(simp;done)|refine aB.al ?_ _|refine aB.set ?_ ?_ _)) bg⟩
   ·have hb0:=hb
    have HB2:=Ab (HBB.out.add (⟨xf,xt,xs,xl,xr,0,xk⟩:Nd));rw[qU hy hs (HBB.out.one) (λhb=>by unfold cF at hb;have e:=eq_of_beq hb0;simp only at hb;omega)]at HB2;clear hy hs;go_enter Tryz.func31,Tryz.ntmps31
    go_wp2_with (first|(at_lookup;refine wpList_lookup_own_ok _ rfl _ _ 82 rfl 51 51 gG Tryz.underlying82 (eB (H:=Unit)) (cG0 _) (ndD gE) [] (iA gE) mb N D rfl (aJ aa (by repeat' (first|exact aB.refl _|exact Aa _|(simp;done)|refine aB.al ?_ _|refine aB.set ?_ ?_ _))) _ (klN ⟨xf,xt,xs,xl,xr,0,0⟩) rfl hk ?_;intro v ps hv;obtain⟨rfl⟩:=Nd.agg_of ac hv;rw[hh];clear hv)|(at_mapUpdate;refine wpList_mapUpdate_own _ rfl _ _ _ 82 rfl 51 51 gG Tryz.underlying82 (eB (H:=Unit)) mb N D rfl (aJ aa (by repeat' (first|exact aB.refl _|exact Aa _|(simp;done)|refine aB.al ?_ _|refine aB.set ?_ ?_ _))) hN _ _ (klN ⟨xf,xt,xs,xl,xr,0,0⟩) rfl rfl hk (ndD ⟨xf,xt,xs,xl,xr,0,xk⟩) [] rfl ?_;intro w1 aq bg))
    exact bodyPost_end (v:=.tuple #[]) (by simp[results,Tryz.results31,go_sem]) rfl ⟨rfl,⟨_,bg.cell (h3 _ _ _) (by simpa using Ne.symm un),⟨_,aq,HST.out⟩,(by rw[HTOP.out];exact HB2.out)⟩,iO (by repeat' (first|exact aB.refl _|exact Aa _|(simp;done)|refine aB.al ?_ _|refine aB.set ?_ ?_ _)) bg⟩
   ·have HB2:=Ab (HBB.out.add (⟨xf,xt,xs,xl,xr,0,xk⟩:Nd))
    rw[cB0 hy hs rr]at HB2
    have cj:¬0<yc/\((0==yc)=false\/((0==yc)=true/\¬xk<yk)):=by
     unfold cF at rr;simp only at rr;refine⟨by omega,?_⟩;by_cases e:0=yc
     ·exact Or.inr ⟨by simpa using e,by omega⟩
     ·exact Or.inl (by simpa using e)
    clear rr hy hs;obtain⟨h1,hb|⟨hb,h2⟩⟩:=cj
    ·go_enter Tryz.func31,Tryz.ntmps31
     go_wp2_with (first|(at_lookup;refine wpList_lookup_own_ok _ rfl _ _ 82 rfl 51 51 gG Tryz.underlying82 (eB (H:=Unit)) (cG0 _) (ndD gE) [] (iA gE) mb N D rfl (aJ aa (by repeat' (first|exact aB.refl _|exact Aa _|(simp;done)|refine aB.al ?_ _|refine aB.set ?_ ?_ _))) _ (klN ⟨xf,xt,xs,xl,xr,0,0⟩) rfl hk ?_;intro v ps hv;obtain⟨rfl⟩:=Nd.agg_of ac hv;rw[hh];clear hv)|(at_mapUpdate;refine wpList_mapUpdate_own _ rfl _ _ _ 82 rfl 51 51 gG Tryz.underlying82 (eB (H:=Unit)) mb N D rfl (aJ aa (by repeat' (first|exact aB.refl _|exact Aa _|(simp;done)|refine aB.al ?_ _|refine aB.set ?_ ?_ _))) hN _ _ (klN ⟨xf,xt,xs,xl,xr,0,0⟩) rfl rfl hk (ndD ⟨xf,xt,xs,xl,xr,0,xk⟩) [] rfl ?_;intro w1 aq bg))
     exact bodyPost_end (v:=.tuple #[]) (by simp[results,Tryz.results31,go_sem]) rfl ⟨rfl,⟨_,h3 _ _ _,⟨D,(aJ aa (by repeat' (first|exact aB.refl _|exact Aa _|(simp;done)|refine aB.al ?_ _|refine aB.set ?_ ?_ _))).mono (Ac _),HMM.out⟩,(by rw[HTOP.out];exact HB2.out)⟩,iO (by repeat' (first|exact aB.refl _|exact Aa _|(simp;done)|refine aB.al ?_ _|refine aB.set ?_ ?_ _)) ⟨rfl,rfl,rfl,Aa _,λ_ _ _=>rfl⟩⟩
    ·go_enter Tryz.func31,Tryz.ntmps31
     go_wp2_with (first|(at_lookup;refine wpList_lookup_own_ok _ rfl _ _ 82 rfl 51 51 gG Tryz.underlying82 (eB (H:=Unit)) (cG0 _) (ndD gE) [] (iA gE) mb N D rfl (aJ aa (by repeat' (first|exact aB.refl _|exact Aa _|(simp;done)|refine aB.al ?_ _|refine aB.set ?_ ?_ _))) _ (klN ⟨xf,xt,xs,xl,xr,0,0⟩) rfl hk ?_;intro v ps hv;obtain⟨rfl⟩:=Nd.agg_of ac hv;rw[hh];clear hv)|(at_mapUpdate;refine wpList_mapUpdate_own _ rfl _ _ _ 82 rfl 51 51 gG Tryz.underlying82 (eB (H:=Unit)) mb N D rfl (aJ aa (by repeat' (first|exact aB.refl _|exact Aa _|(simp;done)|refine aB.al ?_ _|refine aB.set ?_ ?_ _))) hN _ _ (klN ⟨xf,xt,xs,xl,xr,0,0⟩) rfl rfl hk (ndD ⟨xf,xt,xs,xl,xr,0,xk⟩) [] rfl ?_;intro w1 aq bg))
     exact bodyPost_end (v:=.tuple #[]) (by simp[results,Tryz.results31,go_sem]) rfl ⟨rfl,⟨_,h3 _ _ _,⟨D,(aJ aa (by repeat' (first|exact aB.refl _|exact Aa _|(simp;done)|refine aB.al ?_ _|refine aB.set ?_ ?_ _))).mono (Ac _),HMM.out⟩,(by rw[HTOP.out];exact HB2.out)⟩,iO (by repeat' (first|exact aB.refl _|exact Aa _|(simp;done)|refine aB.al ?_ _|refine aB.set ?_ ?_ _)) ⟨rfl,rfl,rfl,Aa _,λ_ _ _=>rfl⟩⟩
 ·rcases jq with ⟨hh,di⟩|⟨⟨yf,yt,ys,yl,yr,yc,yk⟩,hy,hs,hh,ac⟩
  ·replace hh:Maps.has D (klN ⟨xf,xt,xs,xl,xr,0,0⟩)=false:=hh
   have HB2:=Ab (HBB.out.add (⟨xf,xt,xs,xl,xr,xc,xk⟩:Nd));rw[kR0 di]at HB2;clear di;go_enter Tryz.func31,Tryz.ntmps31
   go_wp2_with (first|(at_lookup;refine wpList_lookup_own_ok _ rfl _ _ 82 rfl 51 51 gG Tryz.underlying82 (eB (H:=Unit)) (cG0 _) (ndD gE) [] (iA gE) mb N D rfl (aJ aa (by repeat' (first|exact aB.refl _|exact Aa _|(simp;done)|refine aB.al ?_ _|refine aB.set ?_ ?_ _))) _ (klN ⟨xf,xt,xs,xl,xr,0,0⟩) rfl hk ?_;intro v ps hv;obtain⟨rfl⟩:=Nd.agg_zero hh hv;rw[hh];clear hv)|(at_mapUpdate;refine wpList_mapUpdate_own _ rfl _ _ _ 82 rfl 51 51 gG Tryz.underlying82 (eB (H:=Unit)) mb N D rfl (aJ aa (by repeat' (first|exact aB.refl _|exact Aa _|(simp;done)|refine aB.al ?_ _|refine aB.set ?_ ?_ _))) hN _ _ (klN ⟨xf,xt,xs,xl,xr,0,0⟩) rfl rfl hk (ndD ⟨xf,xt,xs,xl,xr,xc,xk⟩) [] rfl ?_;intro w1 aq bg))
   exact bodyPost_end (v:=.tuple #[]) (by simp[results,Tryz.results31,go_sem]) rfl ⟨rfl,⟨_,bg.cell (h3 _ _ _) (by simpa using Ne.symm un),⟨_,aq,HST.out⟩,(by rw[HTOP.out];exact HB2.out)⟩,iO (by repeat' (first|exact aB.refl _|exact Aa _|(simp;done)|refine aB.al ?_ _|refine aB.set ?_ ?_ _)) bg⟩
  ·replace hh:Maps.has D (klN ⟨xf,xt,xs,xl,xr,0,0⟩)=true:=hh
   replace ac:∀zd,D.atKey (klN ⟨xf,xt,xs,xl,xr,0,0⟩) zd=ndD (⟨yf,yt,ys,yl,yr,yc,yk⟩:Nd):=ac
   have cj:(xc<yc)\/(¬xc<yc/\(xc==yc)=true/\xk<yk)\/cF ⟨yf,yt,ys,yl,yr,yc,yk⟩ (⟨xf,xt,xs,xl,xr,xc,xk⟩:Nd):=by
    unfold cF;simp only[beq_iff_eq];omega
   rcases cj with h1|⟨h1,hb,h2⟩|rr
   ·have HB2:=Ab (HBB.out.add (⟨xf,xt,xs,xl,xr,xc,xk⟩:Nd))
    rw[qU hy hs (HBB.out.one) (λhb=>by unfold cF at hb;simp only at hb;omega)]at HB2;clear hy hs;go_enter Tryz.func31,Tryz.ntmps31
    go_wp2_with (first|(at_lookup;refine wpList_lookup_own_ok _ rfl _ _ 82 rfl 51 51 gG Tryz.underlying82 (eB (H:=Unit)) (cG0 _) (ndD gE) [] (iA gE) mb N D rfl (aJ aa (by repeat' (first|exact aB.refl _|exact Aa _|(simp;done)|refine aB.al ?_ _|refine aB.set ?_ ?_ _))) _ (klN ⟨xf,xt,xs,xl,xr,0,0⟩) rfl hk ?_;intro v ps hv;obtain⟨rfl⟩:=Nd.agg_of ac hv;rw[hh];clear hv)|(at_mapUpdate;refine wpList_mapUpdate_own _ rfl _ _ _ 82 rfl 51 51 gG Tryz.underlying82 (eB (H:=Unit)) mb N D rfl (aJ aa (by repeat' (first|exact aB.refl _|exact Aa _|(simp;done)|refine aB.al ?_ _|refine aB.set ?_ ?_ _))) hN _ _ (klN ⟨xf,xt,xs,xl,xr,0,0⟩) rfl rfl hk (ndD ⟨xf,xt,xs,xl,xr,xc,xk⟩) [] rfl ?_;intro w1 aq bg))
    exact bodyPost_end (v:=.tuple #[]) (by simp[results,Tryz.results31,go_sem]) rfl ⟨rfl,⟨_,bg.cell (h3 _ _ _) (by simpa using Ne.symm un),⟨_,aq,HST.out⟩,(by rw[HTOP.out];exact HB2.out)⟩,iO (by repeat' (first|exact aB.refl _|exact Aa _|(simp;done)|refine aB.al ?_ _|refine aB.set ?_ ?_ _)) bg⟩
   ·have hb0:=hb
    have HB2:=Ab (HBB.out.add (⟨xf,xt,xs,xl,xr,xc,xk⟩:Nd));rw[qU hy hs (HBB.out.one) (λhb=>by unfold cF at hb;have e:=eq_of_beq hb0;simp only at hb;omega)]at HB2;clear hy hs;go_enter Tryz.func31,Tryz.ntmps31
    go_wp2_with (first|(at_lookup;refine wpList_lookup_own_ok _ rfl _ _ 82 rfl 51 51 gG Tryz.underlying82 (eB (H:=Unit)) (cG0 _) (ndD gE) [] (iA gE) mb N D rfl (aJ aa (by repeat' (first|exact aB.refl _|exact Aa _|(simp;done)|refine aB.al ?_ _|refine aB.set ?_ ?_ _))) _ (klN ⟨xf,xt,xs,xl,xr,0,0⟩) rfl hk ?_;intro v ps hv;obtain⟨rfl⟩:=Nd.agg_of ac hv;rw[hh];clear hv)|(at_mapUpdate;refine wpList_mapUpdate_own _ rfl _ _ _ 82 rfl 51 51 gG Tryz.underlying82 (eB (H:=Unit)) mb N D rfl (aJ aa (by repeat' (first|exact aB.refl _|exact Aa _|(simp;done)|refine aB.al ?_ _|refine aB.set ?_ ?_ _))) hN _ _ (klN ⟨xf,xt,xs,xl,xr,0,0⟩) rfl rfl hk (ndD ⟨xf,xt,xs,xl,xr,xc,xk⟩) [] rfl ?_;intro w1 aq bg))
    exact bodyPost_end (v:=.tuple #[]) (by simp[results,Tryz.results31,go_sem]) rfl ⟨rfl,⟨_,bg.cell (h3 _ _ _) (by simpa using Ne.symm un),⟨_,aq,HST.out⟩,(by rw[HTOP.out];exact HB2.out)⟩,iO (by repeat' (first|exact aB.refl _|exact Aa _|(simp;done)|refine aB.al ?_ _|refine aB.set ?_ ?_ _)) bg⟩
   ·have HB2:=Ab (HBB.out.add (⟨xf,xt,xs,xl,xr,xc,xk⟩:Nd))
    rw[cB0 hy hs rr]at HB2
    have cj:¬xc<yc/\((xc==yc)=false\/((xc==yc)=true/\¬xk<yk)):=by
     unfold cF at rr;simp only at rr;refine⟨by omega,?_⟩;by_cases e:xc=yc
     ·exact Or.inr ⟨by simpa using e,by omega⟩
     ·exact Or.inl (by simpa using e)
    clear rr hy hs;obtain⟨h1,hb|⟨hb,h2⟩⟩:=cj
    ·go_enter Tryz.func31,Tryz.ntmps31
     go_wp2_with (first|(at_lookup;refine wpList_lookup_own_ok _ rfl _ _ 82 rfl 51 51 gG Tryz.underlying82 (eB (H:=Unit)) (cG0 _) (ndD gE) [] (iA gE) mb N D rfl (aJ aa (by repeat' (first|exact aB.refl _|exact Aa _|(simp;done)|refine aB.al ?_ _|refine aB.set ?_ ?_ _))) _ (klN ⟨xf,xt,xs,xl,xr,0,0⟩) rfl hk ?_;intro v ps hv;obtain⟨rfl⟩:=Nd.agg_of ac hv;rw[hh];clear hv)|(at_mapUpdate;refine wpList_mapUpdate_own _ rfl _ _ _ 82 rfl 51 51 gG Tryz.underlying82 (eB (H:=Unit)) mb N D rfl (aJ aa (by repeat' (first|exact aB.refl _|exact Aa _|(simp;done)|refine aB.al ?_ _|refine aB.set ?_ ?_ _))) hN _ _ (klN ⟨xf,xt,xs,xl,xr,0,0⟩) rfl rfl hk (ndD ⟨xf,xt,xs,xl,xr,xc,xk⟩) [] rfl ?_;intro w1 aq bg))
     exact bodyPost_end (v:=.tuple #[]) (by simp[results,Tryz.results31,go_sem]) rfl ⟨rfl,⟨_,h3 _ _ _,⟨D,(aJ aa (by repeat' (first|exact aB.refl _|exact Aa _|(simp;done)|refine aB.al ?_ _|refine aB.set ?_ ?_ _))).mono (Ac _),HMM.out⟩,(by rw[HTOP.out];exact HB2.out)⟩,iO (by repeat' (first|exact aB.refl _|exact Aa _|(simp;done)|refine aB.al ?_ _|refine aB.set ?_ ?_ _)) ⟨rfl,rfl,rfl,Aa _,λ_ _ _=>rfl⟩⟩
    ·go_enter Tryz.func31,Tryz.ntmps31
     go_wp2_with (first|(at_lookup;refine wpList_lookup_own_ok _ rfl _ _ 82 rfl 51 51 gG Tryz.underlying82 (eB (H:=Unit)) (cG0 _) (ndD gE) [] (iA gE) mb N D rfl (aJ aa (by repeat' (first|exact aB.refl _|exact Aa _|(simp;done)|refine aB.al ?_ _|refine aB.set ?_ ?_ _))) _ (klN ⟨xf,xt,xs,xl,xr,0,0⟩) rfl hk ?_;intro v ps hv;obtain⟨rfl⟩:=Nd.agg_of ac hv;rw[hh];clear hv)|(at_mapUpdate;refine wpList_mapUpdate_own _ rfl _ _ _ 82 rfl 51 51 gG Tryz.underlying82 (eB (H:=Unit)) mb N D rfl (aJ aa (by repeat' (first|exact aB.refl _|exact Aa _|(simp;done)|refine aB.al ?_ _|refine aB.set ?_ ?_ _))) hN _ _ (klN ⟨xf,xt,xs,xl,xr,0,0⟩) rfl rfl hk (ndD ⟨xf,xt,xs,xl,xr,xc,xk⟩) [] rfl ?_;intro w1 aq bg))
     exact bodyPost_end (v:=.tuple #[]) (by simp[results,Tryz.results31,go_sem]) rfl ⟨rfl,⟨_,h3 _ _ _,⟨D,(aJ aa (by repeat' (first|exact aB.refl _|exact Aa _|(simp;done)|refine aB.al ?_ _|refine aB.set ?_ ?_ _))).mono (Ac _),HMM.out⟩,(by rw[HTOP.out];exact HB2.out)⟩,iO (by repeat' (first|exact aB.refl _|exact Aa _|(simp;done)|refine aB.al ?_ _|refine aB.set ?_ ?_ _)) ⟨rfl,rfl,rfl,Aa _,λ_ _ _=>rfl⟩⟩
end Go.Proofs.YthgklnohcmaopaaGreatDoor
