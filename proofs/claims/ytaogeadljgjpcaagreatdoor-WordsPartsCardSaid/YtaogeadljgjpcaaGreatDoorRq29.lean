/- The texts Wadd, one behind the other. -/
import Derived.Test.YtaogeadljgjpcaaGreatDoorRq27
import Derived.Test.YtaogeadljgjpcaaGreatDoorRq1
import Derived.Test.YtaogeadljgjpcaaGreatDoorRq11
import Derived.Maps.Own
import Derived.Carry
import Derived.Maps.AppendAt
open Nat renaming le_refl → Aa,le_succ → Ac
open Go.Lib renaming hid → Ab
open ByteArray renaming empty → Ad
set_option maxHeartbeats 4000000
namespace Go.Proofs.YtaogeadljgjpcaaGreatDoor
set_option maxRecDepth 100000
open Go Go.RowKit
attribute [local go_sem] aQ
structure iI (w:World) (fb mb N:Nat) (O:Nd->Prop) (V:List Nd):Prop where
 box:w.cell? ⟨fb,0,none⟩=some (.map (some mb))
 own:∃D:DataW Unit,w.ownsMap Tryz.prog 49 (dW (H:=Unit)) mb N D/\wA0 V D
 bst:Bests O V
theorem iI.grows {w w':World} {fb mb N:Nat} {O:Nd->Prop} {V:List Nd} (h:iI w fb mb N O V) (hg:aB w w'):iI w' fb mb N O V :=
 ⟨hg.cell h.box,let ⟨D,h1,h2⟩:=h.own;⟨D,aJ h1 hg,h2⟩,h.bst⟩
theorem iI.congr {w:World} {fb mb N:Nat} {O O':Nd->Prop} {V:List Nd} (h:iI w fb mb N O V) (he:∀x,O x↔O' x):iI w fb mb N O' V:=⟨h.box,h.own,h.bst.congr he⟩
def gD:Nd:=⟨0,0,Ad,0,0,0,0⟩
theorem bS0 (w:World):(zeroValue 49).run Tryz.prog w=.ok gD.agg w:=by kernel_rfl
def wD0 (x:Nd):Nd:={ x with c:=max x.c 0 }
theorem lJ1 {x:Nd} (h:hE0 x):hE0 (wD0 x):=⟨h.f,h.t,h.s,h.l,h.r,by
 unfold wD0;by_cases h0:x.c<=0
 ·rw[show max x.c 0=0 by omega];exact wf0
 ·rw[show max x.c 0=x.c by omega];exact h.c,h.k⟩
def wW0 (x:Nd) (fb mb N:Nat) (O:Nd->Prop) (w:World) (e:Ending) (w':World):Prop :=
 e=.returned (.tuple #[])/\(∃V',iI w' fb mb (N+1) (λy=>O y\/y=wD0 x) V')/\w.grownBy w' (some mb)
theorem iR {w W w':World} {mb:Nat} (h:aB w W) (hg:W.grownBy w' (some mb)):w.grownBy w' (some mb):=World.grownBy.trans ⟨Below.os h,Below.tape h,Below.output h,Below.size h,λk hk _=>Below.block h k hk⟩ hg
theorem Nd.agg_zero {v:Value} {D:DataW Unit} {kl:Lit} {ps:List MemPlace} (im:Maps.has D kl=false) (hv:dW (H:=Unit) v=some (D.atKey kl (ndD gD),ps)):v=.agg #[.int .i64 0,.int .i64 0,.string Ad,.int .i64 0,.int .i64 0,.int .i64 0,.int .i64 0]:=by
 rw[Maps.atKey_of_not_has im]at hv;obtain⟨x,rfl,e⟩:=pV hv;rw[<-nZ0 (Prod.mk.inj e).1];rfl
theorem Nd.agg_of {v:Value} {D:DataW Unit} {kl:Lit} {ps:List MemPlace} {y:Nd} (ac:∀zd,D.atKey kl zd=ndD y) (hv:dW (H:=Unit) v=some (D.atKey kl (ndD gD),ps)):v=.agg #[.int .i64 y.f,.int .i64 y.t,.string y.s,.int .i64 y.l,.int .i64 y.r,.int .i64 y.c,.int .i64 y.k]:=by
 rw[ac]at hv;obtain⟨x,rfl,e⟩:=pV hv;rw[<-nZ0 (Prod.mk.inj e).1];rfl
theorem lT0 {V:List Nd} {x:Nd} (h:∀y∈V, ¬cG y x):jW1 V x=stN V x:=by
 unfold jW1;rw[if_neg];intro ha;obtain⟨z,hz,hb⟩:=List.any_eq_true.1 ha;exact h z hz (of_decide_eq_true hb).1
theorem zQ {V:List Nd} {x y:Nd} (hy:y∈V) (hs:cG y x) (hb:bT y x):jW1 V x=V:=by
 unfold jW1;rw[if_pos];exact List.any_eq_true.2 ⟨y,hy,decide_eq_true ⟨hs,hb⟩⟩
theorem qA {V:List Nd} {x y:Nd} (hy:y∈V) (hs:cG y x) (h1:V.Pairwise λa b=>¬cG a b) (hb:¬bT y x):jW1 V x=stN V x:=by
 unfold jW1;rw[if_neg];intro ha;obtain⟨z,hz,hzb⟩:=List.any_eq_true.1 ha;obtain⟨k1,k2⟩:=of_decide_eq_true hzb;rw[mE0 h1 hz hy (k1.trans hs.symm)]at k2;exact hb k2
theorem eY0 (x:Nd) (fb mb N:Nat) (O:Nd->Prop) (V:List Nd) (w:World) (h:iI w fb mb N O V) (hx:hE0 x) (hN:N<maxLen) :
  Calls Tryz.prog 41 #[x.agg,.pointer (some ⟨fb,0,none⟩)] w (wW0 x fb mb N O w):=by
 have qw:=lJ1 hx;obtain⟨c0,⟨D,aa,hM⟩,hB⟩:=h;have hfb:fb<w.heap.size:=World.block_lt_of_cell? w _ c0
 have sv:mb≠fb:=by
  rintro rfl;obtain⟨es,clock,hb,_⟩:=aa;simp[World.cell?,hb]at c0
 obtain⟨xf,xt,xs,xl,xr,xc,xk⟩:=x;have jr:=hM.look qw;have hk:Go.keyOf Tryz.prog 49 (.agg #[.int .i64 xf,.int .i64 xt,.string xs,.int .i64 xl,.int .i64 xr,.int .i64 0,.int .i64 0])=some (klN ⟨xf,xt,xs,xl,xr,0,0⟩):=pK1 qw.key;obtain⟨m,hm⟩:=exq (max xc 0);have HTOP:Hid (wD0 ⟨xf,xt,xs,xl,xr,xc,xk⟩=⟨xf,xt,xs,xl,xr,m,xk⟩):=by rw[hm];exact rfl
 have HST:=Ab (hM.store qw);have HMM:=Ab hM;have HBB:=Ab hB;rw[HTOP.out]at jr HST;have be:∀W:World,aB w W->W.cell? ⟨fb,0,none⟩=some (.map (some mb)):=λW hW=>hW.cell c0;have h3:∀a b c,(((w.alloc a).alloc b).alloc c).cell? ⟨fb,0,none⟩=some (.map (some mb)):=λa b c=>(((aB.alloc w a).al b).al c).cell c0;have na:(xc<0/\m=0)\/(¬xc<0/\xc=m):=by omega
 unfold Nd.agg;clear hx qw hM hB;clear hm;rcases na with ⟨hc,rfl⟩|⟨hc,rfl⟩
 ·rcases jr with ⟨hh,dm⟩|⟨⟨yf,yt,ys,yl,yr,yc,yk⟩,hy,hs,hh,ac⟩
  ·replace hh:Maps.has D (klN ⟨xf,xt,xs,xl,xr,0,0⟩)=false:=hh
   have HB2:=Ab (HBB.out.add (⟨xf,xt,xs,xl,xr,0,xk⟩:Nd));rw[lT0 dm]at HB2;clear dm;go_enter Tryz.func41,Tryz.ntmps41
   go_wp2_with (first|(at_lookup;refine wpList_lookup_own_ok _ rfl _ _ 85 rfl 49 49 fZ Tryz.underlying85 (dW (H:=Unit)) (bS0 _) (ndD gD) [] (gQ gD) mb N D rfl (aJ aa (by repeat' (first|exact aB.refl _|exact Aa _|(simp;done)|refine aB.al ?_ _|refine aB.set ?_ ?_ _))) _ (klN ⟨xf,xt,xs,xl,xr,0,0⟩) rfl hk ?_;intro v ps hv;obtain⟨rfl⟩:=Nd.agg_zero hh hv;rw[hh];clear hv)|(at_mapUpdate;refine wpList_mapUpdate_own _ rfl _ _ _ 85 rfl 49 49 fZ Tryz.underlying85 (dW (H:=Unit)) mb N D rfl (aJ aa (by repeat' (first|exact aB.refl _|exact Aa _|(simp;done)|refine aB.al ?_ _|refine aB.set ?_ ?_ _))) hN _ _ (klN ⟨xf,xt,xs,xl,xr,0,0⟩) rfl rfl hk (ndD ⟨xf,xt,xs,xl,xr,0,xk⟩) [] rfl ?_;intro w1 ar bh))
   exact bodyPost_end (v:=.tuple #[]) (by simp[results,Tryz.results41,go_sem]) rfl ⟨rfl,⟨_,bh.cell (h3 _ _ _) (by simpa using Ne.symm sv),⟨_,ar,HST.out⟩,(by rw[HTOP.out];exact HB2.out)⟩,iR (by repeat' (first|exact aB.refl _|exact Aa _|(simp;done)|refine aB.al ?_ _|refine aB.set ?_ ?_ _)) bh⟩
  ·replace hh:Maps.has D (klN ⟨xf,xt,xs,xl,xr,0,0⟩)=true:=hh
   replace ac:∀zd,D.atKey (klN ⟨xf,xt,xs,xl,xr,0,0⟩) zd=ndD (⟨yf,yt,ys,yl,yr,yc,yk⟩:Nd):=ac
   have ck:(0<yc)\/(¬0<yc/\(0==yc)=true/\xk<yk)\/bT ⟨yf,yt,ys,yl,yr,yc,yk⟩ (⟨xf,xt,xs,xl,xr,0,xk⟩:Nd):=by
    unfold bT;simp only[beq_iff_eq];omega
   rcases ck with h1|⟨h1,hb,h2⟩|vq
   ·have HB2:=Ab (HBB.out.add (⟨xf,xt,xs,xl,xr,0,xk⟩:Nd))
    rw[qA hy hs (HBB.out.one) (λhb=>by unfold bT at hb;simp only at hb;omega)]at HB2;clear hy hs;go_enter Tryz.func41,Tryz.ntmps41
    go_wp2_with (first|(at_lookup;refine wpList_lookup_own_ok _ rfl _ _ 85 rfl 49 49 fZ Tryz.underlying85 (dW (H:=Unit)) (bS0 _) (ndD gD) [] (gQ gD) mb N D rfl (aJ aa (by repeat' (first|exact aB.refl _|exact Aa _|(simp;done)|refine aB.al ?_ _|refine aB.set ?_ ?_ _))) _ (klN ⟨xf,xt,xs,xl,xr,0,0⟩) rfl hk ?_;intro v ps hv;obtain⟨rfl⟩:=Nd.agg_of ac hv;rw[hh];clear hv)|(at_mapUpdate;refine wpList_mapUpdate_own _ rfl _ _ _ 85 rfl 49 49 fZ Tryz.underlying85 (dW (H:=Unit)) mb N D rfl (aJ aa (by repeat' (first|exact aB.refl _|exact Aa _|(simp;done)|refine aB.al ?_ _|refine aB.set ?_ ?_ _))) hN _ _ (klN ⟨xf,xt,xs,xl,xr,0,0⟩) rfl rfl hk (ndD ⟨xf,xt,xs,xl,xr,0,xk⟩) [] rfl ?_;intro w1 ar bh))
    exact bodyPost_end (v:=.tuple #[]) (by simp[results,Tryz.results41,go_sem]) rfl ⟨rfl,⟨_,bh.cell (h3 _ _ _) (by simpa using Ne.symm sv),⟨_,ar,HST.out⟩,(by rw[HTOP.out];exact HB2.out)⟩,iR (by repeat' (first|exact aB.refl _|exact Aa _|(simp;done)|refine aB.al ?_ _|refine aB.set ?_ ?_ _)) bh⟩
   ·have hb0:=hb
    have HB2:=Ab (HBB.out.add (⟨xf,xt,xs,xl,xr,0,xk⟩:Nd));rw[qA hy hs (HBB.out.one) (λhb=>by unfold bT at hb;have e:=eq_of_beq hb0;simp only at hb;omega)]at HB2;clear hy hs;go_enter Tryz.func41,Tryz.ntmps41
    go_wp2_with (first|(at_lookup;refine wpList_lookup_own_ok _ rfl _ _ 85 rfl 49 49 fZ Tryz.underlying85 (dW (H:=Unit)) (bS0 _) (ndD gD) [] (gQ gD) mb N D rfl (aJ aa (by repeat' (first|exact aB.refl _|exact Aa _|(simp;done)|refine aB.al ?_ _|refine aB.set ?_ ?_ _))) _ (klN ⟨xf,xt,xs,xl,xr,0,0⟩) rfl hk ?_;intro v ps hv;obtain⟨rfl⟩:=Nd.agg_of ac hv;rw[hh];clear hv)|(at_mapUpdate;refine wpList_mapUpdate_own _ rfl _ _ _ 85 rfl 49 49 fZ Tryz.underlying85 (dW (H:=Unit)) mb N D rfl (aJ aa (by repeat' (first|exact aB.refl _|exact Aa _|(simp;done)|refine aB.al ?_ _|refine aB.set ?_ ?_ _))) hN _ _ (klN ⟨xf,xt,xs,xl,xr,0,0⟩) rfl rfl hk (ndD ⟨xf,xt,xs,xl,xr,0,xk⟩) [] rfl ?_;intro w1 ar bh))
    exact bodyPost_end (v:=.tuple #[]) (by simp[results,Tryz.results41,go_sem]) rfl ⟨rfl,⟨_,bh.cell (h3 _ _ _) (by simpa using Ne.symm sv),⟨_,ar,HST.out⟩,(by rw[HTOP.out];exact HB2.out)⟩,iR (by repeat' (first|exact aB.refl _|exact Aa _|(simp;done)|refine aB.al ?_ _|refine aB.set ?_ ?_ _)) bh⟩
   ·have HB2:=Ab (HBB.out.add (⟨xf,xt,xs,xl,xr,0,xk⟩:Nd))
    rw[zQ hy hs vq]at HB2
    have ck:¬0<yc/\((0==yc)=false\/((0==yc)=true/\¬xk<yk)):=by
     unfold bT at vq;simp only at vq;refine⟨by omega,?_⟩;by_cases e:0=yc
     ·exact Or.inr ⟨by simpa using e,by omega⟩
     ·exact Or.inl (by simpa using e)
    clear vq hy hs;obtain⟨h1,hb|⟨hb,h2⟩⟩:=ck
    ·go_enter Tryz.func41,Tryz.ntmps41
     go_wp2_with (first|(at_lookup;refine wpList_lookup_own_ok _ rfl _ _ 85 rfl 49 49 fZ Tryz.underlying85 (dW (H:=Unit)) (bS0 _) (ndD gD) [] (gQ gD) mb N D rfl (aJ aa (by repeat' (first|exact aB.refl _|exact Aa _|(simp;done)|refine aB.al ?_ _|refine aB.set ?_ ?_ _))) _ (klN ⟨xf,xt,xs,xl,xr,0,0⟩) rfl hk ?_;intro v ps hv;obtain⟨rfl⟩:=Nd.agg_of ac hv;rw[hh];clear hv)|(at_mapUpdate;refine wpList_mapUpdate_own _ rfl _ _ _ 85 rfl 49 49 fZ Tryz.underlying85 (dW (H:=Unit)) mb N D rfl (aJ aa (by repeat' (first|exact aB.refl _|exact Aa _|(simp;done)|refine aB.al ?_ _|refine aB.set ?_ ?_ _))) hN _ _ (klN ⟨xf,xt,xs,xl,xr,0,0⟩) rfl rfl hk (ndD ⟨xf,xt,xs,xl,xr,0,xk⟩) [] rfl ?_;intro w1 ar bh))
     exact bodyPost_end (v:=.tuple #[]) (by simp[results,Tryz.results41,go_sem]) rfl ⟨rfl,⟨_,h3 _ _ _,⟨D,(aJ aa (by repeat' (first|exact aB.refl _|exact Aa _|(simp;done)|refine aB.al ?_ _|refine aB.set ?_ ?_ _))).mono (Ac _),HMM.out⟩,(by rw[HTOP.out];exact HB2.out)⟩,iR (by repeat' (first|exact aB.refl _|exact Aa _|(simp;done)|refine aB.al ?_ _|refine aB.set ?_ ?_ _)) ⟨rfl,rfl,rfl,Aa _,λ_ _ _=>rfl⟩⟩
    ·go_enter Tryz.func41,Tryz.ntmps41
     go_wp2_with (first|(at_lookup;refine wpList_lookup_own_ok _ rfl _ _ 85 rfl 49 49 fZ Tryz.underlying85 (dW (H:=Unit)) (bS0 _) (ndD gD) [] (gQ gD) mb N D rfl (aJ aa (by repeat' (first|exact aB.refl _|exact Aa _|(simp;done)|refine aB.al ?_ _|refine aB.set ?_ ?_ _))) _ (klN ⟨xf,xt,xs,xl,xr,0,0⟩) rfl hk ?_;intro v ps hv;obtain⟨rfl⟩:=Nd.agg_of ac hv;rw[hh];clear hv)|(at_mapUpdate;refine wpList_mapUpdate_own _ rfl _ _ _ 85 rfl 49 49 fZ Tryz.underlying85 (dW (H:=Unit)) mb N D rfl (aJ aa (by repeat' (first|exact aB.refl _|exact Aa _|(simp;done)|refine aB.al ?_ _|refine aB.set ?_ ?_ _))) hN _ _ (klN ⟨xf,xt,xs,xl,xr,0,0⟩) rfl rfl hk (ndD ⟨xf,xt,xs,xl,xr,0,xk⟩) [] rfl ?_;intro w1 ar bh))
     exact bodyPost_end (v:=.tuple #[]) (by simp[results,Tryz.results41,go_sem]) rfl ⟨rfl,⟨_,h3 _ _ _,⟨D,(aJ aa (by repeat' (first|exact aB.refl _|exact Aa _|(simp;done)|refine aB.al ?_ _|refine aB.set ?_ ?_ _))).mono (Ac _),HMM.out⟩,(by rw[HTOP.out];exact HB2.out)⟩,iR (by repeat' (first|exact aB.refl _|exact Aa _|(simp;done)|refine aB.al ?_ _|refine aB.set ?_ ?_ _)) ⟨rfl,rfl,rfl,Aa _,λ_ _ _=>rfl⟩⟩
 ·rcases jr with ⟨hh,dm⟩|⟨⟨yf,yt,ys,yl,yr,yc,yk⟩,hy,hs,hh,ac⟩
  ·replace hh:Maps.has D (klN ⟨xf,xt,xs,xl,xr,0,0⟩)=false:=hh
   have HB2:=Ab (HBB.out.add (⟨xf,xt,xs,xl,xr,xc,xk⟩:Nd));rw[lT0 dm]at HB2;clear dm;go_enter Tryz.func41,Tryz.ntmps41
   go_wp2_with (first|(at_lookup;refine wpList_lookup_own_ok _ rfl _ _ 85 rfl 49 49 fZ Tryz.underlying85 (dW (H:=Unit)) (bS0 _) (ndD gD) [] (gQ gD) mb N D rfl (aJ aa (by repeat' (first|exact aB.refl _|exact Aa _|(simp;done)|refine aB.al ?_ _|refine aB.set ?_ ?_ _))) _ (klN ⟨xf,xt,xs,xl,xr,0,0⟩) rfl hk ?_;intro v ps hv;obtain⟨rfl⟩:=Nd.agg_zero hh hv;rw[hh];clear hv)|(at_mapUpdate;refine wpList_mapUpdate_own _ rfl _ _ _ 85 rfl 49 49 fZ Tryz.underlying85 (dW (H:=Unit)) mb N D rfl (aJ aa (by repeat' (first|exact aB.refl _|exact Aa _|(simp;done)|refine aB.al ?_ _|refine aB.set ?_ ?_ _))) hN _ _ (klN ⟨xf,xt,xs,xl,xr,0,0⟩) rfl rfl hk (ndD ⟨xf,xt,xs,xl,xr,xc,xk⟩) [] rfl ?_;intro w1 ar bh))
   exact bodyPost_end (v:=.tuple #[]) (by simp[results,Tryz.results41,go_sem]) rfl ⟨rfl,⟨_,bh.cell (h3 _ _ _) (by simpa using Ne.symm sv),⟨_,ar,HST.out⟩,(by rw[HTOP.out];exact HB2.out)⟩,iR (by repeat' (first|exact aB.refl _|exact Aa _|(simp;done)|refine aB.al ?_ _|refine aB.set ?_ ?_ _)) bh⟩
  ·replace hh:Maps.has D (klN ⟨xf,xt,xs,xl,xr,0,0⟩)=true:=hh
   replace ac:∀zd,D.atKey (klN ⟨xf,xt,xs,xl,xr,0,0⟩) zd=ndD (⟨yf,yt,ys,yl,yr,yc,yk⟩:Nd):=ac
   have ck:(xc<yc)\/(¬xc<yc/\(xc==yc)=true/\xk<yk)\/bT ⟨yf,yt,ys,yl,yr,yc,yk⟩ (⟨xf,xt,xs,xl,xr,xc,xk⟩:Nd):=by
    unfold bT;simp only[beq_iff_eq];omega
   rcases ck with h1|⟨h1,hb,h2⟩|vq
   ·have HB2:=Ab (HBB.out.add (⟨xf,xt,xs,xl,xr,xc,xk⟩:Nd))
    rw[qA hy hs (HBB.out.one) (λhb=>by unfold bT at hb;simp only at hb;omega)]at HB2;clear hy hs;go_enter Tryz.func41,Tryz.ntmps41
    go_wp2_with (first|(at_lookup;refine wpList_lookup_own_ok _ rfl _ _ 85 rfl 49 49 fZ Tryz.underlying85 (dW (H:=Unit)) (bS0 _) (ndD gD) [] (gQ gD) mb N D rfl (aJ aa (by repeat' (first|exact aB.refl _|exact Aa _|(simp;done)|refine aB.al ?_ _|refine aB.set ?_ ?_ _))) _ (klN ⟨xf,xt,xs,xl,xr,0,0⟩) rfl hk ?_;intro v ps hv;obtain⟨rfl⟩:=Nd.agg_of ac hv;rw[hh];clear hv)|(at_mapUpdate;refine wpList_mapUpdate_own _ rfl _ _ _ 85 rfl 49 49 fZ Tryz.underlying85 (dW (H:=Unit)) mb N D rfl (aJ aa (by repeat' (first|exact aB.refl _|exact Aa _|(simp;done)|refine aB.al ?_ _|refine aB.set ?_ ?_ _))) hN _ _ (klN ⟨xf,xt,xs,xl,xr,0,0⟩) rfl rfl hk (ndD ⟨xf,xt,xs,xl,xr,xc,xk⟩) [] rfl ?_;intro w1 ar bh))
    exact bodyPost_end (v:=.tuple #[]) (by simp[results,Tryz.results41,go_sem]) rfl ⟨rfl,⟨_,bh.cell (h3 _ _ _) (by simpa using Ne.symm sv),⟨_,ar,HST.out⟩,(by rw[HTOP.out];exact HB2.out)⟩,iR (by repeat' (first|exact aB.refl _|exact Aa _|(simp;done)|refine aB.al ?_ _|refine aB.set ?_ ?_ _)) bh⟩
   ·have hb0:=hb
    have HB2:=Ab (HBB.out.add (⟨xf,xt,xs,xl,xr,xc,xk⟩:Nd));rw[qA hy hs (HBB.out.one) (λhb=>by unfold bT at hb;have e:=eq_of_beq hb0;simp only at hb;omega)]at HB2;clear hy hs;go_enter Tryz.func41,Tryz.ntmps41
    go_wp2_with (first|(at_lookup;refine wpList_lookup_own_ok _ rfl _ _ 85 rfl 49 49 fZ Tryz.underlying85 (dW (H:=Unit)) (bS0 _) (ndD gD) [] (gQ gD) mb N D rfl (aJ aa (by repeat' (first|exact aB.refl _|exact Aa _|(simp;done)|refine aB.al ?_ _|refine aB.set ?_ ?_ _))) _ (klN ⟨xf,xt,xs,xl,xr,0,0⟩) rfl hk ?_;intro v ps hv;obtain⟨rfl⟩:=Nd.agg_of ac hv;rw[hh];clear hv)|(at_mapUpdate;refine wpList_mapUpdate_own _ rfl _ _ _ 85 rfl 49 49 fZ Tryz.underlying85 (dW (H:=Unit)) mb N D rfl (aJ aa (by repeat' (first|exact aB.refl _|exact Aa _|(simp;done)|refine aB.al ?_ _|refine aB.set ?_ ?_ _))) hN _ _ (klN ⟨xf,xt,xs,xl,xr,0,0⟩) rfl rfl hk (ndD ⟨xf,xt,xs,xl,xr,xc,xk⟩) [] rfl ?_;intro w1 ar bh))
    exact bodyPost_end (v:=.tuple #[]) (by simp[results,Tryz.results41,go_sem]) rfl ⟨rfl,⟨_,bh.cell (h3 _ _ _) (by simpa using Ne.symm sv),⟨_,ar,HST.out⟩,(by rw[HTOP.out];exact HB2.out)⟩,iR (by repeat' (first|exact aB.refl _|exact Aa _|(simp;done)|refine aB.al ?_ _|refine aB.set ?_ ?_ _)) bh⟩
   ·have HB2:=Ab (HBB.out.add (⟨xf,xt,xs,xl,xr,xc,xk⟩:Nd))
    rw[zQ hy hs vq]at HB2
    have ck:¬xc<yc/\((xc==yc)=false\/((xc==yc)=true/\¬xk<yk)):=by
     unfold bT at vq;simp only at vq;refine⟨by omega,?_⟩;by_cases e:xc=yc
     ·exact Or.inr ⟨by simpa using e,by omega⟩
     ·exact Or.inl (by simpa using e)
    clear vq hy hs;obtain⟨h1,hb|⟨hb,h2⟩⟩:=ck
    ·go_enter Tryz.func41,Tryz.ntmps41
     go_wp2_with (first|(at_lookup;refine wpList_lookup_own_ok _ rfl _ _ 85 rfl 49 49 fZ Tryz.underlying85 (dW (H:=Unit)) (bS0 _) (ndD gD) [] (gQ gD) mb N D rfl (aJ aa (by repeat' (first|exact aB.refl _|exact Aa _|(simp;done)|refine aB.al ?_ _|refine aB.set ?_ ?_ _))) _ (klN ⟨xf,xt,xs,xl,xr,0,0⟩) rfl hk ?_;intro v ps hv;obtain⟨rfl⟩:=Nd.agg_of ac hv;rw[hh];clear hv)|(at_mapUpdate;refine wpList_mapUpdate_own _ rfl _ _ _ 85 rfl 49 49 fZ Tryz.underlying85 (dW (H:=Unit)) mb N D rfl (aJ aa (by repeat' (first|exact aB.refl _|exact Aa _|(simp;done)|refine aB.al ?_ _|refine aB.set ?_ ?_ _))) hN _ _ (klN ⟨xf,xt,xs,xl,xr,0,0⟩) rfl rfl hk (ndD ⟨xf,xt,xs,xl,xr,xc,xk⟩) [] rfl ?_;intro w1 ar bh))
     exact bodyPost_end (v:=.tuple #[]) (by simp[results,Tryz.results41,go_sem]) rfl ⟨rfl,⟨_,h3 _ _ _,⟨D,(aJ aa (by repeat' (first|exact aB.refl _|exact Aa _|(simp;done)|refine aB.al ?_ _|refine aB.set ?_ ?_ _))).mono (Ac _),HMM.out⟩,(by rw[HTOP.out];exact HB2.out)⟩,iR (by repeat' (first|exact aB.refl _|exact Aa _|(simp;done)|refine aB.al ?_ _|refine aB.set ?_ ?_ _)) ⟨rfl,rfl,rfl,Aa _,λ_ _ _=>rfl⟩⟩
    ·go_enter Tryz.func41,Tryz.ntmps41
     go_wp2_with (first|(at_lookup;refine wpList_lookup_own_ok _ rfl _ _ 85 rfl 49 49 fZ Tryz.underlying85 (dW (H:=Unit)) (bS0 _) (ndD gD) [] (gQ gD) mb N D rfl (aJ aa (by repeat' (first|exact aB.refl _|exact Aa _|(simp;done)|refine aB.al ?_ _|refine aB.set ?_ ?_ _))) _ (klN ⟨xf,xt,xs,xl,xr,0,0⟩) rfl hk ?_;intro v ps hv;obtain⟨rfl⟩:=Nd.agg_of ac hv;rw[hh];clear hv)|(at_mapUpdate;refine wpList_mapUpdate_own _ rfl _ _ _ 85 rfl 49 49 fZ Tryz.underlying85 (dW (H:=Unit)) mb N D rfl (aJ aa (by repeat' (first|exact aB.refl _|exact Aa _|(simp;done)|refine aB.al ?_ _|refine aB.set ?_ ?_ _))) hN _ _ (klN ⟨xf,xt,xs,xl,xr,0,0⟩) rfl rfl hk (ndD ⟨xf,xt,xs,xl,xr,xc,xk⟩) [] rfl ?_;intro w1 ar bh))
     exact bodyPost_end (v:=.tuple #[]) (by simp[results,Tryz.results41,go_sem]) rfl ⟨rfl,⟨_,h3 _ _ _,⟨D,(aJ aa (by repeat' (first|exact aB.refl _|exact Aa _|(simp;done)|refine aB.al ?_ _|refine aB.set ?_ ?_ _))).mono (Ac _),HMM.out⟩,(by rw[HTOP.out];exact HB2.out)⟩,iR (by repeat' (first|exact aB.refl _|exact Aa _|(simp;done)|refine aB.al ?_ _|refine aB.set ?_ ?_ _)) ⟨rfl,rfl,rfl,Aa _,λ_ _ _=>rfl⟩⟩
end Go.Proofs.YtaogeadljgjpcaaGreatDoor
