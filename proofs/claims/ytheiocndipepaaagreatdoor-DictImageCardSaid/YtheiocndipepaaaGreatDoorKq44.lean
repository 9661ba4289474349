/- The texts Grow Tri2 Tri3, one behind the other. -/
import Derived.Test.YtheiocndipepaaaGreatDoorKq39
import Derived.Test.YtheiocndipepaaaGreatDoorKq43
import Derived.Test.YtheiocndipepaaaGreatDoorKq26
import Derived.Test.YtheiocndipepaaaGreatDoorKq38
open Go.Lib renaming hid → Aa
open List renaming range' → Ab,replicate → Ac,getElem?_eq_getElem → Ad,getElem?_eq_none → Af,foldl → Ag,length_map → Ak,append_nil → Al,length_replicate → Am,mem_of_getElem? → Ap,getElem?_range' → Aq,take_nil → Ar,length_range' → As,take_length → At
open Nat renaming le_refl → Ae,mul_one → An,zero_le → Ao
open Go.IntKind renaming signed → Ah,wrap → Ai,bits → Aj
set_option maxHeartbeats 16000000
namespace Go.Proofs.YtheiocndipepaaaGreatDoor
set_option maxRecDepth 100000
section
open Go Go.RowKit Go.Shelf
attribute [local go_sem] aM aK
theorem jK1 (L:List (List UInt8)) (sb ib pb:Nat) (la:Option Addr) (lc:Nat) (w:World) (ah:OkL L) (hl:L.length<=20000) (hc:eG L<=524287)
  (hs:jN w sb (shapeL L (nodesA L))) (hi:jN w ib (isL L (nodesA L))) (hd:lE w pb (idsL L (nodesA L))) (qq:aF w la 1 ((labelsL L (nodesA L)).map aX)) :
  Calls Tryz.prog 166 #[.pointer (some ⟨sb,0,none⟩),.pointer (some ⟨ib,0,none⟩),.slice la (labelsL L (nodesA L)).length lc,.pointer (some ⟨pb,0,none⟩)] w λe w'=>∃v,e=.returned (.tuple #[v,.bool true])/\aV w' w.heap.size 9 1 stC v (L.map mkB)/\Grows w w':=by
 obtain⟨z1,z2,z3,z4,z5⟩:=ah.sizes hl hc;have hni:(isL L (nodesA L)).length=(nodesA L).length:=by unfold isL;rw[Ak]
 have xy:(shapeL L (nodesA L)).length=2*(nodesA L).length+1:=by
  have h:=fC L (nodesA L).length (Ae _);rw[At,ah.off_all]at h;omega
 have fk:1<=(nodesA L).length:=(List.getElem?_eq_some_iff.1 ah.root0).1;have hnl:(labelsL L (nodesA L)).length+1=(nodesA L).length:=by rw[ah.labels,Ak,List.length_drop];omega
 have hrk:eK (isL L (nodesA L)) (nodesA L).length=L.length:=by
  rw[gF0 L _ _ (Ae _),At,<-ah.ids_len];unfold idsL;rw[Ak]
 have jl:(nodesA L).length<=524287:=by rw[eX ah.asc ah.len];exact hc
 have m9:∀m∈idsL L (nodesA L),m<18446744073709551616:=λm hm=>by have:=z5 m hm;omega
 obtain⟨n,hn⟩:=exq ((nodesA L).length);obtain⟨NL,hNL⟩:=exq L.length;obtain⟨M2,hM2⟩:=exq (2*n+1);obtain⟨LL,hLL⟩:=exq ((labelsL L (nodesA L)).length)
 have CIL:∀u,Grows w u->Hid (Calls Tryz.prog 143 #[.pointer (some ⟨ib,0,none⟩)] u λe w'=>e=.returned (.int .i64 n)/\u=w'):=λu hu=>by
  have h:=tG _ ib u (hi.grows hu);rw[hni,<-hn]at h;exact h
 have CSL:∀u,Grows w u->Hid (Calls Tryz.prog 143 #[.pointer (some ⟨sb,0,none⟩)] u λe w'=>e=.returned (.int .i64 M2)/\u=w'):=λu hu=>by
  have h:=tG _ sb u (hs.grows hu);rw[xy,<-hn,<-hM2]at h;exact h
 have CRK:∀u,Grows w u->Hid (Calls Tryz.prog 90 #[.pointer (some ⟨ib,0,none⟩),.bool true,.int .i64 n] u λe w'=>e=.returned (.int .i64 NL)/\u=w'):=λu hu=>by
  have h:=rC (isL L (nodesA L)) ib true n u (by omega) (by omega) (hi.grows hu);rw[hni,<-hn,Nat.min_self,show kD (isL L (nodesA L)) true n=eK (isL L (nodesA L)) n from rfl,hn,hrk,<-hn,<-hNL]at h;exact h
 have CDL:∀u,Grows w u->Hid (Calls Tryz.prog 62 #[.pointer (some ⟨pb,0,none⟩)] u λe w'=>e=.returned (.int .i64 NL)/\u=w'):=λu hu=>by
  have h:=gX _ pb u (hd.grows hu);rw[ah.ids_len,<-hNL]at h;exact h
 have CG:∀i u,Grows w u->Hid (Calls Tryz.prog 104 #[.pointer (some ⟨sb,0,none⟩),.int .i64 (i:Nat)] u λe w'=>e=.returned (.bool (bitOf (shapeL L (nodesA L)) i))/\u=w'):=λi u hu=>zR _ sb i u (by omega) (hs.grows hu)
 have CI:∀i x u,(nodesA L)[i]?=some x->Grows w u->Hid (Calls Tryz.prog 104 #[.pointer (some ⟨ib,0,none⟩),.int .i64 (i:Nat)] u λe w'=>e=.returned (.bool (iP L x))/\u=w'):=λi x u hx hu=>by
  have h:=zR _ ib i u (by omega) (hi.grows hu);rw[aZ0 hx]at h;exact h
 have CP:∀k x u,(idsL L (nodesA L))[k]?=some x->Grows w u->Hid (Calls Tryz.prog 118 #[.pointer (some ⟨pb,0,none⟩),.int .i64 (k:Nat)] u λe w'=>e=.returned (.tuple #[.int .u64 (x:Nat),.bool true])/\Grows u w'):=λk x u hx hu=>uZ _ pb k x u (hd.grows hu) (by omega) m9 hx;have C0:Hid (Calls Tryz.prog 104 #[.pointer (some ⟨sb,0,none⟩),.int .i64 0] w λe w'=>e=.returned (.bool true)/\w=w'):=(CG 0 w (Grows.refl w)).out;have C1:Hid (Calls Tryz.prog 104 #[.pointer (some ⟨sb,0,none⟩),.int .i64 1] w λe w'=>e=.returned (.bool false)/\w=w'):=(CG 1 w (Grows.refl w)).out;have HOK:=Aa ah;have HLAB:=Aa qq;have HN:=Aa hn;have HNL:=Aa hNL;have HLL:=Aa hLL;have hLn:LL+1=n:=by omega
 have ale:n<=524287:=by omega
 have ag8:1<=n:=by omega
 have alf:NL<=20000:=by omega
 have HCG:=Aa CG;have HCI:=Aa CI;have HCP:=Aa CP;have d1:¬(524287:Int)<n:=by omega
 have d2:IntKind.i64.wrap ((n:Int)*2)=((n:Int)*2):=by have:=rU (x:=n*2) (by omega);rw[Int.natCast_mul]at this;exact this
 have d3:((M2:Int) != 2*(n:Int)+1)=false:=by simp;omega
 have d4:IntKind.i64.wrap ((n:Int)-1)=LL:=by have:=rU (x:=LL) (by omega);rw[<-this];congr 1;omega
 have d6:((LL:Int) != LL)=false:=by simp
 have d7:((NL:Int) != NL)=false:=by simp
 have d5:¬(20000:Int)<NL:=by omega
 rw[<-hLL];clear ah qq hn hNL hLL z1 z2 z3 z4 z5 hni xy fk hnl hrk jl m9 hs hi hd CG CI CP hM2 hl hc;go_enter Tryz.func166,Tryz.ntmps166
 go_wp2_with fail
 refine(CIL w (Grows.refl w)).out.mono ?_;rintro e w1 ⟨rfl,rfl⟩;go_wp2_with fail
 refine(CSL w (Grows.refl w)).out.mono ?_;rintro e w2 ⟨rfl,rfl⟩;go_wp2_with fail
 refine(CRK w (Grows.refl w)).out.mono ?_;rintro e w3 ⟨rfl,rfl⟩;go_wp2_with fail
 refine(CDL w (Grows.refl w)).out.mono ?_;rintro e w4 ⟨rfl,rfl⟩;go_wp2_with fail
 refine(CDL w (Grows.refl w)).out.mono ?_;rintro e w5 ⟨rfl,rfl⟩;go_wp2_with fail
 refine C0.out.mono ?_;rintro e w6 ⟨rfl,rfl⟩;go_wp2_with fail
 refine C1.out.mono ?_;rintro e w7 ⟨rfl,rfl⟩;clear C0 C1 CSL CIL CRK d1 d2 d3 d4 d5 d6 d7;go_wp2_with fail
 have ke:=λ(Y:World)=>oY1 n Y ag8 (by omega);refine cC1 (EB w.heap.size) (.quiet 0 (.quiet 2 (.alt (.late 1 (.quiet 4 (.late 3 (.quiet 5 .done)))) (.late 3 (.late 1 (.quiet 4 (.quiet 5 .done))))))) (λ(x:Nat×Nat)=>[(some 62,.int .i64 n),(some 63,.slice (some ⟨x.1,0,none⟩) 1 n),(some 64,.int .i64 n),(some 65,.slice (some ⟨x.2,0,none⟩) 1 n),(some 11,.slice (some ⟨x.1,0,none⟩) 1 n),(some 12,.slice (some ⟨x.2,0,none⟩) 1 n)]) (λ(x:Nat×Nat) w'=>GB w w' (.slice (some ⟨x.1,0,none⟩) 1 n) (.slice (some ⟨x.2,0,none⟩) 1 n) (.slice none 0 0) [0] [0] []) (EB.refl w.heap.size) (EB.trans w.heap.size) (by kernel_rfl) (by kernel_rfl) (λd _ _ _ _ h=>by cases d<;>exact h) ?_ ?_
 ·have mx:=Grows.drew w
  have vd:w.heap.size<=w.drew.heap.size:=Ae _;generalize w.drew=Wd at *;have m1:=λ(Y:World)=>(jP1 (w:=Y) ag8 (by omega):aV _ _ _ _ _ _ _);simp only[An]at m1;iterate 2 (refine iC rfl (λK hK=>?_);go_simp;refine hK _ ?_;clear hK K)
  refine kQ0 ?_ ?_
  ·refine cY rfl rfl (λK hK=>?_)
   go_simp;have o1:=m1 Wd;have g1:=Grows.alloc Wd (.cells (madeCells #[.int .i64 0] n) 3);have s1:(Wd.alloc (.cells (madeCells #[.int .i64 0] n) 3)).heap.size=Wd.heap.size+1:=by simp
   refine⟨EB.of g1 vd,hK _ _ ?_⟩;clear hK K;generalize Wd.alloc (.cells (madeCells #[.int .i64 0] n) 3)=W1 at *;iterate 1 (refine iC rfl (λK hK=>?_);go_simp;refine hK _ ?_;clear hK K)
   refine cY rfl rfl (λK hK=>?_);go_simp;have o2:=m1 W1;have g2:=Grows.alloc W1 (.cells (madeCells #[.int .i64 0] n) 3);have ei:w.heap.size<=W1.heap.size:=by omega
   refine⟨EB.of g2 ei,hK _ _ ?_⟩;clear hK K;iterate 1 (refine iC rfl (λK hK=>?_);go_simp;refine hK _ ?_;clear hK K)
   refine cT0 ?_
   exact⟨(Wd.heap.size,W1.heap.size),⟨(o1.grows g2).base vd,o2.base ei,aV.nil _ _ _ _ _,λq h1 h2=>by
    have a1:Wd.heap.size=q:=Option.some.inj h1;have a2:W1.heap.size=q:=Option.some.inj h2;omega,(qG.nil _ _ _).symm,(qG.nil _ _ _).symm,(mx.tr g1).tr g2⟩,by simp only[kT0,Ag];go_simp⟩
  ·refine cY rfl rfl (λK hK=>?_)
   go_simp;have o1:=m1 Wd;have g1:=Grows.alloc Wd (.cells (madeCells #[.int .i64 0] n) 3);have s1:(Wd.alloc (.cells (madeCells #[.int .i64 0] n) 3)).heap.size=Wd.heap.size+1:=by simp
   refine⟨EB.of g1 vd,hK _ _ ?_⟩;clear hK K;generalize Wd.alloc (.cells (madeCells #[.int .i64 0] n) 3)=W1 at *;refine cY rfl rfl (λK hK=>?_);go_simp;have o2:=m1 W1;have g2:=Grows.alloc W1 (.cells (madeCells #[.int .i64 0] n) 3);have ei:w.heap.size<=W1.heap.size:=by omega
   refine⟨EB.of g2 ei,hK _ _ ?_⟩;clear hK K;iterate 2 (refine iC rfl (λK hK=>?_);go_simp;refine hK _ ?_;clear hK K)
   refine cT0 ?_
   exact⟨(W1.heap.size,Wd.heap.size),⟨o2.base ei,(o1.grows g2).base vd,aV.nil _ _ _ _ _,λq h1 h2=>by
    have a1:W1.heap.size=q:=Option.some.inj h1;have a2:Wd.heap.size=q:=Option.some.inj h2;omega,(qG.nil _ _ _).symm,(qG.nil _ _ _).symm,(mx.tr g1).tr g2⟩,by simp only[kT0,Ag];go_simp⟩
 ·clear ke
  rintro⟨b1,b2⟩ wA GA;simp only[kT0,Ag];try simp only at GA
  have ke:=λ(Y:World)=>qK1 NL Y (by omega);go_wp2_with fail
  refine(CDL wA GA.g).out.mono ?_;rintro e w8 ⟨rfl,rfl⟩;go_wp2_with fail
  obtain⟨lb,pw⟩:=exq wA.heap.size;obtain⟨WB,ox⟩:=exq (wA.alloc (.cells (madeCells #[.string ⟨#[]⟩] NL) 9));have kt:Grows wA WB:=by rw[ox];exact Grows.alloc _ _
  have hsO:aV WB w.heap.size 9 1 stC (.slice (some ⟨lb,0,none⟩) NL NL) (mG L 0):=by
   have h:=nB1 (w:=wA) (n:=NL) (by omega);rw[An,<-ox,<-pw]at h;rw[uP0,<-HNL.out];exact h.base (by rw[pw];exact GA.g.size)
  have ae:∀q,(Value.slice (some ⟨b1,0,none⟩) 1 n).ownBlock=some q->q<lb:=λq h=>by rw[pw];exact gO GA.p q h
  have bz:∀q,(Value.slice (some ⟨b2,0,none⟩) 1 n).ownBlock=some q->q<lb:=λq h=>by rw[pw];exact gO GA.d q h
  have GS:Hid (GB w WB (.slice (some ⟨b1,0,none⟩) 1 n) (.slice (some ⟨b2,0,none⟩) 1 n) (.slice (some ⟨lb,0,none⟩) NL NL) (jT0 L (offA L 0)) (yY L (offA L 0)) (mG L 0)):=by
   rw[uB,gC1,HOK.out.depT_one]
   exact⟨GA.p.grows kt,GA.d.grows kt,hsO,GA.pd,λq h1 h2=>by
    have a:=ae q h1;have b:lb=q:=Option.some.inj h2;omega,λq h1 h2=>by
    have a:=bz q h1;have b:lb=q:=Option.some.inj h2;omega,GA.g.tr kt⟩
  try rw[<-ox]
  try rw[<-pw]
  clear ox pw kt hsO ae bz GA ke CDL;go_loopw [11,12,13,14,70] (λvP vD vA vK i wr=>∃I:Nat,I<=n/\i=.int .i64 I/\vA=.int .i64 (offA L I+I+1:Nat)/\vK=.int .i64 (eK (isL L (nodesA L)) I:Nat)/\Hid (GB w wr vP vD (.slice (some ⟨lb,0,none⟩) NL NL) (jT0 L (offA L I)) (yY L (offA L I)) (mG L I))) (λ_ _ _ _ i _=>n-(intOf i).toNat)
  case atStart=>exact⟨0,Ao _,rfl,rfl,rfl,GS.out⟩
  case round =>
   clear GS;obtain⟨I,hI,rfl,rfl,rfl,HG⟩:=hrel;have vu:=HOK.out.off_le I;obtain⟨O,hO⟩:=exq (offA L I);rw[<-hO]at HG vu ⊢;obtain⟨aP,cP,hvP,_,_,_⟩:=HG.out.p.at_ (enc:=kG) (λ_=>rfl);rw[nX]at hvP;subst hvP;by_cases ae:I<n
   ·have hIi:(I:Int)<n:=by omega
    have hIO:(I:Int)<O:=by have:=HOK.out.off_gt (show I<(nodesA L).length by have:=HN.out;omega);omega
    obtain⟨x,hx⟩:∃x,(nodesA L)[I]?=some x:=⟨_,Ad (by have:=HN.out;omega)⟩;have HX:=Aa hx;have HO:=Aa hO;have hos:=iO hx;have aeb:=HOK.out.off_le (I+1);obtain⟨O2,rp⟩:=exq (offA L (I+1));rw[<-rp]at hos aeb;have hOO:O<=O2:=by rw[hos,hO];omega
    have HO2:=Aa rp;obtain⟨dx,hdx⟩:=exq x.d;have HDX:=Aa hdx
    have aad:dx<=256:=by
     obtain⟨k,lh,fj⟩:=List.mem_flatMap.1 (Ap hx);have h1:=((lP HOK.out.asc k).mem x fj).2.1;have h2:=List.mem_range.1 lh;omega
    have hnN:=HN.out;have alg:O2<=524287:=by omega
    clear hx hO rp hdx hnN;go_wp2_with fail
    obtain⟨u0,rfl⟩:=exq wr;go_loopw [11,12,13] (λvP vD vA wx=>∃M:Nat,O<=M/\M<=O2/\vA=.int .i64 (M+I+1:Nat)/\Hid (GB w wx vP vD (.slice (some ⟨lb,0,none⟩) NL NL) (jT0 L M) (yY L M) (mG L I))) (λ_ _ vA _=>2000000-(intOf vA).toNat)
    case atStart=>exact⟨O,Ae _,hOO,rfl,HG.out⟩
    case round =>
     clear HG;obtain⟨M,hM1,hM2,rfl,HGM⟩:=hrel;have CGM:=HCG.out (M+I+1) wr HGM.out.g;by_cases hM:M<O2
     ·have acy:M<offA L (I+1):=by have:=HO2.out;omega
      have hOM:offA L I<=M:=by have:=HO.out;omega
      rw[(nK0 HX.out hOM acy).1]at CGM;obtain⟨y,hy⟩:∃y,(nodesA L)[M]?=some y:=⟨_,Ad (by omega)⟩;have hyd:y.d=dx+1:=by rw[HDX.out];exact kF0 L x y (HOK.out.kid HX.out hOM acy hy)
      obtain⟨d1,fe⟩:=exq (dx+1);have HP1:Hid (jT0 L M++[I]=jT0 L (M+1)):=by show _=_;rw[yF0,zZ0 (by omega) hOM acy]
      have HD1:Hid (yY L M++[d1]=yY L (M+1)):=by show _=_;rw[lF0 hy,hyd,fe]
      have HDL:Hid ((yY L M).length=M):=sJ0 (by omega);have hdp:(yY L M)[I]?=some dx:=by rw[iH0 (by omega) HX.out,HDX.out]
      obtain⟨qb,cQ,hvQ,_⟩:=iQ0 HGM.out.d (by rw[HDL.out];omega);rw[HDL.out]at hvQ;subst hvQ;have hcd:wr.cell? ⟨qb,I,none⟩=some (.int .i64 dx):=cU (f:=λn:Nat=>Value.int .i64 n) HGM.out.d hdp
      have HFL:Hid (((yY L M).flatMap kG)[I]?=some (.int .i64 dx)):=by
       have h:=rP (enc:=kG) (k:=1) (λ_=>rfl) (yY L M) I 0 dx _ hdp rfl;rw[An,Nat.add_zero]at h;exact h
      have hIM:(I:Int)<M:=by omega
      have wd1:IntKind.i64.wrap ((dx:Int)+1)=d1:=by have:=rU (x:=d1) (by omega);rw[<-this];congr 1;omega
      have HG0:=HGM.out.grows (Grows.drew wr);obtain⟨aR,cR,hvR,_,_,_⟩:=HGM.out.p.at_ (enc:=kG) (λ_=>rfl);rw[nX]at hvR;subst hvR;have hnP:some qb≠(Value.slice aR M cR).ownBlock:=λh=>HGM.out.pd qb h.symm rfl;clear hyd fe hy hdp hOM acy;go_wp2_with fail
      refine CGM.out.mono ?_;rintro e w9 ⟨rfl,rfl⟩;clear CGM;go_wp2_with fail
      have z0:∀y:Ext (EK w.heap.size ⟨qb,I,none⟩ (.int .i64 dx)) wr.drew,y.u.cell? ⟨qb,I,none⟩=some (.int .i64 dx):=cA1 ((Grows.drew wr).cell hcd);refine cC1 (EK w.heap.size ⟨qb,I,none⟩ (.int .i64 dx)) (.quiet 0 (.quiet 1 (.quiet 4 (.quiet 5 (.quiet 6 (.quiet 7 (.quiet 8 (.quiet 9 (.alt (.late 2 (.alt (.late 3 (.late 10 (.late 11 (.quiet 12 (.quiet 13 .done))))) (.late 10 (.late 3 (.late 11 (.quiet 12 (.quiet 13 .done))))))) (.late 10 (.late 2 (.late 3 (.late 11 (.quiet 12 (.quiet 13 .done))))))))))))))) (λ(x:Value×Value×Nat×Nat)=>[(some 82,.slice aR M cR),(some 83,.int .i64 I),(some 84,.slice (some ⟨x.2.2.1,0,none⟩) 1 1),(some 85,x.1),(some 86,.slice (some ⟨qb,0,none⟩) M cQ),(some 87,.slice (some ⟨qb,0,none⟩) M cQ),(some 88,.int .i64 I),(some 89,.pointer (some ⟨qb,I,none⟩)),(some 90,.int .i64 dx),(some 91,.int .i64 d1),(some 92,.slice (some ⟨x.2.2.2,0,none⟩) 1 1),(some 93,x.2.1),(some 11,x.1),(some 12,x.2.1)]) (λ(x:Value×Value×Nat×Nat) w'=>GB w w' x.1 x.2.1 (.slice (some ⟨lb,0,none⟩) NL NL) (jT0 L (M+1)) (yY L (M+1)) (mG L I)) (EK.refl w.heap.size ⟨qb,I,none⟩ (.int .i64 dx)) (EK.trans w.heap.size ⟨qb,I,none⟩ (.int .i64 dx)) (by kernel_rfl) (by kernel_rfl) (λd _ _ _ _ h=>by cases d<;>exact h) ?_ ?_
      ·clear HGM hcd
       generalize wr.drew=Wd at *;iterate 8 (refine iC rfl (λK hK=>?_);go_simp;refine hK _ ?_;clear hK K)
       clear z0;have G0:=HG0;clear HG0;refine kQ0 ?_ ?_
       ·refine cY rfl rfl (λK hK=>?_)
        go_simp;have cA:=oM1 Wd (.int .i64 (I:Nat)) 3;have g1:=Grows.alloc Wd (.cells #[.int .i64 (I:Nat)] 3);have nPA:=G0.newP;have nDA:=G0.newD;have G1:=G0.grows g1;have e1:EK w.heap.size ⟨qb,I,none⟩ (.int .i64 dx) _ _:=⟨EB.of g1 G0.g.size,λh=>g1.cell h⟩;generalize Wd.alloc (.cells #[.int .i64 (I:Nat)] 3)=u1 at *;obtain⟨bA,hbA⟩:∃b,b=Wd.heap.size:=⟨_,rfl⟩;rw[<-hbA]at cA nPA nDA ⊢;clear hbA;refine⟨e1,hK _ _ ?_⟩;clear hK K e1 g1;refine kQ0 ?_ ?_
        ·refine cY rfl rfl (λK hK=>?_)
         refine vH pB _ _ rfl w.heap.size _ _ I rfl G1.p bA 1 rfl (oI1 cA) (by rw[nX];omega) G1.g.size ?_;intro v1 u2 rq fj hf2;have e2:EK w.heap.size ⟨qb,I,none⟩ (.int .i64 dx) _ _:=⟨G1.ebP fj,λh=>fj.cell h hnP⟩;have G2:=G1.appP rq fj hf2;refine⟨e2,hK _ _ ?_⟩;clear hK K e2 rq fj hf2;refine cY rfl rfl (λK hK=>?_);go_simp;have cC:=oM1 u2 (.int .i64 (d1:Nat)) 3;have g3:=Grows.alloc u2 (.cells #[.int .i64 (d1:Nat)] 3);have nPC:=G2.newP;have nDC:=G2.newD;have G3:=G2.grows g3;have e3:EK w.heap.size ⟨qb,I,none⟩ (.int .i64 dx) _ _:=⟨EB.of g3 G2.g.size,λh=>g3.cell h⟩;generalize u2.alloc (.cells #[.int .i64 (d1:Nat)] 3)=u3 at *;obtain⟨bC,hbC⟩:∃b,b=u2.heap.size:=⟨_,rfl⟩;rw[<-hbC]at cC nPC nDC ⊢;clear hbC;refine⟨e3,hK _ _ ?_⟩;clear hK K e3 g3;refine cY rfl rfl (λK hK=>?_);refine cL0 pB _ _ rfl w.heap.size qb cQ (yY L M) d1 (by rw[HDL.out];rfl) (by rw[HDL.out];exact G3.d) bC 1 rfl (oI1 cC) (by rw[HDL.out];omega) G3.g.size ?_;intro v2 u4 ho4 hk4 up hx4;rw[HDL.out]at up;have e4:EK w.heap.size ⟨qb,I,none⟩ (.int .i64 dx) _ _:=⟨G3.ebD hk4,λ_=>hx4 I _ HFL.out⟩;clear hx4;have G4:=G3.appD ho4 hk4 up;refine⟨e4,hK _ _ ?_⟩;clear hK K e4 ho4 hk4 up;iterate 2 (refine iC rfl (λK hK=>?_);go_simp;refine hK _ ?_;clear hK K)
         refine cT0 ?_;rw[HP1.out,HD1.out]at G4;exact⟨(v1,v2,bA,bC),G4,by simp only[kT0,Ag];go_simp⟩
        ·refine cY rfl rfl (λK hK=>?_)
         go_simp;have cC:=oM1 u1 (.int .i64 (d1:Nat)) 3;have g2:=Grows.alloc u1 (.cells #[.int .i64 (d1:Nat)] 3);have nPC:=G1.newP;have nDC:=G1.newD;have G2:=G1.grows g2;have e2:EK w.heap.size ⟨qb,I,none⟩ (.int .i64 dx) _ _:=⟨EB.of g2 G1.g.size,λh=>g2.cell h⟩;replace cA:=g2.cell cA;generalize u1.alloc (.cells #[.int .i64 (d1:Nat)] 3)=u2 at *;obtain⟨bC,hbC⟩:∃b,b=u1.heap.size:=⟨_,rfl⟩;rw[<-hbC]at cC nPC nDC ⊢;clear hbC;refine⟨e2,hK _ _ ?_⟩;clear hK K e2 g2;refine cY rfl rfl (λK hK=>?_);refine vH pB _ _ rfl w.heap.size _ _ I rfl G2.p bA 1 rfl (oI1 cA) (by rw[nX];omega) G2.g.size ?_;intro v1 u3 ho3 iz hf3;have e3:EK w.heap.size ⟨qb,I,none⟩ (.int .i64 dx) _ _:=⟨G2.ebP iz,λh=>iz.cell h hnP⟩;replace cC:=iz.cell cC nPC;have G3:=G2.appP ho3 iz hf3;refine⟨e3,hK _ _ ?_⟩;clear hK K e3 ho3 iz hf3;refine cY rfl rfl (λK hK=>?_);refine cL0 pB _ _ rfl w.heap.size qb cQ (yY L M) d1 (by rw[HDL.out];rfl) (by rw[HDL.out];exact G3.d) bC 1 rfl (oI1 cC) (by rw[HDL.out];omega) G3.g.size ?_;intro v2 u4 ho4 hk4 up hx4;rw[HDL.out]at up;have e4:EK w.heap.size ⟨qb,I,none⟩ (.int .i64 dx) _ _:=⟨G3.ebD hk4,λ_=>hx4 I _ HFL.out⟩;clear hx4;have G4:=G3.appD ho4 hk4 up;refine⟨e4,hK _ _ ?_⟩;clear hK K e4 ho4 hk4 up;iterate 2 (refine iC rfl (λK hK=>?_);go_simp;refine hK _ ?_;clear hK K)
         refine cT0 ?_;rw[HP1.out,HD1.out]at G4;exact⟨(v1,v2,bA,bC),G4,by simp only[kT0,Ag];go_simp⟩
       ·refine cY rfl rfl (λK hK=>?_)
        go_simp;have cC:=oM1 Wd (.int .i64 (d1:Nat)) 3;have g1:=Grows.alloc Wd (.cells #[.int .i64 (d1:Nat)] 3);have nPC:=G0.newP;have nDC:=G0.newD;have G1:=G0.grows g1;have e1:EK w.heap.size ⟨qb,I,none⟩ (.int .i64 dx) _ _:=⟨EB.of g1 G0.g.size,λh=>g1.cell h⟩;generalize Wd.alloc (.cells #[.int .i64 (d1:Nat)] 3)=u1 at *;obtain⟨bC,hbC⟩:∃b,b=Wd.heap.size:=⟨_,rfl⟩;rw[<-hbC]at cC nPC nDC ⊢;clear hbC;refine⟨e1,hK _ _ ?_⟩;clear hK K e1 g1;refine cY rfl rfl (λK hK=>?_);go_simp;have cA:=oM1 u1 (.int .i64 (I:Nat)) 3;have g2:=Grows.alloc u1 (.cells #[.int .i64 (I:Nat)] 3);have nPA:=G1.newP;have nDA:=G1.newD;have G2:=G1.grows g2;have e2:EK w.heap.size ⟨qb,I,none⟩ (.int .i64 dx) _ _:=⟨EB.of g2 G1.g.size,λh=>g2.cell h⟩;replace cC:=g2.cell cC;generalize u1.alloc (.cells #[.int .i64 (I:Nat)] 3)=u2 at *;obtain⟨bA,hbA⟩:∃b,b=u1.heap.size:=⟨_,rfl⟩;rw[<-hbA]at cA nPA nDA ⊢;clear hbA;refine⟨e2,hK _ _ ?_⟩;clear hK K e2 g2;refine cY rfl rfl (λK hK=>?_);refine vH pB _ _ rfl w.heap.size _ _ I rfl G2.p bA 1 rfl (oI1 cA) (by rw[nX];omega) G2.g.size ?_;intro v1 u3 ho3 iz hf3;have e3:EK w.heap.size ⟨qb,I,none⟩ (.int .i64 dx) _ _:=⟨G2.ebP iz,λh=>iz.cell h hnP⟩;replace cC:=iz.cell cC nPC;have G3:=G2.appP ho3 iz hf3;refine⟨e3,hK _ _ ?_⟩;clear hK K e3 ho3 iz hf3;refine cY rfl rfl (λK hK=>?_);refine cL0 pB _ _ rfl w.heap.size qb cQ (yY L M) d1 (by rw[HDL.out];rfl) (by rw[HDL.out];exact G3.d) bC 1 rfl (oI1 cC) (by rw[HDL.out];omega) G3.g.size ?_;intro v2 u4 ho4 hk4 up hx4;rw[HDL.out]at up;have e4:EK w.heap.size ⟨qb,I,none⟩ (.int .i64 dx) _ _:=⟨G3.ebD hk4,λ_=>hx4 I _ HFL.out⟩;clear hx4;have G4:=G3.appD ho4 hk4 up;refine⟨e4,hK _ _ ?_⟩;clear hK K e4 ho4 hk4 up;iterate 2 (refine iC rfl (λK hK=>?_);go_simp;refine hK _ ?_;clear hK K)
        refine cT0 ?_;rw[HP1.out,HD1.out]at G4;exact⟨(v1,v2,bA,bC),G4,by simp only[kT0,Ag];go_simp⟩
      ·rintro⟨v1,v2,b3,b4⟩ wC GC
       simp only[kT0,Ag];try simp only at GC
       clear z0 HG0 HGM hcd;go_wp2_with fail
       go_roundw
       case rel=>exact⟨M+1,by omega,by omega,by go_num,GC⟩
       case measure=>simp[intOf];omega
     ·obtain rfl:M=O2:=by omega
      have hz:bitOf (shapeL L (nodesA L)) (M+I+1)=false:=by
       rw[show M+I+1=offA L (I+1)+(I+1) by have:=HO2.out;omega]
       exact(xQ (L:=L) (i:=I+1) (by have:=HN.out;omega)).1
      rw[hz]at CGM;have CIx:=HCI.out I x wr HX.out HGM.out.g;have hrk:eK (isL L (nodesA L)) (I+1)=eK (isL L (nodesA L)) I+(if iP L x=true then 1 else 0):=by rw[gK,aZ0 HX.out]
      have hrl:eK (isL L (nodesA L)) I<=I:=oV _ _;have aec:=λ(hh:iP L x=true)=>sZ0 HX.out hh;obtain⟨K,hK⟩:=exq (eK (isL L (nodesA L)) I);rw[<-hK]at hrk hrl aec ⊢;have HRK:=Aa hrk;have HIDR:=Aa aec;have HAT:Hid ((M+I+1+1:Nat)=offA L (I+1)+(I+1)+1):=by show _=_;have:=HO2.out;omega
      have HMN:Hid (M<=(nodesA L).length):=aeb;clear hz hrk aec hK hos aeb hOO hM2 hM;go_wp2_with fail
      refine CGM.out.mono ?_;rintro e w9 ⟨rfl,rfl⟩;clear CGM;go_wp2_with fail
      refine CIx.out.mono ?_;rintro e w10 ⟨rfl,rfl⟩;clear CIx
      cases hh:iP L x with
      | false =>
       have HH:=Aa hh;clear hh;go_wp2_with fail
       go_roundw
       case rel=>exact⟨I+1,ae,by go_num,by rw[<-HAT.out];go_num,by rw[HRK.out,HH.out];go_num,by have h:=HGM.out;rw[HO2.out]at h;rw[HOK.out.strTo_no HX.out HH.out];exact h⟩
       case measure=>simp[intOf];omega
      | true =>
       have HH:=Aa hh;clear hh;have hid:=HIDR.out HH.out;have CPx:=HCP.out K x.i wr hid HGM.out.g;have hLx:L[x.i]?=some (spanS L x):=(HOK.out.here_at HX.out x.i).2 ⟨HH.out,rfl⟩;have tw:x.i<NL:=by rw[HNL.out];exact(List.getElem?_eq_some_iff.1 hLx).1
       obtain⟨X0,hX0⟩:=exq x.i;rw[<-hX0]at CPx tw;have HX0:=Aa hX0;have hxn:¬(NL:Int)<=X0:=by omega
       have aed:(X0:Int)<NL:=by omega
       have uNL:IntKind.u64.wrap (NL:Int)=NL:=by simp[Ai,Aj,Ah];omega
       have wX0:IntKind.i64.wrap (X0:Int)=X0:=rU (by omega);have hd6:¬(256:Int)<dx:=by omega
       have ke:=λ(Y:World)=>rT1 dx Y (by omega);clear hid hLx hX0;go_wp2_with fail
       refine CPx.out.mono ?_;rintro e w11 ⟨rfl,vw⟩;have HG11:=Aa (HGM.out.grows vw);clear CPx;have hdp:(yY L M)[I]?=some dx:=by rw[iH0 (by omega) HX.out,HDX.out]
       have HDL:Hid ((yY L M).length=M):=sJ0 HMN.out;obtain⟨qb,cQ,hvQ,_⟩:=iQ0 HG11.out.d (by rw[HDL.out];omega);rw[HDL.out]at hvQ;subst hvQ;have hcd:w11.cell? ⟨qb,I,none⟩=some (.int .i64 dx):=cU (f:=λn:Nat=>Value.int .i64 n) HG11.out.d hdp;obtain⟨ab,cP2,hvP,_⟩:=iQ0 HG11.out.p (by rw[nX];omega);rw[nX]at hvP;subst hvP;have hIM:(I:Int)<M:=by omega
       clear hdp;go_wp2_with fail
       obtain⟨bb,nl⟩:=exq w11.heap.size;obtain⟨WU,hWU⟩:=exq (w11.alloc (.cells (madeCells #[.int .u8 0] dx) 5));have hgU:Grows w11 WU:=by rw[hWU];exact Grows.alloc _ _
       have hbO:aV WU bb 5 1 aX (.slice (some ⟨bb,0,none⟩) dx dx) (Ac dx 0):=by
        have h:=pJ1 (w:=w11) (n:=dx) (by omega);rw[An,<-hWU,<-nl]at h;exact h
       rw[<-hWU,<-nl];have hz1:decide (NL<=X0)=false:=by simp;omega
       have ng:decide ((NL:Int)<=X0)=false:=by simp;omega
       have hz3:decide ((256:Int)<dx)=false:=by simp;omega
       try rw[hz1]
       try rw[ng]
       try rw[hz3]
       try rw[show (false||false)=false from rfl]
       clear hz1 ng hz3;have HBB:Hid (w11.heap.size<=bb):=Nat.le_of_eq nl.symm;have HAB:Hid (ab<w11.heap.size):=gO HG11.out.p ab rfl;clear hWU nl hcd ke HGM;obtain⟨u1,rfl⟩:=exq wr;go_loopw [20] (λvX wx=>∃(X:Nat) (y:dK) (tl:List UInt8),vX=.int .i64 X/\X<=I/\Hid ((nodesA L)[X]?=some y/\spanS L y++tl=spanS L x)/\Hid (aV wx bb 5 1 aX (.slice (some ⟨bb,0,none⟩) dx dx) (Ac y.d 0++tl))/\Hid (Grows w11 wx)) (λvX _=>(intOf vX).toNat)
       case atStart=>exact⟨I,x,[],rfl,Ae _,⟨HX.out,Al _⟩,by rw[Al,<-HDX.out];exact hbO,hgU⟩
       case round =>
        clear hbO hgU;obtain⟨X,y,tl,rfl,hXI,hN,hB,hG⟩:=hrel;have HGX:=Aa (HG11.out.grows hG.out);by_cases hX:0<X
        ·obtain⟨z,c,hz,hpX,hc,hs,hd⟩:=HOK.out.climb hX hN.out.1
         have alh:(0:Int)<X:=by omega
         obtain⟨X1,hX1⟩:=exq (X-1);rw[<-hX1]at hc;have ajh:X1<LL:=by rw[HLL.out];exact(List.getElem?_eq_some_iff.1 hc).1
         have hXl:(X:Int)<=LL:=by omega
         have ali:(X1:Int)<LL:=by omega
         obtain⟨lb2,lo,rfl,bh⟩:=at1 (f:=λb:UInt8=>Value.int .u8 b.toNat) (HLAB.out.grows HGX.out.g) (List.ne_nil_of_mem (Ap hc));have mq:=bh X1 c hc;obtain⟨dy,hdy⟩:=exq y.d;obtain⟨pX,hpx⟩:=exq (eN1 L X);have hdX:wr.cell? ⟨qb,X,none⟩=some (.int .i64 dy):=cU (f:=λn:Nat=>Value.int .i64 n) HGX.out.d (by rw[iH0 (show X<M by omega) hN.out.1,hdy])
         have hpc:wr.cell? ⟨ab,X,none⟩=some (.int .i64 pX):=cU (f:=λn:Nat=>Value.int .i64 n) HGX.out.p (by rw[jI1 (show X<M by omega),hpx])
         have hXM:(X:Int)<M:=by omega
         obtain⟨d2,jb⟩:=exq z.d;have hdd:dy=d2+1:=by rw[hdy,hd,jb]
         have wX1:IntKind.i64.wrap ((X:Int)-1)=X1:=by have:=rU (x:=X1) (by omega);rw[<-this];congr 1;omega
         have hrl:(Ac y.d (0:UInt8)++tl).length=dx:=by
          obtain⟨_,_,he,_⟩:=hB.out.at_ bI.len;injection he with _ h2 _
          exact h2.symm
         have kn:y.d<=dx:=by rw[<-hrl,List.length_append,Am];omega
         have wd2:IntKind.i64.wrap ((dy:Int)-1)=d2:=by have:=rU (x:=d2) (by omega);rw[<-this];congr 1;omega
         have alj:(d2:Int)<dx:=by omega
         have ij:=hB.out.grows (Grows.drew wr);have fg:wr.drew.cell? ⟨bb,d2,none⟩=some (.int .u8 ((0:UInt8).toNat:Nat)):=cU (f:=λb:UInt8=>Value.int .u8 b.toNat) ij (by rw[List.getElem?_append_left (by rw[Am];omega),List.getElem?_replicate,if_pos (by omega)]);obtain⟨hfr,_,dw⟩:=eC (f:=λb:UInt8=>Value.int .u8 b.toNat) ij (k:=d2) (by rw[hrl];omega) c
         have HSET:Hid (aV (wr.drew.setCell ⟨bb,d2,none⟩ (.int .u8 (c.toNat:Nat))) bb 5 1 aX (.slice (some ⟨bb,0,none⟩) dx dx) (Ac z.d 0++(c::tl))):=by
          have e:(Ac y.d (0:UInt8)++tl).set d2 c=Ac z.d 0++(c::tl):=by rw[hd,jb];exact cW1
          rw[e]at dw;exact dw
         have aji:(wr.setCell ⟨bb,d2,none⟩ (.int .u8 (c.toNat:Nat))).cell? ⟨ab,X,none⟩=some (.int .i64 pX):=(World.cell?_setCell_other _ _ _ _ (λh=>by have h1:=congrArg Addr.block h;simp only at h1;have h2:=HAB.out;have h3:=HBB.out;omega)).trans hpc;have HN2:Hid ((nodesA L)[pX]?=some z/\spanS L z++(c::tl)=spanS L x):=⟨by rw[hpx];exact hz,by rw[<-hN.out.2,hs];simp⟩;have alk:pX<X:=by rw[hpx];exact hpX
         have HG2:Hid (Grows w11 (wr.drew.setCell ⟨bb,d2,none⟩ (.int .u8 (c.toNat:Nat)))):=hG.out.dr.set HBB.out _;have z0:∀q:Ext Grows wr.drew,q.u.cell? ⟨qb,X,none⟩=some (.int .i64 dy):=aB ((Grows.drew wr).cell hdX);have z1:∀q:Ext Grows wr.drew,q.u.cell? ⟨lb2,lo+X1,none⟩=some (.int .u8 (c.toNat:Nat)):=aB ((Grows.drew wr).cell mq);obtain⟨cc,ag9⟩:∃q:Nat,q=c.toNat:=⟨_,rfl⟩;rw[<-ag9]at z1 HG2 aji HSET;clear hz hpX hc hs hd hX1 bh mq hdy hpx hdX hpc jb hdd hrl kn ij dw hN hB hG ajh ag9;go_wp2_with fail
         refine qA 12 (aU 12 []) (by kernel_rfl) (λd _ _ _ _ h=>by cases d<;>exact h) ?_
         iterate 12 (refine aG rfl (λK hK=>?_);go_simp;refine hK _ ?_;clear hK K)
         refine bH ?_;simp only[List.drop_succ_cons,List.drop_zero];clear z0 z1;go_wp2_with fail
         go_roundw
         case rel=>exact⟨pX,z,c::tl,by go_num,by omega,HN2.out,HSET.out,HG2.out⟩
         case measure=>simp[intOf];omega
        ·obtain rfl:X=0:=by omega
         have hy:y=rootS L:=by
          have h1:=hN.out.1;rw[HOK.out.root0]at h1;exact(Option.some.inj h1).symm
         have ct:Ac y.d (0:UInt8)++tl=spanS L x:=by
          rw[<-hN.out.2,hy];simp[spanS,rootS]
         have jt:=hB.out;rw[ct]at jt;have abc:=aI0 jt;have jx:X0<(mG L I).length:=by rw[uD,<-HNL.out];exact tw
         obtain⟨s0,nj⟩:∃s0,(mG L I)[X0]?=some s0:=⟨_,Ad jx⟩;have hsc:wr.cell? ⟨lb,X0,none⟩=some (.string s0):=cU (f:=λs:ByteArray=>Value.string s) HGX.out.s nj;obtain⟨hfr,hGS⟩:=HGX.out.setS jx (mkB (spanS L x));have e1:jT0 L M=jT0 L (offA L (I+1)):=by rw[<-HO2.out]
         have e2:yY L M=yY L (offA L (I+1)):=by rw[<-HO2.out]
         have e3:(mG L I).set X0 (mkB (spanS L x))=mG L (I+1):=by rw[HX0.out];exact(HOK.out.strTo_yes HX.out HH.out).symm
         rw[e1,e2,e3]at hGS;clear e1 e2 e3;have HGS:=Aa hGS;generalize mkB (spanS L x)=sx at abc HGS;clear hGS nj jx jt ct hy hN hB hG;go_wp2_with fail
         go_roundw
         case rel=>exact⟨I+1,ae,by go_num,by rw[<-HAT.out];go_num,by rw[HRK.out,HH.out];go_num,HGS.out⟩
         case measure=>simp[intOf];omega
   ·obtain rfl:I=n:=by omega
    have hS:=HG.out.s;rw[HOK.out.strTo_all (m:=I) (by have:=HN.out;omega)]at hS;have hG:=HG.out.g;clear HG;go_wp2
    go_ret2;exact⟨_,rfl,hS,hG⟩
theorem kW0 (L:List (List UInt8)) (tb:Nat) (s:ByteArray) (w:World) (ah:OkL L) (hl:L.length<=20000) (hc:eG L<=524287) (hs:s.size<=9223372036854775807) (ac:eF w tb L) :
  Calls Tryz.prog 73 #[.pointer (some ⟨tb,0,none⟩),.string s] w λe w'=>e=.returned (.tuple #[.int .i64 ((jB L (bl s)).1:Nat),.bool (jB L (bl s)).2])/\Grows w w':=by
 by_cases gk:256<s.size
 ·have hb:(256:Int)<s.size:=by omega
  have hf:jB L (bl s)=(0,false):=mM λhm=>by
   have:=ah.len _ hm
   rw[dI]at this;omega
  rw[hf];clear ac ah hf;go_enter Tryz.func73,Tryz.ntmps73
  go_wp2_with fail
  go_ret2;exact⟨rfl,Grows.refl _⟩
 ·have hb:¬(256:Int)<s.size:=by omega
  have HOK:=Aa ah;have CW:=Aa (kX0 L tb s w ah hl hc hs ac);have CI:=λ(i:Nat) (hn:fR L (bl s) i) (u:World) (hu:Grows w u)=>Aa (oI0 L tb i (bl s) u ah hl hc hn (ac.grows hu));obtain⟨⟨r1,r2⟩,hR⟩:∃R,R=jB L (bl s):=⟨_,rfl⟩;rw[<-hR]at CI ⊢;have HR:=Aa hR;simp only at CI ⊢;clear ac ah hR;go_enter Tryz.func73,Tryz.ntmps73
  go_wp2_with fail
  refine CW.out.mono ?_;rintro e w1 ⟨k,b,rfl,hw,ag⟩
  cases b with
  | true =>
   have CI1:=CI k (hw.1 rfl) w1 ag;clear CI CW hw;go_wp2_with fail
   refine CI1.out.mono ?_;rintro e w2 ⟨rfl,af⟩;go_wp2
   go_ret2;exact⟨rfl,ag.tr af⟩
  | false =>
   obtain⟨rfl,rfl⟩:r1=0/\r2=false:=by
    have h:=HR.out;rw[HOK.out.noNode (hw.2 rfl)]at h;simpa using h
   clear CI CW hw;go_wp2_with fail
   go_ret2;exact⟨rfl,ag⟩
def qA1 (h:Nat×Nat):List Value:=[.int .i64 h.1,.int .i64 h.2]
theorem aO1:eW Tryz.prog 121 124 2 16 qA1 where
 sl:=Tryz.underlying121
 info:=gF (z:=.agg #[.int .i64 0,.int .i64 0]) (by kernel_rfl) rfl
 pos:=by decide
 by1:=by decide
 len _:=rfl
 one x u hu:=by
  simp[qA1]at hu;rcases hu with rfl|rfl<;>rfl
theorem uU (L:List (List UInt8)) (tb:Nat) (s:ByteArray) (w:World) (ah:OkL L) (hl:L.length<=20000) (hc:eG L<=524287) (hs:s.size<=140737488355328) (ac:eF w tb L) :
  Calls Tryz.prog 75 #[.pointer (some ⟨tb,0,none⟩),.string s] w λe w'=>∃v,e=.returned v/\aV w' w.heap.size 124 2 qA1 v (hitsL L (bl s) s.size)/\Grows w w':=by
 have HOK:=Aa ah;have CD:=λ(i:Nat) (c:UInt8) (hi:i<(nodesA L).length) (u:World) (hu:Grows w u)=>Aa (lG0 L tb i c u ah hl hc hi (ac.grows hu));have CI:=λ(i:Nat) (t:List UInt8) (hn:fR L t i) (u:World) (hu:Grows w u)=>Aa (oI0 L tb i t u ah hl hc hn (ac.grows hu));obtain⟨H,hH⟩:=exq (hitsL L (bl s) s.size);rw[<-hH];have HH:=Aa hH;clear ac ah hH;go_enter Tryz.func75,Tryz.ntmps75
 go_wp2_with fail
 go_loopw [5,6,7,15] (λv f b i wr=>∃(k j:Nat) (ok:Bool),f=.int .i64 k/\b=.bool ok/\i=.int .i64 j/\j<=s.size/\Hid (aV wr w.heap.size 124 2 qA1 v (hitsL L (bl s) j))/\Hid (fR L ((bl s).take j) k)/\Hid (Grows w wr)) (λ_ _ _ i _=>s.size-(intOf i).toNat)
 case atStart=>exact⟨0,0,true,rfl,rfl,rfl,Ao _,aV.nil _ _ _ _ _,HOK.out.isRoot,Grows.refl _⟩
 case round =>
  obtain⟨k,j,ok,rfl,rfl,rfl,hj,hO,hW,hG⟩:=hrel;by_cases ae:j<s.size
  ·have et:(j:Int)<s.size:=by omega
   have hcj:(bl s)[j]?=some s[j]:=nR ae;have CD1:=CD k s[j] hW.out.lt wr hG.out;have HC:=Aa hcj;clear CD hcj;go_wp2_with fail
   refine CD1.out.mono ?_;rintro e w1 ⟨k1,b1,rfl,hd,ag⟩;have HW1:=Aa (HOK.out.down_to hW.out hd);rw[<-bN HC.out]at HW1;have hg:=hG.out.tr ag;have gv:=hO.out.grows ag;clear hd CD1
   cases b1 with
   | false =>
    have he:Hid (H=hitsL L (bl s) j):=HH.out.trans (HOK.out.hits_stop (HW1.out.2 rfl) s.size hj);clear CI;go_wp2_with fail
    go_ret;exact⟨_,rfl,by rw[he.out];exact gv,hg⟩
   | true =>
    have CI1:=CI k1 _ (HW1.out.1 rfl) w1 hg;have im:=rB L (bl s) j;by_cases hm:(bl s).take (j+1)∈L
    ·have e1:wD0 L (bl s) j=[((jB L ((bl s).take (j+1))).1,j+1)]:=if_pos hm
     have e2:(jB L ((bl s).take (j+1))).2=true:=by unfold jB;rw[if_pos hm]
     rw[e1]at im;rw[e2]at CI1;have hid:=gK1 hm;have hLb:L.length<=20000:=hl;obtain⟨id,aha⟩:=exq ((jB L ((bl s).take (j+1))).1);rw[<-aha]at im hid CI1;have HS2:=Aa im;have wj:IntKind.i64.wrap ((j:Int)+1)=((j+1:Nat):Int):=by simp[Ai,Aj,Ah];omega
     have ia:=HOK.out.hits_256 (s:=bl s) (n:=j) (by rw[dI];exact hj);generalize hitsL L (bl s) j=cd at gv HS2 ia;clear im e1 e2 aha hm hO CI;go_wp2_with fail
     refine CI1.out.mono ?_;rintro e w2 ⟨rfl,af⟩;have ny:=hg.tr af;have rp:=gv.grows af;clear CI1 gv;go_wp2_with (at_builtin;refine dE aO1 rfl _ _ rfl w.heap.size _ cd (id,j+1) rfl rp (Grows.refl _) _ 1 rfl #[.int .i64 id,.int .i64 (j+1:Nat)] rfl rfl (by omega) ny.size ?_;intro v6 w6 hO6 hk6 _ aee)
     have cg:=aee w ny (Ae _);rw[<-HS2.out]at hO6;go_roundw
     case rel=>exact⟨k1,j+1,true,rfl,rfl,by go_num,ae,hO6,HW1.out.1 rfl,cg⟩
     case measure=>simp[intOf];omega
    ·have e1:wD0 L (bl s) j=[]:=if_neg hm
     have e2:(jB L ((bl s).take (j+1)))=(0,false):=mM hm;rw[e1,Al]at im;rw[e2]at CI1;rw[<-im]at gv;clear im e1 e2 hm hO CI;go_wp2_with fail
     refine CI1.out.mono ?_;rintro e w2 ⟨rfl,af⟩;have ny:=hg.tr af;have rp:=gv.grows af;clear CI1 gv;go_wp2_with fail
     go_roundw
     case rel=>exact⟨k1,j+1,true,rfl,rfl,by go_num,ae,rp,HW1.out.1 rfl,ny⟩
     case measure=>simp[intOf];omega
  ·have et:¬(j:Int)<s.size:=by omega
   obtain rfl:j=s.size:=by omega
   have gv:=hO.out;rw[<-HH.out]at gv;go_wp2_with fail
   go_ret;exact⟨_,rfl,gv,hG.out⟩
theorem tT0 (a k:Nat):Ab a (k+1)=Ab a k++[a+k]:=by
 rw[<-List.range'_append_1 (s:=a) (m:=k) (n:=1)];simp
theorem sN (a n m:Nat):(Ab a n).take m=Ab a (min m n):=by
 apply List.ext_getElem?
 intro i;rw[List.getElem?_take];by_cases h:i<m
 ·rw[if_pos h]
  by_cases h2:i<n
  ·rw[Aq h2,Aq (by omega)]
  ·rw[Af (by simp;omega),Af (by simp;omega)]
 ·rw[if_neg h,Af (by simp;omega)]
theorem xX0 (L:List (List UInt8)) (tb:Nat) (s:ByteArray) (ep:Int) (w:World) (ah:OkL L) (hl:L.length<=20000) (hc:eG L<=524287) (hs:s.size<=9223372036854775807) (ac:eF w tb L) :
  Calls Tryz.prog 58 #[.pointer (some ⟨tb,0,none⟩),.string s,.int .i64 ep] w λe w'=>∃v,e=.returned v/\aV w' w.heap.size 3 1 kG v ((gA L (bl s)).take ep.toNat)/\Grows w w':=by
 have CL:=Aa (uM L tb w ac);have NILR:∀ {l:List Nat},l=[]->aV w w.heap.size 3 1 kG (.slice none 0 0) l:=λh=>by rw[h];exact aV.nil _ _ _ _ _
 by_cases h0:L.length=0
 ·have R:=Aa (NILR (l:=(gA L (bl s)).take ep.toNat) (by unfold gA;rw[h0];exact Ar))
  have uh:((L.length:Int)==0)=true:=by rw[h0];rfl
  generalize L.length=N at *;clear ac ah NILR;go_enter Tryz.func58,Tryz.ntmps58
  go_wp2_with fail
  refine CL.out.mono ?_;rintro e w1 ⟨rfl,rfl⟩;go_wp2_with fail
  go_ret;exact⟨_,rfl,R.out,Grows.refl _⟩
 have uh:((L.length:Int)==0)=false:=by rw[beq_eq_false_iff_ne];omega
 by_cases gk:256<s.size
 ·have hb:(256:Int)<s.size:=by omega
  have R:=Aa (NILR (l:=(gA L (bl s)).take ep.toNat) (by rw[ah.below_long (by rw[dI];exact gk)];exact Ar));generalize L.length=N at *;clear ac ah NILR;go_enter Tryz.func58,Tryz.ntmps58
  go_wp2_with fail
  refine CL.out.mono ?_;rintro e w1 ⟨rfl,rfl⟩;go_wp2_with fail
  go_ret;exact⟨_,rfl,R.out,Grows.refl _⟩
 have hb:¬(256:Int)<s.size:=by omega
 by_cases hm:ep<1
 ·have R:=Aa (NILR (l:=(gA L (bl s)).take ep.toNat) (by rw[show ep.toNat=0 by omega];rfl))
  generalize L.length=N at *;clear ac ah NILR;go_enter Tryz.func58,Tryz.ntmps58
  go_wp2_with fail
  refine CL.out.mono ?_;rintro e w1 ⟨rfl,rfl⟩;go_wp2_with fail
  go_ret;exact⟨_,rfl,R.out,Grows.refl _⟩
 obtain⟨M,rfl⟩:∃M:Nat,ep=M:=⟨ep.toNat,by omega⟩;rw[Int.toNat_natCast];obtain⟨RR,o4⟩:=exq ((gA L (bl s)).take M);rw[<-o4];have HRR:=Aa o4;clear o4;have HOK:=Aa ah;have CW:=Aa (kX0 L tb s w ah hl hc hs ac);have CK:=λ(i:Nat) (hi:i<(nodesA L).length) (u:World) (hu:Grows w u)=>Aa (mM0 L tb i u ah hl hc hi (ac.grows hu));have CI:=λ(i:Nat) (t:List UInt8) (hn:fR L t i) (u:World) (hu:Grows w u)=>Aa (oI0 L tb i t u ah hl hc hn (ac.grows hu));obtain⟨ib,i1,i2⟩:=ac.i
 have hN:(nodesA L).length<=524287:=by
  have:=eX ah.asc ah.len
  omega
 have CG:∀(i:Nat) (x:dK),(nodesA L)[i]?=some x->∀u,Grows w u->Hid (Calls Tryz.prog 104 #[.pointer (some ⟨ib,0,none⟩),.int .i64 i] u λe w'=>e=.returned (.bool (iP L x))/\u=w'):=λi x hx u hu=>by
  have h:=zR (isL L (nodesA L)) ib i u (by have:=(ah.sizes hl hc).2.1;omega) (i2.grows hu);rw[aZ0 hx]at h;exact h
 have HL:Hid (0<L.length):=Nat.pos_of_ne_zero h0;have HL20:Hid (L.length<=20000):=hl;have HN:=Aa hN;generalize L.length=LN at CL uh;have hmi:¬(M:Int)<1:=hm;clear ac ah i2 h0 gk hm hl hc;go_enter Tryz.func58,Tryz.ntmps58
 go_wp2_with fail
 refine CL.out.mono ?_;rintro e w1 ⟨rfl,rfl⟩;go_wp2_with fail
 refine CW.out.mono ?_;rintro e w2 ⟨k,ok,rfl,hw,af⟩
 cases ok with
 | false =>
  have R:=Aa (NILR (l:=RR) (by rw[HRR.out,HOK.out.below_none (hw.2 rfl)];exact Ar));clear CL CW CK CI CG hw NILR;go_wp2_with fail
  go_ret;exact⟨_,rfl,R.out.grows af,af⟩
 | true =>
  obtain⟨x0,ld,ex0⟩:=hw.1 rfl;have ae7:=HOK.out.span_pos HL.out ld;have ahb:=(HOK.out.good ld).le
  have HB:Hid (gA L (bl s)=Ab x0.i (x0.t-x0.i)):=by
   have:=HOK.out.below_node ld
   rw[ex0]at this;exact this
  have HX0:=Aa ld;have G2:=Aa af;have hkN:=(List.getElem?_eq_some_iff.1 ld).1;obtain⟨A,hA⟩:=exq x0.i;obtain⟨T,hT⟩:=exq x0.t;have HA:=Aa hA;have HT:=Aa hT
  have HR2:Hid (RR=(Ab A (T-A)).take M):=by
   show _=_
   rw[HRR.out,HB.out,hA,hT]
  rw[<-hA,<-hT]at ae7;rw[<-hT]at ahb;have hT5:T<=20000:=Nat.le_trans ahb.2 HL20.out;clear CL CW hw NILR ld ex0 hA hT af HB;go_wp2_with fail
  go_loopw [9] (λf wr=>∃i:Nat,f=.int .i64 i/\i<=524287/\Hid (∃x,(nodesA L)[i]?=some x/\x.i=A)/\Hid (Grows w wr)) (λf _=>524288-(intOf f).toNat)
  case atStart=>exact⟨k,rfl,by omega,⟨x0,HX0.out,HA.out.symm⟩,G2.out⟩
  case round =>
   obtain⟨i,rfl,hi,hX,hG⟩:=hrel;obtain⟨x,hx,hxA⟩:=hX.out;have ri:=(List.getElem?_eq_some_iff.1 hx).1;have hxt:=HOK.out.span_pos HL.out hx;have i1r:=hG.out.cell i1;have CG1:=CG i x hx wr hG.out;have HX:=Aa hx;clear hX hx
   cases hh:iP L x with
   | false =>
    rw[hh]at CG1;have CK1:=CK i ri wr hG.out;obtain⟨k1,y,hy,hyi⟩:=HOK.out.first_kid HX.out hxt hh;have hgt:=HOK.out.off_gt ri;have ia:=HOK.out.off_le (i+1);have HY:Hid (∃x,(nodesA L)[offA L i]?=some x/\x.i=A):=⟨y,hy,hyi.trans hxA⟩;generalize offA L i=O at *;generalize offA L (i+1)=O1 at *;clear hy hyi hh CK CG CI;go_wp2_with fail
    refine CG1.out.mono ?_;rintro e w3 ⟨rfl,rfl⟩;go_wp2_with fail
    refine CK1.out.mono ?_;rintro e w4 ⟨rfl,bj⟩;have ny:=hG.out.tr bj;go_wp2_with fail
    go_roundw
    case rel=>exact⟨O,rfl,by omega,HY.out,ny⟩
    case measure=>simp[intOf];omega
   | true =>
    rw[hh]at CG1;have FND:=HOK.out.find_node HX.out;rw[if_pos hh,hxA]at FND;have CI1:=λ(u:World) (hu:Grows w u)=>CI i _ ⟨x,HX.out,rfl⟩ u hu;rw[FND]at CI1;clear CG hh FND;go_wp2_with fail
    refine CG1.out.mono ?_;rintro e w3 ⟨rfl,rfl⟩;obtain⟨u3,rfl⟩:=exq wr;clear CG1;go_wp2_with fail
    go_loopw [10] (λf wr=>∃i:Nat,f=.int .i64 i/\i<=524287/\Hid (∃x,(nodesA L)[i]?=some x/\x.t=T)/\Hid (Grows w wr)) (λf _=>524288-(intOf f).toNat)
    case atStart=>exact⟨k,rfl,by omega,⟨x0,HX0.out,HT.out.symm⟩,hG.out⟩
    case round =>
     obtain⟨j,rfl,hj,hY,hGj⟩:=hrel;obtain⟨y,hy,hyT⟩:=hY.out;have hjl:=(List.getElem?_eq_some_iff.1 hy).1;have hyt:=HOK.out.span_pos HL.out hy;have CK1:=CK j hjl wr hGj.out;have nz:=lM (L:=L) (show j<=j+1 by omega)
     have hgt:=HOK.out.off_gt hjl;have ia:=HOK.out.off_le (j+1);by_cases hk:offA L j<offA L (j+1)
     ·obtain⟨z,hz,hzt⟩:=HOK.out.last_kid hy hk
      obtain⟨Q,hQ⟩:=exq (offA L (j+1)-1);rw[<-hQ]at hz;have HZ:Hid (∃x,(nodesA L)[Q]?=some x/\x.t=T):=⟨z,hz,hzt.trans hyT⟩;generalize offA L j=O at *;generalize offA L (j+1)=O1 at *;have wQ:IntKind.i64.wrap ((O1:Int)-1)=Q:=by simp[Ai,Aj,Ah];omega
      have ai:((O:Int)==O1)=false:=by rw[beq_eq_false_iff_ne];omega
      clear hz hzt hy hY CK CI1;go_wp2_with fail
      refine CK1.out.mono ?_;rintro e w4 ⟨rfl,bj⟩;have ny:=hGj.out.tr bj;go_wp2_with fail
      go_roundw
      case rel=>exact⟨Q,by go_num,by omega,HZ.out,ny⟩
      case measure=>simp[intOf];omega
     ·obtain⟨hh,hyi⟩:=OkL.no_kid hy hyt hk
      have FND:=HOK.out.find_node hy;rw[if_pos hh]at FND;have CI2:=λ(u:World) (hu:Grows w u)=>CI j _ ⟨y,hy,rfl⟩ u hu;rw[FND]at CI2;obtain⟨B,hB⟩:=exq y.i;rw[<-hB]at CI2;have hBT:B+1=T:=by omega
      have wl:((offA L j:Int)==offA L (j+1))=true:=by rw[beq_iff_eq];omega
      generalize offA L j=O at *;generalize offA L (j+1)=O1 at *;clear hh FND hy hY CK CI hB;go_wp2_with fail
      refine CK1.out.mono ?_;rintro e w4 ⟨rfl,bj⟩;have hg:=hGj.out.tr bj;have CI3:=CI1 w4 hg;clear CK1 CI1 bj;go_wp2_with fail
      refine CI3.out.mono ?_;rintro e w5 ⟨rfl,bg⟩;have dp:=hg.tr bg;have CI4:=CI2 w5 dp;clear CI3 CI2 bg hg;go_wp2_with fail
      refine CI4.out.mono ?_;rintro e w6 ⟨rfl,cg⟩;have G6:=Aa (dp.tr cg);clear CI4 cg dp;go_wp2_with fail
      go_loopw [17,18] (λv i wr=>∃q P:Nat,P=A+q/\i=.int .i64 P/\q<=T-A/\q<=M/\Hid (aV wr w.heap.size 3 1 kG v (Ab A q))/\Hid (Grows w wr)) (λ_ i _=>T-(intOf i).toNat)
      case atStart=>exact⟨0,A,rfl,rfl,Ao _,Ao _,aV.nil _ _ _ _ _,G6.out⟩
      case round =>
       obtain⟨q,P,hP,rfl,lg,jc,hO,hGq⟩:=hrel;obtain⟨aq,cq,hve,_,_,_⟩:=hO.out.at_ (k:=1) (λx=>(rfl:(kG x).length=1));rw[As]at hve;subst hve;by_cases jf:P<=B
       ·have ajj:(P:Int)<=B:=by omega
        by_cases hqm:q<M
        ·have ajk:(q:Int)<M:=by omega
         have gv:=hO.out;have hr:=tT0 A q;rw[<-hP]at hr;have HR:=Aa hr;have hlr:(Ab A q).length=q:=As;have hgs:=hGq.out.size;generalize Ab A q=cd at gv HR hlr;obtain⟨P1,hP1⟩:=exq (P+1);have wP:IntKind.i64.wrap ((P:Int)+1)=P1:=by simp[Ai,Aj,Ah];omega
         have HP:=Aa hP;have HP1:=Aa hP1;clear hr hO hP hP1;go_wp2_with (at_builtin;refine dE pB rfl _ _ rfl w.heap.size _ cd P rfl gv (Grows.refl _) _ 1 rfl #[.int .i64 P] rfl rfl (by omega) hgs ?_;intro v6 w6 hO6 hk6 _ aee)
         have cg:=aee w hGq.out (Ae _);rw[<-HR.out]at hO6;go_roundw
         case rel=>exact⟨q+1,P1,by have:=HP.out;have:=HP1.out;omega,by go_num,by have:=HP.out;omega,by omega,hO6,cg⟩
         case measure=>have:=HP.out;have:=HP1.out;simp[intOf];omega
        ·have ajk:¬(q:Int)<M:=by omega
         have gv:=hO.out
         rw[show Ab A q=(Ab A (T-A)).take M by
          rw[sN];congr 1
          omega]at gv
         clear hO hP;go_wp2_with fail
         go_ret;exact⟨_,rfl,by rw[HR2.out];exact gv,hGq.out⟩
       ·have ajj:¬(P:Int)<=B:=by omega
        have gv:=hO.out
        rw[show Ab A q=(Ab A (T-A)).take M by
         rw[sN];congr 1
         omega]at gv
        clear hO hP;go_wp2_with fail
        go_ret;exact⟨_,rfl,by rw[HR2.out];exact gv,hGq.out⟩
end
end Go.Proofs.YtheiocndipepaaaGreatDoor
