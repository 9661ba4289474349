/- The texts Opn2 Dct6 Wrote Wk19, one behind the other. -/
import Derived.Test.YtcijgkfpobpdbaaGreatDoorBq48
import Derived.Test.YtcijgkfpobpdbaaGreatDoorBq42
import Derived.Test.YtcijgkfpobpdbaaGreatDoorBq41
open Go.Lib renaming hid → Aa
open Go.World renaming size_alloc → Ab
open Nat renaming add_le_add_right → Ac,le_trans → Af,zero_le → Ag
open List renaming getElem?_range' → Ad,range' → Ae
set_option maxHeartbeats 8000000
namespace Go.Proofs.YtcijgkfpobpdbaaGreatDoor
set_option maxRecDepth 100000
section
open Go Go.RowKit Go.Shelf
attribute [local go_sem] aQ aM
theorem oR.mono {w:World} {db lo lo':Nat} (h:oR w db lo) (hl:lo'<=lo):oR w db lo':=⟨λtb ht=>Af (Ac hl 2) (h.1 tb ht),λtb ht=>Af (Ac hl 2) (h.2 tb ht)⟩
structure mY1 (x:yZ) (w w':World) (db:Nat) (m:Mx) (u0 u1 u2:Value):Prop where
 li:qE x=true
 src:srcM x=some m
 made:iT x.p (some m) x.e=0
 d:cO w' db x.p m (sortS x.e)
 lo:oR w' db w.heap.size
 r:cO1 w' u0 u1 u2 x.p m (sortS x.e)
def nH1 (x:yZ) (w:World) (e:Ending) (w':World):Prop :=
 Grows w w'/\∃dv a0 n0 c0 q a2 n2 c2,e=.returned (.tuple #[dv,.agg #[.slice a0 n0 c0,.pointer q,.slice a2 n2 c2],.bool true])/\(dv=.pointer none\/∃db m,dv=.pointer (some ⟨db,0,none⟩)/\mY1 x w w' db m (.slice a0 n0 c0) (.pointer q) (.slice a2 n2 c2))
theorem yJ (x:yZ) (A:nM) (w:World) (he:Env w) (ag:tG x) (ac:oZ w A x) :
  Calls Tryz.prog 13 #[A.agg x] w (nH1 x w):=by
 have kh:=Aa ag;obtain⟨pa,pc,sa,sc,ea,ec⟩:=A;obtain⟨xp,xd,xs,xe⟩:=x;obtain⟨W1,bi⟩:=exq (w.alloc (.cells #[.slice pa xp.length pc,.int .i64 xd,.slice sa xs.length sc,.slice ea xe.length ec] 26));obtain⟨W0,bh⟩:=exq (W1.alloc (.cells #[.slice none 0 0,.pointer none,.slice none 0 0] 31));have dp:W1.heap.size=w.heap.size+1:=by rw[bi,Ab]
 have ads:W0.heap.size=w.heap.size+2:=by rw[bh,Ab,dp]
 have ah:Grows (w.alloc (.cells #[.slice pa xp.length pc,.int .i64 xd,.slice sa xs.length sc,.slice ea xe.length ec] 26)) W0:=by rw[bh,bi];exact Grows.alloc _ _
 have cd:Grows w W0:=(Grows.alloc _ _).tr ah
 have hRB:lX W0 (w.heap.size+1) #[.slice none 0 0,.pointer none,.slice none 0 0]:=by
  have:=TB.alloc W1 #[.slice none 0 0,.pointer none,.slice none 0 0] 31
  rw[dp]at this;rw[bh];exact lX.zero this
 obtain⟨bc,_⟩:=bJ ah;have q0:=bc 0 _ rfl;have q1:=bc 1 _ rfl;have q2:=bc 2 _ rfl;have q3:=bc 3 _ rfl;have HQ:=Aa (And.intro q0 (And.intro q1 (And.intro q2 q3)));have HSA:=Aa (ac.grows cd);have HG0:=Aa cd;have HE:=Aa (he.grows cd);have CL:=Aa (bB1 ⟨xp,xd,xs,xe⟩ ⟨pa,pc,sa,sc,ea,ec⟩ W0 kh.out HSA.out);unfold nM.agg nM.cells at CL;simp only at CL;have hb0:w.heap.size≠w.heap.size+1:=by omega
 show Calls _ _ #[.agg #[.slice pa xp.length pc,.int .i64 xd,.slice sa xs.length sc,.slice ea xe.length ec]] _ _
 clear he ag ac bc cd ah
 cases hl:qE ⟨xp,xd,xs,xe⟩ with
 | false =>
  rw[hl]at CL;go_enter Tryz.func13,Tryz.ntmps13
  go_wp2_with fail
  rw[<-bi,<-bh];clear bh bi dp ads;refine CL.out.mono ?_;rintro e w1 ⟨rfl,ah⟩;obtain⟨v0,v1,v2,k0,k1,k2,kf⟩:=(hRB.grows ah).cells;have f0:=kf 0;have f1:=kf 1;have f2:=kf 2;have GW:=(HG0.out.tr ah).set3 (Nat.le_succ _) (.slice none 0 0) (.pointer none) (.slice none 0 0);clear kf CL q0 q1 q2 q3;go_wp2_with fail
  refine bodyPost_ret (v:=.tuple #[.pointer none,.agg #[.slice none 0 0,.pointer none,.slice none 0 0],.bool true]) (by simp[results,Tryz.results13,go_sem,k0,k1,k2]) rfl ?_
  exact⟨GW,_,_,_,_,_,_,_,_,rfl,.inl rfl⟩
 | true =>
  rw[hl]at CL;obtain⟨_,_,_,_,jg⟩:=uD hl;replace jg:xe.length<=300:=jg;obtain⟨t7,jk,je⟩:=nD1 hl kh.out;have HB1:Hid (∀y∈xe,uO y):=t7;have HLI:=Aa hl;have CI:=λ(W:World) (h:Grows W0 W)=>Aa (kP0 ⟨xp,xd,xs,xe⟩ ⟨pa,pc,sa,sc,ea,ec⟩ W (HE.out.grows h) kh.out jk (HSA.out.grows h));have CR:=λ(W:World) (h:Grows W0 W)=>Aa (eQ1 ⟨xp,xd,xs,xe⟩ ⟨pa,pc,sa,sc,ea,ec⟩ W kh.out hl (HSA.out.grows h));unfold nM.agg nM.cells cZ at CI;unfold nM.agg nM.cells gP1 at CR;simp only at CI CR;obtain⟨SM,vf⟩:=exq (srcM ⟨xp,xd,xs,xe⟩);rw[<-vf]at CI CR;have HSM:=Aa vf;obtain⟨E,hE⟩:=exq (iT xp SM xe);rw[<-hE]at CR;have HME:=Aa hE;have HB2:Hid (∀y∈xe,y.r.size<=1099511627776/\y.s.size<=1099511627776):=jk;have zo:∀u:World,Grows W0 u->¬u.heap.size=w.heap.size+1:=λu hu=>by have:=hu.size;omega
  obtain⟨b,hb⟩:=exq (w.heap.size+1);have hwb:w.heap.size≠b:=by omega
  have hbw:w.heap.size<=b:=by omega
  have gk:b<W0.heap.size:=by omega
  rw[<-hb]at hRB zo;clear hl t7 jk je vf hb0;by_cases h0:E=0
  ·cases SM with
   | none =>
    rw[h0]at hE
    have:=(mT hE.symm).1
    unfold mC at this;split at this<;>cases this
   | some m =>
    subst h0;have HMK:Hid (iT xp (some m) xe=0):=hE.symm;have HDOK:=Aa (lB hE.symm);clear hE HME;go_enter Tryz.func13,Tryz.ntmps13
    go_wp2_with fail
    rw[<-bi,<-bh,<-hb];clear bh bi dp hb;refine CL.out.mono ?_;rintro e w1 ⟨rfl,ah⟩;have q0:=ah.cell HQ.out.1;have q1:=ah.cell HQ.out.2.1;have q2:=ah.cell HQ.out.2.2.1;have q3:=ah.cell HQ.out.2.2.2;clear CL;go_wp2_with fail
    refine(CR w1 ah).out.mono ?_;rintro e w3 ⟨ax,a0,n0,c0,q,a2,n2,c2,rfl,dz⟩;obtain⟨mm,vd,eu,fj,rb,a',c',x0,x1,x2,lx,ql,tf⟩:=dz (by first|trivial|rfl)
    cases vd
    obtain⟨rfl,rfl,rfl⟩:eu=a0/\xp.length=n0/\fj=c0:=(by cases x0;exact⟨rfl,rfl,rfl⟩);obtain rfl:some ⟨rb,0,none⟩=q:=(by cases x1;rfl);obtain⟨rfl,rfl,rfl⟩:a'=a2/\(sortS xe).length=n2/\c'=c2:=(by cases x2;exact⟨rfl,rfl,rfl⟩);clear x0 x1 x2;have rp:=Aa (yQ0 ql.ok jg HMK.out);have HMO:=Aa ql.ok;have HRD:Hid (cO1 w3 (.slice eu xp.length fj) (.pointer (some ⟨rb,0,none⟩)) (.slice a' (sortS xe).length c') xp m (sortS xe)):=⟨_,_,_,_,_,rfl,rfl,rfl,lx,ql,tf⟩;have HBU:Hid (pQ xp (some m) xe=(0,file14 (imgP xp m (sortS xe)))):=rU HMK.out rp.out
    have CI2:∀W,Grows W0 W->Hid (Calls Tryz.prog 26 #[.agg #[.slice pa xp.length pc,.int .i64 xd,.slice sa xs.length sc,.slice ea xe.length ec]] W λe w'=>Grows W w'/\∃v,e=.returned (.tuple #[v,.int .i64 0])/\aU w' W.heap.size 5 1 aX v (file14 (imgP xp m (sortS xe)))):=λW hW=>by
     have h:=CI W hW;rw[HBU.out]at h;exact h
    obtain⟨es,pw⟩:=exq (sortS xe);have HES:=Aa pw;have HEN:Hid (∀y∈es,uO y):=λy hy=>HB1.out y (uE (by rw[<-HES.out];exact hy));rw[<-pw]at rp HDOK HRD CI2 ⊢;have g3:=ah.tr ax;have gi:=zo w3 g3;obtain⟨V3,lh⟩:=exq (w3.alloc (.cells #[.slice eu xp.length fj,.pointer (some ⟨rb,0,none⟩),.slice a' es.length c'] 31));have rr:Grows w3 V3:=by rw[lh];exact Grows.alloc _ _
    have bx:=λj u h=>aT w3 #[.slice eu xp.length fj,.pointer (some ⟨rb,0,none⟩),.slice a' es.length c'] 31 (0,0) j u h;rw[<-lh]at bx;obtain⟨b5,gp⟩:=exq w3.heap.size;rw[<-gp]at gi bx;have HBX:=Aa (And.intro (bx 0 _ rfl) (And.intro (bx 1 _ rfl) (bx 2 _ rfl)));have ur:=g3.tr rr;have r0:=ur.cell HQ.out.1;have r1:=ur.cell HQ.out.2.1;have r2:=ur.cell HQ.out.2.2.1;have r3:=ur.cell HQ.out.2.2.2;rw[lh]at r0 r1 r2 r3;clear CR CI HBU bx lx ql tf pw;go_wp2_with fail
    rw[<-lh,<-gp];clear lh gp r0 r1 r2 r3 q0 q1 q2 q3;refine(CI2 V3 ur).out.mono ?_;rintro e w4 ⟨bu,v4,rfl,mc⟩;obtain⟨b4,d4,rfl,hd4,sg,ig⟩:=mc.at_ bK.len;have hn4:=bN mc;have g4:=ur.tr bu;have CO:=Aa (kU0 xp m es b4 d4 w4 (HE.out.grows g4) HDOK.out HMO.out HEN.out rp.out hd4 sg hn4 ig);generalize (file14 (imgP xp m es)).length=FL at CO ⊢;clear mc hd4 sg hn4 ig CI2;go_wp2_with fail
    refine CO.out.mono ?_;rintro e w5 ⟨bg,db,rfl,hd5,aip,j6⟩;have g5:=g4.tr bg;have gV5:=bu.tr bg;have HD5:=Aa hd5;have z9:¬db=b:=by have:=g4.size;omega
    have HR5:=hRB.grows g5;have CLN:=λ(u:World) (hu:Grows w5 u)=>Aa (fU0 xp m es db u (HD5.out.grows hu));have y2:∀y:Ext Grows w5.drew,y.u.cell? ⟨b5,2,none⟩=some (.slice a' es.length c'):=aB ((Grows.drew w5).cell (gV5.cell HBX.out.2.2));clear CO hd5;go_wp2_with fail
    refine bF (aV 14 []) (by kernel_rfl) (λd _ _ _ _ h=>by cases d<;>exact h) ?_
    iterate 8 (refine aG rfl (λK hK=>?_);go_simp;refine hK _ ?_;clear hK K)
    refine aG rfl (λK hK=>?_);go_simp;apply Exists.intro
    refine⟨λx=>?_,hK _ ?_⟩
    ·go_at_call 24;exact bT (CLN _ ((Grows.drew w5).tr x.h)).out
    clear hK K;iterate 5 (refine aG rfl (λK hK=>?_);go_simp;refine hK _ ?_;clear hK K)
    refine bH ?_;clear y2 CLN;have z0:∀y:Ext (GK b) w5.drew.drew,y.u.cell? ⟨b5,0,none⟩=some (.slice eu xp.length fj):=gQ gi ((Grows.drew w5.drew).cell (gV5.dr.cell HBX.out.1));have z1:∀y:Ext (GK b) w5.drew.drew,y.u.cell? ⟨b5,1,none⟩=some (.pointer (some ⟨rb,0,none⟩)):=gQ gi ((Grows.drew w5.drew).cell (gV5.dr.cell HBX.out.2.1));have z2:∀y:Ext (GK b) w5.drew.drew,y.u.cell? ⟨b5,2,none⟩=some (.slice a' es.length c'):=gQ gi ((Grows.drew w5.drew).cell (gV5.dr.cell HBX.out.2.2));go_wp2_with fail
    refine iR (GK b) (aV 5 [3]) (GK.refl b) (GK.trans b) (by kernel_rfl) (by kernel_rfl) (λd _ _ _ _ h=>by cases d<;>exact h) ?_
    iterate 3 (refine aG rfl (λK hK=>?_);go_simp;refine hK _ ?_;clear hK K)
    obtain⟨v0,v1,v2,k0,k1,k2,kf⟩:=HR5.cells;have f0:=kf 0;have f1:=kf 1;have f2:=kf 2;clear z0 z1 z2 kf;refine aY rfl rfl (λK hK=>?_);go_simp;refine⟨GK.set3 _ _ _ _ _,hK _ _ ?_⟩;clear hK K;iterate 1 (refine aG rfl (λK hK=>?_);go_simp;refine hK _ ?_;clear hK K)
    refine bH ?_;have GW:=((HG0.out.tr g5).set3 hbw (.slice eu xp.length fj) (.pointer (some ⟨rb,0,none⟩)) (.slice a' es.length c')).dr.dr;have RD:=HR5.rdat3 (a0:=eu) (n0:=xp.length) (c0:=fj) (u2:=.slice a' es.length c') (fF0.pt (some ⟨rb,0,none⟩)) (HRD.out.grows (rr.tr gV5));have DD:=HR5.dict3 (a0:=eu) (n0:=xp.length) (c0:=fj) (u2:=.slice a' es.length c') (fF0.pt (some ⟨rb,0,none⟩)) HD5.out z9;have DL:=(aip.out3 HD5.out z9 (.slice eu xp.length fj) (.pointer (some ⟨rb,0,none⟩)) (.slice a' es.length c')).mono (HG0.out.tr g4).size;have gdd:∀u:World,Grows u u.drew.drew:=λu=>(Grows.drew u).tr (Grows.drew u.drew);replace DL:=DL.grows DD (gdd _);replace DD:=DD.grows (gdd _);replace RD:=RD.grows (gdd _);clear f0 f1 f2;go_wp2_with fail
    refine bodyPost_ret (v:=.tuple #[.pointer (some ⟨db,0,none⟩),.agg #[.slice eu xp.length fj,.pointer (some ⟨rb,0,none⟩),.slice a' es.length c'],.bool true]) (by simp[results,Tryz.results13,go_sem,k0,k1,k2]) rfl ?_
    have pw:=HES.out;subst pw;exact⟨GW,_,_,_,_,_,_,_,_,rfl,.inr ⟨db,m,rfl,HLI.out,HSM.out.symm,HMK.out,DD,DL,RD⟩⟩
  ·have hEb:(E != 0)=true:=by simpa using h0
   have HBU:=uZ0 (p:=xp) (m:=SM) (l:=xe) (by rw[<-hE];exact h0)
   have CI2:∀W,Grows W0 W->Hid (Calls Tryz.prog 26 #[.agg #[.slice pa xp.length pc,.int .i64 xd,.slice sa xs.length sc,.slice ea xe.length ec]] W λe w'=>Grows W w'/\∃v,e=.returned (.tuple #[v,.int .i64 E])):=λW hW=>by
    have h:=CI W hW;rw[HBU,<-hE]at h;exact h.out.mono λe w' ⟨h1,v,h2,_⟩=>⟨h1,v,h2⟩
   clear HBU hE CI;go_enter Tryz.func13,Tryz.ntmps13
   go_wp2_with fail
   rw[<-bi,<-bh,<-hb];clear bh bi dp hb;refine CL.out.mono ?_;rintro e w1 ⟨rfl,ah⟩;have q0:=ah.cell HQ.out.1;have q1:=ah.cell HQ.out.2.1;have q2:=ah.cell HQ.out.2.2.1;have q3:=ah.cell HQ.out.2.2.2;clear CL;go_wp2_with fail
   refine(CR w1 ah).out.mono ?_;rintro e w3 ⟨ax,a0,n0,c0,q,a2,n2,c2,rfl,dz⟩;have g3:=ah.tr ax;have gi:=zo w3 g3;obtain⟨V3,lh⟩:=exq (w3.alloc (.cells #[.slice a0 n0 c0,.pointer q,.slice a2 n2 c2] 31));have rr:Grows w3 V3:=by rw[lh];exact Grows.alloc _ _
   have bx:=λj u h=>aT w3 #[.slice a0 n0 c0,.pointer q,.slice a2 n2 c2] 31 (0,0) j u h;rw[<-lh]at bx;obtain⟨b5,gp⟩:=exq w3.heap.size;rw[<-gp]at gi bx;have HBX:=Aa (And.intro (bx 0 _ rfl) (And.intro (bx 1 _ rfl) (bx 2 _ rfl)));have ur:=g3.tr rr;have r0:=ur.cell HQ.out.1;have r1:=ur.cell HQ.out.2.1;have r2:=ur.cell HQ.out.2.2.1;have r3:=ur.cell HQ.out.2.2.2;rw[lh]at r0 r1 r2 r3;clear CR bx dz;go_wp2_with fail
   rw[<-lh,<-gp];clear lh gp r0 r1 r2 r3 q0 q1 q2 q3;refine(CI2 V3 ur).out.mono ?_;rintro e w4 ⟨bu,v4,rfl⟩;have g4:=ur.tr bu;have HRB:=hRB.grows g4;have z0:∀y:Ext (GK b) w4.drew,y.u.cell? ⟨b5,0,none⟩=some (.slice a0 n0 c0):=gQ gi ((Grows.drew w4).cell (bu.cell HBX.out.1));have z1:∀y:Ext (GK b) w4.drew,y.u.cell? ⟨b5,1,none⟩=some (.pointer q):=gQ gi ((Grows.drew w4).cell (bu.cell HBX.out.2.1));have z2:∀y:Ext (GK b) w4.drew,y.u.cell? ⟨b5,2,none⟩=some (.slice a2 n2 c2):=gQ gi ((Grows.drew w4).cell (bu.cell HBX.out.2.2));clear CI2;go_wp2_with fail
   refine iR (GK b) (aV 7 [5]) (GK.refl b) (GK.trans b) (by kernel_rfl) (by kernel_rfl) (λd _ _ _ _ h=>by cases d<;>exact h) ?_
   iterate 5 (refine aG rfl (λK hK=>?_);go_simp;refine hK _ ?_;clear hK K)
   obtain⟨v0,v1,v2,k0,k1,k2,kf⟩:=HRB.cells;have f0:=kf 0;have f1:=kf 1;have f2:=kf 2;clear z0 z1 z2 kf;refine aY rfl rfl (λK hK=>?_);go_simp;refine⟨GK.set3 _ _ _ _ _,hK _ _ ?_⟩;clear hK K;iterate 1 (refine aG rfl (λK hK=>?_);go_simp;refine hK _ ?_;clear hK K)
   refine bH ?_;have GW:=((HG0.out.tr g4).set3 hbw (.slice a0 n0 c0) (.pointer q) (.slice a2 n2 c2)).dr;clear f0 f1 f2;go_wp2_with fail
   refine bodyPost_ret (v:=.tuple #[.pointer none,.agg #[.slice a0 n0 c0,.pointer q,.slice a2 n2 c2],.bool true]) (by simp[results,Tryz.results13,go_sem,k0,k1,k2]) rfl ?_
   exact⟨GW,_,_,_,_,_,_,_,_,rfl,.inl rfl⟩
theorem OkL.below_range {L:List (List UInt8)} (h:OkL L) {p:List UInt8} (hn:fQ L p≠[]):∃a b,a<b/\b<=L.length/\fQ L p=Ae a (b-a):=by
 by_cases hi:∃i,fG L p i
 ·obtain⟨i,x,hx,rfl⟩:=hi
  have he:=h.below_node hx
  have ae:x.i<x.t:=by
   apply Classical.byContradiction
   intro hc;rw[he,show x.t-x.i=0 by omega]at hn
   exact hn rfl
  refine⟨x.i,x.t,ae,?_,he⟩
  have hm:x.t-1∈fQ L (spanS L x):=by
   rw[he,List.mem_range'_1];omega
  unfold fQ at hm
  have:=List.mem_range.1 (List.mem_filter.1 hm).1
  omega
 ·exact absurd (h.below_none λi hq=>hi ⟨i,hq⟩) hn
theorem dF0 (p:List cJ) (m:Mx) (es:List En) (db:Nat) (s:ByteArray) (ci:Int) (w:World) (ag:cH p m es) (hs:s.size<=140737488355328) (ac:cO w db p m es) :
  Calls Tryz.prog 20 #[.pointer (some ⟨db,0,none⟩),.string s,.int .i64 ci] w λe w'=>∃v,e=.returned v/\aU w' w.heap.size 59 5 aJ v (underL es s ci)/\Grows w w':=by
 by_cases h1:ci<1
 ·have he:underL es s ci=[]:=by
   unfold underL;rw[show ci.toNat=0 by omega,List.take_zero]
  rw[he];clear ag ac;go_enter Tryz.func20,Tryz.ntmps20
  go_wp2_with fail
  go_ret;exact⟨_,rfl,aU.nil _ _ _ _ _,Grows.refl _⟩
 ·obtain⟨M,rfl⟩:∃M:Nat,ci=M:=⟨ci.toNat,by omega⟩
  have hM:0<M:=by omega
  obtain⟨okR,lR,cR⟩:=dP ag.rd;obtain⟨tr,r1,r2⟩:=ac.r;have CF:=Aa (sN0 (bls (readL es)) tr s (M:Int) w okR lR cR (by omega) r2);rw[Int.toNat_natCast]at CF;by_cases hB:fQ (bls (readL es)) (bl s)=[]
  ·rw[aD1 hB]
   rw[hB,List.take_nil]at CF;clear ac ag okR lR cR r2 hB hM;go_enter Tryz.func20,Tryz.ntmps20
   go_wp2_with fail
   refine CF.out.mono ?_;rintro e w1 ⟨v1,rfl,gj,ah⟩;obtain⟨a1,c1,rfl,_,_,_⟩:=gj.at_ oO.len;go_wp2_with fail
   go_ret;exact⟨_,rfl,aU.nil _ _ _ _ _,ah⟩
  ·obtain⟨a,b,ev,gk,hBe⟩:=okR.below_range hB
   rw[cG]at gk;rw[hBe,rN]at CF;have hU:=sW0 ag.srt (m:=M) hM ev gk hBe;obtain⟨k,hk⟩:=exq (min M (b-a));have jv:0<k:=by omega
   have hn:=ag.len;rw[<-hk]at CF hU;obtain⟨R1,R2,fo,agu⟩:=ag.rows jv (show a+k<=(readL es).length by omega)
   obtain⟨pf,f1,f2⟩:=ac.f
   have vg:(gM rG es es.length).length<=20000:=by
    rw[cG]at lR;rw[ag.first,iJ]
    exact lR
   generalize (grpsL (keyRE (readL es) es) es.length a).length=A0 at R1 hU fo;generalize (grpsL (keyRE (readL es) es) es.length (a+k)).length=E1 at R2 hU fo agu;generalize (grpsL (keyRE (readL es) es) es.length (a+1)).length=A1 at R1;generalize (grpsL (keyRE (readL es) es) es.length (a+k-1)).length=E0 at R2;obtain⟨T,hT⟩:=exq (min (E1-A0) M+A0);rw[<-hT]at hU;rw[aI0 es (by omega)]at hU;have CLN:=λ(u:World) (hu:Grows w u)=>Aa (fU0 p m es db u (ac.grows hu));have C1:=λ(u:World) (hu:Grows w u)=>Aa (yU (gM rG es es.length) pf es.length a A0 A1 u (by omega) (λn h=>by have:=iQ h;omega) R1 (f2.grows hu));have C2:=λ(u:World) (hu:Grows w u)=>Aa (yU (gM rG es es.length) pf es.length (a+k-1) E0 E1 u (by omega) (λn h=>by have:=iQ h;omega) R2 (f2.grows hu));have CI:=λ(u:World) (b1 b2:Nat) (hu:Grows w u) h1 h2=>Aa (bZ0 p m es db A0 T b1 b2 u ag (ac.grows hu) (by omega) (by omega) h1 h2);rw[hU]at CI;obtain⟨N,hN⟩:=exq es.length;rw[<-hN]at CLN C1 C2;have ek:(Ae a k).length=k:=by simp
   obtain⟨IDS,acg⟩:=exq (Ae a k);rw[<-acg]at CF ek
   have HG1:Hid (IDS[0]?=some a):=by
    show _=_
    rw[acg,Ad jv];simp
   have HG2:Hid (IDS[k-1]?=some (a+k-1)):=by
    show _=_
    rw[acg,Ad (by omega)];simp;omega
   have hx:min ((E1:Int)-A0) M+A0=T:=by omega
   obtain⟨L9,hL9⟩:∃q:Nat,q=a+k-1:=⟨_,rfl⟩;rw[<-hL9]at C2 HG2;have lR2:=lR;rw[cG]at lR2
   have wk:IntKind.i64.wrap ((k:Int)-1)=(k-1:Nat):=by
    rw[show (k:Int)-1=((k-1:Nat):Int) by omega]
    exact kY1 (by omega)
   have wd:IntKind.i64.wrap ((E1:Int)-A0)=(E1:Int)-A0:=by
    rw[show (E1:Int)-A0=((E1-A0:Nat):Int) by omega]
    exact kY1 (by omega)
   have wt:IntKind.i64.wrap (min ((E1:Int)-A0) M+A0)=T:=by rw[hx];exact kY1 (by omega)
   have vj:k-1<k:=by omega
   have gw:0<IDS.length:=by omega
   clear ac ag okR lR lR2 cR r2 hB hBe hU acg hN hT hx hL9 R1 R2 fo agu vg f2 gk ev hk;go_enter Tryz.func20,Tryz.ntmps20
   go_wp2_with fail
   refine CF.out.mono ?_;rintro e w1 ⟨v1,rfl,gj,ah⟩;obtain⟨a1,c1,rfl,_,_,ct⟩:=gj.at_ oO.len;obtain⟨ba,oa,rfl,be⟩:=ct.get (aH gw);rw[ek];have e0:∀y:Ext Grows w1.drew,y.u.cell? ⟨ba,oa,none⟩=some (.int .i64 a):=aB ((Grows.drew w1).cell (be 0 _ HG1.out 0 _ rfl));have HE1:=Aa (be (k-1) _ HG2.out 0 _ rfl);have z0:∀y:Ext Grows w1.drew,y.u.cell? ⟨db,4,none⟩=some (.pointer (some ⟨pf,0,none⟩)):=aB (ah.dr.cell f1);have ja:¬(k:Int)=0:=by omega
   clear gj ct be HG1 HG2 CF;go_wp2_with fail
   refine bF (aV 15 [9]) (by kernel_rfl) (λd _ _ _ _ h=>by cases d<;>exact h) ?_
   iterate 8 (refine aG rfl (λK hK=>?_);go_simp;refine hK _ ?_;clear hK K)
   refine aG rfl (λK hK=>?_);go_simp;apply Exists.intro
   refine⟨λx=>?_,hK _ ?_⟩
   ·go_at_call 24;exact bT (CLN _ (ah.dr.tr x.h)).out
   clear hK K;clear e0 z0;refine aY rfl rfl (λK hK=>?_);go_simp;refine((C1 w1.drew ah.dr).out).mono ?_;rintro e w2 ⟨rfl,af⟩;refine⟨af,hK _ _ ?_⟩;clear hK K;iterate 5 (refine aG rfl (λK hK=>?_);go_simp;refine hK _ ?_;clear hK K)
   refine bH ?_;have g2:=ah.dr.tr af
   have e1:∀y:Ext Grows w2.drew,y.u.cell? ⟨ba,oa+(k-1),none⟩=some (.int .i64 L9):=by
    have h:=HE1.out;rw[Nat.mul_one,Nat.add_zero]at h;exact aB (((Grows.drew w1).tr (af.dr)).cell h)
   have z0:∀y:Ext Grows w2.drew,y.u.cell? ⟨db,4,none⟩=some (.pointer (some ⟨pf,0,none⟩)):=aB (g2.dr.cell f1);clear HE1 C1;go_wp2_with fail
   refine bF (aV 18 [12]) (by kernel_rfl) (λd _ _ _ _ h=>by cases d<;>exact h) ?_
   iterate 11 (refine aG rfl (λK hK=>?_);go_simp;refine hK _ ?_;clear hK K)
   refine aG rfl (λK hK=>?_);go_simp;apply Exists.intro
   refine⟨λx=>?_,hK _ ?_⟩
   ·go_at_call 24;exact bT (CLN _ (g2.dr.tr x.h)).out
   clear hK K;clear e1 z0 CLN;refine aY rfl rfl (λK hK=>?_);go_simp;refine((C2 w2.drew g2.dr).out).mono ?_;rintro e w3 ⟨rfl,ax⟩;refine⟨ax,hK _ _ ?_⟩;clear hK K;iterate 5 (refine aG rfl (λK hK=>?_);go_simp;refine hK _ ?_;clear hK K)
   refine bH ?_;have g3:=g2.dr.tr ax;clear C2;go_wp2_with fail
   refine(hT0 (A0:Int) (T:Int) w3).mono ?_;rintro e w4 ⟨rfl,hw4⟩;have bu:Grows w3 w4:=by rw[hw4];exact(Grows.alloc _ _).al _
   have c1:w4.cell? ⟨w3.heap.size,0,none⟩=some (.int .i64 A0):=jZ (cs:=#[.int .i64 A0]) (t:=3) (by rw[hw4];exact Grows.alloc _ _) rfl 0 _ rfl
   have c2:w4.cell? ⟨w3.heap.size+1,0,none⟩=some (.int .i64 T):=by
    have:=jZ (w:=w3.alloc (.cells #[.int .i64 A0] 3)) (w':=w4) (cs:=#[.int .i64 T]) (t:=3) (by rw[hw4];exact Grows.refl _) rfl 0 _ rfl
    rwa [Ab]at this
   have g4:=g3.tr bu;have CI2:=CI w4 _ _ g4 c1 c2;clear CI hw4 c1 c2;go_wp2_with fail
   refine CI2.out.mono ?_;rintro e w5 ⟨v,rfl,hv,bg⟩;go_wp2_with fail
   go_ret;exact⟨v,rfl,hv.base g4.size,g4.tr bg⟩
def zP0 (l:List En):ByteArray:=l.foldl (λa x=>a++x.s) ⟨#[]⟩
theorem bH1 {l:List En} {k:Nat} {x:En} (h:l[k]?=some x):zP0 (l.take (k+1))=zP0 (l.take k)++x.s:=by
 unfold zP0;rw[bI h,List.foldl_append];rfl
theorem yN0 (l:List En) (a:Option Addr) (c:Nat) (w:World) (hl:l.length<=1000) (hz:∀x∈l,x.s.size<=1000) (ac:aF w a 5 (l.map aJ)) :
  Calls Tryz.prog 44 #[.slice a l.length c] w λe w'=>e=.returned (.string (zP0 l))/\Grows w w':=by
 have HAT:=Aa ac;have HZ:=Aa hz;clear ac hz;go_enter Tryz.func44,Tryz.ntmps44
 go_wp2_with fail
 go_loopw [3,8] (λv i wr=>∃(k:Nat) (s:ByteArray),k<=l.length/\i=.int .i64 k/\v=.string s/\Hid (s=zP0 (l.take k)/\s.size<=k*1000)/\Hid (Grows w wr)) (λ_ i _=>l.length-(intOf i).toNat)
 case atStart=>exact⟨0,⟨#[]⟩,Ag _,rfl,rfl,⟨rfl,Ag _⟩,Grows.refl _⟩
 case round =>
  obtain⟨k,s,hk,rfl,rfl,hs,hg⟩:=hrel;by_cases ae:k<l.length
  ·obtain⟨⟨xr,xs,xl,xt,xc⟩,hx⟩:∃x,l[k]?=some x:=⟨_,List.getElem?_eq_getElem ae⟩
   obtain⟨ba,oa,rfl,be⟩:=(HAT.out.grows hg.out).get (aH ae);have c0:wr.cell? ⟨ba,oa+k*5,none⟩=some (.string xr):=be k _ hx 0 _ rfl;have c1:wr.cell? ⟨ba,oa+k*5+1,none⟩=some (.string xs):=be k _ hx 1 _ rfl;have c2:wr.cell? ⟨ba,oa+k*5+2,none⟩=some (.int .i64 xl):=be k _ hx 2 _ rfl;have c3:wr.cell? ⟨ba,oa+k*5+3,none⟩=some (.int .i64 xt):=be k _ hx 3 _ rfl;have c4:wr.cell? ⟨ba,oa+k*5+4,none⟩=some (.int .i64 xc):=be k _ hx 4 _ rfl;have dg:(k:Int)<l.length:=by omega
   have hxs:xs.size<=1000:=HZ.out _ (List.mem_of_getElem? hx);have dp:=hs.out.2;have akk:=λ(W:World)=>run_string_add_sum (P:=Tryz.prog) W s xs (by omega)
   have HT:Hid (s++xs=zP0 (l.take (k+1))/\(s++xs).size<=(k+1)*1000):=by
    refine⟨by rw[bH1 hx,hs.out.1],?_⟩;rw[ByteArray.size_append];omega
   have g2:Grows w _:=hg.out.tr (Grows.alloc wr (.cells #[.string xr,.string xs,.int .i64 xl,.int .i64 xt,.int .i64 xc] 59));clear be hx hs;go_wp2_with fail
   go_roundw
   case rel=>exact⟨k+1,_,ae,by go_num,rfl,HT,g2⟩
   case measure=>simp[intOf];omega
  ·obtain rfl:k=l.length:=by omega
   have ew:=hs.out.1;rw[List.take_length]at ew;subst ew;go_wp2_with fail
   go_ret;exact⟨rfl,hg.out⟩
theorem vC0 (x:yZ) (A:nM) (m:Mx) (w:World) (he:Env w) (ag:tG x) (hl:qE x=true) (hm:srcM x=some m) (hmo:m.OK) (jy:iT x.p (some m) x.e=0) (ac:oZ w A x) :
  Calls Tryz.prog 42 #[A.agg x] w λe w'=>∃db,e=.returned (.pointer (some ⟨db,0,none⟩))/\cO w' db x.p m (sortS x.e)/\Grows w w':=by
 obtain⟨_,_,_,_,jg⟩:=uD hl;obtain⟨t7,jk,je⟩:=nD1 hl ag;have rp:=yQ0 hmo jg jy;have vk:=rU jy rp;have hdk:=lB jy;obtain⟨pa,pc,sa,sc,ea,ec⟩:=A;obtain⟨xp,xd,xs,xe⟩:=x;obtain⟨W1,bi⟩:=exq (w.alloc (.cells #[.slice pa xp.length pc,.int .i64 xd,.slice sa xs.length sc,.slice ea xe.length ec] 26));have ah:Grows w W1:=by rw[bi];exact Grows.alloc _ _
 obtain⟨bc,_⟩:=bJ (show Grows (w.alloc (.cells #[.slice pa xp.length pc,.int .i64 xd,.slice sa xs.length sc,.slice ea xe.length ec] 26)) W1 by rw[bi];exact Grows.refl _)
 have q0:=bc 0 _ rfl;have q1:=bc 1 _ rfl;have q2:=bc 2 _ rfl;have q3:=bc 3 _ rfl;have CI:=Aa (kP0 ⟨xp,xd,xs,xe⟩ ⟨pa,pc,sa,sc,ea,ec⟩ W1 (he.grows ah) ag jk (ac.grows ah));unfold nM.agg nM.cells cZ at CI;simp only at CI;rw[hm]at CI;simp only at vk;rw[vk]at CI;have CO:=λ(b4:Option Addr) (d4:Nat) (u:World) (hu:Grows w u) h1 h2 h3 h4=>Aa (kU0 xp m (sortS xe) b4 d4 u (he.grows hu) hdk hmo (λy hy=>t7 y (uE hy)) rp h1 h2 h3 h4);show Calls _ _ #[.agg #[.slice pa xp.length pc,.int .i64 xd,.slice sa xs.length sc,.slice ea xe.length ec]] _ (λe w'=>∃db,e=.returned (.pointer (some ⟨db,0,none⟩))/\cO w' db xp m (sortS xe)/\Grows w w')
 generalize sortS xe=es at CI CO ⊢;clear he ag hl hm hmo jy ac t7 jk je rp vk hdk bc jg;go_enter Tryz.func42,Tryz.ntmps42
 go_wp2_with fail
 rw[<-bi];clear bi;refine CI.out.mono ?_;rintro e w2 ⟨af,v2,rfl,fm⟩;have ul:aU w2 W1.heap.size 5 1 aX v2 (file14 (imgP xp m es)):=fm;obtain⟨b4,d4,rfl,hd4,sg,ig⟩:=ul.at_ bK.len;have hn4:=bN ul;have g2:=ah.tr af;have CO2:=CO b4 d4 w2 g2 hd4 sg hn4 ig;generalize (file14 (imgP xp m es)).length=FL at CO2 ⊢;clear fm ul hd4 sg hn4 ig CI CO q0 q1 q2 q3;go_wp2_with fail
 refine CO2.out.mono ?_;rintro e w3 ⟨ax,db,rfl,mi,_,_⟩;go_wp2_with fail
 go_ret;exact⟨db,rfl,mi,g2.tr ax⟩
theorem gM0 {l:List En} {v:Value} {w:World} {B:Nat} (s:ByteArray) (hO:aU w B 59 5 aJ v l) (hl:l.length<=1000) (hz:∀x∈l,x.s.size<=1000) (hs:zP0 l=s):Calls Tryz.prog 44 #[v] w λe w'=>e=.returned (.string s)/\Grows w w':=by
 obtain⟨a,c,rfl,_,_,ac⟩:=hO.at_ dR.len;have h:=yN0 l a c w hl hz ac;rw[hs]at h;exact h
def kA:ByteArray:=⟨#[227,129,139]⟩
def kB:ByteArray:=⟨#[227,129,139,227,129,141,227,129,143]⟩
def kC:ByteArray:=⟨#[230,159,191,227,129,174,230,156,168]⟩
theorem nI0:zP0 (exactL iW kA)=⟨#[231,167,145,232,154,138]⟩/\(exactL iW kA).length<=1000/\∀x∈exactL iW kA,x.s.size<=1000:=by decide +kernel
theorem nH0:zP0 (prefL iW kB)=⟨#[231,167,145,232,154,138,230,159,191]⟩/\(prefL iW kB).length<=1000/\∀x∈prefL iW kB,x.s.size<=1000:=by decide +kernel
theorem pI0:zP0 (underL iW kA 2)=⟨#[231,167,145,232,154,138]⟩/\(underL iW kA 2).length<=1000/\∀x∈underL iW kA 2,x.s.size<=1000:=by decide +kernel
theorem pC0:zP0 (writesL iW kC)=⟨#[230,159,191]⟩/\(writesL iW kC).length<=1000/\∀x∈writesL iW kC,x.s.size<=1000:=by decide +kernel
theorem tA:cH mV nV iW:=lB kC0
theorem uU0:qE hP0=true:=by decide +kernel
theorem cY1:iW.length=3:=by decide +kernel
theorem mL1:nV.cost (1,0)=10:=by decide +kernel
theorem oM (w:World) (he:Env w):Calls Tryz.prog 14 #[] w λe w'=>e=.returned (.bool true)/\Grows w w':=by
 have HE:=Aa he;have HOP:=λ(A:nM) (u:World) (hu:Grows w u) (ac:oZ u A hP0)=>Aa (vC0 hP0 A nV u (HE.out.grows hu) tN0 uU0 gS1 jA1 kC0 ac);have C0:=λ(db:Nat) (u:World) (hd:cO u db mV nV iW)=>Aa (fU0 mV nV iW db u hd);have C1:=λ(db:Nat) (u:World) (hd:cO u db mV nV iW)=>Aa (dY0 mV nV iW db kA u tA (by decide) hd);have C2:=λ(db:Nat) (u:World) (hd:cO u db mV nV iW)=>Aa (uB mV nV iW db kB u tA (by decide) hd);have C3:=λ(db:Nat) (u:World) (hd:cO u db mV nV iW)=>Aa (dF0 mV nV iW db kA 2 u tA (by decide) hd);have C4:=λ(db:Nat) (u:World) (hd:cO u db mV nV iW)=>Aa (bC0 mV nV iW db kC u tA (by decide) hd);have C5:=λ(db:Nat) (u:World) (hd:cO u db mV nV iW)=>Aa (iQ0 mV nV iW db 1 0 u hd);rw[cY1]at C0;rw[mL1]at C5;clear he;go_enter Tryz.func14,Tryz.ntmps14
 go_wp2_with fail
 refine(gY0 w).mono ?_;rintro e w1 ⟨A,rfl,hA,ah⟩;have HO:=HOP A w1 ah hA;clear HOP hA;go_wp2_with fail
 refine HO.out.mono ?_;rintro e w2 ⟨db,rfl,hd,af⟩;have g2:=ah.tr af;have HD:=Aa (show cO w2 db mV nV iW from hd)
 clear hd HO ah af;have CC:=C0 db w2 HD.out;go_wp2_with fail
 refine CC.out.mono ?_;rintro e w3 ⟨rfl,rfl⟩;clear C0 CC;have CC:=C1 db w2 HD.out;go_wp2_with fail
 refine CC.out.mono ?_;rintro e w3 ⟨v3,rfl,j5,ax⟩;have CW:=Aa (gM0 _ j5 nI0.2.1 nI0.2.2 nI0.1);clear C1 CC j5;go_wp2_with fail
 refine CW.out.mono ?_;rintro e w4 ⟨rfl,bu⟩;have g4:=ax.tr bu;clear CW ax bu;have CC:=C2 db w4 (HD.out.grows g4);go_wp2_with fail
 refine CC.out.mono ?_;rintro e w5 ⟨v5,rfl,hv5,bg⟩;have CW:=Aa (gM0 _ hv5 nH0.2.1 nH0.2.2 nH0.1);clear C2 CC hv5;go_wp2_with fail
 refine CW.out.mono ?_;rintro e w6 ⟨rfl,cp⟩;have g6:=g4.tr (bg.tr cp);clear CW bg cp g4;have CC:=C3 db w6 (HD.out.grows g6);go_wp2_with fail
 refine CC.out.mono ?_;rintro e w7 ⟨v7,rfl,hv7,cu⟩;have CW:=Aa (gM0 _ hv7 pI0.2.1 pI0.2.2 pI0.1);clear C3 CC hv7;go_wp2_with fail
 refine CW.out.mono ?_;rintro e w8 ⟨rfl,fy⟩;have g8:=g6.tr (cu.tr fy);clear CW cu fy g6;have CC:=C4 db w8 (HD.out.grows g8);go_wp2_with fail
 refine CC.out.mono ?_;rintro e w9 ⟨v9,rfl,hv9,jl⟩;have CW:=Aa (gM0 _ hv9 pC0.2.1 pC0.2.2 pC0.1);clear C4 CC hv9;go_wp2_with fail
 refine CW.out.mono ?_;rintro e x1 ⟨rfl,i6⟩;have gx:=g8.tr (jl.tr i6);clear CW jl i6 g8;have CC:=C5 db x1 (HD.out.grows gx);go_wp2_with fail
 refine CC.out.mono ?_;rintro e x2 ⟨rfl,rfl⟩;go_wp2_with fail
 go_ret;exact⟨rfl,g2.tr gx⟩
end
end Go.Proofs.YtcijgkfpobpdbaaGreatDoor
