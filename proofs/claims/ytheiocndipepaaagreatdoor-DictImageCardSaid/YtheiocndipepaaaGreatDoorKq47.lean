/- The texts Opn2 Dct6 Wrote Wk19 Cnt19 SplB CrcI OwnP, one behind the other. -/
import Derived.Test.YtheiocndipepaaaGreatDoorKq46
import Derived.Test.YtheiocndipepaaaGreatDoorKq40
import Derived.Test.YtheiocndipepaaaGreatDoorKq41
import Derived.Test.YtheiocndipepaaaGreatDoorKq20
import Derived.Test.YtheiocndipepaaaGreatDoorKq37
import Derived.Test.YtheiocndipepaaaGreatDoorKq35
import Derived.Test.YtheiocndipepaaaGreatDoorKq22
import Derived.Test.YtheiocndipepaaaGreatDoorKq1
import Derived.Test.YtheiocndipepaaaGreatDoorKq42
open Go.Lib renaming hid → Aa
open Nat renaming xor_lt_two_pow → Ab,add_le_add_right → Aj,zero_le → Al,mod_eq_of_lt → Ar,le_trans → Au,xor_self → Av,xor_comm → Aw
open Classical renaming byContradiction → Ac
open List renaming getElem?_eq_getElem → Ad,length_append → Ae,getElem?_take_of_lt → Af,length_take → Ah,getElem?_set_self → Ai,getElem?_range' → Ak,take_length → Ap,length_drop → Aq,range' → As,take_set → At
open Go.World renaming size_alloc → Ag
open Go.IntKind renaming signed → Am,wrap → An,bits → Ao
set_option maxHeartbeats 8000000
namespace Go.Proofs.YtheiocndipepaaaGreatDoor
set_option maxRecDepth 100000
section
open Go Go.RowKit Go.Shelf
attribute [local go_sem] aM aK
theorem mQ.mono {w:World} {db lo lo':Nat} (h:mQ w db lo) (hl:lo'<=lo):mQ w db lo':=⟨λtb ht=>Au (Aj hl 2) (h.1 tb ht),λtb ht=>Au (Aj hl 2) (h.2 tb ht)⟩
structure qP1 (x:zB) (w w':World) (db:Nat) (m:Mx) (u0 u1 u2:Value):Prop where
 li:pY x=true
 src:srcM x=some m
 made:iL x.p (some m) x.e=0
 d:cB w' db x.p m (sortS x.e)
 lo:mQ w' db w.heap.size
 r:eT1 w' u0 u1 u2 x.p m (sortS x.e)
def qE1 (x:zB) (w:World) (e:Ending) (w':World):Prop :=
 Grows w w'/\∃dv a0 n0 c0 q a2 n2 c2,e=.returned (.tuple #[dv,.agg #[.slice a0 n0 c0,.pointer q,.slice a2 n2 c2],.bool true])/\(dv=.pointer none\/∃db m,dv=.pointer (some ⟨db,0,none⟩)/\qP1 x w w' db m (.slice a0 n0 c0) (.pointer q) (.slice a2 n2 c2))
theorem zN (x:zB) (A:kQ) (w:World) (he:Env w) (ah:sO x) (ac:mV w A x) :
  Calls Tryz.prog 8 #[A.agg x] w (qE1 x w):=by
 have ky:=Aa ah;obtain⟨pa,pc,sa,sc,ea,ec⟩:=A;obtain⟨xp,xd,xs,xe⟩:=x;obtain⟨W1,bi⟩:=exq (w.alloc (.cells #[.slice pa xp.length pc,.int .i64 xd,.slice sa xs.length sc,.slice ea xe.length ec] 26));obtain⟨W0,b9⟩:=exq (W1.alloc (.cells #[.slice none 0 0,.pointer none,.slice none 0 0] 32));have di:W1.heap.size=w.heap.size+1:=by rw[bi,Ag]
 have aeh:W0.heap.size=w.heap.size+2:=by rw[b9,Ag,di]
 have ag:Grows (w.alloc (.cells #[.slice pa xp.length pc,.int .i64 xd,.slice sa xs.length sc,.slice ea xe.length ec] 26)) W0:=by rw[b9,bi];exact Grows.alloc _ _
 have cp:Grows w W0:=(Grows.alloc _ _).tr ag
 have hRB:mE W0 (w.heap.size+1) #[.slice none 0 0,.pointer none,.slice none 0 0]:=by
  have:=TB.alloc W1 #[.slice none 0 0,.pointer none,.slice none 0 0] 32
  rw[di]at this;rw[b9];exact mE.zero this
 obtain⟨bc,_⟩:=bK ag;have q0:=bc 0 _ rfl;have q1:=bc 1 _ rfl;have q2:=bc 2 _ rfl;have q3:=bc 3 _ rfl;have HQ:=Aa (And.intro q0 (And.intro q1 (And.intro q2 q3)));have HSA:=Aa (ac.grows cp);have HG0:=Aa cp;have HE:=Aa (he.grows cp);have CL:=Aa (zM0 ⟨xp,xd,xs,xe⟩ ⟨pa,pc,sa,sc,ea,ec⟩ W0 ky.out HSA.out);unfold kQ.agg kQ.cells at CL;simp only at CL;have hb0:w.heap.size≠w.heap.size+1:=by omega
 show Calls _ _ #[.agg #[.slice pa xp.length pc,.int .i64 xd,.slice sa xs.length sc,.slice ea xe.length ec]] _ _
 clear he ah ac bc cp ag
 cases hl:pY ⟨xp,xd,xs,xe⟩ with
 | false =>
  rw[hl]at CL;go_enter Tryz.func8,Tryz.ntmps8
  go_wp2_with fail
  rw[<-bi,<-b9];clear b9 bi di aeh;refine CL.out.mono ?_;rintro e w1 ⟨rfl,ag⟩;obtain⟨v0,v1,v2,k0,k1,k2,kf⟩:=(hRB.grows ag).cells;have f0:=kf 0;have f1:=kf 1;have f2:=kf 2;have GW:=(HG0.out.tr ag).set3 (Nat.le_succ _) (.slice none 0 0) (.pointer none) (.slice none 0 0);clear kf CL q0 q1 q2 q3;go_wp2_with fail
  refine bodyPost_ret (v:=.tuple #[.pointer none,.agg #[.slice none 0 0,.pointer none,.slice none 0 0],.bool true]) (by simp[results,Tryz.results8,go_sem,k0,k1,k2]) rfl ?_
  exact⟨GW,_,_,_,_,_,_,_,_,rfl,.inl rfl⟩
 | true =>
  rw[hl]at CL;obtain⟨_,_,_,_,fc⟩:=jL hl;replace fc:xe.length<=300:=fc;obtain⟨ol,ij,jt⟩:=oL1 hl ky.out;have HB1:Hid (∀y∈xe,rZ y):=ol;have HLI:=Aa hl;have CI:=λ(W:World) (h:Grows W0 W)=>Aa (qQ ⟨xp,xd,xs,xe⟩ ⟨pa,pc,sa,sc,ea,ec⟩ W (HE.out.grows h) ky.out ij (HSA.out.grows h));have CR:=λ(W:World) (h:Grows W0 W)=>Aa (jT1 ⟨xp,xd,xs,xe⟩ ⟨pa,pc,sa,sc,ea,ec⟩ W ky.out hl (HSA.out.grows h));unfold kQ.agg kQ.cells cM at CI;unfold kQ.agg kQ.cells gE1 at CR;simp only at CI CR;obtain⟨SM,xq⟩:=exq (srcM ⟨xp,xd,xs,xe⟩);rw[<-xq]at CI CR;have HSM:=Aa xq;obtain⟨E,hE⟩:=exq (iL xp SM xe);rw[<-hE]at CR;have HME:=Aa hE;have HB2:Hid (∀y∈xe,y.r.size<=1099511627776/\y.s.size<=1099511627776):=ij;have aak:∀u:World,Grows W0 u->¬u.heap.size=w.heap.size+1:=λu hu=>by have:=hu.size;omega
  obtain⟨b,hb⟩:=exq (w.heap.size+1);have hwb:w.heap.size≠b:=by omega
  have hbw:w.heap.size<=b:=by omega
  have gp:b<W0.heap.size:=by omega
  rw[<-hb]at hRB aak;clear hl ol ij jt xq hb0;by_cases h0:E=0
  ·cases SM with
   | none =>
    rw[h0]at hE
    have:=(nV hE.symm).1
    unfold mL at this;split at this<;>cases this
   | some m =>
    subst h0;have HMK:Hid (iL xp (some m) xe=0):=hE.symm;have HDOK:=Aa (mC hE.symm);clear hE HME;go_enter Tryz.func8,Tryz.ntmps8
    go_wp2_with fail
    rw[<-bi,<-b9,<-hb];clear b9 bi di hb;refine CL.out.mono ?_;rintro e w1 ⟨rfl,ag⟩;have q0:=ag.cell HQ.out.1;have q1:=ag.cell HQ.out.2.1;have q2:=ag.cell HQ.out.2.2.1;have q3:=ag.cell HQ.out.2.2.2;clear CL;go_wp2_with fail
    refine(CR w1 ag).out.mono ?_;rintro e w3 ⟨aw,a0,n0,c0,q,a2,n2,c2,rfl,ed⟩;obtain⟨mm,xh,jd,jy,rb,a',c',x0,x1,x2,mo,rr,ut⟩:=ed (by first|trivial|rfl)
    cases xh
    obtain⟨rfl,rfl,rfl⟩:jd=a0/\xp.length=n0/\jy=c0:=(by cases x0;exact⟨rfl,rfl,rfl⟩);obtain rfl:some ⟨rb,0,none⟩=q:=(by cases x1;rfl);obtain⟨rfl,rfl,rfl⟩:a'=a2/\(sortS xe).length=n2/\c'=c2:=(by cases x2;exact⟨rfl,rfl,rfl⟩);clear x0 x1 x2;have jm:=Aa (cJ0 rr.ok fc HMK.out);have HMO:=Aa rr.ok;have HRD:Hid (eT1 w3 (.slice jd xp.length jy) (.pointer (some ⟨rb,0,none⟩)) (.slice a' (sortS xe).length c') xp m (sortS xe)):=⟨_,_,_,_,_,rfl,rfl,rfl,mo,rr,ut⟩;have HBU:Hid (nQ xp (some m) xe=(0,file14 (imgP xp m (sortS xe)))):=iH HMK.out jm.out
    have CI2:∀W,Grows W0 W->Hid (Calls Tryz.prog 10 #[.agg #[.slice pa xp.length pc,.int .i64 xd,.slice sa xs.length sc,.slice ea xe.length ec]] W λe w'=>Grows W w'/\∃v,e=.returned (.tuple #[v,.int .i64 0])/\aV w' W.heap.size 5 1 aX v (file14 (imgP xp m (sortS xe)))):=λW hW=>by
     have h:=CI W hW;rw[HBU.out]at h;exact h
    obtain⟨es,na⟩:=exq (sortS xe);have HES:=Aa na;have HEN:Hid (∀y∈es,rZ y):=λy hy=>HB1.out y (kR (by rw[<-HES.out];exact hy));rw[<-na]at jm HDOK HRD CI2 ⊢;have g3:=ag.tr aw;have gh:=aak w3 g3;obtain⟨V3,me⟩:=exq (w3.alloc (.cells #[.slice jd xp.length jy,.pointer (some ⟨rb,0,none⟩),.slice a' es.length c'] 32));have tj:Grows w3 V3:=by rw[me];exact Grows.alloc _ _
    have bx:=λj u h=>aT w3 #[.slice jd xp.length jy,.pointer (some ⟨rb,0,none⟩),.slice a' es.length c'] 32 (0,0) j u h;rw[<-me]at bx;obtain⟨b5,ju⟩:=exq w3.heap.size;rw[<-ju]at gh bx;have HBX:=Aa (And.intro (bx 0 _ rfl) (And.intro (bx 1 _ rfl) (bx 2 _ rfl)));have we:=g3.tr tj;have r0:=we.cell HQ.out.1;have r1:=we.cell HQ.out.2.1;have r2:=we.cell HQ.out.2.2.1;have r3:=we.cell HQ.out.2.2.2;rw[me]at r0 r1 r2 r3;clear CR CI HBU bx mo rr ut na;go_wp2_with fail
    rw[<-me,<-ju];clear me ju r0 r1 r2 r3 q0 q1 q2 q3;refine(CI2 V3 we).out.mono ?_;rintro e w4 ⟨bj,v4,rfl,jw⟩;obtain⟨b4,d4,rfl,zi,ou,iw⟩:=jw.at_ bI.len;have tp:=bQ jw;have g4:=we.tr bj;have CO:=Aa (uL xp m es b4 d4 w4 (HE.out.grows g4) HDOK.out HMO.out HEN.out jm.out zi ou tp iw);generalize (file14 (imgP xp m es)).length=FL at CO ⊢;clear jw zi ou tp iw CI2;go_wp2_with fail
    refine CO.out.mono ?_;rintro e w5 ⟨bg,db,rfl,hd5,ajn,kn⟩;have g5:=g4.tr bg;have gV5:=bj.tr bg;have HD5:=Aa hd5;have hdb:¬db=b:=by have:=g4.size;omega
    have HR5:=hRB.grows g5;have CLN:=λ(u:World) (hu:Grows w5 u)=>Aa (oQ xp m es db u (HD5.out.grows hu));have y2:∀y:Ext Grows w5.drew,y.u.cell? ⟨b5,2,none⟩=some (.slice a' es.length c'):=aB ((Grows.drew w5).cell (gV5.cell HBX.out.2.2));clear CO hd5;go_wp2_with fail
    refine bE (aU 14 []) (by kernel_rfl) (λd _ _ _ _ h=>by cases d<;>exact h) ?_
    iterate 8 (refine aG rfl (λK hK=>?_);go_simp;refine hK _ ?_;clear hK K)
    refine aG rfl (λK hK=>?_);go_simp;apply Exists.intro
    refine⟨λx=>?_,hK _ ?_⟩
    ·go_at_call 14;exact aY (CLN _ ((Grows.drew w5).tr x.h)).out
    clear hK K;iterate 5 (refine aG rfl (λK hK=>?_);go_simp;refine hK _ ?_;clear hK K)
    refine bH ?_;clear y2 CLN;have z0:∀y:Ext (GK b) w5.drew.drew,y.u.cell? ⟨b5,0,none⟩=some (.slice jd xp.length jy):=gR gh ((Grows.drew w5.drew).cell (gV5.dr.cell HBX.out.1));have z1:∀y:Ext (GK b) w5.drew.drew,y.u.cell? ⟨b5,1,none⟩=some (.pointer (some ⟨rb,0,none⟩)):=gR gh ((Grows.drew w5.drew).cell (gV5.dr.cell HBX.out.2.1));have z2:∀y:Ext (GK b) w5.drew.drew,y.u.cell? ⟨b5,2,none⟩=some (.slice a' es.length c'):=gR gh ((Grows.drew w5.drew).cell (gV5.dr.cell HBX.out.2.2));go_wp2_with fail
    refine iV (GK b) (aU 5 [3]) (GK.refl b) (GK.trans b) (by kernel_rfl) (by kernel_rfl) (λd _ _ _ _ h=>by cases d<;>exact h) ?_
    iterate 3 (refine aG rfl (λK hK=>?_);go_simp;refine hK _ ?_;clear hK K)
    obtain⟨v0,v1,v2,k0,k1,k2,kf⟩:=HR5.cells;have f0:=kf 0;have f1:=kf 1;have f2:=kf 2;clear z0 z1 z2 kf;refine aZ rfl rfl (λK hK=>?_);go_simp;refine⟨GK.set3 _ _ _ _ _,hK _ _ ?_⟩;clear hK K;iterate 1 (refine aG rfl (λK hK=>?_);go_simp;refine hK _ ?_;clear hK K)
    refine bH ?_;have GW:=((HG0.out.tr g5).set3 hbw (.slice jd xp.length jy) (.pointer (some ⟨rb,0,none⟩)) (.slice a' es.length c')).dr.dr;have RD:=HR5.rdat3 (a0:=jd) (n0:=xp.length) (c0:=jy) (u2:=.slice a' es.length c') (jD0.pt (some ⟨rb,0,none⟩)) (HRD.out.grows (tj.tr gV5));have DD:=HR5.dict3 (a0:=jd) (n0:=xp.length) (c0:=jy) (u2:=.slice a' es.length c') (jD0.pt (some ⟨rb,0,none⟩)) HD5.out hdb;have DL:=(ajn.out3 HD5.out hdb (.slice jd xp.length jy) (.pointer (some ⟨rb,0,none⟩)) (.slice a' es.length c')).mono (HG0.out.tr g4).size;have gdd:∀u:World,Grows u u.drew.drew:=λu=>(Grows.drew u).tr (Grows.drew u.drew);replace DL:=DL.grows DD (gdd _);replace DD:=DD.grows (gdd _);replace RD:=RD.grows (gdd _);clear f0 f1 f2;go_wp2_with fail
    refine bodyPost_ret (v:=.tuple #[.pointer (some ⟨db,0,none⟩),.agg #[.slice jd xp.length jy,.pointer (some ⟨rb,0,none⟩),.slice a' es.length c'],.bool true]) (by simp[results,Tryz.results8,go_sem,k0,k1,k2]) rfl ?_
    have na:=HES.out;subst na;exact⟨GW,_,_,_,_,_,_,_,_,rfl,.inr ⟨db,m,rfl,HLI.out,HSM.out.symm,HMK.out,DD,DL,RD⟩⟩
  ·have hEb:(E != 0)=true:=by simpa using h0
   have HBU:=xB0 (p:=xp) (m:=SM) (l:=xe) (by rw[<-hE];exact h0)
   have CI2:∀W,Grows W0 W->Hid (Calls Tryz.prog 10 #[.agg #[.slice pa xp.length pc,.int .i64 xd,.slice sa xs.length sc,.slice ea xe.length ec]] W λe w'=>Grows W w'/\∃v,e=.returned (.tuple #[v,.int .i64 E])):=λW hW=>by
    have h:=CI W hW;rw[HBU,<-hE]at h;exact h.out.mono λe w' ⟨h1,v,h2,_⟩=>⟨h1,v,h2⟩
   clear HBU hE CI;go_enter Tryz.func8,Tryz.ntmps8
   go_wp2_with fail
   rw[<-bi,<-b9,<-hb];clear b9 bi di hb;refine CL.out.mono ?_;rintro e w1 ⟨rfl,ag⟩;have q0:=ag.cell HQ.out.1;have q1:=ag.cell HQ.out.2.1;have q2:=ag.cell HQ.out.2.2.1;have q3:=ag.cell HQ.out.2.2.2;clear CL;go_wp2_with fail
   refine(CR w1 ag).out.mono ?_;rintro e w3 ⟨aw,a0,n0,c0,q,a2,n2,c2,rfl,ed⟩;have g3:=ag.tr aw;have gh:=aak w3 g3;obtain⟨V3,me⟩:=exq (w3.alloc (.cells #[.slice a0 n0 c0,.pointer q,.slice a2 n2 c2] 32));have tj:Grows w3 V3:=by rw[me];exact Grows.alloc _ _
   have bx:=λj u h=>aT w3 #[.slice a0 n0 c0,.pointer q,.slice a2 n2 c2] 32 (0,0) j u h;rw[<-me]at bx;obtain⟨b5,ju⟩:=exq w3.heap.size;rw[<-ju]at gh bx;have HBX:=Aa (And.intro (bx 0 _ rfl) (And.intro (bx 1 _ rfl) (bx 2 _ rfl)));have we:=g3.tr tj;have r0:=we.cell HQ.out.1;have r1:=we.cell HQ.out.2.1;have r2:=we.cell HQ.out.2.2.1;have r3:=we.cell HQ.out.2.2.2;rw[me]at r0 r1 r2 r3;clear CR bx ed;go_wp2_with fail
   rw[<-me,<-ju];clear me ju r0 r1 r2 r3 q0 q1 q2 q3;refine(CI2 V3 we).out.mono ?_;rintro e w4 ⟨bj,v4,rfl⟩;have g4:=we.tr bj;have HRB:=hRB.grows g4;have z0:∀y:Ext (GK b) w4.drew,y.u.cell? ⟨b5,0,none⟩=some (.slice a0 n0 c0):=gR gh ((Grows.drew w4).cell (bj.cell HBX.out.1));have z1:∀y:Ext (GK b) w4.drew,y.u.cell? ⟨b5,1,none⟩=some (.pointer q):=gR gh ((Grows.drew w4).cell (bj.cell HBX.out.2.1));have z2:∀y:Ext (GK b) w4.drew,y.u.cell? ⟨b5,2,none⟩=some (.slice a2 n2 c2):=gR gh ((Grows.drew w4).cell (bj.cell HBX.out.2.2));clear CI2;go_wp2_with fail
   refine iV (GK b) (aU 7 [5]) (GK.refl b) (GK.trans b) (by kernel_rfl) (by kernel_rfl) (λd _ _ _ _ h=>by cases d<;>exact h) ?_
   iterate 5 (refine aG rfl (λK hK=>?_);go_simp;refine hK _ ?_;clear hK K)
   obtain⟨v0,v1,v2,k0,k1,k2,kf⟩:=HRB.cells;have f0:=kf 0;have f1:=kf 1;have f2:=kf 2;clear z0 z1 z2 kf;refine aZ rfl rfl (λK hK=>?_);go_simp;refine⟨GK.set3 _ _ _ _ _,hK _ _ ?_⟩;clear hK K;iterate 1 (refine aG rfl (λK hK=>?_);go_simp;refine hK _ ?_;clear hK K)
   refine bH ?_;have GW:=((HG0.out.tr g4).set3 hbw (.slice a0 n0 c0) (.pointer q) (.slice a2 n2 c2)).dr;clear f0 f1 f2;go_wp2_with fail
   refine bodyPost_ret (v:=.tuple #[.pointer none,.agg #[.slice a0 n0 c0,.pointer q,.slice a2 n2 c2],.bool true]) (by simp[results,Tryz.results8,go_sem,k0,k1,k2]) rfl ?_
   exact⟨GW,_,_,_,_,_,_,_,_,rfl,.inl rfl⟩
theorem OkL.below_range {L:List (List UInt8)} (h:OkL L) {p:List UInt8} (hn:gA L p≠[]):∃a b,a<b/\b<=L.length/\gA L p=As a (b-a):=by
 by_cases hi:∃i,fR L p i
 ·obtain⟨i,x,hx,rfl⟩:=hi
  have he:=h.below_node hx
  have ae:x.i<x.t:=by
   apply Ac
   intro hc;rw[he,show x.t-x.i=0 by omega]at hn
   exact hn rfl
  refine⟨x.i,x.t,ae,?_,he⟩
  have hm:x.t-1∈gA L (spanS L x):=by
   rw[he,List.mem_range'_1];omega
  unfold gA at hm
  have:=List.mem_range.1 (List.mem_filter.1 hm).1
  omega
 ·exact absurd (h.below_none λi hq=>hi ⟨i,hq⟩) hn
theorem fU (p:List cH) (m:Mx) (es:List En) (db:Nat) (s:ByteArray) (ep:Int) (w:World) (ah:bP p m es) (hs:s.size<=140737488355328) (ac:cB w db p m es) :
  Calls Tryz.prog 13 #[.pointer (some ⟨db,0,none⟩),.string s,.int .i64 ep] w λe w'=>∃v,e=.returned v/\aV w' w.heap.size 52 5 aQ v (underL es s ep)/\Grows w w':=by
 by_cases h1:ep<1
 ·have he:underL es s ep=[]:=by
   unfold underL;rw[show ep.toNat=0 by omega,List.take_zero]
  rw[he];clear ah ac;go_enter Tryz.func13,Tryz.ntmps13
  go_wp2_with fail
  go_ret;exact⟨_,rfl,aV.nil _ _ _ _ _,Grows.refl _⟩
 ·obtain⟨M,rfl⟩:∃M:Nat,ep=M:=⟨ep.toNat,by omega⟩
  have hM:0<M:=by omega
  obtain⟨okR,lR,cR⟩:=dO ah.rd;obtain⟨tr,r1,r2⟩:=ac.r;have CF:=Aa (xX0 (bls (readL es)) tr s (M:Int) w okR lR cR (by omega) r2);rw[Int.toNat_natCast]at CF;by_cases hB:gA (bls (readL es)) (bl s)=[]
  ·rw[bK1 hB]
   rw[hB,List.take_nil]at CF;clear ac ah okR lR cR r2 hB hM;go_enter Tryz.func13,Tryz.ntmps13
   go_wp2_with fail
   refine CF.out.mono ?_;rintro e w1 ⟨v1,rfl,fy,ag⟩;obtain⟨a1,c1,rfl,_,_,_⟩:=fy.at_ pB.len;go_wp2_with fail
   go_ret;exact⟨_,rfl,aV.nil _ _ _ _ _,ag⟩
  ·obtain⟨a,b,fi,gp,hBe⟩:=okR.below_range hB
   rw[cK]at gp;rw[hBe,sN]at CF;have hU:=uO0 ah.srt (m:=M) hM fi gp hBe;obtain⟨k,hk⟩:=exq (min M (b-a));have j8:0<k:=by omega
   have hn:=ah.len;rw[<-hk]at CF hU;obtain⟨R1,R2,ia,ahj⟩:=ah.rows j8 (show a+k<=(readL es).length by omega)
   obtain⟨pf,f1,f2⟩:=ac.f
   have ql:(gT rS es es.length).length<=20000:=by
    rw[cK]at lR;rw[ah.first,iN]
    exact lR
   generalize (grpsL (keyRE (readL es) es) es.length a).length=A0 at R1 hU ia;generalize (grpsL (keyRE (readL es) es) es.length (a+k)).length=E1 at R2 hU ia ahj;generalize (grpsL (keyRE (readL es) es) es.length (a+1)).length=A1 at R1;generalize (grpsL (keyRE (readL es) es) es.length (a+k-1)).length=E0 at R2;obtain⟨T,hT⟩:=exq (min (E1-A0) M+A0);rw[<-hT]at hU;rw[aT0 es (by omega)]at hU;have CLN:=λ(u:World) (hu:Grows w u)=>Aa (oQ p m es db u (ac.grows hu));have C1:=λ(u:World) (hu:Grows w u)=>Aa (zQ (gT rS es es.length) pf es.length a A0 A1 u (by omega) (λn h=>by have:=iX h;omega) R1 (f2.grows hu));have C2:=λ(u:World) (hu:Grows w u)=>Aa (zQ (gT rS es es.length) pf es.length (a+k-1) E0 E1 u (by omega) (λn h=>by have:=iX h;omega) R2 (f2.grows hu));have CI:=λ(u:World) (b1 b2:Nat) (hu:Grows w u) h1 h2=>Aa (dE0 p m es db A0 T b1 b2 u ah (ac.grows hu) (by omega) (by omega) h1 h2);rw[hU]at CI;obtain⟨N,hN⟩:=exq es.length;rw[<-hN]at CLN C1 C2;have ek:(As a k).length=k:=by simp
   obtain⟨IDS,ac1⟩:=exq (As a k);rw[<-ac1]at CF ek
   have HG1:Hid (IDS[0]?=some a):=by
    show _=_
    rw[ac1,Ak j8];simp
   have HG2:Hid (IDS[k-1]?=some (a+k-1)):=by
    show _=_
    rw[ac1,Ak (by omega)];simp;omega
   have hx:min ((E1:Int)-A0) M+A0=T:=by omega
   obtain⟨L9,hL9⟩:∃q:Nat,q=a+k-1:=⟨_,rfl⟩;rw[<-hL9]at C2 HG2;have lR2:=lR;rw[cK]at lR2
   have wk:IntKind.i64.wrap ((k:Int)-1)=(k-1:Nat):=by
    rw[show (k:Int)-1=((k-1:Nat):Int) by omega]
    exact mF1 (by omega)
   have wd:IntKind.i64.wrap ((E1:Int)-A0)=(E1:Int)-A0:=by
    rw[show (E1:Int)-A0=((E1-A0:Nat):Int) by omega]
    exact mF1 (by omega)
   have wt:IntKind.i64.wrap (min ((E1:Int)-A0) M+A0)=T:=by rw[hx];exact mF1 (by omega)
   have lh:k-1<k:=by omega
   have fj:0<IDS.length:=by omega
   clear ac ah okR lR lR2 cR r2 hB hBe hU ac1 hN hT hx hL9 R1 R2 ia ahj ql f2 gp fi hk;go_enter Tryz.func13,Tryz.ntmps13
   go_wp2_with fail
   refine CF.out.mono ?_;rintro e w1 ⟨v1,rfl,fy,ag⟩;obtain⟨a1,c1,rfl,_,_,da⟩:=fy.at_ pB.len;obtain⟨ba,oa,rfl,be⟩:=da.get (aH fj);rw[ek];have e0:∀y:Ext Grows w1.drew,y.u.cell? ⟨ba,oa,none⟩=some (.int .i64 a):=aB ((Grows.drew w1).cell (be 0 _ HG1.out 0 _ rfl));have HE1:=Aa (be (k-1) _ HG2.out 0 _ rfl);have z0:∀y:Ext Grows w1.drew,y.u.cell? ⟨db,4,none⟩=some (.pointer (some ⟨pf,0,none⟩)):=aB (ag.dr.cell f1);have jo:¬(k:Int)=0:=by omega
   clear fy da be HG1 HG2 CF;go_wp2_with fail
   refine bE (aU 15 [9]) (by kernel_rfl) (λd _ _ _ _ h=>by cases d<;>exact h) ?_
   iterate 8 (refine aG rfl (λK hK=>?_);go_simp;refine hK _ ?_;clear hK K)
   refine aG rfl (λK hK=>?_);go_simp;apply Exists.intro
   refine⟨λx=>?_,hK _ ?_⟩
   ·go_at_call 14;exact aY (CLN _ (ag.dr.tr x.h)).out
   clear hK K;clear e0 z0;refine aZ rfl rfl (λK hK=>?_);go_simp;refine((C1 w1.drew ag.dr).out).mono ?_;rintro e w2 ⟨rfl,af⟩;refine⟨af,hK _ _ ?_⟩;clear hK K;iterate 5 (refine aG rfl (λK hK=>?_);go_simp;refine hK _ ?_;clear hK K)
   refine bH ?_;have g2:=ag.dr.tr af
   have e1:∀y:Ext Grows w2.drew,y.u.cell? ⟨ba,oa+(k-1),none⟩=some (.int .i64 L9):=by
    have h:=HE1.out;rw[Nat.mul_one,Nat.add_zero]at h;exact aB (((Grows.drew w1).tr (af.dr)).cell h)
   have z0:∀y:Ext Grows w2.drew,y.u.cell? ⟨db,4,none⟩=some (.pointer (some ⟨pf,0,none⟩)):=aB (g2.dr.cell f1);clear HE1 C1;go_wp2_with fail
   refine bE (aU 18 [12]) (by kernel_rfl) (λd _ _ _ _ h=>by cases d<;>exact h) ?_
   iterate 11 (refine aG rfl (λK hK=>?_);go_simp;refine hK _ ?_;clear hK K)
   refine aG rfl (λK hK=>?_);go_simp;apply Exists.intro
   refine⟨λx=>?_,hK _ ?_⟩
   ·go_at_call 14;exact aY (CLN _ (g2.dr.tr x.h)).out
   clear hK K;clear e1 z0 CLN;refine aZ rfl rfl (λK hK=>?_);go_simp;refine((C2 w2.drew g2.dr).out).mono ?_;rintro e w3 ⟨rfl,aw⟩;refine⟨aw,hK _ _ ?_⟩;clear hK K;iterate 5 (refine aG rfl (λK hK=>?_);go_simp;refine hK _ ?_;clear hK K)
   refine bH ?_;have g3:=g2.dr.tr aw;clear C2;go_wp2_with fail
   refine(iJ0 (A0:Int) (T:Int) w3).mono ?_;rintro e w4 ⟨rfl,hw4⟩;have bj:Grows w3 w4:=by rw[hw4];exact(Grows.alloc _ _).al _
   have c1:w4.cell? ⟨w3.heap.size,0,none⟩=some (.int .i64 A0):=kI (cs:=#[.int .i64 A0]) (t:=3) (by rw[hw4];exact Grows.alloc _ _) rfl 0 _ rfl
   have c2:w4.cell? ⟨w3.heap.size+1,0,none⟩=some (.int .i64 T):=by
    have:=kI (w:=w3.alloc (.cells #[.int .i64 A0] 3)) (w':=w4) (cs:=#[.int .i64 T]) (t:=3) (by rw[hw4];exact Grows.refl _) rfl 0 _ rfl
    rwa [Ag]at this
   have g4:=g3.tr bj;have CI2:=CI w4 _ _ g4 c1 c2;clear CI hw4 c1 c2;go_wp2_with fail
   refine CI2.out.mono ?_;rintro e w5 ⟨v,rfl,hv,bg⟩;go_wp2_with fail
   go_ret;exact⟨v,rfl,hv.base g4.size,g4.tr bg⟩
def nL0 (l:List En):ByteArray:=l.foldl (λa x=>a++x.s) ⟨#[]⟩
theorem cE1 {l:List En} {k:Nat} {x:En} (h:l[k]?=some x):nL0 (l.take (k+1))=nL0 (l.take k)++x.s:=by
 unfold nL0;rw[bN h,List.foldl_append];rfl
theorem cV1 (l:List En) (a:Option Addr) (c:Nat) (w:World) (hl:l.length<=1000) (hz:∀x∈l,x.s.size<=1000) (ac:aF w a 5 (l.map aQ)) :
  Calls Tryz.prog 30 #[.slice a l.length c] w λe w'=>e=.returned (.string (nL0 l))/\Grows w w':=by
 have HAT:=Aa ac;have HZ:=Aa hz;clear ac hz;go_enter Tryz.func30,Tryz.ntmps30
 go_wp2_with fail
 go_loopw [3,8] (λv i wr=>∃(k:Nat) (s:ByteArray),k<=l.length/\i=.int .i64 k/\v=.string s/\Hid (s=nL0 (l.take k)/\s.size<=k*1000)/\Hid (Grows w wr)) (λ_ i _=>l.length-(intOf i).toNat)
 case atStart=>exact⟨0,⟨#[]⟩,Al _,rfl,rfl,⟨rfl,Al _⟩,Grows.refl _⟩
 case round =>
  obtain⟨k,s,hk,rfl,rfl,hs,hg⟩:=hrel;by_cases ae:k<l.length
  ·obtain⟨⟨xr,xs,xl,xt,xc⟩,hx⟩:∃x,l[k]?=some x:=⟨_,Ad ae⟩
   obtain⟨ba,oa,rfl,be⟩:=(HAT.out.grows hg.out).get (aH ae);have c0:wr.cell? ⟨ba,oa+k*5,none⟩=some (.string xr):=be k _ hx 0 _ rfl;have c1:wr.cell? ⟨ba,oa+k*5+1,none⟩=some (.string xs):=be k _ hx 1 _ rfl;have c2:wr.cell? ⟨ba,oa+k*5+2,none⟩=some (.int .i64 xl):=be k _ hx 2 _ rfl;have c3:wr.cell? ⟨ba,oa+k*5+3,none⟩=some (.int .i64 xt):=be k _ hx 3 _ rfl;have c4:wr.cell? ⟨ba,oa+k*5+4,none⟩=some (.int .i64 xc):=be k _ hx 4 _ rfl;have cy:(k:Int)<l.length:=by omega
   have hxs:xs.size<=1000:=HZ.out _ (List.mem_of_getElem? hx);have di:=hs.out.2;have aln:=λ(W:World)=>run_string_add_sum (P:=Tryz.prog) W s xs (by omega)
   have HT:Hid (s++xs=nL0 (l.take (k+1))/\(s++xs).size<=(k+1)*1000):=by
    refine⟨by rw[cE1 hx,hs.out.1],?_⟩;rw[ByteArray.size_append];omega
   have g2:Grows w _:=hg.out.tr (Grows.alloc wr (.cells #[.string xr,.string xs,.int .i64 xl,.int .i64 xt,.int .i64 xc] 52));clear be hx hs;go_wp2_with fail
   go_roundw
   case rel=>exact⟨k+1,_,ae,by go_num,rfl,HT,g2⟩
   case measure=>simp[intOf];omega
  ·obtain rfl:k=l.length:=by omega
   have ei:=hs.out.1;rw[Ap]at ei;subst ei;go_wp2_with fail
   go_ret;exact⟨rfl,hg.out⟩
theorem fX0 (x:zB) (A:kQ) (m:Mx) (w:World) (he:Env w) (ah:sO x) (hl:pY x=true) (hm:srcM x=some m) (hmo:m.OK) (ke:iL x.p (some m) x.e=0) (ac:mV w A x) :
  Calls Tryz.prog 27 #[A.agg x] w λe w'=>∃db,e=.returned (.pointer (some ⟨db,0,none⟩))/\cB w' db x.p m (sortS x.e)/\Grows w w':=by
 obtain⟨_,_,_,_,fc⟩:=jL hl;obtain⟨ol,ij,jt⟩:=oL1 hl ah;have jm:=cJ0 hmo fc ke;have sn:=iH ke jm;have hdk:=mC ke;obtain⟨pa,pc,sa,sc,ea,ec⟩:=A;obtain⟨xp,xd,xs,xe⟩:=x;obtain⟨W1,bi⟩:=exq (w.alloc (.cells #[.slice pa xp.length pc,.int .i64 xd,.slice sa xs.length sc,.slice ea xe.length ec] 26));have ag:Grows w W1:=by rw[bi];exact Grows.alloc _ _
 obtain⟨bc,_⟩:=bK (show Grows (w.alloc (.cells #[.slice pa xp.length pc,.int .i64 xd,.slice sa xs.length sc,.slice ea xe.length ec] 26)) W1 by rw[bi];exact Grows.refl _)
 have q0:=bc 0 _ rfl;have q1:=bc 1 _ rfl;have q2:=bc 2 _ rfl;have q3:=bc 3 _ rfl;have CI:=Aa (qQ ⟨xp,xd,xs,xe⟩ ⟨pa,pc,sa,sc,ea,ec⟩ W1 (he.grows ag) ah ij (ac.grows ag));unfold kQ.agg kQ.cells cM at CI;simp only at CI;rw[hm]at CI;simp only at sn;rw[sn]at CI;have CO:=λ(b4:Option Addr) (d4:Nat) (u:World) (hu:Grows w u) h1 h2 h3 h4=>Aa (uL xp m (sortS xe) b4 d4 u (he.grows hu) hdk hmo (λy hy=>ol y (kR hy)) jm h1 h2 h3 h4);show Calls _ _ #[.agg #[.slice pa xp.length pc,.int .i64 xd,.slice sa xs.length sc,.slice ea xe.length ec]] _ (λe w'=>∃db,e=.returned (.pointer (some ⟨db,0,none⟩))/\cB w' db xp m (sortS xe)/\Grows w w')
 generalize sortS xe=es at CI CO ⊢;clear he ah hl hm hmo ke ac ol ij jt jm sn hdk bc fc;go_enter Tryz.func27,Tryz.ntmps27
 go_wp2_with fail
 rw[<-bi];clear bi;refine CI.out.mono ?_;rintro e w2 ⟨af,v2,rfl,ii⟩;have vv:aV w2 W1.heap.size 5 1 aX v2 (file14 (imgP xp m es)):=ii;obtain⟨b4,d4,rfl,zi,ou,iw⟩:=vv.at_ bI.len;have tp:=bQ vv;have g2:=ag.tr af;have CO2:=CO b4 d4 w2 g2 zi ou tp iw;generalize (file14 (imgP xp m es)).length=FL at CO2 ⊢;clear ii vv zi ou tp iw CI CO q0 q1 q2 q3;go_wp2_with fail
 refine CO2.out.mono ?_;rintro e w3 ⟨aw,db,rfl,m6,_,_⟩;go_wp2_with fail
 go_ret;exact⟨db,rfl,m6,g2.tr aw⟩
theorem oF {l:List En} {v:Value} {w:World} {B:Nat} (s:ByteArray) (hO:aV w B 52 5 aQ v l) (hl:l.length<=1000) (hz:∀x∈l,x.s.size<=1000) (hs:nL0 l=s):Calls Tryz.prog 30 #[v] w λe w'=>e=.returned (.string s)/\Grows w w':=by
 obtain⟨a,c,rfl,_,_,ac⟩:=hO.at_ dT.len;have h:=cV1 l a c w hl hz ac;rw[hs]at h;exact h
def kA:ByteArray:=⟨#[227,129,139]⟩
def kB:ByteArray:=⟨#[227,129,139,227,129,141,227,129,143]⟩
def kC:ByteArray:=⟨#[230,159,191,227,129,174,230,156,168]⟩
theorem oA0:nL0 (exactL cX kA)=⟨#[231,167,145,232,154,138]⟩/\(exactL cX kA).length<=1000/\∀x∈exactL cX kA,x.s.size<=1000:=by decide +kernel
theorem qU0:nL0 (prefL cX kB)=⟨#[231,167,145,232,154,138,230,159,191]⟩/\(prefL cX kB).length<=1000/\∀x∈prefL cX kB,x.s.size<=1000:=by decide +kernel
theorem pW0:nL0 (underL cX kA 2)=⟨#[231,167,145,232,154,138]⟩/\(underL cX kA 2).length<=1000/\∀x∈underL cX kA 2,x.s.size<=1000:=by decide +kernel
theorem oT0:nL0 (writesL cX kC)=⟨#[230,159,191]⟩/\(writesL cX kC).length<=1000/\∀x∈writesL cX kC,x.s.size<=1000:=by decide +kernel
theorem eD:bP eH eU cX:=mC pK
theorem qT:pY sZ=true:=by decide +kernel
theorem iF1:cX.length=3:=by decide +kernel
theorem oZ1:eU.cost (1,0)=10:=by decide +kernel
theorem lJ (w:World) (he:Env w):Calls Tryz.prog 9 #[] w λe w'=>e=.returned (.bool true)/\Grows w w':=by
 have HE:=Aa he;have HOP:=λ(A:kQ) (u:World) (hu:Grows w u) (ac:mV u A sZ)=>Aa (fX0 sZ A eU u (HE.out.grows hu) rD qT iV0 oH0 pK ac);have C0:=λ(db:Nat) (u:World) (hd:cB u db eH eU cX)=>Aa (oQ eH eU cX db u hd);have C1:=λ(db:Nat) (u:World) (hd:cB u db eH eU cX)=>Aa (nS eH eU cX db kA u eD (by decide) hd);have C2:=λ(db:Nat) (u:World) (hd:cB u db eH eU cX)=>Aa (iR eH eU cX db kB u eD (by decide) hd);have C3:=λ(db:Nat) (u:World) (hd:cB u db eH eU cX)=>Aa (fU eH eU cX db kA 2 u eD (by decide) hd);have C4:=λ(db:Nat) (u:World) (hd:cB u db eH eU cX)=>Aa (oC eH eU cX db kC u eD (by decide) hd);have C5:=λ(db:Nat) (u:World) (hd:cB u db eH eU cX)=>Aa (bK0 eH eU cX db 1 0 u hd);rw[iF1]at C0;rw[oZ1]at C5;clear he;go_enter Tryz.func9,Tryz.ntmps9
 go_wp2_with fail
 refine(oU w).mono ?_;rintro e w1 ⟨A,rfl,hA,ag⟩;have HO:=HOP A w1 ag hA;clear HOP hA;go_wp2_with fail
 refine HO.out.mono ?_;rintro e w2 ⟨db,rfl,hd,af⟩;have g2:=ag.tr af;have HD:=Aa (show cB w2 db eH eU cX from hd)
 clear hd HO ag af;have CC:=C0 db w2 HD.out;go_wp2_with fail
 refine CC.out.mono ?_;rintro e w3 ⟨rfl,rfl⟩;clear C0 CC;have CC:=C1 db w2 HD.out;go_wp2_with fail
 refine CC.out.mono ?_;rintro e w3 ⟨v3,rfl,ja,aw⟩;have CW:=Aa (oF _ ja oA0.2.1 oA0.2.2 oA0.1);clear C1 CC ja;go_wp2_with fail
 refine CW.out.mono ?_;rintro e w4 ⟨rfl,bj⟩;have g4:=aw.tr bj;clear CW aw bj;have CC:=C2 db w4 (HD.out.grows g4);go_wp2_with fail
 refine CC.out.mono ?_;rintro e w5 ⟨v5,rfl,hv5,bg⟩;have CW:=Aa (oF _ hv5 qU0.2.1 qU0.2.2 qU0.1);clear C2 CC hv5;go_wp2_with fail
 refine CW.out.mono ?_;rintro e w6 ⟨rfl,cg⟩;have g6:=g4.tr (bg.tr cg);clear CW bg cg g4;have CC:=C3 db w6 (HD.out.grows g6);go_wp2_with fail
 refine CC.out.mono ?_;rintro e w7 ⟨v7,rfl,hv7,cw⟩;have CW:=Aa (oF _ hv7 pW0.2.1 pW0.2.2 pW0.1);clear C3 CC hv7;go_wp2_with fail
 refine CW.out.mono ?_;rintro e w8 ⟨rfl,fq⟩;have g8:=g6.tr (cw.tr fq);clear CW cw fq g6;have CC:=C4 db w8 (HD.out.grows g8);go_wp2_with fail
 refine CC.out.mono ?_;rintro e w9 ⟨v9,rfl,hv9,dz⟩;have CW:=Aa (oF _ hv9 oT0.2.1 oT0.2.2 oT0.1);clear C4 CC hv9;go_wp2_with fail
 refine CW.out.mono ?_;rintro e x1 ⟨rfl,ji⟩;have gx:=g8.tr (dz.tr ji);clear CW dz ji g8;have CC:=C5 db x1 (HD.out.grows gx);go_wp2_with fail
 refine CC.out.mono ?_;rintro e x2 ⟨rfl,rfl⟩;go_wp2_with fail
 go_ret;exact⟨rfl,g2.tr gx⟩
theorem fK1 {l:List En} {k:Nat} {x y:En} (h:l[k]?=some y):cntE (l.take (k+1)) x=cntE (l.take k) x+tru (decide (y=x)):=by
 unfold cntE tru;rw[bN h,List.filter_append,Ae];by_cases e:y=x<;>simp[e]
theorem mW0 (b:Bool):tru b<=1:=by cases b<;>decide
theorem rO1 {p q r s t:Prop} (h:¬(p/\q/\r/\s/\t)):¬p\/(p/\¬q)\/(p/\q/\¬r)\/(p/\q/\r/\¬s)\/(p/\q/\r/\s/\¬t):=by
 by_cases p<;>by_cases q<;>by_cases r<;>by_cases s<;>by_cases t<;>simp_all
theorem iA (l:List En) (x:En) (a:Option Addr) (c:Nat) (w:World) (hl:l.length<=140737488355328) (ac:aF w a 5 (l.map aQ)) :
  Calls Tryz.prog 23 #[.slice a l.length c,x.agg] w λe w'=>e=.returned (.int .i64 (cntE l x:Nat))/\Grows w w':=by
 obtain⟨yr,ys,yl,yt,yc⟩:=x;have HAT:=Aa ac;unfold En.agg;obtain⟨W0,b9⟩:=exq (w.alloc (.cells #[.string yr,.string ys,.int .i64 yl,.int .i64 yt,.int .i64 yc] 52));have cp:Grows w W0:=by rw[b9];exact Grows.alloc _ _
 obtain⟨eb,dh⟩:=exq w.heap.size;have bx:=λj u h=>aT w #[.string yr,.string ys,.int .i64 yl,.int .i64 yt,.int .i64 yc] 52 (0,0) j u h;rw[<-b9,<-dh]at bx;have HX:=Aa (And.intro (bx 0 _ rfl) (And.intro (bx 1 _ rfl) (And.intro (bx 2 _ rfl) (And.intro (bx 3 _ rfl) (bx 4 _ rfl)))));have HG0:=Aa cp;clear ac bx cp;go_enter Tryz.func23,Tryz.ntmps23
 go_wp2_with fail
 rw[<-b9,<-dh];clear b9 dh;go_loopw [5,10] (λv i wr=>∃(k n:Nat),k<=l.length/\i=.int .i64 k/\v=.int .i64 n/\Hid (n=cntE (l.take k) ⟨yr,ys,yl,yt,yc⟩/\n<=k)/\Hid (Grows W0 wr)) (λ_ i _=>l.length-(intOf i).toNat)
 case atStart=>exact⟨0,0,Al _,rfl,rfl,⟨rfl,Al _⟩,Grows.refl _⟩
 case round =>
  obtain⟨k,n,hk,rfl,rfl,hn,hg⟩:=hrel;obtain⟨u0,rfl⟩:=exq wr;by_cases ae:k<l.length
  ·obtain⟨⟨xr,xs,xl,xt,xc⟩,hx⟩:∃x,l[k]?=some x:=⟨_,Ad ae⟩
   obtain⟨ba,oa,rfl,be⟩:=(HAT.out.grows (HG0.out.tr hg.out)).get (aH ae);have c0:u0.cell? ⟨ba,oa+k*5,none⟩=some (.string xr):=be k _ hx 0 _ rfl;have c1:u0.cell? ⟨ba,oa+k*5+1,none⟩=some (.string xs):=be k _ hx 1 _ rfl;have c2:u0.cell? ⟨ba,oa+k*5+2,none⟩=some (.int .i64 xl):=be k _ hx 2 _ rfl;have c3:u0.cell? ⟨ba,oa+k*5+3,none⟩=some (.int .i64 xt):=be k _ hx 3 _ rfl;have c4:u0.cell? ⟨ba,oa+k*5+4,none⟩=some (.int .i64 xc):=be k _ hx 4 _ rfl;have g2:Grows W0 _:=hg.out.tr (Grows.alloc u0 (.cells #[.string xr,.string xs,.int .i64 xl,.int .i64 xt,.int .i64 xc] 52));have d0:=g2.cell HX.out.1;have d1:=g2.cell HX.out.2.1;have d2:=g2.cell HX.out.2.2.1;have d3:=g2.cell HX.out.2.2.2.1;have d4:=g2.cell HX.out.2.2.2.2;have cy:(k:Int)<l.length:=by omega
   have hnk:=hn.out.2;have ei:=fK1 (x:=⟨yr,ys,yl,yt,yc⟩) hx;rw[<-hn.out.1]at ei;have wn:IntKind.i64.wrap ((n:Int)+1)=(n+1:Nat):=by rw[show (n:Int)+1=(n+1:Nat) by omega];exact cT (by omega)
   by_cases p8:(⟨xr,xs,xl,xt,xc⟩:En)=⟨yr,ys,yl,yt,yc⟩
   ·have HS:Hid (n+1=cntE (l.take (k+1)) ⟨yr,ys,yl,yt,yc⟩/\n+1<=k+1):=⟨by rw[ei,p8];simp[tru],by omega⟩
    have HG2:=Aa g2;obtain⟨rfl,rfl,rfl,rfl,rfl⟩:xr=yr/\xs=ys/\xl=yl/\xt=yt/\xc=yc:=by simpa using p8
    clear be hx hn ei p8 g2;go_wp2_with fail
    go_roundw
    case rel=>exact⟨k+1,n+1,ae,by go_num,by go_num,HS,HG2⟩
    case measure=>simp[intOf];omega
   ·have HS:Hid (n=cntE (l.take (k+1)) ⟨yr,ys,yl,yt,yc⟩/\n<=k+1):=⟨by rw[ei];simp[tru,p8],by omega⟩
    have HG2:=Aa g2;have h5:¬(xr.toList=yr.toList/\xs.toList=ys.toList/\xl=yl/\xt=yt/\xc=yc):=λ⟨h1,h2,h3,h4,h5⟩=>p8 (by rw[dV h1,dV h2,h3,h4,h5]);have hk6:=rO1 h5;clear be hx hn ei p8 g2 h5;rcases hk6 with f1|⟨f1,f2⟩|⟨f1,f2,f3⟩|⟨f1,f2,rfl,f4⟩|⟨f1,f2,rfl,rfl,f5⟩ <;>
    ·go_wp2_with fail
     go_roundw
     case rel=>exact⟨k+1,n,ae,by go_num,rfl,HS,HG2⟩
     case measure=>simp[intOf];omega
  ·obtain rfl:k=l.length:=by omega
   have fk:=hn.out.1;rw[Ap]at fk;subst fk;go_wp2_with fail
   go_ret;exact⟨rfl,HG0.out.tr hg.out⟩
theorem qZ0 (b:Bool) (w:World):Calls Tryz.prog 24 #[.bool b] w λe w'=>e=.returned (.int .i64 (tru b:Nat))/\w=w':=by
 cases b
 ·go_enter Tryz.func24,Tryz.ntmps24
  go_wp2_with fail
  go_ret;exact⟨rfl,rfl⟩
 ·go_enter Tryz.func24,Tryz.ntmps24
  go_wp2_with fail
  go_ret;exact⟨rfl,rfl⟩
theorem qJ (s p:ByteArray) (w:World) (_hs:s.size<=140737488355328) (hp:p.size<=140737488355328):Calls Tryz.prog 25 #[.string s,.string p] w λe w'=>e=.returned (.bool (begB s p))/\w=w':=by
 by_cases ae:p.size<=s.size
 ·have h1:(p.size:Int)<=s.size:=by omega
  have hcq:s.extract 0 p.size=cutB s p.size:=by
   unfold cutB;rw[<-pS1];exact(mR _).symm
  have qn:∀W:World,(Instr.slice 9 (.string s) none (some (.int .i64 p.size)) none).run Tryz.prog W=.ok (.string (cutB s p.size)) W:=λW=>by
   rw[<-hcq];exact run_slice_string_h W _ s Tryz.underlying9 .i64 p.size (by omega) h1
  have hb:((cutB s p.size).toList==p.toList)=begB s p:=by
   rw[Bool.eq_iff_iff,beq_iff_eq];constructor
   ·intro h
    have e:=dV h;exact((zM ae).1 e.symm).1
   ·intro h
    rw[<-(zM ae).2 ⟨h,rfl⟩]
  clear hcq;generalize cutB s p.size=q at qn hb;go_enter Tryz.func25,Tryz.ntmps25
  go_wp2_with fail
  go_ret;exact⟨rfl,rfl⟩
 ·have h1:¬(p.size:Int)<=s.size:=by omega
  have hb:begB s p=false:=by
   cases hb:begB s p with
   | false=>rfl
   | true=>exact absurd (zI0 hb) ae
  rw[hb];go_enter Tryz.func25,Tryz.ntmps25
  go_wp2_with fail
  go_ret;exact⟨rfl,rfl⟩
def eB0 (b:List UInt8):Prop:=b.length<9\/b.take 4≠[72,78,75,49]
def dP0 (b:List UInt8):Prop:=b.drop (b.length-4)≠leB 4 (crcSum (b.take (b.length-4)))
def pS0 (w:World) (e:Ending) (w':World):Prop:=Grows w w'/\∃f:Int,e=.returned (.tuple #[.slice none 0 0,.int .i64 f])/\f≠0
theorem lS0 (b:List UInt8) (ba:Option Addr) (bc:Nat) (w:World) (fg:b.length<=bc) (_hbm:bc<=maxLen) (ac:aF w ba 1 (b.map aX)) (cz:eB0 b) :
  Calls Tryz.prog 63 #[.slice ba b.length bc] w (pS0 w):=by
 by_cases h9:b.length<9
 ·have hi:(b.length:Int)<9:=by omega
  clear ac cz;go_enter Tryz.func63,Tryz.ntmps63
  go_wp2_with fail
  go_ret2;exact⟨Grows.refl _,5,rfl,by decide⟩
 ·have hm:b.take 4≠[72,78,75,49]:=cz.resolve_left h9
  have hcv:(convert 36 9 (.slice ba 4 bc)).run Tryz.prog w=.ok (.string (mkB (b.take 4))) w:=by
   have h:=mH (c:=bc) (pN ac 4);rwa [show (b.take 4).length=4 by rw[Ah];omega]at h
  have ai:((mkB (b.take 4)).toList==[72,78,75,49])=false:=by
   rw[beq_eq_false_iff_ne];intro e;have e2:(⟨#[72,78,75,49]⟩:ByteArray).toList=[72,78,75,49]:=by first|rfl|decide|simp
   exact hm (congrArg bl (dV (e.trans e2.symm)))
  have hi:¬(b.length:Int)<9:=by omega
  have h4:(4:Int)<=bc:=by omega
  generalize mkB (b.take 4)=q at hcv ai;clear ac cz hm;go_enter Tryz.func63,Tryz.ntmps63
  go_wp2_with fail
  go_ret2;exact⟨Grows.refl _,5,rfl,by decide⟩
theorem pN0 (b:List UInt8) (ba:Option Addr) (bc:Nat) (w:World) (he:Env w) (hbs:b.length<=1099511627776) (fg:b.length<=bc) (_hbm:bc<=maxLen) (jl:ba=none->bc=0) (ac:aF w ba 1 (b.map aX)) (hh:¬eB0 b) (cz:dP0 b) :
  Calls Tryz.prog 63 #[.slice ba b.length bc] w (pS0 w):=by
 unfold eB0 at hh;have h9:¬b.length<9:=λh=>hh (Or.inl h);have ou:b.take 4=[72,78,75,49]:=Ac λh=>hh (Or.inr h);unfold dP0 at cz;obtain⟨m,hm⟩:∃m,b.length=m+4:=⟨b.length-4,by omega⟩;rw[show b.length-4=m by omega]at cz
 obtain⟨bo,hbo⟩:=exq (b.take m);obtain⟨tl,j7⟩:=exq (b.drop m);rw[<-hbo,<-j7]at cz;have gw:bo.length=m:=by rw[hbo,Ah];omega
 have ae:tl.length=4:=by rw[j7,Aq];omega
 have hcv:(convert 36 9 (.slice ba 4 bc)).run Tryz.prog w=.ok (.string ⟨#[72,78,75,49]⟩) w:=by
  have h:=mH (c:=bc) (pN ac 4);rw[ou]at h;exact h
 have sw:aF w ba 1 (bo.map aX):=by rw[hbo];exact pN ac m
 obtain⟨a1,fy,xo,fk⟩:=xB (l:=m) (h:=m+4) ac jl (by omega) (by omega) fg;rw[show (b.take (m+4)).drop m=tl by rw[j7,List.take_of_length_le (by omega)]]at xo
 have HA1:=Aa xo;have CS:=λ(W:World) (h:Grows w W)=>Aa (qI bo ba bc W (he.grows h) (by omega) (sw.grows h));rw[gw]at CS
 have CE:∀(W:World) (s1:Option Addr) (d1:Nat),Grows w W->aF W s1 1 ((leB 4 (crcSum bo)).map aX)->Hid (Calls Tryz.prog 110 #[.slice a1 4 (bc-m),.slice s1 4 d1] W λe w'=>e=.returned (.bool false)/\W=w'):=λW s1 d1 hW h1=>by
  have h:=lA tl (leB 4 (crcSum bo)) a1 s1 (bc-m) d1 W (HA1.out.grows hW) h1;rw[bM,ae,decide_eq_false cz]at h;exact h
 have hn9:¬((m:Int)+4<9):=by omega
 have h4a:(4:Int)<=bc:=by omega
 have adk:IntKind.i64.wrap ((m:Int)+4-4)=(m:Int):=by simp[An,Ao,Am];omega
 have wm:IntKind.i64.wrap (m:Int)=(m:Int):=by simp[An,Ao,Am];omega
 have oc:(m:Int)<=bc:=by omega
 have uw:(m:Int)<=(m:Int)+4:=by omega
 rw[hm];rw[hm]at fg;clear hh cz hbo j7 gw ae ac sw xo ou he hm h9 jl;go_enter Tryz.func63,Tryz.ntmps63
 go_wp2_with fail
 refine bE (aU 9 [6,7]) (by kernel_rfl) (λd _ _ _ _ h=>by cases d<;>exact h) ?_
 iterate 6 (refine aG rfl (λK hK=>?_);go_simp;refine hK _ ?_;clear hK K)
 refine aZ rfl rfl (λK hK=>?_);go_simp;refine((CS w.drew (Grows.drew w)).out).mono ?_;rintro e w1 ⟨v1,rfl,aat,ag⟩;refine⟨ag,hK _ _ ?_⟩;clear hK K;have dg:=Grows.trans _ _ _ (Grows.drew w) ag;obtain⟨s1,d1,rfl,ei,_⟩:=eZ aat;rw[bM];refine aZ rfl rfl (λK hK=>?_);go_simp;refine((CE w1 s1 d1 dg ei).out).mono ?_;rintro e w2 ⟨rfl,rfl⟩;refine⟨Grows.refl _,hK _ _ ?_⟩;clear hK K;iterate 1 (refine aG rfl (λK hK=>?_);go_simp;refine hK _ ?_;clear hK K)
 refine bH ?_;clear aat ei ag CS CE;go_wp2_with fail
 go_ret2;exact⟨dg,11,rfl,by decide⟩
theorem uE (b:List UInt8) (ba:Option Addr) (bc:Nat) (w:World) (he:Env w) (hbs:b.length<=1099511627776) (fg:b.length<=bc) (zj:bc<=maxLen) (jl:ba=none->bc=0) (ac:aF w ba 1 (b.map aX)) (cz:eB0 b\/dP0 b) :
  Calls Tryz.prog 16 #[.slice ba b.length bc] w λe w'=>e=.returned (.tuple #[.pointer none,.int .i64 5])/\Grows w w':=by
 have CS:Hid (Calls Tryz.prog 63 #[.slice ba b.length bc] w (pS0 w)):=by
  by_cases h:eB0 b
  ·exact lS0 b ba bc w fg zj ac h
  ·exact pN0 b ba bc w he hbs fg zj jl ac h (cz.resolve_left h)
 clear he hbs fg zj jl ac cz;go_enter Tryz.func16,Tryz.ntmps16
 go_wp2_with fail
 refine CS.out.mono ?_;rintro e w1 ⟨ag,f,rfl,hf⟩;have hfb:(f != 0)=true:=by simpa using hf
 clear hf;go_wp2_with fail
 go_ret2;exact⟨rfl,ag⟩
end
section
open Go
theorem tM {a b c:Nat} (e:a ^^^ c=b ^^^ c):a=b:=by
 have:=congrArg (· ^^^ c) e
 simpa [Nat.xor_assoc] using this
theorem tI0 {a b:Nat} (e:a ^^^ b=0):a=b:=tM (e.trans (Av b).symm)
theorem uV {a:Nat} (h:a<4294967296) (e:rD0 a=0):a=0:=by
 unfold rD0 at e;split at e
 ·have:a/2=3988292384:=tI0 e
  omega
 ·omega
theorem aI1 {a:Nat} (h:a<4294967296) (e:eM1 a=0):a=0:=by
 unfold eM1 at e
 have h4:∀ {a:Nat},a<4294967296->crc4 a=0->a=0:=λ{a} h e=>by
  unfold crc4 at e;exact uV h (uV (mW h) (uV (mW (mW h)) (uV (mW (mW (mW h))) e)))
 exact h4 h (h4 (jD h) e)
theorem rZ0 {a b:Nat} (ha:a<4294967296) (hb:b<4294967296) (e:eM1 a=eM1 b):a=b:=by
 have h:eM1 (a ^^^ b)=0:=by
  unfold eM1 at e ⊢;rw[gR0,gR0,e,Av]
 exact tI0 (aI1 (Ab (n:=32) ha hb) h)
theorem zT (c:UInt8):c.toNat<4294967296:=Nat.lt_trans c.toNat_lt (by decide)
theorem nF0:∀(l:List UInt8) {r s:Nat},r<4294967296->s<4294967296->sL r l=sL s l->r=s
 | [],_,_,_,_,e=>e
 | c::l,r,s,hr,hs,e=>by
  have h1:=Ab (n:=32) hr (zT c);have h2:=Ab (n:=32) hs (zT c);exact tM (rZ0 h1 h2 (nF0 l (jD (jD h1)) (jD (jD h2)) e))
theorem bD0:∀(l m:List UInt8) (r:Nat),sL r (l++m)=sL (sL r l) m
 | [],_,_=>rfl
 | c::l,m,r=>bD0 l m (eM1 (r ^^^ c.toNat))
theorem nY1 {l:List UInt8} {i:Nat} {x y:UInt8} (h:l[i]?=some x) (hy:y≠x):crcSum (l.set i y)≠crcSum l:=by
 obtain⟨hi,hx⟩:=List.getElem?_eq_some_iff.1 h;intro e;have e1:sL 4294967295 (l.set i y)=sL 4294967295 l:=tM e
 have s1:l=l.take i++x::l.drop (i+1):=by
  rw[<-hx,<-List.drop_eq_getElem_cons hi,List.take_append_drop]
 have s2:l.set i y=l.take i++y::l.drop (i+1):=by rw[List.set_eq_take_append_cons_drop,if_pos hi]
 rw[s2]at e1;conv at e1=>rhs;rw[s1]
 rw[bD0,bD0]at e1;have hr:=zP (l.take i) (r:=4294967295) (by decide);have h1:=Ab (n:=32) hr (zT y);have h2:=Ab (n:=32) hr (zT x);have e2:=rZ0 h1 h2 (nF0 _ (jD (jD h1)) (jD (jD h2)) e1);rw[Aw,Aw _ x.toNat]at e2;exact hy (UInt8.toNat_inj.1 (tM e2))
theorem mR1 {a b:Nat} (ha:a<4294967296) (hb:b<4294967296) (e:leB 4 a=leB 4 b):a=b:=by
 have h:=congrArg zI e;rw[tV,tV,Ar (by omega),Ar (by omega)]at h;exact h
theorem mP0 (l:List UInt8):crcSum l<4294967296:=Ab (n:=32) (zP _ (by decide)) (by decide)
theorem iU1 {b:List UInt8} {i:Nat} {x y:UInt8} (h9:9<=b.length) (hs:¬dP0 b) (hm:b.take 4=[72,78,75,49]) (h:b[i]?=some x) (hy:y≠x):eB0 (b.set i y)\/dP0 (b.set i y):=by
 obtain⟨hi,hx⟩:=List.getElem?_eq_some_iff.1 h;have hs':b.drop (b.length-4)=leB 4 (crcSum (b.take (b.length-4))):=Ac hs;by_cases h4:i<4
 ·refine Or.inl (Or.inr λe=>?_)
  rw[At,<-hm]at e;have h1:=congrArg (·[i]?) e;simp only[Ai (show i<(b.take 4).length by rw[Ah];omega),Af h4,h]at h1
  exact hy (Option.some.inj h1)
 ·refine Or.inr ?_
  unfold dP0;rw[List.length_set];by_cases h5:i<b.length-4
  ·rw[List.drop_set_of_lt h5,hs',At]
   intro e;have hb:(b.take (b.length-4))[i]?=some x:=by rw[Af h5,h]
   exact nY1 hb hy (mR1 (mP0 _) (mP0 _) e).symm
  ·rw[List.take_set_of_le (by omega),<-hs',List.drop_set,if_neg (by omega)]
   intro e;have h1:=congrArg (·[i-(b.length-4)]?) e;simp only[Ai (show i-(b.length-4)<(b.drop (b.length-4)).length by rw[Aq];omega),List.getElem?_drop]at h1
   rw[show b.length-4+(i-(b.length-4))=i by omega,h]at h1
   exact hy (Option.some.inj h1)
theorem hH1 {α:Type} {l:List α} {i:Nat} {x:α} (h:l[i]?=some x):l.set i x=l:=by
 obtain⟨h1,e⟩:=List.getElem?_eq_some_iff.1 h;rw[<-e];exact List.set_getElem_self h1
theorem vK0 (a b:Nat) (ha:a<256) (hb:b<256):bits .xor .u8 (a:Int) (b:Int)=((a ^^^ b:Nat):Int):=by
 have hx:a ^^^ b<256:=Ab (n:=8) ha hb;have e1:(BitVec.ofInt 8 (a:Int)).toNat=a:=by simp;omega
 have e2:(BitVec.ofInt 8 (b:Int)).toNat=b:=by simp;omega
 show IntKind.u8.wrap ((BitVec.ofInt 8 (a:Int) ^^^ BitVec.ofInt 8 (b:Int)).toNat:Int)=_
 rw[BitVec.toNat_xor,e1,e2];simp[An,Ao,Am];omega
theorem yC {P:List bF} (h:fK P=0):9<=(file14 P).length/\(file14 P).take 4=[72,78,75,49]/\¬dP0 (file14 P)/\(file14 P).length<=1099511627776:=by
 have gp:=qD h;have hl:(file14 P).length=(cZ P).length+4:=by rw[wX,Ae,bM]
 have h5:5<=(cZ P).length:=by
  have:1<=(putU P.length).length:=List.length_pos_iff.2 (nW P.length)
  unfold cZ;simp only[Ae,List.length_cons,List.length_nil];omega
 refine⟨by omega,?_,?_,by omega⟩
 ·rw[wX]
  unfold cZ;simp
 ·unfold dP0
  rw[hl,Nat.add_sub_cancel,wX];simp
end
section
open Go Go.RowKit Go.Shelf
structure gU0 (w:World) (g:Nat):Prop where
 ty:∃o,w.heap[g]?=some o/\rR o=some 5
 c0:∃n,w.cell? ⟨g,0,none⟩=some (.int .u8 n)
theorem GK.outs {g:Nat} {w w':World} (h:GK g w w'):mY1 w w' (λk=>k=g):=λk hk ai=>h.block k hk λe=>ai (Option.some.inj e)
theorem gU0.ne {w:World} {g:Nat} (h:gU0 w g) {x:Nat} {u:Value} (hc:w.cell? ⟨x,0,none⟩=some u) (hu:∀n,u ≠ .int .u8 n):¬x=g:=by
 rintro rfl;obtain⟨n,h0⟩:=h.c0;rw[hc]at h0;exact hu n (Option.some.inj h0)
theorem gU0.out1 {w:World} {g:Nat} (h:gU0 w g) {e:TypeId} (ai:5≠e):∀q,(λk=>k=g) q->∃o,w.heap[q]?=some o/\rR o≠some e:=λq hq=>by
 have:q=g:=hq
 subst this;obtain⟨o,h1,h2⟩:=h.ty;exact⟨o,h1,by rw[h2];exact λe=>ai (Option.some.inj e)⟩
theorem gU0.out2 {w:World} {g:Nat} (h:gU0 w g):∀q,(λk=>k=g) q->∃o,w.heap[q]?=some o/\rR o≠some 144/\rR o≠some 3:=λq hq=>by
 have:q=g:=hq
 subst this;obtain⟨o,h1,h2⟩:=h.ty;exact⟨o,h1,by rw[h2];decide,by rw[h2];decide⟩
section
variable {w w':World} {g:Nat}
theorem gU0.pk (h:gU0 w g) (hg:GK g w w') {pb:Nat} {l:List Nat} (hp:lE w pb l):lE w' pb l:=rF hp hg.outs (h.ne hp.c0 (λ_ e=>by cases e)) h.out2
theorem gU0.vec (h:gU0 w g) (hg:GK g w w') {vb:Nat} {l:List Bool} (hp:jN w vb l):jN w' vb l:=fS hp hg.outs (h.ne hp.c0 (λ_ e=>by cases e)) h.out2
theorem gU0.trie (h:gU0 w g) (hg:GK g w w') {tb:Nat} {L:List (List UInt8)} (ht:eF w tb L) (gw:g+2<tb):eF w' tb L:=by
 obtain⟨sb,s1,s2⟩:=ht.s;obtain⟨ib,i1,i2⟩:=ht.i;obtain⟨vL,l1,l2⟩:=ht.l;obtain⟨pb,d1,d2⟩:=ht.d;obtain⟨vN,n1,n2⟩:=ht.n;have ho:=hg.outs;have hn:=h.ne s1 (λ_ e=>by cases e);refine⟨⟨sb,cO s1 ho hn,h.vec hg s2⟩,⟨ib,cO i1 ho hn,h.vec hg i2⟩,⟨vL,cO l1 ho hn,tC l2 hg ?_⟩,⟨pb,cO d1 ho hn,h.pk hg d2⟩,⟨vN,cO n1 ho hn,iY n2 ho (h.out1 (by decide))⟩⟩
 cases hu:vL.ownBlock with
 | none=>exact Or.inl rfl
 | some q =>
  have:=bB l2 q hu
  exact Or.inr λe=>by
   have:=Option.some.inj e
   omega
theorem gU0.mat (h:gU0 w g) (hg:GK g w w') {mb bm:Nat} {m:Mx} (hm:fM w mb bm m):fM w' mb bm m:=by
 refine hm.kept hg (λe=>h.ne hm.c0 (λ_ e=>by cases e) (Option.some.inj e)) (λe=>?_);obtain⟨D,hD,_⟩:=hm.own;have e2:bm=g:=Option.some.inj e;obtain⟨en,clock,hb,_⟩:=hD;obtain⟨o,h1,h2⟩:=h.ty;rw[e2,h1]at hb;cases hb
 cases h2
theorem gU0.dict (h:gU0 w g) (hg:GK g w w') {lo db:Nat} {p:List cH} {m:Mx} {es:List En} (hd:cB w db p m es) (gw:mQ w db lo) (hgl:g<lo):cB w' db p m es:=by
 have ho:=hg.outs
 have hn:¬db=g:=by
  obtain⟨v,h1,h2⟩:=hd.p;obtain⟨a,c,rfl,_⟩:=h2.at_ wO.len;exact h.ne h1 (λ_ e=>by cases e)
 have k:∀ {i:Nat} {v:Value},w.cell? ⟨db,i,none⟩=some v->w'.cell? ⟨db,i,none⟩=some v:=λhc=>cO hc ho hn
 exact {
  p:=let ⟨v,h1,h2⟩:=hd.p;⟨v,k h1,iY h2 ho (h.out1 (by decide))⟩
  m:=let ⟨x,y,h1,h2⟩:=hd.m;⟨x,y,k h1,h.mat hg h2⟩
  r:=let ⟨v,h1,h2⟩:=hd.r;⟨v,k h1,h.trie hg h2 (by have:=gw.1 v h1;omega)⟩
  s:=let ⟨v,h1,h2⟩:=hd.s;⟨v,k h1,h.trie hg h2 (by have:=gw.2 v h1;omega)⟩
  f:=let ⟨v,h1,h2⟩:=hd.f;⟨v,k h1,h.pk hg h2⟩
  i:=let ⟨v,h1,h2⟩:=hd.i;⟨v,k h1,h.pk hg h2⟩
  l:=let ⟨v,h1,h2⟩:=hd.l;⟨v,k h1,h.pk hg h2⟩
  t:=let ⟨v,h1,h2⟩:=hd.t;⟨v,k h1,h.pk hg h2⟩
  c:=let ⟨v,h1,h2⟩:=hd.c;⟨v,k h1,h.pk hg h2⟩
  o:=let ⟨v,h1,h2⟩:=hd.o;⟨v,k h1,h.pk hg h2⟩
  a:=let ⟨v,h1,h2⟩:=hd.a;⟨v,k h1,h.pk hg h2⟩ }
end
theorem gU0.own {w:World} {base g n cap:Nat} {l:List UInt8} (h:aV w base 5 1 aX (.slice (some ⟨g,0,none⟩) n cap) l) (hl:l≠[]):gU0 w g:=by
 refine⟨RT.own h g rfl,?_⟩;obtain⟨x,hx⟩:∃x,l[0]?=some x:=⟨_,Ad (List.length_pos_iff.2 hl)⟩;exact⟨x.toNat,cU (f:=λx:UInt8=>Value.int .u8 x.toNat) h hx⟩
end
end Go.Proofs.YtheiocndipepaaaGreatDoor
