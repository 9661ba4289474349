/- The texts ParL ParL3, one behind the other. -/
import Derived.Test.YthgklnohcmaopaaGreatDoorTq24
import Derived.Test.YthgklnohcmaopaaGreatDoorTq21
import Derived.Test.YthgklnohcmaopaaGreatDoorTq2
import Derived.Test.YthgklnohcmaopaaGreatDoorTq43
import Derived.Test.YthgklnohcmaopaaGreatDoorTq12
open Go.Lib renaming hid → Aa,toList_data → Ag
open Go.World renaming drew → Ab,cell?_setCell_same → Ac,block_lt_of_cell? → Ad
open Nat renaming le_trans → Ae
open List renaming drop_succ_cons → Af,drop_zero → Ah
set_option maxHeartbeats 8000000
namespace Go.Proofs.YthgklnohcmaopaaGreatDoor
set_option maxRecDepth 100000
section
open Go Go.RowKit Go.Shelf
attribute [local go_sem] aK aP
section
variable {w:World} {B b3 b7 b8 bs N:Nat} {p:List bD} {pa:Option Addr} {pc:Nat}
theorem fQ0 (st:oJ) (cp:PSt w B b7 b8 bs N st) (hB:B<=w.heap.size) (f:List ByteArray) (fa:Option Addr) (fc:Nat) (hf:aF w fa 1 (f.map bS1)) (uf:f.length<=1048577) (t0:1<=f.length) (hfs:∀x∈f,x.size<=1048577)
  (hn:(st=none/\f.length≠2)\/(st≠none/\f.length≠3)) :
  Calls Tryz.prog 139 #[.slice fa f.length fc,.pointer (some ⟨b7,0,none⟩),.pointer (some ⟨b3,0,none⟩),.pointer (some ⟨b8,0,none⟩)] w (cM p st f B b7 b8 bs N w):=by
 have hl:(fS p st f).2=5:=by
  rcases hn with ⟨rfl,h⟩|⟨h,h3⟩
  ·rw[wX (λh2=>h h2.1)]
  ·cases st with
   | none=>exact absurd rfl h
   | some ms=>obtain⟨m,seen⟩:=ms;rw[aA0 (λh2=>h3 h2.1)]
 obtain⟨n,o8⟩:∃n,f.length=n+1:=⟨f.length-1,by omega⟩;obtain⟨z,hz⟩:∃z,f[n]?=some z:=⟨_,List.getElem?_eq_getElem (by omega)⟩;have ly:=hfs z (List.mem_of_getElem? hz);obtain⟨fb,fo,rfl,m9⟩:=hf.get (aH t0);have z0:w.cell? ⟨fb,fo+n,none⟩=some (.string z):=by simpa using m9 n z hz 0 _ rfl
 have CN:=λW=>Aa (mY z W (by omega));have HL:=Aa hl
 have wn:IntKind.i64.wrap ((f.length:Int)-1)=n:=by
  rw[o8];rw[show ((n+1:Nat):Int)-1=((n:Nat):Int) by omega]
  exact pO (by omega)
 have hni:(n:Int)<f.length:=by omega
 have HST:=Aa cp;generalize numMv z=Z at CN;generalize numMb z=zb at CN;obtain⟨v7,hv7⟩:=cp.c7;rcases hn with ⟨rfl,h⟩|⟨h,h3⟩
 ·have c7:=cp.no rfl
  have h2:¬(f.length:Int)=2:=by omega
  clear cp m9 hz hf hfs hl o8;go_enter Tryz.func139,Tryz.ntmps139
  go_wp2_with fail
  refine(CN _).out.mono ?_;rintro e w1 ⟨rfl,aj⟩;have d7:=aj.cell c7;go_wp2_with fail
  go_ret;exact cM.err HL.out (by decide) (EB.of aj hB) (CB.of aj)
 ·cases st with
  | none=>exact absurd rfl h
  | some ms =>
   obtain⟨m,seen⟩:=ms;obtain⟨mb,bm,c7,_⟩:=cp.so m seen rfl;have h2:¬(f.length:Int)=3:=by omega
   clear cp m9 hz hf hfs hl o8 h h3;go_enter Tryz.func139,Tryz.ntmps139
   go_wp2_with fail
   refine(CN _).out.mono ?_;rintro e w1 ⟨rfl,aj⟩;have d7:=aj.cell c7;go_wp2_with fail
   go_ret;exact cM.err HL.out (by decide) (EB.of aj hB) (CB.of aj)
theorem qT0 (cp:PSt w B b7 b8 bs N none) (hB:B<=w.heap.size) (ik:1<=p.length/\p.length<=64) (c3:w.cell? ⟨b3,0,none⟩=some (.slice pa p.length pc)) (a b:ByteArray) (fa:Option Addr) (fc:Nat) (hf:aF w fa 1 ([a,b].map bS1)) (hbs:b.size<=1048577) :
  Calls Tryz.prog 139 #[.slice fa 2 fc,.pointer (some ⟨b7,0,none⟩),.pointer (some ⟨b3,0,none⟩),.pointer (some ⟨b8,0,none⟩)] w (cM p none [a,b] B b7 b8 bs N w):=by
 obtain⟨fb,fo,rfl,m9⟩:=hf.get (by simp);have f0:w.cell? ⟨fb,fo,none⟩=some (.string a):=m9 0 a rfl 0 _ rfl;have f1:w.cell? ⟨fb,fo+1,none⟩=some (.string b):=m9 1 b rfl 0 _ rfl;have CN:=λW=>Aa (mY b W (by omega));have c7:=cp.no rfl;have HST:=Aa cp;by_cases ha:a=bQ1
 ·have ha2:a.toList=[100,101,102,97,117,108,116]:=by rw[ha,Ag];rfl
  cases hb:numMb b
  ·have hl:(fS p none [a,b]).2=5:=by rw[wX (λh=>by have h3:=h.2.2;rw[show gR [a,b] 1=b from rfl,hb]at h3;cases h3)]
   have HL:=Aa hl;rw[hb]at CN;generalize numMv b=Z at CN;clear cp m9 hf hl ha hb;go_enter Tryz.func139,Tryz.ntmps139
   go_wp2_with fail
   refine(CN _).out.mono ?_;rintro e w1 ⟨rfl,aj⟩;have d7:=aj.cell c7;have d0:=aj.cell f0;go_wp2_with fail
   go_ret;exact cM.err HL.out (by decide) (EB.of aj hB) (CB.of aj)
  ·have hl:fS p none [a,b]=_:=dL0 ha hb
   have we:=xM hb;have HL:=Aa hl;rw[hb]at CN;have nl:vJ0 (p.length:Int) (numMv b)=true:=qG.2 ⟨by omega,by omega,we.1,we.2⟩;have HNB:=Aa nl;generalize numMv b=Z at *;have f7:=cp.f7;have ai:=cp.n78;have h7:=cp.lt7;clear cp m9 hf hl ha hb nl;go_enter Tryz.func139,Tryz.ntmps139
   go_wp2_with fail
   refine(CN _).out.mono ?_;rintro e w1 ⟨rfl,aj⟩;have d7:=aj.cell c7;have d0:=aj.cell f0;have d3:=aj.cell c3;go_wp2_with fail
   refine(oN0 _ _ _ HNB.out).mono ?_;rintro e w2 ⟨rfl,nf,af⟩;have e7:=af.cell d7;have ei:=aj.tr af;have ef7:=(ei.froz (p:=⟨b7,0,none⟩) h7).trans f7;have HM2:=Aa nf;have ed:=aj.size;clear nf;go_wp2_with fail
   go_ret;have na:=HST.out.grows ei;obtain⟨D,aa,hD⟩:=na.mp;have hm3:=HM2.out;have qj:w1.heap.size+1≠b7:=by omega
   have tu:w1.heap.size≠b7:=by omega
   have cs:∀ {q:Addr} {v:Value},q.block≠b7->w2.cell? q=some v->(w2.setCell ⟨b7,0,none⟩ (.pointer (some ⟨w1.heap.size+1,0,none⟩))).cell? q=some v:=λhq hc=>(CB.set b7 0 _).cell _ _ hq hc
   have aeq:∀ {bb n:Nat} {D':DataW Unit},w2.ownsMap Tryz.prog 158 (plainElem Tryz.prog 3) bb n D'->(w2.setCell ⟨b7,0,none⟩ (.pointer (some ⟨w1.heap.size+1,0,none⟩))).ownsMap Tryz.prog 158 (plainElem Tryz.prog 3) bb n D':=λ{bb n D'} ho=>by
    have agz:=eN ho e7;refine ho.kept (row:=some b7) ⟨rfl,rfl,rfl,by simp,λk hk kq=>heap_setCell_other _ _ _ _ (λe=>kq (by rw[e]))⟩ (λe=>agz (by have:=Option.some.inj e;simp only;omega))
   refine⟨by rw[HL.out];rfl,λ_=>?_,?_,((CB.of ei).trans (CB.set b7 0 _))⟩
   ·rw[HL.out]
    refine⟨na.g7,na.gs,ai,cs ai na.c8,⟨_,Ac _ _ _ e7⟩,by rw[World.frozen?_setCell];exact ef7,⟨D,(aeq aa).mono (Nat.le_succ _),hD⟩,λh=>(by cases h),λm seen h=>?_⟩;cases h
    obtain⟨D2,ag,hD2⟩:=hm3.own;refine⟨_,_,Ac _ _ _ e7,⟨hm3.ok,cs qj hm3.c0,cs qj hm3.c1,cs qj hm3.c2,D2,aeq ag,hD2⟩,by omega,by omega,λe=>?_,qj⟩
    have:=(HST.out.mp)
    obtain⟨D0,f8,_⟩:=this
    have:=f8.lt
    omega
   ·exact EB.trans _ _ _ _ (EB.of ei hB) ⟨(Below.refl _ _).setCell HST.out.g7 _,by simp⟩
 ·have ha2:¬a.toList=[100,101,102,97,117,108,116]:=λh=>ha (by
   have h3:a.toList=bQ1.toList:=by rw[h,Ag];rfl
   exact rL.1 (by unfold seq;rw[h3];simp))
  have hl:(fS p none [a,b]).2=5:=by rw[wX (f:=[a,b]) (λh=>ha h.2.1)]
  have HL:=Aa hl;generalize numMv b=Z at CN;generalize numMb b=zb at CN;clear cp m9 hf hl ha;go_enter Tryz.func139,Tryz.ntmps139
  go_wp2_with fail
  refine(CN _).out.mono ?_;rintro e w1 ⟨rfl,aj⟩;have d7:=aj.cell c7;have d0:=aj.cell f0;go_wp2_with fail
  go_ret;exact cM.err HL.out (by decide) (EB.of aj hB) (CB.of aj)
end
end
section
open Go Go.RowKit Go.Shelf
attribute [local go_sem] aK aP
theorem zL0:Go.WideMaps.KeyLaw Tryz.prog 158:=deep_law_laid cQ0 (m:=3) (by decide) (of_decide_eq_true (by kernel_rfl)) (by kernel_rfl) (by kernel_rfl)
section
variable {w:World} {B b3 b7 b8 bs N:Nat} {p:List bD} {pa:Option Addr} {pc:Nat}
theorem gO0 (m:Mx) (seen:List (Nat×Nat)) (cp:PSt w B b7 b8 bs N (some (m,seen))) (hB:B<=w.heap.size) (hN:N<=2097152) (ik:1<=p.length/\p.length<=64) (hmn:m.n=p.length) (c3:w.cell? ⟨b3,0,none⟩=some (.slice pa p.length pc)) (hp:aF w pa 2 (p.map bH)) (x y z:ByteArray) (fa:Option Addr) (fc:Nat) (hf:aF w fa 1 ([x,y,z].map bS1)) (ly:z.size<=1048577) :
  Calls Tryz.prog 139 #[.slice fa 3 fc,.pointer (some ⟨b7,0,none⟩),.pointer (some ⟨b3,0,none⟩),.pointer (some ⟨b8,0,none⟩)] w (cM p (some (m,seen)) [x,y,z] B b7 b8 bs N w):=by
 obtain⟨fb,fo,rfl,m9⟩:=hf.get (by simp);have f0:w.cell? ⟨fb,fo,none⟩=some (.string x):=m9 0 x rfl 0 _ rfl;have f1:w.cell? ⟨fb,fo+1,none⟩=some (.string y):=m9 1 y rfl 0 _ rfl;have f2:w.cell? ⟨fb,fo+2,none⟩=some (.string z):=m9 2 z rfl 0 _ rfl;have CN:=λW=>Aa (mY z W (by omega));have CX:=λW (hW:aB w W)=>Aa (iV p x pa pc W (by omega) (hp.grows hW));have CY:=λW (hW:aB w W)=>Aa (iV p y pa pc W (by omega) (hp.grows hW));obtain⟨mb,bm,c7,abj,ag0,aer,mm,hm7⟩:=cp.so m seen rfl;have c8:=cp.c8;have HST:=Aa cp;have HMAT:=Aa abj;have HC7:=Aa c7;have HC8:=Aa c8;cases hz:numMb z
 ·have hl:(fS p (some (m,seen)) [x,y,z]).2=5:=by rw[aA0 (λh=>by have h3:=h.2;rw[show gR [x,y,z] 2=z from rfl,hz]at h3;cases h3)]
  have HL:=Aa hl;rw[hz]at CN;generalize numMv z=Z at CN;clear cp m9 hf hl hz abj CX CY hp;go_enter Tryz.func139,Tryz.ntmps139
  go_wp2_with fail
  refine(CN _).out.mono ?_;rintro e w1 ⟨rfl,aj⟩;have d7:=aj.cell c7;go_wp2_with fail
  go_ret;exact cM.err HL.out (by decide) (EB.of aj hB) (CB.of aj)
 ·have hl:=wO (p:=p) (m:=m) (seen:=seen) (x:=x) (y:=y) hz
  have we:=xM hz;have HL:=Aa hl;rw[hz]at CN;generalize numMv z=Z at *;have hox:∀i:Nat,posFind p x=some i->i<p.length:=λi=>bP0;have hoy:∀i:Nat,posFind p y=some i->i<p.length:=λi=>bP0;generalize posFind p x=ox at *;generalize posFind p y=oy at *;clear cp m9 hf hl hz abj hp;go_enter Tryz.func139,Tryz.ntmps139
  go_wp2_with fail
  refine(CN _).out.mono ?_;rintro e w1 ⟨rfl,aj⟩;have d7:=aj.cell c7;have z0:∀q:Ext aB w1.drew,q.u.cell? ⟨fb,fo,none⟩=some (.string x):=aG (aj.dr.cell f0);have z3:∀q:Ext aB w1.drew,q.u.cell? ⟨b3,0,none⟩=some (.slice pa p.length pc):=aG (aj.dr.cell c3);go_wp2_with fail
  refine bP (bB 10 [4]) (by kernel_rfl) (λd _ _ _ _ h=>by cases d<;>exact h) ?_
  iterate 4 (refine aO rfl (λK hK=>?_);go_simp;refine hK _ ?_;clear hK K)
  refine cH rfl rfl (λK hK=>?_);go_simp;refine(CX _ aj.dr).out.mono ?_;rintro e w2 ⟨rfl,af⟩;refine⟨af,hK _ _ ?_⟩;clear hK K;iterate 5 (refine aO rfl (λK hK=>?_);go_simp;refine hK _ ?_;clear hK K)
  refine bU ?_;clear z0 z3;have ei:=aj.dr.tr af;have z0:∀q:Ext aB w2.drew,q.u.cell? ⟨fb,fo+1,none⟩=some (.string y):=aG (ei.dr.cell f1);have z3:∀q:Ext aB w2.drew,q.u.cell? ⟨b3,0,none⟩=some (.slice pa p.length pc):=aG (ei.dr.cell c3);go_wp2_with fail
  refine bP (bB 10 [4]) (by kernel_rfl) (λd _ _ _ _ h=>by cases d<;>exact h) ?_
  iterate 4 (refine aO rfl (λK hK=>?_);go_simp;refine hK _ ?_;clear hK K)
  refine cH rfl rfl (λK hK=>?_);go_simp;refine(CY _ ei.dr).out.mono ?_;rintro e w3 ⟨rfl,bg⟩;refine⟨bg,hK _ _ ?_⟩;clear hK K;iterate 5 (refine aO rfl (λK hK=>?_);go_simp;refine hK _ ?_;clear hK K)
  refine bU ?_;clear z0 z3 CX CY CN;have ev:=ei.dr.tr bg;have hs3:=ev.size;clear aj af ei bg d7 c7 c8 f0 f1 f2
  cases ox with
  | none =>
   cases oy with
   | none =>
    go_wp2_with fail
    go_ret;exact cM.err (by rw[HL.out]) (by decide) (EB.of ev hB) (CB.of ev)
   | some b =>
    go_wp2_with fail
    go_ret;exact cM.err (by rw[HL.out]) (by decide) (EB.of ev hB) (CB.of ev)
  | some a =>
   cases oy with
   | none =>
    go_wp2_with fail
    go_ret;exact cM.err (by rw[HL.out]) (by decide) (EB.of ev hB) (CB.of ev)
   | some b =>
    have ha:=hox a rfl;have hb:=hoy b rfl;simp only[findI,Option.isSome_some];have HL2:Hid (fS p (some (m,seen)) [x,y,z]=if (a,b)∈seen then (some (m,seen),4) else (some (m.setIf ((a:Int),(b:Int)) Z,(a,b)::seen),0)):=HL.out
    clear HL hox hoy;go_wp2_with fail
    have du:aB w (Ab (w3.alloc (.cells #[.int .i64 a,.int .i64 b] 158))):=(ev.al _).dr;have qA0:(Ab (w3.alloc (.cells #[.int .i64 a,.int .i64 b] 158))).cell? ⟨w3.heap.size,0,none⟩=some (.int .i64 a):=aM w3 #[.int .i64 a,.int .i64 b] 158 (0,0) 0 _ rfl;have qA1:(Ab (w3.alloc (.cells #[.int .i64 a,.int .i64 b] 158))).cell? ⟨w3.heap.size,1,none⟩=some (.int .i64 b):=aM w3 #[.int .i64 a,.int .i64 b] 158 (0,0) 1 _ rfl;have cg:Go.keyOf Tryz.prog 158 (.agg #[.int .i64 a,.int .i64 b])=some (klP ((a:Int),(b:Int))):=zQ0 (x:=((a:Int),(b:Int))) (mN (by omega)) (mN (by omega));have ff:inP m.n ((a:Int),(b:Int))=true:=jX.2 ⟨⟨by simp only;omega,by simp only;omega⟩,by simp only;omega,by simp only;omega⟩
    have aac:m.setB ((a:Int),(b:Int)) Z=true:=by
     unfold Mx.setB;rw[ff,uC.2 we];rfl
    have HSB:=Aa aac;have wg:=HST.out.grows du;have abk:=HMAT.out.grows du;have abl:=du.cell HC7.out;obtain⟨D,aa,hD⟩:=wg.mp;obtain⟨c,st,W2,oo,ac,abm,lz,jc,pj⟩:=tY0 aa zL0 lY Tryz.underlying151 Tryz.underlying3 dZ0 (by unfold maxLen;omega) cg;rw[show D.atKey (klP ((a:Int),(b:Int))) (.lit (.int .i64 0))=_ from hD a b (by omega) (by omega)]at ac
    have hc:c=if (a,b)∈yJ0 (some (m,seen)) then 1 else 0:=by simpa using ac.symm
    obtain⟨G,hG⟩:=exq (goInt (st:Int));rw[<-hG]at oo pj;have sy:=wg.c8;have HSA:=Aa wg;have HMA:=Aa abk;have HOWN:=Aa aa;have HD:=Aa hD;have n8:=eN aa sy;have nb:=eN aa qA0;have n7:=eN aa abl;have nm:=eN aa abk.c0;simp only at n8 nb n7 nm;have HG1:=Aa du;have ag1:w3.heap.size<(Ab (w3.alloc (.cells #[.int .i64 a,.int .i64 b] 158))).heap.size:=Ad _ _ qA0;clear ac hG aa hD ff aac wg abk du cg;obtain⟨WA,hWA⟩:∃WA,Ab (w3.alloc (.cells #[.int .i64 a,.int .i64 b] 158))=WA:=⟨_,rfl⟩;rw[hWA]at qA0 qA1 oo abm lz sy abl HSA HMA HOWN HG1 ag1;simp only[hWA]at pj;have qa:∀x:Ext (EM Tryz.prog 151 bs (.agg #[.int .i64 a,.int .i64 b])) WA,x.u.cell? ⟨b8,0,none⟩=some (.map (some bs)):=λx=>aY x.h.1 sy (λe=>n8 (Option.some.inj e));have qb0:∀x:Ext (EM Tryz.prog 151 bs (.agg #[.int .i64 a,.int .i64 b])) WA,x.u.cell? ⟨w3.heap.size,0,none⟩=some (.int .i64 a):=λx=>aY x.h.1 qA0 (λe=>nb (Option.some.inj e));have qb1:∀x:Ext (EM Tryz.prog 151 bs (.agg #[.int .i64 a,.int .i64 b])) WA,x.u.cell? ⟨w3.heap.size,1,none⟩=some (.int .i64 b):=λx=>aY x.h.1 qA1 (λe=>nb (Option.some.inj e));have ql:∀x:Ext (EM Tryz.prog 151 bs (.agg #[.int .i64 a,.int .i64 b])) WA,(Instr.lookup 151 (.map (some bs)) (.agg #[.int .i64 a,.int .i64 b]) false).run Tryz.prog x.u=.ok (.int .i64 c) x.u:=λx=>x.h.2 _ lz;have og:=zQ0 (x:=((a:Int),(b:Int))) (mN (by omega)) (mN (by omega));have HISM:=Aa (HOWN.out.isMap);by_cases hs:(a,b)∈seen
    ·have ix:c=1:=by rw[hc];exact if_pos hs
     subst ix;obtain⟨w5,tq,ak,en⟩:=pj 2 (by decide);obtain⟨c5,hl5,fj,_⟩:=ak.lookup_int lY Tryz.underlying151 Tryz.underlying3 (dZ0 _) og;rw[Go.Maps.atKey_put_same HISM.out (xR _)]at fj;have hc5:c5=2:=by simpa using fj.symm
     subst hc5;have e8:=aY en sy (λe=>n8 (Option.some.inj e));have e0:=aY en qA0 (λe=>nb (Option.some.inj e));have e1:=aY en qA1 (λe=>nb (Option.some.inj e))
     have HL3:Hid ((fS p (some (m,seen)) [x,y,z]).2=4):=by
      have:=HL2.out
      rw[if_pos hs]at this;rw[this];rfl
     have ag2:(Instr.lookup 151 (.map (some bs)) (.agg #[.int .i64 a,.int .i64 b]) false).run Tryz.prog w5=.ok (.int .i64 2) w5:=hl5;clear pj fj ak hl5 hc HL2 og;refine eL0 (EM Tryz.prog 151 bs (.agg #[.int .i64 a,.int .i64 b])) 6 (bB 6 [4]) (EM.refl _ _ _ _) (EM.trans _ _ _ _) (by kernel_rfl) (by kernel_rfl) (λd _ _ _ _ h=>by cases d<;>exact h) ?_
     rw[show Ab (w3.alloc (.cells #[.int .i64 a,.int .i64 b] 158))=WA from hWA]
     iterate 4 (refine aO rfl (λK hK=>?_);go_simp;refine hK _ ?_;clear hK K)
     refine cH rfl rfl (λK hK=>?_);go_simp;refine⟨⟨abm,λv h=>by rw[lz]at h;cases h;exact jc⟩,hK _ _ ?_⟩;clear hK K;iterate 1 (refine aO rfl (λK hK=>?_);go_simp;refine hK _ ?_;clear hK K)
     refine bU ?_;clear qa qb0 qb1 ql;simp only[Af,Ah];go_wp2_with fail
     rw[tq];go_wp2_with fail
     go_ret;exact cM.err HL3.out (by decide) (EB.trans _ _ _ _ (EB.of HG1.out hB) ⟨Below.grown (Below.refl _ _) en (Ae hB HG1.out.size) (λq hq=>by cases hq;exact HSA.out.gs),en.size⟩) ((CB.of HG1.out).trans (CB.of_map HOWN.out en))
    ·have ix:c=0:=by rw[hc];exact if_neg hs
     subst ix;obtain⟨w5,tq,ak,en⟩:=pj 1 (by decide);obtain⟨c5,hl5,fj,_⟩:=ak.lookup_int lY Tryz.underlying151 Tryz.underlying3 (dZ0 _) og;rw[Go.Maps.atKey_put_same HISM.out (xR _)]at fj;have hc5:c5=1:=by simpa using fj.symm
     subst hc5;have e8:=aY en sy (λe=>n8 (Option.some.inj e));have e7:=aY en abl (λe=>n7 (Option.some.inj e));have e0:=aY en qA0 (λe=>nb (Option.some.inj e));have e1:=aY en qA1 (λe=>nb (Option.some.inj e))
     have HL3:Hid (fS p (some (m,seen)) [x,y,z]=(some (m.setIf ((a:Int),(b:Int)) Z,(a,b)::seen),0)):=by
      have:=HL2.out
      rw[if_neg hs]at this;exact this
     have ag2:(Instr.lookup 151 (.map (some bs)) (.agg #[.int .i64 a,.int .i64 b]) false).run Tryz.prog w5=.ok (.int .i64 1) w5:=hl5;have hm5:gG w5 mb bm m:=HMA.out.kept en (λe=>nm (Option.some.inj e)) (λe=>mm (Option.some.inj e));have HM5:=Aa hm5;have HO5:=Aa ak;have HF7:Hid (w5.frozen? ⟨b7,0,none⟩=false):=(sS en (p:=⟨b7,0,none⟩) HSA.out.lt7 (λe=>n7 (Option.some.inj e))).trans HSA.out.f7;clear pj fj ak hl5 hc HL2 og hm5;refine eL0 (EM Tryz.prog 151 bs (.agg #[.int .i64 a,.int .i64 b])) 6 (bB 6 [4]) (EM.refl _ _ _ _) (EM.trans _ _ _ _) (by kernel_rfl) (by kernel_rfl) (λd _ _ _ _ h=>by cases d<;>exact h) ?_
     rw[show Ab (w3.alloc (.cells #[.int .i64 a,.int .i64 b] 158))=WA from hWA]
     iterate 4 (refine aO rfl (λK hK=>?_);go_simp;refine hK _ ?_;clear hK K)
     refine cH rfl rfl (λK hK=>?_);go_simp;refine⟨⟨abm,λv h=>by rw[lz]at h;cases h;exact jc⟩,hK _ _ ?_⟩;clear hK K;iterate 1 (refine aO rfl (λK hK=>?_);go_simp;refine hK _ ?_;clear hK K)
     refine bU ?_;clear qa qb0 qb1 ql;simp only[Af,Ah];go_wp2_with fail
     rw[tq];go_wp2_with fail
     refine(tR0 w5 mb bm m HM5.out a b Z (by unfold WfI;exact WalkArith.wf_i64 (by omega))).mono ?_;rintro e w6 ⟨rfl,hm6,nc⟩;rw[HSB.out];go_wp2_with fail
     go_ret;obtain⟨Dm,hom,_⟩:=HM5.out.own;have k8:=eN hom e8;have k7:=eN hom e7;simp only at k8 k7;refine⟨by rw[HL3.out];rfl,λ_=>?_,?_,((CB.of HG1.out).trans (CB.of_map HOWN.out en)).trans (CB.of_map hom nc)⟩
     ·rw[HL3.out]
      have c7':=aY nc e7 (λe=>k7 (Option.some.inj e));refine⟨HSA.out.g7,HSA.out.gs,HSA.out.n78,aY nc e8 (λe=>k8 (Option.some.inj e)),⟨_,c7'⟩,(sS nc (p:=⟨b7,0,none⟩) (Ad _ _ e7) (λe=>k7 (Option.some.inj e))).trans HF7.out,⟨_,HO5.out.kept nc (λe=>mm (Option.some.inj e).symm),HD.out.put HISM.out (by omega) (by omega)⟩,λh=>(by cases h),λm' abr h=>?_⟩;cases h
      exact⟨mb,bm,c7',hm6,ag0,aer,mm,hm7⟩
     ·exact EB.trans _ _ _ _ (EB.trans _ _ _ _ (EB.of HG1.out hB) ⟨Below.grown (Below.refl _ _) en (Ae hB HG1.out.size) (λq hq=>by cases hq;exact HSA.out.gs),en.size⟩) ⟨Below.grown (Below.refl _ _) nc (Ae hB (Ae HG1.out.size en.size)) (λq hq=>by cases hq;exact aer),nc.size⟩
end
end
end Go.Proofs.YthgklnohcmaopaaGreatDoor
