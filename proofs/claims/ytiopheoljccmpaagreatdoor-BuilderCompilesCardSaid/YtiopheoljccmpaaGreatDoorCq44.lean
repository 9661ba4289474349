/- The texts ParL ParL3, one behind the other. -/
import Derived.Test.YtiopheoljccmpaaGreatDoorCq25
import Derived.Test.YtiopheoljccmpaaGreatDoorCq22
import Derived.Test.YtiopheoljccmpaaGreatDoorCq2
import Derived.Test.YtiopheoljccmpaaGreatDoorCq42
import Derived.Test.YtiopheoljccmpaaGreatDoorCq12
open Go.Lib renaming hid → Aa,toList_data → Ag
open Go.World renaming drew → Ab,cell?_setCell_same → Ac,block_lt_of_cell? → Ad
open Nat renaming le_trans → Ae
open List renaming drop_succ_cons → Af,drop_zero → Ah
set_option maxHeartbeats 8000000
namespace Go.Proofs.YtiopheoljccmpaaGreatDoor
set_option maxRecDepth 100000
section
open Go Go.RowKit Go.Shelf
attribute [local go_sem] aM aP
section
variable {w:World} {B b3 b7 b8 bs N:Nat} {p:List bT} {pa:Option Addr} {pc:Nat}
theorem jA0 (st:nY) (d9:PSt w B b7 b8 bs N st) (hB:B<=w.heap.size) (f:List ByteArray) (fa:Option Addr) (fc:Nat) (hf:aF w fa 1 (f.map tG0)) (zj:f.length<=1048577) (za:1<=f.length) (vn:∀x∈f,x.size<=1048577)
  (hn:(st=none/\f.length≠2)\/(st≠none/\f.length≠3)) :
  Calls Tryz.prog 26 #[.slice fa f.length fc,.pointer (some ⟨b7,0,none⟩),.pointer (some ⟨b3,0,none⟩),.pointer (some ⟨b8,0,none⟩)] w (dH p st f B b7 b8 bs N w):=by
 have hl:(lineM p st f).2=5:=by
  rcases hn with ⟨rfl,h⟩|⟨h,h3⟩
  ·rw[lW (λh2=>h h2.1)]
  ·cases st with
   | none=>exact absurd rfl h
   | some ms=>obtain⟨m,seen⟩:=ms;rw[cE0 (λh2=>h3 h2.1)]
 obtain⟨n,ym⟩:∃n,f.length=n+1:=⟨f.length-1,by omega⟩;obtain⟨z,hz⟩:∃z,f[n]?=some z:=⟨_,List.getElem?_eq_getElem (by omega)⟩;have qb:=vn z (List.mem_of_getElem? hz);obtain⟨fb,fo,rfl,lk⟩:=hf.get (aH za);have z0:w.cell? ⟨fb,fo+n,none⟩=some (.string z):=by simpa using lk n z hz 0 _ rfl
 have CN:=λW=>Aa (pT z W (by omega));have HL:=Aa hl
 have wn:IntKind.i64.wrap ((f.length:Int)-1)=n:=by
  rw[ym];rw[show ((n+1:Nat):Int)-1=((n:Nat):Int) by omega]
  exact tK (by omega)
 have hni:(n:Int)<f.length:=by omega
 have HST:=Aa d9;generalize numMv z=Z at CN;generalize numMb z=zb at CN;obtain⟨v7,hv7⟩:=d9.c7;rcases hn with ⟨rfl,h⟩|⟨h,h3⟩
 ·have c7:=d9.no rfl
  have h2:¬(f.length:Int)=2:=by omega
  clear d9 lk hz hf vn hl ym;go_enter Tryz.func26,Tryz.ntmps26
  go_wp2_with fail
  refine(CN _).out.mono ?_;rintro e w1 ⟨rfl,aq⟩;have d7:=aq.cell c7;go_wp2_with fail
  go_ret;exact dH.err HL.out (by decide) (EB.of aq hB) (CB.of aq)
 ·cases st with
  | none=>exact absurd rfl h
  | some ms =>
   obtain⟨m,seen⟩:=ms;obtain⟨mb,bm,c7,_⟩:=d9.so m seen rfl;have h2:¬(f.length:Int)=3:=by omega
   clear d9 lk hz hf vn hl ym h h3;go_enter Tryz.func26,Tryz.ntmps26
   go_wp2_with fail
   refine(CN _).out.mono ?_;rintro e w1 ⟨rfl,aq⟩;have d7:=aq.cell c7;go_wp2_with fail
   go_ret;exact dH.err HL.out (by decide) (EB.of aq hB) (CB.of aq)
theorem yS0 (d9:PSt w B b7 b8 bs N none) (hB:B<=w.heap.size) (jd:1<=p.length/\p.length<=64) (c3:w.cell? ⟨b3,0,none⟩=some (.slice pa p.length pc)) (a b:ByteArray) (fa:Option Addr) (fc:Nat) (hf:aF w fa 1 ([a,b].map tG0)) (hbs:b.size<=1048577) :
  Calls Tryz.prog 26 #[.slice fa 2 fc,.pointer (some ⟨b7,0,none⟩),.pointer (some ⟨b3,0,none⟩),.pointer (some ⟨b8,0,none⟩)] w (dH p none [a,b] B b7 b8 bs N w):=by
 obtain⟨fb,fo,rfl,lk⟩:=hf.get (by simp);have f0:w.cell? ⟨fb,fo,none⟩=some (.string a):=lk 0 a rfl 0 _ rfl;have f1:w.cell? ⟨fb,fo+1,none⟩=some (.string b):=lk 1 b rfl 0 _ rfl;have CN:=λW=>Aa (pT b W (by omega));have c7:=d9.no rfl;have HST:=Aa d9;by_cases ha:a=gA1
 ·have ha2:a.toList=[100,101,102,97,117,108,116]:=by rw[ha,Ag];rfl
  cases hb:numMb b
  ·have hl:(lineM p none [a,b]).2=5:=by rw[lW (λh=>by have h3:=h.2.2;rw[show iE [a,b] 1=b from rfl,hb]at h3;cases h3)]
   have HL:=Aa hl;rw[hb]at CN;generalize numMv b=Z at CN;clear d9 lk hf hl ha hb;go_enter Tryz.func26,Tryz.ntmps26
   go_wp2_with fail
   refine(CN _).out.mono ?_;rintro e w1 ⟨rfl,aq⟩;have d7:=aq.cell c7;have d0:=aq.cell f0;go_wp2_with fail
   go_ret;exact dH.err HL.out (by decide) (EB.of aq hB) (CB.of aq)
  ·have hl:lineM p none [a,b]=_:=kH0 ha hb
   have n9:=oZ hb;have HL:=Aa hl;rw[hb]at CN;have ko:uD0 (p.length:Int) (numMv b)=true:=lD.2 ⟨by omega,by omega,n9.1,n9.2⟩;have HNB:=Aa ko;generalize numMv b=Z at *;have f7:=d9.f7;have aw:=d9.n78;have h7:=d9.lt7;clear d9 lk hf hl ha hb ko;go_enter Tryz.func26,Tryz.ntmps26
   go_wp2_with fail
   refine(CN _).out.mono ?_;rintro e w1 ⟨rfl,aq⟩;have d7:=aq.cell c7;have d0:=aq.cell f0;have d3:=aq.cell c3;go_wp2_with fail
   refine(yC0 _ _ _ HNB.out).mono ?_;rintro e w2 ⟨rfl,zw,an⟩;have e7:=an.cell d7;have ej:=aq.tr an;have ef7:=(ej.froz (p:=⟨b7,0,none⟩) h7).trans f7;have HM2:=Aa zw;have gk:=aq.size;clear zw;go_wp2_with fail
   go_ret;have vi:=HST.out.grows ej;obtain⟨D,ae,hD⟩:=vi.mp;have hm3:=HM2.out;have zy:w1.heap.size+1≠b7:=by omega
   have hmm:w1.heap.size≠b7:=by omega
   have cs:∀ {q:Addr} {v:Value},q.block≠b7->w2.cell? q=some v->(w2.setCell ⟨b7,0,none⟩ (.pointer (some ⟨w1.heap.size+1,0,none⟩))).cell? q=some v:=λhq hc=>(CB.set b7 0 _).cell _ _ hq hc
   have ahc:∀ {bb n:Nat} {D':DataW Unit},w2.ownsMap Tryz.prog 84 (plainElem Tryz.prog 3) bb n D'->(w2.setCell ⟨b7,0,none⟩ (.pointer (some ⟨w1.heap.size+1,0,none⟩))).ownsMap Tryz.prog 84 (plainElem Tryz.prog 3) bb n D':=λ{bb n D'} ho=>by
    have ajh:=fT ho e7;refine ho.kept (row:=some b7) ⟨rfl,rfl,rfl,by simp,λk hk j7=>heap_setCell_other _ _ _ _ (λe=>j7 (by rw[e]))⟩ (λe=>ajh (by have:=Option.some.inj e;simp only;omega))
   refine⟨by rw[HL.out];rfl,λ_=>?_,?_,((CB.of ej).trans (CB.set b7 0 _))⟩
   ·rw[HL.out]
    refine⟨vi.g7,vi.gs,aw,cs aw vi.c8,⟨_,Ac _ _ _ e7⟩,by rw[World.frozen?_setCell];exact ef7,⟨D,(ahc ae).mono (Nat.le_succ _),hD⟩,λh=>(by cases h),λm seen h=>?_⟩;cases h
    obtain⟨D2,aj,hD2⟩:=hm3.own;refine⟨_,_,Ac _ _ _ e7,⟨hm3.ok,cs zy hm3.c0,cs zy hm3.c1,cs zy hm3.c2,D2,ahc aj,hD2⟩,by omega,by omega,λe=>?_,zy⟩
    have:=(HST.out.mp)
    obtain⟨D0,dx,_⟩:=this
    have:=dx.lt
    omega
   ·exact EB.trans _ _ _ _ (EB.of ej hB) ⟨(Below.refl _ _).setCell HST.out.g7 _,by simp⟩
 ·have ha2:¬a.toList=[100,101,102,97,117,108,116]:=λh=>ha (by
   have h3:a.toList=gA1.toList:=by rw[h,Ag];rfl
   exact rK.1 (by unfold seq;rw[h3];simp))
  have hl:(lineM p none [a,b]).2=5:=by rw[lW (f:=[a,b]) (λh=>ha h.2.1)]
  have HL:=Aa hl;generalize numMv b=Z at CN;generalize numMb b=zb at CN;clear d9 lk hf hl ha;go_enter Tryz.func26,Tryz.ntmps26
  go_wp2_with fail
  refine(CN _).out.mono ?_;rintro e w1 ⟨rfl,aq⟩;have d7:=aq.cell c7;have d0:=aq.cell f0;go_wp2_with fail
  go_ret;exact dH.err HL.out (by decide) (EB.of aq hB) (CB.of aq)
end
end
section
open Go Go.RowKit Go.Shelf
attribute [local go_sem] aM aP
theorem fX1:Go.WideMaps.KeyLaw Tryz.prog 84:=deep_law_laid gK0 (m:=3) (by decide) (of_decide_eq_true (by kernel_rfl)) (by kernel_rfl) (by kernel_rfl)
section
variable {w:World} {B b3 b7 b8 bs N:Nat} {p:List bT} {pa:Option Addr} {pc:Nat}
theorem lR0 (m:Mx) (seen:List (Nat×Nat)) (d9:PSt w B b7 b8 bs N (some (m,seen))) (hB:B<=w.heap.size) (hN:N<=2097152) (jd:1<=p.length/\p.length<=64) (vk:m.n=p.length) (c3:w.cell? ⟨b3,0,none⟩=some (.slice pa p.length pc)) (hp:aF w pa 2 (p.map bI)) (x y z:ByteArray) (fa:Option Addr) (fc:Nat) (hf:aF w fa 1 ([x,y,z].map tG0)) (qb:z.size<=1048577) :
  Calls Tryz.prog 26 #[.slice fa 3 fc,.pointer (some ⟨b7,0,none⟩),.pointer (some ⟨b3,0,none⟩),.pointer (some ⟨b8,0,none⟩)] w (dH p (some (m,seen)) [x,y,z] B b7 b8 bs N w):=by
 obtain⟨fb,fo,rfl,lk⟩:=hf.get (by simp);have f0:w.cell? ⟨fb,fo,none⟩=some (.string x):=lk 0 x rfl 0 _ rfl;have f1:w.cell? ⟨fb,fo+1,none⟩=some (.string y):=lk 1 y rfl 0 _ rfl;have f2:w.cell? ⟨fb,fo+2,none⟩=some (.string z):=lk 2 z rfl 0 _ rfl;have CN:=λW=>Aa (pT z W (by omega));have CX:=λW (hW:aB w W)=>Aa (iR p x pa pc W (by omega) (hp.grows hW));have CY:=λW (hW:aB w W)=>Aa (iR p y pa pc W (by omega) (hp.grows hW));obtain⟨mb,bm,c7,yx,aji,ahd,kc,hm7⟩:=d9.so m seen rfl;have c8:=d9.c8;have HST:=Aa d9;have HMAT:=Aa yx;have HC7:=Aa c7;have HC8:=Aa c8;cases hz:numMb z
 ·have hl:(lineM p (some (m,seen)) [x,y,z]).2=5:=by rw[cE0 (λh=>by have h3:=h.2;rw[show iE [x,y,z] 2=z from rfl,hz]at h3;cases h3)]
  have HL:=Aa hl;rw[hz]at CN;generalize numMv z=Z at CN;clear d9 lk hf hl hz yx CX CY hp;go_enter Tryz.func26,Tryz.ntmps26
  go_wp2_with fail
  refine(CN _).out.mono ?_;rintro e w1 ⟨rfl,aq⟩;have d7:=aq.cell c7;go_wp2_with fail
  go_ret;exact dH.err HL.out (by decide) (EB.of aq hB) (CB.of aq)
 ·have hl:=nC0 (p:=p) (m:=m) (seen:=seen) (x:=x) (y:=y) hz
  have n9:=oZ hz;have HL:=Aa hl;rw[hz]at CN;generalize numMv z=Z at *;have hox:∀i:Nat,posFind p x=some i->i<p.length:=λi=>uJ;have hoy:∀i:Nat,posFind p y=some i->i<p.length:=λi=>uJ;generalize posFind p x=ox at *;generalize posFind p y=oy at *;clear d9 lk hf hl hz yx hp;go_enter Tryz.func26,Tryz.ntmps26
  go_wp2_with fail
  refine(CN _).out.mono ?_;rintro e w1 ⟨rfl,aq⟩;have d7:=aq.cell c7;have z0:∀q:Ext aB w1.drew,q.u.cell? ⟨fb,fo,none⟩=some (.string x):=aG (aq.dr.cell f0);have z3:∀q:Ext aB w1.drew,q.u.cell? ⟨b3,0,none⟩=some (.slice pa p.length pc):=aG (aq.dr.cell c3);go_wp2_with fail
  refine bH (aT 10 [4]) (by kernel_rfl) (λd _ _ _ _ h=>by cases d<;>exact h) ?_
  iterate 4 (refine aJ rfl (λK hK=>?_);go_simp;refine hK _ ?_;clear hK K)
  refine bM rfl rfl (λK hK=>?_);go_simp;refine(CX _ aq.dr).out.mono ?_;rintro e w2 ⟨rfl,an⟩;refine⟨an,hK _ _ ?_⟩;clear hK K;iterate 5 (refine aJ rfl (λK hK=>?_);go_simp;refine hK _ ?_;clear hK K)
  refine bN ?_;clear z0 z3;have ej:=aq.dr.tr an;have z0:∀q:Ext aB w2.drew,q.u.cell? ⟨fb,fo+1,none⟩=some (.string y):=aG (ej.dr.cell f1);have z3:∀q:Ext aB w2.drew,q.u.cell? ⟨b3,0,none⟩=some (.slice pa p.length pc):=aG (ej.dr.cell c3);go_wp2_with fail
  refine bH (aT 10 [4]) (by kernel_rfl) (λd _ _ _ _ h=>by cases d<;>exact h) ?_
  iterate 4 (refine aJ rfl (λK hK=>?_);go_simp;refine hK _ ?_;clear hK K)
  refine bM rfl rfl (λK hK=>?_);go_simp;refine(CY _ ej.dr).out.mono ?_;rintro e w3 ⟨rfl,bu⟩;refine⟨bu,hK _ _ ?_⟩;clear hK K;iterate 5 (refine aJ rfl (λK hK=>?_);go_simp;refine hK _ ?_;clear hK K)
  refine bN ?_;clear z0 z3 CX CY CN;have gd:=ej.dr.tr bu;have jv:=gd.size;clear aq an ej bu d7 c7 c8 f0 f1 f2
  cases ox with
  | none =>
   cases oy with
   | none =>
    go_wp2_with fail
    go_ret;exact dH.err (by rw[HL.out]) (by decide) (EB.of gd hB) (CB.of gd)
   | some b =>
    go_wp2_with fail
    go_ret;exact dH.err (by rw[HL.out]) (by decide) (EB.of gd hB) (CB.of gd)
  | some a =>
   cases oy with
   | none =>
    go_wp2_with fail
    go_ret;exact dH.err (by rw[HL.out]) (by decide) (EB.of gd hB) (CB.of gd)
   | some b =>
    have ha:=hox a rfl;have hb:=hoy b rfl;simp only[findI,Option.isSome_some];have HL2:Hid (lineM p (some (m,seen)) [x,y,z]=if (a,b)∈seen then (some (m,seen),4) else (some (m.setIf ((a:Int),(b:Int)) Z,(a,b)::seen),0)):=HL.out
    clear HL hox hoy;go_wp2_with fail
    have ep:aB w (Ab (w3.alloc (.cells #[.int .i64 a,.int .i64 b] 84))):=(gd.al _).dr;have qA0:(Ab (w3.alloc (.cells #[.int .i64 a,.int .i64 b] 84))).cell? ⟨w3.heap.size,0,none⟩=some (.int .i64 a):=aX w3 #[.int .i64 a,.int .i64 b] 84 (0,0) 0 _ rfl;have qA1:(Ab (w3.alloc (.cells #[.int .i64 a,.int .i64 b] 84))).cell? ⟨w3.heap.size,1,none⟩=some (.int .i64 b):=aX w3 #[.int .i64 a,.int .i64 b] 84 (0,0) 1 _ rfl;have ek:Go.keyOf Tryz.prog 84 (.agg #[.int .i64 a,.int .i64 b])=some (klP ((a:Int),(b:Int))):=iR1 (x:=((a:Int),(b:Int))) (oE (by omega)) (oE (by omega));have jg:inP m.n ((a:Int),(b:Int))=true:=lJ.2 ⟨⟨by simp only;omega,by simp only;omega⟩,by simp only;omega,by simp only;omega⟩
    have tg:m.setB ((a:Int),(b:Int)) Z=true:=by
     unfold Mx.setB;rw[jg,pI.2 n9];rfl
    have HSB:=Aa tg;have adh:=HST.out.grows ep;have aev:=HMAT.out.grows ep;have aew:=ep.cell HC7.out;obtain⟨D,ae,hD⟩:=adh.mp;obtain⟨c,st,W2,xm,ah,aex,js,ja,yy⟩:=vV0 ae fX1 qP Tryz.underlying79 Tryz.underlying3 pF0 (by unfold maxLen;omega) ek;rw[show D.atKey (klP ((a:Int),(b:Int))) (.lit (.int .i64 0))=_ from hD a b (by omega) (by omega)]at ah
    have hc:c=if (a,b)∈eX1 (some (m,seen)) then 1 else 0:=by simpa using ah.symm
    obtain⟨G,hG⟩:=exq (goInt (st:Int));rw[<-hG]at xm yy;have ab2:=adh.c8;have HSA:=Aa adh;have HMA:=Aa aev;have HOWN:=Aa ae;have HD:=Aa hD;have n8:=fT ae ab2;have nb:=fT ae qA0;have n7:=fT ae aew;have nm:=fT ae aev.c0;simp only at n8 nb n7 nm;have HG1:=Aa ep;have ajj:w3.heap.size<(Ab (w3.alloc (.cells #[.int .i64 a,.int .i64 b] 84))).heap.size:=Ad _ _ qA0;clear ah hG ae hD jg tg adh aev ep ek;obtain⟨WA,hWA⟩:∃WA,Ab (w3.alloc (.cells #[.int .i64 a,.int .i64 b] 84))=WA:=⟨_,rfl⟩;rw[hWA]at qA0 qA1 xm aex js ab2 aew HSA HMA HOWN HG1 ajj;simp only[hWA]at yy;have qa:∀x:Ext (EM Tryz.prog 79 bs (.agg #[.int .i64 a,.int .i64 b])) WA,x.u.cell? ⟨b8,0,none⟩=some (.map (some bs)):=λx=>bB x.h.1 ab2 (λe=>n8 (Option.some.inj e));have qb0:∀x:Ext (EM Tryz.prog 79 bs (.agg #[.int .i64 a,.int .i64 b])) WA,x.u.cell? ⟨w3.heap.size,0,none⟩=some (.int .i64 a):=λx=>bB x.h.1 qA0 (λe=>nb (Option.some.inj e));have qb1:∀x:Ext (EM Tryz.prog 79 bs (.agg #[.int .i64 a,.int .i64 b])) WA,x.u.cell? ⟨w3.heap.size,1,none⟩=some (.int .i64 b):=λx=>bB x.h.1 qA1 (λe=>nb (Option.some.inj e));have ql:∀x:Ext (EM Tryz.prog 79 bs (.agg #[.int .i64 a,.int .i64 b])) WA,(Instr.lookup 79 (.map (some bs)) (.agg #[.int .i64 a,.int .i64 b]) false).run Tryz.prog x.u=.ok (.int .i64 c) x.u:=λx=>x.h.2 _ js;have xh:=iR1 (x:=((a:Int),(b:Int))) (oE (by omega)) (oE (by omega));have HISM:=Aa (HOWN.out.isMap);by_cases hs:(a,b)∈seen
    ·have jr:c=1:=by rw[hc];exact if_pos hs
     subst jr;obtain⟨w5,pt,ai,i5⟩:=yy 2 (by decide);obtain⟨c5,hl5,gw,_⟩:=ai.lookup_int qP Tryz.underlying79 Tryz.underlying3 (pF0 _) xh;rw[Go.Maps.atKey_put_same HISM.out (yL _)]at gw;have hc5:c5=2:=by simpa using gw.symm
     subst hc5;have e8:=bB i5 ab2 (λe=>n8 (Option.some.inj e));have e0:=bB i5 qA0 (λe=>nb (Option.some.inj e));have e1:=bB i5 qA1 (λe=>nb (Option.some.inj e))
     have HL3:Hid ((lineM p (some (m,seen)) [x,y,z]).2=4):=by
      have:=HL2.out
      rw[if_pos hs]at this;rw[this];rfl
     have ajk:(Instr.lookup 79 (.map (some bs)) (.agg #[.int .i64 a,.int .i64 b]) false).run Tryz.prog w5=.ok (.int .i64 2) w5:=hl5;clear yy gw ai hl5 hc HL2 xh;refine gO0 (EM Tryz.prog 79 bs (.agg #[.int .i64 a,.int .i64 b])) 6 (aT 6 [4]) (EM.refl _ _ _ _) (EM.trans _ _ _ _) (by kernel_rfl) (by kernel_rfl) (λd _ _ _ _ h=>by cases d<;>exact h) ?_
     rw[show Ab (w3.alloc (.cells #[.int .i64 a,.int .i64 b] 84))=WA from hWA]
     iterate 4 (refine aJ rfl (λK hK=>?_);go_simp;refine hK _ ?_;clear hK K)
     refine bM rfl rfl (λK hK=>?_);go_simp;refine⟨⟨aex,λv h=>by rw[js]at h;cases h;exact ja⟩,hK _ _ ?_⟩;clear hK K;iterate 1 (refine aJ rfl (λK hK=>?_);go_simp;refine hK _ ?_;clear hK K)
     refine bN ?_;clear qa qb0 qb1 ql;simp only[Af,Ah];go_wp2_with fail
     rw[pt];go_wp2_with fail
     go_ret;exact dH.err HL3.out (by decide) (EB.trans _ _ _ _ (EB.of HG1.out hB) ⟨Below.grown (Below.refl _ _) i5 (Ae hB HG1.out.size) (λq hq=>by cases hq;exact HSA.out.gs),i5.size⟩) ((CB.of HG1.out).trans (CB.of_map HOWN.out i5))
    ·have jr:c=0:=by rw[hc];exact if_neg hs
     subst jr;obtain⟨w5,pt,ai,i5⟩:=yy 1 (by decide);obtain⟨c5,hl5,gw,_⟩:=ai.lookup_int qP Tryz.underlying79 Tryz.underlying3 (pF0 _) xh;rw[Go.Maps.atKey_put_same HISM.out (yL _)]at gw;have hc5:c5=1:=by simpa using gw.symm
     subst hc5;have e8:=bB i5 ab2 (λe=>n8 (Option.some.inj e));have e7:=bB i5 aew (λe=>n7 (Option.some.inj e));have e0:=bB i5 qA0 (λe=>nb (Option.some.inj e));have e1:=bB i5 qA1 (λe=>nb (Option.some.inj e))
     have HL3:Hid (lineM p (some (m,seen)) [x,y,z]=(some (m.setIf ((a:Int),(b:Int)) Z,(a,b)::seen),0)):=by
      have:=HL2.out
      rw[if_neg hs]at this;exact this
     have ajk:(Instr.lookup 79 (.map (some bs)) (.agg #[.int .i64 a,.int .i64 b]) false).run Tryz.prog w5=.ok (.int .i64 1) w5:=hl5;have hm5:gA w5 mb bm m:=HMA.out.kept i5 (λe=>nm (Option.some.inj e)) (λe=>kc (Option.some.inj e));have HM5:=Aa hm5;have HO5:=Aa ai;have HF7:Hid (w5.frozen? ⟨b7,0,none⟩=false):=(lB i5 (p:=⟨b7,0,none⟩) HSA.out.lt7 (λe=>n7 (Option.some.inj e))).trans HSA.out.f7;clear yy gw ai hl5 hc HL2 xh hm5;refine gO0 (EM Tryz.prog 79 bs (.agg #[.int .i64 a,.int .i64 b])) 6 (aT 6 [4]) (EM.refl _ _ _ _) (EM.trans _ _ _ _) (by kernel_rfl) (by kernel_rfl) (λd _ _ _ _ h=>by cases d<;>exact h) ?_
     rw[show Ab (w3.alloc (.cells #[.int .i64 a,.int .i64 b] 84))=WA from hWA]
     iterate 4 (refine aJ rfl (λK hK=>?_);go_simp;refine hK _ ?_;clear hK K)
     refine bM rfl rfl (λK hK=>?_);go_simp;refine⟨⟨aex,λv h=>by rw[js]at h;cases h;exact ja⟩,hK _ _ ?_⟩;clear hK K;iterate 1 (refine aJ rfl (λK hK=>?_);go_simp;refine hK _ ?_;clear hK K)
     refine bN ?_;clear qa qb0 qb1 ql;simp only[Af,Ah];go_wp2_with fail
     rw[pt];go_wp2_with fail
     refine(wB0 w5 mb bm m HM5.out a b Z (by unfold WfI;exact WalkArith.wf_i64 (by omega))).mono ?_;rintro e w6 ⟨rfl,hm6,vj⟩;rw[HSB.out];go_wp2_with fail
     go_ret;obtain⟨Dm,hom,_⟩:=HM5.out.own;have k8:=fT hom e8;have k7:=fT hom e7;simp only at k8 k7;refine⟨by rw[HL3.out];rfl,λ_=>?_,?_,((CB.of HG1.out).trans (CB.of_map HOWN.out i5)).trans (CB.of_map hom vj)⟩
     ·rw[HL3.out]
      have c7':=bB vj e7 (λe=>k7 (Option.some.inj e));refine⟨HSA.out.g7,HSA.out.gs,HSA.out.n78,bB vj e8 (λe=>k8 (Option.some.inj e)),⟨_,c7'⟩,(lB vj (p:=⟨b7,0,none⟩) (Ad _ _ e7) (λe=>k7 (Option.some.inj e))).trans HF7.out,⟨_,HO5.out.kept vj (λe=>kc (Option.some.inj e).symm),HD.out.put HISM.out (by omega) (by omega)⟩,λh=>(by cases h),λm' f8 h=>?_⟩;cases h
      exact⟨mb,bm,c7',hm6,aji,ahd,kc,hm7⟩
     ·exact EB.trans _ _ _ _ (EB.trans _ _ _ _ (EB.of HG1.out hB) ⟨Below.grown (Below.refl _ _) i5 (Ae hB HG1.out.size) (λq hq=>by cases hq;exact HSA.out.gs),i5.size⟩) ⟨Below.grown (Below.refl _ _) vj (Ae hB (Ae HG1.out.size i5.size)) (λq hq=>by cases hq;exact ahd),vj.size⟩
end
end
end Go.Proofs.YtiopheoljccmpaaGreatDoor
