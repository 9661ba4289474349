/- The texts LoD DopP OpnP Dop1 Dct2 Dct3 Dop2, one behind the other. -/
import Derived.Test.YtheiocndipepaaaGreatDoorKq44
import Derived.Test.YtheiocndipepaaaGreatDoorKq43
import Derived.Test.YtheiocndipepaaaGreatDoorKq42
import Derived.Test.YtheiocndipepaaaGreatDoorKq39
import Derived.Test.YtheiocndipepaaaGreatDoorKq37
import Derived.Test.YtheiocndipepaaaGreatDoorKq40
import Derived.Test.YtheiocndipepaaaGreatDoorKq41
import Derived.Test.YtheiocndipepaaaGreatDoorKq24
import Derived.Test.YtheiocndipepaaaGreatDoorKq38
import Derived.Test.YtheiocndipepaaaGreatDoorKq12
open List renaming length_map → Aa,getElem?_eq_getElem → Ad,range' → Af,map_append → Am,mem_of_getElem? → Aq,append_toArray → Ar,size_toArray → At,push_toArray → Au,length_cons → Av,cons_append → Aw,length_nil → Az,nil_append → Ba,drop_zero → Bb,length → Bf
open Go.Lib renaming hid → Ab,size_eq → Be
open Array renaming getElem?_setIfInBounds_self → Ac,getElem?_setIfInBounds_ne → Ae,size_setIfInBounds → Ag,getElem?_setIfInBounds → Ah,replicate_succ → Ao,replicate_zero → Ap
open Go.IntKind renaming signed → Ai,wrap → Ak,bits → Al
open Go.World renaming block_lt_of_cell? → Aj,size_alloc → Ax
open Nat renaming add_le_add_right → An,le_trans → As,le_refl → Ay,reduceAdd → Bc,reduceSub → Bd,zero_le → Bg
set_option maxHeartbeats 8000000
namespace Go.Proofs.YtheiocndipepaaaGreatDoor
set_option maxRecDepth 100000
section
open Go Go.RowKit Go.Shelf
attribute [local go_sem] aM aK
theorem yX0 {w:World} {a:Option Addr} {c:Nat} {l:List UInt8} (hn:l≠[]) (ac:aF w a 1 (l.map aX)):(convert 36 9 (.slice a l.length c)).run Tryz.prog w=.ok (.string (mkB l)) w:=by
 obtain⟨b,o,rfl,hc⟩:=at1 (f:=λx:UInt8=>Value.int .u8 x.toNat) ac hn;have hz:(mkB l).size=l.length:=by rw[Be,gZ]
 have hBy:Lib.Bytes w b o (mkB l):=λj hj=>by
  rw[hz]at hj;have h:=hc j _ (Ad hj);rw[h];rfl
 have:=Lib.run_convert_whole (P:=Tryz.prog) w 36 5 9 Tryz.underlying36 Tryz.underlying5 Tryz.underlying9 b o (mkB l) hBy c
 rw[hz]at this;exact this
theorem pY0 (L:List (List UInt8)):loudE L=sF [pH (shapeL L (nodesA L)),labelsL L (nodesA L),pH (isL L (nodesA L)),packE (idsL L (nodesA L))] 0:=by
 unfold loudE sF;simp only[Bb,List.flatMap_cons,List.flatMap_nil,List.append_nil,List.append_assoc]
theorem jH1 (L:List (List UInt8)) (ba:Option Addr) (bc:Nat) (w:World) (kw:dC L=0) (fg:(loudE L).length<=bc) (ac:aF w ba 1 ((loudE L).map aX)) :
  Calls Tryz.prog 116 #[.slice ba (loudE L).length bc] w λe w'=>∃tb,e=.returned (.tuple #[.pointer (some ⟨tb,0,none⟩),.int .i64 0])/\eF w' tb L/\w.heap.size+2<=tb/\Grows w w':=by
 obtain⟨ah,hl,hc⟩:=dO kw;obtain⟨z1,z2,z3,z4,z5⟩:=ah.sizes hl hc;have m9:∀n∈idsL L (nodesA L),n<18446744073709551616:=λn hn=>by have:=z5 n hn;omega
 have e1:=oT (shapeL L (nodesA L));have e2:=oT (isL L (nodesA L));have e3:=cE0 (idsL L (nodesA L));have hwd:pF (idsL L (nodesA L))<=64:=oY.2 m9;have fx:(idsL L (nodesA L)).length*pF (idsL L (nodesA L))<=524287*64:=Nat.mul_le_mul z4 hwd;have hp:=pY0 L
 have ai:loudE L≠[]:=by
  rw[hp,gQ0 (k:=0) rfl];intro e
  have:=congrArg Bf e
  rw[List.length_append,bM]at this;simp at this
 have HAT:=Ab ac;have HNE:=Ab ai;have CPA:=tY0 (pH (shapeL L (nodesA L))) (labelsL L (nodesA L)) (pH (isL L (nodesA L))) (packE (idsL L (nodesA L))) ba bc w (by omega) (by omega) (by omega) (by omega) (by rw[<-hp];exact fg) (by rw[<-hp];exact ac);rw[<-hp]at CPA;have HCPA:=Ab CPA;have CS:=λ(a:Option Addr) (c:Nat) (u:World) h1 h2=>Ab (rG0 (shapeL L (nodesA L)) a c u z1 h1 h2);have CI:=λ(a:Option Addr) (c:Nat) (u:World) h1 h2=>Ab (rG0 (isL L (nodesA L)) a c u (by omega) h1 h2);have CD:=λ(a:Option Addr) (c:Nat) (u:World) h1 h2 h3=>Ab (sE0 (idsL L (nodesA L)) a c u (by omega) m9 h1 h2 h3);have CG:=λ(sb ib pb:Nat) (la:Option Addr) (lc:Nat) (u:World) h1 h2 h3 h4=>Ab (jK1 L sb ib pb la lc u ah hl hc h1 h2 h3 h4)
 have CB:∀(a:Option Addr) (c:Nat) (u:World),(∀q,a=some q->q.block<u.heap.size)->aF u a 1 ((L.map mkB).map stC)->Hid (Calls Tryz.prog 35 #[.slice a L.length c] u λe w'=>∃tb,e=.returned (.tuple #[.pointer (some ⟨tb,0,none⟩),.int .i64 0])/\eF w' tb L/\u.heap.size+2<=tb/\Grows u w'):=λa c u h1 h2=>by
  have h:=xP (L.map mkB) a c u (by rw[Aa];omega) (λs hs=>by
   obtain⟨x,hx,rfl⟩:=List.mem_map.1 hs
   have:=ah.len x hx
   rw[Be,gZ];omega) h1 h2
  rw[mT1,Aa]at h;refine h.mono ?_;rintro e w' ⟨hg,h3|h3⟩
  ·obtain⟨_,tb,h4,h5,h6⟩:=h3
   exact⟨tb,h4,h5,h6,hg⟩
  ·exact absurd kw h3.1
 have CE:=λ(tb:Nat) (u:World) h=>Ab (iU0 L tb u ah hl hc h);obtain⟨b,hb⟩:=exq (loudE L);rw[<-hb]at HAT HNE HCPA CE ⊢;clear kw fg ac ah hl hc z1 z2 z3 z4 z5 m9 e1 e2 e3 hwd fx hp ai CPA hb;go_enter Tryz.func116,Tryz.ntmps116
 go_wp2_with fail
 refine HCPA.out.mono ?_;rintro e w1 ⟨v0,v1,v2,v3,rfl,h0,h1,h2,h3,ag⟩;obtain⟨a0,c0,rfl,x0,y0,t0⟩:=h0.out;obtain⟨a1,c1,rfl,x1,y1,t1⟩:=h1.out;obtain⟨a2,c2,rfl,x2,y2,t2⟩:=h2.out;obtain⟨a3,c3,rfl,x3,y3,t3⟩:=h3.out;clear HCPA h0 h1 h2 h3;obtain⟨W2,gm⟩:=exq (w1.alloc (.cells #[.slice a0 (pH (shapeL L (nodesA L))).length c0,.slice a1 (labelsL L (nodesA L)).length c1,.slice a2 (pH (isL L (nodesA L))).length c2,.slice a3 (packE (idsL L (nodesA L))).length c3] 226));obtain⟨xb,pu⟩:=exq w1.heap.size;have ev:=λj u h=>aT w1 #[.slice a0 (pH (shapeL L (nodesA L))).length c0,.slice a1 (labelsL L (nodesA L)).length c1,.slice a2 (pH (isL L (nodesA L))).length c2,.slice a3 (packE (idsL L (nodesA L))).length c3] 226 (0,0) j u h;rw[<-gm,<-pu]at ev;have b0:=ev 0 _ rfl;have b1:=ev 1 _ rfl;have b2:=ev 2 _ rfl;have b3:=ev 3 _ rfl;have af:Grows w1 W2:=by rw[gm];exact Grows.alloc _ _
 have HT1:=Ab (t1.grows af);have CS1:=CS a0 c0 W2 x0 (t0.grows af);have CI1:=λu (hu:Grows W2 u)=>CI a2 c2 u x2 ((t2.grows af).grows hu);have CD1:=λu (hu:Grows W2 u)=>CD a3 c3 u x3 y3 ((t3.grows af).grows hu);have iq:=ag.tr af;clear ev CS CI CD t0 t1 t2 t3 x0 x1 x2 x3 y0 y1 y2 y3;go_wp2_with fail
 rw[<-gm,<-pu];clear gm pu ag af;refine CS1.out.mono ?_;rintro e w3 ⟨sb,rfl,nt,aw⟩;replace b1:=aw.cell b1;replace b2:=aw.cell b2;replace b3:=aw.cell b3;clear CS1 b0;go_wp2_with fail
 refine(CI1 w3 aw).out.mono ?_;rintro e w4 ⟨ib,rfl,hib,bj⟩;replace b1:=bj.cell b1;replace b3:=bj.cell b3;have ahc:=nt.grows bj;have aef:=aw.tr bj;clear CI1 b2 nt;go_wp2_with fail
 refine(CD1 w4 aef).out.mono ?_;rintro e w5 ⟨pb,rfl,fx,bg⟩;replace b1:=bg.cell b1;have ahd:=aef.tr bg;have dp:=iq.tr ahd;have CG1:=CG sb ib pb a1 c1 w5 (ahc.grows bg) (hib.grows bg) fx (HT1.out.grows ahd);clear CD1 CG b3 ahc hib fx aw bj aef;go_wp2_with fail
 refine CG1.out.mono ?_;rintro e w6 ⟨v6,rfl,nc,cg⟩;have aeg:=gO nc;obtain⟨a6,c6,rfl,_,_,mh⟩:=nc.at_ (enc:=stC) (λ_=>rfl);rw[Aa]at aeg ⊢;have CB1:=CB a6 c6 w6 (λq hq=>aeg q.block (by rw[hq];rfl)) mh;have te:=dp.tr cg;clear CG1 CB nc aeg mh cg bg dp;go_wp2_with fail
 refine CB1.out.mono ?_;rintro e w7 ⟨tb,rfl,htb,gw,cw⟩;have HLO:=Ab (As (An te.size 2) gw);clear gw;have HTB:=Ab htb;have CE1:=CE tb w7.drew (htb.grows (Grows.drew w7));have tf:=te.tr cw;have uk:∀x:Ext Grows w7.drew,(convert 36 9 (.slice ba b.length bc)).run Tryz.prog x.u=.ok (.string (mkB b)) x.u:=λx=>yX0 (c:=bc) HNE.out (HAT.out.grows (tf.dr.tr x.h));clear CB1 CE htb cw te;go_wp2_with fail
 refine bE (lT [0,1,2,3,6,7,4,5,8,9] [4]) (by kernel_rfl) (λd _ _ _ _ h=>by cases d<;>exact h) ?_
 iterate 6 (refine aG rfl (λK hK=>?_);go_simp;refine hK _ ?_;clear hK K)
 refine aZ rfl rfl (λK hK=>?_);go_simp;refine(CE1.out).mono ?_;rintro e w8 ⟨v8,rfl,px,fq⟩;refine⟨fq,hK _ _ ?_⟩;clear hK K;have hcv:∀x:Ext Grows w8,(convert 36 9 v8).run Tryz.prog x.u=.ok (.string (mkB b)) x.u:=λx=>aI0 (px.grows x.h);have nf:=tf.dr.tr fq;have HTB8:=Ab (HTB.out.grows ((Grows.drew w7).tr fq));have ab3:((mkB b).toList==(mkB b).toList)=true:=by simp
 clear CE1 HTB px fq tf uk;iterate 3 (refine aG rfl (λK hK=>?_);go_simp;refine hK _ ?_;clear hK K)
 refine bH ?_;go_wp2
 go_ret2;exact⟨tb,rfl,HTB8.out,HLO.out,nf⟩
end
section
open Go Go.RowKit Go.Shelf
def kY0 (lo:Nat) (p:List cH) (m:Mx) (es:List En) (w:World):Nat->Value->Prop
 | 0,v=>aV w 0 126 2 bG v p
 | 1,v=>∃mb bm,v=.pointer (some ⟨mb,0,none⟩)/\fM w mb bm m
 | 2,v=>∃tb,v=.pointer (some ⟨tb,0,none⟩)/\eF w tb (bls (readL es))/\lo+2<=tb
 | 3,v=>∃tb,v=.pointer (some ⟨tb,0,none⟩)/\eF w tb (bls (surfL es))/\lo+2<=tb
 | 4,v=>∃pb,v=.pointer (some ⟨pb,0,none⟩)/\lE w pb (gT rS es es.length)
 | 5,v=>∃pb,v=.pointer (some ⟨pb,0,none⟩)/\lE w pb (es.map (yX (surfL es)))
 | 6,v=>∃pb,v=.pointer (some ⟨pb,0,none⟩)/\lE w pb (es.map λx=>x.l.toNat)
 | 7,v=>∃pb,v=.pointer (some ⟨pb,0,none⟩)/\lE w pb (es.map λx=>x.t.toNat)
 | 8,v=>∃pb,v=.pointer (some ⟨pb,0,none⟩)/\lE w pb (es.map λx=>x.c.toNat)
 | 9,v=>∃pb,v=.pointer (some ⟨pb,0,none⟩)/\lE w pb (aE0 es)
 | 10,v=>∃pb,v=.pointer (some ⟨pb,0,none⟩)/\lE w pb (gT gD0 (gP es) es.length)
 | _+11,_=>True
variable {lo db:Nat} {p:List cH} {m:Mx} {es:List En} {w w':World} {i:Nat} {v:Value}
theorem kY0.grows (h:kY0 lo p m es w i v) (hg:Grows w w'):kY0 lo p m es w' i v:=by
 match i,h with
 | 0,h=>exact aV.grows h hg
 | 1,⟨mb,bm,e,hm⟩=>exact⟨mb,bm,e,hm.grows hg⟩
 | 2,⟨tb,e,ht,hl⟩=>exact⟨tb,e,ht.grows hg,hl⟩
 | 3,⟨tb,e,ht,hl⟩=>exact⟨tb,e,ht.grows hg,hl⟩
 | 4,⟨pb,e,hp⟩=>exact⟨pb,e,hp.grows hg⟩
 | 5,⟨pb,e,hp⟩=>exact⟨pb,e,hp.grows hg⟩
 | 6,⟨pb,e,hp⟩=>exact⟨pb,e,hp.grows hg⟩
 | 7,⟨pb,e,hp⟩=>exact⟨pb,e,hp.grows hg⟩
 | 8,⟨pb,e,hp⟩=>exact⟨pb,e,hp.grows hg⟩
 | 9,⟨pb,e,hp⟩=>exact⟨pb,e,hp.grows hg⟩
 | 10,⟨pb,e,hp⟩=>exact⟨pb,e,hp.grows hg⟩
 | _+11,_=>trivial
structure yB0 (w:World) (db:Nat) (cs:Array Value):Prop where
 tb:TB w db cs 95
 sz:cs.size=11
 c0:∃a n c,cs[0]?=some (.slice a n c)
theorem yB0.ne {cs:Array Value} (h:yB0 w db cs) {x:Nat} {u:Value} (hc:w.cell? ⟨x,0,none⟩=some u) (hu:∀a n c,u ≠ .slice a n c):¬x=db:=by
 rintro rfl;obtain⟨a,n,c,h0⟩:=h.c0
 have:=h.tb.cell h0
 rw[hc]at this;exact hu a n c (Option.some.inj this)
theorem yB0.out1 {cs:Array Value} (h:yB0 w db cs) {e:TypeId} (ai:95≠e):∀q,(λk=>k=db) q->∃o,w.heap[q]?=some o/\rR o≠some e:=sV0 h.tb ai
theorem yB0.out2 {cs:Array Value} (h:yB0 w db cs):∀q,(λk=>k=db) q->∃o,w.heap[q]?=some o/\rR o≠some 144/\rR o≠some 3:=λq hq=>by
 have:q=db:=hq
 subst this;exact⟨_,h.tb,by simp[rR],by simp[rR]⟩
theorem mP {cs:Array Value} (h:yB0 w db cs) {pb:Nat} {l:List Nat} (hp:lE w pb l) (o:Nat) (u:Value):lE (w.setCell ⟨db,o,none⟩ u) pb l :=
 rF hp (iQ w db o u) (h.ne hp.c0 (λ_ _ _ e=>by cases e)) h.out2
theorem tL0 {cs:Array Value} (h:yB0 w db cs) {tb:Nat} {L:List (List UInt8)} (ht:eF w tb L) (o:Nat) (u:Value):eF (w.setCell ⟨db,o,none⟩ u) tb L:=by
 obtain⟨sb,s1,s2⟩:=ht.s;obtain⟨ib,i1,i2⟩:=ht.i;obtain⟨vL,l1,l2⟩:=ht.l;obtain⟨pb,d1,d2⟩:=ht.d;obtain⟨vN,n1,n2⟩:=ht.n;have ho:=iQ w db o u;have hn:=h.ne s1 (λ_ _ _ e=>by cases e)
 exact⟨⟨sb,cO s1 ho hn,fS s2 ho (h.ne s2.c0 (λ_ _ _ e=>by cases e)) h.out2⟩,⟨ib,cO i1 ho hn,fS i2 ho (h.ne i2.c0 (λ_ _ _ e=>by cases e)) h.out2⟩,
  ⟨vL,cO l1 ho hn,iY l2 ho (h.out1 (by decide))⟩,⟨pb,cO d1 ho hn,mP h d2 o u⟩,⟨vN,cO n1 ho hn,iY n2 ho (h.out1 (by decide))⟩⟩
theorem mZ1 {cs:Array Value} (h:yB0 w db cs) {mb bm:Nat} {m:Mx} (hm:fM w mb bm m) (o:Nat) (u:Value):fM (w.setCell ⟨db,o,none⟩ u) mb bm m:=by
 refine hm.kept (aJ w db o u) (λe=>h.ne hm.c0 (λ_ _ _ e=>by cases e) (Option.some.inj e)) (λe=>?_);obtain⟨D,hD,_⟩:=hm.own;have e2:bm=db:=Option.some.inj e;obtain⟨en,clock,hb,_⟩:=hD;rw[e2,show w.heap[db]?=_ from h.tb]at hb
 cases hb
theorem kY0.set {cs:Array Value} (h:kY0 lo p m es w i v) (hd:yB0 w db cs) (o:Nat) (u:Value):kY0 lo p m es (w.setCell ⟨db,o,none⟩ u) i v:=by
 match i,h with
 | 0,h=>exact iY h (iQ w db o u) (hd.out1 (by decide))
 | 1,⟨mb,bm,e,hm⟩=>exact⟨mb,bm,e,mZ1 hd hm o u⟩
 | 2,⟨tb,e,ht,hl⟩=>exact⟨tb,e,tL0 hd ht o u,hl⟩
 | 3,⟨tb,e,ht,hl⟩=>exact⟨tb,e,tL0 hd ht o u,hl⟩
 | 4,⟨pb,e,hp⟩=>exact⟨pb,e,mP hd hp o u⟩
 | 5,⟨pb,e,hp⟩=>exact⟨pb,e,mP hd hp o u⟩
 | 6,⟨pb,e,hp⟩=>exact⟨pb,e,mP hd hp o u⟩
 | 7,⟨pb,e,hp⟩=>exact⟨pb,e,mP hd hp o u⟩
 | 8,⟨pb,e,hp⟩=>exact⟨pb,e,mP hd hp o u⟩
 | 9,⟨pb,e,hp⟩=>exact⟨pb,e,mP hd hp o u⟩
 | 10,⟨pb,e,hp⟩=>exact⟨pb,e,mP hd hp o u⟩
 | _+11,_=>trivial
structure DSt (lo:Nat) (p:List cH) (m:Mx) (es:List En) (ps:List Nat) (db fb:Nat) (fv:Value) (w:World):Prop where
 blk:∃cs,yB0 w db cs
 fl:TB w fb #[fv,.bool false] 107
 at_:∀i∈ps,∃v,w.cell? ⟨db,i,none⟩=some v/\kY0 lo p m es w i v
theorem DSt.grows {ps:List Nat} {fb:Nat} {fv:Value} (h:DSt lo p m es ps db fb fv w) (hg:Grows w w'):DSt lo p m es ps db fb fv w' :=
 ⟨let ⟨cs,hb⟩:=h.blk;⟨cs,hb.tb.gr hg,hb.sz,hb.c0⟩,h.fl.gr hg,λi hi=>let ⟨v,h1,h2⟩:=h.at_ i hi;⟨v,hg.cell h1,h2.grows hg⟩⟩
theorem DSt.set {ps:List Nat} {fb:Nat} {fv:Value} (h:DSt lo p m es ps db fb fv w) (hi:i<11) (hv:kY0 lo p m es w i v) (h0:i=0->∃a n c,v=.slice a n c):DSt lo p m es (i::ps) db fb fv (w.setCell ⟨db,i,none⟩ v):=by
 obtain⟨cs,hb⟩:=h.blk
 have eo:yB0 (w.setCell ⟨db,i,none⟩ v) db (cs.setIfInBounds i v):=⟨hb.tb.set i v,by rw[Ag];exact hb.sz,by
  by_cases e:i=0
  ·obtain⟨a,n,c,rfl⟩:=h0 e
   subst e;exact⟨a,n,c,by rw[Ac];simp[hb.sz]⟩
  ·obtain⟨a,n,c,hc⟩:=hb.c0
   exact⟨a,n,c,by rw[Ae e];exact hc⟩⟩
 refine⟨⟨_,eo⟩,h.fl.keep (aJ w db i v) hb.tb.rt (by decide),λj hj=>?_⟩;by_cases e:j=i
 ·subst e
  exact⟨v,eo.tb.cell (by rw[Ac];simp[hb.sz,hi]),hv.set hb j v⟩
 ·have m4:j∈ps:=by
   rcases List.mem_cons.1 hj with q|q
   ·exact absurd q e
   ·exact q
  obtain⟨u,h1,h2⟩:=h.at_ j m4;exact⟨u,(World.cell?_setCell_other _ _ _ _ (λe2=>e (by injection e2 with _ e3 _;exact e3.symm))).trans h1,h2.set hb i v⟩
theorem DSt.dict {ps:List Nat} {fb:Nat} {fv:Value} (h:DSt lo p m es ps db fb fv w) (hp:∀i,i<11->i∈ps):cB w db p m es where
 p:=h.at_ 0 (hp 0 (by decide))
 m:=by obtain⟨v,h1,mb,bm,rfl,h2⟩:=h.at_ 1 (hp 1 (by decide));exact⟨mb,bm,h1,h2⟩
 r:=by obtain⟨v,h1,tb,rfl,h2,_⟩:=h.at_ 2 (hp 2 (by decide));exact⟨tb,h1,h2⟩
 s:=by obtain⟨v,h1,tb,rfl,h2,_⟩:=h.at_ 3 (hp 3 (by decide));exact⟨tb,h1,h2⟩
 f:=by obtain⟨v,h1,pb,rfl,h2⟩:=h.at_ 4 (hp 4 (by decide));exact⟨pb,h1,h2⟩
 i:=by obtain⟨v,h1,pb,rfl,h2⟩:=h.at_ 5 (hp 5 (by decide));exact⟨pb,h1,h2⟩
 l:=by obtain⟨v,h1,pb,rfl,h2⟩:=h.at_ 6 (hp 6 (by decide));exact⟨pb,h1,h2⟩
 t:=by obtain⟨v,h1,pb,rfl,h2⟩:=h.at_ 7 (hp 7 (by decide));exact⟨pb,h1,h2⟩
 c:=by obtain⟨v,h1,pb,rfl,h2⟩:=h.at_ 8 (hp 8 (by decide));exact⟨pb,h1,h2⟩
 o:=by obtain⟨v,h1,pb,rfl,h2⟩:=h.at_ 9 (hp 9 (by decide));exact⟨pb,h1,h2⟩
 a:=by obtain⟨v,h1,pb,rfl,h2⟩:=h.at_ 10 (hp 10 (by decide));exact⟨pb,h1,h2⟩
def mQ (w:World) (db lo:Nat):Prop:=(∀tb,w.cell? ⟨db,2,none⟩=some (.pointer (some ⟨tb,0,none⟩))->lo+2<=tb)/\(∀tb,w.cell? ⟨db,3,none⟩=some (.pointer (some ⟨tb,0,none⟩))->lo+2<=tb)
theorem DSt.low {ps:List Nat} {fb:Nat} {fv:Value} (h:DSt lo p m es ps db fb fv w) (h2:2∈ps) (h3:3∈ps):mQ w db lo:=by
 refine⟨λtb ht=>?_,λtb ht=>?_⟩
 ·obtain⟨v,h1,tb',rfl,_,hl⟩:=h.at_ 2 h2
  rw[h1]at ht;injection ht with ht
  injection ht with ht
  injection ht with ht
  injection ht with ht
  omega
 ·obtain⟨v,h1,tb',rfl,_,hl⟩:=h.at_ 3 h3
  rw[h1]at ht;injection ht with ht
  injection ht with ht
  injection ht with ht
  injection ht with ht
  omega
theorem jE {b o:Nat} {cs:Array Value} {t:TypeId} {u:Value} (h:TB w b cs t) (hc:cs[o]?=some u):Grows w (w.setCell ⟨b,o,none⟩ u):=by
 refine⟨rfl,rfl,rfl,by simp,λk hk=>?_⟩;by_cases e:k=b
 ·subst e
  rw[show (w.setCell ⟨k,o,none⟩ u).heap[k]?=_ from h.set o u,show w.heap[k]?=_ from h]
  congr 2
  apply Array.ext_getElem?
  intro j;by_cases e2:o=j
  ·subst e2
   rw[hc,Ac];simp[(Array.getElem?_eq_some_iff.1 hc).1]
  ·rw[Ae e2]
 ·exact Below.heap_setCell w ⟨b,o,none⟩ u k e
end
section
open Go Go.RowKit Go.Shelf
def jD0 (u:Value):Prop:=(∀k n,u ≠ .int k n)/\∀s,u ≠ .string s
theorem jD0.sl (a:Option Addr) (n c:Nat):jD0 (.slice a n c):=⟨λ_ _ e=>(by cases e),λ_ e=>(by cases e)⟩
theorem jD0.pt (a:Option Addr):jD0 (.pointer a):=⟨λ_ _ e=>(by cases e),λ_ e=>(by cases e)⟩
structure mE (w:World) (b:Nat) (cs:Array Value):Prop where
 tb:TB w b cs 32
 sz:cs.size=3
 c0:∃a n c,cs[0]?=some (.slice a n c)
 no:∀(j:Nat) u,cs[j]?=some u->jD0 u
theorem mE.zero {w:World} {b:Nat} (h:TB w b #[.slice none 0 0,.pointer none,.slice none 0 0] 32):mE w b #[.slice none 0 0,.pointer none,.slice none 0 0] :=
 ⟨h,rfl,⟨_,_,_,rfl⟩,λj u hj=>by
  match j,hj with
  | 0,hj=>cases hj;exact jD0.sl _ _ _
  | 1,hj=>cases hj;exact jD0.pt _
  | 2,hj=>cases hj;exact jD0.sl _ _ _⟩
theorem mE.grows {w w':World} {b:Nat} {cs:Array Value} (h:mE w b cs) (hg:Grows w w'):mE w' b cs:=⟨h.tb.gr hg,h.sz,h.c0,h.no⟩
theorem mE.set0 {w:World} {b:Nat} {cs:Array Value} (h:mE w b cs) (a:Option Addr) (n c:Nat):mE (w.setCell ⟨b,0,none⟩ (.slice a n c)) b (cs.setIfInBounds 0 (.slice a n c)):=by
 refine⟨h.tb.set 0 _,by rw[Ag];exact h.sz,⟨a,n,c,by rw[Ac];simp[h.sz]⟩,λj u hj=>?_⟩;rw[Ah]at hj;split at hj
 ·split at hj
  ·cases hj;exact jD0.sl _ _ _
  ·cases hj
 ·exact h.no j u hj
theorem mE.set {w:World} {b:Nat} {cs:Array Value} (h:mE w b cs) {o:Nat} (ho:o≠0) {v:Value} (hv:jD0 v):mE (w.setCell ⟨b,o,none⟩ v) b (cs.setIfInBounds o v):=by
 refine⟨h.tb.set o _,by rw[Ag];exact h.sz,?_,λj u hj=>?_⟩
 ·obtain⟨a,n,c,h0⟩:=h.c0
  exact⟨a,n,c,by rw[Ae ho];exact h0⟩
 ·rw[Ah]at hj
  split at hj
  ·split at hj
   ·cases hj;exact hv
   ·cases hj
  ·exact h.no j u hj
theorem mE.ne {w:World} {b:Nat} {cs:Array Value} (h:mE w b cs) {x:Nat} {u:Value} (hc:w.cell? ⟨x,0,none⟩=some u) (hu:∀a n c,u ≠ .slice a n c):¬x=b:=by
 rintro rfl;obtain⟨a,n,c,h0⟩:=h.c0
 have:=h.tb.cell h0
 rw[hc]at this;exact hu a n c (Option.some.inj this)
theorem tV0 {w:World} {b o:Nat} {cs:Array Value} {t:TypeId} {u:Value} (h:TB w b cs t) (hc:w.cell? ⟨b,o,none⟩=some u):cs[o]?=some u:=by
 unfold World.cell? at hc;rw[show w.heap[b]?=_ from h]at hc
 exact hc
theorem mE.neS {w:World} {b:Nat} {cs:Array Value} (h:mE w b cs) {x o:Nat} {u:Value} (hc:w.cell? ⟨x,o,none⟩=some u) (hu:¬jD0 u):¬x=b:=by
 rintro rfl;exact hu (h.no o u (tV0 h.tb hc))
theorem mE.out1 {w:World} {b:Nat} {cs:Array Value} (h:mE w b cs) {e:TypeId} (ai:32≠e):∀q,(λk=>k=b) q->∃o,w.heap[q]?=some o/\rR o≠some e:=sV0 h.tb ai
theorem mE.out2 {w:World} {b:Nat} {cs:Array Value} (h:mE w b cs):∀q,(λk=>k=b) q->∃o,w.heap[q]?=some o/\rR o≠some 144/\rR o≠some 3:=λq hq=>by
 have:q=b:=hq
 subst this;exact⟨_,h.tb,by simp[rR],by simp[rR]⟩
theorem mE.pk {w:World} {b:Nat} {cs:Array Value} (h:mE w b cs) {pb:Nat} {l:List Nat} (hp:lE w pb l) (o:Nat) (u:Value):lE (w.setCell ⟨b,o,none⟩ u) pb l :=
 rF hp (iQ w b o u) (h.ne hp.c0 (λ_ _ _ e=>by cases e)) h.out2
theorem mE.trie {w:World} {b:Nat} {cs:Array Value} (h:mE w b cs) {tb:Nat} {L:List (List UInt8)} (ht:eF w tb L) (o:Nat) (u:Value):eF (w.setCell ⟨b,o,none⟩ u) tb L:=by
 obtain⟨sb,s1,s2⟩:=ht.s;obtain⟨ib,i1,i2⟩:=ht.i;obtain⟨vL,l1,l2⟩:=ht.l;obtain⟨pb,d1,d2⟩:=ht.d;obtain⟨vN,n1,n2⟩:=ht.n;have ho:=iQ w b o u;have hn:=h.ne s1 (λ_ _ _ e=>by cases e)
 exact⟨⟨sb,cO s1 ho hn,fS s2 ho (h.ne s2.c0 (λ_ _ _ e=>by cases e)) h.out2⟩,⟨ib,cO i1 ho hn,fS i2 ho (h.ne i2.c0 (λ_ _ _ e=>by cases e)) h.out2⟩,
  ⟨vL,cO l1 ho hn,iY l2 ho (h.out1 (by decide))⟩,⟨pb,cO d1 ho hn,h.pk d2 o u⟩,⟨vN,cO n1 ho hn,iY n2 ho (h.out1 (by decide))⟩⟩
theorem mE.mat {w:World} {b:Nat} {cs:Array Value} (h:mE w b cs) {mb bm:Nat} {m:Mx} (hm:fM w mb bm m) (o:Nat) (u:Value):fM (w.setCell ⟨b,o,none⟩ u) mb bm m:=by
 refine hm.kept (aJ w b o u) (λe=>h.ne hm.c0 (λ_ _ _ e=>by cases e) (Option.some.inj e)) (λe=>?_);obtain⟨D,hD,_⟩:=hm.own;have e2:bm=b:=Option.some.inj e;obtain⟨en,clock,hb,_⟩:=hD;rw[e2,show w.heap[b]?=_ from h.tb]at hb
 cases hb
theorem mE.at_ {α:Type} {w:World} {b:Nat} {cs:Array Value} (h:mE w b cs) {a:Option Addr} {k:Nat} {xs:List α} {enc:α->List Value} (ajl:∀x, ∃u,(enc x)[0]?=some u/\¬jD0 u) (ac:aF w a k (xs.map enc)) (o:Nat) (u:Value):aF (w.setCell ⟨b,o,none⟩ u) a k (xs.map enc):=by
 by_cases hn:xs=[]
 ·subst hn
  exact λh=>absurd rfl h
 ·refine pP ac (aJ w b o u) λq hq e=>?_
  obtain⟨ba,oa,rfl,hc⟩:=ac.get hn;cases hq
  obtain⟨x,hx⟩:∃x,xs[0]?=some x:=⟨_,Ad (List.length_pos_iff.2 hn)⟩;obtain⟨v,hv,ii⟩:=ajl x;exact h.neS (hc 0 x hx 0 v hv) ii (Option.some.inj e)
theorem mE.ref {w:World} {b:Nat} {cs:Array Value} (h:mE w b cs) {rb:Nat} {m:Mx} (hr:jZ w rb m) (o:Nat) (u:Value):jZ (w.setCell ⟨b,o,none⟩ u) rb m:=by
 have ho:=iQ w b o u;have hn:=h.ne hr.c0 (λ_ _ _ e=>by cases e);exact⟨hr.ok,cO hr.c0 ho hn,cO hr.c1 ho hn,let ⟨v,hv,hO⟩:=hr.own;⟨v,cO hv ho hn,iY hO ho (h.out1 (by decide))⟩⟩
theorem fA1 (x:cH):∃u,(bG x)[0]?=some u/\¬jD0 u:=⟨_,rfl,λh=>h.2 _ rfl⟩
theorem nH1 (x:En):∃u,(aQ x)[0]?=some u/\¬jD0 u:=⟨_,rfl,λh=>h.2 _ rfl⟩
def eT1 (w:World) (u0 u1 u2:Value) (p:List cH) (m:Mx) (es:List En):Prop :=
 ∃pa pc rb a c,u0=.slice pa p.length pc/\u1=.pointer (some ⟨rb,0,none⟩)/\u2=.slice a es.length c/\aF w pa 2 (p.map bG)/\jZ w rb m/\aF w a 5 (es.map aQ)
theorem eT1.grows {w w':World} {u0 u1 u2:Value} {p:List cH} {m:Mx} {es:List En} (h:eT1 w u0 u1 u2 p m es) (hg:Grows w w'):eT1 w' u0 u1 u2 p m es :=
 let ⟨pa,pc,rb,a,c,h0,h1,h2,hp,hr,he⟩:=h
 ⟨pa,pc,rb,a,c,h0,h1,h2,hp.grows hg,hr.grows hg,he.grows hg⟩
theorem mE.rdat {w:World} {b:Nat} {cs:Array Value} (k:mE w b cs) {u0 u1 u2:Value} {p:List cH} {m:Mx} {es:List En} (h:eT1 w u0 u1 u2 p m es) (o:Nat) (u:Value):eT1 (w.setCell ⟨b,o,none⟩ u) u0 u1 u2 p m es :=
 let ⟨pa,pc,rb,a,c,h0,h1,h2,hp,hr,he⟩:=h
 ⟨pa,pc,rb,a,c,h0,h1,h2,k.at_ fA1 hp o u,k.ref hr o u,k.at_ nH1 he o u⟩
theorem mE.keep {w:World} {b x i:Nat} {cs:Array Value} {v:Value} (_k:mE w b cs) (o:Nat) (u:Value) (hx:¬x=b) (h:w.cell? ⟨x,i,none⟩=some v):(w.setCell ⟨b,o,none⟩ u).cell? ⟨x,i,none⟩=some v:=cO h (iQ w b o u) hx
theorem mE.dict {w:World} {b db:Nat} {cs:Array Value} (k:mE w b cs) {p:List cH} {m:Mx} {es:List En} (h:cB w db p m es) (ai:¬db=b) (o:Nat) (u:Value):cB (w.setCell ⟨b,o,none⟩ u) db p m es where
 p:=let ⟨v,h1,h2⟩:=h.p;⟨v,k.keep o u ai h1,iY h2 (iQ w b o u) (k.out1 (by decide))⟩
 m:=let ⟨x,y,h1,h2⟩:=h.m;⟨x,y,k.keep o u ai h1,k.mat h2 o u⟩
 r:=let ⟨v,h1,h2⟩:=h.r;⟨v,k.keep o u ai h1,k.trie h2 o u⟩
 s:=let ⟨v,h1,h2⟩:=h.s;⟨v,k.keep o u ai h1,k.trie h2 o u⟩
 f:=let ⟨v,h1,h2⟩:=h.f;⟨v,k.keep o u ai h1,k.pk h2 o u⟩
 i:=let ⟨v,h1,h2⟩:=h.i;⟨v,k.keep o u ai h1,k.pk h2 o u⟩
 l:=let ⟨v,h1,h2⟩:=h.l;⟨v,k.keep o u ai h1,k.pk h2 o u⟩
 t:=let ⟨v,h1,h2⟩:=h.t;⟨v,k.keep o u ai h1,k.pk h2 o u⟩
 c:=let ⟨v,h1,h2⟩:=h.c;⟨v,k.keep o u ai h1,k.pk h2 o u⟩
 o:=let ⟨v,h1,h2⟩:=h.o;⟨v,k.keep o u ai h1,k.pk h2 o u⟩
 a:=let ⟨v,h1,h2⟩:=h.a;⟨v,k.keep o u ai h1,k.pk h2 o u⟩
def gE1 (p:List cH) (m:Option Mx) (l:List En) (w:World) (e:Ending) (w':World):Prop :=
 Grows w w'/\∃a0 n0 c0 q a2 n2 c2,e=.returned (.tuple #[.agg #[.slice a0 n0 c0,.pointer q,.slice a2 n2 c2],.int .i64 (iL p m l)])/\(iL p m l=0->∃mm,m=some mm/\eT1 w' (.slice a0 n0 c0) (.pointer q) (.slice a2 n2 c2) p mm (sortS l))
theorem zC0 (p:List cH) (mv:Value) (m:Option Mx) (l:List En) (pa a:Option Addr) (pc c:Nat) (w:World) (hp:p.length<=4611686018427387904) (ft:∀x∈p,x.name.size<=9223372036854775807) (hl:l.length<=140737488355328) (hs:∀x∈l,x.r.size<=1099511627776/\x.s.size<=1099511627776)
  (ms:aF w pa 2 (p.map bG)) (hm:kS1 w mv m) (ac:aF w a 5 (l.map aQ)) :
  Calls Tryz.prog 78 #[.slice pa p.length pc,mv,.slice a l.length c] w (gE1 p m l w):=by
 have key:Calls Tryz.prog 78 #[.slice pa p.length pc,mv,.slice a l.length c] w (dP p mv m l pa pc w):=by
  by_cases hc:mL p m l=0
  ·cases m with
   | none =>
    unfold mL at hc;split at hc<;>cases hc
   | some m =>
    obtain⟨rb,rfl,hr⟩:=hm;exact gU1 p rb m l pa a pc c w hp ft hs ms hr ac hc
  ·exact dX1 p mv m l pa a pc c w hp ft hl hs ms hm ac hc
 refine key.mono λe w' h=>?_;obtain⟨hg,h1,h2⟩:=h;refine⟨hg,?_⟩;by_cases hc:iL p m l=0
 ·obtain⟨a',c',rfl,j4⟩:=h1 hc
  cases m with
  | none =>
   have:=(nV hc).1
   unfold mL at this;split at this<;>cases this
  | some m =>
   obtain⟨rb,rfl,hr⟩:=hm;exact⟨_,_,_,_,_,_,_,by rw[hc],λ_=>⟨m,rfl,_,_,_,_,_,rfl,rfl,rfl,ms.grows hg,hr.grows hg,j4⟩⟩
 ·exact⟨none,0,0,none,none,0,0,h2 hc,λh=>absurd h hc⟩
end
section
open Go Go.RowKit Go.Shelf
attribute [local go_sem] aM aK
theorem cG0 (Q:List bF) (k:Nat) (q:bF) (a:Option Addr) (c fb:Nat) (w:World) (hl:Q.length<=1000000) (ac:aF w a 2 (Q.map lZ)) (ku:jA w Q) (hq:Q[k]?=some q) (ai:∀j p,j<k->Q[j]?=some p->p.name≠q.name)
  (hf:TB w fb #[.slice a Q.length c,.bool false] 107) :
  Calls Tryz.prog 65 #[.pointer (some ⟨fb,0,none⟩),.string q.name] w λe w'=>∃v,e=.returned v/\aV w' w.heap.size 5 1 aX v q.data/\Grows w w':=by
 have CF:=Ab (wG0 Q k q a c w hl ac ku hq ai);have f0:=hf.cell (o:=0) rfl;generalize Q.length=QL at CF hf f0;clear ac ku hq ai hl;go_enter Tryz.func65,Tryz.ntmps65
 go_wp2_with fail
 refine CF.out.mono ?_;rintro e w1 ⟨v,rfl,hv,ag⟩;have T1:=hf.gr ag;have b1:=T1.cell (o:=1) rfl;have z1:=T1.froz 1;clear CF f0;go_wp2_with fail
 go_ret;exact⟨v,rfl,hv.grows (jE T1 rfl),ag.tr (jE T1 rfl)⟩
theorem kR0 (Q:List bF) (k:Nat) (q:bF) (l:List Nat) (hd:q.data=packE l) (hp:l.length<=1048576/\∀n∈l,n<18446744073709551616) (a:Option Addr) (c fb:Nat) (w:World) (hl:Q.length<=1000000) (ac:aF w a 2 (Q.map lZ)) (ku:jA w Q) (hq:Q[k]?=some q) (ai:∀j p,j<k->Q[j]?=some p->p.name≠q.name)
  (hf:TB w fb #[.slice a Q.length c,.bool false] 107) :
  Calls Tryz.prog 68 #[.pointer (some ⟨fb,0,none⟩),.string q.name] w λe w'=>∃pb,e=.returned (.pointer (some ⟨pb,0,none⟩))/\lE w' pb l/\Grows w w':=by
 have CD:=Ab (cG0 Q k q a c fb w hl ac ku hq ai hf);rw[hd]at CD;have HHP:=Ab hp;generalize Q.length=QL at CD hf;generalize q.name=nm at CD ⊢;clear ac ku hq ai hl hd hp;go_enter Tryz.func68,Tryz.ntmps68
 go_wp2_with fail
 refine CD.out.mono ?_;rintro e w1 ⟨v,rfl,hv,ag⟩;obtain⟨a1,c1,rfl,h1c,_,da⟩:=hv.at_ bI.len;have fk:=bQ hv;have T1:=hf.gr ag;have CE:=Ab (sE0 l a1 c1 w1 HHP.out.1 HHP.out.2 h1c fk da);clear CD hv da fk h1c HHP;generalize (packE l).length=PL at CE ⊢;go_wp2_with fail
 refine CE.out.mono ?_;rintro e w2 ⟨pb,rfl,hpk,af⟩;have T2:=T1.gr af;have b1:=T2.cell (o:=1) rfl;have z1:=T2.froz 1;have hs:=jE (o:=1) (u:=.bool false) T2 rfl;clear CE;go_wp2_with fail
 go_ret;exact⟨pb,rfl,hpk.grows hs,(ag.tr af).tr hs⟩
theorem bL1 (Q:List bF) (k:Nat) (q:bF) (L:List (List UInt8)) (hd:q.data=loudE L) (hp:dC L=0) (a:Option Addr) (c fb:Nat) (w:World) (hl:Q.length<=1000000) (ac:aF w a 2 (Q.map lZ)) (ku:jA w Q) (hq:Q[k]?=some q) (ai:∀j p,j<k->Q[j]?=some p->p.name≠q.name)
  (hf:TB w fb #[.slice a Q.length c,.bool false] 107) :
  Calls Tryz.prog 67 #[.pointer (some ⟨fb,0,none⟩),.string q.name] w λe w'=>∃tb,e=.returned (.pointer (some ⟨tb,0,none⟩))/\eF w' tb L/\w.heap.size+2<=tb/\Grows w w':=by
 have CD:=Ab (cG0 Q k q a c fb w hl ac ku hq ai hf);rw[hd]at CD;have HHP:=Ab hp;generalize Q.length=QL at CD hf;generalize q.name=nm at CD ⊢;clear ac ku hq ai hl hd hp;go_enter Tryz.func67,Tryz.ntmps67
 go_wp2_with fail
 refine CD.out.mono ?_;rintro e w1 ⟨v,rfl,hv,ag⟩;obtain⟨a1,c1,rfl,h1c,_,da⟩:=hv.at_ bI.len;have T1:=hf.gr ag;have CE:=Ab (jH1 L a1 c1 w1 HHP.out h1c da);clear CD hv da h1c HHP;generalize (loudE L).length=PL at CE ⊢;go_wp2_with fail
 refine CE.out.mono ?_;rintro e w2 ⟨tb,rfl,htb,gw,af⟩;have T2:=T1.gr af;have b1:=T2.cell (o:=1) rfl;have z1:=T2.froz 1;have hs:=jE (o:=1) (u:=.bool false) T2 rfl;clear CE;go_wp2_with fail
 go_ret;exact⟨tb,rfl,htb.grows hs,As (An ag.size 2) gw,(ag.tr af).tr hs⟩
end
section
open Go Go.RowKit Go.Shelf
attribute [local go_sem] aM aK Oper.semAt_some
abbrev qP0 (n:Nat):={ j:Nat // j<n }
theorem oL0 {a k:Nat} (h:a<=k):Af a (k+1-a)=Af a (k-a)++[k]:=by
 rw[show k+1-a=(k-a)+1 by omega,<-List.range'_append_1 (s:=a) (m:=k-a) (n:=1)]
 simp[show a+(k-a)=k by omega]
theorem lQ1 (F:Fence) (n:Nat) (hF:F.fn 109) (vj:F.round=none) (hn:1<=n) (l N a b b1 b2:Nat) (fi:a<=b) (hbN:b<=N) (hN:N<=1048576) (S:Nat->Prop) (h2:S b2) (J Jx:List (qP0 N)->World->Prop)
  (hY:∀pre x W,J pre W->pre.length<b-a->YieldAt F (n-1) Tryz.prog l #[.int .i64 (x.1:Nat)] W λe W' =>
   (e=.returned (.bool true)/\J (pre++[x]) W'/\bT S W W')\/(e=.returned (.bool false)/\Jx (pre++[x]) W'))
  (W:World) (c1:W.cell? ⟨b1,0,none⟩=some (.int .i64 a)) (c2:W.cell? ⟨b2,0,none⟩=some (.int .i64 b)) (h0:J [] W) :
  CallsIn F n Tryz.prog 109 #[.func (.yield l) #[] #[],.pointer (some ⟨b1,0,none⟩),.pointer (some ⟨b2,0,none⟩)] W λe W'=>(∃v,e=.returned v) /\
   ((∃xs:List (qP0 N),xs.map (·.1)=Af a (b-a)/\J xs W')\/(∃pre:List (qP0 N),True/\Jx pre W')):=by
 refine callsIn_of_wp Tryz.func109 rfl hF ?_ vj;simp only[Tryz.ntmps109,At,Av,Az,Bc,Bd,Ao,Ap,Au,Ar,Ba,Aw];gi_wp2
 gi_loopw [4] (λi wr=>∃(k:Nat) (pre:List (qP0 N)),i=.int .i64 k/\a<=k/\k<=b/\pre.map (·.1)=Af a (k-a)/\J pre wr/\bT S W wr) (λi _=>b-(intOf i).toNat)
 case atStart=>exact⟨a,[],rfl,Ay _,fi,by simp,h0,bT.refl _ _⟩
 case round =>
  obtain⟨k,pre,rfl,hak,pq,hp,hJ,hK⟩:=hrel;have c2r:=hK.cell h2 c2;by_cases ae:k<b
  ·have et:(k:Int)<b:=by omega
   have m8:pre.length=k-a:=by
    have:=congrArg Bf hp
    simpa using this
   obtain⟨fn,tmps,assign,body,hy,hR⟩:=hY pre ⟨k,by omega⟩ wr hJ (by omega);dsimp only at hy
   have pr:(pre++[(⟨k,by omega⟩:qP0 N)]).map (·.1)=Af a (k+1-a):=by
    rw[Am,hp,oL0 hak];rfl
   clear hp hJ;gi_wp2
   refine hR.mono ?_;rintro e W3 (⟨rfl,og,iz⟩|⟨rfl,io⟩)
   ·gi_wp2
    go_roundw
    case rel=>exact⟨k+1,_,by go_num,by omega,ae,pr,og,hK.tr iz⟩
    case measure=>simp[intOf];omega
   ·gi_wp2
    go_end0;exact⟨⟨_,rfl⟩,.inr ⟨_,trivial,io⟩⟩
  ·have et:¬(k:Int)<b:=by omega
   obtain rfl:k=b:=by omega
   gi_wp2
   refine⟨λf h=>(by cases h),?_⟩;gi_wp2
   go_end0;exact⟨⟨_,rfl⟩,.inl ⟨pre,hp,hJ⟩⟩
theorem wJ0 (n N a b b1 b2:Nat) (hn:1<=n) (fi:a<=b) (hbN:b<=N) (hN:N<=1048576) (S:Nat->Prop) (h1:S b1) (h2:S b2) (w:World) (ae:∀b,S b->b<w.heap.size) (c1:w.cell? ⟨b1,0,none⟩=some (.int .i64 a)) (c2:w.cell? ⟨b2,0,none⟩=some (.int .i64 b)) :
  SeqStopsK Fence.wide n Tryz.prog 109 #[.pointer (some ⟨b1,0,none⟩),.pointer (some ⟨b2,0,none⟩)] (λx:qP0 N => #[.int .i64 (x.1:Nat)]) (bT S) (λys=>ys.map (·.1)=Af a (b-a)) (λ_=>True) (b-a) w:=by
 intro l J Jx W hW hJ _ hY h0;have hK0:bT S w W:=bT.of_below hW ae;exact lQ1 Fence.wide n trivial rfl hn l N a b b1 b2 fi hbN hN S h2 J Jx hY W (hK0.cell h1 c1) (hK0.cell h2 c2) h0
theorem iJ0 (a b:Int) (w:World) :
  Calls Tryz.prog 61 #[.int .i64 a,.int .i64 b] w λe w'=>e=.returned (.func (.func 109) #[] #[.pointer (some ⟨w.heap.size,0,none⟩),.pointer (some ⟨w.heap.size+1,0,none⟩)]) /\
   w'=(w.alloc (.cells #[.int .i64 a] 3)).alloc (.cells #[.int .i64 b] 3):=by
 have hmf:∀(fn:Fn) (first cap:Array Value) (w:World),(Instr.makeFunc fn first cap).run Tryz.prog w=.ok (.func fn first cap) w:=λ_ _ _ _=>rfl
 go_enter Tryz.func61,Tryz.ntmps61
 go_wp2_with fail
 go_ret;exact⟨rfl,rfl⟩
structure pG1 (w:World) (db:Nat) (es:List En) (s:Nat) (pre:List Nat) (v:Value) (W:World):Prop where
 bd:TB W s #[.pointer (some ⟨db,0,none⟩)] 28
 bl:TB W (s+1) #[v] 24
 own:aV W s 52 5 aQ v (pre.map λj=>es.getD j enZero)
 gr:Grows w W
 s0:s=w.heap.size
 sz:s+2<=W.heap.size
theorem pG1.other {w W W':World} {db s:Nat} {es:List En} {pre:List Nat} {v:Value} (h:pG1 w db es s pre v W) {row:Option Nat} (hg:W.grownBy W' row) (hr:RT W row none) (hs:∀q,row=some q->s<=q):pG1 w db es s pre v W' :=
 ⟨h.bd.keep hg hr (by simp),h.bl.keep hg hr (by simp),aO h.own hg hr (by simp),h.gr.grown hg (λq hq=>by rw[<-h.s0];exact hs q hq),h.s0,As h.sz hg.size⟩
theorem cC0 {W W':World} (B:Nat) (h:Grows W W'):KeepsFrom B W W':=⟨h.size,λk _o _ hk _=>(Below.block h k (Array.getElem?_eq_some_iff.1 hk).1).trans hk⟩
theorem mZ0 (p:List cH) (m:Mx) (es:List En) (db g:Nat) (lb:Array Value) (js:List Nat) (w:World) (ah:bP p m es) (ac:cB w db p m es) (hj:js.length<=1048576) (eg:∀args w,(callFunc g args).run Tryz.prog w=.ok (.enter g args) w)
  (KS:SeqStopsK Fence.wide 7 Tryz.prog g lb (λx:qP0 es.length => #[.int .i64 (x.1:Nat)]) (bT λb=>b<w.heap.size) (λys=>ys.map (·.1)=js) (λ_=>True) js.length w) :
  Calls Tryz.prog 60 #[.pointer (some ⟨db,0,none⟩),.func (.func g) #[] lb] w λe w'=>∃v,e=.returned v/\aV w' w.heap.size 52 5 aQ v (js.map λj=>es.getD j enZero)/\Grows w w':=by
 have CE:=λ(i:Nat) (x:En) (hx:es[i]?=some x) (u:World) (hu:Grows w u)=>Ab (xI0 p m es db i x u ah (ac.grows hu) hx);have hn:=ah.len;clear ac ah;refine(callsIn_wide (n:=8)).1 (callsIn_of_wp_marks Tryz.func60 rfl trivial ?_);simp only[Tryz.ntmps60,At,Av,Az,Bc,Bd,Ao,Ap,Au,Ar,Ba,Aw];gi_wp2
 have hs:w.heap.size=w.heap.size:=rfl;have cp:Grows w ((w.alloc (.cells #[.pointer (some ⟨db,0,none⟩)] 28)).alloc (.cells #[.slice none 0 0] 24)):=(Grows.alloc _ _).al _
 have J0:pG1 w db es w.heap.size [] (.slice none 0 0) ((w.alloc (.cells #[.pointer (some ⟨db,0,none⟩)] 28)).alloc (.cells #[.slice none 0 0] 24)):=by
  refine⟨?_,?_,aV.nil _ _ _ _ _,cp,hs,by simp⟩
  ·exact(TB.alloc _ _ _).al _
  ·have:=TB.alloc (w.alloc (.cells #[.pointer (some ⟨db,0,none⟩)] 28)) #[.slice none 0 0] 24
   rw[Ax]at this;exact this
 have aeh:((w.alloc (.cells #[.pointer (some ⟨db,0,none⟩)] 28)).alloc (.cells #[.slice none 0 0] 24)).heap.size=w.heap.size+2:=by simp
 generalize ((w.alloc (.cells #[.pointer (some ⟨db,0,none⟩)] 28)).alloc (.cells #[.slice none 0 0] 24))=W0 at J0 cp aeh ⊢
 refine wpIn_rangeFunc_ownH (F:=Fence.wide) (n:=8) (α:=qP0 es.length) rfl (by decide) (gf:=g) (lb:=lb) rfl trivial eg KS
  (λh k=>h.tr k) (λW l o o' hl ho hc hw b hb=>World.putObj_heap_other (λe=>by omega)) cp (λ_=>rfl)
  (λpre W=>∃v,pG1 w db es w.heap.size (pre.map (·.1)) v W)
  (λ_ _ _=>False) ?hI (λ_ _ _ _ _ h _ _=>h) ⟨_,J0⟩
  (λx a' W=>∃v,a'={ tmps:=#[.pointer (some ⟨db,0,none⟩),.func (.func g) #[] lb,.pointer (some ⟨w.heap.size,0,none⟩),undef,.slice none 0 0,.pointer (some ⟨w.heap.size+1,0,none⟩),.int .i64 (x.1:Nat),.func (.func g) #[] lb,.int .i64 (x.1:Nat),undef,undef,undef,undef,undef,undef,undef],defers:=[] }/\v=W.heap.size)
  ?hAx ?assign ?body ?done ?stop
 case hI =>
  rintro pre V V' row ⟨v,h⟩ hg hr;exact⟨v,h.other hg (RT.of_not λq e=>(hr q e).2) (λq e=>by have:=(hr q e).1;omega)⟩
 case hAx =>
  rintro x a' _ V V' row ⟨v,h,_⟩ hg hr;exact⟨_,h,rfl⟩
 case assign =>
  rintro l pre x V K2 ⟨v,h⟩ ml;gi_wp2
  exact ml _ _ (KeepsFrom.refl _ _) (bT.refl _ _) ⟨v,h⟩ ⟨_,rfl,rfl⟩
 case body =>
  rintro l pre x a' V hl af2 ⟨v,h⟩ ⟨_,rfl,_⟩ an;obtain⟨y,hy⟩:∃y,es[x.1]?=some y:=⟨_,Ad x.2⟩;have CE1:=CE x.1 y hy V.drew (h.gr.tr (Grows.drew V));have hyd:es.getD x.1 enZero=y:=by rw[List.getD_eq_getElem?_getD,hy];rfl
  have z0:∀q:Ext Grows V.drew,q.u.cell? ⟨w.heap.size,0,none⟩=some (.pointer (some ⟨db,0,none⟩)):=aB ((Grows.drew V).cell (h.bd.cell rfl));have z1:∀q:Ext Grows V.drew,q.u.cell? ⟨w.heap.size+1,0,none⟩=some v:=aB ((Grows.drew V).cell (h.bl.cell rfl));obtain⟨xi,tw⟩:=x;obtain⟨yr,ys,yl,yt,yc⟩:=y;unfold En.val at CE1;simp only at CE1 hyd an z0 z1;have hlp:(pre.map (·.1)).length+1<=1048576+1:=by rw[Aa];omega
  clear CE hy af2;refine wpIn_block ?_;refine lE1 Grows 5 (aU 5 [3,4]) (by rintro⟨_,_,h⟩;exact h) (by kernel_rfl) Grows.refl Grows.trans (by kernel_rfl) (by kernel_rfl) (λd _ _ _ _ h=>by cases d<;>exact h) ?_
  iterate 3 (refine aG rfl (λK hK=>?_);go_simp;refine hK _ ?_;clear hK K)
  clear z0 z1;refine aZ rfl rfl (λK hK=>?_);go_simp;refine(CE1.out).mono ?_;rintro e w3 ⟨rfl,aw⟩;refine⟨aw,hK _ _ ?_⟩;clear hK K;refine aZ rfl rfl (λK hK=>?_);go_simp;refine⟨Grows.alloc _ _,hK _ _ ?_⟩;clear hK K CE1;refine bH ?_;simp only[List.drop_succ_cons,Bb];have tj:=(Grows.drew V).tr aw;have hg:=h.gr.tr tj;have hO:=h.own.grows tj;have hb:=h.bl.gr tj;have hd:=h.bd.gr tj;obtain⟨ps,hps⟩:∃ps,pre.map (·.1)=ps:=⟨_,rfl⟩;rw[hps]at hO hlp;go_wp2_with (at_builtin;refine dE dT rfl _ _ rfl w.heap.size v (ps.map λj=>es.getD j enZero) ⟨yr,ys,yl,yt,yc⟩ rfl hO (Grows.refl _) _ 1 rfl #[.string yr,.string ys,.int .i64 yl,.int .i64 yt,.int .i64 yc] rfl rfl (by rw[Aa];omega) (by have:=hg.size;omega) ?_;intro v7 w7 ho7 cw hf7 aav;obtain⟨g7,p7,rfl⟩:=qK ho7;have hb7:=hb.keep cw (RT.own hO) (by decide);have c7:=hb7.cell (o:=0) rfl;have f7:=hb7.froz 0)
  have hd7:=hd.keep cw (RT.own hO) (by decide);have gr7:=aav w hg (Ay _);have gr8:=gr7.set (p:=⟨w.heap.size+1,0,none⟩) (show w.heap.size<=w.heap.size+1 by omega) (.slice (some ⟨g7,0,none⟩) (ps.length+1) p7)
  refine⟨((((KeepsOthers.drew V).from _).trans (cC0 _ aw)).trans (iU cw (RT.own hO))).trans (kT hb7 0 (.slice (some ⟨g7,0,none⟩) (ps.length+1) p7)),λb hb=>(Below.block gr8 b hb).trans (Below.block h.gr b hb).symm,(.slice (some ⟨g7,0,none⟩) (ps.length+1) p7),?_⟩
  refine⟨hd7.keep (aJ w7 (w.heap.size+1) 0 (.slice (some ⟨g7,0,none⟩) (ps.length+1) p7)) hb7.rt (by decide),hb7.set 0 (.slice (some ⟨g7,0,none⟩) (ps.length+1) p7),?_,gr8,rfl,?_⟩
  ·have h8:=aO ho7 (aJ w7 (w.heap.size+1) 0 (.slice (some ⟨g7,0,none⟩) (ps.length+1) p7)) hb7.rt (by decide)
   have uw:(pre++[(⟨xi,tw⟩:qP0 es.length)]).map (·.1)=ps++[xi]:=by
    rw[Am,hps];rfl
   refine Eq.mp (congrArg (λq=>aV _ _ _ _ _ _ (q.map λj=>es.getD j enZero)) uw.symm) ?_;rw[Am,List.map_cons,List.map_nil,hyd];rw[Aa]at h8;exact h8
  ·have:=h.sz
   have:=tj.size
   have:=cw.size
   simp;omega
 case stop =>
  rintro D c pre W _ _ h _;exact h.elim
 case done =>
  rintro D xs V hD hxs ⟨v,h⟩ hKD;have c1:=h.bl.cell (o:=0) rfl;gi_wp2
  refine⟨by simp,.inl ⟨_,_,rfl,run_takeDeferred hKD,?_⟩⟩;rw[hxs]at h;exact⟨_,results_tmp rfl _ _ _,v,rfl,by exact ownsRow_putObj h.own _ hKD rfl,Below.trans h.gr (belowK_b (w:=w) (Ay _) V D _ _ (by omega) hKD rfl rfl)⟩
end
section
open Go Go.RowKit Go.Shelf
attribute [local go_sem] aM aK
theorem zQ (l:List Nat) (pb N id a b:Nat) (w:World) (hl:l.length<=1048576) (hn:∀n∈l,n<=1073741824) (hr:uB0 l N id a b) (ac:lE w pb l) :
  Calls Tryz.prog 59 #[.pointer (some ⟨pb,0,none⟩),.int .i64 id,.int .i64 N] w λe w'=>e=.returned (.tuple #[.int .i64 (a:Nat),.int .i64 (b:Nat)])/\Grows w w':=by
 obtain⟨h1,h2,h3⟩:=hr;have hid:=(List.getElem?_eq_some_iff.1 h1).1;have CL:=Ab (gX l pb w ac);have CA:=λ(u:World) (hu:Grows w u)=>Ab (lN l pb id a u hl hn h1 (ac.grows hu));obtain⟨i1,hi1⟩:=exq (id+1);have wi:IntKind.i64.wrap ((id:Int)+1)=i1:=by simp[Ak,Al,Ai];omega
 rw[<-hi1]at h2 h3;obtain⟨ll,ux⟩:=exq l.length;rw[<-ux]at CL h2 h3;by_cases ae:i1<ll
 ·have et:(i1:Int)<ll:=by omega
  have CB:=Ab (lN l pb i1 b w hl hn (h2 ae) ac);clear ac hn h1 h2 h3 hi1 ux;go_enter Tryz.func59,Tryz.ntmps59
  go_wp2_with fail
  refine CL.out.mono ?_;rintro e w1 ⟨rfl,rfl⟩;go_wp2_with fail
  refine CB.out.mono ?_;rintro e w2 ⟨rfl,af⟩;go_wp2_with fail
  refine(CA w2 af).out.mono ?_;rintro e w3 ⟨rfl,aw⟩;go_wp2_with fail
  go_ret2;exact⟨rfl,af.tr aw⟩
 ·have et:¬(i1:Int)<ll:=by omega
  obtain rfl:=h3 ae;clear ac hn h1 h2 h3 hi1 ux;go_enter Tryz.func59,Tryz.ntmps59
  go_wp2_with fail
  refine CL.out.mono ?_;rintro e w1 ⟨rfl,rfl⟩;go_wp2_with fail
  refine(CA w (Grows.refl w)).out.mono ?_;rintro e w3 ⟨rfl,aw⟩;go_wp2_with fail
  go_ret2;exact⟨rfl,aw⟩
theorem mF1 {x:Nat} (h:x<9223372036854775808):IntKind.i64.wrap (x:Int)=x:=by simp[Ak,Al,Ai]; omega
theorem dE0 (p:List cH) (m:Mx) (es:List En) (db a b b1 b2:Nat) (w:World) (ah:bP p m es) (ac:cB w db p m es) (fi:a<=b) (hb:b<=es.length) (c1:w.cell? ⟨b1,0,none⟩=some (.int .i64 a)) (c2:w.cell? ⟨b2,0,none⟩=some (.int .i64 b)) :
  Calls Tryz.prog 60 #[.pointer (some ⟨db,0,none⟩),.func (.func 109) #[] #[.pointer (some ⟨b1,0,none⟩),.pointer (some ⟨b2,0,none⟩)]] w λe w'=>∃v,e=.returned v/\aV w' w.heap.size 52 5 aQ v ((Af a (b-a)).map λj=>es.getD j enZero)/\Grows w w':=by
 have hn:=ah.len;have h1:=Aj w _ c1;have h2:=Aj w _ c2;have KS:=wJ0 7 es.length a b b1 b2 (by decide) fi hb (by omega) (λb=>b<w.heap.size) h1 h2 w (λb hb=>hb) c1 c2;have e:(Af a (b-a)).length=b-a:=by simp
 refine mZ0 p m es db _ _ (Af a (b-a)) w ah ac (by omega) (enters_of Tryz.func109 (by kernel_rfl) rfl) ?_;rw[e];exact KS
theorem lD0 (p:List cH) (m:Mx) (es:List En) (db id:Nat) (s:ByteArray) (w:World) (ah:bP p m es) (ac:cB w db p m es) (hs:(readL es)[id]?=some s) :
  Calls Tryz.prog 74 #[.pointer (some ⟨db,0,none⟩),.int .i64 id] w λe w'=>∃v,e=.returned v/\aV w' w.heap.size 52 5 aQ v (exactL es s)/\Grows w w':=by
 obtain⟨a,b,hr,fi,hb,he⟩:=ah.row_r hs;have hn:=ah.len;obtain⟨pf,f1,f2⟩:=ac.f;obtain⟨pi,i1,i2⟩:=ac.i
 have ql:(gT rS es es.length).length<=20000:=by
  have h1:=(dO ah.rd).2.1;rw[cK]at h1;rw[ah.first,iN]
  exact h1
 have CL:∀u,Grows w u->Hid (Calls Tryz.prog 62 #[.pointer (some ⟨pi,0,none⟩)] u λe w'=>e=.returned (.int .i64 (es.length:Nat))/\u=w'):=λu hu=>by
  have h:=gX (es.map (yX (surfL es))) pi u (i2.grows hu);rw[Aa]at h;exact h
 have CR:=λ(u:World) (hu:Grows w u)=>Ab (zQ (gT rS es es.length) pf es.length id a b u (by omega) (λn h=>by have:=iX h;omega) hr (f2.grows hu));have CI:=λ(u:World) (b1 b2:Nat) (hu:Grows w u) h1 h2=>Ab (dE0 p m es db a b b1 b2 u ah (ac.grows hu) fi hb h1 h2);rw[he]at CI;have z0:∀y:Ext Grows w.drew,y.u.cell? ⟨db,4,none⟩=some (.pointer (some ⟨pf,0,none⟩)):=aB ((Grows.drew w).cell f1);have z1:∀y:Ext Grows w.drew,y.u.cell? ⟨db,5,none⟩=some (.pointer (some ⟨pi,0,none⟩)):=aB ((Grows.drew w).cell i1);obtain⟨N,hN⟩:=exq es.length;rw[<-hN]at CL CR;clear ac ah hs hr fi hb he f2 i2 ql hn hN;go_enter Tryz.func74,Tryz.ntmps74
 go_wp2_with fail
 refine bE (aU 17 [11,14,15]) (by kernel_rfl) (λd _ _ _ _ h=>by cases d<;>exact h) ?_
 iterate 10 (refine aG rfl (λK hK=>?_);go_simp;refine hK _ ?_;clear hK K)
 refine aG rfl (λK hK=>?_);go_simp;apply Exists.intro
 refine⟨λx=>?_,hK _ ?_⟩
 ·go_at_call 62;exact aY (CL _ ((Grows.drew w).tr x.h)).out
 clear hK K;clear z0 z1;refine aZ rfl rfl (λK hK=>?_);go_simp;refine((CR w.drew (Grows.drew w)).out).mono ?_;rintro e w1 ⟨rfl,ag⟩;refine⟨ag,hK _ _ ?_⟩;clear hK K;iterate 2 (refine aG rfl (λK hK=>?_);go_simp;refine hK _ ?_;clear hK K)
 have g1:=(Grows.drew w).tr ag;refine aZ rfl rfl (λK hK=>?_);go_simp;refine(iJ0 (a:Int) (b:Int) w1).mono ?_;rintro e w2 ⟨rfl,vq⟩;have af:Grows w1 w2:=by rw[vq];exact(Grows.alloc _ _).al _
 refine⟨af,hK _ _ ?_⟩;clear hK K;have c1:w2.cell? ⟨w1.heap.size,0,none⟩=some (.int .i64 a):=kI (cs:=#[.int .i64 a]) (t:=3) (by rw[vq];exact Grows.alloc _ _) rfl 0 _ rfl
 have c2:w2.cell? ⟨w1.heap.size+1,0,none⟩=some (.int .i64 b):=by
  have:=kI (w:=w1.alloc (.cells #[.int .i64 a] 3)) (w':=w2) (cs:=#[.int .i64 b]) (t:=3) (by rw[vq];exact Grows.refl _) rfl 0 _ rfl
  rwa [Ax]at this
 have CI2:=CI w2 _ _ (g1.tr af) c1 c2;clear CI CR CL vq;refine aZ rfl rfl (λK hK=>?_);go_simp;refine(CI2.out).mono ?_;rintro e w3 ⟨v,rfl,hv,aw⟩;refine⟨aw,hK _ _ ?_⟩;clear hK K;iterate 1 (refine aG rfl (λK hK=>?_);go_simp;refine hK _ ?_;clear hK K)
 refine bH ?_;have g2:=g1.tr af;go_wp2_with fail
 go_ret;exact⟨v,rfl,hv.base g2.size,g2.tr aw⟩
theorem zG0 (l:List Nat) (pb i:Nat) (w:World) (ac:lE w pb l) (hi:l.length<=i):Calls Tryz.prog 118 #[.pointer (some ⟨pb,0,none⟩),.int .i64 i] w λe w'=>e=.returned (.tuple #[.int .u64 0,.bool false])/\w=w':=by
 have CL:=Ab (gX l pb w ac);have h0:¬(i:Int)<0:=by omega
 have h1:¬(i:Int)<l.length:=by omega
 have h2:(l.length:Int)<=i:=by omega
 clear ac;go_enter Tryz.func118,Tryz.ntmps118
 go_wp2_with fail
 refine CL.out.mono ?_;rintro e w1 ⟨rfl,rfl⟩;go_wp2
 go_ret2;exact⟨rfl,rfl⟩
theorem eJ1 {nw:En->En->Bool} {l:List En} {n:Nat} (hn:0<n):(gT nw l n)[0]?=some 0:=by
 unfold gT;obtain⟨k,rfl⟩:∃k,n=k+1:=⟨n-1,by omega⟩;rw[List.range_succ_eq_map,List.filter_cons,if_pos (by simp[dQ0])];rfl
theorem bI1 (p:List cH) (m:Mx) (es:List En) (db:Nat) (w:World) (ah:bP p m es) (ac:cB w db p m es) :
  Calls Tryz.prog 69 #[.pointer (some ⟨db,0,none⟩)] w λe w'=>e=.returned (.bool true)/\Grows w w':=by
 have hn:=ah.len;obtain⟨tr,r1,r2⟩:=ac.r;obtain⟨ts,s1,s2⟩:=ac.s;obtain⟨pf,f1,f2⟩:=ac.f;obtain⟨pi,i1,i2⟩:=ac.i;obtain⟨pl,l1,l2⟩:=ac.l;obtain⟨pt,t1,t2⟩:=ac.t;obtain⟨pc,c1,c2⟩:=ac.c;obtain⟨po,o1,o2⟩:=ac.o;obtain⟨pa,a1,a2⟩:=ac.a;obtain⟨N,hN⟩:=exq es.length;obtain⟨R,hR⟩:=exq ((readL es).length);obtain⟨S,hS⟩:=exq ((surfL es).length)
 have hRn:R<=N:=by
  rw[hR,hN]
  have:=oJ (es.map λx=>x.r)
  rwa [Aa]at this
 have ql:(gT rS es es.length).length=R:=by rw[ah.first,iN,hR]
 have om:(gT gD0 (gP es) es.length).length=S:=by rw[rS0,iN,hS]
 have vl:=qW es;have hbR:(bls (readL es)).length=R:=by rw[cK,hR]
 have hbS:(bls (surfL es)).length=S:=by rw[cK,hS]
 have CLG:∀(l:List Nat) (pb:Nat) (k:Nat),lE w pb l->l.length=k->∀u,Grows w u->Hid (Calls Tryz.prog 62 #[.pointer (some ⟨pb,0,none⟩)] u λe w'=>e=.returned (.int .i64 (k:Nat))/\u=w'):=λl pb k h hk u hu=>by
  have:=gX l pb u (h.grows hu)
  rw[hk]at this;exact this
 have LI:=CLG _ pi N i2 (by rw[Aa,hN]);have LL:=CLG _ pl N l2 (by rw[Aa,hN]);have LT:=CLG _ pt N t2 (by rw[Aa,hN]);have LC:=CLG _ pc N c2 (by rw[Aa,hN]);have LO:=CLG _ po N o2 (by rw[vl,hN]);have LF:=CLG _ pf R f2 ql;have LA:=CLG _ pa S a2 om
 have TLR:∀u,Grows w u->Hid (Calls Tryz.prog 39 #[.pointer (some ⟨tr,0,none⟩)] u λe w'=>e=.returned (.int .i64 (R:Nat))/\u=w'):=λu hu=>by
  have:=uM _ tr u (r2.grows hu)
  rw[hbR]at this;exact this
 have TLS:∀u,Grows w u->Hid (Calls Tryz.prog 39 #[.pointer (some ⟨ts,0,none⟩)] u λe w'=>e=.returned (.int .i64 (S:Nat))/\u=w'):=λu hu=>by
  have:=uM _ ts u (s2.grows hu)
  rw[hbS]at this;exact this
 have HLT:Hid (∀n∈gT rS es es.length,n<N):=λn h=>by rw[hN];exact iX h
 have HPW:Hid ((gT rS es es.length).Pairwise (· < ·)):=rE0;have HZ:Hid (0<N->(gT rS es es.length)[0]?=some 0):=λh=>eJ1 (by omega);obtain⟨F,hF⟩:=exq (gT rS es es.length);rw[<-hF]at HLT HPW HZ f2 ql;rw[<-hN]at hn;have CGF:=λ(i x:Nat) (hx:F[i]?=some x) (u:World) (hu:Grows w u)=>Ab (uZ F pf i x u (f2.grows hu) (by omega) (λn h=>by have:=HLT.out n h;omega) hx);have CGO:=Ab (λ(u:World) (hu:Grows w u) (hi:F.length<=0)=>zG0 F pf 0 u (f2.grows hu) hi)
 have hG0:Hid (∀u,Grows w u->∃b:Bool,(0<N->b=true)/\Calls Tryz.prog 118 #[.pointer (some ⟨pf,0,none⟩),.int .i64 0] u λe w'=>e=.returned (.tuple #[.int .u64 0,.bool b])/\Grows u w'):=λu hu=>by
  by_cases h:0<N
  ·exact⟨true,λ_=>rfl,(CGF 0 0 (HZ.out h) u hu).out⟩
  ·exact⟨false,λh2=>absurd h2 h,((CGO.out u hu (by omega)).mono λe w' ⟨h1,h2⟩=>⟨h1,by rw[<-h2];exact Grows.refl _⟩)⟩
 have z0:∀y:Ext Grows w.drew,y.u.cell? ⟨db,6,none⟩=some (.pointer (some ⟨pl,0,none⟩)):=aB ((Grows.drew w).cell l1);have z1:∀y:Ext Grows w.drew,y.u.cell? ⟨db,7,none⟩=some (.pointer (some ⟨pt,0,none⟩)):=aB ((Grows.drew w).cell t1);have z2:∀y:Ext Grows w.drew,y.u.cell? ⟨db,8,none⟩=some (.pointer (some ⟨pc,0,none⟩)):=aB ((Grows.drew w).cell c1);have z3:∀y:Ext Grows w.drew,y.u.cell? ⟨db,9,none⟩=some (.pointer (some ⟨po,0,none⟩)):=aB ((Grows.drew w).cell o1);have z4:∀y:Ext Grows w.drew,y.u.cell? ⟨db,4,none⟩=some (.pointer (some ⟨pf,0,none⟩)):=aB ((Grows.drew w).cell f1);have z5:∀y:Ext Grows w.drew,y.u.cell? ⟨db,2,none⟩=some (.pointer (some ⟨tr,0,none⟩)):=aB ((Grows.drew w).cell r1);have z6:∀y:Ext Grows w.drew,y.u.cell? ⟨db,10,none⟩=some (.pointer (some ⟨pa,0,none⟩)):=aB ((Grows.drew w).cell a1);have z7:∀y:Ext Grows w.drew,y.u.cell? ⟨db,3,none⟩=some (.pointer (some ⟨ts,0,none⟩)):=aB ((Grows.drew w).cell s1);have ig:¬(20000:Int)<N:=by omega
 have wN:IntKind.u64.wrap (N:Int)=N:=by simp[Ak,Al,Ai];omega
 have HFL:=Ab ql;clear ac ah r2 s2 f2 i2 l2 t2 c2 o2 a2 om vl hbR hbS CLG hR hS hN hF CGO HZ ql r1 s1 l1 t1 c1 o1 a1;go_enter Tryz.func69,Tryz.ntmps69
 go_wp2_with fail
 refine(LI w (Grows.refl w)).out.mono ?_;rintro e w1 ⟨rfl,rfl⟩;go_wp2_with fail
 refine bE (aU 64 []) (by kernel_rfl) (λd _ _ _ _ h=>by cases d<;>exact h) ?_
 iterate 7 (refine aG rfl (λK hK=>?_);go_simp;refine hK _ ?_;clear hK K)
 refine aG rfl (λK hK=>?_);go_simp;apply Exists.intro
 refine⟨λx=>?_,hK _ ?_⟩
 ·go_at_call 62;exact aY (LL _ ((Grows.drew w).tr x.h)).out
 clear hK K;iterate 8 (refine aG rfl (λK hK=>?_);go_simp;refine hK _ ?_;clear hK K)
 refine aG rfl (λK hK=>?_);go_simp;apply Exists.intro
 refine⟨λx=>?_,hK _ ?_⟩
 ·go_at_call 62;exact aY (LT _ ((Grows.drew w).tr x.h)).out
 clear hK K;iterate 8 (refine aG rfl (λK hK=>?_);go_simp;refine hK _ ?_;clear hK K)
 refine aG rfl (λK hK=>?_);go_simp;apply Exists.intro
 refine⟨λx=>?_,hK _ ?_⟩
 ·go_at_call 62;exact aY (LC _ ((Grows.drew w).tr x.h)).out
 clear hK K;iterate 8 (refine aG rfl (λK hK=>?_);go_simp;refine hK _ ?_;clear hK K)
 refine aG rfl (λK hK=>?_);go_simp;apply Exists.intro
 refine⟨λx=>?_,hK _ ?_⟩
 ·go_at_call 62;exact aY (LO _ ((Grows.drew w).tr x.h)).out
 clear hK K;iterate 8 (refine aG rfl (λK hK=>?_);go_simp;refine hK _ ?_;clear hK K)
 refine aG rfl (λK hK=>?_);go_simp;apply Exists.intro
 refine⟨λx=>?_,hK _ ?_⟩
 ·go_at_call 62;exact aY (LF _ ((Grows.drew w).tr x.h)).out
 clear hK K;iterate 4 (refine aG rfl (λK hK=>?_);go_simp;refine hK _ ?_;clear hK K)
 refine aG rfl (λK hK=>?_);go_simp;apply Exists.intro
 refine⟨λx=>?_,hK _ ?_⟩
 ·go_at_call 39;exact aY (TLR _ ((Grows.drew w).tr x.h)).out
 clear hK K;iterate 7 (refine aG rfl (λK hK=>?_);go_simp;refine hK _ ?_;clear hK K)
 refine aG rfl (λK hK=>?_);go_simp;apply Exists.intro
 refine⟨λx=>?_,hK _ ?_⟩
 ·go_at_call 62;exact aY (LA _ ((Grows.drew w).tr x.h)).out
 clear hK K;iterate 4 (refine aG rfl (λK hK=>?_);go_simp;refine hK _ ?_;clear hK K)
 refine aG rfl (λK hK=>?_);go_simp;apply Exists.intro
 refine⟨λx=>?_,hK _ ?_⟩
 ·go_at_call 39;exact aY (TLS _ ((Grows.drew w).tr x.h)).out
 clear hK K;iterate 2 (refine aG rfl (λK hK=>?_);go_simp;refine hK _ ?_;clear hK K)
 refine bH ?_;clear z0 z1 z2 z3 z4 z5 z6 z7 LI LL LT LC LO LA TLR TLS;have f1d:=(Grows.drew w).cell f1;obtain⟨b0,hb0,CG0⟩:=hG0.out w.drew (Grows.drew w);clear hG0;go_wp2_with fail
 refine CG0.mono ?_;rintro e w2 ⟨rfl,af⟩;have g2:=(Grows.drew w).tr af;have f1b:=g2.cell f1;have LF2:=LF w2 g2;clear CG0 LF f1d af;by_cases h0:0<N
 ·have hb:=hb0 h0
  subst hb;have uh:(0:Int)<N:=by omega
  go_wp2_with fail
  refine LF2.out.mono ?_;rintro e w3 ⟨rfl,rfl⟩;clear LF2;go_wp2_with fail
  go_loopw [6,102] (λv i wr=>∃(k:Nat) (last:Int),k<=R/\i=.int .i64 k/\v=.int .i64 last/\Hid (∀x,F[k]?=some x->last<x)/\Hid (Grows w wr)) (λ_ i _=>R-(intOf i).toNat)
  case atStart=>exact⟨0,-1,Bg _,rfl,rfl,λx _=>by omega,g2⟩
  case round =>
   obtain⟨k,last,hk,rfl,rfl,hL,hg⟩:=hrel;by_cases ae:k<R
   ·obtain⟨x,hx⟩:∃x,F[k]?=some x:=⟨_,Ad (by rw[HFL.out];exact ae)⟩
    have hxN:=HLT.out x (Aq hx);have hlx:=hL.out x hx;have CG:=CGF k x hx wr hg.out;have f1r:=hg.out.cell f1;have cy:(k:Int)<R:=by omega
    have hxn:¬(N:Int)<=x:=by omega
    have alm:¬(x:Int)<=last:=by omega
    have wx:IntKind.i64.wrap (x:Int)=x:=by simp[Ak,Al,Ai];omega
    have NX:Hid (∀y,F[k+1]?=some y->(x:Int)<y):=λy hy=>by
     have:=dA0 HPW.out hx hy
     omega
    clear hx hL CGF;go_wp2_with fail
    refine CG.out.mono ?_;rintro e w4 ⟨rfl,bj⟩;have g4:=hg.out.tr bj;clear CG;go_wp2_with fail
    go_roundw
    case rel=>exact⟨k+1,x,ae,by go_num,rfl,NX.out,g4⟩
    case measure=>simp[intOf];omega
   ·have cy:¬(k:Int)<R:=by omega
    go_wp2_with fail
    go_ret;exact⟨rfl,hg.out⟩
 ·have uh:¬(0:Int)<N:=by omega
  go_wp2_with fail
  refine LF2.out.mono ?_;rintro e w3 ⟨rfl,rfl⟩;clear LF2;go_wp2_with fail
  go_loopw [6,102] (λv i wr=>∃(k:Nat) (last:Int),k<=R/\i=.int .i64 k/\v=.int .i64 last/\Hid (∀x,F[k]?=some x->last<x)/\Hid (Grows w wr)) (λ_ i _=>R-(intOf i).toNat)
  case atStart=>exact⟨0,-1,Bg _,rfl,rfl,λx _=>by omega,g2⟩
  case round =>
   obtain⟨k,last,hk,rfl,rfl,hL,hg⟩:=hrel;by_cases ae:k<R
   ·obtain⟨x,hx⟩:∃x,F[k]?=some x:=⟨_,Ad (by rw[HFL.out];exact ae)⟩
    have hxN:=HLT.out x (Aq hx);exact absurd hxN (by omega)
   ·have cy:¬(k:Int)<R:=by omega
    go_wp2_with fail
    go_ret;exact⟨rfl,hg.out⟩
theorem gN1 (p:List cH) (m:Mx) (es:List En) (db:Nat) (w:World) (ac:cB w db p m es) :
  Calls Tryz.prog 70 #[.pointer (some ⟨db,0,none⟩)] w λe w'=>e=.returned (.func (.func 109) #[] #[.pointer (some ⟨w.heap.size,0,none⟩),.pointer (some ⟨w.heap.size+1,0,none⟩)]) /\
   w'=(w.alloc (.cells #[.int .i64 0] 3)).alloc (.cells #[.int .i64 (es.length:Nat)] 3):=by
 obtain⟨pi,i1,i2⟩:=ac.i;have h:=gX (es.map (yX (surfL es))) pi w i2;rw[Aa]at h;have CL:=Ab h;generalize es.length=N at CL ⊢;clear ac i2 h;go_enter Tryz.func70,Tryz.ntmps70
 go_wp2_with fail
 refine CL.out.mono ?_;rintro e w1 ⟨rfl,rfl⟩;go_wp2_with fail
 refine(iJ0 0 (N:Int) w).mono ?_;rintro e w2 ⟨rfl,rfl⟩;go_wp2
 go_ret;exact⟨rfl,rfl⟩
end
end Go.Proofs.YtheiocndipepaaaGreatDoor
