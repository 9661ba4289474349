/- The texts LoD DopP OpnP Dop1 Dct2 Dct3 Dop2, one behind the other. -/
import Derived.Test.YtcijgkfpobpdbaaGreatDoorBq46
import Derived.Test.YtcijgkfpobpdbaaGreatDoorBq45
import Derived.Test.YtcijgkfpobpdbaaGreatDoorBq44
import Derived.Test.YtcijgkfpobpdbaaGreatDoorBq40
import Derived.Test.YtcijgkfpobpdbaaGreatDoorBq38
import Derived.Test.YtcijgkfpobpdbaaGreatDoorBq41
import Derived.Test.YtcijgkfpobpdbaaGreatDoorBq43
import Derived.Test.YtcijgkfpobpdbaaGreatDoorBq25
import Derived.Test.YtcijgkfpobpdbaaGreatDoorBq39
import Derived.Test.YtcijgkfpobpdbaaGreatDoorBq15
open List renaming length_map → Aa,getElem?_eq_getElem → Ad,range' → Af,map_append → Am,mem_of_getElem? → Aq,append_toArray → Ar,size_toArray → At,push_toArray → Au,length_cons → Av,cons_append → Aw,length_nil → Az,nil_append → Ba,drop_zero → Bb,length → Bf
open Go.Lib renaming hid → Ab,size_eq → Be
open Array renaming getElem?_setIfInBounds_self → Ac,getElem?_setIfInBounds_ne → Ae,size_setIfInBounds → Ag,getElem?_setIfInBounds → Ah,replicate_succ → Ao,replicate_zero → Ap
open Go.IntKind renaming signed → Ai,wrap → Ak,bits → Al
open Go.World renaming block_lt_of_cell? → Aj,size_alloc → Ax
open Nat renaming add_le_add_right → An,le_trans → As,le_refl → Ay,reduceAdd → Bc,reduceSub → Bd,zero_le → Bg
set_option maxHeartbeats 8000000
namespace Go.Proofs.YtcijgkfpobpdbaaGreatDoor
set_option maxRecDepth 100000
section
open Go Go.RowKit Go.Shelf
attribute [local go_sem] aQ aM
theorem wL0 {w:World} {a:Option Addr} {c:Nat} {l:List UInt8} (hn:l≠[]) (ac:aF w a 1 (l.map aX)):(convert 42 9 (.slice a l.length c)).run Tryz.prog w=.ok (.string (mkB l)) w:=by
 obtain⟨b,o,rfl,hc⟩:=at1 (f:=λx:UInt8=>Value.int .u8 x.toNat) ac hn;have hz:(mkB l).size=l.length:=by rw[Be,fA]
 have hBy:Lib.Bytes w b o (mkB l):=λj hj=>by
  rw[hz]at hj;have h:=hc j _ (Ad hj);rw[h];rfl
 have:=Lib.run_convert_whole (P:=Tryz.prog) w 42 5 9 Tryz.underlying42 Tryz.underlying5 Tryz.underlying9 b o (mkB l) hBy c
 rw[hz]at this;exact this
theorem mL0 (L:List (List UInt8)):loudE L=rY [oY (shapeL L (nodesA L)),labelsL L (nodesA L),oY (isL L (nodesA L)),packE (idsL L (nodesA L))] 0:=by
 unfold loudE rY;simp only[Bb,List.flatMap_cons,List.flatMap_nil,List.append_nil,List.append_assoc]
theorem eA1 (L:List (List UInt8)) (ba:Option Addr) (bc:Nat) (w:World) (l9:cY L=0) (fq:(loudE L).length<=bc) (ac:aF w ba 1 ((loudE L).map aX)) :
  Calls Tryz.prog 118 #[.slice ba (loudE L).length bc] w λe w'=>∃tb,e=.returned (.tuple #[.pointer (some ⟨tb,0,none⟩),.int .i64 0])/\eD w' tb L/\w.heap.size+2<=tb/\Grows w w':=by
 obtain⟨ag,hl,hc⟩:=dP l9;obtain⟨z1,z2,z3,z4,z5⟩:=ag.sizes hl hc;have mq:∀n∈idsL L (nodesA L),n<18446744073709551616:=λn hn=>by have:=z5 n hn;omega
 have e1:=nZ (shapeL L (nodesA L));have e2:=nZ (isL L (nodesA L));have e3:=cH0 (idsL L (nodesA L));have hwd:oX (idsL L (nodesA L))<=64:=oK.2 mq;have fk:(idsL L (nodesA L)).length*oX (idsL L (nodesA L))<=524287*64:=Nat.mul_le_mul z4 hwd;have hp:=mL0 L
 have aj:loudE L≠[]:=by
  rw[hp,fY0 (k:=0) rfl];intro e
  have:=congrArg Bf e
  rw[List.length_append,bM]at this;simp at this
 have HAT:=Ab ac;have HNE:=Ab aj;have CPA:=tV0 (oY (shapeL L (nodesA L))) (labelsL L (nodesA L)) (oY (isL L (nodesA L))) (packE (idsL L (nodesA L))) ba bc w (by omega) (by omega) (by omega) (by omega) (by rw[<-hp];exact fq) (by rw[<-hp];exact ac);rw[<-hp]at CPA;have HCPA:=Ab CPA;have CS:=λ(a:Option Addr) (c:Nat) (u:World) h1 h2=>Ab (pR0 (shapeL L (nodesA L)) a c u z1 h1 h2);have CI:=λ(a:Option Addr) (c:Nat) (u:World) h1 h2=>Ab (pR0 (isL L (nodesA L)) a c u (by omega) h1 h2);have CD:=λ(a:Option Addr) (c:Nat) (u:World) h1 h2 h3=>Ab (qQ0 (idsL L (nodesA L)) a c u (by omega) mq h1 h2 h3);have CG:=λ(sb ib pb:Nat) (la:Option Addr) (lc:Nat) (u:World) h1 h2 h3 h4=>Ab (dN1 L sb ib pb la lc u ag hl hc h1 h2 h3 h4)
 have CB:∀(a:Option Addr) (c:Nat) (u:World),(∀q,a=some q->q.block<u.heap.size)->aF u a 1 ((L.map mkB).map stC)->Hid (Calls Tryz.prog 72 #[.slice a L.length c] u λe w'=>∃tb,e=.returned (.tuple #[.pointer (some ⟨tb,0,none⟩),.int .i64 0])/\eD w' tb L/\u.heap.size+2<=tb/\Grows u w'):=λa c u h1 h2=>by
  have h:=wF (L.map mkB) a c u (by rw[Aa];omega) (λs hs=>by
   obtain⟨x,hx,rfl⟩:=List.mem_map.1 hs
   have:=ag.len x hx
   rw[Be,fA];omega) h1 h2
  rw[kS1,Aa]at h;refine h.mono ?_;rintro e w' ⟨hg,h3|h3⟩
  ·obtain⟨_,tb,h4,h5,h6⟩:=h3
   exact⟨tb,h4,h5,h6,hg⟩
  ·exact absurd l9 h3.1
 have CE:=λ(tb:Nat) (u:World) h=>Ab (gX0 L tb u ag hl hc h);obtain⟨b,hb⟩:=exq (loudE L);rw[<-hb]at HAT HNE HCPA CE ⊢;clear l9 fq ac ag hl hc z1 z2 z3 z4 z5 mq e1 e2 e3 hwd fk hp aj CPA hb;go_enter Tryz.func118,Tryz.ntmps118
 go_wp2_with fail
 refine HCPA.out.mono ?_;rintro e w1 ⟨v0,v1,v2,v3,rfl,h0,h1,h2,h3,ah⟩;obtain⟨a0,c0,rfl,x0,y0,t0⟩:=h0.out;obtain⟨a1,c1,rfl,x1,y1,t1⟩:=h1.out;obtain⟨a2,c2,rfl,x2,y2,t2⟩:=h2.out;obtain⟨a3,c3,rfl,x3,y3,t3⟩:=h3.out;clear HCPA h0 h1 h2 h3;obtain⟨W2,fx⟩:=exq (w1.alloc (.cells #[.slice a0 (oY (shapeL L (nodesA L))).length c0,.slice a1 (labelsL L (nodesA L)).length c1,.slice a2 (oY (isL L (nodesA L))).length c2,.slice a3 (packE (idsL L (nodesA L))).length c3] 246));obtain⟨xb,s6⟩:=exq w1.heap.size;have dm:=λj u h=>aT w1 #[.slice a0 (oY (shapeL L (nodesA L))).length c0,.slice a1 (labelsL L (nodesA L)).length c1,.slice a2 (oY (isL L (nodesA L))).length c2,.slice a3 (packE (idsL L (nodesA L))).length c3] 246 (0,0) j u h;rw[<-fx,<-s6]at dm;have b0:=dm 0 _ rfl;have b1:=dm 1 _ rfl;have b2:=dm 2 _ rfl;have b3:=dm 3 _ rfl;have af:Grows w1 W2:=by rw[fx];exact Grows.alloc _ _
 have HT1:=Ab (t1.grows af);have CS1:=CS a0 c0 W2 x0 (t0.grows af);have CI1:=λu (hu:Grows W2 u)=>CI a2 c2 u x2 ((t2.grows af).grows hu);have CD1:=λu (hu:Grows W2 u)=>CD a3 c3 u x3 y3 ((t3.grows af).grows hu);have ia:=ah.tr af;clear dm CS CI CD t0 t1 t2 t3 x0 x1 x2 x3 y0 y1 y2 y3;go_wp2_with fail
 rw[<-fx,<-s6];clear fx s6 ah af;refine CS1.out.mono ?_;rintro e w3 ⟨sb,rfl,m4,ax⟩;replace b1:=ax.cell b1;replace b2:=ax.cell b2;replace b3:=ax.cell b3;clear CS1 b0;go_wp2_with fail
 refine(CI1 w3 ax).out.mono ?_;rintro e w4 ⟨ib,rfl,yu,bu⟩;replace b1:=bu.cell b1;replace b3:=bu.cell b3;have agn:=m4.grows bu;have adq:=ax.tr bu;clear CI1 b2 m4;go_wp2_with fail
 refine(CD1 w4 adq).out.mono ?_;rintro e w5 ⟨pb,rfl,fk,bg⟩;replace b1:=bg.cell b1;have ago:=adq.tr bg;have di:=ia.tr ago;have CG1:=CG sb ib pb a1 c1 w5 (agn.grows bg) (yu.grows bg) fk (HT1.out.grows ago);clear CD1 CG b3 agn yu fk ax bu adq;go_wp2_with fail
 refine CG1.out.mono ?_;rintro e w6 ⟨v6,rfl,um,cp⟩;have adr:=gP um;obtain⟨a6,c6,rfl,_,_,pz⟩:=um.at_ (enc:=stC) (λ_=>rfl);rw[Aa]at adr ⊢;have CB1:=CB a6 c6 w6 (λq hq=>adr q.block (by rw[hq];rfl)) pz;have ri:=di.tr cp;clear CG1 CB um adr pz cp bg di;go_wp2_with fail
 refine CB1.out.mono ?_;rintro e w7 ⟨tb,rfl,zj,jh,cu⟩;have HLO:=Ab (As (An ri.size 2) jh);clear jh;have HTB:=Ab zj;have CE1:=CE tb w7.drew (zj.grows (Grows.drew w7));have rj:=ri.tr cu;have vn:∀x:Ext Grows w7.drew,(convert 42 9 (.slice ba b.length bc)).run Tryz.prog x.u=.ok (.string (mkB b)) x.u:=λx=>wL0 (c:=bc) HNE.out (HAT.out.grows (rj.dr.tr x.h));clear CB1 CE zj cu ri;go_wp2_with fail
 refine bF (lK [0,1,2,3,6,7,4,5,8,9] [4]) (by kernel_rfl) (λd _ _ _ _ h=>by cases d<;>exact h) ?_
 iterate 6 (refine aG rfl (λK hK=>?_);go_simp;refine hK _ ?_;clear hK K)
 refine aY rfl rfl (λK hK=>?_);go_simp;refine(CE1.out).mono ?_;rintro e w8 ⟨v8,rfl,vr,fy⟩;refine⟨fy,hK _ _ ?_⟩;clear hK K;have hcv:∀x:Ext Grows w8,(convert 42 9 v8).run Tryz.prog x.u=.ok (.string (mkB b)) x.u:=λx=>bX0 (vr.grows x.h);have mr:=rj.dr.tr fy;have HTB8:=Ab (HTB.out.grows ((Grows.drew w7).tr fy));have abh:((mkB b).toList==(mkB b).toList)=true:=by simp
 clear CE1 HTB vr fy rj vn;iterate 3 (refine aG rfl (λK hK=>?_);go_simp;refine hK _ ?_;clear hK K)
 refine bH ?_;go_wp2
 go_ret2;exact⟨tb,rfl,HTB8.out,HLO.out,mr⟩
end
section
open Go Go.RowKit Go.Shelf
def iW0 (lo:Nat) (p:List cJ) (m:Mx) (es:List En) (w:World):Nat->Value->Prop
 | 0,v=>aU w 0 147 2 bE v p
 | 1,v=>∃mb bm,v=.pointer (some ⟨mb,0,none⟩)/\fK w mb bm m
 | 2,v=>∃tb,v=.pointer (some ⟨tb,0,none⟩)/\eD w tb (bls (readL es))/\lo+2<=tb
 | 3,v=>∃tb,v=.pointer (some ⟨tb,0,none⟩)/\eD w tb (bls (surfL es))/\lo+2<=tb
 | 4,v=>∃pb,v=.pointer (some ⟨pb,0,none⟩)/\lU w pb (gM rG es es.length)
 | 5,v=>∃pb,v=.pointer (some ⟨pb,0,none⟩)/\lU w pb (es.map (yE (surfL es)))
 | 6,v=>∃pb,v=.pointer (some ⟨pb,0,none⟩)/\lU w pb (es.map λx=>x.l.toNat)
 | 7,v=>∃pb,v=.pointer (some ⟨pb,0,none⟩)/\lU w pb (es.map λx=>x.t.toNat)
 | 8,v=>∃pb,v=.pointer (some ⟨pb,0,none⟩)/\lU w pb (es.map λx=>x.c.toNat)
 | 9,v=>∃pb,v=.pointer (some ⟨pb,0,none⟩)/\lU w pb (zW es)
 | 10,v=>∃pb,v=.pointer (some ⟨pb,0,none⟩)/\lU w pb (gM hU0 (gI es) es.length)
 | _+11,_=>True
variable {lo db:Nat} {p:List cJ} {m:Mx} {es:List En} {w w':World} {i:Nat} {v:Value}
theorem iW0.grows (h:iW0 lo p m es w i v) (hg:Grows w w'):iW0 lo p m es w' i v:=by
 match i,h with
 | 0,h=>exact aU.grows h hg
 | 1,⟨mb,bm,e,hm⟩=>exact⟨mb,bm,e,hm.grows hg⟩
 | 2,⟨tb,e,ht,hl⟩=>exact⟨tb,e,ht.grows hg,hl⟩
 | 3,⟨tb,e,ht,hl⟩=>exact⟨tb,e,ht.grows hg,hl⟩
 | 4,⟨pb,e,hp⟩=>exact⟨pb,e,hp.grows hg⟩
 | 5,⟨pb,e,hp⟩=>exact⟨pb,e,hp.grows hg⟩
 | 6,⟨pb,e,hp⟩=>exact⟨pb,e,hp.grows hg⟩
 | 7,⟨pb,e,hp⟩=>exact⟨pb,e,hp.grows hg⟩
 | 8,⟨pb,e,hp⟩=>exact⟨pb,e,hp.grows hg⟩
 | 9,⟨pb,e,hp⟩=>exact⟨pb,e,hp.grows hg⟩
 | 10,⟨pb,e,hp⟩=>exact⟨pb,e,hp.grows hg⟩
 | _+11,_=>trivial
structure wF0 (w:World) (db:Nat) (cs:Array Value):Prop where
 tb:TB w db cs 79
 sz:cs.size=11
 c0:∃a n c,cs[0]?=some (.slice a n c)
theorem wF0.ne {cs:Array Value} (h:wF0 w db cs) {x:Nat} {u:Value} (hc:w.cell? ⟨x,0,none⟩=some u) (hu:∀a n c,u ≠ .slice a n c):¬x=db:=by
 rintro rfl;obtain⟨a,n,c,h0⟩:=h.c0
 have:=h.tb.cell h0
 rw[hc]at this;exact hu a n c (Option.some.inj this)
theorem wF0.out1 {cs:Array Value} (h:wF0 w db cs) {e:TypeId} (aj:79≠e):∀q,(λk=>k=db) q->∃o,w.heap[q]?=some o/\tE o≠some e:=qJ0 h.tb aj
theorem wF0.out2 {cs:Array Value} (h:wF0 w db cs):∀q,(λk=>k=db) q->∃o,w.heap[q]?=some o/\tE o≠some 164/\tE o≠some 3:=λq hq=>by
 have:q=db:=hq
 subst this;exact⟨_,h.tb,by simp[tE],by simp[tE]⟩
theorem mA {cs:Array Value} (h:wF0 w db cs) {pb:Nat} {l:List Nat} (hp:lU w pb l) (o:Nat) (u:Value):lU (w.setCell ⟨db,o,none⟩ u) pb l :=
 tW hp (iP w db o u) (h.ne hp.c0 (λ_ _ _ e=>by cases e)) h.out2
theorem qB0 {cs:Array Value} (h:wF0 w db cs) {tb:Nat} {L:List (List UInt8)} (ht:eD w tb L) (o:Nat) (u:Value):eD (w.setCell ⟨db,o,none⟩ u) tb L:=by
 obtain⟨sb,s1,s2⟩:=ht.s;obtain⟨ib,i1,i2⟩:=ht.i;obtain⟨vL,l1,l2⟩:=ht.l;obtain⟨pb,d1,d2⟩:=ht.d;obtain⟨vN,n1,n2⟩:=ht.n;have ho:=iP w db o u;have hn:=h.ne s1 (λ_ _ _ e=>by cases e)
 exact⟨⟨sb,dF s1 ho hn,fW s2 ho (h.ne s2.c0 (λ_ _ _ e=>by cases e)) h.out2⟩,⟨ib,dF i1 ho hn,fW i2 ho (h.ne i2.c0 (λ_ _ _ e=>by cases e)) h.out2⟩,
  ⟨vL,dF l1 ho hn,jW l2 ho (h.out1 (by decide))⟩,⟨pb,dF d1 ho hn,mA h d2 o u⟩,⟨vN,dF n1 ho hn,jW n2 ho (h.out1 (by decide))⟩⟩
theorem kK1 {cs:Array Value} (h:wF0 w db cs) {mb bm:Nat} {m:Mx} (hm:fK w mb bm m) (o:Nat) (u:Value):fK (w.setCell ⟨db,o,none⟩ u) mb bm m:=by
 refine hm.kept (aK w db o u) (λe=>h.ne hm.c0 (λ_ _ _ e=>by cases e) (Option.some.inj e)) (λe=>?_);obtain⟨D,hD,_⟩:=hm.own;have e2:bm=db:=Option.some.inj e;obtain⟨en,clock,hb,_⟩:=hD;rw[e2,show w.heap[db]?=_ from h.tb]at hb
 cases hb
theorem iW0.set {cs:Array Value} (h:iW0 lo p m es w i v) (hd:wF0 w db cs) (o:Nat) (u:Value):iW0 lo p m es (w.setCell ⟨db,o,none⟩ u) i v:=by
 match i,h with
 | 0,h=>exact jW h (iP w db o u) (hd.out1 (by decide))
 | 1,⟨mb,bm,e,hm⟩=>exact⟨mb,bm,e,kK1 hd hm o u⟩
 | 2,⟨tb,e,ht,hl⟩=>exact⟨tb,e,qB0 hd ht o u,hl⟩
 | 3,⟨tb,e,ht,hl⟩=>exact⟨tb,e,qB0 hd ht o u,hl⟩
 | 4,⟨pb,e,hp⟩=>exact⟨pb,e,mA hd hp o u⟩
 | 5,⟨pb,e,hp⟩=>exact⟨pb,e,mA hd hp o u⟩
 | 6,⟨pb,e,hp⟩=>exact⟨pb,e,mA hd hp o u⟩
 | 7,⟨pb,e,hp⟩=>exact⟨pb,e,mA hd hp o u⟩
 | 8,⟨pb,e,hp⟩=>exact⟨pb,e,mA hd hp o u⟩
 | 9,⟨pb,e,hp⟩=>exact⟨pb,e,mA hd hp o u⟩
 | 10,⟨pb,e,hp⟩=>exact⟨pb,e,mA hd hp o u⟩
 | _+11,_=>trivial
structure DSt (lo:Nat) (p:List cJ) (m:Mx) (es:List En) (ps:List Nat) (db fb:Nat) (fv:Value) (w:World):Prop where
 blk:∃cs,wF0 w db cs
 fl:TB w fb #[fv,.bool false] 99
 at_:∀i∈ps,∃v,w.cell? ⟨db,i,none⟩=some v/\iW0 lo p m es w i v
theorem DSt.grows {ps:List Nat} {fb:Nat} {fv:Value} (h:DSt lo p m es ps db fb fv w) (hg:Grows w w'):DSt lo p m es ps db fb fv w' :=
 ⟨let ⟨cs,hb⟩:=h.blk;⟨cs,hb.tb.gr hg,hb.sz,hb.c0⟩,h.fl.gr hg,λi hi=>let ⟨v,h1,h2⟩:=h.at_ i hi;⟨v,hg.cell h1,h2.grows hg⟩⟩
theorem DSt.set {ps:List Nat} {fb:Nat} {fv:Value} (h:DSt lo p m es ps db fb fv w) (hi:i<11) (hv:iW0 lo p m es w i v) (h0:i=0->∃a n c,v=.slice a n c):DSt lo p m es (i::ps) db fb fv (w.setCell ⟨db,i,none⟩ v):=by
 obtain⟨cs,hb⟩:=h.blk
 have d8:wF0 (w.setCell ⟨db,i,none⟩ v) db (cs.setIfInBounds i v):=⟨hb.tb.set i v,by rw[Ag];exact hb.sz,by
  by_cases e:i=0
  ·obtain⟨a,n,c,rfl⟩:=h0 e
   subst e;exact⟨a,n,c,by rw[Ac];simp[hb.sz]⟩
  ·obtain⟨a,n,c,hc⟩:=hb.c0
   exact⟨a,n,c,by rw[Ae e];exact hc⟩⟩
 refine⟨⟨_,d8⟩,h.fl.keep (aK w db i v) hb.tb.rt (by decide),λj hj=>?_⟩;by_cases e:j=i
 ·subst e
  exact⟨v,d8.tb.cell (by rw[Ac];simp[hb.sz,hi]),hv.set hb j v⟩
 ·have km:j∈ps:=by
   rcases List.mem_cons.1 hj with q|q
   ·exact absurd q e
   ·exact q
  obtain⟨u,h1,h2⟩:=h.at_ j km;exact⟨u,(World.cell?_setCell_other _ _ _ _ (λe2=>e (by injection e2 with _ e3 _;exact e3.symm))).trans h1,h2.set hb i v⟩
theorem DSt.dict {ps:List Nat} {fb:Nat} {fv:Value} (h:DSt lo p m es ps db fb fv w) (hp:∀i,i<11->i∈ps):cO w db p m es where
 p:=h.at_ 0 (hp 0 (by decide))
 m:=by obtain⟨v,h1,mb,bm,rfl,h2⟩:=h.at_ 1 (hp 1 (by decide));exact⟨mb,bm,h1,h2⟩
 r:=by obtain⟨v,h1,tb,rfl,h2,_⟩:=h.at_ 2 (hp 2 (by decide));exact⟨tb,h1,h2⟩
 s:=by obtain⟨v,h1,tb,rfl,h2,_⟩:=h.at_ 3 (hp 3 (by decide));exact⟨tb,h1,h2⟩
 f:=by obtain⟨v,h1,pb,rfl,h2⟩:=h.at_ 4 (hp 4 (by decide));exact⟨pb,h1,h2⟩
 i:=by obtain⟨v,h1,pb,rfl,h2⟩:=h.at_ 5 (hp 5 (by decide));exact⟨pb,h1,h2⟩
 l:=by obtain⟨v,h1,pb,rfl,h2⟩:=h.at_ 6 (hp 6 (by decide));exact⟨pb,h1,h2⟩
 t:=by obtain⟨v,h1,pb,rfl,h2⟩:=h.at_ 7 (hp 7 (by decide));exact⟨pb,h1,h2⟩
 c:=by obtain⟨v,h1,pb,rfl,h2⟩:=h.at_ 8 (hp 8 (by decide));exact⟨pb,h1,h2⟩
 o:=by obtain⟨v,h1,pb,rfl,h2⟩:=h.at_ 9 (hp 9 (by decide));exact⟨pb,h1,h2⟩
 a:=by obtain⟨v,h1,pb,rfl,h2⟩:=h.at_ 10 (hp 10 (by decide));exact⟨pb,h1,h2⟩
def oR (w:World) (db lo:Nat):Prop:=(∀tb,w.cell? ⟨db,2,none⟩=some (.pointer (some ⟨tb,0,none⟩))->lo+2<=tb)/\(∀tb,w.cell? ⟨db,3,none⟩=some (.pointer (some ⟨tb,0,none⟩))->lo+2<=tb)
theorem DSt.low {ps:List Nat} {fb:Nat} {fv:Value} (h:DSt lo p m es ps db fb fv w) (h2:2∈ps) (h3:3∈ps):oR w db lo:=by
 refine⟨λtb ht=>?_,λtb ht=>?_⟩
 ·obtain⟨v,h1,tb',rfl,_,hl⟩:=h.at_ 2 h2
  rw[h1]at ht;injection ht with ht
  injection ht with ht
  injection ht with ht
  injection ht with ht
  omega
 ·obtain⟨v,h1,tb',rfl,_,hl⟩:=h.at_ 3 h3
  rw[h1]at ht;injection ht with ht
  injection ht with ht
  injection ht with ht
  injection ht with ht
  omega
theorem iY {b o:Nat} {cs:Array Value} {t:TypeId} {u:Value} (h:TB w b cs t) (hc:cs[o]?=some u):Grows w (w.setCell ⟨b,o,none⟩ u):=by
 refine⟨rfl,rfl,rfl,by simp,λk hk=>?_⟩;by_cases e:k=b
 ·subst e
  rw[show (w.setCell ⟨k,o,none⟩ u).heap[k]?=_ from h.set o u,show w.heap[k]?=_ from h]
  congr 2
  apply Array.ext_getElem?
  intro j;by_cases e2:o=j
  ·subst e2
   rw[hc,Ac];simp[(Array.getElem?_eq_some_iff.1 hc).1]
  ·rw[Ae e2]
 ·exact Below.heap_setCell w ⟨b,o,none⟩ u k e
end
section
open Go Go.RowKit Go.Shelf
def fF0 (u:Value):Prop:=(∀k n,u ≠ .int k n)/\∀s,u ≠ .string s
theorem fF0.sl (a:Option Addr) (n c:Nat):fF0 (.slice a n c):=⟨λ_ _ e=>(by cases e),λ_ e=>(by cases e)⟩
theorem fF0.pt (a:Option Addr):fF0 (.pointer a):=⟨λ_ _ e=>(by cases e),λ_ e=>(by cases e)⟩
structure lX (w:World) (b:Nat) (cs:Array Value):Prop where
 tb:TB w b cs 31
 sz:cs.size=3
 c0:∃a n c,cs[0]?=some (.slice a n c)
 no:∀(j:Nat) u,cs[j]?=some u->fF0 u
theorem lX.zero {w:World} {b:Nat} (h:TB w b #[.slice none 0 0,.pointer none,.slice none 0 0] 31):lX w b #[.slice none 0 0,.pointer none,.slice none 0 0] :=
 ⟨h,rfl,⟨_,_,_,rfl⟩,λj u hj=>by
  match j,hj with
  | 0,hj=>cases hj;exact fF0.sl _ _ _
  | 1,hj=>cases hj;exact fF0.pt _
  | 2,hj=>cases hj;exact fF0.sl _ _ _⟩
theorem lX.grows {w w':World} {b:Nat} {cs:Array Value} (h:lX w b cs) (hg:Grows w w'):lX w' b cs:=⟨h.tb.gr hg,h.sz,h.c0,h.no⟩
theorem lX.set0 {w:World} {b:Nat} {cs:Array Value} (h:lX w b cs) (a:Option Addr) (n c:Nat):lX (w.setCell ⟨b,0,none⟩ (.slice a n c)) b (cs.setIfInBounds 0 (.slice a n c)):=by
 refine⟨h.tb.set 0 _,by rw[Ag];exact h.sz,⟨a,n,c,by rw[Ac];simp[h.sz]⟩,λj u hj=>?_⟩;rw[Ah]at hj;split at hj
 ·split at hj
  ·cases hj;exact fF0.sl _ _ _
  ·cases hj
 ·exact h.no j u hj
theorem lX.set {w:World} {b:Nat} {cs:Array Value} (h:lX w b cs) {o:Nat} (ho:o≠0) {v:Value} (hv:fF0 v):lX (w.setCell ⟨b,o,none⟩ v) b (cs.setIfInBounds o v):=by
 refine⟨h.tb.set o _,by rw[Ag];exact h.sz,?_,λj u hj=>?_⟩
 ·obtain⟨a,n,c,h0⟩:=h.c0
  exact⟨a,n,c,by rw[Ae ho];exact h0⟩
 ·rw[Ah]at hj
  split at hj
  ·split at hj
   ·cases hj;exact hv
   ·cases hj
  ·exact h.no j u hj
theorem lX.ne {w:World} {b:Nat} {cs:Array Value} (h:lX w b cs) {x:Nat} {u:Value} (hc:w.cell? ⟨x,0,none⟩=some u) (hu:∀a n c,u ≠ .slice a n c):¬x=b:=by
 rintro rfl;obtain⟨a,n,c,h0⟩:=h.c0
 have:=h.tb.cell h0
 rw[hc]at this;exact hu a n c (Option.some.inj this)
theorem sT0 {w:World} {b o:Nat} {cs:Array Value} {t:TypeId} {u:Value} (h:TB w b cs t) (hc:w.cell? ⟨b,o,none⟩=some u):cs[o]?=some u:=by
 unfold World.cell? at hc;rw[show w.heap[b]?=_ from h]at hc
 exact hc
theorem lX.neS {w:World} {b:Nat} {cs:Array Value} (h:lX w b cs) {x o:Nat} {u:Value} (hc:w.cell? ⟨x,o,none⟩=some u) (hu:¬fF0 u):¬x=b:=by
 rintro rfl;exact hu (h.no o u (sT0 h.tb hc))
theorem lX.out1 {w:World} {b:Nat} {cs:Array Value} (h:lX w b cs) {e:TypeId} (aj:31≠e):∀q,(λk=>k=b) q->∃o,w.heap[q]?=some o/\tE o≠some e:=qJ0 h.tb aj
theorem lX.out2 {w:World} {b:Nat} {cs:Array Value} (h:lX w b cs):∀q,(λk=>k=b) q->∃o,w.heap[q]?=some o/\tE o≠some 164/\tE o≠some 3:=λq hq=>by
 have:q=b:=hq
 subst this;exact⟨_,h.tb,by simp[tE],by simp[tE]⟩
theorem lX.pk {w:World} {b:Nat} {cs:Array Value} (h:lX w b cs) {pb:Nat} {l:List Nat} (hp:lU w pb l) (o:Nat) (u:Value):lU (w.setCell ⟨b,o,none⟩ u) pb l :=
 tW hp (iP w b o u) (h.ne hp.c0 (λ_ _ _ e=>by cases e)) h.out2
theorem lX.trie {w:World} {b:Nat} {cs:Array Value} (h:lX w b cs) {tb:Nat} {L:List (List UInt8)} (ht:eD w tb L) (o:Nat) (u:Value):eD (w.setCell ⟨b,o,none⟩ u) tb L:=by
 obtain⟨sb,s1,s2⟩:=ht.s;obtain⟨ib,i1,i2⟩:=ht.i;obtain⟨vL,l1,l2⟩:=ht.l;obtain⟨pb,d1,d2⟩:=ht.d;obtain⟨vN,n1,n2⟩:=ht.n;have ho:=iP w b o u;have hn:=h.ne s1 (λ_ _ _ e=>by cases e)
 exact⟨⟨sb,dF s1 ho hn,fW s2 ho (h.ne s2.c0 (λ_ _ _ e=>by cases e)) h.out2⟩,⟨ib,dF i1 ho hn,fW i2 ho (h.ne i2.c0 (λ_ _ _ e=>by cases e)) h.out2⟩,
  ⟨vL,dF l1 ho hn,jW l2 ho (h.out1 (by decide))⟩,⟨pb,dF d1 ho hn,h.pk d2 o u⟩,⟨vN,dF n1 ho hn,jW n2 ho (h.out1 (by decide))⟩⟩
theorem lX.mat {w:World} {b:Nat} {cs:Array Value} (h:lX w b cs) {mb bm:Nat} {m:Mx} (hm:fK w mb bm m) (o:Nat) (u:Value):fK (w.setCell ⟨b,o,none⟩ u) mb bm m:=by
 refine hm.kept (aK w b o u) (λe=>h.ne hm.c0 (λ_ _ _ e=>by cases e) (Option.some.inj e)) (λe=>?_);obtain⟨D,hD,_⟩:=hm.own;have e2:bm=b:=Option.some.inj e;obtain⟨en,clock,hb,_⟩:=hD;rw[e2,show w.heap[b]?=_ from h.tb]at hb
 cases hb
theorem lX.at_ {α:Type} {w:World} {b:Nat} {cs:Array Value} (h:lX w b cs) {a:Option Addr} {k:Nat} {xs:List α} {enc:α->List Value} (ain:∀x, ∃u,(enc x)[0]?=some u/\¬fF0 u) (ac:aF w a k (xs.map enc)) (o:Nat) (u:Value):aF (w.setCell ⟨b,o,none⟩ u) a k (xs.map enc):=by
 by_cases hn:xs=[]
 ·subst hn
  exact λh=>absurd rfl h
 ·refine oF ac (aK w b o u) λq hq e=>?_
  obtain⟨ba,oa,rfl,hc⟩:=ac.get hn;cases hq
  obtain⟨x,hx⟩:∃x,xs[0]?=some x:=⟨_,Ad (List.length_pos_iff.2 hn)⟩;obtain⟨v,hv,fm⟩:=ain x;exact h.neS (hc 0 x hx 0 v hv) fm (Option.some.inj e)
theorem lX.ref {w:World} {b:Nat} {cs:Array Value} (h:lX w b cs) {rb:Nat} {m:Mx} (hr:jK w rb m) (o:Nat) (u:Value):jK (w.setCell ⟨b,o,none⟩ u) rb m:=by
 have ho:=iP w b o u;have hn:=h.ne hr.c0 (λ_ _ _ e=>by cases e);exact⟨hr.ok,dF hr.c0 ho hn,dF hr.c1 ho hn,let ⟨v,hv,hO⟩:=hr.own;⟨v,dF hv ho hn,jW hO ho (h.out1 (by decide))⟩⟩
theorem dU1 (x:cJ):∃u,(bE x)[0]?=some u/\¬fF0 u:=⟨_,rfl,λh=>h.2 _ rfl⟩
theorem lF1 (x:En):∃u,(aJ x)[0]?=some u/\¬fF0 u:=⟨_,rfl,λh=>h.2 _ rfl⟩
def cO1 (w:World) (u0 u1 u2:Value) (p:List cJ) (m:Mx) (es:List En):Prop :=
 ∃pa pc rb a c,u0=.slice pa p.length pc/\u1=.pointer (some ⟨rb,0,none⟩)/\u2=.slice a es.length c/\aF w pa 2 (p.map bE)/\jK w rb m/\aF w a 5 (es.map aJ)
theorem cO1.grows {w w':World} {u0 u1 u2:Value} {p:List cJ} {m:Mx} {es:List En} (h:cO1 w u0 u1 u2 p m es) (hg:Grows w w'):cO1 w' u0 u1 u2 p m es :=
 let ⟨pa,pc,rb,a,c,h0,h1,h2,hp,hr,he⟩:=h
 ⟨pa,pc,rb,a,c,h0,h1,h2,hp.grows hg,hr.grows hg,he.grows hg⟩
theorem lX.rdat {w:World} {b:Nat} {cs:Array Value} (k:lX w b cs) {u0 u1 u2:Value} {p:List cJ} {m:Mx} {es:List En} (h:cO1 w u0 u1 u2 p m es) (o:Nat) (u:Value):cO1 (w.setCell ⟨b,o,none⟩ u) u0 u1 u2 p m es :=
 let ⟨pa,pc,rb,a,c,h0,h1,h2,hp,hr,he⟩:=h
 ⟨pa,pc,rb,a,c,h0,h1,h2,k.at_ dU1 hp o u,k.ref hr o u,k.at_ lF1 he o u⟩
theorem lX.keep {w:World} {b x i:Nat} {cs:Array Value} {v:Value} (_k:lX w b cs) (o:Nat) (u:Value) (hx:¬x=b) (h:w.cell? ⟨x,i,none⟩=some v):(w.setCell ⟨b,o,none⟩ u).cell? ⟨x,i,none⟩=some v:=dF h (iP w b o u) hx
theorem lX.dict {w:World} {b db:Nat} {cs:Array Value} (k:lX w b cs) {p:List cJ} {m:Mx} {es:List En} (h:cO w db p m es) (aj:¬db=b) (o:Nat) (u:Value):cO (w.setCell ⟨b,o,none⟩ u) db p m es where
 p:=let ⟨v,h1,h2⟩:=h.p;⟨v,k.keep o u aj h1,jW h2 (iP w b o u) (k.out1 (by decide))⟩
 m:=let ⟨x,y,h1,h2⟩:=h.m;⟨x,y,k.keep o u aj h1,k.mat h2 o u⟩
 r:=let ⟨v,h1,h2⟩:=h.r;⟨v,k.keep o u aj h1,k.trie h2 o u⟩
 s:=let ⟨v,h1,h2⟩:=h.s;⟨v,k.keep o u aj h1,k.trie h2 o u⟩
 f:=let ⟨v,h1,h2⟩:=h.f;⟨v,k.keep o u aj h1,k.pk h2 o u⟩
 i:=let ⟨v,h1,h2⟩:=h.i;⟨v,k.keep o u aj h1,k.pk h2 o u⟩
 l:=let ⟨v,h1,h2⟩:=h.l;⟨v,k.keep o u aj h1,k.pk h2 o u⟩
 t:=let ⟨v,h1,h2⟩:=h.t;⟨v,k.keep o u aj h1,k.pk h2 o u⟩
 c:=let ⟨v,h1,h2⟩:=h.c;⟨v,k.keep o u aj h1,k.pk h2 o u⟩
 o:=let ⟨v,h1,h2⟩:=h.o;⟨v,k.keep o u aj h1,k.pk h2 o u⟩
 a:=let ⟨v,h1,h2⟩:=h.a;⟨v,k.keep o u aj h1,k.pk h2 o u⟩
def gP1 (p:List cJ) (m:Option Mx) (l:List En) (w:World) (e:Ending) (w':World):Prop :=
 Grows w w'/\∃a0 n0 c0 q a2 n2 c2,e=.returned (.tuple #[.agg #[.slice a0 n0 c0,.pointer q,.slice a2 n2 c2],.int .i64 (iT p m l)])/\(iT p m l=0->∃mm,m=some mm/\cO1 w' (.slice a0 n0 c0) (.pointer q) (.slice a2 n2 c2) p mm (sortS l))
theorem yP0 (p:List cJ) (mv:Value) (m:Option Mx) (l:List En) (pa a:Option Addr) (pc c:Nat) (w:World) (hp:p.length<=4611686018427387904) (fi:∀x∈p,x.name.size<=9223372036854775807) (hl:l.length<=140737488355328) (hs:∀x∈l,x.r.size<=1099511627776/\x.s.size<=1099511627776)
  (l7:aF w pa 2 (p.map bE)) (hm:iK1 w mv m) (ac:aF w a 5 (l.map aJ)) :
  Calls Tryz.prog 68 #[.slice pa p.length pc,mv,.slice a l.length c] w (gP1 p m l w):=by
 have key:Calls Tryz.prog 68 #[.slice pa p.length pc,mv,.slice a l.length c] w (dN p mv m l pa pc w):=by
  by_cases hc:mC p m l=0
  ·cases m with
   | none =>
    unfold mC at hc;split at hc<;>cases hc
   | some m =>
    obtain⟨rb,rfl,hr⟩:=hm;exact fG1 p rb m l pa a pc c w hp fi hs l7 hr ac hc
  ·exact aP1 p mv m l pa a pc c w hp fi hl hs l7 hm ac hc
 refine key.mono λe w' h=>?_;obtain⟨hg,h1,h2⟩:=h;refine⟨hg,?_⟩;by_cases hc:iT p m l=0
 ·obtain⟨a',c',rfl,jr⟩:=h1 hc
  cases m with
  | none =>
   have:=(mT hc).1
   unfold mC at this;split at this<;>cases this
  | some m =>
   obtain⟨rb,rfl,hr⟩:=hm;exact⟨_,_,_,_,_,_,_,by rw[hc],λ_=>⟨m,rfl,_,_,_,_,_,rfl,rfl,rfl,l7.grows hg,hr.grows hg,jr⟩⟩
 ·exact⟨none,0,0,none,none,0,0,h2 hc,λh=>absurd h hc⟩
end
section
open Go Go.RowKit Go.Shelf
attribute [local go_sem] aQ aM
theorem aV0 (Q:List bD) (k:Nat) (q:bD) (a:Option Addr) (c fb:Nat) (w:World) (hl:Q.length<=1000000) (ac:aF w a 2 (Q.map lG)) (ke:iV w Q) (hq:Q[k]?=some q) (aj:∀j p,j<k->Q[j]?=some p->p.name≠q.name)
  (hf:TB w fb #[.slice a Q.length c,.bool false] 99) :
  Calls Tryz.prog 57 #[.pointer (some ⟨fb,0,none⟩),.string q.name] w λe w'=>∃v,e=.returned v/\aU w' w.heap.size 5 1 aX v q.data/\Grows w w':=by
 have CF:=Ab (sJ0 Q k q a c w hl ac ke hq aj);have f0:=hf.cell (o:=0) rfl;generalize Q.length=QL at CF hf f0;clear ac ke hq aj hl;go_enter Tryz.func57,Tryz.ntmps57
 go_wp2_with fail
 refine CF.out.mono ?_;rintro e w1 ⟨v,rfl,hv,ah⟩;have T1:=hf.gr ah;have b1:=T1.cell (o:=1) rfl;have z1:=T1.froz 1;clear CF f0;go_wp2_with fail
 go_ret;exact⟨v,rfl,hv.grows (iY T1 rfl),ah.tr (iY T1 rfl)⟩
theorem jK0 (Q:List bD) (k:Nat) (q:bD) (l:List Nat) (hd:q.data=packE l) (hp:l.length<=1048576/\∀n∈l,n<18446744073709551616) (a:Option Addr) (c fb:Nat) (w:World) (hl:Q.length<=1000000) (ac:aF w a 2 (Q.map lG)) (ke:iV w Q) (hq:Q[k]?=some q) (aj:∀j p,j<k->Q[j]?=some p->p.name≠q.name)
  (hf:TB w fb #[.slice a Q.length c,.bool false] 99) :
  Calls Tryz.prog 60 #[.pointer (some ⟨fb,0,none⟩),.string q.name] w λe w'=>∃pb,e=.returned (.pointer (some ⟨pb,0,none⟩))/\lU w' pb l/\Grows w w':=by
 have CD:=Ab (aV0 Q k q a c fb w hl ac ke hq aj hf);rw[hd]at CD;have HHP:=Ab hp;generalize Q.length=QL at CD hf;generalize q.name=nm at CD ⊢;clear ac ke hq aj hl hd hp;go_enter Tryz.func60,Tryz.ntmps60
 go_wp2_with fail
 refine CD.out.mono ?_;rintro e w1 ⟨v,rfl,hv,ah⟩;obtain⟨a1,c1,rfl,h1c,_,ct⟩:=hv.at_ bK.len;have iw:=bN hv;have T1:=hf.gr ah;have CE:=Ab (qQ0 l a1 c1 w1 HHP.out.1 HHP.out.2 h1c iw ct);clear CD hv ct iw h1c HHP;generalize (packE l).length=PL at CE ⊢;go_wp2_with fail
 refine CE.out.mono ?_;rintro e w2 ⟨pb,rfl,hpk,af⟩;have T2:=T1.gr af;have b1:=T2.cell (o:=1) rfl;have z1:=T2.froz 1;have hs:=iY (o:=1) (u:=.bool false) T2 rfl;clear CE;go_wp2_with fail
 go_ret;exact⟨pb,rfl,hpk.grows hs,(ah.tr af).tr hs⟩
theorem aV1 (Q:List bD) (k:Nat) (q:bD) (L:List (List UInt8)) (hd:q.data=loudE L) (hp:cY L=0) (a:Option Addr) (c fb:Nat) (w:World) (hl:Q.length<=1000000) (ac:aF w a 2 (Q.map lG)) (ke:iV w Q) (hq:Q[k]?=some q) (aj:∀j p,j<k->Q[j]?=some p->p.name≠q.name)
  (hf:TB w fb #[.slice a Q.length c,.bool false] 99) :
  Calls Tryz.prog 59 #[.pointer (some ⟨fb,0,none⟩),.string q.name] w λe w'=>∃tb,e=.returned (.pointer (some ⟨tb,0,none⟩))/\eD w' tb L/\w.heap.size+2<=tb/\Grows w w':=by
 have CD:=Ab (aV0 Q k q a c fb w hl ac ke hq aj hf);rw[hd]at CD;have HHP:=Ab hp;generalize Q.length=QL at CD hf;generalize q.name=nm at CD ⊢;clear ac ke hq aj hl hd hp;go_enter Tryz.func59,Tryz.ntmps59
 go_wp2_with fail
 refine CD.out.mono ?_;rintro e w1 ⟨v,rfl,hv,ah⟩;obtain⟨a1,c1,rfl,h1c,_,ct⟩:=hv.at_ bK.len;have T1:=hf.gr ah;have CE:=Ab (eA1 L a1 c1 w1 HHP.out h1c ct);clear CD hv ct h1c HHP;generalize (loudE L).length=PL at CE ⊢;go_wp2_with fail
 refine CE.out.mono ?_;rintro e w2 ⟨tb,rfl,zj,jh,af⟩;have T2:=T1.gr af;have b1:=T2.cell (o:=1) rfl;have z1:=T2.froz 1;have hs:=iY (o:=1) (u:=.bool false) T2 rfl;clear CE;go_wp2_with fail
 go_ret;exact⟨tb,rfl,zj.grows hs,As (An ah.size 2) jh,(ah.tr af).tr hs⟩
end
section
open Go Go.RowKit Go.Shelf
attribute [local go_sem] aQ aM Oper.semAt_some
abbrev nJ0 (n:Nat):={ j:Nat // j<n }
theorem pJ0 {a k:Nat} (h:a<=k):Af a (k+1-a)=Af a (k-a)++[k]:=by
 rw[show k+1-a=(k-a)+1 by omega,<-List.range'_append_1 (s:=a) (m:=k-a) (n:=1)]
 simp[show a+(k-a)=k by omega]
theorem kE1 (F:Fence) (n:Nat) (hF:F.fn 109) (tw:F.round=none) (hn:1<=n) (l N a b b1 b2:Nat) (ev:a<=b) (hbN:b<=N) (hN:N<=1048576) (S:Nat->Prop) (h2:S b2) (J Jx:List (nJ0 N)->World->Prop)
  (hY:∀pre x W,J pre W->pre.length<b-a->YieldAt F (n-1) Tryz.prog l #[.int .i64 (x.1:Nat)] W λe W' =>
   (e=.returned (.bool true)/\J (pre++[x]) W'/\bP S W W')\/(e=.returned (.bool false)/\Jx (pre++[x]) W'))
  (W:World) (c1:W.cell? ⟨b1,0,none⟩=some (.int .i64 a)) (c2:W.cell? ⟨b2,0,none⟩=some (.int .i64 b)) (h0:J [] W) :
  CallsIn F n Tryz.prog 109 #[.func (.yield l) #[] #[],.pointer (some ⟨b1,0,none⟩),.pointer (some ⟨b2,0,none⟩)] W λe W'=>(∃v,e=.returned v) /\
   ((∃xs:List (nJ0 N),xs.map (·.1)=Af a (b-a)/\J xs W')\/(∃pre:List (nJ0 N),True/\Jx pre W')):=by
 refine callsIn_of_wp Tryz.func109 rfl hF ?_ tw;simp only[Tryz.ntmps109,At,Av,Az,Bc,Bd,Ao,Ap,Au,Ar,Ba,Aw];gi_wp2
 gi_loopw [4] (λi wr=>∃(k:Nat) (pre:List (nJ0 N)),i=.int .i64 k/\a<=k/\k<=b/\pre.map (·.1)=Af a (k-a)/\J pre wr/\bP S W wr) (λi _=>b-(intOf i).toNat)
 case atStart=>exact⟨a,[],rfl,Ay _,ev,by simp,h0,bP.refl _ _⟩
 case round =>
  obtain⟨k,pre,rfl,hak,oq,hp,hJ,hK⟩:=hrel;have c2r:=hK.cell h2 c2;by_cases ae:k<b
  ·have d9:(k:Int)<b:=by omega
   have ml:pre.length=k-a:=by
    have:=congrArg Bf hp
    simpa using this
   obtain⟨fn,tmps,assign,body,hy,hR⟩:=hY pre ⟨k,by omega⟩ wr hJ (by omega);dsimp only at hy
   have nl:(pre++[(⟨k,by omega⟩:nJ0 N)]).map (·.1)=Af a (k+1-a):=by
    rw[Am,hp,pJ0 hak];rfl
   clear hp hJ;gi_wp2
   refine hR.mono ?_;rintro e W3 (⟨rfl,ng,ii⟩|⟨rfl,g9⟩)
   ·gi_wp2
    go_roundw
    case rel=>exact⟨k+1,_,by go_num,by omega,ae,nl,ng,hK.tr ii⟩
    case measure=>simp[intOf];omega
   ·gi_wp2
    go_end0;exact⟨⟨_,rfl⟩,.inr ⟨_,trivial,g9⟩⟩
  ·have d9:¬(k:Int)<b:=by omega
   obtain rfl:k=b:=by omega
   gi_wp2
   refine⟨λf h=>(by cases h),?_⟩;gi_wp2
   go_end0;exact⟨⟨_,rfl⟩,.inl ⟨pre,hp,hJ⟩⟩
theorem tU0 (n N a b b1 b2:Nat) (hn:1<=n) (ev:a<=b) (hbN:b<=N) (hN:N<=1048576) (S:Nat->Prop) (h1:S b1) (h2:S b2) (w:World) (ae:∀b,S b->b<w.heap.size) (c1:w.cell? ⟨b1,0,none⟩=some (.int .i64 a)) (c2:w.cell? ⟨b2,0,none⟩=some (.int .i64 b)) :
  SeqStopsK Fence.wide n Tryz.prog 109 #[.pointer (some ⟨b1,0,none⟩),.pointer (some ⟨b2,0,none⟩)] (λx:nJ0 N => #[.int .i64 (x.1:Nat)]) (bP S) (λys=>ys.map (·.1)=Af a (b-a)) (λ_=>True) (b-a) w:=by
 intro l J Jx W hW hJ _ hY h0;have hK0:bP S w W:=bP.of_below hW ae;exact kE1 Fence.wide n trivial rfl hn l N a b b1 b2 ev hbN hN S h2 J Jx hY W (hK0.cell h1 c1) (hK0.cell h2 c2) h0
theorem hT0 (a b:Int) (w:World) :
  Calls Tryz.prog 53 #[.int .i64 a,.int .i64 b] w λe w'=>e=.returned (.func (.func 109) #[] #[.pointer (some ⟨w.heap.size,0,none⟩),.pointer (some ⟨w.heap.size+1,0,none⟩)]) /\
   w'=(w.alloc (.cells #[.int .i64 a] 3)).alloc (.cells #[.int .i64 b] 3):=by
 have hmf:∀(fn:Fn) (first cap:Array Value) (w:World),(Instr.makeFunc fn first cap).run Tryz.prog w=.ok (.func fn first cap) w:=λ_ _ _ _=>rfl
 go_enter Tryz.func53,Tryz.ntmps53
 go_wp2_with fail
 go_ret;exact⟨rfl,rfl⟩
structure mB1 (w:World) (db:Nat) (es:List En) (s:Nat) (pre:List Nat) (v:Value) (W:World):Prop where
 bd:TB W s #[.pointer (some ⟨db,0,none⟩)] 27
 bl:TB W (s+1) #[v] 24
 own:aU W s 59 5 aJ v (pre.map λj=>es.getD j enZero)
 gr:Grows w W
 s0:s=w.heap.size
 sz:s+2<=W.heap.size
theorem mB1.other {w W W':World} {db s:Nat} {es:List En} {pre:List Nat} {v:Value} (h:mB1 w db es s pre v W) {row:Option Nat} (hg:W.grownBy W' row) (hr:RT W row none) (hs:∀q,row=some q->s<=q):mB1 w db es s pre v W' :=
 ⟨h.bd.keep hg hr (by simp),h.bl.keep hg hr (by simp),aO h.own hg hr (by simp),h.gr.grown hg (λq hq=>by rw[<-h.s0];exact hs q hq),h.s0,As h.sz hg.size⟩
theorem zC {W W':World} (B:Nat) (h:Grows W W'):KeepsFrom B W W':=⟨h.size,λk _o _ hk _=>(Below.block h k (Array.getElem?_eq_some_iff.1 hk).1).trans hk⟩
theorem jG0 (p:List cJ) (m:Mx) (es:List En) (db g:Nat) (lb:Array Value) (js:List Nat) (w:World) (ag:cH p m es) (ac:cO w db p m es) (hj:js.length<=1048576) (eg:∀args w,(callFunc g args).run Tryz.prog w=.ok (.enter g args) w)
  (KS:SeqStopsK Fence.wide 7 Tryz.prog g lb (λx:nJ0 es.length => #[.int .i64 (x.1:Nat)]) (bP λb=>b<w.heap.size) (λys=>ys.map (·.1)=js) (λ_=>True) js.length w) :
  Calls Tryz.prog 52 #[.pointer (some ⟨db,0,none⟩),.func (.func g) #[] lb] w λe w'=>∃v,e=.returned v/\aU w' w.heap.size 59 5 aJ v (js.map λj=>es.getD j enZero)/\Grows w w':=by
 have CE:=λ(i:Nat) (x:En) (hx:es[i]?=some x) (u:World) (hu:Grows w u)=>Ab (uX0 p m es db i x u ag (ac.grows hu) hx);have hn:=ag.len;clear ac ag;refine(callsIn_wide (n:=8)).1 (callsIn_of_wp_marks Tryz.func52 rfl trivial ?_);simp only[Tryz.ntmps52,At,Av,Az,Bc,Bd,Ao,Ap,Au,Ar,Ba,Aw];gi_wp2
 have hs:w.heap.size=w.heap.size:=rfl;have cd:Grows w ((w.alloc (.cells #[.pointer (some ⟨db,0,none⟩)] 27)).alloc (.cells #[.slice none 0 0] 24)):=(Grows.alloc _ _).al _
 have J0:mB1 w db es w.heap.size [] (.slice none 0 0) ((w.alloc (.cells #[.pointer (some ⟨db,0,none⟩)] 27)).alloc (.cells #[.slice none 0 0] 24)):=by
  refine⟨?_,?_,aU.nil _ _ _ _ _,cd,hs,by simp⟩
  ·exact(TB.alloc _ _ _).al _
  ·have:=TB.alloc (w.alloc (.cells #[.pointer (some ⟨db,0,none⟩)] 27)) #[.slice none 0 0] 24
   rw[Ax]at this;exact this
 have ads:((w.alloc (.cells #[.pointer (some ⟨db,0,none⟩)] 27)).alloc (.cells #[.slice none 0 0] 24)).heap.size=w.heap.size+2:=by simp
 generalize ((w.alloc (.cells #[.pointer (some ⟨db,0,none⟩)] 27)).alloc (.cells #[.slice none 0 0] 24))=W0 at J0 cd ads ⊢
 refine wpIn_rangeFunc_ownH (F:=Fence.wide) (n:=8) (α:=nJ0 es.length) rfl (by decide) (gf:=g) (lb:=lb) rfl trivial eg KS
  (λh k=>h.tr k) (λW l o o' hl ho hc hw b hb=>World.putObj_heap_other (λe=>by omega)) cd (λ_=>rfl)
  (λpre W=>∃v,mB1 w db es w.heap.size (pre.map (·.1)) v W)
  (λ_ _ _=>False) ?hI (λ_ _ _ _ _ h _ _=>h) ⟨_,J0⟩
  (λx a' W=>∃v,a'={ tmps:=#[.pointer (some ⟨db,0,none⟩),.func (.func g) #[] lb,.pointer (some ⟨w.heap.size,0,none⟩),undef,.slice none 0 0,.pointer (some ⟨w.heap.size+1,0,none⟩),.int .i64 (x.1:Nat),.func (.func g) #[] lb,.int .i64 (x.1:Nat),undef,undef,undef,undef,undef,undef,undef],defers:=[] }/\v=W.heap.size)
  ?hAx ?assign ?body ?done ?stop
 case hI =>
  rintro pre V V' row ⟨v,h⟩ hg hr;exact⟨v,h.other hg (RT.of_not λq e=>(hr q e).2) (λq e=>by have:=(hr q e).1;omega)⟩
 case hAx =>
  rintro x a' _ V V' row ⟨v,h,_⟩ hg hr;exact⟨_,h,rfl⟩
 case assign =>
  rintro l pre x V K2 ⟨v,h⟩ lr;gi_wp2
  exact lr _ _ (KeepsFrom.refl _ _) (bP.refl _ _) ⟨v,h⟩ ⟨_,rfl,rfl⟩
 case body =>
  rintro l pre x a' V hl afc ⟨v,h⟩ ⟨_,rfl,_⟩ ak;obtain⟨y,hy⟩:∃y,es[x.1]?=some y:=⟨_,Ad x.2⟩;have CE1:=CE x.1 y hy V.drew (h.gr.tr (Grows.drew V));have hyd:es.getD x.1 enZero=y:=by rw[List.getD_eq_getElem?_getD,hy];rfl
  have z0:∀q:Ext Grows V.drew,q.u.cell? ⟨w.heap.size,0,none⟩=some (.pointer (some ⟨db,0,none⟩)):=aB ((Grows.drew V).cell (h.bd.cell rfl));have z1:∀q:Ext Grows V.drew,q.u.cell? ⟨w.heap.size+1,0,none⟩=some v:=aB ((Grows.drew V).cell (h.bl.cell rfl));obtain⟨xi,rz⟩:=x;obtain⟨yr,ys,yl,yt,yc⟩:=y;unfold En.val at CE1;simp only at CE1 hyd ak z0 z1;have zw:(pre.map (·.1)).length+1<=1048576+1:=by rw[Aa];omega
  clear CE hy afc;refine wpIn_block ?_;refine iB1 Grows 5 (aV 5 [3,4]) (by rintro⟨_,_,h⟩;exact h) (by kernel_rfl) Grows.refl Grows.trans (by kernel_rfl) (by kernel_rfl) (λd _ _ _ _ h=>by cases d<;>exact h) ?_
  iterate 3 (refine aG rfl (λK hK=>?_);go_simp;refine hK _ ?_;clear hK K)
  clear z0 z1;refine aY rfl rfl (λK hK=>?_);go_simp;refine(CE1.out).mono ?_;rintro e w3 ⟨rfl,ax⟩;refine⟨ax,hK _ _ ?_⟩;clear hK K;refine aY rfl rfl (λK hK=>?_);go_simp;refine⟨Grows.alloc _ _,hK _ _ ?_⟩;clear hK K CE1;refine bH ?_;simp only[List.drop_succ_cons,Bb];have rr:=(Grows.drew V).tr ax;have hg:=h.gr.tr rr;have hO:=h.own.grows rr;have hb:=h.bl.gr rr;have hd:=h.bd.gr rr;obtain⟨ps,hps⟩:∃ps,pre.map (·.1)=ps:=⟨_,rfl⟩;rw[hps]at hO zw;go_wp2_with (at_builtin;refine cK dR rfl _ _ rfl w.heap.size v (ps.map λj=>es.getD j enZero) ⟨yr,ys,yl,yt,yc⟩ rfl hO (Grows.refl _) _ 1 rfl #[.string yr,.string ys,.int .i64 yl,.int .i64 yt,.int .i64 yc] rfl rfl (by rw[Aa];omega) (by have:=hg.size;omega) ?_;intro v7 w7 yv cu vp oc;obtain⟨g7,p7,rfl⟩:=pI yv;have hb7:=hb.keep cu (RT.own hO) (by decide);have c7:=hb7.cell (o:=0) rfl;have f7:=hb7.froz 0)
  have hd7:=hd.keep cu (RT.own hO) (by decide);have gr7:=oc w hg (Ay _);have gr8:=gr7.set (p:=⟨w.heap.size+1,0,none⟩) (show w.heap.size<=w.heap.size+1 by omega) (.slice (some ⟨g7,0,none⟩) (ps.length+1) p7)
  refine⟨((((KeepsOthers.drew V).from _).trans (zC _ ax)).trans (iO cu (RT.own hO))).trans (kJ hb7 0 (.slice (some ⟨g7,0,none⟩) (ps.length+1) p7)),λb hb=>(Below.block gr8 b hb).trans (Below.block h.gr b hb).symm,(.slice (some ⟨g7,0,none⟩) (ps.length+1) p7),?_⟩
  refine⟨hd7.keep (aK w7 (w.heap.size+1) 0 (.slice (some ⟨g7,0,none⟩) (ps.length+1) p7)) hb7.rt (by decide),hb7.set 0 (.slice (some ⟨g7,0,none⟩) (ps.length+1) p7),?_,gr8,rfl,?_⟩
  ·have h8:=aO yv (aK w7 (w.heap.size+1) 0 (.slice (some ⟨g7,0,none⟩) (ps.length+1) p7)) hb7.rt (by decide)
   have na:(pre++[(⟨xi,rz⟩:nJ0 es.length)]).map (·.1)=ps++[xi]:=by
    rw[Am,hps];rfl
   refine Eq.mp (congrArg (λq=>aU _ _ _ _ _ _ (q.map λj=>es.getD j enZero)) na.symm) ?_;rw[Am,List.map_cons,List.map_nil,hyd];rw[Aa]at h8;exact h8
  ·have:=h.sz
   have:=rr.size
   have:=cu.size
   simp;omega
 case stop =>
  rintro D c pre W _ _ h _;exact h.elim
 case done =>
  rintro D xs V hD hxs ⟨v,h⟩ hKD;have c1:=h.bl.cell (o:=0) rfl;gi_wp2
  refine⟨by simp,.inl ⟨_,_,rfl,run_takeDeferred hKD,?_⟩⟩;rw[hxs]at h;exact⟨_,results_tmp rfl _ _ _,v,rfl,by exact ownsRow_putObj h.own _ hKD rfl,Below.trans h.gr (belowK_b (w:=w) (Ay _) V D _ _ (by omega) hKD rfl rfl)⟩
end
section
open Go Go.RowKit Go.Shelf
attribute [local go_sem] aQ aM
theorem yU (l:List Nat) (pb N id a b:Nat) (w:World) (hl:l.length<=1048576) (hn:∀n∈l,n<=1073741824) (hr:tY0 l N id a b) (ac:lU w pb l) :
  Calls Tryz.prog 51 #[.pointer (some ⟨pb,0,none⟩),.int .i64 id,.int .i64 N] w λe w'=>e=.returned (.tuple #[.int .i64 (a:Nat),.int .i64 (b:Nat)])/\Grows w w':=by
 obtain⟨h1,h2,h3⟩:=hr;have hid:=(List.getElem?_eq_some_iff.1 h1).1;have CL:=Ab (gO l pb w ac);have CA:=λ(u:World) (hu:Grows w u)=>Ab (lC l pb id a u hl hn h1 (ac.grows hu));obtain⟨i1,hi1⟩:=exq (id+1);have wi:IntKind.i64.wrap ((id:Int)+1)=i1:=by simp[Ak,Al,Ai];omega
 rw[<-hi1]at h2 h3;obtain⟨ll,tg⟩:=exq l.length;rw[<-tg]at CL h2 h3;by_cases ae:i1<ll
 ·have d9:(i1:Int)<ll:=by omega
  have CB:=Ab (lC l pb i1 b w hl hn (h2 ae) ac);clear ac hn h1 h2 h3 hi1 tg;go_enter Tryz.func51,Tryz.ntmps51
  go_wp2_with fail
  refine CL.out.mono ?_;rintro e w1 ⟨rfl,rfl⟩;go_wp2_with fail
  refine CB.out.mono ?_;rintro e w2 ⟨rfl,af⟩;go_wp2_with fail
  refine(CA w2 af).out.mono ?_;rintro e w3 ⟨rfl,ax⟩;go_wp2_with fail
  go_ret2;exact⟨rfl,af.tr ax⟩
 ·have d9:¬(i1:Int)<ll:=by omega
  obtain rfl:=h3 ae;clear ac hn h1 h2 h3 hi1 tg;go_enter Tryz.func51,Tryz.ntmps51
  go_wp2_with fail
  refine CL.out.mono ?_;rintro e w1 ⟨rfl,rfl⟩;go_wp2_with fail
  refine(CA w (Grows.refl w)).out.mono ?_;rintro e w3 ⟨rfl,ax⟩;go_wp2_with fail
  go_ret2;exact⟨rfl,ax⟩
theorem kY1 {x:Nat} (h:x<9223372036854775808):IntKind.i64.wrap (x:Int)=x:=by simp[Ak,Al,Ai]; omega
theorem bZ0 (p:List cJ) (m:Mx) (es:List En) (db a b b1 b2:Nat) (w:World) (ag:cH p m es) (ac:cO w db p m es) (ev:a<=b) (hb:b<=es.length) (c1:w.cell? ⟨b1,0,none⟩=some (.int .i64 a)) (c2:w.cell? ⟨b2,0,none⟩=some (.int .i64 b)) :
  Calls Tryz.prog 52 #[.pointer (some ⟨db,0,none⟩),.func (.func 109) #[] #[.pointer (some ⟨b1,0,none⟩),.pointer (some ⟨b2,0,none⟩)]] w λe w'=>∃v,e=.returned v/\aU w' w.heap.size 59 5 aJ v ((Af a (b-a)).map λj=>es.getD j enZero)/\Grows w w':=by
 have hn:=ag.len;have h1:=Aj w _ c1;have h2:=Aj w _ c2;have KS:=tU0 7 es.length a b b1 b2 (by decide) ev hb (by omega) (λb=>b<w.heap.size) h1 h2 w (λb hb=>hb) c1 c2;have e:(Af a (b-a)).length=b-a:=by simp
 refine jG0 p m es db _ _ (Af a (b-a)) w ag ac (by omega) (enters_of Tryz.func109 (by kernel_rfl) rfl) ?_;rw[e];exact KS
theorem iL0 (p:List cJ) (m:Mx) (es:List En) (db id:Nat) (s:ByteArray) (w:World) (ag:cH p m es) (ac:cO w db p m es) (hs:(readL es)[id]?=some s) :
  Calls Tryz.prog 48 #[.pointer (some ⟨db,0,none⟩),.int .i64 id] w λe w'=>∃v,e=.returned v/\aU w' w.heap.size 59 5 aJ v (exactL es s)/\Grows w w':=by
 obtain⟨a,b,hr,ev,hb,he⟩:=ag.row_r hs;have hn:=ag.len;obtain⟨pf,f1,f2⟩:=ac.f;obtain⟨pi,i1,i2⟩:=ac.i
 have vg:(gM rG es es.length).length<=20000:=by
  have h1:=(dP ag.rd).2.1;rw[cG]at h1;rw[ag.first,iJ]
  exact h1
 have CL:∀u,Grows w u->Hid (Calls Tryz.prog 70 #[.pointer (some ⟨pi,0,none⟩)] u λe w'=>e=.returned (.int .i64 (es.length:Nat))/\u=w'):=λu hu=>by
  have h:=gO (es.map (yE (surfL es))) pi u (i2.grows hu);rw[Aa]at h;exact h
 have CR:=λ(u:World) (hu:Grows w u)=>Ab (yU (gM rG es es.length) pf es.length id a b u (by omega) (λn h=>by have:=iQ h;omega) hr (f2.grows hu));have CI:=λ(u:World) (b1 b2:Nat) (hu:Grows w u) h1 h2=>Ab (bZ0 p m es db a b b1 b2 u ag (ac.grows hu) ev hb h1 h2);rw[he]at CI;have z0:∀y:Ext Grows w.drew,y.u.cell? ⟨db,4,none⟩=some (.pointer (some ⟨pf,0,none⟩)):=aB ((Grows.drew w).cell f1);have z1:∀y:Ext Grows w.drew,y.u.cell? ⟨db,5,none⟩=some (.pointer (some ⟨pi,0,none⟩)):=aB ((Grows.drew w).cell i1);obtain⟨N,hN⟩:=exq es.length;rw[<-hN]at CL CR;clear ac ag hs hr ev hb he f2 i2 vg hn hN;go_enter Tryz.func48,Tryz.ntmps48
 go_wp2_with fail
 refine bF (aV 17 [11,14,15]) (by kernel_rfl) (λd _ _ _ _ h=>by cases d<;>exact h) ?_
 iterate 10 (refine aG rfl (λK hK=>?_);go_simp;refine hK _ ?_;clear hK K)
 refine aG rfl (λK hK=>?_);go_simp;apply Exists.intro
 refine⟨λx=>?_,hK _ ?_⟩
 ·go_at_call 70;exact bT (CL _ ((Grows.drew w).tr x.h)).out
 clear hK K;clear z0 z1;refine aY rfl rfl (λK hK=>?_);go_simp;refine((CR w.drew (Grows.drew w)).out).mono ?_;rintro e w1 ⟨rfl,ah⟩;refine⟨ah,hK _ _ ?_⟩;clear hK K;iterate 2 (refine aG rfl (λK hK=>?_);go_simp;refine hK _ ?_;clear hK K)
 have g1:=(Grows.drew w).tr ah;refine aY rfl rfl (λK hK=>?_);go_simp;refine(hT0 (a:Int) (b:Int) w1).mono ?_;rintro e w2 ⟨rfl,ug⟩;have af:Grows w1 w2:=by rw[ug];exact(Grows.alloc _ _).al _
 refine⟨af,hK _ _ ?_⟩;clear hK K;have c1:w2.cell? ⟨w1.heap.size,0,none⟩=some (.int .i64 a):=jZ (cs:=#[.int .i64 a]) (t:=3) (by rw[ug];exact Grows.alloc _ _) rfl 0 _ rfl
 have c2:w2.cell? ⟨w1.heap.size+1,0,none⟩=some (.int .i64 b):=by
  have:=jZ (w:=w1.alloc (.cells #[.int .i64 a] 3)) (w':=w2) (cs:=#[.int .i64 b]) (t:=3) (by rw[ug];exact Grows.refl _) rfl 0 _ rfl
  rwa [Ax]at this
 have CI2:=CI w2 _ _ (g1.tr af) c1 c2;clear CI CR CL ug;refine aY rfl rfl (λK hK=>?_);go_simp;refine(CI2.out).mono ?_;rintro e w3 ⟨v,rfl,hv,ax⟩;refine⟨ax,hK _ _ ?_⟩;clear hK K;iterate 1 (refine aG rfl (λK hK=>?_);go_simp;refine hK _ ?_;clear hK K)
 refine bH ?_;have g2:=g1.tr af;go_wp2_with fail
 go_ret;exact⟨v,rfl,hv.base g2.size,g2.tr ax⟩
theorem zE0 (l:List Nat) (pb i:Nat) (w:World) (ac:lU w pb l) (hi:l.length<=i):Calls Tryz.prog 120 #[.pointer (some ⟨pb,0,none⟩),.int .i64 i] w λe w'=>e=.returned (.tuple #[.int .u64 0,.bool false])/\w=w':=by
 have CL:=Ab (gO l pb w ac);have h0:¬(i:Int)<0:=by omega
 have h1:¬(i:Int)<l.length:=by omega
 have h2:(l.length:Int)<=i:=by omega
 clear ac;go_enter Tryz.func120,Tryz.ntmps120
 go_wp2_with fail
 refine CL.out.mono ?_;rintro e w1 ⟨rfl,rfl⟩;go_wp2
 go_ret2;exact⟨rfl,rfl⟩
theorem yU0 {nw:En->En->Bool} {l:List En} {n:Nat} (hn:0<n):(gM nw l n)[0]?=some 0:=by
 unfold gM;obtain⟨k,rfl⟩:∃k,n=k+1:=⟨n-1,by omega⟩;rw[List.range_succ_eq_map,List.filter_cons,if_pos (by simp[dA0])];rfl
theorem aZ1 (p:List cJ) (m:Mx) (es:List En) (db:Nat) (w:World) (ag:cH p m es) (ac:cO w db p m es) :
  Calls Tryz.prog 61 #[.pointer (some ⟨db,0,none⟩)] w λe w'=>e=.returned (.bool true)/\Grows w w':=by
 have hn:=ag.len;obtain⟨tr,r1,r2⟩:=ac.r;obtain⟨ts,s1,s2⟩:=ac.s;obtain⟨pf,f1,f2⟩:=ac.f;obtain⟨pi,i1,i2⟩:=ac.i;obtain⟨pl,l1,l2⟩:=ac.l;obtain⟨pt,t1,t2⟩:=ac.t;obtain⟨pc,c1,c2⟩:=ac.c;obtain⟨po,o1,o2⟩:=ac.o;obtain⟨pa,a1,a2⟩:=ac.a;obtain⟨N,hN⟩:=exq es.length;obtain⟨R,hR⟩:=exq ((readL es).length);obtain⟨S,hS⟩:=exq ((surfL es).length)
 have hRn:R<=N:=by
  rw[hR,hN]
  have:=oH (es.map λx=>x.r)
  rwa [Aa]at this
 have vg:(gM rG es es.length).length=R:=by rw[ag.first,iJ,hR]
 have ni:(gM hU0 (gI es) es.length).length=S:=by rw[qL0,iJ,hS]
 have t9:=qN es;have hbR:(bls (readL es)).length=R:=by rw[cG,hR]
 have hbS:(bls (surfL es)).length=S:=by rw[cG,hS]
 have CLG:∀(l:List Nat) (pb:Nat) (k:Nat),lU w pb l->l.length=k->∀u,Grows w u->Hid (Calls Tryz.prog 70 #[.pointer (some ⟨pb,0,none⟩)] u λe w'=>e=.returned (.int .i64 (k:Nat))/\u=w'):=λl pb k h hk u hu=>by
  have:=gO l pb u (h.grows hu)
  rw[hk]at this;exact this
 have LI:=CLG _ pi N i2 (by rw[Aa,hN]);have LL:=CLG _ pl N l2 (by rw[Aa,hN]);have LT:=CLG _ pt N t2 (by rw[Aa,hN]);have LC:=CLG _ pc N c2 (by rw[Aa,hN]);have LO:=CLG _ po N o2 (by rw[t9,hN]);have LF:=CLG _ pf R f2 vg;have LA:=CLG _ pa S a2 ni
 have TLR:∀u,Grows w u->Hid (Calls Tryz.prog 76 #[.pointer (some ⟨tr,0,none⟩)] u λe w'=>e=.returned (.int .i64 (R:Nat))/\u=w'):=λu hu=>by
  have:=tR _ tr u (r2.grows hu)
  rw[hbR]at this;exact this
 have TLS:∀u,Grows w u->Hid (Calls Tryz.prog 76 #[.pointer (some ⟨ts,0,none⟩)] u λe w'=>e=.returned (.int .i64 (S:Nat))/\u=w'):=λu hu=>by
  have:=tR _ ts u (s2.grows hu)
  rw[hbS]at this;exact this
 have HLT:Hid (∀n∈gM rG es es.length,n<N):=λn h=>by rw[hN];exact iQ h
 have HPW:Hid ((gM rG es es.length).Pairwise (· < ·)):=pN0;have HZ:Hid (0<N->(gM rG es es.length)[0]?=some 0):=λh=>yU0 (by omega);obtain⟨F,hF⟩:=exq (gM rG es es.length);rw[<-hF]at HLT HPW HZ f2 vg;rw[<-hN]at hn;have CGF:=λ(i x:Nat) (hx:F[i]?=some x) (u:World) (hu:Grows w u)=>Ab (sV F pf i x u (f2.grows hu) (by omega) (λn h=>by have:=HLT.out n h;omega) hx);have CGO:=Ab (λ(u:World) (hu:Grows w u) (hi:F.length<=0)=>zE0 F pf 0 u (f2.grows hu) hi)
 have hG0:Hid (∀u,Grows w u->∃b:Bool,(0<N->b=true)/\Calls Tryz.prog 120 #[.pointer (some ⟨pf,0,none⟩),.int .i64 0] u λe w'=>e=.returned (.tuple #[.int .u64 0,.bool b])/\Grows u w'):=λu hu=>by
  by_cases h:0<N
  ·exact⟨true,λ_=>rfl,(CGF 0 0 (HZ.out h) u hu).out⟩
  ·exact⟨false,λh2=>absurd h2 h,((CGO.out u hu (by omega)).mono λe w' ⟨h1,h2⟩=>⟨h1,by rw[<-h2];exact Grows.refl _⟩)⟩
 have z0:∀y:Ext Grows w.drew,y.u.cell? ⟨db,6,none⟩=some (.pointer (some ⟨pl,0,none⟩)):=aB ((Grows.drew w).cell l1);have z1:∀y:Ext Grows w.drew,y.u.cell? ⟨db,7,none⟩=some (.pointer (some ⟨pt,0,none⟩)):=aB ((Grows.drew w).cell t1);have z2:∀y:Ext Grows w.drew,y.u.cell? ⟨db,8,none⟩=some (.pointer (some ⟨pc,0,none⟩)):=aB ((Grows.drew w).cell c1);have z3:∀y:Ext Grows w.drew,y.u.cell? ⟨db,9,none⟩=some (.pointer (some ⟨po,0,none⟩)):=aB ((Grows.drew w).cell o1);have z4:∀y:Ext Grows w.drew,y.u.cell? ⟨db,4,none⟩=some (.pointer (some ⟨pf,0,none⟩)):=aB ((Grows.drew w).cell f1);have z5:∀y:Ext Grows w.drew,y.u.cell? ⟨db,2,none⟩=some (.pointer (some ⟨tr,0,none⟩)):=aB ((Grows.drew w).cell r1);have z6:∀y:Ext Grows w.drew,y.u.cell? ⟨db,10,none⟩=some (.pointer (some ⟨pa,0,none⟩)):=aB ((Grows.drew w).cell a1);have z7:∀y:Ext Grows w.drew,y.u.cell? ⟨db,3,none⟩=some (.pointer (some ⟨ts,0,none⟩)):=aB ((Grows.drew w).cell s1);have ix:¬(20000:Int)<N:=by omega
 have wN:IntKind.u64.wrap (N:Int)=N:=by simp[Ak,Al,Ai];omega
 have HFL:=Ab vg;clear ac ag r2 s2 f2 i2 l2 t2 c2 o2 a2 ni t9 hbR hbS CLG hR hS hN hF CGO HZ vg r1 s1 l1 t1 c1 o1 a1;go_enter Tryz.func61,Tryz.ntmps61
 go_wp2_with fail
 refine(LI w (Grows.refl w)).out.mono ?_;rintro e w1 ⟨rfl,rfl⟩;go_wp2_with fail
 refine bF (aV 64 []) (by kernel_rfl) (λd _ _ _ _ h=>by cases d<;>exact h) ?_
 iterate 7 (refine aG rfl (λK hK=>?_);go_simp;refine hK _ ?_;clear hK K)
 refine aG rfl (λK hK=>?_);go_simp;apply Exists.intro
 refine⟨λx=>?_,hK _ ?_⟩
 ·go_at_call 70;exact bT (LL _ ((Grows.drew w).tr x.h)).out
 clear hK K;iterate 8 (refine aG rfl (λK hK=>?_);go_simp;refine hK _ ?_;clear hK K)
 refine aG rfl (λK hK=>?_);go_simp;apply Exists.intro
 refine⟨λx=>?_,hK _ ?_⟩
 ·go_at_call 70;exact bT (LT _ ((Grows.drew w).tr x.h)).out
 clear hK K;iterate 8 (refine aG rfl (λK hK=>?_);go_simp;refine hK _ ?_;clear hK K)
 refine aG rfl (λK hK=>?_);go_simp;apply Exists.intro
 refine⟨λx=>?_,hK _ ?_⟩
 ·go_at_call 70;exact bT (LC _ ((Grows.drew w).tr x.h)).out
 clear hK K;iterate 8 (refine aG rfl (λK hK=>?_);go_simp;refine hK _ ?_;clear hK K)
 refine aG rfl (λK hK=>?_);go_simp;apply Exists.intro
 refine⟨λx=>?_,hK _ ?_⟩
 ·go_at_call 70;exact bT (LO _ ((Grows.drew w).tr x.h)).out
 clear hK K;iterate 8 (refine aG rfl (λK hK=>?_);go_simp;refine hK _ ?_;clear hK K)
 refine aG rfl (λK hK=>?_);go_simp;apply Exists.intro
 refine⟨λx=>?_,hK _ ?_⟩
 ·go_at_call 70;exact bT (LF _ ((Grows.drew w).tr x.h)).out
 clear hK K;iterate 4 (refine aG rfl (λK hK=>?_);go_simp;refine hK _ ?_;clear hK K)
 refine aG rfl (λK hK=>?_);go_simp;apply Exists.intro
 refine⟨λx=>?_,hK _ ?_⟩
 ·go_at_call 76;exact bT (TLR _ ((Grows.drew w).tr x.h)).out
 clear hK K;iterate 7 (refine aG rfl (λK hK=>?_);go_simp;refine hK _ ?_;clear hK K)
 refine aG rfl (λK hK=>?_);go_simp;apply Exists.intro
 refine⟨λx=>?_,hK _ ?_⟩
 ·go_at_call 70;exact bT (LA _ ((Grows.drew w).tr x.h)).out
 clear hK K;iterate 4 (refine aG rfl (λK hK=>?_);go_simp;refine hK _ ?_;clear hK K)
 refine aG rfl (λK hK=>?_);go_simp;apply Exists.intro
 refine⟨λx=>?_,hK _ ?_⟩
 ·go_at_call 76;exact bT (TLS _ ((Grows.drew w).tr x.h)).out
 clear hK K;iterate 2 (refine aG rfl (λK hK=>?_);go_simp;refine hK _ ?_;clear hK K)
 refine bH ?_;clear z0 z1 z2 z3 z4 z5 z6 z7 LI LL LT LC LO LA TLR TLS;have f1d:=(Grows.drew w).cell f1;obtain⟨b0,hb0,CG0⟩:=hG0.out w.drew (Grows.drew w);clear hG0;go_wp2_with fail
 refine CG0.mono ?_;rintro e w2 ⟨rfl,af⟩;have g2:=(Grows.drew w).tr af;have f1b:=g2.cell f1;have LF2:=LF w2 g2;clear CG0 LF f1d af;by_cases h0:0<N
 ·have hb:=hb0 h0
  subst hb;have sw:(0:Int)<N:=by omega
  go_wp2_with fail
  refine LF2.out.mono ?_;rintro e w3 ⟨rfl,rfl⟩;clear LF2;go_wp2_with fail
  go_loopw [6,102] (λv i wr=>∃(k:Nat) (last:Int),k<=R/\i=.int .i64 k/\v=.int .i64 last/\Hid (∀x,F[k]?=some x->last<x)/\Hid (Grows w wr)) (λ_ i _=>R-(intOf i).toNat)
  case atStart=>exact⟨0,-1,Bg _,rfl,rfl,λx _=>by omega,g2⟩
  case round =>
   obtain⟨k,last,hk,rfl,rfl,hL,hg⟩:=hrel;by_cases ae:k<R
   ·obtain⟨x,hx⟩:∃x,F[k]?=some x:=⟨_,Ad (by rw[HFL.out];exact ae)⟩
    have hxN:=HLT.out x (Aq hx);have hlx:=hL.out x hx;have CG:=CGF k x hx wr hg.out;have f1r:=hg.out.cell f1;have dg:(k:Int)<R:=by omega
    have hxn:¬(N:Int)<=x:=by omega
    have akj:¬(x:Int)<=last:=by omega
    have wx:IntKind.i64.wrap (x:Int)=x:=by simp[Ak,Al,Ai];omega
    have NX:Hid (∀y,F[k+1]?=some y->(x:Int)<y):=λy hy=>by
     have:=jV1 HPW.out hx hy
     omega
    clear hx hL CGF;go_wp2_with fail
    refine CG.out.mono ?_;rintro e w4 ⟨rfl,bu⟩;have g4:=hg.out.tr bu;clear CG;go_wp2_with fail
    go_roundw
    case rel=>exact⟨k+1,x,ae,by go_num,rfl,NX.out,g4⟩
    case measure=>simp[intOf];omega
   ·have dg:¬(k:Int)<R:=by omega
    go_wp2_with fail
    go_ret;exact⟨rfl,hg.out⟩
 ·have sw:¬(0:Int)<N:=by omega
  go_wp2_with fail
  refine LF2.out.mono ?_;rintro e w3 ⟨rfl,rfl⟩;clear LF2;go_wp2_with fail
  go_loopw [6,102] (λv i wr=>∃(k:Nat) (last:Int),k<=R/\i=.int .i64 k/\v=.int .i64 last/\Hid (∀x,F[k]?=some x->last<x)/\Hid (Grows w wr)) (λ_ i _=>R-(intOf i).toNat)
  case atStart=>exact⟨0,-1,Bg _,rfl,rfl,λx _=>by omega,g2⟩
  case round =>
   obtain⟨k,last,hk,rfl,rfl,hL,hg⟩:=hrel;by_cases ae:k<R
   ·obtain⟨x,hx⟩:∃x,F[k]?=some x:=⟨_,Ad (by rw[HFL.out];exact ae)⟩
    have hxN:=HLT.out x (Aq hx);exact absurd hxN (by omega)
   ·have dg:¬(k:Int)<R:=by omega
    go_wp2_with fail
    go_ret;exact⟨rfl,hg.out⟩
theorem dX1 (p:List cJ) (m:Mx) (es:List En) (db:Nat) (w:World) (ac:cO w db p m es) :
  Calls Tryz.prog 62 #[.pointer (some ⟨db,0,none⟩)] w λe w'=>e=.returned (.func (.func 109) #[] #[.pointer (some ⟨w.heap.size,0,none⟩),.pointer (some ⟨w.heap.size+1,0,none⟩)]) /\
   w'=(w.alloc (.cells #[.int .i64 0] 3)).alloc (.cells #[.int .i64 (es.length:Nat)] 3):=by
 obtain⟨pi,i1,i2⟩:=ac.i;have h:=gO (es.map (yE (surfL es))) pi w i2;rw[Aa]at h;have CL:=Ab h;generalize es.length=N at CL ⊢;clear ac i2 h;go_enter Tryz.func62,Tryz.ntmps62
 go_wp2_with fail
 refine CL.out.mono ?_;rintro e w1 ⟨rfl,rfl⟩;go_wp2_with fail
 refine(hT0 0 (N:Int) w).mono ?_;rintro e w2 ⟨rfl,rfl⟩;go_wp2
 go_ret;exact⟨rfl,rfl⟩
end
end Go.Proofs.YtcijgkfpobpdbaaGreatDoor
