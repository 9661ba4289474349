/- The texts Dop3 Opn1 Dct4 Dct5, one behind the other. -/
import Derived.Test.YtheiocndipepaaaGreatDoorKq45
import Derived.Test.YtheiocndipepaaaGreatDoorKq40
import Derived.Test.YtheiocndipepaaaGreatDoorKq20
import Derived.Test.YtheiocndipepaaaGreatDoorKq43
import Derived.Test.YtheiocndipepaaaGreatDoorKq37
open Go.Lib renaming hid → Aa
open Go.World renaming block_lt_of_cell? → Ab,size_alloc → Ak
open List renaming getElem?_eq_getElem → Ac,length_map → Ae,mem_of_getElem? → Af,getD_eq_getElem?_getD → Ag,foldl → Ai,take_length → Al,length_take → Am,length_filter_le → Ao,flatMap_append → Ap,length_append → Aq,length_drop → Au,length → Av
open Array renaming getElem?_eq_getElem → Ad
open Nat renaming le_refl → Ah,zero_le → Aj,le_trans → Ar,ne_of_lt → As,ne_of_gt → At
open Classical renaming choose_spec → An
set_option maxHeartbeats 16000000
namespace Go.Proofs.YtheiocndipepaaaGreatDoor
set_option maxRecDepth 100000
section
open Go Go.RowKit Go.Shelf
attribute [local go_sem] aM aK
theorem DSt.slot {lo:Nat} {p:List cH} {m:Mx} {es:List En} {ps:List Nat} {db fb:Nat} {fv:Value} {w:World} (h:DSt lo p m es ps db fb fv w) {i:Nat} (hi:i<11):(∃u,w.cell? ⟨db,i,none⟩=some u)/\w.frozen? ⟨db,i,none⟩=false:=by
 obtain⟨cs,hb⟩:=h.blk;exact⟨⟨_,hb.tb.cell (Ad (by rw[hb.sz];exact hi))⟩,hb.tb.froz i⟩
theorem mQ.grows {lo db:Nat} {p:List cH} {m:Mx} {es:List En} {w w':World} (h:mQ w db lo) (hd:cB w db p m es) (hg:Grows w w'):mQ w' db lo:=by
 obtain⟨t1,r1,_⟩:=hd.r;obtain⟨t2,r2,_⟩:=hd.s;refine⟨λtb ht=>?_,λtb ht=>?_⟩
 ·rw[hg.cell r1]at ht
  exact h.1 tb (r1.trans ht)
 ·rw[hg.cell r2]at ht
  exact h.2 tb (r2.trans ht)
theorem lX0 {p:List cH} {m:Mx} {es:List En} (ah:bP p m es) (jm:fK (imgP p m es)=0):nQ p (some m) es=(0,file14 (imgP p m es)):=by
 have h:=iH ah.make (by rw[ah.idem];exact jm);rwa [ah.idem]at h
theorem rJ1 {p:List cH} {m:Mx} {es:List En} (ah:bP p m es) (f:En->Int) (hf:∀x∈es,0<=f x/\f x<=30000):(es.map λx=>(f x).toNat).length<=1048576/\∀n∈es.map λx=>(f x).toNat,n<18446744073709551616:=by
 have:=ah.len
 refine⟨by rw[Ae];omega,λn hn=>?_⟩;obtain⟨y,hy,rfl⟩:=List.mem_map.1 hn
 have:=hf y hy
 omega
theorem uL (p:List cH) (m:Mx) (es:List En) (ba:Option Addr) (bc:Nat) (w:World) (he:Env w) (ah:bP p m es) (hm:m.OK) (hEn:∀x∈es,rZ x) (jm:fK (imgP p m es)=0)
  (fg:(file14 (imgP p m es)).length<=bc) (zj:bc<=maxLen) (jl:ba=none->bc=0) (ac:aF w ba 1 ((file14 (imgP p m es)).map aX)) :
  Calls Tryz.prog 16 #[.slice ba (file14 (imgP p m es)).length bc] w λe w'=>Grows w w'/\∃db,e=.returned (.tuple #[.pointer (some ⟨db,0,none⟩),.int .i64 0])/\cB w' db p m es/\mQ w' db w.heap.size/\w.heap.size<=db:=by
 have an:=ah.len;have hv:=(eE ah.chk).2.2.1;have ag6:=(dN hv).1;have ie:=ah.num;have m8:(imgP p m es).length=11:=rfl;have CS:=Aa (qH0 (imgP p m es) ba bc w he jm fg zj jl ac)
 have HPART:Hid (∀(Q:List bF),Q.map bare=(imgP p m es).map bare->∀(k:Nat) (nm:ByteArray) (vy:List UInt8),(∃q,(imgP p m es)[k]?=some q/\q.name=nm/\q.data=vy)->∃q,Q[k]?=some q/\q.name=nm/\q.data=vy/\∀j p',j<k->Q[j]?=some p'->p'.name≠q.name):=λQ hb k nm vy ⟨q,hq,h1,h2⟩=>by
  obtain⟨q2,jc,e1,e2⟩:=rM0 hb hq;refine⟨q2,jc,e1.trans h1,e2.trans h2,λj p' hj hp'=>?_⟩;obtain⟨p2,pr,e3,_⟩:=rM0 (P:=Q) (Q:=imgP p m es) hb.symm hp';rw[<-e3,e1];exact oU1 pr hq hj
 have HQL:Hid (∀(Q:List bF),Q.map bare=(imgP p m es).map bare->Q.length=11):=λQ hb=>by
  have:=congrArg Av hb
  rw[Ae,Ae,m8]at this;exact this
 have HP0:Hid (∃q,(imgP p m es)[0]?=some q/\q.name=⟨#[112,111,115]⟩/\q.data=posE p):=⟨_,rfl,rfl,rfl⟩;have HP1:Hid (∃q,(imgP p m es)[1]?=some q/\q.name=⟨#[109,97,116,114,105,120]⟩/\q.data=m.enc):=⟨_,rfl,rfl,rfl⟩;have HP2:Hid (∃q,(imgP p m es)[2]?=some q/\q.name=⟨#[114,101,97,100,105,110,103,115]⟩/\q.data=loudE (bls (readL es))):=⟨_,rfl,rfl,rfl⟩;have HP3:Hid (∃q,(imgP p m es)[3]?=some q/\q.name=⟨#[102,105,114,115,116]⟩/\q.data=packE (gT rS es es.length)):=⟨_,rfl,rfl,rfl⟩;have HP4:Hid (∃q,(imgP p m es)[4]?=some q/\q.name=⟨#[115,117,114,102,97,99,101,115]⟩/\q.data=loudE (bls (surfL es))):=⟨_,rfl,rfl,rfl⟩;have HP5:Hid (∃q,(imgP p m es)[5]?=some q/\q.name=⟨#[115,117,114,102,97,99,101]⟩/\q.data=packE (es.map (yX (surfL es)))):=⟨_,rfl,rfl,rfl⟩;have HP6:Hid (∃q,(imgP p m es)[6]?=some q/\q.name=⟨#[108,101,102,116]⟩/\q.data=packE (es.map λx=>x.l.toNat)):=⟨_,rfl,rfl,rfl⟩;have HP7:Hid (∃q,(imgP p m es)[7]?=some q/\q.name=⟨#[114,105,103,104,116]⟩/\q.data=packE (es.map λx=>x.t.toNat)):=⟨_,rfl,rfl,rfl⟩;have HP8:Hid (∃q,(imgP p m es)[8]?=some q/\q.name=⟨#[99,111,115,116]⟩/\q.data=packE (es.map λx=>x.c.toNat)):=⟨_,rfl,rfl,rfl⟩;have HP9:Hid (∃q,(imgP p m es)[9]?=some q/\q.name=⟨#[111,114,100,101,114]⟩/\q.data=packE (aE0 es)):=⟨_,rfl,rfl,rfl⟩;have HP10:Hid (∃q,(imgP p m es)[10]?=some q/\q.name=⟨#[97,116]⟩/\q.data=packE (gT gD0 (gP es) es.length)):=⟨_,rfl,rfl,rfl⟩
 have L3:Hid ((gT rS es es.length).length<=1048576/\∀n∈gT rS es es.length,n<18446744073709551616):=⟨by
  have h1:=(dO ah.rd).2.1;rw[cK]at h1;rw[ah.first,iN]
  omega,λn h=>by have:=iX h;omega⟩
 have L5:Hid ((es.map (yX (surfL es))).length<=1048576/\∀n∈es.map (yX (surfL es)),n<18446744073709551616):=⟨by rw[Ae];omega,λn h=>by
  obtain⟨y,hy,rfl⟩:=List.mem_map.1 h
  have:=qO (jV hy)
  have h1:=(dO ah.sf).2.1;rw[cK]at h1;omega⟩
 have L6:=Aa (rJ1 ah (λx=>x.l) (λx hx=>by have:=ie x hx;omega));have L7:=Aa (rJ1 ah (λx=>x.t) (λx hx=>by have:=ie x hx;omega));have L8:=Aa (rJ1 ah (λx=>x.c) (λx hx=>by have:=ie x hx;omega));have L9:Hid ((aE0 es).length<=1048576/\∀n∈aE0 es,n<18446744073709551616):=⟨by rw[qW];omega,λn h=>by have:=hC0 h;omega⟩
 have L10:Hid ((gT gD0 (gP es) es.length).length<=1048576/\∀n∈gT gD0 (gP es) es.length,n<18446744073709551616):=⟨by
  have h1:=(dO ah.sf).2.1;rw[cK]at h1;rw[rS0,iN];omega,λn h=>by have:=iX h;omega⟩
 have KR:=Aa ah.rd;have KS:=Aa ah.sf;have HDM:Hid (oH1 m.enc=some m):=gI1.2 ⟨hm,rfl⟩;have HB:=Aa (lX0 ah jm)
 have HZ:Hid (∀x∈es,x.r.size<=1099511627776/\x.s.size<=1099511627776):=λx hx=>by
  have h1:=ah.len_r x hx;have h2:=ah.len_s x hx;omega
 have HOK:=Aa ah;have HE:=Aa he;have HEN:=Aa hEn;have HV:=Aa hv;obtain⟨FB,hFB⟩:=exq (file14 (imgP p m es));rw[<-hFB]at CS HB ac fg ⊢;have HAT:=Aa ac
 have HFN:Hid (FB≠[]):=by
  show _≠_
  rw[hFB];unfold file14 cZ;simp
 obtain⟨FL,hFL⟩:=exq FB.length;rw[<-hFL]at CS ⊢;have HFL:=Aa hFL;clear he ah hm hEn jm fg zj jl ac hv ie m8 hFB hFL;go_enter Tryz.func16,Tryz.ntmps16
 go_wp2_with fail
 refine CS.out.mono ?_;rintro e w3 ⟨aw,Q,qa,qc,rfl,vx,mf,hqp⟩;have hQl:=HQL.out Q vx;have PF:=HPART.out Q vx
 have CDAT:∀(k:Nat) (nm:ByteArray) (vy:List UInt8) (fb:Nat) (W:World),Grows w3 W->TB W fb #[.slice qa 11 qc,.bool false] 107->(∃q,(imgP p m es)[k]?=some q/\q.name=nm/\q.data=vy) ->
   Hid (Calls Tryz.prog 65 #[.pointer (some ⟨fb,0,none⟩),.string nm] W λe w'=>∃v,e=.returned v/\aV w' W.heap.size 5 1 aX v vy/\Grows W w'):=λk nm vy fb W hW hf hp=>by
  obtain⟨q,hq,e1,e2,ai⟩:=PF k nm vy hp;rw[<-hQl]at hf;have h:=cG0 Q k q qa qc fb W (by omega) (mf.grows hW) (hqp.grows hW) hq ai hf;rw[e1,e2]at h;exact h
 have CNUM:∀(k:Nat) (nm:ByteArray) (l:List Nat) (fb:Nat) (W:World),Grows w3 W->TB W fb #[.slice qa 11 qc,.bool false] 107->(∃q,(imgP p m es)[k]?=some q/\q.name=nm/\q.data=packE l)->(l.length<=1048576/\∀n∈l,n<18446744073709551616) ->
   Hid (Calls Tryz.prog 68 #[.pointer (some ⟨fb,0,none⟩),.string nm] W λe w'=>(∃pb,e=.returned (.pointer (some ⟨pb,0,none⟩))/\lE w' pb l)/\Grows W w'):=λk nm l fb W hW hf hp hl=>by
  obtain⟨q,hq,e1,e2,ai⟩:=PF k nm _ hp;rw[<-hQl]at hf;have h:=kR0 Q k q l e2 hl qa qc fb W (by omega) (mf.grows hW) (hqp.grows hW) hq ai hf;rw[e1]at h;exact h.mono λe w' ⟨pb,h1,h2,h3⟩=>⟨⟨pb,h1,h2⟩,h3⟩
 have CTRI:∀(k:Nat) (nm:ByteArray) (L:List (List UInt8)) (fb:Nat) (W:World),Grows w3 W->TB W fb #[.slice qa 11 qc,.bool false] 107->(∃q,(imgP p m es)[k]?=some q/\q.name=nm/\q.data=loudE L)->dC L=0 ->
   Hid (Calls Tryz.prog 67 #[.pointer (some ⟨fb,0,none⟩),.string nm] W λe w'=>(∃tb,e=.returned (.pointer (some ⟨tb,0,none⟩))/\eF w' tb L/\W.heap.size+2<=tb)/\Grows W w'):=λk nm L fb W hW hf hp hl=>by
  obtain⟨q,hq,e1,e2,ai⟩:=PF k nm _ hp;rw[<-hQl]at hf;have h:=bL1 Q k q L e2 hl qa qc fb W (by omega) (mf.grows hW) (hqp.grows hW) hq ai hf;rw[e1]at h;exact h.mono λe w' ⟨tb,h1,h2,h3,h4⟩=>⟨⟨tb,h1,h2,h3⟩,h4⟩
 have SZ:Hid (∀(k:Nat) (vy:List UInt8) (nm:ByteArray),(∃q,(imgP p m es)[k]?=some q/\q.name=nm/\q.data=vy)->vy.length<=1099511627776):=λk vy nm hp=>by
  obtain⟨q,hq,_,e2,_⟩:=PF k nm vy hp;rw[<-e2];exact hqp.data _ (Af hq)
 rw[hQl];obtain⟨W0,b9⟩:=exq ((w3.alloc (.cells #[.slice qa 11 qc,.bool false] 107)).alloc (.cells #[.slice none 0 0,.pointer none,.pointer none,.pointer none,.pointer none,.pointer none,.pointer none,.pointer none,.pointer none,.pointer none,.pointer none] 95));obtain⟨fb,hfb⟩:=exq w3.heap.size;obtain⟨db,hdb⟩:=exq (w3.heap.size+1);have g0:Grows w3 W0:=by rw[b9];exact(Grows.alloc _ _).al _
 have D0:DSt w.heap.size p m es [] db fb (.slice qa 11 qc) W0:=by
  refine⟨⟨#[.slice none 0 0,.pointer none,.pointer none,.pointer none,.pointer none,.pointer none,.pointer none,.pointer none,.pointer none,.pointer none,.pointer none],?_,rfl,⟨none,0,0,rfl⟩⟩,?_,λi hi=>by cases hi⟩
  ·rw[b9,hdb]
   have:=TB.alloc (w3.alloc (.cells #[.slice qa 11 qc,.bool false] 107)) #[.slice none 0 0,.pointer none,.pointer none,.pointer none,.pointer none,.pointer none,.pointer none,.pointer none,.pointer none,.pointer none,.pointer none] 95
   rw[Ak]at this;exact this
  ·rw[b9,hfb]
   exact(TB.alloc _ _ _).al _
 have hdf:¬db=fb:=by omega
 have hfd:¬fb=db:=by omega
 have kn:w3.heap.size<=db:=by omega
 have s7:=aw.size;clear CS vx mf hqp PF hQl HPART HQL;go_wp2_with fail
 rw[<-b9,<-hdb,<-hfb];clear b9 hfb hdb;refine(CDAT 0 ⟨#[112,111,115]⟩ _ fb W0 g0 D0.fl HP0.out).out.mono ?_;rintro e x1 ⟨v1,rfl,fy,aei⟩;have gx1:=g0.tr aei;have Dx1:=D0.grows aei;obtain⟨a1,c1,rfl,h1c,_,da⟩:=fy.at_ bI.len;have fk:=bQ fy;have CP:=Aa (xP0 p a1 c1 x1 HV.out (SZ.out 0 _ _ HP0.out) h1c fk da);generalize (posE p).length=PL at CP ⊢;clear fy da fk h1c aei;go_wp2_with fail
 refine(CP).out.mono ?_;rintro e x2 ⟨v2,rfl,ii,aej⟩;have gx2:=gx1.tr aej;have Dx2:=Dx1.grows aej;obtain⟨aP,cP,rfl,_,_,_⟩:=ii.at_ wO.len;obtain⟨⟨u0,e0⟩,f0⟩:=Dx2.slot (i:=0) (by decide);have b1:=Dx2.fl.cell (o:=1) rfl;have z1:=Dx2.fl.froz 1;have Da0:=Dx2.set (i:=0) (by decide) (ii.base (Aj _)) (λ_=>⟨_,_,_,rfl⟩);have qy:=gx2.set (p:=⟨db,0,none⟩) kn (.slice aP p.length cP);have hs:=jE (o:=1) (u:=.bool false) Da0.fl rfl;have Db:=Da0.grows hs;have gb:=qy.tr hs;obtain⟨V1,jv⟩:=exq (((x2.setCell ⟨db,0,none⟩ (.slice aP p.length cP)).setCell ⟨fb,1,none⟩ (.bool false)));rw[<-jv]at Db gb;have DV1:=Db;have km:=gb;go_wp2_with fail
 rw[<-jv];clear CP aej ii e0 f0 b1 z1 Da0 qy hs Db gb jv D0 g0 Dx1 gx1 Dx2 gx2;refine(CDAT 1 ⟨#[109,97,116,114,105,120]⟩ _ fb V1 km DV1.fl HP1.out).out.mono ?_;rintro e x3 ⟨v1,rfl,fy,aek⟩;have gx3:=km.tr aek;have Dx3:=DV1.grows aek;obtain⟨a1,c1,rfl,h1c,_,da⟩:=fy.at_ bI.len;have CM:=Aa (vB0 m.enc a1 c1 x3 (SZ.out 1 _ _ HP1.out) da);rw[HDM.out]at CM;generalize m.enc.length=PL at CM ⊢;clear fy da h1c aek;go_wp2_with fail
 refine CM.out.mono ?_;rintro e x4 ⟨_,xh,ael⟩;obtain⟨mb,bm,rfl,hma,_,_⟩:=xh m rfl;have gx4:=gx3.tr ael;have Dx4:=Dx3.grows ael;obtain⟨⟨u1,e1⟩,f1⟩:=Dx4.slot (i:=1) (by decide);have b1:=Dx4.fl.cell (o:=1) rfl;have z1:=Dx4.fl.froz 1;have Da0:=Dx4.set (i:=1) (by decide) (⟨mb,bm,rfl,hma⟩) (λh=>by cases h);have qy:=gx4.set (p:=⟨db,1,none⟩) kn (.pointer (some ⟨mb,0,none⟩));have hs:=jE (o:=1) (u:=.bool false) Da0.fl rfl;have Db:=Da0.grows hs;have gb:=qy.tr hs;obtain⟨V2,o0⟩:=exq (((x4.setCell ⟨db,1,none⟩ (.pointer (some ⟨mb,0,none⟩))).setCell ⟨fb,1,none⟩ (.bool false)));rw[<-o0]at Db gb;have DV2:=Db;have gV2:=gb;go_wp2_with fail
 rw[<-o0];clear CM ael xh hma e1 f1 b1 z1 Da0 qy hs Db gb o0 DV1 km Dx3 gx3 Dx4 gx4;refine(CTRI 2 ⟨#[114,101,97,100,105,110,103,115]⟩ _ fb V2 gV2 DV2.fl HP2.out KR.out).out.mono ?_;rintro e x5 ⟨⟨tb,rfl,htb,gw⟩,aem⟩;have gx5:=gV2.tr aem;have Dx5:=DV2.grows aem;have qz:w.heap.size+2<=tb:=by have:=gV2.size;omega
 go_wp2_with fail
 refine(CNUM 3 ⟨#[102,105,114,115,116]⟩ _ fb x5 gx5 Dx5.fl HP3.out L3.out).out.mono ?_;rintro e x6 ⟨⟨pb,rfl,fx⟩,acz⟩;have gx6:=gx5.tr acz;have Dx6:=Dx5.grows acz;have aaw:=htb.grows acz;obtain⟨⟨u2,e2⟩,f2⟩:=Dx6.slot (i:=2) (by decide);obtain⟨⟨u4,e4⟩,f4⟩:=Dx6.slot (i:=4) (by decide);obtain⟨cs9,rk⟩:=Dx6.blk;have Da0:=Dx6.set (i:=2) (by decide) (⟨tb,rfl,aaw,qz⟩) (λh=>by cases h);have qy:=gx6.set (p:=⟨db,2,none⟩) kn (.pointer (some ⟨tb,0,none⟩));have Da1:=Da0.set (i:=4) (by decide) (⟨pb,rfl,mP rk fx _ _⟩) (λh=>by cases h);have uq:=qy.set (p:=⟨db,4,none⟩) kn (.pointer (some ⟨pb,0,none⟩));obtain⟨V3,me⟩:=exq (((x6.setCell ⟨db,2,none⟩ (.pointer (some ⟨tb,0,none⟩))).setCell ⟨db,4,none⟩ (.pointer (some ⟨pb,0,none⟩))));rw[<-me]at Da1 uq;have DV3:=Da1;have tj:=uq;go_wp2_with fail
 rw[<-me];clear htb gw qz aem acz aaw fx rk e2 f2 e4 f4 Da0 qy Da1 uq me DV2 gV2 Dx5 gx5 Dx6 gx6;refine(CTRI 4 ⟨#[115,117,114,102,97,99,101,115]⟩ _ fb V3 tj DV3.fl HP4.out KS.out).out.mono ?_;rintro e x7 ⟨⟨tb,rfl,htb,gw⟩,aen⟩;have gx7:=tj.tr aen;have Dx7:=DV3.grows aen;have qz:w.heap.size+2<=tb:=by have:=tj.size;omega
 go_wp2_with fail
 refine(CNUM 5 ⟨#[115,117,114,102,97,99,101]⟩ _ fb x7 gx7 Dx7.fl HP5.out L5.out).out.mono ?_;rintro e x8 ⟨⟨pb,rfl,fx⟩,ac0⟩;have gx8:=gx7.tr ac0;have Dx8:=Dx7.grows ac0;have aaw:=htb.grows ac0;obtain⟨⟨u3,e3⟩,f3⟩:=Dx8.slot (i:=3) (by decide);obtain⟨⟨u5,e5⟩,f5⟩:=Dx8.slot (i:=5) (by decide);obtain⟨cs9,rk⟩:=Dx8.blk;have Da0:=Dx8.set (i:=3) (by decide) (⟨tb,rfl,aaw,qz⟩) (λh=>by cases h);have qy:=gx8.set (p:=⟨db,3,none⟩) kn (.pointer (some ⟨tb,0,none⟩));have Da1:=Da0.set (i:=5) (by decide) (⟨pb,rfl,mP rk fx _ _⟩) (λh=>by cases h);have uq:=qy.set (p:=⟨db,5,none⟩) kn (.pointer (some ⟨pb,0,none⟩));obtain⟨V4,hV4⟩:=exq (((x8.setCell ⟨db,3,none⟩ (.pointer (some ⟨tb,0,none⟩))).setCell ⟨db,5,none⟩ (.pointer (some ⟨pb,0,none⟩))));rw[<-hV4]at Da1 uq;have DV4:=Da1;have gV4:=uq;go_wp2_with fail
 rw[<-hV4];clear htb gw qz aen ac0 aaw fx rk e3 f3 e5 f5 Da0 qy Da1 uq hV4 DV3 tj Dx7 gx7 Dx8 gx8;refine(CNUM 6 ⟨#[108,101,102,116]⟩ _ fb V4 gV4 DV4.fl HP6.out L6.out).out.mono ?_;rintro e x9 ⟨⟨pb0,rfl,mi⟩,aeo⟩;have gx9:=gV4.tr aeo;have Dx9:=DV4.grows aeo;go_wp2_with fail
 refine(CNUM 7 ⟨#[114,105,103,104,116]⟩ _ fb x9 gx9 Dx9.fl HP7.out L7.out).out.mono ?_;rintro e x10 ⟨⟨pb1,rfl,mj⟩,ur⟩;have aep:=gx9.tr ur;have Dx10:=Dx9.grows ur;replace mi:=mi.grows ur;go_wp2_with fail
 refine(CNUM 8 ⟨#[99,111,115,116]⟩ _ fb x10 aep Dx10.fl HP8.out L8.out).out.mono ?_;rintro e x11 ⟨⟨pb2,rfl,vz⟩,q8⟩;have ahe:=aep.tr q8;have Dx11:=Dx10.grows q8;replace mi:=mi.grows q8;replace mj:=mj.grows q8;obtain⟨⟨u6,e6⟩,f6⟩:=Dx11.slot (i:=6) (by decide);obtain⟨⟨u7,e7⟩,f7⟩:=Dx11.slot (i:=7) (by decide);obtain⟨⟨u8,e8⟩,f8⟩:=Dx11.slot (i:=8) (by decide);obtain⟨cs9,rk⟩:=Dx11.blk;have Da0:=Dx11.set (i:=6) (by decide) (⟨pb0,rfl,mi⟩) (λh=>by cases h);have qy:=ahe.set (p:=⟨db,6,none⟩) kn (.pointer (some ⟨pb0,0,none⟩));replace mj:=mP rk mj 6 (.pointer (some ⟨pb0,0,none⟩));replace vz:=mP rk vz 6 (.pointer (some ⟨pb0,0,none⟩));obtain⟨cs9,rk⟩:=Da0.blk;have Da1:=Da0.set (i:=7) (by decide) (⟨pb1,rfl,mj⟩) (λh=>by cases h);have uq:=qy.set (p:=⟨db,7,none⟩) kn (.pointer (some ⟨pb1,0,none⟩));replace vz:=mP rk vz 7 (.pointer (some ⟨pb1,0,none⟩));obtain⟨cs9,rk⟩:=Da1.blk;have Da2:=Da1.set (i:=8) (by decide) (⟨pb2,rfl,vz⟩) (λh=>by cases h);have ga2:=uq.set (p:=⟨db,8,none⟩) kn (.pointer (some ⟨pb2,0,none⟩));obtain⟨V5,hV5⟩:=exq ((((x11.setCell ⟨db,6,none⟩ (.pointer (some ⟨pb0,0,none⟩))).setCell ⟨db,7,none⟩ (.pointer (some ⟨pb1,0,none⟩))).setCell ⟨db,8,none⟩ (.pointer (some ⟨pb2,0,none⟩))));rw[<-hV5]at Da2 ga2;have DV5:=Da2;have gV5:=ga2;go_wp2_with fail
 rw[<-hV5];clear mi mj vz aeo ur q8 e6 f6 e7 f7 e8 f8 Da0 qy Da1 uq Da2 ga2 hV5 DV4 gV4 Dx9 gx9 Dx10 aep Dx11 ahe;refine(CNUM 9 ⟨#[111,114,100,101,114]⟩ _ fb V5 gV5 DV5.fl HP9.out L9.out).out.mono ?_;rintro e x12 ⟨⟨pb0,rfl,mi⟩,aaj⟩;have aeq:=gV5.tr aaj;have Dx12:=DV5.grows aaj;go_wp2_with fail
 refine(CNUM 10 ⟨#[97,116]⟩ _ fb x12 aeq Dx12.fl HP10.out L10.out).out.mono ?_;rintro e x13 ⟨⟨pb1,rfl,mj⟩,us⟩;have ahf:=aeq.tr us;have Dx13:=Dx12.grows us;replace mi:=mi.grows us;obtain⟨⟨u9,e9⟩,f9⟩:=Dx13.slot (i:=9) (by decide);obtain⟨⟨u10,e10⟩,f10⟩:=Dx13.slot (i:=10) (by decide);obtain⟨cs9,rk⟩:=Dx13.blk;have Da0:=Dx13.set (i:=9) (by decide) (⟨pb0,rfl,mi⟩) (λh=>by cases h);have qy:=ahf.set (p:=⟨db,9,none⟩) kn (.pointer (some ⟨pb0,0,none⟩));replace mj:=mP rk mj 9 (.pointer (some ⟨pb0,0,none⟩));obtain⟨cs9,rk⟩:=Da0.blk;have Da1:=Da0.set (i:=10) (by decide) (⟨pb1,rfl,mj⟩) (λh=>by cases h);have uq:=qy.set (p:=⟨db,10,none⟩) kn (.pointer (some ⟨pb1,0,none⟩));obtain⟨V6,hV6⟩:=exq (((x13.setCell ⟨db,9,none⟩ (.pointer (some ⟨pb0,0,none⟩))).setCell ⟨db,10,none⟩ (.pointer (some ⟨pb1,0,none⟩))));rw[<-hV6]at Da1 uq;have DV6:=Da1;have gV6:=uq;have b1:=Dx13.fl.cell (o:=1) rfl;go_wp2_with fail
 rw[<-hV6];clear b1;clear mi mj aaj us e9 f9 e10 f10 Da0 qy Da1 uq hV6 DV5 gV5 Dx12 aeq Dx13 ahf;have HD:=Aa (DV6.dict (by intro i hi;simp;omega));have HL:=Aa (DV6.low (by simp) (by simp));clear DV6 CDAT CNUM CTRI SZ KR KS HDM L3 L5 L6 L7 L8 L9 L10 HP0 HP1 HP2 HP3 HP4 HP5 HP6 HP7 HP8 HP9 HP10;have gW6:=aw.tr gV6;refine(bI1 p m es db V6 HOK.out HD.out).mono ?_;rintro e y1 ⟨rfl,mu⟩;have gy1:=gW6.tr mu;have HD1:=Aa (HD.out.grows mu);obtain⟨vP,p1,p2⟩:=HD1.out.p;obtain⟨aP,cP,rfl,_,_,acd⟩:=p2.at_ wO.len;obtain⟨mb,bm,m1,m2⟩:=HD1.out.m;have HPA:=Aa acd;have HMA:=Aa m2
 have ux:(List.range' 0 (es.length-0)).map (λj=>es.getD j enZero)=es:=by
  rw[<-aT0 es (Ah _)];unfold qI0;rw[Al,List.drop_zero]
 have CI:∀(u:World) (b1 b2:Nat),Grows y1 u->u.cell? ⟨b1,0,none⟩=some (.int .i64 (0:Nat))->u.cell? ⟨b2,0,none⟩=some (.int .i64 (es.length:Nat)) ->
   Hid (Calls Tryz.prog 60 #[.pointer (some ⟨db,0,none⟩),.func (.func 109) #[] #[.pointer (some ⟨b1,0,none⟩),.pointer (some ⟨b2,0,none⟩)]] u λe w'=>∃v,e=.returned v/\aV w' u.heap.size 52 5 aQ v es/\Grows u w'):=λu b1 b2 hu h1 h2=>by
  have h:=dE0 p m es db 0 es.length b1 b2 u HOK.out (HD1.out.grows hu) (Aj _) (Ah _) h1 h2;rw[ux]at h;exact h
 have CA:Hid (Calls Tryz.prog 70 #[.pointer (some ⟨db,0,none⟩)] y1.drew λe w'=>e=.returned (.func (.func 109) #[] #[.pointer (some ⟨y1.drew.heap.size,0,none⟩),.pointer (some ⟨y1.drew.heap.size+1,0,none⟩)]) /\
   w'=(y1.drew.alloc (.cells #[.int .i64 (0:Nat)] 3)).alloc (.cells #[.int .i64 (es.length:Nat)] 3)):=gN1 p m es db y1.drew (HD1.out.grows (Grows.drew y1))
 have z0:∀y:Ext Grows y1.drew,y.u.cell? ⟨db,0,none⟩=some (.slice aP p.length cP):=aB ((Grows.drew y1).cell p1);have z1:∀y:Ext Grows y1.drew,y.u.cell? ⟨db,1,none⟩=some (.pointer (some ⟨mb,0,none⟩)):=aB ((Grows.drew y1).cell m1)
 have CB:∀(a:Option Addr) (c:Nat) (u:World),Grows y1 u->aF u a 5 (es.map aQ) ->
   Hid (Calls Tryz.prog 11 #[.slice aP p.length cP,.pointer (some ⟨mb,0,none⟩),.slice a es.length c] u λe w'=>Grows u w'/\∃v,e=.returned (.tuple #[v,.int .i64 0])/\aV w' u.heap.size 5 1 aX v FB):=λa c u hu ha=>by
  have h:=mU0 p mb bm m es aP a cP c u (HE.out.grows (gy1.tr hu)) (by omega) HEN.out HZ.out an HV.out (HPA.out.grows hu) (HMA.out.grows hu) ha (HOK.out).chk;unfold cM at h;rw[HB.out]at h;exact h
 have HGL:=Aa gy1;clear p1 p2 m1 m2 acd ux HB HPA HMA HEN HV HZ HE;go_wp2_with fail
 refine bE (aU 18 [10,11,12]) (by kernel_rfl) (λd _ _ _ _ h=>by cases d<;>exact h) ?_
 iterate 10 (refine aG rfl (λK hK=>?_);go_simp;refine hK _ ?_;clear hK K)
 clear z0 z1;refine aZ rfl rfl (λK hK=>?_);go_simp;refine CA.out.mono ?_;rintro e y2 ⟨rfl,vq⟩;have af:Grows y1.drew y2:=by rw[vq];exact(Grows.alloc _ _).al _
 refine⟨af,hK _ _ ?_⟩;clear hK K CA;have c1:y2.cell? ⟨y1.drew.heap.size,0,none⟩=some (.int .i64 (0:Nat)):=kI (cs:=#[.int .i64 (0:Nat)]) (t:=3) (by rw[vq];exact Grows.alloc _ _) rfl 0 _ rfl
 have c2:y2.cell? ⟨y1.drew.heap.size+1,0,none⟩=some (.int .i64 (es.length:Nat)):=by
  have:=kI (w:=y1.drew.alloc (.cells #[.int .i64 (0:Nat)] 3)) (w':=y2) (cs:=#[.int .i64 (es.length:Nat)]) (t:=3) (by rw[vq];exact Grows.refl _) rfl 0 _ rfl
  rwa [Ak]at this
 have gy2:=(Grows.drew y1).tr af;have CI2:=CI y2 _ _ gy2 c1 c2;clear CI vq c1 c2;refine aZ rfl rfl (λK hK=>?_);go_simp;refine(CI2.out).mono ?_;rintro e y3 ⟨v,rfl,hv,ahg⟩;refine⟨ahg,hK _ _ ?_⟩;clear hK K;have gy3:=gy2.tr ahg;obtain⟨aE,cE,rfl,_,_,ahh⟩:=hv.at_ dT.len;have CB3:=CB aE cE y3 gy3 ahh;clear CB CI2 hv ahh;refine aZ rfl rfl (λK hK=>?_);go_simp;refine(CB3.out).mono ?_;rintro e y4 ⟨bj,v4,rfl,jw⟩;refine⟨bj,hK _ _ ?_⟩;clear hK K;iterate 5 (refine aG rfl (λK hK=>?_);go_simp;refine hK _ ?_;clear hK K)
 refine bH ?_;have gy4:=gy3.tr bj;have gw4:=HGL.out.tr gy4;have be:(convert 36 9 v4).run Tryz.prog y4=.ok (.string (mkB FB)) y4:=aI0 jw
 have uk:(convert 36 9 (.slice ba FL bc)).run Tryz.prog y4=.ok (.string (mkB FB)) y4:=by
  rw[HFL.out];exact yX0 (c:=bc) HFN.out (HAT.out.grows gw4)
 clear CB3 jw;go_wp2_with fail
 go_ret2;exact⟨gw4,db,rfl,HD1.out.grows gy4,HL.out.grows HD.out (mu.tr gy4),by omega⟩
def GK (b:Nat) (w w':World):Prop:=w.grownBy w' (some b)
theorem GK.refl (b:Nat) (w:World):GK b w w:=mI w _
instance (b:Nat) (w:World):Nonempty (Ext (GK b) w):=⟨⟨w,mI w _⟩⟩
theorem GK.trans (b:Nat) (x y z:World) (h:GK b x y) (k:GK b y z):GK b x z:=World.grownBy.trans h k
theorem GK.of {b:Nat} {w w':World} (h:Grows w w'):GK b w w':=h.grownByR _
theorem GK.set3 (b:Nat) (w:World) (u v z:Value):GK b w (((w.setCell ⟨b,0,none⟩ u).setCell ⟨b,1,none⟩ v).setCell ⟨b,2,none⟩ z) :=
 GK.trans _ _ _ _ (GK.trans _ _ _ _ (aJ _ _ _ _) (aJ _ _ _ _)) (aJ _ _ _ _)
theorem gR {b:Nat} {w:World} {p:Addr} {v:Value} (hb:p.block≠b) (hc:w.cell? p=some v) (x:Ext (GK b) w):x.u.cell? p=some v:=cF x.h hc (λe=>hb (Option.some.inj e))
theorem mE.cells {w:World} {b:Nat} {cs:Array Value} (h:mE w b cs):∃v0 v1 v2,w.cell? ⟨b,0,none⟩=some v0/\w.cell? ⟨b,1,none⟩=some v1/\w.cell? ⟨b,2,none⟩=some v2/\(∀j,w.frozen? ⟨b,j,none⟩=false) :=
 ⟨_,_,_,h.tb.cell (Ad (by rw[h.sz];decide)),h.tb.cell (Ad (by rw[h.sz];decide)),h.tb.cell (Ad (by rw[h.sz];decide)),λj=>h.tb.froz j⟩
theorem Grows.set3 {a w:World} (h:Grows a w) {b:Nat} (hb:a.heap.size<=b) (u v z:Value):Grows a (((w.setCell ⟨b,0,none⟩ u).setCell ⟨b,1,none⟩ v).setCell ⟨b,2,none⟩ z) :=
 ((h.set (p:=⟨b,0,none⟩) hb u).set (p:=⟨b,1,none⟩) hb v).set (p:=⟨b,2,none⟩) hb z
theorem mE.rdat3 {w:World} {b:Nat} {cs:Array Value} (k:mE w b cs) {a0:Option Addr} {n0 c0:Nat} {u1 u2:Value} (h1:jD0 u1) {v0 v1 v2:Value} {p:List cH} {m:Mx} {es:List En} (h:eT1 w v0 v1 v2 p m es) :
  eT1 (((w.setCell ⟨b,0,none⟩ (.slice a0 n0 c0)).setCell ⟨b,1,none⟩ u1).setCell ⟨b,2,none⟩ u2) v0 v1 v2 p m es :=
 ((k.set0 a0 n0 c0).set (by decide) h1).rdat ((k.set0 a0 n0 c0).rdat (k.rdat h 0 _) 1 u1) 2 u2
theorem mE.dict3 {w:World} {b:Nat} {cs:Array Value} (k:mE w b cs) {a0:Option Addr} {n0 c0:Nat} {u1 u2:Value} (h1:jD0 u1) {db:Nat} {p:List cH} {m:Mx} {es:List En} (h:cB w db p m es) (ai:¬db=b) :
  cB (((w.setCell ⟨b,0,none⟩ (.slice a0 n0 c0)).setCell ⟨b,1,none⟩ u1).setCell ⟨b,2,none⟩ u2) db p m es :=
 ((k.set0 a0 n0 c0).set (by decide) h1).dict ((k.set0 a0 n0 c0).dict (k.dict h ai 0 _) ai 1 u1) ai 2 u2
theorem mQ.out3 {w:World} {b db lo:Nat} {p:List cH} {m:Mx} {es:List En} (h:mQ w db lo) (hd:cB w db p m es) (ai:¬db=b) (v0 v1 v2:Value):mQ (((w.setCell ⟨b,0,none⟩ v0).setCell ⟨b,1,none⟩ v1).setCell ⟨b,2,none⟩ v2) db lo:=by
 obtain⟨t1,r1,_⟩:=hd.r;obtain⟨t2,r2,_⟩:=hd.s;have hG:=GK.set3 b w v0 v1 v2;refine⟨λtb ht=>?_,λtb ht=>?_⟩
 ·rw[cF hG r1 (λe=>ai (Option.some.inj e))]at ht
  exact h.1 tb (r1.trans ht)
 ·rw[cF hG r2 (λe=>ai (Option.some.inj e))]at ht
  exact h.2 tb (r2.trans ht)
theorem jT1 (x:zB) (A:kQ) (w:World) (ah:sO x) (hl:pY x=true) (ac:mV w A x) :
  Calls Tryz.prog 33 #[A.agg x] w (gE1 x.p (srcM x) x.e w):=by
 obtain⟨_,ij,jt⟩:=oL1 hl ah;obtain⟨_,_,h70,_,fc⟩:=jL hl;have ky:=Aa ah;obtain⟨pa,pc,sa,sc,ea,ec⟩:=A;obtain⟨xp,xd,xs,xe⟩:=x;obtain⟨W1,bi⟩:=exq (w.alloc (.cells #[.slice pa xp.length pc,.int .i64 xd,.slice sa xs.length sc,.slice ea xe.length ec] 26));obtain⟨W0,b9⟩:=exq (W1.alloc (.cells #[.slice none 0 0,.pointer none,.slice none 0 0] 32));have di:W1.heap.size=w.heap.size+1:=by rw[bi,Ak]
 obtain⟨b,hb⟩:=exq (w.heap.size+1);have ag:Grows (w.alloc (.cells #[.slice pa xp.length pc,.int .i64 xd,.slice sa xs.length sc,.slice ea xe.length ec] 26)) W0:=by rw[b9,bi];exact Grows.alloc _ _
 have cp:Grows w W0:=(Grows.alloc _ _).tr ag
 have hRB:mE W0 b #[.slice none 0 0,.pointer none,.slice none 0 0]:=by
  have:=TB.alloc W1 #[.slice none 0 0,.pointer none,.slice none 0 0] 32
  rw[di,<-hb]at this;rw[b9];exact mE.zero this
 obtain⟨bc,_⟩:=bK ag;have q0:=bc 0 _ rfl;have q1:=bc 1 _ rfl;have q2:=bc 2 _ rfl;have q3:=bc 3 _ rfl;have HSA:=Aa (ac.grows cp);have ai:w.heap.size≠b:=by omega
 have hbw:w.heap.size<=b:=by omega
 have z0:∀y:Ext (GK b) W0.drew,y.u.cell? ⟨w.heap.size,0,none⟩=some (.slice pa xp.length pc):=gR ai ((Grows.drew W0).cell q0);have z1:∀y:Ext (GK b) W0.drew,y.u.cell? ⟨w.heap.size,1,none⟩=some (.int .i64 xd):=gR ai ((Grows.drew W0).cell q1);have z2:∀y:Ext (GK b) W0.drew,y.u.cell? ⟨w.heap.size,2,none⟩=some (.slice sa xs.length sc):=gR ai ((Grows.drew W0).cell q2);have z3:∀y:Ext (GK b) W0.drew,y.u.cell? ⟨w.heap.size,3,none⟩=some (.slice ea xe.length ec):=gR ai ((Grows.drew W0).cell q3);have HB2:Hid (∀y∈xe,y.r.size<=1099511627776/\y.s.size<=1099511627776):=ij;have HB3:Hid (∀y∈xp,y.name.size<=9223372036854775807):=jt;replace h70:xp.length<=70:=h70;replace fc:xe.length<=300:=fc;have CC:=λ(W:World) (h:Grows W0 W)=>Aa (cF1 ⟨xp,xd,xs,xe⟩ ⟨pa,pc,sa,sc,ea,ec⟩ W ky.out (HSA.out.grows h));unfold kQ.agg kQ.cells at CC;simp only at CC;have CP:=λ(W:World) (h:Grows W0 W)=>Aa (gL0 xp pa pc W (by omega) (HSA.out.p.grows h));have CM:=λ(p:Option Addr) (c:Nat) (mv:Value) (W:World) (hg:Grows W0 W) (hp:aF W p 2 (xp.map bG)) (hm:kS1 W mv (srcM ⟨xp,xd,xs,xe⟩))=>Aa (zC0 xp mv (srcM ⟨xp,xd,xs,xe⟩) xe p ea c ec W (by omega) HB3.out (by omega) HB2.out hp hm (HSA.out.e.grows hg));show Calls _ _ #[.agg #[.slice pa xp.length pc,.int .i64 xd,.slice sa xs.length sc,.slice ea xe.length ec]] _ (gE1 xp (srcM ⟨xp,xd,xs,xe⟩) xe w)
 generalize srcM ⟨xp,xd,xs,xe⟩=SM at CC CM ⊢;have HG0:=Aa cp;clear ac ah hl HB2 HB3 ij jt q0 q1 q2 q3 bc ag ai;go_enter Tryz.func33,Tryz.ntmps33
 go_wp2_with fail
 rw[<-bi,<-b9,<-hb];clear b9 bi cp di hb;refine iV (GK b) (lT [0,1,3,5,6,2,4,7,8,9,10,11] [2,4,7,10]) (GK.refl b) (GK.trans b) (by kernel_rfl) (by kernel_rfl) (λd _ _ _ _ h=>by cases d<;>exact h) ?_
 iterate 5 (refine aG rfl (λK hK=>?_);go_simp;refine hK _ ?_;clear hK K)
 clear z0 z1 z2 z3;refine aZ rfl rfl (λK hK=>?_);go_simp;refine((CP W0.drew (Grows.drew W0)).out).mono ?_;rintro e w5 ⟨p5,c5,rfl,hp5,bg⟩;refine⟨GK.of bg,hK _ _ ?_⟩;clear hK K;have g5:=(Grows.drew W0).tr bg;refine aZ rfl rfl (λK hK=>?_);go_simp;refine((CC w5 g5).out).mono ?_;rintro e w6 ⟨mv,rfl,hm6,cg⟩;refine⟨GK.of cg,hK _ _ ?_⟩;clear hK K;have g6:=g5.tr cg;refine aZ rfl rfl (λK hK=>?_);go_simp;refine((CM p5 c5 mv w6 g6 (hp5.grows cg) hm6).out).mono ?_;rintro e w7 ⟨cw,a0,n0,c0,q,a2,n2,c2,rfl,ed⟩;refine⟨GK.of cw,hK _ _ ?_⟩;clear hK K;have g7:=g6.tr cw;have HR7:=hRB.grows g7;obtain⟨v0,v1,v2,k0,k1,k2,kf⟩:=HR7.cells;have f0:=kf 0;have f1:=kf 1;have f2:=kf 2;clear CP CC CM hp5 hm6 bg cg cw g5 g6 kf;iterate 2 (refine aG rfl (λK hK=>?_);go_simp;refine hK _ ?_;clear hK K)
 refine aZ rfl rfl (λK hK=>?_);go_simp;refine⟨GK.set3 _ _ _ _ _,hK _ _ ?_⟩;clear hK K;iterate 1 (refine aG rfl (λK hK=>?_);go_simp;refine hK _ ?_;clear hK K)
 refine bH ?_;have GW:=(HG0.out.tr g7).set3 hbw (.slice a0 n0 c0) (.pointer q) (.slice a2 n2 c2);have RD:=λh=>HR7.rdat3 (a0:=a0) (n0:=n0) (c0:=c0) (u2:=.slice a2 n2 c2) (jD0.pt q) (An (ed h)).2;clear f0 f1 f2;go_wp2_with fail
 refine bodyPost_ret (v:=.tuple #[.agg #[.slice a0 n0 c0,.pointer q,.slice a2 n2 c2],.int .i64 (iL xp SM xe)]) (by simp[results,Tryz.results33,go_sem,k0,k1,k2]) rfl ?_
 exact⟨GW,a0,n0,c0,q,a2,n2,c2,rfl,λh=>⟨_,(An (ed h)).1,RD h⟩⟩
end
section
open Go Go.RowKit Go.Shelf
attribute [local go_sem] aM aK Oper.semAt_some
theorem Grows.tr_EB {w W W':World} {B:Nat} (h:Grows w W) (k:EB B W W') (hB:w.heap.size<=B):Grows w W':=Below.trans h (Below.mono k.1 hB)
theorem cP1 {w W:World} {pb:Nat} {l:List Nat} (h:lE w pb l) (hk:bT (λb=>b<w.heap.size) w W):lE W pb l :=
 rF h (X:=λ_=>False) (λk fj _=>hk k fj) (λh=>h) (λ_q h=>h.elim)
theorem uY0 (n:Nat) (hn:1<=n) (l N a b b1 b2 b3 db po:Nat) (os:List Nat) (w:World) (fi:a<=b) (hbN:b<=os.length) (hN:os.length<=1048576) (hos:∀x∈os,x<N) (hN2:N<=1048576) (J Jx:List (qP0 N)->World->Prop)
  (hJ:∀pre V V',J pre V->Grows V V'->J pre V')
  (hY:∀pre x W,J pre W->pre.length<b-a->YieldAt Fence.wide (n-1) Tryz.prog l #[.int .i64 (x.1:Nat)] W λe W' =>
   (e=.returned (.bool true)/\J (pre++[x]) W'/\bT (λb=>b<w.heap.size) W W')\/(e=.returned (.bool false)/\Jx (pre++[x]) W'))
  (W:World) (hK0:bT (λb=>b<w.heap.size) w W) (c1:w.cell? ⟨b1,0,none⟩=some (.int .i64 a)) (c2:w.cell? ⟨b2,0,none⟩=some (.int .i64 b)) (c3:w.cell? ⟨b3,0,none⟩=some (.pointer (some ⟨db,0,none⟩))) (c4:w.cell? ⟨db,9,none⟩=some (.pointer (some ⟨po,0,none⟩))) (hp:lE w po os) (h0:J [] W) (di:w.heap.size<=W.heap.size) :
  CallsIn Fence.wide n Tryz.prog 125 #[.func (.yield l) #[] #[],.pointer (some ⟨b1,0,none⟩),.pointer (some ⟨b2,0,none⟩),.pointer (some ⟨b3,0,none⟩)] W λe W'=>(∃v,e=.returned v) /\
   ((∃xs:List (qP0 N),xs.map (·.1)=(os.take b).drop a/\J xs W')\/(∃pre:List (qP0 N),True/\Jx pre W')):=by
 have k1:=Ab w _ c1;have k2:=Ab w _ c2;have k3:=Ab w _ c3;have k4:=Ab w _ c4;have c1W:=hK0.cell (p:=⟨b1,0,none⟩) k1 c1;have CN:=λ(i x:Nat) (hx:os[i]?=some x) (V:World) (hV:bT (λb=>b<w.heap.size) w V)=>Aa (lN os po i x V hN (λn h=>by have:=hos n h;omega) hx (cP1 hp hV));refine callsIn_of_wp Tryz.func125 rfl trivial ?_ rfl;simp only[Tryz.ntmps125,List.size_toArray,List.length_cons,List.length_nil,Nat.reduceAdd,Nat.reduceSub,Array.replicate_succ,Array.replicate_zero,List.push_toArray,List.append_toArray,List.nil_append,List.cons_append];gi_wp2
 gi_loopw [5] (λi wr=>∃(k:Nat) (pre:List (qP0 N)),i=.int .i64 k/\a<=k/\k<=b/\pre.map (·.1)=(os.take k).drop a/\J pre wr/\bT (λb=>b<w.heap.size) w wr/\w.heap.size<=wr.heap.size) (λi _=>b-(intOf i).toNat)
 case atStart=>exact⟨a,[],rfl,Ah _,fi,by simp,h0,hK0,di⟩
 case round =>
  obtain⟨k,pre,rfl,hak,pq,hpp,hJp,hK,hwz⟩:=hrel;have c2r:=hK.cell (p:=⟨b2,0,none⟩) k2 c2;have c3r:=hK.cell (p:=⟨b3,0,none⟩) k3 c3;have c4r:=hK.cell (p:=⟨db,9,none⟩) k4 c4;by_cases ae:k<b
  ·have et:(k:Int)<b:=by omega
   obtain⟨x,hx⟩:∃x,os[k]?=some x:=⟨_,Ac (by omega)⟩
   have m8:pre.length=k-a:=by
    have:=congrArg Av hpp
    rw[Ae,Au,Am]at this;omega
   have hxN:=hos x (Af hx)
   have pr:(pre++[(⟨x,hxN⟩:qP0 N)]).map (·.1)=(os.take (k+1)).drop a:=by
    rw[List.map_append,hpp,bN hx,List.drop_append_of_le_length (by rw[Am];omega)];rfl
   have CN1:=CN k x hx wr hK;clear hpp CN;gi_wp2
   refine⟨trivial,?_⟩;refine(callsIn_wide.2 CN1.out).mono ?_;rintro e w2 ⟨rfl,af⟩;have ml:bT (λb=>b<w.heap.size) w w2:=hK.tr (bT.of_below af (λb hb=>Nat.lt_of_lt_of_le hb hwz));have hJ2:=hJ pre wr w2 hJp af;obtain⟨fn,tmps,assign,body,hy,hR⟩:=hY pre ⟨x,hxN⟩ w2 hJ2 (by omega);dsimp only at hy
   have ng:=Ar hwz af.size;clear hJp hJ2 CN1;gi_wp2
   refine hR.mono ?_;rintro e W3 (⟨rfl,og,iz⟩|⟨rfl,io⟩)
   ·gi_wp2
    have hz3:w.heap.size<=W3.heap.size:=by
     have:=ml.tr iz
     apply Classical.byContradiction
     intro hc;have h5:=Ab W3 _ ((ml.tr iz).cell (p:=⟨b3,0,none⟩) k3 c3);have h6:=this (w.heap.size-1) (by omega)
     have h7:w.heap[w.heap.size-1]?≠none:=by
      rw[Ad (by omega)];simp
     rw[<-h6,Array.getElem?_eq_none (by omega)]at h7;exact h7 rfl
    go_roundw
    case rel=>exact⟨k+1,_,by go_num,by omega,ae,pr,og,ml.tr iz,hz3⟩
    case measure=>simp[intOf];omega
   ·gi_wp2
    go_end0;exact⟨⟨_,rfl⟩,.inr ⟨_,trivial,io⟩⟩
  ·have et:¬(k:Int)<b:=by omega
   obtain rfl:k=b:=by omega
   gi_wp2
   refine⟨trivial,?_⟩;gi_wp2
   refine⟨λf h=>(by cases h),?_⟩;gi_wp2
   go_end0;exact⟨⟨_,rfl⟩,.inl ⟨pre,hpp,hJp⟩⟩
theorem iO0 (n N a b b1 b2 b3 db po:Nat) (os:List Nat) (w:World) (hn:1<=n) (fi:a<=b) (hbN:b<=os.length) (hN:os.length<=1048576) (hos:∀x∈os,x<N) (hN2:N<=1048576)
  (c1:w.cell? ⟨b1,0,none⟩=some (.int .i64 a)) (c2:w.cell? ⟨b2,0,none⟩=some (.int .i64 b)) (c3:w.cell? ⟨b3,0,none⟩=some (.pointer (some ⟨db,0,none⟩))) (c4:w.cell? ⟨db,9,none⟩=some (.pointer (some ⟨po,0,none⟩))) (hp:lE w po os) :
  SeqStopsK Fence.wide n Tryz.prog 125 #[.pointer (some ⟨b1,0,none⟩),.pointer (some ⟨b2,0,none⟩),.pointer (some ⟨b3,0,none⟩)] (λx:qP0 N => #[.int .i64 (x.1:Nat)]) (bT λb=>b<w.heap.size) (λys=>ys.map (·.1)=(os.take b).drop a) (λ_=>True) (b-a) w:=by
 intro l J Jx W hW hJ _ hY h0;exact uY0 n hn l N a b b1 b2 b3 db po os w fi hbN hN hos hN2 J Jx (λpre V V' h hg=>hJ pre V V' none h hg.grownBy (λr e=>by cases e)) hY W (bT.of_below hW (λb hb=>hb)) c1 c2 c3 c4 hp h0 hW.size
theorem xW (p:List cH) (m:Mx) (es:List En) (db id:Nat) (s:ByteArray) (w:World) (ah:bP p m es) (ac:cB w db p m es) (hs:(surfL es)[id]?=some s) :
  Calls Tryz.prog 76 #[.pointer (some ⟨db,0,none⟩),.int .i64 id] w λe w'=>∃v,e=.returned v/\aV w' w.heap.size 52 5 aQ v (ofL es s)/\Grows w w':=by
 obtain⟨a,b,hr,fi,hb,he⟩:=ah.row_s hs;have hn:=ah.len;obtain⟨pa,a1,a2⟩:=ac.a;obtain⟨po,o1,o2⟩:=ac.o;have vl:=qW es;have ahi:∀x∈aE0 es,x<es.length:=λx hx=>hC0 hx
 have om:(gT gD0 (gP es) es.length).length<=20000:=by
  have h1:=(dO ah.sf).2.1;rw[cK]at h1;rw[rS0,iN];exact h1
 obtain⟨W1,bi⟩:=exq (w.alloc (.cells #[.pointer (some ⟨db,0,none⟩)] 28));have wc:Grows w W1:=by rw[bi];exact Grows.alloc _ _
 have q0:W1.cell? ⟨w.heap.size,0,none⟩=some (.pointer (some ⟨db,0,none⟩)):=by
  have:=aT w #[.pointer (some ⟨db,0,none⟩)] 28 (0,0) 0 _ rfl
  rwa [<-bi]at this
 have CL:∀u,Grows w u->Hid (Calls Tryz.prog 62 #[.pointer (some ⟨po,0,none⟩)] u λe w'=>e=.returned (.int .i64 (es.length:Nat))/\u=w'):=λu hu=>by
  have h:=gX (aE0 es) po u (o2.grows hu);rw[vl]at h;exact h
 have CR:=λ(u:World) (hu:Grows w u)=>Aa (zQ (gT gD0 (gP es) es.length) pa es.length id a b u (by omega) (λn h=>by have:=iX h;omega) hr (a2.grows hu))
 have CI:∀(b5 b6:Nat) (u:World),Grows w u->u.cell? ⟨b5,0,none⟩=some (.int .i64 a)->u.cell? ⟨b6,0,none⟩=some (.int .i64 b)->u.cell? ⟨w.heap.size,0,none⟩=some (.pointer (some ⟨db,0,none⟩)) ->
   Hid (Calls Tryz.prog 60 #[.pointer (some ⟨db,0,none⟩),.func (.func 125) #[] #[.pointer (some ⟨b5,0,none⟩),.pointer (some ⟨b6,0,none⟩),.pointer (some ⟨w.heap.size,0,none⟩)]] u λe w'=>∃v,e=.returned v/\aV w' u.heap.size 52 5 aQ v (ofL es s)/\Grows u w'):=λb5 b6 u hu h5 h6 h7=>by
  have e1:((aE0 es).take b).length=b:=by rw[Am];omega
  have e2:(((aE0 es).take b).drop a).length=b-a:=by rw[Au,e1]
  have h:=mZ0 p m es db 125 #[.pointer (some ⟨b5,0,none⟩),.pointer (some ⟨b6,0,none⟩),.pointer (some ⟨w.heap.size,0,none⟩)] (((aE0 es).take b).drop a) u ah (ac.grows hu) (by omega) (enters_of Tryz.func125 (by kernel_rfl) rfl) (by
   rw[e2];exact iO0 7 es.length a b b5 b6 w.heap.size db po (aE0 es) u (by decide) fi (by omega) (by omega) ahi (by omega) h5 h6 h7 (hu.cell o1) (o2.grows hu))
  rw[he]at h;exact h
 have z0:∀y:Ext (EB W1.heap.size) W1.drew,y.u.cell? ⟨w.heap.size,0,none⟩=some (.pointer (some ⟨db,0,none⟩)):=nN (Ab _ _ q0) ((Grows.drew W1).cell q0);have z1:∀y:Ext (EB W1.heap.size) W1.drew,y.u.cell? ⟨db,10,none⟩=some (.pointer (some ⟨pa,0,none⟩)):=nN (Ab _ _ (wc.cell a1)) ((Grows.drew W1).cell (wc.cell a1));have z2:∀y:Ext (EB W1.heap.size) W1.drew,y.u.cell? ⟨db,9,none⟩=some (.pointer (some ⟨po,0,none⟩)):=nN (Ab _ _ (wc.cell o1)) ((Grows.drew W1).cell (wc.cell o1));have CL1:∀y:Ext (EB W1.heap.size) W1.drew,Hid (Calls Tryz.prog 62 #[.pointer (some ⟨po,0,none⟩)] y.u λe w'=>e=.returned (.int .i64 (es.length:Nat))/\y.u=w'):=λy=>CL _ ((wc.tr (Grows.drew W1)).tr_EB y.h wc.size);obtain⟨N,hN⟩:=exq es.length;rw[<-hN]at CL1 CR;have HQ:=Aa q0;clear ac ah hs hr fi hb he a2 o2 vl ahi om hn hN CL q0 a1 o1;go_enter Tryz.func76,Tryz.ntmps76
 go_wp2_with fail
 rw[<-bi];clear bi;refine cC1 (EB W1.heap.size) (.quiet 0 (.quiet 1 (.quiet 2 (.quiet 3 (.quiet 4 (.quiet 5 (.quiet 6 (.quiet 7 (.quiet 8 (.quiet 9 (.alt (.late 10 (.quiet 11 (.quiet 12 (.quiet 13 (.alt (.late 14 (.late 15 (.late 16 (.late 17 .done)))) (.late 15 (.late 14 (.late 16 (.late 17 .done))))))))) (.alt (.late 14 (.alt (.late 10 (.quiet 11 (.quiet 12 (.quiet 13 (.late 15 (.late 16 (.late 17 .done))))))) (.late 15 (.late 10 (.quiet 11 (.quiet 12 (.quiet 13 (.late 16 (.late 17 .done))))))))) (.late 15 (.alt (.late 10 (.quiet 11 (.quiet 12 (.quiet 13 (.late 14 (.late 16 (.late 17 .done))))))) (.late 14 (.late 10 (.quiet 11 (.quiet 12 (.quiet 13 (.late 16 (.late 17 .done))))))))))))))))))))) (λ(x:Nat×Nat)=>[(some 8,.pointer (some ⟨db,0,none⟩)),(some 9,.pointer (some ⟨db,0,none⟩)),(some 10,.pointer (some ⟨db,10,none⟩)),(some 11,.pointer (some ⟨pa,0,none⟩)),(some 12,.int .i64 id),(some 13,.pointer (some ⟨db,0,none⟩)),(some 14,.pointer (some ⟨db,0,none⟩)),(some 15,.pointer (some ⟨db,9,none⟩)),(some 16,.pointer (some ⟨po,0,none⟩)),(some 17,.int .i64 N),(some 18,.tuple #[.int .i64 a,.int .i64 b]),(some 7,.tuple #[.int .i64 a,.int .i64 b]),(some 19,.int .i64 a),(some 20,.int .i64 b),(some 5,.pointer (some ⟨x.1,0,none⟩)),(some 6,.pointer (some ⟨x.2,0,none⟩))]) (λ(x:Nat×Nat) w'=>w'.cell? ⟨x.1,0,none⟩=some (.int .i64 a)/\w'.cell? ⟨x.2,0,none⟩=some (.int .i64 b)/\Grows W1 w') (EB.refl W1.heap.size) (EB.trans W1.heap.size) (by kernel_rfl) (by kernel_rfl) (λd _ _ _ _ h=>by cases d<;>exact h) ?_ ?_
 ·iterate 9 (refine iC rfl (λK hK=>?_);go_simp;refine hK _ ?_;clear hK K)
  refine iC rfl (λK hK=>?_);go_simp;apply Exists.intro
  refine⟨λx=>?_,hK _ ?_⟩
  ·go_at_call 62
   exact aY (CL1 x).out
  clear hK K z0 z1 z2 CL1;have g0:=Grows.drew W1;generalize W1.drew=V0 at g0 ⊢;refine kQ0 ?_ ?_
  ·refine cY rfl rfl (λK hK=>?_)
   go_simp;refine(CR V0 (wc.tr g0)).out.mono ?_;rintro e u1 ⟨rfl,ag⟩;have g1:=g0.tr ag;refine⟨EB.of ag g0.size,hK _ _ ?_⟩;clear hK K ag;iterate 3 (refine iC rfl (λK hK=>?_);go_simp;refine hK _ ?_;clear hK K)
   refine kQ0 ?_ ?_
   ·refine cY rfl rfl (λK hK=>?_)
    go_simp;have af:=Grows.alloc u1 (.cells #[.int .i64 0] 3);have T5:=TB.alloc u1 #[.int .i64 0] 3;have g2:=g1.tr af;obtain⟨b5,gh⟩:∃b,b=u1.heap.size:=⟨_,rfl⟩;have l5:W1.heap.size<=b5:=by rw[gh];exact g1.size
    refine⟨EB.of af g1.size,hK _ _ ?_⟩;clear hK K;generalize u1.alloc (.cells #[.int .i64 0] 3)=u2 at *;rw[<-gh]at T5 ⊢;clear gh;have k5:=T5.lt;refine cY rfl rfl (λK hK=>?_);go_simp;have aw:=Grows.alloc u2 (.cells #[.int .i64 0] 3);have T6:=TB.alloc u2 #[.int .i64 0] 3;replace T5:=T5.gr aw;have g3:=g2.tr aw;obtain⟨b6,kj⟩:∃b,b=u2.heap.size:=⟨_,rfl⟩;have l6:W1.heap.size<=b6:=by rw[kj];exact g2.size
    refine⟨EB.of aw g2.size,hK _ _ ?_⟩;clear hK K;have ai:b5≠b6:=by rw[kj];exact As k5
    generalize u2.alloc (.cells #[.int .i64 0] 3)=u3 at *;rw[<-kj]at T6 ⊢;clear kj;have k5:=T5.lt;have k6:=T6.lt;have c5:=T5.cell (o:=0) rfl;have f5:=T5.froz 0;refine cY rfl rfl (λK hK=>?_);go_simp;refine⟨EB.set1 l5 _,hK _ _ ?_⟩;clear hK K c5 f5;replace g3:=g3.set (p:=⟨b5,0,none⟩) l5 (.int .i64 a);have T6':=T6.keepN (aJ u3 b5 0 (.int .i64 a)) (by simpa using ai);have T5':=T5.set 0 (.int .i64 a);have c6:=T6'.cell (o:=0) rfl;have f6:=T6'.froz 0;refine cY rfl rfl (λK hK=>?_);go_simp;refine⟨EB.set1 l6 _,hK _ _ ?_⟩;clear hK K c6 f6;replace g3:=g3.set (p:=⟨b6,0,none⟩) l6 (.int .i64 b);have T5'':=T5'.keepN (aJ _ b6 0 (.int .i64 b)) (by simpa using Ne.symm ai);have T6'':=T6'.set 0 (.int .i64 b);refine cT0 ?_;exact⟨(b5,b6),⟨T5''.cell rfl,T6''.cell rfl,g3⟩,by simp only[kT0,Ai];go_simp⟩
   ·refine cY rfl rfl (λK hK=>?_)
    go_simp;have af:=Grows.alloc u1 (.cells #[.int .i64 0] 3);have T6:=TB.alloc u1 #[.int .i64 0] 3;have g2:=g1.tr af;obtain⟨b6,kj⟩:∃b,b=u1.heap.size:=⟨_,rfl⟩;have l6:W1.heap.size<=b6:=by rw[kj];exact g1.size
    refine⟨EB.of af g1.size,hK _ _ ?_⟩;clear hK K;generalize u1.alloc (.cells #[.int .i64 0] 3)=u2 at *;rw[<-kj]at T6 ⊢;clear kj;have k6:=T6.lt;refine cY rfl rfl (λK hK=>?_);go_simp;have aw:=Grows.alloc u2 (.cells #[.int .i64 0] 3);have T5:=TB.alloc u2 #[.int .i64 0] 3;replace T6:=T6.gr aw;have g3:=g2.tr aw;obtain⟨b5,gh⟩:∃b,b=u2.heap.size:=⟨_,rfl⟩;have l5:W1.heap.size<=b5:=by rw[gh];exact g2.size
    refine⟨EB.of aw g2.size,hK _ _ ?_⟩;clear hK K;have ai:b5≠b6:=by rw[gh];exact At k6
    generalize u2.alloc (.cells #[.int .i64 0] 3)=u3 at *;rw[<-gh]at T5 ⊢;clear gh;have k6:=T6.lt;have k5:=T5.lt;have c5:=T5.cell (o:=0) rfl;have f5:=T5.froz 0;refine cY rfl rfl (λK hK=>?_);go_simp;refine⟨EB.set1 l5 _,hK _ _ ?_⟩;clear hK K c5 f5;replace g3:=g3.set (p:=⟨b5,0,none⟩) l5 (.int .i64 a);have T6':=T6.keepN (aJ u3 b5 0 (.int .i64 a)) (by simpa using ai);have T5':=T5.set 0 (.int .i64 a);have c6:=T6'.cell (o:=0) rfl;have f6:=T6'.froz 0;refine cY rfl rfl (λK hK=>?_);go_simp;refine⟨EB.set1 l6 _,hK _ _ ?_⟩;clear hK K c6 f6;replace g3:=g3.set (p:=⟨b6,0,none⟩) l6 (.int .i64 b);have T5'':=T5'.keepN (aJ _ b6 0 (.int .i64 b)) (by simpa using Ne.symm ai);have T6'':=T6'.set 0 (.int .i64 b);refine cT0 ?_;exact⟨(b5,b6),⟨T5''.cell rfl,T6''.cell rfl,g3⟩,by simp only[kT0,Ai];go_simp⟩
  ·refine kQ0 ?_ ?_
   ·refine cY rfl rfl (λK hK=>?_)
    go_simp;have ag:=Grows.alloc V0 (.cells #[.int .i64 0] 3);have T5:=TB.alloc V0 #[.int .i64 0] 3;have g1:=g0.tr ag;obtain⟨b5,gh⟩:∃b,b=V0.heap.size:=⟨_,rfl⟩;have l5:W1.heap.size<=b5:=by rw[gh];exact g0.size
    refine⟨EB.of ag g0.size,hK _ _ ?_⟩;clear hK K;generalize V0.alloc (.cells #[.int .i64 0] 3)=u1 at *;rw[<-gh]at T5 ⊢;clear gh;have k5:=T5.lt;refine kQ0 ?_ ?_
    ·refine cY rfl rfl (λK hK=>?_)
     go_simp;refine(CR u1 (wc.tr g1)).out.mono ?_;rintro e u2 ⟨rfl,af⟩;have g2:=g1.tr af;replace T5:=T5.gr af;refine⟨EB.of af g1.size,hK _ _ ?_⟩;clear hK K af;iterate 3 (refine iC rfl (λK hK=>?_);go_simp;refine hK _ ?_;clear hK K)
     have k5:=T5.lt;refine cY rfl rfl (λK hK=>?_);go_simp;have aw:=Grows.alloc u2 (.cells #[.int .i64 0] 3);have T6:=TB.alloc u2 #[.int .i64 0] 3;replace T5:=T5.gr aw;have g3:=g2.tr aw;obtain⟨b6,kj⟩:∃b,b=u2.heap.size:=⟨_,rfl⟩;have l6:W1.heap.size<=b6:=by rw[kj];exact g2.size
     refine⟨EB.of aw g2.size,hK _ _ ?_⟩;clear hK K;have ai:b5≠b6:=by rw[kj];exact As k5
     generalize u2.alloc (.cells #[.int .i64 0] 3)=u3 at *;rw[<-kj]at T6 ⊢;clear kj;have k5:=T5.lt;have k6:=T6.lt;have c5:=T5.cell (o:=0) rfl;have f5:=T5.froz 0;refine cY rfl rfl (λK hK=>?_);go_simp;refine⟨EB.set1 l5 _,hK _ _ ?_⟩;clear hK K c5 f5;replace g3:=g3.set (p:=⟨b5,0,none⟩) l5 (.int .i64 a);have T6':=T6.keepN (aJ u3 b5 0 (.int .i64 a)) (by simpa using ai);have T5':=T5.set 0 (.int .i64 a);have c6:=T6'.cell (o:=0) rfl;have f6:=T6'.froz 0;refine cY rfl rfl (λK hK=>?_);go_simp;refine⟨EB.set1 l6 _,hK _ _ ?_⟩;clear hK K c6 f6;replace g3:=g3.set (p:=⟨b6,0,none⟩) l6 (.int .i64 b);have T5'':=T5'.keepN (aJ _ b6 0 (.int .i64 b)) (by simpa using Ne.symm ai);have T6'':=T6'.set 0 (.int .i64 b);refine cT0 ?_;exact⟨(b5,b6),⟨T5''.cell rfl,T6''.cell rfl,g3⟩,by simp only[kT0,Ai];go_simp⟩
    ·refine cY rfl rfl (λK hK=>?_)
     go_simp;have af:=Grows.alloc u1 (.cells #[.int .i64 0] 3);have T6:=TB.alloc u1 #[.int .i64 0] 3;replace T5:=T5.gr af;have g2:=g1.tr af;obtain⟨b6,kj⟩:∃b,b=u1.heap.size:=⟨_,rfl⟩;have l6:W1.heap.size<=b6:=by rw[kj];exact g1.size
     refine⟨EB.of af g1.size,hK _ _ ?_⟩;clear hK K;have ai:b5≠b6:=by rw[kj];exact As k5
     generalize u1.alloc (.cells #[.int .i64 0] 3)=u2 at *;rw[<-kj]at T6 ⊢;clear kj;have k5:=T5.lt;have k6:=T6.lt;refine cY rfl rfl (λK hK=>?_);go_simp;refine(CR u2 (wc.tr g2)).out.mono ?_;rintro e u3 ⟨rfl,aw⟩;have g3:=g2.tr aw;replace T5:=T5.gr aw;replace T6:=T6.gr aw;refine⟨EB.of aw g2.size,hK _ _ ?_⟩;clear hK K aw;iterate 3 (refine iC rfl (λK hK=>?_);go_simp;refine hK _ ?_;clear hK K)
     have k5:=T5.lt;have k6:=T6.lt;have c5:=T5.cell (o:=0) rfl;have f5:=T5.froz 0;refine cY rfl rfl (λK hK=>?_);go_simp;refine⟨EB.set1 l5 _,hK _ _ ?_⟩;clear hK K c5 f5;replace g3:=g3.set (p:=⟨b5,0,none⟩) l5 (.int .i64 a);have T6':=T6.keepN (aJ u3 b5 0 (.int .i64 a)) (by simpa using ai);have T5':=T5.set 0 (.int .i64 a);have c6:=T6'.cell (o:=0) rfl;have f6:=T6'.froz 0;refine cY rfl rfl (λK hK=>?_);go_simp;refine⟨EB.set1 l6 _,hK _ _ ?_⟩;clear hK K c6 f6;replace g3:=g3.set (p:=⟨b6,0,none⟩) l6 (.int .i64 b);have T5'':=T5'.keepN (aJ _ b6 0 (.int .i64 b)) (by simpa using Ne.symm ai);have T6'':=T6'.set 0 (.int .i64 b);refine cT0 ?_;exact⟨(b5,b6),⟨T5''.cell rfl,T6''.cell rfl,g3⟩,by simp only[kT0,Ai];go_simp⟩
   ·refine cY rfl rfl (λK hK=>?_)
    go_simp;have ag:=Grows.alloc V0 (.cells #[.int .i64 0] 3);have T6:=TB.alloc V0 #[.int .i64 0] 3;have g1:=g0.tr ag;obtain⟨b6,kj⟩:∃b,b=V0.heap.size:=⟨_,rfl⟩;have l6:W1.heap.size<=b6:=by rw[kj];exact g0.size
    refine⟨EB.of ag g0.size,hK _ _ ?_⟩;clear hK K;generalize V0.alloc (.cells #[.int .i64 0] 3)=u1 at *;rw[<-kj]at T6 ⊢;clear kj;have k6:=T6.lt;refine kQ0 ?_ ?_
    ·refine cY rfl rfl (λK hK=>?_)
     go_simp;refine(CR u1 (wc.tr g1)).out.mono ?_;rintro e u2 ⟨rfl,af⟩;have g2:=g1.tr af;replace T6:=T6.gr af;refine⟨EB.of af g1.size,hK _ _ ?_⟩;clear hK K af;iterate 3 (refine iC rfl (λK hK=>?_);go_simp;refine hK _ ?_;clear hK K)
     have k6:=T6.lt;refine cY rfl rfl (λK hK=>?_);go_simp;have aw:=Grows.alloc u2 (.cells #[.int .i64 0] 3);have T5:=TB.alloc u2 #[.int .i64 0] 3;replace T6:=T6.gr aw;have g3:=g2.tr aw;obtain⟨b5,gh⟩:∃b,b=u2.heap.size:=⟨_,rfl⟩;have l5:W1.heap.size<=b5:=by rw[gh];exact g2.size
     refine⟨EB.of aw g2.size,hK _ _ ?_⟩;clear hK K;have ai:b5≠b6:=by rw[gh];exact At k6
     generalize u2.alloc (.cells #[.int .i64 0] 3)=u3 at *;rw[<-gh]at T5 ⊢;clear gh;have k6:=T6.lt;have k5:=T5.lt;have c5:=T5.cell (o:=0) rfl;have f5:=T5.froz 0;refine cY rfl rfl (λK hK=>?_);go_simp;refine⟨EB.set1 l5 _,hK _ _ ?_⟩;clear hK K c5 f5;replace g3:=g3.set (p:=⟨b5,0,none⟩) l5 (.int .i64 a);have T6':=T6.keepN (aJ u3 b5 0 (.int .i64 a)) (by simpa using ai);have T5':=T5.set 0 (.int .i64 a);have c6:=T6'.cell (o:=0) rfl;have f6:=T6'.froz 0;refine cY rfl rfl (λK hK=>?_);go_simp;refine⟨EB.set1 l6 _,hK _ _ ?_⟩;clear hK K c6 f6;replace g3:=g3.set (p:=⟨b6,0,none⟩) l6 (.int .i64 b);have T5'':=T5'.keepN (aJ _ b6 0 (.int .i64 b)) (by simpa using Ne.symm ai);have T6'':=T6'.set 0 (.int .i64 b);refine cT0 ?_;exact⟨(b5,b6),⟨T5''.cell rfl,T6''.cell rfl,g3⟩,by simp only[kT0,Ai];go_simp⟩
    ·refine cY rfl rfl (λK hK=>?_)
     go_simp;have af:=Grows.alloc u1 (.cells #[.int .i64 0] 3);have T5:=TB.alloc u1 #[.int .i64 0] 3;replace T6:=T6.gr af;have g2:=g1.tr af;obtain⟨b5,gh⟩:∃b,b=u1.heap.size:=⟨_,rfl⟩;have l5:W1.heap.size<=b5:=by rw[gh];exact g1.size
     refine⟨EB.of af g1.size,hK _ _ ?_⟩;clear hK K;have ai:b5≠b6:=by rw[gh];exact At k6
     generalize u1.alloc (.cells #[.int .i64 0] 3)=u2 at *;rw[<-gh]at T5 ⊢;clear gh;have k6:=T6.lt;have k5:=T5.lt;refine cY rfl rfl (λK hK=>?_);go_simp;refine(CR u2 (wc.tr g2)).out.mono ?_;rintro e u3 ⟨rfl,aw⟩;have g3:=g2.tr aw;replace T6:=T6.gr aw;replace T5:=T5.gr aw;refine⟨EB.of aw g2.size,hK _ _ ?_⟩;clear hK K aw;iterate 3 (refine iC rfl (λK hK=>?_);go_simp;refine hK _ ?_;clear hK K)
     have k6:=T6.lt;have k5:=T5.lt;have c5:=T5.cell (o:=0) rfl;have f5:=T5.froz 0;refine cY rfl rfl (λK hK=>?_);go_simp;refine⟨EB.set1 l5 _,hK _ _ ?_⟩;clear hK K c5 f5;replace g3:=g3.set (p:=⟨b5,0,none⟩) l5 (.int .i64 a);have T6':=T6.keepN (aJ u3 b5 0 (.int .i64 a)) (by simpa using ai);have T5':=T5.set 0 (.int .i64 a);have c6:=T6'.cell (o:=0) rfl;have f6:=T6'.froz 0;refine cY rfl rfl (λK hK=>?_);go_simp;refine⟨EB.set1 l6 _,hK _ _ ?_⟩;clear hK K c6 f6;replace g3:=g3.set (p:=⟨b6,0,none⟩) l6 (.int .i64 b);have T5'':=T5'.keepN (aJ _ b6 0 (.int .i64 b)) (by simpa using Ne.symm ai);have T6'':=T6'.set 0 (.int .i64 b);refine cT0 ?_;exact⟨(b5,b6),⟨T5''.cell rfl,T6''.cell rfl,g3⟩,by simp only[kT0,Ai];go_simp⟩
 ·rintro⟨b5,b6⟩ w2 ⟨h5,h6,af⟩
  have q2:=af.cell HQ.out;have hmf:∀(fn:Fn) (first cap:Array Value) (w:World),(Instr.makeFunc fn first cap).run Tryz.prog w=.ok (.func fn first cap) w:=λ_ _ _ _=>rfl
  have CI2:=CI b5 b6 w2 (wc.tr af) h5 h6 q2;have gw2:=wc.tr af;clear CI CR;simp only[kT0,Ai];go_wp2_with fail
  refine CI2.out.mono ?_;rintro e w3 ⟨v,rfl,hv,aw⟩;go_wp2_with fail
  go_ret;exact⟨v,rfl,hv.base gw2.size,gw2.tr aw⟩
end
section
open Go Go.RowKit Go.Shelf
attribute [local go_sem] aM aK
theorem nS (p:List cH) (m:Mx) (es:List En) (db:Nat) (s:ByteArray) (w:World) (ah:bP p m es) (hs:s.size<=140737488355328) (ac:cB w db p m es) :
  Calls Tryz.prog 19 #[.pointer (some ⟨db,0,none⟩),.string s] w λe w'=>∃v,e=.returned v/\aV w' w.heap.size 52 5 aQ v (exactL es s)/\Grows w w':=by
 obtain⟨okR,lR,cR⟩:=dO ah.rd;obtain⟨tr,r1,r2⟩:=ac.r;have CF:=Aa (kW0 (bls (readL es)) tr s w okR lR cR (by omega) r2);have hfe:=xG0 (es:=es) okR s;by_cases hm:s∈readL es
 ·obtain⟨j,hj⟩:=List.mem_iff_getElem?.1 hm
  rw[okR.findT_of (mY hj)]at CF;have CR:=λ(u:World) (hu:Grows w u)=>Aa (lD0 p m es db j s u ah (ac.grows hu) hj);clear ac ah okR lR cR r2 hfe hm hj;go_enter Tryz.func19,Tryz.ntmps19
  go_wp2_with fail
  refine CF.out.mono ?_;rintro e w1 ⟨rfl,ag⟩;go_wp2_with fail
  refine(CR w1 ag).out.mono ?_;rintro e w2 ⟨v,rfl,hv,af⟩;go_wp2
  go_ret;exact⟨v,rfl,hv.base ag.size,ag.tr af⟩
 ·have ry:jB (bls (readL es)) (bl s)=(0,false):=mM λhc=>hm (by have:=xC.1 hc;rwa [show mkB (bl s)=s from mR s]at this)
  rw[ry]at CF hfe;rw[hfe];clear ac ah okR lR cR r2 hfe hm ry;go_enter Tryz.func19,Tryz.ntmps19
  go_wp2_with fail
  refine CF.out.mono ?_;rintro e w1 ⟨rfl,ag⟩;go_wp2
  go_ret;exact⟨_,rfl,aV.nil _ _ _ _ _,ag⟩
theorem aV0 (p:List cH) (m:Mx) (es:List En) (db:Nat) (s:ByteArray) (w:World) (ah:bP p m es) (hs:s.size<=140737488355328) (ac:cB w db p m es) :
  Calls Tryz.prog 21 #[.pointer (some ⟨db,0,none⟩),.string s] w λe w'=>∃v,e=.returned v/\aV w' w.heap.size 52 5 aQ v (ofL es s)/\Grows w w':=by
 obtain⟨okR,lR,cR⟩:=dO ah.sf;obtain⟨tr,r1,r2⟩:=ac.s;have CF:=Aa (kW0 (bls (surfL es)) tr s w okR lR cR (by omega) r2);have hfe:=mO1 (es:=es) okR s;by_cases hm:s∈surfL es
 ·obtain⟨j,hj⟩:=List.mem_iff_getElem?.1 hm
  rw[okR.findT_of (mY hj)]at CF;have CR:=λ(u:World) (hu:Grows w u)=>Aa (xW p m es db j s u ah (ac.grows hu) hj);clear ac ah okR lR cR r2 hfe hm hj;go_enter Tryz.func21,Tryz.ntmps21
  go_wp2_with fail
  refine CF.out.mono ?_;rintro e w1 ⟨rfl,ag⟩;go_wp2_with fail
  refine(CR w1 ag).out.mono ?_;rintro e w2 ⟨v,rfl,hv,af⟩;go_wp2
  go_ret;exact⟨v,rfl,hv.base ag.size,ag.tr af⟩
 ·have ry:jB (bls (surfL es)) (bl s)=(0,false):=mM λhc=>hm (by have:=xC.1 hc;rwa [show mkB (bl s)=s from mR s]at this)
  rw[ry]at CF hfe;rw[hfe];clear ac ah okR lR cR r2 hfe hm ry;go_enter Tryz.func21,Tryz.ntmps21
  go_wp2_with fail
  refine CF.out.mono ?_;rintro e w1 ⟨rfl,ag⟩;go_wp2
  go_ret;exact⟨_,rfl,aV.nil _ _ _ _ _,ag⟩
theorem iR (p:List cH) (m:Mx) (es:List En) (db:Nat) (s:ByteArray) (w:World) (ah:bP p m es) (hs:s.size<=140737488355328) (ac:cB w db p m es) :
  Calls Tryz.prog 20 #[.pointer (some ⟨db,0,none⟩),.string s] w λe w'=>∃v,e=.returned v/\aV w' w.heap.size 52 5 aQ v (prefL es s)/\Grows w w':=by
 obtain⟨okR,lR,cR⟩:=dO ah.rd;obtain⟨tr,r1,r2⟩:=ac.r;have hn:=ah.len;have CF:=Aa (uU (bls (readL es)) tr s w okR lR cR (by omega) r2);rw[bZ1 okR];have HM:=λq hq=>Aa (aK0 (L:=bls (readL es)) (s:=bl s) (q:=q) (n:=s.size) hq);have ia:=okR.hits_256 (s:=bl s) (n:=s.size) (by rw[dI];exact Ah _);generalize hitsL (bls (readL es)) (bl s) s.size=H at CF HM ia ⊢
 have CR:∀q∈H,∀u,Grows w u->Hid (Calls Tryz.prog 74 #[.pointer (some ⟨db,0,none⟩),.int .i64 (q.1:Nat)] u λe w'=>∃v,e=.returned v/\aV w' u.heap.size 52 5 aQ v (exactL es ((readL es).getD q.1 ⟨#[]⟩))/\Grows u w'):=λq hq u hu=>by
  have h1:=(HM q hq).out.1;rw[cK]at h1;exact lD0 p m es db q.1 _ u ah (ac.grows hu) (by rw[Ag,Ac h1];rfl)
 have HLEN:Hid (∀t,(exactL es t).length<=20000):=λt=>Ar (Ao _ _) hn;obtain⟨f,hf⟩:∃f:Nat×Nat->List En,f=λq=>exactL es ((readL es).getD q.1 ⟨#[]⟩):=⟨_,rfl⟩
 have CR2:∀q∈H,∀u,Grows w u->Hid (Calls Tryz.prog 74 #[.pointer (some ⟨db,0,none⟩),.int .i64 (q.1:Nat)] u λe w'=>∃v,e=.returned v/\aV w' u.heap.size 52 5 aQ v (f q)/\Grows u w'):=λq hq u hu=>by
  rw[hf];exact CR q hq u hu
 have HL2:Hid (∀q,(f q).length<=20000):=λq=>by rw[hf];exact HLEN.out _
 rw[<-hf];clear ac ah okR lR cR r2 HM CR HLEN hf hn;go_enter Tryz.func20,Tryz.ntmps20
 go_wp2_with fail
 refine CF.out.mono ?_;rintro e w1 ⟨v1,rfl,fy,ag⟩;obtain⟨a1,c1,rfl,_,_,da⟩:=fy.at_ aO1.len;have HAT:=Aa da;have G1:=Aa ag;clear CF fy da ag;go_wp2_with fail
 go_loopw [5,17] (λv i wr=>∃(k:Nat),k<=H.length/\i=.int .i64 k/\Hid (aV wr w1.heap.size 52 5 aQ v ((H.take k).flatMap f)/\((H.take k).flatMap f).length<=k*20000)/\Hid (Grows w1 wr)) (λ_ i _=>H.length-(intOf i).toNat)
 case atStart=>exact⟨0,Aj _,rfl,⟨aV.nil _ _ _ _ _,Aj _⟩,Grows.refl _⟩
 case round =>
  obtain⟨k,hk,rfl,hO,hg⟩:=hrel;by_cases ae:k<H.length
  ·obtain⟨⟨id,ln⟩,hx⟩:∃x,H[k]?=some x:=⟨_,Ac ae⟩
   obtain⟨ba,oa,rfl,be⟩:=(HAT.out.grows hg.out).get (aH ae);have c0:wr.cell? ⟨ba,oa+k*2,none⟩=some (.int .i64 id):=be k _ hx 0 _ rfl;have c1':wr.cell? ⟨ba,oa+k*2+1,none⟩=some (.int .i64 ln):=be k _ hx 1 _ rfl;have cy:(k:Int)<H.length:=by omega
   obtain⟨W2,gm⟩:=exq (wr.alloc (.cells #[.int .i64 id,.int .i64 ln] 124));have af:Grows wr W2:=by rw[gm];exact Grows.alloc _ _
   have b0:=aT wr #[.int .i64 id,.int .i64 ln] 124 (0,0) 0 _ rfl;have g12:=hg.out.tr af;have CR1:=CR2 (id,ln) (Af hx) W2 (G1.out.tr g12)
   have HT:Hid ((H.take k).flatMap f++f (id,ln)=(H.take (k+1)).flatMap f):=by
    show _=_
    rw[bN hx,Ap];simp
   have hlf:=HL2.out (id,ln);have gv:=hO.out.1.grows af;have rp:=hO.out.2;generalize (H.take k).flatMap f=cd at gv rp HT;generalize f (id,ln)=news at CR1 HT hlf;have ajm:k<=1048576:=by omega
   clear be hx hO CR2;go_wp2_with fail
   rw[<-gm];clear gm b0;refine CR1.out.mono ?_;rintro e w3 ⟨v3,rfl,ja,aw⟩;obtain⟨a3,c3,rfl,_,_,d9⟩:=ja.at_ dT.len;have lw:=bQ ja;have g13:=g12.tr aw;have hO3:=gv.grows aw;clear ja CR1 gv;go_wp2_with (at_builtin;refine tL dT rfl _ _ rfl w1.heap.size _ cd news rfl hO3 (Grows.refl _) a3 c3 rfl d9 lw (by omega) g13.size ?_;intro v7 w7 hO7 hk7 hf7 aav)
   have cw:=aav w1 g13 (Ah _);go_wp2_with fail
   go_roundw
   case rel=>exact⟨k+1,ae,by go_num,⟨by rw[<-HT.out];exact hO7,by rw[<-HT.out,Aq];omega⟩,cw⟩
   case measure=>simp[intOf];omega
  ·obtain rfl:k=H.length:=by omega
   have gv:=hO.out.1;rw[Al]at gv;go_wp2_with fail
   go_ret;exact⟨_,rfl,gv.base G1.out.size,G1.out.tr hg.out⟩
theorem oC (p:List cH) (m:Mx) (es:List En) (db:Nat) (s:ByteArray) (w:World) (ah:bP p m es) (hs:s.size<=140737488355328) (ac:cB w db p m es) :
  Calls Tryz.prog 22 #[.pointer (some ⟨db,0,none⟩),.string s] w λe w'=>∃v,e=.returned v/\aV w' w.heap.size 52 5 aQ v (writesL es s)/\Grows w w':=by
 obtain⟨okR,lR,cR⟩:=dO ah.sf;obtain⟨tr,r1,r2⟩:=ac.s;have hn:=ah.len;have CF:=Aa (uU (bls (surfL es)) tr s w okR lR cR (by omega) r2);rw[oV0 okR];have HM:=λq hq=>Aa (aK0 (L:=bls (surfL es)) (s:=bl s) (q:=q) (n:=s.size) hq);have ia:=okR.hits_256 (s:=bl s) (n:=s.size) (by rw[dI];exact Ah _);generalize hitsL (bls (surfL es)) (bl s) s.size=H at CF HM ia ⊢
 have CR:∀q∈H,∀u,Grows w u->Hid (Calls Tryz.prog 76 #[.pointer (some ⟨db,0,none⟩),.int .i64 (q.1:Nat)] u λe w'=>∃v,e=.returned v/\aV w' u.heap.size 52 5 aQ v (ofL es ((surfL es).getD q.1 ⟨#[]⟩))/\Grows u w'):=λq hq u hu=>by
  have h1:=(HM q hq).out.1;rw[cK]at h1;exact xW p m es db q.1 _ u ah (ac.grows hu) (by rw[Ag,Ac h1];rfl)
 have HLEN:Hid (∀t,(ofL es t).length<=20000):=λt=>Ar (Ao _ _) hn;obtain⟨f,hf⟩:∃f:Nat×Nat->List En,f=λq=>ofL es ((surfL es).getD q.1 ⟨#[]⟩):=⟨_,rfl⟩
 have CR2:∀q∈H,∀u,Grows w u->Hid (Calls Tryz.prog 76 #[.pointer (some ⟨db,0,none⟩),.int .i64 (q.1:Nat)] u λe w'=>∃v,e=.returned v/\aV w' u.heap.size 52 5 aQ v (f q)/\Grows u w'):=λq hq u hu=>by
  rw[hf];exact CR q hq u hu
 have HL2:Hid (∀q,(f q).length<=20000):=λq=>by rw[hf];exact HLEN.out _
 rw[<-hf];clear ac ah okR lR cR r2 HM CR HLEN hf hn;go_enter Tryz.func22,Tryz.ntmps22
 go_wp2_with fail
 refine CF.out.mono ?_;rintro e w1 ⟨v1,rfl,fy,ag⟩;obtain⟨a1,c1,rfl,_,_,da⟩:=fy.at_ aO1.len;have HAT:=Aa da;have G1:=Aa ag;clear CF fy da ag;go_wp2_with fail
 go_loopw [5,17] (λv i wr=>∃(k:Nat),k<=H.length/\i=.int .i64 k/\Hid (aV wr w1.heap.size 52 5 aQ v ((H.take k).flatMap f)/\((H.take k).flatMap f).length<=k*20000)/\Hid (Grows w1 wr)) (λ_ i _=>H.length-(intOf i).toNat)
 case atStart=>exact⟨0,Aj _,rfl,⟨aV.nil _ _ _ _ _,Aj _⟩,Grows.refl _⟩
 case round =>
  obtain⟨k,hk,rfl,hO,hg⟩:=hrel;by_cases ae:k<H.length
  ·obtain⟨⟨id,ln⟩,hx⟩:∃x,H[k]?=some x:=⟨_,Ac ae⟩
   obtain⟨ba,oa,rfl,be⟩:=(HAT.out.grows hg.out).get (aH ae);have c0:wr.cell? ⟨ba,oa+k*2,none⟩=some (.int .i64 id):=be k _ hx 0 _ rfl;have c1':wr.cell? ⟨ba,oa+k*2+1,none⟩=some (.int .i64 ln):=be k _ hx 1 _ rfl;have cy:(k:Int)<H.length:=by omega
   obtain⟨W2,gm⟩:=exq (wr.alloc (.cells #[.int .i64 id,.int .i64 ln] 124));have af:Grows wr W2:=by rw[gm];exact Grows.alloc _ _
   have b0:=aT wr #[.int .i64 id,.int .i64 ln] 124 (0,0) 0 _ rfl;have g12:=hg.out.tr af;have CR1:=CR2 (id,ln) (Af hx) W2 (G1.out.tr g12)
   have HT:Hid ((H.take k).flatMap f++f (id,ln)=(H.take (k+1)).flatMap f):=by
    show _=_
    rw[bN hx,Ap];simp
   have hlf:=HL2.out (id,ln);have gv:=hO.out.1.grows af;have rp:=hO.out.2;generalize (H.take k).flatMap f=cd at gv rp HT;generalize f (id,ln)=news at CR1 HT hlf;have ajm:k<=1048576:=by omega
   clear be hx hO CR2;go_wp2_with fail
   rw[<-gm];clear gm b0;refine CR1.out.mono ?_;rintro e w3 ⟨v3,rfl,ja,aw⟩;obtain⟨a3,c3,rfl,_,_,d9⟩:=ja.at_ dT.len;have lw:=bQ ja;have g13:=g12.tr aw;have hO3:=gv.grows aw;clear ja CR1 gv;go_wp2_with (at_builtin;refine tL dT rfl _ _ rfl w1.heap.size _ cd news rfl hO3 (Grows.refl _) a3 c3 rfl d9 lw (by omega) g13.size ?_;intro v7 w7 hO7 hk7 hf7 aav)
   have cw:=aav w1 g13 (Ah _);go_wp2_with fail
   go_roundw
   case rel=>exact⟨k+1,ae,by go_num,⟨by rw[<-HT.out];exact hO7,by rw[<-HT.out,Aq];omega⟩,cw⟩
   case measure=>simp[intOf];omega
  ·obtain rfl:k=H.length:=by omega
   have gv:=hO.out.1;rw[Al]at gv;go_wp2_with fail
   go_ret;exact⟨_,rfl,gv.base G1.out.size,G1.out.tr hg.out⟩
theorem oQ (p:List cH) (m:Mx) (es:List En) (db:Nat) (w:World) (ac:cB w db p m es) :
  Calls Tryz.prog 14 #[.pointer (some ⟨db,0,none⟩)] w λe w'=>e=.returned (.int .i64 (es.length:Nat))/\w=w':=by
 obtain⟨pi,i1,i2⟩:=ac.i;have h:=gX (es.map (yX (surfL es))) pi w i2;rw[Ae]at h;have CL:=Aa h;generalize es.length=N at CL ⊢;clear ac i2 h;go_enter Tryz.func14,Tryz.ntmps14
 go_wp2_with fail
 refine CL.out.mono ?_;rintro e w1 ⟨rfl,rfl⟩;go_wp2
 go_ret;exact⟨rfl,rfl⟩
theorem lV0 (p:List cH) (m:Mx) (es:List En) (db:Nat) (w:World) (ac:cB w db p m es) :
  Calls Tryz.prog 15 #[.pointer (some ⟨db,0,none⟩)] w λe w'=>e=.returned (.int .i64 (p.length:Nat))/\w=w':=by
 obtain⟨vP,p1,p2⟩:=ac.p;obtain⟨aP,cP,rfl,_,_,_⟩:=p2.at_ wO.len;clear ac p2;generalize p.length=N at p1 ⊢;go_enter Tryz.func15,Tryz.ntmps15
 go_wp2_with fail
 go_ret;exact⟨rfl,rfl⟩
theorem bK0 (p:List cH) (m:Mx) (es:List En) (db:Nat) (r l:Int) (w:World) (ac:cB w db p m es) :
  Calls Tryz.prog 29 #[.pointer (some ⟨db,0,none⟩),.int .i64 r,.int .i64 l] w λe w'=>e=.returned (.int .i64 (m.cost (r,l)))/\w=w':=by
 obtain⟨mb,bm,m1,m2⟩:=ac.m;have CC:=Aa (jU1 w mb bm m m2 r l);clear ac m2;go_enter Tryz.func29,Tryz.ntmps29
 go_wp2_with fail
 refine CC.out.mono ?_;rintro e w1 ⟨rfl,rfl⟩;go_wp2
 go_ret;exact⟨rfl,rfl⟩
theorem aP0 (p:List cH) (m:Mx) (es:List En) (db:Nat) (id:Int) (w:World) (ac:cB w db p m es) :
  Calls Tryz.prog 31 #[.pointer (some ⟨db,0,none⟩),.int .i64 id] w λe w'=>e=.returned (.int .i64 (kZ0 p id))/\w=w':=by
 obtain⟨vP,p1,p2⟩:=ac.p;obtain⟨aP,cP,rfl,_,_,aer⟩:=p2.at_ wO.len;clear ac p2;by_cases h1:id<0
 ·have hk:kZ0 p id=0:=if_pos (Or.inl h1)
  rw[hk];clear hk aer;go_enter Tryz.func31,Tryz.ntmps31
  go_wp2_with fail
  go_ret;exact⟨rfl,rfl⟩
 ·by_cases h2:(p.length:Int)<=id
  ·have hk:kZ0 p id=0:=if_pos (Or.inr h2)
   rw[hk];clear hk aer;go_enter Tryz.func31,Tryz.ntmps31
   go_wp2_with fail
   go_ret;exact⟨rfl,rfl⟩
  ·obtain⟨j,rfl⟩:∃j:Nat,id=j:=⟨id.toNat,by omega⟩
   obtain⟨⟨xn,xk⟩,hx⟩:∃x,p[j]?=some x:=⟨_,Ac (by omega)⟩
   have hk:kZ0 p (j:Int)=xk:=by
    unfold kZ0;rw[if_neg (by omega),Int.toNat_natCast,Ag,hx];rfl
   obtain⟨ba,oa,rfl,be⟩:=aer.get (aH (k:=j) (by omega));have c1:=be j _ hx 1 _ rfl;have iy:(j:Int)<p.length:=by omega
   rw[hk];clear hk be hx;go_enter Tryz.func31,Tryz.ntmps31
   go_wp2_with fail
   go_ret;exact⟨rfl,rfl⟩
end
end Go.Proofs.YtheiocndipepaaaGreatDoor
