/- The texts Dop3 Opn1 Dct4 Dct5, one behind the other. -/
import Derived.Test.YtcijgkfpobpdbaaGreatDoorBq47
import Derived.Test.YtcijgkfpobpdbaaGreatDoorBq41
import Derived.Test.YtcijgkfpobpdbaaGreatDoorBq21
import Derived.Test.YtcijgkfpobpdbaaGreatDoorBq45
import Derived.Test.YtcijgkfpobpdbaaGreatDoorBq42
open Go.Lib renaming hid → Aa
open Go.World renaming block_lt_of_cell? → Ab,size_alloc → Ak
open List renaming getElem?_eq_getElem → Ac,length_map → Ae,mem_of_getElem? → Af,getD_eq_getElem?_getD → Ag,foldl → Ai,take_length → Al,length_take → Am,length_filter_le → Ao,flatMap_append → Ap,length_append → Aq,length_drop → Au,length → Av
open Array renaming getElem?_eq_getElem → Ad
open Nat renaming le_refl → Ah,zero_le → Aj,le_trans → Ar,ne_of_lt → As,ne_of_gt → At
open Classical renaming choose_spec → An
set_option maxHeartbeats 16000000
namespace Go.Proofs.YtcijgkfpobpdbaaGreatDoor
set_option maxRecDepth 100000
section
open Go Go.RowKit Go.Shelf
attribute [local go_sem] aQ aM
theorem DSt.slot {lo:Nat} {p:List cJ} {m:Mx} {es:List En} {ps:List Nat} {db fb:Nat} {fv:Value} {w:World} (h:DSt lo p m es ps db fb fv w) {i:Nat} (hi:i<11):(∃u,w.cell? ⟨db,i,none⟩=some u)/\w.frozen? ⟨db,i,none⟩=false:=by
 obtain⟨cs,hb⟩:=h.blk;exact⟨⟨_,hb.tb.cell (Ad (by rw[hb.sz];exact hi))⟩,hb.tb.froz i⟩
theorem oR.grows {lo db:Nat} {p:List cJ} {m:Mx} {es:List En} {w w':World} (h:oR w db lo) (hd:cO w db p m es) (hg:Grows w w'):oR w' db lo:=by
 obtain⟨t1,r1,_⟩:=hd.r;obtain⟨t2,r2,_⟩:=hd.s;refine⟨λtb ht=>?_,λtb ht=>?_⟩
 ·rw[hg.cell r1]at ht
  exact h.1 tb (r1.trans ht)
 ·rw[hg.cell r2]at ht
  exact h.2 tb (r2.trans ht)
theorem iX0 {p:List cJ} {m:Mx} {es:List En} (ag:cH p m es) (rp:fO (imgP p m es)=0):pQ p (some m) es=(0,file14 (imgP p m es)):=by
 have h:=rU ag.make (by rw[ag.idem];exact rp);rwa [ag.idem]at h
theorem mX1 {p:List cJ} {m:Mx} {es:List En} (ag:cH p m es) (f:En->Int) (hf:∀x∈es,0<=f x/\f x<=30000):(es.map λx=>(f x).toNat).length<=1048576/\∀n∈es.map λx=>(f x).toNat,n<18446744073709551616:=by
 have:=ag.len
 refine⟨by rw[Ae];omega,λn hn=>?_⟩;obtain⟨y,hy,rfl⟩:=List.mem_map.1 hn
 have:=hf y hy
 omega
theorem kU0 (p:List cJ) (m:Mx) (es:List En) (ba:Option Addr) (bc:Nat) (w:World) (he:Env w) (ag:cH p m es) (hm:m.OK) (hEn:∀x∈es,uO x) (rp:fO (imgP p m es)=0)
  (fq:(file14 (imgP p m es)).length<=bc) (hbm:bc<=maxLen) (j8:ba=none->bc=0) (ac:aF w ba 1 ((file14 (imgP p m es)).map aX)) :
  Calls Tryz.prog 22 #[.slice ba (file14 (imgP p m es)).length bc] w λe w'=>Grows w w'/\∃db,e=.returned (.tuple #[.pointer (some ⟨db,0,none⟩),.int .i64 0])/\cO w' db p m es/\oR w' db w.heap.size/\w.heap.size<=db:=by
 have ak:=ag.len;have hv:=(dY ag.chk).2.2.1;have agh:=(dJ hv).1;have gn:=ag.num;have ml:(imgP p m es).length=11:=rfl;have CS:=Aa (nU0 (imgP p m es) ba bc w he rp fq hbm j8 ac)
 have HPART:Hid (∀(Q:List bD),Q.map bare=(imgP p m es).map bare->∀(k:Nat) (nm:ByteArray) (uo:List UInt8),(∃q,(imgP p m es)[k]?=some q/\q.name=nm/\q.data=uo)->∃q,Q[k]?=some q/\q.name=nm/\q.data=uo/\∀j p',j<k->Q[j]?=some p'->p'.name≠q.name):=λQ hb k nm uo ⟨q,hq,h1,h2⟩=>by
  obtain⟨q2,iy,e1,e2⟩:=rI0 hb hq;refine⟨q2,iy,e1.trans h1,e2.trans h2,λj p' hj hp'=>?_⟩;obtain⟨p2,nl,e3,_⟩:=rI0 (P:=Q) (Q:=imgP p m es) hb.symm hp';rw[<-e3,e1];exact mC1 nl hq hj
 have HQL:Hid (∀(Q:List bD),Q.map bare=(imgP p m es).map bare->Q.length=11):=λQ hb=>by
  have:=congrArg Av hb
  rw[Ae,Ae,ml]at this;exact this
 have HP0:Hid (∃q,(imgP p m es)[0]?=some q/\q.name=⟨#[112,111,115]⟩/\q.data=posE p):=⟨_,rfl,rfl,rfl⟩;have HP1:Hid (∃q,(imgP p m es)[1]?=some q/\q.name=⟨#[109,97,116,114,105,120]⟩/\q.data=m.enc):=⟨_,rfl,rfl,rfl⟩;have HP2:Hid (∃q,(imgP p m es)[2]?=some q/\q.name=⟨#[114,101,97,100,105,110,103,115]⟩/\q.data=loudE (bls (readL es))):=⟨_,rfl,rfl,rfl⟩;have HP3:Hid (∃q,(imgP p m es)[3]?=some q/\q.name=⟨#[102,105,114,115,116]⟩/\q.data=packE (gM rG es es.length)):=⟨_,rfl,rfl,rfl⟩;have HP4:Hid (∃q,(imgP p m es)[4]?=some q/\q.name=⟨#[115,117,114,102,97,99,101,115]⟩/\q.data=loudE (bls (surfL es))):=⟨_,rfl,rfl,rfl⟩;have HP5:Hid (∃q,(imgP p m es)[5]?=some q/\q.name=⟨#[115,117,114,102,97,99,101]⟩/\q.data=packE (es.map (yE (surfL es)))):=⟨_,rfl,rfl,rfl⟩;have HP6:Hid (∃q,(imgP p m es)[6]?=some q/\q.name=⟨#[108,101,102,116]⟩/\q.data=packE (es.map λx=>x.l.toNat)):=⟨_,rfl,rfl,rfl⟩;have HP7:Hid (∃q,(imgP p m es)[7]?=some q/\q.name=⟨#[114,105,103,104,116]⟩/\q.data=packE (es.map λx=>x.t.toNat)):=⟨_,rfl,rfl,rfl⟩;have HP8:Hid (∃q,(imgP p m es)[8]?=some q/\q.name=⟨#[99,111,115,116]⟩/\q.data=packE (es.map λx=>x.c.toNat)):=⟨_,rfl,rfl,rfl⟩;have HP9:Hid (∃q,(imgP p m es)[9]?=some q/\q.name=⟨#[111,114,100,101,114]⟩/\q.data=packE (zW es)):=⟨_,rfl,rfl,rfl⟩;have HP10:Hid (∃q,(imgP p m es)[10]?=some q/\q.name=⟨#[97,116]⟩/\q.data=packE (gM hU0 (gI es) es.length)):=⟨_,rfl,rfl,rfl⟩
 have L3:Hid ((gM rG es es.length).length<=1048576/\∀n∈gM rG es es.length,n<18446744073709551616):=⟨by
  have h1:=(dP ag.rd).2.1;rw[cG]at h1;rw[ag.first,iJ]
  omega,λn h=>by have:=iQ h;omega⟩
 have L5:Hid ((es.map (yE (surfL es))).length<=1048576/\∀n∈es.map (yE (surfL es)),n<18446744073709551616):=⟨by rw[Ae];omega,λn h=>by
  obtain⟨y,hy,rfl⟩:=List.mem_map.1 h
  have:=pG (jV hy)
  have h1:=(dP ag.sf).2.1;rw[cG]at h1;omega⟩
 have L6:=Aa (mX1 ag (λx=>x.l) (λx hx=>by have:=gn x hx;omega));have L7:=Aa (mX1 ag (λx=>x.t) (λx hx=>by have:=gn x hx;omega));have L8:=Aa (mX1 ag (λx=>x.c) (λx hx=>by have:=gn x hx;omega));have L9:Hid ((zW es).length<=1048576/\∀n∈zW es,n<18446744073709551616):=⟨by rw[qN];omega,λn h=>by have:=gW0 h;omega⟩
 have L10:Hid ((gM hU0 (gI es) es.length).length<=1048576/\∀n∈gM hU0 (gI es) es.length,n<18446744073709551616):=⟨by
  have h1:=(dP ag.sf).2.1;rw[cG]at h1;rw[qL0,iJ];omega,λn h=>by have:=iQ h;omega⟩
 have KR:=Aa ag.rd;have KS:=Aa ag.sf;have HDM:Hid (lK1 m.enc=some m):=hG1.2 ⟨hm,rfl⟩;have HB:=Aa (iX0 ag rp)
 have HZ:Hid (∀x∈es,x.r.size<=1099511627776/\x.s.size<=1099511627776):=λx hx=>by
  have h1:=ag.len_r x hx;have h2:=ag.len_s x hx;omega
 have HOK:=Aa ag;have HE:=Aa he;have HEN:=Aa hEn;have HV:=Aa hv;obtain⟨FB,hFB⟩:=exq (file14 (imgP p m es));rw[<-hFB]at CS HB ac fq ⊢;have HAT:=Aa ac
 have HFN:Hid (FB≠[]):=by
  show _≠_
  rw[hFB];unfold file14 dO;simp
 obtain⟨FL,hFL⟩:=exq FB.length;rw[<-hFL]at CS ⊢;have HFL:=Aa hFL;clear he ag hm hEn rp fq hbm j8 ac hv gn ml hFB hFL;go_enter Tryz.func22,Tryz.ntmps22
 go_wp2_with fail
 refine CS.out.mono ?_;rintro e w3 ⟨ax,Q,qa,qc,rfl,un,lj,hqp⟩;have hQl:=HQL.out Q un;have PF:=HPART.out Q un
 have CDAT:∀(k:Nat) (nm:ByteArray) (uo:List UInt8) (fb:Nat) (W:World),Grows w3 W->TB W fb #[.slice qa 11 qc,.bool false] 99->(∃q,(imgP p m es)[k]?=some q/\q.name=nm/\q.data=uo) ->
   Hid (Calls Tryz.prog 57 #[.pointer (some ⟨fb,0,none⟩),.string nm] W λe w'=>∃v,e=.returned v/\aU w' W.heap.size 5 1 aX v uo/\Grows W w'):=λk nm uo fb W hW hf hp=>by
  obtain⟨q,hq,e1,e2,aj⟩:=PF k nm uo hp;rw[<-hQl]at hf;have h:=aV0 Q k q qa qc fb W (by omega) (lj.grows hW) (hqp.grows hW) hq aj hf;rw[e1,e2]at h;exact h
 have CNUM:∀(k:Nat) (nm:ByteArray) (l:List Nat) (fb:Nat) (W:World),Grows w3 W->TB W fb #[.slice qa 11 qc,.bool false] 99->(∃q,(imgP p m es)[k]?=some q/\q.name=nm/\q.data=packE l)->(l.length<=1048576/\∀n∈l,n<18446744073709551616) ->
   Hid (Calls Tryz.prog 60 #[.pointer (some ⟨fb,0,none⟩),.string nm] W λe w'=>(∃pb,e=.returned (.pointer (some ⟨pb,0,none⟩))/\lU w' pb l)/\Grows W w'):=λk nm l fb W hW hf hp hl=>by
  obtain⟨q,hq,e1,e2,aj⟩:=PF k nm _ hp;rw[<-hQl]at hf;have h:=jK0 Q k q l e2 hl qa qc fb W (by omega) (lj.grows hW) (hqp.grows hW) hq aj hf;rw[e1]at h;exact h.mono λe w' ⟨pb,h1,h2,h3⟩=>⟨⟨pb,h1,h2⟩,h3⟩
 have CTRI:∀(k:Nat) (nm:ByteArray) (L:List (List UInt8)) (fb:Nat) (W:World),Grows w3 W->TB W fb #[.slice qa 11 qc,.bool false] 99->(∃q,(imgP p m es)[k]?=some q/\q.name=nm/\q.data=loudE L)->cY L=0 ->
   Hid (Calls Tryz.prog 59 #[.pointer (some ⟨fb,0,none⟩),.string nm] W λe w'=>(∃tb,e=.returned (.pointer (some ⟨tb,0,none⟩))/\eD w' tb L/\W.heap.size+2<=tb)/\Grows W w'):=λk nm L fb W hW hf hp hl=>by
  obtain⟨q,hq,e1,e2,aj⟩:=PF k nm _ hp;rw[<-hQl]at hf;have h:=aV1 Q k q L e2 hl qa qc fb W (by omega) (lj.grows hW) (hqp.grows hW) hq aj hf;rw[e1]at h;exact h.mono λe w' ⟨tb,h1,h2,h3,h4⟩=>⟨⟨tb,h1,h2,h3⟩,h4⟩
 have SZ:Hid (∀(k:Nat) (uo:List UInt8) (nm:ByteArray),(∃q,(imgP p m es)[k]?=some q/\q.name=nm/\q.data=uo)->uo.length<=1099511627776):=λk uo nm hp=>by
  obtain⟨q,hq,_,e2,_⟩:=PF k nm uo hp;rw[<-e2];exact hqp.data _ (Af hq)
 rw[hQl];obtain⟨W0,bh⟩:=exq ((w3.alloc (.cells #[.slice qa 11 qc,.bool false] 99)).alloc (.cells #[.slice none 0 0,.pointer none,.pointer none,.pointer none,.pointer none,.pointer none,.pointer none,.pointer none,.pointer none,.pointer none,.pointer none] 79));obtain⟨fb,hfb⟩:=exq w3.heap.size;obtain⟨db,z9⟩:=exq (w3.heap.size+1);have g0:Grows w3 W0:=by rw[bh];exact(Grows.alloc _ _).al _
 have D0:DSt w.heap.size p m es [] db fb (.slice qa 11 qc) W0:=by
  refine⟨⟨#[.slice none 0 0,.pointer none,.pointer none,.pointer none,.pointer none,.pointer none,.pointer none,.pointer none,.pointer none,.pointer none,.pointer none],?_,rfl,⟨none,0,0,rfl⟩⟩,?_,λi hi=>by cases hi⟩
  ·rw[bh,z9]
   have:=TB.alloc (w3.alloc (.cells #[.slice qa 11 qc,.bool false] 99)) #[.slice none 0 0,.pointer none,.pointer none,.pointer none,.pointer none,.pointer none,.pointer none,.pointer none,.pointer none,.pointer none,.pointer none] 79
   rw[Ak]at this;exact this
  ·rw[bh,hfb]
   exact(TB.alloc _ _ _).al _
 have hdf:¬db=fb:=by omega
 have hfd:¬fb=db:=by omega
 have j6:w3.heap.size<=db:=by omega
 have qz:=ax.size;clear CS un lj hqp PF hQl HPART HQL;go_wp2_with fail
 rw[<-bh,<-z9,<-hfb];clear bh hfb z9;refine(CDAT 0 ⟨#[112,111,115]⟩ _ fb W0 g0 D0.fl HP0.out).out.mono ?_;rintro e x1 ⟨v1,rfl,gj,adt⟩;have gx1:=g0.tr adt;have Dx1:=D0.grows adt;obtain⟨a1,c1,rfl,h1c,_,ct⟩:=gj.at_ bK.len;have iw:=bN gj;have CP:=Aa (tK0 p a1 c1 x1 HV.out (SZ.out 0 _ _ HP0.out) h1c iw ct);generalize (posE p).length=PL at CP ⊢;clear gj ct iw h1c adt;go_wp2_with fail
 refine(CP).out.mono ?_;rintro e x2 ⟨v2,rfl,fm,adu⟩;have gx2:=gx1.tr adu;have Dx2:=Dx1.grows adu;obtain⟨aP,cP,rfl,_,_,_⟩:=fm.at_ uU.len;obtain⟨⟨u0,e0⟩,f0⟩:=Dx2.slot (i:=0) (by decide);have b1:=Dx2.fl.cell (o:=1) rfl;have z1:=Dx2.fl.froz 1;have Da0:=Dx2.set (i:=0) (by decide) (fm.base (Aj _)) (λ_=>⟨_,_,_,rfl⟩);have p4:=gx2.set (p:=⟨db,0,none⟩) j6 (.slice aP p.length cP);have hs:=iY (o:=1) (u:=.bool false) Da0.fl rfl;have Db:=Da0.grows hs;have gb:=p4.tr hs;obtain⟨V1,jo⟩:=exq (((x2.setCell ⟨db,0,none⟩ (.slice aP p.length cP)).setCell ⟨fb,1,none⟩ (.bool false)));rw[<-jo]at Db gb;have DV1:=Db;have ru:=gb;go_wp2_with fail
 rw[<-jo];clear CP adu fm e0 f0 b1 z1 Da0 p4 hs Db gb jo D0 g0 Dx1 gx1 Dx2 gx2;refine(CDAT 1 ⟨#[109,97,116,114,105,120]⟩ _ fb V1 ru DV1.fl HP1.out).out.mono ?_;rintro e x3 ⟨v1,rfl,gj,adv⟩;have gx3:=ru.tr adv;have Dx3:=DV1.grows adv;obtain⟨a1,c1,rfl,h1c,_,ct⟩:=gj.at_ bK.len;have CM:=Aa (uB0 m.enc a1 c1 x3 (SZ.out 1 _ _ HP1.out) ct);rw[HDM.out]at CM;generalize m.enc.length=PL at CM ⊢;clear gj ct h1c adv;go_wp2_with fail
 refine CM.out.mono ?_;rintro e x4 ⟨_,vd,adw⟩;obtain⟨mb,bm,rfl,hma,_,_⟩:=vd m rfl;have gx4:=gx3.tr adw;have Dx4:=Dx3.grows adw;obtain⟨⟨u1,e1⟩,f1⟩:=Dx4.slot (i:=1) (by decide);have b1:=Dx4.fl.cell (o:=1) rfl;have z1:=Dx4.fl.froz 1;have Da0:=Dx4.set (i:=1) (by decide) (⟨mb,bm,rfl,hma⟩) (λh=>by cases h);have p4:=gx4.set (p:=⟨db,1,none⟩) j6 (.pointer (some ⟨mb,0,none⟩));have hs:=iY (o:=1) (u:=.bool false) Da0.fl rfl;have Db:=Da0.grows hs;have gb:=p4.tr hs;obtain⟨V2,ny⟩:=exq (((x4.setCell ⟨db,1,none⟩ (.pointer (some ⟨mb,0,none⟩))).setCell ⟨fb,1,none⟩ (.bool false)));rw[<-ny]at Db gb;have DV2:=Db;have gV2:=gb;go_wp2_with fail
 rw[<-ny];clear CM adw vd hma e1 f1 b1 z1 Da0 p4 hs Db gb ny DV1 ru Dx3 gx3 Dx4 gx4;refine(CTRI 2 ⟨#[114,101,97,100,105,110,103,115]⟩ _ fb V2 gV2 DV2.fl HP2.out KR.out).out.mono ?_;rintro e x5 ⟨⟨tb,rfl,zj,jh⟩,adx⟩;have gx5:=gV2.tr adx;have Dx5:=DV2.grows adx;have zk:w.heap.size+2<=tb:=by have:=gV2.size;omega
 go_wp2_with fail
 refine(CNUM 3 ⟨#[102,105,114,115,116]⟩ _ fb x5 gx5 Dx5.fl HP3.out L3.out).out.mono ?_;rintro e x6 ⟨⟨pb,rfl,fk⟩,ace⟩;have gx6:=gx5.tr ace;have Dx6:=Dx5.grows ace;have zm:=zj.grows ace;obtain⟨⟨u2,e2⟩,f2⟩:=Dx6.slot (i:=2) (by decide);obtain⟨⟨u4,e4⟩,f4⟩:=Dx6.slot (i:=4) (by decide);obtain⟨cs9,qj⟩:=Dx6.blk;have Da0:=Dx6.set (i:=2) (by decide) (⟨tb,rfl,zm,zk⟩) (λh=>by cases h);have p4:=gx6.set (p:=⟨db,2,none⟩) j6 (.pointer (some ⟨tb,0,none⟩));have Da1:=Da0.set (i:=4) (by decide) (⟨pb,rfl,mA qj fk _ _⟩) (λh=>by cases h);have tc:=p4.set (p:=⟨db,4,none⟩) j6 (.pointer (some ⟨pb,0,none⟩));obtain⟨V3,lh⟩:=exq (((x6.setCell ⟨db,2,none⟩ (.pointer (some ⟨tb,0,none⟩))).setCell ⟨db,4,none⟩ (.pointer (some ⟨pb,0,none⟩))));rw[<-lh]at Da1 tc;have DV3:=Da1;have rr:=tc;go_wp2_with fail
 rw[<-lh];clear zj jh zk adx ace zm fk qj e2 f2 e4 f4 Da0 p4 Da1 tc lh DV2 gV2 Dx5 gx5 Dx6 gx6;refine(CTRI 4 ⟨#[115,117,114,102,97,99,101,115]⟩ _ fb V3 rr DV3.fl HP4.out KS.out).out.mono ?_;rintro e x7 ⟨⟨tb,rfl,zj,jh⟩,ady⟩;have gx7:=rr.tr ady;have Dx7:=DV3.grows ady;have zk:w.heap.size+2<=tb:=by have:=rr.size;omega
 go_wp2_with fail
 refine(CNUM 5 ⟨#[115,117,114,102,97,99,101]⟩ _ fb x7 gx7 Dx7.fl HP5.out L5.out).out.mono ?_;rintro e x8 ⟨⟨pb,rfl,fk⟩,acf⟩;have gx8:=gx7.tr acf;have Dx8:=Dx7.grows acf;have zm:=zj.grows acf;obtain⟨⟨u3,e3⟩,f3⟩:=Dx8.slot (i:=3) (by decide);obtain⟨⟨u5,e5⟩,f5⟩:=Dx8.slot (i:=5) (by decide);obtain⟨cs9,qj⟩:=Dx8.blk;have Da0:=Dx8.set (i:=3) (by decide) (⟨tb,rfl,zm,zk⟩) (λh=>by cases h);have p4:=gx8.set (p:=⟨db,3,none⟩) j6 (.pointer (some ⟨tb,0,none⟩));have Da1:=Da0.set (i:=5) (by decide) (⟨pb,rfl,mA qj fk _ _⟩) (λh=>by cases h);have tc:=p4.set (p:=⟨db,5,none⟩) j6 (.pointer (some ⟨pb,0,none⟩));obtain⟨V4,hV4⟩:=exq (((x8.setCell ⟨db,3,none⟩ (.pointer (some ⟨tb,0,none⟩))).setCell ⟨db,5,none⟩ (.pointer (some ⟨pb,0,none⟩))));rw[<-hV4]at Da1 tc;have DV4:=Da1;have gV4:=tc;go_wp2_with fail
 rw[<-hV4];clear zj jh zk ady acf zm fk qj e3 f3 e5 f5 Da0 p4 Da1 tc hV4 DV3 rr Dx7 gx7 Dx8 gx8;refine(CNUM 6 ⟨#[108,101,102,116]⟩ _ fb V4 gV4 DV4.fl HP6.out L6.out).out.mono ?_;rintro e x9 ⟨⟨pb0,rfl,lm⟩,adz⟩;have gx9:=gV4.tr adz;have Dx9:=DV4.grows adz;go_wp2_with fail
 refine(CNUM 7 ⟨#[114,105,103,104,116]⟩ _ fb x9 gx9 Dx9.fl HP7.out L7.out).out.mono ?_;rintro e x10 ⟨⟨pb1,rfl,lq⟩,td⟩;have ad0:=gx9.tr td;have Dx10:=Dx9.grows td;replace lm:=lm.grows td;go_wp2_with fail
 refine(CNUM 8 ⟨#[99,111,115,116]⟩ _ fb x10 ad0 Dx10.fl HP8.out L8.out).out.mono ?_;rintro e x11 ⟨⟨pb2,rfl,up⟩,p8⟩;have agp:=ad0.tr p8;have Dx11:=Dx10.grows p8;replace lm:=lm.grows p8;replace lq:=lq.grows p8;obtain⟨⟨u6,e6⟩,f6⟩:=Dx11.slot (i:=6) (by decide);obtain⟨⟨u7,e7⟩,f7⟩:=Dx11.slot (i:=7) (by decide);obtain⟨⟨u8,e8⟩,f8⟩:=Dx11.slot (i:=8) (by decide);obtain⟨cs9,qj⟩:=Dx11.blk;have Da0:=Dx11.set (i:=6) (by decide) (⟨pb0,rfl,lm⟩) (λh=>by cases h);have p4:=agp.set (p:=⟨db,6,none⟩) j6 (.pointer (some ⟨pb0,0,none⟩));replace lq:=mA qj lq 6 (.pointer (some ⟨pb0,0,none⟩));replace up:=mA qj up 6 (.pointer (some ⟨pb0,0,none⟩));obtain⟨cs9,qj⟩:=Da0.blk;have Da1:=Da0.set (i:=7) (by decide) (⟨pb1,rfl,lq⟩) (λh=>by cases h);have tc:=p4.set (p:=⟨db,7,none⟩) j6 (.pointer (some ⟨pb1,0,none⟩));replace up:=mA qj up 7 (.pointer (some ⟨pb1,0,none⟩));obtain⟨cs9,qj⟩:=Da1.blk;have Da2:=Da1.set (i:=8) (by decide) (⟨pb2,rfl,up⟩) (λh=>by cases h);have ga2:=tc.set (p:=⟨db,8,none⟩) j6 (.pointer (some ⟨pb2,0,none⟩));obtain⟨V5,hV5⟩:=exq ((((x11.setCell ⟨db,6,none⟩ (.pointer (some ⟨pb0,0,none⟩))).setCell ⟨db,7,none⟩ (.pointer (some ⟨pb1,0,none⟩))).setCell ⟨db,8,none⟩ (.pointer (some ⟨pb2,0,none⟩))));rw[<-hV5]at Da2 ga2;have DV5:=Da2;have gV5:=ga2;go_wp2_with fail
 rw[<-hV5];clear lm lq up adz td p8 e6 f6 e7 f7 e8 f8 Da0 p4 Da1 tc Da2 ga2 hV5 DV4 gV4 Dx9 gx9 Dx10 ad0 Dx11 agp;refine(CNUM 9 ⟨#[111,114,100,101,114]⟩ _ fb V5 gV5 DV5.fl HP9.out L9.out).out.mono ?_;rintro e x12 ⟨⟨pb0,rfl,lm⟩,zn⟩;have ad1:=gV5.tr zn;have Dx12:=DV5.grows zn;go_wp2_with fail
 refine(CNUM 10 ⟨#[97,116]⟩ _ fb x12 ad1 Dx12.fl HP10.out L10.out).out.mono ?_;rintro e x13 ⟨⟨pb1,rfl,lq⟩,te⟩;have agq:=ad1.tr te;have Dx13:=Dx12.grows te;replace lm:=lm.grows te;obtain⟨⟨u9,e9⟩,f9⟩:=Dx13.slot (i:=9) (by decide);obtain⟨⟨u10,e10⟩,f10⟩:=Dx13.slot (i:=10) (by decide);obtain⟨cs9,qj⟩:=Dx13.blk;have Da0:=Dx13.set (i:=9) (by decide) (⟨pb0,rfl,lm⟩) (λh=>by cases h);have p4:=agq.set (p:=⟨db,9,none⟩) j6 (.pointer (some ⟨pb0,0,none⟩));replace lq:=mA qj lq 9 (.pointer (some ⟨pb0,0,none⟩));obtain⟨cs9,qj⟩:=Da0.blk;have Da1:=Da0.set (i:=10) (by decide) (⟨pb1,rfl,lq⟩) (λh=>by cases h);have tc:=p4.set (p:=⟨db,10,none⟩) j6 (.pointer (some ⟨pb1,0,none⟩));obtain⟨V6,hV6⟩:=exq (((x13.setCell ⟨db,9,none⟩ (.pointer (some ⟨pb0,0,none⟩))).setCell ⟨db,10,none⟩ (.pointer (some ⟨pb1,0,none⟩))));rw[<-hV6]at Da1 tc;have DV6:=Da1;have gV6:=tc;have b1:=Dx13.fl.cell (o:=1) rfl;go_wp2_with fail
 rw[<-hV6];clear b1;clear lm lq zn te e9 f9 e10 f10 Da0 p4 Da1 tc hV6 DV5 gV5 Dx12 ad1 Dx13 agq;have HD:=Aa (DV6.dict (by intro i hi;simp;omega));have HL:=Aa (DV6.low (by simp) (by simp));clear DV6 CDAT CNUM CTRI SZ KR KS HDM L3 L5 L6 L7 L8 L9 L10 HP0 HP1 HP2 HP3 HP4 HP5 HP6 HP7 HP8 HP9 HP10;have gW6:=ax.tr gV6;refine(aZ1 p m es db V6 HOK.out HD.out).mono ?_;rintro e y1 ⟨rfl,l8⟩;have gy1:=gW6.tr l8;have HD1:=Aa (HD.out.grows l8);obtain⟨vP,p1,p2⟩:=HD1.out.p;obtain⟨aP,cP,rfl,_,_,abr⟩:=p2.at_ uU.len;obtain⟨mb,bm,m1,m2⟩:=HD1.out.m;have HPA:=Aa abr;have HMA:=Aa m2
 have tg:(List.range' 0 (es.length-0)).map (λj=>es.getD j enZero)=es:=by
  rw[<-aI0 es (Ah _)];unfold mV0;rw[Al,List.drop_zero]
 have CI:∀(u:World) (b1 b2:Nat),Grows y1 u->u.cell? ⟨b1,0,none⟩=some (.int .i64 (0:Nat))->u.cell? ⟨b2,0,none⟩=some (.int .i64 (es.length:Nat)) ->
   Hid (Calls Tryz.prog 52 #[.pointer (some ⟨db,0,none⟩),.func (.func 109) #[] #[.pointer (some ⟨b1,0,none⟩),.pointer (some ⟨b2,0,none⟩)]] u λe w'=>∃v,e=.returned v/\aU w' u.heap.size 59 5 aJ v es/\Grows u w'):=λu b1 b2 hu h1 h2=>by
  have h:=bZ0 p m es db 0 es.length b1 b2 u HOK.out (HD1.out.grows hu) (Aj _) (Ah _) h1 h2;rw[tg]at h;exact h
 have CA:Hid (Calls Tryz.prog 62 #[.pointer (some ⟨db,0,none⟩)] y1.drew λe w'=>e=.returned (.func (.func 109) #[] #[.pointer (some ⟨y1.drew.heap.size,0,none⟩),.pointer (some ⟨y1.drew.heap.size+1,0,none⟩)]) /\
   w'=(y1.drew.alloc (.cells #[.int .i64 (0:Nat)] 3)).alloc (.cells #[.int .i64 (es.length:Nat)] 3)):=dX1 p m es db y1.drew (HD1.out.grows (Grows.drew y1))
 have z0:∀y:Ext Grows y1.drew,y.u.cell? ⟨db,0,none⟩=some (.slice aP p.length cP):=aB ((Grows.drew y1).cell p1);have z1:∀y:Ext Grows y1.drew,y.u.cell? ⟨db,1,none⟩=some (.pointer (some ⟨mb,0,none⟩)):=aB ((Grows.drew y1).cell m1)
 have CB:∀(a:Option Addr) (c:Nat) (u:World),Grows y1 u->aF u a 5 (es.map aJ) ->
   Hid (Calls Tryz.prog 27 #[.slice aP p.length cP,.pointer (some ⟨mb,0,none⟩),.slice a es.length c] u λe w'=>Grows u w'/\∃v,e=.returned (.tuple #[v,.int .i64 0])/\aU w' u.heap.size 5 1 aX v FB):=λa c u hu ha=>by
  have h:=kW0 p mb bm m es aP a cP c u (HE.out.grows (gy1.tr hu)) (by omega) HEN.out HZ.out ak HV.out (HPA.out.grows hu) (HMA.out.grows hu) ha (HOK.out).chk;unfold cZ at h;rw[HB.out]at h;exact h
 have HGL:=Aa gy1;clear p1 p2 m1 m2 abr tg HB HPA HMA HEN HV HZ HE;go_wp2_with fail
 refine bF (aV 18 [10,11,12]) (by kernel_rfl) (λd _ _ _ _ h=>by cases d<;>exact h) ?_
 iterate 10 (refine aG rfl (λK hK=>?_);go_simp;refine hK _ ?_;clear hK K)
 clear z0 z1;refine aY rfl rfl (λK hK=>?_);go_simp;refine CA.out.mono ?_;rintro e y2 ⟨rfl,ug⟩;have af:Grows y1.drew y2:=by rw[ug];exact(Grows.alloc _ _).al _
 refine⟨af,hK _ _ ?_⟩;clear hK K CA;have c1:y2.cell? ⟨y1.drew.heap.size,0,none⟩=some (.int .i64 (0:Nat)):=jZ (cs:=#[.int .i64 (0:Nat)]) (t:=3) (by rw[ug];exact Grows.alloc _ _) rfl 0 _ rfl
 have c2:y2.cell? ⟨y1.drew.heap.size+1,0,none⟩=some (.int .i64 (es.length:Nat)):=by
  have:=jZ (w:=y1.drew.alloc (.cells #[.int .i64 (0:Nat)] 3)) (w':=y2) (cs:=#[.int .i64 (es.length:Nat)]) (t:=3) (by rw[ug];exact Grows.refl _) rfl 0 _ rfl
  rwa [Ak]at this
 have gy2:=(Grows.drew y1).tr af;have CI2:=CI y2 _ _ gy2 c1 c2;clear CI ug c1 c2;refine aY rfl rfl (λK hK=>?_);go_simp;refine(CI2.out).mono ?_;rintro e y3 ⟨v,rfl,hv,agr⟩;refine⟨agr,hK _ _ ?_⟩;clear hK K;have gy3:=gy2.tr agr;obtain⟨aE,cE,rfl,_,_,ags⟩:=hv.at_ dR.len;have CB3:=CB aE cE y3 gy3 ags;clear CB CI2 hv ags;refine aY rfl rfl (λK hK=>?_);go_simp;refine(CB3.out).mono ?_;rintro e y4 ⟨bu,v4,rfl,mc⟩;refine⟨bu,hK _ _ ?_⟩;clear hK K;iterate 5 (refine aG rfl (λK hK=>?_);go_simp;refine hK _ ?_;clear hK K)
 refine bH ?_;have gy4:=gy3.tr bu;have gw4:=HGL.out.tr gy4;have be:(convert 42 9 v4).run Tryz.prog y4=.ok (.string (mkB FB)) y4:=bX0 mc
 have vn:(convert 42 9 (.slice ba FL bc)).run Tryz.prog y4=.ok (.string (mkB FB)) y4:=by
  rw[HFL.out];exact wL0 (c:=bc) HFN.out (HAT.out.grows gw4)
 clear CB3 mc;go_wp2_with fail
 go_ret2;exact⟨gw4,db,rfl,HD1.out.grows gy4,HL.out.grows HD.out (l8.tr gy4),by omega⟩
def GK (b:Nat) (w w':World):Prop:=w.grownBy w' (some b)
theorem GK.refl (b:Nat) (w:World):GK b w w:=lZ w _
instance (b:Nat) (w:World):Nonempty (Ext (GK b) w):=⟨⟨w,lZ w _⟩⟩
theorem GK.trans (b:Nat) (x y z:World) (h:GK b x y) (k:GK b y z):GK b x z:=World.grownBy.trans h k
theorem GK.of {b:Nat} {w w':World} (h:Grows w w'):GK b w w':=h.grownByR _
theorem GK.set3 (b:Nat) (w:World) (u v z:Value):GK b w (((w.setCell ⟨b,0,none⟩ u).setCell ⟨b,1,none⟩ v).setCell ⟨b,2,none⟩ z) :=
 GK.trans _ _ _ _ (GK.trans _ _ _ _ (aK _ _ _ _) (aK _ _ _ _)) (aK _ _ _ _)
theorem gQ {b:Nat} {w:World} {p:Addr} {v:Value} (hb:p.block≠b) (hc:w.cell? p=some v) (x:Ext (GK b) w):x.u.cell? p=some v:=bQ x.h hc (λe=>hb (Option.some.inj e))
theorem lX.cells {w:World} {b:Nat} {cs:Array Value} (h:lX w b cs):∃v0 v1 v2,w.cell? ⟨b,0,none⟩=some v0/\w.cell? ⟨b,1,none⟩=some v1/\w.cell? ⟨b,2,none⟩=some v2/\(∀j,w.frozen? ⟨b,j,none⟩=false) :=
 ⟨_,_,_,h.tb.cell (Ad (by rw[h.sz];decide)),h.tb.cell (Ad (by rw[h.sz];decide)),h.tb.cell (Ad (by rw[h.sz];decide)),λj=>h.tb.froz j⟩
theorem Grows.set3 {a w:World} (h:Grows a w) {b:Nat} (hb:a.heap.size<=b) (u v z:Value):Grows a (((w.setCell ⟨b,0,none⟩ u).setCell ⟨b,1,none⟩ v).setCell ⟨b,2,none⟩ z) :=
 ((h.set (p:=⟨b,0,none⟩) hb u).set (p:=⟨b,1,none⟩) hb v).set (p:=⟨b,2,none⟩) hb z
theorem lX.rdat3 {w:World} {b:Nat} {cs:Array Value} (k:lX w b cs) {a0:Option Addr} {n0 c0:Nat} {u1 u2:Value} (h1:fF0 u1) {v0 v1 v2:Value} {p:List cJ} {m:Mx} {es:List En} (h:cO1 w v0 v1 v2 p m es) :
  cO1 (((w.setCell ⟨b,0,none⟩ (.slice a0 n0 c0)).setCell ⟨b,1,none⟩ u1).setCell ⟨b,2,none⟩ u2) v0 v1 v2 p m es :=
 ((k.set0 a0 n0 c0).set (by decide) h1).rdat ((k.set0 a0 n0 c0).rdat (k.rdat h 0 _) 1 u1) 2 u2
theorem lX.dict3 {w:World} {b:Nat} {cs:Array Value} (k:lX w b cs) {a0:Option Addr} {n0 c0:Nat} {u1 u2:Value} (h1:fF0 u1) {db:Nat} {p:List cJ} {m:Mx} {es:List En} (h:cO w db p m es) (aj:¬db=b) :
  cO (((w.setCell ⟨b,0,none⟩ (.slice a0 n0 c0)).setCell ⟨b,1,none⟩ u1).setCell ⟨b,2,none⟩ u2) db p m es :=
 ((k.set0 a0 n0 c0).set (by decide) h1).dict ((k.set0 a0 n0 c0).dict (k.dict h aj 0 _) aj 1 u1) aj 2 u2
theorem oR.out3 {w:World} {b db lo:Nat} {p:List cJ} {m:Mx} {es:List En} (h:oR w db lo) (hd:cO w db p m es) (aj:¬db=b) (v0 v1 v2:Value):oR (((w.setCell ⟨b,0,none⟩ v0).setCell ⟨b,1,none⟩ v1).setCell ⟨b,2,none⟩ v2) db lo:=by
 obtain⟨t1,r1,_⟩:=hd.r;obtain⟨t2,r2,_⟩:=hd.s;have hG:=GK.set3 b w v0 v1 v2;refine⟨λtb ht=>?_,λtb ht=>?_⟩
 ·rw[bQ hG r1 (λe=>aj (Option.some.inj e))]at ht
  exact h.1 tb (r1.trans ht)
 ·rw[bQ hG r2 (λe=>aj (Option.some.inj e))]at ht
  exact h.2 tb (r2.trans ht)
theorem eQ1 (x:yZ) (A:nM) (w:World) (ag:tG x) (hl:qE x=true) (ac:oZ w A x) :
  Calls Tryz.prog 46 #[A.agg x] w (gP1 x.p (srcM x) x.e w):=by
 obtain⟨_,jk,je⟩:=nD1 hl ag;obtain⟨_,_,h70,_,jg⟩:=uD hl;have kh:=Aa ag;obtain⟨pa,pc,sa,sc,ea,ec⟩:=A;obtain⟨xp,xd,xs,xe⟩:=x;obtain⟨W1,bi⟩:=exq (w.alloc (.cells #[.slice pa xp.length pc,.int .i64 xd,.slice sa xs.length sc,.slice ea xe.length ec] 26));obtain⟨W0,bh⟩:=exq (W1.alloc (.cells #[.slice none 0 0,.pointer none,.slice none 0 0] 31));have dp:W1.heap.size=w.heap.size+1:=by rw[bi,Ak]
 obtain⟨b,hb⟩:=exq (w.heap.size+1);have ah:Grows (w.alloc (.cells #[.slice pa xp.length pc,.int .i64 xd,.slice sa xs.length sc,.slice ea xe.length ec] 26)) W0:=by rw[bh,bi];exact Grows.alloc _ _
 have cd:Grows w W0:=(Grows.alloc _ _).tr ah
 have hRB:lX W0 b #[.slice none 0 0,.pointer none,.slice none 0 0]:=by
  have:=TB.alloc W1 #[.slice none 0 0,.pointer none,.slice none 0 0] 31
  rw[dp,<-hb]at this;rw[bh];exact lX.zero this
 obtain⟨bc,_⟩:=bJ ah;have q0:=bc 0 _ rfl;have q1:=bc 1 _ rfl;have q2:=bc 2 _ rfl;have q3:=bc 3 _ rfl;have HSA:=Aa (ac.grows cd);have aj:w.heap.size≠b:=by omega
 have hbw:w.heap.size<=b:=by omega
 have z0:∀y:Ext (GK b) W0.drew,y.u.cell? ⟨w.heap.size,0,none⟩=some (.slice pa xp.length pc):=gQ aj ((Grows.drew W0).cell q0);have z1:∀y:Ext (GK b) W0.drew,y.u.cell? ⟨w.heap.size,1,none⟩=some (.int .i64 xd):=gQ aj ((Grows.drew W0).cell q1);have z2:∀y:Ext (GK b) W0.drew,y.u.cell? ⟨w.heap.size,2,none⟩=some (.slice sa xs.length sc):=gQ aj ((Grows.drew W0).cell q2);have z3:∀y:Ext (GK b) W0.drew,y.u.cell? ⟨w.heap.size,3,none⟩=some (.slice ea xe.length ec):=gQ aj ((Grows.drew W0).cell q3);have HB2:Hid (∀y∈xe,y.r.size<=1099511627776/\y.s.size<=1099511627776):=jk;have HB3:Hid (∀y∈xp,y.name.size<=9223372036854775807):=je;replace h70:xp.length<=70:=h70;replace jg:xe.length<=300:=jg;have CC:=λ(W:World) (h:Grows W0 W)=>Aa (zR0 ⟨xp,xd,xs,xe⟩ ⟨pa,pc,sa,sc,ea,ec⟩ W kh.out (HSA.out.grows h));unfold nM.agg nM.cells at CC;simp only at CC;have CP:=λ(W:World) (h:Grows W0 W)=>Aa (fM0 xp pa pc W (by omega) (HSA.out.p.grows h));have CM:=λ(p:Option Addr) (c:Nat) (mv:Value) (W:World) (hg:Grows W0 W) (hp:aF W p 2 (xp.map bE)) (hm:iK1 W mv (srcM ⟨xp,xd,xs,xe⟩))=>Aa (yP0 xp mv (srcM ⟨xp,xd,xs,xe⟩) xe p ea c ec W (by omega) HB3.out (by omega) HB2.out hp hm (HSA.out.e.grows hg));show Calls _ _ #[.agg #[.slice pa xp.length pc,.int .i64 xd,.slice sa xs.length sc,.slice ea xe.length ec]] _ (gP1 xp (srcM ⟨xp,xd,xs,xe⟩) xe w)
 generalize srcM ⟨xp,xd,xs,xe⟩=SM at CC CM ⊢;have HG0:=Aa cd;clear ac ag hl HB2 HB3 jk je q0 q1 q2 q3 bc ah aj;go_enter Tryz.func46,Tryz.ntmps46
 go_wp2_with fail
 rw[<-bi,<-bh,<-hb];clear bh bi cd dp hb;refine iR (GK b) (lK [0,1,3,5,6,2,4,7,8,9,10,11] [2,4,7,10]) (GK.refl b) (GK.trans b) (by kernel_rfl) (by kernel_rfl) (λd _ _ _ _ h=>by cases d<;>exact h) ?_
 iterate 5 (refine aG rfl (λK hK=>?_);go_simp;refine hK _ ?_;clear hK K)
 clear z0 z1 z2 z3;refine aY rfl rfl (λK hK=>?_);go_simp;refine((CP W0.drew (Grows.drew W0)).out).mono ?_;rintro e w5 ⟨p5,c5,rfl,hp5,bg⟩;refine⟨GK.of bg,hK _ _ ?_⟩;clear hK K;have g5:=(Grows.drew W0).tr bg;refine aY rfl rfl (λK hK=>?_);go_simp;refine((CC w5 g5).out).mono ?_;rintro e w6 ⟨mv,rfl,hm6,cp⟩;refine⟨GK.of cp,hK _ _ ?_⟩;clear hK K;have g6:=g5.tr cp;refine aY rfl rfl (λK hK=>?_);go_simp;refine((CM p5 c5 mv w6 g6 (hp5.grows cp) hm6).out).mono ?_;rintro e w7 ⟨cu,a0,n0,c0,q,a2,n2,c2,rfl,dz⟩;refine⟨GK.of cu,hK _ _ ?_⟩;clear hK K;have g7:=g6.tr cu;have HR7:=hRB.grows g7;obtain⟨v0,v1,v2,k0,k1,k2,kf⟩:=HR7.cells;have f0:=kf 0;have f1:=kf 1;have f2:=kf 2;clear CP CC CM hp5 hm6 bg cp cu g5 g6 kf;iterate 2 (refine aG rfl (λK hK=>?_);go_simp;refine hK _ ?_;clear hK K)
 refine aY rfl rfl (λK hK=>?_);go_simp;refine⟨GK.set3 _ _ _ _ _,hK _ _ ?_⟩;clear hK K;iterate 1 (refine aG rfl (λK hK=>?_);go_simp;refine hK _ ?_;clear hK K)
 refine bH ?_;have GW:=(HG0.out.tr g7).set3 hbw (.slice a0 n0 c0) (.pointer q) (.slice a2 n2 c2);have RD:=λh=>HR7.rdat3 (a0:=a0) (n0:=n0) (c0:=c0) (u2:=.slice a2 n2 c2) (fF0.pt q) (An (dz h)).2;clear f0 f1 f2;go_wp2_with fail
 refine bodyPost_ret (v:=.tuple #[.agg #[.slice a0 n0 c0,.pointer q,.slice a2 n2 c2],.int .i64 (iT xp SM xe)]) (by simp[results,Tryz.results46,go_sem,k0,k1,k2]) rfl ?_
 exact⟨GW,a0,n0,c0,q,a2,n2,c2,rfl,λh=>⟨_,(An (dz h)).1,RD h⟩⟩
end
section
open Go Go.RowKit Go.Shelf
attribute [local go_sem] aQ aM Oper.semAt_some
theorem Grows.tr_EB {w W W':World} {B:Nat} (h:Grows w W) (k:EB B W W') (hB:w.heap.size<=B):Grows w W':=Below.trans h (Below.mono k.1 hB)
theorem aN1 {w W:World} {pb:Nat} {l:List Nat} (h:lU w pb l) (hk:bP (λb=>b<w.heap.size) w W):lU W pb l :=
 tW h (X:=λ_=>False) (λk gw _=>hk k gw) (λh=>h) (λ_q h=>h.elim)
theorem vT0 (n:Nat) (hn:1<=n) (l N a b b1 b2 b3 db po:Nat) (os:List Nat) (w:World) (ev:a<=b) (hbN:b<=os.length) (hN:os.length<=1048576) (hos:∀x∈os,x<N) (hN2:N<=1048576) (J Jx:List (nJ0 N)->World->Prop)
  (hJ:∀pre V V',J pre V->Grows V V'->J pre V')
  (hY:∀pre x W,J pre W->pre.length<b-a->YieldAt Fence.wide (n-1) Tryz.prog l #[.int .i64 (x.1:Nat)] W λe W' =>
   (e=.returned (.bool true)/\J (pre++[x]) W'/\bP (λb=>b<w.heap.size) W W')\/(e=.returned (.bool false)/\Jx (pre++[x]) W'))
  (W:World) (hK0:bP (λb=>b<w.heap.size) w W) (c1:w.cell? ⟨b1,0,none⟩=some (.int .i64 a)) (c2:w.cell? ⟨b2,0,none⟩=some (.int .i64 b)) (c3:w.cell? ⟨b3,0,none⟩=some (.pointer (some ⟨db,0,none⟩))) (c4:w.cell? ⟨db,9,none⟩=some (.pointer (some ⟨po,0,none⟩))) (hp:lU w po os) (h0:J [] W) (dp:w.heap.size<=W.heap.size) :
  CallsIn Fence.wide n Tryz.prog 164 #[.func (.yield l) #[] #[],.pointer (some ⟨b1,0,none⟩),.pointer (some ⟨b2,0,none⟩),.pointer (some ⟨b3,0,none⟩)] W λe W'=>(∃v,e=.returned v) /\
   ((∃xs:List (nJ0 N),xs.map (·.1)=(os.take b).drop a/\J xs W')\/(∃pre:List (nJ0 N),True/\Jx pre W')):=by
 have k1:=Ab w _ c1;have k2:=Ab w _ c2;have k3:=Ab w _ c3;have k4:=Ab w _ c4;have c1W:=hK0.cell (p:=⟨b1,0,none⟩) k1 c1;have CN:=λ(i x:Nat) (hx:os[i]?=some x) (V:World) (hV:bP (λb=>b<w.heap.size) w V)=>Aa (lC os po i x V hN (λn h=>by have:=hos n h;omega) hx (aN1 hp hV));refine callsIn_of_wp Tryz.func164 rfl trivial ?_ rfl;simp only[Tryz.ntmps164,List.size_toArray,List.length_cons,List.length_nil,Nat.reduceAdd,Nat.reduceSub,Array.replicate_succ,Array.replicate_zero,List.push_toArray,List.append_toArray,List.nil_append,List.cons_append];gi_wp2
 gi_loopw [5] (λi wr=>∃(k:Nat) (pre:List (nJ0 N)),i=.int .i64 k/\a<=k/\k<=b/\pre.map (·.1)=(os.take k).drop a/\J pre wr/\bP (λb=>b<w.heap.size) w wr/\w.heap.size<=wr.heap.size) (λi _=>b-(intOf i).toNat)
 case atStart=>exact⟨a,[],rfl,Ah _,ev,by simp,h0,hK0,dp⟩
 case round =>
  obtain⟨k,pre,rfl,hak,oq,hpp,hJp,hK,hwz⟩:=hrel;have c2r:=hK.cell (p:=⟨b2,0,none⟩) k2 c2;have c3r:=hK.cell (p:=⟨b3,0,none⟩) k3 c3;have c4r:=hK.cell (p:=⟨db,9,none⟩) k4 c4;by_cases ae:k<b
  ·have d9:(k:Int)<b:=by omega
   obtain⟨x,hx⟩:∃x,os[k]?=some x:=⟨_,Ac (by omega)⟩
   have ml:pre.length=k-a:=by
    have:=congrArg Av hpp
    rw[Ae,Au,Am]at this;omega
   have hxN:=hos x (Af hx)
   have nl:(pre++[(⟨x,hxN⟩:nJ0 N)]).map (·.1)=(os.take (k+1)).drop a:=by
    rw[List.map_append,hpp,bI hx,List.drop_append_of_le_length (by rw[Am];omega)];rfl
   have CN1:=CN k x hx wr hK;clear hpp CN;gi_wp2
   refine⟨trivial,?_⟩;refine(callsIn_wide.2 CN1.out).mono ?_;rintro e w2 ⟨rfl,af⟩;have lr:bP (λb=>b<w.heap.size) w w2:=hK.tr (bP.of_below af (λb hb=>Nat.lt_of_lt_of_le hb hwz));have hJ2:=hJ pre wr w2 hJp af;obtain⟨fn,tmps,assign,body,hy,hR⟩:=hY pre ⟨x,hxN⟩ w2 hJ2 (by omega);dsimp only at hy
   have lu:=Ar hwz af.size;clear hJp hJ2 CN1;gi_wp2
   refine hR.mono ?_;rintro e W3 (⟨rfl,ng,ii⟩|⟨rfl,g9⟩)
   ·gi_wp2
    have hz3:w.heap.size<=W3.heap.size:=by
     have:=lr.tr ii
     apply Classical.byContradiction
     intro hc;have h5:=Ab W3 _ ((lr.tr ii).cell (p:=⟨b3,0,none⟩) k3 c3);have h6:=this (w.heap.size-1) (by omega)
     have h7:w.heap[w.heap.size-1]?≠none:=by
      rw[Ad (by omega)];simp
     rw[<-h6,Array.getElem?_eq_none (by omega)]at h7;exact h7 rfl
    go_roundw
    case rel=>exact⟨k+1,_,by go_num,by omega,ae,nl,ng,lr.tr ii,hz3⟩
    case measure=>simp[intOf];omega
   ·gi_wp2
    go_end0;exact⟨⟨_,rfl⟩,.inr ⟨_,trivial,g9⟩⟩
  ·have d9:¬(k:Int)<b:=by omega
   obtain rfl:k=b:=by omega
   gi_wp2
   refine⟨trivial,?_⟩;gi_wp2
   refine⟨λf h=>(by cases h),?_⟩;gi_wp2
   go_end0;exact⟨⟨_,rfl⟩,.inl ⟨pre,hpp,hJp⟩⟩
theorem gN0 (n N a b b1 b2 b3 db po:Nat) (os:List Nat) (w:World) (hn:1<=n) (ev:a<=b) (hbN:b<=os.length) (hN:os.length<=1048576) (hos:∀x∈os,x<N) (hN2:N<=1048576)
  (c1:w.cell? ⟨b1,0,none⟩=some (.int .i64 a)) (c2:w.cell? ⟨b2,0,none⟩=some (.int .i64 b)) (c3:w.cell? ⟨b3,0,none⟩=some (.pointer (some ⟨db,0,none⟩))) (c4:w.cell? ⟨db,9,none⟩=some (.pointer (some ⟨po,0,none⟩))) (hp:lU w po os) :
  SeqStopsK Fence.wide n Tryz.prog 164 #[.pointer (some ⟨b1,0,none⟩),.pointer (some ⟨b2,0,none⟩),.pointer (some ⟨b3,0,none⟩)] (λx:nJ0 N => #[.int .i64 (x.1:Nat)]) (bP λb=>b<w.heap.size) (λys=>ys.map (·.1)=(os.take b).drop a) (λ_=>True) (b-a) w:=by
 intro l J Jx W hW hJ _ hY h0;exact vT0 n hn l N a b b1 b2 b3 db po os w ev hbN hN hos hN2 J Jx (λpre V V' h hg=>hJ pre V V' none h hg.grownBy (λr e=>by cases e)) hY W (bP.of_below hW (λb hb=>hb)) c1 c2 c3 c4 hp h0 hW.size
theorem xT (p:List cJ) (m:Mx) (es:List En) (db id:Nat) (s:ByteArray) (w:World) (ag:cH p m es) (ac:cO w db p m es) (hs:(surfL es)[id]?=some s) :
  Calls Tryz.prog 95 #[.pointer (some ⟨db,0,none⟩),.int .i64 id] w λe w'=>∃v,e=.returned v/\aU w' w.heap.size 59 5 aJ v (ofL es s)/\Grows w w':=by
 obtain⟨a,b,hr,ev,hb,he⟩:=ag.row_s hs;have hn:=ag.len;obtain⟨pa,a1,a2⟩:=ac.a;obtain⟨po,o1,o2⟩:=ac.o;have t9:=qN es;have agt:∀x∈zW es,x<es.length:=λx hx=>gW0 hx
 have ni:(gM hU0 (gI es) es.length).length<=20000:=by
  have h1:=(dP ag.sf).2.1;rw[cG]at h1;rw[qL0,iJ];exact h1
 obtain⟨W1,bi⟩:=exq (w.alloc (.cells #[.pointer (some ⟨db,0,none⟩)] 27));have uq:Grows w W1:=by rw[bi];exact Grows.alloc _ _
 have q0:W1.cell? ⟨w.heap.size,0,none⟩=some (.pointer (some ⟨db,0,none⟩)):=by
  have:=aT w #[.pointer (some ⟨db,0,none⟩)] 27 (0,0) 0 _ rfl
  rwa [<-bi]at this
 have CL:∀u,Grows w u->Hid (Calls Tryz.prog 70 #[.pointer (some ⟨po,0,none⟩)] u λe w'=>e=.returned (.int .i64 (es.length:Nat))/\u=w'):=λu hu=>by
  have h:=gO (zW es) po u (o2.grows hu);rw[t9]at h;exact h
 have CR:=λ(u:World) (hu:Grows w u)=>Aa (yU (gM hU0 (gI es) es.length) pa es.length id a b u (by omega) (λn h=>by have:=iQ h;omega) hr (a2.grows hu))
 have CI:∀(b5 b6:Nat) (u:World),Grows w u->u.cell? ⟨b5,0,none⟩=some (.int .i64 a)->u.cell? ⟨b6,0,none⟩=some (.int .i64 b)->u.cell? ⟨w.heap.size,0,none⟩=some (.pointer (some ⟨db,0,none⟩)) ->
   Hid (Calls Tryz.prog 52 #[.pointer (some ⟨db,0,none⟩),.func (.func 164) #[] #[.pointer (some ⟨b5,0,none⟩),.pointer (some ⟨b6,0,none⟩),.pointer (some ⟨w.heap.size,0,none⟩)]] u λe w'=>∃v,e=.returned v/\aU w' u.heap.size 59 5 aJ v (ofL es s)/\Grows u w'):=λb5 b6 u hu h5 h6 h7=>by
  have e1:((zW es).take b).length=b:=by rw[Am];omega
  have e2:(((zW es).take b).drop a).length=b-a:=by rw[Au,e1]
  have h:=jG0 p m es db 164 #[.pointer (some ⟨b5,0,none⟩),.pointer (some ⟨b6,0,none⟩),.pointer (some ⟨w.heap.size,0,none⟩)] (((zW es).take b).drop a) u ag (ac.grows hu) (by omega) (enters_of Tryz.func164 (by kernel_rfl) rfl) (by
   rw[e2];exact gN0 7 es.length a b b5 b6 w.heap.size db po (zW es) u (by decide) ev (by omega) (by omega) agt (by omega) h5 h6 h7 (hu.cell o1) (o2.grows hu))
  rw[he]at h;exact h
 have z0:∀y:Ext (EB W1.heap.size) W1.drew,y.u.cell? ⟨w.heap.size,0,none⟩=some (.pointer (some ⟨db,0,none⟩)):=nC (Ab _ _ q0) ((Grows.drew W1).cell q0);have z1:∀y:Ext (EB W1.heap.size) W1.drew,y.u.cell? ⟨db,10,none⟩=some (.pointer (some ⟨pa,0,none⟩)):=nC (Ab _ _ (uq.cell a1)) ((Grows.drew W1).cell (uq.cell a1));have z2:∀y:Ext (EB W1.heap.size) W1.drew,y.u.cell? ⟨db,9,none⟩=some (.pointer (some ⟨po,0,none⟩)):=nC (Ab _ _ (uq.cell o1)) ((Grows.drew W1).cell (uq.cell o1));have CL1:∀y:Ext (EB W1.heap.size) W1.drew,Hid (Calls Tryz.prog 70 #[.pointer (some ⟨po,0,none⟩)] y.u λe w'=>e=.returned (.int .i64 (es.length:Nat))/\y.u=w'):=λy=>CL _ ((uq.tr (Grows.drew W1)).tr_EB y.h uq.size);obtain⟨N,hN⟩:=exq es.length;rw[<-hN]at CL1 CR;have HQ:=Aa q0;clear ac ag hs hr ev hb he a2 o2 t9 agt ni hn hN CL q0 a1 o1;go_enter Tryz.func95,Tryz.ntmps95
 go_wp2_with fail
 rw[<-bi];clear bi;refine xK0 (EB W1.heap.size) (.quiet 0 (.quiet 1 (.quiet 2 (.quiet 3 (.quiet 4 (.quiet 5 (.quiet 6 (.quiet 7 (.quiet 8 (.quiet 9 (.alt (.late 10 (.quiet 11 (.quiet 12 (.quiet 13 (.alt (.late 14 (.late 15 (.late 16 (.late 17 .done)))) (.late 15 (.late 14 (.late 16 (.late 17 .done))))))))) (.alt (.late 14 (.alt (.late 10 (.quiet 11 (.quiet 12 (.quiet 13 (.late 15 (.late 16 (.late 17 .done))))))) (.late 15 (.late 10 (.quiet 11 (.quiet 12 (.quiet 13 (.late 16 (.late 17 .done))))))))) (.late 15 (.alt (.late 10 (.quiet 11 (.quiet 12 (.quiet 13 (.late 14 (.late 16 (.late 17 .done))))))) (.late 14 (.late 10 (.quiet 11 (.quiet 12 (.quiet 13 (.late 16 (.late 17 .done))))))))))))))))))))) (λ(x:Nat×Nat)=>[(some 8,.pointer (some ⟨db,0,none⟩)),(some 9,.pointer (some ⟨db,0,none⟩)),(some 10,.pointer (some ⟨db,10,none⟩)),(some 11,.pointer (some ⟨pa,0,none⟩)),(some 12,.int .i64 id),(some 13,.pointer (some ⟨db,0,none⟩)),(some 14,.pointer (some ⟨db,0,none⟩)),(some 15,.pointer (some ⟨db,9,none⟩)),(some 16,.pointer (some ⟨po,0,none⟩)),(some 17,.int .i64 N),(some 18,.tuple #[.int .i64 a,.int .i64 b]),(some 7,.tuple #[.int .i64 a,.int .i64 b]),(some 19,.int .i64 a),(some 20,.int .i64 b),(some 5,.pointer (some ⟨x.1,0,none⟩)),(some 6,.pointer (some ⟨x.2,0,none⟩))]) (λ(x:Nat×Nat) w'=>w'.cell? ⟨x.1,0,none⟩=some (.int .i64 a)/\w'.cell? ⟨x.2,0,none⟩=some (.int .i64 b)/\Grows W1 w') (EB.refl W1.heap.size) (EB.trans W1.heap.size) (by kernel_rfl) (by kernel_rfl) (λd _ _ _ _ h=>by cases d<;>exact h) ?_ ?_
 ·iterate 9 (refine iC rfl (λK hK=>?_);go_simp;refine hK _ ?_;clear hK K)
  refine iC rfl (λK hK=>?_);go_simp;apply Exists.intro
  refine⟨λx=>?_,hK _ ?_⟩
  ·go_at_call 70
   exact bT (CL1 x).out
  clear hK K z0 z1 z2 CL1;have g0:=Grows.drew W1;generalize W1.drew=V0 at g0 ⊢;refine jT0 ?_ ?_
  ·refine cM rfl rfl (λK hK=>?_)
   go_simp;refine(CR V0 (uq.tr g0)).out.mono ?_;rintro e u1 ⟨rfl,ah⟩;have g1:=g0.tr ah;refine⟨EB.of ah g0.size,hK _ _ ?_⟩;clear hK K ah;iterate 3 (refine iC rfl (λK hK=>?_);go_simp;refine hK _ ?_;clear hK K)
   refine jT0 ?_ ?_
   ·refine cM rfl rfl (λK hK=>?_)
    go_simp;have af:=Grows.alloc u1 (.cells #[.int .i64 0] 3);have T5:=TB.alloc u1 #[.int .i64 0] 3;have g2:=g1.tr af;obtain⟨b5,gi⟩:∃b,b=u1.heap.size:=⟨_,rfl⟩;have l5:W1.heap.size<=b5:=by rw[gi];exact g1.size
    refine⟨EB.of af g1.size,hK _ _ ?_⟩;clear hK K;generalize u1.alloc (.cells #[.int .i64 0] 3)=u2 at *;rw[<-gi]at T5 ⊢;clear gi;have k5:=T5.lt;refine cM rfl rfl (λK hK=>?_);go_simp;have ax:=Grows.alloc u2 (.cells #[.int .i64 0] 3);have T6:=TB.alloc u2 #[.int .i64 0] 3;replace T5:=T5.gr ax;have g3:=g2.tr ax;obtain⟨b6,j4⟩:∃b,b=u2.heap.size:=⟨_,rfl⟩;have l6:W1.heap.size<=b6:=by rw[j4];exact g2.size
    refine⟨EB.of ax g2.size,hK _ _ ?_⟩;clear hK K;have aj:b5≠b6:=by rw[j4];exact As k5
    generalize u2.alloc (.cells #[.int .i64 0] 3)=u3 at *;rw[<-j4]at T6 ⊢;clear j4;have k5:=T5.lt;have k6:=T6.lt;have c5:=T5.cell (o:=0) rfl;have f5:=T5.froz 0;refine cM rfl rfl (λK hK=>?_);go_simp;refine⟨EB.set1 l5 _,hK _ _ ?_⟩;clear hK K c5 f5;replace g3:=g3.set (p:=⟨b5,0,none⟩) l5 (.int .i64 a);have T6':=T6.keepN (aK u3 b5 0 (.int .i64 a)) (by simpa using aj);have T5':=T5.set 0 (.int .i64 a);have c6:=T6'.cell (o:=0) rfl;have f6:=T6'.froz 0;refine cM rfl rfl (λK hK=>?_);go_simp;refine⟨EB.set1 l6 _,hK _ _ ?_⟩;clear hK K c6 f6;replace g3:=g3.set (p:=⟨b6,0,none⟩) l6 (.int .i64 b);have T5'':=T5'.keepN (aK _ b6 0 (.int .i64 b)) (by simpa using Ne.symm aj);have T6'':=T6'.set 0 (.int .i64 b);refine zK ?_;exact⟨(b5,b6),⟨T5''.cell rfl,T6''.cell rfl,g3⟩,by simp only[lC0,Ai];go_simp⟩
   ·refine cM rfl rfl (λK hK=>?_)
    go_simp;have af:=Grows.alloc u1 (.cells #[.int .i64 0] 3);have T6:=TB.alloc u1 #[.int .i64 0] 3;have g2:=g1.tr af;obtain⟨b6,j4⟩:∃b,b=u1.heap.size:=⟨_,rfl⟩;have l6:W1.heap.size<=b6:=by rw[j4];exact g1.size
    refine⟨EB.of af g1.size,hK _ _ ?_⟩;clear hK K;generalize u1.alloc (.cells #[.int .i64 0] 3)=u2 at *;rw[<-j4]at T6 ⊢;clear j4;have k6:=T6.lt;refine cM rfl rfl (λK hK=>?_);go_simp;have ax:=Grows.alloc u2 (.cells #[.int .i64 0] 3);have T5:=TB.alloc u2 #[.int .i64 0] 3;replace T6:=T6.gr ax;have g3:=g2.tr ax;obtain⟨b5,gi⟩:∃b,b=u2.heap.size:=⟨_,rfl⟩;have l5:W1.heap.size<=b5:=by rw[gi];exact g2.size
    refine⟨EB.of ax g2.size,hK _ _ ?_⟩;clear hK K;have aj:b5≠b6:=by rw[gi];exact At k6
    generalize u2.alloc (.cells #[.int .i64 0] 3)=u3 at *;rw[<-gi]at T5 ⊢;clear gi;have k6:=T6.lt;have k5:=T5.lt;have c5:=T5.cell (o:=0) rfl;have f5:=T5.froz 0;refine cM rfl rfl (λK hK=>?_);go_simp;refine⟨EB.set1 l5 _,hK _ _ ?_⟩;clear hK K c5 f5;replace g3:=g3.set (p:=⟨b5,0,none⟩) l5 (.int .i64 a);have T6':=T6.keepN (aK u3 b5 0 (.int .i64 a)) (by simpa using aj);have T5':=T5.set 0 (.int .i64 a);have c6:=T6'.cell (o:=0) rfl;have f6:=T6'.froz 0;refine cM rfl rfl (λK hK=>?_);go_simp;refine⟨EB.set1 l6 _,hK _ _ ?_⟩;clear hK K c6 f6;replace g3:=g3.set (p:=⟨b6,0,none⟩) l6 (.int .i64 b);have T5'':=T5'.keepN (aK _ b6 0 (.int .i64 b)) (by simpa using Ne.symm aj);have T6'':=T6'.set 0 (.int .i64 b);refine zK ?_;exact⟨(b5,b6),⟨T5''.cell rfl,T6''.cell rfl,g3⟩,by simp only[lC0,Ai];go_simp⟩
  ·refine jT0 ?_ ?_
   ·refine cM rfl rfl (λK hK=>?_)
    go_simp;have ah:=Grows.alloc V0 (.cells #[.int .i64 0] 3);have T5:=TB.alloc V0 #[.int .i64 0] 3;have g1:=g0.tr ah;obtain⟨b5,gi⟩:∃b,b=V0.heap.size:=⟨_,rfl⟩;have l5:W1.heap.size<=b5:=by rw[gi];exact g0.size
    refine⟨EB.of ah g0.size,hK _ _ ?_⟩;clear hK K;generalize V0.alloc (.cells #[.int .i64 0] 3)=u1 at *;rw[<-gi]at T5 ⊢;clear gi;have k5:=T5.lt;refine jT0 ?_ ?_
    ·refine cM rfl rfl (λK hK=>?_)
     go_simp;refine(CR u1 (uq.tr g1)).out.mono ?_;rintro e u2 ⟨rfl,af⟩;have g2:=g1.tr af;replace T5:=T5.gr af;refine⟨EB.of af g1.size,hK _ _ ?_⟩;clear hK K af;iterate 3 (refine iC rfl (λK hK=>?_);go_simp;refine hK _ ?_;clear hK K)
     have k5:=T5.lt;refine cM rfl rfl (λK hK=>?_);go_simp;have ax:=Grows.alloc u2 (.cells #[.int .i64 0] 3);have T6:=TB.alloc u2 #[.int .i64 0] 3;replace T5:=T5.gr ax;have g3:=g2.tr ax;obtain⟨b6,j4⟩:∃b,b=u2.heap.size:=⟨_,rfl⟩;have l6:W1.heap.size<=b6:=by rw[j4];exact g2.size
     refine⟨EB.of ax g2.size,hK _ _ ?_⟩;clear hK K;have aj:b5≠b6:=by rw[j4];exact As k5
     generalize u2.alloc (.cells #[.int .i64 0] 3)=u3 at *;rw[<-j4]at T6 ⊢;clear j4;have k5:=T5.lt;have k6:=T6.lt;have c5:=T5.cell (o:=0) rfl;have f5:=T5.froz 0;refine cM rfl rfl (λK hK=>?_);go_simp;refine⟨EB.set1 l5 _,hK _ _ ?_⟩;clear hK K c5 f5;replace g3:=g3.set (p:=⟨b5,0,none⟩) l5 (.int .i64 a);have T6':=T6.keepN (aK u3 b5 0 (.int .i64 a)) (by simpa using aj);have T5':=T5.set 0 (.int .i64 a);have c6:=T6'.cell (o:=0) rfl;have f6:=T6'.froz 0;refine cM rfl rfl (λK hK=>?_);go_simp;refine⟨EB.set1 l6 _,hK _ _ ?_⟩;clear hK K c6 f6;replace g3:=g3.set (p:=⟨b6,0,none⟩) l6 (.int .i64 b);have T5'':=T5'.keepN (aK _ b6 0 (.int .i64 b)) (by simpa using Ne.symm aj);have T6'':=T6'.set 0 (.int .i64 b);refine zK ?_;exact⟨(b5,b6),⟨T5''.cell rfl,T6''.cell rfl,g3⟩,by simp only[lC0,Ai];go_simp⟩
    ·refine cM rfl rfl (λK hK=>?_)
     go_simp;have af:=Grows.alloc u1 (.cells #[.int .i64 0] 3);have T6:=TB.alloc u1 #[.int .i64 0] 3;replace T5:=T5.gr af;have g2:=g1.tr af;obtain⟨b6,j4⟩:∃b,b=u1.heap.size:=⟨_,rfl⟩;have l6:W1.heap.size<=b6:=by rw[j4];exact g1.size
     refine⟨EB.of af g1.size,hK _ _ ?_⟩;clear hK K;have aj:b5≠b6:=by rw[j4];exact As k5
     generalize u1.alloc (.cells #[.int .i64 0] 3)=u2 at *;rw[<-j4]at T6 ⊢;clear j4;have k5:=T5.lt;have k6:=T6.lt;refine cM rfl rfl (λK hK=>?_);go_simp;refine(CR u2 (uq.tr g2)).out.mono ?_;rintro e u3 ⟨rfl,ax⟩;have g3:=g2.tr ax;replace T5:=T5.gr ax;replace T6:=T6.gr ax;refine⟨EB.of ax g2.size,hK _ _ ?_⟩;clear hK K ax;iterate 3 (refine iC rfl (λK hK=>?_);go_simp;refine hK _ ?_;clear hK K)
     have k5:=T5.lt;have k6:=T6.lt;have c5:=T5.cell (o:=0) rfl;have f5:=T5.froz 0;refine cM rfl rfl (λK hK=>?_);go_simp;refine⟨EB.set1 l5 _,hK _ _ ?_⟩;clear hK K c5 f5;replace g3:=g3.set (p:=⟨b5,0,none⟩) l5 (.int .i64 a);have T6':=T6.keepN (aK u3 b5 0 (.int .i64 a)) (by simpa using aj);have T5':=T5.set 0 (.int .i64 a);have c6:=T6'.cell (o:=0) rfl;have f6:=T6'.froz 0;refine cM rfl rfl (λK hK=>?_);go_simp;refine⟨EB.set1 l6 _,hK _ _ ?_⟩;clear hK K c6 f6;replace g3:=g3.set (p:=⟨b6,0,none⟩) l6 (.int .i64 b);have T5'':=T5'.keepN (aK _ b6 0 (.int .i64 b)) (by simpa using Ne.symm aj);have T6'':=T6'.set 0 (.int .i64 b);refine zK ?_;exact⟨(b5,b6),⟨T5''.cell rfl,T6''.cell rfl,g3⟩,by simp only[lC0,Ai];go_simp⟩
   ·refine cM rfl rfl (λK hK=>?_)
    go_simp;have ah:=Grows.alloc V0 (.cells #[.int .i64 0] 3);have T6:=TB.alloc V0 #[.int .i64 0] 3;have g1:=g0.tr ah;obtain⟨b6,j4⟩:∃b,b=V0.heap.size:=⟨_,rfl⟩;have l6:W1.heap.size<=b6:=by rw[j4];exact g0.size
    refine⟨EB.of ah g0.size,hK _ _ ?_⟩;clear hK K;generalize V0.alloc (.cells #[.int .i64 0] 3)=u1 at *;rw[<-j4]at T6 ⊢;clear j4;have k6:=T6.lt;refine jT0 ?_ ?_
    ·refine cM rfl rfl (λK hK=>?_)
     go_simp;refine(CR u1 (uq.tr g1)).out.mono ?_;rintro e u2 ⟨rfl,af⟩;have g2:=g1.tr af;replace T6:=T6.gr af;refine⟨EB.of af g1.size,hK _ _ ?_⟩;clear hK K af;iterate 3 (refine iC rfl (λK hK=>?_);go_simp;refine hK _ ?_;clear hK K)
     have k6:=T6.lt;refine cM rfl rfl (λK hK=>?_);go_simp;have ax:=Grows.alloc u2 (.cells #[.int .i64 0] 3);have T5:=TB.alloc u2 #[.int .i64 0] 3;replace T6:=T6.gr ax;have g3:=g2.tr ax;obtain⟨b5,gi⟩:∃b,b=u2.heap.size:=⟨_,rfl⟩;have l5:W1.heap.size<=b5:=by rw[gi];exact g2.size
     refine⟨EB.of ax g2.size,hK _ _ ?_⟩;clear hK K;have aj:b5≠b6:=by rw[gi];exact At k6
     generalize u2.alloc (.cells #[.int .i64 0] 3)=u3 at *;rw[<-gi]at T5 ⊢;clear gi;have k6:=T6.lt;have k5:=T5.lt;have c5:=T5.cell (o:=0) rfl;have f5:=T5.froz 0;refine cM rfl rfl (λK hK=>?_);go_simp;refine⟨EB.set1 l5 _,hK _ _ ?_⟩;clear hK K c5 f5;replace g3:=g3.set (p:=⟨b5,0,none⟩) l5 (.int .i64 a);have T6':=T6.keepN (aK u3 b5 0 (.int .i64 a)) (by simpa using aj);have T5':=T5.set 0 (.int .i64 a);have c6:=T6'.cell (o:=0) rfl;have f6:=T6'.froz 0;refine cM rfl rfl (λK hK=>?_);go_simp;refine⟨EB.set1 l6 _,hK _ _ ?_⟩;clear hK K c6 f6;replace g3:=g3.set (p:=⟨b6,0,none⟩) l6 (.int .i64 b);have T5'':=T5'.keepN (aK _ b6 0 (.int .i64 b)) (by simpa using Ne.symm aj);have T6'':=T6'.set 0 (.int .i64 b);refine zK ?_;exact⟨(b5,b6),⟨T5''.cell rfl,T6''.cell rfl,g3⟩,by simp only[lC0,Ai];go_simp⟩
    ·refine cM rfl rfl (λK hK=>?_)
     go_simp;have af:=Grows.alloc u1 (.cells #[.int .i64 0] 3);have T5:=TB.alloc u1 #[.int .i64 0] 3;replace T6:=T6.gr af;have g2:=g1.tr af;obtain⟨b5,gi⟩:∃b,b=u1.heap.size:=⟨_,rfl⟩;have l5:W1.heap.size<=b5:=by rw[gi];exact g1.size
     refine⟨EB.of af g1.size,hK _ _ ?_⟩;clear hK K;have aj:b5≠b6:=by rw[gi];exact At k6
     generalize u1.alloc (.cells #[.int .i64 0] 3)=u2 at *;rw[<-gi]at T5 ⊢;clear gi;have k6:=T6.lt;have k5:=T5.lt;refine cM rfl rfl (λK hK=>?_);go_simp;refine(CR u2 (uq.tr g2)).out.mono ?_;rintro e u3 ⟨rfl,ax⟩;have g3:=g2.tr ax;replace T6:=T6.gr ax;replace T5:=T5.gr ax;refine⟨EB.of ax g2.size,hK _ _ ?_⟩;clear hK K ax;iterate 3 (refine iC rfl (λK hK=>?_);go_simp;refine hK _ ?_;clear hK K)
     have k6:=T6.lt;have k5:=T5.lt;have c5:=T5.cell (o:=0) rfl;have f5:=T5.froz 0;refine cM rfl rfl (λK hK=>?_);go_simp;refine⟨EB.set1 l5 _,hK _ _ ?_⟩;clear hK K c5 f5;replace g3:=g3.set (p:=⟨b5,0,none⟩) l5 (.int .i64 a);have T6':=T6.keepN (aK u3 b5 0 (.int .i64 a)) (by simpa using aj);have T5':=T5.set 0 (.int .i64 a);have c6:=T6'.cell (o:=0) rfl;have f6:=T6'.froz 0;refine cM rfl rfl (λK hK=>?_);go_simp;refine⟨EB.set1 l6 _,hK _ _ ?_⟩;clear hK K c6 f6;replace g3:=g3.set (p:=⟨b6,0,none⟩) l6 (.int .i64 b);have T5'':=T5'.keepN (aK _ b6 0 (.int .i64 b)) (by simpa using Ne.symm aj);have T6'':=T6'.set 0 (.int .i64 b);refine zK ?_;exact⟨(b5,b6),⟨T5''.cell rfl,T6''.cell rfl,g3⟩,by simp only[lC0,Ai];go_simp⟩
 ·rintro⟨b5,b6⟩ w2 ⟨h5,h6,af⟩
  have q2:=af.cell HQ.out;have hmf:∀(fn:Fn) (first cap:Array Value) (w:World),(Instr.makeFunc fn first cap).run Tryz.prog w=.ok (.func fn first cap) w:=λ_ _ _ _=>rfl
  have CI2:=CI b5 b6 w2 (uq.tr af) h5 h6 q2;have gw2:=uq.tr af;clear CI CR;simp only[lC0,Ai];go_wp2_with fail
  refine CI2.out.mono ?_;rintro e w3 ⟨v,rfl,hv,ax⟩;go_wp2_with fail
  go_ret;exact⟨v,rfl,hv.base gw2.size,gw2.tr ax⟩
end
section
open Go Go.RowKit Go.Shelf
attribute [local go_sem] aQ aM
theorem dY0 (p:List cJ) (m:Mx) (es:List En) (db:Nat) (s:ByteArray) (w:World) (ag:cH p m es) (hs:s.size<=140737488355328) (ac:cO w db p m es) :
  Calls Tryz.prog 16 #[.pointer (some ⟨db,0,none⟩),.string s] w λe w'=>∃v,e=.returned v/\aU w' w.heap.size 59 5 aJ v (exactL es s)/\Grows w w':=by
 obtain⟨okR,lR,cR⟩:=dP ag.rd;obtain⟨tr,r1,r2⟩:=ac.r;have CF:=Aa (kB0 (bls (readL es)) tr s w okR lR cR (by omega) r2);have hfe:=wC0 (es:=es) okR s;by_cases hm:s∈readL es
 ·obtain⟨j,hj⟩:=List.mem_iff_getElem?.1 hm
  rw[okR.findT_of (mO hj)]at CF;have CR:=λ(u:World) (hu:Grows w u)=>Aa (iL0 p m es db j s u ag (ac.grows hu) hj);clear ac ag okR lR cR r2 hfe hm hj;go_enter Tryz.func16,Tryz.ntmps16
  go_wp2_with fail
  refine CF.out.mono ?_;rintro e w1 ⟨rfl,ah⟩;go_wp2_with fail
  refine(CR w1 ah).out.mono ?_;rintro e w2 ⟨v,rfl,hv,af⟩;go_wp2
  go_ret;exact⟨v,rfl,hv.base ah.size,ah.tr af⟩
 ·have qn:jI (bls (readL es)) (bl s)=(0,false):=mD λhc=>hm (by have:=pU.1 hc;rwa [show mkB (bl s)=s from kD s]at this)
  rw[qn]at CF hfe;rw[hfe];clear ac ag okR lR cR r2 hfe hm qn;go_enter Tryz.func16,Tryz.ntmps16
  go_wp2_with fail
  refine CF.out.mono ?_;rintro e w1 ⟨rfl,ah⟩;go_wp2
  go_ret;exact⟨_,rfl,aU.nil _ _ _ _ _,ah⟩
theorem iQ1 (p:List cJ) (m:Mx) (es:List En) (db:Nat) (s:ByteArray) (w:World) (ag:cH p m es) (hs:s.size<=140737488355328) (ac:cO w db p m es) :
  Calls Tryz.prog 29 #[.pointer (some ⟨db,0,none⟩),.string s] w λe w'=>∃v,e=.returned v/\aU w' w.heap.size 59 5 aJ v (ofL es s)/\Grows w w':=by
 obtain⟨okR,lR,cR⟩:=dP ag.sf;obtain⟨tr,r1,r2⟩:=ac.s;have CF:=Aa (kB0 (bls (surfL es)) tr s w okR lR cR (by omega) r2);have hfe:=kB1 (es:=es) okR s;by_cases hm:s∈surfL es
 ·obtain⟨j,hj⟩:=List.mem_iff_getElem?.1 hm
  rw[okR.findT_of (mO hj)]at CF;have CR:=λ(u:World) (hu:Grows w u)=>Aa (xT p m es db j s u ag (ac.grows hu) hj);clear ac ag okR lR cR r2 hfe hm hj;go_enter Tryz.func29,Tryz.ntmps29
  go_wp2_with fail
  refine CF.out.mono ?_;rintro e w1 ⟨rfl,ah⟩;go_wp2_with fail
  refine(CR w1 ah).out.mono ?_;rintro e w2 ⟨v,rfl,hv,af⟩;go_wp2
  go_ret;exact⟨v,rfl,hv.base ah.size,ah.tr af⟩
 ·have qn:jI (bls (surfL es)) (bl s)=(0,false):=mD λhc=>hm (by have:=pU.1 hc;rwa [show mkB (bl s)=s from kD s]at this)
  rw[qn]at CF hfe;rw[hfe];clear ac ag okR lR cR r2 hfe hm qn;go_enter Tryz.func29,Tryz.ntmps29
  go_wp2_with fail
  refine CF.out.mono ?_;rintro e w1 ⟨rfl,ah⟩;go_wp2
  go_ret;exact⟨_,rfl,aU.nil _ _ _ _ _,ah⟩
theorem uB (p:List cJ) (m:Mx) (es:List En) (db:Nat) (s:ByteArray) (w:World) (ag:cH p m es) (hs:s.size<=140737488355328) (ac:cO w db p m es) :
  Calls Tryz.prog 18 #[.pointer (some ⟨db,0,none⟩),.string s] w λe w'=>∃v,e=.returned v/\aU w' w.heap.size 59 5 aJ v (prefL es s)/\Grows w w':=by
 obtain⟨okR,lR,cR⟩:=dP ag.rd;obtain⟨tr,r1,r2⟩:=ac.r;have hn:=ag.len;have CF:=Aa (uG (bls (readL es)) tr s w okR lR cR (by omega) r2);rw[xO0 okR];have HM:=λq hq=>Aa (cL0 (L:=bls (readL es)) (s:=bl s) (q:=q) (n:=s.size) hq);have fo:=okR.hits_256 (s:=bl s) (n:=s.size) (by rw[dB];exact Ah _);generalize hitsL (bls (readL es)) (bl s) s.size=H at CF HM fo ⊢
 have CR:∀q∈H,∀u,Grows w u->Hid (Calls Tryz.prog 48 #[.pointer (some ⟨db,0,none⟩),.int .i64 (q.1:Nat)] u λe w'=>∃v,e=.returned v/\aU w' u.heap.size 59 5 aJ v (exactL es ((readL es).getD q.1 ⟨#[]⟩))/\Grows u w'):=λq hq u hu=>by
  have h1:=(HM q hq).out.1;rw[cG]at h1;exact iL0 p m es db q.1 _ u ag (ac.grows hu) (by rw[Ag,Ac h1];rfl)
 have HLEN:Hid (∀t,(exactL es t).length<=20000):=λt=>Ar (Ao _ _) hn;obtain⟨f,hf⟩:∃f:Nat×Nat->List En,f=λq=>exactL es ((readL es).getD q.1 ⟨#[]⟩):=⟨_,rfl⟩
 have CR2:∀q∈H,∀u,Grows w u->Hid (Calls Tryz.prog 48 #[.pointer (some ⟨db,0,none⟩),.int .i64 (q.1:Nat)] u λe w'=>∃v,e=.returned v/\aU w' u.heap.size 59 5 aJ v (f q)/\Grows u w'):=λq hq u hu=>by
  rw[hf];exact CR q hq u hu
 have HL2:Hid (∀q,(f q).length<=20000):=λq=>by rw[hf];exact HLEN.out _
 rw[<-hf];clear ac ag okR lR cR r2 HM CR HLEN hf hn;go_enter Tryz.func18,Tryz.ntmps18
 go_wp2_with fail
 refine CF.out.mono ?_;rintro e w1 ⟨v1,rfl,gj,ah⟩;obtain⟨a1,c1,rfl,_,_,ct⟩:=gj.at_ yG0.len;have HAT:=Aa ct;have G1:=Aa ah;clear CF gj ct ah;go_wp2_with fail
 go_loopw [5,17] (λv i wr=>∃(k:Nat),k<=H.length/\i=.int .i64 k/\Hid (aU wr w1.heap.size 59 5 aJ v ((H.take k).flatMap f)/\((H.take k).flatMap f).length<=k*20000)/\Hid (Grows w1 wr)) (λ_ i _=>H.length-(intOf i).toNat)
 case atStart=>exact⟨0,Aj _,rfl,⟨aU.nil _ _ _ _ _,Aj _⟩,Grows.refl _⟩
 case round =>
  obtain⟨k,hk,rfl,hO,hg⟩:=hrel;by_cases ae:k<H.length
  ·obtain⟨⟨id,ln⟩,hx⟩:∃x,H[k]?=some x:=⟨_,Ac ae⟩
   obtain⟨ba,oa,rfl,be⟩:=(HAT.out.grows hg.out).get (aH ae);have c0:wr.cell? ⟨ba,oa+k*2,none⟩=some (.int .i64 id):=be k _ hx 0 _ rfl;have c1':wr.cell? ⟨ba,oa+k*2+1,none⟩=some (.int .i64 ln):=be k _ hx 1 _ rfl;have dg:(k:Int)<H.length:=by omega
   obtain⟨W2,fx⟩:=exq (wr.alloc (.cells #[.int .i64 id,.int .i64 ln] 85));have af:Grows wr W2:=by rw[fx];exact Grows.alloc _ _
   have b0:=aT wr #[.int .i64 id,.int .i64 ln] 85 (0,0) 0 _ rfl;have g12:=hg.out.tr af;have CR1:=CR2 (id,ln) (Af hx) W2 (G1.out.tr g12)
   have HT:Hid ((H.take k).flatMap f++f (id,ln)=(H.take (k+1)).flatMap f):=by
    show _=_
    rw[bI hx,Ap];simp
   have hlf:=HL2.out (id,ln);have de:=hO.out.1.grows af;have m8:=hO.out.2;generalize (H.take k).flatMap f=bv at de m8 HT;generalize f (id,ln)=news at CR1 HT hlf;have aio:k<=1048576:=by omega
   clear be hx hO CR2;go_wp2_with fail
   rw[<-fx];clear fx b0;refine CR1.out.mono ?_;rintro e w3 ⟨v3,rfl,j5,ax⟩;obtain⟨a3,c3,rfl,_,_,ei⟩:=j5.at_ dR.len;have qh:=bN j5;have g13:=g12.tr ax;have hO3:=de.grows ax;clear j5 CR1 de;go_wp2_with (at_builtin;refine kX dR rfl _ _ rfl w1.heap.size _ bv news rfl hO3 (Grows.refl _) a3 c3 rfl ei qh (by omega) g13.size ?_;intro v7 w7 hO7 hk7 vp oc)
   have cu:=oc w1 g13 (Ah _);go_wp2_with fail
   go_roundw
   case rel=>exact⟨k+1,ae,by go_num,⟨by rw[<-HT.out];exact hO7,by rw[<-HT.out,Aq];omega⟩,cu⟩
   case measure=>simp[intOf];omega
  ·obtain rfl:k=H.length:=by omega
   have de:=hO.out.1;rw[Al]at de;go_wp2_with fail
   go_ret;exact⟨_,rfl,de.base G1.out.size,G1.out.tr hg.out⟩
theorem bC0 (p:List cJ) (m:Mx) (es:List En) (db:Nat) (s:ByteArray) (w:World) (ag:cH p m es) (hs:s.size<=140737488355328) (ac:cO w db p m es) :
  Calls Tryz.prog 31 #[.pointer (some ⟨db,0,none⟩),.string s] w λe w'=>∃v,e=.returned v/\aU w' w.heap.size 59 5 aJ v (writesL es s)/\Grows w w':=by
 obtain⟨okR,lR,cR⟩:=dP ag.sf;obtain⟨tr,r1,r2⟩:=ac.s;have hn:=ag.len;have CF:=Aa (uG (bls (surfL es)) tr s w okR lR cR (by omega) r2);rw[mJ0 okR];have HM:=λq hq=>Aa (cL0 (L:=bls (surfL es)) (s:=bl s) (q:=q) (n:=s.size) hq);have fo:=okR.hits_256 (s:=bl s) (n:=s.size) (by rw[dB];exact Ah _);generalize hitsL (bls (surfL es)) (bl s) s.size=H at CF HM fo ⊢
 have CR:∀q∈H,∀u,Grows w u->Hid (Calls Tryz.prog 95 #[.pointer (some ⟨db,0,none⟩),.int .i64 (q.1:Nat)] u λe w'=>∃v,e=.returned v/\aU w' u.heap.size 59 5 aJ v (ofL es ((surfL es).getD q.1 ⟨#[]⟩))/\Grows u w'):=λq hq u hu=>by
  have h1:=(HM q hq).out.1;rw[cG]at h1;exact xT p m es db q.1 _ u ag (ac.grows hu) (by rw[Ag,Ac h1];rfl)
 have HLEN:Hid (∀t,(ofL es t).length<=20000):=λt=>Ar (Ao _ _) hn;obtain⟨f,hf⟩:∃f:Nat×Nat->List En,f=λq=>ofL es ((surfL es).getD q.1 ⟨#[]⟩):=⟨_,rfl⟩
 have CR2:∀q∈H,∀u,Grows w u->Hid (Calls Tryz.prog 95 #[.pointer (some ⟨db,0,none⟩),.int .i64 (q.1:Nat)] u λe w'=>∃v,e=.returned v/\aU w' u.heap.size 59 5 aJ v (f q)/\Grows u w'):=λq hq u hu=>by
  rw[hf];exact CR q hq u hu
 have HL2:Hid (∀q,(f q).length<=20000):=λq=>by rw[hf];exact HLEN.out _
 rw[<-hf];clear ac ag okR lR cR r2 HM CR HLEN hf hn;go_enter Tryz.func31,Tryz.ntmps31
 go_wp2_with fail
 refine CF.out.mono ?_;rintro e w1 ⟨v1,rfl,gj,ah⟩;obtain⟨a1,c1,rfl,_,_,ct⟩:=gj.at_ yG0.len;have HAT:=Aa ct;have G1:=Aa ah;clear CF gj ct ah;go_wp2_with fail
 go_loopw [5,17] (λv i wr=>∃(k:Nat),k<=H.length/\i=.int .i64 k/\Hid (aU wr w1.heap.size 59 5 aJ v ((H.take k).flatMap f)/\((H.take k).flatMap f).length<=k*20000)/\Hid (Grows w1 wr)) (λ_ i _=>H.length-(intOf i).toNat)
 case atStart=>exact⟨0,Aj _,rfl,⟨aU.nil _ _ _ _ _,Aj _⟩,Grows.refl _⟩
 case round =>
  obtain⟨k,hk,rfl,hO,hg⟩:=hrel;by_cases ae:k<H.length
  ·obtain⟨⟨id,ln⟩,hx⟩:∃x,H[k]?=some x:=⟨_,Ac ae⟩
   obtain⟨ba,oa,rfl,be⟩:=(HAT.out.grows hg.out).get (aH ae);have c0:wr.cell? ⟨ba,oa+k*2,none⟩=some (.int .i64 id):=be k _ hx 0 _ rfl;have c1':wr.cell? ⟨ba,oa+k*2+1,none⟩=some (.int .i64 ln):=be k _ hx 1 _ rfl;have dg:(k:Int)<H.length:=by omega
   obtain⟨W2,fx⟩:=exq (wr.alloc (.cells #[.int .i64 id,.int .i64 ln] 85));have af:Grows wr W2:=by rw[fx];exact Grows.alloc _ _
   have b0:=aT wr #[.int .i64 id,.int .i64 ln] 85 (0,0) 0 _ rfl;have g12:=hg.out.tr af;have CR1:=CR2 (id,ln) (Af hx) W2 (G1.out.tr g12)
   have HT:Hid ((H.take k).flatMap f++f (id,ln)=(H.take (k+1)).flatMap f):=by
    show _=_
    rw[bI hx,Ap];simp
   have hlf:=HL2.out (id,ln);have de:=hO.out.1.grows af;have m8:=hO.out.2;generalize (H.take k).flatMap f=bv at de m8 HT;generalize f (id,ln)=news at CR1 HT hlf;have aio:k<=1048576:=by omega
   clear be hx hO CR2;go_wp2_with fail
   rw[<-fx];clear fx b0;refine CR1.out.mono ?_;rintro e w3 ⟨v3,rfl,j5,ax⟩;obtain⟨a3,c3,rfl,_,_,ei⟩:=j5.at_ dR.len;have qh:=bN j5;have g13:=g12.tr ax;have hO3:=de.grows ax;clear j5 CR1 de;go_wp2_with (at_builtin;refine kX dR rfl _ _ rfl w1.heap.size _ bv news rfl hO3 (Grows.refl _) a3 c3 rfl ei qh (by omega) g13.size ?_;intro v7 w7 hO7 hk7 vp oc)
   have cu:=oc w1 g13 (Ah _);go_wp2_with fail
   go_roundw
   case rel=>exact⟨k+1,ae,by go_num,⟨by rw[<-HT.out];exact hO7,by rw[<-HT.out,Aq];omega⟩,cu⟩
   case measure=>simp[intOf];omega
  ·obtain rfl:k=H.length:=by omega
   have de:=hO.out.1;rw[Al]at de;go_wp2_with fail
   go_ret;exact⟨_,rfl,de.base G1.out.size,G1.out.tr hg.out⟩
theorem fU0 (p:List cJ) (m:Mx) (es:List En) (db:Nat) (w:World) (ac:cO w db p m es) :
  Calls Tryz.prog 24 #[.pointer (some ⟨db,0,none⟩)] w λe w'=>e=.returned (.int .i64 (es.length:Nat))/\w=w':=by
 obtain⟨pi,i1,i2⟩:=ac.i;have h:=gO (es.map (yE (surfL es))) pi w i2;rw[Ae]at h;have CL:=Aa h;generalize es.length=N at CL ⊢;clear ac i2 h;go_enter Tryz.func24,Tryz.ntmps24
 go_wp2_with fail
 refine CL.out.mono ?_;rintro e w1 ⟨rfl,rfl⟩;go_wp2
 go_ret;exact⟨rfl,rfl⟩
theorem wZ0 (p:List cJ) (m:Mx) (es:List En) (db:Nat) (w:World) (ac:cO w db p m es) :
  Calls Tryz.prog 25 #[.pointer (some ⟨db,0,none⟩)] w λe w'=>e=.returned (.int .i64 (p.length:Nat))/\w=w':=by
 obtain⟨vP,p1,p2⟩:=ac.p;obtain⟨aP,cP,rfl,_,_,_⟩:=p2.at_ uU.len;clear ac p2;generalize p.length=N at p1 ⊢;go_enter Tryz.func25,Tryz.ntmps25
 go_wp2_with fail
 go_ret;exact⟨rfl,rfl⟩
theorem iQ0 (p:List cJ) (m:Mx) (es:List En) (db:Nat) (r l:Int) (w:World) (ac:cO w db p m es) :
  Calls Tryz.prog 38 #[.pointer (some ⟨db,0,none⟩),.int .i64 r,.int .i64 l] w λe w'=>e=.returned (.int .i64 (m.cost (r,l)))/\w=w':=by
 obtain⟨mb,bm,m1,m2⟩:=ac.m;have CC:=Aa (fU1 w mb bm m m2 r l);clear ac m2;go_enter Tryz.func38,Tryz.ntmps38
 go_wp2_with fail
 refine CC.out.mono ?_;rintro e w1 ⟨rfl,rfl⟩;go_wp2
 go_ret;exact⟨rfl,rfl⟩
theorem jN0 (p:List cJ) (m:Mx) (es:List En) (db:Nat) (id:Int) (w:World) (ac:cO w db p m es) :
  Calls Tryz.prog 40 #[.pointer (some ⟨db,0,none⟩),.int .i64 id] w λe w'=>e=.returned (.int .i64 (kindP p id))/\w=w':=by
 obtain⟨vP,p1,p2⟩:=ac.p;obtain⟨aP,cP,rfl,_,_,ad2⟩:=p2.at_ uU.len;clear ac p2;by_cases h1:id<0
 ·have hk:kindP p id=0:=if_pos (Or.inl h1)
  rw[hk];clear hk ad2;go_enter Tryz.func40,Tryz.ntmps40
  go_wp2_with fail
  go_ret;exact⟨rfl,rfl⟩
 ·by_cases h2:(p.length:Int)<=id
  ·have hk:kindP p id=0:=if_pos (Or.inr h2)
   rw[hk];clear hk ad2;go_enter Tryz.func40,Tryz.ntmps40
   go_wp2_with fail
   go_ret;exact⟨rfl,rfl⟩
  ·obtain⟨j,rfl⟩:∃j:Nat,id=j:=⟨id.toNat,by omega⟩
   obtain⟨⟨xn,xk⟩,hx⟩:∃x,p[j]?=some x:=⟨_,Ac (by omega)⟩
   have hk:kindP p (j:Int)=xk:=by
    unfold kindP;rw[if_neg (by omega),Int.toNat_natCast,Ag,hx];rfl
   obtain⟨ba,oa,rfl,be⟩:=ad2.get (aH (k:=j) (by omega));have c1:=be j _ hx 1 _ rfl;have gu:(j:Int)<p.length:=by omega
   rw[hk];clear hk be hx;go_enter Tryz.func40,Tryz.ntmps40
   go_wp2_with fail
   go_ret;exact⟨rfl,rfl⟩
end
end Go.Proofs.YtcijgkfpobpdbaaGreatDoor
