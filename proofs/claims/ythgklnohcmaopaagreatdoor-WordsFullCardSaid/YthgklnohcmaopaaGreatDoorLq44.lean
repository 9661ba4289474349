/- The texts Dct3 Dct4 R19a Dct5 Wplain Wnodes ImgL SecS SplS FindS, one behind the other. -/
import Derived.Test.YthgklnohcmaopaaGreatDoorLq43
import Derived.Test.YthgklnohcmaopaaGreatDoorLq42
import Derived.Test.YthgklnohcmaopaaGreatDoorLq20
import Derived.Test.YthgklnohcmaopaaGreatDoorLq40
import Derived.Test.YthgklnohcmaopaaGreatDoorLq25
import Derived.Test.YthgklnohcmaopaaGreatDoorLq34
import Derived.Test.YthgklnohcmaopaaGreatDoorLq2
import Derived.Test.YthgklnohcmaopaaGreatDoorLq12
import Derived.Test.YthgklnohcmaopaaGreatDoorLq36
import Derived.Test.YthgklnohcmaopaaGreatDoorLq28
import Derived.Test.YthgklnohcmaopaaGreatDoorLq14
import Derived.Test.YthgklnohcmaopaaGreatDoorLq22
import Derived.Test.YthgklnohcmaopaaGreatDoorLq37
import Derived.Test.YthgklnohcmaopaaGreatDoorShelf
import Derived.Maps.Own
import Derived.Maps.RangeWalk
import Derived.Test.YthgklnohcmaopaaGreatDoorLq39
import Derived.Test.YthgklnohcmaopaaGreatDoorLq41
open Go.Lib renaming hid → Aa,toList_data → Bh,size_eq → Bo,validD → Bp
open List renaming length_append → Ab,getElem?_eq_getElem → Ac,getD_eq_getElem?_getD → Ad,mem_of_getElem? → Ae,length_singleton → Ak,take_length → Al,length_cons → An,map_append → Ao,length_nil → Ap,mem_singleton → As,getElem?_map → At,getElem?_cons_zero → Au,length_filter_le → Av,getElem?_eq_none → Aw,drop_succ_cons → Ay,flatMap_cons → Bb,range' → Bd,length_map → Bf,mem_append → Bg,drop_zero → Bi,map_cons → Bj,sum_cons → Bk
open Nat renaming le_refl → Af,zero_le → Ah,le_trans → Aj,mul_le_mul → Ax,lt_of_lt_of_le → Az,lt_trichotomy → Ba,succ_ne_self → Bc,mul_one → Be,lt_or_ge → Bn
open Go.World renaming block_lt_of_cell? → Ag
open Go.IntKind renaming signed → Ai,wrap → Aq,bits → Ar
open Bool renaming not_eq_true → Am
set_option maxHeartbeats 16000000
namespace Go.Proofs.YthgklnohcmaopaaGreatDoor
set_option maxRecDepth 100000
section
open Go Go.RowKit Go.Shelf
attribute [local go_sem] aO aM
theorem iS1 (l:List Nat) (pb N id a b:Nat) (w:World) (hl:l.length<=1048576) (hn:∀n∈l,n<=1073741824) (hr:nR1 l N id a b) (ac:nG w pb l) :
  Calls Tryz.prog 167 #[.pointer (some ⟨pb,0,none⟩),.int .i64 id,.int .i64 N] w λe w'=>e=.returned (.tuple #[.int .i64 (a:Nat),.int .i64 (b:Nat)])/\aB w w':=by
 obtain⟨h1,h2,h3⟩:=hr;have hid:=(List.getElem?_eq_some_iff.1 h1).1;have CL:=Aa (jT l pb w ac);have CA:=λ(u:World) (hu:aB w u)=>Aa (nN l pb id a u hl hn h1 (ac.grows hu));obtain⟨i1,hi1⟩:=exq (id+1);have wi:IntKind.i64.wrap ((id:Int)+1)=i1:=by simp[Aq,Ar,Ai];omega
 rw[<-hi1]at h2 h3;obtain⟨ll,m9⟩:=exq l.length;rw[<-m9]at CL h2 h3;by_cases ae:i1<ll
 ·have dp:(i1:Int)<ll:=by omega
  have CB:=Aa (nN l pb i1 b w hl hn (h2 ae) ac);clear ac hn h1 h2 h3 hi1 m9;go_enter Tryz.func167,Tryz.ntmps167
  go_wp2_with fail
  refine CL.out.mono ?_;rintro e w1 ⟨rfl,rfl⟩;go_wp2_with fail
  refine CB.out.mono ?_;rintro e w2 ⟨rfl,af⟩;go_wp2_with fail
  refine(CA w2 af).out.mono ?_;rintro e w3 ⟨rfl,ax⟩;go_wp2_with fail
  go_ret2;exact⟨rfl,af.tr ax⟩
 ·have dp:¬(i1:Int)<ll:=by omega
  obtain rfl:=h3 ae;clear ac hn h1 h2 h3 hi1 m9;go_enter Tryz.func167,Tryz.ntmps167
  go_wp2_with fail
  refine CL.out.mono ?_;rintro e w1 ⟨rfl,rfl⟩;go_wp2_with fail
  refine(CA w (aB.refl w)).out.mono ?_;rintro e w3 ⟨rfl,ax⟩;go_wp2_with fail
  go_ret2;exact⟨rfl,ax⟩
theorem lE0 (p:List dE) (m:Mx) (es:List En) (db a b b1 b2:Nat) (w:World) (ag:cT p m es) (ac:gT w db p m es) (gp:a<=b) (hb:b<=es.length) (c1:w.cell? ⟨b1,0,none⟩=some (.int .i64 a)) (c2:w.cell? ⟨b2,0,none⟩=some (.int .i64 b)) :
  Calls Tryz.prog 97 #[.pointer (some ⟨db,0,none⟩),.func (.func 224) #[] #[.pointer (some ⟨b1,0,none⟩),.pointer (some ⟨b2,0,none⟩)]] w λe w'=>∃v,e=.returned v/\aX w' w.heap.size 30 5 bF v ((Bd a (b-a)).map λj=>es.getD j enZero)/\aB w w':=by
 have hn:=ag.len;have h1:=Ag w _ c1;have h2:=Ag w _ c2;have KS:=tG0 7 es.length a b b1 b2 (by decide) gp hb (by omega) (λb=>b<w.heap.size) h1 h2 w (λb hb=>hb) c1 c2;have e:(Bd a (b-a)).length=b-a:=by simp
 refine bJ1 p m es db _ _ (Bd a (b-a)) w ag ac (by omega) (enters_of Tryz.func224 (by kernel_rfl) rfl) ?_;rw[e];exact KS
theorem jS0 (p:List dE) (m:Mx) (es:List En) (db id:Nat) (s:ByteArray) (w:World) (ag:cT p m es) (ac:gT w db p m es) (hs:(readL es)[id]?=some s) :
  Calls Tryz.prog 102 #[.pointer (some ⟨db,0,none⟩),.int .i64 id] w λe w'=>∃v,e=.returned v/\aX w' w.heap.size 30 5 bF v (iI es s)/\aB w w':=by
 obtain⟨a,b,hr,gp,hb,he⟩:=ag.row_r hs;have hn:=ag.len;obtain⟨pf,f1,f2⟩:=ac.f;obtain⟨pi,i1,i2⟩:=ac.i
 have hfl:(iY uE es es.length).length<=20000:=by
  have h1:=(eF ag.rd).2.1;rw[dT]at h1;rw[ag.first,kE]
  exact h1
 have CL:∀u,aB w u->Hid (Calls Tryz.prog 152 #[.pointer (some ⟨pi,0,none⟩)] u λe w'=>e=.returned (.int .i64 (es.length:Nat))/\u=w'):=λu hu=>by
  have h:=jT (es.map (yD (dI es))) pi u (i2.grows hu);rw[Bf]at h;exact h
 have CR:=λ(u:World) (hu:aB w u)=>Aa (iS1 (iY uE es es.length) pf es.length id a b u (by omega) (λn h=>by have:=lJ h;omega) hr (f2.grows hu));have CI:=λ(u:World) (b1 b2:Nat) (hu:aB w u) h1 h2=>Aa (lE0 p m es db a b b1 b2 u ag (ac.grows hu) gp hb h1 h2);rw[he]at CI;have z0:∀y:Ext aB w.drew,y.u.cell? ⟨db,4,none⟩=some (.pointer (some ⟨pf,0,none⟩)):=aF ((aB.drew w).cell f1);have z1:∀y:Ext aB w.drew,y.u.cell? ⟨db,5,none⟩=some (.pointer (some ⟨pi,0,none⟩)):=aF ((aB.drew w).cell i1);obtain⟨N,hN⟩:=exq es.length;rw[<-hN]at CL CR;clear ac ag hs hr gp hb he f2 i2 hfl hn hN;go_enter Tryz.func102,Tryz.ntmps102
 go_wp2_with fail
 refine bK (bB 17 [11,14,15]) (by kernel_rfl) (λd _ _ _ _ h=>by cases d<;>exact h) ?_
 iterate 10 (refine aH rfl (λK hK=>?_);go_simp;refine hK _ ?_;clear hK K)
 refine aH rfl (λK hK=>?_);go_simp;apply Exists.intro
 refine⟨λx=>?_,hK _ ?_⟩
 ·go_at_call 152;exact dU (CL _ ((aB.drew w).tr x.h)).out
 clear hK K;clear z0 z1;refine bH rfl rfl (λK hK=>?_);go_simp;refine((CR w.drew (aB.drew w)).out).mono ?_;rintro e w1 ⟨rfl,an⟩;refine⟨an,hK _ _ ?_⟩;clear hK K;iterate 2 (refine aH rfl (λK hK=>?_);go_simp;refine hK _ ?_;clear hK K)
 have g1:=(aB.drew w).tr an;refine bH rfl rfl (λK hK=>?_);go_simp;refine(qS0 (a:Int) (b:Int) w1).mono ?_;rintro e w2 ⟨rfl,ut⟩;have af:aB w1 w2:=by rw[ut];exact(aB.alloc _ _).al _
 refine⟨af,hK _ _ ?_⟩;clear hK K;have c1:w2.cell? ⟨w1.heap.size,0,none⟩=some (.int .i64 a):=tL (cs:=#[.int .i64 a]) (t:=3) (by rw[ut];exact aB.alloc _ _) rfl 0 _ rfl
 have c2:w2.cell? ⟨w1.heap.size+1,0,none⟩=some (.int .i64 b):=by
  have:=tL (w:=w1.alloc (.cells #[.int .i64 a] 3)) (w':=w2) (cs:=#[.int .i64 b]) (t:=3) (by rw[ut];exact aB.refl _) rfl 0 _ rfl
  rwa [World.size_alloc]at this
 have CI2:=CI w2 _ _ (g1.tr af) c1 c2;clear CI CR CL ut;refine bH rfl rfl (λK hK=>?_);go_simp;refine(CI2.out).mono ?_;rintro e w3 ⟨v,rfl,hv,ax⟩;refine⟨ax,hK _ _ ?_⟩;clear hK K;iterate 1 (refine aH rfl (λK hK=>?_);go_simp;refine hK _ ?_;clear hK K)
 refine cB ?_;have g2:=g1.tr af;go_wp2_with fail
 go_ret;exact⟨v,rfl,hv.base g2.size,g2.tr ax⟩
end
section
open Go Go.RowKit Go.Shelf
attribute [local go_sem] aO aM Oper.semAt_some
end
section
open Go Go.RowKit Go.Shelf
attribute [local go_sem] aO aM
def kindP (p:List dE) (id:Int):Int:=if id<0\/(p.length:Int)<=id then 0 else (p.getD id.toNat ⟨⟨#[]⟩,0⟩).kind
theorem uB0 (p:List dE) (m:Mx) (es:List En) (db:Nat) (s:ByteArray) (w:World) (ag:cT p m es) (hs:s.size<=140737488355328) (ac:gT w db p m es) :
  Calls Tryz.prog 37 #[.pointer (some ⟨db,0,none⟩),.string s] w λe w'=>∃v,e=.returned v/\aX w' w.heap.size 30 5 bF v (iI es s)/\aB w w':=by
 obtain⟨okR,lR,cR⟩:=eF ag.rd;obtain⟨tr,r1,r2⟩:=ac.r;have CF:=Aa (xP0 (bls (readL es)) tr s w okR lR cR (by omega) r2);have hfe:=uP0 (es:=es) okR s;by_cases hm:s∈readL es
 ·obtain⟨j,hj⟩:=List.mem_iff_getElem?.1 hm
  rw[okR.findT_of (vR hj)]at CF;have CR:=λ(u:World) (hu:aB w u)=>Aa (jS0 p m es db j s u ag (ac.grows hu) hj);clear ac ag okR lR cR r2 hfe hm hj;go_enter Tryz.func37,Tryz.ntmps37
  go_wp2_with fail
  refine CF.out.mono ?_;rintro e w1 ⟨rfl,an⟩;go_wp2_with fail
  refine(CR w1 an).out.mono ?_;rintro e w2 ⟨v,rfl,hv,af⟩;go_wp2
  go_ret;exact⟨v,rfl,hv.base an.size,an.tr af⟩
 ·have g9:kD (bls (readL es)) (bl s)=(0,false):=qW λhc=>hm (by have:=zX.1 hc;rwa [show mkB (bl s)=s from pK s]at this)
  rw[g9]at CF hfe;rw[hfe];clear ac ag okR lR cR r2 hfe hm g9;go_enter Tryz.func37,Tryz.ntmps37
  go_wp2_with fail
  refine CF.out.mono ?_;rintro e w1 ⟨rfl,an⟩;go_wp2
  go_ret;exact⟨_,rfl,aX.nil _ _ _ _ _,an⟩
theorem fY0 (p:List dE) (m:Mx) (es:List En) (db:Nat) (s:ByteArray) (w:World) (ag:cT p m es) (hs:s.size<=140737488355328) (ac:gT w db p m es) :
  Calls Tryz.prog 32 #[.pointer (some ⟨db,0,none⟩),.string s] w λe w'=>∃v,e=.returned v/\aX w' w.heap.size 30 5 bF v (lO0 es s)/\aB w w':=by
 obtain⟨okR,lR,cR⟩:=eF ag.rd;obtain⟨tr,r1,r2⟩:=ac.r;have hn:=ag.len;have CF:=Aa (fH0 (bls (readL es)) tr s w okR lR cR (by omega) r2);rw[wZ0 okR];have HM:=λq hq=>Aa (lH0 (L:=bls (readL es)) (s:=bl s) (q:=q) (n:=s.size) hq);have gv:=okR.hits_256 (s:=bl s) (n:=s.size) (by rw[dO];exact Af _);generalize hitsL (bls (readL es)) (bl s) s.size=H at CF HM gv ⊢
 have CR:∀q∈H,∀u,aB w u->Hid (Calls Tryz.prog 102 #[.pointer (some ⟨db,0,none⟩),.int .i64 (q.1:Nat)] u λe w'=>∃v,e=.returned v/\aX w' u.heap.size 30 5 bF v (iI es ((readL es).getD q.1 ⟨#[]⟩))/\aB u w'):=λq hq u hu=>by
  have h1:=(HM q hq).out.1;rw[dT]at h1;exact jS0 p m es db q.1 _ u ag (ac.grows hu) (by rw[Ad,Ac h1];rfl)
 have HLEN:Hid (∀t,(iI es t).length<=20000):=λt=>Aj (Av _ _) hn;obtain⟨f,hf⟩:∃f:Nat×Nat->List En,f=λq=>iI es ((readL es).getD q.1 ⟨#[]⟩):=⟨_,rfl⟩
 have CR2:∀q∈H,∀u,aB w u->Hid (Calls Tryz.prog 102 #[.pointer (some ⟨db,0,none⟩),.int .i64 (q.1:Nat)] u λe w'=>∃v,e=.returned v/\aX w' u.heap.size 30 5 bF v (f q)/\aB u w'):=λq hq u hu=>by
  rw[hf];exact CR q hq u hu
 have HL2:Hid (∀q,(f q).length<=20000):=λq=>by rw[hf];exact HLEN.out _
 rw[<-hf];clear ac ag okR lR cR r2 HM CR HLEN hf hn;go_enter Tryz.func32,Tryz.ntmps32
 go_wp2_with fail
 refine CF.out.mono ?_;rintro e w1 ⟨v1,rfl,iw,an⟩;obtain⟨a1,c1,rfl,_,_,cm⟩:=iw.at_ jU1.len;have HAT:=Aa cm;have G1:=Aa an;clear CF iw cm an;go_wp2_with fail
 go_loopw [5,17] (λv i wr=>∃(k:Nat),k<=H.length/\i=.int .i64 k/\Hid (aX wr w1.heap.size 30 5 bF v ((H.take k).flatMap f)/\((H.take k).flatMap f).length<=k*20000)/\Hid (aB w1 wr)) (λ_ i _=>H.length-(intOf i).toNat)
 case atStart=>exact⟨0,Ah _,rfl,⟨aX.nil _ _ _ _ _,Ah _⟩,aB.refl _⟩
 case round =>
  obtain⟨k,hk,rfl,hO,hg⟩:=hrel;by_cases ae:k<H.length
  ·obtain⟨⟨id,ln⟩,hx⟩:∃x,H[k]?=some x:=⟨_,Ac ae⟩
   obtain⟨ba,oa,rfl,be⟩:=(HAT.out.grows hg.out).get (aK ae);have c0:wr.cell? ⟨ba,oa+k*2,none⟩=some (.int .i64 id):=be k _ hx 0 _ rfl;have c1':wr.cell? ⟨ba,oa+k*2+1,none⟩=some (.int .i64 ln):=be k _ hx 1 _ rfl;have cn:(k:Int)<H.length:=by omega
   obtain⟨W2,d9⟩:=exq (wr.alloc (.cells #[.int .i64 id,.int .i64 ln] 181));have af:aB wr W2:=by rw[d9];exact aB.alloc _ _
   have b0:=aT wr #[.int .i64 id,.int .i64 ln] 181 (0,0) 0 _ rfl;have g12:=hg.out.tr af;have CR1:=CR2 (id,ln) (Ae hx) W2 (G1.out.tr g12)
   have HT:Hid ((H.take k).flatMap f++f (id,ln)=(H.take (k+1)).flatMap f):=by
    show _=_
    rw[bM hx,List.flatMap_append];simp
   have hlf:=HL2.out (id,ln);have lq:=hO.out.1.grows af;have tu:=hO.out.2;generalize (H.take k).flatMap f=bk at lq tu HT;generalize f (id,ln)=news at CR1 HT hlf;have akq:k<=1048576:=by omega
   clear be hx hO CR2;go_wp2_with fail
   rw[<-d9];clear d9 b0;refine CR1.out.mono ?_;rintro e w3 ⟨v3,rfl,nu,ax⟩;obtain⟨a3,c3,rfl,_,_,fp⟩:=nu.at_ bP0.len;have th:=cM nu;have g13:=g12.tr ax;have hO3:=lq.grows ax;clear nu CR1 lq;go_wp2_with (at_builtin;refine aB0 bP0 rfl _ _ rfl w1.heap.size _ bk news rfl hO3 (aB.refl _) a3 c3 rfl fp th (by omega) g13.size ?_;intro v7 w7 hO7 hk7 hf7 adj)
   have cw:=adj w1 g13 (Af _);go_wp2_with fail
   go_roundw
   case rel=>exact⟨k+1,ae,by go_num,⟨by rw[<-HT.out];exact hO7,by rw[<-HT.out,Ab];omega⟩,cw⟩
   case measure=>simp[intOf];omega
  ·obtain rfl:k=H.length:=by omega
   have lq:=hO.out.1;rw[Al]at lq;go_wp2_with fail
   go_ret;exact⟨_,rfl,lq.base G1.out.size,G1.out.tr hg.out⟩
theorem yS0 (p:List dE) (m:Mx) (es:List En) (db:Nat) (w:World) (ac:gT w db p m es) :
  Calls Tryz.prog 99 #[.pointer (some ⟨db,0,none⟩)] w λe w'=>e=.returned (.int .i64 (p.length:Nat))/\w=w':=by
 obtain⟨vP,p1,p2⟩:=ac.p;obtain⟨aP,cP,rfl,_,_,_⟩:=p2.at_ vY.len;clear ac p2;generalize p.length=N at p1 ⊢;go_enter Tryz.func99,Tryz.ntmps99
 go_wp2_with fail
 go_ret;exact⟨rfl,rfl⟩
theorem bH1 (p:List dE) (m:Mx) (es:List En) (db:Nat) (id:Int) (w:World) (ac:gT w db p m es) :
  Calls Tryz.prog 100 #[.pointer (some ⟨db,0,none⟩),.int .i64 id] w λe w'=>e=.returned (.int .i64 (kindP p id))/\w=w':=by
 obtain⟨vP,p1,p2⟩:=ac.p;obtain⟨aP,cP,rfl,_,_,adk⟩:=p2.at_ vY.len;clear ac p2;by_cases h1:id<0
 ·have hk:kindP p id=0:=if_pos (Or.inl h1)
  rw[hk];clear hk adk;go_enter Tryz.func100,Tryz.ntmps100
  go_wp2_with fail
  go_ret;exact⟨rfl,rfl⟩
 ·by_cases h2:(p.length:Int)<=id
  ·have hk:kindP p id=0:=if_pos (Or.inr h2)
   rw[hk];clear hk adk;go_enter Tryz.func100,Tryz.ntmps100
   go_wp2_with fail
   go_ret;exact⟨rfl,rfl⟩
  ·obtain⟨j,rfl⟩:∃j:Nat,id=j:=⟨id.toNat,by omega⟩
   obtain⟨⟨xn,xk⟩,hx⟩:∃x,p[j]?=some x:=⟨_,Ac (by omega)⟩
   have hk:kindP p (j:Int)=xk:=by
    unfold kindP;rw[if_neg (by omega),Int.toNat_natCast,Ad,hx];rfl
   obtain⟨ba,oa,rfl,be⟩:=adk.get (aK (k:=j) (by omega));have c1:=be j _ hx 1 _ rfl;have gi:(j:Int)<p.length:=by omega
   rw[hk];clear hk be hx;go_enter Tryz.func100,Tryz.ntmps100
   go_wp2_with fail
   go_ret;exact⟨rfl,rfl⟩
structure uO (p:List dE) (n:Nat):Prop where
 le:n=0\/n<p.length
 at_:n≠0->kindP p n=0
 no:∀j:Nat,1<=j->j<p.length->(n=0\/j<n)->kindP p j≠0
def fS0 (p:List dE):Nat->Nat->Nat
 | _,0=>0
 | i,g+1=>if kindP p i=0 then i else fS0 p (i+1) g
def plainP (p:List dE):Nat:=fS0 p 1 (p.length-1)
theorem xX {p:List dE}:∀(g i:Nat),1<=i->i+g=p.length->(∀j:Nat,1<=j->j<i->kindP p j≠0)->uO p (fS0 p i g)
 | 0,i,_,hl,hn=>⟨Or.inl rfl,λh=>absurd rfl h,λj h1 h2 _=>hn j h1 (by omega)⟩
 | g+1,i,h1,hl,hn=>by
  unfold fS0;split
  ·rename_i hk
   exact⟨Or.inr (by omega),λ_=>hk,λj j1 j2 j3=>hn j j1 (by omega)⟩
  ·rename_i hk
   refine xX g (i+1) (by omega) (by omega) λj j1 j2=>?_;by_cases e:j=i
   ·rw[e];exact hk
   ·exact hn j j1 (by omega)
theorem iD0 {p:List dE} (hp:p≠[]):uO p (plainP p):=xX _ 1 (Af _) (by have:=List.length_pos_iff.2 hp; omega) (λj h1 h2=>by omega)
theorem uO.unique {p:List dE} {n m:Nat} (h:uO p n) (k:uO p m):n=m:=by
 rcases Ba n m with hl|hl|hl
 ·by_cases h0:n=0
  ·subst h0
   have h1:=k.le;exact absurd (k.at_ (by omega)) (h.no m (by omega) (by omega) (Or.inl rfl))
  ·have h1:=k.le
   exact absurd (h.at_ h0) (k.no n (by omega) (by omega) (Or.inr hl))
 ·exact hl
 ·by_cases h0:m=0
  ·subst h0
   have h1:=h.le;exact absurd (h.at_ (by omega)) (k.no n (by omega) (by omega) (Or.inl rfl))
  ·have h1:=h.le
   exact absurd (k.at_ h0) (h.no m (by omega) (by omega) (Or.inr hl))
theorem uS0 (p:List dE) (m:Mx) (es:List En) (db:Nat) (w:World) (hp:p≠[]) (hl:p.length<=1048576) (ac:gT w db p m es) :
  Calls Tryz.prog 30 #[.pointer (some ⟨db,0,none⟩)] w λe w'=>e=.returned (.int .i64 (plainP p:Nat))/\w=w':=by
 have CS:=Aa (yS0 p m es db w ac);have CK:=λ(i:Nat)=>Aa (bH1 p m es db i w ac);have HP:=Aa (iD0 hp);have hp1:1<=p.length:=List.length_pos_iff.2 hp;clear ac hp;go_enter Tryz.func30,Tryz.ntmps30
 go_wp2_with fail
 go_loopw [3] (λi wr=>∃k:Nat,1<=k/\k<=p.length/\i=.int .i64 k/\Hid (∀j:Nat,1<=j->j<k->kindP p j≠0)/\wr=w) (λi _=>p.length-(intOf i).toNat)
 case atStart=>exact⟨1,Af _,hp1,rfl,(λj h1 h2=>by omega),rfl⟩
 case round =>
  obtain⟨k,hk1,hk,rfl,g9,rfl⟩:=hrel;by_cases ae:k<p.length
  ·have cn:(k:Int)<p.length:=by omega
   have CK2:=CK k;by_cases h0:kindP p (k:Nat)=0
   ·have HR:Hid (uO p k):=⟨Or.inr ae,λ_=>h0,λj j1 j2 j3=>g9.out j j1 (by omega)⟩
    have HE:Hid (plainP p=k):=HP.out.unique HR.out;rw[h0]at CK2;clear CK g9 h0;go_wp2_with (first|(go_at_call 99;refine CS.out.mono ?_;rintro e w1 ⟨rfl,rfl⟩)|(go_at_call 100;refine CK2.out.mono ?_;rintro e w2 ⟨rfl,rfl⟩))
    go_ret;exact⟨by rw[HE.out];rfl,rfl⟩
   ·have hb:(kindP p (k:Nat)==0)=false:=by simpa using h0
    have HN:Hid (∀j:Nat,1<=j->j<k+1->kindP p j≠0):=λj j1 j2=>by
     by_cases e:j=k
     ·rw[e];exact h0
     ·exact g9.out j j1 (by omega)
    generalize kindP p (k:Nat)=q at CK2 hb;clear CK g9 h0;go_wp2_with (first|(go_at_call 99;refine CS.out.mono ?_;rintro e w1 ⟨rfl,rfl⟩)|(go_at_call 100;refine CK2.out.mono ?_;rintro e w2 ⟨rfl,rfl⟩))
    go_roundw
    case rel=>exact⟨k+1,by omega,ae,by go_num,HN,trivial⟩
    case measure=>simp[intOf];omega
  ·obtain rfl:k=p.length:=by omega
   have cn:¬((p.length:Nat):Int)<p.length:=by omega
   have HE:Hid (plainP p=0):=HP.out.unique ⟨Or.inl rfl,λh=>absurd rfl h,λj j1 j2 _=>g9.out j j1 j2⟩;clear CK g9;go_wp2_with (go_at_call 99;refine CS.out.mono ?_;rintro e w1 ⟨rfl,rfl⟩)
   go_ret;exact⟨by rw[HE.out];rfl,rfl⟩
end
section
open Go Go.RowKit Go.Shelf
attribute [local go_sem] aO aM
theorem kZ0 {P:Program} {w:World} {a:Addr} {m:Mode} (fn:Fn) (first captured:Array Value):(store a (.func fn first captured) m).run P w=stored P w a (.func fn first captured) m:=run_store P w a _ m rfl
attribute [local go_sem] kZ0
def bS0 (L:List Nd) (w:World) (e:Ending) (w':World):Prop :=
 aB w w'/\∃v,e=.returned (.tuple #[v,.int .i64 (if L.length<=10000 then 0 else 7)])/\aX w' w.heap.size 51 7 dD v (if L.length<=10000 then L else [])
theorem cP0 {L:List Nd} {w w':World} (h:¬L.length<=10000) (hg:aB w w'):bS0 L w (.returned (.tuple #[.slice none 0 0,.int .i64 7])) w' :=
 ⟨hg,_,by rw[if_neg h],by rw[if_neg h];exact aX.nil _ _ _ _ _⟩
theorem cI0 {L:List Nd} {w w':World} {v:Value} (h:L.length<=10000) (hg:aB w w') (ho:aX w' w.heap.size 51 7 dD v L):bS0 L w (.returned (.tuple #[v,.int .i64 0])) w' :=
 ⟨hg,_,by rw[if_pos h],by rw[if_pos h];exact ho⟩
theorem uV (p:List dE) (m:Mx) (es:List En) (db:Nat) (s:ByteArray) (C:List (List UInt8)) (ls:List Lrn) (la:Option Addr) (lc:Nat) (w:World) (he:Env w) (hdk:cT p m es) (ac:gT w db p m es)
  (hC:fJ C) (hf:C.flatten=bl s) (h0:C≠[]) (mm:C.length<=64) (hp:p≠[]) (hls:ls.length<=100000) (iq:∀x∈ls,vG x) (hlz:∀x∈ls,x.r.size<=1048576/\x.s.size<=1048576) (hla:aG w la 3 (ls.map cU)) (de:s.size<=1048576) (rz:wchk s=0) :
  Calls Tryz.prog 9 #[.pointer (some ⟨db,0,none⟩),.string s,.slice la ls.length lc] w (bS0 (fP C es ls (plainP p:Nat)) w):=by
 have aio:p.length<=1048576:=by have:=(fA (dX hdk.chk).2.2.1).1;omega
 have ve:Bp s.data.toList=true:=by
  have:=(dY hC).1
  rw[hf]at this;exact this
 have hrn:bD s.data.toList=rS C:=by
  have:=(dY hC).2
  rw[hf]at this;exact this
 have HRS:Hid (∀k j,(ptC C k j).size<=1048576):=λk j=>by
  have h1:=aS1 C k j;rw[hf,dO]at h1;omega
 have CCk:=Aa (qI s w (by omega) he);rw[rz]at CCk;have CRn:=λ(u:World) (hu:aB w u)=>Aa (uC0 s u (by omega) (he.grows hu) ve);rw[hrn]at CRn;have HD:=Aa ac;have HE:=Aa he;have HDK:=Aa hdk;have HCO:=Aa hC;have HLO:=Aa iq;have HLZ:=Aa hlz;have HLA:=Aa hla;have HNS:=Aa (cX0 hC hdk ls (plainP p:Nat));have HFW:=λ(k:Nat) (hk:k<=C.length) (V:List Nd) (hV:Bests (cH0 C es ls (plainP p:Nat) k) V)=>Aa (aG1 hC hdk ls (plainP p:Nat) hk hV);have CBn:=λ(u:World) (hu:aB w u)=>Aa (pJ0 ls la lc u (by omega) iq (hla.grows hu));have CPl:=λ(u:World) (hu:aB w u)=>Aa (uS0 p m es db u hp aio (ac.grows hu));have ah:(rS C).length=C.length:=by unfold rS;rw[Bf]
 rw[ah]at CRn;have HPN:Hid (plainP p<p.length\/plainP p=0):=by have:=(iD0 hp).le;show _\/_;omega
 obtain⟨NL,hNL⟩:=exq (fP C es ls (plainP p:Nat));rw[<-hNL]at HNS HFW ⊢;obtain⟨pl,nc⟩:=exq ((plainP p:Nat):Int);rw[<-nc]at HNS HFW CPl
 have HPL:Hid (0<=pl/\pl<=1048576):=by
  have:=HPN.out
  show _/\_
  omega
 have hcn:C.length≠0:=λh=>h0 (List.length_eq_zero_iff.1 h);clear hNL nc HPN he hdk ac hC hf h0 hp iq hlz hla rz ve hrn;go_enter Tryz.func9,Tryz.ntmps9
 go_wp2_with fail
 refine CCk.out.mono ?_;rintro e w1 ⟨rfl,an⟩;clear CCk;go_wp2_with fail
 refine(CRn w1 an).out.mono ?_;rintro e w2 ⟨ra,rc,rfl,⟨akr,aip⟩,jl,af⟩;clear CRn;have g2:=an.tr af;obtain⟨ub,uo,rfl,be⟩:=jl.get (enc:=pZ) (by rw[<-List.length_pos_iff,ah];omega);obtain⟨W2,d9⟩:=exq (w2.alloc (.cells #[.slice (some ⟨ub,uo,none⟩) C.length rc] 76));obtain⟨cb,nt⟩:=exq w2.heap.size;have gW2:aB w2 W2:=by rw[d9];exact aB.alloc _ _
 have k9:W2.cell? ⟨cb,0,none⟩=some (.slice (some ⟨ub,uo,none⟩) C.length rc):=by rw[d9,nt];exact aT w2 _ _ (0,0) 0 _ rfl
 have zW2:W2.heap.size=w2.heap.size+1:=by rw[d9];simp
 obtain⟨bm,yh⟩:=exq W2.heap.size;have HZ2:=Aa zW2;clear zW2;go_wp2_with fail
 rw[<-d9,<-nt];refine(CBn W2 (g2.tr gW2)).out.mono ?_;rintro e w3 ⟨rfl,ace,ax⟩;rw[<-yh]at ace ⊢;have HBM:=Aa yh;clear yh;have HCB:=Aa nt;clear CBn d9 nt;have g3:=(g2.tr gW2).tr ax;have k9':∀a b c d,((((w3.alloc a).alloc b).alloc c).alloc d).cell? ⟨cb,0,none⟩=some (.slice (some ⟨ub,uo,none⟩) C.length rc):=λa b c d=>((((aB.alloc w3 a).al b).al c).al d).cell (ax.cell k9)
 have aiq:cb<w3.heap.size/\bm<w3.heap.size/\ub<w3.heap.size:=⟨by have:=ax.size;have:=HCB.out;have:=HZ2.out;omega,ace.lt,by
  have hub:ub<w2.heap.size:=Ag w2 _ (be 0 _ (Ac (by rw[ah];omega)) 0 _ rfl)
  have:=ax.size;have:=HZ2.out;omega⟩
 have CP2:=CPl w3 g3;clear CPl;obtain⟨W3,ep⟩:=exq (w3.alloc (.cells #[.int .i64 pl] 3));obtain⟨pb,ed⟩:=exq w3.heap.size;have t9:aB w3 W3:=by rw[ep];exact aB.alloc _ _
 have k12:W3.cell? ⟨pb,0,none⟩=some (.int .i64 pl):=by rw[ep,ed];exact aT w3 _ _ (0,0) 0 _ rfl
 have zW3:W3.heap.size=w3.heap.size+1:=by rw[ep];simp
 obtain⟨mb,jo⟩:=exq W3.heap.size;obtain⟨W4,py⟩:=exq (W3.alloc (.map #[] 0));have gW4:aB W3 W4:=by rw[py];exact aB.alloc _ _
 have zW4:W4.heap.size=mb+1:=by rw[py,jo];simp
 have ig:W4.ownsMap Tryz.prog 51 (eB (H:=Unit)) mb 0 (.map []):=by rw[py,jo];exact World.ownsMap_made _ _ _ _
 obtain⟨W5,qz⟩:=exq (W4.alloc (.cells #[.map (some mb)] 82));have gW5:aB W4 W5:=by rw[qz];exact aB.alloc _ _
 have k13:W5.cell? ⟨mb+1,0,none⟩=some (.map (some mb)):=by rw[qz,<-zW4];exact aT W4 _ _ (0,0) 0 _ rfl
 have zW5:W5.heap.size=mb+1+1:=by rw[qz];simp[zW4]
 obtain⟨W0,cq⟩:=exq (W5.alloc (.cells #[.func (.func 31) #[] #[.pointer (some ⟨mb+1,0,none⟩)]] 84));have gW0:aB W5 W0:=by rw[cq];exact aB.alloc _ _
 have k14:W0.cell? ⟨mb+1+1,0,none⟩=some (.func (.func 31) #[] #[.pointer (some ⟨mb+1,0,none⟩)]):=by rw[cq,<-zW5];exact aT W5 _ _ (0,0) 0 _ rfl
 have zW0:W0.heap.size=mb+1+1+1:=by rw[cq];simp[zW5]
 have s8:=@run_makeMap Tryz.prog;go_wp2_with fail
 refine CP2.out.mono ?_;rintro e w9 ⟨rfl,rfl⟩;clear CP2;have e1:w3.heap.size+1=mb:=by rw[jo,zW3]
 have HE1:=Aa e1;have HWS:=Aa (And.intro ep (And.intro py (And.intro qz cq)));have HPB:=Aa ed;clear e1 ep py qz cq ed jo;go_wp2_with fail
 rw[HE1.out,<-HWS.out.1,<-HWS.out.2.1,<-HWS.out.2.2.1,<-HWS.out.2.2.2,<-HPB.out];have gW:=g3.tr (t9.tr (gW4.tr (gW5.tr gW0)));have gg:=t9.tr (gW4.tr (gW5.tr gW0));have k9:=(ax.tr gg).cell k9;have k12:=(gW4.tr (gW5.tr gW0)).cell k12;have k13:=gW0.cell k13;have HAT:Hid (aG W0 (some ⟨ub,uo,none⟩) 1 ((rS C).map pZ)):=jl.grows (gW2.tr (ax.tr gg));have HBON:Hid (tB W0 bm ls.length ls):=ace.grows gg;have hF0:iL W0 (mb+1) mb 0 (cH0 C es ls pl 0) []:=⟨k13,⟨_,aJ ig (gW5.tr gW0),fS1⟩,⟨λx hx=>by (cases hx),λy ⟨i,hi,_⟩=>by omega,List.Pairwise.nil⟩⟩;have air:cb<mb/\pb<mb/\bm<mb/\ub<mb:=by have:=HE1.out;have:=HPB.out;omega
 have HG:=Aa gW;have HWM:Hid (w.heap.size<=mb):=by have:=g3.size;have:=HE1.out;show _<=_;omega
 have HK:=Aa (And.intro k9 (And.intro k12 (And.intro k13 k14)));have HZ:=Aa zW0;clear HWS s8 k9' an af ax g2 gW2 g3 t9 gW4 gW5 gW0 gW gg zW3 zW4 zW5 zW0 HZ2 HBM HE1 HPB HCB aiq ig jl be ace k12 k13 k14 k9;obtain⟨KK,hKK⟩:∃KK:Nat,120010<=KK/\KK<=1000000:=⟨1000000,by omega,by omega⟩;go_loopw [45] (λi wr=>∃k:Nat,k<=C.length/\i=.int .i64 k/\Hid (GK mb W0 wr)/\Hid (∃V,iL wr (mb+1) mb (k*KK) (cH0 C es ls pl k) V/\V.length<=10000)) (λi _=>C.length-(intOf i).toNat)
 case atStart=>exact⟨0,Ah _,rfl,GK.refl _ _,[],by rw[Nat.zero_mul];exact hF0,by simp⟩
 case round =>
  obtain⟨k,hk,rfl,hgk,hV⟩:=hrel;clear hF0;obtain⟨wo,rfl⟩:=exq wr;by_cases ae:k<C.length
  ·have cn:(k:Int)<C.length:=by omega
   have hkr:(k:Int)<=C.length:=by omega
   have aks:(C.length:Int)<=rc:=by omega
   obtain⟨ib,sd⟩:=exq wo.heap.size;obtain⟨W1,bi⟩:=exq (wo.alloc (.cells #[.int .i64 k] 3));have gW1:aB wo W1:=by rw[bi];exact aB.alloc _ _
   have adl:=GK.trans _ _ _ _ hgk.out (GK.of (b:=mb) gW1);have y15:W1.cell? ⟨ib,0,none⟩=some (.int .i64 k):=by rw[bi,sd];exact aT wo _ _ (0,0) 0 _ rfl
   have akt:mb+3<=ib:=by have:=hgk.out.size;have:=HZ.out;omega
   have k9r:∀a,(wo.alloc a).cell? ⟨cb,0,none⟩=some (.slice (some ⟨ub,uo,none⟩) C.length rc):=λa=>(aB.alloc _ _).cell (aU hgk.out HK.out.1 (λe=>by have:=Option.some.inj e;simp at this;omega));obtain⟨R,hR⟩:=exq (ptC C k C.length);have HR:=Aa hR
   have te:(convert 76 9 (.slice (some ⟨ub,uo+k,none⟩) (C.length-k) (rc-k))).run Tryz.prog W1=.ok (.string R) W1:=by
    have hA:aG W1 (some ⟨ub,uo+k,none⟩) 1 ((((rS C).drop k).take (C.length-k)).map pZ):=aK1 (adl.at_ HAT.out (λx hx=>by cases hx;show ub≠mb;omega)) (C.length-k)
    have:=dM0 (c:=rc-k) hA
    rw[show (((rS C).drop k).take (C.length-k)).length=C.length-k by rw[List.length_take,List.length_drop,ah];omega,vH HCO.out,<-hR]at this
    exact this
   rw[bi]at te;have hRz:R.size<=1048576:=by rw[hR];exact HRS.out k _
   have CPx:=Aa (fY0 p m es db R W1 HDK.out (by omega) (HD.out.grows (adl.base HG.out HWM.out)));have HX1:Hid ((∀e∈lO0 es R,e∈es)/\(lO0 es R).length<=20000):=⟨λe he=>(List.mem_filter.1 ((HDK.out.pref_perm _).mem_iff.1 he)).1,tS0 HDK.out R⟩;obtain⟨X,hX⟩:=exq (lO0 es R);rw[<-hX]at CPx HX1;have HXE:=Aa hX;have HXE2:Hid (R=ptC C k C.length):=HR.out;obtain⟨V0,hF0,hV0⟩:=hV.out;have HIB:=Aa sd;clear hR sd hX hV;go_wp2_with fail
   rw[<-bi,<-HIB.out];clear HIB;refine CPx.out.mono ?_;rintro e w5 ⟨v5,rfl,hv5,bv⟩;obtain⟨a5,c5,rfl,_,_,pu⟩:=hv5.at_ bP0.len
   have hb5:∀x,a5=some x->x.block≠mb:=λx hx=>by
    have h1:=aZ hv5 x.block (by rw[hx];rfl);have h2:=gW1.size;have h3:=hgk.out.size;have h4:=HZ.out;omega
   have vf:=GK.trans _ _ _ _ adl (GK.of (b:=mb) bv);have HF5:=Aa (hF0.grows (gW1.tr bv));have y5:=bv.cell y15;have hX2:=HX1.out.2;clear hv5 CPx te bi hF0 k9r;go_wp2_with fail
   go_loopw [56] (λj wr=>∃n:Nat,n<=X.length/\j=.int .i64 n/\Hid (GK mb w5 wr)/\Hid (∃V,iL wr (mb+1) mb (k*KK+n) (λy=>cH0 C es ls pl k y\/y∈(X.take n).map (λe=>jX ls k (k+(bD (bl e.r)).length) e)) V)) (λj _=>X.length-(intOf j).toNat)
   case atStart=>exact⟨0,Ah _,rfl,GK.refl _ _,V0,(show iL _ _ _ (k*KK+0) _ _ by rw[Nat.add_zero];exact HF5.out).congr λy=>by simp⟩
   case round =>
    obtain⟨n,hn,rfl,nl,hV⟩:=hrel;by_cases pz:n<X.length
    ·obtain⟨⟨xr,xs,xl,xt,xc⟩,hx⟩:∃x,X[n]?=some x:=⟨_,Ac pz⟩
     obtain⟨ba,oa,rfl,be⟩:=(nl.out.at_ pu hb5).get (aK pz);have c0:wr.cell? ⟨ba,oa+n*5,none⟩=some (.string xr):=be n _ hx 0 _ rfl;have c1:wr.cell? ⟨ba,oa+n*5+1,none⟩=some (.string xs):=be n _ hx 1 _ rfl;have c2:wr.cell? ⟨ba,oa+n*5+2,none⟩=some (.int .i64 xl):=be n _ hx 2 _ rfl;have c3:wr.cell? ⟨ba,oa+n*5+3,none⟩=some (.int .i64 xt):=be n _ hx 3 _ rfl;have c4:wr.cell? ⟨ba,oa+n*5+4,none⟩=some (.int .i64 xc):=be n _ hx 4 _ rfl;have ul:(n:Int)<X.length:=by omega
     have hxm:=HX1.out.1 _ (Ae hx);have ff:=HDK.out.num _ hxm;have hrz:=HDK.out.len_r _ hxm;have ais:=HDK.out.len_s _ hxm;have hpw:=(kG0 HDK.out _ hxm).1;simp only at ff hrz ais hpw;have gn:=jE hpw;have hLb:(bD (bl xr)).length<=256:=by have:=jH (bl xr);rw[dO]at this;omega
     have HTK:Hid (X.take (n+1)=X.take n++[⟨xr,xs,xl,xt,xc⟩]):=bM hx;obtain⟨L,hL⟩:=exq (bD (bl xr)).length;rw[<-hL]at gn hLb;have HL:=Aa hL;obtain⟨V1,hF1⟩:=hV.out;have sv:=oJ ls xr xs;obtain⟨B,hB⟩:=exq (eK ls xr xs);rw[<-hB]at sv;have HB:=Aa hB;obtain⟨xb,oh⟩:=exq wr.heap.size;obtain⟨W6,zz⟩:=exq (wr.alloc (.cells #[.string xr,.string xs,.int .i64 xl,.int .i64 xt,.int .i64 xc] 30));have lu:aB wr W6:=by rw[zz];exact aB.alloc _ _
     have da:=λj u h=>aT wr #[.string xr,.string xs,.int .i64 xl,.int .i64 xt,.int .i64 xc] 30 (0,0) j u h;rw[<-zz,<-oh]at da;have adm:=GK.trans _ _ _ _ vf (GK.trans _ _ _ _ nl.out (GK.of (b:=mb) lu));have y6:W6.cell? ⟨ib,0,none⟩=some (.int .i64 k):=lu.cell (aU nl.out y5 (λe=>by have:=Option.some.inj e;simp at this;omega));have x14:W6.cell? ⟨mb+1+1,0,none⟩=_:=aU adm HK.out.2.2.2 (λe=>by have:=Option.some.inj e;simp at this;omega);have CC:=Aa (kP xr W6.drew (by omega) ((HE.out.grows (adm.base HG.out HWM.out)).grows (aB.drew W6)));rw[gn]at CC;have y15:∀x:Ext aB W6.drew,x.u.cell? ⟨ib,0,none⟩=some (.int .i64 k):=aF ((aB.drew W6).cell y6);have z0:∀x:Ext aB W6.drew,x.u.cell? ⟨xb,0,none⟩=some (.string xr):=aF ((aB.drew W6).cell (da 0 _ rfl));clear be hx hL hB hxm hpw gn hV;go_wp2_with fail
     rw[<-zz,<-oh];clear zz oh;refine bK (bB 6 [3]) (by kernel_rfl) (λd _ _ _ _ h=>by cases d<;>exact h) ?_
     iterate 3 (refine aH rfl (λK hK=>?_);go_simp;refine hK _ ?_;clear hK K)
     refine bH rfl rfl (λK hK=>?_);go_simp;refine(CC.out).mono ?_;rintro e w7 ⟨rfl,cw⟩;refine⟨cw,hK _ _ ?_⟩;clear hK K;iterate 2 (refine aH rfl (λK hK=>?_);go_simp;refine hK _ ?_;clear hK K)
     refine cB ?_;clear z0 y15;have gg7:=lu.tr ((aB.drew W6).tr cw);have agl:=GK.trans _ _ _ _ nl.out (GK.of (b:=mb) gg7);have G67:aB W6 w7.drew:=((aB.drew W6).tr cw).tr (aB.drew w7);have q14:∀x:Ext aB w7.drew,x.u.cell? ⟨mb+1+1,0,none⟩=_:=aF (G67.cell x14);have q15:∀x:Ext aB w7.drew,x.u.cell? ⟨ib,0,none⟩=some (.int .i64 k):=aF (G67.cell y6);have z0:∀x:Ext aB w7.drew,x.u.cell? ⟨xb,0,none⟩=some (.string xr):=aF (G67.cell (da 0 _ rfl));have z1:∀x:Ext aB w7.drew,x.u.cell? ⟨xb,1,none⟩=some (.string xs):=aF (G67.cell (da 1 _ rfl));have z2:∀x:Ext aB w7.drew,x.u.cell? ⟨xb,2,none⟩=some (.int .i64 xl):=aF (G67.cell (da 2 _ rfl));have z3:∀x:Ext aB w7.drew,x.u.cell? ⟨xb,3,none⟩=some (.int .i64 xt):=aF (G67.cell (da 3 _ rfl));have z4:∀x:Ext aB w7.drew,x.u.cell? ⟨xb,4,none⟩=some (.int .i64 xc):=aF (G67.cell (da 4 _ rfl));have agm:=(HBON.out.kept adm (by omega)).grows G67
     have ql:∀x:Ext aB w7.drew,(Instr.lookup 79 (.map (some bm)) (.agg #[.string xr,.string xs]) false).run Tryz.prog x.u=.ok (.int .i64 B) x.u:=λx=>by
      have:=(agm.grows x.h).look (r:=xr) (s:=xs) (by unfold maxLen;omega) (by unfold maxLen;omega)
      rw[<-HB.out]at this;exact this
     have qp:gP0 ⟨k,(k:Int)+L,xs,xl,xt,xc-B,1⟩:=oM0 (by omega) (by omega) (by omega) (by omega) (by omega) (by omega) (by omega)
     have og:k*KK+n<maxLen:=by
      have:k*KK<=64*1000000:=Ax (by omega) (by omega)
      unfold maxLen;omega
     have CA:=Aa (fV0 ⟨k,(k:Int)+L,xs,xl,xt,xc-B,1⟩ (mb+1) mb (k*KK+n) _ V1 w7.drew (hF1.grows (lu.tr G67)) qp og);clear qp og;unfold Nd.agg at CA;simp only at CA
     have HTOP:Hid (wU0 ⟨k,(k:Int)+L,xs,xl,xt,xc-B,1⟩=jX ls k (k+(bD (bl xr)).length) ⟨xr,xs,xl,xt,xc⟩):=by
      show _=_
      rw[<-fC1,<-HB.out,<-HL.out];simp
     have vn:IntKind.i64.wrap (xc-B)=xc-B:=qF0 (by omega);clear da hF1 CC agm;go_wp2_with fail
     refine lC 20 (bB 20 []) (by kernel_rfl) (λd _ _ _ _ h=>by cases d<;>exact h) ?_
     iterate 20 (refine aH rfl (λK hK=>?_);go_simp;refine hK _ ?_;clear hK K)
     refine cB ?_;simp only[Ay,Bi];clear q14 q15 z0 z1 z2 z3 z4 ql vn;go_wp2_with fail
     refine CA.out.mono ?_;rintro e w8 ⟨rfl,⟨V2,om⟩,fh⟩;have agn:=GK.trans _ _ _ _ agl (GK.trans _ _ _ _ (GK.of (b:=mb) (aB.drew w7)) fh)
     have HV2:Hid (∃V,iL w8 (mb+1) mb (k*KK+(n+1)) (λy=>cH0 C es ls pl k y\/y∈(X.take (n+1)).map (λe=>jX ls k (k+(bD (bl e.r)).length) e)) V):=⟨V2,om.congr λy=>by
      rw[HTOP.out,HTK.out,Ao,Bg,or_assoc];simp⟩
     have HG8:=Aa agn;clear CA om agl agn fh HTOP HTK;go_wp2_with fail
     go_roundw
     case rel=>exact⟨n+1,pz,by go_num,HG8,HV2⟩
     case measure=>simp[intOf];omega
    ·obtain rfl:n=X.length:=by omega
     have ul:¬((X.length:Nat):Int)<X.length:=by omega
     have vu:=hV.out;rw[Al]at vu;have HV1:=Aa vu;obtain⟨u0,rfl⟩:=exq wr;have mg:=GK.trans _ _ _ _ vf nl.out;have g0:=mg.base HG.out HWM.out;have y0:u0.cell? ⟨ib,0,none⟩=some (.int .i64 k):=aU nl.out y5 (λe=>by have:=Option.some.inj e;simp at this;omega);have x12:u0.cell? ⟨pb,0,none⟩=some (.int .i64 pl):=aU mg HK.out.2.1 (λe=>by have:=Option.some.inj e;simp at this;omega);have x14:u0.cell? ⟨mb+1+1,0,none⟩=_:=aU mg HK.out.2.2.2 (λe=>by have:=Option.some.inj e;simp at this;omega);have x9:u0.cell? ⟨cb,0,none⟩=some (.slice (some ⟨ub,uo,none⟩) C.length rc):=aU mg HK.out.1 (λe=>by have:=Option.some.inj e;simp at this;omega);obtain⟨D,aa,hMB⟩:=HBON.out.kept mg (by omega);have HMB:=Aa hMB;have acn:=aa.size_le;have ry:bm<u0.heap.size:=aa.lt;obtain⟨V1,hF1⟩:=HV1.out;have HF1:=Aa hF1;clear hMB hV vu HV1 hF1 nl pu hb5 HF5 y5 y15;go_wp2_with (first|(at_range;refine wpList_range_own _ rfl _ 79 rfl 87 3 kA0 Tryz.underlying79 _ bm ls.length D rfl aa ?_;intro w0 rj dh lg))
     have gU0:aB u0 w0:=(aB.refl u0).grown dh (λq hq=>by cases hq);go_loopw [] (λwr=>∃(left:Lit->Bool) (jb:Nat),wr.ranges Tryz.prog 87 (plainElem Tryz.prog 3) bm u0.heap.size ls.length D left jb/\jb<=ls.length/\Hid (GK mb u0 wr)/\Hid (∃V,iL wr (mb+1) mb (k*KK+X.length+(ls.length-jb)) (λy=>(cH0 C es ls pl k y\/y∈X.map (λe=>jX ls k (k+(bD (bl e.r)).length) e))\/eJ0 C es ls pl k (wH0 ls left) y) V)) (λwr=>wr.rangeLeft bm u0.heap.size)
     case atStart=>exact⟨_,_,rj,acn,GK.of gU0,V1,((HF1.out.grows gU0).mono (by omega)).congr λy=>⟨Or.inl,λh=>h.elim id λ⟨r,s,hv,_⟩=>absurd hv (tJ0 HMB.out r s)⟩⟩
     case round =>
      obtain⟨left,jb,ik,ci,hgu,hV⟩:=hrel;go_wp2_with (first|(at_next;refine wpList_next_ranges _ rfl _ rfl 87 kA0 (plainElem Tryz.prog 3) (λx:ByteArray×ByteArray => .agg #[.string x.1,.string x.2]) (Value.int .i64) (λkey kl hk=>by obtain⟨r,s,_,_,hx,_⟩:=rB0 hk;exact⟨(r,s),hx⟩) (λv y hv=>by obtain⟨c,hc,_⟩:=plainElem_int_inv Tryz.underlying3 hv;exact⟨c,hc⟩) bm u0.heap.size ls.length D left jb rfl ik ?_ ?_))
      ·intro rk s9
       have k9w:=aU hgu.out x9 (λe=>by have:=Option.some.inj e;simp at this;omega);have y15:=aU hgu.out y0 (λe=>by have:=Option.some.inj e;simp at this;omega);have p12:=aU hgu.out x12 (λe=>by have:=Option.some.inj e;simp at this;omega);have f14:=aU hgu.out x14 (λe=>by have:=Option.some.inj e;simp at this;omega);have adn:=GK.trans _ _ _ _ mg hgu.out;obtain⟨V2,om⟩:=hV.out;have hub:∀x,(some ⟨ub,uo,none⟩:Option Addr)=some x->x.block≠mb:=λx hx=>by cases hx;show ub≠mb;omega
       have hw0:iL wr (mb+1) mb (k*KK+X.length+ls.length+0) (λy=>((cH0 C es ls pl k y\/y∈X.map (λe=>jX ls k (k+(bD (bl e.r)).length) e))\/eJ0 C es ls pl k (λr s=>∃x∈ls,x.r=r/\x.s=s) y)\/y∈([]:List (Nat×Int)).map (λx=>xE0 C pl k x.1 x.2)) V2:=(om.mono (by omega)).congr λy=>by
        rw[show eJ0 C es ls pl k (wH0 ls left) y↔eJ0 C es ls pl k (λr s=>∃x∈ls,x.r=r/\x.s=s) y from by
         unfold eJ0;refine exists_congr λr=>exists_congr λs=>and_congr_left λ_=>jA1 HLO.out s9 r s]
        simp
       have og:k*KK+X.length+ls.length+100<maxLen:=by
        have:k*KK<=64*1000000:=Ax (by omega) (by omega)
        unfold maxLen;omega
       have CU:=oY0 40 #[.pointer (some ⟨mb+1+1,0,none⟩),.pointer (some ⟨ib,0,none⟩),.pointer (some ⟨cb,0,none⟩),.pointer (some ⟨pb,0,none⟩)] (enters_of Tryz.func40 (by kernel_rfl) rfl) (rS C) ub uo rc k wr (by omega) (by omega)
        (λxs W=>GK mb wr W/\∃V,iL W (mb+1) mb (k*KK+X.length+ls.length+xs.length) (λy=>((cH0 C es ls pl k y\/y∈X.map (λe=>jX ls k (k+(bD (bl e.r)).length) e))\/eJ0 C es ls pl k (λr s=>∃x∈ls,x.r=r/\x.s=s) y)\/y∈xs.map (λx=>xE0 C pl k x.1 x.2)) V)
        (λxs W hW=>(GK.trans _ _ _ _ adn hW.1).at_ HAT.out hub)
        (λxs t q W h0 ⟨nj,V,hV⟩ h1 h2 h3=>by
         have ait:=GK.trans _ _ _ _ adn nj;have hq:0<=q/\q<=10000:=by omega
         have qp:gP0 ⟨k,t,runesBytes ((((rS C).drop k).take (t-k)).map λn:Nat=>(n:Int)),pl,pl,q,3⟩:=by
          rw[vH HCO.out]
          have:=HRS.out k t
          have:=HPL.out
          exact oM0 (by omega) (by omega) (by omega) (by omega) (by omega) (by omega) (by omega)
         have h:=iR1 (mb+1+1) ib cb pb ub uo rc (rS C) k t pl q (mb+1) mb (k*KK+X.length+ls.length+xs.length) _ V W hV (by omega) h2 (by omega) aip qp (by omega) (ait.at_ HAT.out hub)
          (aU nj f14 (λe=>by have:=Option.some.inj e;simp at this;omega)) (aU nj y15 (λe=>by have:=Option.some.inj e;simp at this;omega)) (by rw[ah];exact aU nj k9w (λe=>by have:=Option.some.inj e;simp at this;omega)) (aU nj p12 (λe=>by have:=Option.some.inj e;simp at this;omega))
         refine h.mono λe W' ⟨he,⟨V',hF'⟩,hg'⟩=>⟨he,GK.trans _ _ _ _ nj hg',V',?_⟩;rw[Ab];refine hF'.congr λy=>?_;rw[lJ1 (by exact hq.1),vH HCO.out,Ao,Bg,or_assoc];simp[xE0])
        ⟨GK.refl _ _,V2,hw0⟩
       rw[ah]at CU;have CU:=Aa CU;clear om hw0 hV hgu s9 rk;go_wp2_with fail
       refine CU.out.mono ?_;rintro e w5 ⟨rfl,hgu,V3,hF3⟩;rw[lM1]at hF3
       have hF4:iL w5 (mb+1) mb ((k+1)*KK) (cH0 C es ls pl (k+1)) V3:=(hF3.mono (by have:(tF0 (rS C) k).length<=2:=(by unfold tF0;split<;>simp);rw[Nat.succ_mul];omega)).congr λy=>by
        rw[bT1,fX1 HDK.out,<-HXE2.out,<-HXE.out];simp only[or_assoc]
       have vf:=GK.trans _ _ _ _ adn hgu;have aiu:=aU vf HK.out.2.2.1 (λe=>Bc mb (Option.some.inj e));obtain⟨D3,au,hM3⟩:=hF4.own;have hml:=λty=>au.len (t:=82) Tryz.underlying82 ty;rw[hM3.size]at hml;have HF4:=Aa hF4;have HG5:=Aa vf;have HFV:=HFW (k+1) (by omega) V3 hF4.bst;have gW5:=vf.base HG.out HWM.out;clear hF3 hF4 CU au hM3 og;by_cases cu:10000<V3.length
       ·have lj:(10000:Int)<V3.length:=by omega
        have HP:=cP0 (L:=NL) (by have:=HFV.out;omega) gW5;clear cu HFV;go_wp2_with fail
        go_ret2;exact HP
       ·have lj:¬(10000:Int)<V3.length:=by omega
        go_wp2_with fail
        go_roundw
        case rel=>exact⟨k+1,ae,by go_num,HG5,V3,HF4.out,by omega⟩
        case measure=>simp[intOf];omega
      ·intro r t c kl yd yp w2 fi er jq hv ac fm ay af ew hen
       obtain⟨r',t',hrm,htm,ex,rfl⟩:=rB0 er;obtain⟨rfl,rfl⟩:r=r'/\t=t':=by simpa [wA0] using ex
       obtain⟨c',ec,ez,hwc⟩:=plainElem_int_inv Tryz.underlying3 hv;obtain rfl:c=c':=by simpa using ec
       obtain rfl:yd=.lit (.int .i64 c):=(Prod.mk.inj ez).1;have dz:∃x∈ls,x.r=r/\x.s=t:=(HMB.out.has r t hrm htm).1 (Maps.has_true_of_atKey ac)
       have hc:c=eK ls r t:=by
        have:=HMB.out.at_ r t hrm htm
        rw[ac]at this;simpa using this
       have hz:r.size<=1048576/\t.size<=1048576:=by obtain⟨x,hx,rfl,rfl⟩:=dz;exact HLZ.out x hx
       have hcr:=oJ ls r t;rw[<-hc]at hcr;have HC:=Aa hc;have HMEM:=Aa dz;have mc:fi<=ls.length:=by omega
       have HG2:Hid (GK mb u0 w2):=World.grownBy.andThen hgu.out af (λj hj=>by cases hj;exact Or.inl (Af _));obtain⟨V2,ago⟩:=hV.out;have om:=ago.kept af (by have:=mg.size;have:=HZ.out;omega) (by have:=mg.size;have:=HZ.out;omega);clear ago;clear er ex ac hv ec ez jq hwc hc dz hV ew;obtain⟨wb,hwb⟩:=exq w2.heap.size;obtain⟨Wb,qw⟩:=exq (w2.alloc (.cells #[.string r,.string t] 87));have gb:aB w2 Wb:=by rw[qw];exact aB.alloc _ _
       have b0:Wb.cell? ⟨wb,0,none⟩=some (.string r):=by rw[qw,hwb];exact aT w2 _ _ (0,0) 0 _ rfl
       have b1:Wb.cell? ⟨wb,1,none⟩=some (.string t):=by rw[qw,hwb];exact aT w2 _ _ (0,0) 1 _ rfl
       have agp:=GK.trans _ _ _ _ mg (GK.trans _ _ _ _ HG2.out (GK.of (b:=mb) gb));have gwb:=agp.base HG.out HWM.out;have hbK:∀(W:World),aB Wb W->GK mb W0 W:=λW hW=>GK.trans _ _ _ _ agp (GK.of (b:=mb) hW);by_cases e1:r.toList=[]
       ·have ym:r.size=0:=by rw[Bh]at e1;rw[Bo,e1];rfl
        clear hwb;go_wp2_with fail
        rw[<-qw];clear qw
        have HNO:Hid (¬okL C es k r t):=λag=>by
         unfold okL at ag;rw[<-HXE2.out]at ag;exact ag.1 ym
        have HV3:Hid (∃V,iL Wb (mb+1) mb (k*KK+X.length+(ls.length-fi)) (λy=>(cH0 C es ls pl k y\/y∈X.map (λe=>jX ls k (k+(bD (bl e.r)).length) e))\/eJ0 C es ls pl k (wH0 ls λz=>left z && !z.sameKey (klW r t)) y) V):=⟨V2,((om.grows (gb)).mono (by omega)).congr λy=>or_congr_right (qA (mS hrm htm HMEM.out) HNO.out y)⟩;have HG3:=Aa (GK.trans _ _ _ _ HG2.out (GK.of (b:=mb) (gb)));have fj:=fD fm (gb);have i5:(Wb).rangeLeft bm u0.heap.size<wr.rangeLeft bm u0.heap.size:=by rw[fj.left_eq,ik.left_eq];exact ay
        clear om HNO fm ik;go_roundw
        case rel=>exact⟨_,fi,fj,mc,HG3,HV3⟩
        case measure=>exact i5
       ·have e2:r.toList.isEmpty=false:=by simpa using e1
        have cH:Calls Tryz.prog 33 #[.string R,.string r] Wb _:=Any.strings_HasPrefix Tryz.laysHasPrefix R r Wb;rw[hE1]at cH;have CH:=Aa cH;have HWB:=Aa hwb;clear cH hwb;go_wp2_with fail
        rw[<-qw,<-HWB.out];clear qw HWB;by_cases hb:lF0 R r=true
        ·rw[hb]at CH
         have CV:=Aa (vB0 r Wb (by omega) (HE.out.grows gwb));refine CH.out.mono ?_;rintro e w3 ⟨rfl,rfl⟩;clear CH;go_wp2_with fail
         by_cases hv:Bp r.data.toList=true
         ·rw[hv]at CV
          refine CV.out.mono ?_;rintro e w4 ⟨rfl,ch⟩;have b0:=ch.cell b0;have b1:=ch.cell b1;have CS:=Aa (fT1 t w4 (by omega) (HE.out.grows (gwb.tr ch)));clear CV;go_wp2_with fail
          by_cases hs:surfaceS t=true
          ·rw[hs]at CS
           refine CS.out.mono ?_;rintro e w5 ⟨rfl,bv⟩;have b0:=bv.cell b0;have b1:=bv.cell b1;have g5:=ch.tr bv;have CE:=Aa (uB0 p m es db r w5 HDK.out (by omega) (HD.out.grows (gwb.tr g5)));clear CS;go_wp2_with fail
           refine CE.out.mono ?_;rintro e w6 ⟨v6,rfl,mh,dl⟩;obtain⟨a6,c6,rfl,_,_,qd⟩:=mh.at_ bP0.len;have b0:=dl.cell b0;have b1:=dl.cell b1;have g6:=g5.tr dl
           have uw:(iI es r).length<=9223372036854775807:=by
            have h1:(iI es r).length<=es.length:=Av _ _;have h2:=HDK.out.len;omega
           have CK:=Aa (eE1 (iI es r) a6 c6 wb r t w6 uw qd b0 b1);rw[aV1]at CK;clear CE mh qd uw;go_wp2_with fail
           by_cases hh:kI1 es r t=true
           ·rw[hh]at CK
            refine CK.out.mono ?_;rintro e w7 ⟨rfl,cw⟩;clear CK;go_wp2_with fail
            have HNO:Hid (¬okL C es k r t):=λag=>by
             unfold okL at ag;rw[<-HXE2.out]at ag;rw[hh]at ag;exact absurd ag.2.2.2.2 (by decide)
            have HV3:Hid (∃V,iL w7 (mb+1) mb (k*KK+X.length+(ls.length-fi)) (λy=>(cH0 C es ls pl k y\/y∈X.map (λe=>jX ls k (k+(bD (bl e.r)).length) e))\/eJ0 C es ls pl k (wH0 ls λz=>left z && !z.sameKey (klW r t)) y) V):=⟨V2,((om.grows (gb.tr (g6.tr cw))).mono (by omega)).congr λy=>or_congr_right (qA (mS hrm htm HMEM.out) HNO.out y)⟩;have HG3:=Aa (GK.trans _ _ _ _ HG2.out (GK.of (b:=mb) (gb.tr (g6.tr cw))));have fj:=fD fm (gb.tr (g6.tr cw));have i5:(w7).rangeLeft bm u0.heap.size<wr.rangeLeft bm u0.heap.size:=by rw[fj.left_eq,ik.left_eq];exact ay
            clear om HNO fm ik;go_roundw
            case rel=>exact⟨_,fi,fj,mc,HG3,HV3⟩
            case measure=>exact i5
           ·rw[Am]at hh
            rw[hh]at CK;refine CK.out.mono ?_;rintro e w7 ⟨rfl,cw⟩;have g7:=g6.tr cw;clear CK;go_wp2_with fail
            have ado:=GK.trans _ _ _ _ HG2.out (GK.of (b:=mb) (gb.tr g7));have y7:=aU ado y0 (λe=>by have:=Option.some.inj e;simp at this;omega);have p7:=aU ado x12 (λe=>by have:=Option.some.inj e;simp at this;omega);have f7:=aU ado x14 (λe=>by have:=Option.some.inj e;simp at this;omega);have b0:=cw.cell b0;have b1:=cw.cell b1;have te:=jE hv;have hLb:(bD (bl r)).length<=1048576:=by have:=jH (bl r);rw[dO]at this;omega
            obtain⟨L,hL⟩:=exq (bD (bl r)).length;rw[<-hL]at te hLb;have HL:=Aa hL;have HOKL:Hid (okL C es k r t):=⟨λh0=>e1 (by rw[Bh];exact List.length_eq_zero_iff.1 (by rw[<-Bo];exact h0)),by rw[<-HXE2.out];exact hb,hv,hs,hh⟩;have CC:=Aa (kP r w7.drew (by omega) ((HE.out.grows (gwb.tr g7)).grows (aB.drew w7)));rw[te]at CC;have q14:∀x:Ext aB w7.drew,x.u.cell? ⟨mb+1+1,0,none⟩=_:=aF ((aB.drew w7).cell f7);have q15:∀x:Ext aB w7.drew,x.u.cell? ⟨ib,0,none⟩=some (.int .i64 k):=aF ((aB.drew w7).cell y7);have q12:∀x:Ext aB w7.drew,x.u.cell? ⟨pb,0,none⟩=some (.int .i64 pl):=aF ((aB.drew w7).cell p7);have z0:∀x:Ext aB w7.drew,x.u.cell? ⟨wb,0,none⟩=some (.string r):=aF ((aB.drew w7).cell b0);have z1:∀x:Ext aB w7.drew,x.u.cell? ⟨wb,1,none⟩=some (.string t):=aF ((aB.drew w7).cell b1);have vn:IntKind.i64.wrap (8000-c)=8000-c:=qF0 (by omega);have aku:=HPL.out;clear hL te e1 e2 hb hv hs hh hbK;refine lC 14 (oK [0,1,2,3,4,7,8,9,10,11,12,5,6,13] [5]) (by kernel_rfl) (λd _ _ _ _ h=>by cases d<;>exact h) ?_
            iterate 11 (refine aH rfl (λK hK=>?_);go_simp;refine hK _ ?_;clear hK K)
            refine bH rfl rfl (λK hK=>?_);go_simp;refine(CC.out).mono ?_;rintro e w8 ⟨rfl,fh⟩;refine⟨fh,hK _ _ ?_⟩;clear hK K;iterate 2 (refine aH rfl (λK hK=>?_);go_simp;refine hK _ ?_;clear hK K)
            refine cB ?_;simp only[Ay,Bi];have g8:=gb.tr (g7.tr ((aB.drew w7).tr fh));have qp:gP0 ⟨k,(k:Int)+L,t,pl,pl,8000-c,2⟩:=oM0 (by omega) (by omega) (by omega) (by omega) (by omega) (by omega) (by omega)
            have og:k*KK+X.length+(ls.length-jb)<maxLen:=by
             have:k*KK<=64*1000000:=Ax (by omega) (by omega)
             unfold maxLen;omega
            have CA:=Aa (fV0 ⟨k,(k:Int)+L,t,pl,pl,8000-c,2⟩ (mb+1) mb (k*KK+X.length+(ls.length-jb)) _ V2 w8 (om.grows g8) qp og);unfold Nd.agg at CA;simp only at CA
            have HTOP:Hid (wU0 ⟨k,(k:Int)+L,t,pl,pl,8000-c,2⟩=nD ls pl k (k+(bD (bl r)).length) r t):=by
             show _=_
             rw[<-bO1,<-HC.out,<-HL.out];simp
            have agq:=fD fm g8;have HG8:=Aa (GK.trans _ _ _ _ HG2.out (GK.of (b:=mb) g8));have hit:u0.heap.size≠mb:=by have:=mg.size;have:=HZ.out;omega
            clear q14 q15 q12 z0 z1 vn qp og om fm CC y7 p7 f7;go_wp2_with fail
            refine CA.out.mono ?_;rintro e w9 ⟨rfl,⟨V3,hF3⟩,fu⟩
            have HV3:Hid (∃V,iL w9 (mb+1) mb (k*KK+X.length+(ls.length-fi)) (λy=>(cH0 C es ls pl k y\/y∈X.map (λe=>jX ls k (k+(bD (bl e.r)).length) e))\/eJ0 C es ls pl k (wH0 ls λz=>left z && !z.sameKey (klW r t)) y) V):=⟨V3,(hF3.mono (by omega)).congr λy=>by
             rw[HTOP.out,or_assoc];exact or_congr_right (bX1 (mS hrm htm HMEM.out) HOKL.out y)⟩
            have HG3:=Aa (GK.trans _ _ _ _ HG8.out fu);have fj:=agq.kept fu (λe=>by have:=Option.some.inj e;omega) (λe=>hit (Option.some.inj e));have i5:w9.rangeLeft bm u0.heap.size<wr.rangeLeft bm u0.heap.size:=by rw[fj.left_eq,ik.left_eq];exact ay
            clear hF3 agq ik CA HTOP fu;go_wp2_with fail
            go_roundw
            case rel=>exact⟨_,fi,fj,mc,HG3,HV3⟩
            case measure=>exact i5
          ·rw[Am]at hs
           rw[hs]at CS;refine CS.out.mono ?_;rintro e w5 ⟨rfl,bv⟩;clear CS;go_wp2_with fail
           have HNO:Hid (¬okL C es k r t):=λag=>by
            unfold okL at ag;rw[<-HXE2.out]at ag;rw[hs]at ag;exact absurd ag.2.2.2.1 (by decide)
           have HV3:Hid (∃V,iL w5 (mb+1) mb (k*KK+X.length+(ls.length-fi)) (λy=>(cH0 C es ls pl k y\/y∈X.map (λe=>jX ls k (k+(bD (bl e.r)).length) e))\/eJ0 C es ls pl k (wH0 ls λz=>left z && !z.sameKey (klW r t)) y) V):=⟨V2,((om.grows (gb.tr (ch.tr bv))).mono (by omega)).congr λy=>or_congr_right (qA (mS hrm htm HMEM.out) HNO.out y)⟩;have HG3:=Aa (GK.trans _ _ _ _ HG2.out (GK.of (b:=mb) (gb.tr (ch.tr bv))));have fj:=fD fm (gb.tr (ch.tr bv));have i5:(w5).rangeLeft bm u0.heap.size<wr.rangeLeft bm u0.heap.size:=by rw[fj.left_eq,ik.left_eq];exact ay
           clear om HNO fm ik;go_roundw
           case rel=>exact⟨_,fi,fj,mc,HG3,HV3⟩
           case measure=>exact i5
         ·rw[Am]at hv
          rw[hv]at CV;refine CV.out.mono ?_;rintro e w4 ⟨rfl,ch⟩;clear CV;go_wp2_with fail
          have HNO:Hid (¬okL C es k r t):=λag=>by
           unfold okL at ag;rw[<-HXE2.out]at ag;exact absurd (ag.2.2.1.symm.trans hv) (by decide)
          have HV3:Hid (∃V,iL w4 (mb+1) mb (k*KK+X.length+(ls.length-fi)) (λy=>(cH0 C es ls pl k y\/y∈X.map (λe=>jX ls k (k+(bD (bl e.r)).length) e))\/eJ0 C es ls pl k (wH0 ls λz=>left z && !z.sameKey (klW r t)) y) V):=⟨V2,((om.grows (gb.tr ch)).mono (by omega)).congr λy=>or_congr_right (qA (mS hrm htm HMEM.out) HNO.out y)⟩;have HG3:=Aa (GK.trans _ _ _ _ HG2.out (GK.of (b:=mb) (gb.tr ch)));have fj:=fD fm (gb.tr ch);have i5:(w4).rangeLeft bm u0.heap.size<wr.rangeLeft bm u0.heap.size:=by rw[fj.left_eq,ik.left_eq];exact ay
          clear om HNO fm ik;go_roundw
          case rel=>exact⟨_,fi,fj,mc,HG3,HV3⟩
          case measure=>exact i5
        ·rw[Am]at hb
         rw[hb]at CH;refine CH.out.mono ?_;rintro e w3 ⟨rfl,rfl⟩;clear CH;go_wp2_with fail
         have HNO:Hid (¬okL C es k r t):=λag=>by
          unfold okL at ag;rw[<-HXE2.out]at ag;rw[hb]at ag;exact absurd ag.2.1 (by decide)
         have HV3:Hid (∃V,iL w3 (mb+1) mb (k*KK+X.length+(ls.length-fi)) (λy=>(cH0 C es ls pl k y\/y∈X.map (λe=>jX ls k (k+(bD (bl e.r)).length) e))\/eJ0 C es ls pl k (wH0 ls λz=>left z && !z.sameKey (klW r t)) y) V):=⟨V2,((om.grows (gb)).mono (by omega)).congr λy=>or_congr_right (qA (mS hrm htm HMEM.out) HNO.out y)⟩;have HG3:=Aa (GK.trans _ _ _ _ HG2.out (GK.of (b:=mb) (gb)));have fj:=fD fm (gb);have i5:(w3).rangeLeft bm u0.heap.size<wr.rangeLeft bm u0.heap.size:=by rw[fj.left_eq,ik.left_eq];exact ay
         clear om HNO fm ik;go_roundw
         case rel=>exact⟨_,fi,fj,mc,HG3,HV3⟩
         case measure=>exact i5
  ·obtain rfl:k=C.length:=by omega
   have cn:¬((C.length:Nat):Int)<C.length:=by omega
   obtain⟨V,hF,hV0⟩:=hV.out;have aiu:=aU hgk.out HK.out.2.2.1 (λe=>Bc mb (Option.some.inj e));obtain⟨D,aa,hM⟩:=hF.own;have HMN:=Aa hM;have ahz:=hM.size;have HB:=Aa hF.bst;have lf:=hgk.out.base HG.out HWM.out;have hmu:mb<wo.heap.size:=aa.lt;have HFS:=Aa (show wo.heap.size<=wo.heap.size/\w.heap.size<=wo.heap.size from ⟨Af _,lf.size⟩)
   clear hF hM hV;go_wp2_with (first|(at_range;refine wpList_range_own _ rfl _ 82 rfl 51 51 gG Tryz.underlying82 _ mb (C.length*KK) D rfl aa ?_;intro w0 rj dh lg))
   have gU0:aB wo w0:=(aB.refl wo).grown dh (λq hq=>by cases hq);go_loopw [22] (λv wr=>∃(left:Lit->Bool) (jb:Nat) (ys:List Nd),wr.ranges Tryz.prog 51 (eB (H:=Unit)) mb wo.heap.size (C.length*KK) D left jb/\ys.length+jb<=10000/\Hid (nK0 V left ys)/\aX wr wo.heap.size 51 7 dD v ys/\Hid (aB wo wr)) (λ_ wr=>wr.rangeLeft mb wo.heap.size)
   case atStart=>exact⟨_,_,[],rj,by simp only[Ap];omega,HMN.out.start,aX.nil _ _ _ _ _,gU0⟩
   case round =>
    obtain⟨left,jb,ys,ik,cj,hCo,cz,fu⟩:=hrel;go_wp2_with (first|(at_next;refine wpList_next_ranges _ rfl _ rfl 51 gG (eB (H:=Unit)) (λx:Nd => .agg #[.int .i64 x.f,.int .i64 x.t,.string x.s,.int .i64 x.l,.int .i64 x.r,.int .i64 x.c,.int .i64 x.k]) (λx:Nd => .agg #[.int .i64 x.f,.int .i64 x.t,.string x.s,.int .i64 x.l,.int .i64 x.r,.int .i64 x.c,.int .i64 x.k]) (λkey kl hk=>by obtain⟨x,_,hx,_⟩:=qN0 hk;exact⟨x,hx⟩) (λv y hv=>by obtain⟨x,hx,_⟩:=qR hv;exact⟨x,hx⟩) mb wo.heap.size (C.length*KK) D left jb rfl ik ?_ ?_))
    ·intro rk s9
     have hp:=hCo.out.perm HMN.out s9;have HBY:=Aa (HB.out.permd hp);have gv:=hp.length_eq;obtain⟨w9,rfl⟩:=exq wr;have CS:=Aa (zZ0 w9 wo.heap.size _ ys _ HBY.out cz (by omega));have hyl:ys.length=V.length:=gv;clear hp rk s9 hCo;go_wp2_with fail
     refine CS.out.mono ?_;rintro e w10 ⟨rfl,l',hL,m9,et,tc⟩;obtain rfl:NL=l':=HNS.out.unique hL;have gW:=(lf.tr fu.out).grown tc (λq hq=>Aj HFS.out.2 (aZ cz q hq));have HP:=cI0 (L:=NL) (by omega) gW (et.base HFS.out.2);clear CS hL et tc;go_wp2_with fail
     go_ret2;exact HP
    ·intro x y kl yd yp w2 fi er jq hv ac fm ay af ew hen
     obtain⟨x',lz,ex,rfl⟩:=qN0 er
     obtain rfl:x=x':=by
      cases x
      cases x'
      simpa [Nd.agg] using ex
     obtain⟨y',ey,ez⟩:=qR hv
     obtain rfl:y=y':=by
      cases y
      cases y'
      simpa [Nd.agg] using ey
     obtain rfl:yd=ndD y:=(Prod.mk.inj ez).1;obtain⟨z,hz,hzk⟩:=(HMN.out.has x lz).1 (Maps.has_true_of_atKey ac)
     obtain rfl:y=z:=by
      have:=HMN.out.at_ z hz (ndD z)
      rw[hzk,ac]at this;exact pQ0 this
     subst hzk;have HC:=Aa (hCo.out.step HMN.out hz jq);have ws:=aC0 cz ik.owns;have ul:=xR cz ik;have et:=sJ cz af (Or.inr (Ne.symm ul));have fc:aB wo w2:=fu.out.grown af (λq hq=>by cases hq;exact Af _);obtain⟨yf,yt,ys',yl,yr,yc,yk⟩:=y;dsimp only at hen HC
     clear er ex ac hv ey ez jq ew lz hz hCo cz;go_wp2_with (first|(at_builtin;refine sM0 eL1 rfl _ _ rfl wo.heap.size _ ys ⟨yf,yt,ys',yl,yr,yc,yk⟩ rfl et (aB.alloc _ _) _ 1 (by simp) _ rfl rfl (by omega) fc.size ?_;intro v5 w5 ar aco acp))
     have xo:=(fD fm ((aB.alloc _ _).al _)).kept aco ws ul;have d8:=acp wo fc (Af _);have i5:w5.rangeLeft mb wo.heap.size<wr.rangeLeft mb wo.heap.size:=by rw[xo.left_eq,ik.left_eq];exact ay
     clear ik;go_roundw
     case rel=>exact⟨_,fi,_,xo,by simp only[Ab,An,Ap];omega,HC,ar,d8⟩
     case measure=>exact i5
end
section
open Go Go.RowKit Go.Shelf
attribute [local go_sem] aO aM
theorem rE1 {x:yH} (hl:mK x=true) (ag:iK0 x):(∀y∈x.e,yB y)/\(∀y∈x.e,y.r.size<=1099511627776/\y.s.size<=1099511627776)/\(∀y∈x.p,y.name.size<=9223372036854775807):=by
 obtain⟨h1,h2,_⟩:=mC0 hl;exact⟨ag.e,λy hy=>by have:=h2 y hy;omega,λy hy=>by have:=h1 y hy;omega⟩
theorem aP1 (x:yH) (A:cF0) (w:World) (he:Env w) (ag:iK0 x) (hz:∀y∈x.e,y.r.size<=1099511627776/\y.s.size<=1099511627776) (ac:yC w A x) :
  Calls Tryz.prog 18 #[A.agg x] w (dG x.p (cE0 x) x.e w):=by
 have na:=hz;have z8:=ag;have HAT0:=ac;obtain⟨pa,pc,sa,sc,ea,ec⟩:=A;obtain⟨xp,xd,xs,xe⟩:=x;obtain⟨W0,cq⟩:=exq (w.alloc (.cells #[.slice pa xp.length pc,.int .i64 xd,.slice sa xs.length sc,.slice ea xe.length ec] 26));have dh:aB w W0:=by rw[cq];exact aB.alloc _ _
 have da:=λj u h=>aT w #[.slice pa xp.length pc,.int .i64 xd,.slice sa xs.length sc,.slice ea xe.length ec] 26 (0,0) j u h;rw[<-cq]at da;have q0:=da 0 _ rfl;have q1:=da 1 _ rfl;have q2:=da 2 _ rfl;have q3:=da 3 _ rfl;have HQ:=Aa (And.intro q0 (And.intro q1 (And.intro q2 q3)));have HSA:=Aa (ac.grows dh);have HG0:=Aa dh;clear da;have CM:=Aa (vJ0 ⟨xp,xd,xs,xe⟩ ⟨pa,pc,sa,sc,ea,ec⟩ W0.drew z8 (HSA.out.grows (aB.drew W0)));have CB:=λ(W:World) (mv:Value) (h:aB W0 W) (hm:fF1 W mv (cE0 ⟨xp,xd,xs,xe⟩))=>Aa (sV0 xp mv (cE0 ⟨xp,xd,xs,xe⟩) xe pa ea pc ec W (he.grows (aB.trans _ _ _ HG0.out h)) (by have:=z8.lp;simp only at this;omega) z8.le z8.e na (HSA.out.p.grows h) hm (HSA.out.e.grows h));obtain⟨SM,hSM⟩:=exq (cE0 ⟨xp,xd,xs,xe⟩);show Calls _ _ #[.agg #[.slice pa xp.length pc,.int .i64 xd,.slice sa xs.length sc,.slice ea xe.length ec]] _ (dG xp (cE0 ⟨xp,xd,xs,xe⟩) xe w)
 rw[<-hSM]at CM CB ⊢;unfold cF0.agg cF0.cells at CM;simp only at CM;have z0:∀x:Ext aB W0.drew,x.u.cell? ⟨w.heap.size,0,none⟩=some (.slice pa xp.length pc):=aF ((aB.drew W0).cell q0);have z1:∀x:Ext aB W0.drew,x.u.cell? ⟨w.heap.size,1,none⟩=some (.int .i64 xd):=aF ((aB.drew W0).cell q1);have z2:∀x:Ext aB W0.drew,x.u.cell? ⟨w.heap.size,2,none⟩=some (.slice sa xs.length sc):=aF ((aB.drew W0).cell q2);have z3:∀x:Ext aB W0.drew,x.u.cell? ⟨w.heap.size,3,none⟩=some (.slice ea xe.length ec):=aF ((aB.drew W0).cell q3);clear hSM q0 q1 q2 q3 ac ag hz he na z8 HAT0 dh;go_enter Tryz.func18,Tryz.ntmps18
 go_wp2_with fail
 rw[<-cq];clear cq;refine bK (oK [0,1,2,4,5,3,6,7,8,9,10] [3,6]) (by kernel_rfl) (λd _ _ _ _ h=>by cases d<;>exact h) ?_
 iterate 5 (refine aH rfl (λK hK=>?_);go_simp;refine hK _ ?_;clear hK K)
 clear z0 z1 z2 z3;refine bH rfl rfl (λK hK=>?_);go_simp;refine(CM.out).mono ?_;rintro e w1 ⟨mv,rfl,hm,an⟩;refine⟨an,hK _ _ ?_⟩;clear hK K;have nj:=aB.trans _ _ _ HG0.out (aB.trans _ _ _ (aB.drew W0) an);refine bH rfl rfl (λK hK=>?_);go_simp;refine((CB w1 mv (aB.trans _ _ _ (aB.drew W0) an) hm).out).mono ?_;rintro e w2 ⟨af,v,rfl,hv⟩;refine⟨af,hK _ _ ?_⟩;clear hK K;iterate 4 (refine aH rfl (λK hK=>?_);go_simp;refine hK _ ?_;clear hK K)
 refine cB ?_;go_wp2_with fail
 go_ret2;exact⟨aB.trans _ _ _ nj af,_,rfl,hv.base nj.size⟩
theorem jF1:∃i,Tryz.prog.info? 119=some i/\i.zero=some (.agg #[.string ⟨#[]⟩,.slice none 0 0])/\i.size=2/\i.bytes=40:=by
 have h:(Tryz.prog.info? 119).map (λi=>(i.zero,i.size,i.bytes))=some (some (.agg #[.string ⟨#[]⟩,.slice none 0 0]),2,40):=by kernel_rfl
 cases hi:Tryz.prog.info? 119 with
 | none=>rw[hi]at h;cases h
 | some i =>
  rw[hi]at h;simp only[Option.map_some,Option.some.injEq,Prod.mk.injEq]at h;exact⟨i,rfl,h.1,h.2.1,h.2.2⟩
def eB1:bE:=⟨⟨#[]⟩,[],none,0⟩
theorem rP {P:List bE} (h:fO P=0):P.length<=64/\kQ P<=16777216/\∀p∈P,p.name.size<=16:=by
 unfold fO at h;split at h
 ·cases h
 ·split at h
  ·cases h
  ·rename_i h1 h2
   refine⟨by omega,by omega,λp hp=>?_⟩;have h3:¬(!azS p.name)=true:=λe=>h2 (List.any_eq_true.2 ⟨p,hp,e⟩);have h4:azS p.name=true:=by simpa using h3
   unfold azS at h4;simp only[Bool.and_eq_true,decide_eq_true_eq]at h4;exact h4.1.2
theorem iL0 {q:bE}:∀ {P:List bE},q∈P->q.data.length<=kQ P
 | [],h=>by cases h
 | x::P,h=>by
  unfold kQ;rw[Bj,Bk];rcases List.mem_cons.1 h with rfl|h
  ·omega
  ·have:=iL0 h
   unfold kQ at this;omega
theorem xE:∀ {P:List bE},(∀p∈P,p.name.size<=16)->(dN P).length<=P.length*36
 | [],_=>by simp[dN]
 | p::P,h=>by
  have h1:=xE (P:=P) λq hq=>h q (by simp[hq]);have h2:=tC p.name;have h3:=cY p.data.length;have h4:=h p (by simp);unfold dN at h1 ⊢;rw[Bb,Ab,Ab,An];omega
theorem dS0:∀P:List bE,(dQ P).length=kQ P
 | []=>rfl
 | p::P=>by
  have:=dS0 P
  unfold dQ kQ at *;rw[Bb,Ab,this,Bj,Bk]
theorem xO {P:List bE} (h:fO P=0):(dM P).length<=16800000:=by
 obtain⟨h1,h2,h3⟩:=rP h;have h4:=xE h3;have h5:=dS0 P;have h6:=cY P.length;unfold dM;simp only[Ab,An,Ap];omega
def flN (z:Nat->Value) (P:List bE) (k j:Nat):Value:=if j%2=0/\j/2<k then .string (P.getD (j/2) eB1).name else z j
def fsN (z:Nat->Value) (P:List bE) (k j:Nat):Value:=if j<k then .int .i64 ((P.getD j eB1).data.length:Nat) else z j
def flD (z:Nat->Value) (P Q:List bE) (j:Nat):Value:=if j%2=0 then .string (P.getD (j/2) eB1).name else match Q[j/2]? with|some q => .slice q.a q.data.length q.c|none=>z j
theorem iC1 {z:Nat->Value} {P:List bE} {k:Nat} {p:bE} (hp:P[k]?=some p) (j:Nat):(if j=k*2 then Value.string p.name else flN z P k j)=flN z P (k+1) j:=by
 unfold flN;by_cases h:j=k*2
 ·subst h
  rw[if_pos rfl,if_pos ⟨by omega,by omega⟩,show k*2/2=k by omega,Ad,hp]
  rfl
 ·rw[if_neg h]
  by_cases h2:j%2=0/\j/2<k
  ·rw[if_pos h2,if_pos ⟨h2.1,by omega⟩]
  ·rw[if_neg h2,if_neg (by omega)]
theorem jL1 {z:Nat->Value} {P:List bE} {k:Nat} {p:bE} (hp:P[k]?=some p) (j:Nat):(if j=k then Value.int .i64 (p.data.length:Nat) else fsN z P k j)=fsN z P (k+1) j:=by
 unfold fsN;by_cases h:j=k
 ·subst h
  rw[if_pos rfl,if_pos (by omega),Ad,hp];rfl
 ·rw[if_neg h]
  by_cases h3:j<k
  ·rw[if_pos h3,if_pos (by omega)]
  ·rw[if_neg h3,if_neg (by omega)]
theorem oD1 {z:Nat->Value} {P:List bE} {k n:Nat} {p:bE} (hp:P[k]?=some p) (hk:k<n):fsN z P n k=.int .i64 (p.data.length:Nat):=by
 unfold fsN;rw[if_pos hk,Ad,hp];rfl
theorem kU1 (z:Nat->Value) (P:List bE) (j:Nat) (hj:j<P.length*2):flN z P P.length j=flD z P [] j:=by
 unfold flN flD;by_cases h:j%2=0
 ·rw[if_pos ⟨h,by omega⟩,if_pos h]
 ·rw[if_neg (λe=>h e.1),if_neg h];simp
theorem eO1 {z:Nat->Value} {P Q:List bE} (q:bE) (j:Nat):(if j=Q.length*2+1 then Value.slice q.a q.data.length q.c else flD z P Q j)=flD z P (Q++[q]) j:=by
 unfold flD;by_cases h:j=Q.length*2+1
 ·subst h
  rw[if_pos rfl,if_neg (by omega),show (Q.length*2+1)/2=Q.length by omega,List.getElem?_append_right (Af _),Nat.sub_self]
  rfl
 ·rw[if_neg h]
  by_cases h2:j%2=0
  ·rw[if_pos h2,if_pos h2]
  ·rw[if_neg h2,if_neg h2]
   rcases Ba (j/2) Q.length with h3|h3|h3
   ·rw[List.getElem?_append_left h3]
   ·omega
   ·rw[Aw (by omega),Aw (by simp;omega)]
theorem xZ {W:World} {base k g n c:Nat} {e:TypeId} {xs:List Value} (h:W.ownsRow base e k (.slice (some ⟨g,0,none⟩) n c) n xs):∃z,rJ W g (n*k) z:=by
 rcases h.2 with ⟨h1,_⟩|⟨g',cap,cp,hv,hb,hh,hn,hc,hs,ht⟩
 ·cases h1
 ·have e1:=(Value.slice.inj hv).1
  obtain rfl:g=g':=congrArg Addr.block (Option.some.inj e1);refine⟨λj=>cp.getD j undef,λj hj=>?_,λj=>by simp[World.frozen?,hh],(Array.getElem?_eq_some_iff.1 hh).1⟩;have lx:j<cp.size:=by rw[hs];exact Az hj (Nat.mul_le_mul_right k hn)
  simp[World.cell?,hh,lx]
structure fQ0 (w:World) (B:Nat) (P Q:List bE):Prop where
 len:Q.length<=P.length
 bare:Q.map bare=(P.take Q.length).map bare
 at_:∀q∈Q,aG w q.a 1 (q.data.map aY)
 none_:∀q∈Q,q.a=none->q.c=0
 far:∀q∈Q,∀r:Addr,q.a=some r->B<r.block
theorem fQ0.grows {w w':World} {B:Nat} {P Q:List bE} (h:fQ0 w B P Q) (hg:aB w w'):fQ0 w' B P Q:=⟨h.len,h.bare,λq hq=>(h.at_ q hq).grows hg,h.none_,h.far⟩
theorem fQ0.set {w:World} {B:Nat} {P Q:List bE} (h:fQ0 w B P Q) {g i:Nat} (hg:g<=B) (v:Value):fQ0 (w.setCell ⟨g,i,none⟩ v) B P Q :=
 ⟨h.len,h.bare,λq hq=>fP0 (h.at_ q hq) ((aB.refl w).grownBy_set g i v) (λr hr e=>by have:=h.far q hq r hr;have:=Option.some.inj e;omega),h.none_,h.far⟩
theorem kX1 {W:World} {lb:Nat} {P Q:List bE} {z:Nat->Value} (h:rJ W lb (P.length*2) (flD z P Q)) (hl:Q.length=P.length) (hb:Q.map bare=P.map bare):aG W (some ⟨lb,0,none⟩) 2 (Q.map kZ):=λ_=>⟨lb,0,rfl,λi row hi j u hj=>by
 rw[At]at hi
 cases hq:Q[i]? with
 | none=>rw[hq]at hi;cases hi
 | some q =>
  rw[hq]at hi;obtain rfl:kZ q=row:=by simpa using hi
  have hiQ:=(List.getElem?_eq_some_iff.1 hq).1;have lx:j<2:=by have:=(List.getElem?_eq_some_iff.1 hj).1;simpa [kZ] using this
  have hc:=h.cell (i*2+j) (by omega);rw[Nat.zero_add,hc]
  have hn:(P.getD i eB1).name=q.name:=by
   have h1:(Q.map bare)[i]?=some (bare q):=by rw[At,hq];rfl
   rw[hb,At]at h1
   cases hp:P[i]? with
   | none=>rw[hp]at h1;cases h1
   | some p =>
    rw[hp]at h1;have h2:=Option.some.inj h1;rw[Ad,hp];have h3:(bare p).name=(bare q).name:=by rw[h2]
    exact h3
  match j,lx with
  | 0,_ =>
   simp only[kZ,Au,Option.some.injEq]at hj;subst hj;unfold flD;rw[if_pos (by omega),show (i*2+0)/2=i by omega,hn]
  | 1,_ =>
   simp only[kZ,List.getElem?_cons_succ,Au,Option.some.injEq]at hj;subst hj;unfold flD;rw[if_neg (by omega),show (i*2+1)/2=i by omega,hq]⟩
theorem lC1 {w W:World} {v:Value} {t:TypeId} (hg:aB (w.alloc (.cells #[v] t)) W):rJ W w.heap.size 1 (λ_=>v):=by
 obtain⟨h1,h2⟩:=bT hg
 have h0:∀j,j<1->(#[v]:Array Value)[j]?=some v:=λj hj=>by
  obtain rfl:j=0:=by omega
  rfl
 exact⟨λj hj=>h1 j _ (h0 j hj),h2,Az (by simp) hg.size⟩
def nH1 (P:List bE) (w:World) (e:Ending) (w':World):Prop :=
 aB w w'/\∃(Q:List bE) (a:Option Addr) (c:Nat),e=.returned (.tuple #[.slice a Q.length c,.bool true])/\Q.map bare=P.map bare/\aG w' a 2 (Q.map kZ)/\jG w' Q
theorem wK0 (P:List bE) (ba:Option Addr) (bc:Nat) (w:World) (sw:fO P=0) (fg:(dM P).length<=bc) (_hbm:bc<=maxLen) (jh:ba=none->bc=0) (ac:aG w ba 1 ((dM P).map aY)) :
  Calls Tryz.prog 78 #[.slice ba (dM P).length bc] w (nH1 P w):=by
 obtain⟨mm,np,z9⟩:=rP sw;have gm:=xO sw;have HNM:=Aa z9;have HSZ:Hid (∀p∈P,p.data.length<=16777216):=λp hp=>Aj (iL0 hp) np;have HC0:=Aa (iA1 (P:=P) (by omega));have HNA:=Aa (λi p (h:P[i]?=some p)=>lY1 h (by have:=z9 p (Ae h);omega));have HSI:=Aa (λi p (h:P[i]?=some p)=>mJ1 h (by have:=Aj (iL0 (Ae h)) np;omega));have HDA:=Aa (λi p (h:P[i]?=some p)=>nD1 h);have HHZ:=Aa (uN0 P);have HHL:=Aa (λi=>jM1 (P:=P) (i:=i));have HDL:=Aa (λi=>hC1 (P:=P) (i:=i));have HDE:=Aa (cE1 P);have HDZ:=Aa (sU0 P);obtain⟨b,hb⟩:=exq (dM P);rw[<-hb]at HC0 HNA HSI HDA HHL HDL HDE gm fg ac ⊢;obtain⟨n,hn⟩:=exq P.length;rw[<-hn]at HC0 HHZ HDE HDZ mm;have HN:=Aa hn;have HAT:=Aa ac;have HNC:=Aa jh;clear ac hb z9 np sw jh hn
 -- the boxes
 obtain⟨W1,bi⟩:=exq (((w.alloc (.cells #[.slice ba b.length bc] 28)).alloc (.cells #[.int .i64 4] 3)).alloc (.cells #[.bool true] 4));have an:aB w W1:=by rw[bi];exact((aB.alloc _ _).al _).al _
 obtain⟨pb,ed⟩:=exq w.heap.size
 have xw:rJ W1 pb 1 (λ_ => .slice ba b.length bc):=by
  rw[bi,ed];exact lC1 ((aB.alloc _ _).al _)
 have hA1:rJ W1 (pb+1) 1 (λ_ => .int .i64 4):=by
  rw[bi,ed];have h:=lC1 (w:=w.alloc (.cells #[.slice ba b.length bc] 28)) (v:=.int .i64 4) (t:=3) (W:=((w.alloc (.cells #[.slice ba b.length bc] 28)).alloc (.cells #[.int .i64 4] 3)).alloc (.cells #[.bool true] 4)) (aB.alloc _ _);rw[show (w.alloc (.cells #[.slice ba b.length bc] 28)).heap.size=w.heap.size+1 by simp]at h
  exact h
 have lq:rJ W1 (pb+1+1) 1 (λ_ => .bool true):=by
  rw[bi,ed];have h:=lC1 (w:=(w.alloc (.cells #[.slice ba b.length bc] 28)).alloc (.cells #[.int .i64 4] 3)) (v:=.bool true) (t:=4) (W:=((w.alloc (.cells #[.slice ba b.length bc] 28)).alloc (.cells #[.int .i64 4] 3)).alloc (.cells #[.bool true] 4)) (aB.refl _);rw[show ((w.alloc (.cells #[.slice ba b.length bc] 28)).alloc (.cells #[.int .i64 4] 3)).heap.size=w.heap.size+1+1 by simp]at h
  exact h
 have HG1:=Aa an;have HPB:=Aa ed;have eg:=lF1;have cb:=xw.cell 0 (by decide);have ca:=hA1.cell 0 (by decide);have co:=lq.cell 0 (by decide);have CN:=Aa (sA0 b ba bc 4 n (putU n).length pb (pb+1) (pb+1+1) 64 W1 (by have:=HHL.out 0;have:=HHZ.out;omega) (by omega) (HAT.out.grows an) HC0.out mm (by decide) cb ca co (hA1.froz 0));have l9:=λ(Y:World)=>gR1 n Y (by omega);obtain⟨iu,hiu,hzu,hsu,ry⟩:=jF1;clear an;go_enter Tryz.func78,Tryz.ntmps78
 go_wp2_with fail
 rw[<-bi,<-HPB.out];clear bi ed cb ca co;refine CN.out.mono ?_;rintro e w3 ⟨rfl,w2,af,rfl⟩;obtain⟨k0,ow⟩:=exq (4+(putU n).length);rw[<-ow]at HHZ ⊢;have k7:=(xw.grows af).other (b':=pb+1) (j':=0) (by omega) (.int .i64 (k0:Nat));have tu:=(lq.grows af).other (b':=pb+1) (j':=0) (by omega) (.int .i64 (k0:Nat));have hA2:=((hA1.grows af).set (k:=0) (by decide) (.int .i64 (k0:Nat))).congr (g:=λ_ => .int .i64 (k0:Nat)) (λj hj=>by rw[if_pos (by omega)]);have nc:=lq.lt;have ax:aB w (w2.setCell ⟨pb+1,0,none⟩ (.int .i64 (k0:Nat))):=(aB.trans _ _ _ HG1.out af).set (by rw[HPB.out];simp) _;have yy:pb+1+1<(w2.setCell ⟨pb+1,0,none⟩ (.int .i64 (k0:Nat))).heap.size:=by have:=af.size;simp;omega
 obtain⟨W3,ep⟩:=exq (w2.setCell ⟨pb+1,0,none⟩ (.int .i64 (k0:Nat)));rw[<-ep]at k7 tu hA2 ax yy ⊢;clear ep xw hA1 lq af CN ow;obtain⟨pa,jk⟩:=exq (pb+1);obtain⟨po,hpo⟩:=exq (pb+1+1);rw[<-hpo]at tu yy ⊢;rw[<-jk]at hA2 ⊢;have adf:pb<pa:=by omega
 have ay:pa<po:=by omega
 have HPA:=Aa (And.intro jk hpo);clear jk hpo;go_wp2_with (at_make;refine wpList_make_full _ rfl _ _ 62 rfl W3.heap.size 119 iu (.agg #[.string ⟨#[]⟩,.slice none 0 0]) 2 Tryz.underlying62 hiu hzu hsu .i64 .i64 _ _ n rfl rfl rfl rfl (by rw[ry];omega) (by unfold maxLen;omega) (Af _) ?_;intro w4 du agr)
 obtain⟨lb,iz⟩:=exq W3.heap.size;rw[<-iz]at du ⊢;obtain⟨zl,hL4⟩:=xZ du;have ch:aB W3 w4:=(aB.refl W3).grown agr (λq hq=>by cases hq);have hmi:=fL0 (w:=w4) (n:=n) (by omega);obtain⟨W5,qz⟩:=exq (w4.alloc (.cells (madeCells #[.int .i64 0] (n*1)) 3));have bv:aB w4 W5:=by rw[qz];exact aB.alloc _ _
 rw[<-qz]at hmi;obtain⟨sb,mq⟩:=exq w4.heap.size;rw[<-mq]at hmi ⊢
 have ags:W5.ownsRow sb 3 1 (.slice (some ⟨sb,0,none⟩) n n) n ((List.replicate n 0).flatMap lK):=by
  have:=hmi
  unfold aX at this;rwa [List.length_replicate]at this
 obtain⟨zs,hS5⟩:=xZ ags;rw[Be]at hS5;have hL5:=hL4.grows bv;have aah:=aB.trans _ _ _ ch bv;have vq:=k7.grows aah;have hO5:=tu.grows aah;have hA5:=hA2.grows aah;have d8:=aB.trans _ _ _ ax aah;have air:po<lb:=by omega
 have adp:lb<sb:=by rw[mq];exact hL4.lt
 rw[Be]at qz;try rw[<-qz]
 have HG5:=Aa d8;clear hmi ags du agr hL4 ch bv aah k7 tu hA2 ax d8 iz mq qz hiu hzu hsu ry yy nc;go_loopw [9] (λi wr=>∃(k:Nat),k<=n/\i=.int .i64 k/\rJ wr pb 1 (λ_ => .slice ba b.length bc)/\rJ wr pa 1 (λ_ => .int .i64 (hposP P k:Nat))/\rJ wr po 1 (λ_ => .bool true)/\rJ wr lb (n*2) (flN zl P k)/\rJ wr sb n (fsN zs P k)/\aB w wr) (λi _=>n-(intOf i).toNat)
 case atStart=>exact⟨0,Ah _,rfl,vq,by rw[HHZ.out];exact hA5,hO5,hL5.congr (λj _=>by unfold flN;rw[if_neg (by omega)]),hS5.congr (λj _=>by unfold fsN;rw[if_neg (by omega)]),HG5.out⟩
 case round =>
  clear vq hO5 hA5 hL5 hS5;obtain⟨k,hk,rfl,hB,hA,hO,hL,hS,hg⟩:=hrel;by_cases ae:k<n
  ·obtain⟨p,hp⟩:∃p,P[k]?=some p:=⟨_,Ac (by rw[<-HN.out];exact ae)⟩
   have hpm:=Ae hp;have hz1:=HNM.out p hpm;have oz:=HSZ.out p hpm;have cn:(k:Int)<n:=by omega
   have cb:=hB.cell 0 (by decide);have ca:=hA.cell 0 (by decide);have co:=hO.cell 0 (by decide);have CT:=Aa (dV0 b (hposP P k) ba bc wr (HHL.out k) (by omega) fg HNC.out (HAT.out.grows hg));rw[HNA.out k p hp]at CT;unfold uK0 at CT;obtain⟨K1,hK1⟩:=exq (hposP P k+(sC p.name).length);have HR:=Aa (HSI.out k p hp);have HSUC:=Aa (tB0 hp);simp only[<-hK1]at CT;rw[<-hK1]at HR HSUC;have aiv:K1<=b.length:=by have:=HHL.out (k+1);have:=HSUC.out;omega
   obtain⟨kk,og⟩:=exq (hposP P k);rw[<-og]at CT ca;have HKK:=Aa og;clear hK1 og hpm;go_wp2_with fail
   refine CT.out.mono ?_;rintro e w6 ⟨rfl,dl⟩;have xj:=hB.grows dl;have hA6:=hA.grows dl;have hO6:=hO.grows dl;have hL6:=hL.grows dl;have hS6:=hS.grows dl;have cl:=hL6.cell (k*2) (by omega);have fl:=hL6.froz (k*2);have hL7:=(hL6.set (k:=k*2) (by omega) (.string p.name)).congr (g:=λj=>if j=k*2 then Value.string p.name else flN zl P k j) (λj _=>rfl)
   have vw:=hA6.other (b':=lb) (j':=k*2) (by omega) (.string p.name);have ca7:=vw.cell 0 (by decide);have fa7:=vw.froz 0;have hL8:=hL7.other (b':=pa) (j':=0) (by omega) (.int .i64 (K1:Nat));have hA8:=(vw.set (k:=0) (by decide) (.int .i64 (K1:Nat))).congr (g:=λ_ => .int .i64 (K1:Nat)) (λj hj=>by rw[if_pos (by omega)]);have hB8:=(xj.other (b':=lb) (j':=k*2) (by omega) (.string p.name)).other (b':=pa) (j':=0) (by omega) (.int .i64 (K1:Nat));have hO8:=(hO6.other (b':=lb) (j':=k*2) (by omega) (.string p.name)).other (b':=pa) (j':=0) (by omega) (.int .i64 (K1:Nat));have hS8:=(hS6.other (b':=lb) (j':=k*2) (by omega) (.string p.name)).other (b':=pa) (j':=0) (by omega) (.int .i64 (K1:Nat));have acf:w.heap.size<=pa:=by have:=HPA.out;have:=HPB.out;omega
   have fh:aB w ((w6.setCell ⟨lb,k*2,none⟩ (.string p.name)).setCell ⟨pa,0,none⟩ (.int .i64 (K1:Nat))):=((aB.trans _ _ _ hg dl).set (by simp only;omega) _).set acf _;obtain⟨W8,mi⟩:=exq ((w6.setCell ⟨lb,k*2,none⟩ (.string p.name)).setCell ⟨pa,0,none⟩ (.int .i64 (K1:Nat)));rw[<-mi]at hL8 hA8 hB8 hO8 hS8 fh;clear hB hA hO hL hS hg cb ca co xj hA6 hO6 hL6 hS6 hL7 vw dl;go_wp2_with fail
   rw[<-mi];clear mi cl fl ca7 fa7;have cb8:=hB8.cell 0 (by decide);have ca8:=hA8.cell 0 (by decide);have co8:=hO8.cell 0 (by decide);obtain⟨SZ,hSZ⟩:=exq p.data.length;rw[<-hSZ]at HR HSUC oz;have HSZ2:=Aa hSZ;refine(sA0 b ba bc K1 SZ (putU SZ).length pb pa po 16777216 W8 aiv (by omega) (HAT.out.grows fh) HR.out oz (by decide) cb8 ca8 co8 (hA8.froz 0)).mono ?_;rintro e w10 ⟨rfl,w9,fu,rfl⟩;obtain⟨K2,oe⟩:=exq (K1+(putU SZ).length);rw[<-oe]at HSUC ⊢;clear oe hSZ cb8 ca8 co8;have hB9:=(hB8.grows fu).other (b':=pa) (j':=0) (by omega) (.int .i64 (K2:Nat));have hO9:=(hO8.grows fu).other (b':=pa) (j':=0) (by omega) (.int .i64 (K2:Nat));have hL9:=(hL8.grows fu).other (b':=pa) (j':=0) (by omega) (.int .i64 (K2:Nat));have hS9:=(hS8.grows fu).other (b':=pa) (j':=0) (by omega) (.int .i64 (K2:Nat));have hA9:=((hA8.grows fu).set (k:=0) (by decide) (.int .i64 (K2:Nat))).congr (g:=λ_ => .int .i64 (K2:Nat)) (λj hj=>by rw[if_pos (by omega)]);have nr:aB w (w9.setCell ⟨pa,0,none⟩ (.int .i64 (K2:Nat))):=(aB.trans _ _ _ fh fu).set acf _;obtain⟨W10,agt⟩:=exq (w9.setCell ⟨pa,0,none⟩ (.int .i64 (K2:Nat)));rw[<-agt]at hB9 hO9 hL9 hS9 hA9 nr ⊢;have cs:=hS9.cell k ae;have fs:=hS9.froz k;have aiw:=(hS9.set ae (.int .i64 (SZ:Nat))).congr (g:=fsN zs P (k+1)) (λj _=>by rw[HSZ2.out];exact jL1 hp j);have aix:=hB9.other (b':=sb) (j':=k) (by omega) (.int .i64 (SZ:Nat));have aiy:=hO9.other (b':=sb) (j':=k) (by omega) (.int .i64 (SZ:Nat));have aiz:=hA9.other (b':=sb) (j':=k) (by omega) (.int .i64 (SZ:Nat));have ai0:=(hL9.other (b':=sb) (j':=k) (by omega) (.int .i64 (SZ:Nat))).congr (g:=flN zl P (k+1)) (λj _=>iC1 hp j);have ade:=nr.set (p:=⟨sb,k,none⟩) (by simp only;omega) (.int .i64 (SZ:Nat));clear hB8 hO8 hL8 hS8 hA8 fh fu hB9 hO9 hL9 hS9 hA9 nr agt hp;go_wp2_with fail
   go_roundw
   case rel=>exact⟨k+1,ae,by go_num,aix,by rw[HSUC.out];exact aiz,aiy,ai0,aiw,ade⟩
   case measure=>simp[intOf];omega
  ·obtain rfl:n=k:=by omega
   have hL0:rJ wr lb (n*2) (flD zl P []):=hL.congr (λj hj=>by
    have h:=kU1 zl P j (by rw[<-HN.out];exact hj);rw[<-HN.out]at h;exact h)
   rw[<-HDZ.out]at hA;have HGR:=Aa hg;clear hL;go_wp2_with fail
   go_loopw [53] (λi wx=>∃Q:List bE,i=.int .i64 (Q.length:Nat)/\rJ wx pb 1 (λ_ => .slice ba b.length bc)/\rJ wx pa 1 (λ_ => .int .i64 (sM P Q.length:Nat))/\rJ wx po 1 (λ_ => .bool true)/\rJ wx lb (n*2) (flD zl P Q)/\rJ wx sb n (fsN zs P n)/\fQ0 wx sb P Q/\aB w wx) (λi _=>n-(intOf i).toNat)
   case atStart=>exact⟨[],rfl,hB,hA,hO,hL0,hS,⟨Ah _,rfl,λq hq=>by (cases hq),λq hq=>by (cases hq),λq hq=>by (cases hq)⟩,hg⟩
   case round =>
    clear hB hA hO hL0 hS hg;obtain⟨Q,rfl,hB,hA,hO,hL,hS,hQ,hg⟩:=hrel;have hQn:Q.length<=n:=by rw[HN.out];exact hQ.len
    obtain⟨k,hk⟩:=exq Q.length;have HKQ:=Aa hk;by_cases ae:k<n
    ·obtain⟨p,hp⟩:∃p,P[k]?=some p:=⟨_,Ac (by rw[<-HN.out];exact ae)⟩
     have oz:=HSZ.out p (Ae hp);have cs:=hS.cell k ae;rw[oD1 hp ae]at cs;obtain⟨D,hD⟩:=exq (sM P k);have HD:=Aa hD;have HDS:=Aa (dB0 hp);have HDATA:=Aa (HDA.out k p hp);have hDb:D+p.data.length<=b.length:=by rw[hD,<-dB0 hp];exact HDL.out (k+1)
     rw[<-hk,<-hD]at hA;rw[<-hD]at HDS HDATA;obtain⟨SZ,hSZ⟩:=exq p.data.length;rw[<-hSZ]at cs oz hDb HDS HDATA;have HSE:=Aa hSZ;have HP:=Aa hp;have cn:(k:Int)<n:=by omega
     have cb:=hB.cell 0 (by decide);have ca:=hA.cell 0 (by decide);have co:=hO.cell 0 (by decide);have ae1:IntKind.i64.wrap ((b.length:Int)-(D:Int))=((b.length-D:Nat):Int):=by simp[Aq,Ar,Ai];omega
     have lj:¬((b.length-D:Nat):Int)<SZ:=by omega
     have wa:IntKind.i64.wrap ((D:Int)+SZ)=((D+SZ:Nat):Int):=by simp[Aq,Ar,Ai];omega
     have h01:(0:Int)<=(D:Int)+SZ:=by omega
     have h02:(D:Int)+SZ<=bc:=by omega
     have tn:((D:Int)+SZ).toNat=D+SZ:=by omega
     have tk:D<=D+SZ:=by omega
     have tm:D+SZ-D=SZ:=by omega
     obtain⟨a',im,jy,abk⟩:=aM0 (c:=bc) (l:=D) (h:=D+SZ) (k:=1) (HAT.out.grows hg) HNC.out (by omega) (by omega) (by omega);rw[tm]at im;rw[HDATA.out]at jy
     have ahj:(if bc=D then ba else Option.map (λx=>x.add D) ba)=a':=by
      unfold sliced at im;by_cases uq:bc=D
      ·rw[if_pos uq]at im ⊢;exact(Value.slice.inj im).1
      ·rw[if_neg uq]at im ⊢
       have:=(Value.slice.inj im).1
       rw[<-this];congr 1
       funext x
       rw[Be]
     have CC:=Aa (dG0 p.data a' (bc-D) wr (by omega) abk jy);rw[<-hSZ]at CC;rw[<-hk];clear hD hSZ hp im jy abk hk;go_wp2_with fail
     refine CC.out.mono ?_;rintro e w6 ⟨v6,rfl,mh,dl⟩;obtain⟨qa,qc,rfl,kj,ox⟩:=fK mh
     have agu:∀r:Addr,qa=some r->sb<r.block:=λr hr=>by
      have h1:=hS.lt;rcases mh.2 with ⟨e,_⟩|⟨g,cap,cp,e,qt,_⟩
      ·rw[hr]at e;cases (Value.slice.inj e).1
      ·have e1:=(Value.slice.inj e).1
       rw[hr]at e1;cases e1
       simp only;omega
     have xj:=hB.grows dl;have hA6:=hA.grows dl;have hO6:=hO.grows dl;have hL6:=hL.grows dl;have hS6:=hS.grows dl;have hQ6:=hQ.grows dl;rw[<-HSE.out];have cl:=hL6.cell (k*2+1) (by omega);have fl:=hL6.froz (k*2+1);have ca6:=hA6.cell 0 (by decide);have vw:=hA6.other (b':=lb) (j':=k*2+1) (by omega) (.slice qa SZ qc);have ca7:=vw.cell 0 (by decide);have fa7:=vw.froz 0;have hL7:=hL6.set (k:=k*2+1) (by omega) (.slice qa SZ qc);have acf:w.heap.size<=pa:=by have:=HPA.out;have:=HPB.out;omega
     have hL8:=(hL7.other (b':=pa) (j':=0) (by omega) (.int .i64 ((D:Int)+SZ))).congr (g:=flD zl P (Q++[⟨p.name,p.data,qa,qc⟩])) (λj _=>by
      rw[HKQ.out,HSE.out];exact eO1 ⟨p.name,p.data,qa,qc⟩ j)
     have hA8:=(vw.set (k:=0) (by decide) (.int .i64 ((D:Int)+SZ))).congr (g:=λ_ => .int .i64 ((D+SZ:Nat):Int)) (λj hj=>by rw[if_pos (by omega)];push_cast;rfl);have hB8:=(xj.other (b':=lb) (j':=k*2+1) (by omega) (.slice qa SZ qc)).other (b':=pa) (j':=0) (by omega) (.int .i64 ((D:Int)+SZ));have hO8:=(hO6.other (b':=lb) (j':=k*2+1) (by omega) (.slice qa SZ qc)).other (b':=pa) (j':=0) (by omega) (.int .i64 ((D:Int)+SZ));have hS8:=(hS6.other (b':=lb) (j':=k*2+1) (by omega) (.slice qa SZ qc)).other (b':=pa) (j':=0) (by omega) (.int .i64 ((D:Int)+SZ))
     have hQ8:fQ0 ((w6.setCell ⟨lb,k*2+1,none⟩ (.slice qa SZ qc)).setCell ⟨pa,0,none⟩ (.int .i64 ((D:Int)+SZ))) sb P (Q++[⟨p.name,p.data,qa,qc⟩]):=by
      have h1:fQ0 w6 sb P (Q++[⟨p.name,p.data,qa,qc⟩]):=by
       refine⟨by rw[Ab,Ak,<-HKQ.out,<-HN.out];omega,?_,λq hq=>?_,λq hq=>?_,λq hq=>?_⟩
       ·rw[Ab,Ak,List.take_add_one,<-HKQ.out,HP.out,Ao,Ao]
        have:=hQ6.bare
        rw[<-HKQ.out]at this;rw[this];rfl
       ·rcases List.mem_append.1 hq with h|h
        ·exact hQ6.at_ q h
        ·rw[As]at h;subst h;exact kj
       ·rcases List.mem_append.1 hq with h|h
        ·exact hQ6.none_ q h
        ·rw[As]at h;subst h;exact ox
       ·rcases List.mem_append.1 hq with h|h
        ·exact hQ6.far q h
        ·rw[As]at h;subst h;exact agu
      exact(h1.set (by omega) _).set (by omega) _
     have fh:aB w ((w6.setCell ⟨lb,k*2+1,none⟩ (.slice qa SZ qc)).setCell ⟨pa,0,none⟩ (.int .i64 ((D:Int)+SZ))):=((aB.trans _ _ _ hg dl).set (by simp only;omega) _).set acf _;have HLEN:Hid ((Q++[(⟨p.name,p.data,qa,qc⟩:bE)]).length=k+1):=by show _=_;rw[Ab,Ak,<-HKQ.out]
     clear hB hA hO hL hS hQ hg cb ca co xj hA6 hO6 hL6 hS6 hQ6 hL7 vw dl mh kj ox agu CC;go_wp2_with fail
     go_roundw
     case rel=>exact⟨Q++[⟨p.name,p.data,qa,qc⟩],by rw[HLEN.out];go_num,hB8,by rw[HLEN.out,HDS.out];exact hA8,hO8,hL8,hS8,hQ8,fh⟩
     case measure=>simp[intOf];omega
    ·have hkn:k=n:=by omega
     rw[<-hk,hkn,HDE.out]at hA;have hQl:Q.length=P.length:=by rw[<-HN.out];omega
     have sv:Q.map bare=P.map bare:=by have:=hQ.bare;rw[hQl,Al]at this;exact this
     have ja:∀q∈Q,∃p∈P,q.name=p.name/\q.data=p.data:=λq hq=>by
      have h1:bare q∈P.map bare:=by rw[<-sv];exact List.mem_map.2 ⟨q,hq,rfl⟩
      obtain⟨p,hp,he⟩:=List.mem_map.1 h1;have h2:(bare p).name=(bare q).name:=by rw[he]
      have h3:(bare p).data=(bare q).data:=by rw[he]
      exact⟨p,hp,h2.symm,h3.symm⟩
     have HPOST:Hid (aG wr (some ⟨lb,0,none⟩) 2 (Q.map kZ)/\jG wr Q):=⟨kX1 (by rw[<-HN.out];exact hL) hQl sv,hQ.at_,hQ.none_,λq hq=>by
      obtain⟨p,hp,h1,_⟩:=ja q hq;rw[h1];exact Aj (HNM.out p hp) (by decide),λq hq=>by
      obtain⟨p,hp,_,h2⟩:=ja q hq;rw[h2];exact Aj (HSZ.out p hp) (by decide)⟩
     have HBR:=Aa sv;have HQL:=Aa hQl;have z0:∀x:Ext aB wr.drew,x.u.cell? ⟨pb,0,none⟩=some (.slice ba b.length bc):=aF ((aB.drew wr).cell (hB.cell 0 (by decide)));have z1:∀x:Ext aB wr.drew,x.u.cell? ⟨pa,0,none⟩=some (.int .i64 (b.length:Nat)):=aF ((aB.drew wr).cell (hA.cell 0 (by decide)));have z2:∀x:Ext aB wr.drew,x.u.cell? ⟨po,0,none⟩=some (.bool true):=aF ((aB.drew wr).cell (hO.cell 0 (by decide)));have cn:¬(k:Int)<n:=by omega
     have og:((Q.length:Nat):Int)=k:=by rw[hk]
     clear hB hA hO hL hS hQ ja sv hQl;rw[<-hk];clear hk og;go_wp2_with fail
     refine bK (bB 10 []) (by kernel_rfl) (λd _ _ _ _ h=>by cases d<;>exact h) ?_
     iterate 10 (refine aH rfl (λK hK=>?_);go_simp;refine hK _ ?_;clear hK K)
     refine cB ?_;go_wp2_with fail
     go_ret2;refine⟨hg.dr,Q,some ⟨lb,0,none⟩,n,?_,HBR.out,HPOST.out.1.grows (aB.drew wr),HPOST.out.2.grows (aB.drew wr)⟩;rw[HQL.out,<-HN.out];rfl
def dG1 (P:List bE) (w:World) (e:Ending) (w':World):Prop :=
 aB w w'/\∃(Q:List bE) (a:Option Addr) (c:Nat),e=.returned (.tuple #[.slice a Q.length c,.int .i64 0])/\Q.map bare=P.map bare/\aG w' a 2 (Q.map kZ)/\jG w' Q
theorem oU0 (P:List bE) (ba:Option Addr) (bc:Nat) (w:World) (he:Env w) (sw:fO P=0) (fg:(file14 P).length<=bc) (yh:bc<=maxLen) (jh:ba=none->bc=0) (ac:aG w ba 1 ((file14 P).map aY)) :
  Calls Tryz.prog 19 #[.slice ba (file14 P).length bc] w (dG1 P w):=by
 have gm:=xO sw;obtain⟨b,hb⟩:=exq (file14 P);obtain⟨bo,hbo⟩:=exq (dM P);have qq:b=bo++leB 4 (crcSum bo):=by rw[hb,hbo];rfl
 have ah:b.length=bo.length+4:=by rw[qq,Ab,bN]
 have h5:5<=bo.length:=by
  have:1<=(putU P.length).length:=List.length_pos_iff.2 (pY P.length)
  rw[hbo];unfold dM;simp only[Ab,An,Ap];omega
 have adq:(b.take 4).drop 0=[72,78,75,49]:=by
  rw[qq,hbo];unfold dM;simp
 have adr:(b.take bo.length).drop 0=bo:=by rw[qq];simp
 have np:(b.take b.length).drop bo.length=leB 4 (crcSum bo):=by rw[Al,qq];simp
 rw[<-hb]at fg ac ⊢;rw[<-hbo]at gm;have HAT:=Aa ac;have HNC:=Aa jh;have HE:=Aa he;have HB:=Aa hb;have HBO:=Aa hbo;have HCHK:=Aa sw;have HMAG:=Aa adq;have HBOD:=Aa adr;have HSUM:=Aa np;have HLEN:=Aa ah;obtain⟨m,hm⟩:=exq bo.length;rw[<-hm]at ah h5 gm;have HM:=Aa hm;obtain⟨n,hn⟩:=exq b.length;rw[<-hn]at ah fg ⊢;have HN:=Aa hn;subst ah
 have te:(convert 28 9 (.slice ba 4 bc)).run Tryz.prog w=.ok (.string ⟨#[72,78,75,49]⟩) w:=by
  have h:=yK (c:=bc) (cY1 ac 4);rw[show b.take 4=[72,78,75,49] by exact adq]at h
  exact h
 have abn:aG w ba 1 (bo.map aY):=by
  have h:=cY1 ac m;rw[show b.take m=bo by rw[hm];exact adr]at h
  exact h
 obtain⟨a1,iw,ha1,jf⟩:=zD (l:=m) (h:=m+4) ac jh (by omega) (by rw[<-HN.out];exact Af _) (by rw[<-HN.out];exact fg);rw[show (b.take (m+4)).drop m=leB 4 (crcSum bo) by rw[HN.out,hm];exact np]at ha1
 have HA1:=Aa ha1;have HATB:=Aa abn;have hn9:¬((m:Int)+4<9):=by omega
 have h4a:(4:Int)<=bc:=by omega
 have ae1:IntKind.i64.wrap ((m:Int)+4-4)=(m:Int):=by simp[Aq,Ar,Ai];omega
 have wm:IntKind.i64.wrap (m:Int)=(m:Int):=by simp[Aq,Ar,Ai];omega
 have q9:(m:Int)<=bc:=by omega
 have qn:(m:Int)<=(m:Int)+4:=by omega
 have CS:=λ(W:World) (h:aB w W)=>Aa (xF bo ba bc W (HE.out.grows h) (by rw[<-HM.out];omega) (HATB.out.grows h));have CP:=λ(W:World) (h:aB w W)=>Aa (wK0 P ba bc W HCHK.out (by rw[<-HBO.out,<-HM.out];omega) yh HNC.out (by rw[<-HBO.out];exact HATB.out.grows h));rw[<-HBO.out]at CP;rw[<-HM.out]at CS CP;clear ac jh he hb hbo sw adq adr np qq hm hn ha1 abn;go_enter Tryz.func19,Tryz.ntmps19
 have CE:∀(W:World) (s1:Option Addr) (d1:Nat),aB w W->aG W s1 1 ((leB 4 (crcSum bo)).map aY)->Hid (Calls Tryz.prog 76 #[.slice a1 4 (bc-m),.slice s1 4 d1] W λe w'=>e=.returned (.bool true)/\W=w'):=λW s1 d1 hW h1=>by
  have h:=mH (leB 4 (crcSum bo)) (leB 4 (crcSum bo)) a1 s1 (bc-m) d1 W (HA1.out.grows hW) h1;rw[bN]at h;simp only[decide_true]at h;exact h
 have CE2:∀(W:World) (s1:Option Addr) (d1:Nat),aB w W->aG W s1 1 (b.map aY)->Hid (Calls Tryz.prog 76 #[.slice s1 (m+4) d1,.slice ba (m+4) bc] W λe w'=>e=.returned (.bool true)/\W=w'):=λW s1 d1 hW h1=>by
  have h:=mH b b s1 ba d1 bc W h1 (HAT.out.grows hW);rw[<-HN.out]at h;simp only[decide_true]at h;exact h
 go_wp2_with fail
 refine bK (bB 9 [6,7]) (by kernel_rfl) (λd _ _ _ _ h=>by cases d<;>exact h) ?_
 iterate 6 (refine aH rfl (λK hK=>?_);go_simp;refine hK _ ?_;clear hK K)
 refine bH rfl rfl (λK hK=>?_);go_simp;refine((CS w.drew (aB.drew w)).out).mono ?_;rintro e w1 ⟨v1,rfl,agv,an⟩;refine⟨an,hK _ _ ?_⟩;clear hK K;have ck:=aB.trans _ _ _ (aB.drew w) an;obtain⟨s1,d1,rfl,dw,_⟩:=fK agv;rw[bN];refine bH rfl rfl (λK hK=>?_);go_simp;refine((CE w1 s1 d1 ck dw).out).mono ?_;rintro e w2 ⟨rfl,rfl⟩;refine⟨aB.refl _,hK _ _ ?_⟩;clear hK K;iterate 1 (refine aH rfl (λK hK=>?_);go_simp;refine hK _ ?_;clear hK K)
 refine cB ?_;clear agv dw an CS CE;go_wp2_with fail
 refine(CP w1 ck).out.mono ?_;rintro e w3 ⟨ax,Q,qa,qc,rfl,sv,kj,hqp⟩;have ke:=aB.trans _ _ _ ck ax;have hq0:fO Q=0:=by rw[<-qY,sv,qY];exact HCHK.out
 have hqf:file14 Q=b:=by rw[<-nZ,sv,nZ,HB.out]
 have hql:=(rP hq0).1;have CJ:=Aa (pX0 Q qa qc w3 (HE.out.grows ke) (by omega) kj hqp);have HQ:=Aa (And.intro sv (And.intro kj hqp));have HQ0:=Aa hq0;have HQF:=Aa hqf;clear ax sv kj hqp hq0 hqf CP ck;go_wp2_with fail
 refine CJ.out.mono ?_;rintro e w4 ⟨qk,_,ch⟩;obtain⟨v4,rfl,hv4⟩:=qk HQ0.out;rw[HQF.out]at hv4;obtain⟨s4,d4,rfl,hs4,_⟩:=fK hv4;rw[<-HN.out];have jx:=aB.trans _ _ _ ke ch;have CE4:=CE2 w4 s4 d4 jx hs4;clear qk hv4 hs4 CJ CE2;go_wp2_with fail
 refine CE4.out.mono ?_;rintro e w5 ⟨rfl,rfl⟩;go_wp2
 go_ret2;exact⟨jx,Q,qa,qc,rfl,HQ.out.1,HQ.out.2.1.grows ch,HQ.out.2.2.grows ch⟩
theorem wD0 (Q:List bE) (k:Nat) (q:bE) (a:Option Addr) (c:Nat) (w:World) (hl:Q.length<=1000000) (ac:aG w a 2 (Q.map kZ)) (jk:jG w Q) (hq:Q[k]?=some q) (aj:∀j p,j<k->Q[j]?=some p->p.name≠q.name) :
  Calls Tryz.prog 79 #[.slice a Q.length c,.string q.name] w λe w'=>∃v,e=.returned (.tuple #[v,.bool true])/\aX w' w.heap.size 5 1 aY v q.data/\aB w w':=by
 have HAT:=Aa ac;have HPA:=Aa jk;have HNE:=Aa aj;have hkl:=(List.getElem?_eq_some_iff.1 hq).1;have HQ:=Aa hq;clear ac jk aj hq;go_enter Tryz.func79,Tryz.ntmps79
 go_wp2_with fail
 go_loopw [10] (λi wr=>∃(j:Nat),j<=k/\i=.int .i64 j/\aB w wr) (λi _=>Q.length-(intOf i).toNat)
 case atStart=>exact⟨0,Ah _,rfl,aB.refl _⟩
 case round =>
  obtain⟨j,hj,rfl,hg⟩:=hrel;obtain⟨⟨pn,pd,pa,pc⟩,hp⟩:∃p,Q[j]?=some p:=⟨_,Ac (by omega)⟩;have ae:j<Q.length:=by omega
  have gi:(j:Int)<Q.length:=by omega
  obtain⟨ba,oa,rfl,be⟩:=(HAT.out.grows hg).get (aK ae);have c0:wr.cell? ⟨ba,oa+j*2,none⟩=some (.string pn):=be j _ hp 0 _ rfl;have c1:wr.cell? ⟨ba,oa+j*2+1,none⟩=some (.slice pa pd.length pc):=be j _ hp 1 _ rfl;obtain⟨W1,bi⟩:=exq (wr.alloc (.cells #[.string pn,.slice pa pd.length pc] 119));have an:aB wr W1:=by rw[bi];exact aB.alloc _ _
  obtain⟨bc,_⟩:=bT (w:=wr) (cs:=#[.string pn,.slice pa pd.length pc]) (t:=119) (w':=W1) (by rw[bi];exact aB.refl _);have b0:=bc 0 _ rfl;have b1:=bc 1 _ rfl;rw[bi]at b0 b1;have ck:=aB.trans _ _ _ hg an;have hpm:=Ae hp;clear bc be;by_cases he:pn=q.name
  ·have mw:j=k:=by
    rcases Bn j k with h|h
    ·exact absurd he (HNE.out j _ h hp)
    ·omega
   have hpq:q=⟨pn,pd,pa,pc⟩:=by
    rw[mw,HQ.out]at hp;exact Option.some.inj hp
   have jn:pd.length<=1099511627776:=HPA.out.data _ hpm;have CC:=Aa (dG0 pd pa pc W1 jn (HPA.out.none_ _ hpm) ((HPA.out.at_ _ hpm).grows ck));have heq:(pn.toList==q.name.toList)=true:=by rw[he];simp
   have HPQ:Hid (q.data=pd):=by show _=_;rw[hpq]
   clear he mw hpq hp hpm;go_wp2_with fail
   rw[<-bi];clear b0 b1 bi;refine CC.out.mono ?_;rintro e w2 ⟨v,rfl,hv,af⟩;go_wp2
   go_ret2;exact⟨_,rfl,by rw[HPQ.out];exact hv.base ck.size,aB.trans _ _ _ ck af⟩
  ·have mw:j<k:=by
    rcases Bn j k with h|h
    ·exact h
    ·obtain rfl:j=k:=by omega
     rw[HQ.out]at hp;exact absurd (by rw[Option.some.inj hp]) he
   have heq:(pn.toList==q.name.toList)=false:=by simpa using λh=>he (kO h)
   clear he hp hpm;go_wp2_with fail
   go_roundw
   case rel=>exact⟨j+1,mw,by go_num,by rw[<-bi];exact ck⟩
   case measure=>simp[intOf];omega
end
end Go.Proofs.YthgklnohcmaopaaGreatDoor
