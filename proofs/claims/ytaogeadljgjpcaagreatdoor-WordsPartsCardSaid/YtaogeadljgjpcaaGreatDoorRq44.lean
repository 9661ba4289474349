/- The texts Dct3 Dct4 R19a Dct5 Wplain Wnodes ImgL SecS SplS FindS, one behind the other. -/
import Derived.Test.YtaogeadljgjpcaaGreatDoorRq43
import Derived.Test.YtaogeadljgjpcaaGreatDoorRq42
import Derived.Test.YtaogeadljgjpcaaGreatDoorRq20
import Derived.Test.YtaogeadljgjpcaaGreatDoorRq40
import Derived.Test.YtaogeadljgjpcaaGreatDoorRq25
import Derived.Test.YtaogeadljgjpcaaGreatDoorRq34
import Derived.Test.YtaogeadljgjpcaaGreatDoorRq2
import Derived.Test.YtaogeadljgjpcaaGreatDoorRq12
import Derived.Test.YtaogeadljgjpcaaGreatDoorRq36
import Derived.Test.YtaogeadljgjpcaaGreatDoorRq28
import Derived.Test.YtaogeadljgjpcaaGreatDoorRq14
import Derived.Test.YtaogeadljgjpcaaGreatDoorRq22
import Derived.Test.YtaogeadljgjpcaaGreatDoorRq37
import Derived.Test.YtaogeadljgjpcaaGreatDoorShelf
import Derived.Maps.Own
import Derived.Maps.RangeWalk
import Derived.Test.YtaogeadljgjpcaaGreatDoorRq39
import Derived.Test.YtaogeadljgjpcaaGreatDoorRq41
open Go.Lib renaming hid → Aa,toList_data → Bh,size_eq → Bo,validD → Bp
open List renaming length_append → Ab,getElem?_eq_getElem → Ac,getD_eq_getElem?_getD → Ad,mem_of_getElem? → Ae,length_singleton → Ak,take_length → Al,length_cons → An,map_append → Ao,length_nil → Ap,mem_singleton → As,getElem?_map → At,getElem?_cons_zero → Au,length_filter_le → Av,getElem?_eq_none → Aw,drop_succ_cons → Ay,flatMap_cons → Bb,range' → Bd,length_map → Bf,mem_append → Bg,drop_zero → Bi,map_cons → Bj,sum_cons → Bk
open Nat renaming le_refl → Af,zero_le → Ah,le_trans → Aj,mul_le_mul → Ax,lt_of_lt_of_le → Az,lt_trichotomy → Ba,succ_ne_self → Bc,mul_one → Be,lt_or_ge → Bn
open Go.World renaming block_lt_of_cell? → Ag
open Go.IntKind renaming signed → Ai,wrap → Aq,bits → Ar
open Bool renaming not_eq_true → Am
set_option maxHeartbeats 16000000
namespace Go.Proofs.YtaogeadljgjpcaaGreatDoor
set_option maxRecDepth 100000
section
open Go Go.RowKit Go.Shelf
attribute [local go_sem] aQ aM
theorem fA1 (l:List Nat) (pb N id a b:Nat) (w:World) (hl:l.length<=1048576) (hn:∀n∈l,n<=1073741824) (hr:nC1 l N id a b) (ac:nD w pb l) :
  Calls Tryz.prog 149 #[.pointer (some ⟨pb,0,none⟩),.int .i64 id,.int .i64 N] w λe w'=>e=.returned (.tuple #[.int .i64 (a:Nat),.int .i64 (b:Nat)])/\aB w w':=by
 obtain⟨h1,h2,h3⟩:=hr;have hid:=(List.getElem?_eq_some_iff.1 h1).1;have CL:=Aa (jQ l pb w ac);have CA:=λ(u:World) (hu:aB w u)=>Aa (nZ l pb id a u hl hn h1 (ac.grows hu));obtain⟨i1,zi⟩:=exq (id+1);have wi:IntKind.i64.wrap ((id:Int)+1)=i1:=by simp[Aq,Ar,Ai];omega
 rw[<-zi]at h2 h3;obtain⟨ll,mh⟩:=exq l.length;rw[<-mh]at CL h2 h3;by_cases ae:i1<ll
 ·have dp:(i1:Int)<ll:=by omega
  have CB:=Aa (nZ l pb i1 b w hl hn (h2 ae) ac);clear ac hn h1 h2 h3 zi mh;go_enter Tryz.func149,Tryz.ntmps149
  go_wp2_with fail
  refine CL.out.mono ?_;rintro e w1 ⟨rfl,rfl⟩;go_wp2_with fail
  refine CB.out.mono ?_;rintro e w2 ⟨rfl,af⟩;go_wp2_with fail
  refine(CA w2 af).out.mono ?_;rintro e w3 ⟨rfl,ay⟩;go_wp2_with fail
  go_ret2;exact⟨rfl,af.tr ay⟩
 ·have dp:¬(i1:Int)<ll:=by omega
  obtain rfl:=h3 ae;clear ac hn h1 h2 h3 zi mh;go_enter Tryz.func149,Tryz.ntmps149
  go_wp2_with fail
  refine CL.out.mono ?_;rintro e w1 ⟨rfl,rfl⟩;go_wp2_with fail
  refine(CA w (aB.refl w)).out.mono ?_;rintro e w3 ⟨rfl,ay⟩;go_wp2_with fail
  go_ret2;exact⟨rfl,ay⟩
theorem kF0 (p:List cO) (m:Mx) (es:List En) (db a b b1 b2:Nat) (w:World) (ag:cK p m es) (ac:gN w db p m es) (ic:a<=b) (hb:b<=es.length) (c1:w.cell? ⟨b1,0,none⟩=some (.int .i64 a)) (c2:w.cell? ⟨b2,0,none⟩=some (.int .i64 b)) :
  Calls Tryz.prog 72 #[.pointer (some ⟨db,0,none⟩),.func (.func 203) #[] #[.pointer (some ⟨b1,0,none⟩),.pointer (some ⟨b2,0,none⟩)]] w λe w'=>∃v,e=.returned v/\aV w' w.heap.size 62 5 bF v ((Bd a (b-a)).map λj=>es.getD j enZero)/\aB w w':=by
 have hn:=ag.len;have h1:=Ag w _ c1;have h2:=Ag w _ c2;have KS:=tA0 7 es.length a b b1 b2 (by decide) ic hb (by omega) (λb=>b<w.heap.size) h1 h2 w (λb hb=>hb) c1 c2;have e:(Bd a (b-a)).length=b-a:=by simp
 refine zF0 p m es db _ _ (Bd a (b-a)) w ag ac (by omega) (enters_of Tryz.func203 (by kernel_rfl) rfl) ?_;rw[e];exact KS
theorem iQ0 (p:List cO) (m:Mx) (es:List En) (db id:Nat) (s:ByteArray) (w:World) (ag:cK p m es) (ac:gN w db p m es) (hs:(readL es)[id]?=some s) :
  Calls Tryz.prog 84 #[.pointer (some ⟨db,0,none⟩),.int .i64 id] w λe w'=>∃v,e=.returned v/\aV w' w.heap.size 62 5 bF v (iF es s)/\aB w w':=by
 obtain⟨a,b,hr,ic,hb,he⟩:=ag.row_r hs;have hn:=ag.len;obtain⟨pf,f1,f2⟩:=ac.f;obtain⟨pi,i1,i2⟩:=ac.i
 have zg:(iX tK es es.length).length<=20000:=by
  have h1:=(eH ag.rd).2.1;rw[dP]at h1;rw[ag.first,kF]
  exact h1
 have CL:∀u,aB w u->Hid (Calls Tryz.prog 135 #[.pointer (some ⟨pi,0,none⟩)] u λe w'=>e=.returned (.int .i64 (es.length:Nat))/\u=w'):=λu hu=>by
  have h:=jQ (es.map (yD (dC es))) pi u (i2.grows hu);rw[Bf]at h;exact h
 have CR:=λ(u:World) (hu:aB w u)=>Aa (fA1 (iX tK es es.length) pf es.length id a b u (by omega) (λn h=>by have:=kP h;omega) hr (f2.grows hu));have CI:=λ(u:World) (b1 b2:Nat) (hu:aB w u) h1 h2=>Aa (kF0 p m es db a b b1 b2 u ag (ac.grows hu) ic hb h1 h2);rw[he]at CI;have z0:∀y:Ext aB w.drew,y.u.cell? ⟨db,4,none⟩=some (.pointer (some ⟨pf,0,none⟩)):=aF ((aB.drew w).cell f1);have z1:∀y:Ext aB w.drew,y.u.cell? ⟨db,5,none⟩=some (.pointer (some ⟨pi,0,none⟩)):=aF ((aB.drew w).cell i1);obtain⟨N,hN⟩:=exq es.length;rw[<-hN]at CL CR;clear ac ag hs hr ic hb he f2 i2 zg hn hN;go_enter Tryz.func84,Tryz.ntmps84
 go_wp2_with fail
 refine bK (bB 17 [11,14,15]) (by kernel_rfl) (λd _ _ _ _ h=>by cases d<;>exact h) ?_
 iterate 10 (refine aH rfl (λK hK=>?_);go_simp;refine hK _ ?_;clear hK K)
 refine aH rfl (λK hK=>?_);go_simp;apply Exists.intro
 refine⟨λx=>?_,hK _ ?_⟩
 ·go_at_call 135;exact dR (CL _ ((aB.drew w).tr x.h)).out
 clear hK K;clear z0 z1;refine bJ rfl rfl (λK hK=>?_);go_simp;refine((CR w.drew (aB.drew w)).out).mono ?_;rintro e w1 ⟨rfl,aq⟩;refine⟨aq,hK _ _ ?_⟩;clear hK K;iterate 2 (refine aH rfl (λK hK=>?_);go_simp;refine hK _ ?_;clear hK K)
 have g1:=(aB.drew w).tr aq;refine bJ rfl rfl (λK hK=>?_);go_simp;refine(pS0 (a:Int) (b:Int) w1).mono ?_;rintro e w2 ⟨rfl,s8⟩;have af:aB w1 w2:=by rw[s8];exact(aB.alloc _ _).al _
 refine⟨af,hK _ _ ?_⟩;clear hK K;have c1:w2.cell? ⟨w1.heap.size,0,none⟩=some (.int .i64 a):=qZ (cs:=#[.int .i64 a]) (t:=3) (by rw[s8];exact aB.alloc _ _) rfl 0 _ rfl
 have c2:w2.cell? ⟨w1.heap.size+1,0,none⟩=some (.int .i64 b):=by
  have:=qZ (w:=w1.alloc (.cells #[.int .i64 a] 3)) (w':=w2) (cs:=#[.int .i64 b]) (t:=3) (by rw[s8];exact aB.refl _) rfl 0 _ rfl
  rwa [World.size_alloc]at this
 have CI2:=CI w2 _ _ (g1.tr af) c1 c2;clear CI CR CL s8;refine bJ rfl rfl (λK hK=>?_);go_simp;refine(CI2.out).mono ?_;rintro e w3 ⟨v,rfl,hv,ay⟩;refine⟨ay,hK _ _ ?_⟩;clear hK K;iterate 1 (refine aH rfl (λK hK=>?_);go_simp;refine hK _ ?_;clear hK K)
 refine bQ ?_;have g2:=g1.tr af;go_wp2_with fail
 go_ret;exact⟨v,rfl,hv.base g2.size,g2.tr ay⟩
end
section
open Go Go.RowKit Go.Shelf
attribute [local go_sem] aQ aM Oper.semAt_some
end
section
open Go Go.RowKit Go.Shelf
attribute [local go_sem] aQ aM
def kindP (p:List cO) (id:Int):Int:=if id<0\/(p.length:Int)<=id then 0 else (p.getD id.toNat ⟨⟨#[]⟩,0⟩).kind
theorem vE0 (p:List cO) (m:Mx) (es:List En) (db:Nat) (s:ByteArray) (w:World) (ag:cK p m es) (hs:s.size<=140737488355328) (ac:gN w db p m es) :
  Calls Tryz.prog 47 #[.pointer (some ⟨db,0,none⟩),.string s] w λe w'=>∃v,e=.returned v/\aV w' w.heap.size 62 5 bF v (iF es s)/\aB w w':=by
 obtain⟨okR,lR,cR⟩:=eH ag.rd;obtain⟨tr,r1,r2⟩:=ac.r;have CF:=Aa (xE0 (bls (readL es)) tr s w okR lR cR (by omega) r2);have hfe:=tO0 (es:=es) okR s;by_cases hm:s∈readL es
 ·obtain⟨j,hj⟩:=List.mem_iff_getElem?.1 hm
  rw[okR.findT_of (uU hj)]at CF;have CR:=λ(u:World) (hu:aB w u)=>Aa (iQ0 p m es db j s u ag (ac.grows hu) hj);clear ac ag okR lR cR r2 hfe hm hj;go_enter Tryz.func47,Tryz.ntmps47
  go_wp2_with fail
  refine CF.out.mono ?_;rintro e w1 ⟨rfl,aq⟩;go_wp2_with fail
  refine(CR w1 aq).out.mono ?_;rintro e w2 ⟨v,rfl,hv,af⟩;go_wp2
  go_ret;exact⟨v,rfl,hv.base aq.size,aq.tr af⟩
 ·have im:kK (bls (readL es)) (bl s)=(0,false):=qE λhc=>hm (by have:=yL.1 hc;rwa [show mkB (bl s)=s from pH s]at this)
  rw[im]at CF hfe;rw[hfe];clear ac ag okR lR cR r2 hfe hm im;go_enter Tryz.func47,Tryz.ntmps47
  go_wp2_with fail
  refine CF.out.mono ?_;rintro e w1 ⟨rfl,aq⟩;go_wp2
  go_ret;exact⟨_,rfl,aV.nil _ _ _ _ _,aq⟩
theorem gV0 (p:List cO) (m:Mx) (es:List En) (db:Nat) (s:ByteArray) (w:World) (ag:cK p m es) (hs:s.size<=140737488355328) (ac:gN w db p m es) :
  Calls Tryz.prog 42 #[.pointer (some ⟨db,0,none⟩),.string s] w λe w'=>∃v,e=.returned v/\aV w' w.heap.size 62 5 bF v (kX0 es s)/\aB w w':=by
 obtain⟨okR,lR,cR⟩:=eH ag.rd;obtain⟨tr,r1,r2⟩:=ac.r;have hn:=ag.len;have CF:=Aa (gT0 (bls (readL es)) tr s w okR lR cR (by omega) r2);rw[aZ1 okR];have HM:=λq hq=>Aa (kL0 (L:=bls (readL es)) (s:=bl s) (q:=q) (n:=s.size) hq);have gm:=okR.hits_256 (s:=bl s) (n:=s.size) (by rw[dJ];exact Af _);generalize hitsL (bls (readL es)) (bl s) s.size=H at CF HM gm ⊢
 have CR:∀q∈H,∀u,aB w u->Hid (Calls Tryz.prog 84 #[.pointer (some ⟨db,0,none⟩),.int .i64 (q.1:Nat)] u λe w'=>∃v,e=.returned v/\aV w' u.heap.size 62 5 bF v (iF es ((readL es).getD q.1 ⟨#[]⟩))/\aB u w'):=λq hq u hu=>by
  have h1:=(HM q hq).out.1;rw[dP]at h1;exact iQ0 p m es db q.1 _ u ag (ac.grows hu) (by rw[Ad,Ac h1];rfl)
 have HLEN:Hid (∀t,(iF es t).length<=20000):=λt=>Aj (Av _ _) hn;obtain⟨f,hf⟩:∃f:Nat×Nat->List En,f=λq=>iF es ((readL es).getD q.1 ⟨#[]⟩):=⟨_,rfl⟩
 have CR2:∀q∈H,∀u,aB w u->Hid (Calls Tryz.prog 84 #[.pointer (some ⟨db,0,none⟩),.int .i64 (q.1:Nat)] u λe w'=>∃v,e=.returned v/\aV w' u.heap.size 62 5 bF v (f q)/\aB u w'):=λq hq u hu=>by
  rw[hf];exact CR q hq u hu
 have HL2:Hid (∀q,(f q).length<=20000):=λq=>by rw[hf];exact HLEN.out _
 rw[<-hf];clear ac ag okR lR cR r2 HM CR HLEN hf hn;go_enter Tryz.func42,Tryz.ntmps42
 go_wp2_with fail
 refine CF.out.mono ?_;rintro e w1 ⟨v1,rfl,ie,aq⟩;obtain⟨a1,c1,rfl,_,_,cu⟩:=ie.at_ jR1.len;have HAT:=Aa cu;have G1:=Aa aq;clear CF ie cu aq;go_wp2_with fail
 go_loopw [5,17] (λv i wr=>∃(k:Nat),k<=H.length/\i=.int .i64 k/\Hid (aV wr w1.heap.size 62 5 bF v ((H.take k).flatMap f)/\((H.take k).flatMap f).length<=k*20000)/\Hid (aB w1 wr)) (λ_ i _=>H.length-(intOf i).toNat)
 case atStart=>exact⟨0,Ah _,rfl,⟨aV.nil _ _ _ _ _,Ah _⟩,aB.refl _⟩
 case round =>
  obtain⟨k,hk,rfl,hO,hg⟩:=hrel;by_cases ae:k<H.length
  ·obtain⟨⟨id,ln⟩,hx⟩:∃x,H[k]?=some x:=⟨_,Ac ae⟩
   obtain⟨ba,oa,rfl,bj⟩:=(HAT.out.grows hg.out).get (aK ae);have c0:wr.cell? ⟨ba,oa+k*2,none⟩=some (.int .i64 id):=bj k _ hx 0 _ rfl;have c1':wr.cell? ⟨ba,oa+k*2+1,none⟩=some (.int .i64 ln):=bj k _ hx 1 _ rfl;have cn:(k:Int)<H.length:=by omega
   obtain⟨W2,ei⟩:=exq (wr.alloc (.cells #[.int .i64 id,.int .i64 ln] 148));have af:aB wr W2:=by rw[ei];exact aB.alloc _ _
   have b0:=aT wr #[.int .i64 id,.int .i64 ln] 148 (0,0) 0 _ rfl;have g12:=hg.out.tr af;have CR1:=CR2 (id,ln) (Ae hx) W2 (G1.out.tr g12)
   have HT:Hid ((H.take k).flatMap f++f (id,ln)=(H.take (k+1)).flatMap f):=by
    show _=_
    rw[bM hx,List.flatMap_append];simp
   have hlf:=HL2.out (id,ln);have kw:=hO.out.1.grows af;have rq:=hO.out.2;generalize (H.take k).flatMap f=bz at kw rq HT;generalize f (id,ln)=news at CR1 HT hlf;have ake:k<=1048576:=by omega
   clear bj hx hO CR2;go_wp2_with fail
   rw[<-ei];clear ei b0;refine CR1.out.mono ?_;rintro e w3 ⟨v3,rfl,m4,ay⟩;obtain⟨a3,c3,rfl,_,_,fq⟩:=m4.at_ aW0.len;have rj:=cJ m4;have g13:=g12.tr ay;have hO3:=kw.grows ay;clear m4 CR1 kw;go_wp2_with (at_builtin;refine zY aW0 rfl _ _ rfl w1.heap.size _ bz news rfl hO3 (aB.refl _) a3 c3 rfl fq rj (by omega) g13.size ?_;intro v7 w7 hO7 hk7 hf7 adf)
   have dd:=adf w1 g13 (Af _);go_wp2_with fail
   go_roundw
   case rel=>exact⟨k+1,ae,by go_num,⟨by rw[<-HT.out];exact hO7,by rw[<-HT.out,Ab];omega⟩,dd⟩
   case measure=>simp[intOf];omega
  ·obtain rfl:k=H.length:=by omega
   have kw:=hO.out.1;rw[Al]at kw;go_wp2_with fail
   go_ret;exact⟨_,rfl,kw.base G1.out.size,G1.out.tr hg.out⟩
theorem wQ0 (p:List cO) (m:Mx) (es:List En) (db:Nat) (w:World) (ac:gN w db p m es) :
  Calls Tryz.prog 23 #[.pointer (some ⟨db,0,none⟩)] w λe w'=>e=.returned (.int .i64 (p.length:Nat))/\w=w':=by
 obtain⟨vP,p1,p2⟩:=ac.p;obtain⟨aP,cP,rfl,_,_,_⟩:=p2.at_ tY.len;clear ac p2;generalize p.length=N at p1 ⊢;go_enter Tryz.func23,Tryz.ntmps23
 go_wp2_with fail
 go_ret;exact⟨rfl,rfl⟩
theorem aL1 (p:List cO) (m:Mx) (es:List En) (db:Nat) (id:Int) (w:World) (ac:gN w db p m es) :
  Calls Tryz.prog 82 #[.pointer (some ⟨db,0,none⟩),.int .i64 id] w λe w'=>e=.returned (.int .i64 (kindP p id))/\w=w':=by
 obtain⟨vP,p1,p2⟩:=ac.p;obtain⟨aP,cP,rfl,_,_,adg⟩:=p2.at_ tY.len;clear ac p2;by_cases h1:id<0
 ·have hk:kindP p id=0:=if_pos (Or.inl h1)
  rw[hk];clear hk adg;go_enter Tryz.func82,Tryz.ntmps82
  go_wp2_with fail
  go_ret;exact⟨rfl,rfl⟩
 ·by_cases h2:(p.length:Int)<=id
  ·have hk:kindP p id=0:=if_pos (Or.inr h2)
   rw[hk];clear hk adg;go_enter Tryz.func82,Tryz.ntmps82
   go_wp2_with fail
   go_ret;exact⟨rfl,rfl⟩
  ·obtain⟨j,rfl⟩:∃j:Nat,id=j:=⟨id.toNat,by omega⟩
   obtain⟨⟨xn,xk⟩,hx⟩:∃x,p[j]?=some x:=⟨_,Ac (by omega)⟩
   have hk:kindP p (j:Int)=xk:=by
    unfold kindP;rw[if_neg (by omega),Int.toNat_natCast,Ad,hx];rfl
   obtain⟨ba,oa,rfl,bj⟩:=adg.get (aK (k:=j) (by omega));have c1:=bj j _ hx 1 _ rfl;have gl:(j:Int)<p.length:=by omega
   rw[hk];clear hk bj hx;go_enter Tryz.func82,Tryz.ntmps82
   go_wp2_with fail
   go_ret;exact⟨rfl,rfl⟩
structure uZ (p:List cO) (n:Nat):Prop where
 le:n=0\/n<p.length
 at_:n≠0->kindP p n=0
 no:∀j:Nat,1<=j->j<p.length->(n=0\/j<n)->kindP p j≠0
def fU0 (p:List cO):Nat->Nat->Nat
 | _,0=>0
 | i,g+1=>if kindP p i=0 then i else fU0 p (i+1) g
def plainP (p:List cO):Nat:=fU0 p 1 (p.length-1)
theorem vJ {p:List cO}:∀(g i:Nat),1<=i->i+g=p.length->(∀j:Nat,1<=j->j<i->kindP p j≠0)->uZ p (fU0 p i g)
 | 0,i,_,hl,hn=>⟨Or.inl rfl,λh=>absurd rfl h,λj h1 h2 _=>hn j h1 (by omega)⟩
 | g+1,i,h1,hl,hn=>by
  unfold fU0;split
  ·rename_i hk
   exact⟨Or.inr (by omega),λ_=>hk,λj j1 j2 j3=>hn j j1 (by omega)⟩
  ·rename_i hk
   refine vJ g (i+1) (by omega) (by omega) λj j1 j2=>?_;by_cases e:j=i
   ·rw[e];exact hk
   ·exact hn j j1 (by omega)
theorem pE0 {p:List cO} (hp:p≠[]):uZ p (plainP p):=vJ _ 1 (Af _) (by have:=List.length_pos_iff.2 hp; omega) (λj h1 h2=>by omega)
theorem uZ.unique {p:List cO} {n m:Nat} (h:uZ p n) (k:uZ p m):n=m:=by
 rcases Ba n m with hl|hl|hl
 ·by_cases h0:n=0
  ·subst h0
   have h1:=k.le;exact absurd (k.at_ (by omega)) (h.no m (by omega) (by omega) (Or.inl rfl))
  ·have h1:=k.le
   exact absurd (h.at_ h0) (k.no n (by omega) (by omega) (Or.inr hl))
 ·exact hl
 ·by_cases h0:m=0
  ·subst h0
   have h1:=h.le;exact absurd (h.at_ (by omega)) (k.no n (by omega) (by omega) (Or.inl rfl))
  ·have h1:=h.le
   exact absurd (k.at_ h0) (h.no m (by omega) (by omega) (Or.inr hl))
theorem vJ0 (p:List cO) (m:Mx) (es:List En) (db:Nat) (w:World) (hp:p≠[]) (hl:p.length<=1048576) (ac:gN w db p m es) :
  Calls Tryz.prog 40 #[.pointer (some ⟨db,0,none⟩)] w λe w'=>e=.returned (.int .i64 (plainP p:Nat))/\w=w':=by
 have CS:=Aa (wQ0 p m es db w ac);have CK:=λ(i:Nat)=>Aa (aL1 p m es db i w ac);have HP:=Aa (pE0 hp);have hp1:1<=p.length:=List.length_pos_iff.2 hp;clear ac hp;go_enter Tryz.func40,Tryz.ntmps40
 go_wp2_with fail
 go_loopw [3] (λi wr=>∃k:Nat,1<=k/\k<=p.length/\i=.int .i64 k/\Hid (∀j:Nat,1<=j->j<k->kindP p j≠0)/\wr=w) (λi _=>p.length-(intOf i).toNat)
 case atStart=>exact⟨1,Af _,hp1,rfl,(λj h1 h2=>by omega),rfl⟩
 case round =>
  obtain⟨k,hk1,hk,rfl,im,rfl⟩:=hrel;by_cases ae:k<p.length
  ·have cn:(k:Int)<p.length:=by omega
   have CK2:=CK k;by_cases h0:kindP p (k:Nat)=0
   ·have HR:Hid (uZ p k):=⟨Or.inr ae,λ_=>h0,λj j1 j2 j3=>im.out j j1 (by omega)⟩
    have HE:Hid (plainP p=k):=HP.out.unique HR.out;rw[h0]at CK2;clear CK im h0;go_wp2_with (first|(go_at_call 23;refine CS.out.mono ?_;rintro e w1 ⟨rfl,rfl⟩)|(go_at_call 82;refine CK2.out.mono ?_;rintro e w2 ⟨rfl,rfl⟩))
    go_ret;exact⟨by rw[HE.out];rfl,rfl⟩
   ·have hb:(kindP p (k:Nat)==0)=false:=by simpa using h0
    have HN:Hid (∀j:Nat,1<=j->j<k+1->kindP p j≠0):=λj j1 j2=>by
     by_cases e:j=k
     ·rw[e];exact h0
     ·exact im.out j j1 (by omega)
    generalize kindP p (k:Nat)=q at CK2 hb;clear CK im h0;go_wp2_with (first|(go_at_call 23;refine CS.out.mono ?_;rintro e w1 ⟨rfl,rfl⟩)|(go_at_call 82;refine CK2.out.mono ?_;rintro e w2 ⟨rfl,rfl⟩))
    go_roundw
    case rel=>exact⟨k+1,by omega,ae,by go_num,HN,trivial⟩
    case measure=>simp[intOf];omega
  ·obtain rfl:k=p.length:=by omega
   have cn:¬((p.length:Nat):Int)<p.length:=by omega
   have HE:Hid (plainP p=0):=HP.out.unique ⟨Or.inl rfl,λh=>absurd rfl h,λj j1 j2 _=>im.out j j1 j2⟩;clear CK im;go_wp2_with (go_at_call 23;refine CS.out.mono ?_;rintro e w1 ⟨rfl,rfl⟩)
   go_ret;exact⟨by rw[HE.out];rfl,rfl⟩
end
section
open Go Go.RowKit Go.Shelf
attribute [local go_sem] aQ aM
theorem hU0 {P:Program} {w:World} {a:Addr} {m:Mode} (fn:Fn) (first captured:Array Value):(store a (.func fn first captured) m).run P w=stored P w a (.func fn first captured) m:=run_store P w a _ m rfl
attribute [local go_sem] hU0
def zK (L:List Nd) (w:World) (e:Ending) (w':World):Prop :=
 aB w w'/\∃v,e=.returned (.tuple #[v,.int .i64 (if L.length<=10000 then 0 else 7)])/\aV w' w.heap.size 49 7 dX v (if L.length<=10000 then L else [])
theorem bY0 {L:List Nd} {w w':World} (h:¬L.length<=10000) (hg:aB w w'):zK L w (.returned (.tuple #[.slice none 0 0,.int .i64 7])) w' :=
 ⟨hg,_,by rw[if_neg h],by rw[if_neg h];exact aV.nil _ _ _ _ _⟩
theorem cB0 {L:List Nd} {w w':World} {v:Value} (h:L.length<=10000) (hg:aB w w') (ho:aV w' w.heap.size 49 7 dX v L):zK L w (.returned (.tuple #[v,.int .i64 0])) w' :=
 ⟨hg,_,by rw[if_pos h],by rw[if_pos h];exact ho⟩
theorem eB0 (p:List cO) (m:Mx) (es:List En) (db:Nat) (s:ByteArray) (C:List (List UInt8)) (ls:List Lrn) (la:Option Addr) (lc:Nat) (w:World) (he:Env w) (hdk:cK p m es) (ac:gN w db p m es)
  (hC:iQ C) (hf:C.flatten=bl s) (h0:C≠[]) (me:C.length<=64) (hp:p≠[]) (q7:ls.length<=100000) (iq:∀x∈ls,fK0 x) (hlz:∀x∈ls,x.r.size<=1048576/\x.s.size<=1048576) (hla:aG w la 3 (ls.map iW)) (du:s.size<=1048576) (qh:wchk s=0) :
  Calls Tryz.prog 18 #[.pointer (some ⟨db,0,none⟩),.string s,.slice la ls.length lc] w (zK (fS C es ls (plainP p:Nat)) w):=by
 have aid:p.length<=1048576:=by have:=(eV (eU hdk.chk).2.2.1).1;omega
 have jh:Bp s.data.toList=true:=by
  have:=(fR hC).1
  rw[hf]at this;exact this
 have hrn:bD s.data.toList=uP C:=by
  have:=(fR hC).2
  rw[hf]at this;exact this
 have HRS:Hid (∀k j,(ptC C k j).size<=1048576):=λk j=>by
  have h1:=yP0 C k j;rw[hf,dJ]at h1;omega
 have CCk:=Aa (qN s w (by omega) he);rw[qh]at CCk;have CRn:=λ(u:World) (hu:aB w u)=>Aa (uF0 s u (by omega) (he.grows hu) jh);rw[hrn]at CRn;have HD:=Aa ac;have HE:=Aa he;have HDK:=Aa hdk;have HCO:=Aa hC;have HLO:=Aa iq;have HLZ:=Aa hlz;have HLA:=Aa hla;have HNS:=Aa (dY0 hC hdk ls (plainP p:Nat));have HFW:=λ(k:Nat) (hk:k<=C.length) (V:List Nd) (hV:Bests (cA0 C es ls (plainP p:Nat) k) V)=>Aa (bE1 hC hdk ls (plainP p:Nat) hk hV);have CBn:=λ(u:World) (hu:aB w u)=>Aa (mY0 ls la lc u (by omega) iq (hla.grows hu));have CPl:=λ(u:World) (hu:aB w u)=>Aa (vJ0 p m es db u hp aid (ac.grows hu));have ah:(uP C).length=C.length:=by unfold uP;rw[Bf]
 rw[ah]at CRn;have HPN:Hid (plainP p<p.length\/plainP p=0):=by have:=(pE0 hp).le;show _\/_;omega
 obtain⟨NL,hNL⟩:=exq (fS C es ls (plainP p:Nat));rw[<-hNL]at HNS HFW ⊢;obtain⟨pl,mm⟩:=exq ((plainP p:Nat):Int);rw[<-mm]at HNS HFW CPl
 have HPL:Hid (0<=pl/\pl<=1048576):=by
  have:=HPN.out
  show _/\_
  omega
 have hcn:C.length≠0:=λh=>h0 (List.length_eq_zero_iff.1 h);clear hNL mm HPN he hdk ac hC hf h0 hp iq hlz hla qh jh hrn;go_enter Tryz.func18,Tryz.ntmps18
 go_wp2_with fail
 refine CCk.out.mono ?_;rintro e w1 ⟨rfl,aq⟩;clear CCk;go_wp2_with fail
 refine(CRn w1 aq).out.mono ?_;rintro e w2 ⟨ra,rc,rfl,⟨akf,aie⟩,jo,af⟩;clear CRn;have g2:=aq.tr af;obtain⟨ub,uo,rfl,bj⟩:=jo.get (enc:=nI) (by rw[<-List.length_pos_iff,ah];omega);obtain⟨W2,ei⟩:=exq (w2.alloc (.cells #[.slice (some ⟨ub,uo,none⟩) C.length rc] 71));obtain⟨cb,m0⟩:=exq w2.heap.size;have gW2:aB w2 W2:=by rw[ei];exact aB.alloc _ _
 have k9:W2.cell? ⟨cb,0,none⟩=some (.slice (some ⟨ub,uo,none⟩) C.length rc):=by rw[ei,m0];exact aT w2 _ _ (0,0) 0 _ rfl
 have zW2:W2.heap.size=w2.heap.size+1:=by rw[ei];simp
 obtain⟨bm,vp⟩:=exq W2.heap.size;have HZ2:=Aa zW2;clear zW2;go_wp2_with fail
 rw[<-ei,<-m0];refine(CBn W2 (g2.tr gW2)).out.mono ?_;rintro e w3 ⟨rfl,ab9,ay⟩;rw[<-vp]at ab9 ⊢;have HBM:=Aa vp;clear vp;have HCB:=Aa m0;clear CBn ei m0;have g3:=(g2.tr gW2).tr ay;have k9':∀a b c d,((((w3.alloc a).alloc b).alloc c).alloc d).cell? ⟨cb,0,none⟩=some (.slice (some ⟨ub,uo,none⟩) C.length rc):=λa b c d=>((((aB.alloc w3 a).al b).al c).al d).cell (ay.cell k9)
 have aif:cb<w3.heap.size/\bm<w3.heap.size/\ub<w3.heap.size:=⟨by have:=ay.size;have:=HCB.out;have:=HZ2.out;omega,ab9.lt,by
  have hub:ub<w2.heap.size:=Ag w2 _ (bj 0 _ (Ac (by rw[ah];omega)) 0 _ rfl)
  have:=ay.size;have:=HZ2.out;omega⟩
 have CP2:=CPl w3 g3;clear CPl;obtain⟨W3,gp⟩:=exq (w3.alloc (.cells #[.int .i64 pl] 3));obtain⟨pb,eo⟩:=exq w3.heap.size;have gW3:aB w3 W3:=by rw[gp];exact aB.alloc _ _
 have k12:W3.cell? ⟨pb,0,none⟩=some (.int .i64 pl):=by rw[gp,eo];exact aT w3 _ _ (0,0) 0 _ rfl
 have zW3:W3.heap.size=w3.heap.size+1:=by rw[gp];simp
 obtain⟨mb,pu⟩:=exq W3.heap.size;obtain⟨W4,ox⟩:=exq (W3.alloc (.map #[] 0));have gW4:aB W3 W4:=by rw[ox];exact aB.alloc _ _
 have zW4:W4.heap.size=mb+1:=by rw[ox,pu];simp
 have ig:W4.ownsMap Tryz.prog 49 (dW (H:=Unit)) mb 0 (.map []):=by rw[ox,pu];exact World.ownsMap_made _ _ _ _
 obtain⟨W5,pq⟩:=exq (W4.alloc (.cells #[.map (some mb)] 85));have gW5:aB W4 W5:=by rw[pq];exact aB.alloc _ _
 have k13:W5.cell? ⟨mb+1,0,none⟩=some (.map (some mb)):=by rw[pq,<-zW4];exact aT W4 _ _ (0,0) 0 _ rfl
 have zW5:W5.heap.size=mb+1+1:=by rw[pq];simp[zW4]
 obtain⟨W0,cq⟩:=exq (W5.alloc (.cells #[.func (.func 41) #[] #[.pointer (some ⟨mb+1,0,none⟩)]] 87));have gW0:aB W5 W0:=by rw[cq];exact aB.alloc _ _
 have k14:W0.cell? ⟨mb+1+1,0,none⟩=some (.func (.func 41) #[] #[.pointer (some ⟨mb+1,0,none⟩)]):=by rw[cq,<-zW5];exact aT W5 _ _ (0,0) 0 _ rfl
 have zW0:W0.heap.size=mb+1+1+1:=by rw[cq];simp[zW5]
 have q6:=@run_makeMap Tryz.prog;go_wp2_with fail
 refine CP2.out.mono ?_;rintro e w9 ⟨rfl,rfl⟩;clear CP2;have e1:w3.heap.size+1=mb:=by rw[pu,zW3]
 have HE1:=Aa e1;have HWS:=Aa (And.intro gp (And.intro ox (And.intro pq cq)));have HPB:=Aa eo;clear e1 gp ox pq cq eo pu;go_wp2_with fail
 rw[HE1.out,<-HWS.out.1,<-HWS.out.2.1,<-HWS.out.2.2.1,<-HWS.out.2.2.2,<-HPB.out];have gW:=g3.tr (gW3.tr (gW4.tr (gW5.tr gW0)));have gg:=gW3.tr (gW4.tr (gW5.tr gW0));have k9:=(ay.tr gg).cell k9;have k12:=(gW4.tr (gW5.tr gW0)).cell k12;have k13:=gW0.cell k13;have HAT:Hid (aG W0 (some ⟨ub,uo,none⟩) 1 ((uP C).map nI)):=jo.grows (gW2.tr (ay.tr gg));have HBON:Hid (sF W0 bm ls.length ls):=ab9.grows gg;have hF0:iI W0 (mb+1) mb 0 (cA0 C es ls pl 0) []:=⟨k13,⟨_,aJ ig (gW5.tr gW0),iW1⟩,⟨λx hx=>by (cases hx),λy ⟨i,hi,_⟩=>by omega,List.Pairwise.nil⟩⟩;have aig:cb<mb/\pb<mb/\bm<mb/\ub<mb:=by have:=HE1.out;have:=HPB.out;omega
 have HG:=Aa gW;have HWM:Hid (w.heap.size<=mb):=by have:=g3.size;have:=HE1.out;show _<=_;omega
 have HK:=Aa (And.intro k9 (And.intro k12 (And.intro k13 k14)));have HZ:=Aa zW0;clear HWS q6 k9' aq af ay g2 gW2 g3 gW3 gW4 gW5 gW0 gW gg zW3 zW4 zW5 zW0 HZ2 HBM HE1 HPB HCB aif ig jo bj ab9 k12 k13 k14 k9;obtain⟨KK,hKK⟩:∃KK:Nat,120010<=KK/\KK<=1000000:=⟨1000000,by omega,by omega⟩;go_loopw [45] (λi wr=>∃k:Nat,k<=C.length/\i=.int .i64 k/\Hid (GK mb W0 wr)/\Hid (∃V,iI wr (mb+1) mb (k*KK) (cA0 C es ls pl k) V/\V.length<=10000)) (λi _=>C.length-(intOf i).toNat)
 case atStart=>exact⟨0,Ah _,rfl,GK.refl _ _,[],by rw[Nat.zero_mul];exact hF0,by simp⟩
 case round =>
  obtain⟨k,hk,rfl,hgk,hV⟩:=hrel;clear hF0;obtain⟨wo,rfl⟩:=exq wr;by_cases ae:k<C.length
  ·have cn:(k:Int)<C.length:=by omega
   have hkr:(k:Int)<=C.length:=by omega
   have akg:(C.length:Int)<=rc:=by omega
   obtain⟨ib,qk⟩:=exq wo.heap.size;obtain⟨W1,bu⟩:=exq (wo.alloc (.cells #[.int .i64 k] 3));have gW1:aB wo W1:=by rw[bu];exact aB.alloc _ _
   have adh:=GK.trans _ _ _ _ hgk.out (GK.of (b:=mb) gW1);have y15:W1.cell? ⟨ib,0,none⟩=some (.int .i64 k):=by rw[bu,qk];exact aT wo _ _ (0,0) 0 _ rfl
   have akh:mb+3<=ib:=by have:=hgk.out.size;have:=HZ.out;omega
   have k9r:∀a,(wo.alloc a).cell? ⟨cb,0,none⟩=some (.slice (some ⟨ub,uo,none⟩) C.length rc):=λa=>(aB.alloc _ _).cell (aU hgk.out HK.out.1 (λe=>by have:=Option.some.inj e;simp at this;omega));obtain⟨R,hR⟩:=exq (ptC C k C.length);have HR:=Aa hR
   have rh:(convert 71 9 (.slice (some ⟨ub,uo+k,none⟩) (C.length-k) (rc-k))).run Tryz.prog W1=.ok (.string R) W1:=by
    have hA:aG W1 (some ⟨ub,uo+k,none⟩) 1 ((((uP C).drop k).take (C.length-k)).map nI):=aA1 (adh.at_ HAT.out (λx hx=>by cases hx;show ub≠mb;omega)) (C.length-k)
    have:=dD0 (c:=rc-k) hA
    rw[show (((uP C).drop k).take (C.length-k)).length=C.length-k by rw[List.length_take,List.length_drop,ah];omega,uO HCO.out,<-hR]at this
    exact this
   rw[bu]at rh;have hRz:R.size<=1048576:=by rw[hR];exact HRS.out k _
   have CPx:=Aa (gV0 p m es db R W1 HDK.out (by omega) (HD.out.grows (adh.base HG.out HWM.out)));have HX1:Hid ((∀e∈kX0 es R,e∈es)/\(kX0 es R).length<=20000):=⟨λe he=>(List.mem_filter.1 ((HDK.out.pref_perm _).mem_iff.1 he)).1,tF0 HDK.out R⟩;obtain⟨X,hX⟩:=exq (kX0 es R);rw[<-hX]at CPx HX1;have HXE:=Aa hX;have HXE2:Hid (R=ptC C k C.length):=HR.out;obtain⟨V0,hF0,hV0⟩:=hV.out;have HIB:=Aa qk;clear hR qk hX hV;go_wp2_with fail
   rw[<-bu,<-HIB.out];clear HIB;refine CPx.out.mono ?_;rintro e w5 ⟨v5,rfl,hv5,bk⟩;obtain⟨a5,c5,rfl,_,_,om⟩:=hv5.at_ aW0.len
   have hb5:∀x,a5=some x->x.block≠mb:=λx hx=>by
    have h1:=aY hv5 x.block (by rw[hx];rfl);have h2:=gW1.size;have h3:=hgk.out.size;have h4:=HZ.out;omega
   have th:=GK.trans _ _ _ _ adh (GK.of (b:=mb) bk);have HF5:=Aa (hF0.grows (gW1.tr bk));have y5:=bk.cell y15;have hX2:=HX1.out.2;clear hv5 CPx rh bu hF0 k9r;go_wp2_with fail
   go_loopw [56] (λj wr=>∃n:Nat,n<=X.length/\j=.int .i64 n/\Hid (GK mb w5 wr)/\Hid (∃V,iI wr (mb+1) mb (k*KK+n) (λy=>cA0 C es ls pl k y\/y∈(X.take n).map (λe=>gO ls k (k+(bD (bl e.r)).length) e)) V)) (λj _=>X.length-(intOf j).toNat)
   case atStart=>exact⟨0,Ah _,rfl,GK.refl _ _,V0,(show iI _ _ _ (k*KK+0) _ _ by rw[Nat.add_zero];exact HF5.out).congr λy=>by simp⟩
   case round =>
    obtain⟨n,hn,rfl,mu,hV⟩:=hrel;by_cases qj:n<X.length
    ·obtain⟨⟨xr,xs,xl,xt,xc⟩,hx⟩:∃x,X[n]?=some x:=⟨_,Ac qj⟩
     obtain⟨ba,oa,rfl,bj⟩:=(mu.out.at_ om hb5).get (aK qj);have c0:wr.cell? ⟨ba,oa+n*5,none⟩=some (.string xr):=bj n _ hx 0 _ rfl;have c1:wr.cell? ⟨ba,oa+n*5+1,none⟩=some (.string xs):=bj n _ hx 1 _ rfl;have c2:wr.cell? ⟨ba,oa+n*5+2,none⟩=some (.int .i64 xl):=bj n _ hx 2 _ rfl;have c3:wr.cell? ⟨ba,oa+n*5+3,none⟩=some (.int .i64 xt):=bj n _ hx 3 _ rfl;have c4:wr.cell? ⟨ba,oa+n*5+4,none⟩=some (.int .i64 xc):=bj n _ hx 4 _ rfl;have sj:(n:Int)<X.length:=by omega
     have zn:=HX1.out.1 _ (Ae hx);have fe:=HDK.out.num _ zn;have hrz:=HDK.out.len_r _ zn;have aih:=HDK.out.len_s _ zn;have y8:=(kI0 HDK.out _ zn).1;simp only at fe hrz aih y8;have gq:=nR y8;have hLb:(bD (bl xr)).length<=256:=by have:=kO (bl xr);rw[dJ]at this;omega
     have HTK:Hid (X.take (n+1)=X.take n++[⟨xr,xs,xl,xt,xc⟩]):=bM hx;obtain⟨L,hL⟩:=exq (bD (bl xr)).length;rw[<-hL]at gq hLb;have HL:=Aa hL;obtain⟨V1,hF1⟩:=hV.out;have qt:=lH ls xr xs;obtain⟨B,hB⟩:=exq (dG ls xr xs);rw[<-hB]at qt;have HB:=Aa hB;obtain⟨xb,ng⟩:=exq wr.heap.size;obtain⟨W6,ya⟩:=exq (wr.alloc (.cells #[.string xr,.string xs,.int .i64 xl,.int .i64 xt,.int .i64 xc] 62));have k7:aB wr W6:=by rw[ya];exact aB.alloc _ _
     have da:=λj u h=>aT wr #[.string xr,.string xs,.int .i64 xl,.int .i64 xt,.int .i64 xc] 62 (0,0) j u h;rw[<-ya,<-ng]at da;have adi:=GK.trans _ _ _ _ th (GK.trans _ _ _ _ mu.out (GK.of (b:=mb) k7));have y6:W6.cell? ⟨ib,0,none⟩=some (.int .i64 k):=k7.cell (aU mu.out y5 (λe=>by have:=Option.some.inj e;simp at this;omega));have x14:W6.cell? ⟨mb+1+1,0,none⟩=_:=aU adi HK.out.2.2.2 (λe=>by have:=Option.some.inj e;simp at this;omega);have CC:=Aa (mK xr W6.drew (by omega) ((HE.out.grows (adi.base HG.out HWM.out)).grows (aB.drew W6)));rw[gq]at CC;have y15:∀x:Ext aB W6.drew,x.u.cell? ⟨ib,0,none⟩=some (.int .i64 k):=aF ((aB.drew W6).cell y6);have z0:∀x:Ext aB W6.drew,x.u.cell? ⟨xb,0,none⟩=some (.string xr):=aF ((aB.drew W6).cell (da 0 _ rfl));clear bj hx hL hB zn y8 gq hV;go_wp2_with fail
     rw[<-ya,<-ng];clear ya ng;refine bK (bB 6 [3]) (by kernel_rfl) (λd _ _ _ _ h=>by cases d<;>exact h) ?_
     iterate 3 (refine aH rfl (λK hK=>?_);go_simp;refine hK _ ?_;clear hK K)
     refine bJ rfl rfl (λK hK=>?_);go_simp;refine(CC.out).mono ?_;rintro e w7 ⟨rfl,dd⟩;refine⟨dd,hK _ _ ?_⟩;clear hK K;iterate 2 (refine aH rfl (λK hK=>?_);go_simp;refine hK _ ?_;clear hK K)
     refine bQ ?_;clear z0 y15;have gg7:=k7.tr ((aB.drew W6).tr dd);have af8:=GK.trans _ _ _ _ mu.out (GK.of (b:=mb) gg7);have G67:aB W6 w7.drew:=((aB.drew W6).tr dd).tr (aB.drew w7);have q14:∀x:Ext aB w7.drew,x.u.cell? ⟨mb+1+1,0,none⟩=_:=aF (G67.cell x14);have q15:∀x:Ext aB w7.drew,x.u.cell? ⟨ib,0,none⟩=some (.int .i64 k):=aF (G67.cell y6);have z0:∀x:Ext aB w7.drew,x.u.cell? ⟨xb,0,none⟩=some (.string xr):=aF (G67.cell (da 0 _ rfl));have z1:∀x:Ext aB w7.drew,x.u.cell? ⟨xb,1,none⟩=some (.string xs):=aF (G67.cell (da 1 _ rfl));have z2:∀x:Ext aB w7.drew,x.u.cell? ⟨xb,2,none⟩=some (.int .i64 xl):=aF (G67.cell (da 2 _ rfl));have z3:∀x:Ext aB w7.drew,x.u.cell? ⟨xb,3,none⟩=some (.int .i64 xt):=aF (G67.cell (da 3 _ rfl));have z4:∀x:Ext aB w7.drew,x.u.cell? ⟨xb,4,none⟩=some (.int .i64 xc):=aF (G67.cell (da 4 _ rfl));have af9:=(HBON.out.kept adi (by omega)).grows G67
     have ql:∀x:Ext aB w7.drew,(Instr.lookup 82 (.map (some bm)) (.agg #[.string xr,.string xs]) false).run Tryz.prog x.u=.ok (.int .i64 B) x.u:=λx=>by
      have:=(af9.grows x.h).look (r:=xr) (s:=xs) (by unfold maxLen;omega) (by unfold maxLen;omega)
      rw[<-HB.out]at this;exact this
     have o7:hE0 ⟨k,(k:Int)+L,xs,xl,xt,xc-B,1⟩:=nY0 (by omega) (by omega) (by omega) (by omega) (by omega) (by omega) (by omega)
     have nf:k*KK+n<maxLen:=by
      have:k*KK<=64*1000000:=Ax (by omega) (by omega)
      unfold maxLen;omega
     have CA:=Aa (eY0 ⟨k,(k:Int)+L,xs,xl,xt,xc-B,1⟩ (mb+1) mb (k*KK+n) _ V1 w7.drew (hF1.grows (k7.tr G67)) o7 nf);clear o7 nf;unfold Nd.agg at CA;simp only at CA
     have HTOP:Hid (wD0 ⟨k,(k:Int)+L,xs,xl,xt,xc-B,1⟩=gO ls k (k+(bD (bl xr)).length) ⟨xr,xs,xl,xt,xc⟩):=by
      show _=_
      rw[<-eM1,<-HB.out,<-HL.out];simp
     have ua:IntKind.i64.wrap (xc-B)=xc-B:=pN0 (by omega);clear da hF1 CC af9;go_wp2_with fail
     refine jV 20 (bB 20 []) (by kernel_rfl) (λd _ _ _ _ h=>by cases d<;>exact h) ?_
     iterate 20 (refine aH rfl (λK hK=>?_);go_simp;refine hK _ ?_;clear hK K)
     refine bQ ?_;simp only[Ay,Bi];clear q14 q15 z0 z1 z2 z3 z4 ql ua;go_wp2_with fail
     refine CA.out.mono ?_;rintro e w8 ⟨rfl,⟨V2,ni⟩,fg⟩;have aga:=GK.trans _ _ _ _ af8 (GK.trans _ _ _ _ (GK.of (b:=mb) (aB.drew w7)) fg)
     have HV2:Hid (∃V,iI w8 (mb+1) mb (k*KK+(n+1)) (λy=>cA0 C es ls pl k y\/y∈(X.take (n+1)).map (λe=>gO ls k (k+(bD (bl e.r)).length) e)) V):=⟨V2,ni.congr λy=>by
      rw[HTOP.out,HTK.out,Ao,Bg,or_assoc];simp⟩
     have HG8:=Aa aga;clear CA ni af8 aga fg HTOP HTK;go_wp2_with fail
     go_roundw
     case rel=>exact⟨n+1,qj,by go_num,HG8,HV2⟩
     case measure=>simp[intOf];omega
    ·obtain rfl:n=X.length:=by omega
     have sj:¬((X.length:Nat):Int)<X.length:=by omega
     have uh:=hV.out;rw[Al]at uh;have HV1:=Aa uh;obtain⟨u0,rfl⟩:=exq wr;have lx:=GK.trans _ _ _ _ th mu.out;have g0:=lx.base HG.out HWM.out;have y0:u0.cell? ⟨ib,0,none⟩=some (.int .i64 k):=aU mu.out y5 (λe=>by have:=Option.some.inj e;simp at this;omega);have x12:u0.cell? ⟨pb,0,none⟩=some (.int .i64 pl):=aU lx HK.out.2.1 (λe=>by have:=Option.some.inj e;simp at this;omega);have x14:u0.cell? ⟨mb+1+1,0,none⟩=_:=aU lx HK.out.2.2.2 (λe=>by have:=Option.some.inj e;simp at this;omega);have x9:u0.cell? ⟨cb,0,none⟩=some (.slice (some ⟨ub,uo,none⟩) C.length rc):=aU lx HK.out.1 (λe=>by have:=Option.some.inj e;simp at this;omega);obtain⟨D,aa,hMB⟩:=HBON.out.kept lx (by omega);have HMB:=Aa hMB;have acj:=aa.size_le;have qg:bm<u0.heap.size:=aa.lt;obtain⟨V1,hF1⟩:=HV1.out;have HF1:=Aa hF1;clear hMB hV uh HV1 hF1 mu om hb5 HF5 y5 y15;go_wp2_with (first|(at_range;refine wpList_range_own _ rfl _ 82 rfl 90 3 iG0 Tryz.underlying82 _ bm ls.length D rfl aa ?_;intro w0 pz dg kp))
     have gU0:aB u0 w0:=(aB.refl u0).grown dg (λq hq=>by cases hq);go_loopw [] (λwr=>∃(left:Lit->Bool) (ja:Nat),wr.ranges Tryz.prog 90 (plainElem Tryz.prog 3) bm u0.heap.size ls.length D left ja/\ja<=ls.length/\Hid (GK mb u0 wr)/\Hid (∃V,iI wr (mb+1) mb (k*KK+X.length+(ls.length-ja)) (λy=>(cA0 C es ls pl k y\/y∈X.map (λe=>gO ls k (k+(bD (bl e.r)).length) e))\/eF0 C es ls pl k (vU0 ls left) y) V)) (λwr=>wr.rangeLeft bm u0.heap.size)
     case atStart=>exact⟨_,_,pz,acj,GK.of gU0,V1,((HF1.out.grows gU0).mono (by omega)).congr λy=>⟨Or.inl,λh=>h.elim id λ⟨r,s,hv,_⟩=>absurd hv (uQ0 HMB.out r s)⟩⟩
     case round =>
      obtain⟨left,ja,ik,ci,hgu,hV⟩:=hrel;go_wp2_with (first|(at_next;refine wpList_next_ranges _ rfl _ rfl 90 iG0 (plainElem Tryz.prog 3) (λx:ByteArray×ByteArray => .agg #[.string x.1,.string x.2]) (Value.int .i64) (λkey kl hk=>by obtain⟨r,s,_,_,hx,_⟩:=rO0 hk;exact⟨(r,s),hx⟩) (λv y hv=>by obtain⟨c,hc,_⟩:=plainElem_int_inv Tryz.underlying3 hv;exact⟨c,hc⟩) bm u0.heap.size ls.length D left ja rfl ik ?_ ?_))
      ·intro p8 q8
       have k9w:=aU hgu.out x9 (λe=>by have:=Option.some.inj e;simp at this;omega);have y15:=aU hgu.out y0 (λe=>by have:=Option.some.inj e;simp at this;omega);have p12:=aU hgu.out x12 (λe=>by have:=Option.some.inj e;simp at this;omega);have f14:=aU hgu.out x14 (λe=>by have:=Option.some.inj e;simp at this;omega);have adj:=GK.trans _ _ _ _ lx hgu.out;obtain⟨V2,ni⟩:=hV.out;have hub:∀x,(some ⟨ub,uo,none⟩:Option Addr)=some x->x.block≠mb:=λx hx=>by cases hx;show ub≠mb;omega
       have hw0:iI wr (mb+1) mb (k*KK+X.length+ls.length+0) (λy=>((cA0 C es ls pl k y\/y∈X.map (λe=>gO ls k (k+(bD (bl e.r)).length) e))\/eF0 C es ls pl k (λr s=>∃x∈ls,x.r=r/\x.s=s) y)\/y∈([]:List (Nat×Int)).map (λx=>cJ0 C pl k x.1 x.2)) V2:=(ni.mono (by omega)).congr λy=>by
        rw[show eF0 C es ls pl k (vU0 ls left) y↔eF0 C es ls pl k (λr s=>∃x∈ls,x.r=r/\x.s=s) y from by
         unfold eF0;refine exists_congr λr=>exists_congr λs=>and_congr_left λ_=>iI1 HLO.out q8 r s]
        simp
       have nf:k*KK+X.length+ls.length+100<maxLen:=by
        have:k*KK<=64*1000000:=Ax (by omega) (by omega)
        unfold maxLen;omega
       have CU:=oX0 50 #[.pointer (some ⟨mb+1+1,0,none⟩),.pointer (some ⟨ib,0,none⟩),.pointer (some ⟨cb,0,none⟩),.pointer (some ⟨pb,0,none⟩)] (enters_of Tryz.func50 (by kernel_rfl) rfl) (uP C) ub uo rc k wr (by omega) (by omega)
        (λxs W=>GK mb wr W/\∃V,iI W (mb+1) mb (k*KK+X.length+ls.length+xs.length) (λy=>((cA0 C es ls pl k y\/y∈X.map (λe=>gO ls k (k+(bD (bl e.r)).length) e))\/eF0 C es ls pl k (λr s=>∃x∈ls,x.r=r/\x.s=s) y)\/y∈xs.map (λx=>cJ0 C pl k x.1 x.2)) V)
        (λxs W hW=>(GK.trans _ _ _ _ adj hW.1).at_ HAT.out hub)
        (λxs t q W h0 ⟨ms,V,hV⟩ h1 h2 h3=>by
         have aii:=GK.trans _ _ _ _ adj ms;have hq:0<=q/\q<=10000:=by omega
         have o7:hE0 ⟨k,t,runesBytes ((((uP C).drop k).take (t-k)).map λn:Nat=>(n:Int)),pl,pl,q,3⟩:=by
          rw[uO HCO.out]
          have:=HRS.out k t
          have:=HPL.out
          exact nY0 (by omega) (by omega) (by omega) (by omega) (by omega) (by omega) (by omega)
         have h:=dI1 (mb+1+1) ib cb pb ub uo rc (uP C) k t pl q (mb+1) mb (k*KK+X.length+ls.length+xs.length) _ V W hV (by omega) h2 (by omega) aie o7 (by omega) (aii.at_ HAT.out hub)
          (aU ms f14 (λe=>by have:=Option.some.inj e;simp at this;omega)) (aU ms y15 (λe=>by have:=Option.some.inj e;simp at this;omega)) (by rw[ah];exact aU ms k9w (λe=>by have:=Option.some.inj e;simp at this;omega)) (aU ms p12 (λe=>by have:=Option.some.inj e;simp at this;omega))
         refine h.mono λe W' ⟨he,⟨V',hF'⟩,hg'⟩=>⟨he,GK.trans _ _ _ _ ms hg',V',?_⟩;rw[Ab];refine hF'.congr λy=>?_;rw[kH1 (by exact hq.1),uO HCO.out,Ao,Bg,or_assoc];simp[cJ0])
        ⟨GK.refl _ _,V2,hw0⟩
       rw[ah]at CU;have CU:=Aa CU;clear ni hw0 hV hgu q8 p8;go_wp2_with fail
       refine CU.out.mono ?_;rintro e w5 ⟨rfl,hgu,V3,hF3⟩;rw[kY1]at hF3
       have hF4:iI w5 (mb+1) mb ((k+1)*KK) (cA0 C es ls pl (k+1)) V3:=(hF3.mono (by have:(sC0 (uP C) k).length<=2:=(by unfold sC0;split<;>simp);rw[Nat.succ_mul];omega)).congr λy=>by
        rw[yD0,gP1 HDK.out,<-HXE2.out,<-HXE.out];simp only[or_assoc]
       have th:=GK.trans _ _ _ _ adj hgu;have aij:=aU th HK.out.2.2.1 (λe=>Bc mb (Option.some.inj e));obtain⟨D3,au,hM3⟩:=hF4.own;have hml:=λty=>au.len (t:=85) Tryz.underlying85 ty;rw[hM3.size]at hml;have HF4:=Aa hF4;have HG5:=Aa th;have HFV:=HFW (k+1) (by omega) V3 hF4.bst;have gW5:=th.base HG.out HWM.out;clear hF3 hF4 CU au hM3 nf;by_cases cy:10000<V3.length
       ·have kr:(10000:Int)<V3.length:=by omega
        have HP:=bY0 (L:=NL) (by have:=HFV.out;omega) gW5;clear cy HFV;go_wp2_with fail
        go_ret2;exact HP
       ·have kr:¬(10000:Int)<V3.length:=by omega
        go_wp2_with fail
        go_roundw
        case rel=>exact⟨k+1,ae,by go_num,HG5,V3,HF4.out,by omega⟩
        case measure=>simp[intOf];omega
      ·intro r t c kl yd yp w2 fh eu jr hv ac fo az af ev hen
       obtain⟨r',t',hrm,htm,ex,rfl⟩:=rO0 eu;obtain⟨rfl,rfl⟩:r=r'/\t=t':=by simpa [uO0] using ex
       obtain⟨c',ec,ez,y9⟩:=plainElem_int_inv Tryz.underlying3 hv;obtain rfl:c=c':=by simpa using ec
       obtain rfl:yd=.lit (.int .i64 c):=(Prod.mk.inj ez).1;have d8:∃x∈ls,x.r=r/\x.s=t:=(HMB.out.has r t hrm htm).1 (Maps.has_true_of_atKey ac)
       have hc:c=dG ls r t:=by
        have:=HMB.out.at_ r t hrm htm
        rw[ac]at this;simpa using this
       have hz:r.size<=1048576/\t.size<=1048576:=by obtain⟨x,hx,rfl,rfl⟩:=d8;exact HLZ.out x hx
       have hcr:=lH ls r t;rw[<-hc]at hcr;have HC:=Aa hc;have HMEM:=Aa d8;have lr:fh<=ls.length:=by omega
       have HG2:Hid (GK mb u0 w2):=World.grownBy.andThen hgu.out af (λj hj=>by cases hj;exact Or.inl (Af _));obtain⟨V2,agb⟩:=hV.out;have ni:=agb.kept af (by have:=lx.size;have:=HZ.out;omega) (by have:=lx.size;have:=HZ.out;omega);clear agb;clear eu ex ac hv ec ez jr y9 hc d8 hV ev;obtain⟨wb,hwb⟩:=exq w2.heap.size;obtain⟨Wb,pm⟩:=exq (w2.alloc (.cells #[.string r,.string t] 90));have gb:aB w2 Wb:=by rw[pm];exact aB.alloc _ _
       have b0:Wb.cell? ⟨wb,0,none⟩=some (.string r):=by rw[pm,hwb];exact aT w2 _ _ (0,0) 0 _ rfl
       have b1:Wb.cell? ⟨wb,1,none⟩=some (.string t):=by rw[pm,hwb];exact aT w2 _ _ (0,0) 1 _ rfl
       have agc:=GK.trans _ _ _ _ lx (GK.trans _ _ _ _ HG2.out (GK.of (b:=mb) gb));have gwb:=agc.base HG.out HWM.out;have hbK:∀(W:World),aB Wb W->GK mb W0 W:=λW hW=>GK.trans _ _ _ _ agc (GK.of (b:=mb) hW);by_cases e1:r.toList=[]
       ·have vr:r.size=0:=by rw[Bh]at e1;rw[Bo,e1];rfl
        clear hwb;go_wp2_with fail
        rw[<-pm];clear pm
        have HNO:Hid (¬okL C es k r t):=λag=>by
         unfold okL at ag;rw[<-HXE2.out]at ag;exact ag.1 vr
        have HV3:Hid (∃V,iI Wb (mb+1) mb (k*KK+X.length+(ls.length-fh)) (λy=>(cA0 C es ls pl k y\/y∈X.map (λe=>gO ls k (k+(bD (bl e.r)).length) e))\/eF0 C es ls pl k (vU0 ls λz=>left z && !z.sameKey (klW r t)) y) V):=⟨V2,((ni.grows (gb)).mono (by omega)).congr λy=>or_congr_right (pD (mP hrm htm HMEM.out) HNO.out y)⟩;have HG3:=Aa (GK.trans _ _ _ _ HG2.out (GK.of (b:=mb) (gb)));have fi:=eX fo (gb);have i6:(Wb).rangeLeft bm u0.heap.size<wr.rangeLeft bm u0.heap.size:=by rw[fi.left_eq,ik.left_eq];exact az
        clear ni HNO fo ik;go_roundw
        case rel=>exact⟨_,fh,fi,lr,HG3,HV3⟩
        case measure=>exact i6
       ·have e2:r.toList.isEmpty=false:=by simpa using e1
        have cH:Calls Tryz.prog 43 #[.string R,.string r] Wb _:=Any.strings_HasPrefix Tryz.laysHasPrefix R r Wb;rw[fB1]at cH;have CH:=Aa cH;have HWB:=Aa hwb;clear cH hwb;go_wp2_with fail
        rw[<-pm,<-HWB.out];clear pm HWB;by_cases hb:hO0 R r=true
        ·rw[hb]at CH
         have CV:=Aa (tP0 r Wb (by omega) (HE.out.grows gwb));refine CH.out.mono ?_;rintro e w3 ⟨rfl,rfl⟩;clear CH;go_wp2_with fail
         by_cases hv:Bp r.data.toList=true
         ·rw[hv]at CV
          refine CV.out.mono ?_;rintro e w4 ⟨rfl,cp⟩;have b0:=cp.cell b0;have b1:=cp.cell b1;have CS:=Aa (hJ1 t w4 (by omega) (HE.out.grows (gwb.tr cp)));clear CV;go_wp2_with fail
          by_cases hs:surfaceS t=true
          ·rw[hs]at CS
           refine CS.out.mono ?_;rintro e w5 ⟨rfl,bk⟩;have b0:=bk.cell b0;have b1:=bk.cell b1;have g5:=cp.tr bk;have CE:=Aa (vE0 p m es db r w5 HDK.out (by omega) (HD.out.grows (gwb.tr g5)));clear CS;go_wp2_with fail
           refine CE.out.mono ?_;rintro e w6 ⟨v6,rfl,zp,dn⟩;obtain⟨a6,c6,rfl,_,_,ye⟩:=zp.at_ aW0.len;have b0:=dn.cell b0;have b1:=dn.cell b1;have g6:=g5.tr dn
           have s9:(iF es r).length<=9223372036854775807:=by
            have h1:(iF es r).length<=es.length:=Av _ _;have h2:=HDK.out.len;omega
           have CK:=Aa (fF1 (iF es r) a6 c6 wb r t w6 s9 ye b0 b1);rw[yW0]at CK;clear CE zp ye s9;go_wp2_with fail
           by_cases hh:jA1 es r t=true
           ·rw[hh]at CK
            refine CK.out.mono ?_;rintro e w7 ⟨rfl,dd⟩;clear CK;go_wp2_with fail
            have HNO:Hid (¬okL C es k r t):=λag=>by
             unfold okL at ag;rw[<-HXE2.out]at ag;rw[hh]at ag;exact absurd ag.2.2.2.2 (by decide)
            have HV3:Hid (∃V,iI w7 (mb+1) mb (k*KK+X.length+(ls.length-fh)) (λy=>(cA0 C es ls pl k y\/y∈X.map (λe=>gO ls k (k+(bD (bl e.r)).length) e))\/eF0 C es ls pl k (vU0 ls λz=>left z && !z.sameKey (klW r t)) y) V):=⟨V2,((ni.grows (gb.tr (g6.tr dd))).mono (by omega)).congr λy=>or_congr_right (pD (mP hrm htm HMEM.out) HNO.out y)⟩;have HG3:=Aa (GK.trans _ _ _ _ HG2.out (GK.of (b:=mb) (gb.tr (g6.tr dd))));have fi:=eX fo (gb.tr (g6.tr dd));have i6:(w7).rangeLeft bm u0.heap.size<wr.rangeLeft bm u0.heap.size:=by rw[fi.left_eq,ik.left_eq];exact az
            clear ni HNO fo ik;go_roundw
            case rel=>exact⟨_,fh,fi,lr,HG3,HV3⟩
            case measure=>exact i6
           ·rw[Am]at hh
            rw[hh]at CK;refine CK.out.mono ?_;rintro e w7 ⟨rfl,dd⟩;have g7:=g6.tr dd;clear CK;go_wp2_with fail
            have adk:=GK.trans _ _ _ _ HG2.out (GK.of (b:=mb) (gb.tr g7));have y7:=aU adk y0 (λe=>by have:=Option.some.inj e;simp at this;omega);have p7:=aU adk x12 (λe=>by have:=Option.some.inj e;simp at this;omega);have f7:=aU adk x14 (λe=>by have:=Option.some.inj e;simp at this;omega);have b0:=dd.cell b0;have b1:=dd.cell b1;have rh:=nR hv;have hLb:(bD (bl r)).length<=1048576:=by have:=kO (bl r);rw[dJ]at this;omega
            obtain⟨L,hL⟩:=exq (bD (bl r)).length;rw[<-hL]at rh hLb;have HL:=Aa hL;have HOKL:Hid (okL C es k r t):=⟨λh0=>e1 (by rw[Bh];exact List.length_eq_zero_iff.1 (by rw[<-Bo];exact h0)),by rw[<-HXE2.out];exact hb,hv,hs,hh⟩;have CC:=Aa (mK r w7.drew (by omega) ((HE.out.grows (gwb.tr g7)).grows (aB.drew w7)));rw[rh]at CC;have q14:∀x:Ext aB w7.drew,x.u.cell? ⟨mb+1+1,0,none⟩=_:=aF ((aB.drew w7).cell f7);have q15:∀x:Ext aB w7.drew,x.u.cell? ⟨ib,0,none⟩=some (.int .i64 k):=aF ((aB.drew w7).cell y7);have q12:∀x:Ext aB w7.drew,x.u.cell? ⟨pb,0,none⟩=some (.int .i64 pl):=aF ((aB.drew w7).cell p7);have z0:∀x:Ext aB w7.drew,x.u.cell? ⟨wb,0,none⟩=some (.string r):=aF ((aB.drew w7).cell b0);have z1:∀x:Ext aB w7.drew,x.u.cell? ⟨wb,1,none⟩=some (.string t):=aF ((aB.drew w7).cell b1);have ua:IntKind.i64.wrap (8000-c)=8000-c:=pN0 (by omega);have aki:=HPL.out;clear hL rh e1 e2 hb hv hs hh hbK;refine jV 14 (oK [0,1,2,3,4,7,8,9,10,11,12,5,6,13] [5]) (by kernel_rfl) (λd _ _ _ _ h=>by cases d<;>exact h) ?_
            iterate 11 (refine aH rfl (λK hK=>?_);go_simp;refine hK _ ?_;clear hK K)
            refine bJ rfl rfl (λK hK=>?_);go_simp;refine(CC.out).mono ?_;rintro e w8 ⟨rfl,fg⟩;refine⟨fg,hK _ _ ?_⟩;clear hK K;iterate 2 (refine aH rfl (λK hK=>?_);go_simp;refine hK _ ?_;clear hK K)
            refine bQ ?_;simp only[Ay,Bi];have g8:=gb.tr (g7.tr ((aB.drew w7).tr fg));have o7:hE0 ⟨k,(k:Int)+L,t,pl,pl,8000-c,2⟩:=nY0 (by omega) (by omega) (by omega) (by omega) (by omega) (by omega) (by omega)
            have nf:k*KK+X.length+(ls.length-ja)<maxLen:=by
             have:k*KK<=64*1000000:=Ax (by omega) (by omega)
             unfold maxLen;omega
            have CA:=Aa (eY0 ⟨k,(k:Int)+L,t,pl,pl,8000-c,2⟩ (mb+1) mb (k*KK+X.length+(ls.length-ja)) _ V2 w8 (ni.grows g8) o7 nf);unfold Nd.agg at CA;simp only at CA
            have HTOP:Hid (wD0 ⟨k,(k:Int)+L,t,pl,pl,8000-c,2⟩=iU ls pl k (k+(bD (bl r)).length) r t):=by
             show _=_
             rw[<-xC0,<-HC.out,<-HL.out];simp
            have agd:=eX fo g8;have HG8:=Aa (GK.trans _ _ _ _ HG2.out (GK.of (b:=mb) g8));have hit:u0.heap.size≠mb:=by have:=lx.size;have:=HZ.out;omega
            clear q14 q15 q12 z0 z1 ua o7 nf ni fo CC y7 p7 f7;go_wp2_with fail
            refine CA.out.mono ?_;rintro e w9 ⟨rfl,⟨V3,hF3⟩,fw⟩
            have HV3:Hid (∃V,iI w9 (mb+1) mb (k*KK+X.length+(ls.length-fh)) (λy=>(cA0 C es ls pl k y\/y∈X.map (λe=>gO ls k (k+(bD (bl e.r)).length) e))\/eF0 C es ls pl k (vU0 ls λz=>left z && !z.sameKey (klW r t)) y) V):=⟨V3,(hF3.mono (by omega)).congr λy=>by
             rw[HTOP.out,or_assoc];exact or_congr_right (aX1 (mP hrm htm HMEM.out) HOKL.out y)⟩
            have HG3:=Aa (GK.trans _ _ _ _ HG8.out fw);have fi:=agd.kept fw (λe=>by have:=Option.some.inj e;omega) (λe=>hit (Option.some.inj e));have i6:w9.rangeLeft bm u0.heap.size<wr.rangeLeft bm u0.heap.size:=by rw[fi.left_eq,ik.left_eq];exact az
            clear hF3 agd ik CA HTOP fw;go_wp2_with fail
            go_roundw
            case rel=>exact⟨_,fh,fi,lr,HG3,HV3⟩
            case measure=>exact i6
          ·rw[Am]at hs
           rw[hs]at CS;refine CS.out.mono ?_;rintro e w5 ⟨rfl,bk⟩;clear CS;go_wp2_with fail
           have HNO:Hid (¬okL C es k r t):=λag=>by
            unfold okL at ag;rw[<-HXE2.out]at ag;rw[hs]at ag;exact absurd ag.2.2.2.1 (by decide)
           have HV3:Hid (∃V,iI w5 (mb+1) mb (k*KK+X.length+(ls.length-fh)) (λy=>(cA0 C es ls pl k y\/y∈X.map (λe=>gO ls k (k+(bD (bl e.r)).length) e))\/eF0 C es ls pl k (vU0 ls λz=>left z && !z.sameKey (klW r t)) y) V):=⟨V2,((ni.grows (gb.tr (cp.tr bk))).mono (by omega)).congr λy=>or_congr_right (pD (mP hrm htm HMEM.out) HNO.out y)⟩;have HG3:=Aa (GK.trans _ _ _ _ HG2.out (GK.of (b:=mb) (gb.tr (cp.tr bk))));have fi:=eX fo (gb.tr (cp.tr bk));have i6:(w5).rangeLeft bm u0.heap.size<wr.rangeLeft bm u0.heap.size:=by rw[fi.left_eq,ik.left_eq];exact az
           clear ni HNO fo ik;go_roundw
           case rel=>exact⟨_,fh,fi,lr,HG3,HV3⟩
           case measure=>exact i6
         ·rw[Am]at hv
          rw[hv]at CV;refine CV.out.mono ?_;rintro e w4 ⟨rfl,cp⟩;clear CV;go_wp2_with fail
          have HNO:Hid (¬okL C es k r t):=λag=>by
           unfold okL at ag;rw[<-HXE2.out]at ag;exact absurd (ag.2.2.1.symm.trans hv) (by decide)
          have HV3:Hid (∃V,iI w4 (mb+1) mb (k*KK+X.length+(ls.length-fh)) (λy=>(cA0 C es ls pl k y\/y∈X.map (λe=>gO ls k (k+(bD (bl e.r)).length) e))\/eF0 C es ls pl k (vU0 ls λz=>left z && !z.sameKey (klW r t)) y) V):=⟨V2,((ni.grows (gb.tr cp)).mono (by omega)).congr λy=>or_congr_right (pD (mP hrm htm HMEM.out) HNO.out y)⟩;have HG3:=Aa (GK.trans _ _ _ _ HG2.out (GK.of (b:=mb) (gb.tr cp)));have fi:=eX fo (gb.tr cp);have i6:(w4).rangeLeft bm u0.heap.size<wr.rangeLeft bm u0.heap.size:=by rw[fi.left_eq,ik.left_eq];exact az
          clear ni HNO fo ik;go_roundw
          case rel=>exact⟨_,fh,fi,lr,HG3,HV3⟩
          case measure=>exact i6
        ·rw[Am]at hb
         rw[hb]at CH;refine CH.out.mono ?_;rintro e w3 ⟨rfl,rfl⟩;clear CH;go_wp2_with fail
         have HNO:Hid (¬okL C es k r t):=λag=>by
          unfold okL at ag;rw[<-HXE2.out]at ag;rw[hb]at ag;exact absurd ag.2.1 (by decide)
         have HV3:Hid (∃V,iI w3 (mb+1) mb (k*KK+X.length+(ls.length-fh)) (λy=>(cA0 C es ls pl k y\/y∈X.map (λe=>gO ls k (k+(bD (bl e.r)).length) e))\/eF0 C es ls pl k (vU0 ls λz=>left z && !z.sameKey (klW r t)) y) V):=⟨V2,((ni.grows (gb)).mono (by omega)).congr λy=>or_congr_right (pD (mP hrm htm HMEM.out) HNO.out y)⟩;have HG3:=Aa (GK.trans _ _ _ _ HG2.out (GK.of (b:=mb) (gb)));have fi:=eX fo (gb);have i6:(w3).rangeLeft bm u0.heap.size<wr.rangeLeft bm u0.heap.size:=by rw[fi.left_eq,ik.left_eq];exact az
         clear ni HNO fo ik;go_roundw
         case rel=>exact⟨_,fh,fi,lr,HG3,HV3⟩
         case measure=>exact i6
  ·obtain rfl:k=C.length:=by omega
   have cn:¬((C.length:Nat):Int)<C.length:=by omega
   obtain⟨V,hF,hV0⟩:=hV.out;have aij:=aU hgk.out HK.out.2.2.1 (λe=>Bc mb (Option.some.inj e));obtain⟨D,aa,hM⟩:=hF.own;have HMN:=Aa hM;have aho:=hM.size;have HB:=Aa hF.bst;have ko:=hgk.out.base HG.out HWM.out;have hmu:mb<wo.heap.size:=aa.lt;have HFS:=Aa (show wo.heap.size<=wo.heap.size/\w.heap.size<=wo.heap.size from ⟨Af _,ko.size⟩)
   clear hF hM hV;go_wp2_with (first|(at_range;refine wpList_range_own _ rfl _ 85 rfl 49 49 fZ Tryz.underlying85 _ mb (C.length*KK) D rfl aa ?_;intro w0 pz dg kp))
   have gU0:aB wo w0:=(aB.refl wo).grown dg (λq hq=>by cases hq);go_loopw [22] (λv wr=>∃(left:Lit->Bool) (ja:Nat) (ys:List Nd),wr.ranges Tryz.prog 49 (dW (H:=Unit)) mb wo.heap.size (C.length*KK) D left ja/\ys.length+ja<=10000/\Hid (mN0 V left ys)/\aV wr wo.heap.size 49 7 dX v ys/\Hid (aB wo wr)) (λ_ wr=>wr.rangeLeft mb wo.heap.size)
   case atStart=>exact⟨_,_,[],pz,by simp only[Ap];omega,HMN.out.start,aV.nil _ _ _ _ _,gU0⟩
   case round =>
    obtain⟨left,ja,ys,ik,ck,hCo,de,fw⟩:=hrel;go_wp2_with (first|(at_next;refine wpList_next_ranges _ rfl _ rfl 49 fZ (dW (H:=Unit)) (λx:Nd => .agg #[.int .i64 x.f,.int .i64 x.t,.string x.s,.int .i64 x.l,.int .i64 x.r,.int .i64 x.c,.int .i64 x.k]) (λx:Nd => .agg #[.int .i64 x.f,.int .i64 x.t,.string x.s,.int .i64 x.l,.int .i64 x.r,.int .i64 x.c,.int .i64 x.k]) (λkey kl hk=>by obtain⟨x,_,hx,_⟩:=pP0 hk;exact⟨x,hx⟩) (λv y hv=>by obtain⟨x,hx,_⟩:=pV hv;exact⟨x,hx⟩) mb wo.heap.size (C.length*KK) D left ja rfl ik ?_ ?_))
    ·intro p8 q8
     have hp:=hCo.out.perm HMN.out q8;have HBY:=Aa (HB.out.permd hp);have gm:=hp.length_eq;obtain⟨w9,rfl⟩:=exq wr;have CS:=Aa (zN0 w9 wo.heap.size _ ys _ HBY.out de (by omega));have hyl:ys.length=V.length:=gm;clear hp p8 q8 hCo;go_wp2_with fail
     refine CS.out.mono ?_;rintro e w10 ⟨rfl,l',hL,mh,d9,q9⟩;obtain rfl:NL=l':=HNS.out.unique hL;have gW:=(ko.tr fw.out).grown q9 (λq hq=>Aj HFS.out.2 (aY de q hq));have HP:=cB0 (L:=NL) (by omega) gW (d9.base HFS.out.2);clear CS hL d9 q9;go_wp2_with fail
     go_ret2;exact HP
    ·intro x y kl yd yp w2 fh eu jr hv ac fo az af ev hen
     obtain⟨x',lj,ex,rfl⟩:=pP0 eu
     obtain rfl:x=x':=by
      cases x
      cases x'
      simpa [Nd.agg] using ex
     obtain⟨y',ey,ez⟩:=pV hv
     obtain rfl:y=y':=by
      cases y
      cases y'
      simpa [Nd.agg] using ey
     obtain rfl:yd=ndD y:=(Prod.mk.inj ez).1;obtain⟨z,hz,hzk⟩:=(HMN.out.has x lj).1 (Maps.has_true_of_atKey ac)
     obtain rfl:y=z:=by
      have:=HMN.out.at_ z hz (ndD z)
      rw[hzk,ac]at this;exact nZ0 this
     subst hzk;have HC:=Aa (hCo.out.step HMN.out hz jr);have ur:=zX de ik.owns;have sj:=wV de ik;have d9:=sS de af (Or.inr (Ne.symm sj));have ew:aB wo w2:=fw.out.grown af (λq hq=>by cases hq;exact Af _);obtain⟨yf,yt,ys',yl,yr,yc,yk⟩:=y;dsimp only at hen HC
     clear eu ex ac hv ey ez jr ev lj hz hCo de;go_wp2_with (first|(at_builtin;refine eM0 oE1 rfl _ _ rfl wo.heap.size _ ys ⟨yf,yt,ys',yl,yr,yc,yk⟩ rfl d9 (aB.alloc _ _) _ 1 (by simp) _ rfl rfl (by omega) ew.size ?_;intro v5 w5 an ack acl))
     have vc:=(eX fo ((aB.alloc _ _).al _)).kept ack ur sj;have dh:=acl wo ew (Af _);have i6:w5.rangeLeft mb wo.heap.size<wr.rangeLeft mb wo.heap.size:=by rw[vc.left_eq,ik.left_eq];exact az
     clear ik;go_roundw
     case rel=>exact⟨_,fh,_,vc,by simp only[Ab,An,Ap];omega,HC,an,dh⟩
     case measure=>exact i6
end
section
open Go Go.RowKit Go.Shelf
attribute [local go_sem] aQ aM
theorem qM1 {x:zU} (hl:mO x=true) (ag:eT0 x):(∀y∈x.e,uE y)/\(∀y∈x.e,y.r.size<=1099511627776/\y.s.size<=1099511627776)/\(∀y∈x.p,y.name.size<=9223372036854775807):=by
 obtain⟨h1,h2,_⟩:=jT0 hl;exact⟨ag.e,λy hy=>by have:=h2 y hy;omega,λy hy=>by have:=h1 y hy;omega⟩
theorem aQ1 (x:zU) (A:yT) (w:World) (he:Env w) (ag:eT0 x) (hz:∀y∈x.e,y.r.size<=1099511627776/\y.s.size<=1099511627776) (ac:uS w A x) :
  Calls Tryz.prog 34 #[A.agg x] w (cZ x.p (bB0 x) x.e w):=by
 have mj:=hz;have yh:=ag;have HAT0:=ac;obtain⟨pa,pc,sa,sc,ea,ec⟩:=A;obtain⟨xp,xd,xs,xe⟩:=x;obtain⟨W0,cq⟩:=exq (w.alloc (.cells #[.slice pa xp.length pc,.int .i64 xd,.slice sa xs.length sc,.slice ea xe.length ec] 30));have dg:aB w W0:=by rw[cq];exact aB.alloc _ _
 have da:=λj u h=>aT w #[.slice pa xp.length pc,.int .i64 xd,.slice sa xs.length sc,.slice ea xe.length ec] 30 (0,0) j u h;rw[<-cq]at da;have q0:=da 0 _ rfl;have q1:=da 1 _ rfl;have q2:=da 2 _ rfl;have q3:=da 3 _ rfl;have HQ:=Aa (And.intro q0 (And.intro q1 (And.intro q2 q3)));have HSA:=Aa (ac.grows dg);have HG0:=Aa dg;clear da;have CM:=Aa (vP0 ⟨xp,xd,xs,xe⟩ ⟨pa,pc,sa,sc,ea,ec⟩ W0.drew yh (HSA.out.grows (aB.drew W0)));have CB:=λ(W:World) (mv:Value) (h:aB W0 W) (hm:dW1 W mv (bB0 ⟨xp,xd,xs,xe⟩))=>Aa (tE0 xp mv (bB0 ⟨xp,xd,xs,xe⟩) xe pa ea pc ec W (he.grows (aB.trans _ _ _ HG0.out h)) (by have:=yh.lp;simp only at this;omega) yh.le yh.e mj (HSA.out.p.grows h) hm (HSA.out.e.grows h));obtain⟨SM,hSM⟩:=exq (bB0 ⟨xp,xd,xs,xe⟩);show Calls _ _ #[.agg #[.slice pa xp.length pc,.int .i64 xd,.slice sa xs.length sc,.slice ea xe.length ec]] _ (cZ xp (bB0 ⟨xp,xd,xs,xe⟩) xe w)
 rw[<-hSM]at CM CB ⊢;unfold yT.agg yT.cells at CM;simp only at CM;have z0:∀x:Ext aB W0.drew,x.u.cell? ⟨w.heap.size,0,none⟩=some (.slice pa xp.length pc):=aF ((aB.drew W0).cell q0);have z1:∀x:Ext aB W0.drew,x.u.cell? ⟨w.heap.size,1,none⟩=some (.int .i64 xd):=aF ((aB.drew W0).cell q1);have z2:∀x:Ext aB W0.drew,x.u.cell? ⟨w.heap.size,2,none⟩=some (.slice sa xs.length sc):=aF ((aB.drew W0).cell q2);have z3:∀x:Ext aB W0.drew,x.u.cell? ⟨w.heap.size,3,none⟩=some (.slice ea xe.length ec):=aF ((aB.drew W0).cell q3);clear hSM q0 q1 q2 q3 ac ag hz he mj yh HAT0 dg;go_enter Tryz.func34,Tryz.ntmps34
 go_wp2_with fail
 rw[<-cq];clear cq;refine bK (oK [0,1,2,4,5,3,6,7,8,9,10] [3,6]) (by kernel_rfl) (λd _ _ _ _ h=>by cases d<;>exact h) ?_
 iterate 5 (refine aH rfl (λK hK=>?_);go_simp;refine hK _ ?_;clear hK K)
 clear z0 z1 z2 z3;refine bJ rfl rfl (λK hK=>?_);go_simp;refine(CM.out).mono ?_;rintro e w1 ⟨mv,rfl,hm,aq⟩;refine⟨aq,hK _ _ ?_⟩;clear hK K;have ms:=aB.trans _ _ _ HG0.out (aB.trans _ _ _ (aB.drew W0) aq);refine bJ rfl rfl (λK hK=>?_);go_simp;refine((CB w1 mv (aB.trans _ _ _ (aB.drew W0) aq) hm).out).mono ?_;rintro e w2 ⟨af,v,rfl,hv⟩;refine⟨af,hK _ _ ?_⟩;clear hK K;iterate 4 (refine aH rfl (λK hK=>?_);go_simp;refine hK _ ?_;clear hK K)
 refine bQ ?_;go_wp2_with fail
 go_ret2;exact⟨aB.trans _ _ _ ms af,_,rfl,hv.base ms.size⟩
theorem fT1:∃i,Tryz.prog.info? 184=some i/\i.zero=some (.agg #[.string ⟨#[]⟩,.slice none 0 0])/\i.size=2/\i.bytes=40:=by
 have h:(Tryz.prog.info? 184).map (λi=>(i.zero,i.size,i.bytes))=some (some (.agg #[.string ⟨#[]⟩,.slice none 0 0]),2,40):=by kernel_rfl
 cases hi:Tryz.prog.info? 184 with
 | none=>rw[hi]at h;cases h
 | some i =>
  rw[hi]at h;simp only[Option.map_some,Option.some.injEq,Prod.mk.injEq]at h;exact⟨i,rfl,h.1,h.2.1,h.2.2⟩
def dP1:bE:=⟨⟨#[]⟩,[],none,0⟩
theorem rK {P:List bE} (h:fJ P=0):P.length<=64/\kU P<=16777216/\∀p∈P,p.name.size<=16:=by
 unfold fJ at h;split at h
 ·cases h
 ·split at h
  ·cases h
  ·rename_i h1 h2
   refine⟨by omega,by omega,λp hp=>?_⟩;have h3:¬(!azS p.name)=true:=λe=>h2 (List.any_eq_true.2 ⟨p,hp,e⟩);have h4:azS p.name=true:=by simpa using h3
   unfold azS at h4;simp only[Bool.and_eq_true,decide_eq_true_eq]at h4;exact h4.1.2
theorem eP0 {q:bE}:∀ {P:List bE},q∈P->q.data.length<=kU P
 | [],h=>by cases h
 | x::P,h=>by
  unfold kU;rw[Bj,Bk];rcases List.mem_cons.1 h with rfl|h
  ·omega
  ·have:=eP0 h
   unfold kU at this;omega
theorem xF:∀ {P:List bE},(∀p∈P,p.name.size<=16)->(dH P).length<=P.length*36
 | [],_=>by simp[dH]
 | p::P,h=>by
  have h1:=xF (P:=P) λq hq=>h q (by simp[hq]);have h2:=sM p.name;have h3:=cT p.data.length;have h4:=h p (by simp);unfold dH at h1 ⊢;rw[Bb,Ab,Ab,An];omega
theorem cF0:∀P:List bE,(dK P).length=kU P
 | []=>rfl
 | p::P=>by
  have:=cF0 P
  unfold dK kU at *;rw[Bb,Ab,this,Bj,Bk]
theorem wF {P:List bE} (h:fJ P=0):(dF P).length<=16800000:=by
 obtain⟨h1,h2,h3⟩:=rK h;have h4:=xF h3;have h5:=cF0 P;have h6:=cT P.length;unfold dF;simp only[Ab,An,Ap];omega
def flN (z:Nat->Value) (P:List bE) (k j:Nat):Value:=if j%2=0/\j/2<k then .string (P.getD (j/2) dP1).name else z j
def fsN (z:Nat->Value) (P:List bE) (k j:Nat):Value:=if j<k then .int .i64 ((P.getD j dP1).data.length:Nat) else z j
def flD (z:Nat->Value) (P Q:List bE) (j:Nat):Value:=if j%2=0 then .string (P.getD (j/2) dP1).name else match Q[j/2]? with|some q => .slice q.a q.data.length q.c|none=>z j
theorem eC1 {z:Nat->Value} {P:List bE} {k:Nat} {p:bE} (hp:P[k]?=some p) (j:Nat):(if j=k*2 then Value.string p.name else flN z P k j)=flN z P (k+1) j:=by
 unfold flN;by_cases h:j=k*2
 ·subst h
  rw[if_pos rfl,if_pos ⟨by omega,by omega⟩,show k*2/2=k by omega,Ad,hp]
  rfl
 ·rw[if_neg h]
  by_cases h2:j%2=0/\j/2<k
  ·rw[if_pos h2,if_pos ⟨h2.1,by omega⟩]
  ·rw[if_neg h2,if_neg (by omega)]
theorem iB1 {z:Nat->Value} {P:List bE} {k:Nat} {p:bE} (hp:P[k]?=some p) (j:Nat):(if j=k then Value.int .i64 (p.data.length:Nat) else fsN z P k j)=fsN z P (k+1) j:=by
 unfold fsN;by_cases h:j=k
 ·subst h
  rw[if_pos rfl,if_pos (by omega),Ad,hp];rfl
 ·rw[if_neg h]
  by_cases h3:j<k
  ·rw[if_pos h3,if_pos (by omega)]
  ·rw[if_neg h3,if_neg (by omega)]
theorem nW1 {z:Nat->Value} {P:List bE} {k n:Nat} {p:bE} (hp:P[k]?=some p) (hk:k<n):fsN z P n k=.int .i64 (p.data.length:Nat):=by
 unfold fsN;rw[if_pos hk,Ad,hp];rfl
theorem lS1 (z:Nat->Value) (P:List bE) (j:Nat) (hj:j<P.length*2):flN z P P.length j=flD z P [] j:=by
 unfold flN flD;by_cases h:j%2=0
 ·rw[if_pos ⟨h,by omega⟩,if_pos h]
 ·rw[if_neg (λe=>h e.1),if_neg h];simp
theorem dR1 {z:Nat->Value} {P Q:List bE} (q:bE) (j:Nat):(if j=Q.length*2+1 then Value.slice q.a q.data.length q.c else flD z P Q j)=flD z P (Q++[q]) j:=by
 unfold flD;by_cases h:j=Q.length*2+1
 ·subst h
  rw[if_pos rfl,if_neg (by omega),show (Q.length*2+1)/2=Q.length by omega,List.getElem?_append_right (Af _),Nat.sub_self]
  rfl
 ·rw[if_neg h]
  by_cases h2:j%2=0
  ·rw[if_pos h2,if_pos h2]
  ·rw[if_neg h2,if_neg h2]
   rcases Ba (j/2) Q.length with h3|h3|h3
   ·rw[List.getElem?_append_left h3]
   ·omega
   ·rw[Aw (by omega),Aw (by simp;omega)]
theorem vZ {W:World} {base k g n c:Nat} {e:TypeId} {xs:List Value} (h:W.ownsRow base e k (.slice (some ⟨g,0,none⟩) n c) n xs):∃z,rC W g (n*k) z:=by
 rcases h.2 with ⟨h1,_⟩|⟨g',cap,cj,hv,hb,hh,hn,hc,hs,ht⟩
 ·cases h1
 ·have e1:=(Value.slice.inj hv).1
  obtain rfl:g=g':=congrArg Addr.block (Option.some.inj e1);refine⟨λj=>cj.getD j undef,λj hj=>?_,λj=>by simp[World.frozen?,hh],(Array.getElem?_eq_some_iff.1 hh).1⟩;have lf:j<cj.size:=by rw[hs];exact Az hj (Nat.mul_le_mul_right k hn)
  simp[World.cell?,hh,lf]
structure fG0 (w:World) (B:Nat) (P Q:List bE):Prop where
 len:Q.length<=P.length
 bare:Q.map bare=(P.take Q.length).map bare
 at_:∀q∈Q,aG w q.a 1 (q.data.map aZ)
 none_:∀q∈Q,q.a=none->q.c=0
 far:∀q∈Q,∀r:Addr,q.a=some r->B<r.block
theorem fG0.grows {w w':World} {B:Nat} {P Q:List bE} (h:fG0 w B P Q) (hg:aB w w'):fG0 w' B P Q:=⟨h.len,h.bare,λq hq=>(h.at_ q hq).grows hg,h.none_,h.far⟩
theorem fG0.set {w:World} {B:Nat} {P Q:List bE} (h:fG0 w B P Q) {g i:Nat} (hg:g<=B) (v:Value):fG0 (w.setCell ⟨g,i,none⟩ v) B P Q :=
 ⟨h.len,h.bare,λq hq=>fD0 (h.at_ q hq) ((aB.refl w).grownBy_set g i v) (λr hr e=>by have:=h.far q hq r hr;have:=Option.some.inj e;omega),h.none_,h.far⟩
theorem mQ1 {W:World} {lb:Nat} {P Q:List bE} {z:Nat->Value} (h:rC W lb (P.length*2) (flD z P Q)) (hl:Q.length=P.length) (hb:Q.map bare=P.map bare):aG W (some ⟨lb,0,none⟩) 2 (Q.map lE):=λ_=>⟨lb,0,rfl,λi row hi j u hj=>by
 rw[At]at hi
 cases hq:Q[i]? with
 | none=>rw[hq]at hi;cases hi
 | some q =>
  rw[hq]at hi;obtain rfl:lE q=row:=by simpa using hi
  have hiQ:=(List.getElem?_eq_some_iff.1 hq).1;have lf:j<2:=by have:=(List.getElem?_eq_some_iff.1 hj).1;simpa [lE] using this
  have hc:=h.cell (i*2+j) (by omega);rw[Nat.zero_add,hc]
  have hn:(P.getD i dP1).name=q.name:=by
   have h1:(Q.map bare)[i]?=some (bare q):=by rw[At,hq];rfl
   rw[hb,At]at h1
   cases hp:P[i]? with
   | none=>rw[hp]at h1;cases h1
   | some p =>
    rw[hp]at h1;have h2:=Option.some.inj h1;rw[Ad,hp];have h3:(bare p).name=(bare q).name:=by rw[h2]
    exact h3
  match j,lf with
  | 0,_ =>
   simp only[lE,Au,Option.some.injEq]at hj;subst hj;unfold flD;rw[if_pos (by omega),show (i*2+0)/2=i by omega,hn]
  | 1,_ =>
   simp only[lE,List.getElem?_cons_succ,Au,Option.some.injEq]at hj;subst hj;unfold flD;rw[if_neg (by omega),show (i*2+1)/2=i by omega,hq]⟩
theorem lU1 {w W:World} {v:Value} {t:TypeId} (hg:aB (w.alloc (.cells #[v] t)) W):rC W w.heap.size 1 (λ_=>v):=by
 obtain⟨h1,h2⟩:=cF hg
 have h0:∀j,j<1->(#[v]:Array Value)[j]?=some v:=λj hj=>by
  obtain rfl:j=0:=by omega
  rfl
 exact⟨λj hj=>h1 j _ (h0 j hj),h2,Az (by simp) hg.size⟩
def mC1 (P:List bE) (w:World) (e:Ending) (w':World):Prop :=
 aB w w'/\∃(Q:List bE) (a:Option Addr) (c:Nat),e=.returned (.tuple #[.slice a Q.length c,.bool true])/\Q.map bare=P.map bare/\aG w' a 2 (Q.map lE)/\jE w' Q
theorem vM0 (P:List bE) (ba:Option Addr) (bc:Nat) (w:World) (qu:fJ P=0) (ff:(dF P).length<=bc) (_hbm:bc<=maxLen) (jk:ba=none->bc=0) (ac:aG w ba 1 ((dF P).map aZ)) :
  Calls Tryz.prog 127 #[.slice ba (dF P).length bc] w (mC1 P w):=by
 obtain⟨me,mw,yj⟩:=rK qu;have gn:=wF qu;have HNM:=Aa yj;have HSZ:Hid (∀p∈P,p.data.length<=16777216):=λp hp=>Aj (eP0 hp) mw;have HC0:=Aa (iX1 (P:=P) (by omega));have HNA:=Aa (λi p (h:P[i]?=some p)=>nE1 h (by have:=yj p (Ae h);omega));have HSI:=Aa (λi p (h:P[i]?=some p)=>mI1 h (by have:=Aj (eP0 (Ae h)) mw;omega));have HDA:=Aa (λi p (h:P[i]?=some p)=>nB1 h);have HHZ:=Aa (tX0 P);have HHL:=Aa (λi=>hP1 (P:=P) (i:=i));have HDL:=Aa (λi=>fW1 (P:=P) (i:=i));have HDE:=Aa (zD0 P);have HDZ:=Aa (uI0 P);obtain⟨b,hb⟩:=exq (dF P);rw[<-hb]at HC0 HNA HSI HDA HHL HDL HDE gn ff ac ⊢;obtain⟨n,hn⟩:=exq P.length;rw[<-hn]at HC0 HHZ HDE HDZ me;have HN:=Aa hn;have HAT:=Aa ac;have HNC:=Aa jk;clear ac hb yj mw qu jk hn
 -- the boxes
 obtain⟨W1,bu⟩:=exq (((w.alloc (.cells #[.slice ba b.length bc] 60)).alloc (.cells #[.int .i64 4] 3)).alloc (.cells #[.bool true] 4));have aq:aB w W1:=by rw[bu];exact((aB.alloc _ _).al _).al _
 obtain⟨pb,eo⟩:=exq w.heap.size
 have vh:rC W1 pb 1 (λ_ => .slice ba b.length bc):=by
  rw[bu,eo];exact lU1 ((aB.alloc _ _).al _)
 have hA1:rC W1 (pb+1) 1 (λ_ => .int .i64 4):=by
  rw[bu,eo];have h:=lU1 (w:=w.alloc (.cells #[.slice ba b.length bc] 60)) (v:=.int .i64 4) (t:=3) (W:=((w.alloc (.cells #[.slice ba b.length bc] 60)).alloc (.cells #[.int .i64 4] 3)).alloc (.cells #[.bool true] 4)) (aB.alloc _ _);rw[show (w.alloc (.cells #[.slice ba b.length bc] 60)).heap.size=w.heap.size+1 by simp]at h
  exact h
 have kw:rC W1 (pb+1+1) 1 (λ_ => .bool true):=by
  rw[bu,eo];have h:=lU1 (w:=(w.alloc (.cells #[.slice ba b.length bc] 60)).alloc (.cells #[.int .i64 4] 3)) (v:=.bool true) (t:=4) (W:=((w.alloc (.cells #[.slice ba b.length bc] 60)).alloc (.cells #[.int .i64 4] 3)).alloc (.cells #[.bool true] 4)) (aB.refl _);rw[show ((w.alloc (.cells #[.slice ba b.length bc] 60)).alloc (.cells #[.int .i64 4] 3)).heap.size=w.heap.size+1+1 by simp]at h
  exact h
 have HG1:=Aa aq;have HPB:=Aa eo;have eg:=lM1;have cb:=vh.cell 0 (by decide);have ca:=hA1.cell 0 (by decide);have co:=kw.cell 0 (by decide);have CN:=Aa (qK0 b ba bc 4 n (putU n).length pb (pb+1) (pb+1+1) 64 W1 (by have:=HHL.out 0;have:=HHZ.out;omega) (by omega) (HAT.out.grows aq) HC0.out me (by decide) cb ca co (hA1.froz 0));have lk:=λ(Y:World)=>gQ1 n Y (by omega);obtain⟨iu,hiu,hzu,hsu,qg⟩:=fT1;clear aq;go_enter Tryz.func127,Tryz.ntmps127
 go_wp2_with fail
 rw[<-bu,<-HPB.out];clear bu eo cb ca co;refine CN.out.mono ?_;rintro e w3 ⟨rfl,w2,af,rfl⟩;obtain⟨k0,nt⟩:=exq (4+(putU n).length);rw[<-nt]at HHZ ⊢;have kn:=(vh.grows af).other (b':=pb+1) (j':=0) (by omega) (.int .i64 (k0:Nat));have rq:=(kw.grows af).other (b':=pb+1) (j':=0) (by omega) (.int .i64 (k0:Nat));have hA2:=((hA1.grows af).set (k:=0) (by decide) (.int .i64 (k0:Nat))).congr (g:=λ_ => .int .i64 (k0:Nat)) (λj hj=>by rw[if_pos (by omega)]);have mm:=kw.lt;have ay:aB w (w2.setCell ⟨pb+1,0,none⟩ (.int .i64 (k0:Nat))):=(aB.trans _ _ _ HG1.out af).set (by rw[HPB.out];simp) _;have vy:pb+1+1<(w2.setCell ⟨pb+1,0,none⟩ (.int .i64 (k0:Nat))).heap.size:=by have:=af.size;simp;omega
 obtain⟨W3,gp⟩:=exq (w2.setCell ⟨pb+1,0,none⟩ (.int .i64 (k0:Nat)));rw[<-gp]at kn rq hA2 ay vy ⊢;clear gp vh hA1 kw af CN nt;obtain⟨pa,jn⟩:=exq (pb+1);obtain⟨po,hpo⟩:=exq (pb+1+1);rw[<-hpo]at rq vy ⊢;rw[<-jn]at hA2 ⊢;have ada:pb<pa:=by omega
 have az:pa<po:=by omega
 have HPA:=Aa (And.intro jn hpo);clear jn hpo;go_wp2_with (at_make;refine wpList_make_full _ rfl _ _ 113 rfl W3.heap.size 184 iu (.agg #[.string ⟨#[]⟩,.slice none 0 0]) 2 Tryz.underlying113 hiu hzu hsu .i64 .i64 _ _ n rfl rfl rfl rfl (by rw[qg];omega) (by unfold maxLen;omega) (Af _) ?_;intro w4 dw age)
 obtain⟨lb,nh⟩:=exq W3.heap.size;rw[<-nh]at dw ⊢;obtain⟨zl,hL4⟩:=vZ dw;have cp:aB W3 w4:=(aB.refl W3).grown age (λq hq=>by cases hq);have yy:=eJ0 (w:=w4) (n:=n) (by omega);obtain⟨W5,pq⟩:=exq (w4.alloc (.cells (madeCells #[.int .i64 0] (n*1)) 3));have bk:aB w4 W5:=by rw[pq];exact aB.alloc _ _
 rw[<-pq]at yy;obtain⟨sb,l7⟩:=exq w4.heap.size;rw[<-l7]at yy ⊢
 have agf:W5.ownsRow sb 3 1 (.slice (some ⟨sb,0,none⟩) n n) n ((List.replicate n 0).flatMap lJ):=by
  have:=yy
  unfold aV at this;rwa [List.length_replicate]at this
 obtain⟨zs,hS5⟩:=vZ agf;rw[Be]at hS5;have hL5:=hL4.grows bk;have ym:=aB.trans _ _ _ cp bk;have ue:=kn.grows ym;have hO5:=rq.grows ym;have hA5:=hA2.grows ym;have dh:=aB.trans _ _ _ ay ym;have aig:po<lb:=by omega
 have adl:lb<sb:=by rw[l7];exact hL4.lt
 rw[Be]at pq;try rw[<-pq]
 have HG5:=Aa dh;clear yy agf dw age hL4 cp bk ym kn rq hA2 ay dh nh l7 pq hiu hzu hsu qg vy mm;go_loopw [9] (λi wr=>∃(k:Nat),k<=n/\i=.int .i64 k/\rC wr pb 1 (λ_ => .slice ba b.length bc)/\rC wr pa 1 (λ_ => .int .i64 (hposP P k:Nat))/\rC wr po 1 (λ_ => .bool true)/\rC wr lb (n*2) (flN zl P k)/\rC wr sb n (fsN zs P k)/\aB w wr) (λi _=>n-(intOf i).toNat)
 case atStart=>exact⟨0,Ah _,rfl,ue,by rw[HHZ.out];exact hA5,hO5,hL5.congr (λj _=>by unfold flN;rw[if_neg (by omega)]),hS5.congr (λj _=>by unfold fsN;rw[if_neg (by omega)]),HG5.out⟩
 case round =>
  clear ue hO5 hA5 hL5 hS5;obtain⟨k,hk,rfl,hB,hA,hO,hL,hS,hg⟩:=hrel;by_cases ae:k<n
  ·obtain⟨p,hp⟩:∃p,P[k]?=some p:=⟨_,Ac (by rw[<-HN.out];exact ae)⟩
   have hpm:=Ae hp;have hz1:=HNM.out p hpm;have pw:=HSZ.out p hpm;have cn:(k:Int)<n:=by omega
   have cb:=hB.cell 0 (by decide);have ca:=hA.cell 0 (by decide);have co:=hO.cell 0 (by decide);have CT:=Aa (dN0 b (hposP P k) ba bc wr (HHL.out k) (by omega) ff HNC.out (HAT.out.grows hg));rw[HNA.out k p hp]at CT;unfold tS0 at CT;obtain⟨K1,hK1⟩:=exq (hposP P k+(rT p.name).length);have HR:=Aa (HSI.out k p hp);have HSUC:=Aa (uY0 hp);simp only[<-hK1]at CT;rw[<-hK1]at HR HSUC;have aik:K1<=b.length:=by have:=HHL.out (k+1);have:=HSUC.out;omega
   obtain⟨kk,nf⟩:=exq (hposP P k);rw[<-nf]at CT ca;have HKK:=Aa nf;clear hK1 nf hpm;go_wp2_with fail
   refine CT.out.mono ?_;rintro e w6 ⟨rfl,dn⟩;have uz:=hB.grows dn;have hA6:=hA.grows dn;have hO6:=hO.grows dn;have hL6:=hL.grows dn;have hS6:=hS.grows dn;have cl:=hL6.cell (k*2) (by omega);have fl:=hL6.froz (k*2);have hL7:=(hL6.set (k:=k*2) (by omega) (.string p.name)).congr (g:=λj=>if j=k*2 then Value.string p.name else flN zl P k j) (λj _=>rfl)
   have uj:=hA6.other (b':=lb) (j':=k*2) (by omega) (.string p.name);have ca7:=uj.cell 0 (by decide);have fa7:=uj.froz 0;have hL8:=hL7.other (b':=pa) (j':=0) (by omega) (.int .i64 (K1:Nat));have hA8:=(uj.set (k:=0) (by decide) (.int .i64 (K1:Nat))).congr (g:=λ_ => .int .i64 (K1:Nat)) (λj hj=>by rw[if_pos (by omega)]);have hB8:=(uz.other (b':=lb) (j':=k*2) (by omega) (.string p.name)).other (b':=pa) (j':=0) (by omega) (.int .i64 (K1:Nat));have hO8:=(hO6.other (b':=lb) (j':=k*2) (by omega) (.string p.name)).other (b':=pa) (j':=0) (by omega) (.int .i64 (K1:Nat));have zq:=(hS6.other (b':=lb) (j':=k*2) (by omega) (.string p.name)).other (b':=pa) (j':=0) (by omega) (.int .i64 (K1:Nat));have aca:w.heap.size<=pa:=by have:=HPA.out;have:=HPB.out;omega
   have fg:aB w ((w6.setCell ⟨lb,k*2,none⟩ (.string p.name)).setCell ⟨pa,0,none⟩ (.int .i64 (K1:Nat))):=((aB.trans _ _ _ hg dn).set (by simp only;omega) _).set aca _;obtain⟨W8,hW8⟩:=exq ((w6.setCell ⟨lb,k*2,none⟩ (.string p.name)).setCell ⟨pa,0,none⟩ (.int .i64 (K1:Nat)));rw[<-hW8]at hL8 hA8 hB8 hO8 zq fg;clear hB hA hO hL hS hg cb ca co uz hA6 hO6 hL6 hS6 hL7 uj dn;go_wp2_with fail
   rw[<-hW8];clear hW8 cl fl ca7 fa7;have cb8:=hB8.cell 0 (by decide);have ca8:=hA8.cell 0 (by decide);have co8:=hO8.cell 0 (by decide);obtain⟨SZ,hSZ⟩:=exq p.data.length;rw[<-hSZ]at HR HSUC pw;have HSZ2:=Aa hSZ;refine(qK0 b ba bc K1 SZ (putU SZ).length pb pa po 16777216 W8 aik (by omega) (HAT.out.grows fg) HR.out pw (by decide) cb8 ca8 co8 (hA8.froz 0)).mono ?_;rintro e w10 ⟨rfl,w9,fw,rfl⟩;obtain⟨K2,nc⟩:=exq (K1+(putU SZ).length);rw[<-nc]at HSUC ⊢;clear nc hSZ cb8 ca8 co8;have zh:=(hB8.grows fw).other (b':=pa) (j':=0) (by omega) (.int .i64 (K2:Nat));have hO9:=(hO8.grows fw).other (b':=pa) (j':=0) (by omega) (.int .i64 (K2:Nat));have hL9:=(hL8.grows fw).other (b':=pa) (j':=0) (by omega) (.int .i64 (K2:Nat));have hS9:=(zq.grows fw).other (b':=pa) (j':=0) (by omega) (.int .i64 (K2:Nat));have hA9:=((hA8.grows fw).set (k:=0) (by decide) (.int .i64 (K2:Nat))).congr (g:=λ_ => .int .i64 (K2:Nat)) (λj hj=>by rw[if_pos (by omega)]);have lq:aB w (w9.setCell ⟨pa,0,none⟩ (.int .i64 (K2:Nat))):=(aB.trans _ _ _ fg fw).set aca _;obtain⟨W10,agh⟩:=exq (w9.setCell ⟨pa,0,none⟩ (.int .i64 (K2:Nat)));rw[<-agh]at zh hO9 hL9 hS9 hA9 lq ⊢;have cs:=hS9.cell k ae;have fs:=hS9.froz k;have ail:=(hS9.set ae (.int .i64 (SZ:Nat))).congr (g:=fsN zs P (k+1)) (λj _=>by rw[HSZ2.out];exact iB1 hp j);have aim:=zh.other (b':=sb) (j':=k) (by omega) (.int .i64 (SZ:Nat));have ain:=hO9.other (b':=sb) (j':=k) (by omega) (.int .i64 (SZ:Nat));have aio:=hA9.other (b':=sb) (j':=k) (by omega) (.int .i64 (SZ:Nat));have aip:=(hL9.other (b':=sb) (j':=k) (by omega) (.int .i64 (SZ:Nat))).congr (g:=flN zl P (k+1)) (λj _=>eC1 hp j);have ac9:=lq.set (p:=⟨sb,k,none⟩) (by simp only;omega) (.int .i64 (SZ:Nat));clear hB8 hO8 hL8 zq hA8 fg fw zh hO9 hL9 hS9 hA9 lq agh hp;go_wp2_with fail
   go_roundw
   case rel=>exact⟨k+1,ae,by go_num,aim,by rw[HSUC.out];exact aio,ain,aip,ail,ac9⟩
   case measure=>simp[intOf];omega
  ·obtain rfl:n=k:=by omega
   have hL0:rC wr lb (n*2) (flD zl P []):=hL.congr (λj hj=>by
    have h:=lS1 zl P j (by rw[<-HN.out];exact hj);rw[<-HN.out]at h;exact h)
   rw[<-HDZ.out]at hA;have HGR:=Aa hg;clear hL;go_wp2_with fail
   go_loopw [53] (λi wx=>∃Q:List bE,i=.int .i64 (Q.length:Nat)/\rC wx pb 1 (λ_ => .slice ba b.length bc)/\rC wx pa 1 (λ_ => .int .i64 (sV P Q.length:Nat))/\rC wx po 1 (λ_ => .bool true)/\rC wx lb (n*2) (flD zl P Q)/\rC wx sb n (fsN zs P n)/\fG0 wx sb P Q/\aB w wx) (λi _=>n-(intOf i).toNat)
   case atStart=>exact⟨[],rfl,hB,hA,hO,hL0,hS,⟨Ah _,rfl,λq hq=>by (cases hq),λq hq=>by (cases hq),λq hq=>by (cases hq)⟩,hg⟩
   case round =>
    clear hB hA hO hL0 hS hg;obtain⟨Q,rfl,hB,hA,hO,hL,hS,hQ,hg⟩:=hrel;have hQn:Q.length<=n:=by rw[HN.out];exact hQ.len
    obtain⟨k,hk⟩:=exq Q.length;have HKQ:=Aa hk;by_cases ae:k<n
    ·obtain⟨p,hp⟩:∃p,P[k]?=some p:=⟨_,Ac (by rw[<-HN.out];exact ae)⟩
     have pw:=HSZ.out p (Ae hp);have cs:=hS.cell k ae;rw[nW1 hp ae]at cs;obtain⟨D,hD⟩:=exq (sV P k);have HD:=Aa hD;have HDS:=Aa (dF0 hp);have HDATA:=Aa (HDA.out k p hp);have hDb:D+p.data.length<=b.length:=by rw[hD,<-dF0 hp];exact HDL.out (k+1)
     rw[<-hk,<-hD]at hA;rw[<-hD]at HDS HDATA;obtain⟨SZ,hSZ⟩:=exq p.data.length;rw[<-hSZ]at cs pw hDb HDS HDATA;have HSE:=Aa hSZ;have HP:=Aa hp;have cn:(k:Int)<n:=by omega
     have cb:=hB.cell 0 (by decide);have ca:=hA.cell 0 (by decide);have co:=hO.cell 0 (by decide);have aep:IntKind.i64.wrap ((b.length:Int)-(D:Int))=((b.length-D:Nat):Int):=by simp[Aq,Ar,Ai];omega
     have kr:¬((b.length-D:Nat):Int)<SZ:=by omega
     have wa:IntKind.i64.wrap ((D:Int)+SZ)=((D+SZ:Nat):Int):=by simp[Aq,Ar,Ai];omega
     have h01:(0:Int)<=(D:Int)+SZ:=by omega
     have h02:(D:Int)+SZ<=bc:=by omega
     have tn:((D:Int)+SZ).toNat=D+SZ:=by omega
     have tk:D<=D+SZ:=by omega
     have tm:D+SZ-D=SZ:=by omega
     obtain⟨a',iy,jw,abh⟩:=aA0 (c:=bc) (l:=D) (h:=D+SZ) (k:=1) (HAT.out.grows hg) HNC.out (by omega) (by omega) (by omega);rw[tm]at iy;rw[HDATA.out]at jw
     have ag7:(if bc=D then ba else Option.map (λx=>x.add D) ba)=a':=by
      unfold sliced at iy;by_cases s5:bc=D
      ·rw[if_pos s5]at iy ⊢;exact(Value.slice.inj iy).1
      ·rw[if_neg s5]at iy ⊢
       have:=(Value.slice.inj iy).1
       rw[<-this];congr 1
       funext x
       rw[Be]
     have CC:=Aa (cW0 p.data a' (bc-D) wr (by omega) abh jw);rw[<-hSZ]at CC;rw[<-hk];clear hD hSZ hp iy jw abh hk;go_wp2_with fail
     refine CC.out.mono ?_;rintro e w6 ⟨v6,rfl,zp,dn⟩;obtain⟨qa,qc,rfl,j9,nu⟩:=fD zp
     have agi:∀r:Addr,qa=some r->sb<r.block:=λr hr=>by
      have h1:=hS.lt;rcases zp.2 with ⟨e,_⟩|⟨g,cap,cj,e,pe,_⟩
      ·rw[hr]at e;cases (Value.slice.inj e).1
      ·have e1:=(Value.slice.inj e).1
       rw[hr]at e1;cases e1
       simp only;omega
     have uz:=hB.grows dn;have hA6:=hA.grows dn;have hO6:=hO.grows dn;have hL6:=hL.grows dn;have hS6:=hS.grows dn;have hQ6:=hQ.grows dn;rw[<-HSE.out];have cl:=hL6.cell (k*2+1) (by omega);have fl:=hL6.froz (k*2+1);have ca6:=hA6.cell 0 (by decide);have uj:=hA6.other (b':=lb) (j':=k*2+1) (by omega) (.slice qa SZ qc);have ca7:=uj.cell 0 (by decide);have fa7:=uj.froz 0;have hL7:=hL6.set (k:=k*2+1) (by omega) (.slice qa SZ qc);have aca:w.heap.size<=pa:=by have:=HPA.out;have:=HPB.out;omega
     have hL8:=(hL7.other (b':=pa) (j':=0) (by omega) (.int .i64 ((D:Int)+SZ))).congr (g:=flD zl P (Q++[⟨p.name,p.data,qa,qc⟩])) (λj _=>by
      rw[HKQ.out,HSE.out];exact dR1 ⟨p.name,p.data,qa,qc⟩ j)
     have hA8:=(uj.set (k:=0) (by decide) (.int .i64 ((D:Int)+SZ))).congr (g:=λ_ => .int .i64 ((D+SZ:Nat):Int)) (λj hj=>by rw[if_pos (by omega)];push_cast;rfl);have hB8:=(uz.other (b':=lb) (j':=k*2+1) (by omega) (.slice qa SZ qc)).other (b':=pa) (j':=0) (by omega) (.int .i64 ((D:Int)+SZ));have hO8:=(hO6.other (b':=lb) (j':=k*2+1) (by omega) (.slice qa SZ qc)).other (b':=pa) (j':=0) (by omega) (.int .i64 ((D:Int)+SZ));have zq:=(hS6.other (b':=lb) (j':=k*2+1) (by omega) (.slice qa SZ qc)).other (b':=pa) (j':=0) (by omega) (.int .i64 ((D:Int)+SZ))
     have hQ8:fG0 ((w6.setCell ⟨lb,k*2+1,none⟩ (.slice qa SZ qc)).setCell ⟨pa,0,none⟩ (.int .i64 ((D:Int)+SZ))) sb P (Q++[⟨p.name,p.data,qa,qc⟩]):=by
      have h1:fG0 w6 sb P (Q++[⟨p.name,p.data,qa,qc⟩]):=by
       refine⟨by rw[Ab,Ak,<-HKQ.out,<-HN.out];omega,?_,λq hq=>?_,λq hq=>?_,λq hq=>?_⟩
       ·rw[Ab,Ak,List.take_add_one,<-HKQ.out,HP.out,Ao,Ao]
        have:=hQ6.bare
        rw[<-HKQ.out]at this;rw[this];rfl
       ·rcases List.mem_append.1 hq with h|h
        ·exact hQ6.at_ q h
        ·rw[As]at h;subst h;exact j9
       ·rcases List.mem_append.1 hq with h|h
        ·exact hQ6.none_ q h
        ·rw[As]at h;subst h;exact nu
       ·rcases List.mem_append.1 hq with h|h
        ·exact hQ6.far q h
        ·rw[As]at h;subst h;exact agi
      exact(h1.set (by omega) _).set (by omega) _
     have fg:aB w ((w6.setCell ⟨lb,k*2+1,none⟩ (.slice qa SZ qc)).setCell ⟨pa,0,none⟩ (.int .i64 ((D:Int)+SZ))):=((aB.trans _ _ _ hg dn).set (by simp only;omega) _).set aca _;have HLEN:Hid ((Q++[(⟨p.name,p.data,qa,qc⟩:bE)]).length=k+1):=by show _=_;rw[Ab,Ak,<-HKQ.out]
     clear hB hA hO hL hS hQ hg cb ca co uz hA6 hO6 hL6 hS6 hQ6 hL7 uj dn zp j9 nu agi CC;go_wp2_with fail
     go_roundw
     case rel=>exact⟨Q++[⟨p.name,p.data,qa,qc⟩],by rw[HLEN.out];go_num,hB8,by rw[HLEN.out,HDS.out];exact hA8,hO8,hL8,zq,hQ8,fg⟩
     case measure=>simp[intOf];omega
    ·have hkn:k=n:=by omega
     rw[<-hk,hkn,HDE.out]at hA;have zr:Q.length=P.length:=by rw[<-HN.out];omega
     have qt:Q.map bare=P.map bare:=by have:=hQ.bare;rw[zr,Al]at this;exact this
     have i7:∀q∈Q,∃p∈P,q.name=p.name/\q.data=p.data:=λq hq=>by
      have h1:bare q∈P.map bare:=by rw[<-qt];exact List.mem_map.2 ⟨q,hq,rfl⟩
      obtain⟨p,hp,he⟩:=List.mem_map.1 h1;have h2:(bare p).name=(bare q).name:=by rw[he]
      have h3:(bare p).data=(bare q).data:=by rw[he]
      exact⟨p,hp,h2.symm,h3.symm⟩
     have HPOST:Hid (aG wr (some ⟨lb,0,none⟩) 2 (Q.map lE)/\jE wr Q):=⟨mQ1 (by rw[<-HN.out];exact hL) zr qt,hQ.at_,hQ.none_,λq hq=>by
      obtain⟨p,hp,h1,_⟩:=i7 q hq;rw[h1];exact Aj (HNM.out p hp) (by decide),λq hq=>by
      obtain⟨p,hp,_,h2⟩:=i7 q hq;rw[h2];exact Aj (HSZ.out p hp) (by decide)⟩
     have HBR:=Aa qt;have HQL:=Aa zr;have z0:∀x:Ext aB wr.drew,x.u.cell? ⟨pb,0,none⟩=some (.slice ba b.length bc):=aF ((aB.drew wr).cell (hB.cell 0 (by decide)));have z1:∀x:Ext aB wr.drew,x.u.cell? ⟨pa,0,none⟩=some (.int .i64 (b.length:Nat)):=aF ((aB.drew wr).cell (hA.cell 0 (by decide)));have z2:∀x:Ext aB wr.drew,x.u.cell? ⟨po,0,none⟩=some (.bool true):=aF ((aB.drew wr).cell (hO.cell 0 (by decide)));have cn:¬(k:Int)<n:=by omega
     have nf:((Q.length:Nat):Int)=k:=by rw[hk]
     clear hB hA hO hL hS hQ i7 qt zr;rw[<-hk];clear hk nf;go_wp2_with fail
     refine bK (bB 10 []) (by kernel_rfl) (λd _ _ _ _ h=>by cases d<;>exact h) ?_
     iterate 10 (refine aH rfl (λK hK=>?_);go_simp;refine hK _ ?_;clear hK K)
     refine bQ ?_;go_wp2_with fail
     go_ret2;refine⟨hg.dr,Q,some ⟨lb,0,none⟩,n,?_,HBR.out,HPOST.out.1.grows (aB.drew wr),HPOST.out.2.grows (aB.drew wr)⟩;rw[HQL.out,<-HN.out];rfl
def wI0 (P:List bE) (w:World) (e:Ending) (w':World):Prop :=
 aB w w'/\∃(Q:List bE) (a:Option Addr) (c:Nat),e=.returned (.tuple #[.slice a Q.length c,.int .i64 0])/\Q.map bare=P.map bare/\aG w' a 2 (Q.map lE)/\jE w' Q
theorem mS0 (P:List bE) (ba:Option Addr) (bc:Nat) (w:World) (he:Env w) (qu:fJ P=0) (ff:(file14 P).length<=bc) (vp:bc<=maxLen) (jk:ba=none->bc=0) (ac:aG w ba 1 ((file14 P).map aZ)) :
  Calls Tryz.prog 65 #[.slice ba (file14 P).length bc] w (wI0 P w):=by
 have gn:=wF qu;obtain⟨b,hb⟩:=exq (file14 P);obtain⟨bo,hbo⟩:=exq (dF P);have o9:b=bo++leB 4 (crcSum bo):=by rw[hb,hbo];rfl
 have ah:b.length=bo.length+4:=by rw[o9,Ab,bP]
 have h5:5<=bo.length:=by
  have:1<=(putU P.length).length:=List.length_pos_iff.2 (pF P.length)
  rw[hbo];unfold dF;simp only[Ab,An,Ap];omega
 have adm:(b.take 4).drop 0=[72,78,75,49]:=by
  rw[o9,hbo];unfold dF;simp
 have adn:(b.take bo.length).drop 0=bo:=by rw[o9];simp
 have mw:(b.take b.length).drop bo.length=leB 4 (crcSum bo):=by rw[Al,o9];simp
 rw[<-hb]at ff ac ⊢;rw[<-hbo]at gn;have HAT:=Aa ac;have HNC:=Aa jk;have HE:=Aa he;have HB:=Aa hb;have HBO:=Aa hbo;have HCHK:=Aa qu;have HMAG:=Aa adm;have HBOD:=Aa adn;have HSUM:=Aa mw;have HLEN:=Aa ah;obtain⟨m,hm⟩:=exq bo.length;rw[<-hm]at ah h5 gn;have HM:=Aa hm;obtain⟨n,hn⟩:=exq b.length;rw[<-hn]at ah ff ⊢;have HN:=Aa hn;subst ah
 have rh:(convert 60 9 (.slice ba 4 bc)).run Tryz.prog w=.ok (.string ⟨#[72,78,75,49]⟩) w:=by
  have h:=xP (c:=bc) (yF0 ac 4);rw[show b.take 4=[72,78,75,49] by exact adm]at h
  exact h
 have abk:aG w ba 1 (bo.map aZ):=by
  have h:=yF0 ac m;rw[show b.take m=bo by rw[hm];exact adn]at h
  exact h
 obtain⟨a1,ie,ha1,io⟩:=aB0 (l:=m) (h:=m+4) ac jk (by omega) (by rw[<-HN.out];exact Af _) (by rw[<-HN.out];exact ff);rw[show (b.take (m+4)).drop m=leB 4 (crcSum bo) by rw[HN.out,hm];exact mw]at ha1
 have HA1:=Aa ha1;have HATB:=Aa abk;have hn9:¬((m:Int)+4<9):=by omega
 have h4a:(4:Int)<=bc:=by omega
 have aep:IntKind.i64.wrap ((m:Int)+4-4)=(m:Int):=by simp[Aq,Ar,Ai];omega
 have wm:IntKind.i64.wrap (m:Int)=(m:Int):=by simp[Aq,Ar,Ai];omega
 have m9:(m:Int)<=bc:=by omega
 have na:(m:Int)<=(m:Int)+4:=by omega
 have CS:=λ(W:World) (h:aB w W)=>Aa (wZ bo ba bc W (HE.out.grows h) (by rw[<-HM.out];omega) (HATB.out.grows h));have CP:=λ(W:World) (h:aB w W)=>Aa (vM0 P ba bc W HCHK.out (by rw[<-HBO.out,<-HM.out];omega) vp HNC.out (by rw[<-HBO.out];exact HATB.out.grows h));rw[<-HBO.out]at CP;rw[<-HM.out]at CS CP;clear ac jk he hb hbo qu adm adn mw o9 hm hn ha1 abk;go_enter Tryz.func65,Tryz.ntmps65
 have CE:∀(W:World) (s1:Option Addr) (d1:Nat),aB w W->aG W s1 1 ((leB 4 (crcSum bo)).map aZ)->Hid (Calls Tryz.prog 125 #[.slice a1 4 (bc-m),.slice s1 4 d1] W λe w'=>e=.returned (.bool true)/\W=w'):=λW s1 d1 hW h1=>by
  have h:=mX (leB 4 (crcSum bo)) (leB 4 (crcSum bo)) a1 s1 (bc-m) d1 W (HA1.out.grows hW) h1;rw[bP]at h;simp only[decide_true]at h;exact h
 have CE2:∀(W:World) (s1:Option Addr) (d1:Nat),aB w W->aG W s1 1 (b.map aZ)->Hid (Calls Tryz.prog 125 #[.slice s1 (m+4) d1,.slice ba (m+4) bc] W λe w'=>e=.returned (.bool true)/\W=w'):=λW s1 d1 hW h1=>by
  have h:=mX b b s1 ba d1 bc W h1 (HAT.out.grows hW);rw[<-HN.out]at h;simp only[decide_true]at h;exact h
 go_wp2_with fail
 refine bK (bB 9 [6,7]) (by kernel_rfl) (λd _ _ _ _ h=>by cases d<;>exact h) ?_
 iterate 6 (refine aH rfl (λK hK=>?_);go_simp;refine hK _ ?_;clear hK K)
 refine bJ rfl rfl (λK hK=>?_);go_simp;refine((CS w.drew (aB.drew w)).out).mono ?_;rintro e w1 ⟨v1,rfl,agj,aq⟩;refine⟨aq,hK _ _ ?_⟩;clear hK K;have cm:=aB.trans _ _ _ (aB.drew w) aq;obtain⟨s1,d1,rfl,ed,_⟩:=fD agj;rw[bP];refine bJ rfl rfl (λK hK=>?_);go_simp;refine((CE w1 s1 d1 cm ed).out).mono ?_;rintro e w2 ⟨rfl,rfl⟩;refine⟨aB.refl _,hK _ _ ?_⟩;clear hK K;iterate 1 (refine aH rfl (λK hK=>?_);go_simp;refine hK _ ?_;clear hK K)
 refine bQ ?_;clear agj ed aq CS CE;go_wp2_with fail
 refine(CP w1 cm).out.mono ?_;rintro e w3 ⟨ay,Q,qa,qc,rfl,qt,j9,hqp⟩;have j6:=aB.trans _ _ _ cm ay;have hq0:fJ Q=0:=by rw[<-qF,qt,qF];exact HCHK.out
 have hqf:file14 Q=b:=by rw[<-nN,qt,nN,HB.out]
 have hql:=(rK hq0).1;have CJ:=Aa (pK0 Q qa qc w3 (HE.out.grows j6) (by omega) j9 hqp);have HQ:=Aa (And.intro qt (And.intro j9 hqp));have HQ0:=Aa hq0;have HQF:=Aa hqf;clear ay qt j9 hqp hq0 hqf CP cm;go_wp2_with fail
 refine CJ.out.mono ?_;rintro e w4 ⟨o6,_,cp⟩;obtain⟨v4,rfl,hv4⟩:=o6 HQ0.out;rw[HQF.out]at hv4;obtain⟨s4,d4,rfl,hs4,_⟩:=fD hv4;rw[<-HN.out];have ix:=aB.trans _ _ _ j6 cp;have CE4:=CE2 w4 s4 d4 ix hs4;clear o6 hv4 hs4 CJ CE2;go_wp2_with fail
 refine CE4.out.mono ?_;rintro e w5 ⟨rfl,rfl⟩;go_wp2
 go_ret2;exact⟨ix,Q,qa,qc,rfl,HQ.out.1,HQ.out.2.1.grows cp,HQ.out.2.2.grows cp⟩
theorem uP0 (Q:List bE) (k:Nat) (q:bE) (a:Option Addr) (c:Nat) (w:World) (hl:Q.length<=1000000) (ac:aG w a 2 (Q.map lE)) (jn:jE w Q) (hq:Q[k]?=some q) (aj:∀j p,j<k->Q[j]?=some p->p.name≠q.name) :
  Calls Tryz.prog 131 #[.slice a Q.length c,.string q.name] w λe w'=>∃v,e=.returned (.tuple #[v,.bool true])/\aV w' w.heap.size 5 1 aZ v q.data/\aB w w':=by
 have HAT:=Aa ac;have HPA:=Aa jn;have HNE:=Aa aj;have hkl:=(List.getElem?_eq_some_iff.1 hq).1;have HQ:=Aa hq;clear ac jn aj hq;go_enter Tryz.func131,Tryz.ntmps131
 go_wp2_with fail
 go_loopw [10] (λi wr=>∃(j:Nat),j<=k/\i=.int .i64 j/\aB w wr) (λi _=>Q.length-(intOf i).toNat)
 case atStart=>exact⟨0,Ah _,rfl,aB.refl _⟩
 case round =>
  obtain⟨j,hj,rfl,hg⟩:=hrel;obtain⟨⟨pn,pd,pa,pc⟩,hp⟩:∃p,Q[j]?=some p:=⟨_,Ac (by omega)⟩;have ae:j<Q.length:=by omega
  have gl:(j:Int)<Q.length:=by omega
  obtain⟨ba,oa,rfl,bj⟩:=(HAT.out.grows hg).get (aK ae);have c0:wr.cell? ⟨ba,oa+j*2,none⟩=some (.string pn):=bj j _ hp 0 _ rfl;have c1:wr.cell? ⟨ba,oa+j*2+1,none⟩=some (.slice pa pd.length pc):=bj j _ hp 1 _ rfl;obtain⟨W1,bu⟩:=exq (wr.alloc (.cells #[.string pn,.slice pa pd.length pc] 184));have aq:aB wr W1:=by rw[bu];exact aB.alloc _ _
  obtain⟨bc,_⟩:=cF (w:=wr) (cs:=#[.string pn,.slice pa pd.length pc]) (t:=184) (w':=W1) (by rw[bu];exact aB.refl _);have b0:=bc 0 _ rfl;have b1:=bc 1 _ rfl;rw[bu]at b0 b1;have cm:=aB.trans _ _ _ hg aq;have hpm:=Ae hp;clear bc bj;by_cases he:pn=q.name
  ·have ma:j=k:=by
    rcases Bn j k with h|h
    ·exact absurd he (HNE.out j _ h hp)
    ·omega
   have hpq:q=⟨pn,pd,pa,pc⟩:=by
    rw[ma,HQ.out]at hp;exact Option.some.inj hp
   have jp:pd.length<=1099511627776:=HPA.out.data _ hpm;have CC:=Aa (cW0 pd pa pc W1 jp (HPA.out.none_ _ hpm) ((HPA.out.at_ _ hpm).grows cm));have heq:(pn.toList==q.name.toList)=true:=by rw[he];simp
   have HPQ:Hid (q.data=pd):=by show _=_;rw[hpq]
   clear he ma hpq hp hpm;go_wp2_with fail
   rw[<-bu];clear b0 b1 bu;refine CC.out.mono ?_;rintro e w2 ⟨v,rfl,hv,af⟩;go_wp2
   go_ret2;exact⟨_,rfl,by rw[HPQ.out];exact hv.base cm.size,aB.trans _ _ _ cm af⟩
  ·have ma:j<k:=by
    rcases Bn j k with h|h
    ·exact h
    ·obtain rfl:j=k:=by omega
     rw[HQ.out]at hp;exact absurd (by rw[Option.some.inj hp]) he
   have heq:(pn.toList==q.name.toList)=false:=by simpa using λh=>he (kN h)
   clear he hp hpm;go_wp2_with fail
   go_roundw
   case rel=>exact⟨j+1,ma,by go_num,by rw[<-bu];exact cm⟩
   case measure=>simp[intOf];omega
end
end Go.Proofs.YtaogeadljgjpcaaGreatDoor
