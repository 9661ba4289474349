/- The texts SecS SplS FindS PkD LoD DopP Dop1 DicO Dop2 ChapP Wk18P WkH Dop3, one behind the other. -/
import Derived.Test.YtjhajgffmnkocaaGreatDoorPq38
import Derived.Test.YtjhajgffmnkocaaGreatDoorPq2
import Derived.Test.YtjhajgffmnkocaaGreatDoorPq40
import Derived.Test.YtjhajgffmnkocaaGreatDoorPq42
import Derived.Test.YtjhajgffmnkocaaGreatDoorPq12
import Derived.Test.YtjhajgffmnkocaaGreatDoorPq23
import Derived.Test.YtjhajgffmnkocaaGreatDoorPq41
import Derived.Test.YtjhajgffmnkocaaGreatDoorPq39
import Derived.Test.YtjhajgffmnkocaaGreatDoorPq24
import Derived.Test.YtjhajgffmnkocaaGreatDoorPq43
open Go.Lib renaming hid → Aa,size_eq → Br
open Go.World renaming cell?_setCell_other → Ab,size_alloc → Bg
open List renaming getElem?_eq_getElem → Ac,length_map → Ad,mem_of_getElem? → Ae,length_append → Af,getElem?_map → Ag,getD_eq_getElem?_getD → Ai,length_singleton → Ar,take_length → As,mem_singleton → Au,flatMap_cons → Av,length_cons → Ax,getElem?_cons_zero → Ay,getElem?_eq_none → Bb,replicate → Bc,drop_zero → Bd,length_nil → Bi,map_append → Bj,map_cons → Bo,sum_cons → Bp,length → Bs
open Go.IntKind renaming signed → Ah,wrap → Ak,bits → Al
open Array renaming getElem?_setIfInBounds_self → Aj,getElem?_setIfInBounds_ne → Aq
open Nat renaming zero_le → Am,le_refl → Ao,le_trans → Ap,mul_one → Aw,add_le_add_right → Be,lt_of_lt_of_le → Bf,mul_le_mul → Bn,lt_or_ge → Bq
open Int renaming tdiv_eq_ediv_of_nonneg → An,natCast_add → Ba,natCast_mul → Bk
open UInt8 renaming ofNat → At
open Go.Addr renaming block → Az
open Option renaming map_some → Bh
set_option maxHeartbeats 16000000
namespace Go.Proofs.YtjhajgffmnkocaaGreatDoor
set_option maxRecDepth 100000
section
open Go Go.RowKit Go.Shelf
attribute [local go_sem] aO aM
theorem eF1:∃i,Tryz.prog.info? 170=some i/\i.zero=some (.agg #[.string ⟨#[]⟩,.slice none 0 0])/\i.size=2/\i.bytes=40:=by
 have h:(Tryz.prog.info? 170).map (λi=>(i.zero,i.size,i.bytes))=some (some (.agg #[.string ⟨#[]⟩,.slice none 0 0]),2,40):=by kernel_rfl
 cases hi:Tryz.prog.info? 170 with
 | none=>rw[hi]at h;cases h
 | some i =>
  rw[hi]at h;simp only[Bh,Option.some.injEq,Prod.mk.injEq]at h;exact⟨i,rfl,h.1,h.2.1,h.2.2⟩
def fF1:bD:=⟨⟨#[]⟩,[],none,0⟩
theorem rJ {P:List bD} (h:fF P=0):P.length<=64/\kX P<=16777216/\∀p∈P,p.name.size<=16:=by
 unfold fF at h;split at h
 ·cases h
 ·split at h
  ·cases h
  ·rename_i h1 h2
   refine⟨by omega,by omega,λp hp=>?_⟩;have h3:¬(!azS p.name)=true:=λe=>h2 (List.any_eq_true.2 ⟨p,hp,e⟩);have h4:azS p.name=true:=by simpa using h3
   unfold azS at h4;simp only[Bool.and_eq_true,decide_eq_true_eq]at h4;exact h4.1.2
theorem eH0 {q:bD}:∀ {P:List bD},q∈P->q.data.length<=kX P
 | [],h=>by cases h
 | x::P,h=>by
  unfold kX;rw[Bo,Bp];rcases List.mem_cons.1 h with rfl|h
  ·omega
  ·have:=eH0 h
   unfold kX at this;omega
theorem wG:∀ {P:List bD},(∀p∈P,p.name.size<=16)->(dF P).length<=P.length*36
 | [],_=>by simp[dF]
 | p::P,h=>by
  have h1:=wG (P:=P) λq hq=>h q (by simp[hq]);have h2:=sP p.name;have h3:=cK p.data.length;have h4:=h p (by simp);unfold dF at h1 ⊢;rw[Av,Af,Af,Ax];omega
theorem cI0:∀P:List bD,(dH P).length=kX P
 | []=>rfl
 | p::P=>by
  have:=cI0 P
  unfold dH kX at *;rw[Av,Af,this,Bo,Bp]
theorem wU {P:List bD} (h:fF P=0):(dD P).length<=16800000:=by
 obtain⟨h1,h2,h3⟩:=rJ h;have h4:=wG h3;have h5:=cI0 P;have h6:=cK P.length;unfold dD;simp only[Af,Ax,Bi];omega
def flN (z:Nat->Value) (P:List bD) (k j:Nat):Value:=if j%2=0/\j/2<k then .string (P.getD (j/2) fF1).name else z j
def fsN (z:Nat->Value) (P:List bD) (k j:Nat):Value:=if j<k then .int .i64 ((P.getD j fF1).data.length:Nat) else z j
def flD (z:Nat->Value) (P Q:List bD) (j:Nat):Value:=if j%2=0 then .string (P.getD (j/2) fF1).name else match Q[j/2]? with|some q => .slice q.a q.data.length q.c|none=>z j
theorem dY1 {z:Nat->Value} {P:List bD} {k:Nat} {p:bD} (hp:P[k]?=some p) (j:Nat):(if j=k*2 then Value.string p.name else flN z P k j)=flN z P (k+1) j:=by
 unfold flN;by_cases h:j=k*2
 ·subst h
  rw[if_pos rfl,if_pos ⟨by omega,by omega⟩,show k*2/2=k by omega,Ai,hp]
  rfl
 ·rw[if_neg h]
  by_cases h2:j%2=0/\j/2<k
  ·rw[if_pos h2,if_pos ⟨h2.1,by omega⟩]
  ·rw[if_neg h2,if_neg (by omega)]
theorem fR1 {z:Nat->Value} {P:List bD} {k:Nat} {p:bD} (hp:P[k]?=some p) (j:Nat):(if j=k then Value.int .i64 (p.data.length:Nat) else fsN z P k j)=fsN z P (k+1) j:=by
 unfold fsN;by_cases h:j=k
 ·subst h
  rw[if_pos rfl,if_pos (by omega),Ai,hp];rfl
 ·rw[if_neg h]
  by_cases h3:j<k
  ·rw[if_pos h3,if_pos (by omega)]
  ·rw[if_neg h3,if_neg (by omega)]
theorem mK1 {z:Nat->Value} {P:List bD} {k n:Nat} {p:bD} (hp:P[k]?=some p) (hk:k<n):fsN z P n k=.int .i64 (p.data.length:Nat):=by
 unfold fsN;rw[if_pos hk,Ai,hp];rfl
theorem jT1 (z:Nat->Value) (P:List bD) (j:Nat) (hj:j<P.length*2):flN z P P.length j=flD z P [] j:=by
 unfold flN flD;by_cases h:j%2=0
 ·rw[if_pos ⟨h,by omega⟩,if_pos h]
 ·rw[if_neg (λe=>h e.1),if_neg h];simp
theorem dA1 {z:Nat->Value} {P Q:List bD} (q:bD) (j:Nat):(if j=Q.length*2+1 then Value.slice q.a q.data.length q.c else flD z P Q j)=flD z P (Q++[q]) j:=by
 unfold flD;by_cases h:j=Q.length*2+1
 ·subst h
  rw[if_pos rfl,if_neg (by omega),show (Q.length*2+1)/2=Q.length by omega,List.getElem?_append_right (Ao _),Nat.sub_self]
  rfl
 ·rw[if_neg h]
  by_cases h2:j%2=0
  ·rw[if_pos h2,if_pos h2]
  ·rw[if_neg h2,if_neg h2]
   rcases Nat.lt_trichotomy (j/2) Q.length with h3|h3|h3
   ·rw[List.getElem?_append_left h3]
   ·omega
   ·rw[Bb (by omega),Bb (by simp;omega)]
theorem vH {W:World} {base k g n c:Nat} {e:TypeId} {xs:List Value} (h:W.ownsRow base e k (.slice (some ⟨g,0,none⟩) n c) n xs):∃z,qX W g (n*k) z:=by
 rcases h.2 with ⟨h1,_⟩|⟨g',cap,ct,hv,hb,hh,hn,hc,hs,ht⟩
 ·cases h1
 ·have e1:=(Value.slice.inj hv).1
  obtain rfl:g=g':=congrArg Az (Option.some.inj e1);refine⟨λj=>ct.getD j undef,λj hj=>?_,λj=>by simp[World.frozen?,hh],(Array.getElem?_eq_some_iff.1 hh).1⟩;have nr:j<ct.size:=by rw[hs];exact Bf hj (Nat.mul_le_mul_right k hn)
  simp[World.cell?,hh,nr]
structure eG0 (w:World) (B:Nat) (P Q:List bD):Prop where
 len:Q.length<=P.length
 bare:Q.map bare=(P.take Q.length).map bare
 at_:∀q∈Q,aG w q.a 1 (q.data.map aV)
 none_:∀q∈Q,q.a=none->q.c=0
 far:∀q∈Q,∀r:Addr,q.a=some r->B<r.block
theorem eG0.grows {w w':World} {B:Nat} {P Q:List bD} (h:eG0 w B P Q) (hg:aB w w'):eG0 w' B P Q:=⟨h.len,h.bare,λq hq=>(h.at_ q hq).grows hg,h.none_,h.far⟩
theorem eG0.set {w:World} {B:Nat} {P Q:List bD} (h:eG0 w B P Q) {g i:Nat} (hg:g<=B) (v:Value):eG0 (w.setCell ⟨g,i,none⟩ v) B P Q :=
 ⟨h.len,h.bare,λq hq=>eP0 (h.at_ q hq) ((aB.refl w).grownBy_set g i v) (λr hr e=>by have:=h.far q hq r hr;have:=Option.some.inj e;omega),h.none_,h.far⟩
theorem lJ1 {W:World} {lb:Nat} {P Q:List bD} {z:Nat->Value} (h:qX W lb (P.length*2) (flD z P Q)) (hl:Q.length=P.length) (hb:Q.map bare=P.map bare):aG W (some ⟨lb,0,none⟩) 2 (Q.map kZ):=λ_=>⟨lb,0,rfl,λi row hi j u hj=>by
 rw[Ag]at hi
 cases hq:Q[i]? with
 | none=>rw[hq]at hi;cases hi
 | some q =>
  rw[hq]at hi;obtain rfl:kZ q=row:=by simpa using hi
  have hiQ:=(List.getElem?_eq_some_iff.1 hq).1;have nr:j<2:=by have:=(List.getElem?_eq_some_iff.1 hj).1;simpa [kZ] using this
  have hc:=h.cell (i*2+j) (by omega);rw[Nat.zero_add,hc]
  have hn:(P.getD i fF1).name=q.name:=by
   have h1:(Q.map bare)[i]?=some (bare q):=by rw[Ag,hq];rfl
   rw[hb,Ag]at h1
   cases hp:P[i]? with
   | none=>rw[hp]at h1;cases h1
   | some p =>
    rw[hp]at h1;have h2:=Option.some.inj h1;rw[Ai,hp];have h3:(bare p).name=(bare q).name:=by rw[h2]
    exact h3
  match j,nr with
  | 0,_ =>
   simp only[kZ,Ay,Option.some.injEq]at hj;subst hj;unfold flD;rw[if_pos (by omega),show (i*2+0)/2=i by omega,hn]
  | 1,_ =>
   simp only[kZ,List.getElem?_cons_succ,Ay,Option.some.injEq]at hj;subst hj;unfold flD;rw[if_neg (by omega),show (i*2+1)/2=i by omega,hq]⟩
theorem lG1 {w W:World} {v:Value} {t:TypeId} (hg:aB (w.alloc (.cells #[v] t)) W):qX W w.heap.size 1 (λ_=>v):=by
 obtain⟨h1,h2⟩:=cG hg
 have h0:∀j,j<1->(#[v]:Array Value)[j]?=some v:=λj hj=>by
  obtain rfl:j=0:=by omega
  rfl
 exact⟨λj hj=>h1 j _ (h0 j hj),h2,Bf (by simp) hg.size⟩
def jK1 (P:List bD) (w:World) (e:Ending) (w':World):Prop :=
 aB w w'/\∃(Q:List bD) (a:Option Addr) (c:Nat),e=.returned (.tuple #[.slice a Q.length c,.bool true])/\Q.map bare=P.map bare/\aG w' a 2 (Q.map kZ)/\iU w' Q
theorem sD0 (P:List bD) (ba:Option Addr) (bc:Nat) (w:World) (qq:fF P=0) (fo:(dD P).length<=bc) (_hbm:bc<=maxLen) (jw:ba=none->bc=0) (ac:aG w ba 1 ((dD P).map aV)) :
  Calls Tryz.prog 119 #[.slice ba (dD P).length bc] w (jK1 P w):=by
 obtain⟨zp,m7,xz⟩:=rJ qq;have gd:=wU qq;have HNM:=Aa xz;have HSZ:Hid (∀p∈P,p.data.length<=16777216):=λp hp=>Ap (eH0 hp) m7;have HC0:=Aa (dO1 (P:=P) (by omega));have HNA:=Aa (λi p (h:P[i]?=some p)=>jF1 h (by have:=xz p (Ae h);omega));have HSI:=Aa (λi p (h:P[i]?=some p)=>lO1 h (by have:=Ap (eH0 (Ae h)) m7;omega));have HDA:=Aa (λi p (h:P[i]?=some p)=>kQ1 h);have HHZ:=Aa (uH0 P);have HHL:=Aa (λi=>gZ1 (P:=P) (i:=i));have HDL:=Aa (λi=>cR1 (P:=P) (i:=i));have HDE:=Aa (bS1 P);have HDZ:=Aa (tH0 P);obtain⟨b,hb⟩:=exq (dD P);rw[<-hb]at HC0 HNA HSI HDA HHL HDL HDE gd fo ac ⊢;obtain⟨n,hn⟩:=exq P.length;rw[<-hn]at HC0 HHZ HDE HDZ zp;have HN:=Aa hn;have HAT:=Aa ac;have HNC:=Aa jw;clear ac hb xz m7 qq jw hn
 -- the boxes
 obtain⟨W1,bh⟩:=exq (((w.alloc (.cells #[.slice ba b.length bc] 67)).alloc (.cells #[.int .i64 4] 3)).alloc (.cells #[.bool true] 4));have ai:aB w W1:=by rw[bh];exact((aB.alloc _ _).al _).al _
 obtain⟨pb,ei⟩:=exq w.heap.size
 have qg:qX W1 pb 1 (λ_ => .slice ba b.length bc):=by
  rw[bh,ei];exact lG1 ((aB.alloc _ _).al _)
 have hA1:qX W1 (pb+1) 1 (λ_ => .int .i64 4):=by
  rw[bh,ei];have h:=lG1 (w:=w.alloc (.cells #[.slice ba b.length bc] 67)) (v:=.int .i64 4) (t:=3) (W:=((w.alloc (.cells #[.slice ba b.length bc] 67)).alloc (.cells #[.int .i64 4] 3)).alloc (.cells #[.bool true] 4)) (aB.alloc _ _);rw[show (w.alloc (.cells #[.slice ba b.length bc] 67)).heap.size=w.heap.size+1 by simp]at h
  exact h
 have tc:qX W1 (pb+1+1) 1 (λ_ => .bool true):=by
  rw[bh,ei];have h:=lG1 (w:=(w.alloc (.cells #[.slice ba b.length bc] 67)).alloc (.cells #[.int .i64 4] 3)) (v:=.bool true) (t:=4) (W:=((w.alloc (.cells #[.slice ba b.length bc] 67)).alloc (.cells #[.int .i64 4] 3)).alloc (.cells #[.bool true] 4)) (aB.refl _);rw[show ((w.alloc (.cells #[.slice ba b.length bc] 67)).alloc (.cells #[.int .i64 4] 3)).heap.size=w.heap.size+1+1 by simp]at h
  exact h
 have HG1:=Aa ai;have HPB:=Aa ei;have eg:=kA1;have cb:=qg.cell 0 (by decide);have ca:=hA1.cell 0 (by decide);have co:=tc.cell 0 (by decide);have CN:=Aa (qR0 b ba bc 4 n (putU n).length pb (pb+1) (pb+1+1) 64 W1 (by have:=HHL.out 0;have:=HHZ.out;omega) (by omega) (HAT.out.grows ai) HC0.out zp (by decide) cb ca co (hA1.froz 0));have kh:=λ(Y:World)=>fL1 n Y (by omega);obtain⟨iu,hiu,hzu,hsu,ri⟩:=eF1;clear ai;go_enter Tryz.func119,Tryz.ntmps119
 go_wp2_with fail
 rw[<-bh,<-HPB.out];clear bh ei cb ca co;refine CN.out.mono ?_;rintro e w3 ⟨rfl,w2,ae,rfl⟩;obtain⟨k0,l7⟩:=exq (4+(putU n).length);rw[<-l7]at HHZ ⊢;have lg:=(qg.grows ae).other (b':=pb+1) (j':=0) (by omega) (.int .i64 (k0:Nat));have ug:=(tc.grows ae).other (b':=pb+1) (j':=0) (by omega) (.int .i64 (k0:Nat));have hA2:=((hA1.grows ae).set (k:=0) (by decide) (.int .i64 (k0:Nat))).congr (g:=λ_ => .int .i64 (k0:Nat)) (λj hj=>by rw[if_pos (by omega)]);have ou:=tc.lt;have aw:aB w (w2.setCell ⟨pb+1,0,none⟩ (.int .i64 (k0:Nat))):=(aB.trans _ _ _ HG1.out ae).set (by rw[HPB.out];simp) _;have vv:pb+1+1<(w2.setCell ⟨pb+1,0,none⟩ (.int .i64 (k0:Nat))).heap.size:=by have:=ae.size;simp;omega
 obtain⟨W3,iy⟩:=exq (w2.setCell ⟨pb+1,0,none⟩ (.int .i64 (k0:Nat)));rw[<-iy]at lg ug hA2 aw vv ⊢;clear iy qg hA1 tc ae CN l7;obtain⟨pa,jx⟩:=exq (pb+1);obtain⟨po,hpo⟩:=exq (pb+1+1);rw[<-hpo]at ug vv ⊢;rw[<-jx]at hA2 ⊢;have ac9:pb<pa:=by omega
 have az:pa<po:=by omega
 have HPA:=Aa (And.intro jx hpo);clear jx hpo;go_wp2_with (at_make;refine wpList_make_full _ rfl _ _ 103 rfl W3.heap.size 170 iu (.agg #[.string ⟨#[]⟩,.slice none 0 0]) 2 Tryz.underlying103 hiu hzu hsu .i64 .i64 _ _ n rfl rfl rfl rfl (by rw[ri];omega) (by unfold maxLen;omega) (Ao _) ?_;intro w4 ee af6)
 obtain⟨lb,nz⟩:=exq W3.heap.size;rw[<-nz]at ee ⊢;obtain⟨zl,hL4⟩:=vH ee;have cu:aB W3 w4:=(aB.refl W3).grown af6 (λq hq=>by cases hq);have zq:=eJ0 (w:=w4) (n:=n) (by omega);obtain⟨W5,pu⟩:=exq (w4.alloc (.cells (madeCells #[.int .i64 0] (n*1)) 3));have bi:aB w4 W5:=by rw[pu];exact aB.alloc _ _
 rw[<-pu]at zq;obtain⟨sb,me⟩:=exq w4.heap.size;rw[<-me]at zq ⊢
 have af7:W5.ownsRow sb 3 1 (.slice (some ⟨sb,0,none⟩) n n) n ((Bc n 0).flatMap jS):=by
  have:=zq
  unfold aU at this;rwa [List.length_replicate]at this
 obtain⟨zs,hS5⟩:=vH af7;rw[Aw]at hS5;have hL5:=hL4.grows bi;have ya:=aB.trans _ _ _ cu bi;have ua:=lg.grows ya;have hO5:=ug.grows ya;have hA5:=hA2.grows ya;have du:=aB.trans _ _ _ aw ya;have aj8:po<lb:=by omega
 have aj9:lb<sb:=by rw[me];exact hL4.lt
 rw[Aw]at pu;try rw[<-pu]
 have HG5:=Aa du;clear zq af7 ee af6 hL4 cu bi ya lg ug hA2 aw du nz me pu hiu hzu hsu ri vv ou;go_loopw [9] (λi wr=>∃(k:Nat),k<=n/\i=.int .i64 k/\qX wr pb 1 (λ_ => .slice ba b.length bc)/\qX wr pa 1 (λ_ => .int .i64 (hposP P k:Nat))/\qX wr po 1 (λ_ => .bool true)/\qX wr lb (n*2) (flN zl P k)/\qX wr sb n (fsN zs P k)/\aB w wr) (λi _=>n-(intOf i).toNat)
 case atStart=>exact⟨0,Am _,rfl,ua,by rw[HHZ.out];exact hA5,hO5,hL5.congr (λj _=>by unfold flN;rw[if_neg (by omega)]),hS5.congr (λj _=>by unfold fsN;rw[if_neg (by omega)]),HG5.out⟩
 case round =>
  clear ua hO5 hA5 hL5 hS5;obtain⟨k,hk,rfl,hB,hA,hO,hL,hS,hg⟩:=hrel;by_cases af:k<n
  ·obtain⟨p,hp⟩:∃p,P[k]?=some p:=⟨_,Ac (by rw[<-HN.out];exact af)⟩
   have zj:=Ae hp;have zy:=HNM.out p zj;have fw:=HSZ.out p zj;have cz:(k:Int)<n:=by omega
   have cb:=hB.cell 0 (by decide);have ca:=hA.cell 0 (by decide);have co:=hO.cell 0 (by decide);have CT:=Aa (dD0 b (hposP P k) ba bc wr (HHL.out k) (by omega) fo HNC.out (HAT.out.grows hg));rw[HNA.out k p hp]at CT;unfold sA0 at CT;obtain⟨K1,hK1⟩:=exq (hposP P k+(rP p.name).length);have HR:=Aa (HSI.out k p hp);have HSUC:=Aa (uU0 hp);simp only[<-hK1]at CT;rw[<-hK1]at HR HSUC;have aic:K1<=b.length:=by have:=HHL.out (k+1);have:=HSUC.out;omega
   obtain⟨kk,yw⟩:=exq (hposP P k);rw[<-yw]at CT ca;have HKK:=Aa yw;clear hK1 yw zj;go_wp2_with fail
   refine CT.out.mono ?_;rintro e w6 ⟨rfl,dw⟩;have ux:=hB.grows dw;have hA6:=hA.grows dw;have zg:=hO.grows dw;have hL6:=hL.grows dw;have hS6:=hS.grows dw;have cl:=hL6.cell (k*2) (by omega);have fl:=hL6.froz (k*2);have hL7:=(hL6.set (k:=k*2) (by omega) (.string p.name)).congr (g:=λj=>if j=k*2 then Value.string p.name else flN zl P k j) (λj _=>rfl)
   have hA7:=hA6.other (b':=lb) (j':=k*2) (by omega) (.string p.name);have ca7:=hA7.cell 0 (by decide);have fa7:=hA7.froz 0;have hL8:=hL7.other (b':=pa) (j':=0) (by omega) (.int .i64 (K1:Nat));have hA8:=(hA7.set (k:=0) (by decide) (.int .i64 (K1:Nat))).congr (g:=λ_ => .int .i64 (K1:Nat)) (λj hj=>by rw[if_pos (by omega)]);have hB8:=(ux.other (b':=lb) (j':=k*2) (by omega) (.string p.name)).other (b':=pa) (j':=0) (by omega) (.int .i64 (K1:Nat));have hO8:=(zg.other (b':=lb) (j':=k*2) (by omega) (.string p.name)).other (b':=pa) (j':=0) (by omega) (.int .i64 (K1:Nat));have zk:=(hS6.other (b':=lb) (j':=k*2) (by omega) (.string p.name)).other (b':=pa) (j':=0) (by omega) (.int .i64 (K1:Nat));have aca:w.heap.size<=pa:=by have:=HPA.out;have:=HPB.out;omega
   have fq:aB w ((w6.setCell ⟨lb,k*2,none⟩ (.string p.name)).setCell ⟨pa,0,none⟩ (.int .i64 (K1:Nat))):=((aB.trans _ _ _ hg dw).set (by simp only;omega) _).set aca _;obtain⟨W8,hW8⟩:=exq ((w6.setCell ⟨lb,k*2,none⟩ (.string p.name)).setCell ⟨pa,0,none⟩ (.int .i64 (K1:Nat)));rw[<-hW8]at hL8 hA8 hB8 hO8 zk fq;clear hB hA hO hL hS hg cb ca co ux hA6 zg hL6 hS6 hL7 hA7 dw;go_wp2_with fail
   rw[<-hW8];clear hW8 cl fl ca7 fa7;have cb8:=hB8.cell 0 (by decide);have ca8:=hA8.cell 0 (by decide);have co8:=hO8.cell 0 (by decide);obtain⟨SZ,hSZ⟩:=exq p.data.length;rw[<-hSZ]at HR HSUC fw;have HSZ2:=Aa hSZ;refine(qR0 b ba bc K1 SZ (putU SZ).length pb pa po 16777216 W8 aic (by omega) (HAT.out.grows fq) HR.out fw (by decide) cb8 ca8 co8 (hA8.froz 0)).mono ?_;rintro e w10 ⟨rfl,w9,jb,rfl⟩;obtain⟨K2,ld⟩:=exq (K1+(putU SZ).length);rw[<-ld]at HSUC ⊢;clear ld hSZ cb8 ca8 co8;have y7:=(hB8.grows jb).other (b':=pa) (j':=0) (by omega) (.int .i64 (K2:Nat));have hO9:=(hO8.grows jb).other (b':=pa) (j':=0) (by omega) (.int .i64 (K2:Nat));have hL9:=(hL8.grows jb).other (b':=pa) (j':=0) (by omega) (.int .i64 (K2:Nat));have hS9:=(zk.grows jb).other (b':=pa) (j':=0) (by omega) (.int .i64 (K2:Nat));have hA9:=((hA8.grows jb).set (k:=0) (by decide) (.int .i64 (K2:Nat))).congr (g:=λ_ => .int .i64 (K2:Nat)) (λj hj=>by rw[if_pos (by omega)]);have jy:aB w (w9.setCell ⟨pa,0,none⟩ (.int .i64 (K2:Nat))):=(aB.trans _ _ _ fq jb).set aca _;obtain⟨W10,af8⟩:=exq (w9.setCell ⟨pa,0,none⟩ (.int .i64 (K2:Nat)));rw[<-af8]at y7 hO9 hL9 hS9 hA9 jy ⊢;have cs:=hS9.cell k af;have fs:=hS9.froz k;have aid:=(hS9.set af (.int .i64 (SZ:Nat))).congr (g:=fsN zs P (k+1)) (λj _=>by rw[HSZ2.out];exact fR1 hp j);have aie:=y7.other (b':=sb) (j':=k) (by omega) (.int .i64 (SZ:Nat));have aif:=hO9.other (b':=sb) (j':=k) (by omega) (.int .i64 (SZ:Nat));have aig:=hA9.other (b':=sb) (j':=k) (by omega) (.int .i64 (SZ:Nat));have aih:=(hL9.other (b':=sb) (j':=k) (by omega) (.int .i64 (SZ:Nat))).congr (g:=flN zl P (k+1)) (λj _=>dY1 hp j);have ac8:=jy.set (p:=⟨sb,k,none⟩) (by simp only;omega) (.int .i64 (SZ:Nat));clear hB8 hO8 hL8 zk hA8 fq jb y7 hO9 hL9 hS9 hA9 jy af8 hp;go_wp2_with fail
   go_roundw
   case rel=>exact⟨k+1,af,by go_num,aie,by rw[HSUC.out];exact aig,aif,aih,aid,ac8⟩
   case measure=>simp[intOf];omega
  ·obtain rfl:n=k:=by omega
   have hL0:qX wr lb (n*2) (flD zl P []):=hL.congr (λj hj=>by
    have h:=jT1 zl P j (by rw[<-HN.out];exact hj);rw[<-HN.out]at h;exact h)
   rw[<-HDZ.out]at hA;have HGR:=Aa hg;clear hL;go_wp2_with fail
   go_loopw [53] (λi wx=>∃Q:List bD,i=.int .i64 (Q.length:Nat)/\qX wx pb 1 (λ_ => .slice ba b.length bc)/\qX wx pa 1 (λ_ => .int .i64 (tI P Q.length:Nat))/\qX wx po 1 (λ_ => .bool true)/\qX wx lb (n*2) (flD zl P Q)/\qX wx sb n (fsN zs P n)/\eG0 wx sb P Q/\aB w wx) (λi _=>n-(intOf i).toNat)
   case atStart=>exact⟨[],rfl,hB,hA,hO,hL0,hS,⟨Am _,rfl,λq hq=>by (cases hq),λq hq=>by (cases hq),λq hq=>by (cases hq)⟩,hg⟩
   case round =>
    clear hB hA hO hL0 hS hg;obtain⟨Q,rfl,hB,hA,hO,hL,hS,hQ,hg⟩:=hrel;have hQn:Q.length<=n:=by rw[HN.out];exact hQ.len
    obtain⟨k,hk⟩:=exq Q.length;have HKQ:=Aa hk;by_cases af:k<n
    ·obtain⟨p,hp⟩:∃p,P[k]?=some p:=⟨_,Ac (by rw[<-HN.out];exact af)⟩
     have fw:=HSZ.out p (Ae hp);have cs:=hS.cell k af;rw[mK1 hp af]at cs;obtain⟨D,hD⟩:=exq (tI P k);have HD:=Aa hD;have HDS:=Aa (dQ0 hp);have HDATA:=Aa (HDA.out k p hp);have hDb:D+p.data.length<=b.length:=by rw[hD,<-dQ0 hp];exact HDL.out (k+1)
     rw[<-hk,<-hD]at hA;rw[<-hD]at HDS HDATA;obtain⟨SZ,hSZ⟩:=exq p.data.length;rw[<-hSZ]at cs fw hDb HDS HDATA;have HSE:=Aa hSZ;have HP:=Aa hp;have cz:(k:Int)<n:=by omega
     have cb:=hB.cell 0 (by decide);have ca:=hA.cell 0 (by decide);have co:=hO.cell 0 (by decide);have aek:IntKind.i64.wrap ((b.length:Int)-(D:Int))=((b.length-D:Nat):Int):=by simp[Ak,Al,Ah];omega
     have q8:¬((b.length-D:Nat):Int)<SZ:=by omega
     have wa:IntKind.i64.wrap ((D:Int)+SZ)=((D+SZ:Nat):Int):=by simp[Ak,Al,Ah];omega
     have h01:(0:Int)<=(D:Int)+SZ:=by omega
     have h02:(D:Int)+SZ<=bc:=by omega
     have tn:((D:Int)+SZ).toNat=D+SZ:=by omega
     have tk:D<=D+SZ:=by omega
     have tm:D+SZ-D=SZ:=by omega
     obtain⟨a',jg,kj,abg⟩:=aX0 (c:=bc) (l:=D) (h:=D+SZ) (k:=1) (HAT.out.grows hg) HNC.out (by omega) (by omega) (by omega);rw[tm]at jg;rw[HDATA.out]at kj
     have ag3:(if bc=D then ba else Option.map (λx=>x.add D) ba)=a':=by
      unfold sliced at jg;by_cases s6:bc=D
      ·rw[if_pos s6]at jg ⊢;exact(Value.slice.inj jg).1
      ·rw[if_neg s6]at jg ⊢
       have:=(Value.slice.inj jg).1
       rw[<-this];congr 1
       funext x
       rw[Aw]
     have CC:=Aa (dH0 p.data a' (bc-D) wr (by omega) abg kj);rw[<-hSZ]at CC;rw[<-hk];clear hD hSZ hp jg kj abg hk;go_wp2_with fail
     refine CC.out.mono ?_;rintro e w6 ⟨v6,rfl,hv6,dw⟩;obtain⟨qa,qc,rfl,kt,oe⟩:=eX hv6
     have af9:∀r:Addr,qa=some r->sb<r.block:=λr hr=>by
      have h1:=hS.lt;rcases hv6.2 with ⟨e,_⟩|⟨g,cap,ct,e,lw,_⟩
      ·rw[hr]at e;cases (Value.slice.inj e).1
      ·have e1:=(Value.slice.inj e).1
       rw[hr]at e1;cases e1
       simp only;omega
     have ux:=hB.grows dw;have hA6:=hA.grows dw;have zg:=hO.grows dw;have hL6:=hL.grows dw;have hS6:=hS.grows dw;have hQ6:=hQ.grows dw;rw[<-HSE.out];have cl:=hL6.cell (k*2+1) (by omega);have fl:=hL6.froz (k*2+1);have ca6:=hA6.cell 0 (by decide);have hA7:=hA6.other (b':=lb) (j':=k*2+1) (by omega) (.slice qa SZ qc);have ca7:=hA7.cell 0 (by decide);have fa7:=hA7.froz 0;have hL7:=hL6.set (k:=k*2+1) (by omega) (.slice qa SZ qc);have aca:w.heap.size<=pa:=by have:=HPA.out;have:=HPB.out;omega
     have hL8:=(hL7.other (b':=pa) (j':=0) (by omega) (.int .i64 ((D:Int)+SZ))).congr (g:=flD zl P (Q++[⟨p.name,p.data,qa,qc⟩])) (λj _=>by
      rw[HKQ.out,HSE.out];exact dA1 ⟨p.name,p.data,qa,qc⟩ j)
     have hA8:=(hA7.set (k:=0) (by decide) (.int .i64 ((D:Int)+SZ))).congr (g:=λ_ => .int .i64 ((D+SZ:Nat):Int)) (λj hj=>by rw[if_pos (by omega)];push_cast;rfl);have hB8:=(ux.other (b':=lb) (j':=k*2+1) (by omega) (.slice qa SZ qc)).other (b':=pa) (j':=0) (by omega) (.int .i64 ((D:Int)+SZ));have hO8:=(zg.other (b':=lb) (j':=k*2+1) (by omega) (.slice qa SZ qc)).other (b':=pa) (j':=0) (by omega) (.int .i64 ((D:Int)+SZ));have zk:=(hS6.other (b':=lb) (j':=k*2+1) (by omega) (.slice qa SZ qc)).other (b':=pa) (j':=0) (by omega) (.int .i64 ((D:Int)+SZ))
     have hQ8:eG0 ((w6.setCell ⟨lb,k*2+1,none⟩ (.slice qa SZ qc)).setCell ⟨pa,0,none⟩ (.int .i64 ((D:Int)+SZ))) sb P (Q++[⟨p.name,p.data,qa,qc⟩]):=by
      have h1:eG0 w6 sb P (Q++[⟨p.name,p.data,qa,qc⟩]):=by
       refine⟨by rw[Af,Ar,<-HKQ.out,<-HN.out];omega,?_,λq hq=>?_,λq hq=>?_,λq hq=>?_⟩
       ·rw[Af,Ar,List.take_add_one,<-HKQ.out,HP.out,Bj,Bj]
        have:=hQ6.bare
        rw[<-HKQ.out]at this;rw[this];rfl
       ·rcases List.mem_append.1 hq with h|h
        ·exact hQ6.at_ q h
        ·rw[Au]at h;subst h;exact kt
       ·rcases List.mem_append.1 hq with h|h
        ·exact hQ6.none_ q h
        ·rw[Au]at h;subst h;exact oe
       ·rcases List.mem_append.1 hq with h|h
        ·exact hQ6.far q h
        ·rw[Au]at h;subst h;exact af9
      exact(h1.set (by omega) _).set (by omega) _
     have fq:aB w ((w6.setCell ⟨lb,k*2+1,none⟩ (.slice qa SZ qc)).setCell ⟨pa,0,none⟩ (.int .i64 ((D:Int)+SZ))):=((aB.trans _ _ _ hg dw).set (by simp only;omega) _).set aca _;have HLEN:Hid ((Q++[(⟨p.name,p.data,qa,qc⟩:bD)]).length=k+1):=by show _=_;rw[Af,Ar,<-HKQ.out]
     clear hB hA hO hL hS hQ hg cb ca co ux hA6 zg hL6 hS6 hQ6 hL7 hA7 dw hv6 kt oe af9 CC;go_wp2_with fail
     go_roundw
     case rel=>exact⟨Q++[⟨p.name,p.data,qa,qc⟩],by rw[HLEN.out];go_num,hB8,by rw[HLEN.out,HDS.out];exact hA8,hO8,hL8,zk,hQ8,fq⟩
     case measure=>simp[intOf];omega
    ·have hkn:k=n:=by omega
     rw[<-hk,hkn,HDE.out]at hA;have zm:Q.length=P.length:=by rw[<-HN.out];omega
     have px:Q.map bare=P.map bare:=by have:=hQ.bare;rw[zm,As]at this;exact this
     have jd:∀q∈Q,∃p∈P,q.name=p.name/\q.data=p.data:=λq hq=>by
      have h1:bare q∈P.map bare:=by rw[<-px];exact List.mem_map.2 ⟨q,hq,rfl⟩
      obtain⟨p,hp,he⟩:=List.mem_map.1 h1;have h2:(bare p).name=(bare q).name:=by rw[he]
      have h3:(bare p).data=(bare q).data:=by rw[he]
      exact⟨p,hp,h2.symm,h3.symm⟩
     have HPOST:Hid (aG wr (some ⟨lb,0,none⟩) 2 (Q.map kZ)/\iU wr Q):=⟨lJ1 (by rw[<-HN.out];exact hL) zm px,hQ.at_,hQ.none_,λq hq=>by
      obtain⟨p,hp,h1,_⟩:=jd q hq;rw[h1];exact Ap (HNM.out p hp) (by decide),λq hq=>by
      obtain⟨p,hp,_,h2⟩:=jd q hq;rw[h2];exact Ap (HSZ.out p hp) (by decide)⟩
     have HBR:=Aa px;have HQL:=Aa zm;have z0:∀x:Ext aB wr.drew,x.u.cell? ⟨pb,0,none⟩=some (.slice ba b.length bc):=aF ((aB.drew wr).cell (hB.cell 0 (by decide)));have z1:∀x:Ext aB wr.drew,x.u.cell? ⟨pa,0,none⟩=some (.int .i64 (b.length:Nat)):=aF ((aB.drew wr).cell (hA.cell 0 (by decide)));have z2:∀x:Ext aB wr.drew,x.u.cell? ⟨po,0,none⟩=some (.bool true):=aF ((aB.drew wr).cell (hO.cell 0 (by decide)));have cz:¬(k:Int)<n:=by omega
     have yw:((Q.length:Nat):Int)=k:=by rw[hk]
     clear hB hA hO hL hS hQ jd px zm;rw[<-hk];clear hk yw;go_wp2_with fail
     refine bH (bE 10 []) (by kernel_rfl) (λd _ _ _ _ h=>by cases d<;>exact h) ?_
     iterate 10 (refine aH rfl (λK hK=>?_);go_simp;refine hK _ ?_;clear hK K)
     refine bN ?_;go_wp2_with fail
     go_ret2;refine⟨hg.dr,Q,some ⟨lb,0,none⟩,n,?_,HBR.out,HPOST.out.1.grows (aB.drew wr),HPOST.out.2.grows (aB.drew wr)⟩;rw[HQL.out,<-HN.out];rfl
def yS0 (P:List bD) (w:World) (e:Ending) (w':World):Prop :=
 aB w w'/\∃(Q:List bD) (a:Option Addr) (c:Nat),e=.returned (.tuple #[.slice a Q.length c,.int .i64 0])/\Q.map bare=P.map bare/\aG w' a 2 (Q.map kZ)/\iU w' Q
theorem mQ0 (P:List bD) (ba:Option Addr) (bc:Nat) (w:World) (he:Env w) (qq:fF P=0) (fo:(file14 P).length<=bc) (hbm:bc<=maxLen) (jw:ba=none->bc=0) (ac:aG w ba 1 ((file14 P).map aV)) :
  Calls Tryz.prog 55 #[.slice ba (file14 P).length bc] w (yS0 P w):=by
 have gd:=wU qq;obtain⟨b,hb⟩:=exq (file14 P);obtain⟨bo,hbo⟩:=exq (dD P);have j5:b=bo++leB 4 (crcSum bo):=by rw[hb,hbo];rfl
 have aj:b.length=bo.length+4:=by rw[j5,Af,bM]
 have h5:5<=bo.length:=by
  have:1<=(putU P.length).length:=List.length_pos_iff.2 (pN P.length)
  rw[hbo];unfold dD;simp only[Af,Ax,Bi];omega
 have adg:(b.take 4).drop 0=[72,78,75,49]:=by
  rw[j5,hbo];unfold dD;simp
 have adh:(b.take bo.length).drop 0=bo:=by rw[j5];simp
 have m7:(b.take b.length).drop bo.length=leB 4 (crcSum bo):=by rw[As,j5];simp
 rw[<-hb]at fo ac ⊢;rw[<-hbo]at gd;have HAT:=Aa ac;have HNC:=Aa jw;have HE:=Aa he;have HB:=Aa hb;have HBO:=Aa hbo;have HCHK:=Aa qq;have HMAG:=Aa adg;have HBOD:=Aa adh;have HSUM:=Aa m7;have HLEN:=Aa aj;obtain⟨m,hm⟩:=exq bo.length;rw[<-hm]at aj h5 gd;have HM:=Aa hm;obtain⟨n,hn⟩:=exq b.length;rw[<-hn]at aj fo ⊢;have HN:=Aa hn;subst aj
 have hcv:(convert 67 9 (.slice ba 4 bc)).run Tryz.prog w=.ok (.string ⟨#[72,78,75,49]⟩) w:=by
  have h:=rW (c:=bc) (bT1 ac 4);rw[show b.take 4=[72,78,75,49] by exact adg]at h
  exact h
 have abj:aG w ba 1 (bo.map aV):=by
  have h:=bT1 ac m;rw[show b.take m=bo by rw[hm];exact adh]at h
  exact h
 obtain⟨a1,ij,ha1,jl⟩:=zX (l:=m) (h:=m+4) ac jw (by omega) (by rw[<-HN.out];exact Ao _) (by rw[<-HN.out];exact fo);rw[show (b.take (m+4)).drop m=leB 4 (crcSum bo) by rw[HN.out,hm];exact m7]at ha1
 have HA1:=Aa ha1;have HATB:=Aa abj;have hn9:¬((m:Int)+4<9):=by omega
 have h4a:(4:Int)<=bc:=by omega
 have aek:IntKind.i64.wrap ((m:Int)+4-4)=(m:Int):=by simp[Ak,Al,Ah];omega
 have wm:IntKind.i64.wrap (m:Int)=(m:Int):=by simp[Ak,Al,Ah];omega
 have pz:(m:Int)<=bc:=by omega
 have ti:(m:Int)<=(m:Int)+4:=by omega
 have CS:=λ(W:World) (h:aB w W)=>Aa (vM bo ba bc W (HE.out.grows h) (by rw[<-HM.out];omega) (HATB.out.grows h));have CP:=λ(W:World) (h:aB w W)=>Aa (sD0 P ba bc W HCHK.out (by rw[<-HBO.out,<-HM.out];omega) hbm HNC.out (by rw[<-HBO.out];exact HATB.out.grows h));rw[<-HBO.out]at CP;rw[<-HM.out]at CS CP;clear ac jw he hb hbo qq adg adh m7 j5 hm hn ha1 abj;go_enter Tryz.func55,Tryz.ntmps55
 have CE:∀(W:World) (s1:Option Addr) (d1:Nat),aB w W->aG W s1 1 ((leB 4 (crcSum bo)).map aV)->Hid (Calls Tryz.prog 117 #[.slice a1 4 (bc-m),.slice s1 4 d1] W λe w'=>e=.returned (.bool true)/\W=w'):=λW s1 d1 hW h1=>by
  have h:=mS (leB 4 (crcSum bo)) (leB 4 (crcSum bo)) a1 s1 (bc-m) d1 W (HA1.out.grows hW) h1;rw[bM]at h;simp only[decide_true]at h;exact h
 have CE2:∀(W:World) (s1:Option Addr) (d1:Nat),aB w W->aG W s1 1 (b.map aV)->Hid (Calls Tryz.prog 117 #[.slice s1 (m+4) d1,.slice ba (m+4) bc] W λe w'=>e=.returned (.bool true)/\W=w'):=λW s1 d1 hW h1=>by
  have h:=mS b b s1 ba d1 bc W h1 (HAT.out.grows hW);rw[<-HN.out]at h;simp only[decide_true]at h;exact h
 go_wp2_with fail
 refine bH (bE 9 [6,7]) (by kernel_rfl) (λd _ _ _ _ h=>by cases d<;>exact h) ?_
 iterate 6 (refine aH rfl (λK hK=>?_);go_simp;refine hK _ ?_;clear hK K)
 refine bG rfl rfl (λK hK=>?_);go_simp;refine((CS w.drew (aB.drew w)).out).mono ?_;rintro e w1 ⟨v1,rfl,aga,ai⟩;refine⟨ai,hK _ _ ?_⟩;clear hK K;have da:=aB.trans _ _ _ (aB.drew w) ai;obtain⟨s1,d1,rfl,fe,_⟩:=eX aga;rw[bM];refine bG rfl rfl (λK hK=>?_);go_simp;refine((CE w1 s1 d1 da fe).out).mono ?_;rintro e w2 ⟨rfl,rfl⟩;refine⟨aB.refl _,hK _ _ ?_⟩;clear hK K;iterate 1 (refine aH rfl (λK hK=>?_);go_simp;refine hK _ ?_;clear hK K)
 refine bN ?_;clear aga fe ai CS CE;go_wp2_with fail
 refine(CP w1 da).out.mono ?_;rintro e w3 ⟨aw,Q,qa,qc,rfl,px,kt,hqp⟩;have kp:=aB.trans _ _ _ da aw;have hq0:fF Q=0:=by rw[<-qC,px,qC];exact HCHK.out
 have hqf:file14 Q=b:=by rw[<-nQ,px,nQ,HB.out]
 have hql:=(rJ hq0).1;have CJ:=Aa (qN0 Q qa qc w3 (HE.out.grows kp) (by omega) kt hqp);have HQ:=Aa (And.intro px (And.intro kt hqp));have HQ0:=Aa hq0;have HQF:=Aa hqf;clear aw px kt hqp hq0 hqf CP da;go_wp2_with fail
 refine CJ.out.mono ?_;rintro e w4 ⟨pj,_,cu⟩;obtain⟨v4,rfl,hv4⟩:=pj HQ0.out;rw[HQF.out]at hv4;obtain⟨s4,d4,rfl,hs4,_⟩:=eX hv4;rw[<-HN.out];have ki:=aB.trans _ _ _ kp cu;have CE4:=CE2 w4 s4 d4 ki hs4;clear pj hv4 hs4 CJ CE2;go_wp2_with fail
 refine CE4.out.mono ?_;rintro e w5 ⟨rfl,rfl⟩;go_wp2
 go_ret2;exact⟨ki,Q,qa,qc,rfl,HQ.out.1,HQ.out.2.1.grows cu,HQ.out.2.2.grows cu⟩
theorem rQ0 (Q:List bD) (k:Nat) (q:bD) (a:Option Addr) (c:Nat) (w:World) (hl:Q.length<=1000000) (ac:aG w a 2 (Q.map kZ)) (jx:iU w Q) (hq:Q[k]?=some q) (ak:∀j p,j<k->Q[j]?=some p->p.name≠q.name) :
  Calls Tryz.prog 123 #[.slice a Q.length c,.string q.name] w λe w'=>∃v,e=.returned (.tuple #[v,.bool true])/\aU w' w.heap.size 5 1 aV v q.data/\aB w w':=by
 have HAT:=Aa ac;have HPA:=Aa jx;have HNE:=Aa ak;have hkl:=(List.getElem?_eq_some_iff.1 hq).1;have HQ:=Aa hq;clear ac jx ak hq;go_enter Tryz.func123,Tryz.ntmps123
 go_wp2_with fail
 go_loopw [10] (λi wr=>∃(j:Nat),j<=k/\i=.int .i64 j/\aB w wr) (λi _=>Q.length-(intOf i).toNat)
 case atStart=>exact⟨0,Am _,rfl,aB.refl _⟩
 case round =>
  obtain⟨j,hj,rfl,hg⟩:=hrel;obtain⟨⟨pn,pd,pa,pc⟩,hp⟩:∃p,Q[j]?=some p:=⟨_,Ac (by omega)⟩;have af:j<Q.length:=by omega
  have im:(j:Int)<Q.length:=by omega
  obtain⟨ba,oa,rfl,bz⟩:=(HAT.out.grows hg).get (aJ af);have c0:wr.cell? ⟨ba,oa+j*2,none⟩=some (.string pn):=bz j _ hp 0 _ rfl;have c1:wr.cell? ⟨ba,oa+j*2+1,none⟩=some (.slice pa pd.length pc):=bz j _ hp 1 _ rfl;obtain⟨W1,bh⟩:=exq (wr.alloc (.cells #[.string pn,.slice pa pd.length pc] 170));have ai:aB wr W1:=by rw[bh];exact aB.alloc _ _
  obtain⟨bc,_⟩:=cG (w:=wr) (cs:=#[.string pn,.slice pa pd.length pc]) (t:=170) (w':=W1) (by rw[bh];exact aB.refl _);have b0:=bc 0 _ rfl;have b1:=bc 1 _ rfl;rw[bh]at b0 b1;have da:=aB.trans _ _ _ hg ai;have zj:=Ae hp;clear bc bz;by_cases he:pn=q.name
  ·have mj:j=k:=by
    rcases Bq j k with h|h
    ·exact absurd he (HNE.out j _ h hp)
    ·omega
   have hpq:q=⟨pn,pd,pa,pc⟩:=by
    rw[mj,HQ.out]at hp;exact Option.some.inj hp
   have j3:pd.length<=1099511627776:=HPA.out.data _ zj;have CC:=Aa (dH0 pd pa pc W1 j3 (HPA.out.none_ _ zj) ((HPA.out.at_ _ zj).grows da));have yo:(pn.toList==q.name.toList)=true:=by rw[he];simp
   have HPQ:Hid (q.data=pd):=by show _=_;rw[hpq]
   clear he mj hpq hp zj;go_wp2_with fail
   rw[<-bh];clear b0 b1 bh;refine CC.out.mono ?_;rintro e w2 ⟨v,rfl,hv,ae⟩;go_wp2
   go_ret2;exact⟨_,rfl,by rw[HPQ.out];exact hv.base da.size,aB.trans _ _ _ da ae⟩
  ·have mj:j<k:=by
    rcases Bq j k with h|h
    ·exact h
    ·obtain rfl:j=k:=by omega
     rw[HQ.out]at hp;exact absurd (by rw[Option.some.inj hp]) he
   have yo:(pn.toList==q.name.toList)=false:=by simpa using λh=>he (iV h)
   clear he hp zj;go_wp2_with fail
   go_roundw
   case rel=>exact⟨j+1,mj,by go_num,by rw[<-bh];exact da⟩
   case measure=>simp[intOf];omega
end
section
open Go Go.RowKit
attribute [local go_sem] aO aM
theorem qW0 (l:List Nat) (ba:Option Addr) (bc:Nat) (w:World) (hl:l.length<=1048576) (hn:∀n∈l,n<18446744073709551616) (fo:(packE l).length<=bc) (jw:ba=none->bc=0) (ac:aG w ba 1 ((packE l).map aV)) :
  Calls Tryz.prog 126 #[.slice ba (packE l).length bc] w λe w'=>∃pb,e=.returned (.tuple #[.pointer (some ⟨pb,0,none⟩),.int .i64 0])/\lJ w' pb l/\aB w w':=by
 have fp:nZ l<=64:=nF.2 hn;have aj:=zH l;obtain⟨b0,b1,b2,b3,fk,h0,h1,h2,h3,fy⟩:=tX0 l;replace fy:=fy (by omega);obtain⟨W,hW⟩:=exq (nZ l);obtain⟨n,wg⟩:=exq l.length;obtain⟨b,hb⟩:=exq (packE l);rw[<-hb]at fk aj fo ac ⊢;rw[<-hW]at fk aj fp;rw[<-wg]at aj hl fy;obtain⟨M,hM⟩:=exq ((n*W+7)/8);rw[<-hM]at aj;have HAT:=Aa ac;have HNC:=Aa jw;have HB:=Aa hb;have HN:=Aa hn;have HW:=Aa hW;have HNL:=Aa wg;have HHEAD:=Aa fk;have HM:=Aa hM;obtain⟨bb,bo,rfl,hc⟩:=at1 (f:=λx:UInt8=>Value.int .u8 x.toNat) ac (by rw[fk];simp);have tN:∀x:Nat,x<256->((At x).toNat:Int)=x:=λx hx=>by simp;omega
 have q0:w.cell? ⟨bb,bo,none⟩=some (.int .u8 b0):=by have:=hc 0 (At b0) (by rw[fk];rfl);rw[tN _ h0]at this;exact this
 have q1:w.cell? ⟨bb,bo+1,none⟩=some (.int .u8 b1):=by have:=hc 1 (At b1) (by rw[fk];rfl);rw[tN _ h1]at this;exact this
 have q2:w.cell? ⟨bb,bo+2,none⟩=some (.int .u8 b2):=by have:=hc 2 (At b2) (by rw[fk];rfl);rw[tN _ h2]at this;exact this
 have q3:w.cell? ⟨bb,bo+3,none⟩=some (.int .u8 b3):=by have:=hc 3 (At b3) (by rw[fk];rfl);rw[tN _ h3]at this;exact this
 have q4:w.cell? ⟨bb,bo+4,none⟩=some (.int .u8 W):=by have:=hc 4 (At W) (by rw[fk];rfl);rw[tN _ (by omega)]at this;exact this
 have z0:∀x:Ext aB w.drew,x.u.cell? ⟨bb,bo,none⟩=some (.int .u8 b0):=aF ((aB.drew w).cell q0);have z1:∀x:Ext aB w.drew,x.u.cell? ⟨bb,bo+1,none⟩=some (.int .u8 b1):=aF ((aB.drew w).cell q1);have z2:∀x:Ext aB w.drew,x.u.cell? ⟨bb,bo+2,none⟩=some (.int .u8 b2):=aF ((aB.drew w).cell q2);have z3:∀x:Ext aB w.drew,x.u.cell? ⟨bb,bo+3,none⟩=some (.int .u8 b3):=aF ((aB.drew w).cell q3);have z4:∀x:Ext aB w.drew,x.u.cell? ⟨bb,bo+4,none⟩=some (.int .u8 W):=aF ((aB.drew w).cell q4);obtain⟨N,hN⟩:=exq b.length;rw[<-hN]at aj fo ⊢;have HN2:=Aa hN;have HLEN:=Aa aj;have hl5:¬(N:Int)<5:=by omega
 have i0:0<N:=by omega
 have i1:(1:Int)<N:=by omega
 have i2:(2:Int)<N:=by omega
 have i3:(3:Int)<N:=by omega
 have i4:(4:Int)<N:=by omega
 have wi:∀x:Nat,x<256->IntKind.i64.wrap (x:Int)=x:=λx hx=>by simp[Ak,Al,Ah];omega
 have w0:=wi b0 h0;have w1:=wi b1 h1;have w2:=wi b2 h2;have w3:=wi b3 h3;have wW:=wi W (by omega);obtain⟨c1,c2,c3,s1,s2,m1,m2,m3,o1,o2,o3⟩:=vY0 h0 h1 h2 h3 fy;clear wi fy hN aj ac jw hb hn hW wg fk hM hc tN q0 q1 q2 q3 q4;go_enter Tryz.func126,Tryz.ntmps126
 go_wp2_with fail
 refine bH (bE 29 [27]) (by kernel_rfl) (λd _ _ _ _ h=>by cases d<;>exact h) ?_
 iterate 27 (refine aH rfl (λK hK=>?_);go_simp;refine hK _ ?_;clear hK K)
 refine bG rfl rfl (λK hK=>?_);go_simp;refine⟨aB.alloc _ _,hK _ _ ?_⟩;clear hK K z0 z1 z2 z3 z4;iterate 1 (refine aH rfl (λK hK=>?_);go_simp;refine hK _ ?_;clear hK K)
 refine bN ?_;obtain⟨pb,ei⟩:=exq w.heap.size;obtain⟨WB,m6⟩:=exq ((w.alloc (.cells #[.int .i64 n,.int .i64 W,.slice none 0 0] 260)).drew);have jv:aB w WB:=by rw[m6];exact(aB.alloc w _).dr
 obtain⟨bxc,bxf⟩:=cG (w:=w) (cs:=#[.int .i64 n,.int .i64 W,.slice none 0 0]) (t:=260) (w':=WB) (by rw[m6];exact aB.drew _);rw[<-ei]at bxc bxf;have g0:=bxc 0 _ rfl;have g1:=bxc 1 _ rfl;have g2:=bxc 2 _ rfl;have gf:=bxf 2;have dm:WB.heap.size=pb+1:=by rw[m6,ei];show (w.heap.push _).size=_;simp
 rw[<-m6];rw[<-ei];have HPB:=Aa ei;have HGB:=Aa jv;have HSZ:=Aa dm;clear bxc bxf m6 w0 w1 w2 w3 wW o1 o2 o3 m1 m2 m3 h0 h1 h2 h3 hl5 i0 i1 i2 i3 i4 ei jv dm;have hLW:n*W<=1048576*64:=Bn hl fp;obtain⟨MM,hMM⟩:=exq (n*W);have HMM:=Aa hMM;have vg:MM<=1048576*64:=by rw[hMM];exact hLW
 have wM:IntKind.i64.wrap ((n:Int)*W)=MM:=by
  have h1:(n:Int)*W=MM:=by rw[hMM];push_cast;rfl
  rw[h1];exact gY (by omega)
 have hM8:M=(MM+7)/8:=by rw[HM.out,hMM]
 have wM7:IntKind.i64.wrap ((MM:Int)+7)=(MM:Int)+7:=by have:=gY (x:=MM+7) (by omega);rw[Ba]at this;exact this
 have e7:((MM:Int)+7)/8=M:=by omega
 have e7t:((MM:Int)+7).tdiv 8=M:=by rw[An (by omega)];exact e7
 have wM8:IntKind.i64.wrap (M:Int)=M:=gY (by omega);have wM5:IntKind.i64.wrap (5+(M:Int))=5+(M:Int):=by have:=gY (x:=5+M) (by omega);rw[Ba]at this;exact this
 have hNe:((N:Int) != 5+(M:Int))=false:=by have:=HLEN.out;simp;omega
 have jl:¬(1048576:Int)<n:=by omega
 have vj:¬(64:Int)<W:=by omega
 have z0:∀y:Ext aB WB.drew,y.u.cell? ⟨pb,0,none⟩=some (.int .i64 n):=aF ((aB.drew WB).cell g0);have z1:∀y:Ext aB WB.drew,y.u.cell? ⟨pb,1,none⟩=some (.int .i64 W):=aF ((aB.drew WB).cell g1);have HM8:=Aa hM8;clear hMM hLW hM8;go_wp2_with fail
 refine bH (bE 29 []) (by kernel_rfl) (λd _ _ _ _ h=>by cases d<;>exact h) ?_
 iterate 29 (refine aH rfl (λK hK=>?_);go_simp;refine hK _ ?_;clear hK K)
 refine bN ?_;clear z0 z1;go_wp2_with fail
 obtain⟨WC,hWC⟩:=exq WB.drew;have hgC:aB WB WC:=by rw[hWC];exact aB.drew WB
 have adi:WC.heap.size=pb+1:=by rw[hWC];exact HSZ.out
 have k0:=hgC.cell g0;have k1:=hgC.cell g1;have k2:=hgC.cell g2;have kf:WC.frozen? ⟨pb,2,none⟩=false:=by rw[hgC.froz (by show pb<WB.heap.size;rw[HSZ.out];omega)];exact gf
 have HGC:=Aa (aB.trans _ _ _ HGB.out hgC);rw[<-hWC];clear hWC hgC g0 g1 g2 gf wM7 e7 e7t wM8 wM5 hNe jl vj;obtain⟨q,hq⟩:=exq ((MM+63)/64);have ve:q<=1048576:=by omega
 have wM2:IntKind.i64.wrap ((MM:Int)+63)=(MM:Int)+63:=by have:=gY (x:=MM+63) (by omega);rw[Ba]at this;exact this
 have qz:((MM:Int)+63)/64=q:=by omega
 have yz:((MM:Int)+63).tdiv 64=q:=by rw[An (by omega)];exact qz
 have z0:∀y:Ext aB WC.drew,y.u.cell? ⟨pb,0,none⟩=some (.int .i64 n):=aF ((aB.drew WC).cell k0);have z1:∀y:Ext aB WC.drew,y.u.cell? ⟨pb,1,none⟩=some (.int .i64 W):=aF ((aB.drew WC).cell k1);have wq:IntKind.i64.wrap (q:Int)=q:=gY (by omega);have kh:=λ(Y:World)=>nE1 q Y ve;have HQ:=Aa hq;clear hq;refine oV 13 (bE 13 [12]) (by kernel_rfl) (λd _ _ _ _ h=>by cases d<;>exact h) ?_
 iterate 12 (refine aH rfl (λK hK=>?_);go_simp;refine hK _ ?_;clear hK K)
 refine bG rfl rfl (λK hK=>?_);go_simp;refine⟨aB.alloc _ _,hK _ _ ?_⟩;clear hK K z0 z1 kh qz yz wM2 wq;refine bN ?_;simp only[List.drop_succ_cons,Bd];have be:=kW0 (w:=WC) ve;rw[Aw,adi]at be;obtain⟨W3,iy⟩:=exq ((WC.alloc (.cells (madeCells #[.int .u64 0] q) 154)).drew);have aw:aB WC W3:=by rw[iy];exact(aB.alloc WC _).dr
 have oy:aU W3 (pb+1) 154 1 kF (.slice (some ⟨pb+1,0,none⟩) q q) (Bc q 0):=by rw[iy];exact be.grows (aB.drew _)
 rw[<-iy];try rw[adi]
 have ou:pb+1<W3.heap.size:=by rw[iy];show pb+1<(WC.heap.push _).size;rw[Array.size_push,adi];omega
 have b32:=aw.cell k2;have b3f:W3.frozen? ⟨pb,2,none⟩=false:=by rw[aw.froz (by show pb<WC.heap.size;omega)];exact kf
 have j0:=aw.cell k0;have j1:=aw.cell k1;have kp:=aB.trans _ _ _ HGC.out aw;clear be iy k0 k1 k2 kf aw
 -- the bytes behind the head
 obtain⟨a5,hif,ha5⟩:∃a5,(if bc=5 then (some ⟨bb,bo,none⟩:Option Addr) else some ⟨bb,bo+5,none⟩)=a5/\aG w a5 1 ((bY0 l).map aV):=by
  obtain⟨a',hv',kj,_⟩:=zX (l:=5) (h:=N) HAT.out HNC.out (by have:=HLEN.out;omega) (by rw[HN2.out];exact Ao _) (by rw[<-HN2.out];exact fo);refine⟨a',?_,?_⟩
  ·rw[<-hv',Bh,iE]
  ·have e:(b.take N).drop 5=bY0 l:=by rw[HN2.out,As,HHEAD.out];rfl
   rw[e]at kj;exact kj
 have hN5:5<=N:=by have:=HLEN.out;omega
 have hNM:N-5=M:=by have:=HLEN.out;omega
 have aka:5<=bc:=by omega
 have h5i:(5:Int)<=N:=by omega
 have h5n:(N:Int)<=bc:=by omega
 have f5:(5:Int)<=bc:=by omega
 have HA5:=Aa ha5;clear ha5;go_wp2_with fail
 have e0:(W3.setCell ⟨pb,2,none⟩ (.slice (some ⟨pb+1,0,none⟩) q q)).cell? ⟨pb,0,none⟩=some (.int .i64 n):=(Ab _ _ _ _ (λh=>by cases h)).trans j0;have e1:(W3.setCell ⟨pb,2,none⟩ (.slice (some ⟨pb+1,0,none⟩) q q)).cell? ⟨pb,1,none⟩=some (.int .i64 W):=(Ab _ _ _ _ (λh=>by cases h)).trans j1;have e2:(W3.setCell ⟨pb,2,none⟩ (.slice (some ⟨pb+1,0,none⟩) q q)).cell? ⟨pb,2,none⟩=some (.slice (some ⟨pb+1,0,none⟩) q q):=World.cell?_setCell_same _ _ _ b32;have ki:aB w (W3.setCell ⟨pb,2,none⟩ (.slice (some ⟨pb+1,0,none⟩) q q)):=kp.set (by rw[HPB.out];exact Ao _) _;have ni:=mM oy (p:=⟨pb,2,none⟩) (Nat.lt_succ_self _) (.slice (some ⟨pb+1,0,none⟩) q q);rw[<-mJ0 l W q]at ni;have agb:pb+1<(W3.setCell ⟨pb,2,none⟩ (.slice (some ⟨pb+1,0,none⟩) q q)).heap.size:=by simp;exact ou
 obtain⟨W4,o7⟩:=exq (W3.setCell ⟨pb,2,none⟩ (.slice (some ⟨pb+1,0,none⟩) q q));rw[<-o7]at e0 e1 e2 ki ni agb ⊢;clear o7 oy kp j0 j1 b32 b3f ou;go_loopw [89] (λi wr=>∃k:Nat,k<=M/\i=.int .i64 k/\aU wr (pb+1) 154 1 kF (.slice (some ⟨pb+1,0,none⟩) q q) (oP l W k q)/\wr.cell? ⟨pb,0,none⟩=some (.int .i64 n)/\wr.cell? ⟨pb,1,none⟩=some (.int .i64 W)/\wr.cell? ⟨pb,2,none⟩=some (.slice (some ⟨pb+1,0,none⟩) q q)/\aB w wr) (λi _=>M-(intOf i).toNat)
 case atStart=>exact⟨0,Am _,rfl,ni,e0,e1,e2,ki⟩
 case round =>
  clear ni e0 e1 e2 ki agb;obtain⟨k,hk,rfl,aa,e0,e1,e2,hg⟩:=hrel;by_cases af:k<M
  ·have gd:(bY0 l).length=M:=by unfold bY0;rw[Ad,List.length_range,HM.out,HNL.out,HW.out]
   obtain⟨x,hx⟩:∃x,(bY0 l)[k]?=some x:=⟨_,Ac (by rw[gd];exact af)⟩;obtain⟨ab,ao,ha5,hc5⟩:=at1 (f:=λx:UInt8=>Value.int .u8 x.toNat) (HA5.out.grows hg) (aJ (by rw[gd];exact af));have cx:=hc5 k x hx;subst ha5
   have hxv:x.toNat=fE (bitAt l W) (8*k) 8:=by
    unfold bY0 at hx;rw[Ag,List.getElem?_range (by rw[<-HW.out,<-HNL.out,<-HM.out];exact af)]at hx;rw[<-Option.some.inj hx,HW.out]
    have:=jU (bitAt l (nZ l)) (8*k) 8
    simp;omega
   obtain⟨c,jc⟩:=exq x.toNat;rw[<-jc]at cx hxv;have aag:c<256:=by rw[hxv];exact jU _ _ 8
   have hk8:8*k+8<=MM+7:=by have:=HM8.out;omega
   obtain⟨Q8,hQ8⟩:=exq (k/8);obtain⟨R8,hR8⟩:=exq (k%8);obtain⟨S8,zk⟩:=exq (R8*8);have s5:Q8<q:=by have:=HQ.out;omega
   have hQi:(Q8:Int)<q:=by omega
   have m5:S8<64:=by omega
   have d1:=cM (f:=λn:Nat=>Value.int .u64 n) aa (qO (by rw[<-hQ8];exact s5):(oP l W k q)[k/8]?=_);have HST:=Aa (nF0 (l:=l) (W:=W) (k:=k) (q:=q) (by rw[<-hQ8];exact s5));rw[<-hQ8]at d1 HST;obtain⟨y,hy⟩:=exq (fE (λp=>decide (p<8*k)&&bitAt l W p) (64*Q8) 64);have ke:y<18446744073709551616:=by rw[hy];exact jU _ _ 64
   rw[<-hy,<-hxv,<-hR8,<-zk]at HST;rw[<-hy]at d1;have z9:=kU0 (x:=y) (v:=c) (S:=S8) ke;obtain⟨y1,lj⟩:=exq (y|||(c<<<S8)%18446744073709551616)
   rw[<-lj]at z9 HST;obtain⟨fr,_,ah⟩:=eO (f:=λn:Nat=>Value.int .u64 n) aa (k:=Q8) (by rw[mG];exact s5) y1;have eq8:(k:Int)/8=Q8:=by omega
   have akb:(k:Int).tdiv 8=Q8:=by rw[An (by omega)];exact eq8
   have er8:(k:Int)%8=R8:=by omega
   have akc:(k:Int).tmod 8=R8:=by rw[Int.tmod_eq_emod_of_nonneg (by omega)];exact er8
   have wQ8:IntKind.i64.wrap (Q8:Int)=Q8:=gY (by omega);have wR8:IntKind.i64.wrap (R8:Int)=R8:=gY (by omega);have wS8:IntKind.i64.wrap ((R8:Int)*8)=S8:=by have:=gY (x:=R8*8) (by omega);rw[Bk,<-Bk,<-zk]at this;rw[<-this,zk];push_cast;rfl
   have uS8:IntKind.u64.wrap (S8:Int)=S8:=by simp[Ak,Al,Ah];omega
   have uc:IntKind.u64.wrap (c:Int)=c:=by simp[Ak,Al,Ah];omega
   have cz:(k:Int)<M:=by omega
   have f0:(wr.setCell ⟨pb+1,Q8,none⟩ (.int .u64 y1)).cell? ⟨pb,0,none⟩=some (.int .i64 n):=(Ab _ _ _ _ (λh=>by have:=congrArg Az h;simp at this)).trans e0;have f1:(wr.setCell ⟨pb+1,Q8,none⟩ (.int .u64 y1)).cell? ⟨pb,1,none⟩=some (.int .i64 W):=(Ab _ _ _ _ (λh=>by have:=congrArg Az h;simp at this)).trans e1;have f2:(wr.setCell ⟨pb+1,Q8,none⟩ (.int .u64 y1)).cell? ⟨pb,2,none⟩=some (.slice (some ⟨pb+1,0,none⟩) q q):=(Ab _ _ _ _ (λh=>by have:=congrArg Az h;simp at this)).trans e2;have HF:=Aa (And.intro f0 (And.intro f1 f2));have ae:aB w (wr.setCell ⟨pb+1,Q8,none⟩ (.int .u64 y1)):=hg.set (by rw[HPB.out];simp) _;have HO:=Aa ah;clear hx hc5 hxv jc hQ8 hR8 zk hy lj ah aa f0 f1 f2 hif;go_wp2_with fail
   go_roundw
   case rel=>exact⟨k+1,af,by go_num,by rw[HST.out];exact HO.out,HF.out.1,HF.out.2.1,HF.out.2.2,ae⟩
   case measure=>simp[intOf];omega
  ·obtain rfl:M=k:=by omega
   rw[tC0 (by rw[HW.out];exact λx hx=>pY hx) (by rw[<-HNL.out,<-HMM.out];have:=HM8.out;omega)]at aa;have aii:=λ(Y:World)=>nE1 n Y hl;have ku:=kW0 (w:=wr) (n:=n) hl;rw[Aw]at ku;obtain⟨W5,pu⟩:=exq (wr.alloc (.cells (madeCells #[.int .u64 0] n) 154));have bi:aB wr W5:=by rw[pu];exact aB.alloc _ _
   obtain⟨lb,nz⟩:=exq wr.heap.size;rw[<-pu,<-nz]at ku;have akd:pb+1<lb:=by rw[nz];exact gH aa _ rfl
   rw[show Bc n 0=lQ l 0 0 by rw[qK,HNL.out]]at ku
   have e05:=bi.cell e0;have e15:=bi.cell e1;have e25:=bi.cell e2;have au:=aa.grows bi;have du:=aB.trans _ _ _ hg bi;have aij:w.heap.size<=lb:=by have:=HPB.out;omega
   clear aa;go_wp2_with fail
   try rw[<-pu]
   try rw[<-nz]
   clear pu nz bi e0 e1 e2 hg hif aii;go_loopw [119] (λi wx=>∃k:Nat,k<=n/\i=.int .i64 k/\aU wx lb 154 1 kF (.slice (some ⟨lb,0,none⟩) n n) (lQ l 0 k)/\wx.cell? ⟨pb,0,none⟩=some (.int .i64 n)/\wx.cell? ⟨pb,1,none⟩=some (.int .i64 W)/\wx.cell? ⟨pb,2,none⟩=some (.slice (some ⟨pb+1,0,none⟩) q q)/\aU wx (pb+1) 154 1 kF (.slice (some ⟨pb+1,0,none⟩) q q) (eD l W q)/\aB w wx) (λi _=>n-(intOf i).toNat)
   case atStart=>exact⟨0,Am _,rfl,ku,e05,e15,e25,au,du⟩
   case round =>
    clear ku e05 e15 e25 au du;obtain⟨k,ig,rfl,cm,e0,e1,e2,aa,hg⟩:=hrel;by_cases az:k<n
    ·obtain⟨x,hx⟩:∃x,l[k]?=some x:=⟨_,Ac (by rw[<-HNL.out];exact az)⟩
     have cz:(k:Int)<n:=by omega
     have CG:=Aa (pK0 pb (pb+1) q W k x (pb+1) l wr fp (by rw[<-HNL.out];exact hl) hx (by rw[HW.out];exact pY (Ae hx)) (by rw[<-HNL.out,<-HMM.out];have:=HQ.out;omega) e1 e2 aa);have HFS:=Aa (tQ (z:=0) hx);clear hx;go_wp2_with fail
     refine CG.out.mono ?_;rintro e w6 ⟨rfl,dw⟩;have yb:=cm.grows dw;obtain⟨u0,hu0⟩:∃u,(lQ l 0 k)[k]?=some u:=⟨_,Ac (by rw[mD _ _ (by rw[<-HNL.out];omega),<-HNL.out];exact az)⟩;have cl:=cM (f:=λn:Nat=>Value.int .u64 n) yb hu0;obtain⟨fr,_,aa8⟩:=eO (f:=λn:Nat=>Value.int .u64 n) yb (k:=k) (by rw[mD _ _ (by rw[<-HNL.out];omega),<-HNL.out];exact az) x;rw[HFS.out]at aa8;have ak:∀j j',(⟨pb,j,none⟩:Addr)≠⟨lb,j',none⟩:=λj j' h=>by have:=congrArg Az h;simp only at this;omega
     have f0:(w6.setCell ⟨lb,k,none⟩ (.int .u64 x)).cell? ⟨pb,0,none⟩=some (.int .i64 n):=(Ab _ _ _ _ (λh=>ak _ _ (by first|exact h|exact h.symm))).trans (dw.cell e0)
     have f1:(w6.setCell ⟨lb,k,none⟩ (.int .u64 x)).cell? ⟨pb,1,none⟩=some (.int .i64 W):=(Ab _ _ _ _ (λh=>ak _ _ (by first|exact h|exact h.symm))).trans (dw.cell e1)
     have f2:(w6.setCell ⟨lb,k,none⟩ (.int .u64 x)).cell? ⟨pb,2,none⟩=some (.slice (some ⟨pb+1,0,none⟩) q q):=(Ab _ _ _ _ (λh=>ak _ _ (by first|exact h|exact h.symm))).trans (dw.cell e2)
     have fu:=gT (v:=.slice (some ⟨lb,0,none⟩) n n) (aa.grows dw) ((aB.refl w6).grownBy_set lb k (.int .u64 x)) (λr h1 h2=>by
      have a1:lb=r:=Option.some.inj h1;have a2:pb+1=r:=Option.some.inj h2;omega)
     have ep:aB w (w6.setCell ⟨lb,k,none⟩ (.int .u64 x)):=(aB.trans _ _ _ hg dw).set aij _;have HF:=Aa (And.intro f0 (And.intro f1 f2));clear cm yb e0 e1 e2 aa hg dw hu0 f0 f1 f2 CG;go_wp2_with fail
     go_roundw
     case rel=>exact⟨k+1,az,by go_num,aa8,HF.out.1,HF.out.2.1,HF.out.2.2,fu,ep⟩
     case measure=>simp[intOf];omega
    ·obtain rfl:n=k:=by omega
     have hrw:lQ l 0 n=l:=by rw[HNL.out];exact rZ l 0
     rw[hrw]at cm;obtain⟨ra,rc,hre,_,_,adj⟩:=cm.at_ (k:=1) (λx=>(rfl:(kF x).length=1));have e1':=(Value.slice.inj hre).1;rw[<-e1']at adj;have CNW:=Aa (eS0 l (some ⟨lb,0,none⟩) n wr (by rw[<-HNL.out];exact hl) HN.out adj);rw[<-HNL.out]at CNW;clear cm hre e1' adj hrw e0 e1 e2 aa;go_wp2_with fail
     refine CNW.out.mono ?_;rintro e w7 ⟨rfl,hpk,ep⟩;obtain⟨nb,lh⟩:=exq wr.heap.size;rw[<-lh]at hpk ⊢;clear lh;go_wp2_with fail
     refine(fU0 l nb w7 (by rw[<-HNL.out];exact hl) HN.out hpk).mono ?_;rintro e w8 ⟨v8,rfl,ue,fq⟩;rw[<-HB.out]at ue;obtain⟨a8,c8,rfl,lx,_⟩:=eX ue;rw[<-HN2.out];have lz:=aB.trans _ _ _ hg (aB.trans _ _ _ ep fq);have CE:=Aa (mS b b a8 (some ⟨bb,bo,none⟩) c8 bc w8 lx (HAT.out.grows lz));rw[<-HN2.out]at CE;simp only[decide_true]at CE;clear ue lx;go_wp2_with fail
     refine CE.out.mono ?_;rintro e w9 ⟨rfl,rfl⟩;go_wp2
     go_ret2;exact⟨nb,rfl,hpk.grows fq,lz⟩
end
section
open Go Go.RowKit Go.Shelf
attribute [local go_sem] aO aM
theorem aF1 {w:World} {a:Option Addr} {c:Nat} {l:List UInt8} (hn:l≠[]) (ac:aG w a 1 (l.map aV)):(convert 67 9 (.slice a l.length c)).run Tryz.prog w=.ok (.string (mkB l)) w:=by
 obtain⟨b,o,rfl,hc⟩:=at1 (f:=λx:UInt8=>Value.int .u8 x.toNat) ac hn;have hz:(mkB l).size=l.length:=by rw[Br,iR]
 have hBy:Lib.Bytes w b o (mkB l):=λj hj=>by
  rw[hz]at hj;have h:=hc j _ (Ac hj);rw[h];rfl
 have:=Lib.run_convert_whole (P:=Tryz.prog) w 67 5 9 Tryz.underlying67 Tryz.underlying5 Tryz.underlying9 b o (mkB l) hBy c
 rw[hz]at this;exact this
theorem nQ0 (L:List (List UInt8)):loudE L=rH [oB (shapeL L (nodesA L)),labelsL L (nodesA L),oB (isL L (nodesA L)),packE (idsL L (nodesA L))] 0:=by
 unfold loudE rH;simp only[Bd,Av,List.flatMap_nil,List.append_nil,List.append_assoc]
theorem eM1 (L:List (List UInt8)) (ba:Option Addr) (bc:Nat) (w:World) (lk:gP L=0) (fo:(loudE L).length<=bc) (ac:aG w ba 1 ((loudE L).map aV)) :
  Calls Tryz.prog 125 #[.slice ba (loudE L).length bc] w λe w'=>∃tb,e=.returned (.tuple #[.pointer (some ⟨tb,0,none⟩),.int .i64 0])/\eP w' tb L/\w.heap.size+2<=tb/\aB w w':=by
 obtain⟨ag,hl,hc⟩:=dQ lk;obtain⟨z1,z2,z3,z4,z5⟩:=ag.sizes hl hc;have ly:∀n∈idsL L (nodesA L),n<18446744073709551616:=λn hn=>by have:=z5 n hn;omega
 have e1:=nI (shapeL L (nodesA L));have e2:=nI (isL L (nodesA L));have e3:=zH (idsL L (nodesA L));have hwd:nZ (idsL L (nodesA L))<=64:=nF.2 ly;have ei:(idsL L (nodesA L)).length*nZ (idsL L (nodesA L))<=524287*64:=Bn z4 hwd;have hp:=nQ0 L
 have ak:loudE L≠[]:=by
  rw[hp,fK0 (k:=0) rfl];intro e
  have:=congrArg Bs e
  rw[Af,bM]at this;simp at this
 have HAT:=Aa ac;have HNE:=Aa ak;have CPA:=rT0 (oB (shapeL L (nodesA L))) (labelsL L (nodesA L)) (oB (isL L (nodesA L))) (packE (idsL L (nodesA L))) ba bc w (by omega) (by omega) (by omega) (by omega) (by rw[<-hp];exact fo) (by rw[<-hp];exact ac);rw[<-hp]at CPA;have HCPA:=Aa CPA;have CS:=λ(a:Option Addr) (c:Nat) (u:World) h1 h2=>Aa (pH0 (shapeL L (nodesA L)) a c u z1 h1 h2);have CI:=λ(a:Option Addr) (c:Nat) (u:World) h1 h2=>Aa (pH0 (isL L (nodesA L)) a c u (by omega) h1 h2);have CD:=λ(a:Option Addr) (c:Nat) (u:World) h1 h2 h3=>Aa (qW0 (idsL L (nodesA L)) a c u (by omega) ly h1 h2 h3);have CG:=λ(sb ib pb:Nat) (la:Option Addr) (lc:Nat) (u:World) h1 h2 h3 h4=>Aa (dN1 L sb ib pb la lc u ag hl hc h1 h2 h3 h4)
 have CB:∀(a:Option Addr) (c:Nat) (u:World),(∀q,a=some q->q.block<u.heap.size)->aG u a 1 ((L.map mkB).map stC)->Hid (Calls Tryz.prog 94 #[.slice a L.length c] u λe w'=>∃tb,e=.returned (.tuple #[.pointer (some ⟨tb,0,none⟩),.int .i64 0])/\eP w' tb L/\u.heap.size+2<=tb/\aB u w'):=λa c u h1 h2=>by
  have h:=uJ (L.map mkB) a c u (by rw[Ad];omega) (λs hs=>by
   obtain⟨x,hx,rfl⟩:=List.mem_map.1 hs
   have:=ag.len x hx
   rw[Br,iR];omega) h1 h2
  rw[lC1,Ad]at h;refine h.mono ?_;rintro e w' ⟨hg,h3|h3⟩
  ·obtain⟨_,tb,h4,h5,h6⟩:=h3
   exact⟨tb,h4,h5,h6,hg⟩
  ·exact absurd lk h3.1
 have CE:=λ(tb:Nat) (u:World) h=>Aa (fL0 L tb u ag hl hc h);obtain⟨b,hb⟩:=exq (loudE L);rw[<-hb]at HAT HNE HCPA CE ⊢;clear lk fo ac ag hl hc z1 z2 z3 z4 z5 ly e1 e2 e3 hwd ei hp ak CPA hb;go_enter Tryz.func125,Tryz.ntmps125
 go_wp2_with fail
 refine HCPA.out.mono ?_;rintro e w1 ⟨v0,v1,v2,v3,rfl,h0,h1,h2,h3,ai⟩;obtain⟨a0,c0,rfl,x0,y0,t0⟩:=h0.out;obtain⟨a1,c1,rfl,x1,y1,t1⟩:=h1.out;obtain⟨a2,c2,rfl,x2,y2,t2⟩:=h2.out;obtain⟨a3,c3,rfl,x3,y3,t3⟩:=h3.out;clear HCPA h0 h1 h2 h3;obtain⟨W2,iv⟩:=exq (w1.alloc (.cells #[.slice a0 (oB (shapeL L (nodesA L))).length c0,.slice a1 (labelsL L (nodesA L)).length c1,.slice a2 (oB (isL L (nodesA L))).length c2,.slice a3 (packE (idsL L (nodesA L))).length c3] 253));obtain⟨xb,ny⟩:=exq w1.heap.size;have er:=λj u h=>aT w1 #[.slice a0 (oB (shapeL L (nodesA L))).length c0,.slice a1 (labelsL L (nodesA L)).length c1,.slice a2 (oB (isL L (nodesA L))).length c2,.slice a3 (packE (idsL L (nodesA L))).length c3] 253 (0,0) j u h;rw[<-iv,<-ny]at er;have b0:=er 0 _ rfl;have b1:=er 1 _ rfl;have b2:=er 2 _ rfl;have b3:=er 3 _ rfl;have ae:aB w1 W2:=by rw[iv];exact aB.alloc _ _
 have HT1:=Aa (t1.grows ae);have CS1:=CS a0 c0 W2 x0 (t0.grows ae);have CI1:=λu (hu:aB W2 u)=>CI a2 c2 u x2 ((t2.grows ae).grows hu);have CD1:=λu (hu:aB W2 u)=>CD a3 c3 u x3 y3 ((t3.grows ae).grows hu);have fj:=ai.tr ae;clear er CS CI CD t0 t1 t2 t3 x0 x1 x2 x3 y0 y1 y2 y3;go_wp2_with fail
 rw[<-iv,<-ny];clear iv ny ai ae;refine CS1.out.mono ?_;rintro e w3 ⟨sb,rfl,me,aw⟩;replace b1:=aw.cell b1;replace b2:=aw.cell b2;replace b3:=aw.cell b3;clear CS1 b0;go_wp2_with fail
 refine(CI1 w3 aw).out.mono ?_;rintro e w4 ⟨ib,rfl,ws,cu⟩;replace b1:=cu.cell b1;replace b3:=cu.cell b3;have agc:=me.grows cu;have adk:=aw.tr cu;clear CI1 b2 me;go_wp2_with fail
 refine(CD1 w4 adk).out.mono ?_;rintro e w5 ⟨pb,rfl,ei,bi⟩;replace b1:=bi.cell b1;have agd:=adk.tr bi;have du:=fj.tr agd;have CG1:=CG sb ib pb a1 c1 w5 (agc.grows bi) (ws.grows bi) ei (HT1.out.grows agd);clear CD1 CG b3 agc ws ei aw cu adk;go_wp2_with fail
 refine CG1.out.mono ?_;rintro e w6 ⟨v6,rfl,hv6,dw⟩;have adl:=gH hv6;obtain⟨a6,c6,rfl,_,_,age⟩:=hv6.at_ (enc:=stC) (λ_=>rfl);rw[Ad]at adl ⊢;have CB1:=CB a6 c6 w6 (λq hq=>adl q.block (by rw[hq];rfl)) age;have nc:=du.tr dw;clear CG1 CB hv6 adl age dw bi du;go_wp2_with fail
 refine CB1.out.mono ?_;rintro e w7 ⟨tb,rfl,ye,je,ep⟩;have HLO:=Aa (Ap (Be nc.size 2) je);clear je;have HTB:=Aa ye;have CE1:=CE tb w7.drew (ye.grows (aB.drew w7));have qm:=nc.tr ep;have hcb:∀x:Ext aB w7.drew,(convert 67 9 (.slice ba b.length bc)).run Tryz.prog x.u=.ok (.string (mkB b)) x.u:=λx=>aF1 (c:=bc) HNE.out (HAT.out.grows (qm.dr.tr x.h));clear CB1 CE ye ep nc;go_wp2_with fail
 refine bH (nU [0,1,2,3,6,7,4,5,8,9] [4]) (by kernel_rfl) (λd _ _ _ _ h=>by cases d<;>exact h) ?_
 iterate 6 (refine aH rfl (λK hK=>?_);go_simp;refine hK _ ?_;clear hK K)
 refine bG rfl rfl (λK hK=>?_);go_simp;refine(CE1.out).mono ?_;rintro e w8 ⟨v8,rfl,ue,fq⟩;refine⟨fq,hK _ _ ?_⟩;clear hK K;have hcv:∀x:Ext aB w8,(convert 67 9 v8).run Tryz.prog x.u=.ok (.string (mkB b)) x.u:=λx=>yM (ue.grows x.h);have lz:=qm.dr.tr fq;have HTB8:=Aa (HTB.out.grows ((aB.drew w7).tr fq));have zw:((mkB b).toList==(mkB b).toList)=true:=by simp
 clear CE1 HTB ue fq qm hcb;iterate 3 (refine aH rfl (λK hK=>?_);go_simp;refine hK _ ?_;clear hK K)
 refine bN ?_;go_wp2
 go_ret2;exact⟨tb,rfl,HTB8.out,HLO.out,lz⟩
end
section
open Go Go.RowKit Go.Shelf
def gT0 (lo:Nat) (p:List cY) (m:Mx) (es:List En) (w:World):Nat->Value->Prop
 | 0,v=>aU w 0 99 2 cB v p
 | 1,v=>∃mb bm,v=.pointer (some ⟨mb,0,none⟩)/\gF w mb bm m
 | 2,v=>∃tb,v=.pointer (some ⟨tb,0,none⟩)/\eP w tb (bls (readL es))/\lo+2<=tb
 | 3,v=>∃tb,v=.pointer (some ⟨tb,0,none⟩)/\eP w tb (bls (bP es))/\lo+2<=tb
 | 4,v=>∃pb,v=.pointer (some ⟨pb,0,none⟩)/\lJ w pb (gO qS es es.length)
 | 5,v=>∃pb,v=.pointer (some ⟨pb,0,none⟩)/\lJ w pb (es.map (xG (bP es)))
 | 6,v=>∃pb,v=.pointer (some ⟨pb,0,none⟩)/\lJ w pb (es.map λx=>x.l.toNat)
 | 7,v=>∃pb,v=.pointer (some ⟨pb,0,none⟩)/\lJ w pb (es.map λx=>x.t.toNat)
 | 8,v=>∃pb,v=.pointer (some ⟨pb,0,none⟩)/\lJ w pb (es.map λx=>x.c.toNat)
 | 9,v=>∃pb,v=.pointer (some ⟨pb,0,none⟩)/\lJ w pb (aE0 es)
 | 10,v=>∃pb,v=.pointer (some ⟨pb,0,none⟩)/\lJ w pb (gO fF0 (gJ es) es.length)
 | _+11,_=>True
variable {lo db:Nat} {p:List cY} {m:Mx} {es:List En} {w w':World} {i:Nat} {v:Value}
theorem gT0.grows (h:gT0 lo p m es w i v) (hg:aB w w'):gT0 lo p m es w' i v:=by
 match i,h with
 | 0,h=>exact aU.grows h hg
 | 1,⟨mb,bm,e,hm⟩=>exact⟨mb,bm,e,hm.grows hg⟩
 | 2,⟨tb,e,ht,hl⟩=>exact⟨tb,e,ht.grows hg,hl⟩
 | 3,⟨tb,e,ht,hl⟩=>exact⟨tb,e,ht.grows hg,hl⟩
 | 4,⟨pb,e,hp⟩=>exact⟨pb,e,hp.grows hg⟩
 | 5,⟨pb,e,hp⟩=>exact⟨pb,e,hp.grows hg⟩
 | 6,⟨pb,e,hp⟩=>exact⟨pb,e,hp.grows hg⟩
 | 7,⟨pb,e,hp⟩=>exact⟨pb,e,hp.grows hg⟩
 | 8,⟨pb,e,hp⟩=>exact⟨pb,e,hp.grows hg⟩
 | 9,⟨pb,e,hp⟩=>exact⟨pb,e,hp.grows hg⟩
 | 10,⟨pb,e,hp⟩=>exact⟨pb,e,hp.grows hg⟩
 | _+11,_=>trivial
structure vL0 (w:World) (db:Nat) (cs:Array Value):Prop where
 tb:TB w db cs 112
 sz:cs.size=11
 c0:∃a n c,cs[0]?=some (.slice a n c)
theorem vL0.ne {cs:Array Value} (h:vL0 w db cs) {x:Nat} {u:Value} (hc:w.cell? ⟨x,0,none⟩=some u) (hu:∀a n c,u ≠ .slice a n c):¬x=db:=by
 rintro rfl;obtain⟨a,n,c,h0⟩:=h.c0
 have:=h.tb.cell h0
 rw[hc]at this;exact hu a n c (Option.some.inj this)
theorem vL0.out1 {cs:Array Value} (h:vL0 w db cs) {e:TypeId} (ak:112≠e):∀q,(λk=>k=db) q->∃o,w.heap[q]?=some o/\yB o≠some e:=dP1 h.tb ak
theorem vL0.out2 {cs:Array Value} (h:vL0 w db cs):∀q,(λk=>k=db) q->∃o,w.heap[q]?=some o/\yB o≠some 154/\yB o≠some 3:=λq hq=>by
 have:q=db:=hq
 subst this;exact⟨_,h.tb,by simp[yB],by simp[yB]⟩
theorem lM {cs:Array Value} (h:vL0 w db cs) {pb:Nat} {l:List Nat} (hp:lJ w pb l) (o:Nat) (u:Value):lJ (w.setCell ⟨db,o,none⟩ u) pb l :=
 yE hp (nK w db o u) (h.ne hp.c0 (λ_ _ _ e=>by cases e)) h.out2
theorem qD0 {cs:Array Value} (h:vL0 w db cs) {tb:Nat} {L:List (List UInt8)} (ht:eP w tb L) (o:Nat) (u:Value):eP (w.setCell ⟨db,o,none⟩ u) tb L:=by
 obtain⟨sb,s1,s2⟩:=ht.s;obtain⟨ib,i1,i2⟩:=ht.i;obtain⟨vL,l1,l2⟩:=ht.l;obtain⟨pb,d1,d2⟩:=ht.d;obtain⟨vN,n1,n2⟩:=ht.n;have ho:=nK w db o u;have hn:=h.ne s1 (λ_ _ _ e=>by cases e)
 exact⟨⟨sb,gV s1 ho hn,iF s2 ho (h.ne s2.c0 (λ_ _ _ e=>by cases e)) h.out2⟩,⟨ib,gV i1 ho hn,iF i2 ho (h.ne i2.c0 (λ_ _ _ e=>by cases e)) h.out2⟩,
  ⟨vL,gV l1 ho hn,pC l2 ho (h.out1 (by decide))⟩,⟨pb,gV d1 ho hn,lM h d2 o u⟩,⟨vN,gV n1 ho hn,pC n2 ho (h.out1 (by decide))⟩⟩
theorem lE1 {cs:Array Value} (h:vL0 w db cs) {mb bm:Nat} {m:Mx} (hm:gF w mb bm m) (o:Nat) (u:Value):gF (w.setCell ⟨db,o,none⟩ u) mb bm m:=by
 refine hm.kept (aQ w db o u) (λe=>h.ne hm.c0 (λ_ _ _ e=>by cases e) (Option.some.inj e)) (λe=>?_);obtain⟨D,hD,_⟩:=hm.own;have e2:bm=db:=Option.some.inj e;obtain⟨en,clock,hb,_⟩:=hD;rw[e2,show w.heap[db]?=_ from h.tb]at hb
 cases hb
theorem gT0.set {cs:Array Value} (h:gT0 lo p m es w i v) (hd:vL0 w db cs) (o:Nat) (u:Value):gT0 lo p m es (w.setCell ⟨db,o,none⟩ u) i v:=by
 match i,h with
 | 0,h=>exact pC h (nK w db o u) (hd.out1 (by decide))
 | 1,⟨mb,bm,e,hm⟩=>exact⟨mb,bm,e,lE1 hd hm o u⟩
 | 2,⟨tb,e,ht,hl⟩=>exact⟨tb,e,qD0 hd ht o u,hl⟩
 | 3,⟨tb,e,ht,hl⟩=>exact⟨tb,e,qD0 hd ht o u,hl⟩
 | 4,⟨pb,e,hp⟩=>exact⟨pb,e,lM hd hp o u⟩
 | 5,⟨pb,e,hp⟩=>exact⟨pb,e,lM hd hp o u⟩
 | 6,⟨pb,e,hp⟩=>exact⟨pb,e,lM hd hp o u⟩
 | 7,⟨pb,e,hp⟩=>exact⟨pb,e,lM hd hp o u⟩
 | 8,⟨pb,e,hp⟩=>exact⟨pb,e,lM hd hp o u⟩
 | 9,⟨pb,e,hp⟩=>exact⟨pb,e,lM hd hp o u⟩
 | 10,⟨pb,e,hp⟩=>exact⟨pb,e,lM hd hp o u⟩
 | _+11,_=>trivial
structure DSt (lo:Nat) (p:List cY) (m:Mx) (es:List En) (ps:List Nat) (db fb:Nat) (fv:Value) (w:World):Prop where
 blk:∃cs,vL0 w db cs
 fl:TB w fb #[fv,.bool false] 108
 at_:∀i∈ps,∃v,w.cell? ⟨db,i,none⟩=some v/\gT0 lo p m es w i v
theorem DSt.grows {ps:List Nat} {fb:Nat} {fv:Value} (h:DSt lo p m es ps db fb fv w) (hg:aB w w'):DSt lo p m es ps db fb fv w' :=
 ⟨let ⟨cs,hb⟩:=h.blk;⟨cs,hb.tb.gr hg,hb.sz,hb.c0⟩,h.fl.gr hg,λi hi=>let ⟨v,h1,h2⟩:=h.at_ i hi;⟨v,hg.cell h1,h2.grows hg⟩⟩
theorem DSt.set {ps:List Nat} {fb:Nat} {fv:Value} (h:DSt lo p m es ps db fb fv w) (hi:i<11) (hv:gT0 lo p m es w i v) (h0:i=0->∃a n c,v=.slice a n c):DSt lo p m es (i::ps) db fb fv (w.setCell ⟨db,i,none⟩ v):=by
 obtain⟨cs,hb⟩:=h.blk
 have dn:vL0 (w.setCell ⟨db,i,none⟩ v) db (cs.setIfInBounds i v):=⟨hb.tb.set i v,by rw[Array.size_setIfInBounds];exact hb.sz,by
  by_cases e:i=0
  ·obtain⟨a,n,c,rfl⟩:=h0 e
   subst e;exact⟨a,n,c,by rw[Aj];simp[hb.sz]⟩
  ·obtain⟨a,n,c,hc⟩:=hb.c0
   exact⟨a,n,c,by rw[Aq e];exact hc⟩⟩
 refine⟨⟨_,dn⟩,h.fl.keep (aQ w db i v) hb.tb.rt (by decide),λj hj=>?_⟩;by_cases e:j=i
 ·subst e
  exact⟨v,dn.tb.cell (by rw[Aj];simp[hb.sz,hi]),hv.set hb j v⟩
 ·have nr:j∈ps:=by
   rcases List.mem_cons.1 hj with q|q
   ·exact absurd q e
   ·exact q
  obtain⟨u,h1,h2⟩:=h.at_ j nr;exact⟨u,(Ab _ _ _ _ (λe2=>e (by injection e2 with _ e3 _;exact e3.symm))).trans h1,h2.set hb i v⟩
theorem DSt.dict {ps:List Nat} {fb:Nat} {fv:Value} (h:DSt lo p m es ps db fb fv w) (hp:∀i,i<11->i∈ps):fA w db p m es where
 p:=h.at_ 0 (hp 0 (by decide))
 m:=by obtain⟨v,h1,mb,bm,rfl,h2⟩:=h.at_ 1 (hp 1 (by decide));exact⟨mb,bm,h1,h2⟩
 r:=by obtain⟨v,h1,tb,rfl,h2,_⟩:=h.at_ 2 (hp 2 (by decide));exact⟨tb,h1,h2⟩
 s:=by obtain⟨v,h1,tb,rfl,h2,_⟩:=h.at_ 3 (hp 3 (by decide));exact⟨tb,h1,h2⟩
 f:=by obtain⟨v,h1,pb,rfl,h2⟩:=h.at_ 4 (hp 4 (by decide));exact⟨pb,h1,h2⟩
 i:=by obtain⟨v,h1,pb,rfl,h2⟩:=h.at_ 5 (hp 5 (by decide));exact⟨pb,h1,h2⟩
 l:=by obtain⟨v,h1,pb,rfl,h2⟩:=h.at_ 6 (hp 6 (by decide));exact⟨pb,h1,h2⟩
 t:=by obtain⟨v,h1,pb,rfl,h2⟩:=h.at_ 7 (hp 7 (by decide));exact⟨pb,h1,h2⟩
 c:=by obtain⟨v,h1,pb,rfl,h2⟩:=h.at_ 8 (hp 8 (by decide));exact⟨pb,h1,h2⟩
 o:=by obtain⟨v,h1,pb,rfl,h2⟩:=h.at_ 9 (hp 9 (by decide));exact⟨pb,h1,h2⟩
 a:=by obtain⟨v,h1,pb,rfl,h2⟩:=h.at_ 10 (hp 10 (by decide));exact⟨pb,h1,h2⟩
def jK0 (w:World) (db lo:Nat):Prop:=(∀tb,w.cell? ⟨db,2,none⟩=some (.pointer (some ⟨tb,0,none⟩))->lo+2<=tb)/\(∀tb,w.cell? ⟨db,3,none⟩=some (.pointer (some ⟨tb,0,none⟩))->lo+2<=tb)
theorem DSt.low {ps:List Nat} {fb:Nat} {fv:Value} (h:DSt lo p m es ps db fb fv w) (h2:2∈ps) (h3:3∈ps):jK0 w db lo:=by
 refine⟨λtb ht=>?_,λtb ht=>?_⟩
 ·obtain⟨v,h1,tb',rfl,_,hl⟩:=h.at_ 2 h2
  rw[h1]at ht;injection ht with ht
  injection ht with ht
  injection ht with ht
  injection ht with ht
  omega
 ·obtain⟨v,h1,tb',rfl,_,hl⟩:=h.at_ 3 h3
  rw[h1]at ht;injection ht with ht
  injection ht with ht
  injection ht with ht
  injection ht with ht
  omega
theorem iT {b o:Nat} {cs:Array Value} {t:TypeId} {u:Value} (h:TB w b cs t) (hc:cs[o]?=some u):aB w (w.setCell ⟨b,o,none⟩ u):=by
 refine⟨rfl,rfl,rfl,by simp,λk hk=>?_⟩;by_cases e:k=b
 ·subst e
  rw[show (w.setCell ⟨k,o,none⟩ u).heap[k]?=_ from h.set o u,show w.heap[k]?=_ from h]
  congr 2
  apply Array.ext_getElem?
  intro j;by_cases e2:o=j
  ·subst e2
   rw[hc,Aj];simp[(Array.getElem?_eq_some_iff.1 hc).1]
  ·rw[Aq e2]
 ·exact Below.heap_setCell w ⟨b,o,none⟩ u k e
end
section
open Go Go.RowKit Go.Shelf
attribute [local go_sem] aO aM
theorem aS0 (Q:List bD) (k:Nat) (q:bD) (a:Option Addr) (c fb:Nat) (w:World) (hl:Q.length<=1000000) (ac:aG w a 2 (Q.map kZ)) (jx:iU w Q) (hq:Q[k]?=some q) (ak:∀j p,j<k->Q[j]?=some p->p.name≠q.name)
  (hf:TB w fb #[.slice a Q.length c,.bool false] 108) :
  Calls Tryz.prog 57 #[.pointer (some ⟨fb,0,none⟩),.string q.name] w λe w'=>∃v,e=.returned v/\aU w' w.heap.size 5 1 aV v q.data/\aB w w':=by
 have CF:=Aa (rQ0 Q k q a c w hl ac jx hq ak);have f0:=hf.cell (o:=0) rfl;generalize Q.length=QL at CF hf f0;clear ac jx hq ak hl;go_enter Tryz.func57,Tryz.ntmps57
 go_wp2_with fail
 refine CF.out.mono ?_;rintro e w1 ⟨v,rfl,hv,ai⟩;have T1:=hf.gr ai;have b1:=T1.cell (o:=1) rfl;have z1:=T1.froz 1;clear CF f0;go_wp2_with fail
 go_ret;exact⟨v,rfl,hv.grows (iT T1 rfl),ai.tr (iT T1 rfl)⟩
theorem kB0 (Q:List bD) (k:Nat) (q:bD) (l:List Nat) (hd:q.data=packE l) (hp:l.length<=1048576/\∀n∈l,n<18446744073709551616) (a:Option Addr) (c fb:Nat) (w:World) (hl:Q.length<=1000000) (ac:aG w a 2 (Q.map kZ)) (jx:iU w Q) (hq:Q[k]?=some q) (ak:∀j p,j<k->Q[j]?=some p->p.name≠q.name)
  (hf:TB w fb #[.slice a Q.length c,.bool false] 108) :
  Calls Tryz.prog 60 #[.pointer (some ⟨fb,0,none⟩),.string q.name] w λe w'=>∃pb,e=.returned (.pointer (some ⟨pb,0,none⟩))/\lJ w' pb l/\aB w w':=by
 have CD:=Aa (aS0 Q k q a c fb w hl ac jx hq ak hf);rw[hd]at CD;have HHP:=Aa hp;generalize Q.length=QL at CD hf;generalize q.name=nm at CD ⊢;clear ac jx hq ak hl hd hp;go_enter Tryz.func60,Tryz.ntmps60
 go_wp2_with fail
 refine CD.out.mono ?_;rintro e w1 ⟨v,rfl,hv,ai⟩;obtain⟨a1,c1,rfl,zn,_,cw⟩:=hv.at_ bI.len;have jl:=cF hv;have T1:=hf.gr ai;have CE:=Aa (qW0 l a1 c1 w1 HHP.out.1 HHP.out.2 zn jl cw);clear CD hv cw jl zn HHP;generalize (packE l).length=PL at CE ⊢;go_wp2_with fail
 refine CE.out.mono ?_;rintro e w2 ⟨pb,rfl,hpk,ae⟩;have T2:=T1.gr ae;have b1:=T2.cell (o:=1) rfl;have z1:=T2.froz 1;have hs:=iT (o:=1) (u:=.bool false) T2 rfl;clear CE;go_wp2_with fail
 go_ret;exact⟨pb,rfl,hpk.grows hs,(ai.tr ae).tr hs⟩
theorem wI0 (Q:List bD) (k:Nat) (q:bD) (L:List (List UInt8)) (hd:q.data=loudE L) (hp:gP L=0) (a:Option Addr) (c fb:Nat) (w:World) (hl:Q.length<=1000000) (ac:aG w a 2 (Q.map kZ)) (jx:iU w Q) (hq:Q[k]?=some q) (ak:∀j p,j<k->Q[j]?=some p->p.name≠q.name)
  (hf:TB w fb #[.slice a Q.length c,.bool false] 108) :
  Calls Tryz.prog 59 #[.pointer (some ⟨fb,0,none⟩),.string q.name] w λe w'=>∃tb,e=.returned (.pointer (some ⟨tb,0,none⟩))/\eP w' tb L/\w.heap.size+2<=tb/\aB w w':=by
 have CD:=Aa (aS0 Q k q a c fb w hl ac jx hq ak hf);rw[hd]at CD;have HHP:=Aa hp;generalize Q.length=QL at CD hf;generalize q.name=nm at CD ⊢;clear ac jx hq ak hl hd hp;go_enter Tryz.func59,Tryz.ntmps59
 go_wp2_with fail
 refine CD.out.mono ?_;rintro e w1 ⟨v,rfl,hv,ai⟩;obtain⟨a1,c1,rfl,zn,_,cw⟩:=hv.at_ bI.len;have T1:=hf.gr ai;have CE:=Aa (eM1 L a1 c1 w1 HHP.out zn cw);clear CD hv cw zn HHP;generalize (loudE L).length=PL at CE ⊢;go_wp2_with fail
 refine CE.out.mono ?_;rintro e w2 ⟨tb,rfl,ye,je,ae⟩;have T2:=T1.gr ae;have b1:=T2.cell (o:=1) rfl;have z1:=T2.froz 1;have hs:=iT (o:=1) (u:=.bool false) T2 rfl;clear CE;go_wp2_with fail
 go_ret;exact⟨tb,rfl,ye.grows hs,Ap (Be ai.size 2) je,(ai.tr ae).tr hs⟩
end
section
open Go Go.RowKit
theorem lX1 {α:Type} {R:α->α->Prop} {l:List α} (h:l.Pairwise R) {i:Nat} {x y:α} (hx:l[i]?=some x) (hy:l[i+1]?=some y):R x y:=by
 obtain⟨h1,e1⟩:=List.getElem?_eq_some_iff.1 hx;obtain⟨h2,e2⟩:=List.getElem?_eq_some_iff.1 hy
 have:=List.pairwise_iff_getElem.1 h i (i+1) h1 h2 (by omega)
 rwa [e1,e2]at this
end
section
open Go Go.RowKit Go.Shelf
attribute [local go_sem] aO aM
theorem aZ1 (l:List Nat) (pb i:Nat) (w:World) (ac:lJ w pb l) (hi:l.length<=i):Calls Tryz.prog 128 #[.pointer (some ⟨pb,0,none⟩),.int .i64 i] w λe w'=>e=.returned (.tuple #[.int .u64 0,.bool false])/\w=w':=by
 have CL:=Aa (gS l pb w ac);have h0:¬(i:Int)<0:=by omega
 have h1:¬(i:Int)<l.length:=by omega
 have h2:(l.length:Int)<=i:=by omega
 clear ac;go_enter Tryz.func128,Tryz.ntmps128
 go_wp2_with fail
 refine CL.out.mono ?_;rintro e w1 ⟨rfl,rfl⟩;go_wp2
 go_ret2;exact⟨rfl,rfl⟩
theorem yT0 {nw:En->En->Bool} {l:List En} {n:Nat} (hn:0<n):(gO nw l n)[0]?=some 0:=by
 unfold gO;obtain⟨k,rfl⟩:∃k,n=k+1:=⟨n-1,by omega⟩;rw[List.range_succ_eq_map,List.filter_cons,if_pos (by simp[bU0])];rfl
theorem yE0 (p:List cY) (m:Mx) (es:List En) (db:Nat) (w:World) (ag:bT p m es) (ac:fA w db p m es) :
  Calls Tryz.prog 61 #[.pointer (some ⟨db,0,none⟩)] w λe w'=>e=.returned (.bool true)/\aB w w':=by
 have hn:=ag.len;obtain⟨tr,r1,r2⟩:=ac.r;obtain⟨ts,s1,s2⟩:=ac.s;obtain⟨pf,f1,f2⟩:=ac.f;obtain⟨pi,i1,i2⟩:=ac.i;obtain⟨pl,l1,l2⟩:=ac.l;obtain⟨pt,t1,t2⟩:=ac.t;obtain⟨pc,c1,c2⟩:=ac.c;obtain⟨po,o1,o2⟩:=ac.o;obtain⟨pa,a1,a2⟩:=ac.a;obtain⟨N,hN⟩:=exq es.length;obtain⟨R,hR⟩:=exq ((readL es).length);obtain⟨S,hS⟩:=exq ((bP es).length)
 have hRn:R<=N:=by
  rw[hR,hN]
  have:=bB0 (es.map λx=>x.r)
  rwa [Ad]at this
 have t5:(gO qS es es.length).length=R:=by rw[ag.first,iL,hR]
 have mw:(gO fF0 (gJ es) es.length).length=S:=by rw[qK0,iL,hS]
 have vh:=qM es;have hbR:(bls (readL es)).length=R:=by rw[cO,hR]
 have hbS:(bls (bP es)).length=S:=by rw[cO,hS]
 have CLG:∀(l:List Nat) (pb:Nat) (k:Nat),lJ w pb l->l.length=k->∀u,aB w u->Hid (Calls Tryz.prog 127 #[.pointer (some ⟨pb,0,none⟩)] u λe w'=>e=.returned (.int .i64 (k:Nat))/\u=w'):=λl pb k h hk u hu=>by
  have:=gS l pb u (h.grows hu)
  rw[hk]at this;exact this
 have LI:=CLG _ pi N i2 (by rw[Ad,hN]);have LL:=CLG _ pl N l2 (by rw[Ad,hN]);have LT:=CLG _ pt N t2 (by rw[Ad,hN]);have LC:=CLG _ pc N c2 (by rw[Ad,hN]);have LO:=CLG _ po N o2 (by rw[vh,hN]);have LF:=CLG _ pf R f2 t5;have LA:=CLG _ pa S a2 mw
 have TLR:∀u,aB w u->Hid (Calls Tryz.prog 98 #[.pointer (some ⟨tr,0,none⟩)] u λe w'=>e=.returned (.int .i64 (R:Nat))/\u=w'):=λu hu=>by
  have:=tG _ tr u (r2.grows hu)
  rw[hbR]at this;exact this
 have TLS:∀u,aB w u->Hid (Calls Tryz.prog 98 #[.pointer (some ⟨ts,0,none⟩)] u λe w'=>e=.returned (.int .i64 (S:Nat))/\u=w'):=λu hu=>by
  have:=tG _ ts u (s2.grows hu)
  rw[hbS]at this;exact this
 have HLT:Hid (∀n∈gO qS es es.length,n<N):=λn h=>by rw[hN];exact iQ h
 have HPW:Hid ((gO qS es es.length).Pairwise (· < ·)):=pS0;have HZ:Hid (0<N->(gO qS es es.length)[0]?=some 0):=λh=>yT0 (by omega);obtain⟨F,hF⟩:=exq (gO qS es es.length);rw[<-hF]at HLT HPW HZ f2 t5;rw[<-hN]at hn;have CGF:=λ(i x:Nat) (hx:F[i]?=some x) (u:World) (hu:aB w u)=>Aa (tR F pf i x u (f2.grows hu) (by omega) (λn h=>by have:=HLT.out n h;omega) hx);have CGO:=Aa (λ(u:World) (hu:aB w u) (hi:F.length<=0)=>aZ1 F pf 0 u (f2.grows hu) hi)
 have hG0:Hid (∀u,aB w u->∃b:Bool,(0<N->b=true)/\Calls Tryz.prog 128 #[.pointer (some ⟨pf,0,none⟩),.int .i64 0] u λe w'=>e=.returned (.tuple #[.int .u64 0,.bool b])/\aB u w'):=λu hu=>by
  by_cases h:0<N
  ·exact⟨true,λ_=>rfl,(CGF 0 0 (HZ.out h) u hu).out⟩
  ·exact⟨false,λh2=>absurd h2 h,((CGO.out u hu (by omega)).mono λe w' ⟨h1,h2⟩=>⟨h1,by rw[<-h2];exact aB.refl _⟩)⟩
 have z0:∀y:Ext aB w.drew,y.u.cell? ⟨db,6,none⟩=some (.pointer (some ⟨pl,0,none⟩)):=aF ((aB.drew w).cell l1);have z1:∀y:Ext aB w.drew,y.u.cell? ⟨db,7,none⟩=some (.pointer (some ⟨pt,0,none⟩)):=aF ((aB.drew w).cell t1);have z2:∀y:Ext aB w.drew,y.u.cell? ⟨db,8,none⟩=some (.pointer (some ⟨pc,0,none⟩)):=aF ((aB.drew w).cell c1);have z3:∀y:Ext aB w.drew,y.u.cell? ⟨db,9,none⟩=some (.pointer (some ⟨po,0,none⟩)):=aF ((aB.drew w).cell o1);have z4:∀y:Ext aB w.drew,y.u.cell? ⟨db,4,none⟩=some (.pointer (some ⟨pf,0,none⟩)):=aF ((aB.drew w).cell f1);have z5:∀y:Ext aB w.drew,y.u.cell? ⟨db,2,none⟩=some (.pointer (some ⟨tr,0,none⟩)):=aF ((aB.drew w).cell r1);have z6:∀y:Ext aB w.drew,y.u.cell? ⟨db,10,none⟩=some (.pointer (some ⟨pa,0,none⟩)):=aF ((aB.drew w).cell a1);have z7:∀y:Ext aB w.drew,y.u.cell? ⟨db,3,none⟩=some (.pointer (some ⟨ts,0,none⟩)):=aF ((aB.drew w).cell s1);have nl:¬(20000:Int)<N:=by omega
 have wN:IntKind.u64.wrap (N:Int)=N:=by simp[Ak,Al,Ah];omega
 have HFL:=Aa t5;clear ac ag r2 s2 f2 i2 l2 t2 c2 o2 a2 mw vh hbR hbS CLG hR hS hN hF CGO HZ t5 r1 s1 l1 t1 c1 o1 a1;go_enter Tryz.func61,Tryz.ntmps61
 go_wp2_with fail
 refine(LI w (aB.refl w)).out.mono ?_;rintro e w1 ⟨rfl,rfl⟩;go_wp2_with fail
 refine bH (bE 64 []) (by kernel_rfl) (λd _ _ _ _ h=>by cases d<;>exact h) ?_
 iterate 7 (refine aH rfl (λK hK=>?_);go_simp;refine hK _ ?_;clear hK K)
 refine aH rfl (λK hK=>?_);go_simp;apply Exists.intro
 refine⟨λx=>?_,hK _ ?_⟩
 ·go_at_call 127;exact cX (LL _ ((aB.drew w).tr x.h)).out
 clear hK K;iterate 8 (refine aH rfl (λK hK=>?_);go_simp;refine hK _ ?_;clear hK K)
 refine aH rfl (λK hK=>?_);go_simp;apply Exists.intro
 refine⟨λx=>?_,hK _ ?_⟩
 ·go_at_call 127;exact cX (LT _ ((aB.drew w).tr x.h)).out
 clear hK K;iterate 8 (refine aH rfl (λK hK=>?_);go_simp;refine hK _ ?_;clear hK K)
 refine aH rfl (λK hK=>?_);go_simp;apply Exists.intro
 refine⟨λx=>?_,hK _ ?_⟩
 ·go_at_call 127;exact cX (LC _ ((aB.drew w).tr x.h)).out
 clear hK K;iterate 8 (refine aH rfl (λK hK=>?_);go_simp;refine hK _ ?_;clear hK K)
 refine aH rfl (λK hK=>?_);go_simp;apply Exists.intro
 refine⟨λx=>?_,hK _ ?_⟩
 ·go_at_call 127;exact cX (LO _ ((aB.drew w).tr x.h)).out
 clear hK K;iterate 8 (refine aH rfl (λK hK=>?_);go_simp;refine hK _ ?_;clear hK K)
 refine aH rfl (λK hK=>?_);go_simp;apply Exists.intro
 refine⟨λx=>?_,hK _ ?_⟩
 ·go_at_call 127;exact cX (LF _ ((aB.drew w).tr x.h)).out
 clear hK K;iterate 4 (refine aH rfl (λK hK=>?_);go_simp;refine hK _ ?_;clear hK K)
 refine aH rfl (λK hK=>?_);go_simp;apply Exists.intro
 refine⟨λx=>?_,hK _ ?_⟩
 ·go_at_call 98;exact cX (TLR _ ((aB.drew w).tr x.h)).out
 clear hK K;iterate 7 (refine aH rfl (λK hK=>?_);go_simp;refine hK _ ?_;clear hK K)
 refine aH rfl (λK hK=>?_);go_simp;apply Exists.intro
 refine⟨λx=>?_,hK _ ?_⟩
 ·go_at_call 127;exact cX (LA _ ((aB.drew w).tr x.h)).out
 clear hK K;iterate 4 (refine aH rfl (λK hK=>?_);go_simp;refine hK _ ?_;clear hK K)
 refine aH rfl (λK hK=>?_);go_simp;apply Exists.intro
 refine⟨λx=>?_,hK _ ?_⟩
 ·go_at_call 98;exact cX (TLS _ ((aB.drew w).tr x.h)).out
 clear hK K;iterate 2 (refine aH rfl (λK hK=>?_);go_simp;refine hK _ ?_;clear hK K)
 refine bN ?_;clear z0 z1 z2 z3 z4 z5 z6 z7 LI LL LT LC LO LA TLR TLS;have f1d:=(aB.drew w).cell f1;obtain⟨b0,hb0,CG0⟩:=hG0.out w.drew (aB.drew w);clear hG0;go_wp2_with fail
 refine CG0.mono ?_;rintro e w2 ⟨rfl,ae⟩;have g2:=(aB.drew w).tr ae;have f1b:=g2.cell f1;have LF2:=LF w2 g2;clear CG0 LF f1d ae;by_cases h0:0<N
 ·have hb:=hb0 h0
  subst hb;have zb:(0:Int)<N:=by omega
  go_wp2_with fail
  refine LF2.out.mono ?_;rintro e w3 ⟨rfl,rfl⟩;clear LF2;go_wp2_with fail
  go_loopw [6,102] (λv i wr=>∃(k:Nat) (last:Int),k<=R/\i=.int .i64 k/\v=.int .i64 last/\Hid (∀x,F[k]?=some x->last<x)/\Hid (aB w wr)) (λ_ i _=>R-(intOf i).toNat)
  case atStart=>exact⟨0,-1,Am _,rfl,rfl,λx _=>by omega,g2⟩
  case round =>
   obtain⟨k,last,hk,rfl,rfl,hL,hg⟩:=hrel;by_cases af:k<R
   ·obtain⟨x,hx⟩:∃x,F[k]?=some x:=⟨_,Ac (by rw[HFL.out];exact af)⟩
    have hxN:=HLT.out x (Ae hx);have hlx:=hL.out x hx;have CG:=CGF k x hx wr hg.out;have f1r:=hg.out.cell f1;have cz:(k:Int)<R:=by omega
    have hxn:¬(N:Int)<=x:=by omega
    have ake:¬(x:Int)<=last:=by omega
    have wx:IntKind.i64.wrap (x:Int)=x:=by simp[Ak,Al,Ah];omega
    have NX:Hid (∀y,F[k+1]?=some y->(x:Int)<y):=λy hy=>by
     have:=lX1 HPW.out hx hy
     omega
    clear hx hL CGF;go_wp2_with fail
    refine CG.out.mono ?_;rintro e w4 ⟨rfl,cu⟩;have g4:=hg.out.tr cu;clear CG;go_wp2_with fail
    go_roundw
    case rel=>exact⟨k+1,x,af,by go_num,rfl,NX.out,g4⟩
    case measure=>simp[intOf];omega
   ·have cz:¬(k:Int)<R:=by omega
    go_wp2_with fail
    go_ret;exact⟨rfl,hg.out⟩
 ·have zb:¬(0:Int)<N:=by omega
  go_wp2_with fail
  refine LF2.out.mono ?_;rintro e w3 ⟨rfl,rfl⟩;clear LF2;go_wp2_with fail
  go_loopw [6,102] (λv i wr=>∃(k:Nat) (last:Int),k<=R/\i=.int .i64 k/\v=.int .i64 last/\Hid (∀x,F[k]?=some x->last<x)/\Hid (aB w wr)) (λ_ i _=>R-(intOf i).toNat)
  case atStart=>exact⟨0,-1,Am _,rfl,rfl,λx _=>by omega,g2⟩
  case round =>
   obtain⟨k,last,hk,rfl,rfl,hL,hg⟩:=hrel;by_cases af:k<R
   ·obtain⟨x,hx⟩:∃x,F[k]?=some x:=⟨_,Ac (by rw[HFL.out];exact af)⟩
    have hxN:=HLT.out x (Ae hx);exact absurd hxN (by omega)
   ·have cz:¬(k:Int)<R:=by omega
    go_wp2_with fail
    go_ret;exact⟨rfl,hg.out⟩
theorem dS1 (p:List cY) (m:Mx) (es:List En) (db:Nat) (w:World) (ac:fA w db p m es) :
  Calls Tryz.prog 63 #[.pointer (some ⟨db,0,none⟩)] w λe w'=>e=.returned (.func (.func 147) #[] #[.pointer (some ⟨w.heap.size,0,none⟩),.pointer (some ⟨w.heap.size+1,0,none⟩)]) /\
   w'=(w.alloc (.cells #[.int .i64 0] 3)).alloc (.cells #[.int .i64 (es.length:Nat)] 3):=by
 obtain⟨pi,i1,i2⟩:=ac.i;have h:=gS (es.map (xG (bP es))) pi w i2;rw[Ad]at h;have CL:=Aa h;generalize es.length=N at CL ⊢;clear ac i2 h;go_enter Tryz.func63,Tryz.ntmps63
 go_wp2_with fail
 refine CL.out.mono ?_;rintro e w1 ⟨rfl,rfl⟩;go_wp2_with fail
 refine(gJ0 0 (N:Int) w).mono ?_;rintro e w2 ⟨rfl,rfl⟩;go_wp2
 go_ret;exact⟨rfl,rfl⟩
end
section
open Go Go.RowKit Go.Shelf
def xH:List cY:=[⟨⟨#[66,79,83]⟩,0⟩,⟨⟨#[110,111,117,110]⟩,0⟩]
def lE0:List En:=[⟨⟨#[227,129,139]⟩,⟨#[232,154,138]⟩,1,1,30⟩,⟨⟨#[227,129,139]⟩,⟨#[231,167,145]⟩,1,1,20⟩,⟨⟨#[227,129,139,227,129,141]⟩,⟨#[230,159,191]⟩,1,1,40⟩]
def uP0:dC0:=⟨xH,10,[],lE0⟩
end
section
open Go Go.RowKit
def iH0:Mx:=newM 2 10
def kP0:List En:=sortS lE0
theorem qB0:dL0 uP0=some iH0:=by
 unfold dL0 uP0;rw[if_pos (by decide +kernel)];rfl
theorem iO0:pI xH (some iH0) lE0=0:=by decide +kernel
end
section
open Go Go.RowKit Go.Shelf
attribute [local go_sem] aO aM
theorem cD1:∀y∈lE0,tS y:=λy hy=>by
 rcases List.mem_cons.1 hy with rfl|hy
 ·exact⟨by decide,by decide,by decide,by decide,by decide⟩
 ·rcases List.mem_cons.1 hy with rfl|hy
  ·exact⟨by decide,by decide,by decide,by decide,by decide⟩
  ·rcases List.mem_cons.1 hy with rfl|hy
   ·exact⟨by decide,by decide,by decide,by decide,by decide⟩
   ·cases hy
theorem uQ0:lS0 uP0 where
 p:=by decide
 s:=λy hy=>by cases hy
 e:=cD1
 d:=(show (Lit.int .i64 10).wf=true by kernel_rfl)
 lp:=by decide
 ls:=by decide
 le:=by decide
theorem mD0 (p:List cY) (m:Mx) (es:List En):(imgP p m es).map (·.name)=[⟨#[112,111,115]⟩,⟨#[109,97,116,114,105,120]⟩,⟨#[114,101,97,100,105,110,103,115]⟩,⟨#[102,105,114,115,116]⟩,⟨#[115,117,114,102,97,99,101,115]⟩,⟨#[115,117,114,102,97,99,101]⟩,⟨#[108,101,102,116]⟩,⟨#[114,105,103,104,116]⟩,⟨#[99,111,115,116]⟩,⟨#[111,114,100,101,114]⟩,⟨#[97,116]⟩]:=rfl
theorem nI1 {p:List cY} {m:Mx} {es:List En} {j k:Nat} {a b:bD} (ha:(imgP p m es)[j]?=some a) (hb:(imgP p m es)[k]?=some b) (h:j<k):a.name≠b.name:=λe=>by
 have hn:((imgP p m es).map (·.name)).Nodup:=by rw[mD0];decide +kernel
 have h1:((imgP p m es).map (·.name))[j]?=some a.name:=by rw[Ag,ha];rfl
 have h2:((imgP p m es).map (·.name))[k]?=some a.name:=by rw[Ag,hb,e];rfl
 have:=sL hn h1 h2
 omega
theorem pA0 {P Q:List bD} (h:Q.map bare=P.map bare) {k:Nat} {p:bD} (hp:P[k]?=some p):∃q,Q[k]?=some q/\q.name=p.name/\q.data=p.data:=by
 have h1:(Q.map bare)[k]?=some (bare p):=by rw[h,Ag,hp];rfl
 rw[Ag]at h1
 cases hq:Q[k]? with
 | none=>rw[hq]at h1;cases h1
 | some q =>
  rw[hq]at h1;have e:bare q=bare p:=Option.some.inj h1;have e1:(bare q).name=(bare p).name:=by rw[e]
  have e2:(bare q).data=(bare p).data:=by rw[e]
  exact⟨q,rfl,e1,e2⟩
theorem DSt.slot {lo:Nat} {p:List cY} {m:Mx} {es:List En} {ps:List Nat} {db fb:Nat} {fv:Value} {w:World} (h:DSt lo p m es ps db fb fv w) {i:Nat} (hi:i<11):(∃u,w.cell? ⟨db,i,none⟩=some u)/\w.frozen? ⟨db,i,none⟩=false:=by
 obtain⟨cs,hb⟩:=h.blk;exact⟨⟨_,hb.tb.cell (Array.getElem?_eq_getElem (by rw[hb.sz];exact hi))⟩,hb.tb.froz i⟩
theorem jK0.grows {lo db:Nat} {p:List cY} {m:Mx} {es:List En} {w w':World} (h:jK0 w db lo) (hd:fA w db p m es) (hg:aB w w'):jK0 w' db lo:=by
 obtain⟨t1,r1,_⟩:=hd.r;obtain⟨t2,r2,_⟩:=hd.s;refine⟨λtb ht=>?_,λtb ht=>?_⟩
 ·rw[hg.cell r1]at ht
  exact h.1 tb (r1.trans ht)
 ·rw[hg.cell r2]at ht
  exact h.2 tb (r2.trans ht)
theorem hJ0 {p:List cY} {m:Mx} {es:List En} (ag:bT p m es) (xw:fF (imgP p m es)=0):qV p (some m) es=(0,file14 (imgP p m es)):=by
 have h:=aK0 ag.make (by rw[ag.idem];exact xw);rwa [ag.idem]at h
theorem oC1 {p:List cY} {m:Mx} {es:List En} (ag:bT p m es) (f:En->Int) (hf:∀x∈es,0<=f x/\f x<=30000):(es.map λx=>(f x).toNat).length<=1048576/\∀n∈es.map λx=>(f x).toNat,n<18446744073709551616:=by
 have:=ag.len
 refine⟨by rw[Ad];omega,λn hn=>?_⟩;obtain⟨y,hy,rfl⟩:=List.mem_map.1 hn
 have:=hf y hy
 omega
theorem xU0 (p:List cY) (m:Mx) (es:List En) (ba:Option Addr) (bc:Nat) (w:World) (he:Env w) (ag:bT p m es) (hm:m.OK) (hEn:∀x∈es,tS x) (xw:fF (imgP p m es)=0)
  (fo:(file14 (imgP p m es)).length<=bc) (hbm:bc<=maxLen) (jw:ba=none->bc=0) (ac:aG w ba 1 ((file14 (imgP p m es)).map aV)) :
  Calls Tryz.prog 28 #[.slice ba (file14 (imgP p m es)).length bc] w λe w'=>aB w w'/\∃db,e=.returned (.tuple #[.pointer (some ⟨db,0,none⟩),.int .i64 0])/\fA w' db p m es/\jK0 w' db w.heap.size/\w.heap.size<=db:=by
 have aj:=ag.len;have hv:=(gU ag.chk).2.2.1;have af1:=(fZ hv).1;have fy:=ag.num;have ou:(imgP p m es).length=11:=rfl;have CS:=Aa (mQ0 (imgP p m es) ba bc w he xw fo hbm jw ac)
 have HPART:Hid (∀(Q:List bD),Q.map bare=(imgP p m es).map bare->∀(k:Nat) (nm:ByteArray) (tg:List UInt8),(∃q,(imgP p m es)[k]?=some q/\q.name=nm/\q.data=tg)->∃q,Q[k]?=some q/\q.name=nm/\q.data=tg/\∀j p',j<k->Q[j]?=some p'->p'.name≠q.name):=λQ hb k nm tg ⟨q,hq,h1,h2⟩=>by
  obtain⟨q2,mm,e1,e2⟩:=pA0 hb hq;refine⟨q2,mm,e1.trans h1,e2.trans h2,λj p' hj hp'=>?_⟩;obtain⟨p2,hp2,e3,_⟩:=pA0 (P:=Q) (Q:=imgP p m es) hb.symm hp';rw[<-e3,e1];exact nI1 hp2 hq hj
 have HQL:Hid (∀(Q:List bD),Q.map bare=(imgP p m es).map bare->Q.length=11):=λQ hb=>by
  have:=congrArg Bs hb
  rw[Ad,Ad,ou]at this;exact this
 have HP0:Hid (∃q,(imgP p m es)[0]?=some q/\q.name=⟨#[112,111,115]⟩/\q.data=posE p):=⟨_,rfl,rfl,rfl⟩;have HP1:Hid (∃q,(imgP p m es)[1]?=some q/\q.name=⟨#[109,97,116,114,105,120]⟩/\q.data=m.enc):=⟨_,rfl,rfl,rfl⟩;have HP2:Hid (∃q,(imgP p m es)[2]?=some q/\q.name=⟨#[114,101,97,100,105,110,103,115]⟩/\q.data=loudE (bls (readL es))):=⟨_,rfl,rfl,rfl⟩;have HP3:Hid (∃q,(imgP p m es)[3]?=some q/\q.name=⟨#[102,105,114,115,116]⟩/\q.data=packE (gO qS es es.length)):=⟨_,rfl,rfl,rfl⟩;have HP4:Hid (∃q,(imgP p m es)[4]?=some q/\q.name=⟨#[115,117,114,102,97,99,101,115]⟩/\q.data=loudE (bls (bP es))):=⟨_,rfl,rfl,rfl⟩;have HP5:Hid (∃q,(imgP p m es)[5]?=some q/\q.name=⟨#[115,117,114,102,97,99,101]⟩/\q.data=packE (es.map (xG (bP es)))):=⟨_,rfl,rfl,rfl⟩;have HP6:Hid (∃q,(imgP p m es)[6]?=some q/\q.name=⟨#[108,101,102,116]⟩/\q.data=packE (es.map λx=>x.l.toNat)):=⟨_,rfl,rfl,rfl⟩;have HP7:Hid (∃q,(imgP p m es)[7]?=some q/\q.name=⟨#[114,105,103,104,116]⟩/\q.data=packE (es.map λx=>x.t.toNat)):=⟨_,rfl,rfl,rfl⟩;have HP8:Hid (∃q,(imgP p m es)[8]?=some q/\q.name=⟨#[99,111,115,116]⟩/\q.data=packE (es.map λx=>x.c.toNat)):=⟨_,rfl,rfl,rfl⟩;have HP9:Hid (∃q,(imgP p m es)[9]?=some q/\q.name=⟨#[111,114,100,101,114]⟩/\q.data=packE (aE0 es)):=⟨_,rfl,rfl,rfl⟩;have HP10:Hid (∃q,(imgP p m es)[10]?=some q/\q.name=⟨#[97,116]⟩/\q.data=packE (gO fF0 (gJ es) es.length)):=⟨_,rfl,rfl,rfl⟩
 have L3:Hid ((gO qS es es.length).length<=1048576/\∀n∈gO qS es es.length,n<18446744073709551616):=⟨by
  have h1:=(dQ ag.rd).2.1;rw[cO]at h1;rw[ag.first,iL]
  omega,λn h=>by have:=iQ h;omega⟩
 have L5:Hid ((es.map (xG (bP es))).length<=1048576/\∀n∈es.map (xG (bP es)),n<18446744073709551616):=⟨by rw[Ad];omega,λn h=>by
  obtain⟨y,hy,rfl⟩:=List.mem_map.1 h
  have:=pF (jN hy)
  have h1:=(dQ ag.sf).2.1;rw[cO]at h1;omega⟩
 have L6:=Aa (oC1 ag (λx=>x.l) (λx hx=>by have:=fy x hx;omega));have L7:=Aa (oC1 ag (λx=>x.t) (λx hx=>by have:=fy x hx;omega));have L8:=Aa (oC1 ag (λx=>x.c) (λx hx=>by have:=fy x hx;omega));have L9:Hid ((aE0 es).length<=1048576/\∀n∈aE0 es,n<18446744073709551616):=⟨by rw[qM];omega,λn h=>by have:=dZ0 h;omega⟩
 have L10:Hid ((gO fF0 (gJ es) es.length).length<=1048576/\∀n∈gO fF0 (gJ es) es.length,n<18446744073709551616):=⟨by
  have h1:=(dQ ag.sf).2.1;rw[cO]at h1;rw[qK0,iL];omega,λn h=>by have:=iQ h;omega⟩
 have KR:=Aa ag.rd;have KS:=Aa ag.sf;have HDM:Hid (mB1 m.enc=some m):=eS1.2 ⟨hm,rfl⟩;have HB:=Aa (hJ0 ag xw)
 have HZ:Hid (∀x∈es,x.r.size<=1099511627776/\x.s.size<=1099511627776):=λx hx=>by
  have h1:=ag.len_r x hx;have h2:=ag.len_s x hx;omega
 have HOK:=Aa ag;have HE:=Aa he;have HEN:=Aa hEn;have HV:=Aa hv;obtain⟨FB,hFB⟩:=exq (file14 (imgP p m es));rw[<-hFB]at CS HB ac fo ⊢;have HAT:=Aa ac
 have HFN:Hid (FB≠[]):=by
  show _≠_
  rw[hFB];unfold file14 dD;simp
 obtain⟨FL,hFL⟩:=exq FB.length;rw[<-hFL]at CS ⊢;have HFL:=Aa hFL;clear he ag hm hEn xw fo hbm jw ac hv fy ou hFB hFL;go_enter Tryz.func28,Tryz.ntmps28
 go_wp2_with fail
 refine CS.out.mono ?_;rintro e w3 ⟨aw,Q,qa,qc,rfl,px,kt,hqp⟩;have zm:=HQL.out Q px;have PF:=HPART.out Q px
 have CDAT:∀(k:Nat) (nm:ByteArray) (tg:List UInt8) (fb:Nat) (W:World),aB w3 W->TB W fb #[.slice qa 11 qc,.bool false] 108->(∃q,(imgP p m es)[k]?=some q/\q.name=nm/\q.data=tg) ->
   Hid (Calls Tryz.prog 57 #[.pointer (some ⟨fb,0,none⟩),.string nm] W λe w'=>∃v,e=.returned v/\aU w' W.heap.size 5 1 aV v tg/\aB W w'):=λk nm tg fb W hW hf hp=>by
  obtain⟨q,hq,e1,e2,ak⟩:=PF k nm tg hp;rw[<-zm]at hf;have h:=aS0 Q k q qa qc fb W (by omega) (kt.grows hW) (hqp.grows hW) hq ak hf;rw[e1,e2]at h;exact h
 have CNUM:∀(k:Nat) (nm:ByteArray) (l:List Nat) (fb:Nat) (W:World),aB w3 W->TB W fb #[.slice qa 11 qc,.bool false] 108->(∃q,(imgP p m es)[k]?=some q/\q.name=nm/\q.data=packE l)->(l.length<=1048576/\∀n∈l,n<18446744073709551616) ->
   Hid (Calls Tryz.prog 60 #[.pointer (some ⟨fb,0,none⟩),.string nm] W λe w'=>(∃pb,e=.returned (.pointer (some ⟨pb,0,none⟩))/\lJ w' pb l)/\aB W w'):=λk nm l fb W hW hf hp hl=>by
  obtain⟨q,hq,e1,e2,ak⟩:=PF k nm _ hp;rw[<-zm]at hf;have h:=kB0 Q k q l e2 hl qa qc fb W (by omega) (kt.grows hW) (hqp.grows hW) hq ak hf;rw[e1]at h;exact h.mono λe w' ⟨pb,h1,h2,h3⟩=>⟨⟨pb,h1,h2⟩,h3⟩
 have CTRI:∀(k:Nat) (nm:ByteArray) (L:List (List UInt8)) (fb:Nat) (W:World),aB w3 W->TB W fb #[.slice qa 11 qc,.bool false] 108->(∃q,(imgP p m es)[k]?=some q/\q.name=nm/\q.data=loudE L)->gP L=0 ->
   Hid (Calls Tryz.prog 59 #[.pointer (some ⟨fb,0,none⟩),.string nm] W λe w'=>(∃tb,e=.returned (.pointer (some ⟨tb,0,none⟩))/\eP w' tb L/\W.heap.size+2<=tb)/\aB W w'):=λk nm L fb W hW hf hp hl=>by
  obtain⟨q,hq,e1,e2,ak⟩:=PF k nm _ hp;rw[<-zm]at hf;have h:=wI0 Q k q L e2 hl qa qc fb W (by omega) (kt.grows hW) (hqp.grows hW) hq ak hf;rw[e1]at h;exact h.mono λe w' ⟨tb,h1,h2,h3,h4⟩=>⟨⟨tb,h1,h2,h3⟩,h4⟩
 have SZ:Hid (∀(k:Nat) (tg:List UInt8) (nm:ByteArray),(∃q,(imgP p m es)[k]?=some q/\q.name=nm/\q.data=tg)->tg.length<=1099511627776):=λk tg nm hp=>by
  obtain⟨q,hq,_,e2,_⟩:=PF k nm tg hp;rw[<-e2];exact hqp.data _ (Ae hq)
 rw[zm];obtain⟨W0,dh⟩:=exq ((w3.alloc (.cells #[.slice qa 11 qc,.bool false] 108)).alloc (.cells #[.slice none 0 0,.pointer none,.pointer none,.pointer none,.pointer none,.pointer none,.pointer none,.pointer none,.pointer none,.pointer none,.pointer none] 112));obtain⟨fb,hfb⟩:=exq w3.heap.size;obtain⟨db,hdb⟩:=exq (w3.heap.size+1);have g0:aB w3 W0:=by rw[dh];exact(aB.alloc _ _).al _
 have D0:DSt w.heap.size p m es [] db fb (.slice qa 11 qc) W0:=by
  refine⟨⟨#[.slice none 0 0,.pointer none,.pointer none,.pointer none,.pointer none,.pointer none,.pointer none,.pointer none,.pointer none,.pointer none,.pointer none],?_,rfl,⟨none,0,0,rfl⟩⟩,?_,λi hi=>by cases hi⟩
  ·rw[dh,hdb]
   have:=TB.alloc (w3.alloc (.cells #[.slice qa 11 qc,.bool false] 108)) #[.slice none 0 0,.pointer none,.pointer none,.pointer none,.pointer none,.pointer none,.pointer none,.pointer none,.pointer none,.pointer none,.pointer none] 112
   rw[Bg]at this;exact this
  ·rw[dh,hfb]
   exact(TB.alloc _ _ _).al _
 have hdf:¬db=fb:=by omega
 have hfd:¬fb=db:=by omega
 have j3:w3.heap.size<=db:=by omega
 have qj:=aw.size;clear CS px kt hqp PF zm HPART HQL;go_wp2_with fail
 rw[<-dh,<-hdb,<-hfb];clear dh hfb hdb;refine(CDAT 0 ⟨#[112,111,115]⟩ _ fb W0 g0 D0.fl HP0.out).out.mono ?_;rintro e x1 ⟨v1,rfl,ij,adm⟩;have gx1:=g0.tr adm;have Dx1:=D0.grows adm;obtain⟨a1,c1,rfl,zn,_,cw⟩:=ij.at_ bI.len;have jl:=cF ij;have CP:=Aa (vC0 p a1 c1 x1 HV.out (SZ.out 0 _ _ HP0.out) zn jl cw);generalize (posE p).length=PL at CP ⊢;clear ij cw jl zn adm;go_wp2_with fail
 refine(CP).out.mono ?_;rintro e x2 ⟨v2,rfl,gq,adn⟩;have gx2:=gx1.tr adn;have Dx2:=Dx1.grows adn;obtain⟨aP,cP,rfl,_,_,_⟩:=gq.at_ gI0.len;obtain⟨⟨u0,e0⟩,f0⟩:=Dx2.slot (i:=0) (by decide);have b1:=Dx2.fl.cell (o:=1) rfl;have z1:=Dx2.fl.froz 1;have Da0:=Dx2.set (i:=0) (by decide) (gq.base (Am _)) (λ_=>⟨_,_,_,rfl⟩);have o9:=gx2.set (p:=⟨db,0,none⟩) j3 (.slice aP p.length cP);have hs:=iT (o:=1) (u:=.bool false) Da0.fl rfl;have Db:=Da0.grows hs;have gb:=o9.tr hs;obtain⟨V1,hV1⟩:=exq (((x2.setCell ⟨db,0,none⟩ (.slice aP p.length cP)).setCell ⟨fb,1,none⟩ (.bool false)));rw[<-hV1]at Db gb;have DV1:=Db;have gV1:=gb;go_wp2_with fail
 rw[<-hV1];clear CP adn gq e0 f0 b1 z1 Da0 o9 hs Db gb hV1 D0 g0 Dx1 gx1 Dx2 gx2;refine(CDAT 1 ⟨#[109,97,116,114,105,120]⟩ _ fb V1 gV1 DV1.fl HP1.out).out.mono ?_;rintro e x3 ⟨v1,rfl,ij,ado⟩;have gx3:=gV1.tr ado;have Dx3:=DV1.grows ado;obtain⟨a1,c1,rfl,zn,_,cw⟩:=ij.at_ bI.len;have CM:=Aa (sK0 m.enc a1 c1 x3 (SZ.out 1 _ _ HP1.out) cw);rw[HDM.out]at CM;generalize m.enc.length=PL at CM ⊢;clear ij cw zn ado;go_wp2_with fail
 refine CM.out.mono ?_;rintro e x4 ⟨_,qu,adp⟩;obtain⟨mb,bm,rfl,hma,_,_⟩:=qu m rfl;have gx4:=gx3.tr adp;have Dx4:=Dx3.grows adp;obtain⟨⟨u1,e1⟩,f1⟩:=Dx4.slot (i:=1) (by decide);have b1:=Dx4.fl.cell (o:=1) rfl;have z1:=Dx4.fl.froz 1;have Da0:=Dx4.set (i:=1) (by decide) (⟨mb,bm,rfl,hma⟩) (λh=>by cases h);have o9:=gx4.set (p:=⟨db,1,none⟩) j3 (.pointer (some ⟨mb,0,none⟩));have hs:=iT (o:=1) (u:=.bool false) Da0.fl rfl;have Db:=Da0.grows hs;have gb:=o9.tr hs;obtain⟨V2,jq⟩:=exq (((x4.setCell ⟨db,1,none⟩ (.pointer (some ⟨mb,0,none⟩))).setCell ⟨fb,1,none⟩ (.bool false)));rw[<-jq]at Db gb;have DV2:=Db;have gV2:=gb;go_wp2_with fail
 rw[<-jq];clear CM adp qu hma e1 f1 b1 z1 Da0 o9 hs Db gb jq DV1 gV1 Dx3 gx3 Dx4 gx4;refine(CTRI 2 ⟨#[114,101,97,100,105,110,103,115]⟩ _ fb V2 gV2 DV2.fl HP2.out KR.out).out.mono ?_;rintro e x5 ⟨⟨tb,rfl,ye,je⟩,adq⟩;have gx5:=gV2.tr adq;have Dx5:=DV2.grows adq;have yf:w.heap.size+2<=tb:=by have:=gV2.size;omega
 go_wp2_with fail
 refine(CNUM 3 ⟨#[102,105,114,115,116]⟩ _ fb x5 gx5 Dx5.fl HP3.out L3.out).out.mono ?_;rintro e x6 ⟨⟨pb,rfl,ei⟩,acb⟩;have gx6:=gx5.tr acb;have Dx6:=Dx5.grows acb;have yh:=ye.grows acb;obtain⟨⟨u2,e2⟩,f2⟩:=Dx6.slot (i:=2) (by decide);obtain⟨⟨u4,e4⟩,f4⟩:=Dx6.slot (i:=4) (by decide);obtain⟨cs9,lw⟩:=Dx6.blk;have Da0:=Dx6.set (i:=2) (by decide) (⟨tb,rfl,yh,yf⟩) (λh=>by cases h);have o9:=gx6.set (p:=⟨db,2,none⟩) j3 (.pointer (some ⟨tb,0,none⟩));have Da1:=Da0.set (i:=4) (by decide) (⟨pb,rfl,lM lw ei _ _⟩) (λh=>by cases h);have ry:=o9.set (p:=⟨db,4,none⟩) j3 (.pointer (some ⟨pb,0,none⟩));obtain⟨V3,ww⟩:=exq (((x6.setCell ⟨db,2,none⟩ (.pointer (some ⟨tb,0,none⟩))).setCell ⟨db,4,none⟩ (.pointer (some ⟨pb,0,none⟩))));rw[<-ww]at Da1 ry;have DV3:=Da1;have zi:=ry;go_wp2_with fail
 rw[<-ww];clear ye je yf adq acb yh ei lw e2 f2 e4 f4 Da0 o9 Da1 ry ww DV2 gV2 Dx5 gx5 Dx6 gx6;refine(CTRI 4 ⟨#[115,117,114,102,97,99,101,115]⟩ _ fb V3 zi DV3.fl HP4.out KS.out).out.mono ?_;rintro e x7 ⟨⟨tb,rfl,ye,je⟩,adr⟩;have gx7:=zi.tr adr;have Dx7:=DV3.grows adr;have yf:w.heap.size+2<=tb:=by have:=zi.size;omega
 go_wp2_with fail
 refine(CNUM 5 ⟨#[115,117,114,102,97,99,101]⟩ _ fb x7 gx7 Dx7.fl HP5.out L5.out).out.mono ?_;rintro e x8 ⟨⟨pb,rfl,ei⟩,acd⟩;have gx8:=gx7.tr acd;have Dx8:=Dx7.grows acd;have yh:=ye.grows acd;obtain⟨⟨u3,e3⟩,f3⟩:=Dx8.slot (i:=3) (by decide);obtain⟨⟨u5,e5⟩,f5⟩:=Dx8.slot (i:=5) (by decide);obtain⟨cs9,lw⟩:=Dx8.blk;have Da0:=Dx8.set (i:=3) (by decide) (⟨tb,rfl,yh,yf⟩) (λh=>by cases h);have o9:=gx8.set (p:=⟨db,3,none⟩) j3 (.pointer (some ⟨tb,0,none⟩));have Da1:=Da0.set (i:=5) (by decide) (⟨pb,rfl,lM lw ei _ _⟩) (λh=>by cases h);have ry:=o9.set (p:=⟨db,5,none⟩) j3 (.pointer (some ⟨pb,0,none⟩));obtain⟨V4,hV4⟩:=exq (((x8.setCell ⟨db,3,none⟩ (.pointer (some ⟨tb,0,none⟩))).setCell ⟨db,5,none⟩ (.pointer (some ⟨pb,0,none⟩))));rw[<-hV4]at Da1 ry;have DV4:=Da1;have gV4:=ry;go_wp2_with fail
 rw[<-hV4];clear ye je yf adr acd yh ei lw e3 f3 e5 f5 Da0 o9 Da1 ry hV4 DV3 zi Dx7 gx7 Dx8 gx8;refine(CNUM 6 ⟨#[108,101,102,116]⟩ _ fb V4 gV4 DV4.fl HP6.out L6.out).out.mono ?_;rintro e x9 ⟨⟨zo,rfl,kw⟩,ads⟩;have gx9:=gV4.tr ads;have Dx9:=DV4.grows ads;go_wp2_with fail
 refine(CNUM 7 ⟨#[114,105,103,104,116]⟩ _ fb x9 gx9 Dx9.fl HP7.out L7.out).out.mono ?_;rintro e x10 ⟨⟨pb1,rfl,ky⟩,rz⟩;have adt:=gx9.tr rz;have Dx10:=Dx9.grows rz;replace kw:=kw.grows rz;go_wp2_with fail
 refine(CNUM 8 ⟨#[99,111,115,116]⟩ _ fb x10 adt Dx10.fl HP8.out L8.out).out.mono ?_;rintro e x11 ⟨⟨pb2,rfl,th⟩,pe⟩;have agf:=adt.tr pe;have Dx11:=Dx10.grows pe;replace kw:=kw.grows pe;replace ky:=ky.grows pe;obtain⟨⟨u6,e6⟩,f6⟩:=Dx11.slot (i:=6) (by decide);obtain⟨⟨u7,e7⟩,f7⟩:=Dx11.slot (i:=7) (by decide);obtain⟨⟨u8,e8⟩,f8⟩:=Dx11.slot (i:=8) (by decide);obtain⟨cs9,lw⟩:=Dx11.blk;have Da0:=Dx11.set (i:=6) (by decide) (⟨zo,rfl,kw⟩) (λh=>by cases h);have o9:=agf.set (p:=⟨db,6,none⟩) j3 (.pointer (some ⟨zo,0,none⟩));replace ky:=lM lw ky 6 (.pointer (some ⟨zo,0,none⟩));replace th:=lM lw th 6 (.pointer (some ⟨zo,0,none⟩));obtain⟨cs9,lw⟩:=Da0.blk;have Da1:=Da0.set (i:=7) (by decide) (⟨pb1,rfl,ky⟩) (λh=>by cases h);have ry:=o9.set (p:=⟨db,7,none⟩) j3 (.pointer (some ⟨pb1,0,none⟩));replace th:=lM lw th 7 (.pointer (some ⟨pb1,0,none⟩));obtain⟨cs9,lw⟩:=Da1.blk;have Da2:=Da1.set (i:=8) (by decide) (⟨pb2,rfl,th⟩) (λh=>by cases h);have ga2:=ry.set (p:=⟨db,8,none⟩) j3 (.pointer (some ⟨pb2,0,none⟩));obtain⟨V5,hV5⟩:=exq ((((x11.setCell ⟨db,6,none⟩ (.pointer (some ⟨zo,0,none⟩))).setCell ⟨db,7,none⟩ (.pointer (some ⟨pb1,0,none⟩))).setCell ⟨db,8,none⟩ (.pointer (some ⟨pb2,0,none⟩))));rw[<-hV5]at Da2 ga2;have DV5:=Da2;have gV5:=ga2;go_wp2_with fail
 rw[<-hV5];clear kw ky th ads rz pe e6 f6 e7 f7 e8 f8 Da0 o9 Da1 ry Da2 ga2 hV5 DV4 gV4 Dx9 gx9 Dx10 adt Dx11 agf;refine(CNUM 9 ⟨#[111,114,100,101,114]⟩ _ fb V5 gV5 DV5.fl HP9.out L9.out).out.mono ?_;rintro e x12 ⟨⟨zo,rfl,kw⟩,yj⟩;have adu:=gV5.tr yj;have Dx12:=DV5.grows yj;go_wp2_with fail
 refine(CNUM 10 ⟨#[97,116]⟩ _ fb x12 adu Dx12.fl HP10.out L10.out).out.mono ?_;rintro e x13 ⟨⟨pb1,rfl,ky⟩,r8⟩;have agh:=adu.tr r8;have Dx13:=Dx12.grows r8;replace kw:=kw.grows r8;obtain⟨⟨u9,e9⟩,f9⟩:=Dx13.slot (i:=9) (by decide);obtain⟨⟨u10,e10⟩,f10⟩:=Dx13.slot (i:=10) (by decide);obtain⟨cs9,lw⟩:=Dx13.blk;have Da0:=Dx13.set (i:=9) (by decide) (⟨zo,rfl,kw⟩) (λh=>by cases h);have o9:=agh.set (p:=⟨db,9,none⟩) j3 (.pointer (some ⟨zo,0,none⟩));replace ky:=lM lw ky 9 (.pointer (some ⟨zo,0,none⟩));obtain⟨cs9,lw⟩:=Da0.blk;have Da1:=Da0.set (i:=10) (by decide) (⟨pb1,rfl,ky⟩) (λh=>by cases h);have ry:=o9.set (p:=⟨db,10,none⟩) j3 (.pointer (some ⟨pb1,0,none⟩));obtain⟨V6,hV6⟩:=exq (((x13.setCell ⟨db,9,none⟩ (.pointer (some ⟨zo,0,none⟩))).setCell ⟨db,10,none⟩ (.pointer (some ⟨pb1,0,none⟩))));rw[<-hV6]at Da1 ry;have DV6:=Da1;have gV6:=ry;have b1:=Dx13.fl.cell (o:=1) rfl;go_wp2_with fail
 rw[<-hV6];clear b1;clear kw ky yj r8 e9 f9 e10 f10 Da0 o9 Da1 ry hV6 DV5 gV5 Dx12 adu Dx13 agh;have HD:=Aa (DV6.dict (by intro i hi;simp;omega));have HL:=Aa (DV6.low (by simp) (by simp));clear DV6 CDAT CNUM CTRI SZ KR KS HDM L3 L5 L6 L7 L8 L9 L10 HP0 HP1 HP2 HP3 HP4 HP5 HP6 HP7 HP8 HP9 HP10;have gW6:=aw.tr gV6;refine(yE0 p m es db V6 HOK.out HD.out).mono ?_;rintro e y1 ⟨rfl,lj⟩;have gy1:=gW6.tr lj;have HD1:=Aa (HD.out.grows lj);obtain⟨vP,p1,p2⟩:=HD1.out.p;obtain⟨aP,cP,rfl,_,_,abn⟩:=p2.at_ gI0.len;obtain⟨mb,bm,m1,m2⟩:=HD1.out.m;have HPA:=Aa abn;have HMA:=Aa m2
 have oh:(List.range' 0 (es.length-0)).map (λj=>es.getD j enZero)=es:=by
  rw[<-zC es (Ao _)];unfold nY0;rw[As,Bd]
 have CI:∀(u:World) (b1 b2:Nat),aB y1 u->u.cell? ⟨b1,0,none⟩=some (.int .i64 (0:Nat))->u.cell? ⟨b2,0,none⟩=some (.int .i64 (es.length:Nat)) ->
   Hid (Calls Tryz.prog 62 #[.pointer (some ⟨db,0,none⟩),.func (.func 147) #[] #[.pointer (some ⟨b1,0,none⟩),.pointer (some ⟨b2,0,none⟩)]] u λe w'=>∃v,e=.returned v/\aU w' u.heap.size 62 5 bF v es/\aB u w'):=λu b1 b2 hu h1 h2=>by
  have h:=aZ0 p m es db 0 es.length b1 b2 u HOK.out (HD1.out.grows hu) (Am _) (Ao _) h1 h2;rw[oh]at h;exact h
 have CA:Hid (Calls Tryz.prog 63 #[.pointer (some ⟨db,0,none⟩)] y1.drew λe w'=>e=.returned (.func (.func 147) #[] #[.pointer (some ⟨y1.drew.heap.size,0,none⟩),.pointer (some ⟨y1.drew.heap.size+1,0,none⟩)]) /\
   w'=(y1.drew.alloc (.cells #[.int .i64 (0:Nat)] 3)).alloc (.cells #[.int .i64 (es.length:Nat)] 3)):=dS1 p m es db y1.drew (HD1.out.grows (aB.drew y1))
 have z0:∀y:Ext aB y1.drew,y.u.cell? ⟨db,0,none⟩=some (.slice aP p.length cP):=aF ((aB.drew y1).cell p1);have z1:∀y:Ext aB y1.drew,y.u.cell? ⟨db,1,none⟩=some (.pointer (some ⟨mb,0,none⟩)):=aF ((aB.drew y1).cell m1)
 have CB:∀(a:Option Addr) (c:Nat) (u:World),aB y1 u->aG u a 5 (es.map bF) ->
   Hid (Calls Tryz.prog 53 #[.slice aP p.length cP,.pointer (some ⟨mb,0,none⟩),.slice a es.length c] u λe w'=>aB u w'/\∃v,e=.returned (.tuple #[v,.int .i64 0])/\aU w' u.heap.size 5 1 aV v FB):=λa c u hu ha=>by
  have h:=lF0 p mb bm m es aP a cP c u (HE.out.grows (gy1.tr hu)) (by omega) HEN.out HZ.out aj HV.out (HPA.out.grows hu) (HMA.out.grows hu) ha (HOK.out).chk;unfold cZ at h;rw[HB.out]at h;exact h
 have HGL:=Aa gy1;clear p1 p2 m1 m2 abn oh HB HPA HMA HEN HV HZ HE;go_wp2_with fail
 refine bH (bE 18 [10,11,12]) (by kernel_rfl) (λd _ _ _ _ h=>by cases d<;>exact h) ?_
 iterate 10 (refine aH rfl (λK hK=>?_);go_simp;refine hK _ ?_;clear hK K)
 clear z0 z1;refine bG rfl rfl (λK hK=>?_);go_simp;refine CA.out.mono ?_;rintro e y2 ⟨rfl,pq⟩;have ae:aB y1.drew y2:=by rw[pq];exact(aB.alloc _ _).al _
 refine⟨ae,hK _ _ ?_⟩;clear hK K CA;have c1:y2.cell? ⟨y1.drew.heap.size,0,none⟩=some (.int .i64 (0:Nat)):=oF (cs:=#[.int .i64 (0:Nat)]) (t:=3) (by rw[pq];exact aB.alloc _ _) rfl 0 _ rfl
 have c2:y2.cell? ⟨y1.drew.heap.size+1,0,none⟩=some (.int .i64 (es.length:Nat)):=by
  have:=oF (w:=y1.drew.alloc (.cells #[.int .i64 (0:Nat)] 3)) (w':=y2) (cs:=#[.int .i64 (es.length:Nat)]) (t:=3) (by rw[pq];exact aB.refl _) rfl 0 _ rfl
  rwa [Bg]at this
 have gy2:=(aB.drew y1).tr ae;have CI2:=CI y2 _ _ gy2 c1 c2;clear CI pq c1 c2;refine bG rfl rfl (λK hK=>?_);go_simp;refine(CI2.out).mono ?_;rintro e y3 ⟨v,rfl,hv,agi⟩;refine⟨agi,hK _ _ ?_⟩;clear hK K;have gy3:=gy2.tr agi;obtain⟨aE,cE,rfl,_,_,agj⟩:=hv.at_ dK0.len;have CB3:=CB aE cE y3 gy3 agj;clear CB CI2 hv agj;refine bG rfl rfl (λK hK=>?_);go_simp;refine(CB3.out).mono ?_;rintro e y4 ⟨cu,v4,rfl,hv4⟩;refine⟨cu,hK _ _ ?_⟩;clear hK K;iterate 5 (refine aH rfl (λK hK=>?_);go_simp;refine hK _ ?_;clear hK K)
 refine bN ?_;have gy4:=gy3.tr cu;have gw4:=HGL.out.tr gy4;have bz:(convert 67 9 v4).run Tryz.prog y4=.ok (.string (mkB FB)) y4:=yM hv4
 have hcb:(convert 67 9 (.slice ba FL bc)).run Tryz.prog y4=.ok (.string (mkB FB)) y4:=by
  rw[HFL.out];exact aF1 (c:=bc) HFN.out (HAT.out.grows gw4)
 clear CB3 hv4;go_wp2_with fail
 go_ret2;exact⟨gw4,db,rfl,HD1.out.grows gy4,HL.out.grows HD.out (lj.tr gy4),by omega⟩
end
end Go.Proofs.YtjhajgffmnkocaaGreatDoor
