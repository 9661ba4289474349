/- The texts SecS SplS FindS PkD NumL, one behind the other. -/
import Derived.Test.YtiopheoljccmpaaGreatDoorCq35
import Derived.Test.YtiopheoljccmpaaGreatDoorCq2
import Derived.Test.YtiopheoljccmpaaGreatDoorCq37
import Derived.Test.YtiopheoljccmpaaGreatDoorCq38
import Derived.Test.YtiopheoljccmpaaGreatDoorCq12
import Derived.Test.YtiopheoljccmpaaGreatDoorCq22
open Go.Lib renaming hid → Aa
open Go.World renaming cell?_setCell_other → Ab
open List renaming getElem?_eq_getElem → Ac,length_append → Ad,mem_of_getElem? → Ae,getD_eq_getElem?_getD → Af,getElem?_map → Al,length_singleton → Am,take_length → An,mem_singleton → Aq,length_cons → As,getElem?_cons_zero → At,getElem?_eq_none → Ax,replicate → Ay,flatMap_cons → Ba,length_nil → Bc,map_append → Bd,map_cons → Bf,sum_cons → Bg
open Go.IntKind renaming signed → Ag,wrap → Ah,bits → Ai
open Int renaming tdiv_eq_ediv_of_nonneg → Aj,natCast_add → Aw,natCast_mul → Be
open Nat renaming zero_le → Ak,le_refl → Ao,mul_one → Ar,le_trans → Av,lt_of_lt_of_le → Az,lt_or_ge → Bh
open UInt8 renaming ofNat → Ap
open Go.Addr renaming block → Au
open Option renaming map_some → Bb
set_option maxHeartbeats 8000000
namespace Go.Proofs.YtiopheoljccmpaaGreatDoor
set_option maxRecDepth 100000
section
open Go Go.RowKit Go.Shelf
attribute [local go_sem] aM aP
theorem eC1:∃i,Tryz.prog.info? 113=some i/\i.zero=some (.agg #[.string ⟨#[]⟩,.slice none 0 0])/\i.size=2/\i.bytes=40:=by
 have h:(Tryz.prog.info? 113).map (λi=>(i.zero,i.size,i.bytes))=some (some (.agg #[.string ⟨#[]⟩,.slice none 0 0]),2,40):=by kernel_rfl
 cases hi:Tryz.prog.info? 113 with
 | none=>rw[hi]at h;cases h
 | some i =>
  rw[hi]at h;simp only[Bb,Option.some.injEq,Prod.mk.injEq]at h;exact⟨i,rfl,h.1,h.2.1,h.2.2⟩
def aU1:bD:=⟨⟨#[]⟩,[],none,0⟩
theorem rN {P:List bD} (h:cZ P=0):P.length<=64/\gT P<=16777216/\∀p∈P,p.name.size<=16:=by
 unfold cZ at h;split at h
 ·cases h
 ·split at h
  ·cases h
  ·rename_i h1 h2
   refine⟨by omega,by omega,λp hp=>?_⟩;have h3:¬(!azS p.name)=true:=λe=>h2 (List.any_eq_true.2 ⟨p,hp,e⟩);have h4:azS p.name=true:=by simpa using h3
   unfold azS at h4;simp only[Bool.and_eq_true,decide_eq_true_eq]at h4;exact h4.1.2
theorem eI0 {q:bD}:∀ {P:List bD},q∈P->q.data.length<=gT P
 | [],h=>by cases h
 | x::P,h=>by
  unfold gT;rw[Bf,Bg];rcases List.mem_cons.1 h with rfl|h
  ·omega
  ·have:=eI0 h
   unfold gT at this;omega
theorem xH:∀ {P:List bD},(∀p∈P,p.name.size<=16)->(cP P).length<=P.length*36
 | [],_=>by simp[cP]
 | p::P,h=>by
  have h1:=xH (P:=P) λq hq=>h q (by simp[hq]);have h2:=mX p.name;have h3:=bK p.data.length;have h4:=h p (by simp);unfold cP at h1 ⊢;rw[Ba,Ad,Ad,As];omega
theorem dS0:∀P:List bD,(cY P).length=gT P
 | []=>rfl
 | p::P=>by
  have:=dS0 P
  unfold cY gT at *;rw[Ba,Ad,this,Bf,Bg]
theorem xD {P:List bD} (h:cZ P=0):(dD P).length<=16800000:=by
 obtain⟨h1,h2,h3⟩:=rN h;have h4:=xH h3;have h5:=dS0 P;have h6:=bK P.length;unfold dD;simp only[Ad,As,Bc];omega
def flN (z:Nat->Value) (P:List bD) (k j:Nat):Value:=if j%2=0/\j/2<k then .string (P.getD (j/2) aU1).name else z j
def fsN (z:Nat->Value) (P:List bD) (k j:Nat):Value:=if j<k then .int .i64 ((P.getD j aU1).data.length:Nat) else z j
def flD (z:Nat->Value) (P Q:List bD) (j:Nat):Value:=if j%2=0 then .string (P.getD (j/2) aU1).name else match Q[j/2]? with|some q => .slice q.a q.data.length q.c|none=>z j
theorem dP1 {z:Nat->Value} {P:List bD} {k:Nat} {p:bD} (hp:P[k]?=some p) (j:Nat):(if j=k*2 then Value.string p.name else flN z P k j)=flN z P (k+1) j:=by
 unfold flN;by_cases h:j=k*2
 ·subst h
  rw[if_pos rfl,if_pos ⟨by omega,by omega⟩,show k*2/2=k by omega,Af,hp]
  rfl
 ·rw[if_neg h]
  by_cases h2:j%2=0/\j/2<k
  ·rw[if_pos h2,if_pos ⟨h2.1,by omega⟩]
  ·rw[if_neg h2,if_neg (by omega)]
theorem eL1 {z:Nat->Value} {P:List bD} {k:Nat} {p:bD} (hp:P[k]?=some p) (j:Nat):(if j=k then Value.int .i64 (p.data.length:Nat) else fsN z P k j)=fsN z P (k+1) j:=by
 unfold fsN;by_cases h:j=k
 ·subst h
  rw[if_pos rfl,if_pos (by omega),Af,hp];rfl
 ·rw[if_neg h]
  by_cases h3:j<k
  ·rw[if_pos h3,if_pos (by omega)]
  ·rw[if_neg h3,if_neg (by omega)]
theorem jV1 {z:Nat->Value} {P:List bD} {k n:Nat} {p:bD} (hp:P[k]?=some p) (hk:k<n):fsN z P n k=.int .i64 (p.data.length:Nat):=by
 unfold fsN;rw[if_pos hk,Af,hp];rfl
theorem iB1 (z:Nat->Value) (P:List bD) (j:Nat) (hj:j<P.length*2):flN z P P.length j=flD z P [] j:=by
 unfold flN flD;by_cases h:j%2=0
 ·rw[if_pos ⟨h,by omega⟩,if_pos h]
 ·rw[if_neg (λe=>h e.1),if_neg h];simp
theorem bH1 {z:Nat->Value} {P Q:List bD} (q:bD) (j:Nat):(if j=Q.length*2+1 then Value.slice q.a q.data.length q.c else flD z P Q j)=flD z P (Q++[q]) j:=by
 unfold flD;by_cases h:j=Q.length*2+1
 ·subst h
  rw[if_pos rfl,if_neg (by omega),show (Q.length*2+1)/2=Q.length by omega,List.getElem?_append_right (Ao _),Nat.sub_self]
  rfl
 ·rw[if_neg h]
  by_cases h2:j%2=0
  ·rw[if_pos h2,if_pos h2]
  ·rw[if_neg h2,if_neg h2]
   rcases Nat.lt_trichotomy (j/2) Q.length with h3|h3|h3
   ·rw[List.getElem?_append_left h3]
   ·omega
   ·rw[Ax (by omega),Ax (by simp;omega)]
theorem wV {W:World} {base k g n c:Nat} {e:TypeId} {xs:List Value} (h:W.ownsRow base e k (.slice (some ⟨g,0,none⟩) n c) n xs):∃z,sM W g (n*k) z:=by
 rcases h.2 with ⟨h1,_⟩|⟨g',cap,ei,hv,hb,hh,hn,hc,hs,ht⟩
 ·cases h1
 ·have e1:=(Value.slice.inj hv).1
  obtain rfl:g=g':=congrArg Au (Option.some.inj e1);refine⟨λj=>ei.getD j undef,λj hj=>?_,λj=>by simp[World.frozen?,hh],(Array.getElem?_eq_some_iff.1 hh).1⟩;have od:j<ei.size:=by rw[hs];exact Az hj (Nat.mul_le_mul_right k hn)
  simp[World.cell?,hh,od]
structure gI0 (w:World) (B:Nat) (P Q:List bD):Prop where
 len:Q.length<=P.length
 bare:Q.map bare=(P.take Q.length).map bare
 at_:∀q∈Q,aF w q.a 1 (q.data.map aQ)
 none_:∀q∈Q,q.a=none->q.c=0
 far:∀q∈Q,∀r:Addr,q.a=some r->B<r.block
theorem gI0.grows {w w':World} {B:Nat} {P Q:List bD} (h:gI0 w B P Q) (hg:aB w w'):gI0 w' B P Q:=⟨h.len,h.bare,λq hq=>(h.at_ q hq).grows hg,h.none_,h.far⟩
theorem gI0.set {w:World} {B:Nat} {P Q:List bD} (h:gI0 w B P Q) {g i:Nat} (hg:g<=B) (v:Value):gI0 (w.setCell ⟨g,i,none⟩ v) B P Q :=
 ⟨h.len,h.bare,λq hq=>pK (h.at_ q hq) ((aB.refl w).grownBy_set g i v) (λr hr e=>by have:=h.far q hq r hr;have:=Option.some.inj e;omega),h.none_,h.far⟩
theorem iK1 {W:World} {lb:Nat} {P Q:List bD} {z:Nat->Value} (h:sM W lb (P.length*2) (flD z P Q)) (hl:Q.length=P.length) (hb:Q.map bare=P.map bare):aF W (some ⟨lb,0,none⟩) 2 (Q.map iL):=λ_=>⟨lb,0,rfl,λi row hi j u hj=>by
 rw[Al]at hi
 cases hq:Q[i]? with
 | none=>rw[hq]at hi;cases hi
 | some q =>
  rw[hq]at hi;obtain rfl:iL q=row:=by simpa using hi
  have hiQ:=(List.getElem?_eq_some_iff.1 hq).1;have od:j<2:=by have:=(List.getElem?_eq_some_iff.1 hj).1;simpa [iL] using this
  have hc:=h.cell (i*2+j) (by omega);rw[Nat.zero_add,hc]
  have hn:(P.getD i aU1).name=q.name:=by
   have h1:(Q.map bare)[i]?=some (bare q):=by rw[Al,hq];rfl
   rw[hb,Al]at h1
   cases hp:P[i]? with
   | none=>rw[hp]at h1;cases h1
   | some p =>
    rw[hp]at h1;have h2:=Option.some.inj h1;rw[Af,hp];have h3:(bare p).name=(bare q).name:=by rw[h2]
    exact h3
  match j,od with
  | 0,_ =>
   simp only[iL,At,Option.some.injEq]at hj;subst hj;unfold flD;rw[if_pos (by omega),show (i*2+0)/2=i by omega,hn]
  | 1,_ =>
   simp only[iL,List.getElem?_cons_succ,At,Option.some.injEq]at hj;subst hj;unfold flD;rw[if_neg (by omega),show (i*2+1)/2=i by omega,hq]⟩
theorem hD1 {w W:World} {v:Value} {t:TypeId} (hg:aB (w.alloc (.cells #[v] t)) W):sM W w.heap.size 1 (λ_=>v):=by
 obtain⟨h1,h2⟩:=cO hg
 have h0:∀j,j<1->(#[v]:Array Value)[j]?=some v:=λj hj=>by
  obtain rfl:j=0:=by omega
  rfl
 exact⟨λj hj=>h1 j _ (h0 j hj),h2,Az (by simp) hg.size⟩
def hM1 (P:List bD) (w:World) (e:Ending) (w':World):Prop :=
 aB w w'/\∃(Q:List bD) (a:Option Addr) (c:Nat),e=.returned (.tuple #[.slice a Q.length c,.bool true])/\Q.map bare=P.map bare/\aF w' a 2 (Q.map iL)/\gX w' Q
theorem qJ0 (P:List bD) (ba:Option Addr) (bc:Nat) (w:World) (m6:cZ P=0) (mm:(dD P).length<=bc) (_hbm:bc<=maxLen) (tp:ba=none->bc=0) (ah:aF w ba 1 ((dD P).map aQ)) :
  Calls Tryz.prog 69 #[.slice ba (dD P).length bc] w (hM1 P w):=by
 obtain⟨ky,na,aaj⟩:=rN m6;have ed:=xD m6;have HNM:=Aa aaj;have HSZ:Hid (∀p∈P,p.data.length<=16777216):=λp hp=>Av (eI0 hp) na;have HC0:=Aa (cL1 (P:=P) (by omega));have HNA:=Aa (λi p (h:P[i]?=some p)=>iM1 h (by have:=aaj p (Ae h);omega));have HSI:=Aa (λi p (h:P[i]?=some p)=>iE1 h (by have:=Av (eI0 (Ae h)) na;omega));have HDA:=Aa (λi p (h:P[i]?=some p)=>hS1 h);have HHZ:=Aa (qK0 P);have HHL:=Aa (λi=>dG1 (P:=P) (i:=i));have HDL:=Aa (λi=>cA1 (P:=P) (i:=i));have HDE:=Aa (yW0 P);have HDZ:=Aa (rX0 P);obtain⟨b,hb⟩:=exq (dD P);rw[<-hb]at HC0 HNA HSI HDA HHL HDL HDE ed mm ah ⊢;obtain⟨n,hn⟩:=exq P.length;rw[<-hn]at HC0 HHZ HDE HDZ ky;have HN:=Aa hn;have HAT:=Aa ah;have HNC:=Aa tp;clear ah hb aaj na m6 tp hn
 -- the boxes
 obtain⟨W1,dv⟩:=exq (((w.alloc (.cells #[.slice ba b.length bc] 24)).alloc (.cells #[.int .i64 4] 3)).alloc (.cells #[.bool true] 4));have aq:aB w W1:=by rw[dv];exact((aB.alloc _ _).al _).al _
 obtain⟨pb,ma⟩:=exq w.heap.size
 have hB1:sM W1 pb 1 (λ_ => .slice ba b.length bc):=by
  rw[dv,ma];exact hD1 ((aB.alloc _ _).al _)
 have hA1:sM W1 (pb+1) 1 (λ_ => .int .i64 4):=by
  rw[dv,ma];have h:=hD1 (w:=w.alloc (.cells #[.slice ba b.length bc] 24)) (v:=.int .i64 4) (t:=3) (W:=((w.alloc (.cells #[.slice ba b.length bc] 24)).alloc (.cells #[.int .i64 4] 3)).alloc (.cells #[.bool true] 4)) (aB.alloc _ _);rw[show (w.alloc (.cells #[.slice ba b.length bc] 24)).heap.size=w.heap.size+1 by simp]at h
  exact h
 have hO1:sM W1 (pb+1+1) 1 (λ_ => .bool true):=by
  rw[dv,ma];have h:=hD1 (w:=(w.alloc (.cells #[.slice ba b.length bc] 24)).alloc (.cells #[.int .i64 4] 3)) (v:=.bool true) (t:=4) (W:=((w.alloc (.cells #[.slice ba b.length bc] 24)).alloc (.cells #[.int .i64 4] 3)).alloc (.cells #[.bool true] 4)) (aB.refl _);rw[show ((w.alloc (.cells #[.slice ba b.length bc] 24)).alloc (.cells #[.int .i64 4] 3)).heap.size=w.heap.size+1+1 by simp]at h
  exact h
 have HG1:=Aa aq;have HPB:=Aa ma;have eg:=fH1;have cb:=hB1.cell 0 (by decide);have ca:=hA1.cell 0 (by decide);have co:=hO1.cell 0 (by decide);have CN:=Aa (pR0 b ba bc 4 n (putU n).length pb (pb+1) (pb+1+1) 64 W1 (by have:=HHL.out 0;have:=HHZ.out;omega) (by omega) (HAT.out.grows aq) HC0.out ky (by decide) cb ca co (hA1.froz 0));have ke:=λ(Y:World)=>bL1 n Y (by omega);obtain⟨iu,hiu,hzu,hsu,hbu⟩:=eC1;clear aq;go_enter Tryz.func69,Tryz.ntmps69
 go_wp2_with fail
 rw[<-dv,<-HPB.out];clear dv ma cb ca co;refine CN.out.mono ?_;rintro e w3 ⟨rfl,w2,an,rfl⟩;obtain⟨k0,jt⟩:=exq (4+(putU n).length);rw[<-jt]at HHZ ⊢;have hB2:=(hB1.grows an).other (b':=pb+1) (j':=0) (by omega) (.int .i64 (k0:Nat));have hO2:=(hO1.grows an).other (b':=pb+1) (j':=0) (by omega) (.int .i64 (k0:Nat));have hA2:=((hA1.grows an).set (k:=0) (by decide) (.int .i64 (k0:Nat))).congr (g:=λ_ => .int .i64 (k0:Nat)) (λj hj=>by rw[if_pos (by omega)]);have jd:=hO1.lt;have bu:aB w (w2.setCell ⟨pb+1,0,none⟩ (.int .i64 (k0:Nat))):=(aB.trans _ _ _ HG1.out an).set (by rw[HPB.out];simp) _;have aa6:pb+1+1<(w2.setCell ⟨pb+1,0,none⟩ (.int .i64 (k0:Nat))).heap.size:=by have:=an.size;simp;omega
 obtain⟨W3,pf⟩:=exq (w2.setCell ⟨pb+1,0,none⟩ (.int .i64 (k0:Nat)));rw[<-pf]at hB2 hO2 hA2 bu aa6 ⊢;clear pf hB1 hA1 hO1 an CN jt;obtain⟨pa,kj⟩:=exq (pb+1);obtain⟨po,hpo⟩:=exq (pb+1+1);rw[<-hpo]at hO2 aa6 ⊢;rw[<-kj]at hA2 ⊢;have uh:pb<pa:=by omega
 have ci:pa<po:=by omega
 have HPA:=Aa (And.intro kj hpo);clear kj hpo;go_wp2_with (at_make;refine wpList_make_full _ rfl _ _ 59 rfl W3.heap.size 113 iu (.agg #[.string ⟨#[]⟩,.slice none 0 0]) 2 Tryz.underlying59 hiu hzu hsu .i64 .i64 _ _ n rfl rfl rfl rfl (by rw[hbu];omega) (by unfold maxLen;omega) (Ao _) ?_;intro w4 bv yq)
 obtain⟨lb,yu⟩:=exq W3.heap.size;rw[<-yu]at bv ⊢;obtain⟨zl,hL4⟩:=wV bv;have cd:aB W3 w4:=(aB.refl W3).grown yq (λq hq=>by cases hq);have hmi:=eF0 (w:=w4) (n:=n) (by omega);obtain⟨W5,vp⟩:=exq (w4.alloc (.cells (madeCells #[.int .i64 0] (n*1)) 3));have bg:aB w4 W5:=by rw[vp];exact aB.alloc _ _
 rw[<-vp]at hmi;obtain⟨sb,wj⟩:=exq w4.heap.size;rw[<-wj]at hmi ⊢
 have agf:W5.ownsRow sb 3 1 (.slice (some ⟨sb,0,none⟩) n n) n ((Ay n 0).flatMap jP):=by
  have:=hmi
  unfold aO at this;rwa [List.length_replicate]at this
 obtain⟨zs,hS5⟩:=wV agf;rw[Ar]at hS5;have hL5:=hL4.grows bg;have abx:=aB.trans _ _ _ cd bg;have zm:=hB2.grows abx;have hO5:=hO2.grows abx;have hA5:=hA2.grows abx;have fh:=aB.trans _ _ _ bu abx;have akz:po<lb:=by omega
 have ak0:lb<sb:=by rw[wj];exact hL4.lt
 rw[Ar]at vp;try rw[<-vp]
 have HG5:=Aa fh;clear hmi agf bv yq hL4 cd bg abx hB2 hO2 hA2 bu fh yu wj vp hiu hzu hsu hbu aa6 jd;go_loopw [9] (λi wr=>∃(k:Nat),k<=n/\i=.int .i64 k/\sM wr pb 1 (λ_ => .slice ba b.length bc)/\sM wr pa 1 (λ_ => .int .i64 (hposP P k:Nat))/\sM wr po 1 (λ_ => .bool true)/\sM wr lb (n*2) (flN zl P k)/\sM wr sb n (fsN zs P k)/\aB w wr) (λi _=>n-(intOf i).toNat)
 case atStart=>exact⟨0,Ak _,rfl,zm,by rw[HHZ.out];exact hA5,hO5,hL5.congr (λj _=>by unfold flN;rw[if_neg (by omega)]),hS5.congr (λj _=>by unfold fsN;rw[if_neg (by omega)]),HG5.out⟩
 case round =>
  clear zm hO5 hA5 hL5 hS5;obtain⟨k,hk,rfl,hB,hA,hO,hL,hS,hg⟩:=hrel;by_cases af:k<n
  ·obtain⟨p,hp⟩:∃p,P[k]?=some p:=⟨_,Ac (by rw[<-HN.out];exact af)⟩
   have yv:=Ae hp;have hz1:=HNM.out p yv;have ju:=HSZ.out p yv;have di:(k:Int)<n:=by omega
   have cb:=hB.cell 0 (by decide);have ca:=hA.cell 0 (by decide);have co:=hO.cell 0 (by decide);have CT:=Aa (sL0 b (hposP P k) ba bc wr (HHL.out k) (by omega) mm HNC.out (HAT.out.grows hg));rw[HNA.out k p hp]at CT;unfold xF0 at CT;obtain⟨K1,hK1⟩:=exq (hposP P k+(rZ p.name).length);have HR:=Aa (HSI.out k p hp);have HSUC:=Aa (rJ0 hp);simp only[<-hK1]at CT;rw[<-hK1]at HR HSUC;have aiv:K1<=b.length:=by have:=HHL.out (k+1);have:=HSUC.out;omega
   obtain⟨kk,kp⟩:=exq (hposP P k);rw[<-kp]at CT ca;have HKK:=Aa kp;clear hK1 kp yv;go_wp2_with fail
   refine CT.out.mono ?_;rintro e w6 ⟨rfl,de⟩;have xv:=hB.grows de;have hA6:=hA.grows de;have hO6:=hO.grows de;have hL6:=hL.grows de;have hS6:=hS.grows de;have cl:=hL6.cell (k*2) (by omega);have fl:=hL6.froz (k*2);have hL7:=(hL6.set (k:=k*2) (by omega) (.string p.name)).congr (g:=λj=>if j=k*2 then Value.string p.name else flN zl P k j) (λj _=>rfl)
   have hA7:=hA6.other (b':=lb) (j':=k*2) (by omega) (.string p.name);have ca7:=hA7.cell 0 (by decide);have fa7:=hA7.froz 0;have hL8:=hL7.other (b':=pa) (j':=0) (by omega) (.int .i64 (K1:Nat));have hA8:=(hA7.set (k:=0) (by decide) (.int .i64 (K1:Nat))).congr (g:=λ_ => .int .i64 (K1:Nat)) (λj hj=>by rw[if_pos (by omega)]);have hB8:=(xv.other (b':=lb) (j':=k*2) (by omega) (.string p.name)).other (b':=pa) (j':=0) (by omega) (.int .i64 (K1:Nat));have hO8:=(hO6.other (b':=lb) (j':=k*2) (by omega) (.string p.name)).other (b':=pa) (j':=0) (by omega) (.int .i64 (K1:Nat));have hS8:=(hS6.other (b':=lb) (j':=k*2) (by omega) (.string p.name)).other (b':=pa) (j':=0) (by omega) (.int .i64 (K1:Nat));have ac9:w.heap.size<=pa:=by have:=HPA.out;have:=HPB.out;omega
   have eo:aB w ((w6.setCell ⟨lb,k*2,none⟩ (.string p.name)).setCell ⟨pa,0,none⟩ (.int .i64 (K1:Nat))):=((aB.trans _ _ _ hg de).set (by simp only;omega) _).set ac9 _;obtain⟨W8,hW8⟩:=exq ((w6.setCell ⟨lb,k*2,none⟩ (.string p.name)).setCell ⟨pa,0,none⟩ (.int .i64 (K1:Nat)));rw[<-hW8]at hL8 hA8 hB8 hO8 hS8 eo;clear hB hA hO hL hS hg cb ca co xv hA6 hO6 hL6 hS6 hL7 hA7 de;go_wp2_with fail
   rw[<-hW8];clear hW8 cl fl ca7 fa7;have cb8:=hB8.cell 0 (by decide);have ca8:=hA8.cell 0 (by decide);have co8:=hO8.cell 0 (by decide);obtain⟨SZ,hSZ⟩:=exq p.data.length;rw[<-hSZ]at HR HSUC ju;have HSZ2:=Aa hSZ;refine(pR0 b ba bc K1 SZ (putU SZ).length pb pa po 16777216 W8 aiv (by omega) (HAT.out.grows eo) HR.out ju (by decide) cb8 ca8 co8 (hA8.froz 0)).mono ?_;rintro e w10 ⟨rfl,w9,ft,rfl⟩;obtain⟨K2,qp⟩:=exq (K1+(putU SZ).length);rw[<-qp]at HSUC ⊢;clear qp hSZ cb8 ca8 co8;have hB9:=(hB8.grows ft).other (b':=pa) (j':=0) (by omega) (.int .i64 (K2:Nat));have hO9:=(hO8.grows ft).other (b':=pa) (j':=0) (by omega) (.int .i64 (K2:Nat));have hL9:=(hL8.grows ft).other (b':=pa) (j':=0) (by omega) (.int .i64 (K2:Nat));have hS9:=(hS8.grows ft).other (b':=pa) (j':=0) (by omega) (.int .i64 (K2:Nat));have hA9:=((hA8.grows ft).set (k:=0) (by decide) (.int .i64 (K2:Nat))).congr (g:=λ_ => .int .i64 (K2:Nat)) (λj hj=>by rw[if_pos (by omega)]);have et:aB w (w9.setCell ⟨pa,0,none⟩ (.int .i64 (K2:Nat))):=(aB.trans _ _ _ eo ft).set ac9 _;obtain⟨W10,agh⟩:=exq (w9.setCell ⟨pa,0,none⟩ (.int .i64 (K2:Nat)));rw[<-agh]at hB9 hO9 hL9 hS9 hA9 et ⊢;have cs:=hS9.cell k af;have fs:=hS9.froz k;have aiw:=(hS9.set af (.int .i64 (SZ:Nat))).congr (g:=fsN zs P (k+1)) (λj _=>by rw[HSZ2.out];exact eL1 hp j);have aix:=hB9.other (b':=sb) (j':=k) (by omega) (.int .i64 (SZ:Nat));have aiy:=hO9.other (b':=sb) (j':=k) (by omega) (.int .i64 (SZ:Nat));have aiz:=hA9.other (b':=sb) (j':=k) (by omega) (.int .i64 (SZ:Nat));have ai0:=(hL9.other (b':=sb) (j':=k) (by omega) (.int .i64 (SZ:Nat))).congr (g:=flN zl P (k+1)) (λj _=>dP1 hp j);have gm:=et.set (p:=⟨sb,k,none⟩) (by simp only;omega) (.int .i64 (SZ:Nat));clear hB8 hO8 hL8 hS8 hA8 eo ft hB9 hO9 hL9 hS9 hA9 et agh hp;go_wp2_with fail
   go_roundw
   case rel=>exact⟨k+1,af,by go_num,aix,by rw[HSUC.out];exact aiz,aiy,ai0,aiw,gm⟩
   case measure=>simp[intOf];omega
  ·obtain rfl:n=k:=by omega
   have hL0:sM wr lb (n*2) (flD zl P []):=hL.congr (λj hj=>by
    have h:=iB1 zl P j (by rw[<-HN.out];exact hj);rw[<-HN.out]at h;exact h)
   rw[<-HDZ.out]at hA;have HGR:=Aa hg;clear hL;go_wp2_with fail
   go_loopw [53] (λi wx=>∃Q:List bD,i=.int .i64 (Q.length:Nat)/\sM wx pb 1 (λ_ => .slice ba b.length bc)/\sM wx pa 1 (λ_ => .int .i64 (tW P Q.length:Nat))/\sM wx po 1 (λ_ => .bool true)/\sM wx lb (n*2) (flD zl P Q)/\sM wx sb n (fsN zs P n)/\gI0 wx sb P Q/\aB w wx) (λi _=>n-(intOf i).toNat)
   case atStart=>exact⟨[],rfl,hB,hA,hO,hL0,hS,⟨Ak _,rfl,λq hq=>by (cases hq),λq hq=>by (cases hq),λq hq=>by (cases hq)⟩,hg⟩
   case round =>
    clear hB hA hO hL0 hS hg;obtain⟨Q,rfl,hB,hA,hO,hL,hS,hQ,hg⟩:=hrel;have hQn:Q.length<=n:=by rw[HN.out];exact hQ.len
    obtain⟨k,hk⟩:=exq Q.length;have HKQ:=Aa hk;by_cases af:k<n
    ·obtain⟨p,hp⟩:∃p,P[k]?=some p:=⟨_,Ac (by rw[<-HN.out];exact af)⟩
     have ju:=HSZ.out p (Ae hp);have cs:=hS.cell k af;rw[jV1 hp af]at cs;obtain⟨D,hD⟩:=exq (tW P k);have HD:=Aa hD;have HDS:=Aa (cP0 hp);have HDATA:=Aa (HDA.out k p hp);have hDb:D+p.data.length<=b.length:=by rw[hD,<-cP0 hp];exact HDL.out (k+1)
     rw[<-hk,<-hD]at hA;rw[<-hD]at HDS HDATA;obtain⟨SZ,hSZ⟩:=exq p.data.length;rw[<-hSZ]at cs ju hDb HDS HDATA;have HSE:=Aa hSZ;have HP:=Aa hp;have di:(k:Int)<n:=by omega
     have cb:=hB.cell 0 (by decide);have ca:=hA.cell 0 (by decide);have co:=hO.cell 0 (by decide);have afp:IntKind.i64.wrap ((b.length:Int)-(D:Int))=((b.length-D:Nat):Int):=by simp[Ah,Ai,Ag];omega
     have zi:¬((b.length-D:Nat):Int)<SZ:=by omega
     have wa:IntKind.i64.wrap ((D:Int)+SZ)=((D+SZ:Nat):Int):=by simp[Ah,Ai,Ag];omega
     have h01:(0:Int)<=(D:Int)+SZ:=by omega
     have h02:(D:Int)+SZ<=bc:=by omega
     have tn:((D:Int)+SZ).toNat=D+SZ:=by omega
     have tk:D<=D+SZ:=by omega
     have tm:D+SZ-D=SZ:=by omega
     obtain⟨a',kr,jw,ac0⟩:=pF (c:=bc) (l:=D) (h:=D+SZ) (k:=1) (HAT.out.grows hg) HNC.out (by omega) (by omega) (by omega);rw[tm]at kr;rw[HDATA.out]at jw
     have ah9:(if bc=D then ba else Option.map (λx=>x.add D) ba)=a':=by
      unfold sliced at kr;by_cases x7:bc=D
      ·rw[if_pos x7]at kr ⊢;exact(Value.slice.inj kr).1
      ·rw[if_neg x7]at kr ⊢
       have:=(Value.slice.inj kr).1
       rw[<-this];congr 1
       funext x
       rw[Ar]
     have CC:=Aa (dR0 p.data a' (bc-D) wr (by omega) ac0 jw);rw[<-hSZ]at CC;rw[<-hk];clear hD hSZ hp kr jw ac0 hk;go_wp2_with fail
     refine CC.out.mono ?_;rintro e w6 ⟨v6,rfl,hv6,de⟩;obtain⟨qa,qc,rfl,py,mw⟩:=cB hv6
     have agi:∀r:Addr,qa=some r->sb<r.block:=λr hr=>by
      have h1:=hS.lt;rcases hv6.2 with ⟨e,_⟩|⟨g,cap,ei,e,hb9,_⟩
      ·rw[hr]at e;cases (Value.slice.inj e).1
      ·have e1:=(Value.slice.inj e).1
       rw[hr]at e1;cases e1
       simp only;omega
     have xv:=hB.grows de;have hA6:=hA.grows de;have hO6:=hO.grows de;have hL6:=hL.grows de;have hS6:=hS.grows de;have hQ6:=hQ.grows de;rw[<-HSE.out];have cl:=hL6.cell (k*2+1) (by omega);have fl:=hL6.froz (k*2+1);have ca6:=hA6.cell 0 (by decide);have hA7:=hA6.other (b':=lb) (j':=k*2+1) (by omega) (.slice qa SZ qc);have ca7:=hA7.cell 0 (by decide);have fa7:=hA7.froz 0;have hL7:=hL6.set (k:=k*2+1) (by omega) (.slice qa SZ qc);have ac9:w.heap.size<=pa:=by have:=HPA.out;have:=HPB.out;omega
     have hL8:=(hL7.other (b':=pa) (j':=0) (by omega) (.int .i64 ((D:Int)+SZ))).congr (g:=flD zl P (Q++[⟨p.name,p.data,qa,qc⟩])) (λj _=>by
      rw[HKQ.out,HSE.out];exact bH1 ⟨p.name,p.data,qa,qc⟩ j)
     have hA8:=(hA7.set (k:=0) (by decide) (.int .i64 ((D:Int)+SZ))).congr (g:=λ_ => .int .i64 ((D+SZ:Nat):Int)) (λj hj=>by rw[if_pos (by omega)];push_cast;rfl);have hB8:=(xv.other (b':=lb) (j':=k*2+1) (by omega) (.slice qa SZ qc)).other (b':=pa) (j':=0) (by omega) (.int .i64 ((D:Int)+SZ));have hO8:=(hO6.other (b':=lb) (j':=k*2+1) (by omega) (.slice qa SZ qc)).other (b':=pa) (j':=0) (by omega) (.int .i64 ((D:Int)+SZ));have hS8:=(hS6.other (b':=lb) (j':=k*2+1) (by omega) (.slice qa SZ qc)).other (b':=pa) (j':=0) (by omega) (.int .i64 ((D:Int)+SZ))
     have hQ8:gI0 ((w6.setCell ⟨lb,k*2+1,none⟩ (.slice qa SZ qc)).setCell ⟨pa,0,none⟩ (.int .i64 ((D:Int)+SZ))) sb P (Q++[⟨p.name,p.data,qa,qc⟩]):=by
      have h1:gI0 w6 sb P (Q++[⟨p.name,p.data,qa,qc⟩]):=by
       refine⟨by rw[Ad,Am,<-HKQ.out,<-HN.out];omega,?_,λq hq=>?_,λq hq=>?_,λq hq=>?_⟩
       ·rw[Ad,Am,List.take_add_one,<-HKQ.out,HP.out,Bd,Bd]
        have:=hQ6.bare
        rw[<-HKQ.out]at this;rw[this];rfl
       ·rcases List.mem_append.1 hq with h|h
        ·exact hQ6.at_ q h
        ·rw[Aq]at h;subst h;exact py
       ·rcases List.mem_append.1 hq with h|h
        ·exact hQ6.none_ q h
        ·rw[Aq]at h;subst h;exact mw
       ·rcases List.mem_append.1 hq with h|h
        ·exact hQ6.far q h
        ·rw[Aq]at h;subst h;exact agi
      exact(h1.set (by omega) _).set (by omega) _
     have eo:aB w ((w6.setCell ⟨lb,k*2+1,none⟩ (.slice qa SZ qc)).setCell ⟨pa,0,none⟩ (.int .i64 ((D:Int)+SZ))):=((aB.trans _ _ _ hg de).set (by simp only;omega) _).set ac9 _;have HLEN:Hid ((Q++[(⟨p.name,p.data,qa,qc⟩:bD)]).length=k+1):=by show _=_;rw[Ad,Am,<-HKQ.out]
     clear hB hA hO hL hS hQ hg cb ca co xv hA6 hO6 hL6 hS6 hQ6 hL7 hA7 de hv6 py mw agi CC;go_wp2_with fail
     go_roundw
     case rel=>exact⟨Q++[⟨p.name,p.data,qa,qc⟩],by rw[HLEN.out];go_num,hB8,by rw[HLEN.out,HDS.out];exact hA8,hO8,hL8,hS8,hQ8,eo⟩
     case measure=>simp[intOf];omega
    ·have hkn:k=n:=by omega
     rw[<-hk,hkn,HDE.out]at hA;have hQl:Q.length=P.length:=by rw[<-HN.out];omega
     have wu:Q.map bare=P.map bare:=by have:=hQ.bare;rw[hQl,An]at this;exact this
     have jg:∀q∈Q,∃p∈P,q.name=p.name/\q.data=p.data:=λq hq=>by
      have h1:bare q∈P.map bare:=by rw[<-wu];exact List.mem_map.2 ⟨q,hq,rfl⟩
      obtain⟨p,hp,he⟩:=List.mem_map.1 h1;have h2:(bare p).name=(bare q).name:=by rw[he]
      have h3:(bare p).data=(bare q).data:=by rw[he]
      exact⟨p,hp,h2.symm,h3.symm⟩
     have HPOST:Hid (aF wr (some ⟨lb,0,none⟩) 2 (Q.map iL)/\gX wr Q):=⟨iK1 (by rw[<-HN.out];exact hL) hQl wu,hQ.at_,hQ.none_,λq hq=>by
      obtain⟨p,hp,h1,_⟩:=jg q hq;rw[h1];exact Av (HNM.out p hp) (by decide),λq hq=>by
      obtain⟨p,hp,_,h2⟩:=jg q hq;rw[h2];exact Av (HSZ.out p hp) (by decide)⟩
     have HBR:=Aa wu;have HQL:=Aa hQl;have z0:∀x:Ext aB wr.drew,x.u.cell? ⟨pb,0,none⟩=some (.slice ba b.length bc):=aG ((aB.drew wr).cell (hB.cell 0 (by decide)));have z1:∀x:Ext aB wr.drew,x.u.cell? ⟨pa,0,none⟩=some (.int .i64 (b.length:Nat)):=aG ((aB.drew wr).cell (hA.cell 0 (by decide)));have z2:∀x:Ext aB wr.drew,x.u.cell? ⟨po,0,none⟩=some (.bool true):=aG ((aB.drew wr).cell (hO.cell 0 (by decide)));have di:¬(k:Int)<n:=by omega
     have kp:((Q.length:Nat):Int)=k:=by rw[hk]
     clear hB hA hO hL hS hQ jg wu hQl;rw[<-hk];clear hk kp;go_wp2_with fail
     refine bH (aT 10 []) (by kernel_rfl) (λd _ _ _ _ h=>by cases d<;>exact h) ?_
     iterate 10 (refine aJ rfl (λK hK=>?_);go_simp;refine hK _ ?_;clear hK K)
     refine bN ?_;go_wp2_with fail
     go_ret2;refine⟨hg.dr,Q,some ⟨lb,0,none⟩,n,?_,HBR.out,HPOST.out.1.grows (aB.drew wr),HPOST.out.2.grows (aB.drew wr)⟩;rw[HQL.out,<-HN.out];rfl
def xS0 (P:List bD) (w:World) (e:Ending) (w':World):Prop :=
 aB w w'/\∃(Q:List bD) (a:Option Addr) (c:Nat),e=.returned (.tuple #[.slice a Q.length c,.int .i64 0])/\Q.map bare=P.map bare/\aF w' a 2 (Q.map iL)/\gX w' Q
theorem lV0 (P:List bD) (ba:Option Addr) (bc:Nat) (w:World) (he:Env w) (m6:cZ P=0) (mm:(file14 P).length<=bc) (hbm:bc<=maxLen) (tp:ba=none->bc=0) (ah:aF w ba 1 ((file14 P).map aQ)) :
  Calls Tryz.prog 17 #[.slice ba (file14 P).length bc] w (xS0 P w):=by
 have ed:=xD m6;obtain⟨b,hb⟩:=exq (file14 P);obtain⟨bo,vw⟩:=exq (dD P);have kc:b=bo++leB 4 (crcSum bo):=by rw[hb,vw];rfl
 have ay:b.length=bo.length+4:=by rw[kc,Ad,cE]
 have h5:5<=bo.length:=by
  have:1<=(putU P.length).length:=List.length_pos_iff.2 (lF P.length)
  rw[vw];unfold dD;simp only[Ad,As,Bc];omega
 have aej:(b.take 4).drop 0=[72,78,75,49]:=by
  rw[kc,vw];unfold dD;simp
 have aek:(b.take bo.length).drop 0=bo:=by rw[kc];simp
 have na:(b.take b.length).drop bo.length=leB 4 (crcSum bo):=by rw[An,kc];simp
 rw[<-hb]at mm ah ⊢;rw[<-vw]at ed;have HAT:=Aa ah;have HNC:=Aa tp;have HE:=Aa he;have HB:=Aa hb;have HBO:=Aa vw;have HCHK:=Aa m6;have HMAG:=Aa aej;have HBOD:=Aa aek;have HSUM:=Aa na;have HLEN:=Aa ay;obtain⟨m,hm⟩:=exq bo.length;rw[<-hm]at ay h5 ed;have HM:=Aa hm;obtain⟨n,hn⟩:=exq b.length;rw[<-hn]at ay mm ⊢;have HN:=Aa hn;subst ay
 have hcv:(convert 24 9 (.slice ba 4 bc)).run Tryz.prog w=.ok (.string ⟨#[72,78,75,49]⟩) w:=by
  have h:=yH (c:=bc) (fB0 ah 4);rw[show b.take 4=[72,78,75,49] by exact aej]at h
  exact h
 have ac3:aF w ba 1 (bo.map aQ):=by
  have h:=fB0 ah m;rw[show b.take m=bo by rw[hm];exact aek]at h
  exact h
 obtain⟨a1,lf,zh,j6⟩:=yD0 (l:=m) (h:=m+4) ah tp (by omega) (by rw[<-HN.out];exact Ao _) (by rw[<-HN.out];exact mm);rw[show (b.take (m+4)).drop m=leB 4 (crcSum bo) by rw[HN.out,hm];exact na]at zh
 have HA1:=Aa zh;have HATB:=Aa ac3;have hn9:¬((m:Int)+4<9):=by omega
 have h4a:(4:Int)<=bc:=by omega
 have afp:IntKind.i64.wrap ((m:Int)+4-4)=(m:Int):=by simp[Ah,Ai,Ag];omega
 have wm:IntKind.i64.wrap (m:Int)=(m:Int):=by simp[Ah,Ai,Ag];omega
 have tu:(m:Int)<=bc:=by omega
 have zw:(m:Int)<=(m:Int)+4:=by omega
 have CS:=λ(W:World) (h:aB w W)=>Aa (vR bo ba bc W (HE.out.grows h) (by rw[<-HM.out];omega) (HATB.out.grows h));have CP:=λ(W:World) (h:aB w W)=>Aa (qJ0 P ba bc W HCHK.out (by rw[<-HBO.out,<-HM.out];omega) hbm HNC.out (by rw[<-HBO.out];exact HATB.out.grows h));rw[<-HBO.out]at CP;rw[<-HM.out]at CS CP;clear ah tp he hb vw m6 aej aek na kc hm hn zh ac3;go_enter Tryz.func17,Tryz.ntmps17
 have CE:∀(W:World) (s1:Option Addr) (d1:Nat),aB w W->aF W s1 1 ((leB 4 (crcSum bo)).map aQ)->Hid (Calls Tryz.prog 67 #[.slice a1 4 (bc-m),.slice s1 4 d1] W λe w'=>e=.returned (.bool true)/\W=w'):=λW s1 d1 hW h1=>by
  have h:=uV (leB 4 (crcSum bo)) (leB 4 (crcSum bo)) a1 s1 (bc-m) d1 W (HA1.out.grows hW) h1;rw[cE]at h;simp only[decide_true]at h;exact h
 have CE2:∀(W:World) (s1:Option Addr) (d1:Nat),aB w W->aF W s1 1 (b.map aQ)->Hid (Calls Tryz.prog 67 #[.slice s1 (m+4) d1,.slice ba (m+4) bc] W λe w'=>e=.returned (.bool true)/\W=w'):=λW s1 d1 hW h1=>by
  have h:=uV b b s1 ba d1 bc W h1 (HAT.out.grows hW);rw[<-HN.out]at h;simp only[decide_true]at h;exact h
 go_wp2_with fail
 refine bH (aT 9 [6,7]) (by kernel_rfl) (λd _ _ _ _ h=>by cases d<;>exact h) ?_
 iterate 6 (refine aJ rfl (λK hK=>?_);go_simp;refine hK _ ?_;clear hK K)
 refine bM rfl rfl (λK hK=>?_);go_simp;refine((CS w.drew (aB.drew w)).out).mono ?_;rintro e w1 ⟨v1,rfl,agj,aq⟩;refine⟨aq,hK _ _ ?_⟩;clear hK K;have ee:=aB.trans _ _ _ (aB.drew w) aq;obtain⟨s1,d1,rfl,gk,_⟩:=cB agj;rw[cE];refine bM rfl rfl (λK hK=>?_);go_simp;refine((CE w1 s1 d1 ee gk).out).mono ?_;rintro e w2 ⟨rfl,rfl⟩;refine⟨aB.refl _,hK _ _ ?_⟩;clear hK K;iterate 1 (refine aJ rfl (λK hK=>?_);go_simp;refine hK _ ?_;clear hK K)
 refine bN ?_;clear agj gk aq CS CE;go_wp2_with fail
 refine(CP w1 ee).out.mono ?_;rintro e w3 ⟨bu,Q,qa,qc,rfl,wu,py,hqp⟩;have jq:=aB.trans _ _ _ ee bu;have hq0:cZ Q=0:=by rw[<-mG,wu,mG];exact HCHK.out
 have hqf:file14 Q=b:=by rw[<-kG,wu,kG,HB.out]
 have hql:=(rN hq0).1;have CJ:=Aa (oT0 Q qa qc w3 (HE.out.grows jq) (by omega) py hqp);have HQ:=Aa (And.intro wu (And.intro py hqp));have HQ0:=Aa hq0;have HQF:=Aa hqf;clear bu wu py hqp hq0 hqf CP ee;go_wp2_with fail
 refine CJ.out.mono ?_;rintro e w4 ⟨ow,_,cd⟩;obtain⟨v4,rfl,hv4⟩:=ow HQ0.out;rw[HQF.out]at hv4;obtain⟨s4,d4,rfl,hs4,_⟩:=cB hv4;rw[<-HN.out];have d8:=aB.trans _ _ _ jq cd;have CE4:=CE2 w4 s4 d4 d8 hs4;clear ow hv4 hs4 CJ CE2;go_wp2_with fail
 refine CE4.out.mono ?_;rintro e w5 ⟨rfl,rfl⟩;go_wp2
 go_ret2;exact⟨d8,Q,qa,qc,rfl,HQ.out.1,HQ.out.2.1.grows cd,HQ.out.2.2.grows cd⟩
theorem rR0 (Q:List bD) (k:Nat) (q:bD) (a:Option Addr) (c:Nat) (w:World) (hl:Q.length<=1000000) (ah:aF w a 2 (Q.map iL)) (kj:gX w Q) (hq:Q[k]?=some q) (aw:∀j p,j<k->Q[j]?=some p->p.name≠q.name) :
  Calls Tryz.prog 70 #[.slice a Q.length c,.string q.name] w λe w'=>∃v,e=.returned (.tuple #[v,.bool true])/\aO w' w.heap.size 5 1 aQ v q.data/\aB w w':=by
 have HAT:=Aa ah;have HPA:=Aa kj;have HNE:=Aa aw;have hkl:=(List.getElem?_eq_some_iff.1 hq).1;have HQ:=Aa hq;clear ah kj aw hq;go_enter Tryz.func70,Tryz.ntmps70
 go_wp2_with fail
 go_loopw [10] (λi wr=>∃(j:Nat),j<=k/\i=.int .i64 j/\aB w wr) (λi _=>Q.length-(intOf i).toNat)
 case atStart=>exact⟨0,Ak _,rfl,aB.refl _⟩
 case round =>
  obtain⟨j,hj,rfl,hg⟩:=hrel;obtain⟨⟨pn,pd,pa,pc⟩,hp⟩:∃p,Q[j]?=some p:=⟨_,Ac (by omega)⟩;have af:j<Q.length:=by omega
  have i6:(j:Int)<Q.length:=by omega
  obtain⟨ba,oa,rfl,cn⟩:=(HAT.out.grows hg).get (aH af);have c0:wr.cell? ⟨ba,oa+j*2,none⟩=some (.string pn):=cn j _ hp 0 _ rfl;have c1:wr.cell? ⟨ba,oa+j*2+1,none⟩=some (.slice pa pd.length pc):=cn j _ hp 1 _ rfl;obtain⟨W1,dv⟩:=exq (wr.alloc (.cells #[.string pn,.slice pa pd.length pc] 113));have aq:aB wr W1:=by rw[dv];exact aB.alloc _ _
  obtain⟨bc,_⟩:=cO (w:=wr) (cs:=#[.string pn,.slice pa pd.length pc]) (t:=113) (w':=W1) (by rw[dv];exact aB.refl _);have b0:=bc 0 _ rfl;have b1:=bc 1 _ rfl;rw[dv]at b0 b1;have ee:=aB.trans _ _ _ hg aq;have yv:=Ae hp;clear bc cn;by_cases he:pn=q.name
  ·have jx:j=k:=by
    rcases Bh j k with h|h
    ·exact absurd he (HNE.out j _ h hp)
    ·omega
   have hpq:q=⟨pn,pd,pa,pc⟩:=by
    rw[jx,HQ.out]at hp;exact Option.some.inj hp
   have hdl:pd.length<=1099511627776:=HPA.out.data _ yv;have CC:=Aa (dR0 pd pa pc W1 hdl (HPA.out.none_ _ yv) ((HPA.out.at_ _ yv).grows ee));have mj:(pn.toList==q.name.toList)=true:=by rw[he];simp
   have HPQ:Hid (q.data=pd):=by show _=_;rw[hpq]
   clear he jx hpq hp yv;go_wp2_with fail
   rw[<-dv];clear b0 b1 dv;refine CC.out.mono ?_;rintro e w2 ⟨v,rfl,hv,an⟩;go_wp2
   go_ret2;exact⟨_,rfl,by rw[HPQ.out];exact hv.base ee.size,aB.trans _ _ _ ee an⟩
  ·have jx:j<k:=by
    rcases Bh j k with h|h
    ·exact h
    ·obtain rfl:j=k:=by omega
     rw[HQ.out]at hp;exact absurd (by rw[Option.some.inj hp]) he
   have mj:(pn.toList==q.name.toList)=false:=by simpa using λh=>he (dR h)
   clear he hp yv;go_wp2_with fail
   go_roundw
   case rel=>exact⟨j+1,jx,by go_num,by rw[<-dv];exact ee⟩
   case measure=>simp[intOf];omega
end
section
open Go Go.RowKit
attribute [local go_sem] aM aP
theorem bR1 (l:List Nat) (ba:Option Addr) (bc:Nat) (w:World) (hl:l.length<=1048576) (hn:∀n∈l,n<18446744073709551616) (mm:(cG l).length<=bc) (tp:ba=none->bc=0) (ah:aF w ba 1 ((cG l).map aQ)) :
  Calls Tryz.prog 71 #[.slice ba (cG l).length bc] w λe w'=>∃pb,e=.returned (.tuple #[.pointer (some ⟨pb,0,none⟩),.int .i64 0])/\kR0 w' pb l/\aB w w':=by
 have fy:gU l<=64:=lP.2 hn;have ay:=sZ l;obtain⟨b0,b1,b2,b3,jh,h0,h1,h2,h3,td⟩:=tJ0 l;replace td:=td (by omega);obtain⟨W,hW⟩:=exq (gU l);obtain⟨n,ym⟩:=exq l.length;obtain⟨b,hb⟩:=exq (cG l);rw[<-hb]at jh ay mm ah ⊢;rw[<-hW]at jh ay fy;rw[<-ym]at ay hl td;obtain⟨M,hM⟩:=exq ((n*W+7)/8);rw[<-hM]at ay;have HAT:=Aa ah;have HNC:=Aa tp;have HB:=Aa hb;have HN:=Aa hn;have HW:=Aa hW;have HNL:=Aa ym;have HHEAD:=Aa jh;have HM:=Aa hM;obtain⟨bb,bo,rfl,hc⟩:=at1 (f:=λx:UInt8=>Value.int .u8 x.toNat) ah (by rw[jh];simp);have tN:∀x:Nat,x<256->((Ap x).toNat:Int)=x:=λx hx=>by simp;omega
 have q0:w.cell? ⟨bb,bo,none⟩=some (.int .u8 b0):=by have:=hc 0 (Ap b0) (by rw[jh];rfl);rw[tN _ h0]at this;exact this
 have q1:w.cell? ⟨bb,bo+1,none⟩=some (.int .u8 b1):=by have:=hc 1 (Ap b1) (by rw[jh];rfl);rw[tN _ h1]at this;exact this
 have q2:w.cell? ⟨bb,bo+2,none⟩=some (.int .u8 b2):=by have:=hc 2 (Ap b2) (by rw[jh];rfl);rw[tN _ h2]at this;exact this
 have q3:w.cell? ⟨bb,bo+3,none⟩=some (.int .u8 b3):=by have:=hc 3 (Ap b3) (by rw[jh];rfl);rw[tN _ h3]at this;exact this
 have q4:w.cell? ⟨bb,bo+4,none⟩=some (.int .u8 W):=by have:=hc 4 (Ap W) (by rw[jh];rfl);rw[tN _ (by omega)]at this;exact this
 have z0:∀x:Ext aB w.drew,x.u.cell? ⟨bb,bo,none⟩=some (.int .u8 b0):=aG ((aB.drew w).cell q0);have z1:∀x:Ext aB w.drew,x.u.cell? ⟨bb,bo+1,none⟩=some (.int .u8 b1):=aG ((aB.drew w).cell q1);have z2:∀x:Ext aB w.drew,x.u.cell? ⟨bb,bo+2,none⟩=some (.int .u8 b2):=aG ((aB.drew w).cell q2);have z3:∀x:Ext aB w.drew,x.u.cell? ⟨bb,bo+3,none⟩=some (.int .u8 b3):=aG ((aB.drew w).cell q3);have z4:∀x:Ext aB w.drew,x.u.cell? ⟨bb,bo+4,none⟩=some (.int .u8 W):=aG ((aB.drew w).cell q4);obtain⟨N,hN⟩:=exq b.length;rw[<-hN]at ay mm ⊢;have HN2:=Aa hN;have HLEN:=Aa ay;have hl5:¬(N:Int)<5:=by omega
 have i0:0<N:=by omega
 have i1:(1:Int)<N:=by omega
 have i2:(2:Int)<N:=by omega
 have i3:(3:Int)<N:=by omega
 have i4:(4:Int)<N:=by omega
 have wi:∀x:Nat,x<256->IntKind.i64.wrap (x:Int)=x:=λx hx=>by simp[Ah,Ai,Ag];omega
 have w0:=wi b0 h0;have w1:=wi b1 h1;have w2:=wi b2 h2;have w3:=wi b3 h3;have wW:=wi W (by omega);obtain⟨c1,c2,c3,s1,s2,m1,m2,m3,o1,o2,o3⟩:=gV1 h0 h1 h2 h3 td;clear wi td hN ay ah tp hb hn hW ym jh hM hc tN q0 q1 q2 q3 q4;go_enter Tryz.func71,Tryz.ntmps71
 go_wp2_with fail
 refine bH (aT 29 [27]) (by kernel_rfl) (λd _ _ _ _ h=>by cases d<;>exact h) ?_
 iterate 27 (refine aJ rfl (λK hK=>?_);go_simp;refine hK _ ?_;clear hK K)
 refine bM rfl rfl (λK hK=>?_);go_simp;refine⟨aB.alloc _ _,hK _ _ ?_⟩;clear hK K z0 z1 z2 z3 z4;iterate 1 (refine aJ rfl (λK hK=>?_);go_simp;refine hK _ ?_;clear hK K)
 refine bN ?_;obtain⟨pb,ma⟩:=exq w.heap.size;obtain⟨WB,vq⟩:=exq ((w.alloc (.cells #[.int .i64 n,.int .i64 W,.slice none 0 0] 211)).drew);have j5:aB w WB:=by rw[vq];exact(aB.alloc w _).dr
 obtain⟨bxc,bxf⟩:=cO (w:=w) (cs:=#[.int .i64 n,.int .i64 W,.slice none 0 0]) (t:=211) (w':=WB) (by rw[vq];exact aB.drew _);rw[<-ma]at bxc bxf;have g0:=bxc 0 _ rfl;have g1:=bxc 1 _ rfl;have g2:=bxc 2 _ rfl;have gf:=bxf 2;have dm:WB.heap.size=pb+1:=by rw[vq,ma];show (w.heap.push _).size=_;simp
 rw[<-vq];rw[<-ma];have HPB:=Aa ma;have HGB:=Aa j5;have HSZ:=Aa dm;clear bxc bxf vq w0 w1 w2 w3 wW o1 o2 o3 m1 m2 m3 h0 h1 h2 h3 hl5 i0 i1 i2 i3 i4 ma j5 dm;have hLW:n*W<=1048576*64:=Nat.mul_le_mul hl fy;obtain⟨MM,hMM⟩:=exq (n*W);have HMM:=Aa hMM;have hMb:MM<=1048576*64:=by rw[hMM];exact hLW
 have wM:IntKind.i64.wrap ((n:Int)*W)=MM:=by
  have h1:(n:Int)*W=MM:=by rw[hMM];push_cast;rfl
  rw[h1];exact gJ (by omega)
 have hM8:M=(MM+7)/8:=by rw[HM.out,hMM]
 have wM7:IntKind.i64.wrap ((MM:Int)+7)=(MM:Int)+7:=by have:=gJ (x:=MM+7) (by omega);rw[Aw]at this;exact this
 have e7:((MM:Int)+7)/8=M:=by omega
 have e7t:((MM:Int)+7).tdiv 8=M:=by rw[Aj (by omega)];exact e7
 have wM8:IntKind.i64.wrap (M:Int)=M:=gJ (by omega);have wM5:IntKind.i64.wrap (5+(M:Int))=5+(M:Int):=by have:=gJ (x:=5+M) (by omega);rw[Aw]at this;exact this
 have hNe:((N:Int) != 5+(M:Int))=false:=by have:=HLEN.out;simp;omega
 have j6:¬(1048576:Int)<n:=by omega
 have hw1:¬(64:Int)<W:=by omega
 have z0:∀y:Ext aB WB.drew,y.u.cell? ⟨pb,0,none⟩=some (.int .i64 n):=aG ((aB.drew WB).cell g0);have z1:∀y:Ext aB WB.drew,y.u.cell? ⟨pb,1,none⟩=some (.int .i64 W):=aG ((aB.drew WB).cell g1);have HM8:=Aa hM8;clear hMM hLW hM8;go_wp2_with fail
 refine bH (aT 29 []) (by kernel_rfl) (λd _ _ _ _ h=>by cases d<;>exact h) ?_
 iterate 29 (refine aJ rfl (λK hK=>?_);go_simp;refine hK _ ?_;clear hK K)
 refine bN ?_;clear z0 z1;go_wp2_with fail
 obtain⟨WC,hWC⟩:=exq WB.drew;have hgC:aB WB WC:=by rw[hWC];exact aB.drew WB
 have ael:WC.heap.size=pb+1:=by rw[hWC];exact HSZ.out
 have k0:=hgC.cell g0;have k1:=hgC.cell g1;have k2:=hgC.cell g2;have kf:WC.frozen? ⟨pb,2,none⟩=false:=by rw[hgC.froz (by show pb<WB.heap.size;rw[HSZ.out];omega)];exact gf
 have HGC:=Aa (aB.trans _ _ _ HGB.out hgC);rw[<-hWC];clear hWC hgC g0 g1 g2 gf wM7 e7 e7t wM8 wM5 hNe j6 hw1;obtain⟨q,hq⟩:=exq ((MM+63)/64);have hqb:q<=1048576:=by omega
 have wM2:IntKind.i64.wrap ((MM:Int)+63)=(MM:Int)+63:=by have:=gJ (x:=MM+63) (by omega);rw[Aw]at this;exact this
 have vt:((MM:Int)+63)/64=q:=by omega
 have eq2:((MM:Int)+63).tdiv 64=q:=by rw[Aj (by omega)];exact vt
 have z0:∀y:Ext aB WC.drew,y.u.cell? ⟨pb,0,none⟩=some (.int .i64 n):=aG ((aB.drew WC).cell k0);have z1:∀y:Ext aB WC.drew,y.u.cell? ⟨pb,1,none⟩=some (.int .i64 W):=aG ((aB.drew WC).cell k1);have wq:IntKind.i64.wrap (q:Int)=q:=gJ (by omega);have ke:=λ(Y:World)=>iX1 q Y hqb;have HQ:=Aa hq;clear hq;refine pD 13 (aT 13 [12]) (by kernel_rfl) (λd _ _ _ _ h=>by cases d<;>exact h) ?_
 iterate 12 (refine aJ rfl (λK hK=>?_);go_simp;refine hK _ ?_;clear hK K)
 refine bM rfl rfl (λK hK=>?_);go_simp;refine⟨aB.alloc _ _,hK _ _ ?_⟩;clear hK K z0 z1 ke vt eq2 wM2 wq;refine bN ?_;simp only[List.drop_succ_cons,List.drop_zero];have cg:=jN0 (w:=WC) hqb;rw[Ar,ael]at cg;obtain⟨W3,pf⟩:=exq ((WC.alloc (.cells (madeCells #[.int .u64 0] q) 142)).drew);have bu:aB WC W3:=by rw[pf];exact(aB.alloc WC _).dr
 have ri:aO W3 (pb+1) 142 1 jR (.slice (some ⟨pb+1,0,none⟩) q q) (Ay q 0):=by rw[pf];exact cg.grows (aB.drew _)
 rw[<-pf];try rw[ael]
 have jd:pb+1<W3.heap.size:=by rw[pf];show pb+1<(WC.heap.push _).size;rw[Array.size_push,ael];omega
 have b32:=bu.cell k2;have b3f:W3.frozen? ⟨pb,2,none⟩=false:=by rw[bu.froz (by show pb<WC.heap.size;omega)];exact kf
 have j0:=bu.cell k0;have j1:=bu.cell k1;have jq:=aB.trans _ _ _ HGC.out bu;clear cg pf k0 k1 k2 kf bu
 -- the bytes behind the head
 obtain⟨a5,hif,ha5⟩:∃a5,(if bc=5 then (some ⟨bb,bo,none⟩:Option Addr) else some ⟨bb,bo+5,none⟩)=a5/\aF w a5 1 ((xP l).map aQ):=by
  obtain⟨a',hv',jw,_⟩:=yD0 (l:=5) (h:=N) HAT.out HNC.out (by have:=HLEN.out;omega) (by rw[HN2.out];exact Ao _) (by rw[<-HN2.out];exact mm);refine⟨a',?_,?_⟩
  ·rw[<-hv',Bb,pO]
  ·have e:(b.take N).drop 5=xP l:=by rw[HN2.out,An,HHEAD.out];rfl
   rw[e]at jw;exact jw
 have hN5:5<=N:=by have:=HLEN.out;omega
 have hNM:N-5=M:=by have:=HLEN.out;omega
 have ak1:5<=bc:=by omega
 have h5i:(5:Int)<=N:=by omega
 have h5n:(N:Int)<=bc:=by omega
 have f5:(5:Int)<=bc:=by omega
 have HA5:=Aa ha5;clear ha5;go_wp2_with fail
 have e0:(W3.setCell ⟨pb,2,none⟩ (.slice (some ⟨pb+1,0,none⟩) q q)).cell? ⟨pb,0,none⟩=some (.int .i64 n):=(Ab _ _ _ _ (λh=>by cases h)).trans j0;have e1:(W3.setCell ⟨pb,2,none⟩ (.slice (some ⟨pb+1,0,none⟩) q q)).cell? ⟨pb,1,none⟩=some (.int .i64 W):=(Ab _ _ _ _ (λh=>by cases h)).trans j1;have e2:(W3.setCell ⟨pb,2,none⟩ (.slice (some ⟨pb+1,0,none⟩) q q)).cell? ⟨pb,2,none⟩=some (.slice (some ⟨pb+1,0,none⟩) q q):=World.cell?_setCell_same _ _ _ b32;have d8:aB w (W3.setCell ⟨pb,2,none⟩ (.slice (some ⟨pb+1,0,none⟩) q q)):=jq.set (by rw[HPB.out];exact Ao _) _;have pz:=pV ri (p:=⟨pb,2,none⟩) (Nat.lt_succ_self _) (.slice (some ⟨pb+1,0,none⟩) q q);rw[<-mP0 l W q]at pz;have agk:pb+1<(W3.setCell ⟨pb,2,none⟩ (.slice (some ⟨pb+1,0,none⟩) q q)).heap.size:=by simp;exact jd
 obtain⟨W4,hW4⟩:=exq (W3.setCell ⟨pb,2,none⟩ (.slice (some ⟨pb+1,0,none⟩) q q));rw[<-hW4]at e0 e1 e2 d8 pz agk ⊢;clear hW4 ri jq j0 j1 b32 b3f jd;go_loopw [89] (λi wr=>∃k:Nat,k<=M/\i=.int .i64 k/\aO wr (pb+1) 142 1 jR (.slice (some ⟨pb+1,0,none⟩) q q) (pL l W k q)/\wr.cell? ⟨pb,0,none⟩=some (.int .i64 n)/\wr.cell? ⟨pb,1,none⟩=some (.int .i64 W)/\wr.cell? ⟨pb,2,none⟩=some (.slice (some ⟨pb+1,0,none⟩) q q)/\aB w wr) (λi _=>M-(intOf i).toNat)
 case atStart=>exact⟨0,Ak _,rfl,pz,e0,e1,e2,d8⟩
 case round =>
  clear pz e0 e1 e2 d8 agk;obtain⟨k,hk,rfl,ae,e0,e1,e2,hg⟩:=hrel;by_cases af:k<M
  ·have ed:(xP l).length=M:=by unfold xP;rw[List.length_map,List.length_range,HM.out,HNL.out,HW.out]
   obtain⟨x,hx⟩:∃x,(xP l)[k]?=some x:=⟨_,Ac (by rw[ed];exact af)⟩;obtain⟨ab,ao,ha5,hc5⟩:=at1 (f:=λx:UInt8=>Value.int .u8 x.toNat) (HA5.out.grows hg) (aH (by rw[ed];exact af));have cx:=hc5 k x hx;subst ha5
   have hxv:x.toNat=dG (bitAt l W) (8*k) 8:=by
    unfold xP at hx;rw[Al,List.getElem?_range (by rw[<-HW.out,<-HNL.out,<-HM.out];exact af)]at hx;rw[<-Option.some.inj hx,HW.out]
    have:=gV (bitAt l (gU l)) (8*k) 8
    simp;omega
   obtain⟨c,jy⟩:=exq x.toNat;rw[<-jy]at cx hxv;have ab3:c<256:=by rw[hxv];exact gV _ _ 8
   have hk8:8*k+8<=MM+7:=by have:=HM8.out;omega
   obtain⟨Q8,hQ8⟩:=exq (k/8);obtain⟨R8,hR8⟩:=exq (k%8);obtain⟨S8,hS8⟩:=exq (R8*8);have hQq:Q8<q:=by have:=HQ.out;omega
   have hQi:(Q8:Int)<q:=by omega
   have up:S8<64:=by omega
   have d1:=eH (f:=λn:Nat=>Value.int .u64 n) ae (qF (by rw[<-hQ8];exact hQq):(pL l W k q)[k/8]?=_);have HST:=Aa (lT0 (l:=l) (W:=W) (k:=k) (q:=q) (by rw[<-hQ8];exact hQq));rw[<-hQ8]at d1 HST;obtain⟨y,hy⟩:=exq (dG (λp=>decide (p<8*k)&&bitAt l W p) (64*Q8) 64);have pe:y<18446744073709551616:=by rw[hy];exact gV _ _ 64
   rw[<-hy,<-hxv,<-hR8,<-hS8]at HST;rw[<-hy]at d1;have hor:=nU0 (x:=y) (v:=c) (S:=S8) pe;obtain⟨y1,rh⟩:=exq (y|||(c<<<S8)%18446744073709551616)
   rw[<-rh]at hor HST;obtain⟨fr,_,aj⟩:=fM (f:=λn:Nat=>Value.int .u64 n) ae (k:=Q8) (by rw[mO];exact hQq) y1;have eq8:(k:Int)/8=Q8:=by omega
   have ak2:(k:Int).tdiv 8=Q8:=by rw[Aj (by omega)];exact eq8
   have er8:(k:Int)%8=R8:=by omega
   have ak3:(k:Int).tmod 8=R8:=by rw[Int.tmod_eq_emod_of_nonneg (by omega)];exact er8
   have wQ8:IntKind.i64.wrap (Q8:Int)=Q8:=gJ (by omega);have wR8:IntKind.i64.wrap (R8:Int)=R8:=gJ (by omega);have wS8:IntKind.i64.wrap ((R8:Int)*8)=S8:=by have:=gJ (x:=R8*8) (by omega);rw[Be,<-Be,<-hS8]at this;rw[<-this,hS8];push_cast;rfl
   have uS8:IntKind.u64.wrap (S8:Int)=S8:=by simp[Ah,Ai,Ag];omega
   have uc:IntKind.u64.wrap (c:Int)=c:=by simp[Ah,Ai,Ag];omega
   have di:(k:Int)<M:=by omega
   have f0:(wr.setCell ⟨pb+1,Q8,none⟩ (.int .u64 y1)).cell? ⟨pb,0,none⟩=some (.int .i64 n):=(Ab _ _ _ _ (λh=>by have:=congrArg Au h;simp at this)).trans e0;have f1:(wr.setCell ⟨pb+1,Q8,none⟩ (.int .u64 y1)).cell? ⟨pb,1,none⟩=some (.int .i64 W):=(Ab _ _ _ _ (λh=>by have:=congrArg Au h;simp at this)).trans e1;have f2:(wr.setCell ⟨pb+1,Q8,none⟩ (.int .u64 y1)).cell? ⟨pb,2,none⟩=some (.slice (some ⟨pb+1,0,none⟩) q q):=(Ab _ _ _ _ (λh=>by have:=congrArg Au h;simp at this)).trans e2;have HF:=Aa (And.intro f0 (And.intro f1 f2));have an:aB w (wr.setCell ⟨pb+1,Q8,none⟩ (.int .u64 y1)):=hg.set (by rw[HPB.out];simp) _;have HO:=Aa aj;clear hx hc5 hxv jy hQ8 hR8 hS8 hy rh aj ae f0 f1 f2 hif;go_wp2_with fail
   go_roundw
   case rel=>exact⟨k+1,af,by go_num,by rw[HST.out];exact HO.out,HF.out.1,HF.out.2.1,HF.out.2.2,an⟩
   case measure=>simp[intOf];omega
  ·obtain rfl:M=k:=by omega
   rw[qS0 (by rw[HW.out];exact λx hx=>vE hx) (by rw[<-HNL.out,<-HMM.out];have:=HM8.out;omega)]at ae;have ai1:=λ(Y:World)=>iX1 n Y hl;have mg:=jN0 (w:=wr) (n:=n) hl;rw[Ar]at mg;obtain⟨W5,vp⟩:=exq (wr.alloc (.cells (madeCells #[.int .u64 0] n) 142));have bg:aB wr W5:=by rw[vp];exact aB.alloc _ _
   obtain⟨lb,yu⟩:=exq wr.heap.size;rw[<-vp,<-yu]at mg;have ak4:pb+1<lb:=by rw[yu];exact gP ae _ rfl
   rw[show Ay n 0=lO l 0 0 by rw[qK,HNL.out]]at mg
   have e05:=bg.cell e0;have e15:=bg.cell e1;have e25:=bg.cell e2;have ai:=ae.grows bg;have fh:=aB.trans _ _ _ hg bg;have ai2:w.heap.size<=lb:=by have:=HPB.out;omega
   clear ae;go_wp2_with fail
   try rw[<-vp]
   try rw[<-yu]
   clear vp yu bg e0 e1 e2 hg hif ai1;go_loopw [119] (λi wx=>∃k:Nat,k<=n/\i=.int .i64 k/\aO wx lb 142 1 jR (.slice (some ⟨lb,0,none⟩) n n) (lO l 0 k)/\wx.cell? ⟨pb,0,none⟩=some (.int .i64 n)/\wx.cell? ⟨pb,1,none⟩=some (.int .i64 W)/\wx.cell? ⟨pb,2,none⟩=some (.slice (some ⟨pb+1,0,none⟩) q q)/\aO wx (pb+1) 142 1 jR (.slice (some ⟨pb+1,0,none⟩) q q) (dZ l W q)/\aB w wx) (λi _=>n-(intOf i).toNat)
   case atStart=>exact⟨0,Ak _,rfl,mg,e05,e15,e25,ai,fh⟩
   case round =>
    clear mg e05 e15 e25 ai fh;obtain⟨k,j7,rfl,eu,e0,e1,e2,ae,hg⟩:=hrel;by_cases ci:k<n
    ·obtain⟨x,hx⟩:∃x,l[k]?=some x:=⟨_,Ac (by rw[<-HNL.out];exact ci)⟩
     have di:(k:Int)<n:=by omega
     have CG:=Aa (pJ0 pb (pb+1) q W k x (pb+1) l wr fy (by rw[<-HNL.out];exact hl) hx (by rw[HW.out];exact vE (Ae hx)) (by rw[<-HNL.out,<-HMM.out];have:=HQ.out;omega) e1 e2 ae);have HFS:=Aa (sR (z:=0) hx);clear hx;go_wp2_with fail
     refine CG.out.mono ?_;rintro e w6 ⟨rfl,de⟩;have aak:=eu.grows de;obtain⟨u0,hu0⟩:∃u,(lO l 0 k)[k]?=some u:=⟨_,Ac (by rw[mK _ _ (by rw[<-HNL.out];omega),<-HNL.out];exact ci)⟩;have cl:=eH (f:=λn:Nat=>Value.int .u64 n) aak hu0;obtain⟨fr,_,acj⟩:=fM (f:=λn:Nat=>Value.int .u64 n) aak (k:=k) (by rw[mK _ _ (by rw[<-HNL.out];omega),<-HNL.out];exact ci) x;rw[HFS.out]at acj;have aw:∀j j',(⟨pb,j,none⟩:Addr)≠⟨lb,j',none⟩:=λj j' h=>by have:=congrArg Au h;simp only at this;omega
     have f0:(w6.setCell ⟨lb,k,none⟩ (.int .u64 x)).cell? ⟨pb,0,none⟩=some (.int .i64 n):=(Ab _ _ _ _ (λh=>aw _ _ (by first|exact h|exact h.symm))).trans (de.cell e0)
     have f1:(w6.setCell ⟨lb,k,none⟩ (.int .u64 x)).cell? ⟨pb,1,none⟩=some (.int .i64 W):=(Ab _ _ _ _ (λh=>aw _ _ (by first|exact h|exact h.symm))).trans (de.cell e1)
     have f2:(w6.setCell ⟨lb,k,none⟩ (.int .u64 x)).cell? ⟨pb,2,none⟩=some (.slice (some ⟨pb+1,0,none⟩) q q):=(Ab _ _ _ _ (λh=>aw _ _ (by first|exact h|exact h.symm))).trans (de.cell e2)
     have bi:=mF (v:=.slice (some ⟨lb,0,none⟩) n n) (ae.grows de) ((aB.refl w6).grownBy_set lb k (.int .u64 x)) (λr h1 h2=>by
      have a1:lb=r:=Option.some.inj h1;have a2:pb+1=r:=Option.some.inj h2;omega)
     have ck:aB w (w6.setCell ⟨lb,k,none⟩ (.int .u64 x)):=(aB.trans _ _ _ hg de).set ai2 _;have HF:=Aa (And.intro f0 (And.intro f1 f2));clear eu aak e0 e1 e2 ae hg de hu0 f0 f1 f2 CG;go_wp2_with fail
     go_roundw
     case rel=>exact⟨k+1,ci,by go_num,acj,HF.out.1,HF.out.2.1,HF.out.2.2,bi,ck⟩
     case measure=>simp[intOf];omega
    ·obtain rfl:n=k:=by omega
     have hrw:lO l 0 n=l:=by rw[HNL.out];exact sF l 0
     rw[hrw]at eu;obtain⟨ra,rc,hre,_,_,pw⟩:=eu.at_ (k:=1) (λx=>(rfl:(jR x).length=1));have e1':=(Value.slice.inj hre).1;rw[<-e1']at pw;have CNW:=Aa (fX0 l (some ⟨lb,0,none⟩) n wr (by rw[<-HNL.out];exact hl) HN.out pw);rw[<-HNL.out]at CNW;clear eu hre e1' pw hrw e0 e1 e2 ae;go_wp2_with fail
     refine CNW.out.mono ?_;rintro e w7 ⟨rfl,yw,ck⟩;obtain⟨nb,ko⟩:=exq wr.heap.size;rw[<-ko]at yw ⊢;clear ko;go_wp2_with fail
     refine(fH0 l nb w7 (by rw[<-HNL.out];exact hl) HN.out yw).mono ?_;rintro e w8 ⟨v8,rfl,hv8,eo⟩;rw[<-HB.out]at hv8;obtain⟨a8,c8,rfl,pr,_⟩:=cB hv8;rw[<-HN2.out];have agl:=aB.trans _ _ _ hg (aB.trans _ _ _ ck eo);have CE:=Aa (uV b b a8 (some ⟨bb,bo,none⟩) c8 bc w8 pr (HAT.out.grows agl));rw[<-HN2.out]at CE;simp only[decide_true]at CE;clear hv8 pr;go_wp2_with fail
     refine CE.out.mono ?_;rintro e w9 ⟨rfl,rfl⟩;go_wp2
     go_ret2;exact⟨nb,rfl,yw.grows eo,agl⟩
end
section
open Go Go.RowKit Go.Shelf
attribute [local go_sem] aM aP
theorem kF1 {x:Nat} (h:x<9223372036854775808):IntKind.i64.wrap (x:Int)=x:=by simp[Ah,Ai,Ag]; omega
theorem iR0 (Q:List bD) (k:Nat) (q:bD) (l:List Nat) (a:Option Addr) (c:Nat) (w:World) (hQl:Q.length<=1000000) (ah:aF w a 2 (Q.map iL)) (kj:gX w Q) (hq:Q[k]?=some q) (aw:∀j p,j<k->Q[j]?=some p->p.name≠q.name)
  (hd:q.data=cG l) (hl:l.length<=100000) (hn:∀n∈l,n<9223372036854775808) :
  Calls Tryz.prog 19 #[.slice a Q.length c,.string q.name] w λe w'=>∃v,e=.returned v/\aO w' w.heap.size 3 1 jP v l/\aB w w':=by
 have CF:=Aa (rR0 Q k q a c w hQl ah kj hq aw);rw[hd]at CF;have HN:=Aa hn;have ii:∀n∈l,n<18446744073709551616:=λn h=>by have:=hn n h;omega
 have HN2:=Aa ii;have jd:=sZ l;obtain⟨QL,hQL⟩:=exq Q.length;rw[<-hQL]at CF ⊢;clear ah kj hq aw hd hn ii hQL;go_enter Tryz.func19,Tryz.ntmps19
 go_wp2_with fail
 refine CF.out.mono ?_;rintro e w1 ⟨v1,rfl,lf,aq⟩;obtain⟨a1,c1,rfl,h1c,_,dw⟩:=lf.at_ aR.len;have j6:=bC lf;have CD:=Aa (bR1 l a1 c1 w1 (by omega) HN2.out h1c j6 dw);obtain⟨PL,hPL⟩:=exq ((cG l).length);rw[<-hPL]at CD ⊢;clear lf dw j6 CF jd h1c hPL;go_wp2_with fail
 refine CD.out.mono ?_;rintro e w2 ⟨pb,rfl,yw,an⟩;have gq:=aB.trans _ _ _ aq an;clear CD aq an;have hll:¬(100000:Int)<l.length:=by omega
 go_wp2_with fail
 refine(bJ0 l pb w2 yw).mono ?_;rintro e w3 ⟨rfl,rfl⟩;go_wp2_with fail
 go_loopw [9,10] (λv i wr=>∃j:Nat,j<=l.length/\i=.int .i64 j/\aO wr w2.heap.size 3 1 jP v (l.take j)/\kR0 wr pb l/\aB w2 wr) (λ_ i _=>l.length-(intOf i).toNat)
 case atStart=>exact⟨0,Ak _,rfl,aO.nil _ _ _ _ _,yw,aB.refl _⟩
 case round =>
  have HPK:=Aa yw;clear yw;obtain⟨j,hj,rfl,ae,yw,hg⟩:=hrel;go_wp2_with fail
  refine(bJ0 l pb wr yw).mono ?_;rintro e w4 ⟨rfl,rfl⟩;by_cases af:j<l.length
  ·obtain⟨x,hx⟩:∃x,l[j]?=some x:=⟨_,Ac af⟩
   have afs:=HN.out x (Ae hx);have HT:=Aa (aY hx);have CG:=Aa (yY0 l pb j x wr yw (by omega) HN2.out hx);have zv:(l.take j).length=j:=by rw[List.length_take];omega
   have wx:=kF1 afs;have i6:(j:Int)<l.length:=by omega
   clear hx;go_wp2_with fail
   refine CG.out.mono ?_;rintro e w5 ⟨rfl,bg⟩;have ak5:=yw.grows bg;have ai:=ae.grows bg;have fh:=aB.trans _ _ _ hg bg;generalize l.take j=acc at ai HT zv;clear CG yw bg ae hg;go_wp2_with (at_builtin;refine aV pU0 rfl _ _ rfl w2.heap.size _ acc x rfl ai (aB.refl _) _ 1 rfl #[.int .i64 x] rfl rfl (by omega) fh.size ?_;intro v6 w6 cp hk6 _ ai3)
   have de:=ai3 w2 fh (Ao _);have ai4:kR0 w6 pb l:=HPK.out.grows de;rw[<-HT.out]at cp;go_wp2_with fail
   go_roundw
   case rel=>exact⟨j+1,af,by go_num,cp,ai4,de⟩
   case measure=>simp[intOf];omega
  ·obtain rfl:j=l.length:=by omega
   rw[An]at ae;go_wp2_with fail
   go_ret;exact⟨_,rfl,ae.base gq.size,aB.trans _ _ _ gq hg⟩
theorem zY (l:List Nat) (a b:Option Addr) (c d:Nat) (w:World) (hl:l.length<=1048576) (h1:aF w a 1 (l.map jP)) (h2:aF w b 1 (l.map jP)) :
  Calls Tryz.prog 18 #[.slice a l.length c,.slice b l.length d] w λe w'=>e=.returned (.bool true)/\aB w w':=by
 have H1:=Aa h1;have H2:=Aa h2;clear h1 h2;go_enter Tryz.func18,Tryz.ntmps18
 go_wp2_with fail
 go_loopw [5] (λi wr=>∃j:Nat,j<=l.length/\i=.int .i64 j/\aB w wr) (λi _=>l.length-(intOf i).toNat)
 case atStart=>exact⟨0,Ak _,rfl,aB.refl _⟩
 case round =>
  obtain⟨j,hj,rfl,hg⟩:=hrel;by_cases af:j<l.length
  ·obtain⟨x,hx⟩:∃x,l[j]?=some x:=⟨_,Ac af⟩
   obtain⟨b1,o1,rfl,jr⟩:=at1 (f:=λn:Nat=>Value.int .i64 n) (H1.out.grows hg) (aH af);obtain⟨b2,o2,rfl,th⟩:=at1 (f:=λn:Nat=>Value.int .i64 n) (H2.out.grows hg) (aH af);have z1:∀x':Ext aB wr.drew,x'.u.cell? ⟨b1,o1+j,none⟩=some (.int .i64 x):=aG ((aB.drew wr).cell (jr j x hx));have z2:∀x':Ext aB wr.drew,x'.u.cell? ⟨b2,o2+j,none⟩=some (.int .i64 x):=aG ((aB.drew wr).cell (th j x hx));have i6:(j:Int)<l.length:=by omega
   clear jr th hx;go_wp2_with fail
   refine bH (aT 9 []) (by kernel_rfl) (λd _ _ _ _ h=>by cases d<;>exact h) ?_
   iterate 9 (refine aJ rfl (λK hK=>?_);go_simp;refine hK _ ?_;clear hK K)
   refine bN ?_;clear z1 z2;go_wp2_with fail
   go_roundw
   case rel=>exact⟨j+1,af,by go_num,hg.dr⟩
   case measure=>simp[intOf];omega
  ·obtain rfl:j=l.length:=by omega
   go_wp2_with fail
   go_ret;exact⟨rfl,hg⟩
end
end Go.Proofs.YtiopheoljccmpaaGreatDoor
