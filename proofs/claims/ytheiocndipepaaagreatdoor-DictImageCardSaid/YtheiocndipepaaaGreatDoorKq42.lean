/- The texts SecS SplS FindS PkD Dct1, one behind the other. -/
import Derived.Test.YtheiocndipepaaaGreatDoorKq41
import Derived.Test.YtheiocndipepaaaGreatDoorKq4
import Derived.Test.YtheiocndipepaaaGreatDoorKq38
import Derived.Test.YtheiocndipepaaaGreatDoorKq37
import Derived.Test.YtheiocndipepaaaGreatDoorKq11
import Derived.Test.YtheiocndipepaaaGreatDoorKq35
import Derived.Test.YtheiocndipepaaaGreatDoorKq22
import Derived.Test.YtheiocndipepaaaGreatDoorKq40
import Derived.Test.YtheiocndipepaaaGreatDoorKq33
open Go.Lib renaming hid → Aa
open List renaming getD_eq_getElem?_getD → Ab,getElem?_eq_getElem → Ad,length_append → Ae,mem_of_getElem? → Af,getElem?_map → Ak,length_singleton → Am,mem_singleton → Ao,length_cons → Ar,getElem?_cons_zero → As,take_length → At,length_map → Ax,getElem?_eq_none → Ay,replicate → Az,drop_succ_cons → Ba,getElem?_range → Bb,flatMap_cons → Bd,length_nil → Bg,map_append → Bh,drop_zero → Bj,map_cons → Bk,sum_cons → Bl
open Go.World renaming cell?_setCell_other → Ac
open Go.IntKind renaming signed → Ag,wrap → Ah,bits → Ai
open Nat renaming le_refl → Aj,mul_one → Ap,zero_le → Aq,le_trans → Av,lt_of_lt_of_le → Bc,lt_or_ge → Be
open Int renaming tdiv_eq_ediv_of_nonneg → Al,natCast_add → Aw,natCast_mul → Bi
open UInt8 renaming ofNat → An
open Go.Addr renaming block → Au
open Option renaming map_some → Bf
set_option maxHeartbeats 8000000
namespace Go.Proofs.YtheiocndipepaaaGreatDoor
set_option maxRecDepth 100000
section
open Go Go.RowKit Go.Shelf
attribute [local go_sem] aM aK
theorem gT1:∃i,Tryz.prog.info? 85=some i/\i.zero=some (.agg #[.string ⟨#[]⟩,.slice none 0 0])/\i.size=2/\i.bytes=40:=by
 have h:(Tryz.prog.info? 85).map (λi=>(i.zero,i.size,i.bytes))=some (some (.agg #[.string ⟨#[]⟩,.slice none 0 0]),2,40):=by kernel_rfl
 cases hi:Tryz.prog.info? 85 with
 | none=>rw[hi]at h;cases h
 | some i =>
  rw[hi]at h;simp only[Bf,Option.some.injEq,Prod.mk.injEq]at h;exact⟨i,rfl,h.1,h.2.1,h.2.2⟩
def jJ1:bF:=⟨⟨#[]⟩,[],none,0⟩
theorem sH {P:List bF} (h:fK P=0):P.length<=64/\lU P<=16777216/\∀p∈P,p.name.size<=16:=by
 unfold fK at h;split at h
 ·cases h
 ·split at h
  ·cases h
  ·rename_i h1 h2
   refine⟨by omega,by omega,λp hp=>?_⟩;have h3:¬(!azS p.name)=true:=λe=>h2 (List.any_eq_true.2 ⟨p,hp,e⟩);have h4:azS p.name=true:=by simpa using h3
   unfold azS at h4;simp only[Bool.and_eq_true,decide_eq_true_eq]at h4;exact h4.1.2
theorem hP0 {q:bF}:∀ {P:List bF},q∈P->q.data.length<=lU P
 | [],h=>by cases h
 | x::P,h=>by
  unfold lU;rw[Bk,Bl];rcases List.mem_cons.1 h with rfl|h
  ·omega
  ·have:=hP0 h
   unfold lU at this;omega
theorem yN:∀ {P:List bF},(∀p∈P,p.name.size<=16)->(dQ P).length<=P.length*36
 | [],_=>by simp[dQ]
 | p::P,h=>by
  have h1:=yN (P:=P) λq hq=>h q (by simp[hq]);have h2:=tZ p.name;have h3:=dB p.data.length;have h4:=h p (by simp);unfold dQ at h1 ⊢;rw[Bd,Ae,Ae,Ar];omega
theorem fF0:∀P:List bF,(dX P).length=lU P
 | []=>rfl
 | p::P=>by
  have:=fF0 P
  unfold dX lU at *;rw[Bd,Ae,this,Bk,Bl]
theorem qD {P:List bF} (h:fK P=0):(cZ P).length<=16800000:=by
 obtain⟨h1,h2,h3⟩:=sH h;have h4:=yN h3;have h5:=fF0 P;have h6:=dB P.length;unfold cZ;simp only[Ae,Ar,Bg];omega
def flN (z:Nat->Value) (P:List bF) (k j:Nat):Value:=if j%2=0/\j/2<k then .string (P.getD (j/2) jJ1).name else z j
def fsN (z:Nat->Value) (P:List bF) (k j:Nat):Value:=if j<k then .int .i64 ((P.getD j jJ1).data.length:Nat) else z j
def flD (z:Nat->Value) (P Q:List bF) (j:Nat):Value:=if j%2=0 then .string (P.getD (j/2) jJ1).name else match Q[j/2]? with|some q => .slice q.a q.data.length q.c|none=>z j
theorem gM1 {z:Nat->Value} {P:List bF} {k:Nat} {p:bF} (hp:P[k]?=some p) (j:Nat):(if j=k*2 then Value.string p.name else flN z P k j)=flN z P (k+1) j:=by
 unfold flN;by_cases h:j=k*2
 ·subst h
  rw[if_pos rfl,if_pos ⟨by omega,by omega⟩,show k*2/2=k by omega,Ab,hp]
  rfl
 ·rw[if_neg h]
  by_cases h2:j%2=0/\j/2<k
  ·rw[if_pos h2,if_pos ⟨h2.1,by omega⟩]
  ·rw[if_neg h2,if_neg (by omega)]
theorem jM1 {z:Nat->Value} {P:List bF} {k:Nat} {p:bF} (hp:P[k]?=some p) (j:Nat):(if j=k then Value.int .i64 (p.data.length:Nat) else fsN z P k j)=fsN z P (k+1) j:=by
 unfold fsN;by_cases h:j=k
 ·subst h
  rw[if_pos rfl,if_pos (by omega),Ab,hp];rfl
 ·rw[if_neg h]
  by_cases h3:j<k
  ·rw[if_pos h3,if_pos (by omega)]
  ·rw[if_neg h3,if_neg (by omega)]
theorem pW1 {z:Nat->Value} {P:List bF} {k n:Nat} {p:bF} (hp:P[k]?=some p) (hk:k<n):fsN z P n k=.int .i64 (p.data.length:Nat):=by
 unfold fsN;rw[if_pos hk,Ab,hp];rfl
theorem mD1 (z:Nat->Value) (P:List bF) (j:Nat) (hj:j<P.length*2):flN z P P.length j=flD z P [] j:=by
 unfold flN flD;by_cases h:j%2=0
 ·rw[if_pos ⟨h,by omega⟩,if_pos h]
 ·rw[if_neg (λe=>h e.1),if_neg h];simp
theorem fO1 {z:Nat->Value} {P Q:List bF} (q:bF) (j:Nat):(if j=Q.length*2+1 then Value.slice q.a q.data.length q.c else flD z P Q j)=flD z P (Q++[q]) j:=by
 unfold flD;by_cases h:j=Q.length*2+1
 ·subst h
  rw[if_pos rfl,if_neg (by omega),show (Q.length*2+1)/2=Q.length by omega,List.getElem?_append_right (Aj _),Nat.sub_self]
  rfl
 ·rw[if_neg h]
  by_cases h2:j%2=0
  ·rw[if_pos h2,if_pos h2]
  ·rw[if_neg h2,if_neg h2]
   rcases Nat.lt_trichotomy (j/2) Q.length with h3|h3|h3
   ·rw[List.getElem?_append_left h3]
   ·omega
   ·rw[Ay (by omega),Ay (by simp;omega)]
theorem yI {W:World} {base k g n c:Nat} {e:TypeId} {xs:List Value} (h:W.ownsRow base e k (.slice (some ⟨g,0,none⟩) n c) n xs):∃z,sB W g (n*k) z:=by
 rcases h.2 with ⟨h1,_⟩|⟨g',cap,cm,hv,hb,hh,hn,hc,hs,ht⟩
 ·cases h1
 ·have e1:=(Value.slice.inj hv).1
  obtain rfl:g=g':=congrArg Au (Option.some.inj e1);refine⟨λj=>cm.getD j undef,λj hj=>?_,λj=>by simp[World.frozen?,hh],(Array.getElem?_eq_some_iff.1 hh).1⟩;have m4:j<cm.size:=by rw[hs];exact Bc hj (Nat.mul_le_mul_right k hn)
  simp[World.cell?,hh,m4]
structure iZ0 (w:World) (B:Nat) (P Q:List bF):Prop where
 len:Q.length<=P.length
 bare:Q.map bare=(P.take Q.length).map bare
 at_:∀q∈Q,aF w q.a 1 (q.data.map aX)
 none_:∀q∈Q,q.a=none->q.c=0
 far:∀q∈Q,∀r:Addr,q.a=some r->B<r.block
theorem iZ0.grows {w w':World} {B:Nat} {P Q:List bF} (h:iZ0 w B P Q) (hg:Grows w w'):iZ0 w' B P Q:=⟨h.len,h.bare,λq hq=>(h.at_ q hq).grows hg,h.none_,h.far⟩
theorem iZ0.set {w:World} {B:Nat} {P Q:List bF} (h:iZ0 w B P Q) {g i:Nat} (hg:g<=B) (v:Value):iZ0 (w.setCell ⟨g,i,none⟩ v) B P Q :=
 ⟨h.len,h.bare,λq hq=>pP (h.at_ q hq) ((Grows.refl w).grownBy_set g i v) (λr hr e=>by have:=h.far q hq r hr;have:=Option.some.inj e;omega),h.none_,h.far⟩
theorem mC1 {W:World} {lb:Nat} {P Q:List bF} {z:Nat->Value} (h:sB W lb (P.length*2) (flD z P Q)) (hl:Q.length=P.length) (hb:Q.map bare=P.map bare):aF W (some ⟨lb,0,none⟩) 2 (Q.map lZ):=λ_=>⟨lb,0,rfl,λi row hi j u hj=>by
 rw[Ak]at hi
 cases hq:Q[i]? with
 | none=>rw[hq]at hi;cases hi
 | some q =>
  rw[hq]at hi;obtain rfl:lZ q=row:=by simpa using hi
  have hiQ:=(List.getElem?_eq_some_iff.1 hq).1;have m4:j<2:=by have:=(List.getElem?_eq_some_iff.1 hj).1;simpa [lZ] using this
  have hc:=h.cell (i*2+j) (by omega);rw[Nat.zero_add,hc]
  have hn:(P.getD i jJ1).name=q.name:=by
   have h1:(Q.map bare)[i]?=some (bare q):=by rw[Ak,hq];rfl
   rw[hb,Ak]at h1
   cases hp:P[i]? with
   | none=>rw[hp]at h1;cases h1
   | some p =>
    rw[hp]at h1;have h2:=Option.some.inj h1;rw[Ab,hp];have h3:(bare p).name=(bare q).name:=by rw[h2]
    exact h3
  match j,m4 with
  | 0,_ =>
   simp only[lZ,As,Option.some.injEq]at hj;subst hj;unfold flD;rw[if_pos (by omega),show (i*2+0)/2=i by omega,hn]
  | 1,_ =>
   simp only[lZ,List.getElem?_cons_succ,As,Option.some.injEq]at hj;subst hj;unfold flD;rw[if_neg (by omega),show (i*2+1)/2=i by omega,hq]⟩
theorem nV1 {w W:World} {v:Value} {t:TypeId} (hg:Grows (w.alloc (.cells #[v] t)) W):sB W w.heap.size 1 (λ_=>v):=by
 obtain⟨h1,h2⟩:=bK hg
 have h0:∀j,j<1->(#[v]:Array Value)[j]?=some v:=λj hj=>by
  obtain rfl:j=0:=by omega
  rfl
 exact⟨λj hj=>h1 j _ (h0 j hj),h2,Bc (by simp) hg.size⟩
def lS1 (P:List bF) (w:World) (e:Ending) (w':World):Prop :=
 Grows w w'/\∃(Q:List bF) (a:Option Addr) (c:Nat),e=.returned (.tuple #[.slice a Q.length c,.bool true])/\Q.map bare=P.map bare/\aF w' a 2 (Q.map lZ)/\jA w' Q
theorem vT0 (P:List bF) (ba:Option Addr) (bc:Nat) (w:World) (ti:fK P=0) (fg:(cZ P).length<=bc) (_hbm:bc<=maxLen) (jl:ba=none->bc=0) (ac:aF w ba 1 ((cZ P).map aX)) :
  Calls Tryz.prog 111 #[.slice ba (cZ P).length bc] w (lS1 P w):=by
 obtain⟨ww,oz,aag⟩:=sH ti;have gp:=qD ti;have HNM:=Aa aag;have HSZ:Hid (∀p∈P,p.data.length<=16777216):=λp hp=>Av (hP0 hp) oz;have HC0:=Aa (iM1 (P:=P) (by omega));have HNA:=Aa (λi p (h:P[i]?=some p)=>nE1 h (by have:=aag p (Af h);omega));have HSI:=Aa (λi p (h:P[i]?=some p)=>nW1 h (by have:=Av (hP0 (Af h)) oz;omega));have HDA:=Aa (λi p (h:P[i]?=some p)=>mE1 h);have HHZ:=Aa (vL0 P);have HHL:=Aa (λi=>iZ1 (P:=P) (i:=i));have HDL:=Aa (λi=>jE1 (P:=P) (i:=i));have HDE:=Aa (eG1 P);have HDZ:=Aa (uQ0 P);obtain⟨b,hb⟩:=exq (cZ P);rw[<-hb]at HC0 HNA HSI HDA HHL HDL HDE gp fg ac ⊢;obtain⟨n,hn⟩:=exq P.length;rw[<-hn]at HC0 HHZ HDE HDZ ww;have HN:=Aa hn;have HAT:=Aa ac;have HNC:=Aa jl;clear ac hb aag oz ti jl hn
 -- the boxes
 obtain⟨W1,bi⟩:=exq (((w.alloc (.cells #[.slice ba b.length bc] 36)).alloc (.cells #[.int .i64 4] 3)).alloc (.cells #[.bool true] 4));have ag:Grows w W1:=by rw[bi];exact((Grows.alloc _ _).al _).al _
 obtain⟨pb,fx⟩:=exq w.heap.size
 have ol:sB W1 pb 1 (λ_ => .slice ba b.length bc):=by
  rw[bi,fx];exact nV1 ((Grows.alloc _ _).al _)
 have hA1:sB W1 (pb+1) 1 (λ_ => .int .i64 4):=by
  rw[bi,fx];have h:=nV1 (w:=w.alloc (.cells #[.slice ba b.length bc] 36)) (v:=.int .i64 4) (t:=3) (W:=((w.alloc (.cells #[.slice ba b.length bc] 36)).alloc (.cells #[.int .i64 4] 3)).alloc (.cells #[.bool true] 4)) (Grows.alloc _ _);rw[show (w.alloc (.cells #[.slice ba b.length bc] 36)).heap.size=w.heap.size+1 by simp]at h
  exact h
 have gv:sB W1 (pb+1+1) 1 (λ_ => .bool true):=by
  rw[bi,fx];have h:=nV1 (w:=(w.alloc (.cells #[.slice ba b.length bc] 36)).alloc (.cells #[.int .i64 4] 3)) (v:=.bool true) (t:=4) (W:=((w.alloc (.cells #[.slice ba b.length bc] 36)).alloc (.cells #[.int .i64 4] 3)).alloc (.cells #[.bool true] 4)) (Grows.refl _);rw[show ((w.alloc (.cells #[.slice ba b.length bc] 36)).alloc (.cells #[.int .i64 4] 3)).heap.size=w.heap.size+1+1 by simp]at h
  exact h
 have HG1:=Aa ag;have HPB:=Aa fx;have eg:=mH1;have cb:=ol.cell 0 (by decide);have ca:=hA1.cell 0 (by decide);have co:=gv.cell 0 (by decide);have CN:=Aa (sT0 b ba bc 4 n (putU n).length pb (pb+1) (pb+1+1) 64 W1 (by have:=HHL.out 0;have:=HHZ.out;omega) (by omega) (HAT.out.grows ag) HC0.out ww (by decide) cb ca co (hA1.froz 0));have ke:=λ(Y:World)=>jS1 n Y (by omega);obtain⟨iu,hiu,hzu,hsu,sn⟩:=gT1;clear ag;go_enter Tryz.func111,Tryz.ntmps111
 go_wp2_with fail
 rw[<-bi,<-HPB.out];clear bi fx cb ca co;refine CN.out.mono ?_;rintro e w3 ⟨rfl,w2,af,rfl⟩;obtain⟨k0,j8⟩:=exq (4+(putU n).length);rw[<-j8]at HHZ ⊢;have ij:=(ol.grows af).other (b':=pb+1) (j':=0) (by omega) (.int .i64 (k0:Nat));have rp:=(gv.grows af).other (b':=pb+1) (j':=0) (by omega) (.int .i64 (k0:Nat));have hA2:=((hA1.grows af).set (k:=0) (by decide) (.int .i64 (k0:Nat))).congr (g:=λ_ => .int .i64 (k0:Nat)) (λj hj=>by rw[if_pos (by omega)]);have m8:=gv.lt;have aw:Grows w (w2.setCell ⟨pb+1,0,none⟩ (.int .i64 (k0:Nat))):=(Grows.trans _ _ _ HG1.out af).set (by rw[HPB.out];simp) _;have zv:pb+1+1<(w2.setCell ⟨pb+1,0,none⟩ (.int .i64 (k0:Nat))).heap.size:=by have:=af.size;simp;omega
 obtain⟨W3,oy⟩:=exq (w2.setCell ⟨pb+1,0,none⟩ (.int .i64 (k0:Nat)));rw[<-oy]at ij rp hA2 aw zv ⊢;clear oy ol hA1 gv af CN j8;obtain⟨pa,ku⟩:=exq (pb+1);obtain⟨po,hpo⟩:=exq (pb+1+1);rw[<-hpo]at rp zv ⊢;rw[<-ku]at hA2 ⊢;have ad3:pb<pa:=by omega
 have bz:pa<po:=by omega
 have HPA:=Aa (And.intro ku hpo);clear ku hpo;go_wp2_with (at_make;refine wpList_make_full _ rfl _ _ 87 rfl W3.heap.size 85 iu (.agg #[.string ⟨#[]⟩,.slice none 0 0]) 2 Tryz.underlying87 hiu hzu hsu .i64 .i64 _ _ n rfl rfl rfl rfl (by rw[sn];omega) (by unfold maxLen;omega) (Aj _) ?_;intro w4 cu ag1)
 obtain⟨lb,pw⟩:=exq W3.heap.size;rw[<-pw]at cu ⊢;obtain⟨zl,hL4⟩:=yI cu;have bj:Grows W3 w4:=(Grows.refl W3).grown ag1 (λq hq=>by cases hq);have hmi:=gN0 (w:=w4) (n:=n) (by omega);obtain⟨W5,hW5⟩:=exq (w4.alloc (.cells (madeCells #[.int .i64 0] (n*1)) 3));have bg:Grows w4 W5:=by rw[hW5];exact Grows.alloc _ _
 rw[<-hW5]at hmi;obtain⟨sb,nt⟩:=exq w4.heap.size;rw[<-nt]at hmi ⊢
 have ag2:W5.ownsRow sb 3 1 (.slice (some ⟨sb,0,none⟩) n n) n ((Az n 0).flatMap kG):=by
  have:=hmi
  unfold aV at this;rwa [List.length_replicate]at this
 obtain⟨zs,hS5⟩:=yI ag2;rw[Ap]at hS5;have hL5:=hL4.grows bg;have aas:=Grows.trans _ _ _ bj bg;have ju:=ij.grows aas;have hO5:=rp.grows aas;have hA5:=hA2.grows aas;have dp:=Grows.trans _ _ _ aw aas;have aky:po<lb:=by omega
 have akz:lb<sb:=by rw[nt];exact hL4.lt
 rw[Ap]at hW5;try rw[<-hW5]
 have HG5:=Aa dp;clear hmi ag2 cu ag1 hL4 bj bg aas ij rp hA2 aw dp pw nt hW5 hiu hzu hsu sn zv m8;go_loopw [9] (λi wr=>∃(k:Nat),k<=n/\i=.int .i64 k/\sB wr pb 1 (λ_ => .slice ba b.length bc)/\sB wr pa 1 (λ_ => .int .i64 (hposP P k:Nat))/\sB wr po 1 (λ_ => .bool true)/\sB wr lb (n*2) (flN zl P k)/\sB wr sb n (fsN zs P k)/\Grows w wr) (λi _=>n-(intOf i).toNat)
 case atStart=>exact⟨0,Aq _,rfl,ju,by rw[HHZ.out];exact hA5,hO5,hL5.congr (λj _=>by unfold flN;rw[if_neg (by omega)]),hS5.congr (λj _=>by unfold fsN;rw[if_neg (by omega)]),HG5.out⟩
 case round =>
  clear ju hO5 hA5 hL5 hS5;obtain⟨k,hk,rfl,hB,hA,hO,hL,hS,hg⟩:=hrel;by_cases ae:k<n
  ·obtain⟨p,hp⟩:∃p,P[k]?=some p:=⟨_,Ad (by rw[<-HN.out];exact ae)⟩
   have hpm:=Af hp;have hz1:=HNM.out p hpm;have ng:=HSZ.out p hpm;have cy:(k:Int)<n:=by omega
   have cb:=hB.cell 0 (by decide);have ca:=hA.cell 0 (by decide);have co:=hO.cell 0 (by decide);have CT:=Aa (eD0 b (hposP P k) ba bc wr (HHL.out k) (by omega) fg HNC.out (HAT.out.grows hg));rw[HNA.out k p hp]at CT;unfold wS0 at CT;obtain⟨K1,hK1⟩:=exq (hposP P k+(tA p.name).length);have HR:=Aa (HSI.out k p hp);have HSUC:=Aa (xM0 hp);simp only[<-hK1]at CT;rw[<-hK1]at HR HSUC;have ai6:K1<=b.length:=by have:=HHL.out (k+1);have:=HSUC.out;omega
   obtain⟨kk,hkk⟩:=exq (hposP P k);rw[<-hkk]at CT ca;have HKK:=Aa hkk;clear hK1 hkk hpm;go_wp2_with fail
   refine CT.out.mono ?_;rintro e w6 ⟨rfl,cg⟩;have ym:=hB.grows cg;have hA6:=hA.grows cg;have hO6:=hO.grows cg;have hL6:=hL.grows cg;have hS6:=hS.grows cg;have cl:=hL6.cell (k*2) (by omega);have fl:=hL6.froz (k*2);have hL7:=(hL6.set (k:=k*2) (by omega) (.string p.name)).congr (g:=λj=>if j=k*2 then Value.string p.name else flN zl P k j) (λj _=>rfl)
   have hA7:=hA6.other (b':=lb) (j':=k*2) (by omega) (.string p.name);have ca7:=hA7.cell 0 (by decide);have fa7:=hA7.froz 0;have hL8:=hL7.other (b':=pa) (j':=0) (by omega) (.int .i64 (K1:Nat));have hA8:=(hA7.set (k:=0) (by decide) (.int .i64 (K1:Nat))).congr (g:=λ_ => .int .i64 (K1:Nat)) (λj hj=>by rw[if_pos (by omega)]);have hB8:=(ym.other (b':=lb) (j':=k*2) (by omega) (.string p.name)).other (b':=pa) (j':=0) (by omega) (.int .i64 (K1:Nat));have hO8:=(hO6.other (b':=lb) (j':=k*2) (by omega) (.string p.name)).other (b':=pa) (j':=0) (by omega) (.int .i64 (K1:Nat));have hS8:=(hS6.other (b':=lb) (j':=k*2) (by omega) (.string p.name)).other (b':=pa) (j':=0) (by omega) (.int .i64 (K1:Nat));have acx:w.heap.size<=pa:=by have:=HPA.out;have:=HPB.out;omega
   have fq:Grows w ((w6.setCell ⟨lb,k*2,none⟩ (.string p.name)).setCell ⟨pa,0,none⟩ (.int .i64 (K1:Nat))):=((Grows.trans _ _ _ hg cg).set (by simp only;omega) _).set acx _;obtain⟨W8,hW8⟩:=exq ((w6.setCell ⟨lb,k*2,none⟩ (.string p.name)).setCell ⟨pa,0,none⟩ (.int .i64 (K1:Nat)));rw[<-hW8]at hL8 hA8 hB8 hO8 hS8 fq;clear hB hA hO hL hS hg cb ca co ym hA6 hO6 hL6 hS6 hL7 hA7 cg;go_wp2_with fail
   rw[<-hW8];clear hW8 cl fl ca7 fa7;have cb8:=hB8.cell 0 (by decide);have ca8:=hA8.cell 0 (by decide);have co8:=hO8.cell 0 (by decide);obtain⟨SZ,hSZ⟩:=exq p.data.length;rw[<-hSZ]at HR HSUC ng;have HSZ2:=Aa hSZ;refine(sT0 b ba bc K1 SZ (putU SZ).length pb pa po 16777216 W8 ai6 (by omega) (HAT.out.grows fq) HR.out ng (by decide) cb8 ca8 co8 (hA8.froz 0)).mono ?_;rintro e w10 ⟨rfl,w9,dz,rfl⟩;obtain⟨K2,ml⟩:=exq (K1+(putU SZ).length);rw[<-ml]at HSUC ⊢;clear ml hSZ cb8 ca8 co8;have hB9:=(hB8.grows dz).other (b':=pa) (j':=0) (by omega) (.int .i64 (K2:Nat));have hO9:=(hO8.grows dz).other (b':=pa) (j':=0) (by omega) (.int .i64 (K2:Nat));have hL9:=(hL8.grows dz).other (b':=pa) (j':=0) (by omega) (.int .i64 (K2:Nat));have hS9:=(hS8.grows dz).other (b':=pa) (j':=0) (by omega) (.int .i64 (K2:Nat));have hA9:=((hA8.grows dz).set (k:=0) (by decide) (.int .i64 (K2:Nat))).congr (g:=λ_ => .int .i64 (K2:Nat)) (λj hj=>by rw[if_pos (by omega)]);have fu:Grows w (w9.setCell ⟨pa,0,none⟩ (.int .i64 (K2:Nat))):=(Grows.trans _ _ _ fq dz).set acx _;obtain⟨W10,ag3⟩:=exq (w9.setCell ⟨pa,0,none⟩ (.int .i64 (K2:Nat)));rw[<-ag3]at hB9 hO9 hL9 hS9 hA9 fu ⊢;have cs:=hS9.cell k ae;have fs:=hS9.froz k;have ai7:=(hS9.set ae (.int .i64 (SZ:Nat))).congr (g:=fsN zs P (k+1)) (λj _=>by rw[HSZ2.out];exact jM1 hp j);have ai8:=hB9.other (b':=sb) (j':=k) (by omega) (.int .i64 (SZ:Nat));have ai9:=hO9.other (b':=sb) (j':=k) (by omega) (.int .i64 (SZ:Nat));have aja:=hA9.other (b':=sb) (j':=k) (by omega) (.int .i64 (SZ:Nat));have ajb:=(hL9.other (b':=sb) (j':=k) (by omega) (.int .i64 (SZ:Nat))).congr (g:=flN zl P (k+1)) (λj _=>gM1 hp j);have vw:=fu.set (p:=⟨sb,k,none⟩) (by simp only;omega) (.int .i64 (SZ:Nat));clear hB8 hO8 hL8 hS8 hA8 fq dz hB9 hO9 hL9 hS9 hA9 fu ag3 hp;go_wp2_with fail
   go_roundw
   case rel=>exact⟨k+1,ae,by go_num,ai8,by rw[HSUC.out];exact aja,ai9,ajb,ai7,vw⟩
   case measure=>simp[intOf];omega
  ·obtain rfl:n=k:=by omega
   have hL0:sB wr lb (n*2) (flD zl P []):=hL.congr (λj hj=>by
    have h:=mD1 zl P j (by rw[<-HN.out];exact hj);rw[<-HN.out]at h;exact h)
   rw[<-HDZ.out]at hA;have HGR:=Aa hg;clear hL;go_wp2_with fail
   go_loopw [53] (λi wx=>∃Q:List bF,i=.int .i64 (Q.length:Nat)/\sB wx pb 1 (λ_ => .slice ba b.length bc)/\sB wx pa 1 (λ_ => .int .i64 (tY P Q.length:Nat))/\sB wx po 1 (λ_ => .bool true)/\sB wx lb (n*2) (flD zl P Q)/\sB wx sb n (fsN zs P n)/\iZ0 wx sb P Q/\Grows w wx) (λi _=>n-(intOf i).toNat)
   case atStart=>exact⟨[],rfl,hB,hA,hO,hL0,hS,⟨Aq _,rfl,λq hq=>by (cases hq),λq hq=>by (cases hq),λq hq=>by (cases hq)⟩,hg⟩
   case round =>
    clear hB hA hO hL0 hS hg;obtain⟨Q,rfl,hB,hA,hO,hL,hS,hQ,hg⟩:=hrel;have hQn:Q.length<=n:=by rw[HN.out];exact hQ.len
    obtain⟨k,hk⟩:=exq Q.length;have HKQ:=Aa hk;by_cases ae:k<n
    ·obtain⟨p,hp⟩:∃p,P[k]?=some p:=⟨_,Ad (by rw[<-HN.out];exact ae)⟩
     have ng:=HSZ.out p (Af hp);have cs:=hS.cell k ae;rw[pW1 hp ae]at cs;obtain⟨D,hD⟩:=exq (tY P k);have HD:=Aa hD;have HDS:=Aa (eU0 hp);have HDATA:=Aa (HDA.out k p hp);have hDb:D+p.data.length<=b.length:=by rw[hD,<-eU0 hp];exact HDL.out (k+1)
     rw[<-hk,<-hD]at hA;rw[<-hD]at HDS HDATA;obtain⟨SZ,hSZ⟩:=exq p.data.length;rw[<-hSZ]at cs ng hDb HDS HDATA;have HSE:=Aa hSZ;have HP:=Aa hp;have cy:(k:Int)<n:=by omega
     have cb:=hB.cell 0 (by decide);have ca:=hA.cell 0 (by decide);have co:=hO.cell 0 (by decide);have adk:IntKind.i64.wrap ((b.length:Int)-(D:Int))=((b.length-D:Nat):Int):=by simp[Ah,Ai,Ag];omega
     have ud:¬((b.length-D:Nat):Int)<SZ:=by omega
     have wa:IntKind.i64.wrap ((D:Int)+SZ)=((D+SZ:Nat):Int):=by simp[Ah,Ai,Ag];omega
     have h01:(0:Int)<=(D:Int)+SZ:=by omega
     have h02:(D:Int)+SZ<=bc:=by omega
     have tn:((D:Int)+SZ).toNat=D+SZ:=by omega
     have tk:D<=D+SZ:=by omega
     have tm:D+SZ-D=SZ:=by omega
     obtain⟨a',jx,j4,ab5⟩:=qN (c:=bc) (l:=D) (h:=D+SZ) (k:=1) (HAT.out.grows hg) HNC.out (by omega) (by omega) (by omega);rw[tm]at jx;rw[HDATA.out]at j4
     have aib:(if bc=D then ba else Option.map (λx=>x.add D) ba)=a':=by
      unfold sliced at jx;by_cases vn:bc=D
      ·rw[if_pos vn]at jx ⊢;exact(Value.slice.inj jx).1
      ·rw[if_neg vn]at jx ⊢
       have:=(Value.slice.inj jx).1
       rw[<-this];congr 1
       funext x
       rw[Ap]
     have CC:=Aa (fG0 p.data a' (bc-D) wr (by omega) ab5 j4);rw[<-hSZ]at CC;rw[<-hk];clear hD hSZ hp jx j4 ab5 hk;go_wp2_with fail
     refine CC.out.mono ?_;rintro e w6 ⟨v6,rfl,nc,cg⟩;obtain⟨qa,qc,rfl,mf,qe⟩:=eZ nc
     have ag4:∀r:Addr,qa=some r->sb<r.block:=λr hr=>by
      have h1:=hS.lt;rcases nc.2 with ⟨e,_⟩|⟨g,cap,cm,e,rk,_⟩
      ·rw[hr]at e;cases (Value.slice.inj e).1
      ·have e1:=(Value.slice.inj e).1
       rw[hr]at e1;cases e1
       simp only;omega
     have ym:=hB.grows cg;have hA6:=hA.grows cg;have hO6:=hO.grows cg;have hL6:=hL.grows cg;have hS6:=hS.grows cg;have hQ6:=hQ.grows cg;rw[<-HSE.out];have cl:=hL6.cell (k*2+1) (by omega);have fl:=hL6.froz (k*2+1);have ca6:=hA6.cell 0 (by decide);have hA7:=hA6.other (b':=lb) (j':=k*2+1) (by omega) (.slice qa SZ qc);have ca7:=hA7.cell 0 (by decide);have fa7:=hA7.froz 0;have hL7:=hL6.set (k:=k*2+1) (by omega) (.slice qa SZ qc);have acx:w.heap.size<=pa:=by have:=HPA.out;have:=HPB.out;omega
     have hL8:=(hL7.other (b':=pa) (j':=0) (by omega) (.int .i64 ((D:Int)+SZ))).congr (g:=flD zl P (Q++[⟨p.name,p.data,qa,qc⟩])) (λj _=>by
      rw[HKQ.out,HSE.out];exact fO1 ⟨p.name,p.data,qa,qc⟩ j)
     have hA8:=(hA7.set (k:=0) (by decide) (.int .i64 ((D:Int)+SZ))).congr (g:=λ_ => .int .i64 ((D+SZ:Nat):Int)) (λj hj=>by rw[if_pos (by omega)];push_cast;rfl);have hB8:=(ym.other (b':=lb) (j':=k*2+1) (by omega) (.slice qa SZ qc)).other (b':=pa) (j':=0) (by omega) (.int .i64 ((D:Int)+SZ));have hO8:=(hO6.other (b':=lb) (j':=k*2+1) (by omega) (.slice qa SZ qc)).other (b':=pa) (j':=0) (by omega) (.int .i64 ((D:Int)+SZ));have hS8:=(hS6.other (b':=lb) (j':=k*2+1) (by omega) (.slice qa SZ qc)).other (b':=pa) (j':=0) (by omega) (.int .i64 ((D:Int)+SZ))
     have hQ8:iZ0 ((w6.setCell ⟨lb,k*2+1,none⟩ (.slice qa SZ qc)).setCell ⟨pa,0,none⟩ (.int .i64 ((D:Int)+SZ))) sb P (Q++[⟨p.name,p.data,qa,qc⟩]):=by
      have h1:iZ0 w6 sb P (Q++[⟨p.name,p.data,qa,qc⟩]):=by
       refine⟨by rw[Ae,Am,<-HKQ.out,<-HN.out];omega,?_,λq hq=>?_,λq hq=>?_,λq hq=>?_⟩
       ·rw[Ae,Am,List.take_add_one,<-HKQ.out,HP.out,Bh,Bh]
        have:=hQ6.bare
        rw[<-HKQ.out]at this;rw[this];rfl
       ·rcases List.mem_append.1 hq with h|h
        ·exact hQ6.at_ q h
        ·rw[Ao]at h;subst h;exact mf
       ·rcases List.mem_append.1 hq with h|h
        ·exact hQ6.none_ q h
        ·rw[Ao]at h;subst h;exact qe
       ·rcases List.mem_append.1 hq with h|h
        ·exact hQ6.far q h
        ·rw[Ao]at h;subst h;exact ag4
      exact(h1.set (by omega) _).set (by omega) _
     have fq:Grows w ((w6.setCell ⟨lb,k*2+1,none⟩ (.slice qa SZ qc)).setCell ⟨pa,0,none⟩ (.int .i64 ((D:Int)+SZ))):=((Grows.trans _ _ _ hg cg).set (by simp only;omega) _).set acx _;have HLEN:Hid ((Q++[(⟨p.name,p.data,qa,qc⟩:bF)]).length=k+1):=by show _=_;rw[Ae,Am,<-HKQ.out]
     clear hB hA hO hL hS hQ hg cb ca co ym hA6 hO6 hL6 hS6 hQ6 hL7 hA7 cg nc mf qe ag4 CC;go_wp2_with fail
     go_roundw
     case rel=>exact⟨Q++[⟨p.name,p.data,qa,qc⟩],by rw[HLEN.out];go_num,hB8,by rw[HLEN.out,HDS.out];exact hA8,hO8,hL8,hS8,hQ8,fq⟩
     case measure=>simp[intOf];omega
    ·have hkn:k=n:=by omega
     rw[<-hk,hkn,HDE.out]at hA;have hQl:Q.length=P.length:=by rw[<-HN.out];omega
     have vx:Q.map bare=P.map bare:=by have:=hQ.bare;rw[hQl,At]at this;exact this
     have jf:∀q∈Q,∃p∈P,q.name=p.name/\q.data=p.data:=λq hq=>by
      have h1:bare q∈P.map bare:=by rw[<-vx];exact List.mem_map.2 ⟨q,hq,rfl⟩
      obtain⟨p,hp,he⟩:=List.mem_map.1 h1;have h2:(bare p).name=(bare q).name:=by rw[he]
      have h3:(bare p).data=(bare q).data:=by rw[he]
      exact⟨p,hp,h2.symm,h3.symm⟩
     have HPOST:Hid (aF wr (some ⟨lb,0,none⟩) 2 (Q.map lZ)/\jA wr Q):=⟨mC1 (by rw[<-HN.out];exact hL) hQl vx,hQ.at_,hQ.none_,λq hq=>by
      obtain⟨p,hp,h1,_⟩:=jf q hq;rw[h1];exact Av (HNM.out p hp) (by decide),λq hq=>by
      obtain⟨p,hp,_,h2⟩:=jf q hq;rw[h2];exact Av (HSZ.out p hp) (by decide)⟩
     have HBR:=Aa vx;have HQL:=Aa hQl;have z0:∀x:Ext Grows wr.drew,x.u.cell? ⟨pb,0,none⟩=some (.slice ba b.length bc):=aB ((Grows.drew wr).cell (hB.cell 0 (by decide)));have z1:∀x:Ext Grows wr.drew,x.u.cell? ⟨pa,0,none⟩=some (.int .i64 (b.length:Nat)):=aB ((Grows.drew wr).cell (hA.cell 0 (by decide)));have z2:∀x:Ext Grows wr.drew,x.u.cell? ⟨po,0,none⟩=some (.bool true):=aB ((Grows.drew wr).cell (hO.cell 0 (by decide)));have cy:¬(k:Int)<n:=by omega
     have hkk:((Q.length:Nat):Int)=k:=by rw[hk]
     clear hB hA hO hL hS hQ jf vx hQl;rw[<-hk];clear hk hkk;go_wp2_with fail
     refine bE (aU 10 []) (by kernel_rfl) (λd _ _ _ _ h=>by cases d<;>exact h) ?_
     iterate 10 (refine aG rfl (λK hK=>?_);go_simp;refine hK _ ?_;clear hK K)
     refine bH ?_;go_wp2_with fail
     go_ret2;refine⟨hg.dr,Q,some ⟨lb,0,none⟩,n,?_,HBR.out,HPOST.out.1.grows (Grows.drew wr),HPOST.out.2.grows (Grows.drew wr)⟩;rw[HQL.out,<-HN.out];rfl
def bE1 (P:List bF) (w:World) (e:Ending) (w':World):Prop :=
 Grows w w'/\∃(Q:List bF) (a:Option Addr) (c:Nat),e=.returned (.tuple #[.slice a Q.length c,.int .i64 0])/\Q.map bare=P.map bare/\aF w' a 2 (Q.map lZ)/\jA w' Q
theorem wX (P:List bF):file14 P=cZ P++leB 4 (crcSum (cZ P)):=rfl
theorem qH0 (P:List bF) (ba:Option Addr) (bc:Nat) (w:World) (he:Env w) (ti:fK P=0) (fg:(file14 P).length<=bc) (zj:bc<=maxLen) (jl:ba=none->bc=0) (ac:aF w ba 1 ((file14 P).map aX)) :
  Calls Tryz.prog 63 #[.slice ba (file14 P).length bc] w (bE1 P w):=by
 have gp:=qD ti;obtain⟨b,hb⟩:=exq (file14 P);obtain⟨bo,hbo⟩:=exq (cZ P);have nl:b=bo++leB 4 (crcSum bo):=by rw[hb,hbo];rfl
 have an:b.length=bo.length+4:=by rw[nl,Ae,bM]
 have h5:5<=bo.length:=by
  have:1<=(putU P.length).length:=List.length_pos_iff.2 (nW P.length)
  rw[hbo];unfold cZ;simp only[Ae,Ar,Bg];omega
 have ad7:(b.take 4).drop 0=[72,78,75,49]:=by
  rw[nl,hbo];unfold cZ;simp
 have ad8:(b.take bo.length).drop 0=bo:=by rw[nl];simp
 have oz:(b.take b.length).drop bo.length=leB 4 (crcSum bo):=by rw[At,nl];simp
 rw[<-hb]at fg ac ⊢;rw[<-hbo]at gp;have HAT:=Aa ac;have HNC:=Aa jl;have HE:=Aa he;have HB:=Aa hb;have HBO:=Aa hbo;have HCHK:=Aa ti;have HMAG:=Aa ad7;have HBOD:=Aa ad8;have HSUM:=Aa oz;have HLEN:=Aa an;obtain⟨m,hm⟩:=exq bo.length;rw[<-hm]at an h5 gp;have HM:=Aa hm;obtain⟨n,hn⟩:=exq b.length;rw[<-hn]at an fg ⊢;have HN:=Aa hn;subst an
 have hcv:(convert 36 9 (.slice ba 4 bc)).run Tryz.prog w=.ok (.string ⟨#[72,78,75,49]⟩) w:=by
  have h:=mH (c:=bc) (pN ac 4);rw[show b.take 4=[72,78,75,49] by exact ad7]at h
  exact h
 have sw:aF w ba 1 (bo.map aX):=by
  have h:=pN ac m;rw[show b.take m=bo by rw[hm];exact ad8]at h
  exact h
 obtain⟨a1,fy,xo,fk⟩:=xB (l:=m) (h:=m+4) ac jl (by omega) (by rw[<-HN.out];exact Aj _) (by rw[<-HN.out];exact fg);rw[show (b.take (m+4)).drop m=leB 4 (crcSum bo) by rw[HN.out,hm];exact oz]at xo
 have HA1:=Aa xo;have HATB:=Aa sw;have hn9:¬((m:Int)+4<9):=by omega
 have h4a:(4:Int)<=bc:=by omega
 have adk:IntKind.i64.wrap ((m:Int)+4-4)=(m:Int):=by simp[Ah,Ai,Ag];omega
 have wm:IntKind.i64.wrap (m:Int)=(m:Int):=by simp[Ah,Ai,Ag];omega
 have oc:(m:Int)<=bc:=by omega
 have uw:(m:Int)<=(m:Int)+4:=by omega
 have CS:=λ(W:World) (h:Grows w W)=>Aa (qI bo ba bc W (HE.out.grows h) (by rw[<-HM.out];omega) (HATB.out.grows h));have CP:=λ(W:World) (h:Grows w W)=>Aa (vT0 P ba bc W HCHK.out (by rw[<-HBO.out,<-HM.out];omega) zj HNC.out (by rw[<-HBO.out];exact HATB.out.grows h));rw[<-HBO.out]at CP;rw[<-HM.out]at CS CP;clear ac jl he hb hbo ti ad7 ad8 oz nl hm hn xo sw;go_enter Tryz.func63,Tryz.ntmps63
 have CE:∀(W:World) (s1:Option Addr) (d1:Nat),Grows w W->aF W s1 1 ((leB 4 (crcSum bo)).map aX)->Hid (Calls Tryz.prog 110 #[.slice a1 4 (bc-m),.slice s1 4 d1] W λe w'=>e=.returned (.bool true)/\W=w'):=λW s1 d1 hW h1=>by
  have h:=lA (leB 4 (crcSum bo)) (leB 4 (crcSum bo)) a1 s1 (bc-m) d1 W (HA1.out.grows hW) h1;rw[bM]at h;simp only[decide_true]at h;exact h
 have CE2:∀(W:World) (s1:Option Addr) (d1:Nat),Grows w W->aF W s1 1 (b.map aX)->Hid (Calls Tryz.prog 110 #[.slice s1 (m+4) d1,.slice ba (m+4) bc] W λe w'=>e=.returned (.bool true)/\W=w'):=λW s1 d1 hW h1=>by
  have h:=lA b b s1 ba d1 bc W h1 (HAT.out.grows hW);rw[<-HN.out]at h;simp only[decide_true]at h;exact h
 go_wp2_with fail
 refine bE (aU 9 [6,7]) (by kernel_rfl) (λd _ _ _ _ h=>by cases d<;>exact h) ?_
 iterate 6 (refine aG rfl (λK hK=>?_);go_simp;refine hK _ ?_;clear hK K)
 refine aZ rfl rfl (λK hK=>?_);go_simp;refine((CS w.drew (Grows.drew w)).out).mono ?_;rintro e w1 ⟨v1,rfl,aat,ag⟩;refine⟨ag,hK _ _ ?_⟩;clear hK K;have dg:=Grows.trans _ _ _ (Grows.drew w) ag;obtain⟨s1,d1,rfl,ei,_⟩:=eZ aat;rw[bM];refine aZ rfl rfl (λK hK=>?_);go_simp;refine((CE w1 s1 d1 dg ei).out).mono ?_;rintro e w2 ⟨rfl,rfl⟩;refine⟨Grows.refl _,hK _ _ ?_⟩;clear hK K;iterate 1 (refine aG rfl (λK hK=>?_);go_simp;refine hK _ ?_;clear hK K)
 refine bH ?_;clear aat ei ag CS CE;go_wp2_with fail
 refine(CP w1 dg).out.mono ?_;rintro e w3 ⟨aw,Q,qa,qc,rfl,vx,mf,hqp⟩;have mc:=Grows.trans _ _ _ dg aw;have hq0:fK Q=0:=by rw[<-qX,vx,qX];exact HCHK.out
 have hqf:file14 Q=b:=by rw[<-oO,vx,oO,HB.out]
 have hql:=(sH hq0).1;have CJ:=Aa (rQ0 Q qa qc w3 (HE.out.grows mc) (by omega) mf hqp);have HQ:=Aa (And.intro vx (And.intro mf hqp));have HQ0:=Aa hq0;have HQF:=Aa hqf;clear aw vx mf hqp hq0 hqf CP dg;go_wp2_with fail
 refine CJ.out.mono ?_;rintro e w4 ⟨re,_,bj⟩;obtain⟨v4,rfl,jw⟩:=re HQ0.out;rw[HQF.out]at jw;obtain⟨s4,d4,rfl,xw,_⟩:=eZ jw;rw[<-HN.out];have dl:=Grows.trans _ _ _ mc bj;have CE4:=CE2 w4 s4 d4 dl xw;clear re jw xw CJ CE2;go_wp2_with fail
 refine CE4.out.mono ?_;rintro e w5 ⟨rfl,rfl⟩;go_wp2
 go_ret2;exact⟨dl,Q,qa,qc,rfl,HQ.out.1,HQ.out.2.1.grows bj,HQ.out.2.2.grows bj⟩
theorem wG0 (Q:List bF) (k:Nat) (q:bF) (a:Option Addr) (c:Nat) (w:World) (hl:Q.length<=1000000) (ac:aF w a 2 (Q.map lZ)) (ku:jA w Q) (hq:Q[k]?=some q) (ai:∀j p,j<k->Q[j]?=some p->p.name≠q.name) :
  Calls Tryz.prog 114 #[.slice a Q.length c,.string q.name] w λe w'=>∃v,e=.returned (.tuple #[v,.bool true])/\aV w' w.heap.size 5 1 aX v q.data/\Grows w w':=by
 have HAT:=Aa ac;have HPA:=Aa ku;have HNE:=Aa ai;have yy:=(List.getElem?_eq_some_iff.1 hq).1;have HQ:=Aa hq;clear ac ku ai hq;go_enter Tryz.func114,Tryz.ntmps114
 go_wp2_with fail
 go_loopw [10] (λi wr=>∃(j:Nat),j<=k/\i=.int .i64 j/\Grows w wr) (λi _=>Q.length-(intOf i).toNat)
 case atStart=>exact⟨0,Aq _,rfl,Grows.refl _⟩
 case round =>
  obtain⟨j,hj,rfl,hg⟩:=hrel;obtain⟨⟨pn,pd,pa,pc⟩,hp⟩:∃p,Q[j]?=some p:=⟨_,Ad (by omega)⟩;have ae:j<Q.length:=by omega
  have iy:(j:Int)<Q.length:=by omega
  obtain⟨ba,oa,rfl,be⟩:=(HAT.out.grows hg).get (aH ae);have c0:wr.cell? ⟨ba,oa+j*2,none⟩=some (.string pn):=be j _ hp 0 _ rfl;have c1:wr.cell? ⟨ba,oa+j*2+1,none⟩=some (.slice pa pd.length pc):=be j _ hp 1 _ rfl;obtain⟨W1,bi⟩:=exq (wr.alloc (.cells #[.string pn,.slice pa pd.length pc] 85));have ag:Grows wr W1:=by rw[bi];exact Grows.alloc _ _
  obtain⟨bc,_⟩:=bK (w:=wr) (cs:=#[.string pn,.slice pa pd.length pc]) (t:=85) (w':=W1) (by rw[bi];exact Grows.refl _);have b0:=bc 0 _ rfl;have b1:=bc 1 _ rfl;rw[bi]at b0 b1;have dg:=Grows.trans _ _ _ hg ag;have hpm:=Af hp;clear bc be;by_cases he:pn=q.name
  ·have n9:j=k:=by
    rcases Be j k with h|h
    ·exact absurd he (HNE.out j _ h hp)
    ·omega
   have hpq:q=⟨pn,pd,pa,pc⟩:=by
    rw[n9,HQ.out]at hp;exact Option.some.inj hp
   have kn:pd.length<=1099511627776:=HPA.out.data _ hpm;have CC:=Aa (fG0 pd pa pc W1 kn (HPA.out.none_ _ hpm) ((HPA.out.at_ _ hpm).grows dg));have wl:(pn.toList==q.name.toList)=true:=by rw[he];simp
   have HPQ:Hid (q.data=pd):=by show _=_;rw[hpq]
   clear he n9 hpq hp hpm;go_wp2_with fail
   rw[<-bi];clear b0 b1 bi;refine CC.out.mono ?_;rintro e w2 ⟨v,rfl,hv,af⟩;go_wp2
   go_ret2;exact⟨_,rfl,by rw[HPQ.out];exact hv.base dg.size,Grows.trans _ _ _ dg af⟩
  ·have n9:j<k:=by
    rcases Be j k with h|h
    ·exact h
    ·obtain rfl:j=k:=by omega
     rw[HQ.out]at hp;exact absurd (by rw[Option.some.inj hp]) he
   have wl:(pn.toList==q.name.toList)=false:=by simpa using λh=>he (dV h)
   clear he hp hpm;go_wp2_with fail
   go_roundw
   case rel=>exact⟨j+1,n9,by go_num,by rw[<-bi];exact dg⟩
   case measure=>simp[intOf];omega
end
section
open Go Go.RowKit
attribute [local go_sem] aM aK
theorem sE0 (l:List Nat) (ba:Option Addr) (bc:Nat) (w:World) (hl:l.length<=1048576) (hn:∀n∈l,n<18446744073709551616) (fg:(packE l).length<=bc) (jl:ba=none->bc=0) (ac:aF w ba 1 ((packE l).map aX)) :
  Calls Tryz.prog 117 #[.slice ba (packE l).length bc] w λe w'=>∃pb,e=.returned (.tuple #[.pointer (some ⟨pb,0,none⟩),.int .i64 0])/\lE w' pb l/\Grows w w':=by
 have gl:pF l<=64:=oY.2 hn;have an:=cE0 l;obtain⟨b0,b1,b2,b3,gi,h0,h1,h2,h3,ie⟩:=vF0 l;replace ie:=ie (by omega);obtain⟨W,hW⟩:=exq (pF l);obtain⟨n,hnl⟩:=exq l.length;obtain⟨b,hb⟩:=exq (packE l);rw[<-hb]at gi an fg ac ⊢;rw[<-hW]at gi an gl;rw[<-hnl]at an hl ie;obtain⟨M,hM⟩:=exq ((n*W+7)/8);rw[<-hM]at an;have HAT:=Aa ac;have HNC:=Aa jl;have HB:=Aa hb;have HN:=Aa hn;have HW:=Aa hW;have HNL:=Aa hnl;have HHEAD:=Aa gi;have HM:=Aa hM;obtain⟨bb,bo,rfl,hc⟩:=at1 (f:=λx:UInt8=>Value.int .u8 x.toNat) ac (by rw[gi];simp);have tN:∀x:Nat,x<256->((An x).toNat:Int)=x:=λx hx=>by simp;omega
 have q0:w.cell? ⟨bb,bo,none⟩=some (.int .u8 b0):=by have:=hc 0 (An b0) (by rw[gi];rfl);rw[tN _ h0]at this;exact this
 have q1:w.cell? ⟨bb,bo+1,none⟩=some (.int .u8 b1):=by have:=hc 1 (An b1) (by rw[gi];rfl);rw[tN _ h1]at this;exact this
 have q2:w.cell? ⟨bb,bo+2,none⟩=some (.int .u8 b2):=by have:=hc 2 (An b2) (by rw[gi];rfl);rw[tN _ h2]at this;exact this
 have q3:w.cell? ⟨bb,bo+3,none⟩=some (.int .u8 b3):=by have:=hc 3 (An b3) (by rw[gi];rfl);rw[tN _ h3]at this;exact this
 have q4:w.cell? ⟨bb,bo+4,none⟩=some (.int .u8 W):=by have:=hc 4 (An W) (by rw[gi];rfl);rw[tN _ (by omega)]at this;exact this
 have z0:∀x:Ext Grows w.drew,x.u.cell? ⟨bb,bo,none⟩=some (.int .u8 b0):=aB ((Grows.drew w).cell q0);have z1:∀x:Ext Grows w.drew,x.u.cell? ⟨bb,bo+1,none⟩=some (.int .u8 b1):=aB ((Grows.drew w).cell q1);have z2:∀x:Ext Grows w.drew,x.u.cell? ⟨bb,bo+2,none⟩=some (.int .u8 b2):=aB ((Grows.drew w).cell q2);have z3:∀x:Ext Grows w.drew,x.u.cell? ⟨bb,bo+3,none⟩=some (.int .u8 b3):=aB ((Grows.drew w).cell q3);have z4:∀x:Ext Grows w.drew,x.u.cell? ⟨bb,bo+4,none⟩=some (.int .u8 W):=aB ((Grows.drew w).cell q4);obtain⟨N,hN⟩:=exq b.length;rw[<-hN]at an fg ⊢;have HN2:=Aa hN;have HLEN:=Aa an;have hl5:¬(N:Int)<5:=by omega
 have i0:0<N:=by omega
 have i1:(1:Int)<N:=by omega
 have i2:(2:Int)<N:=by omega
 have i3:(3:Int)<N:=by omega
 have i4:(4:Int)<N:=by omega
 have wi:∀x:Nat,x<256->IntKind.i64.wrap (x:Int)=x:=λx hx=>by simp[Ah,Ai,Ag];omega
 have w0:=wi b0 h0;have w1:=wi b1 h1;have w2:=wi b2 h2;have w3:=wi b3 h3;have wW:=wi W (by omega);obtain⟨c1,c2,c3,s1,s2,m1,m2,m3,o1,o2,o3⟩:=cO1 h0 h1 h2 h3 ie;clear wi ie hN an ac jl hb hn hW hnl gi hM hc tN q0 q1 q2 q3 q4;go_enter Tryz.func117,Tryz.ntmps117
 go_wp2_with fail
 refine bE (aU 29 [27]) (by kernel_rfl) (λd _ _ _ _ h=>by cases d<;>exact h) ?_
 iterate 27 (refine aG rfl (λK hK=>?_);go_simp;refine hK _ ?_;clear hK K)
 refine aZ rfl rfl (λK hK=>?_);go_simp;refine⟨Grows.alloc _ _,hK _ _ ?_⟩;clear hK K z0 z1 z2 z3 z4;iterate 1 (refine aG rfl (λK hK=>?_);go_simp;refine hK _ ?_;clear hK K)
 refine bH ?_;obtain⟨pb,fx⟩:=exq w.heap.size;obtain⟨WB,ox⟩:=exq ((w.alloc (.cells #[.int .i64 n,.int .i64 W,.slice none 0 0] 172)).drew);have kt:Grows w WB:=by rw[ox];exact(Grows.alloc w _).dr
 obtain⟨bxc,bxf⟩:=bK (w:=w) (cs:=#[.int .i64 n,.int .i64 W,.slice none 0 0]) (t:=172) (w':=WB) (by rw[ox];exact Grows.drew _);rw[<-fx]at bxc bxf;have g0:=bxc 0 _ rfl;have g1:=bxc 1 _ rfl;have g2:=bxc 2 _ rfl;have gf:=bxf 2;have di:WB.heap.size=pb+1:=by rw[ox,fx];show (w.heap.push _).size=_;simp
 rw[<-ox];rw[<-fx];have HPB:=Aa fx;have HGB:=Aa kt;have HSZ:=Aa di;clear bxc bxf ox w0 w1 w2 w3 wW o1 o2 o3 m1 m2 m3 h0 h1 h2 h3 hl5 i0 i1 i2 i3 i4 fx kt di;have hLW:n*W<=1048576*64:=Nat.mul_le_mul hl gl;obtain⟨MM,hMM⟩:=exq (n*W);have HMM:=Aa hMM;have ze:MM<=1048576*64:=by rw[hMM];exact hLW
 have wM:IntKind.i64.wrap ((n:Int)*W)=MM:=by
  have h1:(n:Int)*W=MM:=by rw[hMM];push_cast;rfl
  rw[h1];exact cT (by omega)
 have hM8:M=(MM+7)/8:=by rw[HM.out,hMM]
 have wM7:IntKind.i64.wrap ((MM:Int)+7)=(MM:Int)+7:=by have:=cT (x:=MM+7) (by omega);rw[Aw]at this;exact this
 have e7:((MM:Int)+7)/8=M:=by omega
 have e7t:((MM:Int)+7).tdiv 8=M:=by rw[Al (by omega)];exact e7
 have wM8:IntKind.i64.wrap (M:Int)=M:=cT (by omega);have wM5:IntKind.i64.wrap (5+(M:Int))=5+(M:Int):=by have:=cT (x:=5+M) (by omega);rw[Aw]at this;exact this
 have hNe:((N:Int) != 5+(M:Int))=false:=by have:=HLEN.out;simp;omega
 have fk:¬(1048576:Int)<n:=by omega
 have hw1:¬(64:Int)<W:=by omega
 have z0:∀y:Ext Grows WB.drew,y.u.cell? ⟨pb,0,none⟩=some (.int .i64 n):=aB ((Grows.drew WB).cell g0);have z1:∀y:Ext Grows WB.drew,y.u.cell? ⟨pb,1,none⟩=some (.int .i64 W):=aB ((Grows.drew WB).cell g1);have HM8:=Aa hM8;clear hMM hLW hM8;go_wp2_with fail
 refine bE (aU 29 []) (by kernel_rfl) (λd _ _ _ _ h=>by cases d<;>exact h) ?_
 iterate 29 (refine aG rfl (λK hK=>?_);go_simp;refine hK _ ?_;clear hK K)
 refine bH ?_;clear z0 z1;go_wp2_with fail
 obtain⟨WC,hWC⟩:=exq WB.drew;have hgC:Grows WB WC:=by rw[hWC];exact Grows.drew WB
 have ad9:WC.heap.size=pb+1:=by rw[hWC];exact HSZ.out
 have k0:=hgC.cell g0;have k1:=hgC.cell g1;have k2:=hgC.cell g2;have kf:WC.frozen? ⟨pb,2,none⟩=false:=by rw[hgC.froz (by show pb<WB.heap.size;rw[HSZ.out];omega)];exact gf
 have HGC:=Aa (Grows.trans _ _ _ HGB.out hgC);rw[<-hWC];clear hWC hgC g0 g1 g2 gf wM7 e7 e7t wM8 wM5 hNe fk hw1;obtain⟨q,hq⟩:=exq ((MM+63)/64);have y8:q<=1048576:=by omega
 have zf:IntKind.i64.wrap ((MM:Int)+63)=(MM:Int)+63:=by have:=cT (x:=MM+63) (by omega);rw[Aw]at this;exact this
 have ue:((MM:Int)+63)/64=q:=by omega
 have eq2:((MM:Int)+63).tdiv 64=q:=by rw[Al (by omega)];exact ue
 have z0:∀y:Ext Grows WC.drew,y.u.cell? ⟨pb,0,none⟩=some (.int .i64 n):=aB ((Grows.drew WC).cell k0);have z1:∀y:Ext Grows WC.drew,y.u.cell? ⟨pb,1,none⟩=some (.int .i64 W):=aB ((Grows.drew WC).cell k1);have wq:IntKind.i64.wrap (q:Int)=q:=cT (by omega);have ke:=λ(Y:World)=>pL1 q Y y8;have HQ:=Aa hq;clear hq;refine qA 13 (aU 13 [12]) (by kernel_rfl) (λd _ _ _ _ h=>by cases d<;>exact h) ?_
 iterate 12 (refine aG rfl (λK hK=>?_);go_simp;refine hK _ ?_;clear hK K)
 refine aZ rfl rfl (λK hK=>?_);go_simp;refine⟨Grows.alloc _ _,hK _ _ ?_⟩;clear hK K z0 z1 ke ue eq2 zf wq;refine bH ?_;simp only[Ba,Bj];have bk:=lE0 (w:=WC) y8;rw[Ap,ad9]at bk;obtain⟨W3,oy⟩:=exq ((WC.alloc (.cells (madeCells #[.int .u64 0] q) 144)).drew);have aw:Grows WC W3:=by rw[oy];exact(Grows.alloc WC _).dr
 have qk:aV W3 (pb+1) 144 1 kS (.slice (some ⟨pb+1,0,none⟩) q q) (Az q 0):=by rw[oy];exact bk.grows (Grows.drew _)
 rw[<-oy];try rw[ad9]
 have m8:pb+1<W3.heap.size:=by rw[oy];show pb+1<(WC.heap.push _).size;rw[Array.size_push,ad9];omega
 have b32:=aw.cell k2;have b3f:W3.frozen? ⟨pb,2,none⟩=false:=by rw[aw.froz (by show pb<WC.heap.size;omega)];exact kf
 have j0:=aw.cell k0;have j1:=aw.cell k1;have mc:=Grows.trans _ _ _ HGC.out aw;clear bk oy k0 k1 k2 kf aw
 -- the bytes behind the head
 obtain⟨a5,hif,ha5⟩:∃a5,(if bc=5 then (some ⟨bb,bo,none⟩:Option Addr) else some ⟨bb,bo+5,none⟩)=a5/\aF w a5 1 ((dM0 l).map aX):=by
  obtain⟨a',hv',j4,_⟩:=xB (l:=5) (h:=N) HAT.out HNC.out (by have:=HLEN.out;omega) (by rw[HN2.out];exact Aj _) (by rw[<-HN2.out];exact fg);refine⟨a',?_,?_⟩
  ·rw[<-hv',Bf,iJ]
  ·have e:(b.take N).drop 5=dM0 l:=by rw[HN2.out,At,HHEAD.out];rfl
   rw[e]at j4;exact j4
 have hN5:5<=N:=by have:=HLEN.out;omega
 have hNM:N-5=M:=by have:=HLEN.out;omega
 have ak0:5<=bc:=by omega
 have h5i:(5:Int)<=N:=by omega
 have h5n:(N:Int)<=bc:=by omega
 have f5:(5:Int)<=bc:=by omega
 have HA5:=Aa ha5;clear ha5;go_wp2_with fail
 have e0:(W3.setCell ⟨pb,2,none⟩ (.slice (some ⟨pb+1,0,none⟩) q q)).cell? ⟨pb,0,none⟩=some (.int .i64 n):=(Ac _ _ _ _ (λh=>by cases h)).trans j0;have e1:(W3.setCell ⟨pb,2,none⟩ (.slice (some ⟨pb+1,0,none⟩) q q)).cell? ⟨pb,1,none⟩=some (.int .i64 W):=(Ac _ _ _ _ (λh=>by cases h)).trans j1;have e2:(W3.setCell ⟨pb,2,none⟩ (.slice (some ⟨pb+1,0,none⟩) q q)).cell? ⟨pb,2,none⟩=some (.slice (some ⟨pb+1,0,none⟩) q q):=World.cell?_setCell_same _ _ _ b32;have dl:Grows w (W3.setCell ⟨pb,2,none⟩ (.slice (some ⟨pb+1,0,none⟩) q q)):=mc.set (by rw[HPB.out];exact Aj _) _;have o8:=nH qk (p:=⟨pb,2,none⟩) (Nat.lt_succ_self _) (.slice (some ⟨pb+1,0,none⟩) q q);rw[<-oD0 l W q]at o8;have ag5:pb+1<(W3.setCell ⟨pb,2,none⟩ (.slice (some ⟨pb+1,0,none⟩) q q)).heap.size:=by simp;exact m8
 obtain⟨W4,hW4⟩:=exq (W3.setCell ⟨pb,2,none⟩ (.slice (some ⟨pb+1,0,none⟩) q q));rw[<-hW4]at e0 e1 e2 dl o8 ag5 ⊢;clear hW4 qk mc j0 j1 b32 b3f m8;go_loopw [89] (λi wr=>∃k:Nat,k<=M/\i=.int .i64 k/\aV wr (pb+1) 144 1 kS (.slice (some ⟨pb+1,0,none⟩) q q) (pO l W k q)/\wr.cell? ⟨pb,0,none⟩=some (.int .i64 n)/\wr.cell? ⟨pb,1,none⟩=some (.int .i64 W)/\wr.cell? ⟨pb,2,none⟩=some (.slice (some ⟨pb+1,0,none⟩) q q)/\Grows w wr) (λi _=>M-(intOf i).toNat)
 case atStart=>exact⟨0,Aq _,rfl,o8,e0,e1,e2,dl⟩
 case round =>
  clear o8 e0 e1 e2 dl ag5;obtain⟨k,hk,rfl,aa,e0,e1,e2,hg⟩:=hrel;by_cases ae:k<M
  ·have gp:(dM0 l).length=M:=by unfold dM0;rw[Ax,List.length_range,HM.out,HNL.out,HW.out]
   obtain⟨x,hx⟩:∃x,(dM0 l)[k]?=some x:=⟨_,Ad (by rw[gp];exact ae)⟩;obtain⟨ab,ao,ha5,hc5⟩:=at1 (f:=λx:UInt8=>Value.int .u8 x.toNat) (HA5.out.grows hg) (aH (by rw[gp];exact ae));have cx:=hc5 k x hx;subst ha5
   have hxv:x.toNat=fX (bitAt l W) (8*k) 8:=by
    unfold dM0 at hx;rw[Ak,Bb (by rw[<-HW.out,<-HNL.out,<-HM.out];exact ae)]at hx;rw[<-Option.some.inj hx,HW.out]
    have:=kO (bitAt l (pF l)) (8*k) 8
    simp;omega
   obtain⟨c,jp⟩:=exq x.toNat;rw[<-jp]at cx hxv;have aaz:c<256:=by rw[hxv];exact kO _ _ 8
   have hk8:8*k+8<=MM+7:=by have:=HM8.out;omega
   obtain⟨Q8,hQ8⟩:=exq (k/8);obtain⟨R8,hR8⟩:=exq (k%8);obtain⟨S8,hS8⟩:=exq (R8*8);have vo:Q8<q:=by have:=HQ.out;omega
   have hQi:(Q8:Int)<q:=by omega
   have ow:S8<64:=by omega
   have d1:=cU (f:=λn:Nat=>Value.int .u64 n) aa (rO (by rw[<-hQ8];exact vo):(pO l W k q)[k/8]?=_);have HST:=Aa (pR0 (l:=l) (W:=W) (k:=k) (q:=q) (by rw[<-hQ8];exact vo));rw[<-hQ8]at d1 HST;obtain⟨y,hy⟩:=exq (fX (λp=>decide (p<8*k)&&bitAt l W p) (64*Q8) 64);have lu:y<18446744073709551616:=by rw[hy];exact kO _ _ 64
   rw[<-hy,<-hxv,<-hR8,<-hS8]at HST;rw[<-hy]at d1;have hor:=jQ0 (x:=y) (v:=c) (S:=S8) lu;obtain⟨y1,mu⟩:=exq (y|||(c<<<S8)%18446744073709551616)
   rw[<-mu]at hor HST;obtain⟨fr,_,aj⟩:=eC (f:=λn:Nat=>Value.int .u64 n) aa (k:=Q8) (by rw[nF];exact vo) y1;have eq8:(k:Int)/8=Q8:=by omega
   have ak1:(k:Int).tdiv 8=Q8:=by rw[Al (by omega)];exact eq8
   have er8:(k:Int)%8=R8:=by omega
   have ak2:(k:Int).tmod 8=R8:=by rw[Int.tmod_eq_emod_of_nonneg (by omega)];exact er8
   have wQ8:IntKind.i64.wrap (Q8:Int)=Q8:=cT (by omega);have wR8:IntKind.i64.wrap (R8:Int)=R8:=cT (by omega);have wS8:IntKind.i64.wrap ((R8:Int)*8)=S8:=by have:=cT (x:=R8*8) (by omega);rw[Bi,<-Bi,<-hS8]at this;rw[<-this,hS8];push_cast;rfl
   have uS8:IntKind.u64.wrap (S8:Int)=S8:=by simp[Ah,Ai,Ag];omega
   have uc:IntKind.u64.wrap (c:Int)=c:=by simp[Ah,Ai,Ag];omega
   have cy:(k:Int)<M:=by omega
   have f0:(wr.setCell ⟨pb+1,Q8,none⟩ (.int .u64 y1)).cell? ⟨pb,0,none⟩=some (.int .i64 n):=(Ac _ _ _ _ (λh=>by have:=congrArg Au h;simp at this)).trans e0;have f1:(wr.setCell ⟨pb+1,Q8,none⟩ (.int .u64 y1)).cell? ⟨pb,1,none⟩=some (.int .i64 W):=(Ac _ _ _ _ (λh=>by have:=congrArg Au h;simp at this)).trans e1;have f2:(wr.setCell ⟨pb+1,Q8,none⟩ (.int .u64 y1)).cell? ⟨pb,2,none⟩=some (.slice (some ⟨pb+1,0,none⟩) q q):=(Ac _ _ _ _ (λh=>by have:=congrArg Au h;simp at this)).trans e2;have HF:=Aa (And.intro f0 (And.intro f1 f2));have af:Grows w (wr.setCell ⟨pb+1,Q8,none⟩ (.int .u64 y1)):=hg.set (by rw[HPB.out];simp) _;have HO:=Aa aj;clear hx hc5 hxv jp hQ8 hR8 hS8 hy mu aj aa f0 f1 f2 hif;go_wp2_with fail
   go_roundw
   case rel=>exact⟨k+1,ae,by go_num,by rw[HST.out];exact HO.out,HF.out.1,HF.out.2.1,HF.out.2.2,af⟩
   case measure=>simp[intOf];omega
  ·obtain rfl:M=k:=by omega
   rw[uI0 (by rw[HW.out];exact λx hx=>rA hx) (by rw[<-HNL.out,<-HMM.out];have:=HM8.out;omega)]at aa;have ajc:=λ(Y:World)=>pL1 n Y hl;have mg:=lE0 (w:=wr) (n:=n) hl;rw[Ap]at mg;obtain⟨W5,hW5⟩:=exq (wr.alloc (.cells (madeCells #[.int .u64 0] n) 144));have bg:Grows wr W5:=by rw[hW5];exact Grows.alloc _ _
   obtain⟨lb,pw⟩:=exq wr.heap.size;rw[<-hW5,<-pw]at mg;have ak3:pb+1<lb:=by rw[pw];exact gO aa _ rfl
   rw[show Az n 0=mU l 0 0 by rw[rI,HNL.out]]at mg
   have e05:=bg.cell e0;have e15:=bg.cell e1;have e25:=bg.cell e2;have ak:=aa.grows bg;have dp:=Grows.trans _ _ _ hg bg;have ajd:w.heap.size<=lb:=by have:=HPB.out;omega
   clear aa;go_wp2_with fail
   try rw[<-hW5]
   try rw[<-pw]
   clear hW5 pw bg e0 e1 e2 hg hif ajc;go_loopw [119] (λi wx=>∃k:Nat,k<=n/\i=.int .i64 k/\aV wx lb 144 1 kS (.slice (some ⟨lb,0,none⟩) n n) (mU l 0 k)/\wx.cell? ⟨pb,0,none⟩=some (.int .i64 n)/\wx.cell? ⟨pb,1,none⟩=some (.int .i64 W)/\wx.cell? ⟨pb,2,none⟩=some (.slice (some ⟨pb+1,0,none⟩) q q)/\aV wx (pb+1) 144 1 kS (.slice (some ⟨pb+1,0,none⟩) q q) (eY l W q)/\Grows w wx) (λi _=>n-(intOf i).toNat)
   case atStart=>exact⟨0,Aq _,rfl,mg,e05,e15,e25,ak,dp⟩
   case round =>
    clear mg e05 e15 e25 ak dp;obtain⟨k,fj,rfl,ct,e0,e1,e2,aa,hg⟩:=hrel;by_cases bz:k<n
    ·obtain⟨x,hx⟩:∃x,l[k]?=some x:=⟨_,Ad (by rw[<-HNL.out];exact bz)⟩
     have cy:(k:Int)<n:=by omega
     have CG:=Aa (sY0 pb (pb+1) q W k x (pb+1) l wr gl (by rw[<-HNL.out];exact hl) hx (by rw[HW.out];exact rA (Af hx)) (by rw[<-HNL.out,<-HMM.out];have:=HQ.out;omega) e1 e2 aa);have HFS:=Aa (uY (z:=0) hx);clear hx;go_wp2_with fail
     refine CG.out.mono ?_;rintro e w6 ⟨rfl,cg⟩;have aah:=ct.grows cg;obtain⟨u0,hu0⟩:∃u,(mU l 0 k)[k]?=some u:=⟨_,Ad (by rw[nC _ _ (by rw[<-HNL.out];omega),<-HNL.out];exact bz)⟩;have cl:=cU (f:=λn:Nat=>Value.int .u64 n) aah hu0;obtain⟨fr,_,abv⟩:=eC (f:=λn:Nat=>Value.int .u64 n) aah (k:=k) (by rw[nC _ _ (by rw[<-HNL.out];omega),<-HNL.out];exact bz) x;rw[HFS.out]at abv;have ai:∀j j',(⟨pb,j,none⟩:Addr)≠⟨lb,j',none⟩:=λj j' h=>by have:=congrArg Au h;simp only at this;omega
     have f0:(w6.setCell ⟨lb,k,none⟩ (.int .u64 x)).cell? ⟨pb,0,none⟩=some (.int .i64 n):=(Ac _ _ _ _ (λh=>ai _ _ (by first|exact h|exact h.symm))).trans (cg.cell e0)
     have f1:(w6.setCell ⟨lb,k,none⟩ (.int .u64 x)).cell? ⟨pb,1,none⟩=some (.int .i64 W):=(Ac _ _ _ _ (λh=>ai _ _ (by first|exact h|exact h.symm))).trans (cg.cell e1)
     have f2:(w6.setCell ⟨lb,k,none⟩ (.int .u64 x)).cell? ⟨pb,2,none⟩=some (.slice (some ⟨pb+1,0,none⟩) q q):=(Ac _ _ _ _ (λh=>ai _ _ (by first|exact h|exact h.symm))).trans (cg.cell e2)
     have du:=gU (v:=.slice (some ⟨lb,0,none⟩) n n) (aa.grows cg) ((Grows.refl w6).grownBy_set lb k (.int .u64 x)) (λr h1 h2=>by
      have a1:lb=r:=Option.some.inj h1;have a2:pb+1=r:=Option.some.inj h2;omega)
     have cw:Grows w (w6.setCell ⟨lb,k,none⟩ (.int .u64 x)):=(Grows.trans _ _ _ hg cg).set ajd _;have HF:=Aa (And.intro f0 (And.intro f1 f2));clear ct aah e0 e1 e2 aa hg cg hu0 f0 f1 f2 CG;go_wp2_with fail
     go_roundw
     case rel=>exact⟨k+1,bz,by go_num,abv,HF.out.1,HF.out.2.1,HF.out.2.2,du,cw⟩
     case measure=>simp[intOf];omega
    ·obtain rfl:n=k:=by omega
     have hrw:mU l 0 n=l:=by rw[HNL.out];exact uP l 0
     rw[hrw]at ct;obtain⟨ra,rc,hre,_,_,vr⟩:=ct.at_ (k:=1) (λx=>(rfl:(kS x).length=1));have e1':=(Value.slice.inj hre).1;rw[<-e1']at vr;have CNW:=Aa (hJ0 l (some ⟨lb,0,none⟩) n wr (by rw[<-HNL.out];exact hl) HN.out vr);rw[<-HNL.out]at CNW;clear ct hre e1' vr hrw e0 e1 e2 aa;go_wp2_with fail
     refine CNW.out.mono ?_;rintro e w7 ⟨rfl,hpk,cw⟩;obtain⟨nb,jg⟩:=exq wr.heap.size;rw[<-jg]at hpk ⊢;clear jg;go_wp2_with fail
     refine(gA0 l nb w7 (by rw[<-HNL.out];exact hl) HN.out hpk).mono ?_;rintro e w8 ⟨v8,rfl,px,fq⟩;rw[<-HB.out]at px;obtain⟨a8,c8,rfl,gn,_⟩:=eZ px;rw[<-HN2.out];have nf:=Grows.trans _ _ _ hg (Grows.trans _ _ _ cw fq);have CE:=Aa (lA b b a8 (some ⟨bb,bo,none⟩) c8 bc w8 gn (HAT.out.grows nf));rw[<-HN2.out]at CE;simp only[decide_true]at CE;clear px gn;go_wp2_with fail
     refine CE.out.mono ?_;rintro e w9 ⟨rfl,rfl⟩;go_wp2
     go_ret2;exact⟨nb,rfl,hpk.grows fq,nf⟩
end
section
open Go Go.RowKit Go.Shelf
attribute [local go_sem] aM aK
theorem lN (l:List Nat) (pb i x:Nat) (w:World) (hl:l.length<=1048576) (hn:∀n∈l,n<=1073741824) (hx:l[i]?=some x) (ac:lE w pb l) :
  Calls Tryz.prog 107 #[.pointer (some ⟨pb,0,none⟩),.int .i64 i] w λe w'=>e=.returned (.int .i64 (x:Nat))/\Grows w w':=by
 have CG:=Aa (uZ l pb i x w ac hl (λn h=>by have:=hn n h;omega) hx);have ak4:=hn x (Af hx);have ak5:min (x:Int) 1073741824=x:=by omega
 have wx:IntKind.i64.wrap (x:Int)=x:=by simp[Ah,Ai,Ag];omega
 clear ac hn hx;go_enter Tryz.func107,Tryz.ntmps107
 go_wp2_with fail
 refine CG.out.mono ?_;rintro e w1 ⟨rfl,ag⟩;go_wp2_with fail
 go_ret;exact⟨rfl,ag⟩
theorem bP.first {p:List cH} {m:Mx} {es:List En} (h:bP p m es):gT rS es es.length=tH0 (keyRE (readL es) es) es.length (readL es).length:=tF h.srt
theorem bP.key {p:List cH} {m:Mx} {es:List En} (h:bP p m es) {i:Nat} (hi:i<es.length):(List.range (gT rS es es.length).length).countP (λs => !decide (i+1<=(gT rS es es.length).getD s 0))=lJ0 (readL es) (es.getD i enZero)+1:=by
 have e:=h.first
 rw[e,iN,kA1 (λj hj=>vB hj) hi,tI h.srt,Ab,Bb hi];rfl
theorem rE0 {nw:En->En->Bool} {l:List En} {k:Nat}:(gT nw l k).Pairwise (· < ·):=List.Pairwise.filter _ List.pairwise_lt_range
theorem cS1 {nw:En->En->Bool} {l:List En} {k n a c:Nat} (hac:a<=c) (hc:c<(gT nw l k).length) (h:n<=(gT nw l k).getD a 0):n<=(gT nw l k).getD c 0:=by
 rcases Be a c with q|q
 ·have:=List.pairwise_iff_getElem.1 (rE0 (nw:=nw) (l:=l) (k:=k)) a c (by omega) hc q
  rw[Ab,Ad hc];rw[Ab,Ad (by omega)]at h;simp only[Option.getD_some]at h ⊢;omega
 ·rw[show c=a by omega]
  exact h
def En.val (x:En):Value := .agg #[.string x.r,.string x.s,.int .i64 x.l,.int .i64 x.t,.int .i64 x.c]
theorem oQ1 {R:List ByteArray} {j:Nat} {s:ByteArray} (h:R[j]?=some s):mkB (nth (bls R) j)=s:=by
 rw[xV (mY h)];exact mR s
theorem xI0 (p:List cH) (m:Mx) (es:List En) (db i:Nat) (x:En) (w:World) (ah:bP p m es) (ac:cB w db p m es) (hx:es[i]?=some x) :
  Calls Tryz.prog 108 #[.pointer (some ⟨db,0,none⟩),.int .i64 i] w λe w'=>e=.returned x.val/\Grows w w':=by
 have ri:=(List.getElem?_eq_some_iff.1 hx).1;have hn:=ah.len;have qw:=Af hx;have hxg:es.getD i enZero=x:=by rw[Ab,hx];rfl
 obtain⟨okR,lR,cR⟩:=dO ah.rd;obtain⟨okS,lS,cS⟩:=dO ah.sf;have ie:=ah.num;have ag6:=(dN (eE ah.chk).2.2.1).1;obtain⟨tr,r1,r2⟩:=ac.r;obtain⟨ts,s1,s2⟩:=ac.s;obtain⟨pf,f1,f2⟩:=ac.f;obtain⟨pi,i1,i2⟩:=ac.i;obtain⟨pl,l1,l2⟩:=ac.l;obtain⟨pt,t1,t2⟩:=ac.t;obtain⟨pc,c1,c2⟩:=ac.c;obtain⟨R,hR⟩:=exq (lJ0 (readL es) x);obtain⟨S,hS⟩:=exq (yX (surfL es) x);have hRg:=kP (mX qw);have hSg:=kN (jV qw);rw[<-hR]at hRg;rw[<-hS]at hSg;have hRl:=(List.getElem?_eq_some_iff.1 hRg).1;have hSl:=(List.getElem?_eq_some_iff.1 hSg).1;have hRn:(readL es).length<=20000:=by rw[cK]at lR;exact lR
 have hSn:(surfL es).length<=20000:=by rw[cK]at lS;exact lS
 have CF:∀u,Grows w u->Hid (Calls Tryz.prog 157 #[.pointer (some ⟨pf,0,none⟩),.int .u64 (i+1:Nat)] u λe w'=>e=.returned (.int .i64 (R+1:Nat))/\Grows u w'):=λu hu=>by
  have h:=tU0 (gT rS es es.length) pf (i+1) u (by have:=ah.first;rw[this,iN];omega) (λn h=>by have:=iX h;omega) (λa c hac hc h=>cS1 hac hc h) (f2.grows hu)
  rw[ah.key ri,hxg,<-hR]at h;exact h
 have CTR:∀u,Grows w u->Hid (Calls Tryz.prog 40 #[.pointer (some ⟨tr,0,none⟩),.int .i64 R] u λe w'=>e=.returned (.tuple #[.string x.r,.bool true])/\Grows u w'):=λu hu=>by
  have h:=jI0 (bls (readL es)) tr R u okR lR cR (by rw[cK];exact hRl) (r2.grows hu);rw[oQ1 hRg]at h;exact h
 have CTS:∀u,Grows w u->Hid (Calls Tryz.prog 40 #[.pointer (some ⟨ts,0,none⟩),.int .i64 S] u λe w'=>e=.returned (.tuple #[.string x.s,.bool true])/\Grows u w'):=λu hu=>by
  have h:=jI0 (bls (surfL es)) ts S u okS lS cS (by rw[cK];exact hSl) (s2.grows hu);rw[oQ1 hSg]at h;exact h
 have CNS:∀u,Grows w u->Hid (Calls Tryz.prog 107 #[.pointer (some ⟨pi,0,none⟩),.int .i64 i] u λe w'=>e=.returned (.int .i64 (S:Nat))/\Grows u w'):=λu hu =>
  lN (es.map (yX (surfL es))) pi i S u (by rw[Ax];omega) (λn h=>by
   obtain⟨y,hy,rfl⟩:=List.mem_map.1 h
   have:=qO (jV hy)
   omega) (by rw[Ak,hx,hS];rfl) (i2.grows hu)
 have CNN:∀(f:En->Int) (pb:Nat),(∀y∈es,0<=f y/\f y<=1073741824)->lE w pb (es.map λy=>(f y).toNat)->∀u,Grows w u->Hid (Calls Tryz.prog 107 #[.pointer (some ⟨pb,0,none⟩),.int .i64 i] u λe w'=>e=.returned (.int .i64 (f x))/\Grows u w'):=λf pb hf hpk u hu=>by
  have h:=lN (es.map λy=>(f y).toNat) pb i (f x).toNat u (by rw[Ax];omega) (λn h=>by
   obtain⟨y,hy,rfl⟩:=List.mem_map.1 h
   have:=hf y hy
   omega) (by rw[Ak,hx];rfl) (hpk.grows hu)
  rw[Int.toNat_of_nonneg (hf x qw).1]at h;exact h
 have CNL:=CNN (λy=>y.l) pl (λy hy=>by have:=ie y hy;omega) l2;have CNT:=CNN (λy=>y.t) pt (λy hy=>by have:=ie y hy;omega) t2;have CNC:=CNN (λy=>y.c) pc (λy hy=>by have:=ie y hy;omega) c2;obtain⟨xr,xs,xl,xt,xc⟩:=x;simp only at CTR CTS CNL CNT CNC;obtain⟨i9,hi9⟩:=exq (i+1);rw[<-hi9]at CF;obtain⟨R1,hR1⟩:=exq (R+1);rw[<-hR1]at CF;have wu:IntKind.u64.wrap (i:Int)=i:=by simp[Ah,Ai,Ag];omega
 have wi:IntKind.u64.wrap ((i:Int)+1)=i9:=by simp[Ah,Ai,Ag];omega
 have wR:IntKind.i64.wrap ((R1:Int)-1)=R:=by simp[Ah,Ai,Ag];omega
 obtain⟨W0,b9⟩:=exq (w.alloc (.cells #[.string ⟨#[]⟩,.string ⟨#[]⟩,.int .i64 0,.int .i64 0,.int .i64 0] 52));have cp:Grows w W0:=by rw[b9];exact Grows.alloc _ _
 have xj:TB W0 w.heap.size #[.string ⟨#[]⟩,.string ⟨#[]⟩,.int .i64 0,.int .i64 0,.int .i64 0] 52:=by rw[b9];exact TB.alloc _ _ _
 clear ac r2 s2 f2 i2 l2 t2 c2 hx qw hxg hRg hSg ah okR okS lR lS cR cS ie ag6 hR hS CNN hi9 hR1 hRl hSl;have f1a:=cp.cell f1;rw[b9]at f1a;go_enter Tryz.func108,Tryz.ntmps108
 go_wp2_with fail
 rw[<-b9];clear b9 f1a;refine(CF W0 cp).out.mono ?_;rintro e w1 ⟨rfl,ag⟩;have g1:=cp.tr ag;have T1:=xj.gr ag;have r1a:=g1.cell r1;clear CF xj cp ag;go_wp2_with fail
 refine(CTR w1 g1).out.mono ?_;rintro e w2 ⟨rfl,af⟩;have g2:=g1.tr af;have T2:=T1.gr af;have z0:∀y:Ext Grows w2.drew,y.u.cell? ⟨db,3,none⟩=some (.pointer (some ⟨ts,0,none⟩)):=aB (g2.dr.cell s1);have z1:∀y:Ext Grows w2.drew,y.u.cell? ⟨db,5,none⟩=some (.pointer (some ⟨pi,0,none⟩)):=aB (g2.dr.cell i1);clear CTR T1 r1a g1 af;go_wp2_with fail
 refine bE (aU 16 [9,10]) (by kernel_rfl) (λd _ _ _ _ h=>by cases d<;>exact h) ?_
 iterate 9 (refine aG rfl (λK hK=>?_);go_simp;refine hK _ ?_;clear hK K)
 clear z0 z1;refine aZ rfl rfl (λK hK=>?_);go_simp;refine((CNS w2.drew g2.dr).out).mono ?_;rintro e w3 ⟨rfl,aw⟩;refine⟨aw,hK _ _ ?_⟩;clear hK K;refine aZ rfl rfl (λK hK=>?_);go_simp;refine((CTS w3 (g2.dr.tr aw)).out).mono ?_;rintro e w4 ⟨rfl,bj⟩;refine⟨bj,hK _ _ ?_⟩;clear hK K;iterate 5 (refine aG rfl (λK hK=>?_);go_simp;refine hK _ ?_;clear hK K)
 refine bH ?_;have g4:=(g2.dr.tr aw).tr bj;have T4:=((T2.gr (Grows.drew w2)).gr aw).gr bj;have z0:∀y:Ext Grows w4.drew,y.u.cell? ⟨db,6,none⟩=some (.pointer (some ⟨pl,0,none⟩)):=aB (g4.dr.cell l1);have z1:∀y:Ext Grows w4.drew,y.u.cell? ⟨db,7,none⟩=some (.pointer (some ⟨pt,0,none⟩)):=aB (g4.dr.cell t1);have z2:∀y:Ext Grows w4.drew,y.u.cell? ⟨db,8,none⟩=some (.pointer (some ⟨pc,0,none⟩)):=aB (g4.dr.cell c1);clear CNS CTS T2 g2 aw bj;go_wp2_with fail
 refine qA 20 (lT [0,1,2,3,4,5,6,8,9,10,11,12,14,15,16,17,18,7,13,19] [7,13,19]) (by kernel_rfl) (λd _ _ _ _ h=>by cases d<;>exact h) ?_
 iterate 17 (refine aG rfl (λK hK=>?_);go_simp;refine hK _ ?_;clear hK K)
 clear z0 z1 z2;refine aZ rfl rfl (λK hK=>?_);go_simp;refine((CNL w4.drew g4.dr).out).mono ?_;rintro e w5 ⟨rfl,bg⟩;refine⟨bg,hK _ _ ?_⟩;clear hK K;refine aZ rfl rfl (λK hK=>?_);go_simp;refine((CNT w5 (g4.dr.tr bg)).out).mono ?_;rintro e w6 ⟨rfl,cg⟩;refine⟨cg,hK _ _ ?_⟩;clear hK K;refine aZ rfl rfl (λK hK=>?_);go_simp;refine((CNC w6 ((g4.dr.tr bg).tr cg)).out).mono ?_;rintro e w7 ⟨rfl,cw⟩;refine⟨cw,hK _ _ ?_⟩;clear hK K;refine bH ?_;have g7:=((g4.dr.tr bg).tr cg).tr cw;have T7:=(((T4.gr (Grows.drew w4)).gr bg).gr cg).gr cw;have e0:=T7.cell (o:=0) rfl;have e1:=T7.cell (o:=1) rfl;have e2:=T7.cell (o:=2) rfl;have e3:=T7.cell (o:=3) rfl;have e4:=T7.cell (o:=4) rfl;have f0:=T7.froz 0;have f1':=T7.froz 1;have f2':=T7.froz 2;have f3:=T7.froz 3;have f4:=T7.froz 4;simp only[Ba,Bj];clear CNL CNT CNC T4 g4 bg cg cw;go_wp2_with fail
 have T8:=((((T7.set 0 (.string xr)).set 1 (.string xs)).set 2 (.int .i64 xl)).set 3 (.int .i64 xt)).set 4 (.int .i64 xc);have b0:=T8.cell (o:=0) rfl;have b1:=T8.cell (o:=1) rfl;have b2:=T8.cell (o:=2) rfl;have b3:=T8.cell (o:=3) rfl;have b4:=T8.cell (o:=4) rfl;refine bodyPost_ret (v:=.agg #[.string xr,.string xs,.int .i64 xl,.int .i64 xt,.int .i64 xc]) (by simp[results,Tryz.results108,go_sem,b0,b1,b2,b3,b4]) rfl ⟨rfl,?_⟩
 exact((((g7.set (Aj _) _).set (Aj _) _).set (Aj _) _).set (Aj _) _).set (Aj _) _
end
end Go.Proofs.YtheiocndipepaaaGreatDoor
