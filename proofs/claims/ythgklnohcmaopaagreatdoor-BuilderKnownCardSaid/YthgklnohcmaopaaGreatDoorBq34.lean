/- The texts Bimg Bjn SecS SplS PkD FindS NumL Bsz R18P DicP R18b R18c Bord, one behind the other. -/
import Derived.Test.YthgklnohcmaopaaGreatDoorBq28
import Derived.Test.YthgklnohcmaopaaGreatDoorBq26
import Derived.Test.YthgklnohcmaopaaGreatDoorBq16
import Derived.Test.YthgklnohcmaopaaGreatDoorBq2
import Derived.Test.YthgklnohcmaopaaGreatDoorBq31
import Derived.Test.YthgklnohcmaopaaGreatDoorBq5
import Derived.Test.YthgklnohcmaopaaGreatDoorBq19
import Derived.Test.YthgklnohcmaopaaGreatDoorBq23
import Derived.Test.YthgklnohcmaopaaGreatDoorBq18
import Derived.Test.YthgklnohcmaopaaGreatDoorBq33
import Derived.Test.YthgklnohcmaopaaGreatDoorBq9
import Derived.Test.YthgklnohcmaopaaGreatDoorBq21
import Derived.Test.YthgklnohcmaopaaGreatDoorBq32
import Derived.Test.YthgklnohcmaopaaGreatDoorBq4
import Derived.Test.YthgklnohcmaopaaGreatDoorBq20
import Derived.Test.YthgklnohcmaopaaGreatDoorBq27
import Derived.Test.YthgklnohcmaopaaGreatDoorBq3
import Derived.Shelf.GgSortFunc.Compose
open Go.Lib renaming hid → Aa
open List renaming length_append → Ab,getElem?_eq_getElem → Ac,mem_of_getElem? → Ad,getD_eq_getElem?_getD → Ae,length_map → Ag,getElem?_map → Ai,length_singleton → Am,length_range → An,length_cons → Aq,take_length → Ar,getElem?_cons_zero → As,getElem?_eq_none → At,range → Au,map_cons → Av,getElem?_range → Ax,mem_singleton → Ay,replicate → Be,sum_cons → Bf,flatMap_cons → Bh,length_nil → Bn,map_append → Bo,map_map → Bq
open Go.World renaming cell?_setCell_other → Af
open Go.IntKind renaming signed → Ah,wrap → Ak,bits → Al
open Nat renaming le_refl → Aj,zero_le → Ao,mul_one → Az,le_trans → Bb,lt_of_lt_of_le → Bg,lt_trichotomy → Bi,zero_add → Bj,lt_or_ge → Bk
open Int renaming tdiv_eq_ediv_of_nonneg → Ap,natCast_add → Bd,natCast_mul → Bp
open UInt8 renaming ofNat → Aw
open Go.Addr renaming block → Ba
open Option renaming map_some → Bc
set_option maxHeartbeats 8000000
namespace Go.Proofs.YthgklnohcmaopaaGreatDoor
set_option maxRecDepth 100000
section
open Go Go.RowKit
def rK (es:List En):List ByteArray:=pV (es.map (·.r))
def iX (es:List En):List ByteArray:=pV (es.map (·.s))
theorem wH0 (l:List (List UInt8)):bls (l.map mkB)=l:=by
 unfold bls;rw[Bq];exact(List.map_congr_left λx _=>gO x).trans (List.map_id _)
theorem gC0 {ks:List ByteArray} {s:ByteArray} (h:s∈ks):s∈pV ks:=by
 unfold pV;refine List.mem_map.2 ⟨bl s,(rL _ _).2 (by grind [bls]),gA0 s⟩
theorem eO0 {ks:List ByteArray} {s:ByteArray} (h:s∈pV ks):s∈ks:=by
 unfold pV at h;obtain⟨x,hx,rfl⟩:=List.mem_map.1 h;obtain⟨t,ht,rfl⟩:=List.mem_map.1 ((rL _ _).1 hx);grind [gA0,bl]
theorem uX (ks:List ByteArray):(pV ks).Nodup:=by
 unfold pV;have h:=yR (bls ks);refine List.Pairwise.map mkB (λa b (j7:xS a b) e=>?_) h;grind [vA0,yK]
theorem tM0 {ks:List ByteArray} {i:Nat} (h:i<(pV ks).length):(pV ks)[i]?=some (mkB (nth (bls (pV ks)) i)):=by
 rw[fV0];grind [pV,nth]
theorem sJ (ks:List ByteArray):(pV ks).length<=ks.length:=cE (uX ks) λ_ h=>eO0 h
def hM0 (S:List ByteArray) (x:En):Nat:=S.findIdx λs=>decide (s=x.s)
theorem yL {S:List ByteArray} {x:En} (h:x.s∈S):S[hM0 S x]?=some x.s:=by
 have h1:hM0 S x<S.length:=List.findIdx_lt_length_of_exists ⟨x.s,h,by simp⟩;rw[Ac h1];have h2:=List.findIdx_getElem (w:=h1);exact congrArg some (of_decide_eq_true h2)
theorem sD {S:List ByteArray} {x:En} (h:x.s∈S):hM0 S x<S.length:=by grind [hM0]
def tR (S:List ByteArray) (es:List En) (i:Nat):Nat:=hM0 S (es.getD i dY)
def tP0 (es:List En):List Nat:=lY (tR (iX es) es) es.length (iX es).length
def pG (es:List En):List En:=(tP0 es).map λi=>es.getD i dY
def nF0 (x y:En):Bool := !decide (x.r=y.r)
def pW0 (x y:En):Bool := !decide (x.s=y.s)
def oY (name:Array UInt8) (data:List UInt8):aX:=⟨⟨name⟩,data,none,0⟩
def imgP (p:List eP) (m:Mx) (es:List En):List aX :=
 [oY #[112,111,115] (tX0 p),oY #[109,97,116,114,105,120] m.enc,oY #[114,101,97,100,105,110,103,115] (iT (bls (rK es))),oY #[102,105,114,115,116] (bV (pD nF0 es es.length)),
  oY #[115,117,114,102,97,99,101,115] (iT (bls (iX es))),oY #[115,117,114,102,97,99,101] (bV (es.map (hM0 (iX es)))),oY #[108,101,102,116] (bV (es.map λx=>x.l.toNat)),oY #[114,105,103,104,116] (bV (es.map λx=>x.t.toNat)),
  oY #[99,111,115,116] (bV (es.map λx=>x.c.toNat)),oY #[111,114,100,101,114] (bV (tP0 es)),oY #[97,116] (bV (pD pW0 (pG es) es.length))]
theorem qG {nw:En->En->Bool} {l:List En} {k i:Nat} (h:i∈pD nw l k):i<k:=List.mem_range.1 (List.mem_filter.1 h).1
theorem tQ {n:Int}:∀ {l:List En},iG n l=0->∀x∈l,mZ x n=0
 | [],_,x,hx=>by cases hx
 | y::l,h,x,hx=>by
  unfold iG at h;by_cases hy:mZ y n=0
  ·rw[if_pos hy]at h
   rcases List.mem_cons.1 hx with rfl|hx
   ·exact hy
   ·exact tQ h x hx
  omega
theorem uG {x:En} {n:Int} (h:mZ x n=0):0<=x.l/\x.l<n/\0<=x.t/\x.t<n/\0<=x.c/\x.c<=30000:=by
 unfold mZ bW0 at h;omega
theorem lZ {p:List eP} {m:Mx} {l:List En} (h:cS0 p (some m) l=0):(m.n:Int)=p.length/\l.length<=20000/\dQ p=true/\∀x∈l,mZ x p.length=0:=by
 unfold cS0 at h;split at h
 ·cases h
 ·rename_i hv
  simp only at h;split at h
  ·rename_i h1
   split at h
   ·cases h
   ·rename_i h2
    exact⟨h1,by omega,by simpa using hv,tQ h⟩
  ·cases h
def oM (p:List eP) (m:Option Mx) (l:List En):Int×List UInt8 :=
 if cS0 p m l=0 then match m with
  | none=>(0,[])
  | some m=>if fQ (bls (rK (sortS l)))=0/\fQ (bls (iX (sortS l)))=0 then (if eB (imgP p m (sortS l))=0 then (0,fR (imgP p m (sortS l))) else (eB (imgP p m (sortS l)),[])) else (2,[])
 else (cS0 p m l,[])
theorem dL0 (P:List aX) (w:World) (T:TypeId) (hl:P.length<=1000000):aF (w.alloc (.cells (P.flatMap iR).toArray T)) (some ⟨w.heap.size,0,none⟩) 2 (P.map iR):=by
 have h:=fZ (enc:=iR) (k:=2) (λ_=>rfl) (w:=w) (e:=T) (base:=w.heap.size) (n:=P.length) (Aj _) P (cs:=(P.flatMap iR).toArray) (by simp) rfl (by unfold maxLen;omega);obtain⟨a,c,e,_,_,ac⟩:=h.at_ (k:=2) (λ_=>rfl);have e1:=(Value.slice.inj e).1;rw[e1];exact ac
def bare (p:aX):aX:=⟨p.name,p.data,none,0⟩
theorem kB0 (P:List aX):iA (P.map bare)=iA P:=by simp[iA,bare,Bq,Function.comp_def]
theorem dF0 (P:List aX):cK (P.map bare)=cK P:=by
 simp[cK,cH,cM,bare,List.flatMap_map]
theorem kR (P:List aX):fR (P.map bare)=fR P:=by unfold fR; rw[dF0]
theorem uY:∀(P:List aX) (seen:List ByteArray),rJ (P.map bare) seen=rJ P seen
 | [],_=>rfl
 | p::P,seen=>by
  rw[Av,rJ,rJ,uY P];rfl
theorem mK (P:List aX):eB (P.map bare)=eB P:=by
 unfold eB kU0;rw[kB0,Ag,uY,List.any_map];rfl
theorem dO {W:World} {base:Nat} {v:Value} {data:List UInt8} (h:aT W base 5 1 aQ v data):∃a c,v=.slice a data.length c/\aF W a 1 (data.map aQ)/\(a=none->c=0):=by
 obtain⟨a,c,rfl,_,_,ac⟩:=h.at_ (k:=1) (λx=>(rfl:(aQ x).length=1));refine⟨a,c,rfl,ac,λha=>?_⟩;rcases h.2 with ⟨e,_⟩|⟨g,cap,b9,hv,_⟩
 ·exact(Value.slice.inj e).2.2
 ·rw[ha]at hv
  cases (Value.slice.inj hv).1
end
section
open Go Go.RowKit Go.Shelf
attribute [local go_sem] aM aO
theorem rN0:∃i,Tryz.prog.info? 119=some i/\i.zero=some (.agg #[.string ⟨#[]⟩,.slice none 0 0])/\i.size=2/\i.bytes=40:=by
 have h:(Tryz.prog.info? 119).map (λi=>(i.zero,i.size,i.bytes))=some (some (.agg #[.string ⟨#[]⟩,.slice none 0 0]),2,40):=by kernel_rfl
 cases hi:Tryz.prog.info? 119 with
 | none=>rw[hi]at h;cases h
 | some i =>
  rw[hi]at h;simp only[Bc,Option.some.injEq,Prod.mk.injEq]at h;exact⟨i,rfl,h.1,h.2.1,h.2.2⟩
def tN0:aX:=⟨⟨#[]⟩,[],none,0⟩
theorem nC {P:List aX} (h:eB P=0):P.length<=64/\iA P<=16777216/\∀p∈P,p.name.size<=16:=by
 unfold eB at h;split at h
 ·cases h
 ·split at h
  ·cases h
  ·rename_i h1 h2
   refine⟨by omega,by omega,λp hp=>?_⟩;have h3:¬(!azS p.name)=true:=λe=>h2 (List.any_eq_true.2 ⟨p,hp,e⟩);have h4:azS p.name=true:=by simpa using h3
   unfold azS at h4;simp only[Bool.and_eq_true,decide_eq_true_eq]at h4;exact h4.1.2
theorem yV {q:aX}:∀ {P:List aX},q∈P->q.data.length<=iA P
 | [],h=>by cases h
 | x::P,h=>by
  unfold iA;rw[Av,Bf];rcases List.mem_cons.1 h with rfl|h
  ·omega
  ·have:=yV h
   unfold iA at this;omega
theorem qR:∀ {P:List aX},(∀p∈P,p.name.size<=16)->(cH P).length<=P.length*36
 | [],_=>by simp[cH]
 | p::P,h=>by
  have h1:=qR (P:=P) λq hq=>h q (by simp[hq]);have h2:=nP p.name;have h3:=bK p.data.length;have h4:=h p (by simp);unfold cH at h1 ⊢;rw[Bh,Ab,Ab,Aq];omega
theorem wX:∀P:List aX,(cM P).length=iA P
 | []=>rfl
 | p::P=>by
  have:=wX P
  unfold cM iA at *;rw[Bh,Ab,this,Av,Bf]
theorem qY {P:List aX} (h:eB P=0):(cK P).length<=16800000:=by
 obtain⟨h1,h2,h3⟩:=nC h;have h4:=qR h3;have h5:=wX P;have h6:=bK P.length;unfold cK;simp only[Ab,Aq,Bn];omega
def flN (z:Nat->Value) (P:List aX) (k j:Nat):Value:=if j%2=0/\j/2<k then .string (P.getD (j/2) tN0).name else z j
def fsN (z:Nat->Value) (P:List aX) (k j:Nat):Value:=if j<k then .int .i64 ((P.getD j tN0).data.length:Nat) else z j
def flD (z:Nat->Value) (P Q:List aX) (j:Nat):Value:=if j%2=0 then .string (P.getD (j/2) tN0).name else match Q[j/2]? with|some q => .slice q.a q.data.length q.c|none=>z j
theorem tU0 {z:Nat->Value} {P:List aX} {k:Nat} {p:aX} (hp:P[k]?=some p) (j:Nat):(if j=k*2 then Value.string p.name else flN z P k j)=flN z P (k+1) j:=by
 unfold flN;by_cases h:j=k*2
 ·subst h
  rw[if_pos rfl,if_pos ⟨by omega,by omega⟩,show k*2/2=k by omega,Ae,hp]
  rfl
 ·rw[if_neg h]
  by_cases h2:j%2=0/\j/2<k
  ·rw[if_pos h2,if_pos ⟨h2.1,by omega⟩]
  ·rw[if_neg h2,if_neg (by omega)]
theorem tD0 {z:Nat->Value} {P:List aX} {k:Nat} {p:aX} (hp:P[k]?=some p) (j:Nat):(if j=k then Value.int .i64 (p.data.length:Nat) else fsN z P k j)=fsN z P (k+1) j:=by
 unfold fsN;by_cases h:j=k
 ·subst h
  rw[if_pos rfl,if_pos (by omega),Ae,hp];rfl
 ·rw[if_neg h]
  by_cases h3:j<k
  ·rw[if_pos h3,if_pos (by omega)]
  ·rw[if_neg h3,if_neg (by omega)]
theorem yJ0 {z:Nat->Value} {P:List aX} {k n:Nat} {p:aX} (hp:P[k]?=some p) (hk:k<n):fsN z P n k=.int .i64 (p.data.length:Nat):=by
 unfold fsN;rw[if_pos hk,Ae,hp];rfl
theorem vC0 (z:Nat->Value) (P:List aX) (j:Nat) (hj:j<P.length*2):flN z P P.length j=flD z P [] j:=by
 unfold flN flD;by_cases h:j%2=0
 ·rw[if_pos ⟨h,by omega⟩,if_pos h]
 ·rw[if_neg (λe=>h e.1),if_neg h];simp
theorem tA0 {z:Nat->Value} {P Q:List aX} (q:aX) (j:Nat):(if j=Q.length*2+1 then Value.slice q.a q.data.length q.c else flD z P Q j)=flD z P (Q++[q]) j:=by
 unfold flD;by_cases h:j=Q.length*2+1
 ·subst h
  rw[if_pos rfl,if_neg (by omega),show (Q.length*2+1)/2=Q.length by omega,List.getElem?_append_right (Aj _),Nat.sub_self]
  rfl
 ·rw[if_neg h]
  by_cases h2:j%2=0
  ·rw[if_pos h2,if_pos h2]
  ·rw[if_neg h2,if_neg h2]
   rcases Bi (j/2) Q.length with h3|h3|h3
   ·rw[List.getElem?_append_left h3]
   ·omega
   ·rw[At (by omega),At (by simp;omega)]
theorem rE {W:World} {base k g n c:Nat} {e:TypeId} {xs:List Value} (h:W.ownsRow base e k (.slice (some ⟨g,0,none⟩) n c) n xs):∃z,nA W g (n*k) z:=by
 rcases h.2 with ⟨h1,_⟩|⟨g',cap,b9,hv,hb,hh,hn,hc,hs,ht⟩
 ·cases h1
 ·have e1:=(Value.slice.inj hv).1
  obtain rfl:g=g':=congrArg Ba (Option.some.inj e1);refine⟨λj=>b9.getD j undef,λj hj=>?_,λj=>by simp[World.frozen?,hh],(Array.getElem?_eq_some_iff.1 hh).1⟩;have jw:j<b9.size:=by rw[hs];exact Bg hj (Nat.mul_le_mul_right k hn)
  simp[World.cell?,hh,jw]
structure yU (w:World) (B:Nat) (P Q:List aX):Prop where
 len:Q.length<=P.length
 bare:Q.map bare=(P.take Q.length).map bare
 at_:∀q∈Q,aF w q.a 1 (q.data.map aQ)
 none_:∀q∈Q,q.a=none->q.c=0
 far:∀q∈Q,∀r:Addr,q.a=some r->B<r.block
theorem yU.grows {w w':World} {B:Nat} {P Q:List aX} (h:yU w B P Q) (hg:aB w w'):yU w' B P Q:=⟨h.len,h.bare,λq hq=>(h.at_ q hq).grows hg,h.none_,h.far⟩
theorem yU.set {w:World} {B:Nat} {P Q:List aX} (h:yU w B P Q) {g i:Nat} (hg:g<=B) (v:Value):yU (w.setCell ⟨g,i,none⟩ v) B P Q :=
 ⟨h.len,h.bare,λq hq=>xR (h.at_ q hq) ((aB.refl w).grownBy_set g i v) (λr hr e=>by have:=h.far q hq r hr;have:=Option.some.inj e;omega),h.none_,h.far⟩
theorem vL0 {W:World} {lb:Nat} {P Q:List aX} {z:Nat->Value} (h:nA W lb (P.length*2) (flD z P Q)) (hl:Q.length=P.length) (hb:Q.map bare=P.map bare):aF W (some ⟨lb,0,none⟩) 2 (Q.map iR):=λ_=>⟨lb,0,rfl,λi row hi j u hj=>by
 rw[Ai]at hi
 cases hq:Q[i]? with
 | none=>rw[hq]at hi;cases hi
 | some q =>
  rw[hq]at hi;obtain rfl:iR q=row:=by simpa using hi
  have hiQ:=(List.getElem?_eq_some_iff.1 hq).1;have jw:j<2:=by have:=(List.getElem?_eq_some_iff.1 hj).1;simpa [iR] using this
  have hc:=h.cell (i*2+j) (by omega);rw[Bj,hc]
  have hn:(P.getD i tN0).name=q.name:=by
   have h1:(Q.map bare)[i]?=some (bare q):=by rw[Ai,hq];rfl
   rw[hb,Ai]at h1
   cases hp:P[i]? with
   | none=>rw[hp]at h1;cases h1
   | some p =>
    rw[hp]at h1;have h2:=Option.some.inj h1;rw[Ae,hp];have h3:(bare p).name=(bare q).name:=by rw[h2]
    exact h3
  match j,jw with
  | 0,_ =>
   simp only[iR,As,Option.some.injEq]at hj;subst hj;unfold flD;rw[if_pos (by omega),show (i*2+0)/2=i by omega,hn]
  | 1,_ =>
   simp only[iR,List.getElem?_cons_succ,As,Option.some.injEq]at hj;subst hj;unfold flD;rw[if_neg (by omega),show (i*2+1)/2=i by omega,hq]⟩
theorem vY0 {w W:World} {v:Value} {t:TypeId} (hg:aB (w.alloc (.cells #[v] t)) W):nA W w.heap.size 1 (λ_=>v):=by
 obtain⟨h1,h2⟩:=cO hg
 have h0:∀j,j<1->(#[v]:Array Value)[j]?=some v:=λj hj=>by
  obtain rfl:j=0:=by omega
  rfl
 exact⟨λj hj=>h1 j _ (h0 j hj),h2,Bg (by simp) hg.size⟩
def vU0 (P:List aX) (w:World) (e:Ending) (w':World):Prop :=
 aB w w'/\∃(Q:List aX) (a:Option Addr) (c:Nat),e=.returned (.tuple #[.slice a Q.length c,.bool true])/\Q.map bare=P.map bare/\aF w' a 2 (Q.map iR)/\gF w' Q
theorem iS0 (P:List aX) (ba:Option Addr) (bc:Nat) (w:World) (ly:eB P=0) (ep:(cK P).length<=bc) (_hbm:bc<=maxLen) (jo:ba=none->bc=0) (ac:aF w ba 1 ((cK P).map aQ)) :
  Calls Tryz.prog 78 #[.slice ba (cK P).length bc] w (vU0 P w):=by
 obtain⟨rr,jp,py⟩:=nC ly;have fk:=qY ly;have HNM:=Aa py;have HSZ:Hid (∀p∈P,p.data.length<=16777216):=λp hp=>Bb (yV hp) jp;have HC0:=Aa (rJ0 (P:=P) (by omega));have HNA:=Aa (λi p (h:P[i]?=some p)=>xI0 h (by have:=py p (Ad h);omega));have HSI:=Aa (λi p (h:P[i]?=some p)=>uU0 h (by have:=Bb (yV (Ad h)) jp;omega));have HDA:=Aa (λi p (h:P[i]?=some p)=>wG0 h);have HHZ:=Aa (hV0 P);have HHL:=Aa (λi=>rH0 (P:=P) (i:=i));have HDL:=Aa (λi=>rW0 (P:=P) (i:=i));have HDE:=Aa (pG0 P);have HDZ:=Aa (iL0 P);obtain⟨b,hb⟩:=exq (cK P);rw[<-hb]at HC0 HNA HSI HDA HHL HDL HDE fk ep ac ⊢;obtain⟨n,hn⟩:=exq P.length;rw[<-hn]at HC0 HHZ HDE HDZ rr;have HN:=Aa hn;have HAT:=Aa ac;have HNC:=Aa jo;clear ac hb py jp ly jo hn
 -- the boxes
 obtain⟨W1,bz⟩:=exq (((w.alloc (.cells #[.slice ba b.length bc] 28)).alloc (.cells #[.int .i64 4] 3)).alloc (.cells #[.bool true] 4));have av:aB w W1:=by rw[bz];exact((aB.alloc _ _).al _).al _
 obtain⟨pb,dn⟩:=exq w.heap.size
 have zi:nA W1 pb 1 (λ_ => .slice ba b.length bc):=by
  rw[bz,dn];exact vY0 ((aB.alloc _ _).al _)
 have hA1:nA W1 (pb+1) 1 (λ_ => .int .i64 4):=by
  rw[bz,dn];have h:=vY0 (w:=w.alloc (.cells #[.slice ba b.length bc] 28)) (v:=.int .i64 4) (t:=3) (W:=((w.alloc (.cells #[.slice ba b.length bc] 28)).alloc (.cells #[.int .i64 4] 3)).alloc (.cells #[.bool true] 4)) (aB.alloc _ _);rw[show (w.alloc (.cells #[.slice ba b.length bc] 28)).heap.size=w.heap.size+1 by simp]at h
  exact h
 have hO1:nA W1 (pb+1+1) 1 (λ_ => .bool true):=by
  rw[bz,dn];have h:=vY0 (w:=(w.alloc (.cells #[.slice ba b.length bc] 28)).alloc (.cells #[.int .i64 4] 3)) (v:=.bool true) (t:=4) (W:=((w.alloc (.cells #[.slice ba b.length bc] 28)).alloc (.cells #[.int .i64 4] 3)).alloc (.cells #[.bool true] 4)) (aB.refl _);rw[show ((w.alloc (.cells #[.slice ba b.length bc] 28)).alloc (.cells #[.int .i64 4] 3)).heap.size=w.heap.size+1+1 by simp]at h
  exact h
 have HG1:=Aa av;have HPB:=Aa dn;have eg:=vR0;have cb:=zi.cell 0 (by decide);have ca:=hA1.cell 0 (by decide);have co:=hO1.cell 0 (by decide);have CN:=Aa (fW0 b ba bc 4 n (dE n).length pb (pb+1) (pb+1+1) 64 W1 (by have:=HHL.out 0;have:=HHZ.out;omega) (by omega) (HAT.out.grows av) HC0.out rr (by decide) cb ca co (hA1.froz 0));have iw:=λ(Y:World)=>rU0 n Y (by omega);obtain⟨iu,vo,vp,vq,vr⟩:=rN0;clear av;go_enter Tryz.func78,Tryz.ntmps78
 go_wp2_with fail
 rw[<-bz,<-HPB.out];clear bz dn cb ca co;refine CN.out.mono ?_;rintro e w3 ⟨rfl,w2,ah,rfl⟩;obtain⟨k0,li⟩:=exq (4+(dE n).length);rw[<-li]at HHZ ⊢;have jx:=(zi.grows ah).other (b':=pb+1) (j':=0) (by omega) (.int .i64 (k0:Nat));have we:=(hO1.grows ah).other (b':=pb+1) (j':=0) (by omega) (.int .i64 (k0:Nat));have hA2:=((hA1.grows ah).set (k:=0) (by decide) (.int .i64 (k0:Nat))).congr (g:=λ_ => .int .i64 (k0:Nat)) (λj hj=>by rw[if_pos (by omega)]);have me:=hO1.lt;have bv:aB w (w2.setCell ⟨pb+1,0,none⟩ (.int .i64 (k0:Nat))):=(aB.trans _ _ _ HG1.out ah).set (by rw[HPB.out];simp) _;have pq:pb+1+1<(w2.setCell ⟨pb+1,0,none⟩ (.int .i64 (k0:Nat))).heap.size:=by have:=ah.size;simp;omega
 obtain⟨W3,jm⟩:=exq (w2.setCell ⟨pb+1,0,none⟩ (.int .i64 (k0:Nat)));rw[<-jm]at jx we hA2 bv pq ⊢;clear jm zi hA1 hO1 ah CN li;obtain⟨pa,il⟩:=exq (pb+1);obtain⟨po,hpo⟩:=exq (pb+1+1);rw[<-hpo]at we pq ⊢;rw[<-il]at hA2 ⊢;have aae:pb<pa:=by omega
 have ay:pa<po:=by omega
 have HPA:=Aa (And.intro il hpo);clear il hpo;go_wp2_with (at_make;refine wpList_make_full _ rfl _ _ 62 rfl W3.heap.size 119 iu (.agg #[.string ⟨#[]⟩,.slice none 0 0]) 2 Tryz.underlying62 vo vp vq .i64 .i64 _ _ n rfl rfl rfl rfl (by rw[vr];omega) (by unfold maxLen;omega) (Aj _) ?_;intro w4 cu ab5)
 obtain⟨lb,j3⟩:=exq W3.heap.size;rw[<-j3]at cu ⊢;obtain⟨zl,hL4⟩:=rE cu;have d8:aB W3 w4:=(aB.refl W3).grown ab5 (λq hq=>by cases hq);have ur:=zF (w:=w4) (n:=n) (by omega);obtain⟨W5,ri⟩:=exq (w4.alloc (.cells (madeCells #[.int .i64 0] (n*1)) 3));have bk:aB w4 W5:=by rw[ri];exact aB.alloc _ _
 rw[<-ri]at ur;obtain⟨sb,lz⟩:=exq w4.heap.size;rw[<-lz]at ur ⊢
 have ab6:W5.ownsRow sb 3 1 (.slice (some ⟨sb,0,none⟩) n n) n ((Be n 0).flatMap fI):=by
  have:=ur
  unfold aT at this;rwa [List.length_replicate]at this
 obtain⟨zs,hS5⟩:=rE ab6;rw[Az]at hS5;have hL5:=hL4.grows bk;have pz:=aB.trans _ _ _ d8 bk;have ny:=jx.grows pz;have hO5:=we.grows pz;have hA5:=hA2.grows pz;have cn:=aB.trans _ _ _ bv pz;have ags:po<lb:=by omega
 have agt:lb<sb:=by rw[lz];exact hL4.lt
 rw[Az]at ri;try rw[<-ri]
 have HG5:=Aa cn;clear ur ab6 cu ab5 hL4 d8 bk pz jx we hA2 bv cn j3 lz ri vo vp vq vr pq me;go_loopw [9] (λi wr=>∃(k:Nat),k<=n/\i=.int .i64 k/\nA wr pb 1 (λ_ => .slice ba b.length bc)/\nA wr pa 1 (λ_ => .int .i64 (hposP P k:Nat))/\nA wr po 1 (λ_ => .bool true)/\nA wr lb (n*2) (flN zl P k)/\nA wr sb n (fsN zs P k)/\aB w wr) (λi _=>n-(intOf i).toNat)
 case atStart=>exact⟨0,Ao _,rfl,ny,by rw[HHZ.out];exact hA5,hO5,hL5.congr (λj _=>by unfold flN;rw[if_neg (by omega)]),hS5.congr (λj _=>by unfold fsN;rw[if_neg (by omega)]),HG5.out⟩
 case round =>
  clear ny hO5 hA5 hL5 hS5;obtain⟨k,hk,rfl,hB,hA,hO,hL,hS,hg⟩:=hrel;by_cases ae:k<n
  ·obtain⟨p,hp⟩:∃p,P[k]?=some p:=⟨_,Ac (by rw[<-HN.out];exact ae)⟩
   have ta:=Ad hp;have hz1:=HNM.out p ta;have gj:=HSZ.out p ta;have cp:(k:Int)<n:=by omega
   have cb:=hB.cell 0 (by decide);have ca:=hA.cell 0 (by decide);have co:=hO.cell 0 (by decide);have CT:=Aa (jK0 b (hposP P k) ba bc wr (HHL.out k) (by omega) ep HNC.out (HAT.out.grows hg));rw[HNA.out k p hp]at CT;unfold oU0 at CT;obtain⟨K1,hK1⟩:=exq (hposP P k+(sC p.name).length);have HR:=Aa (HSI.out k p hp);have HSUC:=Aa (jY0 hp);simp only[<-hK1]at CT;rw[<-hK1]at HR HSUC;have aev:K1<=b.length:=by have:=HHL.out (k+1);have:=HSUC.out;omega
   obtain⟨kk,qt⟩:=exq (hposP P k);rw[<-qt]at CT ca;have HKK:=Aa qt;clear hK1 qt ta;go_wp2_with fail
   refine CT.out.mono ?_;rintro e w6 ⟨rfl,cy⟩;have rz:=hB.grows cy;have hA6:=hA.grows cy;have hO6:=hO.grows cy;have tc:=hL.grows cy;have hS6:=hS.grows cy;have cl:=tc.cell (k*2) (by omega);have fl:=tc.froz (k*2);have hL7:=(tc.set (k:=k*2) (by omega) (.string p.name)).congr (g:=λj=>if j=k*2 then Value.string p.name else flN zl P k j) (λj _=>rfl)
   have td:=hA6.other (b':=lb) (j':=k*2) (by omega) (.string p.name);have ca7:=td.cell 0 (by decide);have fa7:=td.froz 0;have sw:=hL7.other (b':=pa) (j':=0) (by omega) (.int .i64 (K1:Nat));have hA8:=(td.set (k:=0) (by decide) (.int .i64 (K1:Nat))).congr (g:=λ_ => .int .i64 (K1:Nat)) (λj hj=>by rw[if_pos (by omega)]);have hB8:=(rz.other (b':=lb) (j':=k*2) (by omega) (.string p.name)).other (b':=pa) (j':=0) (by omega) (.int .i64 (K1:Nat));have hO8:=(hO6.other (b':=lb) (j':=k*2) (by omega) (.string p.name)).other (b':=pa) (j':=0) (by omega) (.int .i64 (K1:Nat));have rj:=(hS6.other (b':=lb) (j':=k*2) (by omega) (.string p.name)).other (b':=pa) (j':=0) (by omega) (.int .i64 (K1:Nat));have te:w.heap.size<=pa:=by have:=HPA.out;have:=HPB.out;omega
   have ej:aB w ((w6.setCell ⟨lb,k*2,none⟩ (.string p.name)).setCell ⟨pa,0,none⟩ (.int .i64 (K1:Nat))):=((aB.trans _ _ _ hg cy).set (by simp only;omega) _).set te _;obtain⟨W8,hW8⟩:=exq ((w6.setCell ⟨lb,k*2,none⟩ (.string p.name)).setCell ⟨pa,0,none⟩ (.int .i64 (K1:Nat)));rw[<-hW8]at sw hA8 hB8 hO8 rj ej;clear hB hA hO hL hS hg cb ca co rz hA6 hO6 tc hS6 hL7 td cy;go_wp2_with fail
   rw[<-hW8];clear hW8 cl fl ca7 fa7;have cb8:=hB8.cell 0 (by decide);have ca8:=hA8.cell 0 (by decide);have co8:=hO8.cell 0 (by decide);obtain⟨SZ,ws⟩:=exq p.data.length;rw[<-ws]at HR HSUC gj;have HSZ2:=Aa ws;refine(fW0 b ba bc K1 SZ (dE SZ).length pb pa po 16777216 W8 aev (by omega) (HAT.out.grows ej) HR.out gj (by decide) cb8 ca8 co8 (hA8.froz 0)).mono ?_;rintro e zr ⟨rfl,w9,fq,rfl⟩;obtain⟨K2,lh⟩:=exq (K1+(dE SZ).length);rw[<-lh]at HSUC ⊢;clear lh ws cb8 ca8 co8;have q7:=(hB8.grows fq).other (b':=pa) (j':=0) (by omega) (.int .i64 (K2:Nat));have hO9:=(hO8.grows fq).other (b':=pa) (j':=0) (by omega) (.int .i64 (K2:Nat));have hL9:=(sw.grows fq).other (b':=pa) (j':=0) (by omega) (.int .i64 (K2:Nat));have ve:=(rj.grows fq).other (b':=pa) (j':=0) (by omega) (.int .i64 (K2:Nat));have hA9:=((hA8.grows fq).set (k:=0) (by decide) (.int .i64 (K2:Nat))).congr (g:=λ_ => .int .i64 (K2:Nat)) (λj hj=>by rw[if_pos (by omega)]);have f7:aB w (w9.setCell ⟨pa,0,none⟩ (.int .i64 (K2:Nat))):=(aB.trans _ _ _ ej fq).set te _;obtain⟨W10,ab7⟩:=exq (w9.setCell ⟨pa,0,none⟩ (.int .i64 (K2:Nat)));rw[<-ab7]at q7 hO9 hL9 ve hA9 f7 ⊢;have cs:=ve.cell k ae;have fs:=ve.froz k;have aew:=(ve.set ae (.int .i64 (SZ:Nat))).congr (g:=fsN zs P (k+1)) (λj _=>by rw[HSZ2.out];exact tD0 hp j);have aex:=q7.other (b':=sb) (j':=k) (by omega) (.int .i64 (SZ:Nat));have aey:=hO9.other (b':=sb) (j':=k) (by omega) (.int .i64 (SZ:Nat));have aez:=hA9.other (b':=sb) (j':=k) (by omega) (.int .i64 (SZ:Nat));have ae0:=(hL9.other (b':=sb) (j':=k) (by omega) (.int .i64 (SZ:Nat))).congr (g:=flN zl P (k+1)) (λj _=>tU0 hp j);have nc:=f7.set (p:=⟨sb,k,none⟩) (by simp only;omega) (.int .i64 (SZ:Nat));clear hB8 hO8 sw rj hA8 ej fq q7 hO9 hL9 ve hA9 f7 ab7 hp;go_wp2_with fail
   go_roundw
   case rel=>exact⟨k+1,ae,by go_num,aex,by rw[HSUC.out];exact aez,aey,ae0,aew,nc⟩
   case measure=>simp[intOf];omega
  ·obtain rfl:n=k:=by omega
   have hL0:nA wr lb (n*2) (flD zl P []):=hL.congr (λj hj=>by
    have h:=vC0 zl P j (by rw[<-HN.out];exact hj);rw[<-HN.out]at h;exact h)
   rw[<-HDZ.out]at hA;have HGR:=Aa hg;clear hL;go_wp2_with fail
   go_loopw [53] (λi wx=>∃Q:List aX,i=.int .i64 (Q.length:Nat)/\nA wx pb 1 (λ_ => .slice ba b.length bc)/\nA wx pa 1 (λ_ => .int .i64 (nQ P Q.length:Nat))/\nA wx po 1 (λ_ => .bool true)/\nA wx lb (n*2) (flD zl P Q)/\nA wx sb n (fsN zs P n)/\yU wx sb P Q/\aB w wx) (λi _=>n-(intOf i).toNat)
   case atStart=>exact⟨[],rfl,hB,hA,hO,hL0,hS,⟨Ao _,rfl,λq hq=>by (cases hq),λq hq=>by (cases hq),λq hq=>by (cases hq)⟩,hg⟩
   case round =>
    clear hB hA hO hL0 hS hg;obtain⟨Q,rfl,hB,hA,hO,hL,hS,hQ,hg⟩:=hrel;have hQn:Q.length<=n:=by rw[HN.out];exact hQ.len
    obtain⟨k,hk⟩:=exq Q.length;have HKQ:=Aa hk;by_cases ae:k<n
    ·obtain⟨p,hp⟩:∃p,P[k]?=some p:=⟨_,Ac (by rw[<-HN.out];exact ae)⟩
     have gj:=HSZ.out p (Ad hp);have cs:=hS.cell k ae;rw[yJ0 hp ae]at cs;obtain⟨D,hD⟩:=exq (nQ P k);have HD:=Aa hD;have HDS:=Aa (vU hp);have HDATA:=Aa (HDA.out k p hp);have hDb:D+p.data.length<=b.length:=by rw[hD,<-vU hp];exact HDL.out (k+1)
     rw[<-hk,<-hD]at hA;rw[<-hD]at HDS HDATA;obtain⟨SZ,ws⟩:=exq p.data.length;rw[<-ws]at cs gj hDb HDS HDATA;have HSE:=Aa ws;have HP:=Aa hp;have cp:(k:Int)<n:=by omega
     have cb:=hB.cell 0 (by decide);have ca:=hA.cell 0 (by decide);have co:=hO.cell 0 (by decide);have abp:IntKind.i64.wrap ((b.length:Int)-(D:Int))=((b.length-D:Nat):Int):=by simp[Ak,Al,Ah];omega
     have vh:¬((b.length-D:Nat):Int)<SZ:=by omega
     have wa:IntKind.i64.wrap ((D:Int)+SZ)=((D+SZ:Nat):Int):=by simp[Ak,Al,Ah];omega
     have h01:(0:Int)<=(D:Int)+SZ:=by omega
     have h02:(D:Int)+SZ<=bc:=by omega
     have tn:((D:Int)+SZ).toNat=D+SZ:=by omega
     have tk:D<=D+SZ:=by omega
     have tm:D+SZ-D=SZ:=by omega
     obtain⟨a',ff,gq,se⟩:=rW (c:=bc) (l:=D) (h:=D+SZ) (k:=1) (HAT.out.grows hg) HNC.out (by omega) (by omega) (by omega);rw[tm]at ff;rw[HDATA.out]at gq
     have aea:(if bc=D then ba else Option.map (λx=>x.add D) ba)=a':=by
      unfold sliced at ff;by_cases m4:bc=D
      ·rw[if_pos m4]at ff ⊢;exact(Value.slice.inj ff).1
      ·rw[if_neg m4]at ff ⊢
       have:=(Value.slice.inj ff).1
       rw[<-this];congr 1
       funext x
       rw[Az]
     have CC:=Aa (vG p.data a' (bc-D) wr (by omega) se gq);rw[<-ws]at CC;rw[<-hk];clear hD ws hp ff gq se hk;go_wp2_with fail
     refine CC.out.mono ?_;rintro e w6 ⟨v6,rfl,rk,cy⟩;obtain⟨qa,qc,rfl,jq,j8⟩:=dO rk
     have ab8:∀r:Addr,qa=some r->sb<r.block:=λr hr=>by
      have h1:=hS.lt;rcases rk.2 with ⟨e,_⟩|⟨g,cap,b9,e,hb9,_⟩
      ·rw[hr]at e;cases (Value.slice.inj e).1
      ·have e1:=(Value.slice.inj e).1
       rw[hr]at e1;cases e1
       simp only;omega
     have rz:=hB.grows cy;have hA6:=hA.grows cy;have hO6:=hO.grows cy;have tc:=hL.grows cy;have hS6:=hS.grows cy;have hQ6:=hQ.grows cy;rw[<-HSE.out];have cl:=tc.cell (k*2+1) (by omega);have fl:=tc.froz (k*2+1);have ca6:=hA6.cell 0 (by decide);have td:=hA6.other (b':=lb) (j':=k*2+1) (by omega) (.slice qa SZ qc);have ca7:=td.cell 0 (by decide);have fa7:=td.froz 0;have hL7:=tc.set (k:=k*2+1) (by omega) (.slice qa SZ qc);have te:w.heap.size<=pa:=by have:=HPA.out;have:=HPB.out;omega
     have sw:=(hL7.other (b':=pa) (j':=0) (by omega) (.int .i64 ((D:Int)+SZ))).congr (g:=flD zl P (Q++[⟨p.name,p.data,qa,qc⟩])) (λj _=>by
      rw[HKQ.out,HSE.out];exact tA0 ⟨p.name,p.data,qa,qc⟩ j)
     have hA8:=(td.set (k:=0) (by decide) (.int .i64 ((D:Int)+SZ))).congr (g:=λ_ => .int .i64 ((D+SZ:Nat):Int)) (λj hj=>by rw[if_pos (by omega)];push_cast;rfl);have hB8:=(rz.other (b':=lb) (j':=k*2+1) (by omega) (.slice qa SZ qc)).other (b':=pa) (j':=0) (by omega) (.int .i64 ((D:Int)+SZ));have hO8:=(hO6.other (b':=lb) (j':=k*2+1) (by omega) (.slice qa SZ qc)).other (b':=pa) (j':=0) (by omega) (.int .i64 ((D:Int)+SZ));have rj:=(hS6.other (b':=lb) (j':=k*2+1) (by omega) (.slice qa SZ qc)).other (b':=pa) (j':=0) (by omega) (.int .i64 ((D:Int)+SZ))
     have hQ8:yU ((w6.setCell ⟨lb,k*2+1,none⟩ (.slice qa SZ qc)).setCell ⟨pa,0,none⟩ (.int .i64 ((D:Int)+SZ))) sb P (Q++[⟨p.name,p.data,qa,qc⟩]):=by
      have h1:yU w6 sb P (Q++[⟨p.name,p.data,qa,qc⟩]):=by
       refine⟨by rw[Ab,Am,<-HKQ.out,<-HN.out];omega,?_,λq hq=>?_,λq hq=>?_,λq hq=>?_⟩
       ·rw[Ab,Am,List.take_add_one,<-HKQ.out,HP.out,Bo,Bo]
        have:=hQ6.bare
        rw[<-HKQ.out]at this;rw[this];rfl
       ·rcases List.mem_append.1 hq with h|h
        ·exact hQ6.at_ q h
        ·rw[Ay]at h;subst h;exact jq
       ·rcases List.mem_append.1 hq with h|h
        ·exact hQ6.none_ q h
        ·rw[Ay]at h;subst h;exact j8
       ·rcases List.mem_append.1 hq with h|h
        ·exact hQ6.far q h
        ·rw[Ay]at h;subst h;exact ab8
      exact(h1.set (by omega) _).set (by omega) _
     have ej:aB w ((w6.setCell ⟨lb,k*2+1,none⟩ (.slice qa SZ qc)).setCell ⟨pa,0,none⟩ (.int .i64 ((D:Int)+SZ))):=((aB.trans _ _ _ hg cy).set (by simp only;omega) _).set te _;have HLEN:Hid ((Q++[(⟨p.name,p.data,qa,qc⟩:aX)]).length=k+1):=by show _=_;rw[Ab,Am,<-HKQ.out]
     clear hB hA hO hL hS hQ hg cb ca co rz hA6 hO6 tc hS6 hQ6 hL7 td cy rk jq j8 ab8 CC;go_wp2_with fail
     go_roundw
     case rel=>exact⟨Q++[⟨p.name,p.data,qa,qc⟩],by rw[HLEN.out];go_num,hB8,by rw[HLEN.out,HDS.out];exact hA8,hO8,sw,rj,hQ8,ej⟩
     case measure=>simp[intOf];omega
    ·have hkn:k=n:=by omega
     rw[<-hk,hkn,HDE.out]at hA;have nz:Q.length=P.length:=by rw[<-HN.out];omega
     have ml:Q.map bare=P.map bare:=by have:=hQ.bare;rw[nz,Ar]at this;exact this
     have gb:∀q∈Q,∃p∈P,q.name=p.name/\q.data=p.data:=λq hq=>by
      have h1:bare q∈P.map bare:=by rw[<-ml];exact List.mem_map.2 ⟨q,hq,rfl⟩
      obtain⟨p,hp,he⟩:=List.mem_map.1 h1;have h2:(bare p).name=(bare q).name:=by rw[he]
      have h3:(bare p).data=(bare q).data:=by rw[he]
      exact⟨p,hp,h2.symm,h3.symm⟩
     have HPOST:Hid (aF wr (some ⟨lb,0,none⟩) 2 (Q.map iR)/\gF wr Q):=⟨vL0 (by rw[<-HN.out];exact hL) nz ml,hQ.at_,hQ.none_,λq hq=>by
      obtain⟨p,hp,h1,_⟩:=gb q hq;rw[h1];exact Bb (HNM.out p hp) (by decide),λq hq=>by
      obtain⟨p,hp,_,h2⟩:=gb q hq;rw[h2];exact Bb (HSZ.out p hp) (by decide)⟩
     have HBR:=Aa ml;have HQL:=Aa nz;have z0:∀x:Ext aB wr.drew,x.u.cell? ⟨pb,0,none⟩=some (.slice ba b.length bc):=aG ((aB.drew wr).cell (hB.cell 0 (by decide)));have z1:∀x:Ext aB wr.drew,x.u.cell? ⟨pa,0,none⟩=some (.int .i64 (b.length:Nat)):=aG ((aB.drew wr).cell (hA.cell 0 (by decide)));have z2:∀x:Ext aB wr.drew,x.u.cell? ⟨po,0,none⟩=some (.bool true):=aG ((aB.drew wr).cell (hO.cell 0 (by decide)));have cp:¬(k:Int)<n:=by omega
     have qt:((Q.length:Nat):Int)=k:=by rw[hk]
     clear hB hA hO hL hS hQ gb ml nz;rw[<-hk];clear hk qt;go_wp2_with fail
     refine bI (bB 10 []) (by kernel_rfl) (λd _ _ _ _ h=>by cases d<;>exact h) ?_
     iterate 10 (refine aK rfl (λK hK=>?_);go_simp;refine hK _ ?_;clear hK K)
     refine bT ?_;go_wp2_with fail
     go_ret2;refine⟨hg.dr,Q,some ⟨lb,0,none⟩,n,?_,HBR.out,HPOST.out.1.grows (aB.drew wr),HPOST.out.2.grows (aB.drew wr)⟩;rw[HQL.out,<-HN.out];rfl
def mG0 (P:List aX) (w:World) (e:Ending) (w':World):Prop :=
 aB w w'/\∃(Q:List aX) (a:Option Addr) (c:Nat),e=.returned (.tuple #[.slice a Q.length c,.int .i64 0])/\Q.map bare=P.map bare/\aF w' a 2 (Q.map iR)/\gF w' Q
theorem fG0 (P:List aX) (ba:Option Addr) (bc:Nat) (w:World) (he:Env w) (ly:eB P=0) (ep:(fR P).length<=bc) (hbm:bc<=maxLen) (jo:ba=none->bc=0) (ac:aF w ba 1 ((fR P).map aQ)) :
  Calls Tryz.prog 19 #[.slice ba (fR P).length bc] w (mG0 P w):=by
 have fk:=qY ly;obtain⟨b,hb⟩:=exq (fR P);obtain⟨bo,hbo⟩:=exq (cK P);have kz:b=bo++leB 4 (crcSum bo):=by rw[hb,hbo];rfl
 have ak:b.length=bo.length+4:=by rw[kz,Ab,bD]
 have h5:5<=bo.length:=by
  have:1<=(dE P.length).length:=List.length_pos_iff.2 (mA0 P.length)
  rw[hbo];unfold cK;simp only[Ab,Aq,Bn];omega
 have aaf:(b.take 4).drop 0=[72,78,75,49]:=by
  rw[kz,hbo];unfold cK;simp
 have aag:(b.take bo.length).drop 0=bo:=by rw[kz];simp
 have jp:(b.take b.length).drop bo.length=leB 4 (crcSum bo):=by rw[Ar,kz];simp
 rw[<-hb]at ep ac ⊢;rw[<-hbo]at fk;have HAT:=Aa ac;have HNC:=Aa jo;have HE:=Aa he;have HB:=Aa hb;have HBO:=Aa hbo;have HCHK:=Aa ly;have HMAG:=Aa aaf;have HBOD:=Aa aag;have HSUM:=Aa jp;have HLEN:=Aa ak;obtain⟨m,hm⟩:=exq bo.length;rw[<-hm]at ak h5 fk;have HM:=Aa hm;obtain⟨n,hn⟩:=exq b.length;rw[<-hn]at ak ep ⊢;have HN:=Aa hn;subst ak
 have hcv:(convert 28 9 (.slice ba 4 bc)).run Tryz.prog w=.ok (.string ⟨#[72,78,75,49]⟩) w:=by
  have h:=rS (c:=bc) (pJ0 ac 4);rw[show b.take 4=[72,78,75,49] by exact aaf]at h
  exact h
 have sn:aF w ba 1 (bo.map aQ):=by
  have h:=pJ0 ac m;rw[show b.take m=bo by rw[hm];exact aag]at h
  exact h
 obtain⟨a1,gd,z9,jc⟩:=tZ (l:=m) (h:=m+4) ac jo (by omega) (by rw[<-HN.out];exact Aj _) (by rw[<-HN.out];exact ep);rw[show (b.take (m+4)).drop m=leB 4 (crcSum bo) by rw[HN.out,hm];exact jp]at z9
 have HA1:=Aa z9;have HATB:=Aa sn;have hn9:¬((m:Int)+4<9):=by omega
 have h4a:(4:Int)<=bc:=by omega
 have abp:IntKind.i64.wrap ((m:Int)+4-4)=(m:Int):=by simp[Ak,Al,Ah];omega
 have wm:IntKind.i64.wrap (m:Int)=(m:Int):=by simp[Ak,Al,Ah];omega
 have lg:(m:Int)<=bc:=by omega
 have uo:(m:Int)<=(m:Int)+4:=by omega
 have CS:=λ(W:World) (h:aB w W)=>Aa (qO bo ba bc W (HE.out.grows h) (by rw[<-HM.out];omega) (HATB.out.grows h));have CP:=λ(W:World) (h:aB w W)=>Aa (iS0 P ba bc W HCHK.out (by rw[<-HBO.out,<-HM.out];omega) hbm HNC.out (by rw[<-HBO.out];exact HATB.out.grows h));rw[<-HBO.out]at CP;rw[<-HM.out]at CS CP;clear ac jo he hb hbo ly aaf aag jp kz hm hn z9 sn;go_enter Tryz.func19,Tryz.ntmps19
 have CE:∀(W:World) (s1:Option Addr) (d1:Nat),aB w W->aF W s1 1 ((leB 4 (crcSum bo)).map aQ)->Hid (Calls Tryz.prog 76 #[.slice a1 4 (bc-m),.slice s1 4 d1] W λe w'=>e=.returned (.bool true)/\W=w'):=λW s1 d1 hW h1=>by
  have h:=jV (leB 4 (crcSum bo)) (leB 4 (crcSum bo)) a1 s1 (bc-m) d1 W (HA1.out.grows hW) h1;rw[bD]at h;simp only[decide_true]at h;exact h
 have CE2:∀(W:World) (s1:Option Addr) (d1:Nat),aB w W->aF W s1 1 (b.map aQ)->Hid (Calls Tryz.prog 76 #[.slice s1 (m+4) d1,.slice ba (m+4) bc] W λe w'=>e=.returned (.bool true)/\W=w'):=λW s1 d1 hW h1=>by
  have h:=jV b b s1 ba d1 bc W h1 (HAT.out.grows hW);rw[<-HN.out]at h;simp only[decide_true]at h;exact h
 go_wp2_with fail
 refine bI (bB 9 [6,7]) (by kernel_rfl) (λd _ _ _ _ h=>by cases d<;>exact h) ?_
 iterate 6 (refine aK rfl (λK hK=>?_);go_simp;refine hK _ ?_;clear hK K)
 refine bU rfl rfl (λK hK=>?_);go_simp;refine((CS w.drew (aB.drew w)).out).mono ?_;rintro e w1 ⟨v1,rfl,ab9,av⟩;refine⟨av,hK _ _ ?_⟩;clear hK K;have cg:=aB.trans _ _ _ (aB.drew w) av;obtain⟨s1,d1,rfl,de,_⟩:=dO ab9;rw[bD];refine bU rfl rfl (λK hK=>?_);go_simp;refine((CE w1 s1 d1 cg de).out).mono ?_;rintro e w2 ⟨rfl,rfl⟩;refine⟨aB.refl _,hK _ _ ?_⟩;clear hK K;iterate 1 (refine aK rfl (λK hK=>?_);go_simp;refine hK _ ?_;clear hK K)
 refine bT ?_;clear ab9 de av CS CE;go_wp2_with fail
 refine(CP w1 cg).out.mono ?_;rintro e w3 ⟨bv,Q,qa,qc,rfl,ml,jq,hqp⟩;have ix:=aB.trans _ _ _ cg bv;have hq0:eB Q=0:=by rw[<-mK,ml,mK];exact HCHK.out
 have hqf:fR Q=b:=by rw[<-kR,ml,kR,HB.out]
 have hql:=(nC hq0).1;have CJ:=Aa (fS0 Q qa qc w3 (HE.out.grows ix) (by omega) jq hqp);have HQ:=Aa (And.intro ml (And.intro jq hqp));have HQ0:=Aa hq0;have HQF:=Aa hqf;clear bv ml jq hqp hq0 hqf CP cg;go_wp2_with fail
 refine CJ.out.mono ?_;rintro e w4 ⟨ku,_,d8⟩;obtain⟨v4,rfl,tf⟩:=ku HQ0.out;rw[HQF.out]at tf;obtain⟨s4,d4,rfl,hs4,_⟩:=dO tf;rw[<-HN.out];have gu:=aB.trans _ _ _ ix d8;have CE4:=CE2 w4 s4 d4 gu hs4;clear ku tf hs4 CJ CE2;go_wp2_with fail
 refine CE4.out.mono ?_;rintro e w5 ⟨rfl,rfl⟩;go_wp2
 go_ret2;exact⟨gu,Q,qa,qc,rfl,HQ.out.1,HQ.out.2.1.grows d8,HQ.out.2.2.grows d8⟩
end
section
open Go Go.RowKit
attribute [local go_sem] aM aO
theorem fP0 (l:List Nat) (ba:Option Addr) (bc:Nat) (w:World) (hl:l.length<=1048576) (hn:∀n∈l,n<18446744073709551616) (ep:(bV l).length<=bc) (jo:ba=none->bc=0) (ac:aF w ba 1 ((bV l).map aQ)) :
  Calls Tryz.prog 150 #[.slice ba (bV l).length bc] w λe w'=>∃pb,e=.returned (.tuple #[.pointer (some ⟨pb,0,none⟩),.int .i64 0])/\cH0 w' pb l/\aB w w':=by
 have dh:lD l<=64:=mA.2 hn;have ak:=pA l;obtain⟨b0,b1,b2,b3,db,h0,h1,h2,h3,kq⟩:=kC0 l;replace kq:=kq (by omega);obtain⟨W,hW⟩:=exq (lD l);obtain⟨n,pv⟩:=exq l.length;obtain⟨b,hb⟩:=exq (bV l);rw[<-hb]at db ak ep ac ⊢;rw[<-hW]at db ak dh;rw[<-pv]at ak hl kq;obtain⟨M,hM⟩:=exq ((n*W+7)/8);rw[<-hM]at ak;have HAT:=Aa ac;have HNC:=Aa jo;have HB:=Aa hb;have HN:=Aa hn;have HW:=Aa hW;have HNL:=Aa pv;have HHEAD:=Aa db;have HM:=Aa hM;obtain⟨bb,bo,rfl,hc⟩:=at1 (f:=λx:UInt8=>Value.int .u8 x.toNat) ac (by rw[db];simp);have tN:∀x:Nat,x<256->((Aw x).toNat:Int)=x:=λx hx=>by simp;omega
 have q0:w.cell? ⟨bb,bo,none⟩=some (.int .u8 b0):=by have:=hc 0 (Aw b0) (by rw[db];rfl);rw[tN _ h0]at this;exact this
 have q1:w.cell? ⟨bb,bo+1,none⟩=some (.int .u8 b1):=by have:=hc 1 (Aw b1) (by rw[db];rfl);rw[tN _ h1]at this;exact this
 have q2:w.cell? ⟨bb,bo+2,none⟩=some (.int .u8 b2):=by have:=hc 2 (Aw b2) (by rw[db];rfl);rw[tN _ h2]at this;exact this
 have q3:w.cell? ⟨bb,bo+3,none⟩=some (.int .u8 b3):=by have:=hc 3 (Aw b3) (by rw[db];rfl);rw[tN _ h3]at this;exact this
 have q4:w.cell? ⟨bb,bo+4,none⟩=some (.int .u8 W):=by have:=hc 4 (Aw W) (by rw[db];rfl);rw[tN _ (by omega)]at this;exact this
 have z0:∀x:Ext aB w.drew,x.u.cell? ⟨bb,bo,none⟩=some (.int .u8 b0):=aG ((aB.drew w).cell q0);have z1:∀x:Ext aB w.drew,x.u.cell? ⟨bb,bo+1,none⟩=some (.int .u8 b1):=aG ((aB.drew w).cell q1);have z2:∀x:Ext aB w.drew,x.u.cell? ⟨bb,bo+2,none⟩=some (.int .u8 b2):=aG ((aB.drew w).cell q2);have z3:∀x:Ext aB w.drew,x.u.cell? ⟨bb,bo+3,none⟩=some (.int .u8 b3):=aG ((aB.drew w).cell q3);have z4:∀x:Ext aB w.drew,x.u.cell? ⟨bb,bo+4,none⟩=some (.int .u8 W):=aG ((aB.drew w).cell q4);obtain⟨N,hN⟩:=exq b.length;rw[<-hN]at ak ep ⊢;have HN2:=Aa hN;have HLEN:=Aa ak;have hl5:¬(N:Int)<5:=by omega
 have i0:0<N:=by omega
 have i1:(1:Int)<N:=by omega
 have i2:(2:Int)<N:=by omega
 have i3:(3:Int)<N:=by omega
 have i4:(4:Int)<N:=by omega
 have wi:∀x:Nat,x<256->IntKind.i64.wrap (x:Int)=x:=λx hx=>by simp[Ak,Al,Ah];omega
 have w0:=wi b0 h0;have w1:=wi b1 h1;have w2:=wi b2 h2;have w3:=wi b3 h3;have wW:=wi W (by omega);obtain⟨c1,c2,c3,s1,s2,m1,m2,m3,o1,o2,o3⟩:=nU0 h0 h1 h2 h3 kq;clear wi kq hN ak ac jo hb hn hW pv db hM hc tN q0 q1 q2 q3 q4;go_enter Tryz.func150,Tryz.ntmps150
 go_wp2_with fail
 refine bI (bB 29 [27]) (by kernel_rfl) (λd _ _ _ _ h=>by cases d<;>exact h) ?_
 iterate 27 (refine aK rfl (λK hK=>?_);go_simp;refine hK _ ?_;clear hK K)
 refine bU rfl rfl (λK hK=>?_);go_simp;refine⟨aB.alloc _ _,hK _ _ ?_⟩;clear hK K z0 z1 z2 z3 z4;iterate 1 (refine aK rfl (λK hK=>?_);go_simp;refine hK _ ?_;clear hK K)
 refine bT ?_;obtain⟨pb,dn⟩:=exq w.heap.size;obtain⟨WB,jl⟩:=exq ((w.alloc (.cells #[.int .i64 n,.int .i64 W,.slice none 0 0] 279)).drew);have gi:aB w WB:=by rw[jl];exact(aB.alloc w _).dr
 obtain⟨bxc,bxf⟩:=cO (w:=w) (cs:=#[.int .i64 n,.int .i64 W,.slice none 0 0]) (t:=279) (w':=WB) (by rw[jl];exact aB.drew _);rw[<-dn]at bxc bxf;have g0:=bxc 0 _ rfl;have g1:=bxc 1 _ rfl;have g2:=bxc 2 _ rfl;have gf:=bxf 2;have cz:WB.heap.size=pb+1:=by rw[jl,dn];show (w.heap.push _).size=_;simp
 rw[<-jl];rw[<-dn];have HPB:=Aa dn;have HGB:=Aa gi;have HSZ:=Aa cz;clear bxc bxf jl w0 w1 w2 w3 wW o1 o2 o3 m1 m2 m3 h0 h1 h2 h3 hl5 i0 i1 i2 i3 i4 dn gi cz;have hLW:n*W<=1048576*64:=Nat.mul_le_mul hl dh;obtain⟨MM,hMM⟩:=exq (n*W);have HMM:=Aa hMM;have qv:MM<=1048576*64:=by rw[hMM];exact hLW
 have wM:IntKind.i64.wrap ((n:Int)*W)=MM:=by
  have h1:(n:Int)*W=MM:=by rw[hMM];push_cast;rfl
  rw[h1];exact fA (by omega)
 have hM8:M=(MM+7)/8:=by rw[HM.out,hMM]
 have wM7:IntKind.i64.wrap ((MM:Int)+7)=(MM:Int)+7:=by have:=fA (x:=MM+7) (by omega);rw[Bd]at this;exact this
 have e7:((MM:Int)+7)/8=M:=by omega
 have e7t:((MM:Int)+7).tdiv 8=M:=by rw[Ap (by omega)];exact e7
 have wM8:IntKind.i64.wrap (M:Int)=M:=fA (by omega);have wM5:IntKind.i64.wrap (5+(M:Int))=5+(M:Int):=by have:=fA (x:=5+M) (by omega);rw[Bd]at this;exact this
 have hNe:((N:Int) != 5+(M:Int))=false:=by have:=HLEN.out;simp;omega
 have jc:¬(1048576:Int)<n:=by omega
 have hw1:¬(64:Int)<W:=by omega
 have z0:∀y:Ext aB WB.drew,y.u.cell? ⟨pb,0,none⟩=some (.int .i64 n):=aG ((aB.drew WB).cell g0);have z1:∀y:Ext aB WB.drew,y.u.cell? ⟨pb,1,none⟩=some (.int .i64 W):=aG ((aB.drew WB).cell g1);have HM8:=Aa hM8;clear hMM hLW hM8;go_wp2_with fail
 refine bI (bB 29 []) (by kernel_rfl) (λd _ _ _ _ h=>by cases d<;>exact h) ?_
 iterate 29 (refine aK rfl (λK hK=>?_);go_simp;refine hK _ ?_;clear hK K)
 refine bT ?_;clear z0 z1;go_wp2_with fail
 obtain⟨WC,hWC⟩:=exq WB.drew;have s8:aB WB WC:=by rw[hWC];exact aB.drew WB
 have aah:WC.heap.size=pb+1:=by rw[hWC];exact HSZ.out
 have k0:=s8.cell g0;have k1:=s8.cell g1;have k2:=s8.cell g2;have kf:WC.frozen? ⟨pb,2,none⟩=false:=by rw[s8.froz (by show pb<WB.heap.size;rw[HSZ.out];omega)];exact gf
 have HGC:=Aa (aB.trans _ _ _ HGB.out s8);rw[<-hWC];clear hWC s8 g0 g1 g2 gf wM7 e7 e7t wM8 wM5 hNe jc hw1;obtain⟨q,hq⟩:=exq ((MM+63)/64);have qw:q<=1048576:=by omega
 have va:IntKind.i64.wrap ((MM:Int)+63)=(MM:Int)+63:=by have:=fA (x:=MM+63) (by omega);rw[Bd]at this;exact this
 have mf:((MM:Int)+63)/64=q:=by omega
 have qy:((MM:Int)+63).tdiv 64=q:=by rw[Ap (by omega)];exact mf
 have z0:∀y:Ext aB WC.drew,y.u.cell? ⟨pb,0,none⟩=some (.int .i64 n):=aG ((aB.drew WC).cell k0);have z1:∀y:Ext aB WC.drew,y.u.cell? ⟨pb,1,none⟩=some (.int .i64 W):=aG ((aB.drew WC).cell k1);have wq:IntKind.i64.wrap (q:Int)=q:=fA (by omega);have iw:=λ(Y:World)=>xX0 q Y qw;have HQ:=Aa hq;clear hq;refine qB 13 (bB 13 [12]) (by kernel_rfl) (λd _ _ _ _ h=>by cases d<;>exact h) ?_
 iterate 12 (refine aK rfl (λK hK=>?_);go_simp;refine hK _ ?_;clear hK K)
 refine bU rfl rfl (λK hK=>?_);go_simp;refine⟨aB.alloc _ _,hK _ _ ?_⟩;clear hK K z0 z1 iw mf qy va wq;refine bT ?_;simp only[List.drop_succ_cons,List.drop_zero];have aw:=zX (w:=WC) qw;rw[Az,aah]at aw;obtain⟨W3,jm⟩:=exq ((WC.alloc (.cells (madeCells #[.int .u64 0] q) 213)).drew);have bv:aB WC W3:=by rw[jm];exact(aB.alloc WC _).dr
 have kh:aT W3 (pb+1) 213 1 gT (.slice (some ⟨pb+1,0,none⟩) q q) (Be q 0):=by rw[jm];exact aw.grows (aB.drew _)
 rw[<-jm];try rw[aah]
 have me:pb+1<W3.heap.size:=by rw[jm];show pb+1<(WC.heap.push _).size;rw[Array.size_push,aah];omega
 have b32:=bv.cell k2;have b3f:W3.frozen? ⟨pb,2,none⟩=false:=by rw[bv.froz (by show pb<WC.heap.size;omega)];exact kf
 have j0:=bv.cell k0;have j1:=bv.cell k1;have ix:=aB.trans _ _ _ HGC.out bv;clear aw jm k0 k1 k2 kf bv
 -- the bytes behind the head
 obtain⟨a5,hif,zw⟩:∃a5,(if bc=5 then (some ⟨bb,bo,none⟩:Option Addr) else some ⟨bb,bo+5,none⟩)=a5/\aF w a5 1 ((uU l).map aQ):=by
  obtain⟨a',zf,gq,_⟩:=tZ (l:=5) (h:=N) HAT.out HNC.out (by have:=HLEN.out;omega) (by rw[HN2.out];exact Aj _) (by rw[<-HN2.out];exact ep);refine⟨a',?_,?_⟩
  ·rw[<-zf,Bc,jF]
  ·have e:(b.take N).drop 5=uU l:=by rw[HN2.out,Ar,HHEAD.out];rfl
   rw[e]at gq;exact gq
 have hN5:5<=N:=by have:=HLEN.out;omega
 have hNM:N-5=M:=by have:=HLEN.out;omega
 have agu:5<=bc:=by omega
 have h5i:(5:Int)<=N:=by omega
 have h5n:(N:Int)<=bc:=by omega
 have f5:(5:Int)<=bc:=by omega
 have HA5:=Aa zw;clear zw;go_wp2_with fail
 have e0:(W3.setCell ⟨pb,2,none⟩ (.slice (some ⟨pb+1,0,none⟩) q q)).cell? ⟨pb,0,none⟩=some (.int .i64 n):=(Af _ _ _ _ (λh=>by cases h)).trans j0;have e1:(W3.setCell ⟨pb,2,none⟩ (.slice (some ⟨pb+1,0,none⟩) q q)).cell? ⟨pb,1,none⟩=some (.int .i64 W):=(Af _ _ _ _ (λh=>by cases h)).trans j1;have e2:(W3.setCell ⟨pb,2,none⟩ (.slice (some ⟨pb+1,0,none⟩) q q)).cell? ⟨pb,2,none⟩=some (.slice (some ⟨pb+1,0,none⟩) q q):=World.cell?_setCell_same _ _ _ b32;have gu:aB w (W3.setCell ⟨pb,2,none⟩ (.slice (some ⟨pb+1,0,none⟩) q q)):=ix.set (by rw[HPB.out];exact Aj _) _;have jr:=jX kh (p:=⟨pb,2,none⟩) (Nat.lt_succ_self _) (.slice (some ⟨pb+1,0,none⟩) q q);rw[<-eL0 l W q]at jr;have aca:pb+1<(W3.setCell ⟨pb,2,none⟩ (.slice (some ⟨pb+1,0,none⟩) q q)).heap.size:=by simp;exact me
 obtain⟨W4,hW4⟩:=exq (W3.setCell ⟨pb,2,none⟩ (.slice (some ⟨pb+1,0,none⟩) q q));rw[<-hW4]at e0 e1 e2 gu jr aca ⊢;clear hW4 kh ix j0 j1 b32 b3f me;go_loopw [89] (λi wr=>∃k:Nat,k<=M/\i=.int .i64 k/\aT wr (pb+1) 213 1 gT (.slice (some ⟨pb+1,0,none⟩) q q) (lE l W k q)/\wr.cell? ⟨pb,0,none⟩=some (.int .i64 n)/\wr.cell? ⟨pb,1,none⟩=some (.int .i64 W)/\wr.cell? ⟨pb,2,none⟩=some (.slice (some ⟨pb+1,0,none⟩) q q)/\aB w wr) (λi _=>M-(intOf i).toNat)
 case atStart=>exact⟨0,Ao _,rfl,jr,e0,e1,e2,gu⟩
 case round =>
  clear jr e0 e1 e2 gu aca;obtain⟨k,hk,rfl,aa,e0,e1,e2,hg⟩:=hrel;by_cases ae:k<M
  ·have fk:(uU l).length=M:=by unfold uU;rw[Ag,An,HM.out,HNL.out,HW.out]
   obtain⟨x,hx⟩:∃x,(uU l)[k]?=some x:=⟨_,Ac (by rw[fk];exact ae)⟩;obtain⟨ab,ao,zw,hc5⟩:=at1 (f:=λx:UInt8=>Value.int .u8 x.toNat) (HA5.out.grows hg) (aH (by rw[fk];exact ae));have cx:=hc5 k x hx;subst zw
   have hxv:x.toNat=dX (bitAt l W) (8*k) 8:=by
    unfold uU at hx;rw[Ai,Ax (by rw[<-HW.out,<-HNL.out,<-HM.out];exact ae)]at hx;rw[<-Option.some.inj hx,HW.out]
    have:=gN (bitAt l (lD l)) (8*k) 8
    simp;omega
   obtain⟨c,fg⟩:=exq x.toNat;rw[<-fg]at cx hxv;have vc:c<256:=by rw[hxv];exact gN _ _ 8
   have hk8:8*k+8<=MM+7:=by have:=HM8.out;omega
   obtain⟨Q8,hQ8⟩:=exq (k/8);obtain⟨R8,hR8⟩:=exq (k%8);obtain⟨S8,rj⟩:=exq (R8*8);have mz:Q8<q:=by have:=HQ.out;omega
   have hQi:(Q8:Int)<q:=by omega
   have jk:S8<64:=by omega
   have d1:=bP (f:=λn:Nat=>Value.int .u64 n) aa (mH (by rw[<-hQ8];exact mz):(lE l W k q)[k/8]?=_);have HST:=Aa (eF0 (l:=l) (W:=W) (k:=k) (q:=q) (by rw[<-hQ8];exact mz));rw[<-hQ8]at d1 HST;obtain⟨y,hy⟩:=exq (dX (λp=>decide (p<8*k)&&bitAt l W p) (64*Q8) 64);have gn:y<18446744073709551616:=by rw[hy];exact gN _ _ 64
   rw[<-hy,<-hxv,<-hR8,<-rj]at HST;rw[<-hy]at d1;have r9:=aI0 (x:=y) (v:=c) (S:=S8) gn;obtain⟨y1,ke⟩:=exq (y|||(c<<<S8)%18446744073709551616)
   rw[<-ke]at r9 HST;obtain⟨fr,_,af⟩:=dJ (f:=λn:Nat=>Value.int .u64 n) aa (k:=Q8) (by rw[jO];exact mz) y1;have eq8:(k:Int)/8=Q8:=by omega
   have agv:(k:Int).tdiv 8=Q8:=by rw[Ap (by omega)];exact eq8
   have er8:(k:Int)%8=R8:=by omega
   have agw:(k:Int).tmod 8=R8:=by rw[Int.tmod_eq_emod_of_nonneg (by omega)];exact er8
   have wQ8:IntKind.i64.wrap (Q8:Int)=Q8:=fA (by omega);have wR8:IntKind.i64.wrap (R8:Int)=R8:=fA (by omega);have wS8:IntKind.i64.wrap ((R8:Int)*8)=S8:=by have:=fA (x:=R8*8) (by omega);rw[Bp,<-Bp,<-rj]at this;rw[<-this,rj];push_cast;rfl
   have uS8:IntKind.u64.wrap (S8:Int)=S8:=by simp[Ak,Al,Ah];omega
   have uc:IntKind.u64.wrap (c:Int)=c:=by simp[Ak,Al,Ah];omega
   have cp:(k:Int)<M:=by omega
   have f0:(wr.setCell ⟨pb+1,Q8,none⟩ (.int .u64 y1)).cell? ⟨pb,0,none⟩=some (.int .i64 n):=(Af _ _ _ _ (λh=>by have:=congrArg Ba h;simp at this)).trans e0;have f1:(wr.setCell ⟨pb+1,Q8,none⟩ (.int .u64 y1)).cell? ⟨pb,1,none⟩=some (.int .i64 W):=(Af _ _ _ _ (λh=>by have:=congrArg Ba h;simp at this)).trans e1;have f2:(wr.setCell ⟨pb+1,Q8,none⟩ (.int .u64 y1)).cell? ⟨pb,2,none⟩=some (.slice (some ⟨pb+1,0,none⟩) q q):=(Af _ _ _ _ (λh=>by have:=congrArg Ba h;simp at this)).trans e2;have HF:=Aa (And.intro f0 (And.intro f1 f2));have ah:aB w (wr.setCell ⟨pb+1,Q8,none⟩ (.int .u64 y1)):=hg.set (by rw[HPB.out];simp) _;have HO:=Aa af;clear hx hc5 hxv fg hQ8 hR8 rj hy ke af aa f0 f1 f2 hif;go_wp2_with fail
   go_roundw
   case rel=>exact⟨k+1,ae,by go_num,by rw[HST.out];exact HO.out,HF.out.1,HF.out.2.1,HF.out.2.2,ah⟩
   case measure=>simp[intOf];omega
  ·obtain rfl:M=k:=by omega
   rw[hT0 (by rw[HW.out];exact λx hx=>pL hx) (by rw[<-HNL.out,<-HMM.out];have:=HM8.out;omega)]at aa;have ae1:=λ(Y:World)=>xX0 n Y hl;have ie:=zX (w:=wr) (n:=n) hl;rw[Az]at ie;obtain⟨W5,ri⟩:=exq (wr.alloc (.cells (madeCells #[.int .u64 0] n) 213));have bk:aB wr W5:=by rw[ri];exact aB.alloc _ _
   obtain⟨lb,j3⟩:=exq wr.heap.size;rw[<-ri,<-j3]at ie;have agx:pb+1<lb:=by rw[j3];exact eY aa _ rfl
   rw[show Be n 0=jK l 0 0 by rw[mJ,HNL.out]]at ie
   have e05:=bk.cell e0;have e15:=bk.cell e1;have e25:=bk.cell e2;have ai:=aa.grows bk;have cn:=aB.trans _ _ _ hg bk;have ae2:w.heap.size<=lb:=by have:=HPB.out;omega
   clear aa;go_wp2_with fail
   try rw[<-ri]
   try rw[<-j3]
   clear ri j3 bk e0 e1 e2 hg hif ae1;go_loopw [119] (λi wx=>∃k:Nat,k<=n/\i=.int .i64 k/\aT wx lb 213 1 gT (.slice (some ⟨lb,0,none⟩) n n) (jK l 0 k)/\wx.cell? ⟨pb,0,none⟩=some (.int .i64 n)/\wx.cell? ⟨pb,1,none⟩=some (.int .i64 W)/\wx.cell? ⟨pb,2,none⟩=some (.slice (some ⟨pb+1,0,none⟩) q q)/\aT wx (pb+1) 213 1 gT (.slice (some ⟨pb+1,0,none⟩) q q) (dD l W q)/\aB w wx) (λi _=>n-(intOf i).toNat)
   case atStart=>exact⟨0,Ao _,rfl,ie,e05,e15,e25,ai,cn⟩
   case round =>
    clear ie e05 e15 e25 ai cn;obtain⟨k,ig,rfl,bj,e0,e1,e2,aa,hg⟩:=hrel;by_cases ay:k<n
    ·obtain⟨x,hx⟩:∃x,l[k]?=some x:=⟨_,Ac (by rw[<-HNL.out];exact ay)⟩
     have cp:(k:Int)<n:=by omega
     have CG:=Aa (fT0 pb (pb+1) q W k x (pb+1) l wr dh (by rw[<-HNL.out];exact hl) hx (by rw[HW.out];exact pL (Ad hx)) (by rw[<-HNL.out,<-HMM.out];have:=HQ.out;omega) e1 e2 aa);have HFS:=Aa (oU (z:=0) hx);clear hx;go_wp2_with fail
     refine CG.out.mono ?_;rintro e w6 ⟨rfl,cy⟩;have p4:=bj.grows cy;obtain⟨u0,hu0⟩:∃u,(jK l 0 k)[k]?=some u:=⟨_,Ac (by rw[jU _ _ (by rw[<-HNL.out];omega),<-HNL.out];exact ay)⟩;have cl:=bP (f:=λn:Nat=>Value.int .u64 n) p4 hu0;obtain⟨fr,_,wu⟩:=dJ (f:=λn:Nat=>Value.int .u64 n) p4 (k:=k) (by rw[jU _ _ (by rw[<-HNL.out];omega),<-HNL.out];exact ay) x;rw[HFS.out]at wu;have aq:∀j j',(⟨pb,j,none⟩:Addr)≠⟨lb,j',none⟩:=λj j' h=>by have:=congrArg Ba h;simp only at this;omega
     have f0:(w6.setCell ⟨lb,k,none⟩ (.int .u64 x)).cell? ⟨pb,0,none⟩=some (.int .i64 n):=(Af _ _ _ _ (λh=>aq _ _ (by first|exact h|exact h.symm))).trans (cy.cell e0)
     have f1:(w6.setCell ⟨lb,k,none⟩ (.int .u64 x)).cell? ⟨pb,1,none⟩=some (.int .i64 W):=(Af _ _ _ _ (λh=>aq _ _ (by first|exact h|exact h.symm))).trans (cy.cell e1)
     have f2:(w6.setCell ⟨lb,k,none⟩ (.int .u64 x)).cell? ⟨pb,2,none⟩=some (.slice (some ⟨pb+1,0,none⟩) q q):=(Af _ _ _ _ (λh=>aq _ _ (by first|exact h|exact h.symm))).trans (cy.cell e2)
     have dv:=eW (v:=.slice (some ⟨lb,0,none⟩) n n) (aa.grows cy) ((aB.refl w6).grownBy_set lb k (.int .u64 x)) (λr h1 h2=>by
      have a1:lb=r:=Option.some.inj h1;have a2:pb+1=r:=Option.some.inj h2;omega)
     have d9:aB w (w6.setCell ⟨lb,k,none⟩ (.int .u64 x)):=(aB.trans _ _ _ hg cy).set ae2 _;have HF:=Aa (And.intro f0 (And.intro f1 f2));clear bj p4 e0 e1 e2 aa hg cy hu0 f0 f1 f2 CG;go_wp2_with fail
     go_roundw
     case rel=>exact⟨k+1,ay,by go_num,wu,HF.out.1,HF.out.2.1,HF.out.2.2,dv,d9⟩
     case measure=>simp[intOf];omega
    ·obtain rfl:n=k:=by omega
     have hrw:jK l 0 n=l:=by rw[HNL.out];exact pB l 0
     rw[hrw]at bj;obtain⟨ra,rc,hre,_,_,aai⟩:=bj.at_ (k:=1) (λx=>(rfl:(gT x).length=1));have e1':=(Value.slice.inj hre).1;rw[<-e1']at aai;have CNW:=Aa (zN l (some ⟨lb,0,none⟩) n wr (by rw[<-HNL.out];exact hl) HN.out aai);rw[<-HNL.out]at CNW;clear bj hre e1' aai hrw e0 e1 e2 aa;go_wp2_with fail
     refine CNW.out.mono ?_;rintro e w7 ⟨rfl,nf,d9⟩;obtain⟨nb,nu⟩:=exq wr.heap.size;rw[<-nu]at nf ⊢;clear nu;go_wp2_with fail
     refine(yC l nb w7 (by rw[<-HNL.out];exact hl) HN.out nf).mono ?_;rintro e w8 ⟨v8,rfl,lw,ej⟩;rw[<-HB.out]at lw;obtain⟨a8,c8,rfl,fo,_⟩:=dO lw;rw[<-HN2.out];have iz:=aB.trans _ _ _ hg (aB.trans _ _ _ d9 ej);have CE:=Aa (jV b b a8 (some ⟨bb,bo,none⟩) c8 bc w8 fo (HAT.out.grows iz));rw[<-HN2.out]at CE;simp only[decide_true]at CE;clear lw fo;go_wp2_with fail
     refine CE.out.mono ?_;rintro e w9 ⟨rfl,rfl⟩;go_wp2
     go_ret2;exact⟨nb,rfl,nf.grows ej,iz⟩
end
section
open Go Go.RowKit Go.Shelf
attribute [local go_sem] aM aO
theorem wY (Q:List aX) (k:Nat) (q:aX) (a:Option Addr) (c:Nat) (w:World) (hl:Q.length<=1000000) (ac:aF w a 2 (Q.map iR)) (il:gF w Q) (hq:Q[k]?=some q) (aq:∀j p,j<k->Q[j]?=some p->p.name≠q.name) :
  Calls Tryz.prog 79 #[.slice a Q.length c,.string q.name] w λe w'=>∃v,e=.returned (.tuple #[v,.bool true])/\aT w' w.heap.size 5 1 aQ v q.data/\aB w w':=by
 have HAT:=Aa ac;have HPA:=Aa il;have HNE:=Aa aq;have hkl:=(List.getElem?_eq_some_iff.1 hq).1;have HQ:=Aa hq;clear ac il aq hq;go_enter Tryz.func79,Tryz.ntmps79
 go_wp2_with fail
 go_loopw [10] (λi wr=>∃(j:Nat),j<=k/\i=.int .i64 j/\aB w wr) (λi _=>Q.length-(intOf i).toNat)
 case atStart=>exact⟨0,Ao _,rfl,aB.refl _⟩
 case round =>
  obtain⟨j,hj,rfl,hg⟩:=hrel;obtain⟨⟨pn,pd,pa,pc⟩,hp⟩:∃p,Q[j]?=some p:=⟨_,Ac (by omega)⟩;have ae:j<Q.length:=by omega
  have ek:(j:Int)<Q.length:=by omega
  obtain⟨ba,oa,rfl,cm⟩:=(HAT.out.grows hg).get (aH ae);have c0:wr.cell? ⟨ba,oa+j*2,none⟩=some (.string pn):=cm j _ hp 0 _ rfl;have c1:wr.cell? ⟨ba,oa+j*2+1,none⟩=some (.slice pa pd.length pc):=cm j _ hp 1 _ rfl;obtain⟨W1,bz⟩:=exq (wr.alloc (.cells #[.string pn,.slice pa pd.length pc] 119));have av:aB wr W1:=by rw[bz];exact aB.alloc _ _
  obtain⟨bc,_⟩:=cO (w:=wr) (cs:=#[.string pn,.slice pa pd.length pc]) (t:=119) (w':=W1) (by rw[bz];exact aB.refl _);have b0:=bc 0 _ rfl;have b1:=bc 1 _ rfl;rw[bz]at b0 b1;have cg:=aB.trans _ _ _ hg av;have ta:=Ad hp;clear bc cm;by_cases he:pn=q.name
  ·have jb:j=k:=by
    rcases Bk j k with h|h
    ·exact absurd he (HNE.out j _ h hp)
    ·omega
   have hpq:q=⟨pn,pd,pa,pc⟩:=by
    rw[jb,HQ.out]at hp;exact Option.some.inj hp
   have ni:pd.length<=1099511627776:=HPA.out.data _ ta;have CC:=Aa (vG pd pa pc W1 ni (HPA.out.none_ _ ta) ((HPA.out.at_ _ ta).grows cg));have ye:(pn.toList==q.name.toList)=true:=by rw[he];simp
   have HPQ:Hid (q.data=pd):=by show _=_;rw[hpq]
   clear he jb hpq hp ta;go_wp2_with fail
   rw[<-bz];clear b0 b1 bz;refine CC.out.mono ?_;rintro e w2 ⟨v,rfl,hv,ah⟩;go_wp2
   go_ret2;exact⟨_,rfl,by rw[HPQ.out];exact hv.base cg.size,aB.trans _ _ _ cg ah⟩
  ·have jb:j<k:=by
    rcases Bk j k with h|h
    ·exact h
    ·obtain rfl:j=k:=by omega
     rw[HQ.out]at hp;exact absurd (by rw[Option.some.inj hp]) he
   have ye:(pn.toList==q.name.toList)=false:=by simpa using λh=>he (jS h)
   clear he hp ta;go_wp2_with fail
   go_roundw
   case rel=>exact⟨j+1,jb,by go_num,by rw[<-bz];exact cg⟩
   case measure=>simp[intOf];omega
theorem yV0 {x:Nat} (h:x<9223372036854775808):IntKind.i64.wrap (x:Int)=x:=by simp[Ak,Al,Ah]; omega
theorem cO0 (Q:List aX) (k:Nat) (q:aX) (l:List Nat) (a:Option Addr) (c:Nat) (w:World) (nz:Q.length<=1000000) (ac:aF w a 2 (Q.map iR)) (il:gF w Q) (hq:Q[k]?=some q) (aq:∀j p,j<k->Q[j]?=some p->p.name≠q.name)
  (hd:q.data=bV l) (hl:l.length<=100000) (hn:∀n∈l,n<9223372036854775808) :
  Calls Tryz.prog 82 #[.slice a Q.length c,.string q.name] w λe w'=>∃v,e=.returned v/\aT w' w.heap.size 3 1 fI v l/\aB w w':=by
 have CF:=Aa (wY Q k q a c w nz ac il hq aq);rw[hd]at CF;have HN:=Aa hn;have jd:∀n∈l,n<18446744073709551616:=λn h=>by have:=hn n h;omega
 have HN2:=Aa jd;have me:=pA l;obtain⟨QL,hQL⟩:=exq Q.length;rw[<-hQL]at CF ⊢;clear ac il hq aq hd hn jd hQL;go_enter Tryz.func82,Tryz.ntmps82
 go_wp2_with fail
 refine CF.out.mono ?_;rintro e w1 ⟨v1,rfl,gd,av⟩;obtain⟨a1,c1,rfl,h1c,_,cv⟩:=gd.at_ bE.len;have jc:=bJ gd;have CD:=Aa (fP0 l a1 c1 w1 (by omega) HN2.out h1c jc cv);obtain⟨PL,hPL⟩:=exq ((bV l).length);rw[<-hPL]at CD ⊢;clear gd cv jc CF me h1c hPL;go_wp2_with fail
 refine CD.out.mono ?_;rintro e w2 ⟨pb,rfl,nf,ah⟩;have cr:=aB.trans _ _ _ av ah;clear CD av ah;have us:¬(100000:Int)<l.length:=by omega
 go_wp2_with fail
 refine(oR l pb w2 nf).mono ?_;rintro e w3 ⟨rfl,rfl⟩;go_wp2_with fail
 go_loopw [9,10] (λv i wr=>∃j:Nat,j<=l.length/\i=.int .i64 j/\aT wr w2.heap.size 3 1 fI v (l.take j)/\cH0 wr pb l/\aB w2 wr) (λ_ i _=>l.length-(intOf i).toNat)
 case atStart=>exact⟨0,Ao _,rfl,aT.nil _ _ _ _ _,nf,aB.refl _⟩
 case round =>
  have HPK:=Aa nf;clear nf;obtain⟨j,hj,rfl,aa,nf,hg⟩:=hrel;go_wp2_with fail
  refine(oR l pb wr nf).mono ?_;rintro e w4 ⟨rfl,rfl⟩;by_cases ae:j<l.length
  ·obtain⟨x,hx⟩:∃x,l[j]?=some x:=⟨_,Ac ae⟩
   have abk:=HN.out x (Ad hx);have HT:=Aa (bM hx);have CG:=Aa (aT0 l pb j x wr nf (by omega) HN2.out hx);have i5:(l.take j).length=j:=by rw[List.length_take];omega
   have wx:=yV0 abk;have ek:(j:Int)<l.length:=by omega
   clear hx;go_wp2_with fail
   refine CG.out.mono ?_;rintro e w5 ⟨rfl,bk⟩;have agy:=nf.grows bk;have ai:=aa.grows bk;have cn:=aB.trans _ _ _ hg bk;generalize l.take j=bd at ai HT i5;clear CG nf bk aa hg;go_wp2_with (at_builtin;refine eA mV rfl _ _ rfl w2.heap.size _ bd x rfl ai (aB.refl _) _ 1 rfl #[.int .i64 x] rfl rfl (by omega) cn.size ?_;intro v6 w6 ev hk6 _ aaj)
   have cy:=aaj w2 cn (Aj _);have ae3:cH0 w6 pb l:=HPK.out.grows cy;rw[<-HT.out]at ev;go_wp2_with fail
   go_roundw
   case rel=>exact⟨j+1,ae,by go_num,ev,ae3,cy⟩
   case measure=>simp[intOf];omega
  ·obtain rfl:j=l.length:=by omega
   rw[Ar]at aa;go_wp2_with fail
   go_ret;exact⟨_,rfl,aa.base cr.size,aB.trans _ _ _ cr hg⟩
theorem sQ (l:List Nat) (a b:Option Addr) (c d:Nat) (w:World) (hl:l.length<=1048576) (h1:aF w a 1 (l.map fI)) (h2:aF w b 1 (l.map fI)) :
  Calls Tryz.prog 81 #[.slice a l.length c,.slice b l.length d] w λe w'=>e=.returned (.bool true)/\aB w w':=by
 have H1:=Aa h1;have H2:=Aa h2;clear h1 h2;go_enter Tryz.func81,Tryz.ntmps81
 go_wp2_with fail
 go_loopw [5] (λi wr=>∃j:Nat,j<=l.length/\i=.int .i64 j/\aB w wr) (λi _=>l.length-(intOf i).toNat)
 case atStart=>exact⟨0,Ao _,rfl,aB.refl _⟩
 case round =>
  obtain⟨j,hj,rfl,hg⟩:=hrel;by_cases ae:j<l.length
  ·obtain⟨x,hx⟩:∃x,l[j]?=some x:=⟨_,Ac ae⟩
   obtain⟨b1,o1,rfl,jz⟩:=at1 (f:=λn:Nat=>Value.int .i64 n) (H1.out.grows hg) (aH ae);obtain⟨b2,o2,rfl,up⟩:=at1 (f:=λn:Nat=>Value.int .i64 n) (H2.out.grows hg) (aH ae);have z1:∀x':Ext aB wr.drew,x'.u.cell? ⟨b1,o1+j,none⟩=some (.int .i64 x):=aG ((aB.drew wr).cell (jz j x hx));have z2:∀x':Ext aB wr.drew,x'.u.cell? ⟨b2,o2+j,none⟩=some (.int .i64 x):=aG ((aB.drew wr).cell (up j x hx));have ek:(j:Int)<l.length:=by omega
   clear jz up hx;go_wp2_with fail
   refine bI (bB 9 []) (by kernel_rfl) (λd _ _ _ _ h=>by cases d<;>exact h) ?_
   iterate 9 (refine aK rfl (λK hK=>?_);go_simp;refine hK _ ?_;clear hK K)
   refine bT ?_;clear z1 z2;go_wp2_with fail
   go_roundw
   case rel=>exact⟨j+1,ae,by go_num,hg.dr⟩
   case measure=>simp[intOf];omega
  ·obtain rfl:j=l.length:=by omega
   go_wp2_with fail
   go_ret;exact⟨rfl,hg⟩
end
section
open Go Go.RowKit
theorem bN0 (m:Mx):∀(l:List Nat) (last:Int),(tU m last l).length<=l.length*20
 | [],_=>by simp[tU]
 | i::r,last=>by
  have h1:=bN0 m r i;have h2:=bK ((i:Int)-last).toNat;have h3:=bK (m.cs.getD i 0).toNat;rw[tU,Ab,Ab,Aq];omega
theorem oO0 {m:Mx} (h:m.OK):m.enc.length<=82000:=by
 have h1:=Mx.idx_len h;have h2:=bN0 m m.idx (-1);have h3:=bK m.n;have h4:=bK m.d.toNat;have h5:=bK m.idx.length;unfold Mx.enc;rw[Ab,Ab,Ab];omega
theorem hE0 {p:List eP} (h:dQ p=true):(tX0 p).length<=2600:=by
 obtain⟨h1,h2⟩:=iY h;have h3:=rZ (l:=p) (λx hx=>(h2 x hx).1);have h4:=bK p.length;unfold tX0;rw[Ab];omega
theorem dF {l:List Nat} (h:∀n∈l,n<18446744073709551616):(bV l).length<=5+l.length*64:=by
 have hw:lD l<=64:=mA.2 h;have h1:l.length*lD l<=l.length*64:=Nat.mul_le_mul_left _ hw;unfold bV uU;rw[Ab,Ab,bD,Ag,An];simp only[Am];omega
theorem yW (k:Nat):∀l:List Nat,((l.map (leB k)).flatten).length=l.length*k
 | []=>by simp
 | x::l=>by
  rw[Av,List.flatten_cons,Ab,bD,yW k l,Aq,Nat.succ_mul];omega
theorem yS (l:List Bool):(kZ l).length<=20+l.length:=by
 unfold kZ jT pK;rw[Ab,Ab,bD,yW,yW,Ag,Ag,An,An];omega
theorem aM0 {L:List (List UInt8)} (au:OkL L) (hl:L.length<=20000) (hc:fG L<=524287):(iT L).length<=40000000:=by
 obtain⟨z1,z2,z3,z4,z5⟩:=au.sizes hl hc;have h1:=yS (shapeL L (nodesA L));have h2:=yS (isL L (nodesA L));have h3:=dF (l:=idsL L (nodesA L)) (λn hn=>by have:=z5 n hn;omega);unfold iT dM;simp only[Ab,bD];omega
theorem lS0 (k:Nat->Nat) (n S:Nat):(lY k n S).Nodup:=(jJ k n S).imp λ{a b} h e=>by rw[e]at h; exact xG h
theorem nY0 {k:Nat->Nat} {n S:Nat} (h:∀i,i<n->k i<S):(lY k n S).length=n:=by
 have h1:=cE (lS0 k n S) (l':=Au n) λx hx=>List.mem_range.2 (lX.1 hx).1;have h2:=cE (List.nodup_range (n:=n)) (l':=lY k n S) λx hx=>lX.2 ⟨List.mem_range.1 hx,h x (List.mem_range.1 hx)⟩;rw[An]at h1 h2;omega
theorem yC0 {es:List En} {i:Nat} (h:i<es.length):es[i]?=some (es.getD i dY):=by rw[Ae,Ac h]; rfl
theorem mO0 {es:List En} {x:En} (h:x∈es):x.s∈iX es:=gC0 (List.mem_map.2 ⟨x,h,rfl⟩)
theorem qJ0 {es:List En} {i:Nat} (h:i<es.length):tR (iX es) es i<(iX es).length:=sD (mO0 (Ad (yC0 h)))
theorem qX0 (es:List En):(tP0 es).length=es.length:=nY0 λ_ hi=>qJ0 hi
theorem uW0 {es:List En} {i:Nat} (h:i∈tP0 es):i<es.length:=(lX.1 h).1
theorem sU0 {l:List ByteArray} (hn:l.Nodup) {i j:Nat} {s:ByteArray} (hi:l[i]?=some s) (hj:l[j]?=some s):i=j:=by
 obtain⟨h1,e1⟩:=List.getElem?_eq_some_iff.1 hi;obtain⟨h2,e2⟩:=List.getElem?_eq_some_iff.1 hj;rcases Bi i j with h|h|h
 ·exact absurd (e1.trans e2.symm) (List.pairwise_iff_getElem.1 hn i j h1 h2 h)
 ·exact h
 ·exact absurd (e2.trans e1.symm) (List.pairwise_iff_getElem.1 hn j i h2 h1 h)
theorem qS0 (l:List En):(sortS l).length<=l.length :=
 cE ((fY l).1.imp λ{a b} j7 e=>by rw[e,eD]at j7;cases j7) λy hy=>(((fY l).2 y).1 hy).1
theorem sW0 {l:List En} {x:En} (h:x∈sortS l):x∈l:=(((fY l).2 x).1 h).1
theorem wJ {L:List (List UInt8)} {B:Nat} (h:∀s∈L,s.length<=B):∀m,m<=L.length->qK L m<=1+m*B
 | 0,_=>by rw[Nat.zero_mul];exact Aj _
 | m+1,hm=>by
  rw[Nat.add_mul,Nat.one_mul];have h1:=wJ h m (by omega);have h2:=h _ (Ad (gA (L:=L) (j:=m) (by omega)));unfold qK uY0;omega
theorem tV {L:List (List UInt8)} (au:OkL L) (hl:L.length<=1000) (hc:fG L<=76801):(iT L).length<=5300000:=by
 have hN:=fW au.asc au.len;obtain⟨z1,z2,z3,z4,z5⟩:=au.sizes (by omega) (by omega:fG L<=524287);have h0:=dU L (nodesA L).length (Aj _);rw[Ar,au.off_all]at h0;have h1:=yS (shapeL L (nodesA L));have h2:=yS (isL L (nodesA L));have h3:=dF (l:=idsL L (nodesA L)) (λn hn=>by have:=z5 n hn;omega);have h4:(isL L (nodesA L)).length=(nodesA L).length:=by unfold isL;rw[Ag]
 have h5:(labelsL L (nodesA L)).length<=(nodesA L).length:=by rw[au.labels,Ag,List.length_drop];omega
 have h6:(idsL L (nodesA L)).length<=(nodesA L).length:=by
  unfold idsL;rw[Ag];exact List.length_filter_le (gE L) (nodesA L)
 unfold iT dM;simp only[Ab,bD];omega
theorem oM0 (p:List eP) (m:Mx) (es:List En):(imgP p m es).any (λq => !azS q.name)=false/\kU0 (imgP p m es)=false:=by
 constructor
 ·simp only[imgP,List.any_cons,List.any_nil,oY]
  decide +kernel
 ·simp only[imgP,kU0,rJ,oY]
  decide +kernel
theorem mE0 {p:List eP} {m:Mx} {es:List En} (hm:m.OK) (hp:dQ p=true) (hl:es.length<=1000) (hr:fQ (bls (rK es))=0) (hs:fQ (bls (iX es))=0) (hcr:fG (bls (rK es))<=76801) (ct:fG (bls (iX es))<=76801)
  (hn:∀x∈es,0<=x.l/\x.l<18446744073709551616/\0<=x.t/\x.t<18446744073709551616/\0<=x.c/\x.c<18446744073709551616):eB (imgP p m es)=0:=by
 have hR:(bls (rK es)).length<=1000:=by
  have:=sJ (es.map (·.r));unfold bls rK;rw[Ag];rw[Ag]at this;omega
 have hS:(bls (iX es)).length<=1000:=by
  have:=sJ (es.map (·.s));unfold bls iX;rw[Ag];rw[Ag]at this;omega
 have hS2:(iX es).length<=1000:=by unfold bls at hS;rw[Ag]at hS;exact hS
 have a1:=hE0 hp;have a2:=oO0 hm;have a3:=tV (jD hr).1 hR hcr;have a4:=tV (jD hs).1 hS ct;have b1:=dF (l:=pD nF0 es es.length) (λn hn=>by have:=qG hn;omega)
 have b2:=dF (l:=es.map (hM0 (iX es))) (λn hn=>by
  obtain⟨x,hx,rfl⟩:=List.mem_map.1 hn
  have:=sD (mO0 hx);omega)
 have b3:=dF (l:=es.map λx=>x.l.toNat) (λn h=>by
  obtain⟨x,hx,rfl⟩:=List.mem_map.1 h
  have:=hn x hx;omega)
 have b4:=dF (l:=es.map λx=>x.t.toNat) (λn h=>by
  obtain⟨x,hx,rfl⟩:=List.mem_map.1 h
  have:=hn x hx;omega)
 have b5:=dF (l:=es.map λx=>x.c.toNat) (λn h=>by
  obtain⟨x,hx,rfl⟩:=List.mem_map.1 h
  have:=hn x hx;omega)
 have b6:=dF (l:=tP0 es) (λn hn=>by have:=uW0 hn;omega);have b7:=dF (l:=pD pW0 (pG es) es.length) (λn hn=>by have:=qG hn;omega);have c1:=uF nF0 es es.length;have c2:=uF pW0 (pG es) es.length;have c3:=qX0 es;rw[Ag]at b2 b3 b4 b5
 have jp:iA (imgP p m es)<=16777216:=by
  simp only[iA,imgP,oY,Av,List.map_nil,Bf,List.sum_nil];omega
 have ak:(imgP p m es).length=11:=rfl;obtain⟨n1,n2⟩:=oM0 p m es;unfold eB;rw[if_neg (by omega),if_neg (by rw[n1];decide),if_neg (by rw[n2];decide)]
end
section
open Go Go.RowKit Go.Shelf
attribute [local go_sem] aM aO
def oH0 (p:List eP) (m:Option Mx) (l:List En):Int :=
 if cS0 p m l=0 then (if fQ (bls (rK (sortS l)))=0/\fQ (bls (iX (sortS l)))=0 then 0 else 2) else cS0 p m l
end
section
open Go Go.RowKit Go.Shelf Go.Sort
theorem jB0 {w:World} {g n:Nat} {os:Array Obj} (d:Array Nat):w.grownBy (grow (putRow nv (Sort.ahead w n) g 0 d) os) (some g):=by
 refine⟨rfl,rfl,rfl,by simp,λk hk aq=>?_⟩;rw[heap_grow_old _ _ (by simpa using hk)]
 have:g≠k:=λe=>aq (by rw[e])
 simp[putRow,mapBlock,Sort.ahead,Array.getElem?_modify,this]
theorem hD0 {wB w0 W:World} {ob:Nat} {dk:Array Nat} (hB:aB wB w0) (tg:wB.heap.size<=ob) (S:SWn w0 ob dk W):aB wB W:=by
 obtain⟨m,os,rfl⟩:=S;exact hB.grown (jB0 dk) (λq hq=>by cases hq;exact tg)
theorem xY0 {es:List En} {BS:List ByteArray} {ib eb sc ob:Nat} {sa:Option Addr} {wB w0:World} (hn:es.length<=1048576) (hL:BS.length<=1048576) (hB:aB wB w0) (tg:wB.heap.size<=ob) (hid:uB0 wB ib BS) (bi:wB.cell? ⟨eb,0,none⟩=some (.slice sa es.length sc)) (ac:aF wB sa 5 (es.map aZ))
  (aa:aT w0 wB.heap.size 3 1 fI (.slice (some ⟨ob,0,none⟩) es.length es.length) (Au es.length)) (ae:ob<w0.heap.size) (hm:∀x∈es,x.s∈BS) (hz:∀x∈es,x.s.size<=maxLen) :
  eF (tR BS es) es.length ob 60 #[.pointer (some ⟨ib,0,none⟩),.pointer (some ⟨eb,0,none⟩)] (Au es.length).toArray w0/\SWn w0 ob (Au es.length).toArray w0:=by
 have hH:Holds nv w0 ob 0 (Au es.length).toArray:=λj hj=>by
  have jw:j<es.length:=by simpa using hj
  have h1:=bP (f:=λn:Nat=>Value.int .i64 n) aa (k:=j) (x:=j) (by rw[Ax jw]);obtain⟨h2,_,_⟩:=dJ (f:=λn:Nat=>Value.int .i64 n) aa (k:=j) (by simpa using jw) 0;refine⟨?_,by rw[Bj];exact h2⟩;rw[Bj,h1];simp[nv,jw]
 refine⟨⟨⟨λx=>rfl,hH,ae⟩,by simp,hn,wC0,?_⟩,⟨0,#[],(sortWorld_start nv w0 ob 0 _ hH).symm⟩⟩;intro m os dk hs x y hx hy;have hg:aB wB (sortWorld nv w0 ob 0 m dk os):=hD0 hB tg ⟨m,os,rfl⟩;have hex:es[x]?=some (es.getD x dY):=by rw[Ae,Ac hx];rfl
 have hey:es[y]?=some (es.getD y dY):=by rw[Ae,Ac hy];rfl
 have hmx:=Ad hex;have hmy:=Ad hey;have h:=sM0 BS ib eb (tR BS es x) (tR BS es y) x y es (es.getD x dY) (es.getD y dY) sa sc _ (hid.grows hg) (hg.cell bi) (ac.grows hg) hn hL hex hey (yL (hm _ hmx)) (yL (hm _ hmy)) ⟨hz _ hmx,hz _ hmy⟩;exact h.mono λe w' ⟨h1,h2⟩=>⟨h1,1,#[],by rw[h2,grow_empty];rfl⟩
theorem qO0 {es:List En} {BS:List ByteArray} {ob:Nat} {_wB w0 w':World} {dk:Array Nat} (hs:dk.size=es.length) (hw:Win (tR BS es) (Fd dk) 0 es.length) (hm:∀x∈es,x.s∈BS) (R:Row1 nv w0 ob 0 (Au es.length).toArray) (S:SWn w0 ob dk w') :
  aF w' (some ⟨ob,0,none⟩) 1 ((lY (tR BS es) es.length BS.length).map fI)/\(lY (tR BS es) es.length BS.length).length=es.length/\∀i∈lY (tR BS es) es.length BS.length,i<es.length:=by
 have h1:(Au es.length).map (Fd dk)=lY (tR BS es) es.length BS.length:=sT0 hw λi hi=>by
  have hex:es[i]?=some (es.getD i dY):=by rw[Ae,Ac hi];rfl
  exact sD (hm _ (Ad hex))
 rw[<-h1];refine⟨λ_=>⟨ob,0,rfl,λi row hi j u hj=>?_⟩,by simp,λi hi=>?_⟩
 ·rw[Ai,Ai]at hi
  rcases Bk i es.length with ae|y8
  ·rw[Ax ae]at hi
   simp only[Bc,Option.some.injEq]at hi;subst hi
   match j,hj with
   | 0,hj =>
    have:=S.c1 R (by rw[hs];simp) i (by omega)
    simp only[fI,As,Option.some.injEq]at hj;subst hj;simpa [Fd,nv] using this
  ·rw[At (by simpa using y8)]at hi
   cases hi
 ·obtain⟨j,hj,rfl⟩:=List.mem_map.1 hi
  rw[List.mem_range]at hj;exact(hw.inn j (Ao _) hj).2
end
end Go.Proofs.YthgklnohcmaopaaGreatDoor
