/- The texts Bimg Bsz R18P DicP DicQ DicR R18b R18c Bjn Bord Bbld R18e Dct DicA WnP Dct1 Dct2 DicS, one behind the other. -/
import Derived.Test.YthgklnohcmaopaaGreatDoorLq35
import Derived.Test.YthgklnohcmaopaaGreatDoorLq33
import Derived.Test.YthgklnohcmaopaaGreatDoorLq15
import Derived.Test.YthgklnohcmaopaaGreatDoorLq2
import Derived.Test.YthgklnohcmaopaaGreatDoorLq39
import Derived.Test.YthgklnohcmaopaaGreatDoorLq6
import Derived.Test.YthgklnohcmaopaaGreatDoorLq23
import Derived.Test.YthgklnohcmaopaaGreatDoorLq26
import Derived.Test.YthgklnohcmaopaaGreatDoorLq40
import Derived.Test.YthgklnohcmaopaaGreatDoorLq4
import Derived.Test.YthgklnohcmaopaaGreatDoorLq27
import Derived.Test.YthgklnohcmaopaaGreatDoorLq34
import Derived.Test.YthgklnohcmaopaaGreatDoorLq22
import Derived.Test.YthgklnohcmaopaaGreatDoorLq9
import Derived.Test.YthgklnohcmaopaaGreatDoorLq12
import Derived.Test.YthgklnohcmaopaaGreatDoorLq21
import Derived.Test.YthgklnohcmaopaaGreatDoorLq20
import Derived.Test.YthgklnohcmaopaaGreatDoorLq3
import Derived.Shelf.GgSortFunc.Compose
import Derived.Test.YthgklnohcmaopaaGreatDoorLq41
import Derived.Test.YthgklnohcmaopaaGreatDoorLq42
import Derived.Test.YthgklnohcmaopaaGreatDoorLq17
import Derived.Test.YthgklnohcmaopaaGreatDoorLq28
import Derived.Test.YthgklnohcmaopaaGreatDoorLq30
import Derived.Test.YthgklnohcmaopaaGreatDoorLq13
open Go.Lib renaming hid → Aa,validD → Bw,toList_data → Ce
open List renaming getElem?_eq_getElem → Ab,getD_eq_getElem?_getD → Ac,length_map → Ad,mem_of_getElem? → Ae,length_append → Af,range → Ag,filter_cons → Ai,getElem?_map → Aj,length_range → Ak,range' → Al,getElem?_range → Am,filter_congr → An,findIdx_lt_length_of_exists → Aq,flatten_cons → Ar,mem_range → As,length_cons → Av,getElem_mem → Aw,map_cons → Ay,getElem?_append_left → Bc,ext_getElem? → Bd,nil_append → Bg,map_append → Bh,length_filter_le → Bi,getElem?_eq_none → Bj,findIdx_getElem → Bk,range'_append_1 → Bn,range_eq_range' → Bo,flatMap_append → Bs,drop_succ_cons → Bt,append_toArray → Bu,getElem_range → Bv,flatMap_cons → By,size_toArray → Bz,push_toArray → Ca,flatMap_map → Cc,cons_append → Cd,length_nil → Cg,drop_zero → Ch,map_drop → Ci,map_map → Cl,map_nil → Cm,mem_map → Cn
open Nat renaming le_refl → Ah,le_trans → Au,lt_or_ge → Be,zero_add → Bf,zero_le → Bp,reduceAdd → Cj,reduceSub → Ck
open Go.IntKind renaming signed → Ao,bits → At,wrap → Ba
open Int renaming toNat_of_nonneg → Ap,max_comm → Co
open Bool renaming and_eq_true → Ax,eq_iff_iff → Az
open Classical renaming byContradiction → Bb
open Array renaming replicate_succ → Bq,replicate_zero → Br
open Option renaming getD_some → Cb,map_some → Cf
set_option maxHeartbeats 4000000
namespace Go.Proofs.YthgklnohcmaopaaGreatDoor
set_option maxRecDepth 100000
section
open Go Go.RowKit
def readL (es:List En):List ByteArray:=mY (es.map (·.r))
def dI (es:List En):List ByteArray:=mY (es.map (·.s))
theorem mE1 (l:List (List UInt8)):bls (l.map mkB)=l:=by
 unfold bls;rw[Cl];exact(List.map_congr_left λx _=>jM x).trans (List.map_id _)
theorem hE0 {ks:List ByteArray} {s:ByteArray} (h:s∈ks):s∈mY ks:=by
 unfold mY;refine List.mem_map.2 ⟨bl s,(yI _ _).2 (by grind [bls]),pK s⟩
theorem vM {ks:List ByteArray} {s:ByteArray} (h:s∈mY ks):s∈ks:=by
 unfold mY at h;obtain⟨x,hx,rfl⟩:=List.mem_map.1 h;obtain⟨t,ht,rfl⟩:=List.mem_map.1 ((yI _ _).1 hx);grind [pK,bl]
theorem mW (ks:List ByteArray):(mY ks).Nodup:=by
 unfold mY;have h:=sS (bls ks);refine List.Pairwise.map mkB (λa b (gp:fW0 a b) e=>?_) h;grind [nN0,yW]
theorem iO1 {ks:List ByteArray} {i:Nat} (h:i<(mY ks).length):(mY ks)[i]?=some (mkB (nth (bls (mY ks)) i)):=by
 rw[gR0];grind [mY,nth]
theorem rL (ks:List ByteArray):(mY ks).length<=ks.length:=cG (mW ks) λ_ h=>vM h
def yD (S:List ByteArray) (x:En):Nat:=S.findIdx λs=>decide (s=x.s)
theorem oG {S:List ByteArray} {x:En} (h:x.s∈S):S[yD S x]?=some x.s:=by
 have h1:yD S x<S.length:=Aq ⟨x.s,h,by simp⟩;rw[Ab h1];have h2:=Bk (w:=h1);exact congrArg some (of_decide_eq_true h2)
theorem rO {S:List ByteArray} {x:En} (h:x.s∈S):yD S x<S.length:=by grind [yD]
def nM (S:List ByteArray) (es:List En) (i:Nat):Nat:=yD S (es.getD i enZero)
def nH0 (es:List En):List Nat:=dR (nM (dI es) es) es.length (dI es).length
def jA (es:List En):List En:=(nH0 es).map λi=>es.getD i enZero
def uE (x y:En):Bool := !decide (x.r=y.r)
def mN0 (x y:En):Bool := !decide (x.s=y.s)
def tQ (name:Array UInt8) (data:List UInt8):bE:=⟨⟨name⟩,data,none,0⟩
def imgP (p:List dE) (m:Mx) (es:List En):List bE :=
 [tQ #[112,111,115] (posE p),tQ #[109,97,116,114,105,120] m.enc,tQ #[114,101,97,100,105,110,103,115] (loudE (bls (readL es))),tQ #[102,105,114,115,116] (packE (iY uE es es.length)),
  tQ #[115,117,114,102,97,99,101,115] (loudE (bls (dI es))),tQ #[115,117,114,102,97,99,101] (packE (es.map (yD (dI es)))),tQ #[108,101,102,116] (packE (es.map λx=>x.l.toNat)),tQ #[114,105,103,104,116] (packE (es.map λx=>x.t.toNat)),
  tQ #[99,111,115,116] (packE (es.map λx=>x.c.toNat)),tQ #[111,114,100,101,114] (packE (nH0 es)),tQ #[97,116] (packE (iY mN0 (jA es) es.length))]
theorem lJ {nw:En->En->Bool} {l:List En} {k i:Nat} (h:i∈iY nw l k):i<k:=List.mem_range.1 (List.mem_filter.1 h).1
theorem bL0 {n:Int}:∀ {l:List En},iW n l=0->∀x∈l,jZ x n=0
 | [],_,x,hx=>by cases hx
 | y::l,h,x,hx=>by
  unfold iW at h;by_cases hy:jZ y n=0
  ·rw[if_pos hy]at h
   rcases List.mem_cons.1 hx with rfl|hx
   ·exact hy
   ·exact bL0 h x hx
  omega
theorem nV {x:En} {n:Int} (h:jZ x n=0):0<=x.l/\x.l<n/\0<=x.t/\x.t<n/\0<=x.c/\x.c<=30000:=by
 unfold jZ xT at h;omega
theorem dX {p:List dE} {m:Mx} {l:List En} (h:xA p (some m) l=0):(m.n:Int)=p.length/\l.length<=20000/\eO p=true/\∀x∈l,jZ x p.length=0:=by
 unfold xA at h;split at h
 ·cases h
 ·rename_i hv
  simp only at h;split at h
  ·rename_i h1
   split at h
   ·cases h
   ·rename_i h2
    exact⟨h1,by omega,by simpa using hv,bL0 h⟩
  ·cases h
def rH (p:List dE) (m:Option Mx) (l:List En):Int×List UInt8 :=
 if xA p m l=0 then match m with
  | none=>(0,[])
  | some m=>if fY (bls (readL (sortS l)))=0/\fY (bls (dI (sortS l)))=0 then (if fO (imgP p m (sortS l))=0 then (0,file14 (imgP p m (sortS l))) else (fO (imgP p m (sortS l)),[])) else (2,[])
 else (xA p m l,[])
theorem jJ0 (m:Mx):∀(l:List Nat) (last:Int),(pC m last l).length<=l.length*20
 | [],_=>by simp[pC]
 | i::r,last=>by
  have h1:=jJ0 m r i;have h2:=cY ((i:Int)-last).toNat;have h3:=cY (m.cs.getD i 0).toNat;rw[pC,Af,Af,Av];omega
theorem bW1 {m:Mx} (h:m.OK):m.enc.length<=82000:=by
 have h1:=Mx.idx_len h;have h2:=jJ0 m m.idx (-1);have h3:=cY m.n;have h4:=cY m.d.toNat;have h5:=cY m.idx.length;unfold Mx.enc;rw[Af,Af,Af];omega
theorem rE0 {p:List dE} (h:eO p=true):(posE p).length<=2600:=by
 obtain⟨h1,h2⟩:=fA h;have h3:=zW (l:=p) (λx hx=>(h2 x hx).1);have h4:=cY p.length;unfold posE;rw[Af];omega
theorem eU {l:List Nat} (h:∀n∈l,n<18446744073709551616):(packE l).length<=5+l.length*64:=by
 have hw:oV l<=64:=oE.2 h;have h1:l.length*oV l<=l.length*64:=Nat.mul_le_mul_left _ hw;unfold packE cN0;rw[Af,Af,bN,Ad,Ak];simp only[List.length_singleton];omega
theorem gH0 (k:Nat):∀l:List Nat,((l.map (leB k)).flatten).length=l.length*k
 | []=>by simp
 | x::l=>by
  rw[Ay,Ar,Af,bN,gH0 k l,Av,Nat.succ_mul];omega
theorem iF0 (l:List Bool):(oT l).length<=20+l.length:=by
 unfold oT mQ uJ;rw[Af,Af,bN,gH0,gH0,Ad,Ad,Ak,Ak];omega
theorem jC0 {L:List (List UInt8)} (ag:OkL L) (hl:L.length<=20000) (hc:eA L<=524287):(loudE L).length<=40000000:=by
 obtain⟨z1,z2,z3,z4,z5⟩:=ag.sizes hl hc;have h1:=iF0 (shapeL L (nodesA L));have h2:=iF0 (isL L (nodesA L));have h3:=eU (l:=idsL L (nodesA L)) (λn hn=>by have:=z5 n hn;omega);unfold loudE fC;simp only[Af,bN];omega
theorem cK1 (k:Nat->Nat) (n S:Nat):(dR k n S).Nodup:=(iB k n S).imp λ{a b} h e=>by rw[e]at h; exact qN h
theorem mZ {k:Nat->Nat} {n S:Nat} (h:∀i,i<n->k i<S):(dR k n S).length=n:=by
 have h1:=cG (cK1 k n S) (l':=Ag n) λx hx=>List.mem_range.2 (fZ.1 hx).1;have h2:=cG (List.nodup_range (n:=n)) (l':=dR k n S) λx hx=>fZ.2 ⟨List.mem_range.1 hx,h x (List.mem_range.1 hx)⟩;rw[Ak]at h1 h2;omega
theorem rG0 {es:List En} {i:Nat} (h:i<es.length):es[i]?=some (es.getD i enZero):=by rw[Ac,Ab h]; rfl
theorem nR {es:List En} {x:En} (h:x∈es):x.s∈dI es:=hE0 (List.mem_map.2 ⟨x,h,rfl⟩)
theorem iL1 {es:List En} {i:Nat} (h:i<es.length):nM (dI es) es i<(dI es).length:=rO (nR (Ae (rG0 h)))
theorem tI (es:List En):(nH0 es).length=es.length:=mZ λ_ hi=>iL1 hi
theorem pE0 {es:List En} {i:Nat} (h:i∈nH0 es):i<es.length:=(fZ.1 h).1
theorem aU1 {S:List ByteArray} {x y:En} (hx:x.s∈S) (hy:y.s∈S):yD S x=yD S y↔x.s=y.s:=by
 constructor
 ·intro h
  have a:=oG hx;rw[h,oG hy]at a;exact(Option.some.inj a).symm
 ·intro h
  unfold yD;rw[h]
theorem yL {l:List ByteArray} (hn:l.Nodup) {i j:Nat} {s:ByteArray} (hi:l[i]?=some s) (hj:l[j]?=some s):i=j:=by
 obtain⟨h1,e1⟩:=List.getElem?_eq_some_iff.1 hi;obtain⟨h2,e2⟩:=List.getElem?_eq_some_iff.1 hj;rcases Nat.lt_trichotomy i j with h|h|h
 ·exact absurd (e1.trans e2.symm) (List.pairwise_iff_getElem.1 hn i j h1 h2 h)
 ·exact h
 ·exact absurd (e2.trans e1.symm) (List.pairwise_iff_getElem.1 hn j i h2 h1 h)
theorem xX0 (es:List En):∀s,s<(dI es).length->∃i,i<es.length/\nM (dI es) es i=s:=by
 intro s hs;have h1:(dI es)[s]?=some (dI es)[s]:=Ab hs;have h2:(dI es)[s]∈es.map (·.s):=vM (Aw hs);obtain⟨x,hx,hxs⟩:=List.mem_map.1 h2;obtain⟨i,hi,he⟩:=List.mem_iff_getElem.1 hx;refine⟨i,hi,?_⟩;have h3:es.getD i enZero=x:=by rw[Ac,Ab hi];exact he
 unfold nM;rw[h3];exact yL (mW _) (oG (nR hx)) (by rw[hxs];exact h1)
theorem jW1 (es:List En):iY mN0 (jA es) es.length=sD0 (nM (dI es) es) es.length (dI es).length:=by
 rw[<-rY _ _ _ (xX0 es)];have hl:(dR (nM (dI es) es) es.length (dI es).length).length=es.length:=tI es;unfold iY eT0;rw[hl];apply An
 intro i hi;rw[As]at hi
 have hg:∀j,j<es.length->∃m,m<es.length/\(dR (nM (dI es) es) es.length (dI es).length).getD j 0=m/\(jA es).getD j enZero=es.getD m enZero:=by
  intro j hj;have h1:(nH0 es)[j]?=some ((nH0 es).getD j 0):=by rw[Ac,Ab (by rw[tI];exact hj)];rfl
  refine⟨(nH0 es).getD j 0,pE0 (Ae h1),rfl,?_⟩;unfold jA;rw[Ac,Aj,h1];rfl
 obtain⟨a,ha,ea,ka⟩:=hg i hi;obtain⟨b,hb,eb,kb⟩:=hg (i-1) (by omega);unfold fI0 zT;rw[ka,kb,ea,eb];congr 1
 unfold mN0;have h:=aU1 (nR (Ae (rG0 ha))) (nR (Ae (rG0 hb)));show _=(nM (dI es) es a != nM (dI es) es b)
 unfold nM;generalize es.getD a enZero=x at h ⊢;generalize es.getD b enZero=y at h ⊢;by_cases he:x.s=y.s
 ·rw[h.2 he];simp[he]
 ·have:yD (dI es) x≠yD (dI es) y:=λe=>he (h.1 e)
  simp[he,this]
theorem pS0 (l:List En):(sortS l).length<=l.length :=
 cG ((dJ l).1.imp λ{a b} gp e=>by rw[e,fF]at gp;cases gp) λy hy=>(((dJ l).2 y).1 hy).1
theorem hQ0 {l:List En} {x:En} (h:x∈sortS l):x∈l:=(((dJ l).2 x).1 h).1
theorem vQ {L:List (List UInt8)} {B:Nat} (h:∀s∈L,s.length<=B):∀m,m<=L.length->uU L m<=1+m*B
 | 0,_=>by rw[Nat.zero_mul];exact Ah _
 | m+1,hm=>by
  rw[Nat.add_mul,Nat.one_mul];have h1:=vQ h m (by omega);have h2:=h _ (Ae (iX (L:=L) (j:=m) (by omega)));unfold uU lX1;omega
theorem bF0 {L:List (List UInt8)} (ag:OkL L) (hl:L.length<=1000) (hc:eA L<=76801):(loudE L).length<=5300000:=by
 have hN:=fH ag.asc ag.len;obtain⟨z1,z2,z3,z4,z5⟩:=ag.sizes (by omega) (by omega:eA L<=524287);have h0:=eY L (nodesA L).length (Ah _);rw[List.take_length,ag.off_all]at h0;have h1:=iF0 (shapeL L (nodesA L));have h2:=iF0 (isL L (nodesA L));have h3:=eU (l:=idsL L (nodesA L)) (λn hn=>by have:=z5 n hn;omega);have h4:(isL L (nodesA L)).length=(nodesA L).length:=by unfold isL;rw[Ad]
 have h5:(labelsL L (nodesA L)).length<=(nodesA L).length:=by rw[ag.labels,Ad,List.length_drop];omega
 have h6:(idsL L (nodesA L)).length<=(nodesA L).length:=by
  unfold idsL;rw[Ad];exact Bi (jB L) (nodesA L)
 unfold loudE fC;simp only[Af,bN];omega
theorem cM1 (p:List dE) (m:Mx) (es:List En):(imgP p m es).any (λq => !azS q.name)=false/\wM0 (imgP p m es)=false:=by
 constructor
 ·simp only[imgP,List.any_cons,List.any_nil,tQ]
  decide +kernel
 ·simp only[imgP,wM0,yA,tQ]
  decide +kernel
theorem jM0 {p:List dE} {m:Mx} {es:List En} (hm:m.OK) (hp:eO p=true) (hl:es.length<=1000) (hr:fY (bls (readL es))=0) (hs:fY (bls (dI es))=0) (hcr:eA (bls (readL es))<=76801) (cj:eA (bls (dI es))<=76801)
  (hn:∀x∈es,0<=x.l/\x.l<18446744073709551616/\0<=x.t/\x.t<18446744073709551616/\0<=x.c/\x.c<18446744073709551616):fO (imgP p m es)=0:=by
 have hR:(bls (readL es)).length<=1000:=by
  have:=rL (es.map (·.r));unfold bls readL;rw[Ad];rw[Ad]at this;omega
 have hS:(bls (dI es)).length<=1000:=by
  have:=rL (es.map (·.s));unfold bls dI;rw[Ad];rw[Ad]at this;omega
 have hS2:(dI es).length<=1000:=by unfold bls at hS;rw[Ad]at hS;exact hS
 have a1:=rE0 hp;have a2:=bW1 hm;have a3:=bF0 (eF hr).1 hR hcr;have a4:=bF0 (eF hs).1 hS cj;have b1:=eU (l:=iY uE es es.length) (λn hn=>by have:=lJ hn;omega)
 have b2:=eU (l:=es.map (yD (dI es))) (λn hn=>by
  obtain⟨x,hx,rfl⟩:=List.mem_map.1 hn
  have:=rO (nR hx);omega)
 have b3:=eU (l:=es.map λx=>x.l.toNat) (λn h=>by
  obtain⟨x,hx,rfl⟩:=List.mem_map.1 h
  have:=hn x hx;omega)
 have b4:=eU (l:=es.map λx=>x.t.toNat) (λn h=>by
  obtain⟨x,hx,rfl⟩:=List.mem_map.1 h
  have:=hn x hx;omega)
 have b5:=eU (l:=es.map λx=>x.c.toNat) (λn h=>by
  obtain⟨x,hx,rfl⟩:=List.mem_map.1 h
  have:=hn x hx;omega)
 have b6:=eU (l:=nH0 es) (λn hn=>by have:=pE0 hn;omega);have b7:=eU (l:=iY mN0 (jA es) es.length) (λn hn=>by have:=lJ hn;omega);have c1:=aX0 uE es es.length;have c2:=aX0 mN0 (jA es) es.length;have c3:=tI es;rw[Ad]at b2 b3 b4 b5
 have np:kQ (imgP p m es)<=16777216:=by
  simp only[kQ,imgP,tQ,Ay,Cm,List.sum_cons,List.sum_nil];omega
 have ah:(imgP p m es).length=11:=rfl;obtain⟨n1,n2⟩:=cM1 p m es;unfold fO;rw[if_neg (by omega),if_neg (by rw[n1];decide),if_neg (by rw[n2];decide)]
theorem uA {k:Nat->Nat} {n:Nat}:∀ {s t:Nat},s<=t->∃r,dR k n t=dR k n s++r
 | s,0,h=>by
  simp_all
 | s,t+1,h=>by
  rcases Be t s with h1|h1
  ·obtain rfl:s=t+1:=by omega
   exact⟨[],by simp⟩
  ·obtain⟨r,hr⟩:=uA (k:=k) (n:=n) h1
   grind [mV]
def pU1 (k:Nat->Nat) (n _S id:Nat):Nat:=(dR k n id).length
def oL1 (k:Nat->Nat) (n S id:Nat):Nat:=if id+1<S then (dR k n (id+1)).length else n
theorem iE0 {k:Nat->Nat} {n S id:Nat} (h:id<S):(sD0 k n S)[id]?=some (dR k n id).length:=by
 grind [sD0]
theorem kE (k:Nat->Nat) (n S:Nat):(sD0 k n S).length=S:=by simp[sD0]
theorem oX0 {k:Nat->Nat} {n S id:Nat} (hk:∀i,i<n->k i<S) (h:id<S):oL1 k n S id=(dR k n (id+1)).length:=by
 unfold oL1;split
 ·rfl
 ·rw[show id+1=S by omega,mZ hk]
theorem pO1 {k:Nat->Nat} {n S id:Nat} (hk:∀i,i<n->k i<S) (h:id<S):pU1 k n S id<=oL1 k n S id/\oL1 k n S id<=n:=by
 rw[oX0 hk h];unfold pU1;refine⟨?_,?_⟩
 ·rw[mV,Af];omega
 ·obtain⟨r,hr⟩:=uA (k:=k) (n:=n) (show id+1<=S by omega)
  have:=mZ hk
  rw[hr,Af]at this;omega
theorem lS1 {k:Nat->Nat} {n S id:Nat} (hk:∀i,i<n->k i<S) (h:id<S):((dR k n S).take (oL1 k n S id)).drop (pU1 k n S id)=grp k n id:=by
 rw[oX0 hk h];obtain⟨r,hr⟩:=uA (k:=k) (n:=n) (show id+1<=S by omega)
 rw[hr,List.take_left',mV]
 ·unfold pU1
  rw[List.drop_left]
 ·rfl
theorem lG1 {k:Nat->Nat} {n S i s:Nat} (hk:∀i,i<n->k i<S) (hi:i<n) (hs:s<=S):(dR k n s).length<=i↔s<=k ((dR k n S).getD i 0):=by
 obtain⟨r,hr⟩:=uA (k:=k) (n:=n) hs;have hl:=mZ hk;have hg:(dR k n S)[i]?=some ((dR k n S).getD i 0):=by rw[Ac,Ab (by omega)];rfl
 obtain⟨x,hx⟩:=exq ((dR k n S).getD i 0);rw[<-hx]at hg ⊢;have hp:=iB k n S;constructor
 ·intro h
  apply Bb
  intro hc;have hm:x∈dR k n s:=fZ.2 ⟨(fZ.1 (Ae hg)).1,by omega⟩;obtain⟨j,hj,ej⟩:=List.mem_iff_getElem.1 hm;have lx:(dR k n S)[j]?=some x:=by rw[hr,Bc hj,Ab hj,ej]
  obtain⟨a1,a2⟩:=List.getElem?_eq_some_iff.1 hg;obtain⟨b1,b2⟩:=List.getElem?_eq_some_iff.1 lx
  have:=List.pairwise_iff_getElem.1 hp j i b1 a1 (by omega)
  rw[a2,b2]at this;exact qN this
 ·intro h
  apply Bb
  intro hc;rw[hr,Bc (by omega)]at hg
  have:=(fZ.1 (Ae hg)).2
  omega
theorem fG1 {k:Nat->Nat} {n S i:Nat} (hk:∀i,i<n->k i<S) (hi:i<n):(Ag S).countP (λs => !decide (i+1<=(sD0 k n S).getD s 0))=k ((dR k n S).getD i 0)+1:=by
 have hkl:k ((dR k n S).getD i 0)<S:=by
  have hl:=mZ hk;have hg:(dR k n S)[i]?=some ((dR k n S).getD i 0):=by rw[Ac,Ab (by omega)];rfl
  exact(fZ.1 (Ae hg)).2
 have h:=qP (λs => !decide (i+1<=(sD0 k n S).getD s 0)) (k ((dR k n S).getD i 0)+1) S (λs hs=>by
  rw[Ac,iE0 hs,Cb]
  have:=lG1 (s:=s) hk hi (by omega)
  rw[Az];simp only[Bool.not_eq_true',decide_eq_false_iff_not,decide_eq_true_eq];omega)
 rw[h];omega
def dX1 (R:List ByteArray) (x:En):Nat:=R.findIdx λs=>decide (s=x.r)
theorem nL {R:List ByteArray} {x:En} (h:x.r∈R):R[dX1 R x]?=some x.r:=by
 have h1:dX1 R x<R.length:=Aq ⟨x.r,h,by simp⟩;rw[Ab h1];have h2:=Bk (w:=h1);exact congrArg some (of_decide_eq_true h2)
theorem kR1 {R:List ByteArray} {x:En} (h:x.r∈R):dX1 R x<R.length:=by grind [dX1]
theorem oY {es:List En} {x:En} (h:x∈es):x.r∈readL es:=hE0 (by grind)
def sF (R:List ByteArray) (es:List En) (i:Nat):Nat:=dX1 R (es.getD i enZero)
theorem gO0 {es:List En} {i:Nat} (h:i<es.length):sF (readL es) es i<(readL es).length:=kR1 (oY (by simp_all))
theorem kD0 {R:List ByteArray} {x y:En} (hx:x.r∈R) (hy:y.r∈R):dX1 R x=dX1 R y↔x.r=y.r:=by
 constructor
 ·intro h
  have a:=nL hx;rw[h,nL hy]at a;simp_all
 ·intro h
  unfold dX1;rw[h]
theorem aN1 (es:List En):∀s,s<(readL es).length->∃i,i<es.length/\sF (readL es) es i=s:=by
 intro s hs;have h1:(readL es)[s]?=some (readL es)[s]:=by simp_all
 have h2:(readL es)[s]∈es.map (·.r):=vM (Aw hs);obtain⟨x,hx,hxs⟩:=List.mem_map.1 h2;obtain⟨i,hi,he⟩:=List.mem_iff_getElem.1 hx;refine⟨i,hi,?_⟩;have h3:es.getD i enZero=x:=by rw[Ac,Ab hi];exact he
 grind [yL,mW,nL,sF,readL]
theorem zG0 {ks:List ByteArray} {i j:Nat} {a b:ByteArray} (hi:(mY ks)[i]?=some a) (hj:(mY ks)[j]?=some b) (h:Op.bytesLess (bl a) (bl b)=true):i<j:=by
 have hp:=sS (bls ks)
 have key:∀ {i:Nat} {a:ByteArray},(mY ks)[i]?=some a->(qJ0 (bls ks))[i]?=some (bl a):=λ{i a} h=>by
  unfold mY at h;rw[Aj]at h
  cases hx:(qJ0 (bls ks))[i]? with
  | none=>rw[hx]at h;cases h
  | some x =>
   rw[hx]at h;rw[<-Option.some.inj h];grind [bl,mkB]
 grind [yW,List.pairwise_iff_getElem,nC0]
theorem tV0 {es:List En} (hs:iR es) {i j:Nat} (h1:i<j) (h2:j<es.length):sF (readL es) es i<=sF (readL es) es j:=by
 have hl:=List.pairwise_iff_getElem.1 hs i j (by omega) h2 h1;have e1:es.getD i enZero=es[i]:=by rw[Ac,Ab (by omega)];rfl
 have e2:es.getD j enZero=es[j]:=by rw[Ac,Ab h2];rfl
 have m1:=oY (Aw (show i<es.length by omega))
 have m2:=oY (Aw h2);unfold sF;rw[e1,e2];by_cases he:es[i].r=es[j].r
 ·rw[(kD0 m1 m2).2 he];exact Ah _
 ·rw[kT1 he,Ce,Ce]at hl
  exact Nat.le_of_lt (zG0 (nL m1) (nL m2) hl)
theorem bW0 {es:List En} (hs:iR es):dR (sF (readL es) es) es.length (readL es).length=Ag es.length:=by
 refine(iV (λ_=>qN) (λ_ _ _=>bX0) ?_ (iB (sF (readL es) es) es.length (readL es).length) λx=>?_).symm
 ·refine List.pairwise_iff_getElem.2 λi j hi hj kw=>?_
  rw[Bv,Bv]
  have:=tV0 hs kw (by simpa using hj)
  unfold ltK;omega
 ·rw[fZ,As]
  exact⟨λh=>⟨h,gO0 h⟩,λh=>h.1⟩
theorem mH0 {es:List En} (hs:iR es):iY uE es es.length=sD0 (sF (readL es) es) es.length (readL es).length:=by
 rw[<-rY _ _ _ (aN1 es),bW0 hs];unfold iY eT0;rw[Ak];apply An
 intro i hi;rw[As]at hi;have g:∀j,j<es.length->(Ag es.length).getD j 0=j:=by simp_all
 unfold fI0 zT;grind [kD0,oY,uE,sF]
theorem fY1 (es:List En):es=(Ag es.length).map λi=>es.getD i enZero:=by
 apply Bd
 grind
theorem yH0 (es:List En) (p:En->Bool):es.filter p=((Ag es.length).filter λi=>p (es.getD i enZero)).map λi=>es.getD i enZero:=by
 conv=>lhs;rw[fY1 es]
 rw[List.filter_map];rfl
theorem eJ1 {es:List En} {id:Nat} {s:ByteArray} (h:(readL es)[id]?=some s):(grp (sF (readL es) es) es.length id).map (λi=>es.getD i enZero)=iI es s:=by
 unfold iI grp;rw[yH0];congr 1
 apply An
 intro i hi;rw[As]at hi;have hx:=nL (oY (Ae (rG0 hi)));unfold sF;rw[Az];simp only[beq_iff_eq,decide_eq_true_eq];constructor
 ·intro e
  rw[e,h]at hx;exact(Option.some.inj hx).symm
 ·intro e
  rw[e]at hx;exact yL (mW _) hx h
theorem eC0 {es:List En} {s:ByteArray} (h:s∉readL es):iI es s=[]:=by
 unfold iI;rw[List.filter_eq_nil_iff];intro x hx;simp only[decide_eq_true_eq];rintro rfl;exact h (oY hx)
def lD1 (es:List En) (a b:Nat):List En:=(es.take b).drop a
theorem aF1 (es:List En) {a b:Nat} (hb:b<=es.length):lD1 es a b=((Al a (b-a)).map λi=>es.getD i enZero):=by
 apply Bd
 grind [lD1]
theorem zX {R:List ByteArray} {x:List UInt8}:x∈bls R↔mkB x∈R:=by
 unfold bls;rw[Cn];grind [pK,bl,mkB]
theorem rG1 {R:List ByteArray} {j:Nat} {s:ByteArray} (h:R[j]?=some s):R.getD j ⟨#[]⟩=s:=by
 simp_all
theorem dD1 {R:List ByteArray} (h:OkL (bls R)) (f:ByteArray->List En) (hf:∀s,s∉R->f s=[]) (s:ByteArray) :
  (Ag (min s.size 256+1)).flatMap (λn=>f (oK0 s n))=(hitsL (bls R) (bl s) s.size).flatMap λq=>f (R.getD q.1 ⟨#[]⟩):=by
 have aii:∀i,(vL0 (bls R) (bl s) i).flatMap (λq=>f (R.getD q.1 ⟨#[]⟩))=f (oK0 s (i+1)):=λi=>by
  unfold vL0;by_cases hm:(bl s).take (i+1)∈bls R
  ·rw[if_pos hm]
   have qn:=zX.1 hm;obtain⟨j,hj⟩:=List.mem_iff_getElem?.1 qn;have h1:=vR hj;rw[show bl (mkB ((bl s).take (i+1)))=(bl s).take (i+1) from jM _]at h1
   rw[h.findT_of h1];grind [oK0]
  ·rw[if_neg hm]
   grind [zX,oK0]
 have e1:(hitsL (bls R) (bl s) s.size).flatMap (λq=>f (R.getD q.1 ⟨#[]⟩))=(Ag s.size).flatMap λi=>f (oK0 s (i+1)):=by
  unfold hitsL;rw[List.flatMap_assoc];congr 1
  funext i
  exact aii i
 have e0:f (oK0 s 0)=[]:=hf _ (λhc=>h.pos [] (zX.2 (by unfold oK0 at hc;simp_all)) rfl);rw[e1,List.range_succ_eq_map,By,e0,Bg,Cc];by_cases hs:s.size<=256
 ·rw[Nat.min_eq_left hs]
 ·rw[Nat.min_eq_right (by omega)]
  have e2:Ag s.size=Ag 256++Al 256 (s.size-256):=by
   have h2:=Bn (s:=0) (m:=256) (n:=s.size-256);rw[Bf,show 256+(s.size-256)=s.size by omega]at h2
   rw[Bo,Bo,h2]
  rw[e2,Bs]
  have e3:(Al 256 (s.size-256)).flatMap (λi=>f (oK0 s (i+1)))=[]:=by
   rw[List.flatMap_eq_nil_iff];intro i hi;rw[List.mem_range'_1]at hi;refine hf _ λhc=>?_;have h3:=h.len _ (zX.2 hc);rw[List.length_take,dO]at h3;omega
  simp_all
theorem wZ0 {es:List En} (h:OkL (bls (readL es))) (s:ByteArray):lO0 es s=(hitsL (bls (readL es)) (bl s) s.size).flatMap λq=>iI es ((readL es).getD q.1 ⟨#[]⟩) :=
 dD1 h (iI es) (λ_ hs=>eC0 hs) s
theorem uP0 {es:List En} (h:OkL (bls (readL es))) (s:ByteArray):iI es s=if (kD (bls (readL es)) (bl s)).2=true then iI es ((readL es).getD (kD (bls (readL es)) (bl s)).1 ⟨#[]⟩) else []:=by
 by_cases hm:s∈readL es
 ·obtain⟨j,hj⟩:=List.mem_iff_getElem?.1 hm
  rw[h.findT_of (vR hj),if_pos rfl,rG1 hj]
 ·rw[qW (by grind [pK,bls,bl]),eC0 hm]
  rfl
theorem rQ0 {s x:ByteArray} {n:Nat} (hn:n<=s.size):x=oK0 s n↔lF0 s x=true/\x.size=n:=by
 unfold lF0 oK0;grind [List.prefix_iff_eq_take,Lib.size_eq,pK,mkB,bl]
theorem lE1 {s p:ByteArray} (h:lF0 s p=true):p.size<=s.size:=by
 unfold lF0 at h;grind [dO]
end
section
open Go Go.RowKit Go.Shelf
attribute [local go_sem] aO aM
def makeE (p:List dE) (m:Option Mx) (l:List En):Int :=
 if xA p m l=0 then (if fY (bls (readL (sortS l)))=0/\fY (bls (dI (sortS l)))=0 then 0 else 2) else xA p m l
end
section
open Go Go.RowKit
theorem nY0 (P:List bE) (w:World) (T:TypeId) (hl:P.length<=1000000):aG (w.alloc (.cells (P.flatMap kZ).toArray T)) (some ⟨w.heap.size,0,none⟩) 2 (P.map kZ):=by
 have h:=jK (enc:=kZ) (k:=2) (λ_=>rfl) (w:=w) (e:=T) (base:=w.heap.size) (n:=P.length) (Ah _) P (cs:=(P.flatMap kZ).toArray) (by simp) rfl (by unfold maxLen;omega);obtain⟨a,c,e,_,_,ac⟩:=h.at_ (k:=2) (λ_=>rfl);have e1:=(Value.slice.inj e).1;rw[e1];exact ac
def bare (p:bE):bE:=⟨p.name,p.data,none,0⟩
theorem sT0 (P:List bE):kQ (P.map bare)=kQ P:=by simp[kQ,bare,Cl,Function.comp_def]
theorem oL0 (P:List bE):dM (P.map bare)=dM P:=by
 simp[dM,dN,dQ,bare,Cc]
theorem nZ (P:List bE):file14 (P.map bare)=file14 P:=by unfold file14; rw[oL0]
theorem eG0:∀(P:List bE) (seen:List ByteArray),yA (P.map bare) seen=yA P seen
 | [],_=>rfl
 | p::P,seen=>by
  rw[Ay,yA,yA,eG0 P];rfl
theorem qY (P:List bE):fO (P.map bare)=fO P:=by
 unfold fO wM0;rw[sT0,Ad,eG0,List.any_map];rfl
theorem fK {W:World} {base:Nat} {v:Value} {data:List UInt8} (h:aX W base 5 1 aY v data):∃a c,v=.slice a data.length c/\aG W a 1 (data.map aY)/\(a=none->c=0):=by
 obtain⟨a,c,rfl,_,_,ac⟩:=h.at_ (k:=1) (λx=>(rfl:(aY x).length=1));refine⟨a,c,rfl,ac,λha=>?_⟩;rcases h.2 with ⟨e,_⟩|⟨g,cap,cp,hv,_⟩
 ·exact(Value.slice.inj e).2.2
 ·rw[ha]at hv
  cases (Value.slice.inj hv).1
end
section
open Go Go.RowKit Go.Shelf Go.Sort
theorem vZ0 {w:World} {g n:Nat} {os:Array Obj} (d:Array Nat):w.grownBy (grow (putRow nv (Sort.ahead w n) g 0 d) os) (some g):=by
 refine⟨rfl,rfl,rfl,by simp,λk hk aj=>?_⟩;rw[heap_grow_old _ _ (by simpa using hk)]
 have:g≠k:=λe=>aj (by rw[e])
 simp[putRow,mapBlock,Sort.ahead,Array.getElem?_modify,this]
theorem rI0 {wB w0 W:World} {ob:Nat} {dk:Array Nat} (hB:aB wB w0) (hob:wB.heap.size<=ob) (S:SWn w0 ob dk W):aB wB W:=by
 obtain⟨m,os,rfl⟩:=S;exact hB.grown (vZ0 dk) (λq hq=>by cases hq;exact hob)
theorem pK1 {es:List En} {BS:List ByteArray} {ib eb sc ob:Nat} {sa:Option Addr} {wB w0:World} (hn:es.length<=1048576) (hL:BS.length<=1048576) (hB:aB wB w0) (hob:wB.heap.size<=ob) (hid:jQ1 wB ib BS) (bh:wB.cell? ⟨eb,0,none⟩=some (.slice sa es.length sc)) (ac:aG wB sa 5 (es.map bF))
  (aa:aX w0 wB.heap.size 3 1 lK (.slice (some ⟨ob,0,none⟩) es.length es.length) (Ag es.length)) (ae:ob<w0.heap.size) (hm:∀x∈es,x.s∈BS) (hz:∀x∈es,x.s.size<=maxLen) :
  gH (nM BS es) es.length ob 60 #[.pointer (some ⟨ib,0,none⟩),.pointer (some ⟨eb,0,none⟩)] (Ag es.length).toArray w0/\SWn w0 ob (Ag es.length).toArray w0:=by
 have hH:Holds nv w0 ob 0 (Ag es.length).toArray:=λj hj=>by
  have lx:j<es.length:=by simpa using hj
  have h1:=dC (f:=λn:Nat=>Value.int .i64 n) aa (k:=j) (x:=j) (by rw[Am lx]);obtain⟨h2,_,_⟩:=eW (f:=λn:Nat=>Value.int .i64 n) aa (k:=j) (by simpa using lx) 0;refine⟨?_,by rw[Bf];exact h2⟩;rw[Bf,h1];simp[nv,lx]
 refine⟨⟨⟨λx=>rfl,hH,ae⟩,by simp,hn,kM1,?_⟩,⟨0,#[],(sortWorld_start nv w0 ob 0 _ hH).symm⟩⟩;intro m os dk hs x y hx hy;have hg:aB wB (sortWorld nv w0 ob 0 m dk os):=rI0 hB hob ⟨m,os,rfl⟩;have hex:es[x]?=some (es.getD x enZero):=by rw[Ac,Ab hx];rfl
 have hey:es[y]?=some (es.getD y enZero):=by rw[Ac,Ab hy];rfl
 have hmx:=Ae hex;have hmy:=Ae hey;have h:=hD1 BS ib eb (nM BS es x) (nM BS es y) x y es (es.getD x enZero) (es.getD y enZero) sa sc _ (hid.grows hg) (hg.cell bh) (ac.grows hg) hn hL hex hey (oG (hm _ hmx)) (oG (hm _ hmy)) ⟨hz _ hmx,hz _ hmy⟩;exact h.mono λe w' ⟨h1,h2⟩=>⟨h1,1,#[],by rw[h2,grow_empty];rfl⟩
theorem fO1 {es:List En} {BS:List ByteArray} {ob:Nat} {_wB w0 w':World} {dk:Array Nat} (hs:dk.size=es.length) (hw:Win (nM BS es) (Fd dk) 0 es.length) (hm:∀x∈es,x.s∈BS) (R:Row1 nv w0 ob 0 (Ag es.length).toArray) (S:SWn w0 ob dk w') :
  aG w' (some ⟨ob,0,none⟩) 1 ((dR (nM BS es) es.length BS.length).map lK)/\(dR (nM BS es) es.length BS.length).length=es.length/\∀i∈dR (nM BS es) es.length BS.length,i<es.length:=by
 have h1:(Ag es.length).map (Fd dk)=dR (nM BS es) es.length BS.length:=eW1 hw λi hi=>by
  have hex:es[i]?=some (es.getD i enZero):=by rw[Ac,Ab hi];rfl
  exact rO (hm _ (Ae hex))
 rw[<-h1];refine⟨λ_=>⟨ob,0,rfl,λi row hi j u hj=>?_⟩,by simp,λi hi=>?_⟩
 ·rw[Aj,Aj]at hi
  rcases Be i es.length with ae|hge
  ·rw[Am ae]at hi
   simp only[Cf,Option.some.injEq]at hi;subst hi
   match j,hj with
   | 0,hj =>
    have:=S.c1 R (by rw[hs];simp) i (by omega)
    simp only[lK,List.getElem?_cons_zero,Option.some.injEq]at hj;subst hj;simpa [Fd,nv] using this
  ·rw[Bj (by simpa using hge)]at hi
   cases hi
 ·obtain⟨j,hj,rfl⟩:=List.mem_map.1 hi
  rw[As]at hj;exact(hw.inn j (Bp _) hj).2
end
section
open Go Go.RowKit Go.Shelf
attribute [local go_sem] aO aM
def dG (p:List dE) (m:Option Mx) (l:List En) (w:World) (e:Ending) (w':World):Prop :=
 aB w w'/\∃v,e=.returned (.tuple #[v,.int .i64 (rH p m l).1])/\aX w' w.heap.size 5 1 aY v (rH p m l).2
theorem uM0 (p:List dE) (mv:Value) (m:Option Mx) (l:List En) (pa a:Option Addr) (pc c:Nat) (w:World) (he:Env w) (hp:p.length<=4611686018427387904) (hl:l.length<=140737488355328) (hs:∀x∈l,x.r.size<9223372036854775807/\x.s.size<9223372036854775807)
  (rm:aG w pa 2 (p.map cX)) (hm:fF1 w mv m) (ac:aG w a 5 (l.map bF)) (hc:xA p m l≠0) :
  Calls Tryz.prog 15 #[.slice pa p.length pc,mv,.slice a l.length c] w (dG p m l w):=by
 have gk:aB w (w.alloc (.cells #[.slice a l.length c] 24)):=aB.alloc _ _;have CC:=Aa (dQ0 p mv m l pa a pc c _ (he.grows gk) hp hl hs (rm.grows gk) (hm.grows gk) (ac.grows gk));have bh:(w.alloc (.cells #[.slice a l.length c] 24)).cell? ⟨w.heap.size,0,none⟩=some (.slice a l.length c):=aT w _ _ (0,0) 0 _ rfl;unfold dG rH;rw[if_neg hc];obtain⟨f,hf⟩:=exq (xA p m l);rw[<-hf]at CC hc ⊢;clear he hs rm hm ac hf gk;go_enter Tryz.func15,Tryz.ntmps15
 go_wp2_with fail
 refine CC.out.mono ?_;rintro e w1 ⟨rfl,an⟩;go_wp2
 go_ret2;exact⟨aB.trans _ _ _ (aB.alloc _ _) an,_,rfl,aX.nil _ _ _ _ _⟩
theorem pC1 {k:Nat} (h:k<=1048576):(Lit.int .i64 (k:Int)).wf=true:=by
 simp[Lit.wf,IntKind.min,IntKind.max,At,Ao];omega
theorem dG.long {p:List dE} {m:Mx} {l:List En} {w w':World} (hc:xA p (some m) l=0) (h:¬(fY (bls (readL (sortS l)))=0/\fY (bls (dI (sortS l)))=0)) (hg:aB w w'):dG p (some m) l w (.returned (.tuple #[.slice none 0 0,.int .i64 2])) w':=by
 unfold dG rH;rw[if_pos hc];simp only;rw[if_neg h];exact⟨hg,_,rfl,aX.nil _ _ _ _ _⟩
theorem dG.join {p:List dE} {m:Mx} {l:List En} {w w':World} {e:Ending} (hc:xA p (some m) l=0) (h:fY (bls (readL (sortS l)))=0/\fY (bls (dI (sortS l)))=0) (hg:aB w w')
  (hj:(fO (imgP p m (sortS l))=0->∃v,e=.returned (.tuple #[v,.int .i64 0])/\aX w' w.heap.size 5 1 aY v (file14 (imgP p m (sortS l))))/\(fO (imgP p m (sortS l))≠0->e=.returned (.tuple #[.slice none 0 0,.int .i64 (fO (imgP p m (sortS l)))]))):dG p (some m) l w e w':=by
 unfold dG rH;rw[if_pos hc];simp only;rw[if_pos h];refine⟨hg,?_⟩;by_cases h0:fO (imgP p m (sortS l))=0
 ·rw[if_pos h0];exact hj.1 h0
 ·rw[if_neg h0];exact⟨_,hj.2 h0,aX.nil _ _ _ _ _⟩
theorem mG0 (p:List dE) (mb bm:Nat) (m:Mx) (l:List En) (pa a:Option Addr) (pc c:Nat) (w:World) (he:Env w) (hp:p.length<=4611686018427387904) (hs:∀x∈l,yB x) (hz:∀x∈l,x.r.size<=1099511627776/\x.s.size<=1099511627776) (hl:l.length<=20000) (hv:eO p=true)
  (rm:aG w pa 2 (p.map cX)) (hm:gR w mb bm m) (ac:aG w a 5 (l.map bF)) (hc:xA p (some m) l=0) :
  Calls Tryz.prog 15 #[.slice pa p.length pc,.pointer (some ⟨mb,0,none⟩),.slice a l.length c] w (dG p (some m) l w):=by
 have gk:aB w (w.alloc (.cells #[.slice a l.length c] 24)):=aB.alloc _ _;have CC:=Aa (dQ0 p (.pointer (some ⟨mb,0,none⟩)) (some m) l pa a pc c _ (he.grows gk) hp (by omega) (λx hx=>by have:=hz x hx;omega) (rm.grows gk) (fF1.grows (m:=some m) ⟨mb,bm,rfl,hm⟩ gk) (ac.grows gk));have bh:(w.alloc (.cells #[.slice a l.length c] 24)).cell? ⟨w.heap.size,0,none⟩=some (.slice a l.length c):=aT w _ _ (0,0) 0 _ rfl;have zn:=Aa (gG0 w #[.slice a l.length c] 24 0);rw[hc]at CC;have HCH:=Aa hc;obtain⟨es,hes⟩:=exq (sortS l);have HSO:=Aa hes;have HE:=Aa he;have HPT:=Aa rm;have HM:=Aa hm;have HAT:=Aa ac;have HZ:=Aa hz;have HS:=Aa hs;have HGA:=Aa gk;clear he hs hz rm hm ac hc hes;go_enter Tryz.func15,Tryz.ntmps15
 go_wp2_with fail
 obtain⟨wA,hwA⟩:=exq (w.alloc (.cells #[.slice a l.length c] 24));have afo:w.heap.size<wA.heap.size:=by rw[hwA];simp
 rw[<-hwA]at HGA CC zn bh ⊢;have HSZ:=Aa afo;obtain⟨eb,cv⟩:=exq w.heap.size;have HEB:=Aa cv;have HF:Hid (wA.frozen? ⟨eb,0,none⟩=false):=by rw[cv];exact zn
 rw[<-cv]at bh ⊢;clear hwA zn gk afo cv;refine CC.out.mono ?_;rintro e w1 ⟨rfl,an⟩;have zo:=an.cell bh;have CS:=Aa (dN1 l a c w1 (by omega) HS.out (HAT.out.grows (aB.trans _ _ _ HGA.out an)));clear CC bh;go_wp2_with fail
 refine CS.out.mono ?_;rintro e w2 ⟨v2,rfl,ic,af⟩;rw[<-HSO.out]at ic;have hes:=HSO.out;have HES:Hid (∀x∈es,x∈l):=λx hx=>by rw[hes]at hx;exact(((dJ l).2 x).1 hx).1
 have uw:es.length<=l.length:=by rw[hes];exact cG ((dJ l).1.imp λ{a b} gp e=>by rw[e,fF]at gp;cases gp) λy hy=>(((dJ l).2 y).1 hy).1
 have hf2:w2.frozen? ⟨eb,0,none⟩=false:=((aB.trans _ _ _ an af).froz (by rw[HEB.out];exact HSZ.out)).trans HF.out;have zp:=af.cell zo;have afp:aB w w2:=aB.trans _ _ _ HGA.out (aB.trans _ _ _ an af);have adf:eb<w1.heap.size:=by rw[HEB.out];exact Nat.lt_of_lt_of_le HSZ.out an.size
 have nu:=mG ic (p:=⟨eb,0,none⟩) adf v2;obtain⟨sa,sc,rfl,_,_,fp⟩:=nu.at_ nY;have zq:aB w (w2.setCell ⟨eb,0,none⟩ (.slice sa es.length sc)):=afp.set (by rw[HEB.out];exact Ah _) _;have se:(w2.setCell ⟨eb,0,none⟩ (.slice sa es.length sc)).cell? ⟨eb,0,none⟩=some (.slice sa es.length sc):=World.cell?_setCell_same _ _ _ (by rw[zp];first|done|rfl)
 obtain⟨w3,hw3⟩:=exq (w2.setCell ⟨eb,0,none⟩ (.slice sa es.length sc));clear CS an af zo ic nu hes HF;go_wp2_with fail
 rw[<-hw3]at fp zq se ⊢;clear hw3 hf2 zp afp adf HSZ HGA;have HAE:=Aa fp;have HCE:=Aa se;clear fp se;have CR:=Aa (qD0 (λx=>x.r) _ lP1 gD1 es sa sc w3 (by omega) (HAE.out.grows (aB.refl _)));obtain⟨BR,hBR⟩:=exq (readL es);rw[show mY (es.map λx=>x.r)=BR from hBR.symm]at CR
 have HBR:=Aa hBR;have hlR:BR.length<=20000:=by rw[hBR];have:=rL (es.map λx=>x.r);rw[Ad]at this;unfold readL;omega
 have HZR:Hid (∀s∈BR,s.size<=1099511627776):=λs hs=>by
  rw[hBR]at hs;obtain⟨x,hx,rfl⟩:=List.mem_map.1 (vM hs);exact(HZ.out x (HES.out x hx)).1
 clear hBR;refine CR.out.mono ?_;rintro e w4 ⟨jx,bR,aij,rfl,hbR,hOR⟩;obtain⟨a',c',e',_,_,hAR⟩:=hOR.at_ (k:=1) (λx=>(rfl:(stC x).length=1));have e'':=(Value.slice.inj e').1;subst e'';have CLR:=Aa (uK BR (some ⟨bR,0,none⟩) aij w4 (by omega) HZR.out (λq hq=>by cases hq;exact hbR) hAR);clear CR e' hAR hOR hbR HZR;go_wp2_with fail
 refine CLR.out.mono ?_;rintro e w5 ⟨d8,hTR⟩;clear CLR;have g5:=aB.trans _ _ _ jx d8;clear jx d8;rcases hTR with ⟨hkR,tr,rfl,hTR,_⟩|⟨hkR,rfl⟩
 ·have HTR:=Aa hTR
  have HKR:=Aa hkR;have abg:=g5.cell HCE.out;clear hTR hkR;go_wp2_with fail
  have CS:=Aa (qD0 (λx=>x.s) _ mN1 jB1 es sa sc w5 (by omega) (HAE.out.grows g5));obtain⟨BS,hBS⟩:=exq (dI es);rw[show mY (es.map λx=>x.s)=BS from hBS.symm]at CS
  have HBS:=Aa hBS;have hlS:BS.length<=20000:=by rw[hBS];have:=rL (es.map λx=>x.s);rw[Ad]at this;unfold dI;omega
  have HZS:Hid (∀s∈BS,s.size<=1099511627776):=λs hs=>by
   rw[hBS]at hs;obtain⟨x,hx,rfl⟩:=List.mem_map.1 (vM hs);exact(HZ.out x (HES.out x hx)).2
  clear hBS;refine CS.out.mono ?_;rintro e w6 ⟨sg,bS,aik,rfl,hbS,hOS⟩;obtain⟨a',c',e',_,_,hAS⟩:=hOS.at_ (k:=1) (λx=>(rfl:(stC x).length=1));have e'':=(Value.slice.inj e').1;subst e'';have CLS:=Aa (uK BS (some ⟨bS,0,none⟩) aik w6 (by omega) HZS.out (λq hq=>by cases hq;exact hbS) hAS);clear CS e' hAS hOS hbS;go_wp2_with fail
  refine CLS.out.mono ?_;rintro e w7 ⟨si,hTS⟩;clear CLS;have g7:=aB.trans _ _ _ g5 (aB.trans _ _ _ sg si);have G57:=Aa (aB.trans _ _ _ sg si);clear sg si abg;rcases hTS with ⟨hkS,ts,rfl,hTS,_⟩|⟨hkS,rfl⟩
  ·have HTS:=Aa hTS
   have HKS:=Aa hkS;have s8:=@run_makeMap Tryz.prog;have CLn:=λW h=>Aa (yM (bls BS) ts W (hTS.grows (w':=W) h));obtain⟨w8,hw8⟩:=exq ((w7.alloc (.map #[] 0)).alloc (.cells #[.map (some w7.heap.size)] 105));have fh:aB w7 w8:=by rw[hw8];exact(aB.alloc _ _).al _
   have tw:=(World.ownsMap_made w7 Tryz.prog 9 (plainElem (H:=Unit) Tryz.prog 3)).alloc (.cells #[.map (some w7.heap.size)] 105);rw[<-hw8]at tw
   have sj:w8.cell? ⟨w7.heap.size+1,0,none⟩=some (.map (some w7.heap.size)):=by
    rw[hw8];have dw:(w7.alloc (.map #[] 0)).heap.size=w7.heap.size+1:=by simp
    have h:=aT (w7.alloc (.map #[] 0)) #[.map (some w7.heap.size)] 105 (0,0) 0 _ rfl;rw[dw]at h;exact h
   obtain⟨afq,afr,hcS⟩:=eF hkS;have gm:(bls BS).length=BS.length:=by unfold bls;rw[Ad]
   have CT:=λk W h hk=>Aa (fA0 (bls BS) ts k W afq afr hcS hk (hTS.grows (w':=W) h))
   have HGT:Hid (∀k,k<BS.length->BS[k]?=some (mkB (nth (bls BS) k))):=λk hk=>by
    rw[HBS.out]at hk ⊢;exact iO1 hk
   have HND:Hid BS.Nodup:=by rw[HBS.out];exact mW _
   rw[gm]at CT CLn;clear hTS hkS afq afr hcS gm;go_wp2_with fail
   rw[<-hw8];have CL8:=CLn w8 fh;clear CLn;obtain⟨mp,hmp⟩:=exq w7.heap.size;obtain⟨ib,sd⟩:=exq (mp+1);rw[<-hmp,<-sd]at sj ⊢;rw[<-hmp]at tw;have HMP:=Aa hmp;have HIB:=Aa sd;clear hw8 s8 hmp sd;refine CL8.out.mono ?_;rintro e w9 ⟨rfl,rfl⟩;clear CL8;go_wp2_with fail
   go_loopw [54] (λi wr=>∃(k:Nat) (D:DataW Unit),k<=BS.length/\i=.int .i64 k/\wr.cell? ⟨ib,0,none⟩=some (.map (some mp))/\wr.ownsMap Tryz.prog 9 (plainElem Tryz.prog 3) mp k D/\Hid (IdM BS k D)/\aB w7 wr) (λi _=>BS.length-(intOf i).toNat)
   case atStart=>exact⟨0,_,Bp _,rfl,sj,tw,fE1 _ _,fh⟩
   case round =>
    clear sj tw fh;obtain⟨k,D,hk,rfl,ci,aa,hM,hg⟩:=hrel;by_cases ae:k<BS.length
    ·have CT1:=CT k wr hg ae
     obtain⟨sk,hsk⟩:=exq (mkB (nth (bls BS) k));have uq:=HGT.out k ae;rw[<-hsk]at CT1 uq;have ail:sk.size<=maxLen:=Au (HZS.out sk (Ae uq)) (by unfold maxLen;omega);have HBK:=Aa uq;have cn:(k:Int)<BS.length:=by omega
     have hwk:=pC1 (k:=k) (by omega);have hkm:k<maxLen:=by unfold maxLen;omega
     clear CT hsk uq;go_wp2_with fail
     refine CT1.out.mono ?_;rintro e w10 ⟨rfl,nr⟩;have mc:=nr.cell ci;have ai:=aJ aa nr;have af:=aB.trans _ _ _ hg nr;clear CT1 ci aa;go_wp2_with (at_mapUpdate;refine wpList_mapUpdate_own _ rfl _ _ _ 105 rfl 9 3 (Maps.string_keyed Tryz.underlying9) Tryz.underlying105 _ mp k D rfl ai hkm _ _ (.string sk.data.toList) rfl rfl (WideMaps.keyOf_string_mk Tryz.underlying9 ail) _ [] (plainElem_int Tryz.underlying3 hwk) ?_;intro zm abh n7)
     have hM2:=Aa (nB1 hM.out ai HND.out HBK.out);have aim:zm.cell? ⟨ib,0,none⟩=some (.map (some mp)):=aU n7 mc (by rw[HIB.out];simp);have ax:=af.grown n7 (λq hq=>by cases hq;rw[HMP.out];exact Ah _);clear mc ai hM hg af nr n7;go_roundw
     case rel=>exact⟨k+1,_,ae,by go_num,aim,abh,hM2,ax⟩
     case measure=>simp[intOf];omega
    ·obtain rfl:k=BS.length:=by omega
     have HID:Hid (jQ1 wr ib BS):=⟨_,_,_,ci,aa,hM.out⟩;clear CT ci aa hM HND HGT;go_wp2_with fail
     have G20:=Aa (aB.trans _ _ _ g7 hg);have adg:=aB.trans _ _ _ zq (aB.trans _ _ _ g7 hg);have CPE:=Aa (tD0 p pa pc wr hv (HPT.out.grows adg));have G5r:=Aa (aB.trans _ _ _ G57.out hg);have G7r:=Aa hg;clear hg g7 g5;refine CPE.out.mono ?_;rintro e w21 ⟨v1,rfl,iw,zr⟩;clear CPE;have t5:=zr.cell (G20.out.cell HCE.out);have CI:=Aa (zU uE _ mA1 fL1 es sa sc w21 (by omega) (HAE.out.grows (aB.trans _ _ _ G20.out zr)));have HV1:=Aa iw;clear iw;go_wp2_with fail
     refine CI.out.mono ?_;rintro e lr ⟨ab0,v2,rfl,ic⟩;clear CI;have HV2:=Aa ic;have t7:=ab0.cell t5;have l9:=λ(Y:World)=>gR1 es.length Y (by omega);have G22:=Aa (aB.trans _ _ _ zr ab0);have G2122:=Aa ab0;have HS21:Hid (w.heap.size<=w21.heap.size):=Au adg.size zr.size;clear ic t5 zr ab0;go_wp2_with fail
     have az:=fL0 (w:=lr) (n:=es.length) (by omega);have hrl:(Ag es.length).length=es.length:=Ak;rw[Nat.mul_one]at az;have na:List.replicate es.length 0=mA (Ag es.length) 0 0:=by rw[qE,hrl]
     rw[na]at az;clear na;obtain⟨w23,ab1⟩:=exq (lr.alloc (.cells (madeCells #[.int .i64 0] es.length) 3));have afs:aB lr w23:=by rw[ab1];exact aB.alloc _ _
     have zt:lr.heap.size<w23.heap.size:=by rw[ab1];simp
     rw[<-ab1]at az ⊢;obtain⟨ob,hob⟩:=exq lr.heap.size;rw[<-hob]at zt ⊢;have zu:aX w23 lr.heap.size 3 1 lK (.slice (some ⟨ob,0,none⟩) es.length es.length) (mA (Ag es.length) 0 0):=by rw[hob];exact az
     have HOB:=Aa hob;have aft:lr.heap.size<=ob:=by rw[hob];exact Ah _
     have HOBE:=Aa aft
     have X22:Aside (jQ1 lr ib BS/\lr.cell? ⟨eb,0,none⟩=some (.slice sa es.length sc)/\aG lr sa 5 (es.map bF)/\fB lr tr (bls BR)/\fB lr ts (bls BS)/\aX lr w.heap.size 5 1 aY v1 (posE p)/\aX lr w.heap.size 3 1 lK v2 (iY uE es es.length)/\gR lr mb bm m/\Env lr/\aB w lr):=by
      have g1:=aB.trans _ _ _ G20.out G22.out;have g0:=aB.trans _ _ _ zq g1;exact⟨HID.out.grows G22.out,t7,HAE.out.grows g1,HTR.out.grows (aB.trans _ _ _ G5r.out G22.out),HTS.out.grows (aB.trans _ _ _ G7r.out G22.out),(HV1.out.grows G2122.out).base adg.size,HV2.out.base HS21.out,HM.out.grows g0,HE.out.grows g0,g0⟩
     clear ab1 az l9 t7 hob aft;go_loopw [79] (λi wr=>∃(k:Nat),k<=es.length/\i=.int .i64 k/\Hid (aX wr lr.heap.size 3 1 lK (.slice (some ⟨ob,0,none⟩) es.length es.length) (mA (Ag es.length) 0 k))/\aB lr wr/\ob<wr.heap.size) (λi _=>es.length-(intOf i).toNat)
     case atStart=>exact⟨0,Bp _,rfl,zu,afs,zt⟩
     case round =>
      clear zu afs zt;obtain⟨k,hk,rfl,aa,hg,hol⟩:=hrel;by_cases ae:k<es.length
      ·have cn:(k:Int)<es.length:=by omega
       obtain⟨z,hz⟩:∃z,(mA (Ag es.length) 0 k)[k]?=some z:=⟨_,Ab (by rw[nC _ _ (by omega)];omega)⟩;have e1:=dC (f:=λn:Nat=>Value.int .i64 n) aa.out hz;obtain⟨f1,_,au⟩:=eW (f:=λn:Nat=>Value.int .i64 n) aa.out (k:=k) (by rw[nC _ _ (by omega)];omega) k;rw[sO (Am ae)]at au;have HO:=Aa au;clear hz aa au;go_wp2_with fail
       go_roundw
       case rel=>exact⟨k+1,ae,by go_num,HO.out,hg.set HOBE.out _,by simpa using hol⟩
       case measure=>simp[intOf];omega
      ·obtain rfl:k=es.length:=by omega
       have ai:aX wr lr.heap.size 3 1 lK (.slice (some ⟨ob,0,none⟩) es.length es.length) (Ag es.length):=by
        have h:=aa.out;have e9:=sT (Ag es.length) 0;rw[Ak]at e9;rwa [e9]at h
       have HMS:Hid (∀x∈es,x.s∈BS):=λx hx=>by rw[HBS.out];exact hE0 (List.mem_map_of_mem hx)
       have OA:=Aa (pK1 (es:=es) (BS:=BS) (ib:=ib) (eb:=eb) (sc:=sc) (ob:=ob) (sa:=sa) (wB:=lr) (w0:=wr) (by omega) (by omega) hg HOBE.out X22.out.1 X22.out.2.1 X22.out.2.2.1 ai hol HMS.out (λx hx=>Au (HZ.out x (HES.out x hx)).2 (by unfold maxLen;omega)));have CSS:=Aa (cM0 OA.out.1 es.length (Ag es.length).toArray wr (by simp) (λi hi=>by unfold Fd;simp[hi]) OA.out.2);clear aa ai;go_wp2_with fail
       refine CSS.out.mono ?_;rintro e w30 ⟨rfl,dk,qo,hwd,SD⟩;have afu:=rI0 hg HOBE.out SD;have HL:=Aa (fO1 (_wB:=lr) qo hwd HMS.out OA.out.1.row SD);have aac:=afu.cell X22.out.2.1;clear CSS SD qo hwd OA hg hol;obtain⟨O,hO⟩:=exq (dR (nM BS es) es.length BS.length);rw[<-hO]at HL;have HO:=Aa hO;obtain⟨so,hso⟩:=exq (O.map λi=>es.getD i enZero);have HSO2:=Aa hso;have afv:so.length=es.length:=by rw[hso,Ad];exact HL.out.2.1
       have HG30:=Aa afu;obtain⟨iu,hiu,hzu,hsu,ry⟩:=oX1;clear hO hso;go_wp2_with (at_make;refine wpList_make_full _ rfl _ _ 24 rfl w30.heap.size 30 iu enZero.agg 5 Tryz.underlying24 hiu hzu hsu .i64 .i64 _ _ es.length rfl rfl rfl rfl (by rw[ry];omega) (by unfold maxLen;omega) (Ah _) ?_;intro w31 sn aa2)
       have afw:=(aB.refl w30).grown aa2 (λq hq=>by cases hq);obtain⟨sb,mq⟩:=exq w30.heap.size;rw[<-mq]at sn ⊢;obtain⟨hS0,_⟩:=mO0.made (so:=so) sn;have afx:w30.heap.size<=sb:=by rw[mq];exact Ah _
       have HSBE:=Aa afx;clear sn aa2 mq afx hiu hzu hsu ry aac;go_wp2_with fail
       go_loopw [95] (λi wr=>∃(k:Nat),k<=es.length/\i=.int .i64 k/\mO0 wr sb es.length so k/\aB w30 wr) (λi _=>es.length-(intOf i).toNat)
       case atStart=>exact⟨0,Bp _,rfl,hS0,afw⟩
       case round =>
        clear hS0 afw;obtain⟨k,hk,rfl,hS,hg⟩:=hrel;by_cases ae:k<es.length
        ·obtain⟨o,ho⟩:∃o,O[k]?=some o:=⟨_,Ab (by rw[HL.out.2.1];exact ae)⟩
         have hoe:=HL.out.2.2 o (Ae ho);obtain⟨b1,o1,e1,o9⟩:=at1 (f:=λn:Nat=>Value.int .i64 n) HL.out.1 (aK (List.getElem?_eq_some_iff.1 ho).1);obtain⟨rfl,rfl⟩:ob=b1/\0=o1:=by simpa using e1
         have hoc:=hg.cell (o9 k o ho);rw[Bf]at hoc;obtain⟨⟨xr,xs,xl,xt,xc⟩,hx⟩:∃x,es[o]?=some x:=⟨_,Ab hoe⟩;have gr:=aB.trans _ _ _ HG30.out hg;have hec:=gr.cell X22.out.2.1;obtain⟨ba,oa,rfl,be⟩:=(X22.out.2.2.1.grows gr).get (aK hoe);have c0:wr.cell? ⟨ba,oa+o*5,none⟩=some (.string xr):=be o _ hx 0 _ rfl;have c1:wr.cell? ⟨ba,oa+o*5+1,none⟩=some (.string xs):=be o _ hx 1 _ rfl;have c2:wr.cell? ⟨ba,oa+o*5+2,none⟩=some (.int .i64 xl):=be o _ hx 2 _ rfl;have c3:wr.cell? ⟨ba,oa+o*5+3,none⟩=some (.int .i64 xt):=be o _ hx 3 _ rfl;have c4:wr.cell? ⟨ba,oa+o*5+4,none⟩=some (.int .i64 xc):=be o _ hx 4 _ rfl
         have hsk:so[k]?=some ⟨xr,xs,xl,xt,xc⟩:=by
          rw[HSO2.out,Aj,ho];simp only[Cf];rw[Ac,hx];rfl
         have HST:=Aa (hS.step ae hsk);obtain⟨q0,d0⟩:=hS.cell (j:=k*5) (by omega);have S1:=hS.set (j:=k*5) (Ah _) (.string xr);obtain⟨q1,d1⟩:=S1.cell (j:=k*5+1) (by omega);have S2:=S1.set (j:=k*5+1) (by omega) (.string xs);obtain⟨q2,d2⟩:=S2.cell (j:=k*5+2) (by omega);have S3:=S2.set (j:=k*5+2) (by omega) (.int .i64 xl);obtain⟨q3,d3⟩:=S3.cell (j:=k*5+3) (by omega);have S4:=S3.set (j:=k*5+3) (by omega) (.int .i64 xt);obtain⟨q4,d4⟩:=S4.cell (j:=k*5+4) (by omega);have f0:=hS.froz (k*5);have f1:=hS.froz (k*5+1);have f2:=hS.froz (k*5+2);have f3:=hS.froz (k*5+3);have f4:=hS.froz (k*5+4);have hoi:(o:Int)<es.length:=by omega
         have cn:(k:Int)<es.length:=by omega
         clear ho o9 hx be hsk hS e1 S1 S2 S3 S4;go_wp2_with fail
         go_roundw
         case rel=>exact⟨k+1,ae,by go_num,HST.out,((((hg.set HSBE.out _).set HSBE.out _).set HSBE.out _).set HSBE.out _).set HSBE.out _⟩
         case measure=>simp[intOf];omega
        ·obtain rfl:k=es.length:=by omega
         rw[<-afv]at hS;have hSA:=hS.at_;go_wp2_with fail
         have CI2:=Aa (zU mN0 _ mV1 fZ1 so (some ⟨sb,0,none⟩) es.length wr (by omega) hSA);rw[afv]at CI2;refine CI2.out.mono ?_;rintro e w40 ⟨adh,v4,rfl,hv4⟩;obtain⟨a4,c4,rfl,_,_,zv⟩:=hv4.at_ (k:=1) (λx=>(rfl:(lK x).length=1));have HAT4:=Aa zv;have F40:=Aa (aB.refl w40);have G40:=Aa (aB.trans _ _ _ HG30.out (aB.trans _ _ _ hg adh));have HO40:=Aa (HL.out.1.grows (aB.trans _ _ _ hg adh));obtain⟨v2a,v2c,rfl,_,_,jl⟩:=X22.out.2.2.2.2.2.2.1.at_ (k:=1) (λx=>(rfl:(lK x).length=1));have HAT2:=Aa jl;obtain⟨a40,c40,rfl,aa3,afy⟩:=fK X22.out.2.2.2.2.2.1;have PP40:=Aa (And.intro (aa3.grows G40.out) afy);clear aa3 afy;have aep:=G40.out.cell X22.out.2.1;clear CI2 adh hv4 zv jl hg hS hSA;go_wp2_with fail
         refine(tI0 w40 mb bm m (X22.out.2.2.2.2.2.2.2.1.grows G40.out)).mono ?_;rintro e w41 ⟨v41,rfl,afz,ab2⟩;obtain⟨a41,c41,rfl,aa4,af0⟩:=fK afz;have PP41:=Aa (And.intro aa4 af0);have G41:=Aa (aB.trans _ _ _ G40.out ab2);have E41:=Aa ab2;have F41:=Aa (aB.trans _ _ _ F40.out ab2);clear afz aa4 af0 ab2;go_wp2_with fail
         obtain⟨okR,lR,cR⟩:=eF HKR.out;obtain⟨okS,lS,cS⟩:=eF HKS.out;refine(iJ0 (bls BR) tr w41 okR lR cR (X22.out.2.2.2.1.grows G41.out)).mono ?_;rintro e w42 ⟨v42,rfl,af1,ab3⟩;obtain⟨a42,c42,rfl,aa5,af2⟩:=fK af1;have PP42:=Aa (And.intro aa5 af2);have G42:=Aa (aB.trans _ _ _ G41.out ab3);have E42:=Aa ab3;have F42:=Aa (aB.trans _ _ _ F41.out ab3);clear af1 aa5 af2 ab3;go_wp2_with fail
         have up:=aX0 uE es es.length;have akn:=aX0 mN0 so es.length;obtain⟨_,_,_,rz⟩:=dX HCH.out;have ae3:=(fA hv).1
         have HNN:Hid (∀x∈es,0<=x.l/\x.l<64/\0<=x.t/\x.t<64/\0<=x.c/\x.c<=30000):=λx hx=>by
          have:=nV (rz x (HES.out x hx));omega
         have HMZ:Hid (∀x∈es,x.s.size<=maxLen):=λx hx=>Au (HZ.out x (HES.out x hx)).2 (by unfold maxLen;omega);clear rz;refine(nQ (iY uE es es.length) v2a v2c w42 (by omega) (λn hn=>by have:=lJ hn;omega) (HAT2.out.grows G42.out)).mono ?_;rintro e w43 ⟨v43,rfl,af3,ab4⟩;obtain⟨a43,c43,rfl,aa6,af4⟩:=fK af3;have PP43:=Aa (And.intro aa6 af4);have G43:=Aa (aB.trans _ _ _ G42.out ab4);have E43:=Aa ab4;have F43:=Aa (aB.trans _ _ _ F42.out ab4);clear af3 aa6 af4 ab4;go_wp2_with fail
         refine(iJ0 (bls BS) ts w43 okS lS cS (X22.out.2.2.2.2.1.grows G43.out)).mono ?_;rintro e w44 ⟨v44,rfl,af5,ab5⟩;obtain⟨a44,c44,rfl,aa7,af6⟩:=fK af5;have PP44:=Aa (And.intro aa7 af6);have G44:=Aa (aB.trans _ _ _ G43.out ab5);have E44:=Aa ab5;have F44:=Aa (aB.trans _ _ _ F43.out ab5);clear af5 aa7 af6 ab5;have aad:=G44.out.cell X22.out.2.1;go_wp2_with fail
         refine(qX (yD BS) _ #[.pointer (some ⟨ib,0,none⟩)] nU1 es eb sa sc w44 (by omega) (λx hx=>by have:=rO (HMS.out x hx);omega) (X22.out.2.2.1.grows G44.out) aad (λx hx W hW=>iY1 BS ib (yD BS x) x W (X22.out.1.grows (aB.trans _ _ _ G44.out hW)) (oG (HMS.out x hx)) (HMZ.out x hx))).mono ?_;rintro e w45 ⟨ab6,v45,rfl,af7⟩;obtain⟨a45,c45,rfl,aa8,af8⟩:=fK af7;have PP45:=Aa (And.intro aa8 af8);have G45:=Aa (aB.trans _ _ _ G44.out ab6);have E45:=Aa ab6;have F45:=Aa (aB.trans _ _ _ F44.out ab6);clear af7 aa8 af8 ab6;have aae:=G45.out.cell X22.out.2.1;go_wp2_with fail
         refine(qX (λx=>x.l.toNat) _ #[] mK1 es eb sa sc w45 (by omega) (λx hx=>by have:=HNN.out x hx;show x.l.toNat<_;omega) (X22.out.2.2.1.grows G45.out) aae (λx hx W hW=>by rw[show ((x.l.toNat:Nat):Int)=x.l from Ap (HNN.out x hx).1];exact eN1 x W)).mono ?_
         rintro e w46 ⟨ab7,v46,rfl,af9⟩;obtain⟨a46,c46,rfl,aa9,aga⟩:=fK af9;have PP46:=Aa (And.intro aa9 aga);have G46:=Aa (aB.trans _ _ _ G45.out ab7);have E46:=Aa ab7;have F46:=Aa (aB.trans _ _ _ F45.out ab7);clear af9 aa9 aga ab7;have aaf:=G46.out.cell X22.out.2.1;go_wp2_with fail
         refine(qX (λx=>x.t.toNat) _ #[] mF1 es eb sa sc w46 (by omega) (λx hx=>by have:=HNN.out x hx;show x.t.toNat<_;omega) (X22.out.2.2.1.grows G46.out) aaf (λx hx W hW=>by rw[show ((x.t.toNat:Nat):Int)=x.t from Ap (HNN.out x hx).2.2.1];exact gU1 x W)).mono ?_
         rintro e w47 ⟨ab8,v47,rfl,agb⟩;obtain⟨a47,c47,rfl,aba,agc⟩:=fK agb;have PP47:=Aa (And.intro aba agc);have G47:=Aa (aB.trans _ _ _ G46.out ab8);have E47:=Aa ab8;have F47:=Aa (aB.trans _ _ _ F46.out ab8);clear agb aba agc ab8;have aag:=G47.out.cell X22.out.2.1;go_wp2_with fail
         refine(qX (λx=>x.c.toNat) _ #[] gA1 es eb sa sc w47 (by omega) (λx hx=>by have:=HNN.out x hx;show x.c.toNat<_;omega) (X22.out.2.2.1.grows G47.out) aag (λx hx W hW=>by rw[show ((x.c.toNat:Nat):Int)=x.c from Ap (HNN.out x hx).2.2.2.2.1];exact dF1 x W)).mono ?_
         rintro e w48 ⟨ab9,v48,rfl,agd⟩;obtain⟨a48,c48,rfl,abb,age⟩:=fK agd;have PP48:=Aa (And.intro abb age);have G48:=Aa (aB.trans _ _ _ G47.out ab9);have E48:=Aa ab9;have F48:=Aa (aB.trans _ _ _ F47.out ab9);clear agd abb age ab9;have CO:=Aa (nQ O (some ⟨ob,0,none⟩) es.length w48 (by rw[HL.out.2.1];omega) (λn hn=>by have:=HL.out.2.2 n hn;omega) (HO40.out.grows F48.out));rw[HL.out.2.1]at CO;go_wp2_with fail
         refine(CO.out).mono ?_;rintro e w49 ⟨v49,rfl,agf,aca⟩;obtain⟨a49,c49,rfl,abc,agh⟩:=fK agf;have PP49:=Aa (And.intro abc agh);have G49:=Aa (aB.trans _ _ _ G48.out aca);have E49:=Aa aca;have F49:=Aa (aB.trans _ _ _ F48.out aca);clear agf abc agh aca;go_wp2_with fail
         refine(nQ (iY mN0 so es.length) a4 c4 w49 (by omega) (λn hn=>by have:=lJ hn;omega) (HAT4.out.grows F49.out)).mono ?_;rintro e w50 ⟨v50,rfl,agi,acb⟩;obtain⟨a50,c50,rfl,abd,agj⟩:=fK agi;have PP50:=Aa (And.intro abd agj);have G50:=Aa (aB.trans _ _ _ G49.out acb);have E50:=Aa acb;have F50:=Aa (aB.trans _ _ _ F49.out acb);clear agi abd agj acb;go_wp2_with fail
         obtain⟨P,hP⟩:∃P:List bE,P=[⟨⟨#[112,111,115]⟩,posE p,a40,c40⟩,⟨⟨#[109,97,116,114,105,120]⟩,m.enc,a41,c41⟩,⟨⟨#[114,101,97,100,105,110,103,115]⟩,loudE (bls BR),a42,c42⟩,⟨⟨#[102,105,114,115,116]⟩,packE (iY uE es es.length),a43,c43⟩,⟨⟨#[115,117,114,102,97,99,101,115]⟩,loudE (bls BS),a44,c44⟩,⟨⟨#[115,117,114,102,97,99,101]⟩,packE (es.map (yD BS)),a45,c45⟩,⟨⟨#[108,101,102,116]⟩,packE (es.map λx=>x.l.toNat),a46,c46⟩,⟨⟨#[114,105,103,104,116]⟩,packE (es.map λx=>x.t.toNat),a47,c47⟩,⟨⟨#[99,111,115,116]⟩,packE (es.map λx=>x.c.toNat),a48,c48⟩,⟨⟨#[111,114,100,101,114]⟩,packE O,a49,c49⟩,⟨⟨#[97,116]⟩,packE (iY mN0 so es.length),a50,c50⟩]:=⟨_,rfl⟩;have hPl:P.length=11:=by rw[hP];rfl
         obtain⟨W9,hW9⟩:=exq (w50.alloc (.cells (P.flatMap kZ).toArray 119))
         have hPA:jG w50 P:=by
          have T50:=aB.refl w50;have T49:=aB.trans _ _ _ E50.out T50;have T48:=aB.trans _ _ _ E49.out T49;have T47:=aB.trans _ _ _ E48.out T48;have T46:=aB.trans _ _ _ E47.out T47;have T45:=aB.trans _ _ _ E46.out T46;have T44:=aB.trans _ _ _ E45.out T45;have T43:=aB.trans _ _ _ E44.out T44;have T42:=aB.trans _ _ _ E43.out T43;have T41:=aB.trans _ _ _ E42.out T42;have T40:=aB.trans _ _ _ E41.out T41;have ok1:=dX HCH.out;rw[hP];refine⟨λq hq=>?_,λq hq=>?_,λq hq=>?_,λq hq=>?_⟩<;>simp only[List.mem_cons,List.mem_nil_iff,or_false]at hq
          ·rcases hq with rfl|rfl|rfl|rfl|rfl|rfl|rfl|rfl|rfl|rfl|rfl
           ·exact PP40.out.1.grows T40
           ·exact PP41.out.1.grows T41
           ·exact PP42.out.1.grows T42
           ·exact PP43.out.1.grows T43
           ·exact PP44.out.1.grows T44
           ·exact PP45.out.1.grows T45
           ·exact PP46.out.1.grows T46
           ·exact PP47.out.1.grows T47
           ·exact PP48.out.1.grows T48
           ·exact PP49.out.1.grows T49
           ·exact PP50.out.1.grows T50
          ·rcases hq with rfl|rfl|rfl|rfl|rfl|rfl|rfl|rfl|rfl|rfl|rfl
           ·exact PP40.out.2
           ·exact PP41.out.2
           ·exact PP42.out.2
           ·exact PP43.out.2
           ·exact PP44.out.2
           ·exact PP45.out.2
           ·exact PP46.out.2
           ·exact PP47.out.2
           ·exact PP48.out.2
           ·exact PP49.out.2
           ·exact PP50.out.2
          ·rcases hq with rfl|rfl|rfl|rfl|rfl|rfl|rfl|rfl|rfl|rfl|rfl<;>simp[ByteArray.size]
          ·rcases hq with rfl|rfl|rfl|rfl|rfl|rfl|rfl|rfl|rfl|rfl|rfl
           ·have h:=rE0 hv;show (posE p).length<=_;omega
           ·have h:=bW1 HM.out.ok;show m.enc.length<=_;omega
           ·have h:=jC0 okR lR cR;show (loudE _).length<=_;omega
           ·have h:=eU (l:=iY uE es es.length) (λn hn=>by have:=lJ hn;omega);show (packE _).length<=_;omega
           ·have h:=jC0 okS lS cS;show (loudE _).length<=_;omega
           ·have h:=eU (l:=es.map (yD BS)) (λn hn=>by obtain⟨x,hx,rfl⟩:=List.mem_map.1 hn;have:=rO (HMS.out x hx);omega);rw[Ad]at h;show (packE _).length<=_;omega
           ·have h:=eU (l:=es.map λx=>x.l.toNat) (λn hn=>by obtain⟨x,hx,rfl⟩:=List.mem_map.1 hn;have:=HNN.out x hx;show x.l.toNat<_;omega);rw[Ad]at h;show (packE _).length<=_;omega
           ·have h:=eU (l:=es.map λx=>x.t.toNat) (λn hn=>by obtain⟨x,hx,rfl⟩:=List.mem_map.1 hn;have:=HNN.out x hx;show x.t.toNat<_;omega);rw[Ad]at h;show (packE _).length<=_;omega
           ·have h:=eU (l:=es.map λx=>x.c.toNat) (λn hn=>by obtain⟨x,hx,rfl⟩:=List.mem_map.1 hn;have:=HNN.out x hx;show x.c.toNat<_;omega);rw[Ad]at h;show (packE _).length<=_;omega
           ·have h:=eU (l:=O) (λn hn=>by have:=HL.out.2.2 n hn;omega);have:=HL.out.2.1;show (packE _).length<=_;omega
           ·have h:=eU (l:=iY mN0 so es.length) (λn hn=>by have:=lJ hn;omega);show (packE _).length<=_;omega
         have hPC:aG W9 (some ⟨w50.heap.size,0,none⟩) 2 (P.map kZ):=by
          rw[hW9];exact nY0 P w50 _ (by omega)
         have fu:aB w50 W9:=by rw[hW9];exact aB.alloc _ _
         have CJ:=Aa (pX0 P (some ⟨w50.heap.size,0,none⟩) 11 W9 (X22.out.2.2.2.2.2.2.2.2.1.grows (aB.trans _ _ _ G50.out fu)) (by omega) hPC (hPA.grows fu));rw[hPl]at CJ
         have HPB:Hid (P.map bare=imgP p m es):=by
          show _=_
          rw[hP];unfold imgP nH0 jA nH0;rw[<-HBR.out,<-HBS.out,<-HO.out,<-HSO2.out];rfl
         have adi:W9=w50.alloc (.cells (P.flatMap kZ).toArray 119):=hW9;rw[hP]at adi;have HW9:=Aa adi;have CJ2:∀W,W=W9->Hid (Calls Tryz.prog 64 #[.slice (some ⟨w50.heap.size,0,none⟩) 11 11] W (gZ0 P W9)):=by rintro _ rfl;exact CJ
         have G9:=Aa fu;clear hP hW9 adi hPA hPC CJ fu;refine(CJ2 _ ?_).out.mono ?_
         ·rw[HW9.out];rfl
         rintro e w51 ⟨qk,hj1,hgJ⟩;have GW:=aB.trans _ _ _ X22.out.2.2.2.2.2.2.2.2.2 (aB.trans _ _ _ G50.out (aB.trans _ _ _ G9.out hgJ));by_cases acd:fO P=0
         ·obtain⟨v,rfl,hv'⟩:=qk acd
          clear qk hj1;have vd:=hv'.base (aB.trans _ _ _ X22.out.2.2.2.2.2.2.2.2.2 (aB.trans _ _ _ G50.out G9.out)).size;have HV':=Aa vd;clear hv' vd;go_wp2_with fail
          go_ret2;refine dG.join HCH.out ⟨by rw[<-HSO.out,<-HBR.out];exact HKR.out,by rw[<-HSO.out,<-HBS.out];exact HKS.out⟩ GW ?_;rw[<-HSO.out,<-HPB.out,qY,nZ];exact⟨λ_=>⟨v,rfl,HV'.out⟩,λh=>absurd acd h⟩
         ·obtain rfl:=hj1 acd
          clear qk hj1;go_wp2_with fail
          go_ret2;refine dG.join HCH.out ⟨by rw[<-HSO.out,<-HBR.out];exact HKR.out,by rw[<-HSO.out,<-HBS.out];exact HKS.out⟩ GW ?_;rw[<-HSO.out,<-HPB.out,qY,nZ];exact⟨λh=>absurd h acd,λ_=>rfl⟩
  ·have HK:=Aa hkS
   have hfi:(fY (bls BS):Int)≠0:=by omega
   obtain⟨f,hf⟩:∃f:Int,f=fY (bls BS):=⟨_,rfl⟩;rw[<-hf]at hfi ⊢;have hfb:(f != 0)=true:=by simpa using hfi
   clear hf hkS hfi;go_wp2
   go_ret2;exact dG.long HCH.out (λh=>HK.out (by rw[HBS.out,HSO.out];exact h.2)) (aB.trans _ _ _ zq g7)
 ·have HK:=Aa hkR
  have hfi:(fY (bls BR):Int)≠0:=by omega
  obtain⟨f,hf⟩:∃f:Int,f=fY (bls BR):=⟨_,rfl⟩;rw[<-hf]at hfi ⊢;have hfb:(f != 0)=true:=by simpa using hfi
  clear hf hkR hfi;go_wp2
  go_ret2;exact dG.long HCH.out (λh=>HK.out (by rw[HBR.out,HSO.out];exact h.1)) (aB.trans _ _ _ zq g5)
theorem sV0 (p:List dE) (mv:Value) (m:Option Mx) (l:List En) (pa a:Option Addr) (pc c:Nat) (w:World) (he:Env w) (hp:p.length<=4611686018427387904) (hl:l.length<=140737488355328) (hs:∀x∈l,yB x) (hz:∀x∈l,x.r.size<=1099511627776/\x.s.size<=1099511627776)
  (rm:aG w pa 2 (p.map cX)) (hm:fF1 w mv m) (ac:aG w a 5 (l.map bF)) :
  Calls Tryz.prog 15 #[.slice pa p.length pc,mv,.slice a l.length c] w (dG p m l w):=by
 by_cases hc:xA p m l=0
 ·cases m with
  | none =>
   unfold xA at hc;split at hc<;>cases hc
  | some m =>
   obtain⟨mb,bm,rfl,s8⟩:=hm;exact mG0 p mb bm m l pa a pc c w he hp hs hz (by have:=dX hc;omega) (dX hc).2.2.1 rm s8 ac hc
 ·exact uM0 p mv m l pa a pc c w he hp hl (λx hx=>by have:=hz x hx;omega) rm hm ac hc
theorem qC {p:List dE} {m:Option Mx} {l:List En} (h:makeE p m l=0):xA p m l=0/\fY (bls (readL (sortS l)))=0/\fY (bls (dI (sortS l)))=0:=by
 unfold makeE at h;split at h
 ·rename_i hc
  split at h
  ·rename_i hk;exact⟨hc,hk⟩
  ·cases h
 ·rename_i hc;exact absurd h hc
theorem uO0 {p:List dE} {m:Option Mx} {l:List En} (h:makeE p m l≠0):rH p m l=(makeE p m l,[]):=by
 unfold rH makeE at *;by_cases hc:xA p m l=0
 ·rw[if_pos hc]at h ⊢
  rw[if_pos hc];by_cases hk:fY (bls (readL (sortS l)))=0/\fY (bls (dI (sortS l)))=0
  ·rw[if_pos hk]at h;exact absurd rfl h
  ·rw[if_neg hk]
   cases m with
   | none=>unfold xA at hc;split at hc<;>cases hc
   | some m=>simp only;rw[if_neg hk]
 ·rw[if_neg hc,if_neg hc]
theorem bN0 {p:List dE} {m:Mx} {l:List En} (h:makeE p (some m) l=0) (zw:fO (imgP p m (sortS l))=0):rH p (some m) l=(0,file14 (imgP p m (sortS l))):=by
 obtain⟨h1,h2⟩:=qC h;unfold rH;rw[if_pos h1];simp only;rw[if_pos h2,if_pos zw]
theorem nL1 {p:List dE} {m:Mx} {l:List En} (hm:m.OK) (hl:l.length<=300) (h:makeE p (some m) l=0):fO (imgP p m (sortS l))=0:=by
 obtain⟨h1,h2,h3⟩:=qC h;obtain⟨n1,n2,n3,n4⟩:=dX h1;have hp:=(fA n3).1;have im:=Au (pS0 l) hl
 have key:∀f:En->ByteArray,fY (bls (mY ((sortS l).map f)))=0->eA (bls (mY ((sortS l).map f)))<=76801:=λf h=>by
  have h1:=vQ (eF h).1.len _ (Ah _);have h2:=rL ((sortS l).map f);rw[Ad]at h2;unfold bls at h1 ⊢;rw[Ad]at h1;unfold eA;rw[Ad];omega
 refine jM0 hm n3 (by omega) h2 h3 (key _ h2) (key _ h3) λx hx=>?_
 have:=nV (n4 x (hQ0 hx))
 omega
end
section
open Go Go.RowKit Go.Shelf
structure gT (w:World) (db:Nat) (p:List dE) (m:Mx) (es:List En):Prop where
 p:∃vP,w.cell? ⟨db,0,none⟩=some vP/\aX w 0 73 2 cX vP p
 m:∃mb bm,w.cell? ⟨db,1,none⟩=some (.pointer (some ⟨mb,0,none⟩))/\gR w mb bm m
 r:∃tb,w.cell? ⟨db,2,none⟩=some (.pointer (some ⟨tb,0,none⟩))/\fB w tb (bls (readL es))
 s:∃tb,w.cell? ⟨db,3,none⟩=some (.pointer (some ⟨tb,0,none⟩))/\fB w tb (bls (dI es))
 f:∃pb,w.cell? ⟨db,4,none⟩=some (.pointer (some ⟨pb,0,none⟩))/\nG w pb (iY uE es es.length)
 i:∃pb,w.cell? ⟨db,5,none⟩=some (.pointer (some ⟨pb,0,none⟩))/\nG w pb (es.map (yD (dI es)))
 l:∃pb,w.cell? ⟨db,6,none⟩=some (.pointer (some ⟨pb,0,none⟩))/\nG w pb (es.map λx=>x.l.toNat)
 t:∃pb,w.cell? ⟨db,7,none⟩=some (.pointer (some ⟨pb,0,none⟩))/\nG w pb (es.map λx=>x.t.toNat)
 c:∃pb,w.cell? ⟨db,8,none⟩=some (.pointer (some ⟨pb,0,none⟩))/\nG w pb (es.map λx=>x.c.toNat)
 o:∃pb,w.cell? ⟨db,9,none⟩=some (.pointer (some ⟨pb,0,none⟩))/\nG w pb (nH0 es)
 a:∃pb,w.cell? ⟨db,10,none⟩=some (.pointer (some ⟨pb,0,none⟩))/\nG w pb (iY mN0 (jA es) es.length)
theorem gT.grows {w w':World} {db:Nat} {p:List dE} {m:Mx} {es:List En} (h:gT w db p m es) (hg:aB w w'):gT w' db p m es where
 p:=let ⟨v,h1,h2⟩:=h.p;⟨v,hg.cell h1,h2.grows hg⟩
 m:=let ⟨a,b,h1,h2⟩:=h.m;⟨a,b,hg.cell h1,h2.grows hg⟩
 r:=let ⟨v,h1,h2⟩:=h.r;⟨v,hg.cell h1,h2.grows hg⟩
 s:=let ⟨v,h1,h2⟩:=h.s;⟨v,hg.cell h1,h2.grows hg⟩
 f:=let ⟨v,h1,h2⟩:=h.f;⟨v,hg.cell h1,h2.grows hg⟩
 i:=let ⟨v,h1,h2⟩:=h.i;⟨v,hg.cell h1,h2.grows hg⟩
 l:=let ⟨v,h1,h2⟩:=h.l;⟨v,hg.cell h1,h2.grows hg⟩
 t:=let ⟨v,h1,h2⟩:=h.t;⟨v,hg.cell h1,h2.grows hg⟩
 c:=let ⟨v,h1,h2⟩:=h.c;⟨v,hg.cell h1,h2.grows hg⟩
 o:=let ⟨v,h1,h2⟩:=h.o;⟨v,hg.cell h1,h2.grows hg⟩
 a:=let ⟨v,h1,h2⟩:=h.a;⟨v,hg.cell h1,h2.grows hg⟩
structure cT (p:List dE) (m:Mx) (es:List En):Prop where
 chk:xA p (some m) es=0
 idem:sortS es=es
 rd:fY (bls (readL es))=0
 sf:fY (bls (dI es))=0
theorem cT.srt {p:List dE} {m:Mx} {es:List En} (h:cT p m es):iR es:=by
 have:=(dJ es).1
 rwa [h.idem]at this
theorem cT.len {p:List dE} {m:Mx} {es:List En} (h:cT p m es):es.length<=20000:=(dX h.chk).2.1
theorem cT.num {p:List dE} {m:Mx} {es:List En} (h:cT p m es):∀x∈es,0<=x.l/\x.l<p.length/\0<=x.t/\x.t<p.length/\0<=x.c/\x.c<=30000:=λx hx=>nV ((dX h.chk).2.2.2 x hx)
theorem cT.okR {p:List dE} {m:Mx} {es:List En} (h:cT p m es):OkL (bls (readL es)):=(eF h.rd).1
theorem cT.okS {p:List dE} {m:Mx} {es:List En} (h:cT p m es):OkL (bls (dI es)):=(eF h.sf).1
theorem hH1 {p:List dE} {m:Option Mx} {l l':List En} (hl:l'.length<=l.length) (hm:∀x∈l',x∈l) (h:xA p m l=0):xA p m l'=0:=by
 cases m with
 | none =>
  unfold xA at h ⊢;split at h
  ·cases h
  ·cases h
 | some m =>
  obtain⟨h1,h2,h3,h4⟩:=dX h;unfold xA;rw[if_neg (by simpa using h3)];simp only;rw[if_pos h1,if_neg (by omega)]
  have key:∀ {l:List En},(∀x∈l,jZ x p.length=0)->iW p.length l=0:=λ{l} hk=>by
   induction l with
   | nil=>rfl
   | cons x l ih =>
    unfold iW;rw[if_pos (hk x (by simp))];exact ih λy hy=>hk y (by simp[hy])
  exact key λx hx=>h4 x (hm x hx)
theorem mW0 (l:List En):sortS (sortS l)=sortS l:=by
 refine aN0.unique (l:=sortS l) (dJ _) ⟨(dJ l).1,λy=>⟨λhy=>⟨hy,λz hz hk=>?_⟩,λh=>h.1⟩⟩;exact((dJ l).2 y |>.1 hy).2 z (((dJ l).2 z).1 hz).1 hk
theorem bM0 {p:List dE} {m:Mx} {l:List En} (h:makeE p (some m) l=0):cT p m (sortS l):=by
 obtain⟨h1,h2,h3⟩:=qC h;exact⟨hH1 (pS0 l) (λx hx=>hQ0 hx) h1,mW0 l,h2,h3⟩
theorem cT.make {p:List dE} {m:Mx} {es:List En} (h:cT p m es):makeE p (some m) es=0:=by
 unfold makeE;rw[if_pos h.chk,h.idem,if_pos ⟨h.rd,h.sf⟩]
end
section
open Go Go.RowKit
theorem kJ0 {α:Type} {p q:α->Bool}:∀ {l:List α},(∀x∈l,p x=true->q x=false)->(l.filter λx=>p x||q x).Perm (l.filter p++l.filter q)
 | [],_=>List.Perm.nil
 | x::l,h=>by
  have ih:=kJ0 (l:=l) λy hy=>h y (by simp[hy]);have hx:=h x (by simp)
  cases hp:p x with
  | true =>
   rw[Ai,Ai,Ai,hp,hx hp];simpa using ih
  | false =>
   cases hq:q x with
   | true =>
    rw[Ai,Ai,Ai,hp,hq];simp only[Bool.or_true,if_true,Bool.false_eq_true,if_false];exact(ih.cons x).trans List.perm_middle.symm
   | false =>
    rw[Ai,Ai,Ai,hp,hq];simpa using ih
theorem jD0 (es:List En) (g:En->ByteArray) (s:ByteArray):∀m,m<=s.size+1->((Ag m).flatMap λn=>es.filter λx=>decide (g x=oK0 s n)).Perm (es.filter λx=>lF0 s (g x)&&decide ((g x).size<m))
 | 0,_=>by simp
 | m+1,hm=>by
  rw[List.range_succ,Bs,By,List.flatMap_nil,List.append_nil];have h1:=(jD0 es g s m (by omega)).append_right (es.filter λx=>decide (g x=oK0 s m));refine h1.trans ((kJ0 (l:=es) (p:=λx=>lF0 s (g x)&&decide ((g x).size<m)) (q:=λx=>decide (g x=oK0 s m)) ?_).symm.trans ?_)
  ·intro x _ hx
   simp only[Ax,decide_eq_true_eq]at hx;rw[decide_eq_false_iff_not,rQ0 (by omega)];omega
  ·refine List.Perm.of_eq (An λx _=>?_)
   rw[Az];simp only[Bool.or_eq_true,Ax,decide_eq_true_eq,rQ0 (show m<=s.size by omega)]
   constructor
   ·rintro(⟨a,b⟩|⟨a,b⟩)
    ·exact⟨a,by omega⟩
    ·exact⟨a,by omega⟩
   ·rintro⟨a,b⟩
    rcases Be (g x).size m with c|c
    ·exact Or.inl ⟨a,c⟩
    ·exact Or.inr ⟨a,by omega⟩
theorem fK1 (es:List En) (g:En->ByteArray) (s:ByteArray) (h:∀x∈es,(g x).size<=256):((Ag (min s.size 256+1)).flatMap λn=>es.filter λx=>decide (g x=oK0 s n)).Perm (es.filter λx=>lF0 s (g x)):=by
 refine(jD0 es g s (min s.size 256+1) (by omega)).trans (List.Perm.of_eq (An λx hx=>?_));rw[Az];simp only[Ax,decide_eq_true_eq];constructor
 ·exact λh=>h.1
 ·intro hb
  have:=lE1 hb
  have:=h x hx
  exact⟨hb,by omega⟩
theorem cT.len_r {p:List dE} {m:Mx} {es:List En} (h:cT p m es):∀x∈es,x.r.size<=256:=λx hx=>by
 obtain⟨j,hj⟩:=List.mem_iff_getElem?.1 (oY hx)
 have:=h.okR.len _ (Ae (vR hj))
 rwa [dO]at this
theorem cT.len_s {p:List dE} {m:Mx} {es:List En} (h:cT p m es):∀x∈es,x.s.size<=256:=λx hx=>by
 obtain⟨j,hj⟩:=List.mem_iff_getElem?.1 (nR hx)
 have:=h.okS.len _ (Ae (vR hj))
 rwa [dO]at this
theorem cT.pref_perm {p:List dE} {m:Mx} {es:List En} (h:cT p m es) (s:ByteArray):(lO0 es s).Perm (es.filter λx=>lF0 s x.r):=fK1 es (·.r) s h.len_r
theorem aW1 (C:List (List UInt8)) (i n:Nat):((rS C).drop i).take n=rS ((C.drop i).take n):=by
 unfold rS;rw[List.map_take,Ci]
theorem vH {C:List (List UInt8)} (hC:fJ C) (i j:Nat):runesBytes ((((rS C).drop i).take (j-i)).map λn:Nat=>(n:Int))=ptC C i j:=by
 rw[aW1,yF ((hC.drop i).take _)];rfl
theorem pB1 (C:List (List UInt8)) (i:Nat):kA1 (rS C) i=cN1 C i:=by
 unfold kA1 cN1 rS;rw[<-Ci,List.takeWhile_map,Ad];rfl
theorem pF1 (C:List (List UInt8)) (i:Nat):((rS C)[i]?.map xG).getD false=yR C i:=by
 unfold yR rS;rw[Aj,Option.map_map];rfl
theorem lM1 (C:List (List UInt8)) (pl:Int) (i:Nat):(tF0 (rS C) i).map (λx=>xE0 C pl i x.1 x.2)=wQ0 C pl i:=by
 unfold tF0 wQ0;rw[pB1,pF1,Ay];congr 1
 split<;>rfl
theorem xW {n:Int} (h1 : -9223372036854775808<=n) (h2:n<=9223372036854775807):WfI n:=by
 unfold WfI;exact WalkArith.wf_i64 (by omega)
theorem oM0 {f t l r c q:Int} {s:ByteArray} (hs:s.size<=1048576) (hf:0<=f/\f<=4611686018427387904) (ht:0<=t/\t<=4611686018427387904) (hl:0<=l/\l<=4611686018427387904) (hr:0<=r/\r<=4611686018427387904) (hc : -4611686018427387904<=c/\c<=4611686018427387904) (hq:0<=q/\q<=3):gP0 ⟨f,t,s,l,r,c,q⟩ :=
 ⟨xW (n:=f) (by omega) (by omega),xW (n:=t) (by omega) (by omega),by show s.size<=_;unfold maxLen;omega,xW (n:=l) (by omega) (by omega),xW (n:=r) (by omega) (by omega),xW (n:=c) (by omega) (by omega),xW (n:=q) (by omega) (by omega)⟩
theorem qF0 {n:Int} (h : -4611686018427387904<=n/\n<=4611686018427387904):IntKind.i64.wrap n=n:=by simp[Ba,At,Ao]; omega
theorem lJ1 {x:Nd} (h:0<=x.c):wU0 x=x:=by
 obtain⟨f,t,s,l,r,c,k⟩:=x;unfold wU0;simp only at h ⊢;rw[show max c 0=c by omega]
theorem fC1 (ls:List Lrn) (i j:Nat) (x:En):wU0 ⟨i,j,x.s,x.l,x.t,x.c-eK ls x.r x.s,1⟩=jX ls i j x:=by
 unfold wU0 jX;simp only;rw[Co]
theorem bO1 (ls:List Lrn) (pl:Int) (i j:Nat) (r s:ByteArray):wU0 ⟨i,j,s,pl,pl,8000-eK ls r s,2⟩=nD ls pl i j r s:=by
 unfold wU0 nD;simp only;rw[Co]
theorem aV1 (es:List En) (r s:ByteArray):((iI es r).any λx=>decide (x.s=s))=kI1 es r s:=by
 unfold iI kI1;rw[List.any_filter];congr 1
 funext x
 simp[Bool.decide_and]
theorem jE {s:ByteArray} (h:Bw (bl s)=true):countS s=((bD (bl s)).length:Nat):=by
 unfold countS;rw[if_pos (show Bw s.data.toList=true from h),rV]
 rfl
theorem tS0 {p:List dE} {m:Mx} {es:List En} (h:cT p m es) (s:ByteArray):(lO0 es s).length<=20000:=by
 have h1:=(h.pref_perm s).length_eq;have h2:(es.filter λx=>lF0 s x.r).length<=es.length:=Bi _ _;have h3:=h.len;omega
theorem iL.kept {w w':World} {fb mb N b:Nat} {O:Nd->Prop} {V:List Nd} (h:iL w fb mb N O V) (hg:w.grownBy w' (some b)) (h1:fb≠b) (h2:mb≠b):iL w' fb mb N O V:=⟨hg.cell h.box (λe=>h1 (Option.some.inj e)),let ⟨D,k1,k2⟩:=h.own; ⟨D,k1.kept hg (λe=>h2 (Option.some.inj e)),k2⟩,h.bst⟩
theorem iL.mono {w:World} {fb mb N N':Nat} {O:Nd->Prop} {V:List Nd} (h:iL w fb mb N O V) (hn:N<=N'):iL w fb mb N' O V:=⟨h.box,let ⟨D,h1,h2⟩:=h.own; ⟨D,h1.mono hn,h2⟩,h.bst⟩
theorem rV0 {A B:List (List UInt8)} (h:A.Sublist B):A.flatten.length<=B.flatten.length:=by
 induction h with
 | slnil=>exact Ah _
 | cons a _ ih =>
  rw[Ar,Af];omega
 | cons_cons a _ ih =>
  rw[Ar,Ar,Af,Af];omega
theorem aS1 (C:List (List UInt8)) (i j:Nat):(ptC C i j).size<=C.flatten.length:=by
 rw[<-dO,bH0];exact rV0 ((List.take_sublist _ _).trans (List.drop_sublist _ _))
theorem Bests.permd {O:Nd->Prop} {L L':List Nd} (h:Bests O L) (hp:L'.Perm L):Bests O L':=⟨λx hx=>h.sub x (hp.mem_iff.1 hx),λy hy=>let ⟨z,hz,k⟩:=h.cov y hy; ⟨z,hp.mem_iff.2 hz,k⟩,h.one.perm hp.symm λ{_a _b} hn e=>hn e.symm⟩
theorem hE1 (s p:ByteArray):Lib.hasPrefix s.data.toList p.data.toList=lF0 s p:=rfl
def okL (C:List (List UInt8)) (es:List En) (i:Nat) (r s:ByteArray):Prop:=r.size≠0/\lF0 (ptC C i C.length) r=true/\Bw (bl r)=true/\surfaceS s=true/\kI1 es r s=false
def eJ0 (C:List (List UInt8)) (es:List En) (ls:List Lrn) (pl:Int) (i:Nat) (vis:ByteArray->ByteArray->Prop) (y:Nd):Prop:=∃r s,vis r s/\okL C es i r s/\y=nD ls pl i (i+(bD (bl r)).length) r s
theorem fX1 {p:List dE} {m:Mx} {es:List En} (h:cT p m es) (C:List (List UInt8)) (ls:List Lrn) (pl:Int) (i:Nat) (y:Nd) :
  sO0 C es ls pl i y↔((y∈(lO0 es (ptC C i C.length)).map (λe=>jX ls i (i+(bD (bl e.r)).length) e))\/eJ0 C es ls pl i (λr s=>∃x∈ls,x.r=r/\x.s=s) y)\/y∈wQ0 C pl i:=by
 unfold sO0 eJ0 okL;rw[or_assoc];refine or_congr ?_ (or_congr ?_ Iff.rfl)
 ·rw[Cn]
  constructor
  ·rintro⟨e,he,hb,rfl⟩
   exact⟨e,(h.pref_perm _).mem_iff.2 (List.mem_filter.2 ⟨he,hb⟩),rfl⟩
  ·rintro⟨e,he,rfl⟩
   obtain⟨h1,h2⟩:=List.mem_filter.1 ((h.pref_perm _).mem_iff.1 he);exact⟨e,h1,h2,rfl⟩
 ·constructor
  ·rintro⟨x,hx,h1,h2,h3,h4,h5,rfl⟩
   exact⟨x.r,x.s,⟨x,hx,rfl,rfl⟩,⟨h1,h2,h3,h4,h5⟩,rfl⟩
  ·rintro⟨r,s,⟨x,hx,rfl,rfl⟩,⟨h1,h2,h3,h4,h5⟩,rfl⟩
   exact⟨x,hx,h1,h2,h3,h4,h5,rfl⟩
def cH0 (C:List (List UInt8)) (es:List En) (ls:List Lrn) (pl:Int) (k:Nat) (y:Nd):Prop:=∃i,i<k/\sO0 C es ls pl i y
theorem bT1 (C:List (List UInt8)) (es:List En) (ls:List Lrn) (pl:Int) (k:Nat) (y:Nd):cH0 C es ls pl (k+1) y↔cH0 C es ls pl k y\/sO0 C es ls pl k y:=by
 unfold cH0;constructor
 ·rintro⟨i,hi,h⟩
  by_cases e:i=k
  ·exact Or.inr (e▸h)
  ·exact Or.inl ⟨i,by omega,h⟩
 ·rintro(⟨i,hi,h⟩|h)
  ·exact⟨i,by omega,h⟩
  ·exact⟨k,by omega,h⟩
theorem eV0 {x:En} {n:Int} (h:jZ x n=0):readingS x.r=true/\surfaceS x.s=true:=by
 unfold jZ xT at h;split at h
 ·rename_i hc
  simpa using hc
 ·omega
theorem kG0 {p:List dE} {m:Mx} {es:List En} (h:cT p m es):∀e∈es,Bw (bl e.r)=true/\e.r.size≠0:=λe he=>by
 have h1:=(eV0 ((dX h.chk).2.2.2 e he)).1;rw[vW0]at h1;simp only[Ax,decide_eq_true_eq]at h1;refine⟨h1.1.1.1,λh0=>?_⟩;have h2:=h1.1.1.2
 have:=jH (bl e.r)
 rw[dO]at this;have h3:1<=(bD (bl e.r)).length:=h2;omega
theorem cX0 {C:List (List UInt8)} (hC:fJ C) {p:List dE} {m:Mx} {es:List En} (h:cT p m es) (ls:List Lrn) (pl:Int):iN (cH0 C es ls pl C.length) (fP C es ls pl) :=
 (lA C es ls pl).congr λy=>by
  unfold cH0;refine exists_congr λi=>and_congr_right λ_=>?_;exact(eQ1 hC (kG0 h) ls pl i y).symm
theorem aG1 {C:List (List UInt8)} (hC:fJ C) {p:List dE} {m:Mx} {es:List En} (h:cT p m es) (ls:List Lrn) (pl:Int) {k:Nat} (hk:k<=C.length) {V:List Nd} (hV:Bests (cH0 C es ls pl k) V):V.length<=(fP C es ls pl).length :=
 (cX0 hC h ls pl).toBests.len (λx hx=>let ⟨i,hi,ho⟩:=hV.sub x hx;⟨i,by omega,ho⟩) hV.one
def wH0 (ls:List Lrn) (left:Lit->Bool) (r s:ByteArray):Prop:=r.size<=maxLen/\s.size<=maxLen/\(∃x∈ls,x.r=r/\x.s=s)/\left (klW r s)=false
theorem tJ0 {H:Type} {ls:List Lrn} {D:DataW H} (h:nV1 ls D) (r s:ByteArray):¬wH0 ls (Maps.has D) r s:=λ⟨h1,h2,h3,h4⟩=>by
 rw[(h.has r s h1 h2).2 h3]at h4;cases h4
theorem jA1 {ls:List Lrn} (ag:∀x∈ls,vG x) {left:Lit->Bool} (h:∀z,left z=false) (r s:ByteArray):wH0 ls left r s↔∃x∈ls,x.r=r/\x.s=s :=
 ⟨λh=>h.2.2.1,λ⟨x,hx,e1,e2⟩=>⟨e1▸(ag x hx).r,e2▸(ag x hx).s,⟨x,hx,e1,e2⟩,h _⟩⟩
theorem mS {ls:List Lrn} {left:Lit->Bool} {r s:ByteArray} (h1:r.size<=maxLen) (h2:s.size<=maxLen) (hx:∃x∈ls,x.r=r/\x.s=s) (r' s':ByteArray):wH0 ls (λz=>left z && !z.sameKey (klW r s)) r' s'↔wH0 ls left r' s'\/(r'=r/\s'=s):=by
 unfold wH0;constructor
 ·rintro⟨k1,k2,k3,k4⟩
  by_cases e:klW r' s'=klW r s
  ·exact Or.inr (pD0 k1 k2 h1 h2 e)
  ·have k5:(left (klW r' s') && !(klW r' s').sameKey (klW r s))=false:=k4
   rw[Maps.sameKey_ne e]at k5;exact Or.inl ⟨k1,k2,k3,by simpa using k5⟩
 ·rintro(⟨k1,k2,k3,k4⟩|⟨rfl,rfl⟩)
  ·exact⟨k1,k2,k3,by show (left (klW r' s')&&_)=false;rw[k4];rfl⟩
  ·exact⟨h1,h2,hx,by show (left (klW r' s') && !(klW r' s').sameKey (klW r' s'))=false;rw[eV1];simp⟩
theorem qA {C:List (List UInt8)} {es:List En} {ls:List Lrn} {pl:Int} {i:Nat} {vis zy:ByteArray->ByteArray->Prop} {r s:ByteArray} (h:∀r' s',zy r' s'↔vis r' s'\/(r'=r/\s'=s)) (hn:¬okL C es i r s) (y:Nd):eJ0 C es ls pl i vis y↔eJ0 C es ls pl i zy y:=by
 unfold eJ0;constructor
 ·rintro⟨r',s',h1,h2,h3⟩
  exact⟨r',s',(h r' s').2 (Or.inl h1),h2,h3⟩
 ·rintro⟨r',s',h1,h2,h3⟩
  rcases (h r' s').1 h1 with h1|⟨rfl,rfl⟩
  ·exact⟨r',s',h1,h2,h3⟩
  ·exact absurd h2 hn
theorem bX1 {C:List (List UInt8)} {es:List En} {ls:List Lrn} {pl:Int} {i:Nat} {vis zy:ByteArray->ByteArray->Prop} {r s:ByteArray} (h:∀r' s',zy r' s'↔vis r' s'\/(r'=r/\s'=s)) (hn:okL C es i r s) (y:Nd):(eJ0 C es ls pl i vis y\/y=nD ls pl i (i+(bD (bl r)).length) r s)↔eJ0 C es ls pl i zy y:=by
 unfold eJ0;constructor
 ·rintro(⟨r',s',h1,h2,h3⟩|rfl)
  ·exact⟨r',s',(h r' s').2 (Or.inl h1),h2,h3⟩
  ·exact⟨r,s,(h r s).2 (Or.inr ⟨rfl,rfl⟩),hn,rfl⟩
 ·rintro⟨r',s',h1,h2,h3⟩
  rcases (h r' s').1 h1 with h1|⟨rfl,rfl⟩
  ·exact Or.inl ⟨r',s',h1,h2,h3⟩
  ·exact Or.inr h3
end
section
open Go Go.RowKit Go.Shelf
attribute [local go_sem] aO aM
theorem nN (l:List Nat) (pb i x:Nat) (w:World) (hl:l.length<=1048576) (hn:∀n∈l,n<=1073741824) (hx:l[i]?=some x) (ac:nG w pb l) :
  Calls Tryz.prog 223 #[.pointer (some ⟨pb,0,none⟩),.int .i64 i] w λe w'=>e=.returned (.int .i64 (x:Nat))/\aB w w':=by
 have CG:=Aa (sH l pb i x w ac hl (λn h=>by have:=hn n h;omega) hx);have ako:=hn x (Ae hx);have akp:min (x:Int) 1073741824=x:=by omega
 have wx:IntKind.i64.wrap (x:Int)=x:=by simp[Ba,At,Ao];omega
 clear ac hn hx;go_enter Tryz.func223,Tryz.ntmps223
 go_wp2_with fail
 refine CG.out.mono ?_;rintro e w1 ⟨rfl,an⟩;go_wp2_with fail
 go_ret;exact⟨rfl,an⟩
theorem cT.first {p:List dE} {m:Mx} {es:List En} (h:cT p m es):iY uE es es.length=sD0 (sF (readL es) es) es.length (readL es).length:=mH0 h.srt
theorem cT.key {p:List dE} {m:Mx} {es:List En} (h:cT p m es) {i:Nat} (hi:i<es.length):(Ag (iY uE es es.length).length).countP (λs => !decide (i+1<=(iY uE es es.length).getD s 0))=dX1 (readL es) (es.getD i enZero)+1:=by
 have e:=h.first
 rw[e,kE,fG1 (λj hj=>gO0 hj) hi,bW0 h.srt,Ac,Am hi];rfl
theorem pV0 {nw:En->En->Bool} {l:List En} {k:Nat}:(iY nw l k).Pairwise (· < ·):=List.Pairwise.filter _ List.pairwise_lt_range
theorem xB0 {nw:En->En->Bool} {l:List En} {k n a c:Nat} (hac:a<=c) (hc:c<(iY nw l k).length) (h:n<=(iY nw l k).getD a 0):n<=(iY nw l k).getD c 0:=by
 rcases Be a c with q|q
 ·have:=List.pairwise_iff_getElem.1 (pV0 (nw:=nw) (l:=l) (k:=k)) a c (by omega) hc q
  rw[Ac,Ab hc];rw[Ac,Ab (by omega)]at h;simp only[Cb]at h ⊢;omega
 ·rw[show c=a by omega]
  exact h
def En.val (x:En):Value := .agg #[.string x.r,.string x.s,.int .i64 x.l,.int .i64 x.t,.int .i64 x.c]
theorem pG1 {R:List ByteArray} {j:Nat} {s:ByteArray} (h:R[j]?=some s):mkB (nth (bls R) j)=s:=by
 rw[eE0 (vR h)];exact pK s
theorem tM0 (p:List dE) (m:Mx) (es:List En) (db i:Nat) (x:En) (w:World) (ag:cT p m es) (ac:gT w db p m es) (hx:es[i]?=some x) :
  Calls Tryz.prog 163 #[.pointer (some ⟨db,0,none⟩),.int .i64 i] w λe w'=>e=.returned x.val/\aB w w':=by
 have up:=(List.getElem?_eq_some_iff.1 hx).1;have hn:=ag.len;have hxm:=Ae hx;have hxg:es.getD i enZero=x:=by rw[Ac,hx];rfl
 obtain⟨okR,lR,cR⟩:=eF ag.rd;obtain⟨okS,lS,cS⟩:=eF ag.sf;have ff:=ag.num;have agk:=(fA (dX ag.chk).2.2.1).1;obtain⟨tr,r1,r2⟩:=ac.r;obtain⟨ts,s1,s2⟩:=ac.s;obtain⟨pf,f1,f2⟩:=ac.f;obtain⟨pi,i1,i2⟩:=ac.i;obtain⟨pl,l1,l2⟩:=ac.l;obtain⟨pt,t1,t2⟩:=ac.t;obtain⟨pc,c1,c2⟩:=ac.c;obtain⟨R,hR⟩:=exq (dX1 (readL es) x);obtain⟨S,hS⟩:=exq (yD (dI es) x);have hRg:=nL (oY hxm);have hSg:=oG (nR hxm);rw[<-hR]at hRg;rw[<-hS]at hSg;have hRl:=(List.getElem?_eq_some_iff.1 hRg).1;have hSl:=(List.getElem?_eq_some_iff.1 hSg).1;have hRn:(readL es).length<=20000:=by rw[dT]at lR;exact lR
 have hSn:(dI es).length<=20000:=by rw[dT]at lS;exact lS
 have CF:∀u,aB w u->Hid (Calls Tryz.prog 222 #[.pointer (some ⟨pf,0,none⟩),.int .u64 (i+1:Nat)] u λe w'=>e=.returned (.int .i64 (R+1:Nat))/\aB u w'):=λu hu=>by
  have h:=vP0 (iY uE es es.length) pf (i+1) u (by have:=ag.first;rw[this,kE];omega) (λn h=>by have:=lJ h;omega) (λa c hac hc h=>xB0 hac hc h) (f2.grows hu)
  rw[ag.key up,hxg,<-hR]at h;exact h
 have CTR:∀u,aB w u->Hid (Calls Tryz.prog 55 #[.pointer (some ⟨tr,0,none⟩),.int .i64 R] u λe w'=>e=.returned (.tuple #[.string x.r,.bool true])/\aB u w'):=λu hu=>by
  have h:=fA0 (bls (readL es)) tr R u okR lR cR (by rw[dT];exact hRl) (r2.grows hu);rw[pG1 hRg]at h;exact h
 have CTS:∀u,aB w u->Hid (Calls Tryz.prog 55 #[.pointer (some ⟨ts,0,none⟩),.int .i64 S] u λe w'=>e=.returned (.tuple #[.string x.s,.bool true])/\aB u w'):=λu hu=>by
  have h:=fA0 (bls (dI es)) ts S u okS lS cS (by rw[dT];exact hSl) (s2.grows hu);rw[pG1 hSg]at h;exact h
 have CNS:∀u,aB w u->Hid (Calls Tryz.prog 223 #[.pointer (some ⟨pi,0,none⟩),.int .i64 i] u λe w'=>e=.returned (.int .i64 (S:Nat))/\aB u w'):=λu hu =>
  nN (es.map (yD (dI es))) pi i S u (by rw[Ad];omega) (λn h=>by
   obtain⟨y,hy,rfl⟩:=List.mem_map.1 h
   have:=rO (nR hy)
   omega) (by rw[Aj,hx,hS];rfl) (i2.grows hu)
 have CNN:∀(f:En->Int) (pb:Nat),(∀y∈es,0<=f y/\f y<=1073741824)->nG w pb (es.map λy=>(f y).toNat)->∀u,aB w u->Hid (Calls Tryz.prog 223 #[.pointer (some ⟨pb,0,none⟩),.int .i64 i] u λe w'=>e=.returned (.int .i64 (f x))/\aB u w'):=λf pb hf hpk u hu=>by
  have h:=nN (es.map λy=>(f y).toNat) pb i (f x).toNat u (by rw[Ad];omega) (λn h=>by
   obtain⟨y,hy,rfl⟩:=List.mem_map.1 h
   have:=hf y hy
   omega) (by rw[Aj,hx];rfl) (hpk.grows hu)
  rw[Ap (hf x hxm).1]at h;exact h
 have CNL:=CNN (λy=>y.l) pl (λy hy=>by have:=ff y hy;omega) l2;have CNT:=CNN (λy=>y.t) pt (λy hy=>by have:=ff y hy;omega) t2;have CNC:=CNN (λy=>y.c) pc (λy hy=>by have:=ff y hy;omega) c2;obtain⟨xr,xs,xl,xt,xc⟩:=x;simp only at CTR CTS CNL CNT CNC;obtain⟨i9,hi9⟩:=exq (i+1);rw[<-hi9]at CF;obtain⟨R1,hR1⟩:=exq (R+1);rw[<-hR1]at CF;have wu:IntKind.u64.wrap (i:Int)=i:=by simp[Ba,At,Ao];omega
 have wi:IntKind.u64.wrap ((i:Int)+1)=i9:=by simp[Ba,At,Ao];omega
 have wR:IntKind.i64.wrap ((R1:Int)-1)=R:=by simp[Ba,At,Ao];omega
 obtain⟨W0,cq⟩:=exq (w.alloc (.cells #[.string ⟨#[]⟩,.string ⟨#[]⟩,.int .i64 0,.int .i64 0,.int .i64 0] 30));have dh:aB w W0:=by rw[cq];exact aB.alloc _ _
 have vl:TB W0 w.heap.size #[.string ⟨#[]⟩,.string ⟨#[]⟩,.int .i64 0,.int .i64 0,.int .i64 0] 30:=by rw[cq];exact TB.alloc _ _ _
 clear ac r2 s2 f2 i2 l2 t2 c2 hx hxm hxg hRg hSg ag okR okS lR lS cR cS ff agk hR hS CNN hi9 hR1 hRl hSl;have f1a:=dh.cell f1;rw[cq]at f1a;go_enter Tryz.func163,Tryz.ntmps163
 go_wp2_with fail
 rw[<-cq];clear cq f1a;refine(CF W0 dh).out.mono ?_;rintro e w1 ⟨rfl,an⟩;have g1:=dh.tr an;have T1:=vl.gr an;have r1a:=g1.cell r1;clear CF vl dh an;go_wp2_with fail
 refine(CTR w1 g1).out.mono ?_;rintro e w2 ⟨rfl,af⟩;have g2:=g1.tr af;have T2:=T1.gr af;have z0:∀y:Ext aB w2.drew,y.u.cell? ⟨db,3,none⟩=some (.pointer (some ⟨ts,0,none⟩)):=aF (g2.dr.cell s1);have z1:∀y:Ext aB w2.drew,y.u.cell? ⟨db,5,none⟩=some (.pointer (some ⟨pi,0,none⟩)):=aF (g2.dr.cell i1);clear CTR T1 r1a g1 af;go_wp2_with fail
 refine bK (bB 16 [9,10]) (by kernel_rfl) (λd _ _ _ _ h=>by cases d<;>exact h) ?_
 iterate 9 (refine aH rfl (λK hK=>?_);go_simp;refine hK _ ?_;clear hK K)
 clear z0 z1;refine bH rfl rfl (λK hK=>?_);go_simp;refine((CNS w2.drew g2.dr).out).mono ?_;rintro e w3 ⟨rfl,ax⟩;refine⟨ax,hK _ _ ?_⟩;clear hK K;refine bH rfl rfl (λK hK=>?_);go_simp;refine((CTS w3 (g2.dr.tr ax)).out).mono ?_;rintro e w4 ⟨rfl,ch⟩;refine⟨ch,hK _ _ ?_⟩;clear hK K;iterate 5 (refine aH rfl (λK hK=>?_);go_simp;refine hK _ ?_;clear hK K)
 refine cB ?_;have g4:=(g2.dr.tr ax).tr ch;have T4:=((T2.gr (aB.drew w2)).gr ax).gr ch;have z0:∀y:Ext aB w4.drew,y.u.cell? ⟨db,6,none⟩=some (.pointer (some ⟨pl,0,none⟩)):=aF (g4.dr.cell l1);have z1:∀y:Ext aB w4.drew,y.u.cell? ⟨db,7,none⟩=some (.pointer (some ⟨pt,0,none⟩)):=aF (g4.dr.cell t1);have z2:∀y:Ext aB w4.drew,y.u.cell? ⟨db,8,none⟩=some (.pointer (some ⟨pc,0,none⟩)):=aF (g4.dr.cell c1);clear CNS CTS T2 g2 ax ch;go_wp2_with fail
 refine lC 20 (oK [0,1,2,3,4,5,6,8,9,10,11,12,14,15,16,17,18,7,13,19] [7,13,19]) (by kernel_rfl) (λd _ _ _ _ h=>by cases d<;>exact h) ?_
 iterate 17 (refine aH rfl (λK hK=>?_);go_simp;refine hK _ ?_;clear hK K)
 clear z0 z1 z2;refine bH rfl rfl (λK hK=>?_);go_simp;refine((CNL w4.drew g4.dr).out).mono ?_;rintro e w5 ⟨rfl,bv⟩;refine⟨bv,hK _ _ ?_⟩;clear hK K;refine bH rfl rfl (λK hK=>?_);go_simp;refine((CNT w5 (g4.dr.tr bv)).out).mono ?_;rintro e w6 ⟨rfl,dl⟩;refine⟨dl,hK _ _ ?_⟩;clear hK K;refine bH rfl rfl (λK hK=>?_);go_simp;refine((CNC w6 ((g4.dr.tr bv).tr dl)).out).mono ?_;rintro e w7 ⟨rfl,cw⟩;refine⟨cw,hK _ _ ?_⟩;clear hK K;refine cB ?_;have g7:=((g4.dr.tr bv).tr dl).tr cw;have T7:=(((T4.gr (aB.drew w4)).gr bv).gr dl).gr cw;have e0:=T7.cell (o:=0) rfl;have e1:=T7.cell (o:=1) rfl;have e2:=T7.cell (o:=2) rfl;have e3:=T7.cell (o:=3) rfl;have e4:=T7.cell (o:=4) rfl;have f0:=T7.froz 0;have f1':=T7.froz 1;have f2':=T7.froz 2;have f3:=T7.froz 3;have f4:=T7.froz 4;simp only[Bt,Ch];clear CNL CNT CNC T4 g4 bv dl cw;go_wp2_with fail
 have T8:=((((T7.set 0 (.string xr)).set 1 (.string xs)).set 2 (.int .i64 xl)).set 3 (.int .i64 xt)).set 4 (.int .i64 xc);have b0:=T8.cell (o:=0) rfl;have b1:=T8.cell (o:=1) rfl;have b2:=T8.cell (o:=2) rfl;have b3:=T8.cell (o:=3) rfl;have b4:=T8.cell (o:=4) rfl;refine bodyPost_ret (v:=.agg #[.string xr,.string xs,.int .i64 xl,.int .i64 xt,.int .i64 xc]) (by simp[results,Tryz.results163,go_sem,b0,b1,b2,b3,b4]) rfl ⟨rfl,?_⟩
 exact((((g7.set (Ah _) _).set (Ah _) _).set (Ah _) _).set (Ah _) _).set (Ah _) _
end
section
open Go Go.RowKit Go.Shelf
attribute [local go_sem] aO aM Oper.semAt_some
abbrev eR1 (n:Nat):={ j:Nat // j<n }
theorem oN0 {a k:Nat} (h:a<=k):Al a (k+1-a)=Al a (k-a)++[k]:=by
 rw[show k+1-a=(k-a)+1 by omega,<-Bn (s:=a) (m:=k-a) (n:=1)]
 simp[show a+(k-a)=k by omega]
theorem kW1 (F:Fence) (n:Nat) (hF:F.fn 224) (uk:F.round=none) (hn:1<=n) (l N a b b1 b2:Nat) (gp:a<=b) (hbN:b<=N) (hN:N<=1048576) (S:Nat->Prop) (h2:S b2) (J Jx:List (eR1 N)->World->Prop)
  (hY:∀pre x W,J pre W->pre.length<b-a->YieldAt F (n-1) Tryz.prog l #[.int .i64 (x.1:Nat)] W λe W' =>
   (e=.returned (.bool true)/\J (pre++[x]) W'/\cJ S W W')\/(e=.returned (.bool false)/\Jx (pre++[x]) W'))
  (W:World) (c1:W.cell? ⟨b1,0,none⟩=some (.int .i64 a)) (c2:W.cell? ⟨b2,0,none⟩=some (.int .i64 b)) (h0:J [] W) :
  CallsIn F n Tryz.prog 224 #[.func (.yield l) #[] #[],.pointer (some ⟨b1,0,none⟩),.pointer (some ⟨b2,0,none⟩)] W λe W'=>(∃v,e=.returned v) /\
   ((∃xs:List (eR1 N),xs.map (·.1)=Al a (b-a)/\J xs W')\/(∃pre:List (eR1 N),True/\Jx pre W')):=by
 refine callsIn_of_wp Tryz.func224 rfl hF ?_ uk;simp only[Tryz.ntmps224,Bz,Av,Cg,Cj,Ck,Bq,Br,Ca,Bu,Bg,Cd];gi_wp2
 gi_loopw [4] (λi wr=>∃(k:Nat) (pre:List (eR1 N)),i=.int .i64 k/\a<=k/\k<=b/\pre.map (·.1)=Al a (k-a)/\J pre wr/\cJ S W wr) (λi _=>b-(intOf i).toNat)
 case atStart=>exact⟨a,[],rfl,Ah _,gp,by simp,h0,cJ.refl _ _⟩
 case round =>
  obtain⟨k,pre,rfl,hak,hkb,hp,hJ,hK⟩:=hrel;have c2r:=hK.cell h2 c2;by_cases ae:k<b
  ·have dp:(k:Int)<b:=by omega
   have nc:pre.length=k-a:=by
    have:=congrArg List.length hp
    simpa using this
   obtain⟨fn,tmps,assign,body,hy,hR⟩:=hY pre ⟨k,by omega⟩ wr hJ (by omega);dsimp only at hy
   have hp2:(pre++[(⟨k,by omega⟩:eR1 N)]).map (·.1)=Al a (k+1-a):=by
    rw[Bh,hp,oN0 hak];rfl
   clear hp hJ;gi_wp2
   refine hR.mono ?_;rintro e W3 (⟨rfl,o8,il⟩|⟨rfl,gq⟩)
   ·gi_wp2
    go_roundw
    case rel=>exact⟨k+1,_,by go_num,by omega,ae,hp2,o8,hK.tr il⟩
    case measure=>simp[intOf];omega
   ·gi_wp2
    go_end0;exact⟨⟨_,rfl⟩,.inr ⟨_,trivial,gq⟩⟩
  ·have dp:¬(k:Int)<b:=by omega
   obtain rfl:k=b:=by omega
   gi_wp2
   refine⟨λf h=>(by cases h),?_⟩;gi_wp2
   go_end0;exact⟨⟨_,rfl⟩,.inl ⟨pre,hp,hJ⟩⟩
theorem tG0 (n N a b b1 b2:Nat) (hn:1<=n) (gp:a<=b) (hbN:b<=N) (hN:N<=1048576) (S:Nat->Prop) (h1:S b1) (h2:S b2) (w:World) (ae:∀b,S b->b<w.heap.size) (c1:w.cell? ⟨b1,0,none⟩=some (.int .i64 a)) (c2:w.cell? ⟨b2,0,none⟩=some (.int .i64 b)) :
  SeqStopsK Fence.wide n Tryz.prog 224 #[.pointer (some ⟨b1,0,none⟩),.pointer (some ⟨b2,0,none⟩)] (λx:eR1 N => #[.int .i64 (x.1:Nat)]) (cJ S) (λys=>ys.map (·.1)=Al a (b-a)) (λ_=>True) (b-a) w:=by
 intro l J Jx W hW hJ _ hY h0;have hK0:cJ S w W:=cJ.of_below hW ae;exact kW1 Fence.wide n trivial rfl hn l N a b b1 b2 gp hbN hN S h2 J Jx hY W (hK0.cell h1 c1) (hK0.cell h2 c2) h0
theorem qS0 (a b:Int) (w:World) :
  Calls Tryz.prog 164 #[.int .i64 a,.int .i64 b] w λe w'=>e=.returned (.func (.func 224) #[] #[.pointer (some ⟨w.heap.size,0,none⟩),.pointer (some ⟨w.heap.size+1,0,none⟩)]) /\
   w'=(w.alloc (.cells #[.int .i64 a] 3)).alloc (.cells #[.int .i64 b] 3):=by
 have un:∀(fn:Fn) (first cap:Array Value) (w:World),(Instr.makeFunc fn first cap).run Tryz.prog w=.ok (.func fn first cap) w:=λ_ _ _ _=>rfl
 go_enter Tryz.func164,Tryz.ntmps164
 go_wp2_with fail
 go_ret;exact⟨rfl,rfl⟩
structure oQ1 (w:World) (db:Nat) (es:List En) (s:Nat) (pre:List Nat) (v:Value) (W:World):Prop where
 bd:TB W s #[.pointer (some ⟨db,0,none⟩)] 31
 bl:TB W (s+1) #[v] 24
 own:aX W s 30 5 bF v (pre.map λj=>es.getD j enZero)
 gr:aB w W
 s0:s=w.heap.size
 sz:s+2<=W.heap.size
theorem oQ1.other {w W W':World} {db s:Nat} {es:List En} {pre:List Nat} {v:Value} (h:oQ1 w db es s pre v W) {row:Option Nat} (hg:W.grownBy W' row) (hr:RT W row none) (hs:∀q,row=some q->s<=q):oQ1 w db es s pre v W' :=
 ⟨h.bd.keep hg hr (by simp),h.bl.keep hg hr (by simp),aQ h.own hg hr (by simp),h.gr.grown hg (λq hq=>by rw[<-h.s0];exact hs q hq),h.s0,Au h.sz hg.size⟩
theorem aK0 {W W':World} (B:Nat) (h:aB W W'):KeepsFrom B W W':=⟨h.size,λk _o _ hk _=>(Below.block h k (Array.getElem?_eq_some_iff.1 hk).1).trans hk⟩
theorem bJ1 (p:List dE) (m:Mx) (es:List En) (db g:Nat) (lb:Array Value) (js:List Nat) (w:World) (ag:cT p m es) (ac:gT w db p m es) (hj:js.length<=1048576) (eg:∀args w,(callFunc g args).run Tryz.prog w=.ok (.enter g args) w)
  (KS:SeqStopsK Fence.wide 7 Tryz.prog g lb (λx:eR1 es.length => #[.int .i64 (x.1:Nat)]) (cJ λb=>b<w.heap.size) (λys=>ys.map (·.1)=js) (λ_=>True) js.length w) :
  Calls Tryz.prog 97 #[.pointer (some ⟨db,0,none⟩),.func (.func g) #[] lb] w λe w'=>∃v,e=.returned v/\aX w' w.heap.size 30 5 bF v (js.map λj=>es.getD j enZero)/\aB w w':=by
 have CE:=λ(i:Nat) (x:En) (hx:es[i]?=some x) (u:World) (hu:aB w u)=>Aa (tM0 p m es db i x u ag (ac.grows hu) hx);have hn:=ag.len;clear ac ag;refine(callsIn_wide (n:=8)).1 (callsIn_of_wp_marks Tryz.func97 rfl trivial ?_);simp only[Tryz.ntmps97,Bz,Av,Cg,Cj,Ck,Bq,Br,Ca,Bu,Bg,Cd];gi_wp2
 have hs:w.heap.size=w.heap.size:=rfl;have dh:aB w ((w.alloc (.cells #[.pointer (some ⟨db,0,none⟩)] 31)).alloc (.cells #[.slice none 0 0] 24)):=(aB.alloc _ _).al _
 have J0:oQ1 w db es w.heap.size [] (.slice none 0 0) ((w.alloc (.cells #[.pointer (some ⟨db,0,none⟩)] 31)).alloc (.cells #[.slice none 0 0] 24)):=by
  refine⟨?_,?_,aX.nil _ _ _ _ _,dh,hs,by simp⟩
  ·exact(TB.alloc _ _ _).al _
  ·have:=TB.alloc (w.alloc (.cells #[.pointer (some ⟨db,0,none⟩)] 31)) #[.slice none 0 0] 24
   rw[World.size_alloc]at this;exact this
 have ain:((w.alloc (.cells #[.pointer (some ⟨db,0,none⟩)] 31)).alloc (.cells #[.slice none 0 0] 24)).heap.size=w.heap.size+2:=by simp
 generalize ((w.alloc (.cells #[.pointer (some ⟨db,0,none⟩)] 31)).alloc (.cells #[.slice none 0 0] 24))=W0 at J0 dh ain ⊢
 refine wpIn_rangeFunc_ownH (F:=Fence.wide) (n:=8) (α:=eR1 es.length) rfl (by decide) (gf:=g) (lb:=lb) rfl trivial eg KS
  (λh k=>h.tr k) (λW l o o' hl ho hc hw b hb=>World.putObj_heap_other (λe=>by omega)) dh (λ_=>rfl)
  (λpre W=>∃v,oQ1 w db es w.heap.size (pre.map (·.1)) v W)
  (λ_ _ _=>False) ?hI (λ_ _ _ _ _ h _ _=>h) ⟨_,J0⟩
  (λx a' W=>∃v,a'={ tmps:=#[.pointer (some ⟨db,0,none⟩),.func (.func g) #[] lb,.pointer (some ⟨w.heap.size,0,none⟩),undef,.slice none 0 0,.pointer (some ⟨w.heap.size+1,0,none⟩),.int .i64 (x.1:Nat),.func (.func g) #[] lb,.int .i64 (x.1:Nat),undef,undef,undef,undef,undef,undef,undef],defers:=[] }/\v=W.heap.size)
  ?hAx ?assign ?body ?done ?stop
 case hI =>
  rintro pre V V' row ⟨v,h⟩ hg hr;exact⟨v,h.other hg (RT.of_not λq e=>(hr q e).2) (λq e=>by have:=(hr q e).1;omega)⟩
 case hAx =>
  rintro x a' _ V V' row ⟨v,h,_⟩ hg hr;exact⟨_,h,rfl⟩
 case assign =>
  rintro l pre x V K2 ⟨v,h⟩ oe;gi_wp2
  exact oe _ _ (KeepsFrom.refl _ _) (cJ.refl _ _) ⟨v,h⟩ ⟨_,rfl,rfl⟩
 case body =>
  rintro l pre x a' V hl afh ⟨v,h⟩ ⟨_,rfl,_⟩ ah;obtain⟨y,hy⟩:∃y,es[x.1]?=some y:=⟨_,Ab x.2⟩;have CE1:=CE x.1 y hy V.drew (h.gr.tr (aB.drew V));have hyd:es.getD x.1 enZero=y:=by rw[Ac,hy];rfl
  have z0:∀q:Ext aB V.drew,q.u.cell? ⟨w.heap.size,0,none⟩=some (.pointer (some ⟨db,0,none⟩)):=aF ((aB.drew V).cell (h.bd.cell rfl));have z1:∀q:Ext aB V.drew,q.u.cell? ⟨w.heap.size+1,0,none⟩=some v:=aF ((aB.drew V).cell (h.bl.cell rfl));obtain⟨xi,o7⟩:=x;obtain⟨yr,ys,yl,yt,yc⟩:=y;unfold En.val at CE1;simp only at CE1 hyd ah z0 z1;have hlp:(pre.map (·.1)).length+1<=1048576+1:=by rw[Ad];omega
  clear CE hy afh;refine wpIn_block ?_;refine jV1 aB 5 (bB 5 [3,4]) (by rintro⟨_,_,h⟩;exact h) (by kernel_rfl) aB.refl aB.trans (by kernel_rfl) (by kernel_rfl) (λd _ _ _ _ h=>by cases d<;>exact h) ?_
  iterate 3 (refine aH rfl (λK hK=>?_);go_simp;refine hK _ ?_;clear hK K)
  clear z0 z1;refine bH rfl rfl (λK hK=>?_);go_simp;refine(CE1.out).mono ?_;rintro e w3 ⟨rfl,ax⟩;refine⟨ax,hK _ _ ?_⟩;clear hK K;refine bH rfl rfl (λK hK=>?_);go_simp;refine⟨aB.alloc _ _,hK _ _ ?_⟩;clear hK K CE1;refine cB ?_;simp only[Bt,Ch];have gV3:=(aB.drew V).tr ax;have hg:=h.gr.tr gV3;have hO:=h.own.grows gV3;have hb:=h.bl.gr gV3;have hd:=h.bd.gr gV3;obtain⟨ps,hps⟩:∃ps,pre.map (·.1)=ps:=⟨_,rfl⟩;rw[hps]at hO hlp;go_wp2_with (at_builtin;refine fG bP0 rfl _ _ rfl w.heap.size v (ps.map λj=>es.getD j enZero) ⟨yr,ys,yl,yt,yc⟩ rfl hO (aB.refl _) _ 1 rfl #[.string yr,.string ys,.int .i64 yl,.int .i64 yt,.int .i64 yc] rfl rfl (by rw[Ad];omega) (by have:=hg.size;omega) ?_;intro v7 w7 zh cw hf7 adj;obtain⟨g7,p7,rfl⟩:=pQ zh;have hb7:=hb.keep cw (RT.own hO) (by decide);have c7:=hb7.cell (o:=0) rfl;have f7:=hb7.froz 0)
  have hd7:=hd.keep cw (RT.own hO) (by decide);have gr7:=adj w hg (Ah _);have gr8:=gr7.set (p:=⟨w.heap.size+1,0,none⟩) (show w.heap.size<=w.heap.size+1 by omega) (.slice (some ⟨g7,0,none⟩) (ps.length+1) p7)
  refine⟨((((KeepsOthers.drew V).from _).trans (aK0 _ ax)).trans (iP cw (RT.own hO))).trans (kK hb7 0 (.slice (some ⟨g7,0,none⟩) (ps.length+1) p7)),λb hb=>(Below.block gr8 b hb).trans (Below.block h.gr b hb).symm,(.slice (some ⟨g7,0,none⟩) (ps.length+1) p7),?_⟩
  refine⟨hd7.keep (bG w7 (w.heap.size+1) 0 (.slice (some ⟨g7,0,none⟩) (ps.length+1) p7)) hb7.rt (by decide),hb7.set 0 (.slice (some ⟨g7,0,none⟩) (ps.length+1) p7),?_,gr8,rfl,?_⟩
  ·have h8:=aQ zh (bG w7 (w.heap.size+1) 0 (.slice (some ⟨g7,0,none⟩) (ps.length+1) p7)) hb7.rt (by decide)
   have qn:(pre++[(⟨xi,o7⟩:eR1 es.length)]).map (·.1)=ps++[xi]:=by
    rw[Bh,hps];rfl
   refine Eq.mp (congrArg (λq=>aX _ _ _ _ _ _ (q.map λj=>es.getD j enZero)) qn.symm) ?_;rw[Bh,Ay,Cm,hyd];rw[Ad]at h8;exact h8
  ·have:=h.sz
   have:=gV3.size
   have:=cw.size
   simp;omega
 case stop =>
  rintro D c pre W _ _ h _;exact h.elim
 case done =>
  rintro D xs V hD hxs ⟨v,h⟩ hKD;have c1:=h.bl.cell (o:=0) rfl;gi_wp2
  refine⟨by simp,.inl ⟨_,_,rfl,run_takeDeferred hKD,?_⟩⟩;rw[hxs]at h;exact⟨_,results_tmp rfl _ _ _,v,rfl,by exact ownsRow_putObj h.own _ hKD rfl,Below.trans h.gr (belowK_b (w:=w) (Ah _) V D _ _ (by omega) hKD rfl rfl)⟩
end
section
open Go Go.RowKit
def nR1 (l:List Nat) (N id a b:Nat):Prop:=l[id]?=some a/\(id+1<l.length->l[id+1]?=some b)/\(¬id+1<l.length->b=N)
theorem tU0 {k:Nat->Nat} {n S id:Nat} (hk:∀i,i<n->k i<S) (h:id<S):nR1 (sD0 k n S) n id (dR k n id).length (dR k n (id+1)).length:=by
 refine⟨iE0 h,λh1=>?_,λh1=>?_⟩
 ·rw[kE]at h1
  exact iE0 h1
 ·rw[kE]at h1
  rw[show id+1=S by omega,mZ hk]
theorem mO1 {k:Nat->Nat} {n S id:Nat} (hk:∀i,i<n->k i<S) (h:id<S):(dR k n id).length<=(dR k n (id+1)).length/\(dR k n (id+1)).length<=n/\((dR k n S).take (dR k n (id+1)).length).drop (dR k n id).length=grp k n id:=by
 have h1:=pO1 hk h;have h2:=lS1 hk h;rw[oX0 hk h]at h1 h2;exact⟨h1.1,h1.2,h2⟩
theorem cW1 {n a b:Nat} (hb:b<=n):((Ag n).take b).drop a=Al a (b-a):=by
 apply Bd
 intro i;rw[List.getElem?_drop,List.getElem?_take];by_cases h:a+i<b
 ·rw[if_pos h,Am (by omega),List.getElem?_range' (by omega)]
  simp
 ·rw[if_neg h,Bj (by simp;omega)]
theorem cT.row_r {p:List dE} {m:Mx} {es:List En} (h:cT p m es) {id:Nat} {s:ByteArray} (hs:(readL es)[id]?=some s) :
  ∃a b,nR1 (iY uE es es.length) es.length id a b/\a<=b/\b<=es.length/\(Al a (b-a)).map (λj=>es.getD j enZero)=iI es s:=by
 have hid:=(List.getElem?_eq_some_iff.1 hs).1;have hk:∀i,i<es.length->sF (readL es) es i<(readL es).length:=λi hi=>gO0 hi;obtain⟨h1,h2,h3⟩:=mO1 hk hid;refine⟨_,_,by rw[mH0 h.srt];exact tU0 hk hid,h1,h2,?_⟩;rw[bW0 h.srt,cW1 h2]at h3;rw[h3];exact eJ1 hs
end
end Go.Proofs.YthgklnohcmaopaaGreatDoor
