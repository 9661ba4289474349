/- The texts Bimg Bsz R18P DicP DicQ DicR R18b R18c Bjn Bord Bbld R18e Dct DicA WnP Dct1 Dct2 DicS, one behind the other. -/
import Derived.Test.YtaogeadljgjpcaaGreatDoorRq35
import Derived.Test.YtaogeadljgjpcaaGreatDoorRq33
import Derived.Test.YtaogeadljgjpcaaGreatDoorRq15
import Derived.Test.YtaogeadljgjpcaaGreatDoorRq2
import Derived.Test.YtaogeadljgjpcaaGreatDoorRq39
import Derived.Test.YtaogeadljgjpcaaGreatDoorRq6
import Derived.Test.YtaogeadljgjpcaaGreatDoorRq23
import Derived.Test.YtaogeadljgjpcaaGreatDoorRq26
import Derived.Test.YtaogeadljgjpcaaGreatDoorRq40
import Derived.Test.YtaogeadljgjpcaaGreatDoorRq4
import Derived.Test.YtaogeadljgjpcaaGreatDoorRq27
import Derived.Test.YtaogeadljgjpcaaGreatDoorRq34
import Derived.Test.YtaogeadljgjpcaaGreatDoorRq22
import Derived.Test.YtaogeadljgjpcaaGreatDoorRq8
import Derived.Test.YtaogeadljgjpcaaGreatDoorRq12
import Derived.Test.YtaogeadljgjpcaaGreatDoorRq21
import Derived.Test.YtaogeadljgjpcaaGreatDoorRq20
import Derived.Test.YtaogeadljgjpcaaGreatDoorRq3
import Derived.Shelf.GgSortFunc.Compose
import Derived.Test.YtaogeadljgjpcaaGreatDoorRq41
import Derived.Test.YtaogeadljgjpcaaGreatDoorRq42
import Derived.Test.YtaogeadljgjpcaaGreatDoorRq17
import Derived.Test.YtaogeadljgjpcaaGreatDoorRq28
import Derived.Test.YtaogeadljgjpcaaGreatDoorRq30
import Derived.Test.YtaogeadljgjpcaaGreatDoorRq13
open Go.Lib renaming hid → Aa,validD → Bw,toList_data → Ce
open List renaming getElem?_eq_getElem → Ab,getD_eq_getElem?_getD → Ac,length_map → Ad,mem_of_getElem? → Ae,length_append → Af,range → Ag,getElem?_map → Ai,filter_cons → Aj,length_range → Ak,range' → Al,getElem?_range → Am,filter_congr → An,findIdx_lt_length_of_exists → Aq,flatten_cons → Ar,mem_range → As,length_cons → Av,getElem_mem → Aw,map_cons → Ay,getElem?_append_left → Bc,ext_getElem? → Bd,nil_append → Bg,map_append → Bh,length_filter_le → Bi,getElem?_eq_none → Bj,findIdx_getElem → Bk,range'_append_1 → Bn,range_eq_range' → Bo,flatMap_append → Bs,drop_succ_cons → Bt,append_toArray → Bu,getElem_range → Bv,flatMap_cons → By,size_toArray → Bz,push_toArray → Ca,flatMap_map → Cc,cons_append → Cd,length_nil → Cg,drop_zero → Ch,map_drop → Ci,map_map → Cl,map_nil → Cm,mem_map → Cn
open Nat renaming le_refl → Ah,le_trans → Au,lt_or_ge → Be,zero_add → Bf,zero_le → Bp,reduceAdd → Cj,reduceSub → Ck
open Go.IntKind renaming signed → Ao,bits → At,wrap → Ba
open Int renaming toNat_of_nonneg → Ap,max_comm → Co
open Bool renaming and_eq_true → Ax,eq_iff_iff → Az
open Classical renaming byContradiction → Bb
open Array renaming replicate_succ → Bq,replicate_zero → Br
open Option renaming getD_some → Cb,map_some → Cf
set_option maxHeartbeats 4000000
namespace Go.Proofs.YtaogeadljgjpcaaGreatDoor
set_option maxRecDepth 100000
section
open Go Go.RowKit
def readL (es:List En):List ByteArray:=rS (es.map (·.r))
def dC (es:List En):List ByteArray:=rS (es.map (·.s))
theorem mU1 (l:List (List UInt8)):bls (l.map mkB)=l:=by
 unfold bls;rw[Cl];exact(List.map_congr_left λx _=>jK x).trans (List.map_id _)
theorem eU0 {ks:List ByteArray} {s:ByteArray} (h:s∈ks):s∈rS ks:=by
 unfold rS;refine List.mem_map.2 ⟨bl s,(yG _ _).2 (List.mem_map.2 ⟨s,h,rfl⟩),pH s⟩
theorem bN0 {ks:List ByteArray} {s:ByteArray} (h:s∈rS ks):s∈ks:=by
 unfold rS at h;obtain⟨x,hx,rfl⟩:=List.mem_map.1 h;obtain⟨t,ht,rfl⟩:=List.mem_map.1 ((yG _ _).1 hx);rw[show mkB (bl t)=t from pH t];exact ht
theorem mZ (ks:List ByteArray):(rS ks).Nodup:=by
 unfold rS;have h:=yA (bls ks);refine List.Pairwise.map mkB (λa b (ic:fI0 a b) e=>?_) h;rw[kA1 e]at ic;exact xX _ ic
theorem iG1 {ks:List ByteArray} {i:Nat} (h:i<(rS ks).length):(rS ks)[i]?=some (mkB (nth (bls (rS ks)) i)):=by
 rw[rH0];unfold rS nth;unfold rS at h;rw[Ad]at h;rw[Ai,Ac,Ab h];rfl
theorem yZ (ks:List ByteArray):(rS ks).length<=ks.length:=cM (mZ ks) λ_ h=>bN0 h
def yD (S:List ByteArray) (x:En):Nat:=S.findIdx λs=>decide (s=x.s)
theorem lT {S:List ByteArray} {x:En} (h:x.s∈S):S[yD S x]?=some x.s:=by
 have h1:yD S x<S.length:=Aq ⟨x.s,h,by simp⟩;rw[Ab h1];have h2:=Bk (w:=h1);exact congrArg some (of_decide_eq_true h2)
theorem rH {S:List ByteArray} {x:En} (h:x.s∈S):yD S x<S.length:=(List.getElem?_eq_some_iff.1 (lT h)).1
def nL (S:List ByteArray) (es:List En) (i:Nat):Nat:=yD S (es.getD i enZero)
def oE0 (es:List En):List Nat:=dI (nL (dC es) es) es.length (dC es).length
def jF (es:List En):List En:=(oE0 es).map λi=>es.getD i enZero
def tK (x y:En):Bool := !decide (x.r=y.r)
def lW0 (x y:En):Bool := !decide (x.s=y.s)
def sA (name:Array UInt8) (data:List UInt8):bE:=⟨⟨name⟩,data,none,0⟩
def imgP (p:List cO) (m:Mx) (es:List En):List bE :=
 [sA #[112,111,115] (posE p),sA #[109,97,116,114,105,120] m.enc,sA #[114,101,97,100,105,110,103,115] (loudE (bls (readL es))),sA #[102,105,114,115,116] (packE (iX tK es es.length)),
  sA #[115,117,114,102,97,99,101,115] (loudE (bls (dC es))),sA #[115,117,114,102,97,99,101] (packE (es.map (yD (dC es)))),sA #[108,101,102,116] (packE (es.map λx=>x.l.toNat)),sA #[114,105,103,104,116] (packE (es.map λx=>x.t.toNat)),
  sA #[99,111,115,116] (packE (es.map λx=>x.c.toNat)),sA #[111,114,100,101,114] (packE (oE0 es)),sA #[97,116] (packE (iX lW0 (jF es) es.length))]
theorem kP {nw:En->En->Bool} {l:List En} {k i:Nat} (h:i∈iX nw l k):i<k:=List.mem_range.1 (List.mem_filter.1 h).1
theorem aD0 {n:Int}:∀ {l:List En},jP n l=0->∀x∈l,mQ x n=0
 | [],_,x,hx=>by cases hx
 | y::l,h,x,hx=>by
  unfold jP at h;by_cases hy:mQ y n=0
  ·rw[if_pos hy]at h
   rcases List.mem_cons.1 hx with rfl|hx
   ·exact hy
   ·exact aD0 h x hx
  ·rw[if_neg hy]at h;exact absurd h hy
theorem rI {x:En} {n:Int} (h:mQ x n=0):0<=x.l/\x.l<n/\0<=x.t/\x.t<n/\0<=x.c/\x.c<=30000:=by
 unfold mQ xA at h;split at h
 ·split at h
  ·cases h
  ·split at h
   ·cases h
   ·omega
 ·cases h
theorem eU {p:List cO} {m:Mx} {l:List En} (h:xW p (some m) l=0):(m.n:Int)=p.length/\l.length<=20000/\eE p=true/\∀x∈l,mQ x p.length=0:=by
 unfold xW at h;split at h
 ·cases h
 ·rename_i hv
  simp only at h;split at h
  ·rename_i h1
   split at h
   ·cases h
   ·rename_i h2
    exact⟨h1,by omega,by simpa using hv,aD0 h⟩
  ·cases h
def rB (p:List cO) (m:Option Mx) (l:List En):Int×List UInt8 :=
 if xW p m l=0 then match m with
  | none=>(0,[])
  | some m=>if gU (bls (readL (sortS l)))=0/\gU (bls (dC (sortS l)))=0 then (if fJ (imgP p m (sortS l))=0 then (0,file14 (imgP p m (sortS l))) else (fJ (imgP p m (sortS l)),[])) else (2,[])
 else (xW p m l,[])
theorem kG0 (m:Mx):∀(l:List Nat) (last:Int),(pC m last l).length<=l.length*20
 | [],_=>by simp[pC]
 | i::r,last=>by
  have h1:=kG0 m r i;have h2:=cT ((i:Int)-last).toNat;have h3:=cT (m.cs.getD i 0).toNat;rw[pC,Af,Af,Av];omega
theorem cB1 {m:Mx} (h:m.OK):m.enc.length<=82000:=by
 have h1:=Mx.idx_len h;have h2:=kG0 m m.idx (-1);have h3:=cT m.n;have h4:=cT m.d.toNat;have h5:=cT m.idx.length;unfold Mx.enc;rw[Af,Af,Af];omega
theorem qF0 {p:List cO} (h:eE p=true):(posE p).length<=2600:=by
 obtain⟨h1,h2⟩:=eV h;have h3:=zM (l:=p) (λx hx=>(h2 x hx).1);have h4:=cT p.length;unfold posE;rw[Af];omega
theorem eG {l:List Nat} (h:∀n∈l,n<18446744073709551616):(packE l).length<=5+l.length*64:=by
 have hw:oM l<=64:=nS.2 h;have h1:l.length*oM l<=l.length*64:=Nat.mul_le_mul_left _ hw;unfold packE bP0;rw[Af,Af,bP,Ad,Ak];simp only[List.length_singleton];omega
theorem fR0 (k:Nat):∀l:List Nat,((l.map (leB k)).flatten).length=l.length*k
 | []=>by simp
 | x::l=>by
  rw[Ay,Ar,Af,bP,fR0 k l,Av,Nat.succ_mul];omega
theorem fM0 (l:List Bool):(oP l).length<=20+l.length:=by
 unfold oP nA tW;rw[Af,Af,bP,fR0,fR0,Ad,Ad,Ak,Ak];omega
theorem lN0 {L:List (List UInt8)} (ag:OkL L) (hl:L.length<=20000) (hc:gB L<=524287):(loudE L).length<=40000000:=by
 obtain⟨z1,z2,z3,z4,z5⟩:=ag.sizes hl hc;have h1:=fM0 (shapeL L (nodesA L));have h2:=fM0 (isL L (nodesA L));have h3:=eG (l:=idsL L (nodesA L)) (λn hn=>by have:=z5 n hn;omega);unfold loudE eW;simp only[Af,bP];omega
theorem cO1 (k:Nat->Nat) (n S:Nat):(dI k n S).Nodup:=(gR k n S).imp λ{a b} h e=>by rw[e]at h; exact qD h
theorem mS {k:Nat->Nat} {n S:Nat} (h:∀i,i<n->k i<S):(dI k n S).length=n:=by
 have h1:=cM (cO1 k n S) (l':=Ag n) λx hx=>List.mem_range.2 (gC.1 hx).1;have h2:=cM (List.nodup_range (n:=n)) (l':=dI k n S) λx hx=>gC.2 ⟨List.mem_range.1 hx,h x (List.mem_range.1 hx)⟩;rw[Ak]at h1 h2;omega
theorem qE0 {es:List En} {i:Nat} (h:i<es.length):es[i]?=some (es.getD i enZero):=by rw[Ac,Ab h]; rfl
theorem nG {es:List En} {x:En} (h:x∈es):x.s∈dC es:=eU0 (List.mem_map.2 ⟨x,h,rfl⟩)
theorem eP1 {es:List En} {i:Nat} (h:i<es.length):nL (dC es) es i<(dC es).length:=rH (nG (Ae (qE0 h)))
theorem rX (es:List En):(oE0 es).length=es.length:=mS λ_ hi=>eP1 hi
theorem oH0 {es:List En} {i:Nat} (h:i∈oE0 es):i<es.length:=(gC.1 h).1
theorem cT1 {S:List ByteArray} {x y:En} (hx:x.s∈S) (hy:y.s∈S):yD S x=yD S y↔x.s=y.s:=by
 constructor
 ·intro h
  have a:=lT hx;rw[h,lT hy]at a;exact(Option.some.inj a).symm
 ·intro h
  unfold yD;rw[h]
theorem xZ {l:List ByteArray} (hn:l.Nodup) {i j:Nat} {s:ByteArray} (hi:l[i]?=some s) (hj:l[j]?=some s):i=j:=by
 obtain⟨h1,e1⟩:=List.getElem?_eq_some_iff.1 hi;obtain⟨h2,e2⟩:=List.getElem?_eq_some_iff.1 hj;rcases Nat.lt_trichotomy i j with h|h|h
 ·exact absurd (e1.trans e2.symm) (List.pairwise_iff_getElem.1 hn i j h1 h2 h)
 ·exact h
 ·exact absurd (e2.trans e1.symm) (List.pairwise_iff_getElem.1 hn j i h2 h1 h)
theorem wO0 (es:List En):∀s,s<(dC es).length->∃i,i<es.length/\nL (dC es) es i=s:=by
 intro s hs;have h1:(dC es)[s]?=some (dC es)[s]:=Ab hs;have h2:(dC es)[s]∈es.map (·.s):=bN0 (Aw hs);obtain⟨x,hx,hxs⟩:=List.mem_map.1 h2;obtain⟨i,hi,he⟩:=List.mem_iff_getElem.1 hx;refine⟨i,hi,?_⟩;have h3:es.getD i enZero=x:=by rw[Ac,Ab hi];exact he
 unfold nL;rw[h3];exact xZ (mZ _) (lT (nG hx)) (by rw[hxs];exact h1)
theorem jO1 (es:List En):iX lW0 (jF es) es.length=rJ0 (nL (dC es) es) es.length (dC es).length:=by
 rw[<-rF _ _ _ (wO0 es)];have hl:(dI (nL (dC es) es) es.length (dC es).length).length=es.length:=rX es;unfold iX eC0;rw[hl];apply An
 intro i hi;rw[As]at hi
 have hg:∀j,j<es.length->∃m,m<es.length/\(dI (nL (dC es) es) es.length (dC es).length).getD j 0=m/\(jF es).getD j enZero=es.getD m enZero:=by
  intro j hj;have h1:(oE0 es)[j]?=some ((oE0 es).getD j 0):=by rw[Ac,Ab (by rw[rX];exact hj)];rfl
  refine⟨(oE0 es).getD j 0,oH0 (Ae h1),rfl,?_⟩;unfold jF;rw[Ac,Ai,h1];rfl
 obtain⟨a,ha,ea,ka⟩:=hg i hi;obtain⟨b,hb,eb,kb⟩:=hg (i-1) (by omega);unfold cD0 aV0;rw[ka,kb,ea,eb];congr 1
 unfold lW0;have h:=cT1 (nG (Ae (qE0 ha))) (nG (Ae (qE0 hb)));show _=(nL (dC es) es a != nL (dC es) es b)
 unfold nL;generalize es.getD a enZero=x at h ⊢;generalize es.getD b enZero=y at h ⊢;by_cases he:x.s=y.s
 ·rw[h.2 he];simp[he]
 ·have:yD (dC es) x≠yD (dC es) y:=λe=>he (h.1 e)
  simp[he,this]
theorem qC0 (l:List En):(sortS l).length<=l.length :=
 cM ((dQ l).1.imp λ{a b} ic e=>by rw[e,fA]at ic;cases ic) λy hy=>(((dQ l).2 y).1 hy).1
theorem fB0 {l:List En} {x:En} (h:x∈sortS l):x∈l:=(((dQ l).2 x).1 h).1
theorem dK0 {L:List (List UInt8)} (h:∀s∈L,s.length<=256):∀m,m<=L.length->vB L m<=1+m*256
 | 0,_=>Ah _
 | m+1,hm=>by
  have h1:=dK0 h m (by omega);have h2:=h _ (Ae (kJ (L:=L) (j:=m) (by omega)));unfold vB mA1;omega
theorem bI0 {L:List (List UInt8)} (ag:OkL L) (hl:L.length<=300):(loudE L).length<=5300000:=by
 have hc:gB L<=76801:=by have:=dK0 ag.len L.length (Ah _);unfold gB;omega
 have hN:=fB ag.asc ag.len;obtain⟨z1,z2,z3,z4,z5⟩:=ag.sizes (by omega) (by omega:gB L<=524287);have h0:=eK L (nodesA L).length (Ah _);rw[List.take_length,ag.off_all]at h0;have h1:=fM0 (shapeL L (nodesA L));have h2:=fM0 (isL L (nodesA L));have h3:=eG (l:=idsL L (nodesA L)) (λn hn=>by have:=z5 n hn;omega);have h4:(isL L (nodesA L)).length=(nodesA L).length:=by unfold isL;rw[Ad]
 have h5:(labelsL L (nodesA L)).length<=(nodesA L).length:=by rw[ag.labels,Ad,List.length_drop];omega
 have h6:(idsL L (nodesA L)).length<=(nodesA L).length:=by
  unfold idsL;rw[Ad];exact Bi (jG L) (nodesA L)
 unfold loudE eW;simp only[Af,bP];omega
theorem cN1 (p:List cO) (m:Mx) (es:List En):(imgP p m es).any (λq => !azS q.name)=false/\vZ0 (imgP p m es)=false:=by
 constructor
 ·simp only[imgP,List.any_cons,List.any_nil,sA]
  decide +kernel
 ·simp only[imgP,vZ0,xM,sA]
  decide +kernel
theorem yH0 {p:List cO} {m:Mx} {es:List En} (hm:m.OK) (hp:eE p=true) (hl:es.length<=300) (hr:gU (bls (readL es))=0) (hs:gU (bls (dC es))=0)
  (hn:∀x∈es,0<=x.l/\x.l<18446744073709551616/\0<=x.t/\x.t<18446744073709551616/\0<=x.c/\x.c<18446744073709551616):fJ (imgP p m es)=0:=by
 have hR:(bls (readL es)).length<=300:=by
  have:=yZ (es.map (·.r));unfold bls readL;rw[Ad];rw[Ad]at this;omega
 have hS:(bls (dC es)).length<=300:=by
  have:=yZ (es.map (·.s));unfold bls dC;rw[Ad];rw[Ad]at this;omega
 have hS2:(dC es).length<=300:=by unfold bls at hS;rw[Ad]at hS;exact hS
 have a1:=qF0 hp;have a2:=cB1 hm;have a3:=bI0 (eH hr).1 hR;have a4:=bI0 (eH hs).1 hS;have b1:=eG (l:=iX tK es es.length) (λn hn=>by have:=kP hn;omega)
 have b2:=eG (l:=es.map (yD (dC es))) (λn hn=>by
  obtain⟨x,hx,rfl⟩:=List.mem_map.1 hn
  have:=rH (nG hx);omega)
 have b3:=eG (l:=es.map λx=>x.l.toNat) (λn h=>by
  obtain⟨x,hx,rfl⟩:=List.mem_map.1 h
  have:=hn x hx;omega)
 have b4:=eG (l:=es.map λx=>x.t.toNat) (λn h=>by
  obtain⟨x,hx,rfl⟩:=List.mem_map.1 h
  have:=hn x hx;omega)
 have b5:=eG (l:=es.map λx=>x.c.toNat) (λn h=>by
  obtain⟨x,hx,rfl⟩:=List.mem_map.1 h
  have:=hn x hx;omega)
 have b6:=eG (l:=oE0 es) (λn hn=>by have:=oH0 hn;omega);have b7:=eG (l:=iX lW0 (jF es) es.length) (λn hn=>by have:=kP hn;omega);have c1:=bM0 tK es es.length;have c2:=bM0 lW0 (jF es) es.length;have c3:=rX es;rw[Ad]at b2 b3 b4 b5
 have mw:kU (imgP p m es)<=16777216:=by
  simp only[kU,imgP,sA,Ay,Cm,List.sum_cons,List.sum_nil];omega
 have ah:(imgP p m es).length=11:=rfl;obtain⟨n1,n2⟩:=cN1 p m es;unfold fJ;rw[if_neg (by omega),if_neg (by rw[n1];decide),if_neg (by rw[n2];decide)]
theorem sU {k:Nat->Nat} {n:Nat}:∀ {s t:Nat},s<=t->∃r,dI k n t=dI k n s++r
 | s,0,h=>by
  simp_all
 | s,t+1,h=>by
  rcases Be t s with h1|h1
  ·obtain rfl:s=t+1:=by omega
   exact⟨[],by simp⟩
  ·obtain⟨r,hr⟩:=sU (k:=k) (n:=n) h1
   grind [mT]
def pG1 (k:Nat->Nat) (n _S id:Nat):Nat:=(dI k n id).length
def oB1 (k:Nat->Nat) (n S id:Nat):Nat:=if id+1<S then (dI k n (id+1)).length else n
theorem gY0 {k:Nat->Nat} {n S id:Nat} (h:id<S):(rJ0 k n S)[id]?=some (dI k n id).length:=by
 grind [rJ0]
theorem kF (k:Nat->Nat) (n S:Nat):(rJ0 k n S).length=S:=by simp[rJ0]
theorem nR0 {k:Nat->Nat} {n S id:Nat} (hk:∀i,i<n->k i<S) (h:id<S):oB1 k n S id=(dI k n (id+1)).length:=by
 unfold oB1;split
 ·rfl
 ·rw[show id+1=S by omega,mS hk]
theorem pC1 {k:Nat->Nat} {n S id:Nat} (hk:∀i,i<n->k i<S) (h:id<S):pG1 k n S id<=oB1 k n S id/\oB1 k n S id<=n:=by
 rw[nR0 hk h];unfold pG1;refine⟨?_,?_⟩
 ·rw[mT,Af];omega
 ·obtain⟨r,hr⟩:=sU (k:=k) (n:=n) (show id+1<=S by omega)
  have:=mS hk
  rw[hr,Af]at this;omega
theorem kR1 {k:Nat->Nat} {n S id:Nat} (hk:∀i,i<n->k i<S) (h:id<S):((dI k n S).take (oB1 k n S id)).drop (pG1 k n S id)=grp k n id:=by
 rw[nR0 hk h];obtain⟨r,hr⟩:=sU (k:=k) (n:=n) (show id+1<=S by omega)
 rw[hr,List.take_left',mT]
 ·unfold pG1
  rw[List.drop_left]
 ·rfl
theorem kJ1 {k:Nat->Nat} {n S i s:Nat} (hk:∀i,i<n->k i<S) (hi:i<n) (hs:s<=S):(dI k n s).length<=i↔s<=k ((dI k n S).getD i 0):=by
 obtain⟨r,hr⟩:=sU (k:=k) (n:=n) hs;have hl:=mS hk;have hg:(dI k n S)[i]?=some ((dI k n S).getD i 0):=by rw[Ac,Ab (by omega)];rfl
 obtain⟨x,hx⟩:=exq ((dI k n S).getD i 0);rw[<-hx]at hg ⊢;have hp:=gR k n S;constructor
 ·intro h
  apply Bb
  intro hc;have hm:x∈dI k n s:=gC.2 ⟨(gC.1 (Ae hg)).1,by omega⟩;obtain⟨j,hj,ej⟩:=List.mem_iff_getElem.1 hm;have lf:(dI k n S)[j]?=some x:=by rw[hr,Bc hj,Ab hj,ej]
  obtain⟨a1,a2⟩:=List.getElem?_eq_some_iff.1 hg;obtain⟨b1,b2⟩:=List.getElem?_eq_some_iff.1 lf
  have:=List.pairwise_iff_getElem.1 hp j i b1 a1 (by omega)
  rw[a2,b2]at this;exact qD this
 ·intro h
  apply Bb
  intro hc;rw[hr,Bc (by omega)]at hg
  have:=(gC.1 (Ae hg)).2
  omega
theorem fQ1 {k:Nat->Nat} {n S i:Nat} (hk:∀i,i<n->k i<S) (hi:i<n):(Ag S).countP (λs => !decide (i+1<=(rJ0 k n S).getD s 0))=k ((dI k n S).getD i 0)+1:=by
 have hkl:k ((dI k n S).getD i 0)<S:=by
  have hl:=mS hk;have hg:(dI k n S)[i]?=some ((dI k n S).getD i 0):=by rw[Ac,Ab (by omega)];rfl
  exact(gC.1 (Ae hg)).2
 have h:=qB (λs => !decide (i+1<=(rJ0 k n S).getD s 0)) (k ((dI k n S).getD i 0)+1) S (λs hs=>by
  rw[Ac,gY0 hs,Cb]
  have:=kJ1 (s:=s) hk hi (by omega)
  rw[Az];simp only[Bool.not_eq_true',decide_eq_false_iff_not,decide_eq_true_eq];omega)
 rw[h];omega
def dE1 (R:List ByteArray) (x:En):Nat:=R.findIdx λs=>decide (s=x.r)
theorem nX {R:List ByteArray} {x:En} (h:x.r∈R):R[dE1 R x]?=some x.r:=by
 have h1:dE1 R x<R.length:=Aq ⟨x.r,h,by simp⟩;rw[Ab h1];have h2:=Bk (w:=h1);exact congrArg some (of_decide_eq_true h2)
theorem kV1 {R:List ByteArray} {x:En} (h:x.r∈R):dE1 R x<R.length:=by grind [dE1]
theorem pI {es:List En} {x:En} (h:x∈es):x.r∈readL es:=eU0 (by grind)
def sW (R:List ByteArray) (es:List En) (i:Nat):Nat:=dE1 R (es.getD i enZero)
theorem fH0 {es:List En} {i:Nat} (h:i<es.length):sW (readL es) es i<(readL es).length:=kV1 (pI (by simp_all))
theorem lK0 {R:List ByteArray} {x y:En} (hx:x.r∈R) (hy:y.r∈R):dE1 R x=dE1 R y↔x.r=y.r:=by
 constructor
 ·intro h
  have a:=nX hx;rw[h,nX hy]at a;simp_all
 ·intro h
  unfold dE1;rw[h]
theorem bL1 (es:List En):∀s,s<(readL es).length->∃i,i<es.length/\sW (readL es) es i=s:=by
 intro s hs;have h1:(readL es)[s]?=some (readL es)[s]:=by simp_all
 have h2:(readL es)[s]∈es.map (·.r):=bN0 (Aw hs);obtain⟨x,hx,hxs⟩:=List.mem_map.1 h2;obtain⟨i,hi,he⟩:=List.mem_iff_getElem.1 hx;refine⟨i,hi,?_⟩;have h3:es.getD i enZero=x:=by rw[Ac,Ab hi];exact he
 grind [xZ,mZ,nX,sW,readL]
theorem aE1 {ks:List ByteArray} {i j:Nat} {a b:ByteArray} (hi:(rS ks)[i]?=some a) (hj:(rS ks)[j]?=some b) (h:Op.bytesLess (bl a) (bl b)=true):i<j:=by
 have hp:=yA (bls ks)
 have key:∀ {i:Nat} {a:ByteArray},(rS ks)[i]?=some a->(rP0 (bls ks))[i]?=some (bl a):=λ{i a} h=>by
  unfold rS at h;rw[Ai]at h
  cases hx:(rP0 (bls ks))[i]? with
  | none=>rw[hx]at h;cases h
  | some x =>
   rw[hx]at h;rw[<-Option.some.inj h];grind [bl,mkB]
 grind [xX,List.pairwise_iff_getElem,mZ0]
theorem vQ0 {es:List En} (hs:iL es) {i j:Nat} (h1:i<j) (h2:j<es.length):sW (readL es) es i<=sW (readL es) es j:=by
 have hl:=List.pairwise_iff_getElem.1 hs i j (by omega) h2 h1;have e1:es.getD i enZero=es[i]:=by rw[Ac,Ab (by omega)];rfl
 have e2:es.getD j enZero=es[j]:=by rw[Ac,Ab h2];rfl
 have m1:=pI (Aw (show i<es.length by omega))
 have m2:=pI (Aw h2);unfold sW;rw[e1,e2];by_cases he:es[i].r=es[j].r
 ·rw[(lK0 m1 m2).2 he];exact Ah _
 ·rw[lG1 he,Ce,Ce]at hl
  exact Nat.le_of_lt (aE1 (nX m1) (nX m2) hl)
theorem bK0 {es:List En} (hs:iL es):dI (sW (readL es) es) es.length (readL es).length=Ag es.length:=by
 refine(iT (λ_=>qD) (λ_ _ _=>yV) ?_ (gR (sW (readL es) es) es.length (readL es).length) λx=>?_).symm
 ·refine List.pairwise_iff_getElem.2 λi j hi hj jf=>?_
  rw[Bv,Bv]
  have:=vQ0 hs jf (by simpa using hj)
  unfold ltK;omega
 ·rw[gC,As]
  exact⟨λh=>⟨h,fH0 h⟩,λh=>h.1⟩
theorem iU0 {es:List En} (hs:iL es):iX tK es es.length=rJ0 (sW (readL es) es) es.length (readL es).length:=by
 rw[<-rF _ _ _ (bL1 es),bK0 hs];unfold iX eC0;rw[Ak];apply An
 intro i hi;rw[As]at hi;have g:∀j,j<es.length->(Ag es.length).getD j 0=j:=by simp_all
 unfold cD0 aV0;grind [lK0,pI,tK,sW]
theorem eI1 (es:List En):es=(Ag es.length).map λi=>es.getD i enZero:=by
 apply Bd
 grind
theorem zV0 (es:List En) (p:En->Bool):es.filter p=((Ag es.length).filter λi=>p (es.getD i enZero)).map λi=>es.getD i enZero:=by
 conv=>lhs;rw[eI1 es]
 rw[List.filter_map];rfl
theorem fL1 {es:List En} {id:Nat} {s:ByteArray} (h:(readL es)[id]?=some s):(grp (sW (readL es) es) es.length id).map (λi=>es.getD i enZero)=iF es s:=by
 unfold iF grp;rw[zV0];congr 1
 apply An
 intro i hi;rw[As]at hi;have hx:=nX (pI (Ae (qE0 hi)));unfold sW;rw[Az];simp only[beq_iff_eq,decide_eq_true_eq];constructor
 ·intro e
  rw[e,h]at hx;exact(Option.some.inj hx).symm
 ·intro e
  rw[e]at hx;exact xZ (mZ _) hx h
theorem dW0 {es:List En} {s:ByteArray} (h:s∉readL es):iF es s=[]:=by
 unfold iF;rw[List.filter_eq_nil_iff];intro x hx;simp only[decide_eq_true_eq];rintro rfl;exact h (pI hx)
def mT1 (es:List En) (a b:Nat):List En:=(es.take b).drop a
theorem wK0 (es:List En) {a b:Nat} (hb:b<=es.length):mT1 es a b=((Al a (b-a)).map λi=>es.getD i enZero):=by
 apply Bd
 grind [mT1]
theorem yL {R:List ByteArray} {x:List UInt8}:x∈bls R↔mkB x∈R:=by
 unfold bls;rw[Cn];grind [pH,bl,mkB]
theorem qV1 {R:List ByteArray} {j:Nat} {s:ByteArray} (h:R[j]?=some s):R.getD j ⟨#[]⟩=s:=by
 simp_all
theorem cW1 {R:List ByteArray} (h:OkL (bls R)) (f:ByteArray->List En) (hf:∀s,s∉R->f s=[]) (s:ByteArray) :
  (Ag (min s.size 256+1)).flatMap (λn=>f (lX0 s n))=(hitsL (bls R) (bl s) s.size).flatMap λq=>f (R.getD q.1 ⟨#[]⟩):=by
 have ah7:∀i,(sK0 (bls R) (bl s) i).flatMap (λq=>f (R.getD q.1 ⟨#[]⟩))=f (lX0 s (i+1)):=λi=>by
  unfold sK0;by_cases hm:(bl s).take (i+1)∈bls R
  ·rw[if_pos hm]
   have na:=yL.1 hm;obtain⟨j,hj⟩:=List.mem_iff_getElem?.1 na;have h1:=uU hj;rw[show bl (mkB ((bl s).take (i+1)))=(bl s).take (i+1) from jK _]at h1
   rw[h.findT_of h1];grind [lX0]
  ·rw[if_neg hm]
   grind [yL,lX0]
 have e1:(hitsL (bls R) (bl s) s.size).flatMap (λq=>f (R.getD q.1 ⟨#[]⟩))=(Ag s.size).flatMap λi=>f (lX0 s (i+1)):=by
  unfold hitsL;rw[List.flatMap_assoc];congr 1
  funext i
  exact ah7 i
 have e0:f (lX0 s 0)=[]:=hf _ (λhc=>h.pos [] (yL.2 (by unfold lX0 at hc;simp_all)) rfl);rw[e1,List.range_succ_eq_map,By,e0,Bg,Cc];by_cases hs:s.size<=256
 ·rw[Nat.min_eq_left hs]
 ·rw[Nat.min_eq_right (by omega)]
  have e2:Ag s.size=Ag 256++Al 256 (s.size-256):=by
   have h2:=Bn (s:=0) (m:=256) (n:=s.size-256);rw[Bf,show 256+(s.size-256)=s.size by omega]at h2
   rw[Bo,Bo,h2]
  rw[e2,Bs]
  have e3:(Al 256 (s.size-256)).flatMap (λi=>f (lX0 s (i+1)))=[]:=by
   rw[List.flatMap_eq_nil_iff];intro i hi;rw[List.mem_range'_1]at hi;refine hf _ λhc=>?_;have h3:=h.len _ (yL.2 hc);rw[List.length_take,dJ]at h3;omega
  simp_all
theorem aZ1 {es:List En} (h:OkL (bls (readL es))) (s:ByteArray):kX0 es s=(hitsL (bls (readL es)) (bl s) s.size).flatMap λq=>iF es ((readL es).getD q.1 ⟨#[]⟩) :=
 cW1 h (iF es) (λ_ hs=>dW0 hs) s
theorem tO0 {es:List En} (h:OkL (bls (readL es))) (s:ByteArray):iF es s=if (kK (bls (readL es)) (bl s)).2=true then iF es ((readL es).getD (kK (bls (readL es)) (bl s)).1 ⟨#[]⟩) else []:=by
 by_cases hm:s∈readL es
 ·obtain⟨j,hj⟩:=List.mem_iff_getElem?.1 hm
  rw[h.findT_of (uU hj),if_pos rfl,qV1 hj]
 ·rw[qE (by grind [pH,bls,bl]),dW0 hm]
  rfl
theorem pM0 {s x:ByteArray} {n:Nat} (hn:n<=s.size):x=lX0 s n↔hO0 s x=true/\x.size=n:=by
 unfold hO0 lX0;grind [List.prefix_iff_eq_take,Lib.size_eq,pH,mkB,bl]
theorem lY1 {s p:ByteArray} (h:hO0 s p=true):p.size<=s.size:=by
 unfold hO0 at h;grind [dJ]
end
section
open Go Go.RowKit Go.Shelf
attribute [local go_sem] aQ aM
def makeE (p:List cO) (m:Option Mx) (l:List En):Int :=
 if xW p m l=0 then (if gU (bls (readL (sortS l)))=0/\gU (bls (dC (sortS l)))=0 then 0 else 2) else xW p m l
end
section
open Go Go.RowKit
theorem nI0 (P:List bE) (w:World) (T:TypeId) (hl:P.length<=1000000):aG (w.alloc (.cells (P.flatMap lE).toArray T)) (some ⟨w.heap.size,0,none⟩) 2 (P.map lE):=by
 have h:=jI (enc:=lE) (k:=2) (λ_=>rfl) (w:=w) (e:=T) (base:=w.heap.size) (n:=P.length) (Ah _) P (cs:=(P.flatMap lE).toArray) (by simp) rfl (by unfold maxLen;omega);obtain⟨a,c,e,_,_,ac⟩:=h.at_ (k:=2) (λ_=>rfl);have e1:=(Value.slice.inj e).1;rw[e1];exact ac
def bare (p:bE):bE:=⟨p.name,p.data,none,0⟩
theorem vK0 (P:List bE):kU (P.map bare)=kU P:=by simp[kU,bare,Cl,Function.comp_def]
theorem oO0 (P:List bE):dF (P.map bare)=dF P:=by
 simp[dF,dH,dK,bare,Cc]
theorem nN (P:List bE):file14 (P.map bare)=file14 P:=by unfold file14; rw[oO0]
theorem dX0:∀(P:List bE) (seen:List ByteArray),xM (P.map bare) seen=xM P seen
 | [],_=>rfl
 | p::P,seen=>by
  rw[Ay,xM,xM,dX0 P];rfl
theorem qF (P:List bE):fJ (P.map bare)=fJ P:=by
 unfold fJ vZ0;rw[vK0,Ad,dX0,List.any_map];rfl
theorem fD {W:World} {base:Nat} {v:Value} {data:List UInt8} (h:aV W base 5 1 aZ v data):∃a c,v=.slice a data.length c/\aG W a 1 (data.map aZ)/\(a=none->c=0):=by
 obtain⟨a,c,rfl,_,_,ac⟩:=h.at_ (k:=1) (λx=>(rfl:(aZ x).length=1));refine⟨a,c,rfl,ac,λha=>?_⟩;rcases h.2 with ⟨e,_⟩|⟨g,cap,cj,hv,_⟩
 ·exact(Value.slice.inj e).2.2
 ·rw[ha]at hv
  cases (Value.slice.inj hv).1
end
section
open Go Go.RowKit Go.Shelf Go.Sort
theorem vG0 {w:World} {g n:Nat} {os:Array Obj} (d:Array Nat):w.grownBy (grow (putRow nv (Sort.ahead w n) g 0 d) os) (some g):=by
 refine⟨rfl,rfl,rfl,by simp,λk hk aj=>?_⟩;rw[heap_grow_old _ _ (by simpa using hk)]
 have:g≠k:=λe=>aj (by rw[e])
 simp[putRow,mapBlock,Sort.ahead,Array.getElem?_modify,this]
theorem rD0 {wB w0 W:World} {ob:Nat} {dk:Array Nat} (hB:aB wB w0) (se:wB.heap.size<=ob) (S:SWn w0 ob dk W):aB wB W:=by
 obtain⟨m,os,rfl⟩:=S;exact hB.grown (vG0 dk) (λq hq=>by cases hq;exact se)
theorem oC1 {es:List En} {BS:List ByteArray} {ib eb sc ob:Nat} {sa:Option Addr} {wB w0:World} (hn:es.length<=1048576) (hL:BS.length<=1048576) (hB:aB wB w0) (se:wB.heap.size<=ob) (hid:jD1 wB ib BS) (be:wB.cell? ⟨eb,0,none⟩=some (.slice sa es.length sc)) (ac:aG wB sa 5 (es.map bF))
  (aa:aV w0 wB.heap.size 3 1 lJ (.slice (some ⟨ob,0,none⟩) es.length es.length) (Ag es.length)) (ae:ob<w0.heap.size) (hm:∀x∈es,x.s∈BS) (hz:∀x∈es,x.s.size<=maxLen) :
  gE (nL BS es) es.length ob 112 #[.pointer (some ⟨ib,0,none⟩),.pointer (some ⟨eb,0,none⟩)] (Ag es.length).toArray w0/\SWn w0 ob (Ag es.length).toArray w0:=by
 have hH:Holds nv w0 ob 0 (Ag es.length).toArray:=λj hj=>by
  have lf:j<es.length:=by simpa using hj
  have h1:=cU (f:=λn:Nat=>Value.int .i64 n) aa (k:=j) (x:=j) (by rw[Am lf]);obtain⟨h2,_,_⟩:=eP (f:=λn:Nat=>Value.int .i64 n) aa (k:=j) (by simpa using lf) 0;refine⟨?_,by rw[Bf];exact h2⟩;rw[Bf,h1];simp[nv,lf]
 refine⟨⟨⟨λx=>rfl,hH,ae⟩,by simp,hn,jZ1,?_⟩,⟨0,#[],(sortWorld_start nv w0 ob 0 _ hH).symm⟩⟩;intro m os dk hs x y hx hy;have hg:aB wB (sortWorld nv w0 ob 0 m dk os):=rD0 hB se ⟨m,os,rfl⟩;have hex:es[x]?=some (es.getD x enZero):=by rw[Ac,Ab hx];rfl
 have hey:es[y]?=some (es.getD y enZero):=by rw[Ac,Ab hy];rfl
 have hmx:=Ae hex;have hmy:=Ae hey;have h:=iP1 BS ib eb (nL BS es x) (nL BS es y) x y es (es.getD x enZero) (es.getD y enZero) sa sc _ (hid.grows hg) (hg.cell be) (ac.grows hg) hn hL hex hey (lT (hm _ hmx)) (lT (hm _ hmy)) ⟨hz _ hmx,hz _ hmy⟩;exact h.mono λe w' ⟨h1,h2⟩=>⟨h1,1,#[],by rw[h2,grow_empty];rfl⟩
theorem fD1 {es:List En} {BS:List ByteArray} {ob:Nat} {_wB w0 w':World} {dk:Array Nat} (hs:dk.size=es.length) (hw:Win (nL BS es) (Fd dk) 0 es.length) (hm:∀x∈es,x.s∈BS) (R:Row1 nv w0 ob 0 (Ag es.length).toArray) (S:SWn w0 ob dk w') :
  aG w' (some ⟨ob,0,none⟩) 1 ((dI (nL BS es) es.length BS.length).map lJ)/\(dI (nL BS es) es.length BS.length).length=es.length/\∀i∈dI (nL BS es) es.length BS.length,i<es.length:=by
 have h1:(Ag es.length).map (Fd dk)=dI (nL BS es) es.length BS.length:=eD1 hw λi hi=>by
  have hex:es[i]?=some (es.getD i enZero):=by rw[Ac,Ab hi];rfl
  exact rH (hm _ (Ae hex))
 rw[<-h1];refine⟨λ_=>⟨ob,0,rfl,λi row hi j u hj=>?_⟩,by simp,λi hi=>?_⟩
 ·rw[Ai,Ai]at hi
  rcases Be i es.length with ae|zv
  ·rw[Am ae]at hi
   simp only[Cf,Option.some.injEq]at hi;subst hi
   match j,hj with
   | 0,hj =>
    have:=S.c1 R (by rw[hs];simp) i (by omega)
    simp only[lJ,List.getElem?_cons_zero,Option.some.injEq]at hj;subst hj;simpa [Fd,nv] using this
  ·rw[Bj (by simpa using zv)]at hi
   cases hi
 ·obtain⟨j,hj,rfl⟩:=List.mem_map.1 hi
  rw[As]at hj;exact(hw.inn j (Bp _) hj).2
end
section
open Go Go.RowKit Go.Shelf
attribute [local go_sem] aQ aM
def cZ (p:List cO) (m:Option Mx) (l:List En) (w:World) (e:Ending) (w':World):Prop :=
 aB w w'/\∃v,e=.returned (.tuple #[v,.int .i64 (rB p m l).1])/\aV w' w.heap.size 5 1 aZ v (rB p m l).2
theorem tC0 (p:List cO) (mv:Value) (m:Option Mx) (l:List En) (pa a:Option Addr) (pc c:Nat) (w:World) (he:Env w) (hp:p.length<=4611686018427387904) (hl:l.length<=140737488355328) (hs:∀x∈l,x.r.size<9223372036854775807/\x.s.size<9223372036854775807)
  (t7:aG w pa 2 (p.map bN)) (hm:dW1 w mv m) (ac:aG w a 5 (l.map bF)) (hc:xW p m l≠0) :
  Calls Tryz.prog 63 #[.slice pa p.length pc,mv,.slice a l.length c] w (cZ p m l w):=by
 have gh:aB w (w.alloc (.cells #[.slice a l.length c] 28)):=aB.alloc _ _;have CC:=Aa (cK0 p mv m l pa a pc c _ (he.grows gh) hp hl hs (t7.grows gh) (hm.grows gh) (ac.grows gh));have be:(w.alloc (.cells #[.slice a l.length c] 28)).cell? ⟨w.heap.size,0,none⟩=some (.slice a l.length c):=aT w _ _ (0,0) 0 _ rfl;unfold cZ rB;rw[if_neg hc];obtain⟨f,hf⟩:=exq (xW p m l);rw[<-hf]at CC hc ⊢;clear he hs t7 hm ac hf gh;go_enter Tryz.func63,Tryz.ntmps63
 go_wp2_with fail
 refine CC.out.mono ?_;rintro e w1 ⟨rfl,aq⟩;go_wp2
 go_ret2;exact⟨aB.trans _ _ _ (aB.alloc _ _) aq,_,rfl,aV.nil _ _ _ _ _⟩
theorem oR1 {k:Nat} (h:k<=1048576):(Lit.int .i64 (k:Int)).wf=true:=by
 simp[Lit.wf,IntKind.min,IntKind.max,At,Ao];omega
theorem cZ.long {p:List cO} {m:Mx} {l:List En} {w w':World} (hc:xW p (some m) l=0) (h:¬(gU (bls (readL (sortS l)))=0/\gU (bls (dC (sortS l)))=0)) (hg:aB w w'):cZ p (some m) l w (.returned (.tuple #[.slice none 0 0,.int .i64 2])) w':=by
 unfold cZ rB;rw[if_pos hc];simp only;rw[if_neg h];exact⟨hg,_,rfl,aV.nil _ _ _ _ _⟩
theorem cZ.join {p:List cO} {m:Mx} {l:List En} {w w':World} {e:Ending} (hc:xW p (some m) l=0) (h:gU (bls (readL (sortS l)))=0/\gU (bls (dC (sortS l)))=0) (hg:aB w w')
  (hj:(fJ (imgP p m (sortS l))=0->∃v,e=.returned (.tuple #[v,.int .i64 0])/\aV w' w.heap.size 5 1 aZ v (file14 (imgP p m (sortS l))))/\(fJ (imgP p m (sortS l))≠0->e=.returned (.tuple #[.slice none 0 0,.int .i64 (fJ (imgP p m (sortS l)))]))):cZ p (some m) l w e w':=by
 unfold cZ rB;rw[if_pos hc];simp only;rw[if_pos h];refine⟨hg,?_⟩;by_cases h0:fJ (imgP p m (sortS l))=0
 ·rw[if_pos h0];exact hj.1 h0
 ·rw[if_neg h0];exact⟨_,hj.2 h0,aV.nil _ _ _ _ _⟩
theorem iH0 (p:List cO) (mb bm:Nat) (m:Mx) (l:List En) (pa a:Option Addr) (pc c:Nat) (w:World) (he:Env w) (hp:p.length<=4611686018427387904) (hs:∀x∈l,uE x) (hz:∀x∈l,x.r.size<=1099511627776/\x.s.size<=1099511627776) (hl:l.length<=20000) (hv:eE p=true)
  (t7:aG w pa 2 (p.map bN)) (hm:gJ w mb bm m) (ac:aG w a 5 (l.map bF)) (hc:xW p (some m) l=0) :
  Calls Tryz.prog 63 #[.slice pa p.length pc,.pointer (some ⟨mb,0,none⟩),.slice a l.length c] w (cZ p (some m) l w):=by
 have gh:aB w (w.alloc (.cells #[.slice a l.length c] 28)):=aB.alloc _ _;have CC:=Aa (cK0 p (.pointer (some ⟨mb,0,none⟩)) (some m) l pa a pc c _ (he.grows gh) hp (by omega) (λx hx=>by have:=hz x hx;omega) (t7.grows gh) (dW1.grows (m:=some m) ⟨mb,bm,rfl,hm⟩ gh) (ac.grows gh));have be:(w.alloc (.cells #[.slice a l.length c] 28)).cell? ⟨w.heap.size,0,none⟩=some (.slice a l.length c):=aT w _ _ (0,0) 0 _ rfl;have xj:=Aa (gI0 w #[.slice a l.length c] 28 0);rw[hc]at CC;have HCH:=Aa hc;obtain⟨es,hes⟩:=exq (sortS l);have HSO:=Aa hes;have HE:=Aa he;have HPT:=Aa t7;have HM:=Aa hm;have HAT:=Aa ac;have HZ:=Aa hz;have HS:=Aa hs;have HGA:=Aa gh;clear he hs hz t7 hm ac hc hes;go_enter Tryz.func63,Tryz.ntmps63
 go_wp2_with fail
 obtain⟨wA,hwA⟩:=exq (w.alloc (.cells #[.slice a l.length c] 28));have afc:w.heap.size<wA.heap.size:=by rw[hwA];simp
 rw[<-hwA]at HGA CC xj be ⊢;have HSZ:=Aa afc;obtain⟨eb,cz⟩:=exq w.heap.size;have HEB:=Aa cz;have HF:Hid (wA.frozen? ⟨eb,0,none⟩=false):=by rw[cz];exact xj
 rw[<-cz]at be ⊢;clear hwA xj gh afc cz;refine CC.out.mono ?_;rintro e w1 ⟨rfl,aq⟩;have xm:=aq.cell be;have CS:=Aa (bO1 l a c w1 (by omega) HS.out (HAT.out.grows (aB.trans _ _ _ HGA.out aq)));clear CC be;go_wp2_with fail
 refine CS.out.mono ?_;rintro e w2 ⟨v2,rfl,gw,af⟩;rw[<-HSO.out]at gw;have hes:=HSO.out;have HES:Hid (∀x∈es,x∈l):=λx hx=>by rw[hes]at hx;exact(((dQ l).2 x).1 hx).1
 have s9:es.length<=l.length:=by rw[hes];exact cM ((dQ l).1.imp λ{a b} ic e=>by rw[e,fA]at ic;cases ic) λy hy=>(((dQ l).2 y).1 hy).1
 have hf2:w2.frozen? ⟨eb,0,none⟩=false:=((aB.trans _ _ _ aq af).froz (by rw[HEB.out];exact HSZ.out)).trans HF.out;have xo:=af.cell xm;have afd:aB w w2:=aB.trans _ _ _ HGA.out (aB.trans _ _ _ aq af);have ada:eb<w1.heap.size:=by rw[HEB.out];exact Nat.lt_of_lt_of_le HSZ.out aq.size
 have m4:=nC gw (p:=⟨eb,0,none⟩) ada v2;obtain⟨sa,sc,rfl,_,_,fq⟩:=m4.at_ nY;have xq:aB w (w2.setCell ⟨eb,0,none⟩ (.slice sa es.length sc)):=afd.set (by rw[HEB.out];exact Ah _) _;have qm:(w2.setCell ⟨eb,0,none⟩ (.slice sa es.length sc)).cell? ⟨eb,0,none⟩=some (.slice sa es.length sc):=World.cell?_setCell_same _ _ _ (by rw[xo];first|done|rfl)
 obtain⟨w3,hw3⟩:=exq (w2.setCell ⟨eb,0,none⟩ (.slice sa es.length sc));clear CS aq af xm gw m4 hes HF;go_wp2_with fail
 rw[<-hw3]at fq xq qm ⊢;clear hw3 hf2 xo afd ada HSZ HGA;have HAE:=Aa fq;have HCE:=Aa qm;clear fq qm;have CR:=Aa (qM0 (λx=>x.r) _ kM1 eS1 es sa sc w3 (by omega) (HAE.out.grows (aB.refl _)));obtain⟨BR,hBR⟩:=exq (readL es);rw[show rS (es.map λx=>x.r)=BR from hBR.symm]at CR
 have HBR:=Aa hBR;have hlR:BR.length<=20000:=by rw[hBR];have:=yZ (es.map λx=>x.r);rw[Ad]at this;unfold readL;omega
 have HZR:Hid (∀s∈BR,s.size<=1099511627776):=λs hs=>by
  rw[hBR]at hs;obtain⟨x,hx,rfl⟩:=List.mem_map.1 (bN0 hs);exact(HZ.out x (HES.out x hx)).1
 clear hBR;refine CR.out.mono ?_;rintro e w4 ⟨ix,bR,ah8,rfl,hbR,hOR⟩;obtain⟨a',c',e',_,_,hAR⟩:=hOR.at_ (k:=1) (λx=>(rfl:(stC x).length=1));have e'':=(Value.slice.inj e').1;subst e'';have CLR:=Aa (uX BR (some ⟨bR,0,none⟩) ah8 w4 (by omega) HZR.out (λq hq=>by cases hq;exact hbR) hAR);clear CR e' hAR hOR hbR HZR;go_wp2_with fail
 refine CLR.out.mono ?_;rintro e w5 ⟨dh,hTR⟩;clear CLR;have g5:=aB.trans _ _ _ ix dh;clear ix dh;rcases hTR with ⟨hkR,tr,rfl,hTR,_⟩|⟨hkR,rfl⟩
 ·have HTR:=Aa hTR
  have HKR:=Aa hkR;have abf:=g5.cell HCE.out;clear hTR hkR;go_wp2_with fail
  have CS:=Aa (qM0 (λx=>x.s) _ lA1 eV1 es sa sc w5 (by omega) (HAE.out.grows g5));obtain⟨BS,hBS⟩:=exq (dC es);rw[show rS (es.map λx=>x.s)=BS from hBS.symm]at CS
  have HBS:=Aa hBS;have hlS:BS.length<=20000:=by rw[hBS];have:=yZ (es.map λx=>x.s);rw[Ad]at this;unfold dC;omega
  have HZS:Hid (∀s∈BS,s.size<=1099511627776):=λs hs=>by
   rw[hBS]at hs;obtain⟨x,hx,rfl⟩:=List.mem_map.1 (bN0 hs);exact(HZ.out x (HES.out x hx)).2
  clear hBS;refine CS.out.mono ?_;rintro e w6 ⟨qn,bS,ah9,rfl,hbS,hOS⟩;obtain⟨a',c',e',_,_,hAS⟩:=hOS.at_ (k:=1) (λx=>(rfl:(stC x).length=1));have e'':=(Value.slice.inj e').1;subst e'';have CLS:=Aa (uX BS (some ⟨bS,0,none⟩) ah9 w6 (by omega) HZS.out (λq hq=>by cases hq;exact hbS) hAS);clear CS e' hAS hOS hbS;go_wp2_with fail
  refine CLS.out.mono ?_;rintro e w7 ⟨qo,hTS⟩;clear CLS;have g7:=aB.trans _ _ _ g5 (aB.trans _ _ _ qn qo);have G57:=Aa (aB.trans _ _ _ qn qo);clear qn qo abf;rcases hTS with ⟨hkS,ts,rfl,hTS,_⟩|⟨hkS,rfl⟩
  ·have HTS:=Aa hTS
   have HKS:=Aa hkS;have q6:=@run_makeMap Tryz.prog;have CLn:=λW h=>Aa (xQ (bls BS) ts W (hTS.grows (w':=W) h));obtain⟨w8,hw8⟩:=exq ((w7.alloc (.map #[] 0)).alloc (.cells #[.map (some w7.heap.size)] 173));have fg:aB w7 w8:=by rw[hw8];exact(aB.alloc _ _).al _
   have rr:=(World.ownsMap_made w7 Tryz.prog 9 (plainElem (H:=Unit) Tryz.prog 3)).alloc (.cells #[.map (some w7.heap.size)] 173);rw[<-hw8]at rr
   have qp:w8.cell? ⟨w7.heap.size+1,0,none⟩=some (.map (some w7.heap.size)):=by
    rw[hw8];have ed:(w7.alloc (.map #[] 0)).heap.size=w7.heap.size+1:=by simp
    have h:=aT (w7.alloc (.map #[] 0)) #[.map (some w7.heap.size)] 173 (0,0) 0 _ rfl;rw[ed]at h;exact h
   obtain⟨afe,aff,hcS⟩:=eH hkS;have gn:(bls BS).length=BS.length:=by unfold bls;rw[Ad]
   have CT:=λk W h hk=>Aa (gL0 (bls BS) ts k W afe aff hcS hk (hTS.grows (w':=W) h))
   have HGT:Hid (∀k,k<BS.length->BS[k]?=some (mkB (nth (bls BS) k))):=λk hk=>by
    rw[HBS.out]at hk ⊢;exact iG1 hk
   have HND:Hid BS.Nodup:=by rw[HBS.out];exact mZ _
   rw[gn]at CT CLn;clear hTS hkS afe aff hcS gn;go_wp2_with fail
   rw[<-hw8];have CL8:=CLn w8 fg;clear CLn;obtain⟨mp,hmp⟩:=exq w7.heap.size;obtain⟨ib,qk⟩:=exq (mp+1);rw[<-hmp,<-qk]at qp ⊢;rw[<-hmp]at rr;have HMP:=Aa hmp;have HIB:=Aa qk;clear hw8 q6 hmp qk;refine CL8.out.mono ?_;rintro e w9 ⟨rfl,rfl⟩;clear CL8;go_wp2_with fail
   go_loopw [54] (λi wr=>∃(k:Nat) (D:DataW Unit),k<=BS.length/\i=.int .i64 k/\wr.cell? ⟨ib,0,none⟩=some (.map (some mp))/\wr.ownsMap Tryz.prog 9 (plainElem Tryz.prog 3) mp k D/\Hid (IdM BS k D)/\aB w7 wr) (λi _=>BS.length-(intOf i).toNat)
   case atStart=>exact⟨0,_,Bp _,rfl,qp,rr,gS1 _ _,fg⟩
   case round =>
    clear qp rr fg;obtain⟨k,D,hk,rfl,ci,aa,hM,hg⟩:=hrel;by_cases ae:k<BS.length
    ·have CT1:=CT k wr hg ae
     obtain⟨sk,hsk⟩:=exq (mkB (nth (bls BS) k));have s5:=HGT.out k ae;rw[<-hsk]at CT1 s5;have aia:sk.size<=maxLen:=Au (HZS.out sk (Ae s5)) (by unfold maxLen;omega);have HBK:=Aa s5;have cn:(k:Int)<BS.length:=by omega
     have hwk:=oR1 (k:=k) (by omega);have hkm:k<maxLen:=by unfold maxLen;omega
     clear CT hsk s5;go_wp2_with fail
     refine CT1.out.mono ?_;rintro e w10 ⟨rfl,lq⟩;have lr:=lq.cell ci;have ai:=aJ aa lq;have af:=aB.trans _ _ _ hg lq;clear CT1 ci aa;go_wp2_with (at_mapUpdate;refine wpList_mapUpdate_own _ rfl _ _ _ 173 rfl 9 3 (Maps.string_keyed Tryz.underlying9) Tryz.underlying173 _ mp k D rfl ai hkm _ _ (.string sk.data.toList) rfl rfl (WideMaps.keyOf_string_mk Tryz.underlying9 aia) _ [] (plainElem_int Tryz.underlying3 hwk) ?_;intro xh abg m7)
     have zz:=Aa (kO1 hM.out ai HND.out HBK.out);have aib:xh.cell? ⟨ib,0,none⟩=some (.map (some mp)):=aU m7 lr (by rw[HIB.out];simp);have ay:=af.grown m7 (λq hq=>by cases hq;rw[HMP.out];exact Ah _);clear lr ai hM hg af lq m7;go_roundw
     case rel=>exact⟨k+1,_,ae,by go_num,aib,abg,zz,ay⟩
     case measure=>simp[intOf];omega
    ·obtain rfl:k=BS.length:=by omega
     have HID:Hid (jD1 wr ib BS):=⟨_,_,_,ci,aa,hM.out⟩;clear CT ci aa hM HND HGT;go_wp2_with fail
     have G20:=Aa (aB.trans _ _ _ g7 hg);have adb:=aB.trans _ _ _ xq (aB.trans _ _ _ g7 hg);have CPE:=Aa (sE0 p pa pc wr hv (HPT.out.grows adb));have G5r:=Aa (aB.trans _ _ _ G57.out hg);have G7r:=Aa hg;clear hg g7 g5;refine CPE.out.mono ?_;rintro e w21 ⟨v1,rfl,ie,xu⟩;clear CPE;have rs:=xu.cell (G20.out.cell HCE.out);have CI:=Aa (yU tK _ lQ1 dT1 es sa sc w21 (by omega) (HAE.out.grows (aB.trans _ _ _ G20.out xu)));have HV1:=Aa ie;clear ie;go_wp2_with fail
     refine CI.out.mono ?_;rintro e ky ⟨abw,v2,rfl,gw⟩;clear CI;have HV2:=Aa gw;have ru:=abw.cell rs;have lk:=λ(Y:World)=>gQ1 es.length Y (by omega);have G22:=Aa (aB.trans _ _ _ xu abw);have G2122:=Aa abw;have HS21:Hid (w.heap.size<=w21.heap.size):=Au adb.size xu.size;clear gw rs xu abw;go_wp2_with fail
     have bg:=eJ0 (w:=ky) (n:=es.length) (by omega);have hrl:(Ag es.length).length=es.length:=Ak;rw[Nat.mul_one]at bg;have mj:List.replicate es.length 0=lZ (Ag es.length) 0 0:=by rw[qG,hrl]
     rw[mj]at bg;clear mj;obtain⟨w23,abx⟩:=exq (ky.alloc (.cells (madeCells #[.int .i64 0] es.length) 3));have afg:aB ky w23:=by rw[abx];exact aB.alloc _ _
     have xv:ky.heap.size<w23.heap.size:=by rw[abx];simp
     rw[<-abx]at bg ⊢;obtain⟨ob,se⟩:=exq ky.heap.size;rw[<-se]at xv ⊢;have xw:aV w23 ky.heap.size 3 1 lJ (.slice (some ⟨ob,0,none⟩) es.length es.length) (lZ (Ag es.length) 0 0):=by rw[se];exact bg
     have HOB:=Aa se;have afh:ky.heap.size<=ob:=by rw[se];exact Ah _
     have HOBE:=Aa afh
     have X22:Aside (jD1 ky ib BS/\ky.cell? ⟨eb,0,none⟩=some (.slice sa es.length sc)/\aG ky sa 5 (es.map bF)/\eZ ky tr (bls BR)/\eZ ky ts (bls BS)/\aV ky w.heap.size 5 1 aZ v1 (posE p)/\aV ky w.heap.size 3 1 lJ v2 (iX tK es es.length)/\gJ ky mb bm m/\Env ky/\aB w ky):=by
      have g1:=aB.trans _ _ _ G20.out G22.out;have g0:=aB.trans _ _ _ xq g1;exact⟨HID.out.grows G22.out,ru,HAE.out.grows g1,HTR.out.grows (aB.trans _ _ _ G5r.out G22.out),HTS.out.grows (aB.trans _ _ _ G7r.out G22.out),(HV1.out.grows G2122.out).base adb.size,HV2.out.base HS21.out,HM.out.grows g0,HE.out.grows g0,g0⟩
     clear abx bg lk ru se afh;go_loopw [79] (λi wr=>∃(k:Nat),k<=es.length/\i=.int .i64 k/\Hid (aV wr ky.heap.size 3 1 lJ (.slice (some ⟨ob,0,none⟩) es.length es.length) (lZ (Ag es.length) 0 k))/\aB ky wr/\ob<wr.heap.size) (λi _=>es.length-(intOf i).toNat)
     case atStart=>exact⟨0,Bp _,rfl,xw,afg,xv⟩
     case round =>
      clear xw afg xv;obtain⟨k,hk,rfl,aa,hg,hol⟩:=hrel;by_cases ae:k<es.length
      ·have cn:(k:Int)<es.length:=by omega
       obtain⟨z,hz⟩:∃z,(lZ (Ag es.length) 0 k)[k]?=some z:=⟨_,Ab (by rw[mG _ _ (by omega)];omega)⟩;have e1:=cU (f:=λn:Nat=>Value.int .i64 n) aa.out hz;obtain⟨f1,_,au⟩:=eP (f:=λn:Nat=>Value.int .i64 n) aa.out (k:=k) (by rw[mG _ _ (by omega)];omega) k;rw[sR (Am ae)]at au;have HO:=Aa au;clear hz aa au;go_wp2_with fail
       go_roundw
       case rel=>exact⟨k+1,ae,by go_num,HO.out,hg.set HOBE.out _,by simpa using hol⟩
       case measure=>simp[intOf];omega
      ·obtain rfl:k=es.length:=by omega
       have ai:aV wr ky.heap.size 3 1 lJ (.slice (some ⟨ob,0,none⟩) es.length es.length) (Ag es.length):=by
        have h:=aa.out;have e9:=tI (Ag es.length) 0;rw[Ak]at e9;rwa [e9]at h
       have HMS:Hid (∀x∈es,x.s∈BS):=λx hx=>by rw[HBS.out];exact eU0 (List.mem_map_of_mem hx)
       have OA:=Aa (oC1 (es:=es) (BS:=BS) (ib:=ib) (eb:=eb) (sc:=sc) (ob:=ob) (sa:=sa) (wB:=ky) (w0:=wr) (by omega) (by omega) hg HOBE.out X22.out.1 X22.out.2.1 X22.out.2.2.1 ai hol HMS.out (λx hx=>Au (HZ.out x (HES.out x hx)).2 (by unfold maxLen;omega)));have CSS:=Aa (cC0 OA.out.1 es.length (Ag es.length).toArray wr (by simp) (λi hi=>by unfold Fd;simp[hi]) OA.out.2);clear aa ai;go_wp2_with fail
       refine CSS.out.mono ?_;rintro e w30 ⟨rfl,dk,sd,hwd,SD⟩;have afi:=rD0 hg HOBE.out SD;have HL:=Aa (fD1 (_wB:=ky) sd hwd HMS.out OA.out.1.row SD);have aaa:=afi.cell X22.out.2.1;clear CSS SD sd hwd OA hg hol;obtain⟨O,hO⟩:=exq (dI (nL BS es) es.length BS.length);rw[<-hO]at HL;have HO:=Aa hO;obtain⟨so,hso⟩:=exq (O.map λi=>es.getD i enZero);have HSO2:=Aa hso;have afj:so.length=es.length:=by rw[hso,Ad];exact HL.out.2.1
       have HG30:=Aa afi;obtain⟨iu,hiu,hzu,hsu,qg⟩:=oL1;clear hO hso;go_wp2_with (at_make;refine wpList_make_full _ rfl _ _ 28 rfl w30.heap.size 62 iu enZero.agg 5 Tryz.underlying28 hiu hzu hsu .i64 .i64 _ _ es.length rfl rfl rfl rfl (by rw[qg];omega) (by unfold maxLen;omega) (Ah _) ?_;intro w31 qq aaw)
       have afk:=(aB.refl w30).grown aaw (λq hq=>by cases hq);obtain⟨sb,l7⟩:=exq w30.heap.size;rw[<-l7]at qq ⊢;obtain⟨hS0,_⟩:=lZ0.made (so:=so) qq;have afl:w30.heap.size<=sb:=by rw[l7];exact Ah _
       have HSBE:=Aa afl;clear qq aaw l7 afl hiu hzu hsu qg aaa;go_wp2_with fail
       go_loopw [95] (λi wr=>∃(k:Nat),k<=es.length/\i=.int .i64 k/\lZ0 wr sb es.length so k/\aB w30 wr) (λi _=>es.length-(intOf i).toNat)
       case atStart=>exact⟨0,Bp _,rfl,hS0,afk⟩
       case round =>
        clear hS0 afk;obtain⟨k,hk,rfl,hS,hg⟩:=hrel;by_cases ae:k<es.length
        ·obtain⟨o,ho⟩:∃o,O[k]?=some o:=⟨_,Ab (by rw[HL.out.2.1];exact ae)⟩
         have hoe:=HL.out.2.2 o (Ae ho);obtain⟨b1,o1,e1,ml⟩:=at1 (f:=λn:Nat=>Value.int .i64 n) HL.out.1 (aK (List.getElem?_eq_some_iff.1 ho).1);obtain⟨rfl,rfl⟩:ob=b1/\0=o1:=by simpa using e1
         have hoc:=hg.cell (ml k o ho);rw[Bf]at hoc;obtain⟨⟨xr,xs,xl,xt,xc⟩,hx⟩:∃x,es[o]?=some x:=⟨_,Ab hoe⟩;have gr:=aB.trans _ _ _ HG30.out hg;have hec:=gr.cell X22.out.2.1;obtain⟨ba,oa,rfl,bj⟩:=(X22.out.2.2.1.grows gr).get (aK hoe);have c0:wr.cell? ⟨ba,oa+o*5,none⟩=some (.string xr):=bj o _ hx 0 _ rfl;have c1:wr.cell? ⟨ba,oa+o*5+1,none⟩=some (.string xs):=bj o _ hx 1 _ rfl;have c2:wr.cell? ⟨ba,oa+o*5+2,none⟩=some (.int .i64 xl):=bj o _ hx 2 _ rfl;have c3:wr.cell? ⟨ba,oa+o*5+3,none⟩=some (.int .i64 xt):=bj o _ hx 3 _ rfl;have c4:wr.cell? ⟨ba,oa+o*5+4,none⟩=some (.int .i64 xc):=bj o _ hx 4 _ rfl
         have hsk:so[k]?=some ⟨xr,xs,xl,xt,xc⟩:=by
          rw[HSO2.out,Ai,ho];simp only[Cf];rw[Ac,hx];rfl
         have HST:=Aa (hS.step ae hsk);obtain⟨q0,d0⟩:=hS.cell (j:=k*5) (by omega);have S1:=hS.set (j:=k*5) (Ah _) (.string xr);obtain⟨q1,d1⟩:=S1.cell (j:=k*5+1) (by omega);have S2:=S1.set (j:=k*5+1) (by omega) (.string xs);obtain⟨q2,d2⟩:=S2.cell (j:=k*5+2) (by omega);have S3:=S2.set (j:=k*5+2) (by omega) (.int .i64 xl);obtain⟨q3,d3⟩:=S3.cell (j:=k*5+3) (by omega);have S4:=S3.set (j:=k*5+3) (by omega) (.int .i64 xt);obtain⟨q4,d4⟩:=S4.cell (j:=k*5+4) (by omega);have f0:=hS.froz (k*5);have f1:=hS.froz (k*5+1);have f2:=hS.froz (k*5+2);have f3:=hS.froz (k*5+3);have f4:=hS.froz (k*5+4);have hoi:(o:Int)<es.length:=by omega
         have cn:(k:Int)<es.length:=by omega
         clear ho ml hx bj hsk hS e1 S1 S2 S3 S4;go_wp2_with fail
         go_roundw
         case rel=>exact⟨k+1,ae,by go_num,HST.out,((((hg.set HSBE.out _).set HSBE.out _).set HSBE.out _).set HSBE.out _).set HSBE.out _⟩
         case measure=>simp[intOf];omega
        ·obtain rfl:k=es.length:=by omega
         rw[<-afj]at hS;have hSA:=hS.at_;go_wp2_with fail
         have CI2:=Aa (yU lW0 _ kS1 eL1 so (some ⟨sb,0,none⟩) es.length wr (by omega) hSA);rw[afj]at CI2;refine CI2.out.mono ?_;rintro e w40 ⟨adc,v4,rfl,hv4⟩;obtain⟨a4,c4,rfl,_,_,xx⟩:=hv4.at_ (k:=1) (λx=>(rfl:(lJ x).length=1));have HAT4:=Aa xx;have F40:=Aa (aB.refl w40);have G40:=Aa (aB.trans _ _ _ HG30.out (aB.trans _ _ _ hg adc));have HO40:=Aa (HL.out.1.grows (aB.trans _ _ _ hg adc));obtain⟨v2a,v2c,rfl,_,_,jo⟩:=X22.out.2.2.2.2.2.2.1.at_ (k:=1) (λx=>(rfl:(lJ x).length=1));have HAT2:=Aa jo;obtain⟨a40,c40,rfl,aax,afm⟩:=fD X22.out.2.2.2.2.2.1;have PP40:=Aa (And.intro (aax.grows G40.out) afm);clear aax afm;have aee:=G40.out.cell X22.out.2.1;clear CI2 adc hv4 xx jo hg hS hSA;go_wp2_with fail
         refine(sJ0 w40 mb bm m (X22.out.2.2.2.2.2.2.2.1.grows G40.out)).mono ?_;rintro e w41 ⟨v41,rfl,afn,aby⟩;obtain⟨a41,c41,rfl,aay,afo⟩:=fD afn;have PP41:=Aa (And.intro aay afo);have G41:=Aa (aB.trans _ _ _ G40.out aby);have E41:=Aa aby;have F41:=Aa (aB.trans _ _ _ F40.out aby);clear afn aay afo aby;go_wp2_with fail
         obtain⟨okR,lR,cR⟩:=eH HKR.out;obtain⟨okS,lS,cS⟩:=eH HKS.out;refine(eX0 (bls BR) tr w41 okR lR cR (X22.out.2.2.2.1.grows G41.out)).mono ?_;rintro e w42 ⟨v42,rfl,afp,abz⟩;obtain⟨a42,c42,rfl,aaz,afq⟩:=fD afp;have PP42:=Aa (And.intro aaz afq);have G42:=Aa (aB.trans _ _ _ G41.out abz);have E42:=Aa abz;have F42:=Aa (aB.trans _ _ _ F41.out abz);clear afp aaz afq abz;go_wp2_with fail
         have sw:=bM0 tK es es.length;have akb:=bM0 lW0 so es.length;obtain⟨_,_,_,qh⟩:=eU HCH.out;have aeq:=(eV hv).1
         have HNN:Hid (∀x∈es,0<=x.l/\x.l<64/\0<=x.t/\x.t<64/\0<=x.c/\x.c<=30000):=λx hx=>by
          have:=rI (qh x (HES.out x hx));omega
         have HMZ:Hid (∀x∈es,x.s.size<=maxLen):=λx hx=>Au (HZ.out x (HES.out x hx)).2 (by unfold maxLen;omega);clear qh;refine(oF (iX tK es es.length) v2a v2c w42 (by omega) (λn hn=>by have:=kP hn;omega) (HAT2.out.grows G42.out)).mono ?_;rintro e w43 ⟨v43,rfl,afr,ab0⟩;obtain⟨a43,c43,rfl,aa0,afs⟩:=fD afr;have PP43:=Aa (And.intro aa0 afs);have G43:=Aa (aB.trans _ _ _ G42.out ab0);have E43:=Aa ab0;have F43:=Aa (aB.trans _ _ _ F42.out ab0);clear afr aa0 afs ab0;go_wp2_with fail
         refine(eX0 (bls BS) ts w43 okS lS cS (X22.out.2.2.2.2.1.grows G43.out)).mono ?_;rintro e w44 ⟨v44,rfl,aft,ab1⟩;obtain⟨a44,c44,rfl,aa1,afu⟩:=fD aft;have PP44:=Aa (And.intro aa1 afu);have G44:=Aa (aB.trans _ _ _ G43.out ab1);have E44:=Aa ab1;have F44:=Aa (aB.trans _ _ _ F43.out ab1);clear aft aa1 afu ab1;have aab:=G44.out.cell X22.out.2.1;go_wp2_with fail
         refine(qT (yD BS) _ #[.pointer (some ⟨ib,0,none⟩)] kT1 es eb sa sc w44 (by omega) (λx hx=>by have:=rH (HMS.out x hx);omega) (X22.out.2.2.1.grows G44.out) aab (λx hx W hW=>hD1 BS ib (yD BS x) x W (X22.out.1.grows (aB.trans _ _ _ G44.out hW)) (lT (HMS.out x hx)) (HMZ.out x hx))).mono ?_;rintro e w45 ⟨ab2,v45,rfl,afv⟩;obtain⟨a45,c45,rfl,aa2,afw⟩:=fD afv;have PP45:=Aa (And.intro aa2 afw);have G45:=Aa (aB.trans _ _ _ G44.out ab2);have E45:=Aa ab2;have F45:=Aa (aB.trans _ _ _ F44.out ab2);clear afv aa2 afw ab2;have aac:=G45.out.cell X22.out.2.1;go_wp2_with fail
         refine(qT (λx=>x.l.toNat) _ #[] mG1 es eb sa sc w45 (by omega) (λx hx=>by have:=HNN.out x hx;show x.l.toNat<_;omega) (X22.out.2.2.1.grows G45.out) aac (λx hx W hW=>by rw[show ((x.l.toNat:Nat):Int)=x.l from Ap (HNN.out x hx).1];exact iC1 x W)).mono ?_
         rintro e w46 ⟨ab3,v46,rfl,afx⟩;obtain⟨a46,c46,rfl,aa3,afy⟩:=fD afx;have PP46:=Aa (And.intro aa3 afy);have G46:=Aa (aB.trans _ _ _ G45.out ab3);have E46:=Aa ab3;have F46:=Aa (aB.trans _ _ _ F45.out ab3);clear afx aa3 afy ab3;have aad:=G46.out.cell X22.out.2.1;go_wp2_with fail
         refine(qT (λx=>x.t.toNat) _ #[] lX1 es eb sa sc w46 (by omega) (λx hx=>by have:=HNN.out x hx;show x.t.toNat<_;omega) (X22.out.2.2.1.grows G46.out) aad (λx hx W hW=>by rw[show ((x.t.toNat:Nat):Int)=x.t from Ap (HNN.out x hx).2.2.1];exact eO1 x W)).mono ?_
         rintro e w47 ⟨ab4,v47,rfl,afz⟩;obtain⟨a47,c47,rfl,aa4,af0⟩:=fD afz;have PP47:=Aa (And.intro aa4 af0);have G47:=Aa (aB.trans _ _ _ G46.out ab4);have E47:=Aa ab4;have F47:=Aa (aB.trans _ _ _ F46.out ab4);clear afz aa4 af0 ab4;have aae:=G47.out.cell X22.out.2.1;go_wp2_with fail
         refine(qT (λx=>x.c.toNat) _ #[] eQ1 es eb sa sc w47 (by omega) (λx hx=>by have:=HNN.out x hx;show x.c.toNat<_;omega) (X22.out.2.2.1.grows G47.out) aae (λx hx W hW=>by rw[show ((x.c.toNat:Nat):Int)=x.c from Ap (HNN.out x hx).2.2.2.2.1];exact zS0 x W)).mono ?_
         rintro e w48 ⟨ab5,v48,rfl,af1⟩;obtain⟨a48,c48,rfl,aa5,af2⟩:=fD af1;have PP48:=Aa (And.intro aa5 af2);have G48:=Aa (aB.trans _ _ _ G47.out ab5);have E48:=Aa ab5;have F48:=Aa (aB.trans _ _ _ F47.out ab5);clear af1 aa5 af2 ab5;have CO:=Aa (oF O (some ⟨ob,0,none⟩) es.length w48 (by rw[HL.out.2.1];omega) (λn hn=>by have:=HL.out.2.2 n hn;omega) (HO40.out.grows F48.out));rw[HL.out.2.1]at CO;go_wp2_with fail
         refine(CO.out).mono ?_;rintro e w49 ⟨v49,rfl,af3,ab6⟩;obtain⟨a49,c49,rfl,aa6,af4⟩:=fD af3;have PP49:=Aa (And.intro aa6 af4);have G49:=Aa (aB.trans _ _ _ G48.out ab6);have E49:=Aa ab6;have F49:=Aa (aB.trans _ _ _ F48.out ab6);clear af3 aa6 af4 ab6;go_wp2_with fail
         refine(oF (iX lW0 so es.length) a4 c4 w49 (by omega) (λn hn=>by have:=kP hn;omega) (HAT4.out.grows F49.out)).mono ?_;rintro e w50 ⟨v50,rfl,af5,ab7⟩;obtain⟨a50,c50,rfl,aa7,af6⟩:=fD af5;have PP50:=Aa (And.intro aa7 af6);have G50:=Aa (aB.trans _ _ _ G49.out ab7);have E50:=Aa ab7;have F50:=Aa (aB.trans _ _ _ F49.out ab7);clear af5 aa7 af6 ab7;go_wp2_with fail
         obtain⟨P,hP⟩:∃P:List bE,P=[⟨⟨#[112,111,115]⟩,posE p,a40,c40⟩,⟨⟨#[109,97,116,114,105,120]⟩,m.enc,a41,c41⟩,⟨⟨#[114,101,97,100,105,110,103,115]⟩,loudE (bls BR),a42,c42⟩,⟨⟨#[102,105,114,115,116]⟩,packE (iX tK es es.length),a43,c43⟩,⟨⟨#[115,117,114,102,97,99,101,115]⟩,loudE (bls BS),a44,c44⟩,⟨⟨#[115,117,114,102,97,99,101]⟩,packE (es.map (yD BS)),a45,c45⟩,⟨⟨#[108,101,102,116]⟩,packE (es.map λx=>x.l.toNat),a46,c46⟩,⟨⟨#[114,105,103,104,116]⟩,packE (es.map λx=>x.t.toNat),a47,c47⟩,⟨⟨#[99,111,115,116]⟩,packE (es.map λx=>x.c.toNat),a48,c48⟩,⟨⟨#[111,114,100,101,114]⟩,packE O,a49,c49⟩,⟨⟨#[97,116]⟩,packE (iX lW0 so es.length),a50,c50⟩]:=⟨_,rfl⟩;have hPl:P.length=11:=by rw[hP];rfl
         obtain⟨W9,hW9⟩:=exq (w50.alloc (.cells (P.flatMap lE).toArray 184))
         have hPA:jE w50 P:=by
          have T50:=aB.refl w50;have T49:=aB.trans _ _ _ E50.out T50;have T48:=aB.trans _ _ _ E49.out T49;have T47:=aB.trans _ _ _ E48.out T48;have T46:=aB.trans _ _ _ E47.out T47;have T45:=aB.trans _ _ _ E46.out T46;have T44:=aB.trans _ _ _ E45.out T45;have T43:=aB.trans _ _ _ E44.out T44;have T42:=aB.trans _ _ _ E43.out T43;have T41:=aB.trans _ _ _ E42.out T42;have T40:=aB.trans _ _ _ E41.out T41;have ok1:=eU HCH.out;rw[hP];refine⟨λq hq=>?_,λq hq=>?_,λq hq=>?_,λq hq=>?_⟩<;>simp only[List.mem_cons,List.mem_nil_iff,or_false]at hq
          ·rcases hq with rfl|rfl|rfl|rfl|rfl|rfl|rfl|rfl|rfl|rfl|rfl
           ·exact PP40.out.1.grows T40
           ·exact PP41.out.1.grows T41
           ·exact PP42.out.1.grows T42
           ·exact PP43.out.1.grows T43
           ·exact PP44.out.1.grows T44
           ·exact PP45.out.1.grows T45
           ·exact PP46.out.1.grows T46
           ·exact PP47.out.1.grows T47
           ·exact PP48.out.1.grows T48
           ·exact PP49.out.1.grows T49
           ·exact PP50.out.1.grows T50
          ·rcases hq with rfl|rfl|rfl|rfl|rfl|rfl|rfl|rfl|rfl|rfl|rfl
           ·exact PP40.out.2
           ·exact PP41.out.2
           ·exact PP42.out.2
           ·exact PP43.out.2
           ·exact PP44.out.2
           ·exact PP45.out.2
           ·exact PP46.out.2
           ·exact PP47.out.2
           ·exact PP48.out.2
           ·exact PP49.out.2
           ·exact PP50.out.2
          ·rcases hq with rfl|rfl|rfl|rfl|rfl|rfl|rfl|rfl|rfl|rfl|rfl<;>simp[ByteArray.size]
          ·rcases hq with rfl|rfl|rfl|rfl|rfl|rfl|rfl|rfl|rfl|rfl|rfl
           ·have h:=qF0 hv;show (posE p).length<=_;omega
           ·have h:=cB1 HM.out.ok;show m.enc.length<=_;omega
           ·have h:=lN0 okR lR cR;show (loudE _).length<=_;omega
           ·have h:=eG (l:=iX tK es es.length) (λn hn=>by have:=kP hn;omega);show (packE _).length<=_;omega
           ·have h:=lN0 okS lS cS;show (loudE _).length<=_;omega
           ·have h:=eG (l:=es.map (yD BS)) (λn hn=>by obtain⟨x,hx,rfl⟩:=List.mem_map.1 hn;have:=rH (HMS.out x hx);omega);rw[Ad]at h;show (packE _).length<=_;omega
           ·have h:=eG (l:=es.map λx=>x.l.toNat) (λn hn=>by obtain⟨x,hx,rfl⟩:=List.mem_map.1 hn;have:=HNN.out x hx;show x.l.toNat<_;omega);rw[Ad]at h;show (packE _).length<=_;omega
           ·have h:=eG (l:=es.map λx=>x.t.toNat) (λn hn=>by obtain⟨x,hx,rfl⟩:=List.mem_map.1 hn;have:=HNN.out x hx;show x.t.toNat<_;omega);rw[Ad]at h;show (packE _).length<=_;omega
           ·have h:=eG (l:=es.map λx=>x.c.toNat) (λn hn=>by obtain⟨x,hx,rfl⟩:=List.mem_map.1 hn;have:=HNN.out x hx;show x.c.toNat<_;omega);rw[Ad]at h;show (packE _).length<=_;omega
           ·have h:=eG (l:=O) (λn hn=>by have:=HL.out.2.2 n hn;omega);have:=HL.out.2.1;show (packE _).length<=_;omega
           ·have h:=eG (l:=iX lW0 so es.length) (λn hn=>by have:=kP hn;omega);show (packE _).length<=_;omega
         have hPC:aG W9 (some ⟨w50.heap.size,0,none⟩) 2 (P.map lE):=by
          rw[hW9];exact nI0 P w50 _ (by omega)
         have fw:aB w50 W9:=by rw[hW9];exact aB.alloc _ _
         have CJ:=Aa (pK0 P (some ⟨w50.heap.size,0,none⟩) 11 W9 (X22.out.2.2.2.2.2.2.2.2.1.grows (aB.trans _ _ _ G50.out fw)) (by omega) hPC (hPA.grows fw));rw[hPl]at CJ
         have HPB:Hid (P.map bare=imgP p m es):=by
          show _=_
          rw[hP];unfold imgP oE0 jF oE0;rw[<-HBR.out,<-HBS.out,<-HO.out,<-HSO2.out];rfl
         have ade:W9=w50.alloc (.cells (P.flatMap lE).toArray 184):=hW9;rw[hP]at ade;have HW9:=Aa ade;have CJ2:∀W,W=W9->Hid (Calls Tryz.prog 116 #[.slice (some ⟨w50.heap.size,0,none⟩) 11 11] W (rQ0 P W9)):=by rintro _ rfl;exact CJ
         have G9:=Aa fw;clear hP hW9 ade hPA hPC CJ fw;refine(CJ2 _ ?_).out.mono ?_
         ·rw[HW9.out];rfl
         rintro e w51 ⟨o6,hj1,hgJ⟩;have GW:=aB.trans _ _ _ X22.out.2.2.2.2.2.2.2.2.2 (aB.trans _ _ _ G50.out (aB.trans _ _ _ G9.out hgJ));by_cases ab8:fJ P=0
         ·obtain⟨v,rfl,hv'⟩:=o6 ab8
          clear o6 hj1;have tg:=hv'.base (aB.trans _ _ _ X22.out.2.2.2.2.2.2.2.2.2 (aB.trans _ _ _ G50.out G9.out)).size;have HV':=Aa tg;clear hv' tg;go_wp2_with fail
          go_ret2;refine cZ.join HCH.out ⟨by rw[<-HSO.out,<-HBR.out];exact HKR.out,by rw[<-HSO.out,<-HBS.out];exact HKS.out⟩ GW ?_;rw[<-HSO.out,<-HPB.out,qF,nN];exact⟨λ_=>⟨v,rfl,HV'.out⟩,λh=>absurd ab8 h⟩
         ·obtain rfl:=hj1 ab8
          clear o6 hj1;go_wp2_with fail
          go_ret2;refine cZ.join HCH.out ⟨by rw[<-HSO.out,<-HBR.out];exact HKR.out,by rw[<-HSO.out,<-HBS.out];exact HKS.out⟩ GW ?_;rw[<-HSO.out,<-HPB.out,qF,nN];exact⟨λh=>absurd h ab8,λ_=>rfl⟩
  ·have HK:=Aa hkS
   have hfi:(gU (bls BS):Int)≠0:=by omega
   obtain⟨f,hf⟩:∃f:Int,f=gU (bls BS):=⟨_,rfl⟩;rw[<-hf]at hfi ⊢;have hfb:(f != 0)=true:=by simpa using hfi
   clear hf hkS hfi;go_wp2
   go_ret2;exact cZ.long HCH.out (λh=>HK.out (by rw[HBS.out,HSO.out];exact h.2)) (aB.trans _ _ _ xq g7)
 ·have HK:=Aa hkR
  have hfi:(gU (bls BR):Int)≠0:=by omega
  obtain⟨f,hf⟩:∃f:Int,f=gU (bls BR):=⟨_,rfl⟩;rw[<-hf]at hfi ⊢;have hfb:(f != 0)=true:=by simpa using hfi
  clear hf hkR hfi;go_wp2
  go_ret2;exact cZ.long HCH.out (λh=>HK.out (by rw[HBR.out,HSO.out];exact h.1)) (aB.trans _ _ _ xq g5)
theorem tE0 (p:List cO) (mv:Value) (m:Option Mx) (l:List En) (pa a:Option Addr) (pc c:Nat) (w:World) (he:Env w) (hp:p.length<=4611686018427387904) (hl:l.length<=140737488355328) (hs:∀x∈l,uE x) (hz:∀x∈l,x.r.size<=1099511627776/\x.s.size<=1099511627776)
  (t7:aG w pa 2 (p.map bN)) (hm:dW1 w mv m) (ac:aG w a 5 (l.map bF)) :
  Calls Tryz.prog 63 #[.slice pa p.length pc,mv,.slice a l.length c] w (cZ p m l w):=by
 by_cases hc:xW p m l=0
 ·cases m with
  | none =>
   unfold xW at hc;split at hc<;>cases hc
  | some m =>
   obtain⟨mb,bm,rfl,q6⟩:=hm;exact iH0 p mb bm m l pa a pc c w he hp hs hz (by have:=eU hc;omega) (eU hc).2.2.1 t7 q6 ac hc
 ·exact tC0 p mv m l pa a pc c w he hp hl (λx hx=>by have:=hz x hx;omega) t7 hm ac hc
theorem qO {p:List cO} {m:Option Mx} {l:List En} (h:makeE p m l=0):xW p m l=0/\gU (bls (readL (sortS l)))=0/\gU (bls (dC (sortS l)))=0:=by
 unfold makeE at h;split at h
 ·rename_i hc
  split at h
  ·rename_i hk;exact⟨hc,hk⟩
  ·cases h
 ·rename_i hc;exact absurd h hc
theorem tI0 {p:List cO} {m:Option Mx} {l:List En} (h:makeE p m l≠0):rB p m l=(makeE p m l,[]):=by
 unfold rB makeE at *;by_cases hc:xW p m l=0
 ·rw[if_pos hc]at h ⊢
  rw[if_pos hc];by_cases hk:gU (bls (readL (sortS l)))=0/\gU (bls (dC (sortS l)))=0
  ·rw[if_pos hk]at h;exact absurd rfl h
  ·rw[if_neg hk]
   cases m with
   | none=>unfold xW at hc;split at hc<;>cases hc
   | some m=>simp only;rw[if_neg hk]
 ·rw[if_neg hc,if_neg hc]
theorem bC0 {p:List cO} {m:Mx} {l:List En} (h:makeE p (some m) l=0) (xy:fJ (imgP p m (sortS l))=0):rB p (some m) l=(0,file14 (imgP p m (sortS l))):=by
 obtain⟨h1,h2⟩:=qO h;unfold rB;rw[if_pos h1];simp only;rw[if_pos h2,if_pos xy]
theorem mK1 {p:List cO} {m:Mx} {l:List En} (hm:m.OK) (hl:l.length<=300) (h:makeE p (some m) l=0):fJ (imgP p m (sortS l))=0:=by
 obtain⟨h1,h2,h3⟩:=qO h;obtain⟨n1,n2,n3,n4⟩:=eU h1;have hp:=(eV n3).1;refine yH0 hm n3 (Au (qC0 l) hl) h2 h3 λx hx=>?_
 have:=rI (n4 x (fB0 hx))
 omega
end
section
open Go Go.RowKit Go.Shelf
structure gN (w:World) (db:Nat) (p:List cO) (m:Mx) (es:List En):Prop where
 p:∃vP,w.cell? ⟨db,0,none⟩=some vP/\aV w 0 110 2 bN vP p
 m:∃mb bm,w.cell? ⟨db,1,none⟩=some (.pointer (some ⟨mb,0,none⟩))/\gJ w mb bm m
 r:∃tb,w.cell? ⟨db,2,none⟩=some (.pointer (some ⟨tb,0,none⟩))/\eZ w tb (bls (readL es))
 s:∃tb,w.cell? ⟨db,3,none⟩=some (.pointer (some ⟨tb,0,none⟩))/\eZ w tb (bls (dC es))
 f:∃pb,w.cell? ⟨db,4,none⟩=some (.pointer (some ⟨pb,0,none⟩))/\nD w pb (iX tK es es.length)
 i:∃pb,w.cell? ⟨db,5,none⟩=some (.pointer (some ⟨pb,0,none⟩))/\nD w pb (es.map (yD (dC es)))
 l:∃pb,w.cell? ⟨db,6,none⟩=some (.pointer (some ⟨pb,0,none⟩))/\nD w pb (es.map λx=>x.l.toNat)
 t:∃pb,w.cell? ⟨db,7,none⟩=some (.pointer (some ⟨pb,0,none⟩))/\nD w pb (es.map λx=>x.t.toNat)
 c:∃pb,w.cell? ⟨db,8,none⟩=some (.pointer (some ⟨pb,0,none⟩))/\nD w pb (es.map λx=>x.c.toNat)
 o:∃pb,w.cell? ⟨db,9,none⟩=some (.pointer (some ⟨pb,0,none⟩))/\nD w pb (oE0 es)
 a:∃pb,w.cell? ⟨db,10,none⟩=some (.pointer (some ⟨pb,0,none⟩))/\nD w pb (iX lW0 (jF es) es.length)
theorem gN.grows {w w':World} {db:Nat} {p:List cO} {m:Mx} {es:List En} (h:gN w db p m es) (hg:aB w w'):gN w' db p m es where
 p:=let ⟨v,h1,h2⟩:=h.p;⟨v,hg.cell h1,h2.grows hg⟩
 m:=let ⟨a,b,h1,h2⟩:=h.m;⟨a,b,hg.cell h1,h2.grows hg⟩
 r:=let ⟨v,h1,h2⟩:=h.r;⟨v,hg.cell h1,h2.grows hg⟩
 s:=let ⟨v,h1,h2⟩:=h.s;⟨v,hg.cell h1,h2.grows hg⟩
 f:=let ⟨v,h1,h2⟩:=h.f;⟨v,hg.cell h1,h2.grows hg⟩
 i:=let ⟨v,h1,h2⟩:=h.i;⟨v,hg.cell h1,h2.grows hg⟩
 l:=let ⟨v,h1,h2⟩:=h.l;⟨v,hg.cell h1,h2.grows hg⟩
 t:=let ⟨v,h1,h2⟩:=h.t;⟨v,hg.cell h1,h2.grows hg⟩
 c:=let ⟨v,h1,h2⟩:=h.c;⟨v,hg.cell h1,h2.grows hg⟩
 o:=let ⟨v,h1,h2⟩:=h.o;⟨v,hg.cell h1,h2.grows hg⟩
 a:=let ⟨v,h1,h2⟩:=h.a;⟨v,hg.cell h1,h2.grows hg⟩
structure cK (p:List cO) (m:Mx) (es:List En):Prop where
 chk:xW p (some m) es=0
 idem:sortS es=es
 rd:gU (bls (readL es))=0
 sf:gU (bls (dC es))=0
theorem cK.srt {p:List cO} {m:Mx} {es:List En} (h:cK p m es):iL es:=by
 have:=(dQ es).1
 rwa [h.idem]at this
theorem cK.len {p:List cO} {m:Mx} {es:List En} (h:cK p m es):es.length<=20000:=(eU h.chk).2.1
theorem cK.num {p:List cO} {m:Mx} {es:List En} (h:cK p m es):∀x∈es,0<=x.l/\x.l<p.length/\0<=x.t/\x.t<p.length/\0<=x.c/\x.c<=30000:=λx hx=>rI ((eU h.chk).2.2.2 x hx)
theorem cK.okR {p:List cO} {m:Mx} {es:List En} (h:cK p m es):OkL (bls (readL es)):=(eH h.rd).1
theorem cK.okS {p:List cO} {m:Mx} {es:List En} (h:cK p m es):OkL (bls (dC es)):=(eH h.sf).1
theorem fP1 {p:List cO} {m:Option Mx} {l l':List En} (hl:l'.length<=l.length) (hm:∀x∈l',x∈l) (h:xW p m l=0):xW p m l'=0:=by
 cases m with
 | none =>
  unfold xW at h ⊢;split at h
  ·cases h
  ·cases h
 | some m =>
  obtain⟨h1,h2,h3,h4⟩:=eU h;unfold xW;rw[if_neg (by simpa using h3)];simp only;rw[if_pos h1,if_neg (by omega)]
  have key:∀ {l:List En},(∀x∈l,mQ x p.length=0)->jP p.length l=0:=λ{l} hk=>by
   induction l with
   | nil=>rfl
   | cons x l ih =>
    unfold jP;rw[if_pos (hk x (by simp))];exact ih λy hy=>hk y (by simp[hy])
  exact key λx hx=>h4 x (hm x hx)
theorem mO0 (l:List En):sortS (sortS l)=sortS l:=by
 refine yJ.unique (l:=sortS l) (dQ _) ⟨(dQ l).1,λy=>⟨λhy=>⟨hy,λz hz hk=>?_⟩,λh=>h.1⟩⟩;exact((dQ l).2 y |>.1 hy).2 z (((dQ l).2 z).1 hz).1 hk
theorem sortS_nodup (l:List En):(sortS l).Nodup:=(dQ l).1.imp λ{a b} h e=>by
 subst e;exact absurd h (by rw[fA];decide)
theorem zH {p:List cO} {m:Mx} {l:List En} (h:makeE p (some m) l=0):cK p m (sortS l):=by
 obtain⟨h1,h2,h3⟩:=qO h;exact⟨fP1 (qC0 l) (λx hx=>fB0 hx) h1,mO0 l,h2,h3⟩
theorem cK.make {p:List cO} {m:Mx} {es:List En} (h:cK p m es):makeE p (some m) es=0:=by
 unfold makeE;rw[if_pos h.chk,h.idem,if_pos ⟨h.rd,h.sf⟩]
end
section
open Go Go.RowKit
theorem iF0 {α:Type} {p q:α->Bool}:∀ {l:List α},(∀x∈l,p x=true->q x=false)->(l.filter λx=>p x||q x).Perm (l.filter p++l.filter q)
 | [],_=>List.Perm.nil
 | x::l,h=>by
  have ih:=iF0 (l:=l) λy hy=>h y (by simp[hy]);have hx:=h x (by simp)
  cases hp:p x with
  | true =>
   rw[Aj,Aj,Aj,hp,hx hp];simpa using ih
  | false =>
   cases hq:q x with
   | true =>
    rw[Aj,Aj,Aj,hp,hq];simp only[Bool.or_true,if_true,Bool.false_eq_true,if_false];exact(ih.cons x).trans List.perm_middle.symm
   | false =>
    rw[Aj,Aj,Aj,hp,hq];simpa using ih
theorem lV0 (es:List En) (g:En->ByteArray) (s:ByteArray):∀m,m<=s.size+1->((Ag m).flatMap λn=>es.filter λx=>decide (g x=lX0 s n)).Perm (es.filter λx=>hO0 s (g x)&&decide ((g x).size<m))
 | 0,_=>by simp
 | m+1,hm=>by
  rw[List.range_succ,Bs,By,List.flatMap_nil,List.append_nil];have h1:=(lV0 es g s m (by omega)).append_right (es.filter λx=>decide (g x=lX0 s m));refine h1.trans ((iF0 (l:=es) (p:=λx=>hO0 s (g x)&&decide ((g x).size<m)) (q:=λx=>decide (g x=lX0 s m)) ?_).symm.trans ?_)
  ·intro x _ hx
   simp only[Ax,decide_eq_true_eq]at hx;rw[decide_eq_false_iff_not,pM0 (by omega)];omega
  ·refine List.Perm.of_eq (An λx _=>?_)
   rw[Az];simp only[Bool.or_eq_true,Ax,decide_eq_true_eq,pM0 (show m<=s.size by omega)]
   constructor
   ·rintro(⟨a,b⟩|⟨a,b⟩)
    ·exact⟨a,by omega⟩
    ·exact⟨a,by omega⟩
   ·rintro⟨a,b⟩
    rcases Be (g x).size m with c|c
    ·exact Or.inl ⟨a,c⟩
    ·exact Or.inr ⟨a,by omega⟩
theorem eG1 (es:List En) (g:En->ByteArray) (s:ByteArray) (h:∀x∈es,(g x).size<=256):((Ag (min s.size 256+1)).flatMap λn=>es.filter λx=>decide (g x=lX0 s n)).Perm (es.filter λx=>hO0 s (g x)):=by
 refine(lV0 es g s (min s.size 256+1) (by omega)).trans (List.Perm.of_eq (An λx hx=>?_));rw[Az];simp only[Ax,decide_eq_true_eq];constructor
 ·exact λh=>h.1
 ·intro hb
  have:=lY1 hb
  have:=h x hx
  exact⟨hb,by omega⟩
theorem cK.len_r {p:List cO} {m:Mx} {es:List En} (h:cK p m es):∀x∈es,x.r.size<=256:=λx hx=>by
 obtain⟨j,hj⟩:=List.mem_iff_getElem?.1 (pI hx)
 have:=h.okR.len _ (Ae (uU hj))
 rwa [dJ]at this
theorem cK.len_s {p:List cO} {m:Mx} {es:List En} (h:cK p m es):∀x∈es,x.s.size<=256:=λx hx=>by
 obtain⟨j,hj⟩:=List.mem_iff_getElem?.1 (nG hx)
 have:=h.okS.len _ (Ae (uU hj))
 rwa [dJ]at this
theorem cK.pref_perm {p:List cO} {m:Mx} {es:List En} (h:cK p m es) (s:ByteArray):(kX0 es s).Perm (es.filter λx=>hO0 s x.r):=eG1 es (·.r) s h.len_r
theorem zX0 (C:List (List UInt8)) (i n:Nat):((uP C).drop i).take n=uP ((C.drop i).take n):=by
 unfold uP;rw[List.map_take,Ci]
theorem uO {C:List (List UInt8)} (hC:iQ C) (i j:Nat):runesBytes ((((uP C).drop i).take (j-i)).map λn:Nat=>(n:Int))=ptC C i j:=by
 rw[zX0,xJ ((hC.drop i).take _)];rfl
theorem oQ1 (C:List (List UInt8)) (i:Nat):dG1 (uP C) i=cD1 C i:=by
 unfold dG1 cD1 uP;rw[<-Ci,List.takeWhile_map,Ad];rfl
theorem oT1 (C:List (List UInt8)) (i:Nat):((uP C)[i]?.map tR).getD false=xO C i:=by
 unfold xO uP;rw[Ai,Option.map_map];rfl
theorem kY1 (C:List (List UInt8)) (pl:Int) (i:Nat):(sC0 (uP C) i).map (λx=>cJ0 C pl i x.1 x.2)=nQ0 C pl i:=by
 unfold sC0 nQ0;rw[oQ1,oT1,Ay];congr 1
 split<;>rfl
theorem zB {n:Int} (h1 : -9223372036854775808<=n) (h2:n<=9223372036854775807):WfI n:=by
 unfold WfI;exact WalkArith.wf_i64 (by omega)
theorem nY0 {f t l r c q:Int} {s:ByteArray} (hs:s.size<=1048576) (hf:0<=f/\f<=4611686018427387904) (ht:0<=t/\t<=4611686018427387904) (hl:0<=l/\l<=4611686018427387904) (hr:0<=r/\r<=4611686018427387904) (hc : -4611686018427387904<=c/\c<=4611686018427387904) (hq:0<=q/\q<=3):hE0 ⟨f,t,s,l,r,c,q⟩ :=
 ⟨zB (n:=f) (by omega) (by omega),zB (n:=t) (by omega) (by omega),by show s.size<=_;unfold maxLen;omega,zB (n:=l) (by omega) (by omega),zB (n:=r) (by omega) (by omega),zB (n:=c) (by omega) (by omega),zB (n:=q) (by omega) (by omega)⟩
theorem pN0 {n:Int} (h : -4611686018427387904<=n/\n<=4611686018427387904):IntKind.i64.wrap n=n:=by simp[Ba,At,Ao]; omega
theorem kH1 {x:Nd} (h:0<=x.c):wD0 x=x:=by
 obtain⟨f,t,s,l,r,c,k⟩:=x;unfold wD0;simp only at h ⊢;rw[show max c 0=c by omega]
theorem eM1 (ls:List Lrn) (i j:Nat) (x:En):wD0 ⟨i,j,x.s,x.l,x.t,x.c-dG ls x.r x.s,1⟩=gO ls i j x:=by
 unfold wD0 gO;simp only;rw[Co]
theorem xC0 (ls:List Lrn) (pl:Int) (i j:Nat) (r s:ByteArray):wD0 ⟨i,j,s,pl,pl,8000-dG ls r s,2⟩=iU ls pl i j r s:=by
 unfold wD0 iU;simp only;rw[Co]
theorem yW0 (es:List En) (r s:ByteArray):((iF es r).any λx=>decide (x.s=s))=jA1 es r s:=by
 unfold iF jA1;rw[List.any_filter];congr 1
 funext x
 simp[Bool.decide_and]
theorem nR {s:ByteArray} (h:Bw (bl s)=true):countS s=((bD (bl s)).length:Nat):=by
 unfold countS;rw[if_pos (show Bw s.data.toList=true from h),rG]
 rfl
theorem tF0 {p:List cO} {m:Mx} {es:List En} (h:cK p m es) (s:ByteArray):(kX0 es s).length<=20000:=by
 have h1:=(h.pref_perm s).length_eq;have h2:(es.filter λx=>hO0 s x.r).length<=es.length:=Bi _ _;have h3:=h.len;omega
theorem rest_size (C:List (List UInt8)) (k:Nat):(ptC C k C.length).size<=C.flatten.length:=by
 have h1:=xK0 C k;have h2:C.flatten.length=(C.take k).flatten.length+(C.drop k).flatten.length:=by rw[<-Af,<-List.flatten_append,List.take_append_drop]
 rw[<-dJ,h1];omega
theorem iI.kept {w w':World} {fb mb N b:Nat} {O:Nd->Prop} {V:List Nd} (h:iI w fb mb N O V) (hg:w.grownBy w' (some b)) (h1:fb≠b) (h2:mb≠b):iI w' fb mb N O V:=⟨hg.cell h.box (λe=>h1 (Option.some.inj e)),let ⟨D,k1,k2⟩:=h.own; ⟨D,k1.kept hg (λe=>h2 (Option.some.inj e)),k2⟩,h.bst⟩
theorem iI.mono {w:World} {fb mb N N':Nat} {O:Nd->Prop} {V:List Nd} (h:iI w fb mb N O V) (hn:N<=N'):iI w fb mb N' O V:=⟨h.box,let ⟨D,h1,h2⟩:=h.own; ⟨D,h1.mono hn,h2⟩,h.bst⟩
theorem iA1 {A B:List (List UInt8)} (h:A.Sublist B):A.flatten.length<=B.flatten.length:=by
 induction h with
 | slnil=>exact Ah _
 | cons a _ ih =>
  rw[Ar,Af];omega
 | cons_cons a _ ih =>
  rw[Ar,Ar,Af,Af];omega
theorem yP0 (C:List (List UInt8)) (i j:Nat):(ptC C i j).size<=C.flatten.length:=by
 rw[<-dJ,wG];exact iA1 ((List.take_sublist _ _).trans (List.drop_sublist _ _))
theorem Bests.permd {O:Nd->Prop} {L L':List Nd} (h:Bests O L) (hp:L'.Perm L):Bests O L':=⟨λx hx=>h.sub x (hp.mem_iff.1 hx),λy hy=>let ⟨z,hz,k⟩:=h.cov y hy; ⟨z,hp.mem_iff.2 hz,k⟩,h.one.perm hp.symm λ{_a _b} hn e=>hn e.symm⟩
theorem fB1 (s p:ByteArray):Lib.hasPrefix s.data.toList p.data.toList=hO0 s p:=rfl
def okL (C:List (List UInt8)) (es:List En) (i:Nat) (r s:ByteArray):Prop:=r.size≠0/\hO0 (ptC C i C.length) r=true/\Bw (bl r)=true/\surfaceS s=true/\jA1 es r s=false
def eF0 (C:List (List UInt8)) (es:List En) (ls:List Lrn) (pl:Int) (i:Nat) (vis:ByteArray->ByteArray->Prop) (y:Nd):Prop:=∃r s,vis r s/\okL C es i r s/\y=iU ls pl i (i+(bD (bl r)).length) r s
theorem gP1 {p:List cO} {m:Mx} {es:List En} (h:cK p m es) (C:List (List UInt8)) (ls:List Lrn) (pl:Int) (i:Nat) (y:Nd) :
  tG0 C es ls pl i y↔((y∈(kX0 es (ptC C i C.length)).map (λe=>gO ls i (i+(bD (bl e.r)).length) e))\/eF0 C es ls pl i (λr s=>∃x∈ls,x.r=r/\x.s=s) y)\/y∈nQ0 C pl i:=by
 unfold tG0 eF0 okL;rw[or_assoc];refine or_congr ?_ (or_congr ?_ Iff.rfl)
 ·rw[Cn]
  constructor
  ·rintro⟨e,he,hb,rfl⟩
   exact⟨e,(h.pref_perm _).mem_iff.2 (List.mem_filter.2 ⟨he,hb⟩),rfl⟩
  ·rintro⟨e,he,rfl⟩
   obtain⟨h1,h2⟩:=List.mem_filter.1 ((h.pref_perm _).mem_iff.1 he);exact⟨e,h1,h2,rfl⟩
 ·constructor
  ·rintro⟨x,hx,h1,h2,h3,h4,h5,rfl⟩
   exact⟨x.r,x.s,⟨x,hx,rfl,rfl⟩,⟨h1,h2,h3,h4,h5⟩,rfl⟩
  ·rintro⟨r,s,⟨x,hx,rfl,rfl⟩,⟨h1,h2,h3,h4,h5⟩,rfl⟩
   exact⟨x,hx,h1,h2,h3,h4,h5,rfl⟩
def cA0 (C:List (List UInt8)) (es:List En) (ls:List Lrn) (pl:Int) (k:Nat) (y:Nd):Prop:=∃i,i<k/\tG0 C es ls pl i y
theorem yD0 (C:List (List UInt8)) (es:List En) (ls:List Lrn) (pl:Int) (k:Nat) (y:Nd):cA0 C es ls pl (k+1) y↔cA0 C es ls pl k y\/tG0 C es ls pl k y:=by
 unfold cA0;constructor
 ·rintro⟨i,hi,h⟩
  by_cases e:i=k
  ·exact Or.inr (e▸h)
  ·exact Or.inl ⟨i,by omega,h⟩
 ·rintro(⟨i,hi,h⟩|h)
  ·exact⟨i,by omega,h⟩
  ·exact⟨k,by omega,h⟩
theorem sZ0 {x:En} {n:Int} (h:mQ x n=0):readingS x.r=true/\surfaceS x.s=true:=by
 unfold mQ xA at h;split at h
 ·rename_i hc
  simpa using hc
 ·omega
theorem kI0 {p:List cO} {m:Mx} {es:List En} (h:cK p m es):∀e∈es,Bw (bl e.r)=true/\e.r.size≠0:=λe he=>by
 have h1:=(sZ0 ((eU h.chk).2.2.2 e he)).1;rw[vH0]at h1;simp only[Ax,decide_eq_true_eq]at h1;refine⟨h1.1.1.1,λh0=>?_⟩;have h2:=h1.1.1.2
 have:=kO (bl e.r)
 rw[dJ]at this;have h3:1<=(bD (bl e.r)).length:=h2;omega
theorem dY0 {C:List (List UInt8)} (hC:iQ C) {p:List cO} {m:Mx} {es:List En} (h:cK p m es) (ls:List Lrn) (pl:Int):iP (cA0 C es ls pl C.length) (fS C es ls pl) :=
 (fC C es ls pl).congr λy=>by
  unfold cA0;refine exists_congr λi=>and_congr_right λ_=>?_;exact(gZ1 hC (kI0 h) ls pl i y).symm
theorem bE1 {C:List (List UInt8)} (hC:iQ C) {p:List cO} {m:Mx} {es:List En} (h:cK p m es) (ls:List Lrn) (pl:Int) {k:Nat} (hk:k<=C.length) {V:List Nd} (hV:Bests (cA0 C es ls pl k) V):V.length<=(fS C es ls pl).length :=
 (dY0 hC h ls pl).toBests.len (λx hx=>let ⟨i,hi,ho⟩:=hV.sub x hx;⟨i,by omega,ho⟩) hV.one
def vU0 (ls:List Lrn) (left:Lit->Bool) (r s:ByteArray):Prop:=r.size<=maxLen/\s.size<=maxLen/\(∃x∈ls,x.r=r/\x.s=s)/\left (klW r s)=false
theorem uQ0 {H:Type} {ls:List Lrn} {D:DataW H} (h:nK1 ls D) (r s:ByteArray):¬vU0 ls (Maps.has D) r s:=λ⟨h1,h2,h3,h4⟩=>by
 rw[(h.has r s h1 h2).2 h3]at h4;cases h4
theorem iI1 {ls:List Lrn} (ag:∀x∈ls,fK0 x) {left:Lit->Bool} (h:∀z,left z=false) (r s:ByteArray):vU0 ls left r s↔∃x∈ls,x.r=r/\x.s=s :=
 ⟨λh=>h.2.2.1,λ⟨x,hx,e1,e2⟩=>⟨e1▸(ag x hx).r,e2▸(ag x hx).s,⟨x,hx,e1,e2⟩,h _⟩⟩
theorem mP {ls:List Lrn} {left:Lit->Bool} {r s:ByteArray} (h1:r.size<=maxLen) (h2:s.size<=maxLen) (hx:∃x∈ls,x.r=r/\x.s=s) (r' s':ByteArray):vU0 ls (λz=>left z && !z.sameKey (klW r s)) r' s'↔vU0 ls left r' s'\/(r'=r/\s'=s):=by
 unfold vU0;constructor
 ·rintro⟨k1,k2,k3,k4⟩
  by_cases e:klW r' s'=klW r s
  ·exact Or.inr (nH0 k1 k2 h1 h2 e)
  ·have k5:(left (klW r' s') && !(klW r' s').sameKey (klW r s))=false:=k4
   rw[Maps.sameKey_ne e]at k5;exact Or.inl ⟨k1,k2,k3,by simpa using k5⟩
 ·rintro(⟨k1,k2,k3,k4⟩|⟨rfl,rfl⟩)
  ·exact⟨k1,k2,k3,by show (left (klW r' s')&&_)=false;rw[k4];rfl⟩
  ·exact⟨h1,h2,hx,by show (left (klW r' s') && !(klW r' s').sameKey (klW r' s'))=false;rw[fY1];simp⟩
theorem pD {C:List (List UInt8)} {es:List En} {ls:List Lrn} {pl:Int} {i:Nat} {vis xz:ByteArray->ByteArray->Prop} {r s:ByteArray} (h:∀r' s',xz r' s'↔vis r' s'\/(r'=r/\s'=s)) (hn:¬okL C es i r s) (y:Nd):eF0 C es ls pl i vis y↔eF0 C es ls pl i xz y:=by
 unfold eF0;constructor
 ·rintro⟨r',s',h1,h2,h3⟩
  exact⟨r',s',(h r' s').2 (Or.inl h1),h2,h3⟩
 ·rintro⟨r',s',h1,h2,h3⟩
  rcases (h r' s').1 h1 with h1|⟨rfl,rfl⟩
  ·exact⟨r',s',h1,h2,h3⟩
  ·exact absurd h2 hn
theorem aX1 {C:List (List UInt8)} {es:List En} {ls:List Lrn} {pl:Int} {i:Nat} {vis xz:ByteArray->ByteArray->Prop} {r s:ByteArray} (h:∀r' s',xz r' s'↔vis r' s'\/(r'=r/\s'=s)) (hn:okL C es i r s) (y:Nd):(eF0 C es ls pl i vis y\/y=iU ls pl i (i+(bD (bl r)).length) r s)↔eF0 C es ls pl i xz y:=by
 unfold eF0;constructor
 ·rintro(⟨r',s',h1,h2,h3⟩|rfl)
  ·exact⟨r',s',(h r' s').2 (Or.inl h1),h2,h3⟩
  ·exact⟨r,s,(h r s).2 (Or.inr ⟨rfl,rfl⟩),hn,rfl⟩
 ·rintro⟨r',s',h1,h2,h3⟩
  rcases (h r' s').1 h1 with h1|⟨rfl,rfl⟩
  ·exact Or.inl ⟨r',s',h1,h2,h3⟩
  ·exact Or.inr h3
end
section
open Go Go.RowKit Go.Shelf
attribute [local go_sem] aQ aM
theorem nZ (l:List Nat) (pb i x:Nat) (w:World) (hl:l.length<=1048576) (hn:∀n∈l,n<=1073741824) (hx:l[i]?=some x) (ac:nD w pb l) :
  Calls Tryz.prog 202 #[.pointer (some ⟨pb,0,none⟩),.int .i64 i] w λe w'=>e=.returned (.int .i64 (x:Nat))/\aB w w':=by
 have CG:=Aa (sQ l pb i x w ac hl (λn h=>by have:=hn n h;omega) hx);have akc:=hn x (Ae hx);have akd:min (x:Int) 1073741824=x:=by omega
 have wx:IntKind.i64.wrap (x:Int)=x:=by simp[Ba,At,Ao];omega
 clear ac hn hx;go_enter Tryz.func202,Tryz.ntmps202
 go_wp2_with fail
 refine CG.out.mono ?_;rintro e w1 ⟨rfl,aq⟩;go_wp2_with fail
 go_ret;exact⟨rfl,aq⟩
theorem cK.first {p:List cO} {m:Mx} {es:List En} (h:cK p m es):iX tK es es.length=rJ0 (sW (readL es) es) es.length (readL es).length:=iU0 h.srt
theorem cK.key {p:List cO} {m:Mx} {es:List En} (h:cK p m es) {i:Nat} (hi:i<es.length):(Ag (iX tK es es.length).length).countP (λs => !decide (i+1<=(iX tK es es.length).getD s 0))=dE1 (readL es) (es.getD i enZero)+1:=by
 have e:=h.first
 rw[e,kF,fQ1 (λj hj=>fH0 hj) hi,bK0 h.srt,Ac,Am hi];rfl
theorem qN0 {nw:En->En->Bool} {l:List En} {k:Nat}:(iX nw l k).Pairwise (· < ·):=List.Pairwise.filter _ List.pairwise_lt_range
theorem yE0 {nw:En->En->Bool} {l:List En} {k n a c:Nat} (hac:a<=c) (hc:c<(iX nw l k).length) (h:n<=(iX nw l k).getD a 0):n<=(iX nw l k).getD c 0:=by
 rcases Be a c with q|q
 ·have:=List.pairwise_iff_getElem.1 (qN0 (nw:=nw) (l:=l) (k:=k)) a c (by omega) hc q
  rw[Ac,Ab hc];rw[Ac,Ab (by omega)]at h;simp only[Cb]at h ⊢;omega
 ·rw[show c=a by omega]
  exact h
def En.val (x:En):Value := .agg #[.string x.r,.string x.s,.int .i64 x.l,.int .i64 x.t,.int .i64 x.c]
theorem oH1 {R:List ByteArray} {j:Nat} {s:ByteArray} (h:R[j]?=some s):mkB (nth (bls R) j)=s:=by
 rw[dS0 (uU h)];exact pH s
theorem tL0 (p:List cO) (m:Mx) (es:List En) (db i:Nat) (x:En) (w:World) (ag:cK p m es) (ac:gN w db p m es) (hx:es[i]?=some x) :
  Calls Tryz.prog 137 #[.pointer (some ⟨db,0,none⟩),.int .i64 i] w λe w'=>e=.returned x.val/\aB w w':=by
 have sw:=(List.getElem?_eq_some_iff.1 hx).1;have hn:=ag.len;have zn:=Ae hx;have hxg:es.getD i enZero=x:=by rw[Ac,hx];rfl
 obtain⟨okR,lR,cR⟩:=eH ag.rd;obtain⟨okS,lS,cS⟩:=eH ag.sf;have fe:=ag.num;have af7:=(eV (eU ag.chk).2.2.1).1;obtain⟨tr,r1,r2⟩:=ac.r;obtain⟨ts,s1,s2⟩:=ac.s;obtain⟨pf,f1,f2⟩:=ac.f;obtain⟨pi,i1,i2⟩:=ac.i;obtain⟨pl,l1,l2⟩:=ac.l;obtain⟨pt,t1,t2⟩:=ac.t;obtain⟨pc,c1,c2⟩:=ac.c;obtain⟨R,hR⟩:=exq (dE1 (readL es) x);obtain⟨S,hS⟩:=exq (yD (dC es) x);have hRg:=nX (pI zn);have hSg:=lT (nG zn);rw[<-hR]at hRg;rw[<-hS]at hSg;have hRl:=(List.getElem?_eq_some_iff.1 hRg).1;have hSl:=(List.getElem?_eq_some_iff.1 hSg).1;have hRn:(readL es).length<=20000:=by rw[dP]at lR;exact lR
 have hSn:(dC es).length<=20000:=by rw[dP]at lS;exact lS
 have CF:∀u,aB w u->Hid (Calls Tryz.prog 201 #[.pointer (some ⟨pf,0,none⟩),.int .u64 (i+1:Nat)] u λe w'=>e=.returned (.int .i64 (R+1:Nat))/\aB u w'):=λu hu=>by
  have h:=uT0 (iX tK es es.length) pf (i+1) u (by have:=ag.first;rw[this,kF];omega) (λn h=>by have:=kP h;omega) (λa c hac hc h=>yE0 hac hc h) (f2.grows hu)
  rw[ag.key sw,hxg,<-hR]at h;exact h
 have CTR:∀u,aB w u->Hid (Calls Tryz.prog 107 #[.pointer (some ⟨tr,0,none⟩),.int .i64 R] u λe w'=>e=.returned (.tuple #[.string x.r,.bool true])/\aB u w'):=λu hu=>by
  have h:=gL0 (bls (readL es)) tr R u okR lR cR (by rw[dP];exact hRl) (r2.grows hu);rw[oH1 hRg]at h;exact h
 have CTS:∀u,aB w u->Hid (Calls Tryz.prog 107 #[.pointer (some ⟨ts,0,none⟩),.int .i64 S] u λe w'=>e=.returned (.tuple #[.string x.s,.bool true])/\aB u w'):=λu hu=>by
  have h:=gL0 (bls (dC es)) ts S u okS lS cS (by rw[dP];exact hSl) (s2.grows hu);rw[oH1 hSg]at h;exact h
 have CNS:∀u,aB w u->Hid (Calls Tryz.prog 202 #[.pointer (some ⟨pi,0,none⟩),.int .i64 i] u λe w'=>e=.returned (.int .i64 (S:Nat))/\aB u w'):=λu hu =>
  nZ (es.map (yD (dC es))) pi i S u (by rw[Ad];omega) (λn h=>by
   obtain⟨y,hy,rfl⟩:=List.mem_map.1 h
   have:=rH (nG hy)
   omega) (by rw[Ai,hx,hS];rfl) (i2.grows hu)
 have CNN:∀(f:En->Int) (pb:Nat),(∀y∈es,0<=f y/\f y<=1073741824)->nD w pb (es.map λy=>(f y).toNat)->∀u,aB w u->Hid (Calls Tryz.prog 202 #[.pointer (some ⟨pb,0,none⟩),.int .i64 i] u λe w'=>e=.returned (.int .i64 (f x))/\aB u w'):=λf pb hf hpk u hu=>by
  have h:=nZ (es.map λy=>(f y).toNat) pb i (f x).toNat u (by rw[Ad];omega) (λn h=>by
   obtain⟨y,hy,rfl⟩:=List.mem_map.1 h
   have:=hf y hy
   omega) (by rw[Ai,hx];rfl) (hpk.grows hu)
  rw[Ap (hf x zn).1]at h;exact h
 have CNL:=CNN (λy=>y.l) pl (λy hy=>by have:=fe y hy;omega) l2;have CNT:=CNN (λy=>y.t) pt (λy hy=>by have:=fe y hy;omega) t2;have CNC:=CNN (λy=>y.c) pc (λy hy=>by have:=fe y hy;omega) c2;obtain⟨xr,xs,xl,xt,xc⟩:=x;simp only at CTR CTS CNL CNT CNC;obtain⟨i9,hi9⟩:=exq (i+1);rw[<-hi9]at CF;obtain⟨R1,hR1⟩:=exq (R+1);rw[<-hR1]at CF;have wu:IntKind.u64.wrap (i:Int)=i:=by simp[Ba,At,Ao];omega
 have wi:IntKind.u64.wrap ((i:Int)+1)=i9:=by simp[Ba,At,Ao];omega
 have wR:IntKind.i64.wrap ((R1:Int)-1)=R:=by simp[Ba,At,Ao];omega
 obtain⟨W0,cq⟩:=exq (w.alloc (.cells #[.string ⟨#[]⟩,.string ⟨#[]⟩,.int .i64 0,.int .i64 0,.int .i64 0] 62));have dg:aB w W0:=by rw[cq];exact aB.alloc _ _
 have t5:TB W0 w.heap.size #[.string ⟨#[]⟩,.string ⟨#[]⟩,.int .i64 0,.int .i64 0,.int .i64 0] 62:=by rw[cq];exact TB.alloc _ _ _
 clear ac r2 s2 f2 i2 l2 t2 c2 hx zn hxg hRg hSg ag okR okS lR lS cR cS fe af7 hR hS CNN hi9 hR1 hRl hSl;have f1a:=dg.cell f1;rw[cq]at f1a;go_enter Tryz.func137,Tryz.ntmps137
 go_wp2_with fail
 rw[<-cq];clear cq f1a;refine(CF W0 dg).out.mono ?_;rintro e w1 ⟨rfl,aq⟩;have g1:=dg.tr aq;have T1:=t5.gr aq;have r1a:=g1.cell r1;clear CF t5 dg aq;go_wp2_with fail
 refine(CTR w1 g1).out.mono ?_;rintro e w2 ⟨rfl,af⟩;have g2:=g1.tr af;have T2:=T1.gr af;have z0:∀y:Ext aB w2.drew,y.u.cell? ⟨db,3,none⟩=some (.pointer (some ⟨ts,0,none⟩)):=aF (g2.dr.cell s1);have z1:∀y:Ext aB w2.drew,y.u.cell? ⟨db,5,none⟩=some (.pointer (some ⟨pi,0,none⟩)):=aF (g2.dr.cell i1);clear CTR T1 r1a g1 af;go_wp2_with fail
 refine bK (bB 16 [9,10]) (by kernel_rfl) (λd _ _ _ _ h=>by cases d<;>exact h) ?_
 iterate 9 (refine aH rfl (λK hK=>?_);go_simp;refine hK _ ?_;clear hK K)
 clear z0 z1;refine bJ rfl rfl (λK hK=>?_);go_simp;refine((CNS w2.drew g2.dr).out).mono ?_;rintro e w3 ⟨rfl,ay⟩;refine⟨ay,hK _ _ ?_⟩;clear hK K;refine bJ rfl rfl (λK hK=>?_);go_simp;refine((CTS w3 (g2.dr.tr ay)).out).mono ?_;rintro e w4 ⟨rfl,cp⟩;refine⟨cp,hK _ _ ?_⟩;clear hK K;iterate 5 (refine aH rfl (λK hK=>?_);go_simp;refine hK _ ?_;clear hK K)
 refine bQ ?_;have g4:=(g2.dr.tr ay).tr cp;have T4:=((T2.gr (aB.drew w2)).gr ay).gr cp;have z0:∀y:Ext aB w4.drew,y.u.cell? ⟨db,6,none⟩=some (.pointer (some ⟨pl,0,none⟩)):=aF (g4.dr.cell l1);have z1:∀y:Ext aB w4.drew,y.u.cell? ⟨db,7,none⟩=some (.pointer (some ⟨pt,0,none⟩)):=aF (g4.dr.cell t1);have z2:∀y:Ext aB w4.drew,y.u.cell? ⟨db,8,none⟩=some (.pointer (some ⟨pc,0,none⟩)):=aF (g4.dr.cell c1);clear CNS CTS T2 g2 ay cp;go_wp2_with fail
 refine jV 20 (oK [0,1,2,3,4,5,6,8,9,10,11,12,14,15,16,17,18,7,13,19] [7,13,19]) (by kernel_rfl) (λd _ _ _ _ h=>by cases d<;>exact h) ?_
 iterate 17 (refine aH rfl (λK hK=>?_);go_simp;refine hK _ ?_;clear hK K)
 clear z0 z1 z2;refine bJ rfl rfl (λK hK=>?_);go_simp;refine((CNL w4.drew g4.dr).out).mono ?_;rintro e w5 ⟨rfl,bk⟩;refine⟨bk,hK _ _ ?_⟩;clear hK K;refine bJ rfl rfl (λK hK=>?_);go_simp;refine((CNT w5 (g4.dr.tr bk)).out).mono ?_;rintro e w6 ⟨rfl,dn⟩;refine⟨dn,hK _ _ ?_⟩;clear hK K;refine bJ rfl rfl (λK hK=>?_);go_simp;refine((CNC w6 ((g4.dr.tr bk).tr dn)).out).mono ?_;rintro e w7 ⟨rfl,dd⟩;refine⟨dd,hK _ _ ?_⟩;clear hK K;refine bQ ?_;have g7:=((g4.dr.tr bk).tr dn).tr dd;have T7:=(((T4.gr (aB.drew w4)).gr bk).gr dn).gr dd;have e0:=T7.cell (o:=0) rfl;have e1:=T7.cell (o:=1) rfl;have e2:=T7.cell (o:=2) rfl;have e3:=T7.cell (o:=3) rfl;have e4:=T7.cell (o:=4) rfl;have f0:=T7.froz 0;have f1':=T7.froz 1;have f2':=T7.froz 2;have f3:=T7.froz 3;have f4:=T7.froz 4;simp only[Bt,Ch];clear CNL CNT CNC T4 g4 bk dn dd;go_wp2_with fail
 have T8:=((((T7.set 0 (.string xr)).set 1 (.string xs)).set 2 (.int .i64 xl)).set 3 (.int .i64 xt)).set 4 (.int .i64 xc);have b0:=T8.cell (o:=0) rfl;have b1:=T8.cell (o:=1) rfl;have b2:=T8.cell (o:=2) rfl;have b3:=T8.cell (o:=3) rfl;have b4:=T8.cell (o:=4) rfl;refine bodyPost_ret (v:=.agg #[.string xr,.string xs,.int .i64 xl,.int .i64 xt,.int .i64 xc]) (by simp[results,Tryz.results137,go_sem,b0,b1,b2,b3,b4]) rfl ⟨rfl,?_⟩
 exact((((g7.set (Ah _) _).set (Ah _) _).set (Ah _) _).set (Ah _) _).set (Ah _) _
end
section
open Go Go.RowKit Go.Shelf
attribute [local go_sem] aQ aM Oper.semAt_some
abbrev eH1 (n:Nat):={ j:Nat // j<n }
theorem oU0 {a k:Nat} (h:a<=k):Al a (k+1-a)=Al a (k-a)++[k]:=by
 rw[show k+1-a=(k-a)+1 by omega,<-Bn (s:=a) (m:=k-a) (n:=1)]
 simp[show a+(k-a)=k by omega]
theorem mV1 (F:Fence) (n:Nat) (hF:F.fn 203) (si:F.round=none) (hn:1<=n) (l N a b b1 b2:Nat) (ic:a<=b) (hbN:b<=N) (hN:N<=1048576) (S:Nat->Prop) (h2:S b2) (J Jx:List (eH1 N)->World->Prop)
  (hY:∀pre x W,J pre W->pre.length<b-a->YieldAt F (n-1) Tryz.prog l #[.int .i64 (x.1:Nat)] W λe W' =>
   (e=.returned (.bool true)/\J (pre++[x]) W'/\cB S W W')\/(e=.returned (.bool false)/\Jx (pre++[x]) W'))
  (W:World) (c1:W.cell? ⟨b1,0,none⟩=some (.int .i64 a)) (c2:W.cell? ⟨b2,0,none⟩=some (.int .i64 b)) (h0:J [] W) :
  CallsIn F n Tryz.prog 203 #[.func (.yield l) #[] #[],.pointer (some ⟨b1,0,none⟩),.pointer (some ⟨b2,0,none⟩)] W λe W'=>(∃v,e=.returned v) /\
   ((∃xs:List (eH1 N),xs.map (·.1)=Al a (b-a)/\J xs W')\/(∃pre:List (eH1 N),True/\Jx pre W')):=by
 refine callsIn_of_wp Tryz.func203 rfl hF ?_ si;simp only[Tryz.ntmps203,Bz,Av,Cg,Cj,Ck,Bq,Br,Ca,Bu,Bg,Cd];gi_wp2
 gi_loopw [4] (λi wr=>∃(k:Nat) (pre:List (eH1 N)),i=.int .i64 k/\a<=k/\k<=b/\pre.map (·.1)=Al a (k-a)/\J pre wr/\cB S W wr) (λi _=>b-(intOf i).toNat)
 case atStart=>exact⟨a,[],rfl,Ah _,ic,by simp,h0,cB.refl _ _⟩
 case round =>
  obtain⟨k,pre,rfl,hak,hkb,hp,hJ,hK⟩:=hrel;have c2r:=hK.cell h2 c2;by_cases ae:k<b
  ·have dp:(k:Int)<b:=by omega
   have mm:pre.length=k-a:=by
    have:=congrArg List.length hp
    simpa using this
   obtain⟨fn,tmps,assign,body,hy,hR⟩:=hY pre ⟨k,by omega⟩ wr hJ (by omega);dsimp only at hy
   have hp2:(pre++[(⟨k,by omega⟩:eH1 N)]).map (·.1)=Al a (k+1-a):=by
    rw[Bh,hp,oU0 hak];rfl
   clear hp hJ;gi_wp2
   refine hR.mono ?_;rintro e W3 (⟨rfl,n9,il⟩|⟨rfl,gu⟩)
   ·gi_wp2
    go_roundw
    case rel=>exact⟨k+1,_,by go_num,by omega,ae,hp2,n9,hK.tr il⟩
    case measure=>simp[intOf];omega
   ·gi_wp2
    go_end0;exact⟨⟨_,rfl⟩,.inr ⟨_,trivial,gu⟩⟩
  ·have dp:¬(k:Int)<b:=by omega
   obtain rfl:k=b:=by omega
   gi_wp2
   refine⟨λf h=>(by cases h),?_⟩;gi_wp2
   go_end0;exact⟨⟨_,rfl⟩,.inl ⟨pre,hp,hJ⟩⟩
theorem tA0 (n N a b b1 b2:Nat) (hn:1<=n) (ic:a<=b) (hbN:b<=N) (hN:N<=1048576) (S:Nat->Prop) (h1:S b1) (h2:S b2) (w:World) (ae:∀b,S b->b<w.heap.size) (c1:w.cell? ⟨b1,0,none⟩=some (.int .i64 a)) (c2:w.cell? ⟨b2,0,none⟩=some (.int .i64 b)) :
  SeqStopsK Fence.wide n Tryz.prog 203 #[.pointer (some ⟨b1,0,none⟩),.pointer (some ⟨b2,0,none⟩)] (λx:eH1 N => #[.int .i64 (x.1:Nat)]) (cB S) (λys=>ys.map (·.1)=Al a (b-a)) (λ_=>True) (b-a) w:=by
 intro l J Jx W hW hJ _ hY h0;have hK0:cB S w W:=cB.of_below hW ae;exact mV1 Fence.wide n trivial rfl hn l N a b b1 b2 ic hbN hN S h2 J Jx hY W (hK0.cell h1 c1) (hK0.cell h2 c2) h0
theorem pS0 (a b:Int) (w:World) :
  Calls Tryz.prog 138 #[.int .i64 a,.int .i64 b] w λe w'=>e=.returned (.func (.func 203) #[] #[.pointer (some ⟨w.heap.size,0,none⟩),.pointer (some ⟨w.heap.size+1,0,none⟩)]) /\
   w'=(w.alloc (.cells #[.int .i64 a] 3)).alloc (.cells #[.int .i64 b] 3):=by
 have sv:∀(fn:Fn) (first cap:Array Value) (w:World),(Instr.makeFunc fn first cap).run Tryz.prog w=.ok (.func fn first cap) w:=λ_ _ _ _=>rfl
 go_enter Tryz.func138,Tryz.ntmps138
 go_wp2_with fail
 go_ret;exact⟨rfl,rfl⟩
structure nP1 (w:World) (db:Nat) (es:List En) (s:Nat) (pre:List Nat) (v:Value) (W:World):Prop where
 bd:TB W s #[.pointer (some ⟨db,0,none⟩)] 34
 bl:TB W (s+1) #[v] 28
 own:aV W s 62 5 bF v (pre.map λj=>es.getD j enZero)
 gr:aB w W
 s0:s=w.heap.size
 sz:s+2<=W.heap.size
theorem nP1.other {w W W':World} {db s:Nat} {es:List En} {pre:List Nat} {v:Value} (h:nP1 w db es s pre v W) {row:Option Nat} (hg:W.grownBy W' row) (hr:RT W row none) (hs:∀q,row=some q->s<=q):nP1 w db es s pre v W' :=
 ⟨h.bd.keep hg hr (by simp),h.bl.keep hg hr (by simp),aO h.own hg hr (by simp),h.gr.grown hg (λq hq=>by rw[<-h.s0];exact hs q hq),h.s0,Au h.sz hg.size⟩
theorem aO0 {W W':World} (B:Nat) (h:aB W W'):KeepsFrom B W W':=⟨h.size,λk _o _ hk _=>(Below.block h k (Array.getElem?_eq_some_iff.1 hk).1).trans hk⟩
theorem zF0 (p:List cO) (m:Mx) (es:List En) (db g:Nat) (lb:Array Value) (js:List Nat) (w:World) (ag:cK p m es) (ac:gN w db p m es) (hj:js.length<=1048576) (eg:∀args w,(callFunc g args).run Tryz.prog w=.ok (.enter g args) w)
  (KS:SeqStopsK Fence.wide 7 Tryz.prog g lb (λx:eH1 es.length => #[.int .i64 (x.1:Nat)]) (cB λb=>b<w.heap.size) (λys=>ys.map (·.1)=js) (λ_=>True) js.length w) :
  Calls Tryz.prog 72 #[.pointer (some ⟨db,0,none⟩),.func (.func g) #[] lb] w λe w'=>∃v,e=.returned v/\aV w' w.heap.size 62 5 bF v (js.map λj=>es.getD j enZero)/\aB w w':=by
 have CE:=λ(i:Nat) (x:En) (hx:es[i]?=some x) (u:World) (hu:aB w u)=>Aa (tL0 p m es db i x u ag (ac.grows hu) hx);have hn:=ag.len;clear ac ag;refine(callsIn_wide (n:=8)).1 (callsIn_of_wp_marks Tryz.func72 rfl trivial ?_);simp only[Tryz.ntmps72,Bz,Av,Cg,Cj,Ck,Bq,Br,Ca,Bu,Bg,Cd];gi_wp2
 have hs:w.heap.size=w.heap.size:=rfl;have dg:aB w ((w.alloc (.cells #[.pointer (some ⟨db,0,none⟩)] 34)).alloc (.cells #[.slice none 0 0] 28)):=(aB.alloc _ _).al _
 have J0:nP1 w db es w.heap.size [] (.slice none 0 0) ((w.alloc (.cells #[.pointer (some ⟨db,0,none⟩)] 34)).alloc (.cells #[.slice none 0 0] 28)):=by
  refine⟨?_,?_,aV.nil _ _ _ _ _,dg,hs,by simp⟩
  ·exact(TB.alloc _ _ _).al _
  ·have:=TB.alloc (w.alloc (.cells #[.pointer (some ⟨db,0,none⟩)] 34)) #[.slice none 0 0] 28
   rw[World.size_alloc]at this;exact this
 have aic:((w.alloc (.cells #[.pointer (some ⟨db,0,none⟩)] 34)).alloc (.cells #[.slice none 0 0] 28)).heap.size=w.heap.size+2:=by simp
 generalize ((w.alloc (.cells #[.pointer (some ⟨db,0,none⟩)] 34)).alloc (.cells #[.slice none 0 0] 28))=W0 at J0 dg aic ⊢
 refine wpIn_rangeFunc_ownH (F:=Fence.wide) (n:=8) (α:=eH1 es.length) rfl (by decide) (gf:=g) (lb:=lb) rfl trivial eg KS
  (λh k=>h.tr k) (λW l o o' hl ho hc hw b hb=>World.putObj_heap_other (λe=>by omega)) dg (λ_=>rfl)
  (λpre W=>∃v,nP1 w db es w.heap.size (pre.map (·.1)) v W)
  (λ_ _ _=>False) ?hI (λ_ _ _ _ _ h _ _=>h) ⟨_,J0⟩
  (λx a' W=>∃v,a'={ tmps:=#[.pointer (some ⟨db,0,none⟩),.func (.func g) #[] lb,.pointer (some ⟨w.heap.size,0,none⟩),undef,.slice none 0 0,.pointer (some ⟨w.heap.size+1,0,none⟩),.int .i64 (x.1:Nat),.func (.func g) #[] lb,.int .i64 (x.1:Nat),undef,undef,undef,undef,undef,undef,undef],defers:=[] }/\v=W.heap.size)
  ?hAx ?assign ?body ?done ?stop
 case hI =>
  rintro pre V V' row ⟨v,h⟩ hg hr;exact⟨v,h.other hg (RT.of_not λq e=>(hr q e).2) (λq e=>by have:=(hr q e).1;omega)⟩
 case hAx =>
  rintro x a' _ V V' row ⟨v,h,_⟩ hg hr;exact⟨_,h,rfl⟩
 case assign =>
  rintro l pre x V K2 ⟨v,h⟩ nc;gi_wp2
  exact nc _ _ (KeepsFrom.refl _ _) (cB.refl _ _) ⟨v,h⟩ ⟨_,rfl,rfl⟩
 case body =>
  rintro l pre x a' V hl ae5 ⟨v,h⟩ ⟨_,rfl,_⟩ ah;obtain⟨y,hy⟩:∃y,es[x.1]?=some y:=⟨_,Ab x.2⟩;have CE1:=CE x.1 y hy V.drew (h.gr.tr (aB.drew V));have hyd:es.getD x.1 enZero=y:=by rw[Ac,hy];rfl
  have z0:∀q:Ext aB V.drew,q.u.cell? ⟨w.heap.size,0,none⟩=some (.pointer (some ⟨db,0,none⟩)):=aF ((aB.drew V).cell (h.bd.cell rfl));have z1:∀q:Ext aB V.drew,q.u.cell? ⟨w.heap.size+1,0,none⟩=some v:=aF ((aB.drew V).cell (h.bl.cell rfl));obtain⟨xi,nz⟩:=x;obtain⟨yr,ys,yl,yt,yc⟩:=y;unfold En.val at CE1;simp only at CE1 hyd ah z0 z1;have za:(pre.map (·.1)).length+1<=1048576+1:=by rw[Ad];omega
  clear CE hy ae5;refine wpIn_block ?_;refine jQ1 aB 5 (bB 5 [3,4]) (by rintro⟨_,_,h⟩;exact h) (by kernel_rfl) aB.refl aB.trans (by kernel_rfl) (by kernel_rfl) (λd _ _ _ _ h=>by cases d<;>exact h) ?_
  iterate 3 (refine aH rfl (λK hK=>?_);go_simp;refine hK _ ?_;clear hK K)
  clear z0 z1;refine bJ rfl rfl (λK hK=>?_);go_simp;refine(CE1.out).mono ?_;rintro e w3 ⟨rfl,ay⟩;refine⟨ay,hK _ _ ?_⟩;clear hK K;refine bJ rfl rfl (λK hK=>?_);go_simp;refine⟨aB.alloc _ _,hK _ _ ?_⟩;clear hK K CE1;refine bQ ?_;simp only[Bt,Ch];have zo:=(aB.drew V).tr ay;have hg:=h.gr.tr zo;have hO:=h.own.grows zo;have hb:=h.bl.gr zo;have hd:=h.bd.gr zo;obtain⟨ps,hps⟩:∃ps,pre.map (·.1)=ps:=⟨_,rfl⟩;rw[hps]at hO za;go_wp2_with (at_builtin;refine fF aW0 rfl _ _ rfl w.heap.size v (ps.map λj=>es.getD j enZero) ⟨yr,ys,yl,yt,yc⟩ rfl hO (aB.refl _) _ 1 rfl #[.string yr,.string ys,.int .i64 yl,.int .i64 yt,.int .i64 yc] rfl rfl (by rw[Ad];omega) (by have:=hg.size;omega) ?_;intro v7 w7 wz dd hf7 adf;obtain⟨g7,p7,rfl⟩:=pU wz;have hb7:=hb.keep dd (RT.own hO) (by decide);have c7:=hb7.cell (o:=0) rfl;have f7:=hb7.froz 0)
  have hd7:=hd.keep dd (RT.own hO) (by decide);have gr7:=adf w hg (Ah _);have gr8:=gr7.set (p:=⟨w.heap.size+1,0,none⟩) (show w.heap.size<=w.heap.size+1 by omega) (.slice (some ⟨g7,0,none⟩) (ps.length+1) p7)
  refine⟨((((KeepsOthers.drew V).from _).trans (aO0 _ ay)).trans (iO dd (RT.own hO))).trans (kB hb7 0 (.slice (some ⟨g7,0,none⟩) (ps.length+1) p7)),λb hb=>(Below.block gr8 b hb).trans (Below.block h.gr b hb).symm,(.slice (some ⟨g7,0,none⟩) (ps.length+1) p7),?_⟩
  refine⟨hd7.keep (bG w7 (w.heap.size+1) 0 (.slice (some ⟨g7,0,none⟩) (ps.length+1) p7)) hb7.rt (by decide),hb7.set 0 (.slice (some ⟨g7,0,none⟩) (ps.length+1) p7),?_,gr8,rfl,?_⟩
  ·have h8:=aO wz (bG w7 (w.heap.size+1) 0 (.slice (some ⟨g7,0,none⟩) (ps.length+1) p7)) hb7.rt (by decide)
   have na:(pre++[(⟨xi,nz⟩:eH1 es.length)]).map (·.1)=ps++[xi]:=by
    rw[Bh,hps];rfl
   refine Eq.mp (congrArg (λq=>aV _ _ _ _ _ _ (q.map λj=>es.getD j enZero)) na.symm) ?_;rw[Bh,Ay,Cm,hyd];rw[Ad]at h8;exact h8
  ·have:=h.sz
   have:=zo.size
   have:=dd.size
   simp;omega
 case stop =>
  rintro D c pre W _ _ h _;exact h.elim
 case done =>
  rintro D xs V hD hxs ⟨v,h⟩ hKD;have c1:=h.bl.cell (o:=0) rfl;gi_wp2
  refine⟨by simp,.inl ⟨_,_,rfl,run_takeDeferred hKD,?_⟩⟩;rw[hxs]at h;exact⟨_,results_tmp rfl _ _ _,v,rfl,by exact ownsRow_putObj h.own _ hKD rfl,Below.trans h.gr (belowK_b (w:=w) (Ah _) V D _ _ (by omega) hKD rfl rfl)⟩
end
section
open Go Go.RowKit
def nC1 (l:List Nat) (N id a b:Nat):Prop:=l[id]?=some a/\(id+1<l.length->l[id+1]?=some b)/\(¬id+1<l.length->b=N)
theorem uS0 {k:Nat->Nat} {n S id:Nat} (hk:∀i,i<n->k i<S) (h:id<S):nC1 (rJ0 k n S) n id (dI k n id).length (dI k n (id+1)).length:=by
 refine⟨gY0 h,λh1=>?_,λh1=>?_⟩
 ·rw[kF]at h1
  exact gY0 h1
 ·rw[kF]at h1
  rw[show id+1=S by omega,mS hk]
theorem kK1 {k:Nat->Nat} {n S id:Nat} (hk:∀i,i<n->k i<S) (h:id<S):(dI k n id).length<=(dI k n (id+1)).length/\(dI k n (id+1)).length<=n/\((dI k n S).take (dI k n (id+1)).length).drop (dI k n id).length=grp k n id:=by
 have h1:=pC1 hk h;have h2:=kR1 hk h;rw[nR0 hk h]at h1 h2;exact⟨h1.1,h1.2,h2⟩
theorem cE1 {n a b:Nat} (hb:b<=n):((Ag n).take b).drop a=Al a (b-a):=by
 apply Bd
 intro i;rw[List.getElem?_drop,List.getElem?_take];by_cases h:a+i<b
 ·rw[if_pos h,Am (by omega),List.getElem?_range' (by omega)]
  simp
 ·rw[if_neg h,Bj (by simp;omega)]
theorem cK.row_r {p:List cO} {m:Mx} {es:List En} (h:cK p m es) {id:Nat} {s:ByteArray} (hs:(readL es)[id]?=some s) :
  ∃a b,nC1 (iX tK es es.length) es.length id a b/\a<=b/\b<=es.length/\(Al a (b-a)).map (λj=>es.getD j enZero)=iF es s:=by
 have hid:=(List.getElem?_eq_some_iff.1 hs).1;have hk:∀i,i<es.length->sW (readL es) es i<(readL es).length:=λi hi=>fH0 hi;obtain⟨h1,h2,h3⟩:=kK1 hk hid;refine⟨_,_,by rw[iU0 h.srt];exact uS0 hk hid,h1,h2,?_⟩;rw[bK0 h.srt,cE1 h2]at h3;rw[h3];exact fL1 hs
end
end Go.Proofs.YtaogeadljgjpcaaGreatDoor
