/- The texts Bimg Bsz R18P DicP DicQ DicR R18b R18c Bjn Bord Bbld R18e Dct Dct1 Dct2 DicS Dct3, one behind the other. -/
import Derived.Test.YtjhajgffmnkocaaGreatDoorPq32
import Derived.Test.YtjhajgffmnkocaaGreatDoorPq30
import Derived.Test.YtjhajgffmnkocaaGreatDoorPq15
import Derived.Test.YtjhajgffmnkocaaGreatDoorPq2
import Derived.Test.YtjhajgffmnkocaaGreatDoorPq38
import Derived.Test.YtjhajgffmnkocaaGreatDoorPq6
import Derived.Test.YtjhajgffmnkocaaGreatDoorPq22
import Derived.Test.YtjhajgffmnkocaaGreatDoorPq26
import Derived.Test.YtjhajgffmnkocaaGreatDoorPq39
import Derived.Test.YtjhajgffmnkocaaGreatDoorPq4
import Derived.Test.YtjhajgffmnkocaaGreatDoorPq34
import Derived.Test.YtjhajgffmnkocaaGreatDoorPq31
import Derived.Test.YtjhajgffmnkocaaGreatDoorPq23
import Derived.Test.YtjhajgffmnkocaaGreatDoorPq8
import Derived.Test.YtjhajgffmnkocaaGreatDoorPq12
import Derived.Test.YtjhajgffmnkocaaGreatDoorPq21
import Derived.Test.YtjhajgffmnkocaaGreatDoorPq20
import Derived.Test.YtjhajgffmnkocaaGreatDoorPq3
import Derived.Shelf.GgSortFunc.Compose
import Derived.Test.YtjhajgffmnkocaaGreatDoorPq40
import Derived.Test.YtjhajgffmnkocaaGreatDoorPq41
import Derived.Test.YtjhajgffmnkocaaGreatDoorPq17
import Derived.Test.YtjhajgffmnkocaaGreatDoorPq13
open Go.Lib renaming hid → Aa,toList_data → Cd
open List renaming getD_eq_getElem?_getD → Ab,getElem?_eq_getElem → Ac,length_map → Ad,mem_of_getElem? → Ae,length_append → Af,range → Ag,range' → Ah,getElem?_map → Aj,mem_range → Ak,length_range → Al,getElem?_range → Am,filter_congr → An,range'_append_1 → Ap,range_eq_range' → Aq,findIdx_lt_length_of_exists → Au,length_cons → Ax,getElem_mem → Ay,nil_append → Az,getElem?_append_left → Bc,ext_getElem? → Bd,mem_range'_1 → Be,map_cons → Bf,filter_eq_nil_iff → Bj,map_append → Bk,getElem?_eq_none → Bn,findIdx_getElem → Bo,drop_succ_cons → Bs,append_toArray → Bt,getElem_range → Bu,filter_append → Bv,size_toArray → By,push_toArray → Bz,flatMap_map → Ca,cons_append → Cb,mem_filter → Ce,length_nil → Cg,drop_zero → Ch,map_map → Ck,map_nil → Cl
open Nat renaming le_refl → Ai,le_trans → Av,zero_add → Ba,lt_or_ge → Bi,zero_le → Bp,le_of_lt → Bw,reduceAdd → Ci,reduceSub → Cj
open Go.IntKind renaming signed → Ao,bits → Ar,wrap → Aw
open Int renaming toNat_of_nonneg → As
open Bool renaming eq_iff_iff → At
open Classical renaming byContradiction → Bb
open Option renaming getD_some → Bg,map_some → Cf
open Go.World renaming block_lt_of_cell? → Bh,size_alloc → Cc
open Array renaming replicate_succ → Bq,replicate_zero → Br
set_option maxHeartbeats 4000000
namespace Go.Proofs.YtjhajgffmnkocaaGreatDoor
set_option maxRecDepth 100000
section
open Go Go.RowKit
def readL (es:List En):List ByteArray:=rO (es.map (·.r))
def bP (es:List En):List ByteArray:=rO (es.map (·.s))
theorem lC1 (l:List (List UInt8)):bls (l.map mkB)=l:=by
 unfold bls;rw[Ck];exact(List.map_congr_left λx _=>iR x).trans (List.map_id _)
theorem fY0 {ks:List ByteArray} {s:ByteArray} (h:s∈ks):s∈rO ks:=by
 unfold rO;refine List.mem_map.2 ⟨bl s,(xO _ _).2 (List.mem_map.2 ⟨s,h,rfl⟩),lI s⟩
theorem aV0 {ks:List ByteArray} {s:ByteArray} (h:s∈rO ks):s∈ks:=by
 unfold rO at h;obtain⟨x,hx,rfl⟩:=List.mem_map.1 h;obtain⟨t,ht,rfl⟩:=List.mem_map.1 ((xO _ _).1 hx);rw[show mkB (bl t)=t from lI t];exact ht
theorem kG (ks:List ByteArray):(rO ks).Nodup:=by
 unfold rO;have h:=xX (bls ks);refine List.Pairwise.map mkB (λa b (eo:gD0 a b) e=>?_) h;rw[kV1 e]at eo;exact xW _ eo
theorem gO1 {ks:List ByteArray} {i:Nat} (h:i<(rO ks).length):(rO ks)[i]?=some (mkB (nth (bls (rO ks)) i)):=by
 rw[pE0];unfold rO nth;unfold rO at h;rw[Ad]at h;rw[Aj,Ab,Ac h];rfl
theorem bB0 (ks:List ByteArray):(rO ks).length<=ks.length:=cU (kG ks) λ_ h=>aV0 h
def xG (S:List ByteArray) (x:En):Nat:=S.findIdx λs=>decide (s=x.s)
theorem kD {S:List ByteArray} {x:En} (h:x.s∈S):S[xG S x]?=some x.s:=by
 have h1:xG S x<S.length:=Au ⟨x.s,h,by simp⟩;rw[Ac h1];have h2:=Bo (w:=h1);exact congrArg some (of_decide_eq_true h2)
theorem pF {S:List ByteArray} {x:En} (h:x.s∈S):xG S x<S.length:=(List.getElem?_eq_some_iff.1 (kD h)).1
def jJ (S:List ByteArray) (es:List En) (i:Nat):Nat:=xG S (es.getD i enZero)
def aE0 (es:List En):List Nat:=grpsL (jJ (bP es) es) es.length (bP es).length
def gJ (es:List En):List En:=(aE0 es).map λi=>es.getD i enZero
def qS (x y:En):Bool := !decide (x.r=y.r)
def fF0 (x y:En):Bool := !decide (x.s=y.s)
def rQ (name:Array UInt8) (data:List UInt8):bD:=⟨⟨name⟩,data,none,0⟩
def imgP (p:List cY) (m:Mx) (es:List En):List bD :=
 [rQ #[112,111,115] (posE p),rQ #[109,97,116,114,105,120] m.enc,rQ #[114,101,97,100,105,110,103,115] (loudE (bls (readL es))),rQ #[102,105,114,115,116] (packE (gO qS es es.length)),
  rQ #[115,117,114,102,97,99,101,115] (loudE (bls (bP es))),rQ #[115,117,114,102,97,99,101] (packE (es.map (xG (bP es)))),rQ #[108,101,102,116] (packE (es.map λx=>x.l.toNat)),rQ #[114,105,103,104,116] (packE (es.map λx=>x.t.toNat)),
  rQ #[99,111,115,116] (packE (es.map λx=>x.c.toNat)),rQ #[111,114,100,101,114] (packE (aE0 es)),rQ #[97,116] (packE (gO fF0 (gJ es) es.length))]
theorem iQ {nw:En->En->Bool} {l:List En} {k i:Nat} (h:i∈gO nw l k):i<k:=List.mem_range.1 (List.mem_filter.1 h).1
theorem bI0 {n:Int}:∀ {l:List En},jF n l=0->∀x∈l,pH x n=0
 | [],_,x,hx=>by cases hx
 | y::l,h,x,hx=>by
  unfold jF at h;by_cases hy:pH y n=0
  ·rw[if_pos hy]at h
   rcases List.mem_cons.1 hx with rfl|hx
   ·exact hy
   ·exact bI0 h x hx
  ·rw[if_neg hy]at h;exact absurd h hy
theorem rF {x:En} {n:Int} (h:pH x n=0):0<=x.l/\x.l<n/\0<=x.t/\x.t<n/\0<=x.c/\x.c<=30000:=by
 unfold pH jD0 at h;split at h
 ·split at h
  ·cases h
  ·split at h
   ·cases h
   ·omega
 ·cases h
theorem gU {p:List cY} {m:Mx} {l:List En} (h:yF p (some m) l=0):(m.n:Int)=p.length/\l.length<=20000/\eH p=true/\∀x∈l,pH x p.length=0:=by
 unfold yF at h;split at h
 ·cases h
 ·rename_i hv
  simp only at h;split at h
  ·rename_i h1
   split at h
   ·cases h
   ·rename_i h2
    exact⟨h1,by omega,by simpa using hv,bI0 h⟩
  ·cases h
def qV (p:List cY) (m:Option Mx) (l:List En):Int×List UInt8 :=
 if yF p m l=0 then match m with
  | none=>(0,[])
  | some m=>if gP (bls (readL (sortS l)))=0/\gP (bls (bP (sortS l)))=0 then (if fF (imgP p m (sortS l))=0 then (0,file14 (imgP p m (sortS l))) else (fF (imgP p m (sortS l)),[])) else (2,[])
 else (yF p m l,[])
theorem jO0 (m:Mx):∀(l:List Nat) (last:Int),(pG m last l).length<=l.length*20
 | [],_=>by simp[pG]
 | i::r,last=>by
  have h1:=jO0 m r i;have h2:=cK ((i:Int)-last).toNat;have h3:=cK (m.cs.getD i 0).toNat;rw[pG,Af,Af,Ax];omega
theorem aE1 {m:Mx} (h:m.OK):m.enc.length<=82000:=by
 have h1:=Mx.idx_len h;have h2:=jO0 m m.idx (-1);have h3:=cK m.n;have h4:=cK m.d.toNat;have h5:=cK m.idx.length;unfold Mx.enc;rw[Af,Af,Af];omega
theorem qJ0 {p:List cY} (h:eH p=true):(posE p).length<=2600:=by
 obtain⟨h1,h2⟩:=fZ h;have h3:=aH0 (l:=p) (λx hx=>(h2 x hx).1);have h4:=cK p.length;unfold posE;rw[Af];omega
theorem eG {l:List Nat} (h:∀n∈l,n<18446744073709551616):(packE l).length<=5+l.length*64:=by
 have hw:nZ l<=64:=nF.2 h;have h1:l.length*nZ l<=l.length*64:=Nat.mul_le_mul_left _ hw;unfold packE bY0;rw[Af,Af,bM,Ad,Al];simp only[List.length_singleton];omega
theorem fT0 (k:Nat):∀l:List Nat,((l.map (leB k)).flatten).length=l.length*k
 | []=>by simp
 | x::l=>by
  rw[Bf,List.flatten_cons,Af,bM,fT0 k l,Ax,Nat.succ_mul];omega
theorem eD0 (l:List Bool):(oB l).length<=20+l.length:=by
 unfold oB mO tV;rw[Af,Af,bM,fT0,fT0,Ad,Ad,Al,Al];omega
theorem kI0 {L:List (List UInt8)} (ag:OkL L) (hl:L.length<=20000) (hc:gC L<=524287):(loudE L).length<=40000000:=by
 obtain⟨z1,z2,z3,z4,z5⟩:=ag.sizes hl hc;have h1:=eD0 (shapeL L (nodesA L));have h2:=eD0 (isL L (nodesA L));have h3:=eG (l:=idsL L (nodesA L)) (λn hn=>by have:=z5 n hn;omega);unfold loudE eU;simp only[Af,bM];omega
theorem bF1 (k:Nat->Nat) (n S:Nat):(grpsL k n S).Nodup:=(gM k n S).imp λ{a b} h e=>by rw[e]at h; exact qN h
theorem jH {k:Nat->Nat} {n S:Nat} (h:∀i,i<n->k i<S):(grpsL k n S).length=n:=by
 have h1:=cU (bF1 k n S) (l':=Ag n) λx hx=>List.mem_range.2 (fX.1 hx).1;have h2:=cU (List.nodup_range (n:=n)) (l':=grpsL k n S) λx hx=>fX.2 ⟨List.mem_range.1 hx,h x (List.mem_range.1 hx)⟩;rw[Al]at h1 h2;omega
theorem dM0 {es:List En} {i:Nat} (h:i<es.length):es[i]?=some (es.getD i enZero):=by rw[Ab,Ac h]; rfl
theorem jN {es:List En} {x:En} (h:x∈es):x.s∈bP es:=fY0 (List.mem_map.2 ⟨x,h,rfl⟩)
theorem gT1 {es:List En} {i:Nat} (h:i<es.length):jJ (bP es) es i<(bP es).length:=pF (jN (Ae (dM0 h)))
theorem qM (es:List En):(aE0 es).length=es.length:=jH λ_ hi=>gT1 hi
theorem dZ0 {es:List En} {i:Nat} (h:i∈aE0 es):i<es.length:=(fX.1 h).1
theorem wZ0 {S:List ByteArray} {x y:En} (hx:x.s∈S) (hy:y.s∈S):xG S x=xG S y↔x.s=y.s:=by
 constructor
 ·intro h
  have a:=kD hx;rw[h,kD hy]at a;exact(Option.some.inj a).symm
 ·intro h
  unfold xG;rw[h]
theorem sL {l:List ByteArray} (hn:l.Nodup) {i j:Nat} {s:ByteArray} (hi:l[i]?=some s) (hj:l[j]?=some s):i=j:=by
 obtain⟨h1,e1⟩:=List.getElem?_eq_some_iff.1 hi;obtain⟨h2,e2⟩:=List.getElem?_eq_some_iff.1 hj;rcases Nat.lt_trichotomy i j with h|h|h
 ·exact absurd (e1.trans e2.symm) (List.pairwise_iff_getElem.1 hn i j h1 h2 h)
 ·exact h
 ·exact absurd (e2.trans e1.symm) (List.pairwise_iff_getElem.1 hn j i h2 h1 h)
theorem wC0 (es:List En):∀s,s<(bP es).length->∃i,i<es.length/\jJ (bP es) es i=s:=by
 intro s hs;have h1:(bP es)[s]?=some (bP es)[s]:=Ac hs;have h2:(bP es)[s]∈es.map (·.s):=aV0 (Ay hs);obtain⟨x,hx,hxs⟩:=List.mem_map.1 h2;obtain⟨i,hi,he⟩:=List.mem_iff_getElem.1 hx;refine⟨i,hi,?_⟩;have h3:es.getD i enZero=x:=by rw[Ab,Ac hi];exact he
 unfold jJ;rw[h3];exact sL (kG _) (kD (jN hx)) (by rw[hxs];exact h1)
theorem qK0 (es:List En):gO fF0 (gJ es) es.length=qI0 (jJ (bP es) es) es.length (bP es).length:=by
 rw[<-rN _ _ _ (wC0 es)];have hl:(grpsL (jJ (bP es) es) es.length (bP es).length).length=es.length:=qM es;unfold gO dX0;rw[hl];apply An
 intro i hi;rw[Ak]at hi
 have hg:∀j,j<es.length->∃m,m<es.length/\(grpsL (jJ (bP es) es) es.length (bP es).length).getD j 0=m/\(gJ es).getD j enZero=es.getD m enZero:=by
  intro j hj;have h1:(aE0 es)[j]?=some ((aE0 es).getD j 0):=by rw[Ab,Ac (by rw[qM];exact hj)];rfl
  refine⟨(aE0 es).getD j 0,dZ0 (Ae h1),rfl,?_⟩;unfold gJ;rw[Ab,Aj,h1];rfl
 obtain⟨a,ha,ea,ka⟩:=hg i hi;obtain⟨b,hb,eb,kb⟩:=hg (i-1) (by omega);unfold bU0 zJ;rw[ka,kb,ea,eb];congr 1
 unfold fF0;have h:=wZ0 (jN (Ae (dM0 ha))) (jN (Ae (dM0 hb)));show _=(jJ (bP es) es a != jJ (bP es) es b)
 unfold jJ;generalize es.getD a enZero=x at h ⊢;generalize es.getD b enZero=y at h ⊢;by_cases he:x.s=y.s
 ·rw[h.2 he];simp[he]
 ·have:xG (bP es) x≠xG (bP es) y:=λe=>he (h.1 e)
  simp[he,this]
theorem qL0 (l:List En):(sortS l).length<=l.length :=
 cU ((dM l).1.imp λ{a b} eo e=>by rw[e,fP]at eo;cases eo) λy hy=>(((dM l).2 y).1 hy).1
theorem eN0 {l:List En} {x:En} (h:x∈sortS l):x∈l:=(((dM l).2 x).1 h).1
theorem cF0 {L:List (List UInt8)} (h:∀s∈L,s.length<=256):∀m,m<=L.length->uZ L m<=1+m*256
 | 0,_=>Ai _
 | m+1,hm=>by
  have h1:=cF0 h m (by omega);have h2:=h _ (Ae (iP (L:=L) (j:=m) (by omega)));unfold uZ iW1;omega
theorem bJ0 {L:List (List UInt8)} (ag:OkL L) (hl:L.length<=300):(loudE L).length<=5300000:=by
 have hc:gC L<=76801:=by have:=cF0 ag.len L.length (Ai _);unfold gC;omega
 have hN:=dY ag.asc ag.len;obtain⟨z1,z2,z3,z4,z5⟩:=ag.sizes (by omega) (by omega:gC L<=524287);have h0:=eN L (nodesA L).length (Ai _);rw[List.take_length,ag.off_all]at h0;have h1:=eD0 (shapeL L (nodesA L));have h2:=eD0 (isL L (nodesA L));have h3:=eG (l:=idsL L (nodesA L)) (λn hn=>by have:=z5 n hn;omega);have h4:(isL L (nodesA L)).length=(nodesA L).length:=by unfold isL;rw[Ad]
 have h5:(labelsL L (nodesA L)).length<=(nodesA L).length:=by rw[ag.labels,Ad,List.length_drop];omega
 have h6:(idsL L (nodesA L)).length<=(nodesA L).length:=by
  unfold idsL;rw[Ad];exact List.length_filter_le (iK L) (nodesA L)
 unfold loudE eU;simp only[Af,bM];omega
theorem zI0 (p:List cY) (m:Mx) (es:List En):(imgP p m es).any (λq => !azS q.name)=false/\vM0 (imgP p m es)=false:=by
 constructor
 ·simp only[imgP,List.any_cons,List.any_nil,rQ]
  decide +kernel
 ·simp only[imgP,vM0,xM,rQ]
  decide +kernel
theorem yZ0 {p:List cY} {m:Mx} {es:List En} (hm:m.OK) (hp:eH p=true) (hl:es.length<=300) (hr:gP (bls (readL es))=0) (hs:gP (bls (bP es))=0)
  (hn:∀x∈es,0<=x.l/\x.l<18446744073709551616/\0<=x.t/\x.t<18446744073709551616/\0<=x.c/\x.c<18446744073709551616):fF (imgP p m es)=0:=by
 have hR:(bls (readL es)).length<=300:=by
  have:=bB0 (es.map (·.r));unfold bls readL;rw[Ad];rw[Ad]at this;omega
 have hS:(bls (bP es)).length<=300:=by
  have:=bB0 (es.map (·.s));unfold bls bP;rw[Ad];rw[Ad]at this;omega
 have hS2:(bP es).length<=300:=by unfold bls at hS;rw[Ad]at hS;exact hS
 have a1:=qJ0 hp;have a2:=aE1 hm;have a3:=bJ0 (dQ hr).1 hR;have a4:=bJ0 (dQ hs).1 hS;have b1:=eG (l:=gO qS es es.length) (λn hn=>by have:=iQ hn;omega)
 have b2:=eG (l:=es.map (xG (bP es))) (λn hn=>by
  obtain⟨x,hx,rfl⟩:=List.mem_map.1 hn
  have:=pF (jN hx);omega)
 have b3:=eG (l:=es.map λx=>x.l.toNat) (λn h=>by
  obtain⟨x,hx,rfl⟩:=List.mem_map.1 h
  have:=hn x hx;omega)
 have b4:=eG (l:=es.map λx=>x.t.toNat) (λn h=>by
  obtain⟨x,hx,rfl⟩:=List.mem_map.1 h
  have:=hn x hx;omega)
 have b5:=eG (l:=es.map λx=>x.c.toNat) (λn h=>by
  obtain⟨x,hx,rfl⟩:=List.mem_map.1 h
  have:=hn x hx;omega)
 have b6:=eG (l:=aE0 es) (λn hn=>by have:=dZ0 hn;omega);have b7:=eG (l:=gO fF0 (gJ es) es.length) (λn hn=>by have:=iQ hn;omega);have c1:=aC0 qS es es.length;have c2:=aC0 fF0 (gJ es) es.length;have c3:=qM es;rw[Ad]at b2 b3 b4 b5
 have m7:kX (imgP p m es)<=16777216:=by
  simp only[kX,imgP,rQ,Bf,Cl,List.sum_cons,List.sum_nil];omega
 have aj:(imgP p m es).length=11:=rfl;obtain⟨n1,n2⟩:=zI0 p m es;unfold fF;rw[if_neg (by omega),if_neg (by rw[n1];decide),if_neg (by rw[n2];decide)]
theorem jE {k:Nat->Nat} {n:Nat}:∀ {s t:Nat},s<=t->∃r,grpsL k n t=grpsL k n s++r
 | s,0,h=>by
  simp_all
 | s,t+1,h=>by
  rcases Bi t s with h1|h1
  ·obtain rfl:s=t+1:=by omega
   exact⟨[],by simp⟩
  ·obtain⟨r,hr⟩:=jE (k:=k) (n:=n) h1
   grind [kI]
def nT1 (k:Nat->Nat) (n _S id:Nat):Nat:=(grpsL k n id).length
def mS1 (k:Nat->Nat) (n S id:Nat):Nat:=if id+1<S then (grpsL k n (id+1)).length else n
theorem fP0 {k:Nat->Nat} {n S id:Nat} (h:id<S):(qI0 k n S)[id]?=some (grpsL k n id).length:=by
 grind [qI0]
theorem iL (k:Nat->Nat) (n S:Nat):(qI0 k n S).length=S:=by simp[qI0]
theorem mV0 {k:Nat->Nat} {n S id:Nat} (hk:∀i,i<n->k i<S) (h:id<S):mS1 k n S id=(grpsL k n (id+1)).length:=by
 unfold mS1;split
 ·rfl
 ·rw[show id+1=S by omega,jH hk]
theorem mL1 {k:Nat->Nat} {n S id:Nat} (hk:∀i,i<n->k i<S) (h:id<S):nT1 k n S id<=mS1 k n S id/\mS1 k n S id<=n:=by
 rw[mV0 hk h];unfold nT1;refine⟨?_,?_⟩
 ·rw[kI,Af];omega
 ·obtain⟨r,hr⟩:=jE (k:=k) (n:=n) (show id+1<=S by omega)
  have:=jH hk
  rw[hr,Af]at this;omega
theorem lB1 {k:Nat->Nat} {n S id:Nat} (hk:∀i,i<n->k i<S) (h:id<S):((grpsL k n S).take (mS1 k n S id)).drop (nT1 k n S id)=grp k n id:=by
 rw[mV0 hk h];obtain⟨r,hr⟩:=jE (k:=k) (n:=n) (show id+1<=S by omega)
 rw[hr,List.take_left',kI]
 ·unfold nT1
  rw[List.drop_left]
 ·rfl
theorem cB1 {k:Nat->Nat} {n S i s:Nat} (hk:∀i,i<n->k i<S) (hi:i<n) (hs:s<=S):(grpsL k n s).length<=i↔s<=k ((grpsL k n S).getD i 0):=by
 obtain⟨r,hr⟩:=jE (k:=k) (n:=n) hs;have hl:=jH hk;have hg:(grpsL k n S)[i]?=some ((grpsL k n S).getD i 0):=by rw[Ab,Ac (by omega)];rfl
 obtain⟨x,hx⟩:=exq ((grpsL k n S).getD i 0);rw[<-hx]at hg ⊢;have hp:=gM k n S;constructor
 ·intro h
  apply Bb
  intro hc;have hm:x∈grpsL k n s:=fX.2 ⟨(fX.1 (Ae hg)).1,by omega⟩;obtain⟨j,hj,ej⟩:=List.mem_iff_getElem.1 hm;have nr:(grpsL k n S)[j]?=some x:=by rw[hr,Bc hj,Ac hj,ej]
  obtain⟨a1,a2⟩:=List.getElem?_eq_some_iff.1 hg;obtain⟨b1,b2⟩:=List.getElem?_eq_some_iff.1 nr
  have:=List.pairwise_iff_getElem.1 hp j i b1 a1 (by omega)
  rw[a2,b2]at this;exact qN this
 ·intro h
  apply Bb
  intro hc;rw[hr,Bc (by omega)]at hg
  have:=(fX.1 (Ae hg)).2
  omega
theorem eQ1 {k:Nat->Nat} {n S i:Nat} (hk:∀i,i<n->k i<S) (hi:i<n):(Ag S).countP (λs => !decide (i+1<=(qI0 k n S).getD s 0))=k ((grpsL k n S).getD i 0)+1:=by
 have hkl:k ((grpsL k n S).getD i 0)<S:=by
  have hl:=jH hk;have hg:(grpsL k n S)[i]?=some ((grpsL k n S).getD i 0):=by rw[Ab,Ac (by omega)];rfl
  exact(fX.1 (Ae hg)).2
 have h:=qP (λs => !decide (i+1<=(qI0 k n S).getD s 0)) (k ((grpsL k n S).getD i 0)+1) S (λs hs=>by
  rw[Ab,fP0 hs,Bg]
  have:=cB1 (s:=s) hk hi (by omega)
  rw[At];simp only[Bool.not_eq_true',decide_eq_false_iff_not,decide_eq_true_eq];omega)
 rw[h];omega
def iN0 (R:List ByteArray) (x:En):Nat:=R.findIdx λs=>decide (s=x.r)
theorem jT {R:List ByteArray} {x:En} (h:x.r∈R):R[iN0 R x]?=some x.r:=by
 have h1:iN0 R x<R.length:=Au ⟨x.r,h,by simp⟩;rw[Ac h1];have h2:=Bo (w:=h1);exact congrArg some (of_decide_eq_true h2)
theorem kY1 {R:List ByteArray} {x:En} (h:x.r∈R):iN0 R x<R.length:=by grind [iN0]
theorem lZ {es:List En} {x:En} (h:x∈es):x.r∈readL es:=fY0 (by grind)
def keyRE (R:List ByteArray) (es:List En) (i:Nat):Nat:=iN0 R (es.getD i enZero)
theorem rY {es:List En} {i:Nat} (h:i<es.length):keyRE (readL es) es i<(readL es).length:=kY1 (lZ (by simp_all))
theorem jZ0 {R:List ByteArray} {x y:En} (hx:x.r∈R) (hy:y.r∈R):iN0 R x=iN0 R y↔x.r=y.r:=by
 constructor
 ·intro h
  have a:=jT hx;rw[h,jT hy]at a;simp_all
 ·intro h
  unfold iN0;rw[h]
theorem gN0 (es:List En):∀s,s<(readL es).length->∃i,i<es.length/\keyRE (readL es) es i=s:=by
 intro s hs;have h1:(readL es)[s]?=some (readL es)[s]:=by simp_all
 have h2:(readL es)[s]∈es.map (·.r):=aV0 (Ay hs);obtain⟨x,hx,hxs⟩:=List.mem_map.1 h2;obtain⟨i,hi,he⟩:=List.mem_iff_getElem.1 hx;refine⟨i,hi,?_⟩;have h3:es.getD i enZero=x:=by rw[Ab,Ac hi];exact he
 grind [sL,kG,jT,keyRE,readL]
theorem zD0 {ks:List ByteArray} {i j:Nat} {a b:ByteArray} (hi:(rO ks)[i]?=some a) (hj:(rO ks)[j]?=some b) (h:Op.bytesLess (bl a) (bl b)=true):i<j:=by
 have hp:=xX (bls ks)
 have key:∀ {i:Nat} {a:ByteArray},(rO ks)[i]?=some a->(qP0 (bls ks))[i]?=some (bl a):=λ{i a} h=>by
  unfold rO at h;rw[Aj]at h
  cases hx:(qP0 (bls ks))[i]? with
  | none=>rw[hx]at h;cases h
  | some x =>
   rw[hx]at h;rw[<-Option.some.inj h];grind [bl,mkB]
 grind [xW,List.pairwise_iff_getElem,mX0]
theorem tI0 {es:List En} (hs:gA es) {i j:Nat} (h1:i<j) (h2:j<es.length):keyRE (readL es) es i<=keyRE (readL es) es j:=by
 have hl:=List.pairwise_iff_getElem.1 hs i j (by omega) h2 h1;have e1:es.getD i enZero=es[i]:=by rw[Ab,Ac (by omega)];rfl
 have e2:es.getD j enZero=es[j]:=by rw[Ab,Ac h2];rfl
 have m1:=lZ (Ay (show i<es.length by omega))
 have m2:=lZ (Ay h2);unfold keyRE;rw[e1,e2];by_cases he:es[i].r=es[j].r
 ·rw[(jZ0 m1 m2).2 he];exact Ai _
 ·rw[jL1 he,Cd,Cd]at hl
  exact Bw (zD0 (jT m1) (jT m2) hl)
theorem sO {es:List En} (hs:gA es):grpsL (keyRE (readL es) es) es.length (readL es).length=Ag es.length:=by
 refine(iO (λ_=>qN) (λ_ _ _=>zK) ?_ (gM (keyRE (readL es) es) es.length (readL es).length) λx=>?_).symm
 ·refine List.pairwise_iff_getElem.2 λi j hi hj r9=>?_
  rw[Bu,Bu]
  have:=tI0 hs r9 (by simpa using hj)
  unfold ltK;omega
 ·rw[fX,Ak]
  exact⟨λh=>⟨h,rY h⟩,λh=>h.1⟩
theorem sG {es:List En} (hs:gA es):gO qS es es.length=qI0 (keyRE (readL es) es) es.length (readL es).length:=by
 rw[<-rN _ _ _ (gN0 es),sO hs];unfold gO dX0;rw[Al];apply An
 intro i hi;rw[Ak]at hi;have g:∀j,j<es.length->(Ag es.length).getD j 0=j:=by simp_all
 unfold bU0 zJ;grind [jZ0,lZ,qS,keyRE]
theorem hH1 (es:List En):es=(Ag es.length).map λi=>es.getD i enZero:=by
 apply Bd
 grind
theorem zU (es:List En) (p:En->Bool):es.filter p=((Ag es.length).filter λi=>p (es.getD i enZero)).map λi=>es.getD i enZero:=by
 conv=>lhs;rw[hH1 es]
 rw[List.filter_map];rfl
theorem dK1 {es:List En} {id:Nat} {s:ByteArray} (h:(readL es)[id]?=some s):(grp (keyRE (readL es) es) es.length id).map (λi=>es.getD i enZero)=jG es s:=by
 unfold jG grp;rw[zU];congr 1
 apply An
 intro i hi;rw[Ak]at hi;have hx:=jT (lZ (Ae (dM0 hi)));unfold keyRE;rw[At];simp only[beq_iff_eq,decide_eq_true_eq];constructor
 ·intro e
  rw[e,h]at hx;exact(Option.some.inj hx).symm
 ·intro e
  rw[e]at hx;exact sL (kG _) hx h
theorem eT1 {es:List En} {id:Nat} {s:ByteArray} (h:(bP es)[id]?=some s):(grp (jJ (bP es) es) es.length id).map (λi=>es.getD i enZero)=ofL es s:=by
 unfold ofL grp;rw[zU];congr 1
 apply An
 intro i hi;rw[Ak]at hi;have hx:=kD (jN (Ae (dM0 hi)));unfold jJ;rw[At];simp only[beq_iff_eq,decide_eq_true_eq];constructor
 ·intro e
  rw[e,h]at hx;exact(Option.some.inj hx).symm
 ·intro e
  rw[e]at hx;exact sL (kG _) hx h
theorem dV0 {es:List En} {s:ByteArray} (h:s∉readL es):jG es s=[]:=by
 unfold jG;rw[Bj];intro x hx;simp only[decide_eq_true_eq];rintro rfl;exact h (lZ hx)
theorem yW0 {es:List En} {s:ByteArray} (h:s∉bP es):ofL es s=[]:=by
 unfold ofL;rw[Bj];intro x hx;simp only[decide_eq_true_eq];rintro rfl;exact h (jN hx)
def nY0 (es:List En) (a b:Nat):List En:=(es.take b).drop a
theorem zC (es:List En) {a b:Nat} (hb:b<=es.length):nY0 es a b=((Ah a (b-a)).map λi=>es.getD i enZero):=by
 apply Bd
 grind [nY0]
theorem yX0 {es:List En} (hs:gA es) {a b:Nat} (eo:a<=b) (hb:b<=(readL es).length) :
  nY0 es (grpsL (keyRE (readL es) es) es.length a).length (grpsL (keyRE (readL es) es) es.length b).length=es.filter (λx=>decide (a<=iN0 (readL es) x)&&decide (iN0 (readL es) x<b)):=by
 have hk:∀i,i<es.length->keyRE (readL es) es i<(readL es).length:=λi hi=>rY hi
 have ac:∀i s,i<es.length->s<=(readL es).length->((grpsL (keyRE (readL es) es) es.length s).length<=i↔s<=keyRE (readL es) es i):=λi s hi iq=>by
  have h:=cB1 hk hi iq;rw[sO hs,Ab,Am hi,Bg]at h;exact h
 obtain⟨A,hA⟩:=exq ((grpsL (keyRE (readL es) es) es.length a).length);obtain⟨B,hB⟩:=exq ((grpsL (keyRE (readL es) es) es.length b).length)
 have hAB:A<=B/\B<=es.length:=by
  obtain⟨r,hr⟩:=jE (k:=keyRE (readL es) es) (n:=es.length) eo;obtain⟨r2,cy⟩:=jE (k:=keyRE (readL es) es) (n:=es.length) hb
  have:=jH hk
  rw[cy,Af]at this;rw[hA,hB];refine⟨by rw[hr,Af];omega,by omega⟩
 rw[<-hA,<-hB,zC es hAB.2,zU];congr 1
 have e1:(Ag es.length).filter (λi=>decide (a<=iN0 (readL es) (es.getD i enZero))&&decide (iN0 (readL es) (es.getD i enZero)<b))=(Ag es.length).filter (λi=>decide (A<=i)&&decide (i<B)):=by
  apply An
  intro i hi;rw[Ak]at hi;have h1:=ac i a hi (by omega);have h2:=ac i b hi hb;rw[<-hA]at h1;rw[<-hB]at h2;unfold keyRE at h1 h2;rw[At];simp only[Bool.and_eq_true,decide_eq_true_eq];omega
 rw[e1]
 have e2:Ag es.length=Ag A++(Ah A (B-A)++Ah B (es.length-B)):=by
  have h1:Ah A (B-A)++Ah B (es.length-B)=Ah A (es.length-A):=by
   have:=Ap (s:=A) (m:=B-A) (n:=es.length-B)
   rw[show A+(B-A)=B by omega,show B-A+(es.length-B)=es.length-A by omega]at this
   exact this
  have h2:=Ap (s:=0) (m:=A) (n:=es.length-A);rw[Ba,show A+(es.length-A)=es.length by omega]at h2
  rw[h1,Aq,Aq,h2]
 rw[e2,Bv,Bv];have f1:(Ag A).filter (λi=>decide (A<=i)&&decide (i<B))=[]:=List.filter_eq_nil_iff.2 (λi hi=>by rw[Ak]at hi;simp;omega);have f3:(Ah B (es.length-B)).filter (λi=>decide (A<=i)&&decide (i<B))=[]:=List.filter_eq_nil_iff.2 (λi hi=>by rw[Be]at hi;simp;omega);rw[f1,f3,List.append_nil,Az];symm
 rw[List.filter_eq_self];intro i hi;rw[Be]at hi;simp;omega
theorem sQ {es:List En} {a:Nat}:∀ {b:Nat},a<=b->b<=(readL es).length->b-a<=(grpsL (keyRE (readL es) es) es.length b).length-(grpsL (keyRE (readL es) es) es.length a).length/\(grpsL (keyRE (readL es) es) es.length a).length<=(grpsL (keyRE (readL es) es) es.length b).length
 | 0,h,_=>by
  obtain rfl:a=0:=by omega
  simp
 | b+1,h,hb=>by
  rcases Bi b a with c|c
  ·obtain rfl:a=b+1:=by omega
   simp
  ·have ih:=sQ (es:=es) c (by omega)
   rw[kI,Af];obtain⟨i,hi,hk⟩:=gN0 es b (by omega)
   have:0<(grp (keyRE (readL es) es) es.length b).length:=List.length_pos_iff.2 (List.ne_nil_of_mem (zF.2 ⟨hi,hk⟩))
   omega
theorem uL0 {es:List En} (hs:gA es) {a b:Nat} {p:ByteArray} {m:Nat} (hm:0<m) (eo:a<b) (hb:b<=(readL es).length)
  (hp:∀j s,(readL es)[j]?=some s->(qR s p=true↔a<=j/\j<b)) :
  nY0 es (grpsL (keyRE (readL es) es) es.length a).length (min ((grpsL (keyRE (readL es) es) es.length (a+min m (b-a))).length-(grpsL (keyRE (readL es) es) es.length a).length) m+(grpsL (keyRE (readL es) es) es.length a).length)=(es.filter λx=>qR x.r p).take m:=by
 have hf:es.filter (λx=>qR x.r p)=es.filter (λx=>decide (a<=iN0 (readL es) x)&&decide (iN0 (readL es) x<b)):=by
  apply An
  intro x hx;have h:=hp _ _ (jT (lZ hx));rw[At,h];simp
 rw[hf,<-yX0 hs (Bw eo) hb];obtain⟨h1,h2⟩:=sQ (es:=es) (Bw eo) hb;obtain⟨h3,h4⟩:=sQ (es:=es) (a:=a) (b:=a+min m (b-a)) (by omega) (by omega);have h5:=(sQ (es:=es) (a:=a+min m (b-a)) (b:=b) (by omega) hb).2
 have key:min ((grpsL (keyRE (readL es) es) es.length (a+min m (b-a))).length-(grpsL (keyRE (readL es) es) es.length a).length) m=min ((grpsL (keyRE (readL es) es) es.length b).length-(grpsL (keyRE (readL es) es) es.length a).length) m:=by
  by_cases hc:m<b-a
  ·omega
  ·grind
 rw[key];unfold nY0;rw[List.take_drop,List.take_take];congr 2
 omega
theorem uH {R:List ByteArray} {x:List UInt8}:x∈bls R↔mkB x∈R:=by
 unfold bls;rw[List.mem_map];grind [lI,bl,mkB]
theorem oU1 {R:List ByteArray} {j:Nat} {s:ByteArray} (h:R[j]?=some s):R.getD j ⟨#[]⟩=s:=by
 simp_all
theorem iY0 {R:List ByteArray} (h:OkL (bls R)) (f:ByteArray->List En) (hf:∀s,s∉R->f s=[]) (s:ByteArray) :
  (Ag (min s.size 256+1)).flatMap (λn=>f (cutB s n))=(uY (bls R) (bl s) s.size).flatMap λq=>f (R.getD q.1 ⟨#[]⟩):=by
 have ah0:∀i,(vN0 (bls R) (bl s) i).flatMap (λq=>f (R.getD q.1 ⟨#[]⟩))=f (cutB s (i+1)):=λi=>by
  unfold vN0;by_cases hm:(bl s).take (i+1)∈bls R
  ·rw[if_pos hm]
   have ti:=uH.1 hm;obtain⟨j,hj⟩:=List.mem_iff_getElem?.1 ti;have h1:=lO hj;rw[show bl (mkB ((bl s).take (i+1)))=(bl s).take (i+1) from iR _]at h1
   rw[h.findT_of h1];grind [cutB]
  ·rw[if_neg hm]
   grind [uH,cutB]
 have e1:(uY (bls R) (bl s) s.size).flatMap (λq=>f (R.getD q.1 ⟨#[]⟩))=(Ag s.size).flatMap λi=>f (cutB s (i+1)):=by
  unfold uY;rw[List.flatMap_assoc];congr 1
  funext i
  exact ah0 i
 have e0:f (cutB s 0)=[]:=hf _ (λhc=>h.pos [] (uH.2 (by unfold cutB at hc;simp_all)) rfl);rw[e1,List.range_succ_eq_map,List.flatMap_cons,e0,Az,Ca];by_cases hs:s.size<=256
 ·rw[Nat.min_eq_left hs]
 ·rw[Nat.min_eq_right (by omega)]
  have e2:Ag s.size=Ag 256++Ah 256 (s.size-256):=by
   have h2:=Ap (s:=0) (m:=256) (n:=s.size-256);rw[Ba,show 256+(s.size-256)=s.size by omega]at h2
   rw[Aq,Aq,h2]
  rw[e2,List.flatMap_append]
  have e3:(Ah 256 (s.size-256)).flatMap (λi=>f (cutB s (i+1)))=[]:=by
   rw[List.flatMap_eq_nil_iff];intro i hi;rw[Be]at hi;refine hf _ λhc=>?_;have h3:=h.len _ (uH.2 hc);rw[List.length_take,eE]at h3;omega
  simp_all
theorem pref_hits {es:List En} (h:OkL (bls (readL es))) (s:ByteArray):nV1 es s=(uY (bls (readL es)) (bl s) s.size).flatMap λq=>jG es ((readL es).getD q.1 ⟨#[]⟩) :=
 iY0 h (jG es) (λ_ hs=>dV0 hs) s
theorem writes_hits {es:List En} (h:OkL (bls (bP es))) (s:ByteArray):kJ1 es s=(uY (bls (bP es)) (bl s) s.size).flatMap λq=>ofL es ((bP es).getD q.1 ⟨#[]⟩) :=
 iY0 h (ofL es) (λ_ hs=>yW0 hs) s
theorem uA0 {es:List En} (h:OkL (bls (readL es))) (s:ByteArray):jG es s=if (lC (bls (readL es)) (bl s)).2=true then jG es ((readL es).getD (lC (bls (readL es)) (bl s)).1 ⟨#[]⟩) else []:=by
 by_cases hm:s∈readL es
 ·obtain⟨j,hj⟩:=List.mem_iff_getElem?.1 hm
  rw[h.findT_of (lO hj),if_pos rfl,oU1 hj]
 ·rw[nS (by grind [lI,bls,bl]),dV0 hm]
  rfl
theorem lR1 {es:List En} (h:OkL (bls (bP es))) (s:ByteArray):ofL es s=if (lC (bls (bP es)) (bl s)).2=true then ofL es ((bP es).getD (lC (bls (bP es)) (bl s)).1 ⟨#[]⟩) else []:=by
 by_cases hm:s∈bP es
 ·obtain⟨j,hj⟩:=List.mem_iff_getElem?.1 hm
  rw[h.findT_of (lO hj),if_pos rfl,oU1 hj]
 ·rw[nS (by grind [lI,bls,bl]),yW0 hm]
  rfl
theorem zQ0 {es:List En} {p:ByteArray} {ar:Int} (h:fJ (bls (readL es)) (bl p)=[]):jQ es p ar=[]:=by
 unfold jQ
 have:es.filter (λx=>qR x.r p)=[]:=by
  refine List.filter_eq_nil_iff.2 λx hx hb=>?_
  have hm:iN0 (readL es) x∈fJ (bls (readL es)) (bl p):=by
   have h1:=jT (lZ hx);unfold fJ;rw[Ce,Ak,cO];refine⟨by grind,?_⟩;rw[vY (lO h1)];exact hb
  rw[h]at hm;cases hm
 simp_all
theorem vA0 {es:List En} (hs:gA es) {p:ByteArray} {a b m:Nat} (hm:0<m) (eo:a<b) (hb:b<=(readL es).length) (h:fJ (bls (readL es)) (bl p)=Ah a (b-a)) :
  nY0 es (grpsL (keyRE (readL es) es) es.length a).length (min ((grpsL (keyRE (readL es) es) es.length (a+min m (b-a))).length-(grpsL (keyRE (readL es) es) es.length a).length) m+(grpsL (keyRE (readL es) es) es.length a).length)=jQ es p (m:Int):=by
 unfold jQ;rw[Int.toNat_natCast];refine uL0 hs hm eo hb λj s hj=>?_
 have h1:j∈fJ (bls (readL es)) (bl p)↔qR s p=true:=by
  unfold fJ;rw[Ce,Ak,cO,vY (lO hj)];exact by grind [qR]
 grind
theorem qT0 {s x:ByteArray} {n:Nat} (hn:n<=s.size):x=cutB s n↔qR s x=true/\x.size=n:=by
 unfold qR cutB;grind [List.prefix_iff_eq_take,Lib.size_eq,lI,mkB,bl]
theorem kW1 {s p:ByteArray} (h:qR s p=true):p.size<=s.size:=by
 unfold qR at h;grind [eE]
end
section
open Go Go.RowKit Go.Shelf
attribute [local go_sem] aO aM
def pI (p:List cY) (m:Option Mx) (l:List En):Int :=
 if yF p m l=0 then (if gP (bls (readL (sortS l)))=0/\gP (bls (bP (sortS l)))=0 then 0 else 2) else yF p m l
end
section
open Go Go.RowKit
theorem mM0 (P:List bD) (w:World) (T:TypeId) (hl:P.length<=1000000):aG (w.alloc (.cells (P.flatMap kZ).toArray T)) (some ⟨w.heap.size,0,none⟩) 2 (P.map kZ):=by
 have h:=jB (enc:=kZ) (k:=2) (λ_=>rfl) (w:=w) (e:=T) (base:=w.heap.size) (n:=P.length) (Ai _) P (cs:=(P.flatMap kZ).toArray) (by simp) rfl (by unfold maxLen;omega);obtain⟨a,c,e,_,_,ac⟩:=h.at_ (k:=2) (λ_=>rfl);have e1:=(Value.slice.inj e).1;rw[e1];exact ac
def bare (p:bD):bD:=⟨p.name,p.data,none,0⟩
theorem sW0 (P:List bD):kX (P.map bare)=kX P:=by simp[kX,bare,Ck,Function.comp_def]
theorem nA0 (P:List bD):dD (P.map bare)=dD P:=by
 simp[dD,dF,dH,bare,Ca]
theorem nQ (P:List bD):file14 (P.map bare)=file14 P:=by unfold file14; rw[nA0]
theorem cT0:∀(P:List bD) (seen:List ByteArray),xM (P.map bare) seen=xM P seen
 | [],_=>rfl
 | p::P,seen=>by
  rw[Bf,xM,xM,cT0 P];rfl
theorem qC (P:List bD):fF (P.map bare)=fF P:=by
 unfold fF vM0;rw[sW0,Ad,cT0,List.any_map];rfl
theorem eX {W:World} {base:Nat} {v:Value} {data:List UInt8} (h:aU W base 5 1 aV v data):∃a c,v=.slice a data.length c/\aG W a 1 (data.map aV)/\(a=none->c=0):=by
 obtain⟨a,c,rfl,_,_,ac⟩:=h.at_ (k:=1) (λx=>(rfl:(aV x).length=1));refine⟨a,c,rfl,ac,λha=>?_⟩;rcases h.2 with ⟨e,_⟩|⟨g,cap,ct,hv,_⟩
 ·exact(Value.slice.inj e).2.2
 ·rw[ha]at hv
  cases (Value.slice.inj hv).1
end
section
open Go Go.RowKit Go.Shelf Go.Sort
theorem uW0 {w:World} {g n:Nat} {os:Array Obj} (d:Array Nat):w.grownBy (grow (putRow nv (Sort.ahead w n) g 0 d) os) (some g):=by
 refine⟨rfl,rfl,rfl,by simp,λk hk ak=>?_⟩;rw[heap_grow_old _ _ (by simpa using hk)]
 have:g≠k:=λe=>ak (by rw[e])
 simp[putRow,mapBlock,Sort.ahead,Array.getElem?_modify,this]
theorem qH0 {wB w0 W:World} {ob:Nat} {dk:Array Nat} (hB:aB wB w0) (hob:wB.heap.size<=ob) (S:SWn w0 ob dk W):aB wB W:=by
 obtain⟨m,os,rfl⟩:=S;exact hB.grown (uW0 dk) (λq hq=>by cases hq;exact hob)
theorem mH1 {es:List En} {BS:List ByteArray} {ib eb sc ob:Nat} {sa:Option Addr} {wB w0:World} (hn:es.length<=1048576) (hL:BS.length<=1048576) (hB:aB wB w0) (hob:wB.heap.size<=ob) (hid:iK1 wB ib BS) (bk:wB.cell? ⟨eb,0,none⟩=some (.slice sa es.length sc)) (ac:aG wB sa 5 (es.map bF))
  (aa:aU w0 wB.heap.size 3 1 jS (.slice (some ⟨ob,0,none⟩) es.length es.length) (Ag es.length)) (af:ob<w0.heap.size) (hm:∀x∈es,x.s∈BS) (hz:∀x∈es,x.s.size<=maxLen) :
  fT (jJ BS es) es.length ob 104 #[.pointer (some ⟨ib,0,none⟩),.pointer (some ⟨eb,0,none⟩)] (Ag es.length).toArray w0/\SWn w0 ob (Ag es.length).toArray w0:=by
 have hH:Holds nv w0 ob 0 (Ag es.length).toArray:=λj hj=>by
  have nr:j<es.length:=by simpa using hj
  have h1:=cM (f:=λn:Nat=>Value.int .i64 n) aa (k:=j) (x:=j) (by rw[Am nr]);obtain⟨h2,_,_⟩:=eO (f:=λn:Nat=>Value.int .i64 n) aa (k:=j) (by simpa using nr) 0;refine⟨?_,by rw[Ba];exact h2⟩;rw[Ba,h1];simp[nv,nr]
 refine⟨⟨⟨λx=>rfl,hH,af⟩,by simp,hn,kO1,?_⟩,⟨0,#[],(sortWorld_start nv w0 ob 0 _ hH).symm⟩⟩;intro m os dk hs x y hx hy;have hg:aB wB (sortWorld nv w0 ob 0 m dk os):=qH0 hB hob ⟨m,os,rfl⟩;have hex:es[x]?=some (es.getD x enZero):=by rw[Ab,Ac hx];rfl
 have hey:es[y]?=some (es.getD y enZero):=by rw[Ab,Ac hy];rfl
 have hmx:=Ae hex;have hmy:=Ae hey;have h:=fI1 BS ib eb (jJ BS es x) (jJ BS es y) x y es (es.getD x enZero) (es.getD y enZero) sa sc _ (hid.grows hg) (hg.cell bk) (ac.grows hg) hn hL hex hey (kD (hm _ hmx)) (kD (hm _ hmy)) ⟨hz _ hmx,hz _ hmy⟩;exact h.mono λe w' ⟨h1,h2⟩=>⟨h1,1,#[],by rw[h2,grow_empty];rfl⟩
theorem fV1 {es:List En} {BS:List ByteArray} {ob:Nat} {_wB w0 w':World} {dk:Array Nat} (hs:dk.size=es.length) (hw:Win (jJ BS es) (Fd dk) 0 es.length) (hm:∀x∈es,x.s∈BS) (R:Row1 nv w0 ob 0 (Ag es.length).toArray) (S:SWn w0 ob dk w') :
  aG w' (some ⟨ob,0,none⟩) 1 ((grpsL (jJ BS es) es.length BS.length).map jS)/\(grpsL (jJ BS es) es.length BS.length).length=es.length/\∀i∈grpsL (jJ BS es) es.length BS.length,i<es.length:=by
 have h1:(Ag es.length).map (Fd dk)=grpsL (jJ BS es) es.length BS.length:=fC1 hw λi hi=>by
  have hex:es[i]?=some (es.getD i enZero):=by rw[Ab,Ac hi];rfl
  exact pF (hm _ (Ae hex))
 rw[<-h1];refine⟨λ_=>⟨ob,0,rfl,λi row hi j u hj=>?_⟩,by simp,λi hi=>?_⟩
 ·rw[Aj,Aj]at hi
  rcases Bi i es.length with af|yv
  ·rw[Am af]at hi
   simp only[Cf,Option.some.injEq]at hi;subst hi
   match j,hj with
   | 0,hj =>
    have:=S.c1 R (by rw[hs];simp) i (by omega)
    simp only[jS,List.getElem?_cons_zero,Option.some.injEq]at hj;subst hj;simpa [Fd,nv] using this
  ·rw[Bn (by simpa using yv)]at hi
   cases hi
 ·obtain⟨j,hj,rfl⟩:=List.mem_map.1 hi
  rw[Ak]at hj;exact(hw.inn j (Bp _) hj).2
end
section
open Go Go.RowKit Go.Shelf
attribute [local go_sem] aO aM
def cZ (p:List cY) (m:Option Mx) (l:List En) (w:World) (e:Ending) (w':World):Prop :=
 aB w w'/\∃v,e=.returned (.tuple #[v,.int .i64 (qV p m l).1])/\aU w' w.heap.size 5 1 aV v (qV p m l).2
theorem sC0 (p:List cY) (mv:Value) (m:Option Mx) (l:List En) (pa a:Option Addr) (pc c:Nat) (w:World) (he:Env w) (hp:p.length<=4611686018427387904) (hl:l.length<=140737488355328) (hs:∀x∈l,x.r.size<9223372036854775807/\x.s.size<9223372036854775807)
  (tw:aG w pa 2 (p.map cB)) (hm:eR1 w mv m) (ac:aG w a 5 (l.map bF)) (hc:yF p m l≠0) :
  Calls Tryz.prog 53 #[.slice pa p.length pc,mv,.slice a l.length c] w (cZ p m l w):=by
 have ik:aB w (w.alloc (.cells #[.slice a l.length c] 24)):=aB.alloc _ _;have CC:=Aa (dA0 p mv m l pa a pc c _ (he.grows ik) hp hl hs (tw.grows ik) (hm.grows ik) (ac.grows ik));have bk:(w.alloc (.cells #[.slice a l.length c] 24)).cell? ⟨w.heap.size,0,none⟩=some (.slice a l.length c):=aT w _ _ (0,0) 0 _ rfl;unfold cZ qV;rw[if_neg hc];obtain⟨f,hf⟩:=exq (yF p m l);rw[<-hf]at CC hc ⊢;clear he hs tw hm ac hf ik;go_enter Tryz.func53,Tryz.ntmps53
 go_wp2_with fail
 refine CC.out.mono ?_;rintro e w1 ⟨rfl,ai⟩;go_wp2
 go_ret2;exact⟨aB.trans _ _ _ (aB.alloc _ _) ai,_,rfl,aU.nil _ _ _ _ _⟩
theorem nJ1 {k:Nat} (h:k<=1048576):(Lit.int .i64 (k:Int)).wf=true:=by
 simp[Lit.wf,IntKind.min,IntKind.max,Ar,Ao];omega
theorem cZ.long {p:List cY} {m:Mx} {l:List En} {w w':World} (hc:yF p (some m) l=0) (h:¬(gP (bls (readL (sortS l)))=0/\gP (bls (bP (sortS l)))=0)) (hg:aB w w'):cZ p (some m) l w (.returned (.tuple #[.slice none 0 0,.int .i64 2])) w':=by
 unfold cZ qV;rw[if_pos hc];simp only;rw[if_neg h];exact⟨hg,_,rfl,aU.nil _ _ _ _ _⟩
theorem cZ.join {p:List cY} {m:Mx} {l:List En} {w w':World} {e:Ending} (hc:yF p (some m) l=0) (h:gP (bls (readL (sortS l)))=0/\gP (bls (bP (sortS l)))=0) (hg:aB w w')
  (hj:(fF (imgP p m (sortS l))=0->∃v,e=.returned (.tuple #[v,.int .i64 0])/\aU w' w.heap.size 5 1 aV v (file14 (imgP p m (sortS l))))/\(fF (imgP p m (sortS l))≠0->e=.returned (.tuple #[.slice none 0 0,.int .i64 (fF (imgP p m (sortS l)))]))):cZ p (some m) l w e w':=by
 unfold cZ qV;rw[if_pos hc];simp only;rw[if_pos h];refine⟨hg,?_⟩;by_cases h0:fF (imgP p m (sortS l))=0
 ·rw[if_pos h0];exact hj.1 h0
 ·rw[if_neg h0];exact⟨_,hj.2 h0,aU.nil _ _ _ _ _⟩
theorem lF0 (p:List cY) (mb bm:Nat) (m:Mx) (l:List En) (pa a:Option Addr) (pc c:Nat) (w:World) (he:Env w) (hp:p.length<=4611686018427387904) (hs:∀x∈l,tS x) (hz:∀x∈l,x.r.size<=1099511627776/\x.s.size<=1099511627776) (hl:l.length<=20000) (hv:eH p=true)
  (tw:aG w pa 2 (p.map cB)) (hm:gF w mb bm m) (ac:aG w a 5 (l.map bF)) (hc:yF p (some m) l=0) :
  Calls Tryz.prog 53 #[.slice pa p.length pc,.pointer (some ⟨mb,0,none⟩),.slice a l.length c] w (cZ p (some m) l w):=by
 have ik:aB w (w.alloc (.cells #[.slice a l.length c] 24)):=aB.alloc _ _;have CC:=Aa (dA0 p (.pointer (some ⟨mb,0,none⟩)) (some m) l pa a pc c _ (he.grows ik) hp (by omega) (λx hx=>by have:=hz x hx;omega) (tw.grows ik) (eR1.grows (m:=some m) ⟨mb,bm,rfl,hm⟩ ik) (ac.grows ik));have bk:(w.alloc (.cells #[.slice a l.length c] 24)).cell? ⟨w.heap.size,0,none⟩=some (.slice a l.length c):=aT w _ _ (0,0) 0 _ rfl;have xj:=Aa (eF0 w #[.slice a l.length c] 24 0);rw[hc]at CC;have HCH:=Aa hc;obtain⟨es,hes⟩:=exq (sortS l);have HSO:=Aa hes;have HE:=Aa he;have HPT:=Aa tw;have HM:=Aa hm;have HAT:=Aa ac;have HZ:=Aa hz;have HS:=Aa hs;have HGA:=Aa ik;clear he hs hz tw hm ac hc hes;go_enter Tryz.func53,Tryz.ntmps53
 go_wp2_with fail
 obtain⟨wA,hwA⟩:=exq (w.alloc (.cells #[.slice a l.length c] 24));have ae6:w.heap.size<wA.heap.size:=by rw[hwA];simp
 rw[<-hwA]at HGA CC xj bk ⊢;have HSZ:=Aa ae6;obtain⟨eb,de⟩:=exq w.heap.size;have HEB:=Aa de;have HF:Hid (wA.frozen? ⟨eb,0,none⟩=false):=by rw[de];exact xj
 rw[<-de]at bk ⊢;clear hwA xj ik ae6 de;refine CC.out.mono ?_;rintro e w1 ⟨rfl,ai⟩;have xk:=ai.cell bk;have CS:=Aa (vX0 l a c w1 (by omega) HS.out (HAT.out.grows (aB.trans _ _ _ HGA.out ai)));clear CC bk;go_wp2_with fail
 refine CS.out.mono ?_;rintro e w2 ⟨v2,rfl,gq,ae⟩;rw[<-HSO.out]at gq;have hes:=HSO.out;have HES:Hid (∀x∈es,x∈l):=λx hx=>by rw[hes]at hx;exact(((dM l).2 x).1 hx).1
 have ze:es.length<=l.length:=by rw[hes];exact cU ((dM l).1.imp λ{a b} eo e=>by rw[e,fP]at eo;cases eo) λy hy=>(((dM l).2 y).1 hy).1
 have hf2:w2.frozen? ⟨eb,0,none⟩=false:=((aB.trans _ _ _ ai ae).froz (by rw[HEB.out];exact HSZ.out)).trans HF.out;have xm:=ae.cell xk;have ae7:aB w w2:=aB.trans _ _ _ HGA.out (aB.trans _ _ _ ai ae);have ac9:eb<w1.heap.size:=by rw[HEB.out];exact Nat.lt_of_lt_of_le HSZ.out ai.size
 have hv3:=mM gq (p:=⟨eb,0,none⟩) ac9 v2;obtain⟨sa,sc,rfl,_,_,ir⟩:=hv3.at_ nO;have xn:aB w (w2.setCell ⟨eb,0,none⟩ (.slice sa es.length sc)):=ae7.set (by rw[HEB.out];exact Ai _) _;have ql:(w2.setCell ⟨eb,0,none⟩ (.slice sa es.length sc)).cell? ⟨eb,0,none⟩=some (.slice sa es.length sc):=World.cell?_setCell_same _ _ _ (by rw[xm];first|done|rfl)
 obtain⟨w3,hw3⟩:=exq (w2.setCell ⟨eb,0,none⟩ (.slice sa es.length sc));clear CS ai ae xk gq hv3 hes HF;go_wp2_with fail
 rw[<-hw3]at ir xn ql ⊢;clear hw3 hf2 xm ae7 ac9 HSZ HGA;have HAE:=Aa ir;have HCE:=Aa ql;clear ir ql;have CR:=Aa (pJ0 (λx=>x.r) _ kF1 dT1 es sa sc w3 (by omega) (HAE.out.grows (aB.refl _)));obtain⟨BR,hBR⟩:=exq (readL es);rw[show rO (es.map λx=>x.r)=BR from hBR.symm]at CR
 have HBR:=Aa hBR;have hlR:BR.length<=20000:=by rw[hBR];have:=bB0 (es.map λx=>x.r);rw[Ad]at this;unfold readL;omega
 have HZR:Hid (∀s∈BR,s.size<=1099511627776):=λs hs=>by
  rw[hBR]at hs;obtain⟨x,hx,rfl⟩:=List.mem_map.1 (aV0 hs);exact(HZ.out x (HES.out x hx)).1
 clear hBR;refine CR.out.mono ?_;rintro e w4 ⟨ki,bR,ah1,rfl,hbR,hOR⟩;obtain⟨a',c',e',_,_,hAR⟩:=hOR.at_ (k:=1) (λx=>(rfl:(stC x).length=1));have e'':=(Value.slice.inj e').1;subst e'';have CLR:=Aa (uJ BR (some ⟨bR,0,none⟩) ah1 w4 (by omega) HZR.out (λq hq=>by cases hq;exact hbR) hAR);clear CR e' hAR hOR hbR HZR;go_wp2_with fail
 refine CLR.out.mono ?_;rintro e w5 ⟨du,hTR⟩;clear CLR;have g5:=aB.trans _ _ _ ki du;clear ki du;rcases hTR with ⟨hkR,tr,rfl,hTR,_⟩|⟨hkR,rfl⟩
 ·have HTR:=Aa hTR
  have HKR:=Aa hkR;have abf:=g5.cell HCE.out;clear hTR hkR;go_wp2_with fail
  have CS:=Aa (pJ0 (λx=>x.s) _ jV1 eA1 es sa sc w5 (by omega) (HAE.out.grows g5));obtain⟨BS,hBS⟩:=exq (bP es);rw[show rO (es.map λx=>x.s)=BS from hBS.symm]at CS
  have HBS:=Aa hBS;have hlS:BS.length<=20000:=by rw[hBS];have:=bB0 (es.map λx=>x.s);rw[Ad]at this;unfold bP;omega
  have HZS:Hid (∀s∈BS,s.size<=1099511627776):=λs hs=>by
   rw[hBS]at hs;obtain⟨x,hx,rfl⟩:=List.mem_map.1 (aV0 hs);exact(HZ.out x (HES.out x hx)).2
  clear hBS;refine CS.out.mono ?_;rintro e w6 ⟨nc,bS,ah2,rfl,hbS,hOS⟩;obtain⟨a',c',e',_,_,hAS⟩:=hOS.at_ (k:=1) (λx=>(rfl:(stC x).length=1));have e'':=(Value.slice.inj e').1;subst e'';have CLS:=Aa (uJ BS (some ⟨bS,0,none⟩) ah2 w6 (by omega) HZS.out (λq hq=>by cases hq;exact hbS) hAS);clear CS e' hAS hOS hbS;go_wp2_with fail
  refine CLS.out.mono ?_;rintro e w7 ⟨qm,hTS⟩;clear CLS;have g7:=aB.trans _ _ _ g5 (aB.trans _ _ _ nc qm);have G57:=Aa (aB.trans _ _ _ nc qm);clear nc qm abf;rcases hTS with ⟨hkS,ts,rfl,hTS,_⟩|⟨hkS,rfl⟩
  ·have HTS:=Aa hTS
   have HKS:=Aa hkS;have qu:=@run_makeMap Tryz.prog;have CLn:=λW h=>Aa (tG (bls BS) ts W (hTS.grows (w':=W) h));obtain⟨w8,hw8⟩:=exq ((w7.alloc (.map #[] 0)).alloc (.cells #[.map (some w7.heap.size)] 75));have fq:aB w7 w8:=by rw[hw8];exact(aB.alloc _ _).al _
   have rq:=(World.ownsMap_made w7 Tryz.prog 9 (plainElem (H:=Unit) Tryz.prog 3)).alloc (.cells #[.map (some w7.heap.size)] 75);rw[<-hw8]at rq
   have qn:w8.cell? ⟨w7.heap.size+1,0,none⟩=some (.map (some w7.heap.size)):=by
    rw[hw8];have fe:(w7.alloc (.map #[] 0)).heap.size=w7.heap.size+1:=by simp
    have h:=aT (w7.alloc (.map #[] 0)) #[.map (some w7.heap.size)] 75 (0,0) 0 _ rfl;rw[fe]at h;exact h
   obtain⟨ae8,ae9,hcS⟩:=dQ hkS;have gd:(bls BS).length=BS.length:=by unfold bls;rw[Ad]
   have CT:=λk W h hk=>Aa (eV0 (bls BS) ts k W ae8 ae9 hcS hk (hTS.grows (w':=W) h))
   have HGT:Hid (∀k,k<BS.length->BS[k]?=some (mkB (nth (bls BS) k))):=λk hk=>by
    rw[HBS.out]at hk ⊢;exact gO1 hk
   have HND:Hid BS.Nodup:=by rw[HBS.out];exact kG _
   rw[gd]at CT CLn;clear hTS hkS ae8 ae9 hcS gd;go_wp2_with fail
   rw[<-hw8];have CL8:=CLn w8 fq;clear CLn;obtain⟨mp,hmp⟩:=exq w7.heap.size;obtain⟨ib,ws⟩:=exq (mp+1);rw[<-hmp,<-ws]at qn ⊢;rw[<-hmp]at rq;have HMP:=Aa hmp;have HIB:=Aa ws;clear hw8 qu hmp ws;refine CL8.out.mono ?_;rintro e w9 ⟨rfl,rfl⟩;clear CL8;go_wp2_with fail
   go_loopw [54] (λi wr=>∃(k:Nat) (D:DataW Unit),k<=BS.length/\i=.int .i64 k/\wr.cell? ⟨ib,0,none⟩=some (.map (some mp))/\wr.ownsMap Tryz.prog 9 (plainElem Tryz.prog 3) mp k D/\Hid (IdM BS k D)/\aB w7 wr) (λi _=>BS.length-(intOf i).toNat)
   case atStart=>exact⟨0,_,Bp _,rfl,qn,rq,fE1 _ _,fq⟩
   case round =>
    clear qn rq fq;obtain⟨k,D,hk,rfl,cr,aa,hM,hg⟩:=hrel;by_cases af:k<BS.length
    ·have CT1:=CT k wr hg af
     obtain⟨sk,hsk⟩:=exq (mkB (nth (bls BS) k));have s6:=HGT.out k af;rw[<-hsk]at CT1 s6;have ah3:sk.size<=maxLen:=Av (HZS.out sk (Ae s6)) (by unfold maxLen;omega);have HBK:=Aa s6;have cz:(k:Int)<BS.length:=by omega
     have hwk:=nJ1 (k:=k) (by omega);have hkm:k<maxLen:=by unfold maxLen;omega
     clear CT hsk s6;go_wp2_with fail
     refine CT1.out.mono ?_;rintro e w10 ⟨rfl,jy⟩;have abo:=jy.cell cr;have ah:=aZ aa jy;have ae:=aB.trans _ _ _ hg jy;clear CT1 cr aa;go_wp2_with (at_mapUpdate;refine wpList_mapUpdate_own _ rfl _ _ _ 75 rfl 9 3 (Maps.string_keyed Tryz.underlying9) Tryz.underlying75 _ mp k D rfl ah hkm _ _ (.string sk.data.toList) rfl rfl (WideMaps.keyOf_string_mk Tryz.underlying9 ah3) _ [] (plainElem_int Tryz.underlying3 hwk) ?_;intro xh nf ng)
     have hM2:=Aa (kM1 hM.out ah HND.out HBK.out);have nh:xh.cell? ⟨ib,0,none⟩=some (.map (some mp)):=bB ng abo (by rw[HIB.out];simp);have aw:=ae.grown ng (λq hq=>by cases hq;rw[HMP.out];exact Ai _);clear abo ah hM hg ae jy ng;go_roundw
     case rel=>exact⟨k+1,_,af,by go_num,nh,nf,hM2,aw⟩
     case measure=>simp[intOf];omega
    ·obtain rfl:k=BS.length:=by omega
     have HID:Hid (iK1 wr ib BS):=⟨_,_,_,cr,aa,hM.out⟩;clear CT cr aa hM HND HGT;go_wp2_with fail
     have G20:=Aa (aB.trans _ _ _ g7 hg);have ada:=aB.trans _ _ _ xn (aB.trans _ _ _ g7 hg);have CPE:=Aa (tY0 p pa pc wr hv (HPT.out.grows ada));have G5r:=Aa (aB.trans _ _ _ G57.out hg);have G7r:=Aa hg;clear hg g7 g5;refine CPE.out.mono ?_;rintro e w21 ⟨v1,rfl,ij,xo⟩;clear CPE;have rr:=xo.cell (G20.out.cell HCE.out);have CI:=Aa (yX qS _ jW1 eK1 es sa sc w21 (by omega) (HAE.out.grows (aB.trans _ _ _ G20.out xo)));have HV1:=Aa ij;clear ij;go_wp2_with fail
     refine CI.out.mono ?_;rintro e lm ⟨abv,v2,rfl,gq⟩;clear CI;have HV2:=Aa gq;have ru:=abv.cell rr;have kh:=λ(Y:World)=>fL1 es.length Y (by omega);have G22:=Aa (aB.trans _ _ _ xo abv);have G2122:=Aa abv;have HS21:Hid (w.heap.size<=w21.heap.size):=Av ada.size xo.size;clear gq rr xo abv;go_wp2_with fail
     have be:=eJ0 (w:=lm) (n:=es.length) (by omega);have hrl:(Ag es.length).length=es.length:=Al;rw[Nat.mul_one]at be;have ms:List.replicate es.length 0=lQ (Ag es.length) 0 0:=by rw[qK,hrl]
     rw[ms]at be;clear ms;obtain⟨w23,abw⟩:=exq (lm.alloc (.cells (madeCells #[.int .i64 0] es.length) 3));have afa:aB lm w23:=by rw[abw];exact aB.alloc _ _
     have xq:lm.heap.size<w23.heap.size:=by rw[abw];simp
     rw[<-abw]at be ⊢;obtain⟨ob,hob⟩:=exq lm.heap.size;rw[<-hob]at xq ⊢;have xu:aU w23 lm.heap.size 3 1 jS (.slice (some ⟨ob,0,none⟩) es.length es.length) (lQ (Ag es.length) 0 0):=by rw[hob];exact be
     have HOB:=Aa hob;have afb:lm.heap.size<=ob:=by rw[hob];exact Ai _
     have HOBE:=Aa afb
     have X22:Aside (iK1 lm ib BS/\lm.cell? ⟨eb,0,none⟩=some (.slice sa es.length sc)/\aG lm sa 5 (es.map bF)/\eP lm tr (bls BR)/\eP lm ts (bls BS)/\aU lm w.heap.size 5 1 aV v1 (posE p)/\aU lm w.heap.size 3 1 jS v2 (gO qS es es.length)/\gF lm mb bm m/\Env lm/\aB w lm):=by
      have g1:=aB.trans _ _ _ G20.out G22.out;have g0:=aB.trans _ _ _ xn g1;exact⟨HID.out.grows G22.out,ru,HAE.out.grows g1,HTR.out.grows (aB.trans _ _ _ G5r.out G22.out),HTS.out.grows (aB.trans _ _ _ G7r.out G22.out),(HV1.out.grows G2122.out).base ada.size,HV2.out.base HS21.out,HM.out.grows g0,HE.out.grows g0,g0⟩
     clear abw be kh ru hob afb;go_loopw [79] (λi wr=>∃(k:Nat),k<=es.length/\i=.int .i64 k/\Hid (aU wr lm.heap.size 3 1 jS (.slice (some ⟨ob,0,none⟩) es.length es.length) (lQ (Ag es.length) 0 k))/\aB lm wr/\ob<wr.heap.size) (λi _=>es.length-(intOf i).toNat)
     case atStart=>exact⟨0,Bp _,rfl,xu,afa,xq⟩
     case round =>
      clear xu afa xq;obtain⟨k,hk,rfl,aa,hg,vh⟩:=hrel;by_cases af:k<es.length
      ·have cz:(k:Int)<es.length:=by omega
       obtain⟨z,hz⟩:∃z,(lQ (Ag es.length) 0 k)[k]?=some z:=⟨_,Ac (by rw[mD _ _ (by omega)];omega)⟩;have e1:=cM (f:=λn:Nat=>Value.int .i64 n) aa.out hz;obtain⟨f1,_,av⟩:=eO (f:=λn:Nat=>Value.int .i64 n) aa.out (k:=k) (by rw[mD _ _ (by omega)];omega) k;rw[tQ (Am af)]at av;have HO:=Aa av;clear hz aa av;go_wp2_with fail
       go_roundw
       case rel=>exact⟨k+1,af,by go_num,HO.out,hg.set HOBE.out _,by simpa using vh⟩
       case measure=>simp[intOf];omega
      ·obtain rfl:k=es.length:=by omega
       have ah:aU wr lm.heap.size 3 1 jS (.slice (some ⟨ob,0,none⟩) es.length es.length) (Ag es.length):=by
        have h:=aa.out;have e9:=rZ (Ag es.length) 0;rw[Al]at e9;rwa [e9]at h
       have HMS:Hid (∀x∈es,x.s∈BS):=λx hx=>by rw[HBS.out];exact fY0 (List.mem_map_of_mem hx)
       have OA:=Aa (mH1 (es:=es) (BS:=BS) (ib:=ib) (eb:=eb) (sc:=sc) (ob:=ob) (sa:=sa) (wB:=lm) (w0:=wr) (by omega) (by omega) hg HOBE.out X22.out.1 X22.out.2.1 X22.out.2.2.1 ah vh HMS.out (λx hx=>Av (HZ.out x (HES.out x hx)).2 (by unfold maxLen;omega)));have CSS:=Aa (bO0 OA.out.1 es.length (Ag es.length).toArray wr (by simp) (λi hi=>by unfold Fd;simp[hi]) OA.out.2);clear aa ah;go_wp2_with fail
       refine CSS.out.mono ?_;rintro e w30 ⟨rfl,dk,sj,hwd,SD⟩;have afc:=qH0 hg HOBE.out SD;have HL:=Aa (fV1 (_wB:=lm) sj hwd HMS.out OA.out.1.row SD);have aaa:=afc.cell X22.out.2.1;clear CSS SD sj hwd OA hg vh;obtain⟨O,hO⟩:=exq (grpsL (jJ BS es) es.length BS.length);rw[<-hO]at HL;have HO:=Aa hO;obtain⟨so,hso⟩:=exq (O.map λi=>es.getD i enZero);have HSO2:=Aa hso;have afd:so.length=es.length:=by rw[hso,Ad];exact HL.out.2.1
       have HG30:=Aa afc;obtain⟨iu,hiu,hzu,hsu,ri⟩:=mZ1;clear hO hso;go_wp2_with (at_make;refine wpList_make_full _ rfl _ _ 24 rfl w30.heap.size 62 iu enZero.agg 5 Tryz.underlying24 hiu hzu hsu .i64 .i64 _ _ es.length rfl rfl rfl rfl (by rw[ri];omega) (by unfold maxLen;omega) (Ai _) ?_;intro w31 qo aaw)
       have afe:=(aB.refl w30).grown aaw (λq hq=>by cases hq);obtain⟨sb,me⟩:=exq w30.heap.size;rw[<-me]at qo ⊢;obtain⟨hS0,_⟩:=lO0.made (so:=so) qo;have aff:w30.heap.size<=sb:=by rw[me];exact Ai _
       have HSBE:=Aa aff;clear qo aaw me aff hiu hzu hsu ri aaa;go_wp2_with fail
       go_loopw [95] (λi wr=>∃(k:Nat),k<=es.length/\i=.int .i64 k/\lO0 wr sb es.length so k/\aB w30 wr) (λi _=>es.length-(intOf i).toNat)
       case atStart=>exact⟨0,Bp _,rfl,hS0,afe⟩
       case round =>
        clear hS0 afe;obtain⟨k,hk,rfl,hS,hg⟩:=hrel;by_cases af:k<es.length
        ·obtain⟨o,ho⟩:∃o,O[k]?=some o:=⟨_,Ac (by rw[HL.out.2.1];exact af)⟩
         have hoe:=HL.out.2.2 o (Ae ho);obtain⟨b1,o1,e1,nu⟩:=at1 (f:=λn:Nat=>Value.int .i64 n) HL.out.1 (aJ (List.getElem?_eq_some_iff.1 ho).1);obtain⟨rfl,rfl⟩:ob=b1/\0=o1:=by simpa using e1
         have hoc:=hg.cell (nu k o ho);rw[Ba]at hoc;obtain⟨⟨xr,xs,xl,xt,xc⟩,hx⟩:∃x,es[o]?=some x:=⟨_,Ac hoe⟩;have gr:=aB.trans _ _ _ HG30.out hg;have hec:=gr.cell X22.out.2.1;obtain⟨ba,oa,rfl,bz⟩:=(X22.out.2.2.1.grows gr).get (aJ hoe);have c0:wr.cell? ⟨ba,oa+o*5,none⟩=some (.string xr):=bz o _ hx 0 _ rfl;have c1:wr.cell? ⟨ba,oa+o*5+1,none⟩=some (.string xs):=bz o _ hx 1 _ rfl;have c2:wr.cell? ⟨ba,oa+o*5+2,none⟩=some (.int .i64 xl):=bz o _ hx 2 _ rfl;have c3:wr.cell? ⟨ba,oa+o*5+3,none⟩=some (.int .i64 xt):=bz o _ hx 3 _ rfl;have c4:wr.cell? ⟨ba,oa+o*5+4,none⟩=some (.int .i64 xc):=bz o _ hx 4 _ rfl
         have hsk:so[k]?=some ⟨xr,xs,xl,xt,xc⟩:=by
          rw[HSO2.out,Aj,ho];simp only[Cf];rw[Ab,hx];rfl
         have HST:=Aa (hS.step af hsk);obtain⟨q0,d0⟩:=hS.cell (j:=k*5) (by omega);have S1:=hS.set (j:=k*5) (Ai _) (.string xr);obtain⟨q1,d1⟩:=S1.cell (j:=k*5+1) (by omega);have S2:=S1.set (j:=k*5+1) (by omega) (.string xs);obtain⟨q2,d2⟩:=S2.cell (j:=k*5+2) (by omega);have S3:=S2.set (j:=k*5+2) (by omega) (.int .i64 xl);obtain⟨q3,d3⟩:=S3.cell (j:=k*5+3) (by omega);have S4:=S3.set (j:=k*5+3) (by omega) (.int .i64 xt);obtain⟨q4,d4⟩:=S4.cell (j:=k*5+4) (by omega);have f0:=hS.froz (k*5);have f1:=hS.froz (k*5+1);have f2:=hS.froz (k*5+2);have f3:=hS.froz (k*5+3);have f4:=hS.froz (k*5+4);have hoi:(o:Int)<es.length:=by omega
         have cz:(k:Int)<es.length:=by omega
         clear ho nu hx bz hsk hS e1 S1 S2 S3 S4;go_wp2_with fail
         go_roundw
         case rel=>exact⟨k+1,af,by go_num,HST.out,((((hg.set HSBE.out _).set HSBE.out _).set HSBE.out _).set HSBE.out _).set HSBE.out _⟩
         case measure=>simp[intOf];omega
        ·obtain rfl:k=es.length:=by omega
         rw[<-afd]at hS;have hSA:=hS.at_;go_wp2_with fail
         have CI2:=Aa (yX fF0 _ lK1 cX1 so (some ⟨sb,0,none⟩) es.length wr (by omega) hSA);rw[afd]at CI2;refine CI2.out.mono ?_;rintro e w40 ⟨adb,v4,rfl,hv4⟩;obtain⟨a4,c4,rfl,_,_,xv⟩:=hv4.at_ (k:=1) (λx=>(rfl:(jS x).length=1));have HAT4:=Aa xv;have F40:=Aa (aB.refl w40);have G40:=Aa (aB.trans _ _ _ HG30.out (aB.trans _ _ _ hg adb));have HO40:=Aa (HL.out.1.grows (aB.trans _ _ _ hg adb));obtain⟨v2a,v2c,rfl,_,_,o5⟩:=X22.out.2.2.2.2.2.2.1.at_ (k:=1) (λx=>(rfl:(jS x).length=1));have HAT2:=Aa o5;obtain⟨a40,c40,rfl,aax,afg⟩:=eX X22.out.2.2.2.2.2.1;have PP40:=Aa (And.intro (aax.grows G40.out) afg);clear aax afg;have ad9:=G40.out.cell X22.out.2.1;clear CI2 adb hv4 xv o5 hg hS hSA;go_wp2_with fail
         refine(tM0 w40 mb bm m (X22.out.2.2.2.2.2.2.2.1.grows G40.out)).mono ?_;rintro e w41 ⟨v41,rfl,afh,abx⟩;obtain⟨a41,c41,rfl,aay,afi⟩:=eX afh;have PP41:=Aa (And.intro aay afi);have G41:=Aa (aB.trans _ _ _ G40.out abx);have E41:=Aa abx;have F41:=Aa (aB.trans _ _ _ F40.out abx);clear afh aay afi abx;go_wp2_with fail
         obtain⟨okR,lR,cR⟩:=dQ HKR.out;obtain⟨okS,lS,cS⟩:=dQ HKS.out;refine(fL0 (bls BR) tr w41 okR lR cR (X22.out.2.2.2.1.grows G41.out)).mono ?_;rintro e w42 ⟨v42,rfl,afj,aby⟩;obtain⟨a42,c42,rfl,aaz,afk⟩:=eX afj;have PP42:=Aa (And.intro aaz afk);have G42:=Aa (aB.trans _ _ _ G41.out aby);have E42:=Aa aby;have F42:=Aa (aB.trans _ _ _ F41.out aby);clear afj aaz afk aby;go_wp2_with fail
         have pm:=aC0 qS es es.length;have aj2:=aC0 fF0 so es.length;obtain⟨_,_,_,hck⟩:=gU HCH.out;have aei:=(fZ hv).1
         have HNN:Hid (∀x∈es,0<=x.l/\x.l<64/\0<=x.t/\x.t<64/\0<=x.c/\x.c<=30000):=λx hx=>by
          have:=rF (hck x (HES.out x hx));omega
         have HMZ:Hid (∀x∈es,x.s.size<=maxLen):=λx hx=>Av (HZ.out x (HES.out x hx)).2 (by unfold maxLen;omega);clear hck;refine(nP (gO qS es es.length) v2a v2c w42 (by omega) (λn hn=>by have:=iQ hn;omega) (HAT2.out.grows G42.out)).mono ?_;rintro e w43 ⟨v43,rfl,afl,abz⟩;obtain⟨a43,c43,rfl,aa0,afm⟩:=eX afl;have PP43:=Aa (And.intro aa0 afm);have G43:=Aa (aB.trans _ _ _ G42.out abz);have E43:=Aa abz;have F43:=Aa (aB.trans _ _ _ F42.out abz);clear afl aa0 afm abz;go_wp2_with fail
         refine(fL0 (bls BS) ts w43 okS lS cS (X22.out.2.2.2.2.1.grows G43.out)).mono ?_;rintro e w44 ⟨v44,rfl,afn,ab0⟩;obtain⟨a44,c44,rfl,aa1,afo⟩:=eX afn;have PP44:=Aa (And.intro aa1 afo);have G44:=Aa (aB.trans _ _ _ G43.out ab0);have E44:=Aa ab0;have F44:=Aa (aB.trans _ _ _ F43.out ab0);clear afn aa1 afo ab0;have aab:=G44.out.cell X22.out.2.1;go_wp2_with fail
         refine(pP (xG BS) _ #[.pointer (some ⟨ib,0,none⟩)] lL1 es eb sa sc w44 (by omega) (λx hx=>by have:=pF (HMS.out x hx);omega) (X22.out.2.2.1.grows G44.out) aab (λx hx W hW=>eX1 BS ib (xG BS x) x W (X22.out.1.grows (aB.trans _ _ _ G44.out hW)) (kD (HMS.out x hx)) (HMZ.out x hx))).mono ?_;rintro e w45 ⟨ab1,v45,rfl,afp⟩;obtain⟨a45,c45,rfl,aa2,afq⟩:=eX afp;have PP45:=Aa (And.intro aa2 afq);have G45:=Aa (aB.trans _ _ _ G44.out ab1);have E45:=Aa ab1;have F45:=Aa (aB.trans _ _ _ F44.out ab1);clear afp aa2 afq ab1;have aac:=G45.out.cell X22.out.2.1;go_wp2_with fail
         refine(pP (λx=>x.l.toNat) _ #[] jE1 es eb sa sc w45 (by omega) (λx hx=>by have:=HNN.out x hx;show x.l.toNat<_;omega) (X22.out.2.2.1.grows G45.out) aac (λx hx W hW=>by rw[show ((x.l.toNat:Nat):Int)=x.l from As (HNN.out x hx).1];exact fA1 x W)).mono ?_
         rintro e w46 ⟨ab2,v46,rfl,afr⟩;obtain⟨a46,c46,rfl,aa3,afs⟩:=eX afr;have PP46:=Aa (And.intro aa3 afs);have G46:=Aa (aB.trans _ _ _ G45.out ab2);have E46:=Aa ab2;have F46:=Aa (aB.trans _ _ _ F45.out ab2);clear afr aa3 afs ab2;have aad:=G46.out.cell X22.out.2.1;go_wp2_with fail
         refine(pP (λx=>x.t.toNat) _ #[] iU1 es eb sa sc w46 (by omega) (λx hx=>by have:=HNN.out x hx;show x.t.toNat<_;omega) (X22.out.2.2.1.grows G46.out) aad (λx hx W hW=>by rw[show ((x.t.toNat:Nat):Int)=x.t from As (HNN.out x hx).2.2.1];exact gL1 x W)).mono ?_
         rintro e w47 ⟨ab3,v47,rfl,aft⟩;obtain⟨a47,c47,rfl,aa4,afu⟩:=eX aft;have PP47:=Aa (And.intro aa4 afu);have G47:=Aa (aB.trans _ _ _ G46.out ab3);have E47:=Aa ab3;have F47:=Aa (aB.trans _ _ _ F46.out ab3);clear aft aa4 afu ab3;have aae:=G47.out.cell X22.out.2.1;go_wp2_with fail
         refine(pP (λx=>x.c.toNat) _ #[] cT1 es eb sa sc w47 (by omega) (λx hx=>by have:=HNN.out x hx;show x.c.toNat<_;omega) (X22.out.2.2.1.grows G47.out) aae (λx hx W hW=>by rw[show ((x.c.toNat:Nat):Int)=x.c from As (HNN.out x hx).2.2.2.2.1];exact zB0 x W)).mono ?_
         rintro e w48 ⟨ab4,v48,rfl,afv⟩;obtain⟨a48,c48,rfl,aa5,afw⟩:=eX afv;have PP48:=Aa (And.intro aa5 afw);have G48:=Aa (aB.trans _ _ _ G47.out ab4);have E48:=Aa ab4;have F48:=Aa (aB.trans _ _ _ F47.out ab4);clear afv aa5 afw ab4;have CO:=Aa (nP O (some ⟨ob,0,none⟩) es.length w48 (by rw[HL.out.2.1];omega) (λn hn=>by have:=HL.out.2.2 n hn;omega) (HO40.out.grows F48.out));rw[HL.out.2.1]at CO;go_wp2_with fail
         refine(CO.out).mono ?_;rintro e w49 ⟨v49,rfl,afx,ab5⟩;obtain⟨a49,c49,rfl,aa6,afy⟩:=eX afx;have PP49:=Aa (And.intro aa6 afy);have G49:=Aa (aB.trans _ _ _ G48.out ab5);have E49:=Aa ab5;have F49:=Aa (aB.trans _ _ _ F48.out ab5);clear afx aa6 afy ab5;go_wp2_with fail
         refine(nP (gO fF0 so es.length) a4 c4 w49 (by omega) (λn hn=>by have:=iQ hn;omega) (HAT4.out.grows F49.out)).mono ?_;rintro e w50 ⟨v50,rfl,afz,ab6⟩;obtain⟨a50,c50,rfl,aa7,af0⟩:=eX afz;have PP50:=Aa (And.intro aa7 af0);have G50:=Aa (aB.trans _ _ _ G49.out ab6);have E50:=Aa ab6;have F50:=Aa (aB.trans _ _ _ F49.out ab6);clear afz aa7 af0 ab6;go_wp2_with fail
         obtain⟨P,hP⟩:∃P:List bD,P=[⟨⟨#[112,111,115]⟩,posE p,a40,c40⟩,⟨⟨#[109,97,116,114,105,120]⟩,m.enc,a41,c41⟩,⟨⟨#[114,101,97,100,105,110,103,115]⟩,loudE (bls BR),a42,c42⟩,⟨⟨#[102,105,114,115,116]⟩,packE (gO qS es es.length),a43,c43⟩,⟨⟨#[115,117,114,102,97,99,101,115]⟩,loudE (bls BS),a44,c44⟩,⟨⟨#[115,117,114,102,97,99,101]⟩,packE (es.map (xG BS)),a45,c45⟩,⟨⟨#[108,101,102,116]⟩,packE (es.map λx=>x.l.toNat),a46,c46⟩,⟨⟨#[114,105,103,104,116]⟩,packE (es.map λx=>x.t.toNat),a47,c47⟩,⟨⟨#[99,111,115,116]⟩,packE (es.map λx=>x.c.toNat),a48,c48⟩,⟨⟨#[111,114,100,101,114]⟩,packE O,a49,c49⟩,⟨⟨#[97,116]⟩,packE (gO fF0 so es.length),a50,c50⟩]:=⟨_,rfl⟩;have hPl:P.length=11:=by rw[hP];rfl
         obtain⟨W9,zh⟩:=exq (w50.alloc (.cells (P.flatMap kZ).toArray 170))
         have hPA:iU w50 P:=by
          have T50:=aB.refl w50;have T49:=aB.trans _ _ _ E50.out T50;have T48:=aB.trans _ _ _ E49.out T49;have T47:=aB.trans _ _ _ E48.out T48;have T46:=aB.trans _ _ _ E47.out T47;have T45:=aB.trans _ _ _ E46.out T46;have T44:=aB.trans _ _ _ E45.out T45;have T43:=aB.trans _ _ _ E44.out T44;have T42:=aB.trans _ _ _ E43.out T43;have T41:=aB.trans _ _ _ E42.out T42;have T40:=aB.trans _ _ _ E41.out T41;have ok1:=gU HCH.out;rw[hP];refine⟨λq hq=>?_,λq hq=>?_,λq hq=>?_,λq hq=>?_⟩<;>simp only[List.mem_cons,List.mem_nil_iff,or_false]at hq
          ·rcases hq with rfl|rfl|rfl|rfl|rfl|rfl|rfl|rfl|rfl|rfl|rfl
           ·exact PP40.out.1.grows T40
           ·exact PP41.out.1.grows T41
           ·exact PP42.out.1.grows T42
           ·exact PP43.out.1.grows T43
           ·exact PP44.out.1.grows T44
           ·exact PP45.out.1.grows T45
           ·exact PP46.out.1.grows T46
           ·exact PP47.out.1.grows T47
           ·exact PP48.out.1.grows T48
           ·exact PP49.out.1.grows T49
           ·exact PP50.out.1.grows T50
          ·rcases hq with rfl|rfl|rfl|rfl|rfl|rfl|rfl|rfl|rfl|rfl|rfl
           ·exact PP40.out.2
           ·exact PP41.out.2
           ·exact PP42.out.2
           ·exact PP43.out.2
           ·exact PP44.out.2
           ·exact PP45.out.2
           ·exact PP46.out.2
           ·exact PP47.out.2
           ·exact PP48.out.2
           ·exact PP49.out.2
           ·exact PP50.out.2
          ·rcases hq with rfl|rfl|rfl|rfl|rfl|rfl|rfl|rfl|rfl|rfl|rfl<;>simp[ByteArray.size]
          ·rcases hq with rfl|rfl|rfl|rfl|rfl|rfl|rfl|rfl|rfl|rfl|rfl
           ·have h:=qJ0 hv;show (posE p).length<=_;omega
           ·have h:=aE1 HM.out.ok;show m.enc.length<=_;omega
           ·have h:=kI0 okR lR cR;show (loudE _).length<=_;omega
           ·have h:=eG (l:=gO qS es es.length) (λn hn=>by have:=iQ hn;omega);show (packE _).length<=_;omega
           ·have h:=kI0 okS lS cS;show (loudE _).length<=_;omega
           ·have h:=eG (l:=es.map (xG BS)) (λn hn=>by obtain⟨x,hx,rfl⟩:=List.mem_map.1 hn;have:=pF (HMS.out x hx);omega);rw[Ad]at h;show (packE _).length<=_;omega
           ·have h:=eG (l:=es.map λx=>x.l.toNat) (λn hn=>by obtain⟨x,hx,rfl⟩:=List.mem_map.1 hn;have:=HNN.out x hx;show x.l.toNat<_;omega);rw[Ad]at h;show (packE _).length<=_;omega
           ·have h:=eG (l:=es.map λx=>x.t.toNat) (λn hn=>by obtain⟨x,hx,rfl⟩:=List.mem_map.1 hn;have:=HNN.out x hx;show x.t.toNat<_;omega);rw[Ad]at h;show (packE _).length<=_;omega
           ·have h:=eG (l:=es.map λx=>x.c.toNat) (λn hn=>by obtain⟨x,hx,rfl⟩:=List.mem_map.1 hn;have:=HNN.out x hx;show x.c.toNat<_;omega);rw[Ad]at h;show (packE _).length<=_;omega
           ·have h:=eG (l:=O) (λn hn=>by have:=HL.out.2.2 n hn;omega);have:=HL.out.2.1;show (packE _).length<=_;omega
           ·have h:=eG (l:=gO fF0 so es.length) (λn hn=>by have:=iQ hn;omega);show (packE _).length<=_;omega
         have hPC:aG W9 (some ⟨w50.heap.size,0,none⟩) 2 (P.map kZ):=by
          rw[zh];exact mM0 P w50 _ (by omega)
         have jb:aB w50 W9:=by rw[zh];exact aB.alloc _ _
         have CJ:=Aa (qN0 P (some ⟨w50.heap.size,0,none⟩) 11 W9 (X22.out.2.2.2.2.2.2.2.2.1.grows (aB.trans _ _ _ G50.out jb)) (by omega) hPC (hPA.grows jb));rw[hPl]at CJ
         have HPB:Hid (P.map bare=imgP p m es):=by
          show _=_
          rw[hP];unfold imgP aE0 gJ aE0;rw[<-HBR.out,<-HBS.out,<-HO.out,<-HSO2.out];rfl
         have adc:W9=w50.alloc (.cells (P.flatMap kZ).toArray 170):=zh;rw[hP]at adc;have HW9:=Aa adc;have CJ2:∀W,W=W9->Hid (Calls Tryz.prog 108 #[.slice (some ⟨w50.heap.size,0,none⟩) 11 11] W (oS0 P W9)):=by rintro _ rfl;exact CJ
         have G9:=Aa jb;clear hP zh adc hPA hPC CJ jb;refine(CJ2 _ ?_).out.mono ?_
         ·rw[HW9.out];rfl
         rintro e w51 ⟨pj,hj1,hgJ⟩;have GW:=aB.trans _ _ _ X22.out.2.2.2.2.2.2.2.2.2 (aB.trans _ _ _ G50.out (aB.trans _ _ _ G9.out hgJ));by_cases ab7:fF P=0
         ·obtain⟨v,rfl,hv'⟩:=pj ab7
          clear pj hj1;have td:=hv'.base (aB.trans _ _ _ X22.out.2.2.2.2.2.2.2.2.2 (aB.trans _ _ _ G50.out G9.out)).size;have HV':=Aa td;clear hv' td;go_wp2_with fail
          go_ret2;refine cZ.join HCH.out ⟨by rw[<-HSO.out,<-HBR.out];exact HKR.out,by rw[<-HSO.out,<-HBS.out];exact HKS.out⟩ GW ?_;rw[<-HSO.out,<-HPB.out,qC,nQ];exact⟨λ_=>⟨v,rfl,HV'.out⟩,λh=>absurd ab7 h⟩
         ·obtain rfl:=hj1 ab7
          clear pj hj1;go_wp2_with fail
          go_ret2;refine cZ.join HCH.out ⟨by rw[<-HSO.out,<-HBR.out];exact HKR.out,by rw[<-HSO.out,<-HBS.out];exact HKS.out⟩ GW ?_;rw[<-HSO.out,<-HPB.out,qC,nQ];exact⟨λh=>absurd h ab7,λ_=>rfl⟩
  ·have HK:=Aa hkS
   have hfi:(gP (bls BS):Int)≠0:=by omega
   obtain⟨f,hf⟩:∃f:Int,f=gP (bls BS):=⟨_,rfl⟩;rw[<-hf]at hfi ⊢;have hfb:(f != 0)=true:=by simpa using hfi
   clear hf hkS hfi;go_wp2
   go_ret2;exact cZ.long HCH.out (λh=>HK.out (by rw[HBS.out,HSO.out];exact h.2)) (aB.trans _ _ _ xn g7)
 ·have HK:=Aa hkR
  have hfi:(gP (bls BR):Int)≠0:=by omega
  obtain⟨f,hf⟩:∃f:Int,f=gP (bls BR):=⟨_,rfl⟩;rw[<-hf]at hfi ⊢;have hfb:(f != 0)=true:=by simpa using hfi
  clear hf hkR hfi;go_wp2
  go_ret2;exact cZ.long HCH.out (λh=>HK.out (by rw[HBR.out,HSO.out];exact h.1)) (aB.trans _ _ _ xn g5)
theorem sI0 (p:List cY) (mv:Value) (m:Option Mx) (l:List En) (pa a:Option Addr) (pc c:Nat) (w:World) (he:Env w) (hp:p.length<=4611686018427387904) (hl:l.length<=140737488355328) (hs:∀x∈l,tS x) (hz:∀x∈l,x.r.size<=1099511627776/\x.s.size<=1099511627776)
  (tw:aG w pa 2 (p.map cB)) (hm:eR1 w mv m) (ac:aG w a 5 (l.map bF)) :
  Calls Tryz.prog 53 #[.slice pa p.length pc,mv,.slice a l.length c] w (cZ p m l w):=by
 by_cases hc:yF p m l=0
 ·cases m with
  | none =>
   unfold yF at hc;split at hc<;>cases hc
  | some m =>
   obtain⟨mb,bm,rfl,qu⟩:=hm;exact lF0 p mb bm m l pa a pc c w he hp hs hz (by have:=gU hc;omega) (gU hc).2.2.1 tw qu ac hc
 ·exact sC0 p mv m l pa a pc c w he hp hl (λx hx=>by have:=hz x hx;omega) tw hm ac hc
theorem qJ {p:List cY} {m:Option Mx} {l:List En} (h:pI p m l=0):yF p m l=0/\gP (bls (readL (sortS l)))=0/\gP (bls (bP (sortS l)))=0:=by
 unfold pI at h;split at h
 ·rename_i hc
  split at h
  ·rename_i hk;exact⟨hc,hk⟩
  ·cases h
 ·rename_i hc;exact absurd h hc
theorem rD0 {p:List cY} {m:Option Mx} {l:List En} (h:pI p m l≠0):qV p m l=(pI p m l,[]):=by
 unfold qV pI at *;by_cases hc:yF p m l=0
 ·rw[if_pos hc]at h ⊢
  rw[if_pos hc];by_cases hk:gP (bls (readL (sortS l)))=0/\gP (bls (bP (sortS l)))=0
  ·rw[if_pos hk]at h;exact absurd rfl h
  ·rw[if_neg hk]
   cases m with
   | none=>unfold yF at hc;split at hc<;>cases hc
   | some m=>simp only;rw[if_neg hk]
 ·rw[if_neg hc,if_neg hc]
theorem aK0 {p:List cY} {m:Mx} {l:List En} (h:pI p (some m) l=0) (xw:fF (imgP p m (sortS l))=0):qV p (some m) l=(0,file14 (imgP p m (sortS l))):=by
 obtain⟨h1,h2⟩:=qJ h;unfold qV;rw[if_pos h1];simp only;rw[if_pos h2,if_pos xw]
theorem jR1 {p:List cY} {m:Mx} {l:List En} (hm:m.OK) (hl:l.length<=300) (h:pI p (some m) l=0):fF (imgP p m (sortS l))=0:=by
 obtain⟨h1,h2,h3⟩:=qJ h;obtain⟨n1,n2,n3,n4⟩:=gU h1;have hp:=(fZ n3).1;refine yZ0 hm n3 (Av (qL0 l) hl) h2 h3 λx hx=>?_
 have:=rF (n4 x (eN0 hx))
 omega
end
section
open Go Go.RowKit Go.Shelf
structure fA (w:World) (db:Nat) (p:List cY) (m:Mx) (es:List En):Prop where
 p:∃vP,w.cell? ⟨db,0,none⟩=some vP/\aU w 0 99 2 cB vP p
 m:∃mb bm,w.cell? ⟨db,1,none⟩=some (.pointer (some ⟨mb,0,none⟩))/\gF w mb bm m
 r:∃tb,w.cell? ⟨db,2,none⟩=some (.pointer (some ⟨tb,0,none⟩))/\eP w tb (bls (readL es))
 s:∃tb,w.cell? ⟨db,3,none⟩=some (.pointer (some ⟨tb,0,none⟩))/\eP w tb (bls (bP es))
 f:∃pb,w.cell? ⟨db,4,none⟩=some (.pointer (some ⟨pb,0,none⟩))/\lJ w pb (gO qS es es.length)
 i:∃pb,w.cell? ⟨db,5,none⟩=some (.pointer (some ⟨pb,0,none⟩))/\lJ w pb (es.map (xG (bP es)))
 l:∃pb,w.cell? ⟨db,6,none⟩=some (.pointer (some ⟨pb,0,none⟩))/\lJ w pb (es.map λx=>x.l.toNat)
 t:∃pb,w.cell? ⟨db,7,none⟩=some (.pointer (some ⟨pb,0,none⟩))/\lJ w pb (es.map λx=>x.t.toNat)
 c:∃pb,w.cell? ⟨db,8,none⟩=some (.pointer (some ⟨pb,0,none⟩))/\lJ w pb (es.map λx=>x.c.toNat)
 o:∃pb,w.cell? ⟨db,9,none⟩=some (.pointer (some ⟨pb,0,none⟩))/\lJ w pb (aE0 es)
 a:∃pb,w.cell? ⟨db,10,none⟩=some (.pointer (some ⟨pb,0,none⟩))/\lJ w pb (gO fF0 (gJ es) es.length)
theorem fA.grows {w w':World} {db:Nat} {p:List cY} {m:Mx} {es:List En} (h:fA w db p m es) (hg:aB w w'):fA w' db p m es where
 p:=let ⟨v,h1,h2⟩:=h.p;⟨v,hg.cell h1,h2.grows hg⟩
 m:=let ⟨a,b,h1,h2⟩:=h.m;⟨a,b,hg.cell h1,h2.grows hg⟩
 r:=let ⟨v,h1,h2⟩:=h.r;⟨v,hg.cell h1,h2.grows hg⟩
 s:=let ⟨v,h1,h2⟩:=h.s;⟨v,hg.cell h1,h2.grows hg⟩
 f:=let ⟨v,h1,h2⟩:=h.f;⟨v,hg.cell h1,h2.grows hg⟩
 i:=let ⟨v,h1,h2⟩:=h.i;⟨v,hg.cell h1,h2.grows hg⟩
 l:=let ⟨v,h1,h2⟩:=h.l;⟨v,hg.cell h1,h2.grows hg⟩
 t:=let ⟨v,h1,h2⟩:=h.t;⟨v,hg.cell h1,h2.grows hg⟩
 c:=let ⟨v,h1,h2⟩:=h.c;⟨v,hg.cell h1,h2.grows hg⟩
 o:=let ⟨v,h1,h2⟩:=h.o;⟨v,hg.cell h1,h2.grows hg⟩
 a:=let ⟨v,h1,h2⟩:=h.a;⟨v,hg.cell h1,h2.grows hg⟩
structure bT (p:List cY) (m:Mx) (es:List En):Prop where
 chk:yF p (some m) es=0
 idem:sortS es=es
 rd:gP (bls (readL es))=0
 sf:gP (bls (bP es))=0
theorem bT.srt {p:List cY} {m:Mx} {es:List En} (h:bT p m es):gA es:=by
 have:=(dM es).1
 rwa [h.idem]at this
theorem bT.len {p:List cY} {m:Mx} {es:List En} (h:bT p m es):es.length<=20000:=(gU h.chk).2.1
theorem bT.num {p:List cY} {m:Mx} {es:List En} (h:bT p m es):∀x∈es,0<=x.l/\x.l<p.length/\0<=x.t/\x.t<p.length/\0<=x.c/\x.c<=30000:=λx hx=>rF ((gU h.chk).2.2.2 x hx)
theorem bT.okR {p:List cY} {m:Mx} {es:List En} (h:bT p m es):OkL (bls (readL es)):=(dQ h.rd).1
theorem bT.okS {p:List cY} {m:Mx} {es:List En} (h:bT p m es):OkL (bls (bP es)):=(dQ h.sf).1
theorem dD1 {p:List cY} {m:Option Mx} {l l':List En} (hl:l'.length<=l.length) (hm:∀x∈l',x∈l) (h:yF p m l=0):yF p m l'=0:=by
 cases m with
 | none =>
  unfold yF at h ⊢;split at h
  ·cases h
  ·cases h
 | some m =>
  obtain⟨h1,h2,h3,h4⟩:=gU h;unfold yF;rw[if_neg (by simpa using h3)];simp only;rw[if_pos h1,if_neg (by omega)]
  have key:∀ {l:List En},(∀x∈l,pH x p.length=0)->jF p.length l=0:=λ{l} hk=>by
   induction l with
   | nil=>rfl
   | cons x l ih =>
    unfold jF;rw[if_pos (hk x (by simp))];exact ih λy hy=>hk y (by simp[hy])
  exact key λx hx=>h4 x (hm x hx)
theorem oF0 (l:List En):sortS (sortS l)=sortS l:=by
 refine zD.unique (l:=sortS l) (dM _) ⟨(dM l).1,λy=>⟨λhy=>⟨hy,λz hz hk=>?_⟩,λh=>h.1⟩⟩;exact((dM l).2 y |>.1 hy).2 z (((dM l).2 z).1 hz).1 hk
theorem yK {p:List cY} {m:Mx} {l:List En} (h:pI p (some m) l=0):bT p m (sortS l):=by
 obtain⟨h1,h2,h3⟩:=qJ h;exact⟨dD1 (qL0 l) (λx hx=>eN0 hx) h1,oF0 l,h2,h3⟩
theorem bT.make {p:List cY} {m:Mx} {es:List En} (h:bT p m es):pI p (some m) es=0:=by
 unfold pI;rw[if_pos h.chk,h.idem,if_pos ⟨h.rd,h.sf⟩]
end
section
open Go Go.RowKit Go.Shelf
attribute [local go_sem] aO aM
theorem kR (l:List Nat) (pb i x:Nat) (w:World) (hl:l.length<=1048576) (hn:∀n∈l,n<=1073741824) (hx:l[i]?=some x) (ac:lJ w pb l) :
  Calls Tryz.prog 146 #[.pointer (some ⟨pb,0,none⟩),.int .i64 i] w λe w'=>e=.returned (.int .i64 (x:Nat))/\aB w w':=by
 have CG:=Aa (tR l pb i x w ac hl (λn h=>by have:=hn n h;omega) hx);have aj3:=hn x (Ae hx);have aj4:min (x:Int) 1073741824=x:=by omega
 have wx:IntKind.i64.wrap (x:Int)=x:=by simp[Aw,Ar,Ao];omega
 clear ac hn hx;go_enter Tryz.func146,Tryz.ntmps146
 go_wp2_with fail
 refine CG.out.mono ?_;rintro e w1 ⟨rfl,ai⟩;go_wp2_with fail
 go_ret;exact⟨rfl,ai⟩
theorem bT.first {p:List cY} {m:Mx} {es:List En} (h:bT p m es):gO qS es es.length=qI0 (keyRE (readL es) es) es.length (readL es).length:=sG h.srt
theorem bT.key {p:List cY} {m:Mx} {es:List En} (h:bT p m es) {i:Nat} (hi:i<es.length):(Ag (gO qS es es.length).length).countP (λs => !decide (i+1<=(gO qS es es.length).getD s 0))=iN0 (readL es) (es.getD i enZero)+1:=by
 have e:=h.first
 rw[e,iL,eQ1 (λj hj=>rY hj) hi,sO h.srt,Ab,Am hi];rfl
theorem pS0 {nw:En->En->Bool} {l:List En} {k:Nat}:(gO nw l k).Pairwise (· < ·):=List.Pairwise.filter _ List.pairwise_lt_range
theorem bK1 {nw:En->En->Bool} {l:List En} {k n a c:Nat} (hac:a<=c) (hc:c<(gO nw l k).length) (h:n<=(gO nw l k).getD a 0):n<=(gO nw l k).getD c 0:=by
 rcases Bi a c with q|q
 ·have:=List.pairwise_iff_getElem.1 (pS0 (nw:=nw) (l:=l) (k:=k)) a c (by omega) hc q
  rw[Ab,Ac hc];rw[Ab,Ac (by omega)]at h;simp only[Bg]at h ⊢;omega
 ·rw[show c=a by omega]
  exact h
def En.val (x:En):Value := .agg #[.string x.r,.string x.s,.int .i64 x.l,.int .i64 x.t,.int .i64 x.c]
theorem nH1 {R:List ByteArray} {j:Nat} {s:ByteArray} (h:R[j]?=some s):mkB (nth (bls R) j)=s:=by
 rw[vY (lO h)];exact lI s
theorem sH0 (p:List cY) (m:Mx) (es:List En) (db i:Nat) (x:En) (w:World) (ag:bT p m es) (ac:fA w db p m es) (hx:es[i]?=some x) :
  Calls Tryz.prog 129 #[.pointer (some ⟨db,0,none⟩),.int .i64 i] w λe w'=>e=.returned x.val/\aB w w':=by
 have pm:=(List.getElem?_eq_some_iff.1 hx).1;have hn:=ag.len;have uh:=Ae hx;have hxg:es.getD i enZero=x:=by rw[Ab,hx];rfl
 obtain⟨okR,lR,cR⟩:=dQ ag.rd;obtain⟨okS,lS,cS⟩:=dQ ag.sf;have fy:=ag.num;have af1:=(fZ (gU ag.chk).2.2.1).1;obtain⟨tr,r1,r2⟩:=ac.r;obtain⟨ts,s1,s2⟩:=ac.s;obtain⟨pf,f1,f2⟩:=ac.f;obtain⟨pi,i1,i2⟩:=ac.i;obtain⟨pl,l1,l2⟩:=ac.l;obtain⟨pt,t1,t2⟩:=ac.t;obtain⟨pc,c1,c2⟩:=ac.c;obtain⟨R,hR⟩:=exq (iN0 (readL es) x);obtain⟨S,hS⟩:=exq (xG (bP es) x);have hRg:=jT (lZ uh);have hSg:=kD (jN uh);rw[<-hR]at hRg;rw[<-hS]at hSg;have hRl:=(List.getElem?_eq_some_iff.1 hRg).1;have hSl:=(List.getElem?_eq_some_iff.1 hSg).1;have hRn:(readL es).length<=20000:=by rw[cO]at lR;exact lR
 have hSn:(bP es).length<=20000:=by rw[cO]at lS;exact lS
 have CF:∀u,aB w u->Hid (Calls Tryz.prog 195 #[.pointer (some ⟨pf,0,none⟩),.int .u64 (i+1:Nat)] u λe w'=>e=.returned (.int .i64 (R+1:Nat))/\aB u w'):=λu hu=>by
  have h:=sV0 (gO qS es es.length) pf (i+1) u (by have:=ag.first;rw[this,iL];omega) (λn h=>by have:=iQ h;omega) (λa c hac hc h=>bK1 hac hc h) (f2.grows hu)
  rw[ag.key pm,hxg,<-hR]at h;exact h
 have CTR:∀u,aB w u->Hid (Calls Tryz.prog 99 #[.pointer (some ⟨tr,0,none⟩),.int .i64 R] u λe w'=>e=.returned (.tuple #[.string x.r,.bool true])/\aB u w'):=λu hu=>by
  have h:=eV0 (bls (readL es)) tr R u okR lR cR (by rw[cO];exact hRl) (r2.grows hu);rw[nH1 hRg]at h;exact h
 have CTS:∀u,aB w u->Hid (Calls Tryz.prog 99 #[.pointer (some ⟨ts,0,none⟩),.int .i64 S] u λe w'=>e=.returned (.tuple #[.string x.s,.bool true])/\aB u w'):=λu hu=>by
  have h:=eV0 (bls (bP es)) ts S u okS lS cS (by rw[cO];exact hSl) (s2.grows hu);rw[nH1 hSg]at h;exact h
 have CNS:∀u,aB w u->Hid (Calls Tryz.prog 146 #[.pointer (some ⟨pi,0,none⟩),.int .i64 i] u λe w'=>e=.returned (.int .i64 (S:Nat))/\aB u w'):=λu hu =>
  kR (es.map (xG (bP es))) pi i S u (by rw[Ad];omega) (λn h=>by
   obtain⟨y,hy,rfl⟩:=List.mem_map.1 h
   have:=pF (jN hy)
   omega) (by rw[Aj,hx,hS];rfl) (i2.grows hu)
 have CNN:∀(f:En->Int) (pb:Nat),(∀y∈es,0<=f y/\f y<=1073741824)->lJ w pb (es.map λy=>(f y).toNat)->∀u,aB w u->Hid (Calls Tryz.prog 146 #[.pointer (some ⟨pb,0,none⟩),.int .i64 i] u λe w'=>e=.returned (.int .i64 (f x))/\aB u w'):=λf pb hf hpk u hu=>by
  have h:=kR (es.map λy=>(f y).toNat) pb i (f x).toNat u (by rw[Ad];omega) (λn h=>by
   obtain⟨y,hy,rfl⟩:=List.mem_map.1 h
   have:=hf y hy
   omega) (by rw[Aj,hx];rfl) (hpk.grows hu)
  rw[As (hf x uh).1]at h;exact h
 have CNL:=CNN (λy=>y.l) pl (λy hy=>by have:=fy y hy;omega) l2;have CNT:=CNN (λy=>y.t) pt (λy hy=>by have:=fy y hy;omega) t2;have CNC:=CNN (λy=>y.c) pc (λy hy=>by have:=fy y hy;omega) c2;obtain⟨xr,xs,xl,xt,xc⟩:=x;simp only at CTR CTS CNL CNT CNC;obtain⟨i9,hi9⟩:=exq (i+1);rw[<-hi9]at CF;obtain⟨R1,hR1⟩:=exq (R+1);rw[<-hR1]at CF;have wu:IntKind.u64.wrap (i:Int)=i:=by simp[Aw,Ar,Ao];omega
 have wi:IntKind.u64.wrap ((i:Int)+1)=i9:=by simp[Aw,Ar,Ao];omega
 have wR:IntKind.i64.wrap ((R1:Int)-1)=R:=by simp[Aw,Ar,Ao];omega
 obtain⟨W0,dh⟩:=exq (w.alloc (.cells #[.string ⟨#[]⟩,.string ⟨#[]⟩,.int .i64 0,.int .i64 0,.int .i64 0] 62));have et:aB w W0:=by rw[dh];exact aB.alloc _ _
 have qe:TB W0 w.heap.size #[.string ⟨#[]⟩,.string ⟨#[]⟩,.int .i64 0,.int .i64 0,.int .i64 0] 62:=by rw[dh];exact TB.alloc _ _ _
 clear ac r2 s2 f2 i2 l2 t2 c2 hx uh hxg hRg hSg ag okR okS lR lS cR cS fy af1 hR hS CNN hi9 hR1 hRl hSl;have f1a:=et.cell f1;rw[dh]at f1a;go_enter Tryz.func129,Tryz.ntmps129
 go_wp2_with fail
 rw[<-dh];clear dh f1a;refine(CF W0 et).out.mono ?_;rintro e w1 ⟨rfl,ai⟩;have g1:=et.tr ai;have T1:=qe.gr ai;have r1a:=g1.cell r1;clear CF qe et ai;go_wp2_with fail
 refine(CTR w1 g1).out.mono ?_;rintro e w2 ⟨rfl,ae⟩;have g2:=g1.tr ae;have T2:=T1.gr ae;have z0:∀y:Ext aB w2.drew,y.u.cell? ⟨db,3,none⟩=some (.pointer (some ⟨ts,0,none⟩)):=aF (g2.dr.cell s1);have z1:∀y:Ext aB w2.drew,y.u.cell? ⟨db,5,none⟩=some (.pointer (some ⟨pi,0,none⟩)):=aF (g2.dr.cell i1);clear CTR T1 r1a g1 ae;go_wp2_with fail
 refine bH (bE 16 [9,10]) (by kernel_rfl) (λd _ _ _ _ h=>by cases d<;>exact h) ?_
 iterate 9 (refine aH rfl (λK hK=>?_);go_simp;refine hK _ ?_;clear hK K)
 clear z0 z1;refine bG rfl rfl (λK hK=>?_);go_simp;refine((CNS w2.drew g2.dr).out).mono ?_;rintro e w3 ⟨rfl,aw⟩;refine⟨aw,hK _ _ ?_⟩;clear hK K;refine bG rfl rfl (λK hK=>?_);go_simp;refine((CTS w3 (g2.dr.tr aw)).out).mono ?_;rintro e w4 ⟨rfl,cu⟩;refine⟨cu,hK _ _ ?_⟩;clear hK K;iterate 5 (refine aH rfl (λK hK=>?_);go_simp;refine hK _ ?_;clear hK K)
 refine bN ?_;have g4:=(g2.dr.tr aw).tr cu;have T4:=((T2.gr (aB.drew w2)).gr aw).gr cu;have z0:∀y:Ext aB w4.drew,y.u.cell? ⟨db,6,none⟩=some (.pointer (some ⟨pl,0,none⟩)):=aF (g4.dr.cell l1);have z1:∀y:Ext aB w4.drew,y.u.cell? ⟨db,7,none⟩=some (.pointer (some ⟨pt,0,none⟩)):=aF (g4.dr.cell t1);have z2:∀y:Ext aB w4.drew,y.u.cell? ⟨db,8,none⟩=some (.pointer (some ⟨pc,0,none⟩)):=aF (g4.dr.cell c1);clear CNS CTS T2 g2 aw cu;go_wp2_with fail
 refine oV 20 (nU [0,1,2,3,4,5,6,8,9,10,11,12,14,15,16,17,18,7,13,19] [7,13,19]) (by kernel_rfl) (λd _ _ _ _ h=>by cases d<;>exact h) ?_
 iterate 17 (refine aH rfl (λK hK=>?_);go_simp;refine hK _ ?_;clear hK K)
 clear z0 z1 z2;refine bG rfl rfl (λK hK=>?_);go_simp;refine((CNL w4.drew g4.dr).out).mono ?_;rintro e w5 ⟨rfl,bi⟩;refine⟨bi,hK _ _ ?_⟩;clear hK K;refine bG rfl rfl (λK hK=>?_);go_simp;refine((CNT w5 (g4.dr.tr bi)).out).mono ?_;rintro e w6 ⟨rfl,dw⟩;refine⟨dw,hK _ _ ?_⟩;clear hK K;refine bG rfl rfl (λK hK=>?_);go_simp;refine((CNC w6 ((g4.dr.tr bi).tr dw)).out).mono ?_;rintro e w7 ⟨rfl,ep⟩;refine⟨ep,hK _ _ ?_⟩;clear hK K;refine bN ?_;have g7:=((g4.dr.tr bi).tr dw).tr ep;have T7:=(((T4.gr (aB.drew w4)).gr bi).gr dw).gr ep;have e0:=T7.cell (o:=0) rfl;have e1:=T7.cell (o:=1) rfl;have e2:=T7.cell (o:=2) rfl;have e3:=T7.cell (o:=3) rfl;have e4:=T7.cell (o:=4) rfl;have f0:=T7.froz 0;have f1':=T7.froz 1;have f2':=T7.froz 2;have f3:=T7.froz 3;have f4:=T7.froz 4;simp only[Bs,Ch];clear CNL CNT CNC T4 g4 bi dw ep;go_wp2_with fail
 have T8:=((((T7.set 0 (.string xr)).set 1 (.string xs)).set 2 (.int .i64 xl)).set 3 (.int .i64 xt)).set 4 (.int .i64 xc);have b0:=T8.cell (o:=0) rfl;have b1:=T8.cell (o:=1) rfl;have b2:=T8.cell (o:=2) rfl;have b3:=T8.cell (o:=3) rfl;have b4:=T8.cell (o:=4) rfl;refine bodyPost_ret (v:=.agg #[.string xr,.string xs,.int .i64 xl,.int .i64 xt,.int .i64 xc]) (by simp[results,Tryz.results129,go_sem,b0,b1,b2,b3,b4]) rfl ⟨rfl,?_⟩
 exact((((g7.set (Ai _) _).set (Ai _) _).set (Ai _) _).set (Ai _) _).set (Ai _) _
end
section
open Go Go.RowKit Go.Shelf
attribute [local go_sem] aO aM Oper.semAt_some
abbrev nT0 (n:Nat):={ j:Nat // j<n }
theorem mK0 {a k:Nat} (h:a<=k):Ah a (k+1-a)=Ah a (k-a)++[k]:=by
 rw[show k+1-a=(k-a)+1 by omega,<-Ap (s:=a) (m:=k-a) (n:=1)]
 simp[show a+(k-a)=k by omega]
theorem jO1 (F:Fence) (n:Nat) (hF:F.fn 147) (sn:F.round=none) (hn:1<=n) (l N a b b1 b2:Nat) (eo:a<=b) (hbN:b<=N) (hN:N<=1048576) (S:Nat->Prop) (h2:S b2) (J Jx:List (nT0 N)->World->Prop)
  (hY:∀pre x W,J pre W->pre.length<b-a->YieldAt F (n-1) Tryz.prog l #[.int .i64 (x.1:Nat)] W λe W' =>
   (e=.returned (.bool true)/\J (pre++[x]) W'/\bK S W W')\/(e=.returned (.bool false)/\Jx (pre++[x]) W'))
  (W:World) (c1:W.cell? ⟨b1,0,none⟩=some (.int .i64 a)) (c2:W.cell? ⟨b2,0,none⟩=some (.int .i64 b)) (h0:J [] W) :
  CallsIn F n Tryz.prog 147 #[.func (.yield l) #[] #[],.pointer (some ⟨b1,0,none⟩),.pointer (some ⟨b2,0,none⟩)] W λe W'=>(∃v,e=.returned v) /\
   ((∃xs:List (nT0 N),xs.map (·.1)=Ah a (b-a)/\J xs W')\/(∃pre:List (nT0 N),True/\Jx pre W')):=by
 refine callsIn_of_wp Tryz.func147 rfl hF ?_ sn;simp only[Tryz.ntmps147,By,Ax,Cg,Ci,Cj,Bq,Br,Bz,Bt,Az,Cb];gi_wp2
 gi_loopw [4] (λi wr=>∃(k:Nat) (pre:List (nT0 N)),i=.int .i64 k/\a<=k/\k<=b/\pre.map (·.1)=Ah a (k-a)/\J pre wr/\bK S W wr) (λi _=>b-(intOf i).toNat)
 case atStart=>exact⟨a,[],rfl,Ai _,eo,by simp,h0,bK.refl _ _⟩
 case round =>
  obtain⟨k,pre,rfl,hak,hkb,hp,hJ,hK⟩:=hrel;have c2r:=hK.cell h2 c2;by_cases af:k<b
  ·have dz:(k:Int)<b:=by omega
   have ou:pre.length=k-a:=by
    have:=congrArg List.length hp
    simpa using this
   obtain⟨fn,tmps,assign,body,hy,hR⟩:=hY pre ⟨k,by omega⟩ wr hJ (by omega);dsimp only at hy
   have hp2:(pre++[(⟨k,by omega⟩:nT0 N)]).map (·.1)=Ah a (k+1-a):=by
    rw[Bk,hp,mK0 hak];rfl
   clear hp hJ;gi_wp2
   refine hR.mono ?_;rintro e W3 (⟨rfl,mr,ii⟩|⟨rfl,gi⟩)
   ·gi_wp2
    go_roundw
    case rel=>exact⟨k+1,_,by go_num,by omega,af,hp2,mr,hK.tr ii⟩
    case measure=>simp[intOf];omega
   ·gi_wp2
    go_end0;exact⟨⟨_,rfl⟩,.inr ⟨_,trivial,gi⟩⟩
  ·have dz:¬(k:Int)<b:=by omega
   obtain rfl:k=b:=by omega
   gi_wp2
   refine⟨λf h=>(by cases h),?_⟩;gi_wp2
   go_end0;exact⟨⟨_,rfl⟩,.inl ⟨pre,hp,hJ⟩⟩
theorem uR0 (n N a b b1 b2:Nat) (hn:1<=n) (eo:a<=b) (hbN:b<=N) (hN:N<=1048576) (S:Nat->Prop) (h1:S b1) (h2:S b2) (w:World) (af:∀b,S b->b<w.heap.size) (c1:w.cell? ⟨b1,0,none⟩=some (.int .i64 a)) (c2:w.cell? ⟨b2,0,none⟩=some (.int .i64 b)) :
  SeqStopsK Fence.wide n Tryz.prog 147 #[.pointer (some ⟨b1,0,none⟩),.pointer (some ⟨b2,0,none⟩)] (λx:nT0 N => #[.int .i64 (x.1:Nat)]) (bK S) (λys=>ys.map (·.1)=Ah a (b-a)) (λ_=>True) (b-a) w:=by
 intro l J Jx W hW hJ _ hY h0;have hK0:bK S w W:=bK.of_below hW af;exact jO1 Fence.wide n trivial rfl hn l N a b b1 b2 eo hbN hN S h2 J Jx hY W (hK0.cell h1 c1) (hK0.cell h2 c2) h0
theorem gJ0 (a b:Int) (w:World) :
  Calls Tryz.prog 78 #[.int .i64 a,.int .i64 b] w λe w'=>e=.returned (.func (.func 147) #[] #[.pointer (some ⟨w.heap.size,0,none⟩),.pointer (some ⟨w.heap.size+1,0,none⟩)]) /\
   w'=(w.alloc (.cells #[.int .i64 a] 3)).alloc (.cells #[.int .i64 b] 3):=by
 have hmf:∀(fn:Fn) (first cap:Array Value) (w:World),(Instr.makeFunc fn first cap).run Tryz.prog w=.ok (.func fn first cap) w:=λ_ _ _ _=>rfl
 go_enter Tryz.func78,Tryz.ntmps78
 go_wp2_with fail
 go_ret;exact⟨rfl,rfl⟩
structure mN1 (w:World) (db:Nat) (es:List En) (s:Nat) (pre:List Nat) (v:Value) (W:World):Prop where
 bd:TB W s #[.pointer (some ⟨db,0,none⟩)] 31
 bl:TB W (s+1) #[v] 24
 own:aU W s 62 5 bF v (pre.map λj=>es.getD j enZero)
 gr:aB w W
 s0:s=w.heap.size
 sz:s+2<=W.heap.size
theorem mN1.other {w W W':World} {db s:Nat} {es:List En} {pre:List Nat} {v:Value} (h:mN1 w db es s pre v W) {row:Option Nat} (hg:W.grownBy W' row) (hr:RT W row none) (hs:∀q,row=some q->s<=q):mN1 w db es s pre v W' :=
 ⟨h.bd.keep hg hr (by simp),h.bl.keep hg hr (by simp),aK h.own hg hr (by simp),h.gr.grown hg (λq hq=>by rw[<-h.s0];exact hs q hq),h.s0,Av h.sz hg.size⟩
theorem zQ {W W':World} (B:Nat) (h:aB W W'):KeepsFrom B W W':=⟨h.size,λk _o _ hk _=>(Below.block h k (Array.getElem?_eq_some_iff.1 hk).1).trans hk⟩
theorem jY0 (p:List cY) (m:Mx) (es:List En) (db g:Nat) (lb:Array Value) (js:List Nat) (w:World) (ag:bT p m es) (ac:fA w db p m es) (hj:js.length<=1048576) (eg:∀args w,(callFunc g args).run Tryz.prog w=.ok (.enter g args) w)
  (KS:SeqStopsK Fence.wide 7 Tryz.prog g lb (λx:nT0 es.length => #[.int .i64 (x.1:Nat)]) (bK λb=>b<w.heap.size) (λys=>ys.map (·.1)=js) (λ_=>True) js.length w) :
  Calls Tryz.prog 62 #[.pointer (some ⟨db,0,none⟩),.func (.func g) #[] lb] w λe w'=>∃v,e=.returned v/\aU w' w.heap.size 62 5 bF v (js.map λj=>es.getD j enZero)/\aB w w':=by
 have CE:=λ(i:Nat) (x:En) (hx:es[i]?=some x) (u:World) (hu:aB w u)=>Aa (sH0 p m es db i x u ag (ac.grows hu) hx);have hn:=ag.len;clear ac ag;refine(callsIn_wide (n:=8)).1 (callsIn_of_wp_marks Tryz.func62 rfl trivial ?_);simp only[Tryz.ntmps62,By,Ax,Cg,Ci,Cj,Bq,Br,Bz,Bt,Az,Cb];gi_wp2
 have hs:w.heap.size=w.heap.size:=rfl;have et:aB w ((w.alloc (.cells #[.pointer (some ⟨db,0,none⟩)] 31)).alloc (.cells #[.slice none 0 0] 24)):=(aB.alloc _ _).al _
 have J0:mN1 w db es w.heap.size [] (.slice none 0 0) ((w.alloc (.cells #[.pointer (some ⟨db,0,none⟩)] 31)).alloc (.cells #[.slice none 0 0] 24)):=by
  refine⟨?_,?_,aU.nil _ _ _ _ _,et,hs,by simp⟩
  ·exact(TB.alloc _ _ _).al _
  ·have:=TB.alloc (w.alloc (.cells #[.pointer (some ⟨db,0,none⟩)] 31)) #[.slice none 0 0] 24
   rw[Cc]at this;exact this
 have ah4:((w.alloc (.cells #[.pointer (some ⟨db,0,none⟩)] 31)).alloc (.cells #[.slice none 0 0] 24)).heap.size=w.heap.size+2:=by simp
 generalize ((w.alloc (.cells #[.pointer (some ⟨db,0,none⟩)] 31)).alloc (.cells #[.slice none 0 0] 24))=W0 at J0 et ah4 ⊢
 refine wpIn_rangeFunc_ownH (F:=Fence.wide) (n:=8) (α:=nT0 es.length) rfl (by decide) (gf:=g) (lb:=lb) rfl trivial eg KS
  (λh k=>h.tr k) (λW l o o' hl ho hc hw b hb=>World.putObj_heap_other (λe=>by omega)) et (λ_=>rfl)
  (λpre W=>∃v,mN1 w db es w.heap.size (pre.map (·.1)) v W)
  (λ_ _ _=>False) ?hI (λ_ _ _ _ _ h _ _=>h) ⟨_,J0⟩
  (λx a' W=>∃v,a'={ tmps:=#[.pointer (some ⟨db,0,none⟩),.func (.func g) #[] lb,.pointer (some ⟨w.heap.size,0,none⟩),undef,.slice none 0 0,.pointer (some ⟨w.heap.size+1,0,none⟩),.int .i64 (x.1:Nat),.func (.func g) #[] lb,.int .i64 (x.1:Nat),undef,undef,undef,undef,undef,undef,undef],defers:=[] }/\v=W.heap.size)
  ?hAx ?assign ?body ?done ?stop
 case hI =>
  rintro pre V V' row ⟨v,h⟩ hg hr;exact⟨v,h.other hg (RT.of_not λq e=>(hr q e).2) (λq e=>by have:=(hr q e).1;omega)⟩
 case hAx =>
  rintro x a' _ V V' row ⟨v,h,_⟩ hg hr;exact⟨_,h,rfl⟩
 case assign =>
  rintro l pre x V K2 ⟨v,h⟩ ld;gi_wp2
  exact ld _ _ (KeepsFrom.refl _ _) (bK.refl _ _) ⟨v,h⟩ ⟨_,rfl,rfl⟩
 case body =>
  rintro l pre x a' V hl aez ⟨v,h⟩ ⟨_,rfl,_⟩ aj;obtain⟨y,hy⟩:∃y,es[x.1]?=some y:=⟨_,Ac x.2⟩;have CE1:=CE x.1 y hy V.drew (h.gr.tr (aB.drew V));have hyd:es.getD x.1 enZero=y:=by rw[Ab,hy];rfl
  have z0:∀q:Ext aB V.drew,q.u.cell? ⟨w.heap.size,0,none⟩=some (.pointer (some ⟨db,0,none⟩)):=aF ((aB.drew V).cell (h.bd.cell rfl));have z1:∀q:Ext aB V.drew,q.u.cell? ⟨w.heap.size+1,0,none⟩=some v:=aF ((aB.drew V).cell (h.bl.cell rfl));obtain⟨xi,qt⟩:=x;obtain⟨yr,ys,yl,yt,yc⟩:=y;unfold En.val at CE1;simp only at CE1 hyd aj z0 z1;have hlp:(pre.map (·.1)).length+1<=1048576+1:=by rw[Ad];omega
  clear CE hy aez;refine wpIn_block ?_;refine iA1 aB 5 (bE 5 [3,4]) (by rintro⟨_,_,h⟩;exact h) (by kernel_rfl) aB.refl aB.trans (by kernel_rfl) (by kernel_rfl) (λd _ _ _ _ h=>by cases d<;>exact h) ?_
  iterate 3 (refine aH rfl (λK hK=>?_);go_simp;refine hK _ ?_;clear hK K)
  clear z0 z1;refine bG rfl rfl (λK hK=>?_);go_simp;refine(CE1.out).mono ?_;rintro e w3 ⟨rfl,aw⟩;refine⟨aw,hK _ _ ?_⟩;clear hK K;refine bG rfl rfl (λK hK=>?_);go_simp;refine⟨aB.alloc _ _,hK _ _ ?_⟩;clear hK K CE1;refine bN ?_;simp only[Bs,Ch];have zi:=(aB.drew V).tr aw;have hg:=h.gr.tr zi;have hO:=h.own.grows zi;have hb:=h.bl.gr zi;have hd:=h.bd.gr zi;obtain⟨ps,hps⟩:∃ps,pre.map (·.1)=ps:=⟨_,rfl⟩;rw[hps]at hO hlp;go_wp2_with (at_builtin;refine eV dK0 rfl _ _ rfl w.heap.size v (ps.map λj=>es.getD j enZero) ⟨yr,ys,yl,yt,yc⟩ rfl hO (aB.refl _) _ 1 rfl #[.string yr,.string ys,.int .i64 yl,.int .i64 yt,.int .i64 yc] rfl rfl (by rw[Ad];omega) (by have:=hg.size;omega) ?_;intro v7 w7 wy ep hf7 ah5;obtain⟨g7,p7,rfl⟩:=pL wy;have hb7:=hb.keep ep (RT.own hO) (by decide);have c7:=hb7.cell (o:=0) rfl;have f7:=hb7.froz 0)
  have hd7:=hd.keep ep (RT.own hO) (by decide);have gr7:=ah5 w hg (Ai _);have gr8:=gr7.set (p:=⟨w.heap.size+1,0,none⟩) (show w.heap.size<=w.heap.size+1 by omega) (.slice (some ⟨g7,0,none⟩) (ps.length+1) p7)
  refine⟨((((KeepsOthers.drew V).from _).trans (zQ _ aw)).trans (iG ep (RT.own hO))).trans (jV hb7 0 (.slice (some ⟨g7,0,none⟩) (ps.length+1) p7)),λb hb=>(Below.block gr8 b hb).trans (Below.block h.gr b hb).symm,(.slice (some ⟨g7,0,none⟩) (ps.length+1) p7),?_⟩
  refine⟨hd7.keep (aQ w7 (w.heap.size+1) 0 (.slice (some ⟨g7,0,none⟩) (ps.length+1) p7)) hb7.rt (by decide),hb7.set 0 (.slice (some ⟨g7,0,none⟩) (ps.length+1) p7),?_,gr8,rfl,?_⟩
  ·have h8:=aK wy (aQ w7 (w.heap.size+1) 0 (.slice (some ⟨g7,0,none⟩) (ps.length+1) p7)) hb7.rt (by decide)
   have ti:(pre++[(⟨xi,qt⟩:nT0 es.length)]).map (·.1)=ps++[xi]:=by
    rw[Bk,hps];rfl
   refine Eq.mp (congrArg (λq=>aU _ _ _ _ _ _ (q.map λj=>es.getD j enZero)) ti.symm) ?_;rw[Bk,Bf,Cl,hyd];rw[Ad]at h8;exact h8
  ·have:=h.sz
   have:=zi.size
   have:=ep.size
   simp;omega
 case stop =>
  rintro D c pre W _ _ h _;exact h.elim
 case done =>
  rintro D xs V hD hxs ⟨v,h⟩ hKD;have c1:=h.bl.cell (o:=0) rfl;gi_wp2
  refine⟨by simp,.inl ⟨_,_,rfl,run_takeDeferred hKD,?_⟩⟩;rw[hxs]at h;exact⟨_,results_tmp rfl _ _ _,v,rfl,by exact ownsRow_putObj h.own _ hKD rfl,Below.trans h.gr (belowK_b (w:=w) (Ai _) V D _ _ (by omega) hKD rfl rfl)⟩
end
section
open Go Go.RowKit
def uG0 (l:List Nat) (N id a b:Nat):Prop:=l[id]?=some a/\(id+1<l.length->l[id+1]?=some b)/\(¬id+1<l.length->b=N)
theorem pU {k:Nat->Nat} {n S id:Nat} (hk:∀i,i<n->k i<S) (h:id<S):uG0 (qI0 k n S) n id (grpsL k n id).length (grpsL k n (id+1)).length:=by
 refine⟨fP0 h,λh1=>?_,λh1=>?_⟩
 ·rw[iL]at h1
  exact fP0 h1
 ·rw[iL]at h1
  rw[show id+1=S by omega,jH hk]
theorem bU1 {k:Nat->Nat} {n S id:Nat} (hk:∀i,i<n->k i<S) (h:id<S):(grpsL k n id).length<=(grpsL k n (id+1)).length/\(grpsL k n (id+1)).length<=n/\((grpsL k n S).take (grpsL k n (id+1)).length).drop (grpsL k n id).length=grp k n id:=by
 have h1:=mL1 hk h;have h2:=lB1 hk h;rw[mV0 hk h]at h1 h2;exact⟨h1.1,h1.2,h2⟩
theorem wR0 {n a b:Nat} (hb:b<=n):((Ag n).take b).drop a=Ah a (b-a):=by
 apply Bd
 intro i;rw[List.getElem?_drop,List.getElem?_take];by_cases h:a+i<b
 ·rw[if_pos h,Am (by omega),List.getElem?_range' (by omega)]
  simp
 ·rw[if_neg h,Bn (by simp;omega)]
theorem bT.row_r {p:List cY} {m:Mx} {es:List En} (h:bT p m es) {id:Nat} {s:ByteArray} (hs:(readL es)[id]?=some s) :
  ∃a b,uG0 (gO qS es es.length) es.length id a b/\a<=b/\b<=es.length/\(Ah a (b-a)).map (λj=>es.getD j enZero)=jG es s:=by
 have hid:=(List.getElem?_eq_some_iff.1 hs).1;have hk:∀i,i<es.length->keyRE (readL es) es i<(readL es).length:=λi hi=>rY hi;obtain⟨h1,h2,h3⟩:=bU1 hk hid;refine⟨_,_,by rw[sG h.srt];exact pU hk hid,h1,h2,?_⟩;rw[sO h.srt,wR0 h2]at h3;rw[h3];exact dK1 hs
theorem bT.row_s {p:List cY} {m:Mx} {es:List En} (_:bT p m es) {id:Nat} {s:ByteArray} (hs:(bP es)[id]?=some s) :
  ∃a b,uG0 (gO fF0 (gJ es) es.length) es.length id a b/\a<=b/\b<=es.length/\(((aE0 es).take b).drop a).map (λj=>es.getD j enZero)=ofL es s:=by
 have hid:=(List.getElem?_eq_some_iff.1 hs).1;have hk:∀i,i<es.length->jJ (bP es) es i<(bP es).length:=λi hi=>pF (jN (Ae (dM0 hi)));obtain⟨h1,h2,h3⟩:=bU1 hk hid;refine⟨_,_,by rw[qK0];exact pU hk hid,h1,h2,?_⟩;have h4:((aE0 es).take (grpsL (jJ (bP es) es) es.length (id+1)).length).drop (grpsL (jJ (bP es) es) es.length id).length=grp (jJ (bP es) es) es.length id:=h3;rw[h4];exact eT1 hs
theorem bT.rows {p:List cY} {m:Mx} {es:List En} (h:bT p m es) {a k:Nat} (hk:0<k) (ha:a+k<=(readL es).length) :
  uG0 (gO qS es es.length) es.length a (grpsL (keyRE (readL es) es) es.length a).length (grpsL (keyRE (readL es) es) es.length (a+1)).length /\
  uG0 (gO qS es es.length) es.length (a+k-1) (grpsL (keyRE (readL es) es) es.length (a+k-1)).length (grpsL (keyRE (readL es) es) es.length (a+k)).length /\
  (grpsL (keyRE (readL es) es) es.length a).length<=(grpsL (keyRE (readL es) es) es.length (a+k)).length/\(grpsL (keyRE (readL es) es) es.length (a+k)).length<=es.length:=by
 have ig:∀i,i<es.length->keyRE (readL es) es i<(readL es).length:=λi hi=>rY hi;refine⟨by rw[sG h.srt];exact pU ig (by omega),?_,?_,?_⟩
 ·have:=pU (k:=keyRE (readL es) es) (n:=es.length) (S:=(readL es).length) (id:=a+k-1) ig (by omega)
  rw[show a+k-1+1=a+k by omega]at this
  rw[sG h.srt];exact this
 ·obtain⟨r,hr⟩:=jE (k:=keyRE (readL es) es) (n:=es.length) (show a<=a+k by omega)
  rw[hr,Af];omega
 ·obtain⟨r,hr⟩:=jE (k:=keyRE (readL es) es) (n:=es.length) ha
  have:=jH ig
  rw[hr,Af]at this;omega
end
section
open Go Go.RowKit Go.Shelf
attribute [local go_sem] aO aM
theorem yG (l:List Nat) (pb N id a b:Nat) (w:World) (hl:l.length<=1048576) (hn:∀n∈l,n<=1073741824) (hr:uG0 l N id a b) (ac:lJ w pb l) :
  Calls Tryz.prog 76 #[.pointer (some ⟨pb,0,none⟩),.int .i64 id,.int .i64 N] w λe w'=>e=.returned (.tuple #[.int .i64 (a:Nat),.int .i64 (b:Nat)])/\aB w w':=by
 obtain⟨h1,h2,h3⟩:=hr;have hid:=(List.getElem?_eq_some_iff.1 h1).1;have CL:=Aa (gS l pb w ac);have CA:=λ(u:World) (hu:aB w u)=>Aa (kR l pb id a u hl hn h1 (ac.grows hu));obtain⟨i1,hi1⟩:=exq (id+1);have wi:IntKind.i64.wrap ((id:Int)+1)=i1:=by simp[Aw,Ar,Ao];omega
 rw[<-hi1]at h2 h3;obtain⟨ll,oh⟩:=exq l.length;rw[<-oh]at CL h2 h3;by_cases af:i1<ll
 ·have dz:(i1:Int)<ll:=by omega
  have CB:=Aa (kR l pb i1 b w hl hn (h2 af) ac);clear ac hn h1 h2 h3 hi1 oh;go_enter Tryz.func76,Tryz.ntmps76
  go_wp2_with fail
  refine CL.out.mono ?_;rintro e w1 ⟨rfl,rfl⟩;go_wp2_with fail
  refine CB.out.mono ?_;rintro e w2 ⟨rfl,ae⟩;go_wp2_with fail
  refine(CA w2 ae).out.mono ?_;rintro e w3 ⟨rfl,aw⟩;go_wp2_with fail
  go_ret2;exact⟨rfl,ae.tr aw⟩
 ·have dz:¬(i1:Int)<ll:=by omega
  obtain rfl:=h3 af;clear ac hn h1 h2 h3 hi1 oh;go_enter Tryz.func76,Tryz.ntmps76
  go_wp2_with fail
  refine CL.out.mono ?_;rintro e w1 ⟨rfl,rfl⟩;go_wp2_with fail
  refine(CA w (aB.refl w)).out.mono ?_;rintro e w3 ⟨rfl,aw⟩;go_wp2_with fail
  go_ret2;exact⟨rfl,aw⟩
theorem lF1 {x:Nat} (h:x<9223372036854775808):IntKind.i64.wrap (x:Int)=x:=by simp[Aw,Ar,Ao]; omega
theorem aZ0 (p:List cY) (m:Mx) (es:List En) (db a b b1 b2:Nat) (w:World) (ag:bT p m es) (ac:fA w db p m es) (eo:a<=b) (hb:b<=es.length) (c1:w.cell? ⟨b1,0,none⟩=some (.int .i64 a)) (c2:w.cell? ⟨b2,0,none⟩=some (.int .i64 b)) :
  Calls Tryz.prog 62 #[.pointer (some ⟨db,0,none⟩),.func (.func 147) #[] #[.pointer (some ⟨b1,0,none⟩),.pointer (some ⟨b2,0,none⟩)]] w λe w'=>∃v,e=.returned v/\aU w' w.heap.size 62 5 bF v ((Ah a (b-a)).map λj=>es.getD j enZero)/\aB w w':=by
 have hn:=ag.len;have h1:=Bh w _ c1;have h2:=Bh w _ c2;have KS:=uR0 7 es.length a b b1 b2 (by decide) eo hb (by omega) (λb=>b<w.heap.size) h1 h2 w (λb hb=>hb) c1 c2;have e:(Ah a (b-a)).length=b-a:=by simp
 refine jY0 p m es db _ _ (Ah a (b-a)) w ag ac (by omega) (enters_of Tryz.func147 (by kernel_rfl) rfl) ?_;rw[e];exact KS
theorem aL1 (p:List cY) (m:Mx) (es:List En) (db id:Nat) (s:ByteArray) (w:World) (ag:bT p m es) (ac:fA w db p m es) (hs:(readL es)[id]?=some s) :
  Calls Tryz.prog 150 #[.pointer (some ⟨db,0,none⟩),.int .i64 id] w λe w'=>∃v,e=.returned v/\aU w' w.heap.size 62 5 bF v (jG es s)/\aB w w':=by
 obtain⟨a,b,hr,eo,hb,he⟩:=ag.row_r hs;have hn:=ag.len;obtain⟨pf,f1,f2⟩:=ac.f;obtain⟨pi,i1,i2⟩:=ac.i
 have t5:(gO qS es es.length).length<=20000:=by
  have h1:=(dQ ag.rd).2.1;rw[cO]at h1;rw[ag.first,iL]
  exact h1
 have CL:∀u,aB w u->Hid (Calls Tryz.prog 127 #[.pointer (some ⟨pi,0,none⟩)] u λe w'=>e=.returned (.int .i64 (es.length:Nat))/\u=w'):=λu hu=>by
  have h:=gS (es.map (xG (bP es))) pi u (i2.grows hu);rw[Ad]at h;exact h
 have CR:=λ(u:World) (hu:aB w u)=>Aa (yG (gO qS es es.length) pf es.length id a b u (by omega) (λn h=>by have:=iQ h;omega) hr (f2.grows hu));have CI:=λ(u:World) (b1 b2:Nat) (hu:aB w u) h1 h2=>Aa (aZ0 p m es db a b b1 b2 u ag (ac.grows hu) eo hb h1 h2);rw[he]at CI;have z0:∀y:Ext aB w.drew,y.u.cell? ⟨db,4,none⟩=some (.pointer (some ⟨pf,0,none⟩)):=aF ((aB.drew w).cell f1);have z1:∀y:Ext aB w.drew,y.u.cell? ⟨db,5,none⟩=some (.pointer (some ⟨pi,0,none⟩)):=aF ((aB.drew w).cell i1);obtain⟨N,hN⟩:=exq es.length;rw[<-hN]at CL CR;clear ac ag hs hr eo hb he f2 i2 t5 hn hN;go_enter Tryz.func150,Tryz.ntmps150
 go_wp2_with fail
 refine bH (bE 17 [11,14,15]) (by kernel_rfl) (λd _ _ _ _ h=>by cases d<;>exact h) ?_
 iterate 10 (refine aH rfl (λK hK=>?_);go_simp;refine hK _ ?_;clear hK K)
 refine aH rfl (λK hK=>?_);go_simp;apply Exists.intro
 refine⟨λx=>?_,hK _ ?_⟩
 ·go_at_call 127;exact cX (CL _ ((aB.drew w).tr x.h)).out
 clear hK K;clear z0 z1;refine bG rfl rfl (λK hK=>?_);go_simp;refine((CR w.drew (aB.drew w)).out).mono ?_;rintro e w1 ⟨rfl,ai⟩;refine⟨ai,hK _ _ ?_⟩;clear hK K;iterate 2 (refine aH rfl (λK hK=>?_);go_simp;refine hK _ ?_;clear hK K)
 have g1:=(aB.drew w).tr ai;refine bG rfl rfl (λK hK=>?_);go_simp;refine(gJ0 (a:Int) (b:Int) w1).mono ?_;rintro e w2 ⟨rfl,pq⟩;have ae:aB w1 w2:=by rw[pq];exact(aB.alloc _ _).al _
 refine⟨ae,hK _ _ ?_⟩;clear hK K;have c1:w2.cell? ⟨w1.heap.size,0,none⟩=some (.int .i64 a):=oF (cs:=#[.int .i64 a]) (t:=3) (by rw[pq];exact aB.alloc _ _) rfl 0 _ rfl
 have c2:w2.cell? ⟨w1.heap.size+1,0,none⟩=some (.int .i64 b):=by
  have:=oF (w:=w1.alloc (.cells #[.int .i64 a] 3)) (w':=w2) (cs:=#[.int .i64 b]) (t:=3) (by rw[pq];exact aB.refl _) rfl 0 _ rfl
  rwa [Cc]at this
 have CI2:=CI w2 _ _ (g1.tr ae) c1 c2;clear CI CR CL pq;refine bG rfl rfl (λK hK=>?_);go_simp;refine(CI2.out).mono ?_;rintro e w3 ⟨v,rfl,hv,aw⟩;refine⟨aw,hK _ _ ?_⟩;clear hK K;iterate 1 (refine aH rfl (λK hK=>?_);go_simp;refine hK _ ?_;clear hK K)
 refine bN ?_;have g2:=g1.tr ae;go_wp2_with fail
 go_ret;exact⟨v,rfl,hv.base g2.size,g2.tr aw⟩
end
end Go.Proofs.YtjhajgffmnkocaaGreatDoor
