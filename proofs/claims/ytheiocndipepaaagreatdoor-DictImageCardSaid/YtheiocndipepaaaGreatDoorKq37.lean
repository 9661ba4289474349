/- The texts Bimg Bsz R18P DicP DicQ DicR R18b R18c Bjn Bord R19a, one behind the other. -/
import Derived.Test.YtheiocndipepaaaGreatDoorKq27
import Derived.Test.YtheiocndipepaaaGreatDoorKq32
import Derived.Test.YtheiocndipepaaaGreatDoorKq16
import Derived.Test.YtheiocndipepaaaGreatDoorKq4
import Derived.Test.YtheiocndipepaaaGreatDoorKq35
import Derived.Test.YtheiocndipepaaaGreatDoorKq3
import Derived.Test.YtheiocndipepaaaGreatDoorKq23
import Derived.Test.YtheiocndipepaaaGreatDoorKq28
import Derived.Test.YtheiocndipepaaaGreatDoorKq36
import Derived.Test.YtheiocndipepaaaGreatDoorKq1
import Derived.Test.YtheiocndipepaaaGreatDoorKq25
import Derived.Test.YtheiocndipepaaaGreatDoorKq22
import Derived.Test.YtheiocndipepaaaGreatDoorKq11
import Derived.Test.YtheiocndipepaaaGreatDoorKq21
import Derived.Test.YtheiocndipepaaaGreatDoorKq20
import Derived.Test.YtheiocndipepaaaGreatDoorKq6
import Derived.Shelf.GgSortFunc.Compose
import Derived.Test.YtheiocndipepaaaGreatDoorKq26
open List renaming getElem?_eq_getElem → Aa,getD_eq_getElem?_getD → Ab,length_append → Ac,mem_of_getElem? → Ad,length_map → Af,range → Ag,mem_range → Ai,filter_congr → Aj,range' → Ak,getElem?_map → Al,length_range → Am,range_eq_range' → An,length_take → Ao,findIdx_lt_length_of_exists → Aq,getElem_mem → Ar,range'_append_1 → As,getElem?_range → Au,getElem?_append_left → Aw,mem_range'_1 → Ax,take_length → Ay,map_map → Az,filter_eq_nil_iff → Ba,take_of_length_le → Bc,length_singleton → Bd,findIdx_getElem → Be,map_congr_left → Bf,map_cons → Bg,getElem_range → Bh,filter_append → Bi,ext_getElem? → Bl,length_cons → Bn,flatMap_map → Bp,nil_append → Br,mem_filter → Bs,map_append → Bt,map_id → Bv
open Nat renaming le_refl → Ae,zero_le → At,zero_add → Bb,lt_or_ge → Bj,le_of_lt → Bk,le_trans → Bu
open Go.Lib renaming hid → Ah,toList_data → Bq
open Bool renaming eq_iff_iff → Ap
open Classical renaming byContradiction → Av
open Option renaming getD_some → Bo
set_option maxHeartbeats 4000000
namespace Go.Proofs.YtheiocndipepaaaGreatDoor
set_option maxRecDepth 100000
section
open Go Go.RowKit
def readL (es:List En):List ByteArray:=mO (es.map (·.r))
def surfL (es:List En):List ByteArray:=mO (es.map (·.s))
theorem mT1 (l:List (List UInt8)):bls (l.map mkB)=l:=by
 unfold bls;rw[Az];exact(Bf λx _=>gZ x).trans (Bv _)
theorem gW0 {ks:List ByteArray} {s:ByteArray} (h:s∈ks):s∈mO ks:=by
 unfold mO;refine List.mem_map.2 ⟨bl s,(zZ _ _).2 (List.mem_map.2 ⟨s,h,rfl⟩),mR s⟩
theorem sP {ks:List ByteArray} {s:ByteArray} (h:s∈mO ks):s∈ks:=by
 unfold mO at h;obtain⟨x,hx,rfl⟩:=List.mem_map.1 h;obtain⟨t,ht,rfl⟩:=List.mem_map.1 ((zZ _ _).1 hx);rw[show mkB (bl t)=t from mR t];exact ht
theorem lC (ks:List ByteArray):(mO ks).Nodup:=by
 unfold mO;have h:=zK (bls ks);refine List.Pairwise.map mkB (λa b (fi:gH0 a b) e=>?_) h;rw[lH1 e]at fi;exact zF _ fi
theorem fJ1 {ks:List ByteArray} {i:Nat} (h:i<(mO ks).length):(mO ks)[i]?=some (mkB (nth (bls (mO ks)) i)):=by
 rw[zO];unfold mO nth;unfold mO at h;rw[Af]at h;rw[Al,Ab,Aa h];rfl
theorem oJ (ks:List ByteArray):(mO ks).length<=ks.length:=dJ (lC ks) λ_ h=>sP h
def yX (S:List ByteArray) (x:En):Nat:=S.findIdx λs=>decide (s=x.s)
theorem kN {S:List ByteArray} {x:En} (h:x.s∈S):S[yX S x]?=some x.s:=by
 have h1:yX S x<S.length:=Aq ⟨x.s,h,by simp⟩;rw[Aa h1];have h2:=Be (w:=h1);exact congrArg some (of_decide_eq_true h2)
theorem qO {S:List ByteArray} {x:En} (h:x.s∈S):yX S x<S.length:=(List.getElem?_eq_some_iff.1 (kN h)).1
def jW (S:List ByteArray) (es:List En) (i:Nat):Nat:=yX S (es.getD i enZero)
def aE0 (es:List En):List Nat:=grpsL (jW (surfL es) es) es.length (surfL es).length
def gP (es:List En):List En:=(aE0 es).map λi=>es.getD i enZero
def rS (x y:En):Bool := !decide (x.r=y.r)
def gD0 (x y:En):Bool := !decide (x.s=y.s)
def vE (name:Array UInt8) (data:List UInt8):bF:=⟨⟨name⟩,data,none,0⟩
def imgP (p:List cH) (m:Mx) (es:List En):List bF :=
 [vE #[112,111,115] (posE p),vE #[109,97,116,114,105,120] m.enc,vE #[114,101,97,100,105,110,103,115] (loudE (bls (readL es))),vE #[102,105,114,115,116] (packE (gT rS es es.length)),
  vE #[115,117,114,102,97,99,101,115] (loudE (bls (surfL es))),vE #[115,117,114,102,97,99,101] (packE (es.map (yX (surfL es)))),vE #[108,101,102,116] (packE (es.map λx=>x.l.toNat)),vE #[114,105,103,104,116] (packE (es.map λx=>x.t.toNat)),
  vE #[99,111,115,116] (packE (es.map λx=>x.c.toNat)),vE #[111,114,100,101,114] (packE (aE0 es)),vE #[97,116] (packE (gT gD0 (gP es) es.length))]
theorem iX {nw:En->En->Bool} {l:List En} {k i:Nat} (h:i∈gT nw l k):i<k:=List.mem_range.1 (List.mem_filter.1 h).1
theorem bU0 {n:Int}:∀ {l:List En},fP n l=0->∀x∈l,pA x n=0
 | [],_,x,hx=>by cases hx
 | y::l,h,x,hx=>by
  unfold fP at h;by_cases hy:pA y n=0
  ·rw[if_pos hy]at h
   rcases List.mem_cons.1 hx with rfl|hx
   ·exact hy
   ·exact bU0 h x hx
  ·rw[if_neg hy]at h;exact absurd h hy
theorem sM {x:En} {n:Int} (h:pA x n=0):0<=x.l/\x.l<n/\0<=x.t/\x.t<n/\0<=x.c/\x.c<=30000:=by
 unfold pA tJ at h;split at h
 ·split at h
  ·cases h
  ·split at h
   ·cases h
   ·omega
 ·cases h
theorem eE {p:List cH} {m:Mx} {l:List En} (h:mL p (some m) l=0):(m.n:Int)=p.length/\l.length<=20000/\dF p=true/\∀x∈l,pA x p.length=0:=by
 unfold mL at h;split at h
 ·cases h
 ·rename_i hv
  simp only at h;split at h
  ·rename_i h1
   split at h
   ·cases h
   ·rename_i h2
    exact⟨h1,by omega,by simpa using hv,bU0 h⟩
  ·cases h
def nQ (p:List cH) (m:Option Mx) (l:List En):Int×List UInt8 :=
 if mL p m l=0 then match m with
  | none=>(0,[])
  | some m=>if dC (bls (readL (sortS l)))=0/\dC (bls (surfL (sortS l)))=0 then (if fK (imgP p m (sortS l))=0 then (0,file14 (imgP p m (sortS l))) else (fK (imgP p m (sortS l)),[])) else (2,[])
 else (mL p m l,[])
theorem mT0 (m:Mx):∀(l:List Nat) (last:Int),(pS m last l).length<=l.length*20
 | [],_=>by simp[pS]
 | i::r,last=>by
  have h1:=mT0 m r i;have h2:=dB ((i:Int)-last).toNat;have h3:=dB (m.cs.getD i 0).toNat;rw[pS,Ac,Ac,Bn];omega
theorem cB1 {m:Mx} (h:m.OK):m.enc.length<=82000:=by
 have h1:=Mx.idx_len h;have h2:=mT0 m m.idx (-1);have h3:=dB m.n;have h4:=dB m.d.toNat;have h5:=dB m.idx.length;unfold Mx.enc;rw[Ac,Ac,Ac];omega
theorem rO0 {p:List cH} (h:dF p=true):(posE p).length<=2600:=by
 obtain⟨h1,h2⟩:=dN h;have h3:=bG0 (l:=p) (λx hx=>(h2 x hx).1);have h4:=dB p.length;unfold posE;rw[Ac];omega
theorem fA {l:List Nat} (h:∀n∈l,n<18446744073709551616):(packE l).length<=5+l.length*64:=by
 have hw:pF l<=64:=oY.2 h;have h1:l.length*pF l<=l.length*64:=Nat.mul_le_mul_left _ hw;unfold packE dM0;rw[Ac,Ac,bM,Af,Am];simp only[Bd];omega
theorem iW0 (k:Nat):∀l:List Nat,((l.map (leB k)).flatten).length=l.length*k
 | []=>by simp
 | x::l=>by
  rw[Bg,List.flatten_cons,Ac,bM,iW0 k l,Bn,Nat.succ_mul];omega
theorem hH0 (l:List Bool):(pH l).length<=20+l.length:=by
 unfold pH nK vV;rw[Ac,Ac,bM,iW0,iW0,Af,Af,Am,Am];omega
theorem mR0 {L:List (List UInt8)} (ah:OkL L) (hl:L.length<=20000) (hc:eG L<=524287):(loudE L).length<=40000000:=by
 obtain⟨z1,z2,z3,z4,z5⟩:=ah.sizes hl hc;have h1:=hH0 (shapeL L (nodesA L));have h2:=hH0 (isL L (nodesA L));have h3:=fA (l:=idsL L (nodesA L)) (λn hn=>by have:=z5 n hn;omega);unfold loudE fG;simp only[Ac,bM];omega
theorem bT1 (k:Nat->Nat) (n S:Nat):(grpsL k n S).Nodup:=(gS k n S).imp λ{a b} h e=>by rw[e]at h; exact qS h
theorem jO {k:Nat->Nat} {n S:Nat} (h:∀i,i<n->k i<S):(grpsL k n S).length=n:=by
 have h1:=dJ (bT1 k n S) (l':=Ag n) λx hx=>List.mem_range.2 (gC.1 hx).1;have h2:=dJ (List.nodup_range (n:=n)) (l':=grpsL k n S) λx hx=>gC.2 ⟨List.mem_range.1 hx,h x (List.mem_range.1 hx)⟩;rw[Am]at h1 h2;omega
theorem fM0 {es:List En} {i:Nat} (h:i<es.length):es[i]?=some (es.getD i enZero):=by rw[Ab,Aa h]; rfl
theorem jV {es:List En} {x:En} (h:x∈es):x.s∈surfL es:=gW0 (List.mem_map.2 ⟨x,h,rfl⟩)
theorem iK1 {es:List En} {i:Nat} (h:i<es.length):jW (surfL es) es i<(surfL es).length:=qO (jV (Ad (fM0 h)))
theorem qW (es:List En):(aE0 es).length=es.length:=jO λ_ hi=>iK1 hi
theorem hC0 {es:List En} {i:Nat} (h:i∈aE0 es):i<es.length:=(gC.1 h).1
theorem aF1 {S:List ByteArray} {x y:En} (hx:x.s∈S) (hy:y.s∈S):yX S x=yX S y↔x.s=y.s:=by
 constructor
 ·intro h
  have a:=kN hx;rw[h,kN hy]at a;exact(Option.some.inj a).symm
 ·intro h
  unfold yX;rw[h]
theorem tK {l:List ByteArray} (hn:l.Nodup) {i j:Nat} {s:ByteArray} (hi:l[i]?=some s) (hj:l[j]?=some s):i=j:=by
 obtain⟨h1,e1⟩:=List.getElem?_eq_some_iff.1 hi;obtain⟨h2,e2⟩:=List.getElem?_eq_some_iff.1 hj;rcases Nat.lt_trichotomy i j with h|h|h
 ·exact absurd (e1.trans e2.symm) (List.pairwise_iff_getElem.1 hn i j h1 h2 h)
 ·exact h
 ·exact absurd (e2.trans e1.symm) (List.pairwise_iff_getElem.1 hn j i h2 h1 h)
theorem dF1 (es:List En):∀s,s<(surfL es).length->∃i,i<es.length/\jW (surfL es) es i=s:=by
 intro s hs;have h1:(surfL es)[s]?=some (surfL es)[s]:=Aa hs;have h2:(surfL es)[s]∈es.map (·.s):=sP (Ar hs);obtain⟨x,hx,hxs⟩:=List.mem_map.1 h2;obtain⟨i,hi,he⟩:=List.mem_iff_getElem.1 hx;refine⟨i,hi,?_⟩;have h3:es.getD i enZero=x:=by rw[Ab,Aa hi];exact he
 unfold jW;rw[h3];exact tK (lC _) (kN (jV hx)) (by rw[hxs];exact h1)
theorem rS0 (es:List En):gT gD0 (gP es) es.length=tH0 (jW (surfL es) es) es.length (surfL es).length:=by
 rw[<-sU _ _ _ (dF1 es)];have hl:(grpsL (jW (surfL es) es) es.length (surfL es).length).length=es.length:=qW es;unfold gT eA0;rw[hl];apply Aj
 intro i hi;rw[Ai]at hi
 have hg:∀j,j<es.length->∃m,m<es.length/\(grpsL (jW (surfL es) es) es.length (surfL es).length).getD j 0=m/\(gP es).getD j enZero=es.getD m enZero:=by
  intro j hj;have h1:(aE0 es)[j]?=some ((aE0 es).getD j 0):=by rw[Ab,Aa (by rw[qW];exact hj)];rfl
  refine⟨(aE0 es).getD j 0,hC0 (Ad h1),rfl,?_⟩;unfold gP;rw[Ab,Al,h1];rfl
 obtain⟨a,ha,ea,ka⟩:=hg i hi;obtain⟨b,hb,eb,kb⟩:=hg (i-1) (by omega);unfold dQ0 dF0;rw[ka,kb,ea,eb];congr 1
 unfold gD0;have h:=aF1 (jV (Ad (fM0 ha))) (jV (Ad (fM0 hb)));show _=(jW (surfL es) es a != jW (surfL es) es b)
 unfold jW;generalize es.getD a enZero=x at h ⊢;generalize es.getD b enZero=y at h ⊢;by_cases he:x.s=y.s
 ·rw[h.2 he];simp[he]
 ·have:yX (surfL es) x≠yX (surfL es) y:=λe=>he (h.1 e)
  simp[he,this]
theorem iX0 (l:List En):(sortS l).length<=l.length :=
 dJ ((dR l).1.imp λ{a b} fi e=>by rw[e,fF]at fi;cases fi) λy hy=>(((dR l).2 y).1 hy).1
theorem kR {l:List En} {x:En} (h:x∈sortS l):x∈l:=(((dR l).2 x).1 h).1
theorem eS0 {L:List (List UInt8)} (h:∀s∈L,s.length<=256):∀m,m<=L.length->lK L m<=1+m*256
 | 0,_=>Ae _
 | m+1,hm=>by
  have h1:=eS0 h m (by omega);have h2:=h _ (Ad (iZ (L:=L) (j:=m) (by omega)));unfold lK eD1;omega
theorem cK0 {L:List (List UInt8)} (ah:OkL L) (hl:L.length<=300):(loudE L).length<=5300000:=by
 have hc:eG L<=76801:=by have:=eS0 ah.len L.length (Ae _);unfold eG;omega
 have hN:=eX ah.asc ah.len;obtain⟨z1,z2,z3,z4,z5⟩:=ah.sizes (by omega) (by omega:eG L<=524287);have h0:=fC L (nodesA L).length (Ae _);rw[Ay,ah.off_all]at h0;have h1:=hH0 (shapeL L (nodesA L));have h2:=hH0 (isL L (nodesA L));have h3:=fA (l:=idsL L (nodesA L)) (λn hn=>by have:=z5 n hn;omega);have h4:(isL L (nodesA L)).length=(nodesA L).length:=by unfold isL;rw[Af]
 have h5:(labelsL L (nodesA L)).length<=(nodesA L).length:=by rw[ah.labels,Af,List.length_drop];omega
 have h6:(idsL L (nodesA L)).length<=(nodesA L).length:=by
  unfold idsL;rw[Af];exact List.length_filter_le (iP L) (nodesA L)
 unfold loudE fG;simp only[Ac,bM];omega
theorem aW1 (p:List cH) (m:Mx) (es:List En):(imgP p m es).any (λq => !azS q.name)=false/\yE0 (imgP p m es)=false:=by
 constructor
 ·simp only[imgP,List.any_cons,List.any_nil,vE]
  decide +kernel
 ·simp only[imgP,yE0,yW,vE]
  decide +kernel
theorem cX1 {p:List cH} {m:Mx} {es:List En} (hm:m.OK) (hp:dF p=true) (hl:es.length<=300) (hr:dC (bls (readL es))=0) (hs:dC (bls (surfL es))=0)
  (hn:∀x∈es,0<=x.l/\x.l<18446744073709551616/\0<=x.t/\x.t<18446744073709551616/\0<=x.c/\x.c<18446744073709551616):fK (imgP p m es)=0:=by
 have hR:(bls (readL es)).length<=300:=by
  have:=oJ (es.map (·.r));unfold bls readL;rw[Af];rw[Af]at this;omega
 have hS:(bls (surfL es)).length<=300:=by
  have:=oJ (es.map (·.s));unfold bls surfL;rw[Af];rw[Af]at this;omega
 have hS2:(surfL es).length<=300:=by unfold bls at hS;rw[Af]at hS;exact hS
 have a1:=rO0 hp;have a2:=cB1 hm;have a3:=cK0 (dO hr).1 hR;have a4:=cK0 (dO hs).1 hS;have b1:=fA (l:=gT rS es es.length) (λn hn=>by have:=iX hn;omega)
 have b2:=fA (l:=es.map (yX (surfL es))) (λn hn=>by
  obtain⟨x,hx,rfl⟩:=List.mem_map.1 hn
  have:=qO (jV hx);omega)
 have b3:=fA (l:=es.map λx=>x.l.toNat) (λn h=>by
  obtain⟨x,hx,rfl⟩:=List.mem_map.1 h
  have:=hn x hx;omega)
 have b4:=fA (l:=es.map λx=>x.t.toNat) (λn h=>by
  obtain⟨x,hx,rfl⟩:=List.mem_map.1 h
  have:=hn x hx;omega)
 have b5:=fA (l:=es.map λx=>x.c.toNat) (λn h=>by
  obtain⟨x,hx,rfl⟩:=List.mem_map.1 h
  have:=hn x hx;omega)
 have b6:=fA (l:=aE0 es) (λn hn=>by have:=hC0 hn;omega);have b7:=fA (l:=gT gD0 (gP es) es.length) (λn hn=>by have:=iX hn;omega);have c1:=bY0 rS es es.length;have c2:=bY0 gD0 (gP es) es.length;have c3:=qW es;rw[Af]at b2 b3 b4 b5
 have oz:lU (imgP p m es)<=16777216:=by
  simp only[lU,imgP,vE,Bg,List.map_nil,List.sum_cons,List.sum_nil];omega
 have an:(imgP p m es).length=11:=rfl;obtain⟨n1,n2⟩:=aW1 p m es;unfold fK;rw[if_neg (by omega),if_neg (by rw[n1];decide),if_neg (by rw[n2];decide)]
theorem jQ {k:Nat->Nat} {n:Nat}:∀ {s t:Nat},s<=t->∃r,grpsL k n t=grpsL k n s++r
 | s,0,h=>by
  simp_all
 | s,t+1,h=>by
  rcases Bj t s with h1|h1
  ·obtain rfl:s=t+1:=by omega
   exact⟨[],by simp⟩
  ·obtain⟨r,hr⟩:=jQ (k:=k) (n:=n) h1
   grind [lB]
def pZ1 (k:Nat->Nat) (n _S id:Nat):Nat:=(grpsL k n id).length
def pE1 (k:Nat->Nat) (n S id:Nat):Nat:=if id+1<S then (grpsL k n (id+1)).length else n
theorem iM0 {k:Nat->Nat} {n S id:Nat} (h:id<S):(tH0 k n S)[id]?=some (grpsL k n id).length:=by
 grind [tH0]
theorem iN (k:Nat->Nat) (n S:Nat):(tH0 k n S).length=S:=by simp[tH0]
theorem qX0 {k:Nat->Nat} {n S id:Nat} (hk:∀i,i<n->k i<S) (h:id<S):pE1 k n S id=(grpsL k n (id+1)).length:=by
 unfold pE1;split
 ·rfl
 ·rw[show id+1=S by omega,jO hk]
theorem pI1 {k:Nat->Nat} {n S id:Nat} (hk:∀i,i<n->k i<S) (h:id<S):pZ1 k n S id<=pE1 k n S id/\pE1 k n S id<=n:=by
 rw[qX0 hk h];unfold pZ1;refine⟨?_,?_⟩
 ·rw[lB,Ac];omega
 ·obtain⟨r,hr⟩:=jQ (k:=k) (n:=n) (show id+1<=S by omega)
  have:=jO hk
  rw[hr,Ac]at this;omega
theorem lW1 {k:Nat->Nat} {n S id:Nat} (hk:∀i,i<n->k i<S) (h:id<S):((grpsL k n S).take (pE1 k n S id)).drop (pZ1 k n S id)=grp k n id:=by
 rw[qX0 hk h];obtain⟨r,hr⟩:=jQ (k:=k) (n:=n) (show id+1<=S by omega)
 rw[hr,List.take_left',lB]
 ·unfold pZ1
  rw[List.drop_left]
 ·rfl
theorem zK0 {k:Nat->Nat} {n S i s:Nat} (hk:∀i,i<n->k i<S) (hi:i<n) (hs:s<=S):(grpsL k n s).length<=i↔s<=k ((grpsL k n S).getD i 0):=by
 obtain⟨r,hr⟩:=jQ (k:=k) (n:=n) hs;have hl:=jO hk;have hg:(grpsL k n S)[i]?=some ((grpsL k n S).getD i 0):=by rw[Ab,Aa (by omega)];rfl
 obtain⟨x,hx⟩:=exq ((grpsL k n S).getD i 0);rw[<-hx]at hg ⊢;have hp:=gS k n S;constructor
 ·intro h
  apply Av
  intro hc;have hm:x∈grpsL k n s:=gC.2 ⟨(gC.1 (Ad hg)).1,by omega⟩;obtain⟨j,hj,ej⟩:=List.mem_iff_getElem.1 hm;have m4:(grpsL k n S)[j]?=some x:=by rw[hr,Aw hj,Aa hj,ej]
  obtain⟨a1,a2⟩:=List.getElem?_eq_some_iff.1 hg;obtain⟨b1,b2⟩:=List.getElem?_eq_some_iff.1 m4
  have:=List.pairwise_iff_getElem.1 hp j i b1 a1 (by omega)
  rw[a2,b2]at this;exact qS this
 ·intro h
  apply Av
  intro hc;rw[hr,Aw (by omega)]at hg
  have:=(gC.1 (Ad hg)).2
  omega
theorem kA1 {k:Nat->Nat} {n S i:Nat} (hk:∀i,i<n->k i<S) (hi:i<n):(Ag S).countP (λs => !decide (i+1<=(tH0 k n S).getD s 0))=k ((grpsL k n S).getD i 0)+1:=by
 have yy:k ((grpsL k n S).getD i 0)<S:=by
  have hl:=jO hk;have hg:(grpsL k n S)[i]?=some ((grpsL k n S).getD i 0):=by rw[Ab,Aa (by omega)];rfl
  exact(gC.1 (Ad hg)).2
 have h:=rK (λs => !decide (i+1<=(tH0 k n S).getD s 0)) (k ((grpsL k n S).getD i 0)+1) S (λs hs=>by
  rw[Ab,iM0 hs,Bo]
  have:=zK0 (s:=s) hk hi (by omega)
  rw[Ap];simp only[Bool.not_eq_true',decide_eq_false_iff_not,decide_eq_true_eq];omega)
 rw[h];omega
def lJ0 (R:List ByteArray) (x:En):Nat:=R.findIdx λs=>decide (s=x.r)
theorem kP {R:List ByteArray} {x:En} (h:x.r∈R):R[lJ0 R x]?=some x.r:=by
 have h1:lJ0 R x<R.length:=Aq ⟨x.r,h,by simp⟩;rw[Aa h1];have h2:=Be (w:=h1);exact congrArg some (of_decide_eq_true h2)
theorem lR1 {R:List ByteArray} {x:En} (h:x.r∈R):lJ0 R x<R.length:=by grind [lJ0]
theorem mX {es:List En} {x:En} (h:x∈es):x.r∈readL es:=gW0 (by grind)
def keyRE (R:List ByteArray) (es:List En) (i:Nat):Nat:=lJ0 R (es.getD i enZero)
theorem vB {es:List En} {i:Nat} (h:i<es.length):keyRE (readL es) es i<(readL es).length:=lR1 (mX (by simp_all))
theorem lT0 {R:List ByteArray} {x y:En} (hx:x.r∈R) (hy:y.r∈R):lJ0 R x=lJ0 R y↔x.r=y.r:=by
 constructor
 ·intro h
  have a:=kP hx;rw[h,kP hy]at a;simp_all
 ·intro h
  unfold lJ0;rw[h]
theorem nA0 (es:List En):∀s,s<(readL es).length->∃i,i<es.length/\keyRE (readL es) es i=s:=by
 intro s hs;have h1:(readL es)[s]?=some (readL es)[s]:=by simp_all
 have h2:(readL es)[s]∈es.map (·.r):=sP (Ar hs);obtain⟨x,hx,hxs⟩:=List.mem_map.1 h2;obtain⟨i,hi,he⟩:=List.mem_iff_getElem.1 hx;refine⟨i,hi,?_⟩;have h3:es.getD i enZero=x:=by rw[Ab,Aa hi];exact he
 grind [tK,lC,kP,keyRE,readL]
theorem dK1 {ks:List ByteArray} {i j:Nat} {a b:ByteArray} (hi:(mO ks)[i]?=some a) (hj:(mO ks)[j]?=some b) (h:Op.bytesLess (bl a) (bl b)=true):i<j:=by
 have hp:=zK (bls ks)
 have key:∀ {i:Nat} {a:ByteArray},(mO ks)[i]?=some a->(pU0 (bls ks))[i]?=some (bl a):=λ{i a} h=>by
  unfold mO at h;rw[Al]at h
  cases hx:(pU0 (bls ks))[i]? with
  | none=>rw[hx]at h;cases h
  | some x =>
   rw[hx]at h;rw[<-Option.some.inj h];grind [bl,mkB]
 grind [zF,List.pairwise_iff_getElem,pQ0]
theorem xJ0 {es:List En} (hs:dZ es) {i j:Nat} (h1:i<j) (h2:j<es.length):keyRE (readL es) es i<=keyRE (readL es) es j:=by
 have hl:=List.pairwise_iff_getElem.1 hs i j (by omega) h2 h1;have e1:es.getD i enZero=es[i]:=by rw[Ab,Aa (by omega)];rfl
 have e2:es.getD j enZero=es[j]:=by rw[Ab,Aa h2];rfl
 have m1:=mX (Ar (show i<es.length by omega))
 have m2:=mX (Ar h2);unfold keyRE;rw[e1,e2];by_cases he:es[i].r=es[j].r
 ·rw[(lT0 m1 m2).2 he];exact Ae _
 ·rw[bB1 he,Bq,Bq]at hl
  exact Bk (dK1 (kP m1) (kP m2) hl)
theorem tI {es:List En} (hs:dZ es):grpsL (keyRE (readL es) es) es.length (readL es).length=Ag es.length:=by
 refine(iM (λ_=>qS) (λ_ _ _=>bF0) ?_ (gS (keyRE (readL es) es) es.length (readL es).length) λx=>?_).symm
 ·refine List.pairwise_iff_getElem.2 λi j hi hj uu=>?_
  rw[Bh,Bh]
  have:=xJ0 hs uu (by simpa using hj)
  unfold ltK;omega
 ·rw[gC,Ai]
  exact⟨λh=>⟨h,vB h⟩,λh=>h.1⟩
theorem tF {es:List En} (hs:dZ es):gT rS es es.length=tH0 (keyRE (readL es) es) es.length (readL es).length:=by
 rw[<-sU _ _ _ (nA0 es),tI hs];unfold gT eA0;rw[Am];apply Aj
 intro i hi;rw[Ai]at hi;have g:∀j,j<es.length->(Ag es.length).getD j 0=j:=by simp_all
 unfold dQ0 dF0;grind [lT0,mX,rS,keyRE]
def exactL (es:List En) (s:ByteArray):List En:=es.filter λx=>decide (x.r=s)
def ofL (es:List En) (s:ByteArray):List En:=es.filter λx=>decide (x.s=s)
def begB (s p:ByteArray):Bool:=(bl p).isPrefixOf (bl s)
def cutB (s:ByteArray) (n:Nat):ByteArray:=mkB ((bl s).take n)
def prefL (es:List En) (s:ByteArray):List En:=(Ag (min s.size 256+1)).flatMap λn=>exactL es (cutB s n)
def writesL (es:List En) (s:ByteArray):List En:=(Ag (min s.size 256+1)).flatMap λn=>ofL es (cutB s n)
def underL (es:List En) (p:ByteArray) (ep:Int):List En:=(es.filter λx=>begB x.r p).take ep.toNat
theorem iW1 (es:List En):es=(Ag es.length).map λi=>es.getD i enZero:=by
 apply Bl
 grind
theorem dJ0 (es:List En) (p:En->Bool):es.filter p=((Ag es.length).filter λi=>p (es.getD i enZero)).map λi=>es.getD i enZero:=by
 conv=>lhs;rw[iW1 es]
 rw[List.filter_map];rfl
theorem kN1 {es:List En} {id:Nat} {s:ByteArray} (h:(readL es)[id]?=some s):(grp (keyRE (readL es) es) es.length id).map (λi=>es.getD i enZero)=exactL es s:=by
 unfold exactL grp;rw[dJ0];congr 1
 apply Aj
 intro i hi;rw[Ai]at hi;have hx:=kP (mX (Ad (fM0 hi)));unfold keyRE;rw[Ap];simp only[beq_iff_eq,decide_eq_true_eq];constructor
 ·intro e
  rw[e,h]at hx;exact(Option.some.inj hx).symm
 ·intro e
  rw[e]at hx;exact tK (lC _) hx h
theorem jL1 {es:List En} {id:Nat} {s:ByteArray} (h:(surfL es)[id]?=some s):(grp (jW (surfL es) es) es.length id).map (λi=>es.getD i enZero)=ofL es s:=by
 unfold ofL grp;rw[dJ0];congr 1
 apply Aj
 intro i hi;rw[Ai]at hi;have hx:=kN (jV (Ad (fM0 hi)));unfold jW;rw[Ap];simp only[beq_iff_eq,decide_eq_true_eq];constructor
 ·intro e
  rw[e,h]at hx;exact(Option.some.inj hx).symm
 ·intro e
  rw[e]at hx;exact tK (lC _) hx h
theorem fL0 {es:List En} {s:ByteArray} (h:s∉readL es):exactL es s=[]:=by
 unfold exactL;rw[Ba];intro x hx;simp only[decide_eq_true_eq];rintro rfl;exact h (mX hx)
theorem aV1 {es:List En} {s:ByteArray} (h:s∉surfL es):ofL es s=[]:=by
 unfold ofL;rw[Ba];intro x hx;simp only[decide_eq_true_eq];rintro rfl;exact h (jV hx)
def qI0 (es:List En) (a b:Nat):List En:=(es.take b).drop a
theorem aT0 (es:List En) {a b:Nat} (hb:b<=es.length):qI0 es a b=((Ak a (b-a)).map λi=>es.getD i enZero):=by
 apply Bl
 grind [qI0]
theorem bO1 {es:List En} (hs:dZ es) {a b:Nat} (fi:a<=b) (hb:b<=(readL es).length) :
  qI0 es (grpsL (keyRE (readL es) es) es.length a).length (grpsL (keyRE (readL es) es) es.length b).length=es.filter (λx=>decide (a<=lJ0 (readL es) x)&&decide (lJ0 (readL es) x<b)):=by
 have hk:∀i,i<es.length->keyRE (readL es) es i<(readL es).length:=λi hi=>vB hi
 have ac:∀i s,i<es.length->s<=(readL es).length->((grpsL (keyRE (readL es) es) es.length s).length<=i↔s<=keyRE (readL es) es i):=λi s hi im=>by
  have h:=zK0 hk hi im;rw[tI hs,Ab,Au hi,Bo]at h;exact h
 obtain⟨A,hA⟩:=exq ((grpsL (keyRE (readL es) es) es.length a).length);obtain⟨B,hB⟩:=exq ((grpsL (keyRE (readL es) es) es.length b).length)
 have hAB:A<=B/\B<=es.length:=by
  obtain⟨r,hr⟩:=jQ (k:=keyRE (readL es) es) (n:=es.length) fi;obtain⟨r2,dd⟩:=jQ (k:=keyRE (readL es) es) (n:=es.length) hb
  have:=jO hk
  rw[dd,Ac]at this;rw[hA,hB];refine⟨by rw[hr,Ac];omega,by omega⟩
 rw[<-hA,<-hB,aT0 es hAB.2,dJ0];congr 1
 have e1:(Ag es.length).filter (λi=>decide (a<=lJ0 (readL es) (es.getD i enZero))&&decide (lJ0 (readL es) (es.getD i enZero)<b))=(Ag es.length).filter (λi=>decide (A<=i)&&decide (i<B)):=by
  apply Aj
  intro i hi;rw[Ai]at hi;have h1:=ac i a hi (by omega);have h2:=ac i b hi hb;rw[<-hA]at h1;rw[<-hB]at h2;unfold keyRE at h1 h2;rw[Ap];simp only[Bool.and_eq_true,decide_eq_true_eq];omega
 rw[e1]
 have e2:Ag es.length=Ag A++(Ak A (B-A)++Ak B (es.length-B)):=by
  have h1:Ak A (B-A)++Ak B (es.length-B)=Ak A (es.length-A):=by
   have:=As (s:=A) (m:=B-A) (n:=es.length-B)
   rw[show A+(B-A)=B by omega,show B-A+(es.length-B)=es.length-A by omega]at this
   exact this
  have h2:=As (s:=0) (m:=A) (n:=es.length-A);rw[Bb,show A+(es.length-A)=es.length by omega]at h2
  rw[h1,An,An,h2]
 rw[e2,Bi,Bi];have f1:(Ag A).filter (λi=>decide (A<=i)&&decide (i<B))=[]:=List.filter_eq_nil_iff.2 (λi hi=>by rw[Ai]at hi;simp;omega);have f3:(Ak B (es.length-B)).filter (λi=>decide (A<=i)&&decide (i<B))=[]:=List.filter_eq_nil_iff.2 (λi hi=>by rw[Ax]at hi;simp;omega);rw[f1,f3,List.append_nil,Br];symm
 rw[List.filter_eq_self];intro i hi;rw[Ax]at hi;simp;omega
theorem tS {es:List En} {a:Nat}:∀ {b:Nat},a<=b->b<=(readL es).length->b-a<=(grpsL (keyRE (readL es) es) es.length b).length-(grpsL (keyRE (readL es) es) es.length a).length/\(grpsL (keyRE (readL es) es) es.length a).length<=(grpsL (keyRE (readL es) es) es.length b).length
 | 0,h,_=>by
  obtain rfl:a=0:=by omega
  simp
 | b+1,h,hb=>by
  rcases Bj b a with c|c
  ·obtain rfl:a=b+1:=by omega
   simp
  ·have ih:=tS (es:=es) c (by omega)
   rw[lB,Ac];obtain⟨i,hi,hk⟩:=nA0 es b (by omega)
   have:0<(grp (keyRE (readL es) es) es.length b).length:=List.length_pos_iff.2 (List.ne_nil_of_mem (aR0.2 ⟨hi,hk⟩))
   omega
theorem vJ0 {es:List En} (hs:dZ es) {a b:Nat} {p:ByteArray} {m:Nat} (hm:0<m) (fi:a<b) (hb:b<=(readL es).length)
  (hp:∀j s,(readL es)[j]?=some s->(begB s p=true↔a<=j/\j<b)) :
  qI0 es (grpsL (keyRE (readL es) es) es.length a).length (min ((grpsL (keyRE (readL es) es) es.length (a+min m (b-a))).length-(grpsL (keyRE (readL es) es) es.length a).length) m+(grpsL (keyRE (readL es) es) es.length a).length)=(es.filter λx=>begB x.r p).take m:=by
 have hf:es.filter (λx=>begB x.r p)=es.filter (λx=>decide (a<=lJ0 (readL es) x)&&decide (lJ0 (readL es) x<b)):=by
  apply Aj
  intro x hx;have h:=hp _ _ (kP (mX hx));rw[Ap,h];simp
 rw[hf,<-bO1 hs (Bk fi) hb];obtain⟨h1,h2⟩:=tS (es:=es) (Bk fi) hb;obtain⟨h3,h4⟩:=tS (es:=es) (a:=a) (b:=a+min m (b-a)) (by omega) (by omega);have h5:=(tS (es:=es) (a:=a+min m (b-a)) (b:=b) (by omega) hb).2
 have key:min ((grpsL (keyRE (readL es) es) es.length (a+min m (b-a))).length-(grpsL (keyRE (readL es) es) es.length a).length) m=min ((grpsL (keyRE (readL es) es) es.length b).length-(grpsL (keyRE (readL es) es) es.length a).length) m:=by
  by_cases hc:m<b-a
  ·omega
  ·grind
 rw[key];unfold qI0;rw[List.take_drop,List.take_take];congr 2
 omega
theorem xC {R:List ByteArray} {x:List UInt8}:x∈bls R↔mkB x∈R:=by
 unfold bls;rw[List.mem_map];grind [mR,bl,mkB]
theorem rL1 {R:List ByteArray} {j:Nat} {s:ByteArray} (h:R[j]?=some s):R.getD j ⟨#[]⟩=s:=by
 simp_all
theorem lB0 {R:List ByteArray} (h:OkL (bls R)) (f:ByteArray->List En) (hf:∀s,s∉R->f s=[]) (s:ByteArray) :
  (Ag (min s.size 256+1)).flatMap (λn=>f (cutB s n))=(hitsL (bls R) (bl s) s.size).flatMap λq=>f (R.getD q.1 ⟨#[]⟩):=by
 have ais:∀i,(wD0 (bls R) (bl s) i).flatMap (λq=>f (R.getD q.1 ⟨#[]⟩))=f (cutB s (i+1)):=λi=>by
  unfold wD0;by_cases hm:(bl s).take (i+1)∈bls R
  ·rw[if_pos hm]
   have uw:=xC.1 hm;obtain⟨j,hj⟩:=List.mem_iff_getElem?.1 uw;have h1:=mY hj;rw[show bl (mkB ((bl s).take (i+1)))=(bl s).take (i+1) from gZ _]at h1
   rw[h.findT_of h1];grind [cutB]
  ·rw[if_neg hm]
   grind [xC,cutB]
 have e1:(hitsL (bls R) (bl s) s.size).flatMap (λq=>f (R.getD q.1 ⟨#[]⟩))=(Ag s.size).flatMap λi=>f (cutB s (i+1)):=by
  unfold hitsL;rw[List.flatMap_assoc];congr 1
  funext i
  exact ais i
 have e0:f (cutB s 0)=[]:=hf _ (λhc=>h.pos [] (xC.2 (by unfold cutB at hc;simp_all)) rfl);rw[e1,List.range_succ_eq_map,List.flatMap_cons,e0,Br,Bp];by_cases hs:s.size<=256
 ·rw[Nat.min_eq_left hs]
 ·rw[Nat.min_eq_right (by omega)]
  have e2:Ag s.size=Ag 256++Ak 256 (s.size-256):=by
   have h2:=As (s:=0) (m:=256) (n:=s.size-256);rw[Bb,show 256+(s.size-256)=s.size by omega]at h2
   rw[An,An,h2]
  rw[e2,List.flatMap_append]
  have e3:(Ak 256 (s.size-256)).flatMap (λi=>f (cutB s (i+1)))=[]:=by
   rw[List.flatMap_eq_nil_iff];intro i hi;rw[Ax]at hi;refine hf _ λhc=>?_;have h3:=h.len _ (xC.2 hc);rw[Ao,dI]at h3;omega
  simp_all
theorem bZ1 {es:List En} (h:OkL (bls (readL es))) (s:ByteArray):prefL es s=(hitsL (bls (readL es)) (bl s) s.size).flatMap λq=>exactL es ((readL es).getD q.1 ⟨#[]⟩) :=
 lB0 h (exactL es) (λ_ hs=>fL0 hs) s
theorem oV0 {es:List En} (h:OkL (bls (surfL es))) (s:ByteArray):writesL es s=(hitsL (bls (surfL es)) (bl s) s.size).flatMap λq=>ofL es ((surfL es).getD q.1 ⟨#[]⟩) :=
 lB0 h (ofL es) (λ_ hs=>aV1 hs) s
theorem xG0 {es:List En} (h:OkL (bls (readL es))) (s:ByteArray):exactL es s=if (jB (bls (readL es)) (bl s)).2=true then exactL es ((readL es).getD (jB (bls (readL es)) (bl s)).1 ⟨#[]⟩) else []:=by
 by_cases hm:s∈readL es
 ·obtain⟨j,hj⟩:=List.mem_iff_getElem?.1 hm
  rw[h.findT_of (mY hj),if_pos rfl,rL1 hj]
 ·rw[mM (by grind [mR,bls,bl]),fL0 hm]
  rfl
theorem mO1 {es:List En} (h:OkL (bls (surfL es))) (s:ByteArray):ofL es s=if (jB (bls (surfL es)) (bl s)).2=true then ofL es ((surfL es).getD (jB (bls (surfL es)) (bl s)).1 ⟨#[]⟩) else []:=by
 by_cases hm:s∈surfL es
 ·obtain⟨j,hj⟩:=List.mem_iff_getElem?.1 hm
  rw[h.findT_of (mY hj),if_pos rfl,rL1 hj]
 ·rw[mM (by grind [mR,bls,bl]),aV1 hm]
  rfl
theorem bK1 {es:List En} {p:ByteArray} {ep:Int} (h:gA (bls (readL es)) (bl p)=[]):underL es p ep=[]:=by
 unfold underL
 have:es.filter (λx=>begB x.r p)=[]:=by
  refine List.filter_eq_nil_iff.2 λx hx hb=>?_
  have hm:lJ0 (readL es) x∈gA (bls (readL es)) (bl p):=by
   have h1:=kP (mX hx);unfold gA;rw[Bs,Ai,cK];refine⟨by grind,?_⟩;rw[xV (mY h1)];exact hb
  rw[h]at hm;cases hm
 simp_all
theorem uO0 {es:List En} (hs:dZ es) {p:ByteArray} {a b m:Nat} (hm:0<m) (fi:a<b) (hb:b<=(readL es).length) (h:gA (bls (readL es)) (bl p)=Ak a (b-a)) :
  qI0 es (grpsL (keyRE (readL es) es) es.length a).length (min ((grpsL (keyRE (readL es) es) es.length (a+min m (b-a))).length-(grpsL (keyRE (readL es) es) es.length a).length) m+(grpsL (keyRE (readL es) es) es.length a).length)=underL es p (m:Int):=by
 unfold underL;rw[Int.toNat_natCast];refine vJ0 hs hm fi hb λj s hj=>?_
 have h1:j∈gA (bls (readL es)) (bl p)↔begB s p=true:=by
  unfold gA;rw[Bs,Ai,cK,xV (mY hj)];exact by grind [begB]
 grind
theorem zM {s x:ByteArray} {n:Nat} (hn:n<=s.size):x=cutB s n↔begB s x=true/\x.size=n:=by
 unfold begB cutB;grind [List.prefix_iff_eq_take,Lib.size_eq,mR,mkB,bl]
theorem zI0 {s p:ByteArray} (h:begB s p=true):p.size<=s.size:=by
 unfold begB at h;grind [dI]
end
section
open Go Go.RowKit Go.Shelf
attribute [local go_sem] aM aK
theorem nG1 {A B:List ByteArray} (h:bls A=bls B):A=B:=by
 have h1:=congrArg (List.map mkB) h;unfold bls at h1;rw[Az,Az]at h1;have e:∀l:List ByteArray,l.map (mkB ∘ bl)=l:=λl=>(Bf λx _=>mR x).trans (Bv _);rwa [e,e]at h1
theorem aX1 (ks:List ByteArray) (s:ByteArray):eO1 (bls (mO ks)) (bl s)=bls (mO (ks++[s])):=by
 rw[zO,zO,kZ];unfold pU0;rw[List.foldl_append];rfl
theorem aH0 {ks out:List ByteArray} {s:ByteArray} (h:bls out=eO1 (bls (mO ks)) (bl s)):out=mO (ks++[s]):=nG1 (h.trans (aX1 ks s))
theorem jB0 (es:List En) (a:Option Addr) (c:Nat) (pv mv:Value) (w:World) (hl:es.length<=1048576) (ac:aF w a 5 (es.map aQ)) :
  Calls Tryz.prog 130 #[.agg #[pv,mv,.slice a es.length c]] w λe w'=>Grows w w'/\∃v,e=.returned v/\aV w' w.heap.size 9 1 stC v (readL es):=by
 obtain⟨W0,b9⟩:=exq (w.alloc (.cells #[pv,mv,.slice a es.length c] 32));have cp:Grows w W0:=by rw[b9];exact Grows.alloc _ _
 have q2:=aT w #[pv,mv,.slice a es.length c] 32 (0,0) 2 _ rfl;rw[<-b9]at q2;have HQ:=Ah q2;have HAT:=Ah (ac.grows cp);have HG0:=Ah cp;clear ac cp;go_enter Tryz.func130,Tryz.ntmps130
 go_wp2_with fail
 rw[<-b9];clear b9;go_loopw [3,4] (λv i wr=>∃(k:Nat),k<=es.length/\i=.int .i64 k/\aV wr w.heap.size 9 1 stC v (mO ((es.take k).map (·.r)))/\Grows W0 wr) (λ_ i _=>es.length-(intOf i).toNat)
 case atStart=>exact⟨0,At _,rfl,aV.nil _ _ _ _ _,Grows.refl _⟩
 case round =>
  obtain⟨k,hk,rfl,aa,hg⟩:=hrel;clear q2;have q2:=hg.cell HQ.out;by_cases ae:k<es.length
  ·obtain⟨⟨xr,xs,xl,xt,xc⟩,hx⟩:∃x,es[k]?=some x:=⟨_,Aa ae⟩
   obtain⟨ba,oa,rfl,be⟩:=(HAT.out.grows hg).get (aH ae);have c0:wr.cell? ⟨ba,oa+k*5,none⟩=some (.string xr):=be k _ hx 0 _ rfl;have cy:(k:Int)<es.length:=by omega
   have HT:Hid (mO ((es.take k).map (·.r)++[xr])=mO ((es.take (k+1)).map (·.r))):=by
    show _=_
    rw[bN hx,Bt];rfl
   have yy:(mO ((es.take k).map (·.r))).length<=k:=Bu (oJ _) (by rw[Af,Ao];omega);obtain⟨B,hB⟩:=exq (mO ((es.take k).map (·.r)));have HB:=Ah hB;rw[<-hB]at aa yy;clear be hx hB;obtain⟨va,vc,rfl,_,_,zy⟩:=aa.at_ (k:=1) (λx=>(rfl:(stC x).length=1));go_wp2_with fail
   refine(rX0 B xr va vc wr (by omega) zy).mono ?_;rintro e w2 ⟨af,v2,out,ho,rfl,aj⟩;rw[HB.out]at ho;obtain rfl:=aH0 ho;rw[HT.out]at aj;have qt:=Grows.trans _ _ _ hg af;have ax:=aj.base (Grows.trans _ _ _ HG0.out hg).size;clear aa aj zy ho af;go_wp2_with fail
   go_roundw
   case rel=>exact⟨k+1,ae,by go_num,ax,qt⟩
   case measure=>simp[intOf];omega
  ·obtain rfl:k=es.length:=by omega
   rw[Ay]at aa;go_wp2_with fail
   go_ret;exact⟨Grows.trans _ _ _ HG0.out hg,_,rfl,aa⟩
theorem iK0 (es:List En) (a:Option Addr) (c:Nat) (pv mv:Value) (w:World) (hl:es.length<=1048576) (ac:aF w a 5 (es.map aQ)) :
  Calls Tryz.prog 131 #[.agg #[pv,mv,.slice a es.length c]] w λe w'=>Grows w w'/\∃v,e=.returned v/\aV w' w.heap.size 9 1 stC v (surfL es):=by
 obtain⟨W0,b9⟩:=exq (w.alloc (.cells #[pv,mv,.slice a es.length c] 32));have cp:Grows w W0:=by rw[b9];exact Grows.alloc _ _
 have q2:=aT w #[pv,mv,.slice a es.length c] 32 (0,0) 2 _ rfl;rw[<-b9]at q2;have HQ:=Ah q2;have HAT:=Ah (ac.grows cp);have HG0:=Ah cp;clear ac cp;go_enter Tryz.func131,Tryz.ntmps131
 go_wp2_with fail
 rw[<-b9];clear b9;go_loopw [3,4] (λv i wr=>∃(k:Nat),k<=es.length/\i=.int .i64 k/\aV wr w.heap.size 9 1 stC v (mO ((es.take k).map (·.s)))/\Grows W0 wr) (λ_ i _=>es.length-(intOf i).toNat)
 case atStart=>exact⟨0,At _,rfl,aV.nil _ _ _ _ _,Grows.refl _⟩
 case round =>
  obtain⟨k,hk,rfl,aa,hg⟩:=hrel;clear q2;have q2:=hg.cell HQ.out;by_cases ae:k<es.length
  ·obtain⟨⟨xr,xs,xl,xt,xc⟩,hx⟩:∃x,es[k]?=some x:=⟨_,Aa ae⟩
   obtain⟨ba,oa,rfl,be⟩:=(HAT.out.grows hg).get (aH ae);have c0:wr.cell? ⟨ba,oa+k*5+1,none⟩=some (.string xs):=be k _ hx 1 _ rfl;have cy:(k:Int)<es.length:=by omega
   have HT:Hid (mO ((es.take k).map (·.s)++[xs])=mO ((es.take (k+1)).map (·.s))):=by
    show _=_
    rw[bN hx,Bt];rfl
   have yy:(mO ((es.take k).map (·.s))).length<=k:=Bu (oJ _) (by rw[Af,Ao];omega);obtain⟨B,hB⟩:=exq (mO ((es.take k).map (·.s)));have HB:=Ah hB;rw[<-hB]at aa yy;clear be hx hB;obtain⟨va,vc,rfl,_,_,zy⟩:=aa.at_ (k:=1) (λx=>(rfl:(stC x).length=1));go_wp2_with fail
   refine(rX0 B xs va vc wr (by omega) zy).mono ?_;rintro e w2 ⟨af,v2,out,ho,rfl,aj⟩;rw[HB.out]at ho;obtain rfl:=aH0 ho;rw[HT.out]at aj;have qt:=Grows.trans _ _ _ hg af;have ax:=aj.base (Grows.trans _ _ _ HG0.out hg).size;clear aa aj zy ho af;go_wp2_with fail
   go_roundw
   case rel=>exact⟨k+1,ae,by go_num,ax,qt⟩
   case measure=>simp[intOf];omega
  ·obtain rfl:k=es.length:=by omega
   rw[Ay]at aa;go_wp2_with fail
   go_ret;exact⟨Grows.trans _ _ _ HG0.out hg,_,rfl,aa⟩
def oP1:Value := .agg #[.slice none 0 0,.pointer none,.slice none 0 0]
theorem oO1 {p:List cH} {m:Option Mx} {l:List En} (h:dF p=false):mL p m l=5:=by unfold mL; rw[if_pos h]
theorem pM1 {p:List cH} {l:List En} (h:dF p=true):mL p none l=9:=by unfold mL; rw[if_neg (by rw[h]; decide)]
theorem pB1 {p:List cH} {m:Mx} {l:List En} (h:dF p=true):mL p (some m) l=if (m.n:Int)=p.length then (if 20000<l.length then 2 else fP p.length l) else 5:=by unfold mL; rw[if_neg (by rw[h]; decide)]
def iL (p:List cH) (m:Option Mx) (l:List En):Int :=
 if mL p m l=0 then (if dC (bls (readL (sortS l)))=0/\dC (bls (surfL (sortS l)))=0 then 0 else 2) else mL p m l
def dP (p:List cH) (mv:Value) (m:Option Mx) (l:List En) (pa:Option Addr) (pc:Nat) (w:World) (e:Ending) (w':World):Prop :=
 Grows w w'/\(iL p m l=0->∃a c,e=.returned (.tuple #[.agg #[.slice pa p.length pc,mv,.slice a (sortS l).length c],.int .i64 0])/\aF w' a 5 ((sortS l).map aQ))/\(iL p m l≠0->e=.returned (.tuple #[oP1,.int .i64 (iL p m l)]))
theorem dP.bad {p:List cH} {mv:Value} {m:Option Mx} {l:List En} {pa:Option Addr} {pc:Nat} {w w':World} {f:Int} (h:mL p m l≠0) (hf:f=mL p m l) (hg:Grows w w') :
  dP p mv m l pa pc w (.returned (.tuple #[.agg #[.slice none 0 0,.pointer none,.slice none 0 0],.int .i64 f])) w':=by
 have e:iL p m l=f:=by unfold iL;rw[if_neg h,hf]
 refine⟨hg,λh0=>?_,λ_=>?_⟩
 ·rw[e,hf]at h0;exact absurd h0 h
 ·rw[e];rfl
theorem dP.long {p:List cH} {mv:Value} {m:Option Mx} {l:List En} {pa:Option Addr} {pc:Nat} {w w':World} (h:mL p m l=0) (h2:¬(dC (bls (readL (sortS l)))=0/\dC (bls (surfL (sortS l)))=0)) (hg:Grows w w') :
  dP p mv m l pa pc w (.returned (.tuple #[.agg #[.slice none 0 0,.pointer none,.slice none 0 0],.int .i64 2])) w':=by
 have e:iL p m l=2:=by unfold iL;rw[if_pos h,if_neg h2]
 refine⟨hg,λh0=>?_,λ_=>?_⟩
 ·rw[e]at h0;cases h0
 ·rw[e];rfl
theorem dP.good {p:List cH} {mv:Value} {m:Option Mx} {l:List En} {pa:Option Addr} {pc:Nat} {w w':World} {a:Option Addr} {c:Nat} (h:mL p m l=0) (h2:dC (bls (readL (sortS l)))=0/\dC (bls (surfL (sortS l)))=0) (hg:Grows w w') (ac:aF w' a 5 ((sortS l).map aQ)) :
  dP p mv m l pa pc w (.returned (.tuple #[.agg #[.slice pa p.length pc,mv,.slice a (sortS l).length c],.int .i64 0])) w':=by
 have e:iL p m l=0:=by unfold iL;rw[if_pos h,if_pos h2]
 exact⟨hg,λ_=>⟨a,c,rfl,ac⟩,λh0=>absurd e h0⟩
theorem dP.good2 {p:List cH} {mv:Value} {m:Option Mx} {l es:List En} {pa:Option Addr} {pc:Nat} {w w':World} {a:Option Addr} {c:Nat} (he:es=sortS l) (h:mL p m l=0) (h2:dC (bls (readL (sortS l)))=0/\dC (bls (surfL (sortS l)))=0) (hg:Grows w w') (ac:aF w' a 5 (es.map aQ)) :
  dP p mv m l pa pc w (.returned (.tuple #[.agg #[.slice pa p.length pc,mv,.slice a es.length c],.int .i64 0])) w':=by
 subst he;exact dP.good h h2 hg ac
theorem dX1 (p:List cH) (mv:Value) (m:Option Mx) (l:List En) (pa a:Option Addr) (pc c:Nat) (w:World) (hp:p.length<=4611686018427387904) (ft:∀x∈p,x.name.size<=9223372036854775807) (hl:l.length<=140737488355328) (hs:∀x∈l,x.r.size<=1099511627776/\x.s.size<=1099511627776)
  (ms:aF w pa 2 (p.map bG)) (hm:kS1 w mv m) (ac:aF w a 5 (l.map aQ)) (hc:mL p m l≠0) :
  Calls Tryz.prog 78 #[.slice pa p.length pc,mv,.slice a l.length c] w (dP p mv m l pa pc w):=by
 obtain⟨W1,bi⟩:=exq (w.alloc (.cells #[.slice none 0 0,.pointer none,.slice none 0 0] 32));have fp:Grows w W1:=by rw[bi];exact Grows.alloc _ _
 have HBL:Hid (w.heap.size<W1.heap.size):=by rw[bi];show _<_;simp
 have HBX:Hid (∀w',Grows W1 w'->(∀j v,(#[.slice none 0 0,.pointer none,.slice none 0 0]:Array Value)[j]?=some v->w'.cell? ⟨w.heap.size,j,none⟩=some v)/\(∀j,w'.frozen? ⟨w.heap.size,j,none⟩=false)):=λw' h=>bK (by rw[<-bi];exact h);have HGA:=Ah fp;have HAT:=Ah (ac.grows fp);have HS:=Ah hs;have HM:=Ah (hm.grows fp);have HC:=Ah hc;have CP:=Ah (eR0 p pa pc W1 (ms.grows fp) hp ft);clear ac hs hm ms hc fp
 cases hv:dF p with
 | false =>
  rw[hv]at CP;have HF:=Ah (oO1 (m:=m) (l:=l) hv);clear hv;go_enter Tryz.func78,Tryz.ntmps78
  go_wp2_with fail
  rw[<-bi];clear bi;refine CP.out.mono ?_;rintro e w1 ⟨rfl,ag⟩;obtain⟨bc,bf⟩:=HBX.out _ ag;have b0:=bc 0 _ rfl;have b1:=bc 1 _ rfl;have b2:=bc 2 _ rfl;have f0:=bf 0;have f1:=bf 1;have f2:=bf 2;clear bc bf;go_wp2
  refine bodyPost_ret (v:=.tuple #[.agg #[.slice none 0 0,.pointer none,.slice none 0 0],.int .i64 _]) (by simp[results,Tryz.results78,go_sem,b0,b1,b2];rfl) rfl ?_
  exact dP.bad HC.out HF.out.symm ((((Grows.trans _ _ _ HGA.out ag).set (Ae _) _).set (Ae _) _).set (Ae _) _)
 | true =>
  rw[hv]at CP
  cases m with
  | none =>
   obtain rfl:mv=.pointer none:=HM.out;have HF:=Ah (pM1 (l:=l) hv);clear hv;go_enter Tryz.func78,Tryz.ntmps78
   go_wp2_with fail
   rw[<-bi];clear bi;refine CP.out.mono ?_;rintro e w1 ⟨rfl,ag⟩;obtain⟨bc,bf⟩:=HBX.out _ ag;have b0:=bc 0 _ rfl;have b1:=bc 1 _ rfl;have b2:=bc 2 _ rfl;have f0:=bf 0;have f1:=bf 1;have f2:=bf 2;clear bc bf;go_wp2
   refine bodyPost_ret (v:=.tuple #[.agg #[.slice none 0 0,.pointer none,.slice none 0 0],.int .i64 _]) (by simp[results,Tryz.results78,go_sem,b0,b1,b2];rfl) rfl ?_
   exact dP.bad HC.out HF.out.symm ((((Grows.trans _ _ _ HGA.out ag).set (Ae _) _).set (Ae _) _).set (Ae _) _)
  | some m =>
   obtain⟨rb,rfl,hra⟩:=HM.out;have hrc:=hra.c0;have HF:=Ah (pB1 (m:=m) (l:=l) hv);clear HM hra hv;by_cases h1:(m.n:Int)=p.length
   ·have HF1:Hid (mL p (some m) l=if 20000<l.length then 2 else fP p.length l):=by show _=_;rw[HF.out];simp[h1]
    clear HF;by_cases h2:20000<l.length
    ·have h2i:(20000:Int)<l.length:=by omega
     have HF2:Hid (mL p (some m) l=2):=by show _=_;rw[HF1.out,if_pos h2]
     go_enter Tryz.func78,Tryz.ntmps78
     go_wp2_with fail
     rw[<-bi];clear bi;refine CP.out.mono ?_;rintro e w1 ⟨rfl,ag⟩;have zz:=ag.cell hrc;obtain⟨bc,bf⟩:=HBX.out _ ag;have b0:=bc 0 _ rfl;have b1:=bc 1 _ rfl;have b2:=bc 2 _ rfl;have f0:=bf 0;have f1:=bf 1;have f2:=bf 2;clear bc bf;go_wp2
     refine bodyPost_ret (v:=.tuple #[.agg #[.slice none 0 0,.pointer none,.slice none 0 0],.int .i64 _]) (by simp[results,Tryz.results78,go_sem,b0,b1,b2];rfl) rfl ?_
     exact dP.bad HC.out HF2.out.symm ((((Grows.trans _ _ _ HGA.out ag).set (Ae _) _).set (Ae _) _).set (Ae _) _)
    ·have h2i:¬(20000:Int)<l.length:=by omega
     have HF2:Hid (mL p (some m) l=fP p.length l):=by show _=_;rw[HF1.out,if_neg h2]
     clear HF1;go_enter Tryz.func78,Tryz.ntmps78
     go_wp2_with fail
     rw[<-bi];clear bi;refine CP.out.mono ?_;rintro e w1 ⟨rfl,ag⟩;have zz:=ag.cell hrc;clear h2;go_wp2_with fail
     clear h1 zz hrc;go_loopw [8] (λi wr=>∃(k:Nat),k<=l.length/\i=.int .i64 k/\Hid (fP p.length (l.drop k)=fP p.length l)/\Grows W1 wr) (λi _=>l.length-(intOf i).toNat)
     case atStart=>exact⟨0,At _,rfl,rfl,ag⟩
     case round =>
      obtain⟨k,hk,rfl,hF,hg⟩:=hrel;by_cases ae:k<l.length
      ·obtain⟨⟨xr,xs,xl,xt,xc⟩,hx⟩:∃x,l[k]?=some x:=⟨_,Aa ae⟩
       obtain⟨ba,oa,rfl,be⟩:=(HAT.out.grows hg).get (aH ae);have c0:wr.cell? ⟨ba,oa+k*5,none⟩=some (.string xr):=be k _ hx 0 _ rfl;have c1:wr.cell? ⟨ba,oa+k*5+1,none⟩=some (.string xs):=be k _ hx 1 _ rfl;have c2:wr.cell? ⟨ba,oa+k*5+2,none⟩=some (.int .i64 xl):=be k _ hx 2 _ rfl;have c3:wr.cell? ⟨ba,oa+k*5+3,none⟩=some (.int .i64 xt):=be k _ hx 3 _ rfl;have c4:wr.cell? ⟨ba,oa+k*5+4,none⟩=some (.int .i64 xc):=be k _ hx 4 _ rfl;have di:=HS.out _ (Ad hx);simp only at di;have CC:=λW=>Ah (eX0 xr xs xl xt xc p.length W (by omega) (by omega));have HD:=aQ0 (n:=p.length) hx;rw[hF.out]at HD;obtain⟨f,hf⟩:=exq (pA ⟨xr,xs,xl,xt,xc⟩ p.length);rw[<-hf]at HD;have vh:tJ xr xs xl xt xc p.length=f:=hf.symm;simp only[vh]at CC;have HD:=Ah HD;clear be hx di hf vh hF;go_wp2_with fail
       refine(CC _).out.mono ?_;rintro e w2 ⟨rfl,af⟩;have aw:=Grows.trans _ _ _ hg af;by_cases hf0:f=0
       ·subst hf0
        have HX:Hid (fP p.length (l.drop (k+1))=fP p.length l):=by show _=_;rw[HD.out,if_pos rfl]
        clear HD;go_wp2_with fail
        go_roundw
        case rel=>exact⟨k+1,by omega,by go_num,HX,aw⟩
        case measure=>simp[intOf];omega
       ·have hfb:(f != 0)=true:=by simpa using hf0
        obtain⟨bc,bf⟩:=HBX.out _ aw;have b0:=bc 0 _ rfl;have b1:=bc 1 _ rfl;have b2:=bc 2 _ rfl;have f0:=bf 0;have f1:=bf 1;have f2:=bf 2;clear bc bf;go_wp2_with fail
        refine bodyPost_ret (v:=.tuple #[.agg #[.slice none 0 0,.pointer none,.slice none 0 0],.int .i64 _]) (by simp[results,Tryz.results78,go_sem,b0,b1,b2];rfl) rfl ?_
        exact dP.bad HC.out (by rw[HF2.out,HD.out,if_neg hf0]) ((((Grows.trans _ _ _ HGA.out aw).set (Ae _) _).set (Ae _) _).set (Ae _) _)
      ·obtain rfl:k=l.length:=by omega
       have HX:fP p.length l=0:=by rw[<-hF.out,List.drop_length];rfl
       exact absurd (HF2.out.trans HX) HC.out
   ·have HF2:Hid (mL p (some m) l=5):=by show _=_;rw[HF.out];simp[h1]
    clear HF;go_enter Tryz.func78,Tryz.ntmps78
    go_wp2_with fail
    rw[<-bi];clear bi;refine CP.out.mono ?_;rintro e w1 ⟨rfl,ag⟩;have zz:=ag.cell hrc;obtain⟨bc,bf⟩:=HBX.out _ ag;have b0:=bc 0 _ rfl;have b1:=bc 1 _ rfl;have b2:=bc 2 _ rfl;have f0:=bf 0;have f1:=bf 1;have f2:=bf 2;clear bc bf;go_wp2
    refine bodyPost_ret (v:=.tuple #[.agg #[.slice none 0 0,.pointer none,.slice none 0 0],.int .i64 _]) (by simp[results,Tryz.results78,go_sem,b0,b1,b2];rfl) rfl ?_
    exact dP.bad HC.out HF2.out.symm ((((Grows.trans _ _ _ HGA.out ag).set (Ae _) _).set (Ae _) _).set (Ae _) _)
theorem gU1 (p:List cH) (rb:Nat) (m:Mx) (l:List En) (pa a:Option Addr) (pc c:Nat) (w:World) (hp:p.length<=4611686018427387904) (ft:∀x∈p,x.name.size<=9223372036854775807) (hs:∀x∈l,x.r.size<=1099511627776/\x.s.size<=1099511627776)
  (ms:aF w pa 2 (p.map bG)) (hr:jZ w rb m) (ac:aF w a 5 (l.map aQ)) (hc:mL p (some m) l=0) :
  Calls Tryz.prog 78 #[.slice pa p.length pc,.pointer (some ⟨rb,0,none⟩),.slice a l.length c] w (dP p (.pointer (some ⟨rb,0,none⟩)) (some m) l pa pc w):=by
 obtain⟨W1,bi⟩:=exq (w.alloc (.cells #[.slice none 0 0,.pointer none,.slice none 0 0] 32));have fp:Grows w W1:=by rw[bi];exact Grows.alloc _ _
 have HBL:Hid (w.heap.size<W1.heap.size):=by rw[bi];show _<_;simp
 have HBX:Hid (∀w',Grows W1 w'->(∀j v,(#[.slice none 0 0,.pointer none,.slice none 0 0]:Array Value)[j]?=some v->w'.cell? ⟨w.heap.size,j,none⟩=some v)/\(∀j,w'.frozen? ⟨w.heap.size,j,none⟩=false)):=λw' h=>bK (by rw[<-bi];exact h);have HGA:=Ah fp;have HAT:=Ah (ac.grows fp);have HS:=Ah hs;have HC:=Ah hc;obtain⟨h1,h2,h3,h4⟩:=eE hc;have CP:=Ah (eR0 p pa pc W1 (ms.grows fp) hp ft);rw[h3]at CP;have HK:=Ah h4;have hrc:=(hr.grows fp).c0;have h2i:¬(20000:Int)<l.length:=by omega
 obtain⟨es,na⟩:=exq (sortS l);have qo:es.length<=l.length:=by rw[na];exact iX0 l
 have HSZ:Hid (∀x∈es,x.r.size<=1099511627776/\x.s.size<=1099511627776):=λx hx=>hs x (kR (by rw[<-na];exact hx));have HES:=Ah na;clear ac hs ms hc h3 h4 na fp;go_enter Tryz.func78,Tryz.ntmps78
 go_wp2_with fail
 rw[<-bi];clear bi;refine CP.out.mono ?_;rintro e w1 ⟨rfl,ag⟩;have zz:=ag.cell hrc;go_wp2_with fail
 clear hrc zz h1;go_loopw [8] (λi wr=>∃(k:Nat),k<=l.length/\i=.int .i64 k/\Grows W1 wr) (λi _=>l.length-(intOf i).toNat)
 case atStart=>exact⟨0,At _,rfl,ag⟩
 case round =>
  obtain⟨k,hk,rfl,hg⟩:=hrel;by_cases ae:k<l.length
  ·obtain⟨⟨xr,xs,xl,xt,xc⟩,hx⟩:∃x,l[k]?=some x:=⟨_,Aa ae⟩
   obtain⟨ba,oa,rfl,be⟩:=(HAT.out.grows hg).get (aH ae);have c0:wr.cell? ⟨ba,oa+k*5,none⟩=some (.string xr):=be k _ hx 0 _ rfl;have c1:wr.cell? ⟨ba,oa+k*5+1,none⟩=some (.string xs):=be k _ hx 1 _ rfl;have c2:wr.cell? ⟨ba,oa+k*5+2,none⟩=some (.int .i64 xl):=be k _ hx 2 _ rfl;have c3:wr.cell? ⟨ba,oa+k*5+3,none⟩=some (.int .i64 xt):=be k _ hx 3 _ rfl;have c4:wr.cell? ⟨ba,oa+k*5+4,none⟩=some (.int .i64 xc):=be k _ hx 4 _ rfl;have di:=HS.out _ (Ad hx);simp only at di;have CC:=λW=>Ah (eX0 xr xs xl xt xc p.length W (by omega) (by omega));have vh:tJ xr xs xl xt xc p.length=0:=HK.out _ (Ad hx);simp only[vh]at CC;clear be hx di vh;go_wp2_with fail
   refine(CC _).out.mono ?_;rintro e w2 ⟨rfl,af⟩;have aw:=Grows.trans _ _ _ hg af;go_wp2_with fail
   go_roundw
   case rel=>exact⟨k+1,by omega,by go_num,aw⟩
   case measure=>simp[intOf];omega
  ·obtain rfl:k=l.length:=by omega
   go_wp2_with fail
   refine(dJ1 l a c wr (by omega) (HAT.out.grows hg)).mono ?_;rintro e w2 ⟨sv,rfl,aa,af⟩;rw[<-HES.out]at aa;obtain⟨sa,sc,rfl,_,_,z8⟩:=aa.at_ lW
   have xm:∀q:Addr,sa=some q->some q.block≠some w.heap.size:=λq hq=>by
    have h1:w.heap.size<W1.heap.size:=HBL.out;have h2:=hg.size;rcases aa.2 with ⟨e,_⟩|⟨g,cap,cm,e,hb,_⟩
    ·rw[hq]at e
     cases (Value.slice.inj e).1
    ·have e1:=(Value.slice.inj e).1
     rw[hq]at e1;cases e1
     intro h3
     have:=Option.some.inj h3
     simp only at this;omega
   have HGE:=Ah xm;obtain⟨WD,hWD⟩:=exq (w2.alloc (.cells #[.slice pa p.length pc,.pointer (some ⟨rb,0,none⟩),.slice sa es.length sc] 32));have hgD:Grows w2 WD:=by rw[hWD];exact Grows.alloc _ _
   have HD:Hid (∀w',Grows WD w'->(∀j v,(#[.slice pa p.length pc,.pointer (some ⟨rb,0,none⟩),.slice sa es.length sc]:Array Value)[j]?=some v->w'.cell? ⟨w2.heap.size,j,none⟩=some v)/\(∀j,w'.frozen? ⟨w2.heap.size,j,none⟩=false)):=λw' h=>bK (by rw[<-hWD];exact h);have qt:=Grows.trans _ _ _ hg (Grows.trans _ _ _ af hgD);have hsD:=z8.grows hgD;obtain⟨db,hdb⟩:=exq w2.heap.size;clear aa af hg z8 xm;go_wp2_with fail
   rw[<-hWD];clear hWD;rw[<-hdb]at HD ⊢;clear hdb;refine(jB0 es sa sc _ _ WD (by omega) hsD).mono ?_;rintro e w3 ⟨aw,rv,rfl,abd⟩;have z8:=hsD;have GD3:=Ah aw;obtain⟨ra,rc,rfl,_,_,vr⟩:=abd.at_ (k:=1) (λx=>(rfl:(stC x).length=1));have hs3:=z8.grows aw;have qu:=Grows.trans _ _ _ qt aw;have hRL:=oJ (es.map (·.r));rw[Af]at hRL
   have hRS:∀s∈readL es,s.size<=1099511627776:=λs h=>by
    obtain⟨x,hx,rfl⟩:=List.mem_map.1 (sP h);exact(HSZ.out x hx).1
   clear abd aw z8;go_wp2_with fail
   refine(eC0 (readL es) ra rc w3 (by unfold readL;omega) hRS vr).mono ?_;rintro e w4 ⟨rfl,bj⟩;have xw:=hs3.grows bj;have zh:=Grows.trans _ _ _ qu bj;have GD4:=Ah (Grows.trans _ _ _ GD3.out bj);obtain⟨dc,_⟩:=HD.out _ GD4.out;have d0:=dc 0 _ rfl;have d1:=dc 1 _ rfl;have d2:=dc 2 _ rfl;clear hs3 qu bj vr hRS dc;by_cases xx:dC (bls (readL es))=0
   ·rw[xx]
    go_wp2_with fail
    refine(iK0 es sa sc _ _ w4 (by omega) xw).mono ?_;rintro e w5 ⟨bg,uv,rfl,abe⟩;obtain⟨ua,uc,rfl,_,_,afy⟩:=abe.at_ (k:=1) (λx=>(rfl:(stC x).length=1));have hs5:=xw.grows bg;have GD5:=Ah bg;clear d0 d1 d2;have afz:=Grows.trans _ _ _ zh bg;have hUL:=oJ (es.map (·.s));rw[Af]at hUL
    have hUS:∀s∈surfL es,s.size<=1099511627776:=λs h=>by
     obtain⟨x,hx,rfl⟩:=List.mem_map.1 (sP h);exact(HSZ.out x hx).2
    clear abe bg xw;go_wp2_with fail
    refine(eC0 (surfL es) ua uc w5 (by unfold surfL;omega) hUS afy).mono ?_;rintro e w6 ⟨rfl,cg⟩;have hs6:=hs5.grows cg;have acf:=Grows.trans _ _ _ afz cg;have GD6:=Ah (Grows.trans _ _ _ GD4.out (Grows.trans _ _ _ GD5.out cg));obtain⟨dc,_⟩:=HD.out _ GD6.out;have d0:=dc 0 _ rfl;have d1:=dc 1 _ rfl;have d2:=dc 2 _ rfl;clear dc;clear hs5 afz cg afy hUS;by_cases z9:dC (bls (surfL es))=0
    ·have HR2:Hid (dC (bls (readL (sortS l)))=0/\dC (bls (surfL (sortS l)))=0):=by rw[<-HES.out];exact⟨xx,z9⟩
     rw[z9];obtain⟨bc,bf⟩:=HBX.out _ acf;have b0:=bc 0 _ rfl;have b1:=bc 1 _ rfl;have b2:=bc 2 _ rfl;have f0:=bf 0;have f1:=bf 1;have f2:=bf 2;clear bc bf;go_wp2
     refine bodyPost_ret (v:=.tuple #[.agg #[.slice pa p.length pc,.pointer (some ⟨rb,0,none⟩),.slice sa es.length sc],.int .i64 0]) (by simp[results,Tryz.results78,go_sem,b0,b1,b2]) rfl ?_
     exact dP.good2 HES.out HC.out HR2.out ((((Grows.trans _ _ _ HGA.out acf).set (Ae _) _).set (Ae _) _).set (Ae _) _) (pP (pP (pP hs6 ((Grows.refl _).grownBy_set _ _ _) HGE.out) ((Grows.refl _).grownBy_set _ _ _) HGE.out) ((Grows.refl _).grownBy_set _ _ _) HGE.out)
    ·have HNS:Hid (¬(dC (bls (readL (sortS l)))=0/\dC (bls (surfL (sortS l)))=0)):=by rw[<-HES.out];exact λh=>z9 h.2
     have tc:(dC (bls (surfL es)):Int)≠0:=by omega
     obtain⟨f,hf⟩:∃f:Int,f=dC (bls (surfL es)):=⟨_,rfl⟩;rw[<-hf]at tc ⊢;have hfb:(f != 0)=true:=by simpa using tc
     clear hf z9 tc;obtain⟨bc,bf⟩:=HBX.out _ acf;have b0:=bc 0 _ rfl;have b1:=bc 1 _ rfl;have b2:=bc 2 _ rfl;have f0:=bf 0;have f1:=bf 1;have f2:=bf 2;clear bc bf;go_wp2
     refine bodyPost_ret (v:=.tuple #[.agg #[.slice none 0 0,.pointer none,.slice none 0 0],.int .i64 _]) (by simp[results,Tryz.results78,go_sem,b0,b1,b2];rfl) rfl ?_
     exact dP.long HC.out HNS.out ((((Grows.trans _ _ _ HGA.out acf).set (Ae _) _).set (Ae _) _).set (Ae _) _)
   ·have HNS:Hid (¬(dC (bls (readL (sortS l)))=0/\dC (bls (surfL (sortS l)))=0)):=by rw[<-HES.out];exact λh=>xx h.1
    have tc:(dC (bls (readL es)):Int)≠0:=by omega
    obtain⟨f,hf⟩:∃f:Int,f=dC (bls (readL es)):=⟨_,rfl⟩;rw[<-hf]at tc ⊢;have hfb:(f != 0)=true:=by simpa using tc
    clear hf xx tc;obtain⟨bc,bf⟩:=HBX.out _ zh;have b0:=bc 0 _ rfl;have b1:=bc 1 _ rfl;have b2:=bc 2 _ rfl;have f0:=bf 0;have f1:=bf 1;have f2:=bf 2;clear bc bf;go_wp2
    refine bodyPost_ret (v:=.tuple #[.agg #[.slice none 0 0,.pointer none,.slice none 0 0],.int .i64 _]) (by simp[results,Tryz.results78,go_sem,b0,b1,b2];rfl) rfl ?_
    exact dP.long HC.out HNS.out ((((Grows.trans _ _ _ HGA.out zh).set (Ae _) _).set (Ae _) _).set (Ae _) _)
end
section
open Go Go.RowKit
theorem nU0 (P:List bF) (w:World) (T:TypeId) (hl:P.length<=1000000):aF (w.alloc (.cells (P.flatMap lZ).toArray T)) (some ⟨w.heap.size,0,none⟩) 2 (P.map lZ):=by
 have h:=jJ (enc:=lZ) (k:=2) (λ_=>rfl) (w:=w) (e:=T) (base:=w.heap.size) (n:=P.length) (Ae _) P (cs:=(P.flatMap lZ).toArray) (by simp) rfl (by unfold maxLen;omega);obtain⟨a,c,e,_,_,ac⟩:=h.at_ (k:=2) (λ_=>rfl);have e1:=(Value.slice.inj e).1;rw[e1];exact ac
def bare (p:bF):bF:=⟨p.name,p.data,none,0⟩
theorem uX0 (P:List bF):lU (P.map bare)=lU P:=by simp[lU,bare,Az,Function.comp_def]
theorem nS0 (P:List bF):cZ (P.map bare)=cZ P:=by
 simp[cZ,dQ,dX,bare,Bp]
theorem oO (P:List bF):file14 (P.map bare)=file14 P:=by unfold file14; rw[nS0]
theorem fW0:∀(P:List bF) (seen:List ByteArray),yW (P.map bare) seen=yW P seen
 | [],_=>rfl
 | p::P,seen=>by
  rw[Bg,yW,yW,fW0 P];rfl
theorem qX (P:List bF):fK (P.map bare)=fK P:=by
 unfold fK yE0;rw[uX0,Af,fW0,List.any_map];rfl
theorem eZ {W:World} {base:Nat} {v:Value} {data:List UInt8} (h:aV W base 5 1 aX v data):∃a c,v=.slice a data.length c/\aF W a 1 (data.map aX)/\(a=none->c=0):=by
 obtain⟨a,c,rfl,_,_,ac⟩:=h.at_ (k:=1) (λx=>(rfl:(aX x).length=1));refine⟨a,c,rfl,ac,λha=>?_⟩;rcases h.2 with ⟨e,_⟩|⟨g,cap,cm,hv,_⟩
 ·exact(Value.slice.inj e).2.2
 ·rw[ha]at hv
  cases (Value.slice.inj hv).1
end
section
open Go Go.RowKit Go.Shelf Go.Sort
theorem uR0 {w:World} {g n:Nat} {os:Array Obj} (d:Array Nat):w.grownBy (grow (putRow nv (Sort.ahead w n) g 0 d) os) (some g):=by
 refine⟨rfl,rfl,rfl,by simp,λk hk ai=>?_⟩;rw[heap_grow_old _ _ (by simpa using hk)]
 have:g≠k:=λe=>ai (by rw[e])
 simp[putRow,mapBlock,Sort.ahead,Array.getElem?_modify,this]
theorem tG0 {wB w0 W:World} {ob:Nat} {dk:Array Nat} (hB:Grows wB w0) (vg:wB.heap.size<=ob) (S:SWn w0 ob dk W):Grows wB W:=by
 obtain⟨m,os,rfl⟩:=S;exact hB.grown (uR0 dk) (λq hq=>by cases hq;exact vg)
theorem pO1 {es:List En} {BS:List ByteArray} {ib eb sc ob:Nat} {sa:Option Addr} {wB w0:World} (hn:es.length<=1048576) (hL:BS.length<=1048576) (hB:Grows wB w0) (vg:wB.heap.size<=ob) (hid:kZ1 wB ib BS) (bu:wB.cell? ⟨eb,0,none⟩=some (.slice sa es.length sc)) (ac:aF wB sa 5 (es.map aQ))
  (aa:aV w0 wB.heap.size 3 1 kG (.slice (some ⟨ob,0,none⟩) es.length es.length) (Ag es.length)) (ae:ob<w0.heap.size) (hm:∀x∈es,x.s∈BS) (hz:∀x∈es,x.s.size<=maxLen) :
  gH (jW BS es) es.length ob 45 #[.pointer (some ⟨ib,0,none⟩),.pointer (some ⟨eb,0,none⟩)] (Ag es.length).toArray w0/\SWn w0 ob (Ag es.length).toArray w0:=by
 have hH:Holds nv w0 ob 0 (Ag es.length).toArray:=λj hj=>by
  have m4:j<es.length:=by simpa using hj
  have h1:=cU (f:=λn:Nat=>Value.int .i64 n) aa (k:=j) (x:=j) (by rw[Au m4]);obtain⟨h2,_,_⟩:=eC (f:=λn:Nat=>Value.int .i64 n) aa (k:=j) (by simpa using m4) 0;refine⟨?_,by rw[Bb];exact h2⟩;rw[Bb,h1];simp[nv,m4]
 refine⟨⟨⟨λx=>rfl,hH,ae⟩,by simp,hn,nN1,?_⟩,⟨0,#[],(sortWorld_start nv w0 ob 0 _ hH).symm⟩⟩;intro m os dk hs x y hx hy;have hg:Grows wB (sortWorld nv w0 ob 0 m dk os):=tG0 hB vg ⟨m,os,rfl⟩;have hex:es[x]?=some (es.getD x enZero):=by rw[Ab,Aa hx];rfl
 have hey:es[y]?=some (es.getD y enZero):=by rw[Ab,Aa hy];rfl
 have hmx:=Ad hex;have hmy:=Ad hey;have h:=hJ1 BS ib eb (jW BS es x) (jW BS es y) x y es (es.getD x enZero) (es.getD y enZero) sa sc _ (hid.grows hg) (hg.cell bu) (ac.grows hg) hn hL hex hey (kN (hm _ hmx)) (kN (hm _ hmy)) ⟨hz _ hmx,hz _ hmy⟩;exact h.mono λe w' ⟨h1,h2⟩=>⟨h1,1,#[],by rw[h2,grow_empty];rfl⟩
theorem iS1 {es:List En} {BS:List ByteArray} {ob:Nat} {_wB w0 w':World} {dk:Array Nat} (hs:dk.size=es.length) (hw:Win (jW BS es) (Fd dk) 0 es.length) (hm:∀x∈es,x.s∈BS) (R:Row1 nv w0 ob 0 (Ag es.length).toArray) (S:SWn w0 ob dk w') :
  aF w' (some ⟨ob,0,none⟩) 1 ((grpsL (jW BS es) es.length BS.length).map kG)/\(grpsL (jW BS es) es.length BS.length).length=es.length/\∀i∈grpsL (jW BS es) es.length BS.length,i<es.length:=by
 have h1:(Ag es.length).map (Fd dk)=grpsL (jW BS es) es.length BS.length:=iD1 hw λi hi=>by
  have hex:es[i]?=some (es.getD i enZero):=by rw[Ab,Aa hi];rfl
  exact qO (hm _ (Ad hex))
 rw[<-h1];refine⟨λ_=>⟨ob,0,rfl,λi row hi j u hj=>?_⟩,by simp,λi hi=>?_⟩
 ·rw[Al,Al]at hi
  rcases Bj i es.length with ae|xm
  ·rw[Au ae]at hi
   simp only[Option.map_some,Option.some.injEq]at hi;subst hi
   match j,hj with
   | 0,hj =>
    have:=S.c1 R (by rw[hs];simp) i (by omega)
    simp only[kG,List.getElem?_cons_zero,Option.some.injEq]at hj;subst hj;simpa [Fd,nv] using this
  ·rw[List.getElem?_eq_none (by simpa using xm)]at hi
   cases hi
 ·obtain⟨j,hj,rfl⟩:=List.mem_map.1 hi
  rw[Ai]at hj;exact(hw.inn j (At _) hj).2
end
section
open Go Go.RowKit Go.Shelf
attribute [local go_sem] aM aK
theorem take_lt {α:Type} {l:List α} {m:Nat} {x:α} (h:(l.take m).length<m):(l++[x]).take m=l.take m++[x]:=by
 rw[Ao]at h;rw[Bc (by rw[Ac,Bd];omega),Bc (by omega)]
theorem take_ge {α:Type} {l:List α} {m:Nat} {x:α} (h:¬(l.take m).length<m):(l++[x]).take m=l.take m:=by
 rw[Ao]at h;rw[List.take_append_of_le_length (by omega)]
theorem uW (l:List En) (a b:Option Addr) (c d:Nat) (w:World) (hl:l.length<=140737488355328) (h1:aF w a 5 (l.map aQ)) (h2:aF w b 5 (l.map aQ)) :
  Calls Tryz.prog 17 #[.slice a l.length c,.slice b l.length d] w λe w'=>e=.returned (.bool true)/\Grows w w':=by
 have H1:=Ah h1;have H2:=Ah h2;clear h1 h2;go_enter Tryz.func17,Tryz.ntmps17
 go_wp2_with fail
 go_loopw [5] (λi wr=>∃j:Nat,j<=l.length/\i=.int .i64 j/\Grows w wr) (λi _=>l.length-(intOf i).toNat)
 case atStart=>exact⟨0,At _,rfl,Grows.refl _⟩
 case round =>
  obtain⟨j,hj,rfl,hg⟩:=hrel;by_cases ae:j<l.length
  ·obtain⟨⟨xr,xs,xl,xt,xc⟩,hx⟩:∃x,l[j]?=some x:=⟨_,Aa ae⟩
   obtain⟨ba,oa,rfl,be⟩:=(H1.out.grows hg).get (aH ae);obtain⟨bb,ob,rfl,uk⟩:=(H2.out.grows hg).get (aH ae);have iy:(j:Int)<l.length:=by omega
   have a0:∀x:Ext Grows wr.drew,x.u.cell? ⟨ba,oa+j*5,none⟩=some (.string xr):=aB ((Grows.drew wr).cell (be j _ hx 0 _ rfl));have a1:∀x:Ext Grows wr.drew,x.u.cell? ⟨ba,oa+j*5+1,none⟩=some (.string xs):=aB ((Grows.drew wr).cell (be j _ hx 1 _ rfl));have a2:∀x:Ext Grows wr.drew,x.u.cell? ⟨ba,oa+j*5+2,none⟩=some (.int .i64 xl):=aB ((Grows.drew wr).cell (be j _ hx 2 _ rfl));have a3:∀x:Ext Grows wr.drew,x.u.cell? ⟨ba,oa+j*5+3,none⟩=some (.int .i64 xt):=aB ((Grows.drew wr).cell (be j _ hx 3 _ rfl));have a4:∀x:Ext Grows wr.drew,x.u.cell? ⟨ba,oa+j*5+4,none⟩=some (.int .i64 xc):=aB ((Grows.drew wr).cell (be j _ hx 4 _ rfl));have b0:∀x:Ext Grows wr.drew,x.u.cell? ⟨bb,ob+j*5,none⟩=some (.string xr):=aB ((Grows.drew wr).cell (uk j _ hx 0 _ rfl));have b1:∀x:Ext Grows wr.drew,x.u.cell? ⟨bb,ob+j*5+1,none⟩=some (.string xs):=aB ((Grows.drew wr).cell (uk j _ hx 1 _ rfl));have b2:∀x:Ext Grows wr.drew,x.u.cell? ⟨bb,ob+j*5+2,none⟩=some (.int .i64 xl):=aB ((Grows.drew wr).cell (uk j _ hx 2 _ rfl));have b3:∀x:Ext Grows wr.drew,x.u.cell? ⟨bb,ob+j*5+3,none⟩=some (.int .i64 xt):=aB ((Grows.drew wr).cell (uk j _ hx 3 _ rfl));have b4:∀x:Ext Grows wr.drew,x.u.cell? ⟨bb,ob+j*5+4,none⟩=some (.int .i64 xc):=aB ((Grows.drew wr).cell (uk j _ hx 4 _ rfl));have e1:(xr.toList==xr.toList)=true:=by simp
   have e2:(xs.toList==xs.toList)=true:=by simp
   clear be uk hx;go_wp2_with fail
   refine bE (aU 9 []) (by kernel_rfl) (λd _ _ _ _ h=>by cases d<;>exact h) ?_
   iterate 9 (refine aG rfl (λK hK=>?_);go_simp;refine hK _ ?_;clear hK K)
   refine bH ?_;clear a0 a1 a2 a3 a4 b0 b1 b2 b3 b4;go_wp2_with fail
   go_roundw
   case rel=>exact⟨j+1,ae,by go_num,hg.dr⟩
   case measure=>simp[intOf];omega
  ·obtain rfl:j=l.length:=by omega
   go_wp2_with fail
   go_ret;exact⟨rfl,hg⟩
def kZ0 (p:List cH) (id:Int):Int:=if id<0\/(p.length:Int)<=id then 0 else (p.getD id.toNat ⟨⟨#[]⟩,0⟩).kind
end
end Go.Proofs.YtheiocndipepaaaGreatDoor
