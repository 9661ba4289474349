/- The texts Bimg Bsz R18P DicP DicQ DicR R18b R18c Bjn Bord, one behind the other. -/
import Derived.Test.YtcijgkfpobpdbaaGreatDoorBq28
import Derived.Test.YtcijgkfpobpdbaaGreatDoorBq33
import Derived.Test.YtcijgkfpobpdbaaGreatDoorBq16
import Derived.Test.YtcijgkfpobpdbaaGreatDoorBq4
import Derived.Test.YtcijgkfpobpdbaaGreatDoorBq36
import Derived.Test.YtcijgkfpobpdbaaGreatDoorBq3
import Derived.Test.YtcijgkfpobpdbaaGreatDoorBq24
import Derived.Test.YtcijgkfpobpdbaaGreatDoorBq29
import Derived.Test.YtcijgkfpobpdbaaGreatDoorBq37
import Derived.Test.YtcijgkfpobpdbaaGreatDoorBq1
import Derived.Test.YtcijgkfpobpdbaaGreatDoorBq26
import Derived.Test.YtcijgkfpobpdbaaGreatDoorBq23
import Derived.Test.YtcijgkfpobpdbaaGreatDoorBq12
import Derived.Test.YtcijgkfpobpdbaaGreatDoorBq14
import Derived.Test.YtcijgkfpobpdbaaGreatDoorBq22
import Derived.Test.YtcijgkfpobpdbaaGreatDoorBq21
import Derived.Test.YtcijgkfpobpdbaaGreatDoorBq6
import Derived.Shelf.GgSortFunc.Compose
open List renaming getElem?_eq_getElem → Aa,getD_eq_getElem?_getD → Ab,mem_of_getElem? → Ac,length_append → Ad,length_map → Af,range → Ag,getElem?_map → Ai,mem_range → Aj,getElem?_range → Ak,filter_congr → Al,range' → Am,getElem?_eq_none → An,length_range → Ao,range_eq_range' → Ap,findIdx_lt_length_of_exists → Ar,mem_range'_1 → As,getElem_mem → At,length_take → Au,range'_append_1 → Av,isPrefixOf_iff_prefix → Aw,getElem?_append_left → Ay,take_length → Ba,map_map → Bb,filter_eq_nil_iff → Bd,append_nil → Bf,findIdx_getElem → Bg,map_congr_left → Bh,map_cons → Bi,getElem_range → Bj,filter_append → Bk,ext_getElem? → Bo,flatMap_cons → Bp,length_cons → Bq,flatMap_map → Bt,nil_append → Bv,mem_filter → By,map_append → Bz,map_id → Cb
open Nat renaming le_refl → Ae,zero_le → Az,le_of_lt → Bc,zero_add → Be,lt_trichotomy → Bl,lt_or_ge → Bn,min_eq_right → Bs,min_eq_left → Bw,le_trans → Ca
open Go.Lib renaming hid → Ah,toList_data → Bu
open Bool renaming eq_iff_iff → Aq
open Classical renaming byContradiction → Ax
open Option renaming getD_some → Br
set_option maxHeartbeats 4000000
namespace Go.Proofs.YtcijgkfpobpdbaaGreatDoor
set_option maxRecDepth 100000
section
open Go Go.RowKit
def readL (es:List En):List ByteArray:=mF (es.map (·.r))
def surfL (es:List En):List ByteArray:=mF (es.map (·.s))
theorem kS1 (l:List (List UInt8)):bls (l.map mkB)=l:=by
 unfold bls;rw[Bb];exact(Bh λx _=>fA x).trans (Cb _)
theorem hV0 {ks:List ByteArray} {s:ByteArray} (h:s∈ks):s∈mF ks:=by
 unfold mF;refine List.mem_map.2 ⟨bl s,(yK _ _).2 (List.mem_map.2 ⟨s,h,rfl⟩),kD s⟩
theorem rQ {ks:List ByteArray} {s:ByteArray} (h:s∈mF ks):s∈ks:=by
 unfold mF at h;obtain⟨x,hx,rfl⟩:=List.mem_map.1 h;obtain⟨t,ht,rfl⟩:=List.mem_map.1 ((yK _ _).1 hx);rw[show mkB (bl t)=t from kD t];exact ht
theorem kV (ks:List ByteArray):(mF ks).Nodup:=by
 unfold mF;have h:=yN (bls ks);refine List.Pairwise.map mkB (λa b (ev:gO0 a b) e=>?_) h;rw[kL1 e]at ev;exact nX _ ev
theorem eZ1 {ks:List ByteArray} {i:Nat} (h:i<(mF ks).length):(mF ks)[i]?=some (mkB (nth (bls (mF ks)) i)):=by
 rw[yY];unfold mF nth;unfold mF at h;rw[Af]at h;rw[Ai,Ab,Aa h];rfl
theorem oH (ks:List ByteArray):(mF ks).length<=ks.length:=dG (kV ks) λ_ h=>rQ h
def yE (S:List ByteArray) (x:En):Nat:=S.findIdx λs=>decide (s=x.s)
theorem kP {S:List ByteArray} {x:En} (h:x.s∈S):S[yE S x]?=some x.s:=by
 have h1:yE S x<S.length:=Ar ⟨x.s,h,by simp⟩;rw[Aa h1];have h2:=Bg (w:=h1);exact congrArg some (of_decide_eq_true h2)
theorem pG {S:List ByteArray} {x:En} (h:x.s∈S):yE S x<S.length:=(List.getElem?_eq_some_iff.1 (kP h)).1
def jX (S:List ByteArray) (es:List En) (i:Nat):Nat:=yE S (es.getD i enZero)
def zW (es:List En):List Nat:=grpsL (jX (surfL es) es) es.length (surfL es).length
def gI (es:List En):List En:=(zW es).map λi=>es.getD i enZero
def rG (x y:En):Bool := !decide (x.r=y.r)
def hU0 (x y:En):Bool := !decide (x.s=y.s)
def tO (name:Array UInt8) (data:List UInt8):bD:=⟨⟨name⟩,data,none,0⟩
def imgP (p:List cJ) (m:Mx) (es:List En):List bD :=
 [tO #[112,111,115] (posE p),tO #[109,97,116,114,105,120] m.enc,tO #[114,101,97,100,105,110,103,115] (loudE (bls (readL es))),tO #[102,105,114,115,116] (packE (gM rG es es.length)),
  tO #[115,117,114,102,97,99,101,115] (loudE (bls (surfL es))),tO #[115,117,114,102,97,99,101] (packE (es.map (yE (surfL es)))),tO #[108,101,102,116] (packE (es.map λx=>x.l.toNat)),tO #[114,105,103,104,116] (packE (es.map λx=>x.t.toNat)),
  tO #[99,111,115,116] (packE (es.map λx=>x.c.toNat)),tO #[111,114,100,101,114] (packE (zW es)),tO #[97,116] (packE (gM hU0 (gI es) es.length))]
theorem iQ {nw:En->En->Bool} {l:List En} {k i:Nat} (h:i∈gM nw l k):i<k:=List.mem_range.1 (List.mem_filter.1 h).1
theorem bY0 {n:Int}:∀ {l:List En},fF n l=0->∀x∈l,oP x n=0
 | [],_,x,hx=>by cases hx
 | y::l,h,x,hx=>by
  unfold fF at h;by_cases hy:oP y n=0
  ·rw[if_pos hy]at h
   rcases List.mem_cons.1 hx with rfl|hx
   ·exact hy
   ·exact bY0 h x hx
  ·rw[if_neg hy]at h;exact absurd h hy
theorem rM {x:En} {n:Int} (h:oP x n=0):0<=x.l/\x.l<n/\0<=x.t/\x.t<n/\0<=x.c/\x.c<=30000:=by
 unfold oP sW at h;split at h
 ·split at h
  ·cases h
  ·split at h
   ·cases h
   ·omega
 ·cases h
theorem dY {p:List cJ} {m:Mx} {l:List En} (h:mC p (some m) l=0):(m.n:Int)=p.length/\l.length<=20000/\dC p=true/\∀x∈l,oP x p.length=0:=by
 unfold mC at h;split at h
 ·cases h
 ·rename_i hv
  simp only at h;split at h
  ·rename_i h1
   split at h
   ·cases h
   ·rename_i h2
    exact⟨h1,by omega,by simpa using hv,bY0 h⟩
  ·cases h
def pQ (p:List cJ) (m:Option Mx) (l:List En):Int×List UInt8 :=
 if mC p m l=0 then match m with
  | none=>(0,[])
  | some m=>if cY (bls (readL (sortS l)))=0/\cY (bls (surfL (sortS l)))=0 then (if fO (imgP p m (sortS l))=0 then (0,file14 (imgP p m (sortS l))) else (fO (imgP p m (sortS l)),[])) else (2,[])
 else (mC p m l,[])
theorem iK0 (m:Mx):∀(l:List Nat) (last:Int),(qC m last l).length<=l.length*20
 | [],_=>by simp[qC]
 | i::r,last=>by
  have h1:=iK0 m r i;have h2:=cT ((i:Int)-last).toNat;have h3:=cT (m.cs.getD i 0).toNat;rw[qC,Ad,Ad,Bq];omega
theorem bP1 {m:Mx} (h:m.OK):m.enc.length<=82000:=by
 have h1:=Mx.idx_len h;have h2:=iK0 m m.idx (-1);have h3:=cT m.n;have h4:=cT m.d.toNat;have h5:=cT m.idx.length;unfold Mx.enc;rw[Ad,Ad,Ad];omega
theorem pM0 {p:List cJ} (h:dC p=true):(posE p).length<=2600:=by
 obtain⟨h1,h2⟩:=dJ h;have h3:=aJ0 (l:=p) (λx hx=>(h2 x hx).1);have h4:=cT p.length;unfold posE;rw[Ad];omega
theorem eN {l:List Nat} (h:∀n∈l,n<18446744073709551616):(packE l).length<=5+l.length*64:=by
 have hw:oX l<=64:=oK.2 h;have h1:l.length*oX l<=l.length*64:=Nat.mul_le_mul_left _ hw;unfold packE cT0;rw[Ad,Ad,bM,Af,Ao];simp only[List.length_singleton];omega
theorem gG0 (k:Nat):∀l:List Nat,((l.map (leB k)).flatten).length=l.length*k
 | []=>by simp
 | x::l=>by
  rw[Bi,List.flatten_cons,Ad,bM,gG0 k l,Bq,Nat.succ_mul];omega
theorem eY0 (l:List Bool):(oY l).length<=20+l.length:=by
 unfold oY nK uZ;rw[Ad,Ad,bM,gG0,gG0,Af,Af,Ao,Ao];omega
theorem kY0 {L:List (List UInt8)} (ag:OkL L) (hl:L.length<=20000) (hc:dZ L<=524287):(loudE L).length<=40000000:=by
 obtain⟨z1,z2,z3,z4,z5⟩:=ag.sizes hl hc;have h1:=eY0 (shapeL L (nodesA L));have h2:=eY0 (isL L (nodesA L));have h3:=eN (l:=idsL L (nodesA L)) (λn hn=>by have:=z5 n hn;omega);unfold loudE eI;simp only[Ad,bM];omega
theorem aL1 (k:Nat->Nat) (n S:Nat):(grpsL k n S).Nodup:=(gN k n S).imp λ{a b} h e=>by rw[e]at h; exact qQ h
theorem jJ {k:Nat->Nat} {n S:Nat} (h:∀i,i<n->k i<S):(grpsL k n S).length=n:=by
 have h1:=dG (aL1 k n S) (l':=Ag n) λx hx=>List.mem_range.2 (fX.1 hx).1;have h2:=dG (List.nodup_range (n:=n)) (l':=grpsL k n S) λx hx=>fX.2 ⟨List.mem_range.1 hx,h x (List.mem_range.1 hx)⟩;rw[Ao]at h1 h2;omega
theorem pE {es:List En} {i:Nat} (h:i<es.length):es[i]?=some (es.getD i enZero):=by rw[Ab,Aa h]; rfl
theorem jV {es:List En} {x:En} (h:x∈es):x.s∈surfL es:=hV0 (List.mem_map.2 ⟨x,h,rfl⟩)
theorem dZ1 {es:List En} {i:Nat} (h:i<es.length):jX (surfL es) es i<(surfL es).length:=pG (jV (Ac (pE h)))
theorem qN (es:List En):(zW es).length=es.length:=jJ λ_ hi=>dZ1 hi
theorem gW0 {es:List En} {i:Nat} (h:i∈zW es):i<es.length:=(fX.1 h).1
theorem bT1 {S:List ByteArray} {x y:En} (hx:x.s∈S) (hy:y.s∈S):yE S x=yE S y↔x.s=y.s:=by
 constructor
 ·intro h
  have a:=kP hx;rw[h,kP hy]at a;exact(Option.some.inj a).symm
 ·intro h
  unfold yE;rw[h]
theorem sG {l:List ByteArray} (hn:l.Nodup) {i j:Nat} {s:ByteArray} (hi:l[i]?=some s) (hj:l[j]?=some s):i=j:=by
 obtain⟨h1,e1⟩:=List.getElem?_eq_some_iff.1 hi;obtain⟨h2,e2⟩:=List.getElem?_eq_some_iff.1 hj;rcases Bl i j with h|h|h
 ·exact absurd (e1.trans e2.symm) (List.pairwise_iff_getElem.1 hn i j h1 h2 h)
 ·exact h
 ·exact absurd (e2.trans e1.symm) (List.pairwise_iff_getElem.1 hn j i h2 h1 h)
theorem zG0 (es:List En):∀s,s<(surfL es).length->∃i,i<es.length/\jX (surfL es) es i=s:=by
 intro s hs;have h1:(surfL es)[s]?=some (surfL es)[s]:=Aa hs;have h2:(surfL es)[s]∈es.map (·.s):=rQ (At hs);obtain⟨x,hx,hxs⟩:=List.mem_map.1 h2;obtain⟨i,hi,he⟩:=List.mem_iff_getElem.1 hx;refine⟨i,hi,?_⟩;have h3:es.getD i enZero=x:=by rw[Ab,Aa hi];exact he
 unfold jX;rw[h3];exact sG (kV _) (kP (jV hx)) (by rw[hxs];exact h1)
theorem qL0 (es:List En):gM hU0 (gI es) es.length=pQ0 (jX (surfL es) es) es.length (surfL es).length:=by
 rw[<-rP _ _ _ (zG0 es)];have hl:(grpsL (jX (surfL es) es) es.length (surfL es).length).length=es.length:=qN es;unfold gM dV0;rw[hl];apply Al
 intro i hi;rw[Aj]at hi
 have hg:∀j,j<es.length->∃m,m<es.length/\(grpsL (jX (surfL es) es) es.length (surfL es).length).getD j 0=m/\(gI es).getD j enZero=es.getD m enZero:=by
  intro j hj;have h1:(zW es)[j]?=some ((zW es).getD j 0):=by rw[Ab,Aa (by rw[qN];exact hj)];rfl
  refine⟨(zW es).getD j 0,gW0 (Ac h1),rfl,?_⟩;unfold gI;rw[Ab,Ai,h1];rfl
 obtain⟨a,ha,ea,ka⟩:=hg i hi;obtain⟨b,hb,eb,kb⟩:=hg (i-1) (by omega);unfold dA0 zF;rw[ka,kb,ea,eb];congr 1
 unfold hU0;have h:=bT1 (jV (Ac (pE ha))) (jV (Ac (pE hb)));show _=(jX (surfL es) es a != jX (surfL es) es b)
 unfold jX;generalize es.getD a enZero=x at h ⊢;generalize es.getD b enZero=y at h ⊢;by_cases he:x.s=y.s
 ·rw[h.2 he];simp[he]
 ·have:yE (surfL es) x≠yE (surfL es) y:=λe=>he (h.1 e)
  simp[he,this]
theorem gZ0 (l:List En):(sortS l).length<=l.length :=
 dG ((dX l).1.imp λ{a b} ev e=>by rw[e,fU]at ev;cases ev) λy hy=>(((dX l).2 y).1 hy).1
theorem uE {l:List En} {x:En} (h:x∈sortS l):x∈l:=(((dX l).2 x).1 h).1
theorem eJ0 {L:List (List UInt8)} (h:∀s∈L,s.length<=256):∀m,m<=L.length->lM L m<=1+m*256
 | 0,_=>Ae _
 | m+1,hm=>by
  have h1:=eJ0 h m (by omega);have h2:=h _ (Ac (gT (L:=L) (j:=m) (by omega)));unfold lM xS0;omega
theorem zR {L:List (List UInt8)} (ag:OkL L) (hl:L.length<=300):(loudE L).length<=5300000:=by
 have hc:dZ L<=76801:=by have:=eJ0 ag.len L.length (Ae _);unfold dZ;omega
 have hN:=eH ag.asc ag.len;obtain⟨z1,z2,z3,z4,z5⟩:=ag.sizes (by omega) (by omega:dZ L<=524287);have h0:=eW L (nodesA L).length (Ae _);rw[Ba,ag.off_all]at h0;have h1:=eY0 (shapeL L (nodesA L));have h2:=eY0 (isL L (nodesA L));have h3:=eN (l:=idsL L (nodesA L)) (λn hn=>by have:=z5 n hn;omega);have h4:(isL L (nodesA L)).length=(nodesA L).length:=by unfold isL;rw[Af]
 have h5:(labelsL L (nodesA L)).length<=(nodesA L).length:=by rw[ag.labels,Af,List.length_drop];omega
 have h6:(idsL L (nodesA L)).length<=(nodesA L).length:=by
  unfold idsL;rw[Af];exact List.length_filter_le (iI L) (nodesA L)
 unfold loudE eI;simp only[Ad,bM];omega
theorem wM0 (p:List cJ) (m:Mx) (es:List En):(imgP p m es).any (λq => !azS q.name)=false/\wH0 (imgP p m es)=false:=by
 constructor
 ·simp only[imgP,List.any_cons,List.any_nil,tO]
  decide +kernel
 ·simp only[imgP,wH0,yD,tO]
  decide +kernel
theorem yM0 {p:List cJ} {m:Mx} {es:List En} (hm:m.OK) (hp:dC p=true) (hl:es.length<=300) (hr:cY (bls (readL es))=0) (hs:cY (bls (surfL es))=0)
  (hn:∀x∈es,0<=x.l/\x.l<18446744073709551616/\0<=x.t/\x.t<18446744073709551616/\0<=x.c/\x.c<18446744073709551616):fO (imgP p m es)=0:=by
 have hR:(bls (readL es)).length<=300:=by
  have:=oH (es.map (·.r));unfold bls readL;rw[Af];rw[Af]at this;omega
 have hS:(bls (surfL es)).length<=300:=by
  have:=oH (es.map (·.s));unfold bls surfL;rw[Af];rw[Af]at this;omega
 have hS2:(surfL es).length<=300:=by unfold bls at hS;rw[Af]at hS;exact hS
 have a1:=pM0 hp;have a2:=bP1 hm;have a3:=zR (dP hr).1 hR;have a4:=zR (dP hs).1 hS;have b1:=eN (l:=gM rG es es.length) (λn hn=>by have:=iQ hn;omega)
 have b2:=eN (l:=es.map (yE (surfL es))) (λn hn=>by
  obtain⟨x,hx,rfl⟩:=List.mem_map.1 hn
  have:=pG (jV hx);omega)
 have b3:=eN (l:=es.map λx=>x.l.toNat) (λn h=>by
  obtain⟨x,hx,rfl⟩:=List.mem_map.1 h
  have:=hn x hx;omega)
 have b4:=eN (l:=es.map λx=>x.t.toNat) (λn h=>by
  obtain⟨x,hx,rfl⟩:=List.mem_map.1 h
  have:=hn x hx;omega)
 have b5:=eN (l:=es.map λx=>x.c.toNat) (λn h=>by
  obtain⟨x,hx,rfl⟩:=List.mem_map.1 h
  have:=hn x hx;omega)
 have b6:=eN (l:=zW es) (λn hn=>by have:=gW0 hn;omega);have b7:=eN (l:=gM hU0 (gI es) es.length) (λn hn=>by have:=iQ hn;omega);have c1:=bL0 rG es es.length;have c2:=bL0 hU0 (gI es) es.length;have c3:=qN es;rw[Af]at b2 b3 b4 b5
 have nu:lI (imgP p m es)<=16777216:=by
  simp only[lI,imgP,tO,Bi,List.map_nil,List.sum_cons,List.sum_nil];omega
 have ak:(imgP p m es).length=11:=rfl;obtain⟨n1,n2⟩:=wM0 p m es;unfold fO;rw[if_neg (by omega),if_neg (by rw[n1];decide),if_neg (by rw[n2];decide)]
theorem jN {k:Nat->Nat} {n:Nat}:∀ {s t:Nat},s<=t->∃r,grpsL k n t=grpsL k n s++r
 | s,0,h=>by
  obtain rfl:s=0:=by omega
  exact⟨[],by simp⟩
 | s,t+1,h=>by
  rcases Bn t s with h1|h1
  ·obtain rfl:s=t+1:=by omega
   exact⟨[],by simp⟩
  ·obtain⟨r,hr⟩:=jN (k:=k) (n:=n) h1
   exact⟨r++grp k n t,by rw[kW,hr,List.append_assoc]⟩
def mW1 (k:Nat->Nat) (n _S id:Nat):Nat:=(grpsL k n id).length
def mR1 (k:Nat->Nat) (n S id:Nat):Nat:=if id+1<S then (grpsL k n (id+1)).length else n
theorem gI0 {k:Nat->Nat} {n S id:Nat} (h:id<S):(pQ0 k n S)[id]?=some (grpsL k n id).length:=by
 unfold pQ0;rw[Ai,Ak h];rfl
theorem iJ (k:Nat->Nat) (n S:Nat):(pQ0 k n S).length=S:=by simp[pQ0]
theorem oL0 {k:Nat->Nat} {n S id:Nat} (hk:∀i,i<n->k i<S) (h:id<S):mR1 k n S id=(grpsL k n (id+1)).length:=by
 unfold mR1;split
 ·rfl
 ·rw[show id+1=S by omega,jJ hk]
theorem lP1 {k:Nat->Nat} {n S id:Nat} (hk:∀i,i<n->k i<S) (h:id<S):mW1 k n S id<=mR1 k n S id/\mR1 k n S id<=n:=by
 rw[oL0 hk h];unfold mW1;refine⟨?_,?_⟩
 ·rw[kW,Ad];omega
 ·obtain⟨r,hr⟩:=jN (k:=k) (n:=n) (show id+1<=S by omega)
  have:=jJ hk
  rw[hr,Ad]at this;omega
theorem iX1 {k:Nat->Nat} {n S id:Nat} (hk:∀i,i<n->k i<S) (h:id<S):((grpsL k n S).take (mR1 k n S id)).drop (mW1 k n S id)=grp k n id:=by
 rw[oL0 hk h];obtain⟨r,hr⟩:=jN (k:=k) (n:=n) (show id+1<=S by omega)
 rw[hr,List.take_left',kW]
 ·unfold mW1
  rw[List.drop_left]
 ·rfl
theorem yY0 {k:Nat->Nat} {n S i s:Nat} (hk:∀i,i<n->k i<S) (hi:i<n) (hs:s<=S):(grpsL k n s).length<=i↔s<=k ((grpsL k n S).getD i 0):=by
 obtain⟨r,hr⟩:=jN (k:=k) (n:=n) hs;have hl:=jJ hk;have hg:(grpsL k n S)[i]?=some ((grpsL k n S).getD i 0):=by rw[Ab,Aa (by omega)];rfl
 obtain⟨x,hx⟩:=exq ((grpsL k n S).getD i 0);rw[<-hx]at hg ⊢;have hp:=gN k n S;constructor
 ·intro h
  apply Ax
  intro hc;have hm:x∈grpsL k n s:=fX.2 ⟨(fX.1 (Ac hg)).1,by omega⟩;obtain⟨j,hj,ej⟩:=List.mem_iff_getElem.1 hm;have km:(grpsL k n S)[j]?=some x:=by rw[hr,Ay hj,Aa hj,ej]
  obtain⟨a1,a2⟩:=List.getElem?_eq_some_iff.1 hg;obtain⟨b1,b2⟩:=List.getElem?_eq_some_iff.1 km
  have:=List.pairwise_iff_getElem.1 hp j i b1 a1 (by omega)
  rw[a2,b2]at this;exact qQ this
 ·intro h
  apply Ax
  intro hc;rw[hr,Ay (by omega)]at hg
  have:=(fX.1 (Ac hg)).2
  omega
theorem dG1 {k:Nat->Nat} {n S i:Nat} (hk:∀i,i<n->k i<S) (hi:i<n):(Ag S).countP (λs => !decide (i+1<=(pQ0 k n S).getD s 0))=k ((grpsL k n S).getD i 0)+1:=by
 have o8:k ((grpsL k n S).getD i 0)<S:=by
  have hl:=jJ hk;have hg:(grpsL k n S)[i]?=some ((grpsL k n S).getD i 0):=by rw[Ab,Aa (by omega)];rfl
  exact(fX.1 (Ac hg)).2
 have h:=qV (λs => !decide (i+1<=(pQ0 k n S).getD s 0)) (k ((grpsL k n S).getD i 0)+1) S (λs hs=>by
  rw[Ab,gI0 hs,Br]
  have:=yY0 (s:=s) hk hi (by omega)
  rw[Aq];simp only[Bool.not_eq_true',decide_eq_false_iff_not,decide_eq_true_eq];omega)
 rw[h];omega
def iI0 (R:List ByteArray) (x:En):Nat:=R.findIdx λs=>decide (s=x.r)
theorem jC {R:List ByteArray} {x:En} (h:x.r∈R):R[iI0 R x]?=some x.r:=by
 have h1:iI0 R x<R.length:=Ar ⟨x.r,h,by simp⟩;rw[Aa h1];have h2:=Bg (w:=h1);exact congrArg some (of_decide_eq_true h2)
theorem iN1 {R:List ByteArray} {x:En} (h:x.r∈R):iI0 R x<R.length:=(List.getElem?_eq_some_iff.1 (jC h)).1
theorem jS {es:List En} {x:En} (h:x∈es):x.r∈readL es:=hV0 (List.mem_map.2 ⟨x,h,rfl⟩)
def keyRE (R:List ByteArray) (es:List En) (i:Nat):Nat:=iI0 R (es.getD i enZero)
theorem uL {es:List En} {i:Nat} (h:i<es.length):keyRE (readL es) es i<(readL es).length:=iN1 (jS (Ac (pE h)))
theorem lT0 {R:List ByteArray} {x y:En} (hx:x.r∈R) (hy:y.r∈R):iI0 R x=iI0 R y↔x.r=y.r:=by
 constructor
 ·intro h
  have a:=jC hx;rw[h,jC hy]at a;exact(Option.some.inj a).symm
 ·intro h
  unfold iI0;rw[h]
theorem jW0 (es:List En):∀s,s<(readL es).length->∃i,i<es.length/\keyRE (readL es) es i=s:=by
 intro s hs;have h1:(readL es)[s]?=some (readL es)[s]:=Aa hs;have h2:(readL es)[s]∈es.map (·.r):=rQ (At hs);obtain⟨x,hx,hxs⟩:=List.mem_map.1 h2;obtain⟨i,hi,he⟩:=List.mem_iff_getElem.1 hx;refine⟨i,hi,?_⟩;have h3:es.getD i enZero=x:=by rw[Ab,Aa hi];exact he
 unfold keyRE;rw[h3];exact sG (kV _) (jC (jS hx)) (by rw[hxs];exact h1)
theorem yJ0 {ks:List ByteArray} {i j:Nat} {a b:ByteArray} (hi:(mF ks)[i]?=some a) (hj:(mF ks)[j]?=some b) (h:Op.bytesLess (bl a) (bl b)=true):i<j:=by
 have hp:=yN (bls ks)
 have key:∀ {i:Nat} {a:ByteArray},(mF ks)[i]?=some a->(oS0 (bls ks))[i]?=some (bl a):=λ{i a} h=>by
  unfold mF at h;rw[Ai]at h
  cases hx:(oS0 (bls ks))[i]? with
  | none=>rw[hx]at h;cases h
  | some x =>
   rw[hx]at h;rw[<-Option.some.inj h];exact congrArg some (fA x).symm
 obtain⟨a1,a2⟩:=List.getElem?_eq_some_iff.1 (key hi);obtain⟨b1,b2⟩:=List.getElem?_eq_some_iff.1 (key hj);rcases Bl i j with c|c|c
 ·exact c
 ·subst c
  rw[a2]at b2;rw[b2]at h;exact absurd h (nX _)
 ·have:=List.pairwise_iff_getElem.1 hp j i b1 a1 c
  rw[a2,b2]at this;exact absurd (fN0 _ _ _ h this) (nX _)
theorem vA0 {es:List En} (hs:fE es) {i j:Nat} (h1:i<j) (h2:j<es.length):keyRE (readL es) es i<=keyRE (readL es) es j:=by
 have hl:=List.pairwise_iff_getElem.1 hs i j (by omega) h2 h1;have e1:es.getD i enZero=es[i]:=by rw[Ab,Aa (by omega)];rfl
 have e2:es.getD j enZero=es[j]:=by rw[Ab,Aa h2];rfl
 have m1:=jS (At (show i<es.length by omega))
 have m2:=jS (At h2);unfold keyRE;rw[e1,e2];by_cases he:es[i].r=es[j].r
 ·rw[(lT0 m1 m2).2 he];exact Ae _
 ·rw[bW1 he,Bu,Bu]at hl
  exact Bc (yJ0 (jC m1) (jC m2) hl)
theorem uK {es:List En} (hs:fE es):grpsL (keyRE (readL es) es) es.length (readL es).length=Ag es.length:=by
 refine(iL (λ_=>qQ) (λ_ _ _=>uA) ?_ (gN (keyRE (readL es) es) es.length (readL es).length) λx=>?_).symm
 ·refine List.pairwise_iff_getElem.2 λi j hi hj oe=>?_
  rw[Bj,Bj]
  have:=vA0 hs oe (by simpa using hj)
  unfold ltK;omega
 ·rw[fX,Aj]
  exact⟨λh=>⟨h,uL h⟩,λh=>h.1⟩
theorem sY {es:List En} (hs:fE es):gM rG es es.length=pQ0 (keyRE (readL es) es) es.length (readL es).length:=by
 rw[<-rP _ _ _ (jW0 es),uK hs];unfold gM dV0;rw[Ao];apply Al
 intro i hi;rw[Aj]at hi;have g:∀j,j<es.length->(Ag es.length).getD j 0=j:=λj hj=>by rw[Ab,Ak hj];rfl
 unfold dA0 zF;rw[g i hi,g (i-1) (by omega)];congr 1
 unfold rG;have h:=lT0 (jS (Ac (pE hi))) (jS (Ac (pE (show i-1<es.length by omega))))
 show _=(keyRE (readL es) es i != keyRE (readL es) es (i-1))
 unfold keyRE;generalize es.getD i enZero=x at h ⊢;generalize es.getD (i-1) enZero=y at h ⊢;by_cases he:x.r=y.r
 ·rw[h.2 he];simp[he]
 ·have:iI0 (readL es) x≠iI0 (readL es) y:=λe=>he (h.1 e)
  simp[he,this]
def exactL (es:List En) (s:ByteArray):List En:=es.filter λx=>decide (x.r=s)
def ofL (es:List En) (s:ByteArray):List En:=es.filter λx=>decide (x.s=s)
def cM0 (s p:ByteArray):Bool:=(bl p).isPrefixOf (bl s)
def cutB (s:ByteArray) (n:Nat):ByteArray:=mkB ((bl s).take n)
def prefL (es:List En) (s:ByteArray):List En:=(Ag (min s.size 256+1)).flatMap λn=>exactL es (cutB s n)
def writesL (es:List En) (s:ByteArray):List En:=(Ag (min s.size 256+1)).flatMap λn=>ofL es (cutB s n)
def underL (es:List En) (p:ByteArray) (ci:Int):List En:=(es.filter λx=>cM0 x.r p).take ci.toNat
theorem dP1 (es:List En):es=(Ag es.length).map λi=>es.getD i enZero:=by
 apply Bo
 intro i;rw[Ai];by_cases h:i<es.length
 ·rw[Ak h,pE h];rfl
 ·rw[An (by omega),An (by simp;omega)];rfl
theorem cC0 (es:List En) (p:En->Bool):es.filter p=((Ag es.length).filter λi=>p (es.getD i enZero)).map λi=>es.getD i enZero:=by
 conv=>lhs;rw[dP1 es]
 rw[List.filter_map];rfl
theorem fA1 {es:List En} {id:Nat} {s:ByteArray} (h:(readL es)[id]?=some s):(grp (keyRE (readL es) es) es.length id).map (λi=>es.getD i enZero)=exactL es s:=by
 unfold exactL grp;rw[cC0];congr 1
 apply Al
 intro i hi;rw[Aj]at hi;have hx:=jC (jS (Ac (pE hi)));unfold keyRE;rw[Aq];simp only[beq_iff_eq,decide_eq_true_eq];constructor
 ·intro e
  rw[e,h]at hx;exact(Option.some.inj hx).symm
 ·intro e
  rw[e]at hx;exact sG (kV _) hx h
theorem dS1 {es:List En} {id:Nat} {s:ByteArray} (h:(surfL es)[id]?=some s):(grp (jX (surfL es) es) es.length id).map (λi=>es.getD i enZero)=ofL es s:=by
 unfold ofL grp;rw[cC0];congr 1
 apply Al
 intro i hi;rw[Aj]at hi;have hx:=kP (jV (Ac (pE hi)));unfold jX;rw[Aq];simp only[beq_iff_eq,decide_eq_true_eq];constructor
 ·intro e
  rw[e,h]at hx;exact(Option.some.inj hx).symm
 ·intro e
  rw[e]at hx;exact sG (kV _) hx h
theorem eT0 {es:List En} {s:ByteArray} (h:s∉readL es):exactL es s=[]:=by
 unfold exactL;rw[Bd];intro x hx;simp only[decide_eq_true_eq];rintro rfl;exact h (jS hx)
theorem zY0 {es:List En} {s:ByteArray} (h:s∉surfL es):ofL es s=[]:=by
 unfold ofL;rw[Bd];intro x hx;simp only[decide_eq_true_eq];rintro rfl;exact h (jV hx)
def mV0 (es:List En) (a b:Nat):List En:=(es.take b).drop a
theorem aI0 (es:List En) {a b:Nat} (hb:b<=es.length):mV0 es a b=((Am a (b-a)).map λi=>es.getD i enZero):=by
 apply Bo
 intro i;unfold mV0;rw[List.getElem?_drop,List.getElem?_take,Ai];by_cases h:a+i<b
 ·rw[if_pos h,List.getElem?_range' (by omega),pE (by omega)]
  simp
 ·rw[if_neg h,An (by simp;omega)];rfl
theorem aH1 {es:List En} (hs:fE es) {a b:Nat} (ev:a<=b) (hb:b<=(readL es).length) :
  mV0 es (grpsL (keyRE (readL es) es) es.length a).length (grpsL (keyRE (readL es) es) es.length b).length=es.filter (λx=>decide (a<=iI0 (readL es) x)&&decide (iI0 (readL es) x<b)):=by
 have hk:∀i,i<es.length->keyRE (readL es) es i<(readL es).length:=λi hi=>uL hi
 have ac:∀i s,i<es.length->s<=(readL es).length->((grpsL (keyRE (readL es) es) es.length s).length<=i↔s<=keyRE (readL es) es i):=λi s hi i5=>by
  have h:=yY0 hk hi i5;rw[uK hs,Ab,Ak hi,Br]at h;exact h
 obtain⟨A,hA⟩:=exq ((grpsL (keyRE (readL es) es) es.length a).length);obtain⟨B,hB⟩:=exq ((grpsL (keyRE (readL es) es) es.length b).length)
 have hAB:A<=B/\B<=es.length:=by
  obtain⟨r,hr⟩:=jN (k:=keyRE (readL es) es) (n:=es.length) ev;obtain⟨r2,cz⟩:=jN (k:=keyRE (readL es) es) (n:=es.length) hb
  have:=jJ hk
  rw[cz,Ad]at this;rw[hA,hB];refine⟨by rw[hr,Ad];omega,by omega⟩
 rw[<-hA,<-hB,aI0 es hAB.2,cC0];congr 1
 have e1:(Ag es.length).filter (λi=>decide (a<=iI0 (readL es) (es.getD i enZero))&&decide (iI0 (readL es) (es.getD i enZero)<b))=(Ag es.length).filter (λi=>decide (A<=i)&&decide (i<B)):=by
  apply Al
  intro i hi;rw[Aj]at hi;have h1:=ac i a hi (by omega);have h2:=ac i b hi hb;rw[<-hA]at h1;rw[<-hB]at h2;unfold keyRE at h1 h2;rw[Aq];simp only[Bool.and_eq_true,decide_eq_true_eq];omega
 rw[e1]
 have e2:Ag es.length=Ag A++(Am A (B-A)++Am B (es.length-B)):=by
  have h1:Am A (B-A)++Am B (es.length-B)=Am A (es.length-A):=by
   have:=Av (s:=A) (m:=B-A) (n:=es.length-B)
   rw[show A+(B-A)=B by omega,show B-A+(es.length-B)=es.length-A by omega]at this
   exact this
  have h2:=Av (s:=0) (m:=A) (n:=es.length-A);rw[Be,show A+(es.length-A)=es.length by omega]at h2
  rw[h1,Ap,Ap,h2]
 rw[e2,Bk,Bk];have f1:(Ag A).filter (λi=>decide (A<=i)&&decide (i<B))=[]:=List.filter_eq_nil_iff.2 (λi hi=>by rw[Aj]at hi;simp;omega);have f3:(Am B (es.length-B)).filter (λi=>decide (A<=i)&&decide (i<B))=[]:=List.filter_eq_nil_iff.2 (λi hi=>by rw[As]at hi;simp;omega);rw[f1,f3,Bf,Bv];symm
 rw[List.filter_eq_self];intro i hi;rw[As]at hi;simp;omega
theorem sU {es:List En} {a:Nat}:∀ {b:Nat},a<=b->b<=(readL es).length->b-a<=(grpsL (keyRE (readL es) es) es.length b).length-(grpsL (keyRE (readL es) es) es.length a).length/\(grpsL (keyRE (readL es) es) es.length a).length<=(grpsL (keyRE (readL es) es) es.length b).length
 | 0,h,_=>by
  obtain rfl:a=0:=by omega
  simp
 | b+1,h,hb=>by
  rcases Bn b a with c|c
  ·obtain rfl:a=b+1:=by omega
   simp
  ·have ih:=sU (es:=es) c (by omega)
   rw[kW,Ad];obtain⟨i,hi,hk⟩:=jW0 es b (by omega)
   have:0<(grp (keyRE (readL es) es) es.length b).length:=List.length_pos_iff.2 (List.ne_nil_of_mem (pH.2 ⟨hi,hk⟩))
   omega
theorem tC0 {es:List En} (hs:fE es) {a b:Nat} {p:ByteArray} {m:Nat} (hm:0<m) (ev:a<b) (hb:b<=(readL es).length)
  (hp:∀j s,(readL es)[j]?=some s->(cM0 s p=true↔a<=j/\j<b)) :
  mV0 es (grpsL (keyRE (readL es) es) es.length a).length (min ((grpsL (keyRE (readL es) es) es.length (a+min m (b-a))).length-(grpsL (keyRE (readL es) es) es.length a).length) m+(grpsL (keyRE (readL es) es) es.length a).length)=(es.filter λx=>cM0 x.r p).take m:=by
 have hf:es.filter (λx=>cM0 x.r p)=es.filter (λx=>decide (a<=iI0 (readL es) x)&&decide (iI0 (readL es) x<b)):=by
  apply Al
  intro x hx;have h:=hp _ _ (jC (jS hx));rw[Aq,h];simp
 rw[hf,<-aH1 hs (Bc ev) hb];obtain⟨h1,h2⟩:=sU (es:=es) (Bc ev) hb;obtain⟨h3,h4⟩:=sU (es:=es) (a:=a) (b:=a+min m (b-a)) (by omega) (by omega);have h5:=(sU (es:=es) (a:=a+min m (b-a)) (b:=b) (by omega) hb).2
 have key:min ((grpsL (keyRE (readL es) es) es.length (a+min m (b-a))).length-(grpsL (keyRE (readL es) es) es.length a).length) m=min ((grpsL (keyRE (readL es) es) es.length b).length-(grpsL (keyRE (readL es) es) es.length a).length) m:=by
  by_cases hc:m<b-a
  ·rw[Bw (Bc hc)]at h3 ⊢
   omega
  ·rw[Bs (show b-a<=m by omega),show a+(b-a)=b by omega]
 rw[key];unfold mV0;rw[List.take_drop,List.take_take];congr 2
 omega
theorem pU {R:List ByteArray} {x:List UInt8}:x∈bls R↔mkB x∈R:=by
 unfold bls;rw[List.mem_map];constructor
 ·rintro⟨s,hs,rfl⟩
  rw[show mkB (bl s)=s from kD s]
  exact hs
 ·intro h
  exact⟨_,h,fA x⟩
theorem nS1 {R:List ByteArray} {j:Nat} {s:ByteArray} (h:R[j]?=some s):R.getD j ⟨#[]⟩=s:=by
 rw[Ab,h];rfl
theorem jO0 {R:List ByteArray} (h:OkL (bls R)) (f:ByteArray->List En) (hf:∀s,s∉R->f s=[]) (s:ByteArray) :
  (Ag (min s.size 256+1)).flatMap (λn=>f (cutB s n))=(hitsL (bls R) (bl s) s.size).flatMap λq=>f (R.getD q.1 ⟨#[]⟩):=by
 have ahu:∀i,(vP0 (bls R) (bl s) i).flatMap (λq=>f (R.getD q.1 ⟨#[]⟩))=f (cutB s (i+1)):=λi=>by
  unfold vP0;by_cases hm:(bl s).take (i+1)∈bls R
  ·rw[if_pos hm]
   have na:=pU.1 hm;obtain⟨j,hj⟩:=List.mem_iff_getElem?.1 na;have h1:=mO hj;rw[show bl (mkB ((bl s).take (i+1)))=(bl s).take (i+1) from fA _]at h1
   rw[h.findT_of h1];simp only[Bp,List.flatMap_nil,Bf];rw[nS1 hj];rfl
  ·rw[if_neg hm]
   rw[show f (cutB s (i+1))=[] from hf _ (λhc=>hm (pU.2 hc))]
   rfl
 have e1:(hitsL (bls R) (bl s) s.size).flatMap (λq=>f (R.getD q.1 ⟨#[]⟩))=(Ag s.size).flatMap λi=>f (cutB s (i+1)):=by
  unfold hitsL;rw[List.flatMap_assoc];congr 1
  funext i
  exact ahu i
 have e0:f (cutB s 0)=[]:=hf _ (λhc=>h.pos [] (pU.2 (by unfold cutB at hc;rwa [List.take_zero]at hc)) rfl);rw[e1,List.range_succ_eq_map,Bp,e0,Bv,Bt];by_cases hs:s.size<=256
 ·rw[Bw hs]
 ·rw[Bs (by omega)]
  have e2:Ag s.size=Ag 256++Am 256 (s.size-256):=by
   have h2:=Av (s:=0) (m:=256) (n:=s.size-256);rw[Be,show 256+(s.size-256)=s.size by omega]at h2
   rw[Ap,Ap,h2]
  rw[e2,List.flatMap_append]
  have e3:(Am 256 (s.size-256)).flatMap (λi=>f (cutB s (i+1)))=[]:=by
   rw[List.flatMap_eq_nil_iff];intro i hi;rw[As]at hi;refine hf _ λhc=>?_;have h3:=h.len _ (pU.2 hc);rw[Au,dB]at h3;omega
  rw[e3,Bf]
theorem xO0 {es:List En} (h:OkL (bls (readL es))) (s:ByteArray):prefL es s=(hitsL (bls (readL es)) (bl s) s.size).flatMap λq=>exactL es ((readL es).getD q.1 ⟨#[]⟩) :=
 jO0 h (exactL es) (λ_ hs=>eT0 hs) s
theorem mJ0 {es:List En} (h:OkL (bls (surfL es))) (s:ByteArray):writesL es s=(hitsL (bls (surfL es)) (bl s) s.size).flatMap λq=>ofL es ((surfL es).getD q.1 ⟨#[]⟩) :=
 jO0 h (ofL es) (λ_ hs=>zY0 hs) s
theorem wC0 {es:List En} (h:OkL (bls (readL es))) (s:ByteArray):exactL es s=if (jI (bls (readL es)) (bl s)).2=true then exactL es ((readL es).getD (jI (bls (readL es)) (bl s)).1 ⟨#[]⟩) else []:=by
 by_cases hm:s∈readL es
 ·obtain⟨j,hj⟩:=List.mem_iff_getElem?.1 hm
  rw[h.findT_of (mO hj),if_pos rfl,nS1 hj]
 ·rw[mD (λhc=>hm (by have:=pU.1 hc;rwa [show mkB (bl s)=s from kD s]at this)),eT0 hm]
  rfl
theorem kB1 {es:List En} (h:OkL (bls (surfL es))) (s:ByteArray):ofL es s=if (jI (bls (surfL es)) (bl s)).2=true then ofL es ((surfL es).getD (jI (bls (surfL es)) (bl s)).1 ⟨#[]⟩) else []:=by
 by_cases hm:s∈surfL es
 ·obtain⟨j,hj⟩:=List.mem_iff_getElem?.1 hm
  rw[h.findT_of (mO hj),if_pos rfl,nS1 hj]
 ·rw[mD (λhc=>hm (by have:=pU.1 hc;rwa [show mkB (bl s)=s from kD s]at this)),zY0 hm]
  rfl
theorem aD1 {es:List En} {p:ByteArray} {ci:Int} (h:fQ (bls (readL es)) (bl p)=[]):underL es p ci=[]:=by
 unfold underL
 have:es.filter (λx=>cM0 x.r p)=[]:=by
  refine List.filter_eq_nil_iff.2 λx hx hb=>?_
  have hm:iI0 (readL es) x∈fQ (bls (readL es)) (bl p):=by
   have h1:=jC (jS hx);unfold fQ;rw[By,Aj,cG];refine⟨(List.getElem?_eq_some_iff.1 h1).1,?_⟩;rw[tY (mO h1)];exact hb
  rw[h]at hm;cases hm
 rw[this,List.take_nil]
theorem sW0 {es:List En} (hs:fE es) {p:ByteArray} {a b m:Nat} (hm:0<m) (ev:a<b) (hb:b<=(readL es).length) (h:fQ (bls (readL es)) (bl p)=Am a (b-a)) :
  mV0 es (grpsL (keyRE (readL es) es) es.length a).length (min ((grpsL (keyRE (readL es) es) es.length (a+min m (b-a))).length-(grpsL (keyRE (readL es) es) es.length a).length) m+(grpsL (keyRE (readL es) es) es.length a).length)=underL es p (m:Int):=by
 unfold underL;rw[Int.toNat_natCast];refine tC0 hs hm ev hb λj s hj=>?_
 have h1:j∈fQ (bls (readL es)) (bl p)↔cM0 s p=true:=by
  unfold fQ;rw[By,Aj,cG,tY (mO hj)];exact⟨λh=>h.2,λh=>⟨(List.getElem?_eq_some_iff.1 hj).1,h⟩⟩
 rw[<-h1,h,As];omega
theorem qV0 {s x:ByteArray} {n:Nat} (hn:n<=s.size):x=cutB s n↔cM0 s x=true/\x.size=n:=by
 unfold cM0 cutB;rw[Aw,List.prefix_iff_eq_take,dB];constructor
 ·rintro rfl
  have hl:(mkB ((bl s).take n)).size=n:=by rw[Lib.size_eq,fA,Au,dB];omega
  rw[hl];exact⟨fA _,rfl⟩
 ·rintro⟨h1,rfl⟩
  rw[<-h1];exact(kD x).symm
theorem kA1 {s p:ByteArray} (h:cM0 s p=true):p.size<=s.size:=by
 unfold cM0 at h;rw[Aw]at h
 have:=h.length_le
 rwa [dB,dB]at this
end
section
open Go Go.RowKit Go.Shelf
attribute [local go_sem] aQ aM
theorem kT1 {A B:List ByteArray} (h:bls A=bls B):A=B:=by
 have h1:=congrArg (List.map mkB) h;unfold bls at h1;rw[Bb,Bb]at h1;have e:∀l:List ByteArray,l.map (mkB ∘ bl)=l:=λl=>(Bh λx _=>kD x).trans (Cb _);rwa [e,e]at h1
theorem zU0 (ks:List ByteArray) (s:ByteArray):cS1 (bls (mF ks)) (bl s)=bls (mF (ks++[s])):=by
 rw[yY,yY,kT];unfold oS0;rw[List.foldl_append];rfl
theorem bQ0 {ks out:List ByteArray} {s:ByteArray} (h:bls out=cS1 (bls (mF ks)) (bl s)):out=mF (ks++[s]):=kT1 (h.trans (zU0 ks s))
theorem fG0 (es:List En) (a:Option Addr) (c:Nat) (pv mv:Value) (w:World) (hl:es.length<=1048576) (ac:aF w a 5 (es.map aJ)) :
  Calls Tryz.prog 138 #[.agg #[pv,mv,.slice a es.length c]] w λe w'=>Grows w w'/\∃v,e=.returned v/\aU w' w.heap.size 9 1 stC v (readL es):=by
 obtain⟨W0,bh⟩:=exq (w.alloc (.cells #[pv,mv,.slice a es.length c] 31));have cd:Grows w W0:=by rw[bh];exact Grows.alloc _ _
 have q2:=aT w #[pv,mv,.slice a es.length c] 31 (0,0) 2 _ rfl;rw[<-bh]at q2;have HQ:=Ah q2;have HAT:=Ah (ac.grows cd);have HG0:=Ah cd;clear ac cd;go_enter Tryz.func138,Tryz.ntmps138
 go_wp2_with fail
 rw[<-bh];clear bh;go_loopw [3,4] (λv i wr=>∃(k:Nat),k<=es.length/\i=.int .i64 k/\aU wr w.heap.size 9 1 stC v (mF ((es.take k).map (·.r)))/\Grows W0 wr) (λ_ i _=>es.length-(intOf i).toNat)
 case atStart=>exact⟨0,Az _,rfl,aU.nil _ _ _ _ _,Grows.refl _⟩
 case round =>
  obtain⟨k,hk,rfl,aa,hg⟩:=hrel;clear q2;have q2:=hg.cell HQ.out;by_cases ae:k<es.length
  ·obtain⟨⟨xr,xs,xl,xt,xc⟩,hx⟩:∃x,es[k]?=some x:=⟨_,Aa ae⟩
   obtain⟨ba,oa,rfl,be⟩:=(HAT.out.grows hg).get (aH ae);have c0:wr.cell? ⟨ba,oa+k*5,none⟩=some (.string xr):=be k _ hx 0 _ rfl;have dg:(k:Int)<es.length:=by omega
   have HT:Hid (mF ((es.take k).map (·.r)++[xr])=mF ((es.take (k+1)).map (·.r))):=by
    show _=_
    rw[bI hx,Bz];rfl
   have o8:(mF ((es.take k).map (·.r))).length<=k:=Ca (oH _) (by rw[Af,Au];omega);obtain⟨B,hB⟩:=exq (mF ((es.take k).map (·.r)));have HB:=Ah hB;rw[<-hB]at aa o8;clear be hx hB;obtain⟨va,vc,rfl,_,_,ye⟩:=aa.at_ (k:=1) (λx=>(rfl:(stC x).length=1));go_wp2_with fail
   refine(pS0 B xr va vc wr (by omega) ye).mono ?_;rintro e w2 ⟨af,v2,out,ho,rfl,ai⟩;rw[HB.out]at ho;obtain rfl:=bQ0 ho;rw[HT.out]at ai;have pu:=Grows.trans _ _ _ hg af;have aw:=ai.base (Grows.trans _ _ _ HG0.out hg).size;clear aa ai ye ho af;go_wp2_with fail
   go_roundw
   case rel=>exact⟨k+1,ae,by go_num,aw,pu⟩
   case measure=>simp[intOf];omega
  ·obtain rfl:k=es.length:=by omega
   rw[Ba]at aa;go_wp2_with fail
   go_ret;exact⟨Grows.trans _ _ _ HG0.out hg,_,rfl,aa⟩
theorem gK0 (es:List En) (a:Option Addr) (c:Nat) (pv mv:Value) (w:World) (hl:es.length<=1048576) (ac:aF w a 5 (es.map aJ)) :
  Calls Tryz.prog 139 #[.agg #[pv,mv,.slice a es.length c]] w λe w'=>Grows w w'/\∃v,e=.returned v/\aU w' w.heap.size 9 1 stC v (surfL es):=by
 obtain⟨W0,bh⟩:=exq (w.alloc (.cells #[pv,mv,.slice a es.length c] 31));have cd:Grows w W0:=by rw[bh];exact Grows.alloc _ _
 have q2:=aT w #[pv,mv,.slice a es.length c] 31 (0,0) 2 _ rfl;rw[<-bh]at q2;have HQ:=Ah q2;have HAT:=Ah (ac.grows cd);have HG0:=Ah cd;clear ac cd;go_enter Tryz.func139,Tryz.ntmps139
 go_wp2_with fail
 rw[<-bh];clear bh;go_loopw [3,4] (λv i wr=>∃(k:Nat),k<=es.length/\i=.int .i64 k/\aU wr w.heap.size 9 1 stC v (mF ((es.take k).map (·.s)))/\Grows W0 wr) (λ_ i _=>es.length-(intOf i).toNat)
 case atStart=>exact⟨0,Az _,rfl,aU.nil _ _ _ _ _,Grows.refl _⟩
 case round =>
  obtain⟨k,hk,rfl,aa,hg⟩:=hrel;clear q2;have q2:=hg.cell HQ.out;by_cases ae:k<es.length
  ·obtain⟨⟨xr,xs,xl,xt,xc⟩,hx⟩:∃x,es[k]?=some x:=⟨_,Aa ae⟩
   obtain⟨ba,oa,rfl,be⟩:=(HAT.out.grows hg).get (aH ae);have c0:wr.cell? ⟨ba,oa+k*5+1,none⟩=some (.string xs):=be k _ hx 1 _ rfl;have dg:(k:Int)<es.length:=by omega
   have HT:Hid (mF ((es.take k).map (·.s)++[xs])=mF ((es.take (k+1)).map (·.s))):=by
    show _=_
    rw[bI hx,Bz];rfl
   have o8:(mF ((es.take k).map (·.s))).length<=k:=Ca (oH _) (by rw[Af,Au];omega);obtain⟨B,hB⟩:=exq (mF ((es.take k).map (·.s)));have HB:=Ah hB;rw[<-hB]at aa o8;clear be hx hB;obtain⟨va,vc,rfl,_,_,ye⟩:=aa.at_ (k:=1) (λx=>(rfl:(stC x).length=1));go_wp2_with fail
   refine(pS0 B xs va vc wr (by omega) ye).mono ?_;rintro e w2 ⟨af,v2,out,ho,rfl,ai⟩;rw[HB.out]at ho;obtain rfl:=bQ0 ho;rw[HT.out]at ai;have pu:=Grows.trans _ _ _ hg af;have aw:=ai.base (Grows.trans _ _ _ HG0.out hg).size;clear aa ai ye ho af;go_wp2_with fail
   go_roundw
   case rel=>exact⟨k+1,ae,by go_num,aw,pu⟩
   case measure=>simp[intOf];omega
  ·obtain rfl:k=es.length:=by omega
   rw[Ba]at aa;go_wp2_with fail
   go_ret;exact⟨Grows.trans _ _ _ HG0.out hg,_,rfl,aa⟩
def mD1:Value := .agg #[.slice none 0 0,.pointer none,.slice none 0 0]
theorem mE1 {p:List cJ} {m:Option Mx} {l:List En} (h:dC p=false):mC p m l=5:=by unfold mC; rw[if_pos h]
theorem mA1 {p:List cJ} {l:List En} (h:dC p=true):mC p none l=9:=by unfold mC; rw[if_neg (by rw[h]; decide)]
theorem lX1 {p:List cJ} {m:Mx} {l:List En} (h:dC p=true):mC p (some m) l=if (m.n:Int)=p.length then (if 20000<l.length then 2 else fF p.length l) else 5:=by unfold mC; rw[if_neg (by rw[h]; decide)]
def iT (p:List cJ) (m:Option Mx) (l:List En):Int :=
 if mC p m l=0 then (if cY (bls (readL (sortS l)))=0/\cY (bls (surfL (sortS l)))=0 then 0 else 2) else mC p m l
def dN (p:List cJ) (mv:Value) (m:Option Mx) (l:List En) (pa:Option Addr) (pc:Nat) (w:World) (e:Ending) (w':World):Prop :=
 Grows w w'/\(iT p m l=0->∃a c,e=.returned (.tuple #[.agg #[.slice pa p.length pc,mv,.slice a (sortS l).length c],.int .i64 0])/\aF w' a 5 ((sortS l).map aJ))/\(iT p m l≠0->e=.returned (.tuple #[mD1,.int .i64 (iT p m l)]))
theorem dN.bad {p:List cJ} {mv:Value} {m:Option Mx} {l:List En} {pa:Option Addr} {pc:Nat} {w w':World} {f:Int} (h:mC p m l≠0) (hf:f=mC p m l) (hg:Grows w w') :
  dN p mv m l pa pc w (.returned (.tuple #[.agg #[.slice none 0 0,.pointer none,.slice none 0 0],.int .i64 f])) w':=by
 have e:iT p m l=f:=by unfold iT;rw[if_neg h,hf]
 refine⟨hg,λh0=>?_,λ_=>?_⟩
 ·rw[e,hf]at h0;exact absurd h0 h
 ·rw[e];rfl
theorem dN.long {p:List cJ} {mv:Value} {m:Option Mx} {l:List En} {pa:Option Addr} {pc:Nat} {w w':World} (h:mC p m l=0) (h2:¬(cY (bls (readL (sortS l)))=0/\cY (bls (surfL (sortS l)))=0)) (hg:Grows w w') :
  dN p mv m l pa pc w (.returned (.tuple #[.agg #[.slice none 0 0,.pointer none,.slice none 0 0],.int .i64 2])) w':=by
 have e:iT p m l=2:=by unfold iT;rw[if_pos h,if_neg h2]
 refine⟨hg,λh0=>?_,λ_=>?_⟩
 ·rw[e]at h0;cases h0
 ·rw[e];rfl
theorem dN.good {p:List cJ} {mv:Value} {m:Option Mx} {l:List En} {pa:Option Addr} {pc:Nat} {w w':World} {a:Option Addr} {c:Nat} (h:mC p m l=0) (h2:cY (bls (readL (sortS l)))=0/\cY (bls (surfL (sortS l)))=0) (hg:Grows w w') (ac:aF w' a 5 ((sortS l).map aJ)) :
  dN p mv m l pa pc w (.returned (.tuple #[.agg #[.slice pa p.length pc,mv,.slice a (sortS l).length c],.int .i64 0])) w':=by
 have e:iT p m l=0:=by unfold iT;rw[if_pos h,if_pos h2]
 exact⟨hg,λ_=>⟨a,c,rfl,ac⟩,λh0=>absurd e h0⟩
theorem dN.good2 {p:List cJ} {mv:Value} {m:Option Mx} {l es:List En} {pa:Option Addr} {pc:Nat} {w w':World} {a:Option Addr} {c:Nat} (he:es=sortS l) (h:mC p m l=0) (h2:cY (bls (readL (sortS l)))=0/\cY (bls (surfL (sortS l)))=0) (hg:Grows w w') (ac:aF w' a 5 (es.map aJ)) :
  dN p mv m l pa pc w (.returned (.tuple #[.agg #[.slice pa p.length pc,mv,.slice a es.length c],.int .i64 0])) w':=by
 subst he;exact dN.good h h2 hg ac
theorem aP1 (p:List cJ) (mv:Value) (m:Option Mx) (l:List En) (pa a:Option Addr) (pc c:Nat) (w:World) (hp:p.length<=4611686018427387904) (fi:∀x∈p,x.name.size<=9223372036854775807) (hl:l.length<=140737488355328) (hs:∀x∈l,x.r.size<=1099511627776/\x.s.size<=1099511627776)
  (l7:aF w pa 2 (p.map bE)) (hm:iK1 w mv m) (ac:aF w a 5 (l.map aJ)) (hc:mC p m l≠0) :
  Calls Tryz.prog 68 #[.slice pa p.length pc,mv,.slice a l.length c] w (dN p mv m l pa pc w):=by
 obtain⟨W1,bi⟩:=exq (w.alloc (.cells #[.slice none 0 0,.pointer none,.slice none 0 0] 31));have fh:Grows w W1:=by rw[bi];exact Grows.alloc _ _
 have HBL:Hid (w.heap.size<W1.heap.size):=by rw[bi];show _<_;simp
 have HBX:Hid (∀w',Grows W1 w'->(∀j v,(#[.slice none 0 0,.pointer none,.slice none 0 0]:Array Value)[j]?=some v->w'.cell? ⟨w.heap.size,j,none⟩=some v)/\(∀j,w'.frozen? ⟨w.heap.size,j,none⟩=false)):=λw' h=>bJ (by rw[<-bi];exact h);have HGA:=Ah fh;have HAT:=Ah (ac.grows fh);have HS:=Ah hs;have HM:=Ah (hm.grows fh);have HC:=Ah hc;have CP:=Ah (eC0 p pa pc W1 (l7.grows fh) hp fi);clear ac hs hm l7 hc fh
 cases hv:dC p with
 | false =>
  rw[hv]at CP;have HF:=Ah (mE1 (m:=m) (l:=l) hv);clear hv;go_enter Tryz.func68,Tryz.ntmps68
  go_wp2_with fail
  rw[<-bi];clear bi;refine CP.out.mono ?_;rintro e w1 ⟨rfl,ah⟩;obtain⟨bc,bf⟩:=HBX.out _ ah;have b0:=bc 0 _ rfl;have b1:=bc 1 _ rfl;have b2:=bc 2 _ rfl;have f0:=bf 0;have f1:=bf 1;have f2:=bf 2;clear bc bf;go_wp2
  refine bodyPost_ret (v:=.tuple #[.agg #[.slice none 0 0,.pointer none,.slice none 0 0],.int .i64 _]) (by simp[results,Tryz.results68,go_sem,b0,b1,b2];rfl) rfl ?_
  exact dN.bad HC.out HF.out.symm ((((Grows.trans _ _ _ HGA.out ah).set (Ae _) _).set (Ae _) _).set (Ae _) _)
 | true =>
  rw[hv]at CP
  cases m with
  | none =>
   obtain rfl:mv=.pointer none:=HM.out;have HF:=Ah (mA1 (l:=l) hv);clear hv;go_enter Tryz.func68,Tryz.ntmps68
   go_wp2_with fail
   rw[<-bi];clear bi;refine CP.out.mono ?_;rintro e w1 ⟨rfl,ah⟩;obtain⟨bc,bf⟩:=HBX.out _ ah;have b0:=bc 0 _ rfl;have b1:=bc 1 _ rfl;have b2:=bc 2 _ rfl;have f0:=bf 0;have f1:=bf 1;have f2:=bf 2;clear bc bf;go_wp2
   refine bodyPost_ret (v:=.tuple #[.agg #[.slice none 0 0,.pointer none,.slice none 0 0],.int .i64 _]) (by simp[results,Tryz.results68,go_sem,b0,b1,b2];rfl) rfl ?_
   exact dN.bad HC.out HF.out.symm ((((Grows.trans _ _ _ HGA.out ah).set (Ae _) _).set (Ae _) _).set (Ae _) _)
  | some m =>
   obtain⟨rb,rfl,hra⟩:=HM.out;have hrc:=hra.c0;have HF:=Ah (lX1 (m:=m) (l:=l) hv);clear HM hra hv;by_cases h1:(m.n:Int)=p.length
   ·have HF1:Hid (mC p (some m) l=if 20000<l.length then 2 else fF p.length l):=by show _=_;rw[HF.out];simp[h1]
    clear HF;by_cases h2:20000<l.length
    ·have zv:(20000:Int)<l.length:=by omega
     have HF2:Hid (mC p (some m) l=2):=by show _=_;rw[HF1.out,if_pos h2]
     go_enter Tryz.func68,Tryz.ntmps68
     go_wp2_with fail
     rw[<-bi];clear bi;refine CP.out.mono ?_;rintro e w1 ⟨rfl,ah⟩;have yf:=ah.cell hrc;obtain⟨bc,bf⟩:=HBX.out _ ah;have b0:=bc 0 _ rfl;have b1:=bc 1 _ rfl;have b2:=bc 2 _ rfl;have f0:=bf 0;have f1:=bf 1;have f2:=bf 2;clear bc bf;go_wp2
     refine bodyPost_ret (v:=.tuple #[.agg #[.slice none 0 0,.pointer none,.slice none 0 0],.int .i64 _]) (by simp[results,Tryz.results68,go_sem,b0,b1,b2];rfl) rfl ?_
     exact dN.bad HC.out HF2.out.symm ((((Grows.trans _ _ _ HGA.out ah).set (Ae _) _).set (Ae _) _).set (Ae _) _)
    ·have zv:¬(20000:Int)<l.length:=by omega
     have HF2:Hid (mC p (some m) l=fF p.length l):=by show _=_;rw[HF1.out,if_neg h2]
     clear HF1;go_enter Tryz.func68,Tryz.ntmps68
     go_wp2_with fail
     rw[<-bi];clear bi;refine CP.out.mono ?_;rintro e w1 ⟨rfl,ah⟩;have yf:=ah.cell hrc;clear h2;go_wp2_with fail
     clear h1 yf hrc;go_loopw [8] (λi wr=>∃(k:Nat),k<=l.length/\i=.int .i64 k/\Hid (fF p.length (l.drop k)=fF p.length l)/\Grows W1 wr) (λi _=>l.length-(intOf i).toNat)
     case atStart=>exact⟨0,Az _,rfl,rfl,ah⟩
     case round =>
      obtain⟨k,hk,rfl,hF,hg⟩:=hrel;by_cases ae:k<l.length
      ·obtain⟨⟨xr,xs,xl,xt,xc⟩,hx⟩:∃x,l[k]?=some x:=⟨_,Aa ae⟩
       obtain⟨ba,oa,rfl,be⟩:=(HAT.out.grows hg).get (aH ae);have c0:wr.cell? ⟨ba,oa+k*5,none⟩=some (.string xr):=be k _ hx 0 _ rfl;have c1:wr.cell? ⟨ba,oa+k*5+1,none⟩=some (.string xs):=be k _ hx 1 _ rfl;have c2:wr.cell? ⟨ba,oa+k*5+2,none⟩=some (.int .i64 xl):=be k _ hx 2 _ rfl;have c3:wr.cell? ⟨ba,oa+k*5+3,none⟩=some (.int .i64 xt):=be k _ hx 3 _ rfl;have c4:wr.cell? ⟨ba,oa+k*5+4,none⟩=some (.int .i64 xc):=be k _ hx 4 _ rfl;have dp:=HS.out _ (Ac hx);simp only at dp;have CC:=λW=>Ah (eO0 xr xs xl xt xc p.length W (by omega) (by omega));have HD:=aF0 (n:=p.length) hx;rw[hF.out]at HD;obtain⟨f,hf⟩:=exq (oP ⟨xr,xs,xl,xt,xc⟩ p.length);rw[<-hf]at HD;have tu:sW xr xs xl xt xc p.length=f:=hf.symm;simp only[tu]at CC;have HD:=Ah HD;clear be hx dp hf tu hF;go_wp2_with fail
       refine(CC _).out.mono ?_;rintro e w2 ⟨rfl,af⟩;have ax:=Grows.trans _ _ _ hg af;by_cases hf0:f=0
       ·subst hf0
        have HX:Hid (fF p.length (l.drop (k+1))=fF p.length l):=by show _=_;rw[HD.out,if_pos rfl]
        clear HD;go_wp2_with fail
        go_roundw
        case rel=>exact⟨k+1,by omega,by go_num,HX,ax⟩
        case measure=>simp[intOf];omega
       ·have hfb:(f != 0)=true:=by simpa using hf0
        obtain⟨bc,bf⟩:=HBX.out _ ax;have b0:=bc 0 _ rfl;have b1:=bc 1 _ rfl;have b2:=bc 2 _ rfl;have f0:=bf 0;have f1:=bf 1;have f2:=bf 2;clear bc bf;go_wp2_with fail
        refine bodyPost_ret (v:=.tuple #[.agg #[.slice none 0 0,.pointer none,.slice none 0 0],.int .i64 _]) (by simp[results,Tryz.results68,go_sem,b0,b1,b2];rfl) rfl ?_
        exact dN.bad HC.out (by rw[HF2.out,HD.out,if_neg hf0]) ((((Grows.trans _ _ _ HGA.out ax).set (Ae _) _).set (Ae _) _).set (Ae _) _)
      ·obtain rfl:k=l.length:=by omega
       have HX:fF p.length l=0:=by rw[<-hF.out,List.drop_length];rfl
       exact absurd (HF2.out.trans HX) HC.out
   ·have HF2:Hid (mC p (some m) l=5):=by show _=_;rw[HF.out];simp[h1]
    clear HF;go_enter Tryz.func68,Tryz.ntmps68
    go_wp2_with fail
    rw[<-bi];clear bi;refine CP.out.mono ?_;rintro e w1 ⟨rfl,ah⟩;have yf:=ah.cell hrc;obtain⟨bc,bf⟩:=HBX.out _ ah;have b0:=bc 0 _ rfl;have b1:=bc 1 _ rfl;have b2:=bc 2 _ rfl;have f0:=bf 0;have f1:=bf 1;have f2:=bf 2;clear bc bf;go_wp2
    refine bodyPost_ret (v:=.tuple #[.agg #[.slice none 0 0,.pointer none,.slice none 0 0],.int .i64 _]) (by simp[results,Tryz.results68,go_sem,b0,b1,b2];rfl) rfl ?_
    exact dN.bad HC.out HF2.out.symm ((((Grows.trans _ _ _ HGA.out ah).set (Ae _) _).set (Ae _) _).set (Ae _) _)
theorem fG1 (p:List cJ) (rb:Nat) (m:Mx) (l:List En) (pa a:Option Addr) (pc c:Nat) (w:World) (hp:p.length<=4611686018427387904) (fi:∀x∈p,x.name.size<=9223372036854775807) (hs:∀x∈l,x.r.size<=1099511627776/\x.s.size<=1099511627776)
  (l7:aF w pa 2 (p.map bE)) (hr:jK w rb m) (ac:aF w a 5 (l.map aJ)) (hc:mC p (some m) l=0) :
  Calls Tryz.prog 68 #[.slice pa p.length pc,.pointer (some ⟨rb,0,none⟩),.slice a l.length c] w (dN p (.pointer (some ⟨rb,0,none⟩)) (some m) l pa pc w):=by
 obtain⟨W1,bi⟩:=exq (w.alloc (.cells #[.slice none 0 0,.pointer none,.slice none 0 0] 31));have fh:Grows w W1:=by rw[bi];exact Grows.alloc _ _
 have HBL:Hid (w.heap.size<W1.heap.size):=by rw[bi];show _<_;simp
 have HBX:Hid (∀w',Grows W1 w'->(∀j v,(#[.slice none 0 0,.pointer none,.slice none 0 0]:Array Value)[j]?=some v->w'.cell? ⟨w.heap.size,j,none⟩=some v)/\(∀j,w'.frozen? ⟨w.heap.size,j,none⟩=false)):=λw' h=>bJ (by rw[<-bi];exact h);have HGA:=Ah fh;have HAT:=Ah (ac.grows fh);have HS:=Ah hs;have HC:=Ah hc;obtain⟨h1,h2,h3,h4⟩:=dY hc;have CP:=Ah (eC0 p pa pc W1 (l7.grows fh) hp fi);rw[h3]at CP;have HK:=Ah h4;have hrc:=(hr.grows fh).c0;have zv:¬(20000:Int)<l.length:=by omega
 obtain⟨es,pw⟩:=exq (sortS l);have ou:es.length<=l.length:=by rw[pw];exact gZ0 l
 have HSZ:Hid (∀x∈es,x.r.size<=1099511627776/\x.s.size<=1099511627776):=λx hx=>hs x (uE (by rw[<-pw];exact hx));have HES:=Ah pw;clear ac hs l7 hc h3 h4 pw fh;go_enter Tryz.func68,Tryz.ntmps68
 go_wp2_with fail
 rw[<-bi];clear bi;refine CP.out.mono ?_;rintro e w1 ⟨rfl,ah⟩;have yf:=ah.cell hrc;go_wp2_with fail
 clear hrc yf h1;go_loopw [8] (λi wr=>∃(k:Nat),k<=l.length/\i=.int .i64 k/\Grows W1 wr) (λi _=>l.length-(intOf i).toNat)
 case atStart=>exact⟨0,Az _,rfl,ah⟩
 case round =>
  obtain⟨k,hk,rfl,hg⟩:=hrel;by_cases ae:k<l.length
  ·obtain⟨⟨xr,xs,xl,xt,xc⟩,hx⟩:∃x,l[k]?=some x:=⟨_,Aa ae⟩
   obtain⟨ba,oa,rfl,be⟩:=(HAT.out.grows hg).get (aH ae);have c0:wr.cell? ⟨ba,oa+k*5,none⟩=some (.string xr):=be k _ hx 0 _ rfl;have c1:wr.cell? ⟨ba,oa+k*5+1,none⟩=some (.string xs):=be k _ hx 1 _ rfl;have c2:wr.cell? ⟨ba,oa+k*5+2,none⟩=some (.int .i64 xl):=be k _ hx 2 _ rfl;have c3:wr.cell? ⟨ba,oa+k*5+3,none⟩=some (.int .i64 xt):=be k _ hx 3 _ rfl;have c4:wr.cell? ⟨ba,oa+k*5+4,none⟩=some (.int .i64 xc):=be k _ hx 4 _ rfl;have dp:=HS.out _ (Ac hx);simp only at dp;have CC:=λW=>Ah (eO0 xr xs xl xt xc p.length W (by omega) (by omega));have tu:sW xr xs xl xt xc p.length=0:=HK.out _ (Ac hx);simp only[tu]at CC;clear be hx dp tu;go_wp2_with fail
   refine(CC _).out.mono ?_;rintro e w2 ⟨rfl,af⟩;have ax:=Grows.trans _ _ _ hg af;go_wp2_with fail
   go_roundw
   case rel=>exact⟨k+1,by omega,by go_num,ax⟩
   case measure=>simp[intOf];omega
  ·obtain rfl:k=l.length:=by omega
   go_wp2_with fail
   refine(xM0 l a c wr (by omega) (HAT.out.grows hg)).mono ?_;rintro e w2 ⟨sv,rfl,aa,af⟩;rw[<-HES.out]at aa;obtain⟨sa,sc,rfl,_,_,yh⟩:=aa.at_ lA
   have uy:∀q:Addr,sa=some q->some q.block≠some w.heap.size:=λq hq=>by
    have h1:w.heap.size<W1.heap.size:=HBL.out;have h2:=hg.size;rcases aa.2 with ⟨e,_⟩|⟨g,cap,da,e,hb,_⟩
    ·rw[hq]at e
     cases (Value.slice.inj e).1
    ·have e1:=(Value.slice.inj e).1
     rw[hq]at e1;cases e1
     intro h3
     have:=Option.some.inj h3
     simp only at this;omega
   have HGE:=Ah uy;obtain⟨WD,hWD⟩:=exq (w2.alloc (.cells #[.slice pa p.length pc,.pointer (some ⟨rb,0,none⟩),.slice sa es.length sc] 31));have hgD:Grows w2 WD:=by rw[hWD];exact Grows.alloc _ _
   have HD:Hid (∀w',Grows WD w'->(∀j v,(#[.slice pa p.length pc,.pointer (some ⟨rb,0,none⟩),.slice sa es.length sc]:Array Value)[j]?=some v->w'.cell? ⟨w2.heap.size,j,none⟩=some v)/\(∀j,w'.frozen? ⟨w2.heap.size,j,none⟩=false)):=λw' h=>bJ (by rw[<-hWD];exact h);have pu:=Grows.trans _ _ _ hg (Grows.trans _ _ _ af hgD);have hsD:=yh.grows hgD;obtain⟨db,z9⟩:=exq w2.heap.size;clear aa af hg yh uy;go_wp2_with fail
   rw[<-hWD];clear hWD;rw[<-z9]at HD ⊢;clear z9;refine(fG0 es sa sc _ _ WD (by omega) hsD).mono ?_;rintro e w3 ⟨ax,rv,rfl,aau⟩;have yh:=hsD;have GD3:=Ah ax;obtain⟨ra,rc,rfl,_,_,uh⟩:=aau.at_ (k:=1) (λx=>(rfl:(stC x).length=1));have hs3:=yh.grows ax;have px:=Grows.trans _ _ _ pu ax;have hRL:=oH (es.map (·.r));rw[Af]at hRL
   have hRS:∀s∈readL es,s.size<=1099511627776:=λs h=>by
    obtain⟨x,hx,rfl⟩:=List.mem_map.1 (rQ h);exact(HSZ.out x hx).1
   clear aau ax yh;go_wp2_with fail
   refine(dU0 (readL es) ra rc w3 (by unfold readL;omega) hRS uh).mono ?_;rintro e w4 ⟨rfl,bu⟩;have hs4:=hs3.grows bu;have xo:=Grows.trans _ _ _ px bu;have GD4:=Ah (Grows.trans _ _ _ GD3.out bu);obtain⟨dc,_⟩:=HD.out _ GD4.out;have d0:=dc 0 _ rfl;have d1:=dc 1 _ rfl;have d2:=dc 2 _ rfl;clear hs3 px bu uh hRS dc;by_cases vl:cY (bls (readL es))=0
   ·rw[vl]
    go_wp2_with fail
    refine(gK0 es sa sc _ _ w4 (by omega) hs4).mono ?_;rintro e w5 ⟨bg,uv,rfl,aav⟩;obtain⟨ua,uc,rfl,_,_,ae8⟩:=aav.at_ (k:=1) (λx=>(rfl:(stC x).length=1));have hs5:=hs4.grows bg;have GD5:=Ah bg;clear d0 d1 d2;have ae9:=Grows.trans _ _ _ xo bg;have hUL:=oH (es.map (·.s));rw[Af]at hUL
    have hUS:∀s∈surfL es,s.size<=1099511627776:=λs h=>by
     obtain⟨x,hx,rfl⟩:=List.mem_map.1 (rQ h);exact(HSZ.out x hx).2
    clear aav bg hs4;go_wp2_with fail
    refine(dU0 (surfL es) ua uc w5 (by unfold surfL;omega) hUS ae8).mono ?_;rintro e w6 ⟨rfl,cp⟩;have hs6:=hs5.grows cp;have abu:=Grows.trans _ _ _ ae9 cp;have GD6:=Ah (Grows.trans _ _ _ GD4.out (Grows.trans _ _ _ GD5.out cp));obtain⟨dc,_⟩:=HD.out _ GD6.out;have d0:=dc 0 _ rfl;have d1:=dc 1 _ rfl;have d2:=dc 2 _ rfl;clear dc;clear hs5 ae9 cp ae8 hUS;by_cases yj:cY (bls (surfL es))=0
    ·have HR2:Hid (cY (bls (readL (sortS l)))=0/\cY (bls (surfL (sortS l)))=0):=by rw[<-HES.out];exact⟨vl,yj⟩
     rw[yj];obtain⟨bc,bf⟩:=HBX.out _ abu;have b0:=bc 0 _ rfl;have b1:=bc 1 _ rfl;have b2:=bc 2 _ rfl;have f0:=bf 0;have f1:=bf 1;have f2:=bf 2;clear bc bf;go_wp2
     refine bodyPost_ret (v:=.tuple #[.agg #[.slice pa p.length pc,.pointer (some ⟨rb,0,none⟩),.slice sa es.length sc],.int .i64 0]) (by simp[results,Tryz.results68,go_sem,b0,b1,b2]) rfl ?_
     exact dN.good2 HES.out HC.out HR2.out ((((Grows.trans _ _ _ HGA.out abu).set (Ae _) _).set (Ae _) _).set (Ae _) _) (oF (oF (oF hs6 ((Grows.refl _).grownBy_set _ _ _) HGE.out) ((Grows.refl _).grownBy_set _ _ _) HGE.out) ((Grows.refl _).grownBy_set _ _ _) HGE.out)
    ·have HNS:Hid (¬(cY (bls (readL (sortS l)))=0/\cY (bls (surfL (sortS l)))=0)):=by rw[<-HES.out];exact λh=>yj h.2
     have re:(cY (bls (surfL es)):Int)≠0:=by omega
     obtain⟨f,hf⟩:∃f:Int,f=cY (bls (surfL es)):=⟨_,rfl⟩;rw[<-hf]at re ⊢;have hfb:(f != 0)=true:=by simpa using re
     clear hf yj re;obtain⟨bc,bf⟩:=HBX.out _ abu;have b0:=bc 0 _ rfl;have b1:=bc 1 _ rfl;have b2:=bc 2 _ rfl;have f0:=bf 0;have f1:=bf 1;have f2:=bf 2;clear bc bf;go_wp2
     refine bodyPost_ret (v:=.tuple #[.agg #[.slice none 0 0,.pointer none,.slice none 0 0],.int .i64 _]) (by simp[results,Tryz.results68,go_sem,b0,b1,b2];rfl) rfl ?_
     exact dN.long HC.out HNS.out ((((Grows.trans _ _ _ HGA.out abu).set (Ae _) _).set (Ae _) _).set (Ae _) _)
   ·have HNS:Hid (¬(cY (bls (readL (sortS l)))=0/\cY (bls (surfL (sortS l)))=0)):=by rw[<-HES.out];exact λh=>vl h.1
    have re:(cY (bls (readL es)):Int)≠0:=by omega
    obtain⟨f,hf⟩:∃f:Int,f=cY (bls (readL es)):=⟨_,rfl⟩;rw[<-hf]at re ⊢;have hfb:(f != 0)=true:=by simpa using re
    clear hf vl re;obtain⟨bc,bf⟩:=HBX.out _ xo;have b0:=bc 0 _ rfl;have b1:=bc 1 _ rfl;have b2:=bc 2 _ rfl;have f0:=bf 0;have f1:=bf 1;have f2:=bf 2;clear bc bf;go_wp2
    refine bodyPost_ret (v:=.tuple #[.agg #[.slice none 0 0,.pointer none,.slice none 0 0],.int .i64 _]) (by simp[results,Tryz.results68,go_sem,b0,b1,b2];rfl) rfl ?_
    exact dN.long HC.out HNS.out ((((Grows.trans _ _ _ HGA.out xo).set (Ae _) _).set (Ae _) _).set (Ae _) _)
end
section
open Go Go.RowKit
theorem mP0 (P:List bD) (w:World) (T:TypeId) (hl:P.length<=1000000):aF (w.alloc (.cells (P.flatMap lG).toArray T)) (some ⟨w.heap.size,0,none⟩) 2 (P.map lG):=by
 have h:=jB (enc:=lG) (k:=2) (λ_=>rfl) (w:=w) (e:=T) (base:=w.heap.size) (n:=P.length) (Ae _) P (cs:=(P.flatMap lG).toArray) (by simp) rfl (by unfold maxLen;omega);obtain⟨a,c,e,_,_,ac⟩:=h.at_ (k:=2) (λ_=>rfl);have e1:=(Value.slice.inj e).1;rw[e1];exact ac
def bare (p:bD):bD:=⟨p.name,p.data,none,0⟩
theorem tI0 (P:List bD):lI (P.map bare)=lI P:=by simp[lI,bare,Bb,Function.comp_def]
theorem pF0 (P:List bD):dO (P.map bare)=dO P:=by
 simp[dO,dK,dT,bare,Bt]
theorem nY (P:List bD):file14 (P.map bare)=file14 P:=by unfold file14; rw[pF0]
theorem eD0:∀(P:List bD) (seen:List ByteArray),yD (P.map bare) seen=yD P seen
 | [],_=>rfl
 | p::P,seen=>by
  rw[Bi,yD,yD,eD0 P];rfl
theorem qK (P:List bD):fO (P.map bare)=fO P:=by
 unfold fO wH0;rw[tI0,Af,eD0,List.any_map];rfl
theorem fD {W:World} {base:Nat} {v:Value} {data:List UInt8} (h:aU W base 5 1 aX v data):∃a c,v=.slice a data.length c/\aF W a 1 (data.map aX)/\(a=none->c=0):=by
 obtain⟨a,c,rfl,_,_,ac⟩:=h.at_ (k:=1) (λx=>(rfl:(aX x).length=1));refine⟨a,c,rfl,ac,λha=>?_⟩;rcases h.2 with ⟨e,_⟩|⟨g,cap,da,hv,_⟩
 ·exact(Value.slice.inj e).2.2
 ·rw[ha]at hv
  cases (Value.slice.inj hv).1
end
section
open Go Go.RowKit Go.Shelf Go.Sort
theorem tJ0 {w:World} {g n:Nat} {os:Array Obj} (d:Array Nat):w.grownBy (grow (putRow nv (Sort.ahead w n) g 0 d) os) (some g):=by
 refine⟨rfl,rfl,rfl,by simp,λk hk aj=>?_⟩;rw[heap_grow_old _ _ (by simpa using hk)]
 have:g≠k:=λe=>aj (by rw[e])
 simp[putRow,mapBlock,Sort.ahead,Array.getElem?_modify,this]
theorem rS0 {wB w0 W:World} {ob:Nat} {dk:Array Nat} (hB:Grows wB w0) (tq:wB.heap.size<=ob) (S:SWn w0 ob dk W):Grows wB W:=by
 obtain⟨m,os,rfl⟩:=S;exact hB.grown (tJ0 dk) (λq hq=>by cases hq;exact tq)
theorem mP1 {es:List En} {BS:List ByteArray} {ib eb sc ob:Nat} {sa:Option Addr} {wB w0:World} (hn:es.length<=1048576) (hL:BS.length<=1048576) (hB:Grows wB w0) (tq:wB.heap.size<=ob) (hid:hS1 wB ib BS) (bk:wB.cell? ⟨eb,0,none⟩=some (.slice sa es.length sc)) (ac:aF wB sa 5 (es.map aJ))
  (aa:aU w0 wB.heap.size 3 1 kH (.slice (some ⟨ob,0,none⟩) es.length es.length) (Ag es.length)) (ae:ob<w0.heap.size) (hm:∀x∈es,x.s∈BS) (hz:∀x∈es,x.s.size<=maxLen) :
  gC (jX BS es) es.length ob 82 #[.pointer (some ⟨ib,0,none⟩),.pointer (some ⟨eb,0,none⟩)] (Ag es.length).toArray w0/\SWn w0 ob (Ag es.length).toArray w0:=by
 have hH:Holds nv w0 ob 0 (Ag es.length).toArray:=λj hj=>by
  have km:j<es.length:=by simpa using hj
  have h1:=cX (f:=λn:Nat=>Value.int .i64 n) aa (k:=j) (x:=j) (by rw[Ak km]);obtain⟨h2,_,_⟩:=eU (f:=λn:Nat=>Value.int .i64 n) aa (k:=j) (by simpa using km) 0;refine⟨?_,by rw[Be];exact h2⟩;rw[Be,h1];simp[nv,km]
 refine⟨⟨⟨λx=>rfl,hH,ae⟩,by simp,hn,iW1,?_⟩,⟨0,#[],(sortWorld_start nv w0 ob 0 _ hH).symm⟩⟩;intro m os dk hs x y hx hy;have hg:Grows wB (sortWorld nv w0 ob 0 m dk os):=rS0 hB tq ⟨m,os,rfl⟩;have hex:es[x]?=some (es.getD x enZero):=by rw[Ab,Aa hx];rfl
 have hey:es[y]?=some (es.getD y enZero):=by rw[Ab,Aa hy];rfl
 have hmx:=Ac hex;have hmy:=Ac hey;have h:=gQ1 BS ib eb (jX BS es x) (jX BS es y) x y es (es.getD x enZero) (es.getD y enZero) sa sc _ (hid.grows hg) (hg.cell bk) (ac.grows hg) hn hL hex hey (kP (hm _ hmx)) (kP (hm _ hmy)) ⟨hz _ hmx,hz _ hmy⟩;exact h.mono λe w' ⟨h1,h2⟩=>⟨h1,1,#[],by rw[h2,grow_empty];rfl⟩
theorem cU1 {es:List En} {BS:List ByteArray} {ob:Nat} {_wB w0 w':World} {dk:Array Nat} (hs:dk.size=es.length) (hw:Win (jX BS es) (Fd dk) 0 es.length) (hm:∀x∈es,x.s∈BS) (R:Row1 nv w0 ob 0 (Ag es.length).toArray) (S:SWn w0 ob dk w') :
  aF w' (some ⟨ob,0,none⟩) 1 ((grpsL (jX BS es) es.length BS.length).map kH)/\(grpsL (jX BS es) es.length BS.length).length=es.length/\∀i∈grpsL (jX BS es) es.length BS.length,i<es.length:=by
 have h1:(Ag es.length).map (Fd dk)=grpsL (jX BS es) es.length BS.length:=gW1 hw λi hi=>by
  have hex:es[i]?=some (es.getD i enZero):=by rw[Ab,Aa hi];rfl
  exact pG (hm _ (Ac hex))
 rw[<-h1];refine⟨λ_=>⟨ob,0,rfl,λi row hi j u hj=>?_⟩,by simp,λi hi=>?_⟩
 ·rw[Ai,Ai]at hi
  rcases Bn i es.length with ae|uy
  ·rw[Ak ae]at hi
   simp only[Option.map_some,Option.some.injEq]at hi;subst hi
   match j,hj with
   | 0,hj =>
    have:=S.c1 R (by rw[hs];simp) i (by omega)
    simp only[kH,List.getElem?_cons_zero,Option.some.injEq]at hj;subst hj;simpa [Fd,nv] using this
  ·rw[An (by simpa using uy)]at hi
   cases hi
 ·obtain⟨j,hj,rfl⟩:=List.mem_map.1 hi
  rw[Aj]at hj;exact(hw.inn j (Az _) hj).2
end
end Go.Proofs.YtcijgkfpobpdbaaGreatDoor
