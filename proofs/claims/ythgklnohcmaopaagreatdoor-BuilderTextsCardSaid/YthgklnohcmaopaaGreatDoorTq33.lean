/- The texts ParB, one behind the other. -/
import Derived.Test.YthgklnohcmaopaaGreatDoorTq21
import Derived.Test.YthgklnohcmaopaaGreatDoorTq23
import Derived.Test.YthgklnohcmaopaaGreatDoorTq32
import Derived.Test.YthgklnohcmaopaaGreatDoorTq14
import Derived.Test.YthgklnohcmaopaaGreatDoorTq19
import Derived.Test.YthgklnohcmaopaaGreatDoorTq24
open Go.Lib renaming itoa → Aa,decDigits → Af
open Bool renaming and_eq_true → Ab,false_eq_true → Ai
open List renaming getElem?_eq_getElem → Ac,mem_cons → Ag,mem_cons_self → Ah,mem_append → Aj,map_cons → Ak
open Nat renaming le_refl → Ad,div_lt_of_lt_mul → Ae,mod_lt → Al
namespace Go.Proofs.YthgklnohcmaopaaGreatDoor
open Go Go.RowKit
theorem bR0 (c:UInt8) (s:ByteArray):splitS c s=(cE c s.data.toList).map mkB:=tS c s
theorem lV:∀(n:Nat) (l:List UInt8),l.length<=n->65533∉eU l->Lib.validD l=true
 | 0,l,hl,_=>by
  have:l=[]:=List.eq_nil_of_length_eq_zero (by omega)
  subst this;rfl
 | n+1,l,hl,h=>by
  by_cases ai:l=[]
  ·subst ai;rfl
  ·have an:0<l.length:=List.length_pos_iff.2 ai
   have hw:=Lib.decodeL_width l;rw[eO l ai]at h;rw[Lib.validD_step l ai,if_neg (λhb=>h (by rw[hb.1];exact Ah))];exact lV n _ (by rw[List.length_drop];omega) (λhm=>h (List.mem_cons_of_mem _ hm))
theorem kX0 {s:ByteArray} (h:fV s=true):s.data.toList≠[]/\∀b∈s.data.toList,45<=b.toNat:=by
 rw[tW]at h;simp only[Ab,decide_eq_true_eq,Bool.not_eq_true',List.any_eq_false]at h;obtain⟨⟨ai,_⟩,ay⟩:=h;have hv:=lV _ _ (Ad _) (λhm=>ay _ hm (by decide));refine⟨λe=>by rw[Lib.toList_data,e]at ai;simp at ai,λb hb=>?_⟩;rcases Nat.lt_or_ge b.toNat 45 with ae|jn
 ·exfalso
  apply ay _ (kC _ _ (Ad _) hv b hb (by omega))
  unfold nameBad;simp;omega
 ·exact jn
theorem tA {name:ByteArray}:∀ {l:List bD} {i j:Nat} {p:bD},l[j]?=some p->p.name=name->(fO name l i).isSome=true
 | [],_,_,_,h,_=>by simp at h
 | q::l,i,0,p,h,hn=>by
  obtain rfl:q=p:=by simpa using h
  rw[fO,if_pos (rL.2 hn)];rfl
 | q::l,i,j+1,p,h,hn=>by
  rw[fO];split
  ·rfl
  ·exact tA (by simpa using h) hn
theorem zQ {L:List bD}:∀ {l:List bD} {i j:Nat} {q:bD},cO L l i=true->l[j]?=some q->lN L (i+j) q=true
 | [],_,_,_,_,h=>by simp at h
 | r::l,i,0,q,ha,h=>by
  rw[cO,Ab]at ha;obtain rfl:r=q:=by simpa using h
  exact ha.1
 | r::l,i,j+1,q,ha,h=>by
  rw[cO,Ab]at ha
  have:=zQ ha.2 (by simpa using h:l[j]?=some q)
  rwa [show i+1+j=i+(j+1) by omega]at this
theorem qO {p:List bD} (hv:aQ p=true) {k:Nat} (hk:k<p.length):posFind p (dH p (k:Int))=some k/\fV (dH p (k:Int))=true:=by
 have ha:cO p p 0=true:=by
  cases p with
  | nil=>rfl
  | cons p0 r =>
   have h:(decide ((p0::r).length<=64)&&rE p0&&cO (p0::r) (p0::r) 0)=true:=hv;simp only[Ab]at h;exact h.2
 have hq:=Ac hk;have aq:=zQ ha hq;rw[Nat.zero_add]at aq;unfold lN at aq;simp only[Ab,beq_iff_eq]at aq;have hn:dH p (k:Int)=p[k].name:=by unfold dH;rw[Int.toNat_natCast,hq];rfl
 rw[hn];have hs:=tA (i:=0) hq rfl;obtain⟨j,hj⟩:=Option.isSome_iff_exists.1 hs;refine⟨?_,aq.1.1.2⟩;have h1:=aq.1.1.1;have wz:posFind p p[k].name=some j:=hj;rw[wz]at h1 ⊢
 have:(j:Int)=k:=h1
 rw[show j=k by omega]
theorem zV0 {c:Int} (h0:0<=c) (h1:c<=30000):qT (Aa c)=true/\decVal (Aa c)=c.toNat/\∀b∈Aa c,48<=b.toNat:=by
 have e:Aa c=Af c.toNat:=by unfold Aa;rw[if_neg (by omega)]
 have hd:=iA c.toNat c.toNat (Ad _);refine⟨?_,by rw[e];exact lE _ _ (Ad _),λb hb=>?_⟩
 ·rw[e]
  unfold qT;rw[hd];have h5:=iR 5 c.toNat (by omega) (by omega)
  have ai:(Af c.toNat).isEmpty=false:=by
   cases h:Af c.toNat with
   | nil=>exact absurd h (mR _)
   | cons _ _=>rfl
  rw[ai];simp[h5]
 ·rw[e]at hb
  have:=List.all_eq_true.1 hd b hb
  unfold fC at this;simp at this;omega
theorem dU1 {c:Int} (h0:0<=c) (h1:c<=30000):numMb (mkB (Aa c))=true/\numMv (mkB (Aa c))=c:=by
 obtain⟨h2,h3,_⟩:=zV0 h0 h1;unfold numMb numMv;rw[bQ,h2,h3];refine⟨?_,?_⟩
 ·simp;omega
 ·simp;omega
def xD (p:List bD) (m:Mx) (i:Nat):List UInt8:=xJ 9 [(dH p (i/m.n:Nat)).data.toList,(dH p (i%m.n:Nat)).data.toList,Aa (m.cs.getD i 0)]
theorem zY0 (p:List bD) (m:Mx) (i:Nat):oZ p m i=xD p m i++[10]:=by
 unfold oZ xD;simp[xJ]
theorem rS0 {m:Mx} (hm:m.OK) {i:Nat} (hi:i<m.n*m.n):0<=m.cs.getD i 0/\m.cs.getD i 0<=30000:=by
 have hl:=hm.len;rw[List.getD_eq_getElem?_getD,Ac (by omega)];exact hm.cost _ (List.getElem_mem _)
theorem mK {l:List UInt8} {k:Nat} (c:UInt8) (h:∀b∈l,k<=b.toNat) (hc:c.toNat<k):c∉l:=λhm=>by have:=h c hm; omega
theorem yW {p:List bD} {m:Mx} (hm:m.OK) (hv:aQ p=true) (hl:p.length=m.n) {i:Nat} (hi:i<m.n*m.n) :
  (10:UInt8)∉xD p m i/\cF (mkB (xD p m i))=false/\splitS 9 (mkB (xD p m i))=[dH p (i/m.n:Nat),dH p (i%m.n:Nat),mkB (Aa (m.cs.getD i 0))]:=by
 have hn:=hm.n1;have hr:i/m.n<p.length:=by rw[hl];exact Ae hi
 have hq:i%m.n<p.length:=by rw[hl];exact Al _ (by omega)
 obtain⟨_,a2⟩:=qO hv hr;obtain⟨_,b2⟩:=qO hv hq;obtain⟨a3,a4⟩:=kX0 a2;obtain⟨b3,b4⟩:=kX0 b2;obtain⟨c0,c1⟩:=rS0 hm hi;obtain⟨_,_,c4⟩:=zV0 c0 c1;generalize hA:dH p ((i/m.n:Nat):Int)=A at *;generalize hB:dH p ((i%m.n:Nat):Int)=B at *;generalize hC:Aa (m.cs.getD i 0)=C at *
 have yx:xD p m i=A.data.toList++9::(B.data.toList++9::C):=by
  unfold xD;rw[hA,hB,hC];simp[xJ]
 refine⟨?_,?_,?_⟩
 ·rw[yx]
  simp only[Aj,Ag,not_or];exact⟨mK 10 a4 (by decide),by decide,mK 10 b4 (by decide),by decide,mK 10 c4 (by decide)⟩
 ·rw[yx]
  unfold cF;rw[bQ]
  cases hAl:A.data.toList with
  | nil=>exact absurd hAl a3
  | cons x r =>
   have hx:=a4 x (by rw[hAl];simp)
   have:¬x=35:=λe=>by rw[e]at hx;exact absurd hx (by decide)
   simp[this]
 ·rw[bR0,bQ]
  unfold xD
  rw[hA,hB,hC,oK 9 (by simp) (λy hy=>by
   simp only[Ag,List.not_mem_nil,or_false]at hy;rcases hy with rfl|rfl|rfl
   ·exact mK 9 a4 (by decide)
   ·exact mK 9 b4 (by decide)
   ·exact mK 9 c4 (by decide))]
  have mk:∀s:ByteArray,mkB s.data.toList=s:=λs=>rfl;simp[mk]
theorem yL {p:List bD} {m:Mx} (hm:m.OK) (hv:aQ p=true) (hl:p.length=m.n):∀ {L:List Nat},(∀i∈L,i<m.n*m.n)->cE 10 (L.flatMap (oZ p m))=L.map (xD p m)++[[]]
 | [],_=>rfl
 | i::L,h=>by
  rw[List.flatMap_cons,zY0,List.append_assoc,List.singleton_append,gE _ (yW hm hv hl (h i (by simp))).1,yL hm hv hl (λa ha=>h a (by simp[ha]))];rfl
theorem aF0 {p:List bD} {m:Mx} (hm:m.OK) (hv:aQ p=true) (hl:p.length=m.n):∀(L A:List Nat) (j k:Nat) (seen:List (Nat×Nat)),m.idx=A++L->(∀a∈A,a<j)->(∀a∈L,j<=a)->(∀x∈seen,x.1*m.n+x.2<j) ->
  nY p (L.map (λi=>mkB (xD p m i))++[mkB []]) k (some (bQ0 m j,seen))=(some m,0,0)
 | [],A,j,k,seen,hidx,hA,_,_=>by
  have hs:cF (mkB [])=true:=rfl;rw[List.map_nil,List.nil_append,lI,if_pos hs];show (some (bQ0 m j),(0:Int),(0:Int))=_
  rw[yU0 hm λi s5 hi=>vT hi λcz=>?_];rw[hidx,List.append_nil]at cz
  have:=hA i cz
  omega
 | i::L,A,j,k,seen,hidx,hA,hL,hsn=>by
  have cz:i∈m.idx:=by rw[hidx];simp
  obtain⟨hi,hid⟩:=Mx.mem_idx.1 cz;have ew:=hL i (Ah ..);have pu:(A++i::L).Pairwise (· < ·):=by rw[<-hidx];exact Mx.idx_up
  rw[List.pairwise_append,List.pairwise_cons]at pu;obtain⟨_,⟨acz,_⟩,_⟩:=pu;obtain⟨c0,c1⟩:=rS0 hm hi;obtain⟨_,nj,hsp⟩:=yW hm hv hl hi;have hn:=hm.n1;have hr:i/m.n<p.length:=by rw[hl];exact Ae hi
  have hq:i%m.n<p.length:=by rw[hl];exact Al _ (by omega)
  obtain⟨f1,_⟩:=qO hv hr;obtain⟨f2,_⟩:=qO hv hq;obtain⟨n1,n2⟩:=dU1 c0 c1;have hdm:i/m.n*m.n+i%m.n=i:=by rw[Nat.mul_comm];exact Nat.div_add_mod i m.n
  have qg:(i/m.n,i%m.n)∉seen:=λh=>by
   have:=hsn _ h
   simp only at this;omega
  have af1:(bQ0 m j).setIf (((i/m.n:Nat):Int),((i%m.n:Nat):Int)) (m.cs.getD i 0)=bQ0 m (i+1):=by
   have hB:(bQ0 m j).setB (dW m.n i) (m.cs.getD i 0)=true:=zE0 (m:=bQ0 m j) hi (uC.2 ⟨c0,c1⟩);show (bQ0 m j).setIf (dW m.n i) _=_
   rw[dB0 hB]
   exact xG0 hi ew λa ha1 ha2=>vT (by omega) λnf=>by
    rw[hidx]at nf;rcases List.mem_append.1 nf with h|h
    ·have:=hA a h;omega
    ·rcases List.mem_cons.1 h with rfl|h
     ·omega
     ·have:=acz a h;omega
  have d9:fS p (some (bQ0 m j,seen)) (splitS 9 (mkB (xD p m i)))=(some (bQ0 m (i+1),(i/m.n,i%m.n)::seen),0):=by
   rw[hsp,wO n1,f1,f2];simp only;rw[if_neg qg,n2,af1]
  rw[Ak,List.cons_append,lI,nj,d9];simp only[Ai,if_false,if_true];refine aF0 hm hv hl L (A++[i]) (i+1) _ _ (by rw[hidx];simp) (λa ha=>?_) (λa ha=>acz a ha) (λx hx=>?_)
  ·rcases List.mem_append.1 ha with ha|ha
   ·have:=hA a ha;omega
   ·rw[List.mem_singleton.1 ha];omega
  ·rcases List.mem_cons.1 hx with rfl|hx
   ·simp only;omega
   ·have:=hsn x hx;omega
theorem print_parM {p:List bD} {m:Mx} (hm:m.OK) (hv:aQ p=true) (hl:p.length=m.n) (hs:(m.print p).length<=1048576):xB0 (mkB (m.print p)) p=(some m,0,0):=by
 obtain⟨hd0,gj⟩:=And.intro hm.d1 hm.d2;obtain⟨n1,n2⟩:=dU1 hd0 gj;obtain⟨_,_,c4⟩:=zV0 hd0 gj
 have af2:m.print p=([100,101,102,97,117,108,116]++9::Aa m.d)++10::m.idx.flatMap (oZ p m):=by
  unfold Mx.print;simp
 have h10:(10:UInt8)∉([100,101,102,97,117,108,116]++9::Aa m.d:List UInt8):=by
  simp only[Aj,Ag,not_or];exact⟨by decide,by decide,mK 10 c4 (by decide)⟩
 unfold xB0;rw[if_neg (by rw[Lib.size_eq,bQ];omega),if_pos hv,bR0,bQ,af2,gE _ h10,yL hm hv hl (λi hi=>(Mx.mem_idx.1 hi).1)];rw[Ak,List.map_append,List.map_map,lI]
 have nj:cF (mkB ([100,101,102,97,117,108,116]++9::Aa m.d))=false:=by
  unfold cF;rw[bQ];simp
 have hsp:splitS 9 (mkB ([100,101,102,97,117,108,116]++9::Aa m.d))=[bQ1,mkB (Aa m.d)]:=by
  rw[bR0,bQ,gE _ (by decide),oQ (mK 9 c4 (by decide))];rfl
 rw[nj,hsp,dL0 rfl n1,n2,hl,<-rJ0];simp only[Ai,if_false,if_true];exact aF0 hm hv hl m.idx [] 0 _ [] rfl (λa ha=>by cases ha) (λa _=>Nat.zero_le a) (λx hx=>by cases hx)
end Go.Proofs.YthgklnohcmaopaaGreatDoor
