/- The texts LoudT W11P PopW PlaceP, one behind the other. -/
import Derived.Test.YtiopheoljccmpaaGreatDoorCq2
import Derived.Test.YtiopheoljccmpaaGreatDoorCq4
import Derived.Test.YtiopheoljccmpaaGreatDoorCq1
import Derived.WalkKit
import Derived.WalkLawsBesides
import Derived.Lib.Hide
import Derived.Laws.BitsAllLaws
import Derived.Laws.Bits128
open List renaming length_replicate → Aa,mem_of_getElem? → Ab,replicate → Ac,getElem?_eq_getElem → Ad,length_append → Ae,dropLast_concat → Af,flatMap_append → Ag,take_add_one → Aj,any_eq_false → Ak
open Option renaming toList_some → Ah
open Nat renaming lt_of_le_of_lt → Ai,le_refl → Am,div_le_self → Ao
open Bool renaming and_eq_true → Al,or_eq_true → An
open Go.Op renaming bytesLess → Ap
set_option maxHeartbeats 2000000
namespace Go.Proofs.YtiopheoljccmpaaGreatDoor
set_option maxRecDepth 100000
section
open Go
structure OkL (L:List (List UInt8)):Prop where
 asc:Asc L
 pos:∀s∈L,s≠[]
 len:∀s∈L,s.length<=256
def nZ (L:List (List UInt8)) (i:Nat):Nat:=(eF (rootS L) (fH L) (nodesA L) i).length
theorem OkL.fix {L:List (List UInt8)} (h:OkL L):nodesA L=rootS L::(nodesA L).flatMap (fH L):=vK0 h.asc h.len
theorem kB0 (L:List (List UInt8)):nZ L 0=1:=rfl
theorem mP {L:List (List UInt8)} {i:Nat} {x:eA} (h:(nodesA L)[i]?=some x):nZ L (i+1)=nZ L i+(fH L x).length:=by
 unfold nZ;rw[qJ h,Ae]
theorem zS0 {L:List (List UInt8)} {i j:Nat} (h:i<=j):nZ L i<=nZ L j:=sM0 h
theorem OkL.off_all {L:List (List UInt8)} (h:OkL L):nZ L (nodesA L).length=(nodesA L).length:=by
 unfold nZ;rw[kD0 h.fix]
theorem OkL.off_le {L:List (List UInt8)} (h:OkL L) (i:Nat):nZ L i<=(nodesA L).length:=bA1 h.fix i
theorem OkL.off_gt {L:List (List UInt8)} (h:OkL L) {i:Nat} (hi:i<(nodesA L).length):i<nZ L i :=
 xB0 h.fix (λx=>x.d) (jF1 L) (sB0 h.asc) hi
theorem OkL.good {L:List (List UInt8)} (h:OkL L) {i:Nat} {x:eA} (hx:(nodesA L)[i]?=some x):vK L x:=tT h.asc (Ab hx)
theorem OkL.uniq {L:List (List UInt8)} (h:OkL L) {i j:Nat} {x:eA} (hi:(nodesA L)[i]?=some x) (hj:(nodesA L)[j]?=some x):i=j:=by
 have key:∀ {i j:Nat},(nodesA L)[i]?=some x->(nodesA L)[j]?=some x->¬i<j:=by
  intro i j hi hj af;obtain⟨h1,h2⟩:=List.getElem?_eq_some_iff.1 hi;obtain⟨h3,h4⟩:=List.getElem?_eq_some_iff.1 hj
  have:=List.pairwise_iff_getElem.1 (qU h.asc) i j h1 h3 af
  rw[h2,h4]at this;unfold zH0 at this;omega
 have k1:=key hi hj;have k2:=key hj hi;omega
theorem OkL.parent {L:List (List UInt8)} (h:OkL L) {k:Nat} {y:eA} (h1:1<=k) (hy:(nodesA L)[k]?=some y):∃p x,(nodesA L)[p]?=some x/\p<k/\nZ L p<=k/\k<nZ L (p+1)/\y∈fH L x:=by
 have hk:=(List.getElem?_eq_some_iff.1 hy).1;obtain⟨p,a,b,c⟩:=vT h.fix (nodesA L).length k h1 (by rw[kD0 h.fix];exact hk);obtain⟨x,hx⟩:∃x,(nodesA L)[p]?=some x:=⟨_,Ad a⟩;have hp:=h.off_gt a;have aat:=hP0 h.fix hx b c;rw[hy]at aat;exact⟨p,x,hx,by unfold nZ at hp;omega,b,c,Ab aat.symm⟩
theorem OkL.kid {L:List (List UInt8)} (h:OkL L) {i k:Nat} {x y:eA} (hx:(nodesA L)[i]?=some x) (h1:nZ L i<=k) (h2:k<nZ L (i+1)) (hy:(nodesA L)[k]?=some y):y∈fH L x:=by
 have aat:=hP0 h.fix hx h1 h2;rw[hy]at aat;exact Ab aat.symm
theorem OkL.cond {L:List (List UInt8)} (h:OkL L) {i k:Nat} {x y:eA} (hx:(nodesA L)[i]?=some x) (h1:nZ L i<=k) (h2:k<=nZ L (i+1)) (hy:(nodesA L)[k]?=some y):(eX L y).dropLast=eX L x↔k<nZ L (i+1):=by
 constructor
 ·intro he
  apply Classical.byContradiction
  intro oz
  have y9:1<=k:=by
   have:=zS0 (L:=L) (Nat.zero_le i)
   rw[kB0]at this;omega
  obtain⟨p,z,hz,_,a,b,hm⟩:=h.parent y9 hy;rw[zC h.asc (h.good hz) hm,Af]at he
  have:=(h.good hz).inj h.asc (h.good hx) he
  subst this
  have:=h.uniq hz hx
  subst this;omega
 ·intro af
  rw[zC h.asc (h.good hx) (h.kid hx h1 af hy),Af]
theorem OkL.ne {L:List (List UInt8)} (h:OkL L) {k:Nat} {y:eA} (h1:1<=k) (hy:(nodesA L)[k]?=some y):eX L y≠[]:=by
 obtain⟨p,x,hx,_,_,_,hm⟩:=h.parent h1 hy;rw[zC h.asc (h.good hx) hm];simp
theorem iT (L:List (List UInt8)) (A:List eA) (x:eA):shapeL L (A++[x])=shapeL L A++Ac (fH L x).length true++[false]:=by
 unfold shapeL;rw[Ag];simp
theorem iW (L:List (List UInt8)) (A:List eA) (x:eA):isL L (A++[x])=isL L A++[lQ L x]:=by simp[isL]
theorem gG (L:List (List UInt8)) (A:List eA) (x:eA):idsL L (A++[x])=idsL L A++if lQ L x then [x.i] else []:=by
 unfold idsL;rw[List.filter_append,List.map_append];by_cases h:lQ L x=true<;>simp[h]
theorem OkL.labels {L:List (List UInt8)} (h:OkL L):labelsL L (nodesA L)=((nodesA L).drop 1).map λy=>(eX L y).getLastD 0:=by
 rw[zA h.asc _ (λx hx=>tT h.asc hx)];congr 1
 have h1:(nodesA L).drop 1=(rootS L::(nodesA L).flatMap (fH L)).drop 1:=congrArg (List.drop 1) h.fix;rw[h1];rfl
def dM (b:List UInt8):List UInt8:=leB 4 b.length++b
def pA (L:List (List UInt8)):List UInt8 :=
 dM (fE0 (shapeL L (nodesA L)))++dM (labelsL L (nodesA L))++dM (fE0 (isL L (nodesA L)))++dM (cG (idsL L (nodesA L)))
theorem fW (L:List (List UInt8)):∀i,i<=(nodesA L).length->(shapeL L ((nodesA L).take i)).length=nZ L i+i+1
 | 0,_=>rfl
 | i+1,hi=>by
  obtain⟨x,hx⟩:∃x,(nodesA L)[i]?=some x:=⟨_,Ad hi⟩;have ih:=fW L i (by omega);rw[Aj,hx,Ah,iT,Ae,Ae,ih,mP hx,Aa];simp;omega
def qM (L:List (List UInt8)) (i:Nat):Bool:=decide ((nth L i).length<1)||decide (256<(nth L i).length)||(decide (0<i) && !Ap (nth L (i-1)) (nth L i))
def lU (L:List (List UInt8)):Bool:=(List.range L.length).any (qM L)
theorem dT0 {L:List (List UInt8)} {i:Nat} (h:i<L.length) (hb:qM L i=true):lU L=true:=List.any_eq_true.2 ⟨i,List.mem_range.2 h,hb⟩
theorem yX {L:List (List UInt8)} (h:∀i,i<L.length->qM L i=false):lU L=false:=by
 unfold lU;rw[Ak];intro i hi;rw[h i (List.mem_range.1 hi)];simp
def cH (L:List (List UInt8)):Nat:=if 20000<L.length then 2 else if lU L=true then 1 else if 524287<dF L then 2 else 0
theorem zI0 {L:List (List UInt8)} (h:lU L=false):OkL L:=by
 unfold lU at h;rw[Ak]at h
 have key:∀i,i<L.length->(1<=(nth L i).length/\(nth L i).length<=256)/\(0<i->Ap (nth L (i-1)) (nth L i)=true):=by
  intro i hi
  have:=h i (List.mem_range.2 hi)
  unfold qM at this;simp only[An,decide_eq_true_eq,Al,Bool.not_eq_true',not_or,not_and,Bool.not_eq_false]at this;exact⟨⟨by omega,by omega⟩,this.2⟩
 refine⟨λj hj=>?_,λs hs=>?_,λs hs=>?_⟩
 ·have:=(key (j+1) hj).2 (by omega)
  rwa [Nat.add_sub_cancel]at this
 ·obtain⟨i,hi⟩:=List.mem_iff_getElem?.1 hs
  have:=(key i (List.getElem?_eq_some_iff.1 hi).1).1.1
  rw[pE0 hi]at this;intro h0;rw[h0]at this;simp at this
 ·obtain⟨i,hi⟩:=List.mem_iff_getElem?.1 hs
  have:=(key i (List.getElem?_eq_some_iff.1 hi).1).1.2
  rw[pE0 hi]at this;exact this
theorem nP {L:List (List UInt8)} (h:cH L=0):OkL L/\L.length<=20000/\dF L<=524287:=by
 unfold cH at h;split at h
 ·omega
 ·rename_i h1
  split at h
  ·omega
  ·rename_i h2
   split at h
   ·omega
   ·exact⟨zI0 (by simpa using h2),by omega,by omega⟩
theorem mE0 (n:Nat) (out:List (List UInt8)) (s:List UInt8):(dV n out s).length<=out.length+1:=by
 unfold dV;split<;>simp
theorem pH0 (L:List (List UInt8)) (n:Nat):(aL1 L n).length<=L.length:=by
 have key:∀(L:List (List UInt8)) (out:List (List UInt8)),(L.foldl (dV n) out).length<=out.length+L.length:=by
  intro L
  induction L with
  | nil=>intro out;simp
  | cons s L ih =>
   intro out;rw[List.foldl_cons,List.length_cons]
   have:=ih (dV n out s)
   have:=mE0 n out s
   omega
 have h:=key L [];rw[List.length_nil,Nat.zero_add]at h;exact h
def pS (L:List (List UInt8)) (n:Nat):List (List UInt8):=[]::(List.range' 1 n).flatMap (aL1 L)
theorem wX (L:List (List UInt8)) (n:Nat):pS L (n+1)=pS L n++aL1 L (n+1):=by
 unfold pS;rw[List.range'_concat,Ag];simp[Nat.add_comm]
theorem rF (L:List (List UInt8)):∀n,(pS L n).length<=1+n*L.length
 | 0=>by simp[pS]
 | n+1=>by
  rw[wX,Ae,Nat.succ_mul]
  have:=rF L n
  have:=pH0 L (n+1)
  omega
end
section
open Go Go.RowKit
theorem kX1 {a b c:Nat} (h:c=a+b):(a:Int)+b=c:=by omega
theorem kE1 (x:Nat):((x/2:Nat):Int)=(x:Int)/2:=by omega
theorem kD1 (x:Nat):((x/4:Nat):Int)=(x:Int)/4:=by omega
theorem kS1 (x:Nat):((x/16+x:Nat):Int)=(x:Int)/16+x:=by omega
theorem kI1 (x:Nat):((x+x/4294967296:Nat):Int)=(x:Int)+(x:Int)/4294967296:=by omega
theorem kN1 {x y:Nat} (h:x+x/256=y):(x:Int)+(x:Int)/256=y:=by omega
theorem kP1 {x y:Nat} (h:x+x/65536=y):(x:Int)+(x:Int)/65536=y:=by omega
theorem gY1 {x Y Z:Nat} (b5:x<=1085102592571150095) (hY:x+x/256=Y) (hZ:Y+Y/65536=Z):wrap64 ((Z:Int)+(Z:Int)/4294967296)=(Z:Int)+(Z:Int)/4294967296:=by
 have h8:Z+Z/4294967296<4611686018427387904:=by omega
 unfold wrap64;omega
theorem lE1 {Z S:Nat} (h:(Z+Z/4294967296)%128=S):((Z:Int)+(Z:Int)/4294967296)%128=S:=by omega
theorem fD0 (x:Nat) (w:World) (hx:x<18446744073709551616) :
  Calls Tryz.prog 158 #[.int .u64 x] w λe w'=>e=.returned (.int .i64 (yV 2 64 x))/\w=w':=by
 obtain⟨x1,h1⟩:=exq (((x>>>1)&&&6148914691236517205)+(x&&&6148914691236517205));obtain⟨x2,h2⟩:=exq (((x1>>>2)&&&3689348814741910323)+(x1&&&3689348814741910323));obtain⟨x3,h3⟩:=exq ((x2>>>4+x2)&&&1085102592571150095);obtain⟨b1,b2,b23,b3,Y,Z,hY,hZ,bY,bZ,bS,hS⟩:=kB1 h1 h2 h3;obtain⟨S,hSd⟩:=exq (yV 2 64 x);rw[<-hSd]at hS ⊢;clear hSd;simp only[Nat.shiftRight_eq_div_pow,Nat.reducePow]at h1 h2 h3 hY hZ hS b23 bS;have c1:=kE1 x;have c3:=kD1 x1;have c5:=kS1 x2;have c6:=kI1 Z;have e1:bits .and .u64 ((x:Int)/2) 6148914691236517205=((x/2&&&6148914691236517205:Nat):Int):=by rw[<-c1];exact u64_and_nat (x/2) 6148914691236517205 (Ai (Ao _ _) hx) (by decide)
 have e2:bits .and .u64 (x:Int) 6148914691236517205=((x&&&6148914691236517205:Nat):Int):=u64_and_nat x 6148914691236517205 hx (by decide);have e3:bits .and .u64 ((x1:Int)/4) 3689348814741910323=((x1/4&&&3689348814741910323:Nat):Int):=by rw[<-c3];exact u64_and_nat (x1/4) 3689348814741910323 (Ai (Ao _ _) b1) (by decide)
 have e4:bits .and .u64 (x1:Int) 3689348814741910323=((x1&&&3689348814741910323:Nat):Int):=u64_and_nat x1 3689348814741910323 b1 (by decide)
 have e5:bits .and .u64 ((x2:Int)/16+x2) 1085102592571150095=(x3:Int):=by
  rw[h3,<-c5];exact u64_and_nat (x2/16+x2) 1085102592571150095 b23 (by decide)
 have a1:((x/2&&&6148914691236517205:Nat):Int)+((x&&&6148914691236517205:Nat):Int)=(x1:Int):=kX1 h1;have a2:((x1/4&&&3689348814741910323:Nat):Int)+((x1&&&3689348814741910323:Nat):Int)=(x2:Int):=kX1 h2;have a3:(x3:Int)+(x3:Int)/256=(Y:Int):=kN1 hY;have a4:(Y:Int)+(Y:Int)/65536=(Z:Int):=kP1 hZ;have hw:∀n:Nat,n<18446744073709551616->IntKind.u64.wrap (n:Int)=n:=λn h=>by simp[IntKind.wrap,IntKind.bits,IntKind.signed];omega
 have w1:=hw x1 b1;have w2:=hw x2 b2;have w3:=hw Y bY;have w4:=hw Z bZ;have w5:IntKind.u64.wrap ((x2:Int)/16+x2)=(x2:Int)/16+x2:=by rw[<-c5];exact hw (x2/16+x2) b23
 have w6:IntKind.u64.wrap ((Z:Int)+(Z:Int)/4294967296)=(Z:Int)+(Z:Int)/4294967296:=by rw[<-c6];exact hw (Z+Z/4294967296) bS
 have b5:x3<=1085102592571150095:=by rw[h3];exact Nat.and_le_right
 have w7:=gY1 b5 hY hZ
 have hS2:((Z:Int)+(Z:Int)/4294967296)%128=S:=by
  exact lE1 (by rw[<-hS,fD1])
 have e6:=i64_and127 ((Z:Int)+(Z:Int)/4294967296);rw[hS2]at e6;clear c1 c3 c5 c6 h1 h2 h3 hY hZ hw b1 b2 b3 bY bZ;go_enter Tryz.func158,Tryz.ntmps158
 go_wp2
 go_ret;exact⟨rfl,rfl⟩
end
section
open Go
theorem cX0 {l m:List Bool} {i:Nat} (h:i<l.length):fQ (l++m) i=fQ l i:=by
 grind [fQ]
theorem aN0 (l m:List Bool) (i:Nat):fQ (l++m) (l.length+i)=fQ m i:=by
 grind [fQ]
theorem gV0 {n i:Nat} (h:i<n):fQ (Ac n true) i=true:=by
 grind [fQ]
theorem uY (l m:List Bool):∀i,i<=l.length->fE (l++m) i=fE l i
 | 0,_=>rfl
 | i+1,h=>by rw[iS,iS,uY l m i (by omega),cX0 h]
theorem nI (l m:List Bool):∀i,fE (l++m) (l.length+i)=fE l l.length+fE m i
 | 0=>uY l m l.length (Am _)
 | i+1=>by rw[<-Nat.add_assoc,iS,iS,nI l m i,aN0];omega
theorem aT0 (n:Nat):∀i,i<=n->fE (Ac n true) i=i
 | 0,_=>rfl
 | i+1,h=>by rw[iS,aT0 n i (by omega),gV0 h];simp
theorem iI0 (L:List (List UInt8)):∀i,i<=(nodesA L).length->fE (shapeL L ((nodesA L).take i)) (nZ L i+i+1)=nZ L i
 | 0,_=>rfl
 | i+1,hi=>by
  obtain⟨x,hx⟩:∃x,(nodesA L)[i]?=some x:=⟨_,Ad hi⟩;have ih:=iI0 L i (by omega);have hl:=fW L i (by omega);rw[Aj,hx,Ah,iT,mP hx,List.append_assoc];rw[show nZ L i+(fH L x).length+(i+1)+1=(shapeL L ((nodesA L).take i)).length+((fH L x).length+1) by omega,nI,hl,ih]
  congr 1
  have h2:=nI (Ac (fH L x).length true) [false] 1;rw[Aa]at h2;rw[h2,aT0 _ _ (Am _)];rfl
theorem mN0 {L:List (List UInt8)} {A:List eA} {p:Nat} {x:eA} (hx:A[p]?=some x):∃rest,shapeL L A=shapeL L (A.take p)++(Ac (fH L x).length true++([false]++rest)):=by
 obtain⟨hp,he⟩:=List.getElem?_eq_some_iff.1 hx;refine⟨(A.drop (p+1)).flatMap λx=>Ac (fH L x).length true++[false],?_⟩
 have h1:A=A.take p++([x]++A.drop (p+1)):=by
  rw[List.singleton_append,<-he,List.getElem_cons_drop,List.take_append_drop]
 grind [shapeL]
theorem uZ0 {L:List (List UInt8)} {k p:Nat} {x:eA} (hx:(nodesA L)[p]?=some x) (h1:nZ L p<=k) (h2:k<nZ L (p+1)) :
  fQ (shapeL L (nodesA L)) (k+p+1)=true/\kS (shapeL L (nodesA L)) true (k+p+1)=k/\kS (shapeL L (nodesA L)) false (k+p+1)=p+1:=by
 have hp:=(List.getElem?_eq_some_iff.1 hx).1;have hl:=fW L p (by omega);have hr:=iI0 L p (by omega);rw[mP hx]at h2;obtain⟨rest,hs⟩:=mN0 (L:=L) hx;have e:k+p+1=(shapeL L ((nodesA L).take p)).length+(k-nZ L p):=by omega
 have hT:fE (shapeL L (nodesA L)) (k+p+1)=k:=by
  rw[hs,e,nI,hl,hr,uY _ _ _ (by rw[Aa];omega),aT0 _ _ (by omega)];omega
 refine⟨?_,hT,?_⟩
 ·rw[hs,e,aN0,cX0 (by rw[Aa];omega),gV0 (by omega)]
 ·show k+p+1-fE _ _=p+1
  rw[hT];omega
theorem OkL.node {L:List (List UInt8)} (h:OkL L) {j:Nat} (hj:j<L.length):∃(i:Nat) (x:eA),(nodesA L)[i]?=some x/\lQ L x=true/\x.i=j:=by
 have ew:nth L j∈L:=Ab (jV hj);have hp:0<(nth L j).length:=List.length_pos_iff.2 (h.pos _ ew);have ahu:=h.len _ ew;have hf:=(gY h.asc (nth L j).length).firsts hp
 have jg:j∈(lv L (nth L j).length).map (λx=>x.i):=by
  rw[hf,List.mem_filter];refine⟨by simp_all,?_⟩;unfold dP;simp only[Al,decide_eq_true_eq,An,beq_iff_eq];refine⟨Am _,?_⟩;rcases Nat.eq_zero_or_pos j with h0|h0
  ·exact Or.inl h0
  ·exact Or.inr (pM (h.asc.lt j (j-1) (by omega) hj))
 obtain⟨x,hx,hxi⟩:=List.mem_map.1 jg;obtain⟨g,hd,_,_⟩:=(gY h.asc (nth L j).length).mem x hx
 have hA:x∈nodesA L:=by
  unfold nodesA;exact by grind
 obtain⟨i,hi⟩:=List.mem_iff_getElem?.1 hA;refine⟨i,x,hi,?_,hxi⟩;unfold lQ;rw[hxi];have af:x.i<x.t:=by rcases g.ne with h|h<;>omega
 simp;omega
end
end Go.Proofs.YtiopheoljccmpaaGreatDoor
