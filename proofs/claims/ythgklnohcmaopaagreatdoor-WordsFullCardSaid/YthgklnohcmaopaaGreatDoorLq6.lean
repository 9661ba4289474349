/- The texts LoudT W11P PopW PlaceP, one behind the other. -/
import Derived.Test.YthgklnohcmaopaaGreatDoorLq2
import Derived.Test.YthgklnohcmaopaaGreatDoorLq4
import Derived.Test.YthgklnohcmaopaaGreatDoorLq1
import Derived.WalkKit
import Derived.WalkLawsBesides
import Derived.Lib.Hide
import Derived.Laws.BitsAllLaws
import Derived.Laws.Bits128
open List renaming replicate → Aa,length_append → Ab,length_replicate → Ac,mem_of_getElem? → Ad,getElem?_eq_getElem → Ae,take_append_drop → Af,flatMap_append → Ag,take_add_one → Aj,any_eq_false → Ak
open Option renaming toList_some → Ah
open Nat renaming lt_of_le_of_lt → Ai,le_refl → Am,div_le_self → Ao
open Bool renaming and_eq_true → Al,or_eq_true → An
open Go.Op renaming bytesLess → Ap
set_option maxHeartbeats 2000000
namespace Go.Proofs.YthgklnohcmaopaaGreatDoor
set_option maxRecDepth 100000
section
open Go
structure OkL (L:List (List UInt8)):Prop where
 asc:Asc L
 pos:∀s∈L,s≠[]
 len:∀s∈L,s.length<=256
def offA (L:List (List UInt8)) (i:Nat):Nat:=(eX (rootS L) (fX L) (nodesA L) i).length
theorem OkL.fix {L:List (List UInt8)} (h:OkL L):nodesA L=rootS L::(nodesA L).flatMap (fX L):=wW0 h.asc h.len
theorem sZ (L:List (List UInt8)):offA L 0=1:=rfl
theorem mJ {L:List (List UInt8)} {i:Nat} {x:dP} (h:(nodesA L)[i]?=some x):offA L (i+1)=offA L i+(fX L x).length:=by
 unfold offA;rw[qL h,Ab]
theorem mX {L:List (List UInt8)} {i j:Nat} (h:i<=j):offA L i<=offA L j:=wJ0 h
theorem OkL.off_all {L:List (List UInt8)} (h:OkL L):offA L (nodesA L).length=(nodesA L).length:=by
 unfold offA;rw[jN0 h.fix]
theorem OkL.off_le {L:List (List UInt8)} (h:OkL L) (i:Nat):offA L i<=(nodesA L).length:=fW1 h.fix i
theorem OkL.off_gt {L:List (List UInt8)} (h:OkL L) {i:Nat} (hi:i<(nodesA L).length):i<offA L i :=
 zT0 h.fix (λx=>x.d) (jH0 L) (tO0 h.asc) hi
theorem OkL.good {L:List (List UInt8)} (h:OkL L) {i:Nat} {x:dP} (hx:(nodesA L)[i]?=some x):vZ L x:=mU h.asc (Ad hx)
theorem OkL.uniq {L:List (List UInt8)} (h:OkL L) {i j:Nat} {x:dP} (hi:(nodesA L)[i]?=some x) (hj:(nodesA L)[j]?=some x):i=j:=by
 have key:∀ {i j:Nat},(nodesA L)[i]?=some x->(nodesA L)[j]?=some x->¬i<j:=by
  intro i j hi hj ae;obtain⟨h1,h2⟩:=List.getElem?_eq_some_iff.1 hi;obtain⟨h3,h4⟩:=List.getElem?_eq_some_iff.1 hj
  have:=List.pairwise_iff_getElem.1 (jN h.asc) i j h1 h3 ae
  rw[h2,h4]at this;unfold rD0 at this;omega
 have k1:=key hi hj;have k2:=key hj hi;omega
theorem OkL.parent {L:List (List UInt8)} (h:OkL L) {k:Nat} {y:dP} (h1:1<=k) (hy:(nodesA L)[k]?=some y):∃p x,(nodesA L)[p]?=some x/\p<k/\offA L p<=k/\k<offA L (p+1)/\y∈fX L x:=by
 have hk:=(List.getElem?_eq_some_iff.1 hy).1;obtain⟨p,a,b,c⟩:=wG h.fix (nodesA L).length k h1 (by rw[jN0 h.fix];exact hk);obtain⟨x,hx⟩:∃x,(nodesA L)[p]?=some x:=⟨_,Ae a⟩;have hp:=h.off_gt a;have xh:=lV0 h.fix hx b c;rw[hy]at xh;exact⟨p,x,hx,by unfold offA at hp;omega,b,c,Ad xh.symm⟩
theorem OkL.kid {L:List (List UInt8)} (h:OkL L) {i k:Nat} {x y:dP} (hx:(nodesA L)[i]?=some x) (h1:offA L i<=k) (h2:k<offA L (i+1)) (hy:(nodesA L)[k]?=some y):y∈fX L x:=by
 have xh:=lV0 h.fix hx h1 h2;rw[hy]at xh;exact Ad xh.symm
theorem nU (L:List (List UInt8)) (A:List dP) (x:dP):shapeL L (A++[x])=shapeL L A++Aa (fX L x).length true++[false]:=by
 unfold shapeL;rw[Ag];simp
theorem qP0 (L:List (List UInt8)) (A:List dP) (x:dP):isL L (A++[x])=isL L A++[jB L x]:=by simp[isL]
theorem lK0 (L:List (List UInt8)) (A:List dP) (x:dP):idsL L (A++[x])=idsL L A++if jB L x then [x.i] else []:=by
 unfold idsL;rw[List.filter_append,List.map_append];by_cases h:jB L x=true<;>simp[h]
theorem OkL.labels {L:List (List UInt8)} (h:OkL L):labelsL L (nodesA L)=((nodesA L).drop 1).map λy=>(spanS L y).getLastD 0:=by
 rw[bR0 h.asc _ (λx hx=>mU h.asc hx)];congr 1
 have h1:(nodesA L).drop 1=(rootS L::(nodesA L).flatMap (fX L)).drop 1:=congrArg (List.drop 1) h.fix;rw[h1];rfl
def fC (b:List UInt8):List UInt8:=leB 4 b.length++b
def loudE (L:List (List UInt8)):List UInt8 :=
 fC (oT (shapeL L (nodesA L)))++fC (labelsL L (nodesA L))++fC (oT (isL L (nodesA L)))++fC (packE (idsL L (nodesA L)))
theorem eY (L:List (List UInt8)):∀i,i<=(nodesA L).length->(shapeL L ((nodesA L).take i)).length=offA L i+i+1
 | 0,_=>rfl
 | i+1,hi=>by
  obtain⟨x,hx⟩:∃x,(nodesA L)[i]?=some x:=⟨_,Ae hi⟩;have ih:=eY L i (by omega);rw[Aj,hx,Ah,nU,Ab,Ab,ih,mJ hx,Ac];simp;omega
def cC0 (L:List (List UInt8)) (i:Nat):Bool:=decide ((nth L i).length<1)||decide (256<(nth L i).length)||(decide (0<i) && !Ap (nth L (i-1)) (nth L i))
def pJ (L:List (List UInt8)):Bool:=(List.range L.length).any (cC0 L)
theorem uY0 {L:List (List UInt8)} {i:Nat} (h:i<L.length) (hb:cC0 L i=true):pJ L=true:=List.any_eq_true.2 ⟨i,List.mem_range.2 h,hb⟩
theorem aI0 {L:List (List UInt8)} (h:∀i,i<L.length->cC0 L i=false):pJ L=false:=by
 unfold pJ;rw[Ak];intro i hi;rw[h i (List.mem_range.1 hi)];simp
def fY (L:List (List UInt8)):Nat:=if 20000<L.length then 2 else if pJ L=true then 1 else if 524287<eA L then 2 else 0
theorem jO1 {L:List (List UInt8)} (h:pJ L=false):OkL L:=by
 unfold pJ at h;rw[Ak]at h
 have key:∀i,i<L.length->(1<=(nth L i).length/\(nth L i).length<=256)/\(0<i->Ap (nth L (i-1)) (nth L i)=true):=by
  intro i hi
  have:=h i (List.mem_range.2 hi)
  unfold cC0 at this;simp only[An,decide_eq_true_eq,Al,Bool.not_eq_true',not_or,not_and,Bool.not_eq_false]at this;exact⟨⟨by omega,by omega⟩,this.2⟩
 refine⟨λj hj=>?_,λs hs=>?_,λs hs=>?_⟩
 ·have:=(key (j+1) hj).2 (by omega)
  rwa [Nat.add_sub_cancel]at this
 ·obtain⟨i,hi⟩:=List.mem_iff_getElem?.1 hs
  have:=(key i (List.getElem?_eq_some_iff.1 hi).1).1.1
  rw[eE0 hi]at this;intro h0;rw[h0]at this;simp at this
 ·obtain⟨i,hi⟩:=List.mem_iff_getElem?.1 hs
  have:=(key i (List.getElem?_eq_some_iff.1 hi).1).1.2
  rw[eE0 hi]at this;exact this
theorem eF {L:List (List UInt8)} (h:fY L=0):OkL L/\L.length<=20000/\eA L<=524287:=by
 unfold fY at h;split at h
 ·omega
 ·rename_i h1
  split at h
  ·omega
  ·rename_i h2
   split at h
   ·omega
   ·exact⟨jO1 (by simpa using h2),by omega,by omega⟩
theorem mY0 (n:Nat) (out:List (List UInt8)) (s:List UInt8):(lZ n out s).length<=out.length+1:=by
 unfold lZ;split<;>simp
theorem iJ1 (L:List (List UInt8)) (n:Nat):(kE1 L n).length<=L.length:=by
 have key:∀(L:List (List UInt8)) (out:List (List UInt8)),(L.foldl (lZ n) out).length<=out.length+L.length:=by
  intro L
  induction L with
  | nil=>intro out;simp
  | cons s L ih =>
   intro out;rw[List.foldl_cons,List.length_cons]
   have:=ih (lZ n out s)
   have:=mY0 n out s
   omega
 have h:=key L [];rw[List.length_nil,Nat.zero_add]at h;exact h
def wF (L:List (List UInt8)) (n:Nat):List (List UInt8):=[]::(List.range' 1 n).flatMap (kE1 L)
theorem jZ0 (L:List (List UInt8)) (n:Nat):wF L (n+1)=wF L n++kE1 L (n+1):=by
 unfold wF;rw[List.range'_concat,Ag];simp[Nat.add_comm]
theorem zP (L:List (List UInt8)):∀n,(wF L n).length<=1+n*L.length
 | 0=>by simp[wF]
 | n+1=>by
  rw[jZ0,Ab,Nat.succ_mul]
  have:=zP L n
  have:=iJ1 L (n+1)
  omega
end
section
open Go Go.RowKit
theorem rA1 {a b c:Nat} (h:c=a+b):(a:Int)+b=c:=by omega
theorem qX1 (x:Nat):((x/2:Nat):Int)=(x:Int)/2:=by omega
theorem qM1 (x:Nat):((x/4:Nat):Int)=(x:Int)/4:=by omega
theorem pZ1 (x:Nat):((x/16+x:Nat):Int)=(x:Int)/16+x:=by omega
theorem qB1 (x:Nat):((x+x/4294967296:Nat):Int)=(x:Int)+(x:Int)/4294967296:=by omega
theorem qC1 {x y:Nat} (h:x+x/256=y):(x:Int)+(x:Int)/256=y:=by omega
theorem qD1 {x y:Nat} (h:x+x/65536=y):(x:Int)+(x:Int)/65536=y:=by omega
theorem lN1 {x Y Z:Nat} (b5:x<=1085102592571150095) (hY:x+x/256=Y) (hZ:Y+Y/65536=Z):wrap64 ((Z:Int)+(Z:Int)/4294967296)=(Z:Int)+(Z:Int)/4294967296:=by
 have h8:Z+Z/4294967296<4611686018427387904:=by omega
 unfold wrap64;omega
theorem rC1 {Z S:Nat} (h:(Z+Z/4294967296)%128=S):((Z:Int)+(Z:Int)/4294967296)%128=S:=by omega
theorem gQ0 (x:Nat) (w:World) (hx:x<18446744073709551616) :
  Calls Tryz.prog 187 #[.int .u64 x] w λe w'=>e=.returned (.int .i64 (zG 2 64 x))/\w=w':=by
 obtain⟨x1,h1⟩:=exq (((x>>>1)&&&6148914691236517205)+(x&&&6148914691236517205));obtain⟨x2,h2⟩:=exq (((x1>>>2)&&&3689348814741910323)+(x1&&&3689348814741910323));obtain⟨x3,h3⟩:=exq ((x2>>>4+x2)&&&1085102592571150095);obtain⟨b1,b2,b23,b3,Y,Z,hY,hZ,bY,bZ,bS,hS⟩:=qS1 h1 h2 h3;obtain⟨S,hSd⟩:=exq (zG 2 64 x);rw[<-hSd]at hS ⊢;clear hSd;simp only[Nat.shiftRight_eq_div_pow,Nat.reducePow]at h1 h2 h3 hY hZ hS b23 bS;have c1:=qX1 x;have c3:=qM1 x1;have c5:=pZ1 x2;have c6:=qB1 Z;have e1:bits .and .u64 ((x:Int)/2) 6148914691236517205=((x/2&&&6148914691236517205:Nat):Int):=by rw[<-c1];exact u64_and_nat (x/2) 6148914691236517205 (Ai (Ao _ _) hx) (by decide)
 have e2:bits .and .u64 (x:Int) 6148914691236517205=((x&&&6148914691236517205:Nat):Int):=u64_and_nat x 6148914691236517205 hx (by decide);have e3:bits .and .u64 ((x1:Int)/4) 3689348814741910323=((x1/4&&&3689348814741910323:Nat):Int):=by rw[<-c3];exact u64_and_nat (x1/4) 3689348814741910323 (Ai (Ao _ _) b1) (by decide)
 have e4:bits .and .u64 (x1:Int) 3689348814741910323=((x1&&&3689348814741910323:Nat):Int):=u64_and_nat x1 3689348814741910323 b1 (by decide)
 have e5:bits .and .u64 ((x2:Int)/16+x2) 1085102592571150095=(x3:Int):=by
  rw[h3,<-c5];exact u64_and_nat (x2/16+x2) 1085102592571150095 b23 (by decide)
 have a1:((x/2&&&6148914691236517205:Nat):Int)+((x&&&6148914691236517205:Nat):Int)=(x1:Int):=rA1 h1;have a2:((x1/4&&&3689348814741910323:Nat):Int)+((x1&&&3689348814741910323:Nat):Int)=(x2:Int):=rA1 h2;have a3:(x3:Int)+(x3:Int)/256=(Y:Int):=qC1 hY;have a4:(Y:Int)+(Y:Int)/65536=(Z:Int):=qD1 hZ;have hw:∀n:Nat,n<18446744073709551616->IntKind.u64.wrap (n:Int)=n:=λn h=>by simp[IntKind.wrap,IntKind.bits,IntKind.signed];omega
 have w1:=hw x1 b1;have w2:=hw x2 b2;have w3:=hw Y bY;have w4:=hw Z bZ;have w5:IntKind.u64.wrap ((x2:Int)/16+x2)=(x2:Int)/16+x2:=by rw[<-c5];exact hw (x2/16+x2) b23
 have w6:IntKind.u64.wrap ((Z:Int)+(Z:Int)/4294967296)=(Z:Int)+(Z:Int)/4294967296:=by rw[<-c6];exact hw (Z+Z/4294967296) bS
 have b5:x3<=1085102592571150095:=by rw[h3];exact Nat.and_le_right
 have w7:=lN1 b5 hY hZ
 have hS2:((Z:Int)+(Z:Int)/4294967296)%128=S:=by
  exact rC1 (by rw[<-hS,kJ1])
 have e6:=i64_and127 ((Z:Int)+(Z:Int)/4294967296);rw[hS2]at e6;clear c1 c3 c5 c6 h1 h2 h3 hY hZ hw b1 b2 b3 bY bZ;go_enter Tryz.func187,Tryz.ntmps187
 go_wp2
 go_ret;exact⟨rfl,rfl⟩
end
section
open Go
theorem uT {l m:List Bool} {i:Nat} (h:i<l.length):bitOf (l++m) i=bitOf l i:=by
 grind [bitOf]
theorem yZ (l m:List Bool) (i:Nat):bitOf (l++m) (l.length+i)=bitOf m i:=by
 grind [bitOf]
theorem kF0 {n i:Nat} (h:i<n):bitOf (Aa n true) i=true:=by
 grind [bitOf]
theorem qQ (l m:List Bool):∀i,i<=l.length->eC (l++m) i=eC l i
 | 0,_=>rfl
 | i+1,h=>by rw[gN,gN,qQ l m i (by omega),uT h]
theorem nI (l m:List Bool):∀i,eC (l++m) (l.length+i)=eC l l.length+eC m i
 | 0=>qQ l m l.length (Am _)
 | i+1=>by rw[<-Nat.add_assoc,gN,gN,nI l m i,yZ];omega
theorem cD0 (n:Nat):∀i,i<=n->eC (Aa n true) i=i
 | 0,_=>rfl
 | i+1,h=>by rw[gN,cD0 n i (by omega),kF0 h];simp
theorem zN (L:List (List UInt8)):∀i,i<=(nodesA L).length->eC (shapeL L ((nodesA L).take i)) (offA L i+i+1)=offA L i
 | 0,_=>rfl
 | i+1,hi=>by
  obtain⟨x,hx⟩:∃x,(nodesA L)[i]?=some x:=⟨_,Ae hi⟩;have ih:=zN L i (by omega);have hl:=eY L i (by omega);rw[Aj,hx,Ah,nU,mJ hx,List.append_assoc];rw[show offA L i+(fX L x).length+(i+1)+1=(shapeL L ((nodesA L).take i)).length+((fX L x).length+1) by omega,nI,hl,ih]
  congr 1
  have h2:=nI (Aa (fX L x).length true) [false] 1;rw[Ac]at h2;rw[h2,cD0 _ _ (Am _)];rfl
theorem oO0 {L:List (List UInt8)} {A:List dP} {p:Nat} {x:dP} (hx:A[p]?=some x):∃rest,shapeL L A=shapeL L (A.take p)++(Aa (fX L x).length true++([false]++rest)):=by
 obtain⟨hp,he⟩:=List.getElem?_eq_some_iff.1 hx;refine⟨(A.drop (p+1)).flatMap λx=>Aa (fX L x).length true++[false],?_⟩
 have h1:A=A.take p++([x]++A.drop (p+1)):=by
  rw[List.singleton_append,<-he,List.getElem_cons_drop,Af]
 grind [shapeL]
theorem iV0 {L:List (List UInt8)} {k p:Nat} {x:dP} (hx:(nodesA L)[p]?=some x) (h1:offA L p<=k) (h2:k<offA L (p+1)) :
  bitOf (shapeL L (nodesA L)) (k+p+1)=true/\jU (shapeL L (nodesA L)) true (k+p+1)=k/\jU (shapeL L (nodesA L)) false (k+p+1)=p+1:=by
 have hp:=(List.getElem?_eq_some_iff.1 hx).1;have hl:=eY L p (by omega);have hr:=zN L p (by omega);rw[mJ hx]at h2;obtain⟨rest,hs⟩:=oO0 (L:=L) hx;have e:k+p+1=(shapeL L ((nodesA L).take p)).length+(k-offA L p):=by omega
 have hT:eC (shapeL L (nodesA L)) (k+p+1)=k:=by
  rw[hs,e,nI,hl,hr,qQ _ _ _ (by rw[Ac];omega),cD0 _ _ (by omega)];omega
 refine⟨?_,hT,?_⟩
 ·rw[hs,e,yZ,uT (by rw[Ac];omega),kF0 (by omega)]
 ·show k+p+1-eC _ _=p+1
  rw[hT];omega
theorem nZ0 (l:List Bool):bitOf (l++[false]) l.length=false:=by
 grind [bitOf]
theorem vF0 (L:List (List UInt8)):∀(A:List dP), ∃l,shapeL L A=l++[false]:=by
 intro A;rcases List.eq_nil_or_concat A with h|⟨B,x,h⟩
 ·subst h
  exact⟨[true],rfl⟩
 ·refine⟨shapeL L B++Aa (fX L x).length true,?_⟩
  grind [shapeL]
theorem zO0 (L:List (List UInt8)) (A:List dP) (p:Nat):∃rest,shapeL L A=shapeL L (A.take p)++rest:=by
 refine⟨(A.drop p).flatMap λx=>Aa (fX L x).length true++[false],?_⟩;have h2:shapeL L A=shapeL L (A.take p++A.drop p):=by rw[Af]
 grind [shapeL]
theorem uP {L:List (List UInt8)} {i:Nat} (hi:i<=(nodesA L).length) :
  bitOf (shapeL L (nodesA L)) (offA L i+i)=false/\jU (shapeL L (nodesA L)) false (offA L i+i)=i/\jU (shapeL L (nodesA L)) true (offA L i+i+1)=offA L i:=by
 have hl:=eY L i hi;have hr:=zN L i hi;obtain⟨rest,hs⟩:=zO0 L (nodesA L) i;obtain⟨l,m9⟩:=vF0 L ((nodesA L).take i)
 have ah:l.length=offA L i+i:=by
  have:=congrArg List.length m9
  rw[Ab]at this;simp at this;omega
 have hb:bitOf (shapeL L (nodesA L)) (offA L i+i)=false:=by
  rw[hs,uT (by omega),m9,<-ah,nZ0]
 have hT:eC (shapeL L (nodesA L)) (offA L i+i+1)=offA L i:=by
  rw[hs,qQ _ _ _ (by omega),hr]
 refine⟨hb,?_,hT⟩;have h2:=gN (shapeL L (nodesA L)) (offA L i+i);rw[hT,hb]at h2;show offA L i+i-eC _ _=i
 simp at h2;omega
theorem OkL.node {L:List (List UInt8)} (h:OkL L) {j:Nat} (hj:j<L.length):∃(i:Nat) (x:dP),(nodesA L)[i]?=some x/\jB L x=true/\x.i=j:=by
 have dz:nth L j∈L:=Ad (iX hj);have hp:0<(nth L j).length:=List.length_pos_iff.2 (h.pos _ dz);have ahf:=h.len _ dz;have hf:=(kY h.asc (nth L j).length).firsts hp
 have ja:j∈(lv L (nth L j).length).map (λx=>x.i):=by
  rw[hf,List.mem_filter];refine⟨by simp_all,?_⟩;unfold dV;simp only[Al,decide_eq_true_eq,An,beq_iff_eq];refine⟨Am _,?_⟩;rcases Nat.eq_zero_or_pos j with h0|h0
  ·exact Or.inl h0
  ·exact Or.inr (pW (h.asc.lt j (j-1) (by omega) hj))
 obtain⟨x,hx,o7⟩:=List.mem_map.1 ja;obtain⟨g,hd,_,_⟩:=(kY h.asc (nth L j).length).mem x hx
 have hA:x∈nodesA L:=by
  unfold nodesA;exact by grind
 obtain⟨i,hi⟩:=List.mem_iff_getElem?.1 hA;refine⟨i,x,hi,?_,o7⟩;unfold jB;rw[o7];have ae:x.i<x.t:=by rcases g.ne with h|h<;>omega
 simp;omega
end
end Go.Proofs.YthgklnohcmaopaaGreatDoor
