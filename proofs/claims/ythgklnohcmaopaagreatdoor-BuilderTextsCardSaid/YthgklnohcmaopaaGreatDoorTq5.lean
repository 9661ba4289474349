/- The texts LoudT W11P PopW PlaceP, one behind the other. -/
import Derived.Test.YthgklnohcmaopaaGreatDoorTq2
import Derived.Test.YthgklnohcmaopaaGreatDoorTq4
import Derived.Test.YthgklnohcmaopaaGreatDoorTq1
import Derived.WalkKit
import Derived.WalkLawsBesides
import Derived.Lib.Hide
import Derived.Laws.BitsAllLaws
import Derived.Laws.Bits128
open List renaming length_replicate → Aa,replicate → Ab,getElem?_eq_getElem → Ac,length_append → Ad,mem_of_getElem? → Ae,flatMap_append → Af,take_add_one → Ai,any_eq_false → Aj
open Option renaming toList_some → Ag
open Nat renaming lt_of_le_of_lt → Ah,le_refl → Al,div_le_self → An
open Bool renaming and_eq_true → Ak,or_eq_true → Am
open Go.Op renaming bytesLess → Ao
set_option maxHeartbeats 2000000
namespace Go.Proofs.YthgklnohcmaopaaGreatDoor
set_option maxRecDepth 100000
section
open Go
structure OkL (L:List (List UInt8)):Prop where
 asc:Asc L
 pos:∀s∈L,s≠[]
 len:∀s∈L,s.length<=256
def qQ (L:List (List UInt8)) (i:Nat):Nat:=(dX (rootS L) (fA L) (nodesA L) i).length
theorem OkL.fix {L:List (List UInt8)} (h:OkL L):nodesA L=rootS L::(nodesA L).flatMap (fA L):=pJ0 h.asc h.len
theorem qQ0 (L:List (List UInt8)):qQ L 0=1:=rfl
theorem mB {L:List (List UInt8)} {i:Nat} {x:dV} (h:(nodesA L)[i]?=some x):qQ L (i+1)=qQ L i+(fA L x).length:=by
 unfold qQ;rw[nC h,Ad]
theorem OkL.off_all {L:List (List UInt8)} (h:OkL L):qQ L (nodesA L).length=(nodesA L).length:=by
 unfold qQ;rw[eV0 h.fix]
theorem OkL.off_le {L:List (List UInt8)} (h:OkL L) (i:Nat):qQ L i<=(nodesA L).length:=wK0 h.fix i
theorem OkL.off_gt {L:List (List UInt8)} (h:OkL L) {i:Nat} (hi:i<(nodesA L).length):i<qQ L i :=
 sW0 h.fix (λx=>x.d) (cH1 L) (nM0 h.asc) hi
theorem OkL.good {L:List (List UInt8)} (h:OkL L) {i:Nat} {x:dV} (hx:(nodesA L)[i]?=some x):qW L x:=xF h.asc (Ae hx)
theorem OkL.uniq {L:List (List UInt8)} (h:OkL L) {i j:Nat} {x:dV} (hi:(nodesA L)[i]?=some x) (hj:(nodesA L)[j]?=some x):i=j:=by
 have key:∀ {i j:Nat},(nodesA L)[i]?=some x->(nodesA L)[j]?=some x->¬i<j:=by
  intro i j hi hj ae;obtain⟨h1,h2⟩:=List.getElem?_eq_some_iff.1 hi;obtain⟨h3,h4⟩:=List.getElem?_eq_some_iff.1 hj
  have:=List.pairwise_iff_getElem.1 (nV h.asc) i j h1 h3 ae
  rw[h2,h4]at this;unfold qC0 at this;omega
 have k1:=key hi hj;have k2:=key hj hi;omega
theorem OkL.parent {L:List (List UInt8)} (h:OkL L) {k:Nat} {y:dV} (h1:1<=k) (hy:(nodesA L)[k]?=some y):∃p x,(nodesA L)[p]?=some x/\p<k/\qQ L p<=k/\k<qQ L (p+1)/\y∈fA L x:=by
 have hk:=(List.getElem?_eq_some_iff.1 hy).1;obtain⟨p,a,b,c⟩:=sP h.fix (nodesA L).length k h1 (by rw[eV0 h.fix];exact hk);obtain⟨x,hx⟩:∃x,(nodesA L)[p]?=some x:=⟨_,Ac a⟩;have hp:=h.off_gt a;have ab9:=tA0 h.fix hx b c;rw[hy]at ab9;exact⟨p,x,hx,by unfold qQ at hp;omega,b,c,Ae ab9.symm⟩
theorem kS (L:List (List UInt8)) (A:List dV) (x:dV):shapeL L (A++[x])=shapeL L A++Ab (fA L x).length true++[false]:=by
 unfold shapeL;rw[Af];simp
theorem jH0 (L:List (List UInt8)) (A:List dV) (x:dV):isL L (A++[x])=isL L A++[nR L x]:=by simp[isL]
theorem fS0 (L:List (List UInt8)) (A:List dV) (x:dV):idsL L (A++[x])=idsL L A++if nR L x then [x.i] else []:=by
 unfold idsL;rw[List.filter_append,List.map_append];by_cases h:nR L x=true<;>simp[h]
theorem OkL.labels {L:List (List UInt8)} (h:OkL L):labelsL L (nodesA L)=((nodesA L).drop 1).map λy=>(gP L y).getLastD 0:=by
 rw[vX h.asc _ (λx hx=>xF h.asc hx)];congr 1
 have h1:(nodesA L).drop 1=(rootS L::(nodesA L).flatMap (fA L)).drop 1:=congrArg (List.drop 1) h.fix;rw[h1];rfl
def fF (b:List UInt8):List UInt8:=leB 4 b.length++b
def rQ (L:List (List UInt8)):List UInt8 :=
 fF (jC0 (shapeL L (nodesA L)))++fF (labelsL L (nodesA L))++fF (jC0 (isL L (nodesA L)))++fF (cG (idsL L (nodesA L)))
theorem fM (L:List (List UInt8)):∀i,i<=(nodesA L).length->(shapeL L ((nodesA L).take i)).length=qQ L i+i+1
 | 0,_=>rfl
 | i+1,hi=>by
  obtain⟨x,hx⟩:∃x,(nodesA L)[i]?=some x:=⟨_,Ac hi⟩;have ih:=fM L i (by omega);rw[Ai,hx,Ag,kS,Ad,Ad,ih,mB hx,Aa];simp;omega
def yB (L:List (List UInt8)) (i:Nat):Bool:=decide ((nth L i).length<1)||decide (256<(nth L i).length)||(decide (0<i) && !Ao (nth L (i-1)) (nth L i))
def mA (L:List (List UInt8)):Bool:=(List.range L.length).any (yB L)
theorem nZ0 {L:List (List UInt8)} {i:Nat} (h:i<L.length) (hb:yB L i=true):mA L=true:=List.any_eq_true.2 ⟨i,List.mem_range.2 h,hb⟩
theorem iB0 {L:List (List UInt8)} (h:∀i,i<L.length->yB L i=false):mA L=false:=by
 unfold mA;rw[Aj];intro i hi;rw[h i (List.mem_range.1 hi)];simp
def gC (L:List (List UInt8)):Nat:=if 20000<L.length then 2 else if mA L=true then 1 else if 524287<gB L then 2 else 0
theorem yF0 {L:List (List UInt8)} (h:mA L=false):OkL L:=by
 unfold mA at h;rw[Aj]at h
 have key:∀i,i<L.length->(1<=(nth L i).length/\(nth L i).length<=256)/\(0<i->Ao (nth L (i-1)) (nth L i)=true):=by
  intro i hi
  have:=h i (List.mem_range.2 hi)
  unfold yB at this;simp only[Am,decide_eq_true_eq,Ak,Bool.not_eq_true',not_or,not_and,Bool.not_eq_false]at this;exact⟨⟨by omega,by omega⟩,this.2⟩
 refine⟨λj hj=>?_,λs hs=>?_,λs hs=>?_⟩
 ·have:=(key (j+1) hj).2 (by omega)
  rwa [Nat.add_sub_cancel]at this
 ·obtain⟨i,hi⟩:=List.mem_iff_getElem?.1 hs
  have:=(key i (List.getElem?_eq_some_iff.1 hi).1).1.1
  rw[jM0 hi]at this;intro h0;rw[h0]at this;simp at this
 ·obtain⟨i,hi⟩:=List.mem_iff_getElem?.1 hs
  have:=(key i (List.getElem?_eq_some_iff.1 hi).1).1.2
  rw[jM0 hi]at this;exact this
theorem nD {L:List (List UInt8)} (h:gC L=0):OkL L/\L.length<=20000/\gB L<=524287:=by
 unfold gC at h;split at h
 ·omega
 ·rename_i h1
  split at h
  ·omega
  ·rename_i h2
   split at h
   ·omega
   ·exact⟨yF0 (by simpa using h2),by omega,by omega⟩
theorem gK0 (n:Nat) (out:List (List UInt8)) (s:List UInt8):(jV n out s).length<=out.length+1:=by
 unfold jV;split<;>simp
theorem wH0 (L:List (List UInt8)) (n:Nat):(yM0 L n).length<=L.length:=by
 have key:∀(L:List (List UInt8)) (out:List (List UInt8)),(L.foldl (jV n) out).length<=out.length+L.length:=by
  intro L
  induction L with
  | nil=>intro out;simp
  | cons s L ih =>
   intro out;rw[List.foldl_cons,List.length_cons]
   have:=ih (jV n out s)
   have:=gK0 n out s
   omega
 have h:=key L [];rw[List.length_nil,Nat.zero_add]at h;exact h
def rC (L:List (List UInt8)) (n:Nat):List (List UInt8):=[]::(List.range' 1 n).flatMap (yM0 L)
theorem eY0 (L:List (List UInt8)) (n:Nat):rC L (n+1)=rC L n++yM0 L (n+1):=by
 unfold rC;rw[List.range'_concat,Af];simp[Nat.add_comm]
theorem vP (L:List (List UInt8)):∀n,(rC L n).length<=1+n*L.length
 | 0=>by simp[rC]
 | n+1=>by
  rw[eY0,Ad,Nat.succ_mul]
  have:=vP L n
  have:=wH0 L (n+1)
  omega
end
section
open Go Go.RowKit
theorem dW1 {a b c:Nat} (h:c=a+b):(a:Int)+b=c:=by omega
theorem dQ1 (x:Nat):((x/2:Nat):Int)=(x:Int)/2:=by omega
theorem dS1 (x:Nat):((x/4:Nat):Int)=(x:Int)/4:=by omega
theorem dN1 (x:Nat):((x/16+x:Nat):Int)=(x:Int)/16+x:=by omega
theorem dG1 (x:Nat):((x+x/4294967296:Nat):Int)=(x:Int)+(x:Int)/4294967296:=by omega
theorem dD1 {x y:Nat} (h:x+x/256=y):(x:Int)+(x:Int)/256=y:=by omega
theorem dF1 {x y:Nat} (h:x+x/65536=y):(x:Int)+(x:Int)/65536=y:=by omega
theorem bI1 {x Y Z:Nat} (b5:x<=1085102592571150095) (hY:x+x/256=Y) (hZ:Y+Y/65536=Z):wrap64 ((Z:Int)+(Z:Int)/4294967296)=(Z:Int)+(Z:Int)/4294967296:=by
 have h8:Z+Z/4294967296<4611686018427387904:=by omega
 unfold wrap64;omega
theorem eB1 {Z S:Nat} (h:(Z+Z/4294967296)%128=S):((Z:Int)+(Z:Int)/4294967296)%128=S:=by omega
theorem aS0 (x:Nat) (w:World) (hx:x<18446744073709551616) :
  Calls Tryz.prog 187 #[.int .u64 x] w λe w'=>e=.returned (.int .i64 (wJ 2 64 x))/\w=w':=by
 obtain⟨x1,h1⟩:=exq (((x>>>1)&&&6148914691236517205)+(x&&&6148914691236517205));obtain⟨x2,h2⟩:=exq (((x1>>>2)&&&3689348814741910323)+(x1&&&3689348814741910323));obtain⟨x3,h3⟩:=exq ((x2>>>4+x2)&&&1085102592571150095);obtain⟨b1,b2,b23,b3,Y,Z,hY,hZ,bY,bZ,bS,hS⟩:=dA1 h1 h2 h3;obtain⟨S,hSd⟩:=exq (wJ 2 64 x);rw[<-hSd]at hS ⊢;clear hSd;simp only[Nat.shiftRight_eq_div_pow,Nat.reducePow]at h1 h2 h3 hY hZ hS b23 bS;have c1:=dQ1 x;have c3:=dS1 x1;have c5:=dN1 x2;have c6:=dG1 Z;have e1:bits .and .u64 ((x:Int)/2) 6148914691236517205=((x/2&&&6148914691236517205:Nat):Int):=by rw[<-c1];exact u64_and_nat (x/2) 6148914691236517205 (Ah (An _ _) hx) (by decide)
 have e2:bits .and .u64 (x:Int) 6148914691236517205=((x&&&6148914691236517205:Nat):Int):=u64_and_nat x 6148914691236517205 hx (by decide);have e3:bits .and .u64 ((x1:Int)/4) 3689348814741910323=((x1/4&&&3689348814741910323:Nat):Int):=by rw[<-c3];exact u64_and_nat (x1/4) 3689348814741910323 (Ah (An _ _) b1) (by decide)
 have e4:bits .and .u64 (x1:Int) 3689348814741910323=((x1&&&3689348814741910323:Nat):Int):=u64_and_nat x1 3689348814741910323 b1 (by decide)
 have e5:bits .and .u64 ((x2:Int)/16+x2) 1085102592571150095=(x3:Int):=by
  rw[h3,<-c5];exact u64_and_nat (x2/16+x2) 1085102592571150095 b23 (by decide)
 have a1:((x/2&&&6148914691236517205:Nat):Int)+((x&&&6148914691236517205:Nat):Int)=(x1:Int):=dW1 h1;have a2:((x1/4&&&3689348814741910323:Nat):Int)+((x1&&&3689348814741910323:Nat):Int)=(x2:Int):=dW1 h2;have a3:(x3:Int)+(x3:Int)/256=(Y:Int):=dD1 hY;have a4:(Y:Int)+(Y:Int)/65536=(Z:Int):=dF1 hZ;have hw:∀n:Nat,n<18446744073709551616->IntKind.u64.wrap (n:Int)=n:=λn h=>by simp[IntKind.wrap,IntKind.bits,IntKind.signed];omega
 have w1:=hw x1 b1;have w2:=hw x2 b2;have w3:=hw Y bY;have w4:=hw Z bZ;have w5:IntKind.u64.wrap ((x2:Int)/16+x2)=(x2:Int)/16+x2:=by rw[<-c5];exact hw (x2/16+x2) b23
 have w6:IntKind.u64.wrap ((Z:Int)+(Z:Int)/4294967296)=(Z:Int)+(Z:Int)/4294967296:=by rw[<-c6];exact hw (Z+Z/4294967296) bS
 have b5:x3<=1085102592571150095:=by rw[h3];exact Nat.and_le_right
 have w7:=bI1 b5 hY hZ
 have hS2:((Z:Int)+(Z:Int)/4294967296)%128=S:=by
  exact eB1 (by rw[<-hS,yB0])
 have e6:=i64_and127 ((Z:Int)+(Z:Int)/4294967296);rw[hS2]at e6;clear c1 c3 c5 c6 h1 h2 h3 hY hZ hw b1 b2 b3 bY bZ;go_enter Tryz.func187,Tryz.ntmps187
 go_wp2
 go_ret;exact⟨rfl,rfl⟩
end
section
open Go
theorem yV {l m:List Bool} {i:Nat} (h:i<l.length):jB (l++m) i=jB l i:=by
 grind [jB]
theorem vZ (l m:List Bool) (i:Nat):jB (l++m) (l.length+i)=jB m i:=by
 grind [jB]
theorem eO0 {n i:Nat} (h:i<n):jB (Ab n true) i=true:=by
 grind [jB]
theorem rD (l m:List Bool):∀i,i<=l.length->fB (l++m) i=fB l i
 | 0,_=>rfl
 | i+1,h=>by rw[iE,iE,rD l m i (by omega),yV h]
theorem kX (l m:List Bool):∀i,fB (l++m) (l.length+i)=fB l l.length+fB m i
 | 0=>rD l m l.length (Al _)
 | i+1=>by rw[<-Nat.add_assoc,iE,iE,kX l m i,vZ];omega
theorem uK (n:Nat):∀i,i<=n->fB (Ab n true) i=i
 | 0,_=>rfl
 | i+1,h=>by rw[iE,uK n i (by omega),eO0 h];simp
theorem fT0 (L:List (List UInt8)):∀i,i<=(nodesA L).length->fB (shapeL L ((nodesA L).take i)) (qQ L i+i+1)=qQ L i
 | 0,_=>rfl
 | i+1,hi=>by
  obtain⟨x,hx⟩:∃x,(nodesA L)[i]?=some x:=⟨_,Ac hi⟩;have ih:=fT0 L i (by omega);have hl:=fM L i (by omega);rw[Ai,hx,Ag,kS,mB hx,List.append_assoc];rw[show qQ L i+(fA L x).length+(i+1)+1=(shapeL L ((nodesA L).take i)).length+((fA L x).length+1) by omega,kX,hl,ih]
  congr 1
  have h2:=kX (Ab (fA L x).length true) [false] 1;rw[Aa]at h2;rw[h2,uK _ _ (Al _)];rfl
theorem iS0 {L:List (List UInt8)} {A:List dV} {p:Nat} {x:dV} (hx:A[p]?=some x):∃rest,shapeL L A=shapeL L (A.take p)++(Ab (fA L x).length true++([false]++rest)):=by
 obtain⟨hp,he⟩:=List.getElem?_eq_some_iff.1 hx;refine⟨(A.drop (p+1)).flatMap λx=>Ab (fA L x).length true++[false],?_⟩
 have h1:A=A.take p++([x]++A.drop (p+1)):=by
  rw[List.singleton_append,<-he,List.getElem_cons_drop,List.take_append_drop]
 grind [shapeL]
theorem sX0 {L:List (List UInt8)} {k p:Nat} {x:dV} (hx:(nodesA L)[p]?=some x) (h1:qQ L p<=k) (h2:k<qQ L (p+1)) :
  jB (shapeL L (nodesA L)) (k+p+1)=true/\jG (shapeL L (nodesA L)) true (k+p+1)=k/\jG (shapeL L (nodesA L)) false (k+p+1)=p+1:=by
 have hp:=(List.getElem?_eq_some_iff.1 hx).1;have hl:=fM L p (by omega);have hr:=fT0 L p (by omega);rw[mB hx]at h2;obtain⟨rest,hs⟩:=iS0 (L:=L) hx;have e:k+p+1=(shapeL L ((nodesA L).take p)).length+(k-qQ L p):=by omega
 have hT:fB (shapeL L (nodesA L)) (k+p+1)=k:=by
  rw[hs,e,kX,hl,hr,rD _ _ _ (by rw[Aa];omega),uK _ _ (by omega)];omega
 refine⟨?_,hT,?_⟩
 ·rw[hs,e,vZ,yV (by rw[Aa];omega),eO0 (by omega)]
 ·show k+p+1-fB _ _=p+1
  rw[hT];omega
theorem OkL.node {L:List (List UInt8)} (h:OkL L) {j:Nat} (hj:j<L.length):∃(i:Nat) (x:dV),(nodesA L)[i]?=some x/\nR L x=true/\x.i=j:=by
 have cz:nth L j∈L:=Ae (jR hj);have hp:0<(nth L j).length:=List.length_pos_iff.2 (h.pos _ cz);have ae8:=h.len _ cz;have hf:=(kB h.asc (nth L j).length).firsts hp
 have ff:j∈(lv L (nth L j).length).map (λx=>x.i):=by
  rw[hf,List.mem_filter];refine⟨by simp_all,?_⟩;unfold cP;simp only[Ak,decide_eq_true_eq,Am,beq_iff_eq];refine⟨Al _,?_⟩;rcases Nat.eq_zero_or_pos j with h0|h0
  ·exact Or.inl h0
  ·exact Or.inr (mE (h.asc.lt j (j-1) (by omega) hj))
 obtain⟨x,hx,hxi⟩:=List.mem_map.1 ff;obtain⟨g,hd,_,_⟩:=(kB h.asc (nth L j).length).mem x hx
 have hA:x∈nodesA L:=by
  unfold nodesA;exact by grind
 obtain⟨i,hi⟩:=List.mem_iff_getElem?.1 hA;refine⟨i,x,hi,?_,hxi⟩;unfold nR;rw[hxi];have ae:x.i<x.t:=by rcases g.ne with h|h<;>omega
 simp;omega
end
end Go.Proofs.YthgklnohcmaopaaGreatDoor
