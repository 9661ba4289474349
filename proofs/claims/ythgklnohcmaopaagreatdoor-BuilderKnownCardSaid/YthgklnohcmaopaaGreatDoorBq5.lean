/- The texts LoudT PlaceP W11P PopW, one behind the other. -/
import Derived.Test.YthgklnohcmaopaaGreatDoorBq2
import Derived.Test.YthgklnohcmaopaaGreatDoorBq4
import Derived.Test.YthgklnohcmaopaaGreatDoorBq1
import Derived.WalkKit
import Derived.WalkLawsBesides
import Derived.Lib.Hide
import Derived.Laws.BitsAllLaws
import Derived.Laws.Bits128
open List renaming replicate → Aa,length_append → Ab,length_replicate → Ac,mem_of_getElem? → Ad,getElem?_eq_getElem → Ae,take_append_drop → Af,flatMap_append → Ag,take_add_one → Aj,any_eq_false → Ak
open Option renaming toList_some → Ah
open Nat renaming lt_of_le_of_lt → Ai,le_refl → Am,div_le_self → Ao
open Bool renaming and_eq_true → Al,or_eq_true → An
open Go.Op renaming bytesLess → Ap
set_option maxHeartbeats 2000000
namespace Go.Proofs.YthgklnohcmaopaaGreatDoor
set_option maxRecDepth 100000
section
open Go
structure OkL (L:List (List UInt8)):Prop where
 asc:Asc L
 pos:∀s∈L,s≠[]
 len:∀s∈L,s.length<=256
def fP (L:List (List UInt8)) (i:Nat):Nat:=(dH (rootS L) (eC L) (nodesA L) i).length
theorem OkL.fix {L:List (List UInt8)} (h:OkL L):nodesA L=rootS L::(nodesA L).flatMap (eC L):=mB0 h.asc h.len
theorem uE (L:List (List UInt8)):fP L 0=1:=rfl
theorem jQ {L:List (List UInt8)} {i:Nat} {x:cY} (h:(nodesA L)[i]?=some x):fP L (i+1)=fP L i+(eC L x).length:=by
 unfold fP;rw[mQ h,Ab]
theorem sG {L:List (List UInt8)} {i j:Nat} (h:i<=j):fP L i<=fP L j:=jE0 h
theorem OkL.off_all {L:List (List UInt8)} (h:OkL L):fP L (nodesA L).length=(nodesA L).length:=by
 unfold fP;rw[aO0 h.fix]
theorem OkL.off_le {L:List (List UInt8)} (h:OkL L) (i:Nat):fP L i<=(nodesA L).length:=qP0 h.fix i
theorem OkL.off_gt {L:List (List UInt8)} (h:OkL L) {i:Nat} (hi:i<(nodesA L).length):i<fP L i :=
 nV0 h.fix (λx=>x.d) (lQ0 L) (kH0 h.asc) hi
theorem OkL.good {L:List (List UInt8)} (h:OkL L) {i:Nat} {x:cY} (hx:(nodesA L)[i]?=some x):pU L x:=kC h.asc (Ad hx)
theorem OkL.uniq {L:List (List UInt8)} (h:OkL L) {i j:Nat} {x:cY} (hi:(nodesA L)[i]?=some x) (hj:(nodesA L)[j]?=some x):i=j:=by
 have key:∀ {i j:Nat},(nodesA L)[i]?=some x->(nodesA L)[j]?=some x->¬i<j:=by
  intro i j hi hj ae;obtain⟨h1,h2⟩:=List.getElem?_eq_some_iff.1 hi;obtain⟨h3,h4⟩:=List.getElem?_eq_some_iff.1 hj
  have:=List.pairwise_iff_getElem.1 (jM h.asc) i j h1 h3 ae
  rw[h2,h4]at this;unfold hH0 at this;omega
 have k1:=key hi hj;have k2:=key hj hi;omega
theorem OkL.parent {L:List (List UInt8)} (h:OkL L) {k:Nat} {y:cY} (h1:1<=k) (hy:(nodesA L)[k]?=some y):∃p x,(nodesA L)[p]?=some x/\p<k/\fP L p<=k/\k<fP L (p+1)/\y∈eC L x:=by
 have hk:=(List.getElem?_eq_some_iff.1 hy).1;obtain⟨p,a,b,c⟩:=qW h.fix (nodesA L).length k h1 (by rw[aO0 h.fix];exact hk);obtain⟨x,hx⟩:∃x,(nodesA L)[p]?=some x:=⟨_,Ae a⟩;have hp:=h.off_gt a;have oq:=zZ h.fix hx b c;rw[hy]at oq;exact⟨p,x,hx,by unfold fP at hp;omega,b,c,Ad oq.symm⟩
theorem OkL.kid {L:List (List UInt8)} (h:OkL L) {i k:Nat} {x y:cY} (hx:(nodesA L)[i]?=some x) (h1:fP L i<=k) (h2:k<fP L (i+1)) (hy:(nodesA L)[k]?=some y):y∈eC L x:=by
 have oq:=zZ h.fix hx h1 h2;rw[hy]at oq;exact Ad oq.symm
theorem kH (L:List (List UInt8)) (A:List cY) (x:cY):shapeL L (A++[x])=shapeL L A++Aa (eC L x).length true++[false]:=by
 unfold shapeL;rw[Ag];simp
theorem gK0 (L:List (List UInt8)) (A:List cY) (x:cY):isL L (A++[x])=isL L A++[gE L x]:=by simp[isL]
theorem cL0 (L:List (List UInt8)) (A:List cY) (x:cY):idsL L (A++[x])=idsL L A++if gE L x then [x.i] else []:=by
 unfold idsL;rw[List.filter_append,List.map_append];by_cases h:gE L x=true<;>simp[h]
theorem OkL.labels {L:List (List UInt8)} (h:OkL L):labelsL L (nodesA L)=((nodesA L).drop 1).map λy=>(spanS L y).getLastD 0:=by
 rw[tS h.asc _ (λx hx=>kC h.asc hx)];congr 1
 have h1:(nodesA L).drop 1=(rootS L::(nodesA L).flatMap (eC L)).drop 1:=congrArg (List.drop 1) h.fix;rw[h1];rfl
def dM (b:List UInt8):List UInt8:=leB 4 b.length++b
def iT (L:List (List UInt8)):List UInt8 :=
 dM (kZ (shapeL L (nodesA L)))++dM (labelsL L (nodesA L))++dM (kZ (isL L (nodesA L)))++dM (bV (idsL L (nodesA L)))
theorem dU (L:List (List UInt8)):∀i,i<=(nodesA L).length->(shapeL L ((nodesA L).take i)).length=fP L i+i+1
 | 0,_=>rfl
 | i+1,hi=>by
  obtain⟨x,hx⟩:∃x,(nodesA L)[i]?=some x:=⟨_,Ae hi⟩;have ih:=dU L i (by omega);rw[Aj,hx,Ah,kH,Ab,Ab,ih,jQ hx,Ac];simp;omega
theorem pP {l m:List Bool} {i:Nat} (h:i<l.length):bitOf (l++m) i=bitOf l i:=by
 grind [bitOf]
theorem tG (l m:List Bool) (i:Nat):bitOf (l++m) (l.length+i)=bitOf m i:=by
 grind [bitOf]
theorem zW {n i:Nat} (h:i<n):bitOf (Aa n true) i=true:=by
 grind [bitOf]
theorem mL (l m:List Bool):∀i,i<=l.length->cZ (l++m) i=cZ l i
 | 0,_=>rfl
 | i+1,h=>by rw[eO,eO,mL l m i (by omega),pP h]
theorem kS (l m:List Bool):∀i,cZ (l++m) (l.length+i)=cZ l l.length+cZ m i
 | 0=>mL l m l.length (Am _)
 | i+1=>by rw[<-Nat.add_assoc,eO,eO,kS l m i,tG];omega
theorem sF (n:Nat):∀i,i<=n->cZ (Aa n true) i=i
 | 0,_=>rfl
 | i+1,h=>by rw[eO,sF n i (by omega),zW h];simp
theorem tA (L:List (List UInt8)):∀i,i<=(nodesA L).length->cZ (shapeL L ((nodesA L).take i)) (fP L i+i+1)=fP L i
 | 0,_=>rfl
 | i+1,hi=>by
  obtain⟨x,hx⟩:∃x,(nodesA L)[i]?=some x:=⟨_,Ae hi⟩;have ih:=tA L i (by omega);have hl:=dU L i (by omega);rw[Aj,hx,Ah,kH,jQ hx,List.append_assoc];rw[show fP L i+(eC L x).length+(i+1)+1=(shapeL L ((nodesA L).take i)).length+((eC L x).length+1) by omega,kS,hl,ih]
  congr 1
  have h2:=kS (Aa (eC L x).length true) [false] 1;rw[Ac]at h2;rw[h2,sF _ _ (Am _)];rfl
theorem eU0 {L:List (List UInt8)} {A:List cY} {p:Nat} {x:cY} (hx:A[p]?=some x):∃rest,shapeL L A=shapeL L (A.take p)++(Aa (eC L x).length true++([false]++rest)):=by
 obtain⟨hp,he⟩:=List.getElem?_eq_some_iff.1 hx;refine⟨(A.drop (p+1)).flatMap λx=>Aa (eC L x).length true++[false],?_⟩
 have h1:A=A.take p++([x]++A.drop (p+1)):=by
  rw[List.singleton_append,<-he,List.getElem_cons_drop,Af]
 grind [shapeL]
theorem bP0 {L:List (List UInt8)} {k p:Nat} {x:cY} (hx:(nodesA L)[p]?=some x) (h1:fP L p<=k) (h2:k<fP L (p+1)) :
  bitOf (shapeL L (nodesA L)) (k+p+1)=true/\gG (shapeL L (nodesA L)) true (k+p+1)=k/\gG (shapeL L (nodesA L)) false (k+p+1)=p+1:=by
 have hp:=(List.getElem?_eq_some_iff.1 hx).1;have hl:=dU L p (by omega);have hr:=tA L p (by omega);rw[jQ hx]at h2;obtain⟨rest,hs⟩:=eU0 (L:=L) hx;have e:k+p+1=(shapeL L ((nodesA L).take p)).length+(k-fP L p):=by omega
 have hT:cZ (shapeL L (nodesA L)) (k+p+1)=k:=by
  rw[hs,e,kS,hl,hr,mL _ _ _ (by rw[Ac];omega),sF _ _ (by omega)];omega
 refine⟨?_,hT,?_⟩
 ·rw[hs,e,tG,pP (by rw[Ac];omega),zW (by omega)]
 ·show k+p+1-cZ _ _=p+1
  rw[hT];omega
theorem dP0 (l:List Bool):bitOf (l++[false]) l.length=false:=by
 grind [bitOf]
theorem jD0 (L:List (List UInt8)):∀(A:List cY), ∃l,shapeL L A=l++[false]:=by
 intro A;rcases List.eq_nil_or_concat A with h|⟨B,x,h⟩
 ·subst h
  exact⟨[true],rfl⟩
 ·refine⟨shapeL L B++Aa (eC L x).length true,?_⟩
  grind [shapeL]
theorem nG0 (L:List (List UInt8)) (A:List cY) (p:Nat):∃rest,shapeL L A=shapeL L (A.take p)++rest:=by
 refine⟨(A.drop p).flatMap λx=>Aa (eC L x).length true++[false],?_⟩;have h2:shapeL L A=shapeL L (A.take p++A.drop p):=by rw[Af]
 grind [shapeL]
theorem jP0 {L:List (List UInt8)} {i:Nat} (hi:i<=(nodesA L).length) :
  bitOf (shapeL L (nodesA L)) (fP L i+i)=false/\gG (shapeL L (nodesA L)) false (fP L i+i)=i/\gG (shapeL L (nodesA L)) true (fP L i+i+1)=fP L i:=by
 have hl:=dU L i hi;have hr:=tA L i hi;obtain⟨rest,hs⟩:=nG0 L (nodesA L) i;obtain⟨l,us⟩:=jD0 L ((nodesA L).take i)
 have ak:l.length=fP L i+i:=by
  have:=congrArg List.length us
  rw[Ab]at this;simp at this;omega
 have hb:bitOf (shapeL L (nodesA L)) (fP L i+i)=false:=by
  rw[hs,pP (by omega),us,<-ak,dP0]
 have hT:cZ (shapeL L (nodesA L)) (fP L i+i+1)=fP L i:=by
  rw[hs,mL _ _ _ (by omega),hr]
 refine⟨hb,?_,hT⟩;have h2:=eO (shapeL L (nodesA L)) (fP L i+i);rw[hT,hb]at h2;show fP L i+i-cZ _ _=i
 simp at h2;omega
theorem OkL.node {L:List (List UInt8)} (h:OkL L) {j:Nat} (hj:j<L.length):∃(i:Nat) (x:cY),(nodesA L)[i]?=some x/\gE L x=true/\x.i=j:=by
 have dp:nth L j∈L:=Ad (gA hj);have hp:0<(nth L j).length:=List.length_pos_iff.2 (h.pos _ dp);have ad1:=h.len _ dp;have hf:=(iL h.asc (nth L j).length).firsts hp
 have gb:j∈(lv L (nth L j).length).map (λx=>x.i):=by
  rw[hf,List.mem_filter];refine⟨by simp_all,?_⟩;unfold cU;simp only[Al,decide_eq_true_eq,An,beq_iff_eq];refine⟨Am _,?_⟩;rcases Nat.eq_zero_or_pos j with h0|h0
  ·exact Or.inl h0
  ·exact Or.inr (lC (h.asc.lt j (j-1) (by omega) hj))
 obtain⟨x,hx,qq⟩:=List.mem_map.1 gb;obtain⟨g,hd,_,_⟩:=(iL h.asc (nth L j).length).mem x hx
 have hA:x∈nodesA L:=by
  unfold nodesA;exact by grind
 obtain⟨i,hi⟩:=List.mem_iff_getElem?.1 hA;refine⟨i,x,hi,?_,qq⟩;unfold gE;rw[qq];have ae:x.i<x.t:=by rcases g.ne with h|h<;>omega
 simp;omega
def uO (L:List (List UInt8)) (i:Nat):Bool:=decide ((nth L i).length<1)||decide (256<(nth L i).length)||(decide (0<i) && !Ap (nth L (i-1)) (nth L i))
def lJ (L:List (List UInt8)):Bool:=(List.range L.length).any (uO L)
theorem kE0 {L:List (List UInt8)} {i:Nat} (h:i<L.length) (hb:uO L i=true):lJ L=true:=List.any_eq_true.2 ⟨i,List.mem_range.2 h,hb⟩
theorem dS0 {L:List (List UInt8)} (h:∀i,i<L.length->uO L i=false):lJ L=false:=by
 unfold lJ;rw[Ak];intro i hi;rw[h i (List.mem_range.1 hi)];simp
def fQ (L:List (List UInt8)):Nat:=if 20000<L.length then 2 else if lJ L=true then 1 else if 524287<fG L then 2 else 0
theorem uH0 {L:List (List UInt8)} (h:lJ L=false):OkL L:=by
 unfold lJ at h;rw[Ak]at h
 have key:∀i,i<L.length->(1<=(nth L i).length/\(nth L i).length<=256)/\(0<i->Ap (nth L (i-1)) (nth L i)=true):=by
  intro i hi
  have:=h i (List.mem_range.2 hi)
  unfold uO at this;simp only[An,decide_eq_true_eq,Al,Bool.not_eq_true',not_or,not_and,Bool.not_eq_false]at this;exact⟨⟨by omega,by omega⟩,this.2⟩
 refine⟨λj hj=>?_,λs hs=>?_,λs hs=>?_⟩
 ·have:=(key (j+1) hj).2 (by omega)
  rwa [Nat.add_sub_cancel]at this
 ·obtain⟨i,hi⟩:=List.mem_iff_getElem?.1 hs
  have:=(key i (List.getElem?_eq_some_iff.1 hi).1).1.1
  rw[bA0 hi]at this;intro h0;rw[h0]at this;simp at this
 ·obtain⟨i,hi⟩:=List.mem_iff_getElem?.1 hs
  have:=(key i (List.getElem?_eq_some_iff.1 hi).1).1.2
  rw[bA0 hi]at this;exact this
theorem jD {L:List (List UInt8)} (h:fQ L=0):OkL L/\L.length<=20000/\fG L<=524287:=by
 unfold fQ at h;split at h
 ·omega
 ·rename_i h1
  split at h
  ·omega
  ·rename_i h2
   split at h
   ·omega
   ·exact⟨uH0 (by simpa using h2),by omega,by omega⟩
theorem fD0 (n:Nat) (out:List (List UInt8)) (s:List UInt8):(jL n out s).length<=out.length+1:=by
 unfold jL;split<;>simp
theorem sZ0 (L:List (List UInt8)) (n:Nat):(uI0 L n).length<=L.length:=by
 have key:∀(L:List (List UInt8)) (out:List (List UInt8)),(L.foldl (jL n) out).length<=out.length+L.length:=by
  intro L
  induction L with
  | nil=>intro out;simp
  | cons s L ih =>
   intro out;rw[List.foldl_cons,List.length_cons]
   have:=ih (jL n out s)
   have:=fD0 n out s
   omega
 have h:=key L [];rw[List.length_nil,Nat.zero_add]at h;exact h
def qI (L:List (List UInt8)) (n:Nat):List (List UInt8):=[]::(List.range' 1 n).flatMap (uI0 L)
theorem aR0 (L:List (List UInt8)) (n:Nat):qI L (n+1)=qI L n++uI0 L (n+1):=by
 unfold qI;rw[List.range'_concat,Ag];simp[Nat.add_comm]
theorem tC (L:List (List UInt8)):∀n,(qI L n).length<=1+n*L.length
 | 0=>by simp[qI]
 | n+1=>by
  rw[aR0,Ab,Nat.succ_mul]
  have:=tC L n
  have:=sZ0 L (n+1)
  omega
end
section
open Go Go.RowKit
theorem zR0 {a b c:Nat} (h:c=a+b):(a:Int)+b=c:=by omega
theorem yZ0 (x:Nat):((x/2:Nat):Int)=(x:Int)/2:=by omega
theorem zD0 (x:Nat):((x/4:Nat):Int)=(x:Int)/4:=by omega
theorem zK0 (x:Nat):((x/16+x:Nat):Int)=(x:Int)/16+x:=by omega
theorem yW0 (x:Nat):((x+x/4294967296:Nat):Int)=(x:Int)+(x:Int)/4294967296:=by omega
theorem zP0 {x y:Nat} (h:x+x/256=y):(x:Int)+(x:Int)/256=y:=by omega
theorem yX0 {x y:Nat} (h:x+x/65536=y):(x:Int)+(x:Int)/65536=y:=by omega
theorem wU0 {x Y Z:Nat} (b5:x<=1085102592571150095) (hY:x+x/256=Y) (hZ:Y+Y/65536=Z):wrap64 ((Z:Int)+(Z:Int)/4294967296)=(Z:Int)+(Z:Int)/4294967296:=by
 have h8:Z+Z/4294967296<4611686018427387904:=by omega
 unfold wrap64;omega
theorem aC1 {Z S:Nat} (h:(Z+Z/4294967296)%128=S):((Z:Int)+(Z:Int)/4294967296)%128=S:=by omega
theorem zK (x:Nat) (w:World) (hx:x<18446744073709551616) :
  Calls Tryz.prog 187 #[.int .u64 x] w λe w'=>e=.returned (.int .i64 (sU 2 64 x))/\w=w':=by
 obtain⟨x1,h1⟩:=exq (((x>>>1)&&&6148914691236517205)+(x&&&6148914691236517205));obtain⟨x2,h2⟩:=exq (((x1>>>2)&&&3689348814741910323)+(x1&&&3689348814741910323));obtain⟨x3,h3⟩:=exq ((x2>>>4+x2)&&&1085102592571150095);obtain⟨b1,b2,b23,b3,Y,Z,hY,hZ,bY,bZ,bS,hS⟩:=zG0 h1 h2 h3;obtain⟨S,hSd⟩:=exq (sU 2 64 x);rw[<-hSd]at hS ⊢;clear hSd;simp only[Nat.shiftRight_eq_div_pow,Nat.reducePow]at h1 h2 h3 hY hZ hS b23 bS;have c1:=yZ0 x;have c3:=zD0 x1;have c5:=zK0 x2;have c6:=yW0 Z;have e1:bits .and .u64 ((x:Int)/2) 6148914691236517205=((x/2&&&6148914691236517205:Nat):Int):=by rw[<-c1];exact u64_and_nat (x/2) 6148914691236517205 (Ai (Ao _ _) hx) (by decide)
 have e2:bits .and .u64 (x:Int) 6148914691236517205=((x&&&6148914691236517205:Nat):Int):=u64_and_nat x 6148914691236517205 hx (by decide);have e3:bits .and .u64 ((x1:Int)/4) 3689348814741910323=((x1/4&&&3689348814741910323:Nat):Int):=by rw[<-c3];exact u64_and_nat (x1/4) 3689348814741910323 (Ai (Ao _ _) b1) (by decide)
 have e4:bits .and .u64 (x1:Int) 3689348814741910323=((x1&&&3689348814741910323:Nat):Int):=u64_and_nat x1 3689348814741910323 b1 (by decide)
 have e5:bits .and .u64 ((x2:Int)/16+x2) 1085102592571150095=(x3:Int):=by
  rw[h3,<-c5];exact u64_and_nat (x2/16+x2) 1085102592571150095 b23 (by decide)
 have a1:((x/2&&&6148914691236517205:Nat):Int)+((x&&&6148914691236517205:Nat):Int)=(x1:Int):=zR0 h1;have a2:((x1/4&&&3689348814741910323:Nat):Int)+((x1&&&3689348814741910323:Nat):Int)=(x2:Int):=zR0 h2;have a3:(x3:Int)+(x3:Int)/256=(Y:Int):=zP0 hY;have a4:(Y:Int)+(Y:Int)/65536=(Z:Int):=yX0 hZ;have hw:∀n:Nat,n<18446744073709551616->IntKind.u64.wrap (n:Int)=n:=λn h=>by simp[IntKind.wrap,IntKind.bits,IntKind.signed];omega
 have w1:=hw x1 b1;have w2:=hw x2 b2;have w3:=hw Y bY;have w4:=hw Z bZ;have w5:IntKind.u64.wrap ((x2:Int)/16+x2)=(x2:Int)/16+x2:=by rw[<-c5];exact hw (x2/16+x2) b23
 have w6:IntKind.u64.wrap ((Z:Int)+(Z:Int)/4294967296)=(Z:Int)+(Z:Int)/4294967296:=by rw[<-c6];exact hw (Z+Z/4294967296) bS
 have b5:x3<=1085102592571150095:=by rw[h3];exact Nat.and_le_right
 have w7:=wU0 b5 hY hZ
 have hS2:((Z:Int)+(Z:Int)/4294967296)%128=S:=by
  exact aC1 (by rw[<-hS,uJ0])
 have e6:=i64_and127 ((Z:Int)+(Z:Int)/4294967296);rw[hS2]at e6;clear c1 c3 c5 c6 h1 h2 h3 hY hZ hw b1 b2 b3 bY bZ;go_enter Tryz.func187,Tryz.ntmps187
 go_wp2
 go_ret;exact⟨rfl,rfl⟩
end
end Go.Proofs.YthgklnohcmaopaaGreatDoor
