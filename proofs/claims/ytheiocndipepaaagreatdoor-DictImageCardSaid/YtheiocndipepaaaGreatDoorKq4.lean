/- The texts Mx GrpP SortP W11P PopW Less2 PlaceP Variants SortR SortWP Bsrt KeyE MapE Ecmp Nil19, one behind the other. -/
import Derived.Test.YtheiocndipepaaaGreatDoorKq3
import Derived.Maps.Views
import Derived.Test.YtheiocndipepaaaGreatDoorKq1
import Derived.Test.YtheiocndipepaaaGreatDoorKq2
import Derived.WalkKit
import Derived.WalkLawsBesides
import Derived.Lib.Hide
import Derived.Laws.BitsAllLaws
import Derived.Laws.Bits128
import Derived.Test.YtheiocndipepaaaGreatDoorProg
import Derived.Laws.OwnMore
import Derived.Laws.Rows
import Derived.OwnWalk
import Derived.DeepKeys4
import Derived.Maps.RangeWalk
open List renaming replicate → Aa,mem_append_left → Ab,mem_of_getElem? → Ae,getElem?_eq_getElem → Af,range → Ag,length_replicate → Ai,length_append → Ak,range' → Al,length_cons → An,pairwise_lt_range → Ao,take_append_drop → Aq,range_eq_range' → Ar,range'_append_1 → As,flatMap_append → Au,getElem_of_mem → Av,filter_append → Ax,getElem_range → Ay,pairwise_map → Bb,mem_range'_1 → Bc,any_eq_false → Bd,take_add_one → Bf,getD → Bg,length_take → Bh,range_succ → Bj,mem_cons → Bn,mem_map → Bp
open Bool renaming and_eq_true → Ac,not_eq_true' → Am,or_eq_true → Bk,true_and → Bo
open Array renaming getElem?_setIfInBounds → Ad
open Go.Op renaming bytesLess → Ah
open Nat renaming eq_zero_or_pos → Aj,div_add_mod → Ap,le_refl → At,lt_of_le_of_lt → Az,mul_comm → Ba,zero_le → Bi,div_le_self → Bl,zero_add → Bq
open Int renaming natCast_nonneg → Aw
open Go.Lib renaming hid → Be
open Go.World renaming cell? → Br
open Prod renaming ext → Bs
set_option maxHeartbeats 2000000
namespace Go.Proofs.YtheiocndipepaaaGreatDoor
set_option maxRecDepth 100000
section
open Go Go.RowKit
structure Mx where
 n:Nat
 d:Int
 cs:List Int
structure Mx.OK (m:Mx):Prop where
 n1:1<=m.n
 n2:m.n<=64
 d1:0<=m.d
 d2:m.d<=30000
 len:m.cs.length=m.n*m.n
 cost:∀c∈m.cs,0<=c/\c<=30000
def isC (c:Int):Bool:=decide (0<=c)&&decide (c<=30000)
theorem vR {c:Int}:isC c=true↔0<=c/\c<=30000:=by simp[isC]
def oK0 (n d:Int):Bool:=decide (1<=n)&&decide (n<=64)&&isC d
theorem nZ {n d:Int}:oK0 n d=true↔1<=n/\n<=64/\0<=d/\d<=30000:=by simp[oK0,isC,and_assoc]
def newM (n d:Int):Mx:=⟨n.toNat,d,Aa (n.toNat*n.toNat) d⟩
theorem gM0 {n d:Int} (h:oK0 n d=true):(newM n d).OK:=by
 obtain⟨h1,h2,h3,h4⟩:=nZ.1 h;refine⟨?_,?_,h3,h4,by simp[newM],λc hc=>?_⟩
 ·show 1<=n.toNat;omega
 ·show n.toNat<=64;omega
 ·obtain rfl:c=d:=(List.mem_replicate.1 hc).2
  exact⟨h3,h4⟩
def inR (n:Nat) (r:Int):Bool:=decide (0<=r)&&decide (r<n)
theorem nA1 {n:Nat} {r:Int}:inR n r=true↔0<=r/\r<n:=by simp[inR]
def at2 (n:Nat) (x:Int×Int):Nat:=x.1.toNat*n+x.2.toNat
def inP (n:Nat) (x:Int×Int):Bool:=inR n x.1&&inR n x.2
theorem jF {n:Nat} {x:Int×Int}:inP n x=true↔(0<=x.1/\x.1<n)/\0<=x.2/\x.2<n:=by simp[inP,nA1]
theorem sA {n:Nat} {x:Int×Int} (h:inP n x=true):at2 n x<n*n:=by
 obtain⟨⟨h1,h2⟩,h3,h4⟩:=jF.1 h;unfold at2;have k1:x.1.toNat+1<=n:=by omega
 have k2:x.2.toNat<n:=by omega
 have:=Nat.mul_le_mul_right n k1
 rw[Nat.add_mul,Nat.one_mul]at this;omega
theorem bY1 {n:Nat} {x:Int×Int} (h:inP n x=true):at2 n x/n=x.1.toNat/\at2 n x%n=x.2.toNat:=by
 obtain⟨⟨h1,h2⟩,h3,h4⟩:=jF.1 h;have k2:x.2.toNat<n:=by omega
 unfold at2;constructor
 ·rw[Ba,Nat.mul_add_div (by omega),Nat.div_eq_of_lt k2,Nat.add_zero]
 ·rw[Ba,Nat.mul_add_mod,Nat.mod_eq_of_lt k2]
theorem yR0 {n:Nat} {x y:Int×Int} (hx:inP n x=true) (hy:inP n y=true) (h:at2 n x=at2 n y):x=y:=by
 have k1:=bY1 hx;have k2:=bY1 hy;rw[h]at k1;obtain⟨⟨h1,h2⟩,h3,h4⟩:=jF.1 hx;obtain⟨⟨g1,g2⟩,g3,g4⟩:=jF.1 hy;have e1:=k1.1.symm.trans k2.1;have e2:=k1.2.symm.trans k2.2;exact Bs (by omega) (by omega)
def Mx.cost (m:Mx) (x:Int×Int):Int:=if inP m.n x then m.cs.getD (at2 m.n x) 0 else 30000
def Mx.setB (m:Mx) (x:Int×Int) (c:Int):Bool:=inP m.n x&&isC c
def Mx.set (m:Mx) (x:Int×Int) (c:Int):Mx:={ m with cs:=m.cs.set (at2 m.n x) c }
def Mx.setIf (m:Mx) (x:Int×Int) (c:Int):Mx:=if m.setB x c then m.set x c else m
theorem Mx.OK.set {m:Mx} (h:m.OK) {x:Int×Int} {c:Int} (hs:m.setB x c=true):(m.set x c).OK:=by
 simp only[Mx.setB,Ac]at hs;refine⟨h.n1,h.n2,h.d1,h.d2,by simp[Mx.set,h.len],λz hz=>?_⟩;rcases List.mem_or_eq_of_mem_set hz with hz|rfl
 ·exact h.cost z hz
 ·exact vR.1 hs.2
theorem Mx.cost_set {m:Mx} (h:m.OK) {x:Int×Int} {c:Int} (hx:inP m.n x=true) (y:Int×Int):(m.set x c).cost y=if y=x then c else m.cost y:=by
 have hl:at2 m.n x<m.cs.length:=by rw[h.len];exact sA hx
 unfold Mx.cost;show (if inP m.n y then (m.cs.set (at2 m.n x) c).getD (at2 m.n y) 0 else 30000)=_
 by_cases hy:inP m.n y=true
 ·rw[if_pos hy,if_pos hy]
  by_cases e:y=x
  ·subst e;rw[if_pos rfl]
   simp[Bg,hl]
  ·rw[if_neg e]
   have:at2 m.n x≠at2 m.n y:=λh=>e (yR0 hx hy h).symm
   simp[Bg,List.getElem?_set_ne this]
 ·rw[if_neg hy,if_neg hy,if_neg (λe=>hy (by rw[e];exact hx))]
theorem Mx.cost_new {n d:Int} (x:Int×Int):(newM n d).cost x=if inP n.toNat x then d else 30000:=by
 unfold Mx.cost newM;simp only;by_cases h:inP n.toNat x=true
 ·rw[if_pos h,if_pos h]
  simp[Bg,sA h]
 ·rw[if_neg h,if_neg h]
theorem Mx.cost_ok {m:Mx} (h:m.OK) (x:Int×Int):0<=m.cost x/\m.cost x<=30000:=by
 unfold Mx.cost;split
 ·rename_i hx
  have hl:at2 m.n x<m.cs.length:=by rw[h.len];exact sA hx
  have:m.cs.getD (at2 m.n x) 0=m.cs[at2 m.n x]:=by simp[Bg,hl]
  rw[this];exact h.cost _ (List.getElem_mem _)
 ·omega
theorem oH {n:Nat} (hn:n<=64) {x:Int×Int} (h:inP n x=true):WfI x.1/\WfI x.2:=by
 obtain⟨⟨h1,h2⟩,h3,h4⟩:=jF.1 h;exact⟨WalkArith.wf_i64 (by omega),WalkArith.wf_i64 (by omega)⟩
section
variable {H:Type}
def sA0 (m:Mx) (D:DataW H):Prop:=∀x:Int×Int,WfI x.1->WfI x.2->(Maps.has D (klP x)=(inP m.n x&&decide (m.cost x≠m.d)))/\(Maps.has D (klP x)=true->∀zd,D.atKey (klP x) zd=.lit (.int .i64 (m.cost x)))
theorem dU1 (x:Int×Int):WideAt.IsKeyLit (klP x):=by simp[klP,WideAt.IsKeyLit]
theorem rP0 (x:Int×Int):(klP x).sameKey (klP x)=true:=by simp[klP,Lit.sameKey]
theorem jW1 (n d:Int):sA0 (H:=H) (newM n d) (.map []):=λx _ _=>by
 refine⟨?_,λh=>by cases h⟩;show false=_
 rw[Mx.cost_new];show false=(inP n.toNat x&&decide ((if inP n.toNat x then d else 30000)≠d))
 cases inP n.toNat x<;>simp
theorem sA0.put {m:Mx} {D:DataW H} (h:sA0 m D) (hm:Maps.IsMap D) (ah:m.OK) {x:Int×Int} {c:Int} (hs:m.setB x c=true) (hc:c≠m.d):sA0 (m.set x c) (D.put (klP x) (.lit (.int .i64 c))):=λy h1 h2=>by
 simp only[Mx.setB,Ac]at hs;have hw:=oH ah.n2 hs.1;rw[Mx.cost_set ah hs.1];show Maps.has _ _=(inP m.n y&&decide (_≠m.d))/\_
 by_cases e:y=x
 ·subst e
  rw[if_pos rfl,Maps.has_put_same hm (dU1 _),hs.1];exact⟨by simp[hc],λ_ zd=>Maps.atKey_put_same hm (dU1 _) _ _⟩
 ·have ai:klP y≠klP x:=λh=>e (oR0 h1 h2 hw.1 hw.2 h)
  rw[if_neg e,Maps.has_put_other ai];refine⟨(h y h1 h2).1,λhh zd=>?_⟩;rw[Maps.atKey_put_other ai];exact(h y h1 h2).2 hh zd
theorem sA0.del {m:Mx} {D:DataW H} (h:sA0 m D) (ah:m.OK) {x:Int×Int} (hx:inP m.n x=true):sA0 (m.set x m.d) (D.del (klP x)):=λy h1 h2=>by
 have hw:=oH ah.n2 hx;rw[Mx.cost_set ah hx];show Maps.has _ _=(inP m.n y&&decide (_≠m.d))/\_
 by_cases e:y=x
 ·subst e
  rw[if_pos rfl,Maps.has_del_same];exact⟨by simp,λh=>by cases h⟩
 ·have ai:klP y≠klP x:=λh=>e (oR0 h1 h2 hw.1 hw.2 h)
  rw[if_neg e,Maps.has_del_other ai];refine⟨(h y h1 h2).1,λhh zd=>?_⟩;rw[Maps.atKey_del_other ai];exact(h y h1 h2).2 hh zd
theorem sA0.look {m:Mx} {D:DataW H} (h:sA0 m D) (ah:m.OK) {x:Int×Int} (hx:inP m.n x=true) {c:Int} (hc:D.atKey (klP x) (.lit (.int .i64 0))=.lit (.int .i64 c)):(Maps.has D (klP x)=true->c=m.cost x)/\(Maps.has D (klP x)=false->m.cost x=m.d):=by
 have hw:=oH ah.n2 hx;obtain⟨h1,h2⟩:=h x hw.1 hw.2;refine⟨λhh=>?_,λhh=>?_⟩
 ·have:=h2 hh (.lit (.int .i64 0))
  rw[hc]at this;simpa using this
 ·rw[hh,hx]at h1
  have h3:decide (m.cost x≠m.d)=false:=by simpa using h1.symm
  simpa using h3
end
def Mx.idx (m:Mx):List Nat:=(Ag (m.n*m.n)).filter λi=>decide (m.cs.getD i 0≠m.d)
def eO (n i:Nat):Int×Int:=(((i/n:Nat):Int),((i%n:Nat):Int))
def Mx.pairs (m:Mx):List (Int×Int):=m.idx.map (eO m.n)
theorem jM {n i:Nat} (h:i<n*n):inP n (eO n i)=true/\at2 n (eO n i)=i:=by
 have hn:0<n:=by
  rcases Aj n with h0|h0
  ·subst h0;simp at h
  ·exact h0
 have h1:i/n<n:=Nat.div_lt_of_lt_mul h;have h2:i%n<n:=Nat.mod_lt _ hn;refine⟨jF.2 ⟨⟨Aw _,Int.ofNat_lt.2 h1⟩,Aw _,Int.ofNat_lt.2 h2⟩,?_⟩;simp only[at2,eO,Int.toNat_natCast];rw[Ba];exact Ap i n
theorem fA0 {n:Nat} {x:Int×Int} (h:inP n x=true):eO n (at2 n x)=x:=yR0 (jM (sA h)).1 h (jM (sA h)).2
theorem Mx.mem_idx {m:Mx} {i:Nat}:i∈m.idx↔i<m.n*m.n/\m.cs.getD i 0≠m.d:=by simp[Mx.idx]
theorem Mx.mem_pairs {m:Mx} {x:Int×Int}:x∈m.pairs↔inP m.n x=true/\m.cost x≠m.d:=by
 unfold Mx.pairs;rw[Bp];constructor
 ·rintro⟨i,hi,rfl⟩
  obtain⟨h1,h2⟩:=Mx.mem_idx.1 hi;obtain⟨h3,h4⟩:=jM h1;refine⟨h3,?_⟩;unfold Mx.cost;rw[if_pos h3,h4];exact h2
 ·rintro⟨h1,h2⟩
  refine⟨at2 m.n x,Mx.mem_idx.2 ⟨sA h1,?_⟩,fA0 h1⟩;unfold Mx.cost at h2;rwa [if_pos h1]at h2
def eQ1 (a b:Int×Int):Int:=orI [cmpI a.1 b.1,cmpI a.2 b.2]
def ltP (a b:Int×Int):Prop:=a.1<b.1\/a.1=b.1/\a.2<b.2
theorem mS1 (a b:Int×Int):eQ1 a b<0↔ltP a b:=by
 unfold eQ1 ltP;simp only[orI];unfold cmpI;constructor
 ·intro h
  split at h<;>(repeat' split at h)<;>omega
 ·intro h
  split<;>(repeat' split)<;>omega
theorem fD0 (a:Int×Int):¬ltP a a:=by unfold ltP; omega
theorem kH0 {a b c:Int×Int} (h1:ltP a b) (h2:ltP b c):ltP a c:=by unfold ltP at *; omega
theorem yY0 {a b:Int×Int} (h:a≠b):ltP a b\/ltP b a:=by
 by_cases h1:a.1=b.1
 ·have h2:a.2≠b.2:=λh2=>h (Bs h1 h2)
  unfold ltP;omega
 ·unfold ltP;omega
theorem yO0 {n i j:Nat} (h:i<j):ltP (eO n i) (eO n j):=by
 have h1:i/n<=j/n:=Nat.div_le_div_right (Nat.le_of_lt h);unfold ltP eO;simp only;by_cases e:i/n=j/n
 ·right
  refine⟨by omega,?_⟩;have h2:=Ap i n;have h3:=Ap j n;rw[e]at h2;omega
 ·left;omega
theorem Mx.pairs_sorted (m:Mx):m.pairs.Pairwise ltP:=by
 unfold Mx.pairs Mx.idx;rw[Bb];exact(List.Pairwise.filter _ Ao).imp λh=>yO0 h
theorem cW0 {α:Type} {lt:α->α->Prop} (hi:∀a, ¬lt a a) (ht:∀ {a b c},lt a b->lt b c->lt a c):∀ {o o':List α},o.Pairwise lt->o'.Pairwise lt->(∀y,y∈o↔y∈o')->o=o'
 | [],[],_,_,_=>rfl
 | [],b::s,_,_,h=>by have:=(h b).2 (by simp);cases this
 | a::r,[],_,_,h=>by have:=(h a).1 (by simp);cases this
 | a::r,b::s,h1,h2,h=>by
  obtain⟨ha,hr⟩:=List.pairwise_cons.1 h1;obtain⟨hb,hs⟩:=List.pairwise_cons.1 h2
  have fi:a=b:=by
   rcases List.mem_cons.1 ((h a).1 (by simp)) with e|e
   ·exact e
   ·rcases List.mem_cons.1 ((h b).2 (by simp)) with e'|e'
    ·exact e'.symm
    ·exact absurd (ht (hb a e) (ha b e')) (hi b)
  subst fi;have fk:a∉r:=λhm=>hi a (ha a hm);have ig:a∉s:=λhm=>hi a (hb a hm);rw[cW0 hi ht hr hs λy=>?_];constructor
  ·intro hy
   rcases List.mem_cons.1 ((h y).1 (by simp[hy])) with e|e
   ·subst e;exact absurd hy fk
   ·exact e
  ·intro hy
   rcases List.mem_cons.1 ((h y).2 (by simp[hy])) with e|e
   ·subst e;exact absurd hy ig
   ·exact e
theorem Mx.pairs_len {m:Mx} (h:m.OK):m.pairs.length<=4096:=by
 unfold Mx.pairs;rw[List.length_map];refine Nat.le_trans (List.length_filter_le _ _) ?_;rw[List.length_range]
 have:=h.n2
 exact Nat.mul_le_mul this this
end
section
open Go
def grp (k:Nat->Nat) (n s:Nat):List Nat:=(Ag n).filter λi=>k i==s
def grpsL (k:Nat->Nat) (n S:Nat):List Nat:=(Ag S).flatMap (grp k n)
def tH0 (k:Nat->Nat) (n S:Nat):List Nat:=(Ag S).map λs=>(grpsL k n s).length
theorem lB (k:Nat->Nat) (n S:Nat):grpsL k n (S+1)=grpsL k n S++grp k n S:=by
 unfold grpsL;rw[Bj,Au];simp
theorem dY1 (k:Nat->Nat) (n S:Nat):tH0 k n (S+1)=tH0 k n S++[(grpsL k n S).length]:=by
 unfold tH0;rw[Bj,List.map_append];rfl
theorem aR0 {k:Nat->Nat} {n s i:Nat}:i∈grp k n s↔i<n/\k i=s:=by
 grind [grp]
theorem gC {k:Nat->Nat} {n S i:Nat}:i∈grpsL k n S↔i<n/\k i<S:=by
 unfold grpsL;rw[List.mem_flatMap];constructor
 ·grind [grp]
 ·rintro⟨h1,h2⟩
  exact⟨k i,List.mem_range.2 h2,aR0.2 ⟨h1,rfl⟩⟩
theorem lM0 (k:Nat->Nat) (n s:Nat):(grp k n s).Pairwise (ltK k):=by
 have h:(grp k n s).Pairwise (· < ·):=List.Pairwise.filter _ Ao;grind [List.pairwise_iff_getElem,ltK,grp]
theorem gS (k:Nat->Nat) (n:Nat):∀S,(grpsL k n S).Pairwise (ltK k)
 | 0=>by simp[grpsL]
 | S+1=>by
  rw[lB];refine List.pairwise_append.2 ⟨gS k n S,lM0 k n S,λa ha b hb=>?_⟩;grind [gC,aR0,ltK]
def dF0 (k:Nat->Nat) (l:List Nat) (i:Nat):Bool:=i==0||k (l.getD i 0) != k (l.getD (i-1) 0)
def eA0 (k:Nat->Nat) (l:List Nat):List Nat:=(Ag l.length).filter (dF0 k l)
theorem vX0 {k:Nat->Nat} {l g:List Nat} {s:Nat} (hg:g≠[]) (h1:∀x∈l,k x<s) (h2:∀x∈g,k x=s):eA0 k (l++g)=eA0 k l++[l.length]:=by
 have an:0<g.length:=by grind
 have L1:∀i,i<l.length->(l++g).getD i 0=l.getD i 0:=by grind
 have L2:∀i,(l++g).getD (l.length+i) 0=g.getD i 0:=by grind
 have G:∀i,i<g.length->k (g.getD i 0)=s:=by simp_all
 have LL:∀i,i<l.length->k (l.getD i 0)<s:=by simp_all
 unfold eA0;rw[Ak,show l.length+g.length=l.length+(1+(g.length-1)) by omega,Ar,<-As,<-As,Ax,Ax]
 have e1:(Al 0 l.length).filter (dF0 k (l++g))=(Ag l.length).filter (dF0 k l):=by
  rw[Ar];apply List.filter_congr
  intro i hi;rw[Bc]at hi;unfold dF0;rw[L1 i (by omega),L1 (i-1) (by omega)]
 have e2:(Al (0+l.length) 1).filter (dF0 k (l++g))=[l.length]:=by
  rw[Bq]
  have:dF0 k (l++g) l.length=true:=by
   unfold dF0;rcases Aj l.length with h|h
   ·rw[h];rfl
   ·grind
  simp[Al,this]
 have e3:(Al (0+l.length+1) (g.length-1)).filter (dF0 k (l++g))=[]:=by
  rw[List.filter_eq_nil_iff];intro i hi;rw[Bc]at hi;have a:=L2 (i-l.length);have b:=L2 (i-l.length-1);rw[show l.length+(i-l.length)=i by omega]at a
  rw[show l.length+(i-l.length-1)=i-1 by omega]at b
  unfold dF0;rw[a,b,G _ (by omega),G _ (by omega)]
  have:i≠0:=by omega
  simp[this]
 simp_all
theorem sU (k:Nat->Nat) (n:Nat):∀S,(∀s,s<S->∃i,i<n/\k i=s)->eA0 k (grpsL k n S)=tH0 k n S
 | 0,_=>rfl
 | S+1,h=>by
  rw[lB,dY1,<-sU k n S λs hs=>h s (by omega)];refine vX0 (s:=S) ?_ (λx hx=>(gC.1 hx).2) (λx hx=>(aR0.1 hx).2);obtain⟨i,hi,hk⟩:=h S (by omega);exact List.ne_nil_of_mem (aR0.2 ⟨hi,hk⟩)
theorem iD1 {k D:Nat->Nat} {n S:Nat} (h:Win k D 0 n) (hS:∀i,i<n->k i<S):(Ag n).map D=grpsL k n S:=by
 refine iM (λ_=>qS) (by grind [ltK]) ?_ (gS k n S) λx=>?_
 ·rw[Bb]
  refine List.pairwise_iff_getElem.2 λi j hi hj uu=>?_;rw[Ay,Ay];exact h.srt i j (Bi _) uu (by simpa using hj)
 ·rw[gC,Bp]
  constructor
  ·rintro⟨i,hi,rfl⟩
   have:=h.inn i (Bi _) (List.mem_range.1 hi)
   simp_all
  ·rintro⟨h1,_⟩
   obtain⟨i,_,h3,h4⟩:=h.all x (Bi _) h1;grind
def eA (x y:En):Prop:=x.r=y.r/\x.s=y.s/\x.l=y.l/\x.t=y.t
instance (x y:En):Decidable (eA x y):=by unfold eA; exact inferInstance
def bC0 (l:List En) (y:En):Prop:=y∈l/\∀z∈l,eA z y->y.c<=z.c
def dZ (o:List En):Prop:=o.Pairwise λx y=>lessS x y=true
def yD (l o:List En):Prop:=dZ o/\∀y,y∈o↔bC0 l y
theorem uR:∀ {o o':List En},dZ o->dZ o'->(∀y,y∈o↔y∈o')->o=o'
 | [],[],_,_,_=>rfl
 | [],b::s,_,_,h=>by have:=(h b).2 (by simp);cases this
 | a::r,[],_,_,h=>by have:=(h a).1 (by simp);cases this
 | a::r,b::s,h1,h2,h=>by
  obtain⟨ha,hr⟩:=List.pairwise_cons.1 h1;obtain⟨hb,hs⟩:=List.pairwise_cons.1 h2
  have fi:a=b:=by
   rcases List.mem_cons.1 ((h a).1 (by simp)) with e|e
   ·exact e
   ·rcases List.mem_cons.1 ((h b).2 (by simp)) with e'|e'
    ·exact e'.symm
    ·have k1:=hb a e
     have k2:=ha b e'
     have:=lQ k1 k2
     rw[fF]at this;cases this
  subst fi;have fk:a∉r:=λhm=>by have:=ha a hm;rw[fF]at this;cases this
  have ig:a∉s:=λhm=>by have:=hb a hm;rw[fF]at this;cases this
  rw[uR hr hs λy=>?_];constructor
  ·intro hy
   rcases List.mem_cons.1 ((h y).1 (by simp[hy])) with e|e
   ·subst e;exact absurd hy fk
   ·exact e
  ·intro hy
   rcases List.mem_cons.1 ((h y).2 (by simp[hy])) with e|e
   ·subst e;exact absurd hy ig
   ·exact e
theorem yD.unique {l o o':List En} (h:yD l o) (h':yD l o'):o=o':=uR h.1 h'.1 λy=>(h.2 y).trans (h'.2 y).symm
def jJ0 (x:En):List En->List En
 | []=>[x]
 | y::r=>if lessS y x then y::jJ0 x r else x::y::r
theorem zU {x y:En}:∀ {o:List En},y∈jJ0 x o↔y=x\/y∈o
 | []=>by simp[jJ0]
 | z::r=>by
  unfold jJ0;split
  ·rw[Bn,zU (o:=r),Bn]
   constructor
   ·rintro(h|h|h)
    ·exact Or.inr (Or.inl h)
    ·exact Or.inl h
    ·exact Or.inr (Or.inr h)
   ·rintro(h|h|h)
    ·exact Or.inr (Or.inl h)
    ·exact Or.inl h
    ·exact Or.inr (Or.inr h)
  ·simp
theorem sR {x:En}:∀ {o:List En},dZ o->x∉o->dZ (jJ0 x o)
 | [],_,_=>by simp[jJ0,dZ]
 | z::r,h,hx=>by
  obtain⟨hz,hr⟩:=List.pairwise_cons.1 h;have hxz:x≠z:=λe=>hx (by simp[e]);have hxr:x∉r:=λe=>hx (by simp[e]);unfold jJ0;split
  ·rename_i hl
   refine List.pairwise_cons.2 ⟨λy hy=>?_,sR hr hxr⟩;rcases zU.1 hy with rfl|hy
   ·exact hl
   ·exact hz y hy
  ·rename_i hl
   have hl':lessS x z=true:=by
    have:=uO (x:=z) (y:=x) (Ne.symm hxz)
    rw[this];simpa using hl
   refine List.pairwise_cons.2 ⟨λy hy=>?_,h⟩;rcases List.mem_cons.1 hy with rfl|hy
   ·exact hl'
   ·exact lQ hl' (hz y hy)
def tT (l:List En) (y:En):Bool:=l.all λz => !decide (eA z y)||decide (y.c<=z.c)
theorem kX {l:List En} {y:En} (hy:y∈l):tT l y=true↔bC0 l y:=by
 unfold tT bC0;rw[List.all_eq_true];constructor
 ·intro h
  refine⟨hy,λz hz hk=>?_⟩
  have:=h z hz
  simpa [hk] using this
 ·rintro⟨_,h⟩ z hz
  by_cases hk:eA z y
  ·simp[hk,h z hz hk]
  ·simp[hk]
def mF0 (l:List En):List En->List En->List En
 | [],o=>o
 | x::r,o=>if tT l x && !decide (x∈o) then mF0 l r (jJ0 x o) else mF0 l r o
def sortS (l:List En):List En:=mF0 l l []
theorem sD (l:List En):∀(r done o:List En),l=done++r->dZ o->(∀y,y∈o↔y∈done/\tT l y=true)->yD l (mF0 l r o)
 | [],done,o,hl,hs,hm=>by
  refine⟨hs,λy=>?_⟩;rw[List.append_nil]at hl;subst hl;show y∈o↔_
  rw[hm y];exact⟨λ⟨a,b⟩=>(kX a).1 b,λh=>⟨h.1,(kX h.1).2 h⟩⟩
 | x::r,done,o,hl,hs,hm=>by
  have jn:l=(done++[x])++r:=by rw[hl];simp
  unfold mF0;split
  ·rename_i hc
   simp only[Ac,Am,decide_eq_false_iff_not]at hc;refine sD l r _ _ jn (sR hs hc.2) λy=>?_;rw[zU,hm y];constructor
   ·rintro(rfl|⟨a,b⟩)
    ·exact⟨by simp,hc.1⟩
    ·exact⟨by simp[a],b⟩
   ·rintro⟨a,b⟩
    rcases List.mem_append.1 a with a|a
    ·exact Or.inr ⟨a,b⟩
    ·exact Or.inl (by simpa using a)
  ·rename_i hc
   simp only[Ac,Am,decide_eq_false_iff_not,not_and,Decidable.not_not]at hc;refine sD l r _ _ jn hs λy=>?_;rw[hm y];constructor
   ·rintro⟨a,b⟩
    exact⟨by simp[a],b⟩
   ·rintro⟨a,b⟩
    rcases List.mem_append.1 a with a|a
    ·exact⟨a,b⟩
    ·obtain rfl:y=x:=by simpa using a
     exact(hm y).1 (hc b)
theorem dR (l:List En):yD l (sortS l):=sD l l [] [] rfl (by simp[dZ]) (by simp)
def rQ (L:List (List UInt8)) (i:Nat):Bool:=decide ((nth L i).length<1)||decide (256<(nth L i).length)||(decide (0<i) && !Ah (nth L (i-1)) (nth L i))
def nP (L:List (List UInt8)):Bool:=(Ag L.length).any (rQ L)
theorem eF0 {L:List (List UInt8)} {i:Nat} (h:i<L.length) (hb:rQ L i=true):nP L=true:=List.any_eq_true.2 ⟨i,List.mem_range.2 h,hb⟩
theorem aJ0 {L:List (List UInt8)} (h:∀i,i<L.length->rQ L i=false):nP L=false:=by
 unfold nP;rw[Bd];intro i hi;rw[h i (List.mem_range.1 hi)];simp
def dC (L:List (List UInt8)):Nat:=if 20000<L.length then 2 else if nP L=true then 1 else if 524287<eG L then 2 else 0
theorem bX1 {L:List (List UInt8)} (h:nP L=false):OkL L:=by
 unfold nP at h;rw[Bd]at h
 have key:∀i,i<L.length->(1<=(nth L i).length/\(nth L i).length<=256)/\(0<i->Ah (nth L (i-1)) (nth L i)=true):=by
  intro i hi
  have:=h i (List.mem_range.2 hi)
  unfold rQ at this;simp only[Bk,decide_eq_true_eq,Ac,Am,not_or,not_and,Bool.not_eq_false]at this;exact⟨⟨by omega,by omega⟩,this.2⟩
 refine⟨λj hj=>?_,λs hs=>?_,λs hs=>?_⟩
 ·have:=(key (j+1) hj).2 (by omega)
  rwa [Nat.add_sub_cancel]at this
 ·obtain⟨i,hi⟩:=List.mem_iff_getElem?.1 hs
  have:=(key i (List.getElem?_eq_some_iff.1 hi).1).1.1
  rw[xV hi]at this;intro h0;rw[h0]at this;simp at this
 ·obtain⟨i,hi⟩:=List.mem_iff_getElem?.1 hs
  have:=(key i (List.getElem?_eq_some_iff.1 hi).1).1.2
  rw[xV hi]at this;exact this
theorem dO {L:List (List UInt8)} (h:dC L=0):OkL L/\L.length<=20000/\eG L<=524287:=by
 unfold dC at h;split at h
 ·omega
 ·rename_i h1
  split at h
  ·omega
  ·rename_i h2
   split at h
   ·omega
   ·exact⟨bX1 (by simpa using h2),by omega,by omega⟩
theorem oE0 (n:Nat) (out:List (List UInt8)) (s:List UInt8):(mS n out s).length<=out.length+1:=by
 unfold mS;split<;>simp
theorem iL1 (L:List (List UInt8)) (n:Nat):(lB1 L n).length<=L.length:=by
 have key:∀(L:List (List UInt8)) (out:List (List UInt8)),(L.foldl (mS n) out).length<=out.length+L.length:=by
  intro L
  induction L with
  | nil=>intro out;simp
  | cons s L ih =>
   intro out;rw[List.foldl_cons,An]
   have:=ih (mS n out s)
   have:=oE0 n out s
   omega
 have h:=key L [];rw[List.length_nil,Bq]at h;exact h
def wJ (L:List (List UInt8)) (n:Nat):List (List UInt8):=[]::(Al 1 n).flatMap (lB1 L)
theorem mX0 (L:List (List UInt8)) (n:Nat):wJ L (n+1)=wJ L n++lB1 L (n+1):=by
 unfold wJ;rw[List.range'_concat,Au];simp[Nat.add_comm]
theorem aL0 (L:List (List UInt8)):∀n,(wJ L n).length<=1+n*L.length
 | 0=>by simp[wJ]
 | n+1=>by
  rw[mX0,Ak,Nat.succ_mul]
  have:=aL0 L n
  have:=iL1 L (n+1)
  omega
end
section
open Go Go.RowKit
theorem rK1 {a b c:Nat} (h:c=a+b):(a:Int)+b=c:=by omega
theorem qX1 (x:Nat):((x/2:Nat):Int)=(x:Int)/2:=by omega
theorem qT1 (x:Nat):((x/4:Nat):Int)=(x:Int)/4:=by omega
theorem qD1 (x:Nat):((x/16+x:Nat):Int)=(x:Int)/16+x:=by omega
theorem rE1 (x:Nat):((x+x/4294967296:Nat):Int)=(x:Int)+(x:Int)/4294967296:=by omega
theorem qW1 {x y:Nat} (h:x+x/256=y):(x:Int)+(x:Int)/256=y:=by omega
theorem rG1 {x y:Nat} (h:x+x/65536=y):(x:Int)+(x:Int)/65536=y:=by omega
theorem lG1 {x Y Z:Nat} (b5:x<=1085102592571150095) (hY:x+x/256=Y) (hZ:Y+Y/65536=Z):wrap64 ((Z:Int)+(Z:Int)/4294967296)=(Z:Int)+(Z:Int)/4294967296:=by
 have h8:Z+Z/4294967296<4611686018427387904:=by omega
 unfold wrap64;omega
theorem rN1 {Z S:Nat} (h:(Z+Z/4294967296)%128=S):((Z:Int)+(Z:Int)/4294967296)%128=S:=by omega
theorem iG0 (x:Nat) (w:World) (hx:x<18446744073709551616) :
  Calls Tryz.prog 144 #[.int .u64 x] w λe w'=>e=.returned (.int .i64 (cR0 2 64 x))/\w=w':=by
 obtain⟨x1,h1⟩:=exq (((x>>>1)&&&6148914691236517205)+(x&&&6148914691236517205));obtain⟨x2,h2⟩:=exq (((x1>>>2)&&&3689348814741910323)+(x1&&&3689348814741910323));obtain⟨x3,h3⟩:=exq ((x2>>>4+x2)&&&1085102592571150095);obtain⟨b1,b2,b23,b3,Y,Z,hY,hZ,bY,bZ,bS,hS⟩:=rD1 h1 h2 h3;obtain⟨S,hSd⟩:=exq (cR0 2 64 x);rw[<-hSd]at hS ⊢;clear hSd;simp only[Nat.shiftRight_eq_div_pow,Nat.reducePow]at h1 h2 h3 hY hZ hS b23 bS;have c1:=qX1 x;have c3:=qT1 x1;have c5:=qD1 x2;have c6:=rE1 Z;have e1:bits .and .u64 ((x:Int)/2) 6148914691236517205=((x/2&&&6148914691236517205:Nat):Int):=by rw[<-c1];exact u64_and_nat (x/2) 6148914691236517205 (Az (Bl _ _) hx) (by decide)
 have e2:bits .and .u64 (x:Int) 6148914691236517205=((x&&&6148914691236517205:Nat):Int):=u64_and_nat x 6148914691236517205 hx (by decide);have e3:bits .and .u64 ((x1:Int)/4) 3689348814741910323=((x1/4&&&3689348814741910323:Nat):Int):=by rw[<-c3];exact u64_and_nat (x1/4) 3689348814741910323 (Az (Bl _ _) b1) (by decide)
 have e4:bits .and .u64 (x1:Int) 3689348814741910323=((x1&&&3689348814741910323:Nat):Int):=u64_and_nat x1 3689348814741910323 b1 (by decide)
 have e5:bits .and .u64 ((x2:Int)/16+x2) 1085102592571150095=(x3:Int):=by
  rw[h3,<-c5];exact u64_and_nat (x2/16+x2) 1085102592571150095 b23 (by decide)
 have a1:((x/2&&&6148914691236517205:Nat):Int)+((x&&&6148914691236517205:Nat):Int)=(x1:Int):=rK1 h1;have a2:((x1/4&&&3689348814741910323:Nat):Int)+((x1&&&3689348814741910323:Nat):Int)=(x2:Int):=rK1 h2;have a3:(x3:Int)+(x3:Int)/256=(Y:Int):=qW1 hY;have a4:(Y:Int)+(Y:Int)/65536=(Z:Int):=rG1 hZ;have hw:∀n:Nat,n<18446744073709551616->IntKind.u64.wrap (n:Int)=n:=λn h=>by simp[IntKind.wrap,IntKind.bits,IntKind.signed];omega
 have w1:=hw x1 b1;have w2:=hw x2 b2;have w3:=hw Y bY;have w4:=hw Z bZ;have w5:IntKind.u64.wrap ((x2:Int)/16+x2)=(x2:Int)/16+x2:=by rw[<-c5];exact hw (x2/16+x2) b23
 have w6:IntKind.u64.wrap ((Z:Int)+(Z:Int)/4294967296)=(Z:Int)+(Z:Int)/4294967296:=by rw[<-c6];exact hw (Z+Z/4294967296) bS
 have b5:x3<=1085102592571150095:=by rw[h3];exact Nat.and_le_right
 have w7:=lG1 b5 hY hZ
 have hS2:((Z:Int)+(Z:Int)/4294967296)%128=S:=by
  exact rN1 (by rw[<-hS,kO1])
 have e6:=i64_and127 ((Z:Int)+(Z:Int)/4294967296);rw[hS2]at e6;clear c1 c3 c5 c6 h1 h2 h3 hY hZ hw b1 b2 b3 bY bZ;go_enter Tryz.func144,Tryz.ntmps144
 go_wp2
 go_ret;exact⟨rfl,rfl⟩
end
section
open Go Go.RowKit
attribute [local go_sem] aM
theorem zQ0 {a b:ByteArray} (h:a≠b):cmpS a b≠0/\decide (cmpS a b<0)=Ah a.toList b.toList:=by
 have ai:(a.toList==b.toList)=false:=by
  have:=nT.2 h;exact this
 unfold cmpS;rw[ai];cases Ah a.toList b.toList<;>simp
theorem nO (a:ByteArray):cmpS a a=0:=(oY0.zero a a).2 rfl
theorem oO0 {a b:Int} (h:a≠b):cmpI a b≠0/\decide (cmpI a b<0)=decide (a<b):=by
 unfold cmpI;by_cases h1:a<b
 ·simp[h1]
 ·have:b<a:=by omega
  simp[h1,this]
theorem pZ (a:Int):cmpI a a=0:=by unfold cmpI; simp
theorem bB1 {x y:En} (h:x.r≠y.r):lessS x y=Ah x.r.toList y.r.toList:=by
 obtain⟨h1,h2⟩:=zQ0 h;unfold lessS pI;simp only[orI,if_neg h1];exact h2
theorem lL1 {x y:En} (h:x.r=y.r) (hc:x.c≠y.c):lessS x y=decide (x.c<y.c):=by
 obtain⟨h1,h2⟩:=oO0 hc;unfold lessS pI;rw[h,nO];simp only[orI,if_neg h1,if_true];exact h2
theorem mQ1 {x y:En} (h:x.r=y.r) (hc:x.c=y.c) (hs:x.s≠y.s):lessS x y=Ah x.s.toList y.s.toList:=by
 obtain⟨h1,h2⟩:=zQ0 hs;unfold lessS pI;rw[h,hc,nO,pZ];simp only[orI,if_neg h1,if_true];exact h2
theorem lV1 {x y:En} (h:x.r=y.r) (hc:x.c=y.c) (hs:x.s=y.s) (hl:x.l≠y.l):lessS x y=decide (x.l<y.l):=by
 obtain⟨h1,h2⟩:=oO0 hl;unfold lessS pI;rw[h,hc,hs,nO,pZ,nO];simp only[orI,if_neg h1,if_true];exact h2
theorem mM1 {x y:En} (h:x.r=y.r) (hc:x.c=y.c) (hs:x.s=y.s) (hl:x.l=y.l):lessS x y=decide (x.t<y.t):=by
 unfold lessS pI;rw[h,hc,hs,hl,nO,pZ,nO,pZ];simp only[orI,if_true];by_cases ht:x.t=y.t
 ·rw[ht,pZ];simp
 ·obtain⟨h1,h2⟩:=oO0 ht
  rw[if_neg h1];exact h2
theorem zX0 (x y:En) (w:World) :
  Calls Tryz.prog 184 #[x.agg,y.agg] w λe w'=>e=.returned (.bool (lessS x y))/\Grows w w':=by
 have L1:=bB1 (x:=x) (y:=y);have L2:=lL1 (x:=x) (y:=y);have L3:=mQ1 (x:=x) (y:=y);have L4:=lV1 (x:=x) (y:=y);have L5:=mM1 (x:=x) (y:=y);generalize lessS x y=R at *;obtain⟨xr,xs,xl,xt,xc⟩:=x;obtain⟨yr,ys,yl,yt,yc⟩:=y;simp only at L1 L2 L3 L4 L5;unfold En.agg;have hg:Grows w ((w.alloc (.cells #[.string xr,.string xs,.int .i64 xl,.int .i64 xt,.int .i64 xc] 52)).alloc (.cells #[.string yr,.string ys,.int .i64 yl,.int .i64 yt,.int .i64 yc] 52)):=(Grows.alloc _ _).al _;by_cases h1:xr=yr
 ·have b1:(xr.toList==yr.toList)=true:=cX0.2 h1
  by_cases h2:xc=yc
  ·have b2:(xc==yc)=true:=by simp[h2]
   by_cases h3:xs=ys
   ·have b3:(xs.toList==ys.toList)=true:=cX0.2 h3
    by_cases h4:xl=yl
    ·have HL:=Be (L5 h1 h2 h3 h4)
     subst h1 h2 h3 h4;clear L1 L2 L3 L4 L5 b1 b2 b3;go_enter Tryz.func184,Tryz.ntmps184
     go_wp2
     go_ret;exact⟨bD HL.out.symm,hg⟩
    ·have HL:=Be (L4 h1 h2 h3 h4)
     have b4:(xl != yl)=true:=by simpa using h4
     subst h1 h2 h3;clear L1 L2 L3 L4 L5 b1 b2 b3 h4;go_enter Tryz.func184,Tryz.ntmps184
     go_wp2
     go_ret;exact⟨bD HL.out.symm,hg⟩
   ·have HL:=Be (L3 h1 h2 h3)
    have b3:(xs.toList==ys.toList)=false:=nT.2 h3;have b3':¬xs.toList=ys.toList:=by simpa using b3
    subst h1 h2;clear L1 L2 L3 L4 L5 b1 b2 h3;go_enter Tryz.func184,Tryz.ntmps184
    go_wp2
    go_ret;exact⟨bD HL.out.symm,hg⟩
  ·have HL:=Be (L2 h1 h2)
   have b2:(xc != yc)=true:=by simpa using h2
   subst h1;clear L1 L2 L3 L4 L5 b1 h2;go_enter Tryz.func184,Tryz.ntmps184
   go_wp2
   go_ret;exact⟨bD HL.out.symm,hg⟩
 ·have HL:=Be (L1 h1)
  have b1:(xr.toList==yr.toList)=false:=nT.2 h1;have b1':¬xr.toList=yr.toList:=by simpa using b1
  clear L1 L2 L3 L4 L5 h1;go_enter Tryz.func184,Tryz.ntmps184
  go_wp2
  go_ret;exact⟨bD HL.out.symm,hg⟩
end
section
open Go
theorem xF {l m:List Bool} {i:Nat} (h:i<l.length):bitOf (l++m) i=bitOf l i:=by
 grind [bitOf]
theorem bB0 (l m:List Bool) (i:Nat):bitOf (l++m) (l.length+i)=bitOf m i:=by
 grind [bitOf]
theorem mE0 {n i:Nat} (h:i<n):bitOf (Aa n true) i=true:=by
 grind [bitOf]
theorem rH (l m:List Bool):∀i,i<=l.length->eK (l++m) i=eK l i
 | 0,_=>rfl
 | i+1,h=>by rw[gK,gK,rH l m i (by omega),xF h]
theorem oX (l m:List Bool):∀i,eK (l++m) (l.length+i)=eK l l.length+eK m i
 | 0=>rH l m l.length (At _)
 | i+1=>by rw[<-Nat.add_assoc,gK,gK,oX l m i,bB0];omega
theorem cF0 (n:Nat):∀i,i<=n->eK (Aa n true) i=i
 | 0,_=>rfl
 | i+1,h=>by rw[gK,cF0 n i (by omega),mE0 h];simp
theorem aO0 (L:List (List UInt8)):∀i,i<=(nodesA L).length->eK (shapeL L ((nodesA L).take i)) (offA L i+i+1)=offA L i
 | 0,_=>rfl
 | i+1,hi=>by
  obtain⟨x,hx⟩:∃x,(nodesA L)[i]?=some x:=⟨_,Af hi⟩;have ih:=aO0 L i (by omega);have hl:=fC L i (by omega);rw[Bf,hx,Option.toList_some,oE,iO hx,List.append_assoc];rw[show offA L i+(fQ L x).length+(i+1)+1=(shapeL L ((nodesA L).take i)).length+((fQ L x).length+1) by omega,oX,hl,ih]
  congr 1
  have h2:=oX (Aa (fQ L x).length true) [false] 1;rw[Ai]at h2;rw[h2,cF0 _ _ (At _)];rfl
theorem qA0 {L:List (List UInt8)} {A:List dK} {p:Nat} {x:dK} (hx:A[p]?=some x):∃rest,shapeL L A=shapeL L (A.take p)++(Aa (fQ L x).length true++([false]++rest)):=by
 obtain⟨hp,he⟩:=List.getElem?_eq_some_iff.1 hx;refine⟨(A.drop (p+1)).flatMap λx=>Aa (fQ L x).length true++[false],?_⟩
 have h1:A=A.take p++([x]++A.drop (p+1)):=by
  rw[List.singleton_append,<-he,List.getElem_cons_drop,Aq]
 grind [shapeL]
theorem nK0 {L:List (List UInt8)} {k p:Nat} {x:dK} (hx:(nodesA L)[p]?=some x) (h1:offA L p<=k) (h2:k<offA L (p+1)) :
  bitOf (shapeL L (nodesA L)) (k+p+1)=true/\kD (shapeL L (nodesA L)) true (k+p+1)=k/\kD (shapeL L (nodesA L)) false (k+p+1)=p+1:=by
 have hp:=(List.getElem?_eq_some_iff.1 hx).1;have hl:=fC L p (by omega);have hr:=aO0 L p (by omega);rw[iO hx]at h2;obtain⟨rest,hs⟩:=qA0 (L:=L) hx;have e:k+p+1=(shapeL L ((nodesA L).take p)).length+(k-offA L p):=by omega
 have hT:eK (shapeL L (nodesA L)) (k+p+1)=k:=by
  rw[hs,e,oX,hl,hr,rH _ _ _ (by rw[Ai];omega),cF0 _ _ (by omega)];omega
 refine⟨?_,hT,?_⟩
 ·rw[hs,e,bB0,xF (by rw[Ai];omega),mE0 (by omega)]
 ·show k+p+1-eK _ _=p+1
  rw[hT];omega
theorem pD0 (l:List Bool):bitOf (l++[false]) l.length=false:=by
 grind [bitOf]
theorem wY0 (L:List (List UInt8)):∀(A:List dK), ∃l,shapeL L A=l++[false]:=by
 intro A;rcases List.eq_nil_or_concat A with h|⟨B,x,h⟩
 ·subst h
  exact⟨[true],rfl⟩
 ·refine⟨shapeL L B++Aa (fQ L x).length true,?_⟩
  grind [shapeL]
theorem zH0 (L:List (List UInt8)) (A:List dK) (p:Nat):∃rest,shapeL L A=shapeL L (A.take p)++rest:=by
 refine⟨(A.drop p).flatMap λx=>Aa (fQ L x).length true++[false],?_⟩;have h2:shapeL L A=shapeL L (A.take p++A.drop p):=by rw[Aq]
 grind [shapeL]
theorem xQ {L:List (List UInt8)} {i:Nat} (hi:i<=(nodesA L).length) :
  bitOf (shapeL L (nodesA L)) (offA L i+i)=false/\kD (shapeL L (nodesA L)) false (offA L i+i)=i/\kD (shapeL L (nodesA L)) true (offA L i+i+1)=offA L i:=by
 have hl:=fC L i hi;have hr:=aO0 L i hi;obtain⟨rest,hs⟩:=zH0 L (nodesA L) i;obtain⟨l,ux⟩:=wY0 L ((nodesA L).take i)
 have an:l.length=offA L i+i:=by
  have:=congrArg List.length ux
  rw[Ak]at this;simp at this;omega
 have hb:bitOf (shapeL L (nodesA L)) (offA L i+i)=false:=by
  rw[hs,xF (by omega),ux,<-an,pD0]
 have hT:eK (shapeL L (nodesA L)) (offA L i+i+1)=offA L i:=by
  rw[hs,rH _ _ _ (by omega),hr]
 refine⟨hb,?_,hT⟩;have h2:=gK (shapeL L (nodesA L)) (offA L i+i);rw[hT,hb]at h2;show offA L i+i-eK _ _=i
 simp at h2;omega
theorem OkL.node {L:List (List UInt8)} (h:OkL L) {j:Nat} (hj:j<L.length):∃(i:Nat) (x:dK),(nodesA L)[i]?=some x/\iP L x=true/\x.i=j:=by
 have gj:nth L j∈L:=Ae (iZ hj);have hp:0<(nth L j).length:=List.length_pos_iff.2 (h.pos _ gj);have ahv:=h.len _ gj;have hf:=(lP h.asc (nth L j).length).firsts hp
 have jf:j∈(lv L (nth L j).length).map (λx=>x.i):=by
  rw[hf,List.mem_filter];refine⟨by simp_all,?_⟩;unfold eI;simp only[Ac,decide_eq_true_eq,Bk,beq_iff_eq];refine⟨At _,?_⟩;rcases Aj j with h0|h0
  ·exact Or.inl h0
  ·exact Or.inr (pV (h.asc.lt j (j-1) (by omega) hj))
 obtain⟨x,hx,tw⟩:=List.mem_map.1 jf;obtain⟨g,hd,_,_⟩:=(lP h.asc (nth L j).length).mem x hx
 have hA:x∈nodesA L:=by
  unfold nodesA;exact by grind
 obtain⟨i,hi⟩:=List.mem_iff_getElem?.1 hA;refine⟨i,x,hi,?_,tw⟩;unfold iP;rw[tw];have ae:x.i<x.t:=by rcases g.ne with h|h<;>omega
 simp;omega
end
section
open Go Go.RowKit
attribute [local go_sem] aM
theorem nG0 (x y:En) (w:World) :
  Calls Tryz.prog 183 #[x.agg,y.agg] w λe w'=>e=.returned (.bool (decide (eA x y)))/\Grows w w':=by
 obtain⟨R,hR⟩:=exq (decide (eA x y));rw[<-hR];obtain⟨xr,xs,xl,xt,xc⟩:=x;obtain⟨yr,ys,yl,yt,yc⟩:=y;unfold eA at hR;simp only at hR;have HR:=Be hR;clear hR;unfold En.agg;have hg:Grows w ((w.alloc (.cells #[.string xr,.string xs,.int .i64 xl,.int .i64 xt,.int .i64 xc] 52)).alloc (.cells #[.string yr,.string ys,.int .i64 yl,.int .i64 yt,.int .i64 yc] 52)):=(Grows.alloc _ _).al _;by_cases h1:xr=yr
 ·by_cases h3:xs=ys
  ·by_cases h4:xl=yl
   ·by_cases h5:xt=yt
    ·have hf:R=true:=by rw[HR.out];simp[h1,h3,h4,h5]
     subst hf h1 h3 h4 h5;clear HR;go_enter Tryz.func183,Tryz.ntmps183
     go_wp2
     go_ret;exact⟨rfl,hg⟩
    ·have hf:R=false:=by rw[HR.out];simp[h5]
     have b5:(xt==yt)=false:=by simpa using h5
     subst hf h1 h3 h4;clear HR h5;go_enter Tryz.func183,Tryz.ntmps183
     go_wp2
     go_ret;exact⟨rfl,hg⟩
   ·have hf:R=false:=by rw[HR.out];simp[h4]
    have b4:(xl==yl)=false:=by simpa using h4
    subst hf h1 h3;clear HR h4;go_enter Tryz.func183,Tryz.ntmps183
    go_wp2
    go_ret;exact⟨rfl,hg⟩
  ·have hf:R=false:=by rw[HR.out];simp[h3]
   have b3:(xs.toList==ys.toList)=false:=nT.2 h3;have b3':¬xs.toList=ys.toList:=by simpa using b3
   subst hf h1;clear HR h3;go_enter Tryz.func183,Tryz.ntmps183
   go_wp2
   go_ret;exact⟨rfl,hg⟩
 ·have hf:R=false:=by rw[HR.out];simp[h1]
  have b1:(xr.toList==yr.toList)=false:=nT.2 h1;have b1':¬xr.toList=yr.toList:=by simpa using b1
  subst hf;clear HR h1;go_enter Tryz.func183,Tryz.ntmps183
  go_wp2
  go_ret;exact⟨rfl,hg⟩
end
section
open Go
def Bad (x:En) (i:Nat) (y:En) (j:Nat):Prop:=eA x y/\(y.c<x.c\/y.c=x.c/\j<i)
instance (x:En) (i:Nat) (y:En) (j:Nat):Decidable (Bad x i y j):=by unfold Bad; exact inferInstance
theorem yO {x y:En} (h:eA x y):eA y x:=⟨h.1.symm,h.2.1.symm,h.2.2.1.symm,h.2.2.2.symm⟩
theorem mV1 {x y:En} (h:eA x y) (hc:y.c=x.c):x=y:=by
 obtain⟨a,b,c,d,e⟩:=x;obtain⟨a',b',c',d',e'⟩:=y;obtain⟨rfl,rfl,rfl,rfl⟩:=h;simp only at hc;subst hc;rfl
theorem iV1 {l:List En} {i:Nat} {x:En} (hx:l[i]?=some x):(∀j y,j<l.length->l[j]?=some y->¬Bad x i y j)↔tT l x=true/\x∉l.take i:=by
 have hm:x∈l:=Ae hx;constructor
 ·intro h
  refine⟨(kX hm).2 ⟨hm,λz hz hk=>?_⟩,λht=>?_⟩
  ·obtain⟨j,hj,rfl⟩:=Av hz
   have h1:=h j l[j] hj (Af hj);exact Int.not_lt.1 λae=>h1 ⟨yO hk,Or.inl ae⟩
  ·obtain⟨j,hj,he⟩:=Av ht
   have hj':j<i:=by have:=hj;rw[Bh]at this;omega
   have m4:j<l.length:=by have:=hj;rw[Bh]at this;omega
   rw[List.getElem_take]at he;exact h j x m4 (by rw[Af m4,he]) ⟨⟨rfl,rfl,rfl,rfl⟩,Or.inr ⟨rfl,hj'⟩⟩
 ·rintro⟨h1,h2⟩ j y hj hy ⟨hk,hc⟩
  have h3:=((kX hm).1 h1).2 y (Ae hy) (yO hk);rcases hc with hc|⟨hc,iy⟩
  ·omega
  ·refine h2 ?_
   rw[mV1 hk hc];exact Ae (i:=j) (by rw[List.getElem?_take_of_lt iy];exact hy)
def nN0 (l:List En) (i:Nat) (o:List En):Prop:=dZ o/\∀y,y∈o↔y∈l.take i/\tT l y=true
theorem nN0.start (l:List En):nN0 l 0 []:=⟨by simp[dZ],by simp⟩
theorem aY0 {l:List En} {i:Nat} {x:En} (hx:l[i]?=some x):l.take (i+1)=l.take i++[x]:=by rw[Bf,hx]; rfl
theorem nN0.skip {l o:List En} {i:Nat} {x:En} (h:nN0 l i o) (hx:l[i]?=some x) (hk:¬(tT l x=true/\x∉l.take i)):nN0 l (i+1) o:=by
 refine⟨h.1,λy=>?_⟩;rw[h.2 y,aY0 hx];constructor
 ·rintro⟨a,b⟩
  exact⟨Ab _ a,b⟩
 ·rintro⟨a,b⟩
  rcases List.mem_append.1 a with a|a
  ·exact⟨a,b⟩
  ·obtain rfl:y=x:=by simpa using a
   exact⟨Decidable.byContradiction λhn=>hk ⟨b,hn⟩,b⟩
theorem nN0.ins {l o:List En} {i:Nat} {x:En} (h:nN0 l i o) (hx:l[i]?=some x) (h1:tT l x=true) (h2:x∉l.take i):nN0 l (i+1) (jJ0 x o):=by
 refine⟨sR h.1 λhm=>h2 ((h.2 x).1 hm).1,λy=>?_⟩;rw[zU,h.2 y,aY0 hx];constructor
 ·rintro(rfl|⟨a,b⟩)
  ·exact⟨by simp,h1⟩
  ·exact⟨Ab _ a,b⟩
 ·rintro⟨a,b⟩
  rcases List.mem_append.1 a with a|a
  ·exact Or.inr ⟨a,b⟩
  ·exact Or.inl (by simpa using a)
theorem nN0.isSort {l o:List En} (h:nN0 l l.length o):yD l o:=by
 refine⟨h.1,λy=>?_⟩;rw[h.2 y,List.take_length];exact⟨λ⟨a,b⟩=>(kX a).1 b,λh=>⟨h.1,(kX h.1).2 h⟩⟩
theorem nN0.done {l o:List En} (h:nN0 l l.length o):o=sortS l:=h.isSort.unique (dR l)
theorem sW (x:En):∀o:List En,(jJ0 x o).length=o.length+1
 | []=>rfl
 | y::r=>by
  unfold jJ0;split
  ·rw[An,sW x r,An]
  ·rfl
theorem pG0 {x:En}:∀ {o:List En} {k:Nat},k<=o.length->(∀j y,j<k->o[j]?=some y->lessS y x=true)->(k=o.length\/∃y,o[k]?=some y/\lessS y x=false)->jJ0 x o=o.take k++([x]++o.drop k)
 | [],k,hk,_,_=>by
  obtain rfl:k=0:=by simpa using hk
  rfl
 | y::r,0,_,_,h=>by
  rcases h with h|⟨z,hz,hl⟩
  ·simp at h
  ·obtain rfl:y=z:=by simpa using hz
   unfold jJ0;rw[if_neg (by rw[hl];simp)];rfl
 | y::r,k+1,hk,ha,h=>by
  have h0:=ha 0 y (by omega) rfl;unfold jJ0;rw[if_pos h0]
  have hr:jJ0 x r=r.take k++([x]++r.drop k):=pG0 (by simpa using hk) (λj z hj hz=>ha (j+1) z (by omega) (by simpa using hz)) (by
   rcases h with h|⟨z,hz,hl⟩
   ·exact Or.inl (by simpa using h)
   ·exact Or.inr ⟨z,by simpa using hz,hl⟩)
  rw[hr];rfl
end
section
open Go Go.RowKit
theorem dT:eW Tryz.prog 24 52 5 56 aQ where
 sl:=Tryz.underlying24
 info:=gF (z:=.agg #[.string ⟨#[]⟩,.string ⟨#[]⟩,.int .i64 0,.int .i64 0,.int .i64 0]) (by kernel_rfl) rfl
 pos:=by decide
 by1:=by decide
 len _:=rfl
 one:=aN0
def cY0 (l:List En) (w:World) (e:Ending) (w':World):Prop:=∃v,e=.returned v/\aV w' w.heap.size 52 5 aQ v (sortS l)/\Grows w w'
theorem oR1:∃i,Tryz.prog.info? 52=some i/\i.zero=some enZero.agg/\i.size=5/\i.bytes=56:=by
 have h:(Tryz.prog.info? 52).map (λi=>(i.zero,i.size,i.bytes))=some (some enZero.agg,5,56):=by kernel_rfl
 cases hi:Tryz.prog.info? 52 with
 | none=>rw[hi]at h;cases h
 | some i =>
  rw[hi]at h;simp only[Option.map_some,Option.some.injEq,Prod.mk.injEq]at h;exact⟨i,rfl,h.1,h.2.1,h.2.2⟩
def nP0 (W:World) (sb n:Nat) (so:List En) (k:Nat):Prop :=
 ∃cm:Array Value,W.heap[sb]?=some (.cells cm 52 (0,0))/\cm.size=n*5/\∀i x,i<k->so[i]?=some x->∀j u,(aQ x)[j]?=some u->cm[i*5+j]?=some u
theorem nP0.froz {W:World} {sb n k:Nat} {so:List En} (h:nP0 W sb n so k) (j:Nat):W.frozen? ⟨sb,j,none⟩=false:=by
 obtain⟨cm,h1,_⟩:=h;simp[World.frozen?,h1]
theorem nP0.cell {W:World} {sb n k:Nat} {so:List En} (h:nP0 W sb n so k) {j:Nat} (hj:j<n*5):∃u,W.cell? ⟨sb,j,none⟩=some u:=by
 obtain⟨cm,h1,h2,_⟩:=h;exact⟨cm[j]'(by omega),by simp[Br,h1,h2,hj]⟩
theorem nP0.set {W:World} {sb n k:Nat} {so:List En} (h:nP0 W sb n so k) {j:Nat} (hj:k*5<=j) (v:Value):nP0 (W.setCell ⟨sb,j,none⟩ v) sb n so k:=by
 obtain⟨cm,h1,h2,h3⟩:=h;refine⟨cm.setIfInBounds j v,heap_setCell_same W sb j cm _ v h1,by simpa using h2,λi x hi hx m u hu=>?_⟩;have hm:m<5:=by have:=(List.getElem?_eq_some_iff.1 hu).1;rwa [lW]at this
 rw[Ad,if_neg (by omega)];exact h3 i x hi hx m u hu
theorem nP0.step {W:World} {sb n k:Nat} {so:List En} {x:En} (h:nP0 W sb n so k) (hk:k<n) (hx:so[k]?=some x) :
  nP0 (((((W.setCell ⟨sb,k*5,none⟩ (.string x.r)).setCell ⟨sb,k*5+1,none⟩ (.string x.s)).setCell ⟨sb,k*5+2,none⟩ (.int .i64 x.l)).setCell ⟨sb,k*5+3,none⟩ (.int .i64 x.t)).setCell ⟨sb,k*5+4,none⟩ (.int .i64 x.c)) sb n so (k+1):=by
 obtain⟨cm,h1,h2,h3⟩:=h;refine⟨((((cm.setIfInBounds (k*5) (.string x.r)).setIfInBounds (k*5+1) (.string x.s)).setIfInBounds (k*5+2) (.int .i64 x.l)).setIfInBounds (k*5+3) (.int .i64 x.t)).setIfInBounds (k*5+4) (.int .i64 x.c),heap_setCell_same _ _ _ _ _ _ (heap_setCell_same _ _ _ _ _ _ (heap_setCell_same _ _ _ _ _ _ (heap_setCell_same _ _ _ _ _ _ (heap_setCell_same W sb _ cm _ _ h1)))),by simpa using h2,λi y hi hy m u hu=>?_⟩;have hm:m<5:=by have:=(List.getElem?_eq_some_iff.1 hu).1;rwa [lW]at this
 rcases Nat.lt_or_ge i k with hik|hik
 ·simp only[Ad]
  rw[if_neg (by omega),if_neg (by omega),if_neg (by omega),if_neg (by omega),if_neg (by omega)];exact h3 i y hik hy m u hu
 ·obtain rfl:i=k:=by omega
  obtain rfl:x=y:=by rw[hx]at hy;exact Option.some.inj hy
  simp only[Ad,Array.size_setIfInBounds]
  match m,hm,hu with
  | 0,_,hu=>simp[aQ]at hu;subst hu;simp[h2];omega
  | 1,_,hu=>simp[aQ]at hu;subst hu;simp[h2];omega
  | 2,_,hu=>simp[aQ]at hu;subst hu;simp[h2];omega
  | 3,_,hu=>simp[aQ]at hu;subst hu;simp[h2];omega
  | 4,_,hu=>simp[aQ]at hu;subst hu;simp[h2];omega
theorem nP0.at_ {W:World} {sb n:Nat} {so:List En} (h:nP0 W sb n so so.length):aF W (some ⟨sb,0,none⟩) 5 (so.map aQ):=λ_=>⟨sb,0,rfl,λi row hi j u hj=>by
 obtain⟨cm,h1,h2,h3⟩:=h;rw[List.getElem?_map]at hi
 cases hx:so[i]? with
 | none=>rw[hx]at hi;cases hi
 | some x =>
  rw[hx]at hi;obtain rfl:aQ x=row:=by simpa using hi
  have:=h3 i x (List.getElem?_eq_some_iff.1 hx).1 hx j u hj
  simp[Br,h1,this]⟩
theorem nP0.made {W:World} {base sb n:Nat} {so:List En} {l:List Value} (h:W.ownsRow base 52 5 (.slice (some ⟨sb,0,none⟩) n n) n l):nP0 W sb n so 0/\base<=sb:=by
 rcases h.2 with ⟨e,_⟩|⟨g,cap,cm,hv,hb,hh,h1,h2,h3,h4⟩
 ·cases e
 ·cases hv
  exact⟨⟨cm,hh,h3,λi x hi=>absurd hi (Nat.not_lt_zero i)⟩,hb⟩
def klE (x:En):Lit := .string (keyBytes [.string x.r.data.toList,.string x.s.data.toList,.int .i64 x.l,.int .i64 x.t,.int .i64 x.c])
theorem uT:Go.Maps.Keyed Tryz.prog 52:=Go.Maps.Keyed.of_law (deep_law_laid tF0 (m:=3) (by decide) (of_decide_eq_true (by kernel_rfl)) (by kernel_rfl) (by kernel_rfl))
theorem lD1 {x:En} (h:rZ x):Go.keyOf Tryz.prog 52 x.agg=some (klE x):=by
 obtain⟨m,hm⟩:∃m,Tryz.prog.types.size=m+1:=⟨Tryz.prog.types.size-1,by have:0<Tryz.prog.types.size:=of_decide_eq_true (by kernel_rfl);omega⟩
 have hS:∀(s:ByteArray),s.size<=maxLen->Tryz.prog.keyLits (m+1) 9 [.string s]=some [.string s.data.toList]:=λs hs=>by
  unfold Program.keyLits;simp only[Tryz.underlying9,if_pos hs]
 have hI:∀(n:Int),(Lit.int .i64 n).wf=true->Tryz.prog.keyLits (m+1) 3 [.int .i64 n]=some [.int .i64 n]:=λn hn=>by
  unfold Program.keyLits;simp only[Tryz.underlying3,hn,and_self,if_true]
 have hk:Tryz.prog.keyType 52=true:=by kernel_rfl
 have hc:Tryz.prog.cellsOf 52=5:=by kernel_rfl
 have er:Tryz.prog.cellsOf 9=1:=by kernel_rfl
 have hci:Tryz.prog.cellsOf 3=1:=by kernel_rfl
 obtain⟨r,s,l,t,c⟩:=x;obtain⟨h1,h2,h3,h4,h5⟩:=h;have g1:=hS r h1;have g2:=hS s h2;have g3:=hI l h3;have g4:=hI t h4;have g5:=hI c h5;unfold Go.keyOf;simp only[Tryz.underlying52,hk,Bo];unfold Value.formed En.agg;simp only[Tryz.underlying52,hc];have hz:((#[Value.string r,.string s,.int .i64 l,.int .i64 t,.int .i64 c]:Array Value).size==5)=true:=rfl;rw[if_pos hz,hm];unfold Program.keyLits;simp only[Tryz.underlying52,hc,Value.cells];simp[er,hci,g1,g2,g3,g4,g5,klE]
theorem oF0 {x y:En} (hx:rZ x) (hy:rZ y) (h:klE x=klE y):x=y:=by
 have h1:=lD1 hx;have h2:=lD1 hy;rw[h]at h1
 have:=uT.inj h1 h2
 obtain⟨a,b,c,d,e⟩:=x;obtain⟨a',b',c',d',e'⟩:=y;simpa [En.agg] using this
theorem tB0 {key:Value} {kl:Lit} (h:Go.keyOf Tryz.prog 52 key=some kl):∃x:En,rZ x/\key=x.agg/\kl=klE x:=by
 obtain⟨m,hm⟩:∃m,Tryz.prog.types.size=m+1:=⟨Tryz.prog.types.size-1,by have:0<Tryz.prog.types.size:=of_decide_eq_true (by kernel_rfl);omega⟩
 have hS:∀(v:Value) (ls:List Lit),Tryz.prog.keyLits (m+1) 9 [v]=some ls->∃s:ByteArray,v=.string s/\s.size<=maxLen/\ls=[.string s.data.toList]:=λv ls h=>by
  unfold Program.keyLits at h;simp only[Tryz.underlying9]at h;cases v<;>simp at h
  rename_i s
  exact⟨s,rfl,h.1,h.2.symm⟩
 have hI:∀(v:Value) (ls:List Lit),Tryz.prog.keyLits (m+1) 3 [v]=some ls->∃n:Int,v=.int .i64 n/\(Lit.int .i64 n).wf=true/\ls=[.int .i64 n]:=λv ls h=>by
  unfold Program.keyLits at h;simp only[Tryz.underlying3]at h;cases v<;>simp at h
  obtain⟨⟨rfl,h2⟩,h3⟩:=h;exact⟨_,rfl,h2,h3.symm⟩
 have hk:Tryz.prog.keyType 52=true:=by kernel_rfl
 have hc:Tryz.prog.cellsOf 52=5:=by kernel_rfl
 have er:Tryz.prog.cellsOf 9=1:=by kernel_rfl
 have hci:Tryz.prog.cellsOf 3=1:=by kernel_rfl
 unfold Go.keyOf at h;simp only[Tryz.underlying52,hk,Bo]at h;split at h
 ·rename_i hf
  rw[hm]at h
  obtain⟨cs,rfl,di⟩:∃cs,key=.agg cs/\cs.size=5:=by
   unfold Value.formed at hf;cases key<;>simp[Tryz.underlying52,hc]at hf
   exact⟨_,rfl,hf⟩
  obtain⟨l⟩:=cs
  match l,di with
  | [c0,c1,c2,c3,c4],_ =>
   rw[rX Tryz.underlying52]at h;simp only[Value.cells]at h;simp[er,hci,hc,Option.bind_eq_some_iff,List.mapM_cons]at h;obtain⟨l0,g0,a1,⟨l1,g1,a2,⟨l2,g2,a3,⟨l3,g3,a4,⟨l4,g4,rfl⟩,rfl⟩,rfl⟩,rfl⟩,rfl⟩:=h;obtain⟨s0,rfl,z0,rfl⟩:=hS _ _ g0;obtain⟨s1,rfl,z1,rfl⟩:=hS _ _ g1;obtain⟨n2,rfl,z2,rfl⟩:=hI _ _ g2;obtain⟨n3,rfl,z3,rfl⟩:=hI _ _ g3;obtain⟨n4,rfl,z4,rfl⟩:=hI _ _ g4;exact⟨⟨s0,s1,n2,n3,n4⟩,⟨z0,z1,z2,z3,z4⟩,rfl,by simp[klE]⟩
 ·cases h
end
section
open Go Go.RowKit
def kJ (x:En):En:={ x with c:=0 }
theorem rZ.key {x:En} (h:rZ x):rZ (kJ x):=⟨h.r,h.s,h.l,h.t,by show (Lit.int .i64 0).wf=true; decide⟩
theorem bA0 {z y:En} (hy:y.c=0) (h:eA z y):y=kJ z:=by
 obtain⟨a,b,c,d,e⟩:=z;obtain⟨a',b',c',d',e'⟩:=y;obtain⟨rfl,rfl,rfl,rfl⟩:=h;simp only at hy;subst hy;rfl
theorem zX (z:En):eA z (kJ z):=⟨rfl,rfl,rfl,rfl⟩
theorem bM1 (y:En):WideAt.IsKeyLit (klE y):=by simp[klE,WideAt.IsKeyLit]
theorem eY1 (y:En):(klE y).sameKey (klE y)=true:=by simp[klE,Lit.sameKey]
section
variable {H:Type}
def AtE (D:DataW H) (y:En):Option Int->Prop
 | none=>Maps.has D (klE y)=false
 | some c=>Maps.has D (klE y)=true/\∀zd,D.atKey (klE y) zd=.lit (.int .i64 c)
def sC0 (l:List En) (y:En):Option Int->Prop
 | none=>∀z∈l,¬eA z y
 | some c=>(∃z∈l,eA z y/\z.c=c)/\∀z∈l,eA z y->c<=z.c
def uD0 (l:List En) (D:DataW H):Prop:=∀y,rZ y->(y.c≠0->Maps.has D (klE y)=false)/\(y.c=0->∃o,sC0 l y o/\AtE D y o)
theorem AtE.unique {D:DataW H} {y:En} {o o':Option Int} (h:AtE D y o) (h':AtE D y o'):o=o':=by
 cases o with
 | none=>cases o' with
  | none=>rfl
  | some c=>have h1:Maps.has D (klE y)=false:=h;rw[h'.1]at h1;cases h1
 | some c=>cases o' with
  | none=>have h1:Maps.has D (klE y)=false:=h';rw[h.1]at h1;cases h1
  | some c' =>
   have h1:=h.2 (.lit (.int .i64 0));rw[h'.2]at h1;simpa using h1.symm
theorem sC0.snoc_other {l:List En} {y z:En} {o:Option Int} (h:sC0 l y o) (hn:¬eA z y):sC0 (l++[z]) y o:=by
 cases o with
 | none =>
  intro x hx;rcases List.mem_append.1 hx with hx|hx
  ·exact h x hx
  ·obtain rfl:x=z:=by simpa using hx
   exact hn
 | some c =>
  obtain⟨⟨x,hx,h1,h2⟩,h3⟩:=h;refine⟨⟨x,Ab _ hx,h1,h2⟩,λx hx hk=>?_⟩;rcases List.mem_append.1 hx with hx|hx
  ·exact h3 x hx hk
  ·obtain rfl:x=z:=by simpa using hx
   exact absurd hk hn
theorem jF1:uD0 (H:=H) [] (.map []):=λy _=>⟨λ_=>rfl,λ_=>⟨none,λz hz=>by simp at hz,rfl⟩⟩
theorem uD0.skip {l:List En} {D:DataW H} (h:uD0 l D) {z:En} {c:Int} (ha:AtE D (kJ z) (some c)) (hc:c<=z.c):uD0 (l++[z]) D:=λy hy=>by
 refine⟨(h y hy).1,λh0=>?_⟩;obtain⟨o,ho,hD⟩:=(h y hy).2 h0;by_cases hk:eA z y
 ·have e:=bA0 h0 hk
  subst e;obtain rfl:=hD.unique ha;refine⟨some c,⟨?_,λx hx hk=>?_⟩,ha⟩
  ·obtain⟨⟨x,hx,h1,h2⟩,_⟩:=ho
   exact⟨x,Ab _ hx,h1,h2⟩
  ·rcases List.mem_append.1 hx with hx|hx
   ·exact ho.2 x hx hk
   ·obtain rfl:x=z:=by simpa using hx
    exact hc
 ·exact⟨o,ho.snoc_other hk,hD⟩
theorem uD0.store {l:List En} {D:DataW H} (h:uD0 l D) (hm:Maps.IsMap D) {z:En} (hz:rZ z) {o:Option Int} (ha:AtE D (kJ z) o) (hc:∀c,o=some c->z.c<c):uD0 (l++[z]) (D.put (klE (kJ z)) (.lit (.int .i64 z.c))):=λy hy=>by
 refine⟨λh0=>?_,λh0=>?_⟩
 ·have ai:klE y≠klE (kJ z):=λe=>h0 (by rw[oF0 hy hz.key e];rfl)
  rw[Maps.has_put_other ai];exact(h y hy).1 h0
 ·obtain⟨o',ho,hD⟩:=(h y hy).2 h0
  by_cases hk:eA z y
  ·have e:=bA0 h0 hk
   subst e;obtain rfl:=hD.unique ha;refine⟨some z.c,⟨⟨z,by simp,zX z,rfl⟩,λx hx hk=>?_⟩,Maps.has_put_same hm (bM1 _) _,λzd=>Maps.atKey_put_same hm (bM1 _) _ _⟩;rcases List.mem_append.1 hx with hx|hx
   ·cases o' with
    | none=>exact absurd hk (ho x hx)
    | some c =>
     have h1:=ho.2 x hx hk;have h2:=hc c rfl;omega
   ·obtain rfl:x=z:=by simpa using hx
    exact Int.le_refl _
  ·have ai:klE y≠klE (kJ z):=λe=>hk (by rw[oF0 hy hz.key e];exact zX z)
   refine⟨o',ho.snoc_other hk,?_⟩
   cases o' with
   | none =>
    show Maps.has _ _=false
    rw[Maps.has_put_other ai];exact hD
   | some c=>exact⟨by rw[Maps.has_put_other ai];exact hD.1,λzd=>by rw[Maps.atKey_put_other ai];exact hD.2 zd⟩
def qN0 (D:DataW H) (left:Lit->Bool) (ys:List En):Prop:=ys.Nodup/\(∀y∈ys,rZ y)/\∀y,rZ y->(y∈ys↔AtE D (kJ y) (some y.c)/\left (klE (kJ y))=false)
theorem pL0 (D:DataW H):qN0 D (Maps.has D) []:=⟨List.nodup_nil,λy hy=>by simp at hy,λy _=>⟨λh=>by simp at h,λ⟨h1,h2⟩=>by rw[h1.1]at h2; cases h2⟩⟩
theorem qN0.step {l:List En} {D:DataW H} {left:Lit->Bool} {ys:List En} (h:qN0 D left ys) (hM:uD0 l D) {x:En} (hx:rZ x) {c:Int} (hc:(Lit.int .i64 c).wf=true) (hl:left (klE x)=true) (ac:∀zd,D.atKey (klE x) zd=.lit (.int .i64 c)) :
  qN0 D (λz=>left z && !z.sameKey (klE x)) (ys++[{ x with c:=c }]):=by
 have od:=Maps.has_true_of_atKey ac
 have h0:x.c=0:=Decidable.byContradiction λhn=>by
  have:=(hM x hx).1 hn
  rw[this]at od;cases od
 have hkx:kJ { x with c:=c }=x:=by
  obtain⟨a,b,d,e,f⟩:=x;simp only at h0;subst h0;rfl
 have hxA:AtE D x (some c):=⟨od,ac⟩;have ae9:rZ { x with c:=c }:=⟨hx.r,hx.s,hx.l,hx.t,hc⟩
 obtain⟨h1,h2,h3⟩:=h;refine⟨?_,λy hy=>?_,λy hy=>?_⟩
 ·refine List.nodup_append.2 ⟨h1,by simp,λy hy z hz e=>?_⟩
  obtain rfl:z={ x with c:=c }:=by simpa using hz
  subst e
  have:=((h3 _ ae9).1 hy).2
  rw[hkx,hl]at this;cases this
 ·rcases List.mem_append.1 hy with hy|hy
  ·exact h2 y hy
  ·obtain rfl:y={ x with c:=c }:=by simpa using hy
   exact ae9
 ·constructor
  ·intro hm
   rcases List.mem_append.1 hm with hm|hm
   ·obtain⟨k1,k2⟩:=(h3 y hy).1 hm
    exact⟨k1,by simp[k2]⟩
   ·obtain rfl:y={ x with c:=c }:=by simpa using hm
    rw[hkx];exact⟨hxA,by simp[eY1]⟩
  ·rintro⟨k1,k2⟩
   by_cases hk:klE (kJ y)=klE x
   ·have e:=oF0 hy.key hx hk
    rw[e]at k1;have e2:y.c=c:=by simpa using k1.unique hxA
    have:y={ x with c:=c }:=by
     rw[<-e,<-e2];obtain⟨a,b,d,e,f⟩:=y;rfl
    rw[this];simp
   ·have k3:(left (klE (kJ y)) && !(klE (kJ y)).sameKey (klE x))=false:=k2
    rw[Maps.sameKey_ne hk]at k3;exact Ab _ ((h3 y hy).2 ⟨k1,by simpa using k3⟩)
theorem qN0.least {l:List En} {D:DataW H} {left:Lit->Bool} {ys:List En} (h:qN0 D left ys) (hM:uD0 l D) (hl:∀x∈l,rZ x) (h0:∀kl,left kl=false) (y:En):y∈ys↔bC0 l y:=by
 have key:∀y,rZ y->(AtE D (kJ y) (some y.c)↔bC0 l y):=λy hy=>by
  obtain⟨o,ho,hD⟩:=(hM (kJ y) hy.key).2 rfl;constructor
  ·intro h1
   obtain rfl:=hD.unique h1;obtain⟨⟨z,hz,k1,k2⟩,k3⟩:=ho;refine⟨?_,λx hx hk=>k3 x hx hk⟩
   have:z=y:=by
    obtain⟨a,b,d,e,f⟩:=z;obtain⟨a',b',d',e',f'⟩:=y;obtain⟨rfl,rfl,rfl,rfl⟩:=k1;simp only at k2;subst k2;rfl
   rw[<-this];exact hz
  ·rintro⟨hy2,h2⟩
   cases o with
   | none=>exact absurd (zX y) (ho y hy2)
   | some c =>
    obtain⟨⟨z,hz,k1,k2⟩,k3⟩:=ho;have e1:=k3 y hy2 (zX y);have e2:=h2 z hz k1
    have:c=y.c:=by omega
    rw[<-this];exact hD
 constructor
 ·intro hy
  have ah:=h.2.1 y hy;exact(key y ah).1 ((h.2.2 y ah).1 hy).1
 ·intro hy
  have ah:=hl y hy.1;exact(h.2.2 y ah).2 ⟨(key y ah).2 hy,h0 _⟩
end
end
section
open Go Go.RowKit
attribute [local go_sem] aM
theorem nY0 (xr xs yr ys:ByteArray) (xl xt xc yl yt yc:Int) (w:World) :
  Calls Tryz.prog 72 #[.agg #[.string xr,.string xs,.int .i64 xl,.int .i64 xt,.int .i64 xc],.agg #[.string yr,.string ys,.int .i64 yl,.int .i64 yt,.int .i64 yc]] w λe w' =>
   e=.returned (.int .i64 (orI [cmpS xr yr,cmpI xc yc,cmpS xs ys,cmpI xl yl,cmpI xt yt]))/\Below w.heap.size w w':=by
 go_enter Tryz.func72,Tryz.ntmps72
 go_wp2
 generalize hW:(w.alloc (.cells #[.string xr,.string xs,.int .i64 xl,.int .i64 xt,.int .i64 xc] 52)).alloc (.cells #[.string yr,.string ys,.int .i64 yl,.int .i64 yt,.int .i64 yc] 52)=W;have hB:Below w.heap.size w W:=by rw[<-hW];exact((Below.refl _ _).alloc (At _) _).alloc (by simp) _
 have hx:∀j v,#[Value.string xr,.string xs,.int .i64 xl,.int .i64 xt,.int .i64 xc][j]?=some v->W.drew.cell? ⟨w.heap.size,j,none⟩=some v:=λj v h=>by
  rw[<-hW];exact(Grows.alloc _ _).cell (aT w _ _ _ j v h)
 have hy:∀j v,#[Value.string yr,.string ys,.int .i64 yl,.int .i64 yt,.int .i64 yc][j]?=some v->W.drew.cell? ⟨w.heap.size+1,j,none⟩=some v:=λj v h=>by
  rw[<-hW]
  have:=aT (w.alloc (.cells #[.string xr,.string xs,.int .i64 xl,.int .i64 xt,.int .i64 xc] 52)) _ 52 (0,0) j v h
  simpa using this
 clear hW;have x0:∀x:Ext Grows (W.drew),x.u.cell? ⟨w.heap.size,0,none⟩=some (.string xr):=aB (hx 0 _ rfl);have x1:∀x:Ext Grows (W.drew),x.u.cell? ⟨w.heap.size,1,none⟩=some (.string xs):=aB (hx 1 _ rfl);have x2:∀x:Ext Grows (W.drew),x.u.cell? ⟨w.heap.size,2,none⟩=some (.int .i64 xl):=aB (hx 2 _ rfl);have x3:∀x:Ext Grows (W.drew),x.u.cell? ⟨w.heap.size,3,none⟩=some (.int .i64 xt):=aB (hx 3 _ rfl);have x4:∀x:Ext Grows (W.drew),x.u.cell? ⟨w.heap.size,4,none⟩=some (.int .i64 xc):=aB (hx 4 _ rfl);have y0:∀x:Ext Grows (W.drew),x.u.cell? ⟨w.heap.size+1,0,none⟩=some (.string yr):=aB (hy 0 _ rfl);have y1:∀x:Ext Grows (W.drew),x.u.cell? ⟨w.heap.size+1,1,none⟩=some (.string ys):=aB (hy 1 _ rfl);have y2:∀x:Ext Grows (W.drew),x.u.cell? ⟨w.heap.size+1,2,none⟩=some (.int .i64 yl):=aB (hy 2 _ rfl);have y3:∀x:Ext Grows (W.drew),x.u.cell? ⟨w.heap.size+1,3,none⟩=some (.int .i64 yt):=aB (hy 3 _ rfl);have y4:∀x:Ext Grows (W.drew),x.u.cell? ⟨w.heap.size+1,4,none⟩=some (.int .i64 yc):=aB (hy 4 _ rfl);clear hx hy;refine kL Grows (aU 28 [25,26,27]) Grows.refl Grows.trans (by kernel_rfl) (by kernel_rfl) (λd _ _ _ _ h=>by cases d<;>exact h) ?_
 repeat (refine lH rfl (λK hK=>?_);go_simp;first|(refine hK _ ?_;clear hK K)|(apply Exists.intro;refine⟨λx=>?_,hK _ ?_⟩;((first|(go_at_call 122;exact rW (yL _ _ _))|(go_at_call 123;exact rW (pL _ _ _))));clear hK K))
 clear x0 x1 x2 x3 x4 y0 y1 y2 y3 y4;refine fE rfl rfl (λK hK w2 h2=>?_);go_simp;refine⟨Grows.alloc _ _,hK _ _ ?_⟩;clear hK K
 have hz:∀k,k<[cmpS xr yr,cmpI xc yc,cmpS xs ys,cmpI xl yl,cmpI xt yt].length->(w2.alloc (.cells #[.int .i64 (cmpS xr yr),.int .i64 (cmpI xc yc),.int .i64 (cmpS xs ys),.int .i64 (cmpI xl yl),.int .i64 (cmpI xt yt)] 3)).cell? ⟨w2.heap.size,0+k,none⟩=some (.int .i64 ([cmpS xr yr,cmpI xc yc,cmpS xs ys,cmpI xl yl,cmpI xt yt][k]?.getD 0)):=λk hk=>by
  refine aT w2 _ _ _ _ _ ?_
  match k,hk with
  | 0,_=>rfl
  | 1,_=>rfl
  | 2,_=>rfl
  | 3,_=>rfl
  | 4,_=>rfl
 have h3:Grows w2 (w2.alloc (.cells #[.int .i64 (cmpS xr yr),.int .i64 (cmpI xc yc),.int .i64 (cmpS xs ys),.int .i64 (cmpI xl yl),.int .i64 (cmpI xt yt)] 3)):=Grows.alloc _ _;generalize w2.alloc _=w3 at hz h3 ⊢;refine fE rfl rfl (λK hK w4 h4=>?_);go_simp;refine(zE0 [cmpS xr yr,cmpI xc yc,cmpS xs ys,cmpI xl yl,cmpI xt yt] w2.heap.size 0 5 w4 (by simp) (λk hk=>h4.cell (hz k hk))).mono ?_;rintro e w' ⟨rfl,rfl⟩;refine⟨Grows.refl _,hK _ _ ?_⟩;clear hK K;refine fE rfl rfl (λK hK w5 h5=>?_);go_simp;refine⟨Grows.refl _,hK _ _ ?_⟩;clear hK K;refine sS (λw6 h6=>?_);have ym:Below w.heap.size w w6:=((((((hB.drew).trans (h2.mono hB.size)).trans (h3.mono (by have:=hB.size;have:=h2.size;simp at *;omega))).trans (h4.mono (by have:=hB.size;have:=h2.size;have:=h3.size;simp at *;omega))).trans (h5.mono (by have:=hB.size;have:=h2.size;have:=h3.size;have:=h4.size;simp at *;omega))).trans (h6.mono (by have:=hB.size;have:=h2.size;have:=h3.size;have:=h4.size;have:=h5.size;simp at *;omega)));go_wp2
 go_ret;exact⟨rfl,ym⟩
end
section
open Go Go.RowKit
theorem iR1 (w:World):Calls Tryz.prog 14 #[.pointer none] w λe w'=>e=.returned (.int .i64 0)/\w=w':=by
 go_enter Tryz.func14,Tryz.ntmps14
 go_wp2
 go_ret;exact⟨rfl,rfl⟩
theorem bD1 (w:World):Calls Tryz.prog 15 #[.pointer none] w λe w'=>e=.returned (.int .i64 0)/\w=w':=by
 go_enter Tryz.func15,Tryz.ntmps15
 go_wp2
 go_ret;exact⟨rfl,rfl⟩
theorem bG1 (r l:Int) (w:World):Calls Tryz.prog 29 #[.pointer none,.int .i64 r,.int .i64 l] w λe w'=>e=.returned (.int .i64 0)/\w=w':=by
 go_enter Tryz.func29,Tryz.ntmps29
 go_wp2
 go_ret;exact⟨rfl,rfl⟩
theorem aQ1 (id:Int) (w:World):Calls Tryz.prog 31 #[.pointer none,.int .i64 id] w λe w'=>e=.returned (.int .i64 0)/\w=w':=by
 go_enter Tryz.func31,Tryz.ntmps31
 go_wp2
 go_ret;exact⟨rfl,rfl⟩
theorem wU0 (s:ByteArray) (w:World):Calls Tryz.prog 19 #[.pointer none,.string s] w λe w'=>e=.returned (.slice none 0 0)/\w=w':=by
 go_enter Tryz.func19,Tryz.ntmps19
 go_wp2
 go_ret;exact⟨rfl,rfl⟩
theorem zW0 (s:ByteArray) (w:World):Calls Tryz.prog 20 #[.pointer none,.string s] w λe w'=>e=.returned (.slice none 0 0)/\w=w':=by
 go_enter Tryz.func20,Tryz.ntmps20
 go_wp2
 go_ret;exact⟨rfl,rfl⟩
theorem nI1 (s:ByteArray) (w:World):Calls Tryz.prog 21 #[.pointer none,.string s] w λe w'=>e=.returned (.slice none 0 0)/\w=w':=by
 go_enter Tryz.func21,Tryz.ntmps21
 go_wp2
 go_ret;exact⟨rfl,rfl⟩
theorem nZ0 (s:ByteArray) (w:World):Calls Tryz.prog 22 #[.pointer none,.string s] w λe w'=>e=.returned (.slice none 0 0)/\w=w':=by
 go_enter Tryz.func22,Tryz.ntmps22
 go_wp2
 go_ret;exact⟨rfl,rfl⟩
theorem uT0 (s:ByteArray) (n:Int) (w:World):Calls Tryz.prog 13 #[.pointer none,.string s,.int .i64 n] w λe w'=>e=.returned (.slice none 0 0)/\w=w':=by
 go_enter Tryz.func13,Tryz.ntmps13
 go_wp2
 go_ret;exact⟨rfl,rfl⟩
end
end Go.Proofs.YtheiocndipepaaaGreatDoor
