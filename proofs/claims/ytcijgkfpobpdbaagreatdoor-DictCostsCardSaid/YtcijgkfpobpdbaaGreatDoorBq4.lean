/- The texts StabP Pos KeyP Mx GrpP SortP W11P PopW Less2 PlaceP Variants, one behind the other. -/
import Derived.Test.YtcijgkfpobpdbaaGreatDoorBq3
import Derived.Test.YtcijgkfpobpdbaaGreatDoorProg
import Derived.Test.YtcijgkfpobpdbaaGreatDoorBq2
import Derived.WalkKit
import Derived.WalkLawsBesides
import Derived.DeepKeys4
import Derived.Maps.RangeWalk
import Derived.Maps.Views
import Derived.Test.YtcijgkfpobpdbaaGreatDoorBq1
import Derived.Lib.Hide
import Derived.Laws.BitsAllLaws
import Derived.Laws.Bits128
open Nat renaming lt_or_ge → Aa,le_refl → Ad,eq_zero_or_pos → Am,add_sub_cancel_left → At,div_add_mod → Av,zero_le → Ax,lt_of_le_of_lt → Bd,mul_comm → Be,add_zero → Bf,div_le_self → Bp,zero_add → Bu
open List renaming getD_eq_getElem?_getD → Ab,replicate → Ac,getElem?_eq_getElem → Ae,getElem_mem → Ah,flatMap_append → Ai,range → Aj,length_replicate → Al,getElem?_append_right → An,length_append → Ao,getElem?_append_left → Ap,range' → Aq,mem_range'_1 → Ar,pairwise_lt_range → Au,take_append_drop → Aw,range_eq_range' → Ay,range'_append_1 → Az,filter_append → Bb,getElem_range → Bc,pairwise_map → Bg,any_eq_false → Bh,append_assoc → Bi,getD → Bj,range_succ → Bk,mem_filter → Bl,append_nil → Bn,mem_range → Bq,mem_cons → Bs,mem_map → Bt
open Bool renaming and_eq_true → Af,not_eq_true' → As,or_eq_true → Bo,true_and → Br
open Go.Lib renaming hid → Ag
open Go.Op renaming bytesLess → Ak
open Int renaming natCast_nonneg → Ba
open Prod renaming ext → Bv
set_option maxHeartbeats 2000000
namespace Go.Proofs.YtcijgkfpobpdbaaGreatDoor
set_option maxRecDepth 100000
section
open Go
def ltK (k:Nat->Nat) (x y:Nat):Prop:=k x<k y\/(k x=k y/\x<y)
theorem uA {k:Nat->Nat} {x y z:Nat} (h1:ltK k x y) (h2:ltK k y z):ltK k x z:=by unfold ltK at *; omega
theorem qQ {k:Nat->Nat} {x:Nat}:¬ltK k x x:=by unfold ltK; omega
theorem mJ {k:Nat->Nat} {x y:Nat} (h:x<y):ltK k y x↔k y<k x:=by unfold ltK; omega
theorem yL {k:Nat->Nat} {x y:Nat} (h:x<y):ltK k x y↔¬k y<k x:=by unfold ltK; omega
def gH (D:Nat->Nat) (a m b i:Nat):Nat:=if i<a then D i else if i<a+(b-m) then D (i+(m-a)) else if i<b then D (i-(b-m)) else D i
def rC (D:Nat->Nat) (a b n i:Nat):Nat:=if a<=i/\i<a+n then D (i-a+b) else if b<=i/\i<b+n then D (i-b+a) else D i
structure eO (D D':Nat->Nat) (a b:Nat):Prop where
 out:∀i,(i<a\/b<=i)->D' i=D i
 fro:∀i,a<=i->i<b->∃j,a<=j/\j<b/\D' i=D j
 to:∀j,a<=j->j<b->∃i,a<=i/\i<b/\D' i=D j
theorem eO.refl (D:Nat->Nat) (a b:Nat):eO D D a b:=⟨λ_ _=>rfl,λi h1 h2=>⟨i,h1,h2,rfl⟩,λi h1 h2=>⟨i,h1,h2,rfl⟩⟩
theorem eO.trans {D D' D'':Nat->Nat} {a b:Nat} (h:eO D D' a b) (h':eO D' D'' a b):eO D D'' a b where
 out i hi:=(h'.out i hi).trans (h.out i hi)
 fro i h1 h2:=by
  obtain⟨j,j1,j2,e⟩:=h'.fro i h1 h2;obtain⟨j',j1',j2',e'⟩:=h.fro j j1 j2;exact⟨j',j1',j2',e.trans e'⟩
 to j h1 h2:=by
  obtain⟨i,i1,i2,e⟩:=h.to j h1 h2;obtain⟨i',i1',i2',e'⟩:=h'.to i i1 i2;exact⟨i',i1',i2',e'.trans e⟩
theorem eO.wide {D D':Nat->Nat} {a b a' b':Nat} (h:eO D D' a b) (ha:a'<=a) (hb:b<=b'):eO D D' a' b' where
 out i hi:=h.out i (by omega)
 fro i h1 h2:=by
  by_cases hi:a<=i/\i<b
  ·obtain⟨j,j1,j2,e⟩:=h.fro i hi.1 hi.2
   exact⟨j,by omega,by omega,e⟩
  ·exact⟨i,h1,h2,h.out i (by omega)⟩
 to i h1 h2:=by
  by_cases hi:a<=i/\i<b
  ·obtain⟨j,j1,j2,e⟩:=h.to i hi.1 hi.2
   exact⟨j,by omega,by omega,e⟩
  ·exact⟨i,h1,h2,h.out i (by omega)⟩
theorem gJ {D:Nat->Nat} {a m b i:Nat} (h:i<a):gH D a m b i=D i:=by unfold gH; rw[if_pos h]
theorem iU {D:Nat->Nat} {a m b i:Nat} (h1:a<=i) (h2:i<a+(b-m)):gH D a m b i=D (i+(m-a)):=by
 unfold gH;rw[if_neg (by omega),if_pos h2]
theorem jL {D:Nat->Nat} {a m b i:Nat} (h1:a+(b-m)<=i) (h2:i<b):gH D a m b i=D (i-(b-m)):=by
 unfold gH;rw[if_neg (by omega),if_neg (by omega),if_pos h2]
theorem gK {D:Nat->Nat} {a m b i:Nat} (ha:a<=m) (hm:m<=b) (h:b<=i):gH D a m b i=D i:=by
 unfold gH;rw[if_neg (by omega),if_neg (by omega),if_neg (by omega)]
theorem cU {D:Nat->Nat} {a m b:Nat} (ha:a<=m) (hm:m<=b):eO D (gH D a m b) a b where
 out i hi:=by
  rcases hi with hi|hi
  ·exact gJ hi
  ·exact gK ha hm hi
 fro i h1 h2:=by
  rcases Aa i (a+(b-m)) with h|h
  ·exact⟨_,by omega,by omega,iU h1 h⟩
  ·exact⟨_,by omega,by omega,jL h h2⟩
 to j h1 h2:=by
  rcases Aa j m with h|h
  ·exact⟨j+(b-m),by omega,by omega,by rw[jL (by omega) (by omega)];congr 1;omega⟩
  ·exact⟨j-(m-a),by omega,by omega,by rw[iU (by omega) (by omega)];congr 1;omega⟩
theorem aN0 {D:Nat->Nat} {a b:Nat} (h:a<=b):gH D a a b=D:=by
 funext i;unfold gH
 split
 ·rfl
 ·split
  ·congr 1;omega
  ·split
   ·omega
   ·rfl
theorem eV0 {D:Nat->Nat} {a b:Nat}:gH D a b b=D:=by
 funext i;unfold gH
 split
 ·rfl
 ·split
  ·omega
  ·split
   ·congr 1;omega
   ·rfl
theorem aC1 (D:Nat->Nat) (a b:Nat):rC D a b 0=D:=by
 funext i;unfold rC
 rw[if_neg (by omega),if_neg (by omega)]
def wK0 (D:Nat->Nat) (j v i:Nat):Nat:=if i=j then v else D i
theorem bG1 {D:Nat->Nat} {a b n:Nat} (h:a+n<b):wK0 (wK0 (rC D a b n) (a+n) (rC D a b n (b+n))) (b+n) (rC D a b n (a+n))=rC D a b (n+1):=by
 have e1:rC D a b n (b+n)=D (b+n):=by unfold rC;rw[if_neg (by omega),if_neg (by omega)]
 have e2:rC D a b n (a+n)=D (a+n):=by unfold rC;rw[if_neg (by omega),if_neg (by omega)]
 rw[e1,e2];funext i
 unfold wK0;by_cases h1:i=b+n
 ·subst h1
  rw[if_pos rfl];unfold rC;rw[if_neg (by omega),if_pos (by omega)];congr 1;omega
 ·rw[if_neg h1]
  by_cases h2:i=a+n
  ·subst h2
   rw[if_pos rfl];unfold rC;rw[if_pos (by omega)];congr 1;omega
  ·rw[if_neg h2]
   unfold rC;by_cases h3:a<=i/\i<a+n
   ·rw[if_pos h3,if_pos (by omega)]
   ·rw[if_neg h3]
    by_cases h4:b<=i/\i<b+n
    ·rw[if_pos h4,if_neg (by omega),if_pos (by omega)]
    ·rw[if_neg h4,if_neg (by omega),if_neg (by omega)]
theorem kM1 {D:Nat->Nat} {m i j:Nat} (hi:i<=m) (h:j<i):gH (rC D (m-i) m j) (m-(i-j)) m (m+j)=gH D (m-i) m (m+j):=by
 funext x
 rcases Aa x (m-i) with h1|h1
 ·rw[gJ (by omega),gJ h1]
  unfold rC;rw[if_neg (by omega),if_neg (by omega)]
 rcases Aa x (m-i+j) with h2|h2
 ·rw[gJ (by omega),iU h1 (by omega)]
  unfold rC;rw[if_pos (by omega)];congr 1;omega
 rcases Aa x (m+j) with h3|h3
 ·rw[jL (D:=D) (by omega) h3]
  rcases Aa x (m-(i-j)+j) with h4|h4
  ·rw[iU (by omega) (by omega)]
   unfold rC;rw[if_neg (by omega),if_pos (by omega)];congr 1;omega
  ·rw[jL (by omega) h3]
   unfold rC;rw[if_neg (by omega),if_neg (by omega)]
 ·rw[gK (by omega) (by omega) h3,gK (by omega) (by omega) h3]
  unfold rC;rw[if_neg (by omega),if_neg (by omega)]
theorem zF0 {D:Nat->Nat} {m i j:Nat} (hi:i<=m) (h:i<j):gH (rC D (m-i) (m+j-i) i) (m-i) m (m+(j-i))=gH D (m-i) m (m+j):=by
 funext x
 rcases Aa x (m-i) with h1|h1
 ·rw[gJ (by omega),gJ h1]
  unfold rC;rw[if_neg (by omega),if_neg (by omega)]
 rcases Aa x (m+j-i) with h2|h2
 ·rw[iU (D:=D) h1 (by omega)]
  rcases Aa x (m-i+(j-i)) with h4|h4
  ·rw[iU h1 (by omega)]
   unfold rC;rw[if_neg (by omega),if_neg (by omega)]
  ·rw[jL (by omega) (by omega)]
   unfold rC;rw[if_pos (by omega)];congr 1;omega
 rcases Aa x (m+j) with h3|h3
 ·rw[jL (D:=D) (by omega) h3,gK (by omega) (by omega) (by omega)]
  unfold rC;rw[if_neg (by omega),if_pos (by omega)];congr 1;omega
 ·rw[gK (by omega) (by omega) h3,gK (by omega) (by omega) (by omega)]
  unfold rC;rw[if_neg (by omega),if_neg (by omega)]
theorem cV1 {D:Nat->Nat} {m i:Nat} (hi:i<=m):rC D (m-i) m i=gH D (m-i) m (m+i):=by
 funext x
 rcases Aa x (m-i) with h1|h1
 ·rw[gJ h1]
  unfold rC;rw[if_neg (by omega),if_neg (by omega)]
 rcases Aa x m with h2|h2
 ·rw[iU h1 (by omega)]
  unfold rC;rw[if_pos (by omega)];congr 1;omega
 rcases Aa x (m+i) with h3|h3
 ·rw[jL (by omega) h3]
  unfold rC;rw[if_neg (by omega),if_pos (by omega)];congr 1;omega
 ·rw[gK (by omega) (by omega) h3]
  unfold rC;rw[if_neg (by omega),if_neg (by omega)]
theorem rC0 {D:Nat->Nat} {i j:Nat} (h0:0<j) (h:j<=i):wK0 (wK0 (gH D j i (i+1)) j (gH D j i (i+1) (j-1))) (j-1) (gH D j i (i+1) j)=gH D (j-1) i (i+1):=by
 have e1:gH D j i (i+1) (j-1)=D (j-1):=gJ (by omega);have e2:gH D j i (i+1) j=D i:=by rw[iU (Ad _) (by omega)];congr 1;omega
 rw[e1,e2];funext x
 unfold wK0;by_cases h1:x=j-1
 ·subst h1
  rw[if_pos rfl,iU (Ad _) (by omega)];congr 1;omega
 ·rw[if_neg h1]
  by_cases h2:x=j
  ·subst h2
   rw[if_pos rfl,jL (by omega) (by omega)];congr 1;omega
  ·rw[if_neg h2]
   rcases Aa x (j-1) with h3|h3
   ·rw[gJ (by omega),gJ h3]
   rcases Aa x (i+1) with h4|h4
   ·rw[jL (by omega) h4,jL (by omega) h4]
   ·rw[gK (by omega) (by omega) h4,gK (by omega) (by omega) h4]
theorem mK1 {D:Nat->Nat} {a j:Nat} (h:a<=j):wK0 (wK0 (gH D a (a+1) (j+1)) j (gH D a (a+1) (j+1) (j+1))) (j+1) (gH D a (a+1) (j+1) j)=gH D a (a+1) (j+2):=by
 have e1:gH D a (a+1) (j+1) (j+1)=D (j+1):=gK (by omega) (by omega) (Ad _);have e2:gH D a (a+1) (j+1) j=D a:=by rw[jL (by omega) (by omega)];congr 1;omega
 rw[e1,e2];funext x
 unfold wK0;by_cases h1:x=j+1
 ·subst h1
  rw[if_pos rfl,jL (by omega) (by omega)];congr 1;omega
 ·rw[if_neg h1]
  by_cases h2:x=j
  ·subst h2
   rw[if_pos rfl,iU h (by omega)];congr 1;omega
  ·rw[if_neg h2]
   rcases Aa x a with h3|h3
   ·rw[gJ h3,gJ h3]
   rcases Aa x j with h4|h4
   ·rw[iU h3 (by omega),iU h3 (by omega)]
   ·rw[gK (by omega) (by omega) (by omega),gK (by omega) (by omega) (by omega)]
def Srt (k D:Nat->Nat) (a b:Nat):Prop:=∀i j,a<=i->i<j->j<b->ltK k (D i) (D j)
def Apt (D:Nat->Nat) (a m b:Nat):Prop:=∀i j,a<=i->i<m->m<=j->j<b->D i<D j
theorem Srt.of_eq {k D D':Nat->Nat} {a b:Nat} (h:Srt k D a b) (he:∀i,a<=i->i<b->D' i=D i):Srt k D' a b:=λi j h1 h2 h3=>by
 rw[he i h1 (by omega),he j (by omega) h3];exact h i j h1 h2 h3
theorem Srt.le {k D:Nat->Nat} {a b:Nat} (h:Srt k D a b) {i j x:Nat} (h1:a<=i) (h2:i<=j) (h3:j<b) (hx:ltK k x (D i)):ltK k x (D j):=by
 rcases Aa i j with h4|h4
 ·exact uA hx (h i j h1 h4 h3)
 ·rw[show j=i by omega];exact hx
theorem Srt.ge {k D:Nat->Nat} {a b:Nat} (h:Srt k D a b) {i j x:Nat} (h1:a<=i) (h2:i<=j) (h3:j<b) (hx:ltK k (D j) x):ltK k (D i) x:=by
 rcases Aa i j with h4|h4
 ·exact uA (h i j h1 h4 h3) hx
 ·rw[show i=j by omega];exact hx
theorem eU1 {k D:Nat->Nat} {a m b:Nat} (h1:Srt k D a m) (h2:Srt k D m b) (h:∀i j,a<=i->i<m->m<=j->j<b->ltK k (D i) (D j)):Srt k D a b:=λi j hi oe hj=>by
 rcases Aa j m with h3|h3
 ·exact h1 i j hi oe h3
 ·rcases Aa i m with h4|h4
  ·exact h i j hi h4 h3 hj
  ·exact h2 i j h4 oe hj
theorem gA0 {k D:Nat->Nat} {a i j:Nat} (hs:Srt k D a i) (ha:a<=j) (hj:j<=i) (h1:∀c,a<=c->c<j->ltK k (D c) (D i)) (h2:∀c,j<=c->c<i->ltK k (D i) (D c)):Srt k (gH D j i (i+1)) a (i+1):=by
 have ej:gH D j i (i+1) j=D i:=by rw[iU (Ad _) (by omega)];congr 1;omega
 intro x y hx us hy;rcases Aa x j with h3|h3
 ·rw[gJ h3]
  rcases Aa y j with h4|h4
  ·rw[gJ h4];exact hs x y hx us (by omega)
  ·rcases Aa j y with h5|h5
   ·rw[jL (by omega) hy];exact hs x _ hx (by omega) (by omega)
   ·rw[show y=j by omega,ej];exact h1 x hx h3
 ·rw[jL (D:=D) (i:=y) (by omega) hy]
  rcases Aa j x with h5|h5
  ·rw[jL (by omega) (by omega)];exact hs _ _ (by omega) (by omega) (by omega)
  ·rw[show x=j by omega,ej];exact h2 _ (by omega) (by omega)
theorem mJ1 {k D:Nat->Nat} {a i b:Nat} (hs:Srt k D (a+1) b) (ha:a+1<=i) (hi:i<=b) (h1:∀c,a+1<=c->c<i->ltK k (D c) (D a)) (h2:∀c,i<=c->c<b->ltK k (D a) (D c)):Srt k (gH D a (a+1) i) a b:=by
 have ej:gH D a (a+1) i (i-1)=D a:=by rw[jL (by omega) (by omega)];congr 1;omega
 intro x y hx us hy;rcases Aa y (i-1) with h3|h3
 ·rw[iU hx (by omega),iU (by omega) (by omega)];exact hs _ _ (by omega) (by omega) (by omega)
 ·rcases Aa x (i-1) with h4|h4
  ·rw[iU hx (by omega)]
   rcases Aa (i-1) y with h5|h5
   ·rw[gK (by omega) (by omega) (by omega)];exact hs _ _ (by omega) (by omega) hy
   ·rw[show y=i-1 by omega,ej];exact h1 _ (by omega) (by omega)
  ·rw[gK (D:=D) (i:=y) (by omega) (by omega) (by omega)]
   rcases Aa (i-1) x with h5|h5
   ·rw[gK (by omega) (by omega) (by omega)];exact hs _ _ (by omega) us hy
   ·rw[show x=i-1 by omega,ej];exact h2 _ (by omega) hy
structure lL0 (a m b ar lo hi:Nat):Prop where
 am:a<m
 mb:m<b
 mid1:2*ar<=a+b
 mid2:a+b<=2*ar+1
 big:ar<m->lo=ar+m-b/\hi=ar
 small:m<=ar->lo=a/\hi=m
theorem lL0.in {a m b ar lo hi c:Nat} (h:lL0 a m b ar lo hi) (h1:lo<=c) (h2:c<hi):a<=c/\c<m/\m<=ar+m-1-c/\ar+m-1-c<b/\c<ar+m:=by
 obtain⟨h3,h4,h5,h6,h7,h8⟩:=h;rcases Aa ar m with hm|hm
 ·have:=h7 hm;omega
 ·have:=h8 hm;omega
theorem lL0.rng {a m b ar lo hi:Nat} (h:lL0 a m b ar lo hi):a<=lo/\lo<=hi/\hi<=m/\hi<=ar/\ar+m-lo<=b/\m<=ar+m-hi/\ar+m-lo >= m:=by
 obtain⟨h3,h4,h5,h6,h7,h8⟩:=h;rcases Aa ar m with hm|hm
 ·have:=h7 hm;omega
 ·have:=h8 hm;omega
theorem rM0 {k D:Nat->Nat} {a m b ar lo hi c c':Nat} (h:lL0 a m b ar lo hi) (s1:Srt k D a m) (s2:Srt k D m b) (ap:Apt D a m b) (h1:lo<=c) (h2:c<=c') (h3:c'<hi)
  (hc:k (D (ar+m-1-c))<k (D c)):k (D (ar+m-1-c'))<k (D c'):=by
 obtain⟨a1,a2,a3,a4,a5⟩:=h.in h1 (by omega);obtain⟨b1,b2,b3,b4,b5⟩:=h.in (c:=c') (by omega) h3;rw[<-mJ (ap _ _ b1 b2 b3 b4)];rw[<-mJ (ap _ _ a1 a2 a3 a4)]at hc;exact s1.le a1 h2 b2 (s2.ge b3 (by omega) a4 hc)
theorem zA0 {k D:Nat->Nat} {a m b ar lo hi s:Nat} (h:lL0 a m b ar lo hi) (s1:Srt k D a m) (s2:Srt k D m b) (ap:Apt D a m b) (jh:lo<=s) (ut:s<=hi)
  (h1:∀c,lo<=c->c<s->¬k (D (ar+m-1-c))<k (D c)) (h2:∀c,s<=c->c<hi->k (D (ar+m-1-c))<k (D c)) :
  Srt k (gH D s m (ar+m-s)) a s/\Srt k (gH D s m (ar+m-s)) s ar/\Srt k (gH D s m (ar+m-s)) ar (ar+m-s)/\Srt k (gH D s m (ar+m-s)) (ar+m-s) b /\
  Apt (gH D s m (ar+m-s)) a s ar/\Apt (gH D s m (ar+m-s)) ar (ar+m-s) b /\
  ∀i j,a<=i->i<ar->ar<=j->j<b->ltK k (gH D s m (ar+m-s) i) (gH D s m (ar+m-s) j):=by
 obtain⟨r1,r2,r3,r4,r5,r6,r7⟩:=h.rng;have kn:ar+m-s<=b:=by omega
 have A1:∀i,i<s->gH D s m (ar+m-s) i=D i:=λi hi=>gJ hi;have A2:∀i,s<=i->i<ar->gH D s m (ar+m-s) i=D (i+(m-s)):=λi h1 h2=>iU h1 (by omega)
 have A3:∀i,ar<=i->i<ar+m-s->gH D s m (ar+m-s) i=D (i-(ar-s)):=λi h1 h2=>by
  rw[jL (by omega) h2];congr 1;omega
 have A4:∀i,ar+m-s<=i->gH D s m (ar+m-s) i=D i:=λi h=>gK (by omega) (by omega) h
 -- what lies left of the cut is less than what lies right of it
 have X1:∀c q,a<=c->c<s->ar+m-s<=q->q<b->ltK k (D c) (D q):=λc q c1 c2 q1 q2=>by
  rcases Aa lo s with hl|hl
  ·obtain⟨y1,y2,y3,y4,y5⟩:=h.in (c:=s-1) (by omega) (by omega)
   have:=h1 (s-1) (by omega) (by omega)
   rw[<-yL (ap _ _ y1 y2 y3 y4)]at this;exact s1.ge (j:=s-1) c1 (by omega) y2 (s2.le y3 (by omega) q2 this)
  ·exfalso
   obtain⟨h3,h4,h5,h6,h7,h8⟩:=h;rcases Aa ar m with hm|hm
   ·have:=h7 hm;omega
   ·have:=h8 hm;omega
 have X2:∀q c,m<=q->q<ar+m-s->s<=c->c<m->ltK k (D q) (D c):=λq c q1 q2 c1 c2=>by
  rcases Aa s hi with hl|hl
  ·obtain⟨y1,y2,y3,y4,y5⟩:=h.in (c:=s) (by omega) hl
   have:=h2 s (Ad _) hl
   rw[<-mJ (ap _ _ y1 y2 y3 y4)]at this;exact s1.le y1 c1 c2 (s2.ge q1 (by omega) y4 this)
  ·exfalso
   obtain⟨h3,h4,h5,h6,h7,h8⟩:=h;rcases Aa ar m with hm|hm
   ·have:=h7 hm;omega
   ·have:=h8 hm;omega
 refine⟨?_,?_,?_,?_,?_,?_,?_⟩
 ·intro i j i1 i2 i3
  rw[A1 i (by omega),A1 j i3];exact s1 i j i1 i2 (by omega)
 ·intro i j i1 i2 i3
  rw[A2 i i1 (by omega),A2 j (by omega) i3];exact s2 _ _ (by omega) (by omega) (by omega)
 ·intro i j i1 i2 i3
  rw[A3 i i1 (by omega),A3 j (by omega) i3];exact s1 _ _ (by omega) (by omega) (by omega)
 ·intro i j i1 i2 i3
  rw[A4 i i1,A4 j (by omega)];exact s2 _ _ (by omega) (by omega) (by omega)
 ·intro i j i1 i2 i3 i4
  rw[A1 i i2,A2 j i3 i4];exact ap _ _ i1 (by omega) (by omega) (by omega)
 ·intro i j i1 i2 i3 i4
  rw[A3 i i1 i2,A4 j i3];exact ap _ _ (by omega) (by omega) (by omega) i4
 ·intro i j i1 i2 i3 i4
  rcases Aa i s with h3|h3
  ·rw[A1 i h3]
   rcases Aa j (ar+m-s) with h4|h4
   ·rw[A3 j i3 h4];exact s1 _ _ i1 (by omega) (by omega)
   ·rw[A4 j h4];exact X1 i j i1 h3 h4 i4
  ·rw[A2 i h3 i2]
   rcases Aa j (ar+m-s) with h4|h4
   ·rw[A3 j i3 h4];exact X2 _ _ (by omega) (by omega) (by omega) (by omega)
   ·rw[A4 j h4];exact s2 _ _ (by omega) (by omega) (by omega)
theorem iS {k D1 D2 D3:Nat->Nat} {a ar b:Nat} (ham:a<=ar) (hmb:ar<=b) (hx:∀i j,a<=i->i<ar->ar<=j->j<b->ltK k (D1 i) (D1 j)) (e1:eO D1 D2 a ar) (s1:Srt k D2 a ar) (e2:eO D2 D3 ar b) (s2:Srt k D3 ar b) :
  Srt k D3 a b/\eO D1 D3 a b:=by
 refine⟨eU1 (m:=ar) (s1.of_eq λi h1 h2=>e2.out i (Or.inl h2)) s2 ?_,(e1.wide (Ad _) hmb).trans (e2.wide ham (Ad _))⟩;intro i j i1 i2 j1 j2;rw[e2.out i (Or.inl i2)];obtain⟨i',p1,p2,p3⟩:=e1.fro i i1 i2;obtain⟨j',q1,q2,q3⟩:=e2.fro j j1 j2;rw[p3,q3,e1.out j' (Or.inr q1)];exact hx i' j' p1 p2 q1 q2
structure Win (k D:Nat->Nat) (a b:Nat):Prop where
 srt:Srt k D a b
 inn:∀i,a<=i->i<b->a<=D i/\D i<b
 all:∀v,a<=v->v<b->∃i,a<=i/\i<b/\D i=v
theorem Win.none (k D:Nat->Nat) (a:Nat):Win k D a a:=⟨λi j h1 h2 h3=>by omega,λi h1 h2=>by omega,λv h1 h2=>by omega⟩
theorem Win.apt {k D:Nat->Nat} {a m b:Nat} (h1:Win k D a m) (h2:Win k D m b):Apt D a m b:=λi j i1 i2 j1 j2=>by
 have:=h1.inn i i1 i2
 have:=h2.inn j j1 j2
 omega
theorem Win.merge {k D D':Nat->Nat} {a m b:Nat} (h1:Win k D a m) (h2:Win k D m b) (ham:a<=m) (hmb:m<=b) (hs:eO D D' a b) (h:Srt k D' a b):Win k D' a b:=by
 refine⟨h,λi i1 i2=>?_,λv v1 v2=>?_⟩
 ·obtain⟨j,j1,j2,e⟩:=hs.fro i i1 i2
  rw[e];rcases Aa j m with hj|hj
  ·have:=h1.inn j j1 hj;omega
  ·have:=h2.inn j hj j2;omega
 ·rcases Aa v m with hv|hv
  ·obtain⟨j,j1,j2,e⟩:=h1.all v v1 hv
   obtain⟨i,i1,i2,e2⟩:=hs.to j j1 (by omega);exact⟨i,i1,i2,e2.trans e⟩
  ·obtain⟨j,j1,j2,e⟩:=h2.all v hv v2
   obtain⟨i,i1,i2,e2⟩:=hs.to j (by omega) j2;exact⟨i,i1,i2,e2.trans e⟩
theorem Win.of_eq {k D D':Nat->Nat} {a b:Nat} (h:Win k D a b) (he:∀i,a<=i->i<b->D' i=D i):Win k D' a b :=
 ⟨h.srt.of_eq he,λi h1 h2=>by rw[he i h1 h2];exact h.inn i h1 h2,λv h1 h2=>by obtain⟨i,a,b,c⟩:=h.all v h1 h2;exact⟨i,a,b,by rw[he i a b,c]⟩⟩
def hY1 (k D:Nat->Nat) (B n:Nat):Prop:=∀t,t*B<n->Win k D (t*B) (min (t*B+B) n)
theorem iL {α:Type} {r:α->α->Prop} (abg:∀a, ¬r a a) (htr:∀a b c,r a b->r b c->r a c):∀ {l1 l2:List α},l1.Pairwise r->l2.Pairwise r->(∀x,x∈l1↔x∈l2)->l1=l2
 | [],[],_,_,_=>rfl
 | [],y::_,_,_,h=>by have:=(h y).2 (by simp);simp at this
 | x::_,[],_,_,h=>by have:=(h x).1 (by simp);simp at this
 | x::l1,y::l2,h1,h2,h=>by
  obtain⟨a1,a2⟩:=List.pairwise_cons.1 h1;obtain⟨b1,b2⟩:=List.pairwise_cons.1 h2
  have us:x=y:=by
   rcases List.mem_cons.1 ((h x).1 (by simp)) with e|e
   ·exact e
   ·rcases List.mem_cons.1 ((h y).2 (by simp)) with e2|e2
    ·exact e2.symm
    ·exact absurd (htr _ _ _ (a1 y e2) (b1 x e)) (abg x)
  subst us;rw[iL abg htr a2 b2 λz=>?_];constructor
  ·intro hz
   rcases List.mem_cons.1 ((h z).1 (by simp[hz])) with e|e
   ·subst e;exact absurd (a1 z hz) (abg z)
   ·exact e
  ·intro hz
   rcases List.mem_cons.1 ((h z).2 (by simp[hz])) with e|e
   ·subst e;exact absurd (b1 z hz) (abg z)
   ·exact e
end
section
open Go Go.RowKit
attribute [local go_sem] aQ
theorem bU1 (p:cJ) (name:ByteArray) (b:Nat) (w:World) (hc:w.cell? ⟨b,0,none⟩=some (.string name)) (hb:b<w.heap.size) :
  Calls Tryz.prog 240 #[.agg #[.string p.name,.int .i64 p.kind],.pointer (some ⟨b,0,none⟩)] w λe w'=>e=.returned (.bool (seq p.name name))/\Grows w w':=by
 have aj:b≠w.heap.size:=by omega
 go_enter Tryz.func240,Tryz.ntmps240
 go_wp2
 go_ret;exact⟨rfl,Grows.alloc _ _⟩
def oD1 (o:Option Nat):Int:=match o with|some k=>k|none => -1
theorem hM0 (l:List cJ) (name:ByteArray) (a:Option Addr) (cap b:Nat) (w:World) (hl:l.length<=4611686018427387904) (hs:aF w a 2 (l.map bE)) (hc:w.cell? ⟨b,0,none⟩=some (.string name)) :
  Calls Tryz.prog 239 #[.slice a l.length cap,.func (.func 240) #[] #[.pointer (some ⟨b,0,none⟩)]] w λe w'=>e=.returned (.int .i64 (oD1 (posFind l name)))/\Grows w w':=by
 have HS:=Ag hs;have HC:=Ag hc;clear hs hc;go_enter Tryz.func239,Tryz.ntmps239
 go_wp2
 go_loopw [8] (λi wr=>∃k:Nat,k<=l.length/\i=.int .i64 k/\Hid (∀j q,j<k->l[j]?=some q->seq q.name name=false)/\Grows w wr) (λi _=>l.length-(intOf i).toNat)
 case atStart=>exact⟨0,Ax _,rfl,λj q hj=>by omega,Grows.refl _⟩
 case round =>
  obtain⟨k,hk,rfl,hz,hg⟩:=hrel;by_cases ae:k<l.length
  ·obtain⟨p,hp⟩:∃p,l[k]?=some p:=⟨_,Ae ae⟩
   obtain⟨bl,off,rfl,bz⟩:=(HS.out.grows hg).get (aH ae);have c0:wr.cell? ⟨bl,off+k*2,none⟩=some (.string p.name):=bz k p hp 0 _ rfl;have c1:wr.cell? ⟨bl,off+k*2+1,none⟩=some (.int .i64 p.kind):=bz k p hp 1 _ rfl;clear bz;have HP:=Ag hp;clear hp;have gv:=bU1 p name b wr (hg.cell HC.out) (World.block_lt_of_cell? wr _ (hg.cell HC.out));have HCON:=Ag gv;clear gv;cases hq:seq p.name name
   ·rw[hq]at HCON
    have HQ:=Ag hq;clear hq;go_wp2_with (go_at_call 240;refine HCON.out.mono ?_;rintro e w' ⟨rfl,af⟩)
    go_roundw
    case rel=>exact⟨k+1,by omega,by go_num,λj q hj hq=>by
     rcases Nat.lt_succ_iff_lt_or_eq.1 hj with h|rfl
     ·exact hz.out j q h hq
     ·rw[HP.out]at hq;obtain rfl:=Option.some.inj hq;exact HQ.out,hg.tr af⟩
    case measure=>simp[intOf];omega
   ·rw[hq]at HCON
    have au:=Ag (bB0 HP.out hz.out hq);clear hq;go_wp2_with (go_at_call 240;refine HCON.out.mono ?_;rintro e w' ⟨rfl,af⟩)
    go_ret;exact⟨by rw[au.out];rfl,hg.tr af⟩
  ·obtain rfl:k=l.length:=by omega
   have au:=Ag (xD hz.out);go_wp2
   go_ret;exact⟨by rw[au.out];rfl,hg⟩
def aG1 (o:Option Nat):Int:=match o with|some k=>k|none=>0
theorem mO0 (l:List cJ) (name:ByteArray) (a:Option Addr) (cap:Nat) (w:World) (hl:l.length<=4611686018427387904) (hs:aF w a 2 (l.map bE)) :
  Calls Tryz.prog 179 #[.slice a l.length cap,.string name] w λe w'=>e=.returned (.tuple #[.int .i64 (aG1 (posFind l name)),.bool (posFind l name).isSome])/\Grows w w':=by
 have gv:=Ag (hM0 l name a cap w.heap.size (w.alloc (.cells #[.string name] 9)) hl (hs.grows (Grows.alloc _ _)) (aT _ _ _ _ _ _ rfl));clear hs
 cases hq:posFind l name with
 | none =>
  rw[hq]at gv;clear hq;go_enter Tryz.func179,Tryz.ntmps179
  go_wp2_with (go_at_call 239;refine gv.out.mono ?_;rintro e w' ⟨rfl,af⟩)
  go_ret2;exact⟨rfl,(Grows.alloc _ _).tr af⟩
 | some k =>
  rw[hq]at gv;clear hq;go_enter Tryz.func179,Tryz.ntmps179
  go_wp2_with (go_at_call 239;refine gv.out.mono ?_;rintro e w' ⟨rfl,af⟩)
  go_ret2;exact⟨rfl,(Grows.alloc _ _).tr af⟩
end
section
open Go Go.RowKit
theorem rJ {P:Program} {d:Nat} {t:TypeId} {fs:Array Field} {cs:List Value} (h:P.underlying t=some (.struct fs)) :
  P.keyLits (d + 1) t cs = if cs.length = P.cellsOf t ∧ fs.all (·.name != "_") = true then (fs.toList.mapM fun f => P.keyLits d f.type ((cs.drop f.offset).take (P.cellsOf f.type))).map List.flatten else none := by
 conv=>lhs;unfold Program.keyLits
 simp only[h]
def zI0 (x:Int×Int):Value := .agg #[.int .i64 x.1,.int .i64 x.2]
def WfI (n:Int):Prop:=(Lit.int .i64 n).wf=true
def klP (x:Int×Int):Lit := .string (keyBytes [.int .i64 x.1,.int .i64 x.2])
theorem pL0:laidOutB Tryz.prog=true:=by kernel_rfl
theorem uI:Go.Maps.Keyed Tryz.prog 227:=Go.Maps.Keyed.of_law (deep_law_laid pL0 (m:=3) (by decide) (of_decide_eq_true (by kernel_rfl)) (by kernel_rfl) (by kernel_rfl))
theorem lT1 {x:Int×Int} (h1:WfI x.1) (h2:WfI x.2):Go.keyOf Tryz.prog 227 (zI0 x)=some (klP x):=by
 obtain⟨m,hm⟩:∃m,Tryz.prog.types.size=m+1:=⟨Tryz.prog.types.size-1,by have:0<Tryz.prog.types.size:=of_decide_eq_true (by kernel_rfl);omega⟩
 have hI:∀(n:Int),WfI n->Tryz.prog.keyLits (m+1) 3 [.int .i64 n]=some [.int .i64 n]:=λn hn=>by
  unfold Program.keyLits;unfold WfI at hn;simp only[Tryz.underlying3,hn,and_self,if_true]
 have hk:Tryz.prog.keyType 227=true:=by kernel_rfl
 have hc:Tryz.prog.cellsOf 227=2:=by kernel_rfl
 have hci:Tryz.prog.cellsOf 3=1:=by kernel_rfl
 obtain⟨a,b⟩:=x;have g1:=hI a h1;have g2:=hI b h2;unfold Go.keyOf;simp only[Tryz.underlying227,hk,Br];unfold Value.formed zI0;simp only[Tryz.underlying227,hc];have hz:((#[Value.int .i64 a,.int .i64 b]:Array Value).size==2)=true:=rfl;rw[if_pos hz,hm];unfold Program.keyLits;simp only[Tryz.underlying227,hc,Value.cells];simp[hci,g1,g2,klP]
theorem nX0 {x y:Int×Int} (h1:WfI x.1) (h2:WfI x.2) (h3:WfI y.1) (h4:WfI y.2) (h:klP x=klP y):x=y:=by
 have k1:=lT1 h1 h2;have k2:=lT1 h3 h4;rw[h]at k1
 have:=uI.inj k1 k2
 obtain⟨a,b⟩:=x;obtain⟨a',b'⟩:=y;simpa [zI0] using this
theorem gV0 {key:Value} {kl:Lit} (h:Go.keyOf Tryz.prog 227 key=some kl):∃x:Int×Int,WfI x.1/\WfI x.2/\key=zI0 x/\kl=klP x:=by
 obtain⟨m,hm⟩:∃m,Tryz.prog.types.size=m+1:=⟨Tryz.prog.types.size-1,by have:0<Tryz.prog.types.size:=of_decide_eq_true (by kernel_rfl);omega⟩
 have hI:∀(v:Value) (ls:List Lit),Tryz.prog.keyLits (m+1) 3 [v]=some ls->∃n:Int,v=.int .i64 n/\WfI n/\ls=[.int .i64 n]:=λv ls h=>by
  unfold Program.keyLits at h;simp only[Tryz.underlying3]at h;cases v<;>simp at h
  obtain⟨⟨rfl,h2⟩,h3⟩:=h;exact⟨_,rfl,h2,h3.symm⟩
 have hk:Tryz.prog.keyType 227=true:=by kernel_rfl
 have hc:Tryz.prog.cellsOf 227=2:=by kernel_rfl
 have hci:Tryz.prog.cellsOf 3=1:=by kernel_rfl
 unfold Go.keyOf at h;simp only[Tryz.underlying227,hk,Br]at h;split at h
 ·rename_i hf
  rw[hm]at h
  obtain⟨cs,rfl,dp⟩:∃cs,key=.agg cs/\cs.size=2:=by
   unfold Value.formed at hf;cases key<;>simp[Tryz.underlying227,hc]at hf
   exact⟨_,rfl,hf⟩
  obtain⟨l⟩:=cs
  match l,dp with
  | [c0,c1],_ =>
   rw[rJ Tryz.underlying227]at h;simp only[Value.cells]at h;simp[hci,hc,Option.bind_eq_some_iff,List.mapM_cons]at h;obtain⟨l0,g0,ls,⟨l1,g1,rfl⟩,rfl⟩:=h;obtain⟨n2,rfl,z2,rfl⟩:=hI _ _ g0;obtain⟨n3,rfl,z3,rfl⟩:=hI _ _ g1;exact⟨⟨n2,n3⟩,z2,z3,rfl,by simp[klP]⟩
 ·cases h
end
section
open Go Go.RowKit
structure Mx where
 n:Nat
 d:Int
 cs:List Int
structure Mx.OK (m:Mx):Prop where
 n1:1<=m.n
 n2:m.n<=64
 d1:0<=m.d
 d2:m.d<=30000
 len:m.cs.length=m.n*m.n
 cost:∀c∈m.cs,0<=c/\c<=30000
def isC (c:Int):Bool:=decide (0<=c)&&decide (c<=30000)
theorem uV {c:Int}:isC c=true↔0<=c/\c<=30000:=by simp[isC]
def nD0 (n d:Int):Bool:=decide (1<=n)&&decide (n<=64)&&isC d
theorem nO {n d:Int}:nD0 n d=true↔1<=n/\n<=64/\0<=d/\d<=30000:=by simp[nD0,isC,and_assoc]
def newM (n d:Int):Mx:=⟨n.toNat,d,Ac (n.toNat*n.toNat) d⟩
theorem fC0 {n d:Int} (h:nD0 n d=true):(newM n d).OK:=by
 obtain⟨h1,h2,h3,h4⟩:=nO.1 h;refine⟨?_,?_,h3,h4,by simp[newM],λc hc=>?_⟩
 ·show 1<=n.toNat;omega
 ·show n.toNat<=64;omega
 ·obtain rfl:c=d:=(List.mem_replicate.1 hc).2
  exact⟨h3,h4⟩
def inR (n:Nat) (r:Int):Bool:=decide (0<=r)&&decide (r<n)
theorem jL1 {n:Nat} {r:Int}:inR n r=true↔0<=r/\r<n:=by simp[inR]
def at2 (n:Nat) (x:Int×Int):Nat:=x.1.toNat*n+x.2.toNat
def inP (n:Nat) (x:Int×Int):Bool:=inR n x.1&&inR n x.2
theorem iX {n:Nat} {x:Int×Int}:inP n x=true↔(0<=x.1/\x.1<n)/\0<=x.2/\x.2<n:=by simp[inP,jL1]
theorem rI {n:Nat} {x:Int×Int} (h:inP n x=true):at2 n x<n*n:=by
 obtain⟨⟨h1,h2⟩,h3,h4⟩:=iX.1 h;unfold at2;have k1:x.1.toNat+1<=n:=by omega
 have k2:x.2.toNat<n:=by omega
 have:=Nat.mul_le_mul_right n k1
 rw[Nat.add_mul,Nat.one_mul]at this;omega
theorem bC1 {n:Nat} {x:Int×Int} (h:inP n x=true):at2 n x/n=x.1.toNat/\at2 n x%n=x.2.toNat:=by
 obtain⟨⟨h1,h2⟩,h3,h4⟩:=iX.1 h;have k2:x.2.toNat<n:=by omega
 unfold at2;constructor
 ·rw[Be,Nat.mul_add_div (by omega),Nat.div_eq_of_lt k2,Bf]
 ·rw[Be,Nat.mul_add_mod,Nat.mod_eq_of_lt k2]
theorem wU0 {n:Nat} {x y:Int×Int} (hx:inP n x=true) (hy:inP n y=true) (h:at2 n x=at2 n y):x=y:=by
 have k1:=bC1 hx;have k2:=bC1 hy;rw[h]at k1;obtain⟨⟨h1,h2⟩,h3,h4⟩:=iX.1 hx;obtain⟨⟨g1,g2⟩,g3,g4⟩:=iX.1 hy;have e1:=k1.1.symm.trans k2.1;have e2:=k1.2.symm.trans k2.2;exact Bv (by omega) (by omega)
def Mx.cost (m:Mx) (x:Int×Int):Int:=if inP m.n x then m.cs.getD (at2 m.n x) 0 else 30000
def Mx.setB (m:Mx) (x:Int×Int) (c:Int):Bool:=inP m.n x&&isC c
def Mx.set (m:Mx) (x:Int×Int) (c:Int):Mx:={ m with cs:=m.cs.set (at2 m.n x) c }
def Mx.setIf (m:Mx) (x:Int×Int) (c:Int):Mx:=if m.setB x c then m.set x c else m
theorem Mx.OK.set {m:Mx} (h:m.OK) {x:Int×Int} {c:Int} (hs:m.setB x c=true):(m.set x c).OK:=by
 simp only[Mx.setB,Af]at hs;refine⟨h.n1,h.n2,h.d1,h.d2,by simp[Mx.set,h.len],λz hz=>?_⟩;rcases List.mem_or_eq_of_mem_set hz with hz|rfl
 ·exact h.cost z hz
 ·exact uV.1 hs.2
theorem Mx.cost_set {m:Mx} (h:m.OK) {x:Int×Int} {c:Int} (hx:inP m.n x=true) (y:Int×Int):(m.set x c).cost y=if y=x then c else m.cost y:=by
 have hl:at2 m.n x<m.cs.length:=by rw[h.len];exact rI hx
 unfold Mx.cost;show (if inP m.n y then (m.cs.set (at2 m.n x) c).getD (at2 m.n y) 0 else 30000)=_
 by_cases hy:inP m.n y=true
 ·rw[if_pos hy,if_pos hy]
  by_cases e:y=x
  ·subst e;rw[if_pos rfl]
   simp[Bj,hl]
  ·rw[if_neg e]
   have:at2 m.n x≠at2 m.n y:=λh=>e (wU0 hx hy h).symm
   simp[Bj,List.getElem?_set_ne this]
 ·rw[if_neg hy,if_neg hy,if_neg (λe=>hy (by rw[e];exact hx))]
theorem Mx.cost_new {n d:Int} (x:Int×Int):(newM n d).cost x=if inP n.toNat x then d else 30000:=by
 unfold Mx.cost newM;simp only;by_cases h:inP n.toNat x=true
 ·rw[if_pos h,if_pos h]
  simp[Bj,rI h]
 ·rw[if_neg h,if_neg h]
theorem Mx.cost_ok {m:Mx} (h:m.OK) (x:Int×Int):0<=m.cost x/\m.cost x<=30000:=by
 unfold Mx.cost;split
 ·rename_i hx
  have hl:at2 m.n x<m.cs.length:=by rw[h.len];exact rI hx
  have:m.cs.getD (at2 m.n x) 0=m.cs[at2 m.n x]:=by simp[Bj,hl]
  rw[this];exact h.cost _ (Ah _)
 ·omega
theorem nP {n:Nat} (hn:n<=64) {x:Int×Int} (h:inP n x=true):WfI x.1/\WfI x.2:=by
 obtain⟨⟨h1,h2⟩,h3,h4⟩:=iX.1 h;exact⟨WalkArith.wf_i64 (by omega),WalkArith.wf_i64 (by omega)⟩
section
variable {H:Type}
def qY0 (m:Mx) (D:DataW H):Prop:=∀x:Int×Int,WfI x.1->WfI x.2->(Maps.has D (klP x)=(inP m.n x&&decide (m.cost x≠m.d)))/\(Maps.has D (klP x)=true->∀zd,D.atKey (klP x) zd=.lit (.int .i64 (m.cost x)))
theorem xJ0 (x:Int×Int):WideAt.IsKeyLit (klP x):=by simp[klP,WideAt.IsKeyLit]
theorem qA0 (x:Int×Int):(klP x).sameKey (klP x)=true:=by simp[klP,Lit.sameKey]
theorem fD1 (n d:Int):qY0 (H:=H) (newM n d) (.map []):=λx _ _=>by
 refine⟨?_,λh=>by cases h⟩;show false=_
 rw[Mx.cost_new];show false=(inP n.toNat x&&decide ((if inP n.toNat x then d else 30000)≠d))
 cases inP n.toNat x<;>simp
theorem qY0.put {m:Mx} {D:DataW H} (h:qY0 m D) (hm:Maps.IsMap D) (ag:m.OK) {x:Int×Int} {c:Int} (hs:m.setB x c=true) (hc:c≠m.d):qY0 (m.set x c) (D.put (klP x) (.lit (.int .i64 c))):=λy h1 h2=>by
 simp only[Mx.setB,Af]at hs;have hw:=nP ag.n2 hs.1;rw[Mx.cost_set ag hs.1];show Maps.has _ _=(inP m.n y&&decide (_≠m.d))/\_
 by_cases e:y=x
 ·subst e
  rw[if_pos rfl,Maps.has_put_same hm (xJ0 _),hs.1];exact⟨by simp[hc],λ_ zd=>Maps.atKey_put_same hm (xJ0 _) _ _⟩
 ·have aj:klP y≠klP x:=λh=>e (nX0 h1 h2 hw.1 hw.2 h)
  rw[if_neg e,Maps.has_put_other aj];refine⟨(h y h1 h2).1,λhh zd=>?_⟩;rw[Maps.atKey_put_other aj];exact(h y h1 h2).2 hh zd
theorem qY0.del {m:Mx} {D:DataW H} (h:qY0 m D) (ag:m.OK) {x:Int×Int} (hx:inP m.n x=true):qY0 (m.set x m.d) (D.del (klP x)):=λy h1 h2=>by
 have hw:=nP ag.n2 hx;rw[Mx.cost_set ag hx];show Maps.has _ _=(inP m.n y&&decide (_≠m.d))/\_
 by_cases e:y=x
 ·subst e
  rw[if_pos rfl,Maps.has_del_same];exact⟨by simp,λh=>by cases h⟩
 ·have aj:klP y≠klP x:=λh=>e (nX0 h1 h2 hw.1 hw.2 h)
  rw[if_neg e,Maps.has_del_other aj];refine⟨(h y h1 h2).1,λhh zd=>?_⟩;rw[Maps.atKey_del_other aj];exact(h y h1 h2).2 hh zd
theorem qY0.look {m:Mx} {D:DataW H} (h:qY0 m D) (ag:m.OK) {x:Int×Int} (hx:inP m.n x=true) {c:Int} (hc:D.atKey (klP x) (.lit (.int .i64 0))=.lit (.int .i64 c)):(Maps.has D (klP x)=true->c=m.cost x)/\(Maps.has D (klP x)=false->m.cost x=m.d):=by
 have hw:=nP ag.n2 hx;obtain⟨h1,h2⟩:=h x hw.1 hw.2;refine⟨λhh=>?_,λhh=>?_⟩
 ·have:=h2 hh (.lit (.int .i64 0))
  rw[hc]at this;simpa using this
 ·rw[hh,hx]at h1
  have h3:decide (m.cost x≠m.d)=false:=by simpa using h1.symm
  simpa using h3
end
def Mx.idx (m:Mx):List Nat:=(Aj (m.n*m.n)).filter λi=>decide (m.cs.getD i 0≠m.d)
def eE (n i:Nat):Int×Int:=(((i/n:Nat):Int),((i%n:Nat):Int))
def Mx.pairs (m:Mx):List (Int×Int):=m.idx.map (eE m.n)
theorem jP {n i:Nat} (h:i<n*n):inP n (eE n i)=true/\at2 n (eE n i)=i:=by
 have hn:0<n:=by
  rcases Am n with h0|h0
  ·subst h0;simp at h
  ·exact h0
 have h1:i/n<n:=Nat.div_lt_of_lt_mul h;have h2:i%n<n:=Nat.mod_lt _ hn;refine⟨iX.2 ⟨⟨Ba _,Int.ofNat_lt.2 h1⟩,Ba _,Int.ofNat_lt.2 h2⟩,?_⟩;simp only[at2,eE,Int.toNat_natCast];rw[Be];exact Av i n
theorem dK0 {n:Nat} {x:Int×Int} (h:inP n x=true):eE n (at2 n x)=x:=wU0 (jP (rI h)).1 h (jP (rI h)).2
theorem Mx.mem_idx {m:Mx} {i:Nat}:i∈m.idx↔i<m.n*m.n/\m.cs.getD i 0≠m.d:=by simp[Mx.idx]
theorem Mx.mem_pairs {m:Mx} {x:Int×Int}:x∈m.pairs↔inP m.n x=true/\m.cost x≠m.d:=by
 unfold Mx.pairs;rw[Bt];constructor
 ·rintro⟨i,hi,rfl⟩
  obtain⟨h1,h2⟩:=Mx.mem_idx.1 hi;obtain⟨h3,h4⟩:=jP h1;refine⟨h3,?_⟩;unfold Mx.cost;rw[if_pos h3,h4];exact h2
 ·rintro⟨h1,h2⟩
  refine⟨at2 m.n x,Mx.mem_idx.2 ⟨rI h1,?_⟩,dK0 h1⟩;unfold Mx.cost at h2;rwa [if_pos h1]at h2
def cT1 (a b:Int×Int):Int:=orI [kF a.1 b.1,kF a.2 b.2]
def ltP (a b:Int×Int):Prop:=a.1<b.1\/a.1=b.1/\a.2<b.2
theorem iU1 (a b:Int×Int):cT1 a b<0↔ltP a b:=by
 unfold cT1 ltP;simp only[orI];unfold kF;constructor
 ·intro h
  split at h<;>(repeat' split at h)<;>omega
 ·intro h
  split<;>(repeat' split)<;>omega
theorem eL0 (a:Int×Int):¬ltP a a:=by unfold ltP; omega
theorem lD0 {a b c:Int×Int} (h1:ltP a b) (h2:ltP b c):ltP a c:=by unfold ltP at *; omega
theorem yA0 {a b:Int×Int} (h:a≠b):ltP a b\/ltP b a:=by
 by_cases h1:a.1=b.1
 ·have h2:a.2≠b.2:=λh2=>h (Bv h1 h2)
  unfold ltP;omega
 ·unfold ltP;omega
theorem aT1 {n i j:Nat} (h:i<j):ltP (eE n i) (eE n j):=by
 have h1:i/n<=j/n:=Nat.div_le_div_right (Nat.le_of_lt h);unfold ltP eE;simp only;by_cases e:i/n=j/n
 ·right
  refine⟨by omega,?_⟩;have h2:=Av i n;have h3:=Av j n;rw[e]at h2;omega
 ·left;omega
theorem Mx.pairs_sorted (m:Mx):m.pairs.Pairwise ltP:=by
 unfold Mx.pairs Mx.idx;rw[Bg];exact(List.Pairwise.filter _ Au).imp λh=>aT1 h
theorem aT0 {α:Type} {lt:α->α->Prop} (hi:∀a, ¬lt a a) (ht:∀ {a b c},lt a b->lt b c->lt a c):∀ {o o':List α},o.Pairwise lt->o'.Pairwise lt->(∀y,y∈o↔y∈o')->o=o'
 | [],[],_,_,_=>rfl
 | [],b::s,_,_,h=>by have:=(h b).2 (by simp);cases this
 | a::r,[],_,_,h=>by have:=(h a).1 (by simp);cases this
 | a::r,b::s,h1,h2,h=>by
  obtain⟨ha,hr⟩:=List.pairwise_cons.1 h1;obtain⟨hb,hs⟩:=List.pairwise_cons.1 h2
  have ev:a=b:=by
   rcases List.mem_cons.1 ((h a).1 (by simp)) with e|e
   ·exact e
   ·rcases List.mem_cons.1 ((h b).2 (by simp)) with e'|e'
    ·exact e'.symm
    ·exact absurd (ht (hb a e) (ha b e')) (hi b)
  subst ev;have iw:a∉r:=λhm=>hi a (ha a hm);have ix:a∉s:=λhm=>hi a (hb a hm);rw[aT0 hi ht hr hs λy=>?_];constructor
  ·intro hy
   rcases List.mem_cons.1 ((h y).1 (by simp[hy])) with e|e
   ·subst e;exact absurd hy iw
   ·exact e
  ·intro hy
   rcases List.mem_cons.1 ((h y).2 (by simp[hy])) with e|e
   ·subst e;exact absurd hy ix
   ·exact e
theorem Mx.pairs_len {m:Mx} (h:m.OK):m.pairs.length<=4096:=by
 unfold Mx.pairs;rw[List.length_map];refine Nat.le_trans (List.length_filter_le _ _) ?_;rw[List.length_range]
 have:=h.n2
 exact Nat.mul_le_mul this this
end
section
open Go
def grp (k:Nat->Nat) (n s:Nat):List Nat:=(Aj n).filter λi=>k i==s
def grpsL (k:Nat->Nat) (n S:Nat):List Nat:=(Aj S).flatMap (grp k n)
def pQ0 (k:Nat->Nat) (n S:Nat):List Nat:=(Aj S).map λs=>(grpsL k n s).length
theorem kW (k:Nat->Nat) (n S:Nat):grpsL k n (S+1)=grpsL k n S++grp k n S:=by
 unfold grpsL;rw[Bk,Ai];simp
theorem wQ0 (k:Nat->Nat) (n S:Nat):pQ0 k n (S+1)=pQ0 k n S++[(grpsL k n S).length]:=by
 unfold pQ0;rw[Bk,List.map_append];rfl
theorem pH {k:Nat->Nat} {n s i:Nat}:i∈grp k n s↔i<n/\k i=s:=by
 unfold grp;rw[Bl,Bq];simp
theorem fX {k:Nat->Nat} {n S i:Nat}:i∈grpsL k n S↔i<n/\k i<S:=by
 unfold grpsL;rw[List.mem_flatMap];constructor
 ·rintro⟨s,hs,hi⟩
  rw[pH]at hi;rw[Bq]at hs;omega
 ·rintro⟨h1,h2⟩
  exact⟨k i,List.mem_range.2 h2,pH.2 ⟨h1,rfl⟩⟩
theorem jM0 (k:Nat->Nat) (n s:Nat):(grp k n s).Pairwise (ltK k):=by
 have h:(grp k n s).Pairwise (· < ·):=List.Pairwise.filter _ Au;refine(List.pairwise_iff_getElem.2 λi j hi hj oe=>?_);have h1:=List.pairwise_iff_getElem.1 h i j hi hj oe;have a:=(pH.1 (Ah hi)).2;have b:=(pH.1 (Ah hj)).2;unfold ltK;omega
theorem gN (k:Nat->Nat) (n:Nat):∀S,(grpsL k n S).Pairwise (ltK k)
 | 0=>by simp[grpsL]
 | S+1=>by
  rw[kW];refine List.pairwise_append.2 ⟨gN k n S,jM0 k n S,λa ha b hb=>?_⟩;have h1:=fX.1 ha;have h2:=pH.1 hb;unfold ltK;omega
def zF (k:Nat->Nat) (l:List Nat) (i:Nat):Bool:=i==0||k (l.getD i 0) != k (l.getD (i-1) 0)
def dV0 (k:Nat->Nat) (l:List Nat):List Nat:=(Aj l.length).filter (zF k l)
theorem sQ0 {k:Nat->Nat} {l g:List Nat} {s:Nat} (hg:g≠[]) (h1:∀x∈l,k x<s) (h2:∀x∈g,k x=s):dV0 k (l++g)=dV0 k l++[l.length]:=by
 have ak:0<g.length:=List.length_pos_iff.2 hg
 have L1:∀i,i<l.length->(l++g).getD i 0=l.getD i 0:=λi hi=>by
  rw[Ab,Ab,Ap hi]
 have L2:∀i,(l++g).getD (l.length+i) 0=g.getD i 0:=λi=>by
  rw[Ab,Ab,An (by omega),At]
 have G:∀i,i<g.length->k (g.getD i 0)=s:=λi hi=>by
  rw[Ab,Ae hi];exact h2 _ (Ah hi)
 have LL:∀i,i<l.length->k (l.getD i 0)<s:=λi hi=>by
  rw[Ab,Ae hi];exact h1 _ (Ah hi)
 unfold dV0;rw[Ao,show l.length+g.length=l.length+(1+(g.length-1)) by omega,Ay,<-Az,<-Az,Bb,Bb]
 have e1:(Aq 0 l.length).filter (zF k (l++g))=(Aj l.length).filter (zF k l):=by
  rw[Ay];apply List.filter_congr
  intro i hi;rw[Ar]at hi;unfold zF;rw[L1 i (by omega),L1 (i-1) (by omega)]
 have e2:(Aq (0+l.length) 1).filter (zF k (l++g))=[l.length]:=by
  rw[Bu]
  have:zF k (l++g) l.length=true:=by
   unfold zF;rcases Am l.length with h|h
   ·rw[h];rfl
   ·have a:=L2 0
    rw[Bf]at a;rw[a,G 0 ak,L1 _ (by omega)]
    have:=LL (l.length-1) (by omega)
    have aj:(s != k (l.getD (l.length-1) 0))=true:=by rw[bne_iff_ne];omega
    rw[aj,Bool.or_true]
  simp[Aq,this]
 have e3:(Aq (0+l.length+1) (g.length-1)).filter (zF k (l++g))=[]:=by
  rw[List.filter_eq_nil_iff];intro i hi;rw[Ar]at hi;have a:=L2 (i-l.length);have b:=L2 (i-l.length-1);rw[show l.length+(i-l.length)=i by omega]at a
  rw[show l.length+(i-l.length-1)=i-1 by omega]at b
  unfold zF;rw[a,b,G _ (by omega),G _ (by omega)]
  have:i≠0:=by omega
  simp[this]
 rw[e1,e2,e3,Bn]
theorem rP (k:Nat->Nat) (n:Nat):∀S,(∀s,s<S->∃i,i<n/\k i=s)->dV0 k (grpsL k n S)=pQ0 k n S
 | 0,_=>rfl
 | S+1,h=>by
  rw[kW,wQ0,<-rP k n S λs hs=>h s (by omega)];refine sQ0 (s:=S) ?_ (λx hx=>(fX.1 hx).2) (λx hx=>(pH.1 hx).2);obtain⟨i,hi,hk⟩:=h S (by omega);exact List.ne_nil_of_mem (pH.2 ⟨hi,hk⟩)
theorem gW1 {k D:Nat->Nat} {n S:Nat} (h:Win k D 0 n) (hS:∀i,i<n->k i<S):(Aj n).map D=grpsL k n S:=by
 refine iL (λ_=>qQ) (λ_ _ _=>uA) ?_ (gN k n S) λx=>?_
 ·rw[Bg]
  refine List.pairwise_iff_getElem.2 λi j hi hj oe=>?_;rw[Bc,Bc];exact h.srt i j (Ax _) oe (by simpa using hj)
 ·rw[fX,Bt]
  constructor
  ·rintro⟨i,hi,rfl⟩
   have:=h.inn i (Ax _) (List.mem_range.1 hi)
   exact⟨this.2,hS _ this.2⟩
  ·rintro⟨h1,_⟩
   obtain⟨i,_,h3,h4⟩:=h.all x (Ax _) h1;exact⟨i,List.mem_range.2 h3,h4⟩
def dU (x y:En):Prop:=x.r=y.r/\x.s=y.s/\x.l=y.l/\x.t=y.t
instance (x y:En):Decidable (dU x y):=by unfold dU; exact inferInstance
def cA0 (l:List En) (y:En):Prop:=y∈l/\∀z∈l,dU z y->y.c<=z.c
def fE (o:List En):Prop:=o.Pairwise λx y=>lessS x y=true
def xR (l o:List En):Prop:=fE o/\∀y,y∈o↔cA0 l y
theorem tD:∀ {o o':List En},fE o->fE o'->(∀y,y∈o↔y∈o')->o=o'
 | [],[],_,_,_=>rfl
 | [],b::s,_,_,h=>by have:=(h b).2 (by simp);cases this
 | a::r,[],_,_,h=>by have:=(h a).1 (by simp);cases this
 | a::r,b::s,h1,h2,h=>by
  obtain⟨ha,hr⟩:=List.pairwise_cons.1 h1;obtain⟨hb,hs⟩:=List.pairwise_cons.1 h2
  have ev:a=b:=by
   rcases List.mem_cons.1 ((h a).1 (by simp)) with e|e
   ·exact e
   ·rcases List.mem_cons.1 ((h b).2 (by simp)) with e'|e'
    ·exact e'.symm
    ·have k1:=hb a e
     have k2:=ha b e'
     have:=kY k1 k2
     rw[fU]at this;cases this
  subst ev;have iw:a∉r:=λhm=>by have:=ha a hm;rw[fU]at this;cases this
  have ix:a∉s:=λhm=>by have:=hb a hm;rw[fU]at this;cases this
  rw[tD hr hs λy=>?_];constructor
  ·intro hy
   rcases List.mem_cons.1 ((h y).1 (by simp[hy])) with e|e
   ·subst e;exact absurd hy iw
   ·exact e
  ·intro hy
   rcases List.mem_cons.1 ((h y).2 (by simp[hy])) with e|e
   ·subst e;exact absurd hy ix
   ·exact e
theorem xR.unique {l o o':List En} (h:xR l o) (h':xR l o'):o=o':=tD h.1 h'.1 λy=>(h.2 y).trans (h'.2 y).symm
def iJ0 (x:En):List En->List En
 | []=>[x]
 | y::r=>if lessS y x then y::iJ0 x r else x::y::r
theorem yO {x y:En}:∀ {o:List En},y∈iJ0 x o↔y=x\/y∈o
 | []=>by simp[iJ0]
 | z::r=>by
  unfold iJ0;split
  ·rw[Bs,yO (o:=r),Bs]
   constructor
   ·rintro(h|h|h)
    ·exact Or.inr (Or.inl h)
    ·exact Or.inl h
    ·exact Or.inr (Or.inr h)
   ·rintro(h|h|h)
    ·exact Or.inr (Or.inl h)
    ·exact Or.inl h
    ·exact Or.inr (Or.inr h)
  ·simp
theorem rT {x:En}:∀ {o:List En},fE o->x∉o->fE (iJ0 x o)
 | [],_,_=>by simp[iJ0,fE]
 | z::r,h,hx=>by
  obtain⟨hz,hr⟩:=List.pairwise_cons.1 h;have hxz:x≠z:=λe=>hx (by simp[e]);have hxr:x∉r:=λe=>hx (by simp[e]);unfold iJ0;split
  ·rename_i hl
   refine List.pairwise_cons.2 ⟨λy hy=>?_,rT hr hxr⟩;rcases yO.1 hy with rfl|hy
   ·exact hl
   ·exact hz y hy
  ·rename_i hl
   have hl':lessS x z=true:=by
    have:=sH (x:=z) (y:=x) (Ne.symm hxz)
    rw[this];simpa using hl
   refine List.pairwise_cons.2 ⟨λy hy=>?_,h⟩;rcases List.mem_cons.1 hy with rfl|hy
   ·exact hl'
   ·exact kY hl' (hz y hy)
def sM (l:List En) (y:En):Bool:=l.all λz => !decide (dU z y)||decide (y.c<=z.c)
theorem kS {l:List En} {y:En} (hy:y∈l):sM l y=true↔cA0 l y:=by
 unfold sM cA0;rw[List.all_eq_true];constructor
 ·intro h
  refine⟨hy,λz hz hk=>?_⟩
  have:=h z hz
  simpa [hk] using this
 ·rintro⟨_,h⟩ z hz
  by_cases hk:dU z y
  ·simp[hk,h z hz hk]
  ·simp[hk]
def kQ0 (l:List En):List En->List En->List En
 | [],o=>o
 | x::r,o=>if sM l x && !decide (x∈o) then kQ0 l r (iJ0 x o) else kQ0 l r o
def sortS (l:List En):List En:=kQ0 l l []
theorem rS (l:List En):∀(r done o:List En),l=done++r->fE o->(∀y,y∈o↔y∈done/\sM l y=true)->xR l (kQ0 l r o)
 | [],done,o,hl,hs,hm=>by
  refine⟨hs,λy=>?_⟩;rw[Bn]at hl;subst hl;show y∈o↔_
  rw[hm y];exact⟨λ⟨a,b⟩=>(kS a).1 b,λh=>⟨h.1,(kS h.1).2 h⟩⟩
 | x::r,done,o,hl,hs,hm=>by
  have ji:l=(done++[x])++r:=by rw[hl];simp
  unfold kQ0;split
  ·rename_i hc
   simp only[Af,As,decide_eq_false_iff_not]at hc;refine rS l r _ _ ji (rT hs hc.2) λy=>?_;rw[yO,hm y];constructor
   ·rintro(rfl|⟨a,b⟩)
    ·exact⟨by simp,hc.1⟩
    ·exact⟨by simp[a],b⟩
   ·rintro⟨a,b⟩
    rcases List.mem_append.1 a with a|a
    ·exact Or.inr ⟨a,b⟩
    ·exact Or.inl (by simpa using a)
  ·rename_i hc
   simp only[Af,As,decide_eq_false_iff_not,not_and,Decidable.not_not]at hc;refine rS l r _ _ ji hs λy=>?_;rw[hm y];constructor
   ·rintro⟨a,b⟩
    exact⟨by simp[a],b⟩
   ·rintro⟨a,b⟩
    rcases List.mem_append.1 a with a|a
    ·exact⟨a,b⟩
    ·obtain rfl:y=x:=by simpa using a
     exact(hm y).1 (hc b)
theorem dX (l:List En):xR l (sortS l):=rS l l [] [] rfl (by simp[fE]) (by simp)
def rE (L:List (List UInt8)) (i:Nat):Bool:=decide ((nth L i).length<1)||decide (256<(nth L i).length)||(decide (0<i) && !Ak (nth L (i-1)) (nth L i))
def nJ (L:List (List UInt8)):Bool:=(Aj L.length).any (rE L)
theorem dR0 {L:List (List UInt8)} {i:Nat} (h:i<L.length) (hb:rE L i=true):nJ L=true:=List.any_eq_true.2 ⟨i,List.mem_range.2 h,hb⟩
theorem cB0 {L:List (List UInt8)} (h:∀i,i<L.length->rE L i=false):nJ L=false:=by
 unfold nJ;rw[Bh];intro i hi;rw[h i (List.mem_range.1 hi)];simp
def cY (L:List (List UInt8)):Nat:=if 20000<L.length then 2 else if nJ L=true then 1 else if 524287<dZ L then 2 else 0
theorem yT0 {L:List (List UInt8)} (h:nJ L=false):OkL L:=by
 unfold nJ at h;rw[Bh]at h
 have key:∀i,i<L.length->(1<=(nth L i).length/\(nth L i).length<=256)/\(0<i->Ak (nth L (i-1)) (nth L i)=true):=by
  intro i hi
  have:=h i (List.mem_range.2 hi)
  unfold rE at this;simp only[Bo,decide_eq_true_eq,Af,As,not_or,not_and,Bool.not_eq_false]at this;exact⟨⟨by omega,by omega⟩,this.2⟩
 refine⟨λj hj=>?_,λs hs=>?_,λs hs=>?_⟩
 ·have:=(key (j+1) hj).2 (by omega)
  rwa [Nat.add_sub_cancel]at this
 ·obtain⟨i,hi⟩:=List.mem_iff_getElem?.1 hs
  have:=(key i (List.getElem?_eq_some_iff.1 hi).1).1.1
  rw[tY hi]at this;intro h0;rw[h0]at this;simp at this
 ·obtain⟨i,hi⟩:=List.mem_iff_getElem?.1 hs
  have:=(key i (List.getElem?_eq_some_iff.1 hi).1).1.2
  rw[tY hi]at this;exact this
theorem dP {L:List (List UInt8)} (h:cY L=0):OkL L/\L.length<=20000/\dZ L<=524287:=by
 unfold cY at h;split at h
 ·omega
 ·rename_i h1
  split at h
  ·omega
  ·rename_i h2
   split at h
   ·omega
   ·exact⟨yT0 (by simpa using h2),by omega,by omega⟩
theorem pG0 (n:Nat) (out:List (List UInt8)) (s:List UInt8):(mI n out s).length<=out.length+1:=by
 unfold mI;split<;>simp
theorem gU1 (L:List (List UInt8)) (n:Nat):(jJ1 L n).length<=L.length:=by
 have key:∀(L:List (List UInt8)) (out:List (List UInt8)),(L.foldl (mI n) out).length<=out.length+L.length:=by
  intro L
  induction L with
  | nil=>intro out;simp
  | cons s L ih =>
   intro out;rw[List.foldl_cons,List.length_cons]
   have:=ih (mI n out s)
   have:=pG0 n out s
   omega
 have h:=key L [];rw[List.length_nil,Bu]at h;exact h
def vT (L:List (List UInt8)) (n:Nat):List (List UInt8):=[]::(Aq 1 n).flatMap (jJ1 L)
theorem lH0 (L:List (List UInt8)) (n:Nat):vT L (n+1)=vT L n++jJ1 L (n+1):=by
 unfold vT;rw[List.range'_concat,Ai];simp[Nat.add_comm]
theorem cE0 (L:List (List UInt8)):∀n,(vT L n).length<=1+n*L.length
 | 0=>by simp[vT]
 | n+1=>by
  rw[lH0,Ao,Nat.succ_mul]
  have:=cE0 L n
  have:=gU1 L (n+1)
  omega
end
section
open Go Go.RowKit
theorem nW1 {a b c:Nat} (h:c=a+b):(a:Int)+b=c:=by omega
theorem nK1 (x:Nat):((x/2:Nat):Int)=(x:Int)/2:=by omega
theorem nQ1 (x:Nat):((x/4:Nat):Int)=(x:Int)/4:=by omega
theorem nR1 (x:Nat):((x/16+x:Nat):Int)=(x:Int)/16+x:=by omega
theorem nL1 (x:Nat):((x+x/4294967296:Nat):Int)=(x:Int)+(x:Int)/4294967296:=by omega
theorem nP1 {x y:Nat} (h:x+x/256=y):(x:Int)+(x:Int)/256=y:=by omega
theorem nC1 {x y:Nat} (h:x+x/65536=y):(x:Int)+(x:Int)/65536=y:=by omega
theorem jI1 {x Y Z:Nat} (b5:x<=1085102592571150095) (hY:x+x/256=Y) (hZ:Y+Y/65536=Z):wrap64 ((Z:Int)+(Z:Int)/4294967296)=(Z:Int)+(Z:Int)/4294967296:=by
 have h8:Z+Z/4294967296<4611686018427387904:=by omega
 unfold wrap64;omega
theorem oE1 {Z S:Nat} (h:(Z+Z/4294967296)%128=S):((Z:Int)+(Z:Int)/4294967296)%128=S:=by omega
theorem fS0 (x:Nat) (w:World) (hx:x<18446744073709551616) :
  Calls Tryz.prog 212 #[.int .u64 x] w λe w'=>e=.returned (.int .i64 (zJ 2 64 x))/\w=w':=by
 obtain⟨x1,h1⟩:=exq (((x>>>1)&&&6148914691236517205)+(x&&&6148914691236517205));obtain⟨x2,h2⟩:=exq (((x1>>>2)&&&3689348814741910323)+(x1&&&3689348814741910323));obtain⟨x3,h3⟩:=exq ((x2>>>4+x2)&&&1085102592571150095);obtain⟨b1,b2,b23,b3,Y,Z,hY,hZ,bY,bZ,bS,hS⟩:=nA1 h1 h2 h3;obtain⟨S,hSd⟩:=exq (zJ 2 64 x);rw[<-hSd]at hS ⊢;clear hSd;simp only[Nat.shiftRight_eq_div_pow,Nat.reducePow]at h1 h2 h3 hY hZ hS b23 bS;have c1:=nK1 x;have c3:=nQ1 x1;have c5:=nR1 x2;have c6:=nL1 Z;have e1:bits .and .u64 ((x:Int)/2) 6148914691236517205=((x/2&&&6148914691236517205:Nat):Int):=by rw[<-c1];exact u64_and_nat (x/2) 6148914691236517205 (Bd (Bp _ _) hx) (by decide)
 have e2:bits .and .u64 (x:Int) 6148914691236517205=((x&&&6148914691236517205:Nat):Int):=u64_and_nat x 6148914691236517205 hx (by decide);have e3:bits .and .u64 ((x1:Int)/4) 3689348814741910323=((x1/4&&&3689348814741910323:Nat):Int):=by rw[<-c3];exact u64_and_nat (x1/4) 3689348814741910323 (Bd (Bp _ _) b1) (by decide)
 have e4:bits .and .u64 (x1:Int) 3689348814741910323=((x1&&&3689348814741910323:Nat):Int):=u64_and_nat x1 3689348814741910323 b1 (by decide)
 have e5:bits .and .u64 ((x2:Int)/16+x2) 1085102592571150095=(x3:Int):=by
  rw[h3,<-c5];exact u64_and_nat (x2/16+x2) 1085102592571150095 b23 (by decide)
 have a1:((x/2&&&6148914691236517205:Nat):Int)+((x&&&6148914691236517205:Nat):Int)=(x1:Int):=nW1 h1;have a2:((x1/4&&&3689348814741910323:Nat):Int)+((x1&&&3689348814741910323:Nat):Int)=(x2:Int):=nW1 h2;have a3:(x3:Int)+(x3:Int)/256=(Y:Int):=nP1 hY;have a4:(Y:Int)+(Y:Int)/65536=(Z:Int):=nC1 hZ;have hw:∀n:Nat,n<18446744073709551616->IntKind.u64.wrap (n:Int)=n:=λn h=>by simp[IntKind.wrap,IntKind.bits,IntKind.signed];omega
 have w1:=hw x1 b1;have w2:=hw x2 b2;have w3:=hw Y bY;have w4:=hw Z bZ;have w5:IntKind.u64.wrap ((x2:Int)/16+x2)=(x2:Int)/16+x2:=by rw[<-c5];exact hw (x2/16+x2) b23
 have w6:IntKind.u64.wrap ((Z:Int)+(Z:Int)/4294967296)=(Z:Int)+(Z:Int)/4294967296:=by rw[<-c6];exact hw (Z+Z/4294967296) bS
 have b5:x3<=1085102592571150095:=by rw[h3];exact Nat.and_le_right
 have w7:=jI1 b5 hY hZ
 have hS2:((Z:Int)+(Z:Int)/4294967296)%128=S:=by
  exact oE1 (by rw[<-hS,iF1])
 have e6:=i64_and127 ((Z:Int)+(Z:Int)/4294967296);rw[hS2]at e6;clear c1 c3 c5 c6 h1 h2 h3 hY hZ hw b1 b2 b3 bY bZ;go_enter Tryz.func212,Tryz.ntmps212
 go_wp2
 go_ret;exact⟨rfl,rfl⟩
end
section
open Go Go.RowKit
attribute [local go_sem] aQ
theorem aQ1 {a b:ByteArray} (h:a≠b):yB a b≠0/\decide (yB a b<0)=Ak a.toList b.toList:=by
 have aj:(a.toList==b.toList)=false:=by
  have:=nD.2 h;exact this
 unfold yB;rw[aj];cases Ak a.toList b.toList<;>simp
theorem nH (a:ByteArray):yB a a=0:=(oK0.zero a a).2 rfl
theorem mI0 {a b:Int} (h:a≠b):kF a b≠0/\decide (kF a b<0)=decide (a<b):=by
 unfold kF;by_cases h1:a<b
 ·simp[h1]
 ·have:b<a:=by omega
  simp[h1,this]
theorem pP (a:Int):kF a a=0:=by unfold kF; simp
theorem bW1 {x y:En} (h:x.r≠y.r):lessS x y=Ak x.r.toList y.r.toList:=by
 obtain⟨h1,h2⟩:=aQ1 h;unfold lessS oV;simp only[orI,if_neg h1];exact h2
theorem iS1 {x y:En} (h:x.r=y.r) (hc:x.c≠y.c):lessS x y=decide (x.c<y.c):=by
 obtain⟨h1,h2⟩:=mI0 hc;unfold lessS oV;rw[h,nH];simp only[orI,if_neg h1,if_true];exact h2
theorem jZ1 {x y:En} (h:x.r=y.r) (hc:x.c=y.c) (hs:x.s≠y.s):lessS x y=Ak x.s.toList y.s.toList:=by
 obtain⟨h1,h2⟩:=aQ1 hs;unfold lessS oV;rw[h,hc,nH,pP];simp only[orI,if_neg h1,if_true];exact h2
theorem jN1 {x y:En} (h:x.r=y.r) (hc:x.c=y.c) (hs:x.s=y.s) (hl:x.l≠y.l):lessS x y=decide (x.l<y.l):=by
 obtain⟨h1,h2⟩:=mI0 hl;unfold lessS oV;rw[h,hc,hs,nH,pP,nH];simp only[orI,if_neg h1,if_true];exact h2
theorem iO1 {x y:En} (h:x.r=y.r) (hc:x.c=y.c) (hs:x.s=y.s) (hl:x.l=y.l):lessS x y=decide (x.t<y.t):=by
 unfold lessS oV;rw[h,hc,hs,hl,nH,pP,nH,pP];simp only[orI,if_true];by_cases ht:x.t=y.t
 ·rw[ht,pP];simp
 ·obtain⟨h1,h2⟩:=mI0 ht
  rw[if_neg h1];exact h2
theorem aK1 (x y:En) (w:World) :
  Calls Tryz.prog 128 #[x.agg,y.agg] w λe w'=>e=.returned (.bool (lessS x y))/\Grows w w':=by
 have L1:=bW1 (x:=x) (y:=y);have L2:=iS1 (x:=x) (y:=y);have L3:=jZ1 (x:=x) (y:=y);have L4:=jN1 (x:=x) (y:=y);have L5:=iO1 (x:=x) (y:=y);generalize lessS x y=R at *;obtain⟨xr,xs,xl,xt,xc⟩:=x;obtain⟨yr,ys,yl,yt,yc⟩:=y;simp only at L1 L2 L3 L4 L5;unfold En.agg;have hg:Grows w ((w.alloc (.cells #[.string xr,.string xs,.int .i64 xl,.int .i64 xt,.int .i64 xc] 59)).alloc (.cells #[.string yr,.string ys,.int .i64 yl,.int .i64 yt,.int .i64 yc] 59)):=(Grows.alloc _ _).al _;by_cases h1:xr=yr
 ·have b1:(xr.toList==yr.toList)=true:=zN.2 h1
  by_cases h2:xc=yc
  ·have b2:(xc==yc)=true:=by simp[h2]
   by_cases h3:xs=ys
   ·have b3:(xs.toList==ys.toList)=true:=zN.2 h3
    by_cases h4:xl=yl
    ·have HL:=Ag (L5 h1 h2 h3 h4)
     subst h1 h2 h3 h4;clear L1 L2 L3 L4 L5 b1 b2 b3;go_enter Tryz.func128,Tryz.ntmps128
     go_wp2
     go_ret;exact⟨aZ HL.out.symm,hg⟩
    ·have HL:=Ag (L4 h1 h2 h3 h4)
     have b4:(xl != yl)=true:=by simpa using h4
     subst h1 h2 h3;clear L1 L2 L3 L4 L5 b1 b2 b3 h4;go_enter Tryz.func128,Tryz.ntmps128
     go_wp2
     go_ret;exact⟨aZ HL.out.symm,hg⟩
   ·have HL:=Ag (L3 h1 h2 h3)
    have b3:(xs.toList==ys.toList)=false:=nD.2 h3;have b3':¬xs.toList=ys.toList:=by simpa using b3
    subst h1 h2;clear L1 L2 L3 L4 L5 b1 b2 h3;go_enter Tryz.func128,Tryz.ntmps128
    go_wp2
    go_ret;exact⟨aZ HL.out.symm,hg⟩
  ·have HL:=Ag (L2 h1 h2)
   have b2:(xc != yc)=true:=by simpa using h2
   subst h1;clear L1 L2 L3 L4 L5 b1 h2;go_enter Tryz.func128,Tryz.ntmps128
   go_wp2
   go_ret;exact⟨aZ HL.out.symm,hg⟩
 ·have HL:=Ag (L1 h1)
  have b1:(xr.toList==yr.toList)=false:=nD.2 h1;have b1':¬xr.toList=yr.toList:=by simpa using b1
  clear L1 L2 L3 L4 L5 h1;go_enter Tryz.func128,Tryz.ntmps128
  go_wp2
  go_ret;exact⟨aZ HL.out.symm,hg⟩
end
section
open Go
theorem vM {l m:List Bool} {i:Nat} (h:i<l.length):bitOf (l++m) i=bitOf l i:=by
 unfold bitOf;rw[Ab,Ab,Ap h]
theorem rO (l m:List Bool) (i:Nat):bitOf (l++m) (l.length+i)=bitOf m i:=by
 unfold bitOf;rw[Ab,Ab,An (by omega),At]
theorem kE0 {n i:Nat} (h:i<n):bitOf (Ac n true) i=true:=by
 unfold bitOf;rw[Ab,List.getElem?_replicate,if_pos h];rfl
theorem qM (l m:List Bool):∀i,i<=l.length->eA (l++m) i=eA l i
 | 0,_=>rfl
 | i+1,h=>by rw[gE,gE,qM l m i (by omega),vM h]
theorem nR (l m:List Bool):∀i,eA (l++m) (l.length+i)=eA l l.length+eA m i
 | 0=>qM l m l.length (Ad _)
 | i+1=>by rw[<-Nat.add_assoc,gE,gE,nR l m i,rO];omega
theorem aX0 (n:Nat):∀i,i<=n->eA (Ac n true) i=i
 | 0,_=>rfl
 | i+1,h=>by rw[gE,aX0 n i (by omega),kE0 h];simp
theorem bU0 (L:List (List UInt8)):∀i,i<=(nodesA L).length->eA (shapeL L ((nodesA L).take i)) (offA L i+i+1)=offA L i
 | 0,_=>rfl
 | i+1,hi=>by
  obtain⟨x,hx⟩:∃x,(nodesA L)[i]?=some x:=⟨_,Ae hi⟩;have ih:=bU0 L i (by omega);have hl:=eW L i (by omega);rw[List.take_add_one,hx,Option.toList_some,lJ,iN hx,Bi];rw[show offA L i+(eY L x).length+(i+1)+1=(shapeL L ((nodesA L).take i)).length+((eY L x).length+1) by omega,nR,hl,ih]
  congr 1
  have h2:=nR (Ac (eY L x).length true) [false] 1;rw[Al]at h2;rw[h2,aX0 _ _ (Ad _)];rfl
theorem oW0 {L:List (List UInt8)} {A:List dH} {p:Nat} {x:dH} (hx:A[p]?=some x):∃rest,shapeL L A=shapeL L (A.take p)++(Ac (eY L x).length true++([false]++rest)):=by
 obtain⟨hp,he⟩:=List.getElem?_eq_some_iff.1 hx;refine⟨(A.drop (p+1)).flatMap λx=>Ac (eY L x).length true++[false],?_⟩
 have h1:A=A.take p++([x]++A.drop (p+1)):=by
  rw[List.singleton_append,<-he,List.getElem_cons_drop,Aw]
 have h2:shapeL L A=shapeL L (A.take p++([x]++A.drop (p+1))):=by rw[<-h1]
 rw[h2];unfold shapeL;simp[Ai]
theorem jP0 {L:List (List UInt8)} {k p:Nat} {x:dH} (hx:(nodesA L)[p]?=some x) (h1:offA L p<=k) (h2:k<offA L (p+1)) :
  bitOf (shapeL L (nodesA L)) (k+p+1)=true/\jT (shapeL L (nodesA L)) true (k+p+1)=k/\jT (shapeL L (nodesA L)) false (k+p+1)=p+1:=by
 have hp:=(List.getElem?_eq_some_iff.1 hx).1;have hl:=eW L p (by omega);have hr:=bU0 L p (by omega);rw[iN hx]at h2;obtain⟨rest,hs⟩:=oW0 (L:=L) hx;have e:k+p+1=(shapeL L ((nodesA L).take p)).length+(k-offA L p):=by omega
 have hT:eA (shapeL L (nodesA L)) (k+p+1)=k:=by
  rw[hs,e,nR,hl,hr,qM _ _ _ (by rw[Al];omega),aX0 _ _ (by omega)];omega
 refine⟨?_,hT,?_⟩
 ·rw[hs,e,rO,vM (by rw[Al];omega),kE0 (by omega)]
 ·show k+p+1-eA _ _=p+1
  rw[hT];omega
theorem nC0 (l:List Bool):bitOf (l++[false]) l.length=false:=by
 have:=rO l [false] 0
 rw[Bf]at this;rw[this];rfl
theorem tF0 (L:List (List UInt8)):∀(A:List dH), ∃l,shapeL L A=l++[false]:=by
 intro A;rcases List.eq_nil_or_concat A with h|⟨B,x,h⟩
 ·subst h
  exact⟨[true],rfl⟩
 ·refine⟨shapeL L B++Ac (eY L x).length true,?_⟩
  rw[h,List.concat_eq_append,lJ]
theorem zL0 (L:List (List UInt8)) (A:List dH) (p:Nat):∃rest,shapeL L A=shapeL L (A.take p)++rest:=by
 refine⟨(A.drop p).flatMap λx=>Ac (eY L x).length true++[false],?_⟩;have h2:shapeL L A=shapeL L (A.take p++A.drop p):=by rw[Aw]
 rw[h2];unfold shapeL;rw[Ai,Bi]
theorem vV {L:List (List UInt8)} {i:Nat} (hi:i<=(nodesA L).length) :
  bitOf (shapeL L (nodesA L)) (offA L i+i)=false/\jT (shapeL L (nodesA L)) false (offA L i+i)=i/\jT (shapeL L (nodesA L)) true (offA L i+i+1)=offA L i:=by
 have hl:=eW L i hi;have hr:=bU0 L i hi;obtain⟨rest,hs⟩:=zL0 L (nodesA L) i;obtain⟨l,tg⟩:=tF0 L ((nodesA L).take i)
 have ak:l.length=offA L i+i:=by
  have:=congrArg List.length tg
  rw[Ao]at this;simp at this;omega
 have hb:bitOf (shapeL L (nodesA L)) (offA L i+i)=false:=by
  rw[hs,vM (by omega),tg,<-ak,nC0]
 have hT:eA (shapeL L (nodesA L)) (offA L i+i+1)=offA L i:=by
  rw[hs,qM _ _ _ (by omega),hr]
 refine⟨hb,?_,hT⟩;have h2:=gE (shapeL L (nodesA L)) (offA L i+i);rw[hT,hb]at h2;show offA L i+i-eA _ _=i
 simp at h2;omega
theorem OkL.node {L:List (List UInt8)} (h:OkL L) {j:Nat} (hj:j<L.length):∃(i:Nat) (x:dH),(nodesA L)[i]?=some x/\iI L x=true/\x.i=j:=by
 have ft:nth L j∈L:=List.mem_of_getElem? (gT hj);have hp:0<(nth L j).length:=List.length_pos_iff.2 (h.pos _ ft);have agw:=h.len _ ft;have hf:=(lD h.asc (nth L j).length).firsts hp
 have ir:j∈(lv L (nth L j).length).map (λx=>x.i):=by
  rw[hf,Bl];refine⟨by rw[Ar];omega,?_⟩;unfold dQ;simp only[Af,decide_eq_true_eq,Bo,beq_iff_eq];refine⟨Ad _,?_⟩;rcases Am j with h0|h0
  ·exact Or.inl h0
  ·exact Or.inr (pB (h.asc.lt j (j-1) (by omega) hj))
 obtain⟨x,hx,rz⟩:=List.mem_map.1 ir;obtain⟨g,hd,_,_⟩:=(lD h.asc (nth L j).length).mem x hx
 have hA:x∈nodesA L:=by
  unfold nodesA;exact List.mem_flatMap.2 ⟨_,List.mem_range.2 (by omega),hx⟩
 obtain⟨i,hi⟩:=List.mem_iff_getElem?.1 hA;refine⟨i,x,hi,?_,rz⟩;unfold iI;rw[rz];have ae:x.i<x.t:=by rcases g.ne with h|h<;>omega
 simp;omega
end
section
open Go Go.RowKit
attribute [local go_sem] aQ
theorem lX0 (x y:En) (w:World) :
  Calls Tryz.prog 197 #[x.agg,y.agg] w λe w'=>e=.returned (.bool (decide (dU x y)))/\Grows w w':=by
 obtain⟨R,hR⟩:=exq (decide (dU x y));rw[<-hR];obtain⟨xr,xs,xl,xt,xc⟩:=x;obtain⟨yr,ys,yl,yt,yc⟩:=y;unfold dU at hR;simp only at hR;have HR:=Ag hR;clear hR;unfold En.agg;have hg:Grows w ((w.alloc (.cells #[.string xr,.string xs,.int .i64 xl,.int .i64 xt,.int .i64 xc] 59)).alloc (.cells #[.string yr,.string ys,.int .i64 yl,.int .i64 yt,.int .i64 yc] 59)):=(Grows.alloc _ _).al _;by_cases h1:xr=yr
 ·by_cases h3:xs=ys
  ·by_cases h4:xl=yl
   ·by_cases h5:xt=yt
    ·have hf:R=true:=by rw[HR.out];simp[h1,h3,h4,h5]
     subst hf h1 h3 h4 h5;clear HR;go_enter Tryz.func197,Tryz.ntmps197
     go_wp2
     go_ret;exact⟨rfl,hg⟩
    ·have hf:R=false:=by rw[HR.out];simp[h5]
     have b5:(xt==yt)=false:=by simpa using h5
     subst hf h1 h3 h4;clear HR h5;go_enter Tryz.func197,Tryz.ntmps197
     go_wp2
     go_ret;exact⟨rfl,hg⟩
   ·have hf:R=false:=by rw[HR.out];simp[h4]
    have b4:(xl==yl)=false:=by simpa using h4
    subst hf h1 h3;clear HR h4;go_enter Tryz.func197,Tryz.ntmps197
    go_wp2
    go_ret;exact⟨rfl,hg⟩
  ·have hf:R=false:=by rw[HR.out];simp[h3]
   have b3:(xs.toList==ys.toList)=false:=nD.2 h3;have b3':¬xs.toList=ys.toList:=by simpa using b3
   subst hf h1;clear HR h3;go_enter Tryz.func197,Tryz.ntmps197
   go_wp2
   go_ret;exact⟨rfl,hg⟩
 ·have hf:R=false:=by rw[HR.out];simp[h1]
  have b1:(xr.toList==yr.toList)=false:=nD.2 h1;have b1':¬xr.toList=yr.toList:=by simpa using b1
  subst hf;clear HR h1;go_enter Tryz.func197,Tryz.ntmps197
  go_wp2
  go_ret;exact⟨rfl,hg⟩
end
end Go.Proofs.YtcijgkfpobpdbaaGreatDoor
