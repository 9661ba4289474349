/- The texts SortR SortWP Bsrt KeyE MapE, one behind the other. -/
import Derived.Test.YtcijgkfpobpdbaaGreatDoorBq4
import Derived.Test.YtcijgkfpobpdbaaGreatDoorBq2
import Derived.Test.YtcijgkfpobpdbaaGreatDoorProg
import Derived.Test.YtcijgkfpobpdbaaGreatDoorBq3
import Derived.Laws.OwnMore
import Derived.Laws.Rows
import Derived.OwnWalk
import Derived.DeepKeys4
import Derived.Maps.RangeWalk
import Derived.Maps.Views
open List renaming mem_append_left → Aa,mem_of_getElem? → Ac,getElem?_eq_getElem → Ad,getElem_of_mem → Ae,length_take → Af,length_cons → Ag
open Array renaming getElem?_setIfInBounds → Ab
open Bool renaming true_and → Ah
open Go.World renaming cell? → Ai
namespace Go.Proofs.YtcijgkfpobpdbaaGreatDoor
set_option maxRecDepth 100000
section
open Go
def Bad (x:En) (i:Nat) (y:En) (j:Nat):Prop:=dU x y/\(y.c<x.c\/y.c=x.c/\j<i)
instance (x:En) (i:Nat) (y:En) (j:Nat):Decidable (Bad x i y j):=by unfold Bad; exact inferInstance
theorem xP {x y:En} (h:dU x y):dU y x:=⟨h.1.symm,h.2.1.symm,h.2.2.1.symm,h.2.2.2.symm⟩
theorem iT1 {x y:En} (h:dU x y) (hc:y.c=x.c):x=y:=by
 obtain⟨a,b,c,d,e⟩:=x;obtain⟨a',b',c',d',e'⟩:=y;obtain⟨rfl,rfl,rfl,rfl⟩:=h;simp only at hc;subst hc;rfl
theorem dK1 {l:List En} {i:Nat} {x:En} (hx:l[i]?=some x):(∀j y,j<l.length->l[j]?=some y->¬Bad x i y j)↔sM l x=true/\x∉l.take i:=by
 have hm:x∈l:=Ac hx;constructor
 ·intro h
  refine⟨(kS hm).2 ⟨hm,λz hz hk=>?_⟩,λht=>?_⟩
  ·obtain⟨j,hj,rfl⟩:=Ae hz
   have h1:=h j l[j] hj (Ad hj);exact Int.not_lt.1 λae=>h1 ⟨xP hk,Or.inl ae⟩
  ·obtain⟨j,hj,he⟩:=Ae ht
   have hj':j<i:=by have:=hj;rw[Af]at this;omega
   have km:j<l.length:=by have:=hj;rw[Af]at this;omega
   rw[List.getElem_take]at he;exact h j x km (by rw[Ad km,he]) ⟨⟨rfl,rfl,rfl,rfl⟩,Or.inr ⟨rfl,hj'⟩⟩
 ·rintro⟨h1,h2⟩ j y hj hy ⟨hk,hc⟩
  have h3:=((kS hm).1 h1).2 y (Ac hy) (xP hk);rcases hc with hc|⟨hc,gu⟩
  ·omega
  ·refine h2 ?_
   rw[iT1 hk hc];exact Ac (i:=j) (by rw[List.getElem?_take_of_lt gu];exact hy)
def mG0 (l:List En) (i:Nat) (o:List En):Prop:=fE o/\∀y,y∈o↔y∈l.take i/\sM l y=true
theorem mG0.start (l:List En):mG0 l 0 []:=⟨by simp[fE],by simp⟩
theorem bF0 {l:List En} {i:Nat} {x:En} (hx:l[i]?=some x):l.take (i+1)=l.take i++[x]:=by rw[List.take_add_one,hx]; rfl
theorem mG0.skip {l o:List En} {i:Nat} {x:En} (h:mG0 l i o) (hx:l[i]?=some x) (hk:¬(sM l x=true/\x∉l.take i)):mG0 l (i+1) o:=by
 refine⟨h.1,λy=>?_⟩;rw[h.2 y,bF0 hx];constructor
 ·rintro⟨a,b⟩
  exact⟨Aa _ a,b⟩
 ·rintro⟨a,b⟩
  rcases List.mem_append.1 a with a|a
  ·exact⟨a,b⟩
  ·obtain rfl:y=x:=by simpa using a
   exact⟨Decidable.byContradiction λhn=>hk ⟨b,hn⟩,b⟩
theorem mG0.ins {l o:List En} {i:Nat} {x:En} (h:mG0 l i o) (hx:l[i]?=some x) (h1:sM l x=true) (h2:x∉l.take i):mG0 l (i+1) (iJ0 x o):=by
 refine⟨rT h.1 λhm=>h2 ((h.2 x).1 hm).1,λy=>?_⟩;rw[yO,h.2 y,bF0 hx];constructor
 ·rintro(rfl|⟨a,b⟩)
  ·exact⟨by simp,h1⟩
  ·exact⟨Aa _ a,b⟩
 ·rintro⟨a,b⟩
  rcases List.mem_append.1 a with a|a
  ·exact Or.inr ⟨a,b⟩
  ·exact Or.inl (by simpa using a)
theorem mG0.isSort {l o:List En} (h:mG0 l l.length o):xR l o:=by
 refine⟨h.1,λy=>?_⟩;rw[h.2 y,List.take_length];exact⟨λ⟨a,b⟩=>(kS a).1 b,λh=>⟨h.1,(kS h.1).2 h⟩⟩
theorem mG0.done {l o:List En} (h:mG0 l l.length o):o=sortS l:=h.isSort.unique (dX l)
theorem sC (x:En):∀o:List En,(iJ0 x o).length=o.length+1
 | []=>rfl
 | y::r=>by
  unfold iJ0;split
  ·rw[Ag,sC x r,Ag]
  ·rfl
theorem mS0 {x:En}:∀ {o:List En} {k:Nat},k<=o.length->(∀j y,j<k->o[j]?=some y->lessS y x=true)->(k=o.length\/∃y,o[k]?=some y/\lessS y x=false)->iJ0 x o=o.take k++([x]++o.drop k)
 | [],k,hk,_,_=>by
  obtain rfl:k=0:=by simpa using hk
  rfl
 | y::r,0,_,_,h=>by
  rcases h with h|⟨z,hz,hl⟩
  ·simp at h
  ·obtain rfl:y=z:=by simpa using hz
   unfold iJ0;rw[if_neg (by rw[hl];simp)];rfl
 | y::r,k+1,hk,ha,h=>by
  have h0:=ha 0 y (by omega) rfl;unfold iJ0;rw[if_pos h0]
  have hr:iJ0 x r=r.take k++([x]++r.drop k):=mS0 (by simpa using hk) (λj z hj hz=>ha (j+1) z (by omega) (by simpa using hz)) (by
   rcases h with h|⟨z,hz,hl⟩
   ·exact Or.inl (by simpa using h)
   ·exact Or.inr ⟨z,by simpa using hz,hl⟩)
  rw[hr];rfl
end
section
open Go Go.RowKit
theorem dR:eG Tryz.prog 24 59 5 56 aJ where
 sl:=Tryz.underlying24
 info:=fT (z:=.agg #[.string ⟨#[]⟩,.string ⟨#[]⟩,.int .i64 0,.int .i64 0,.int .i64 0]) (by kernel_rfl) rfl
 pos:=by decide
 by1:=by decide
 len _:=rfl
 one:=bD0
def kX0 (l:List En) (w:World) (e:Ending) (w':World):Prop:=∃v,e=.returned v/\aU w' w.heap.size 59 5 aJ v (sortS l)/\Grows w w'
theorem mM1:∃i,Tryz.prog.info? 59=some i/\i.zero=some enZero.agg/\i.size=5/\i.bytes=56:=by
 have h:(Tryz.prog.info? 59).map (λi=>(i.zero,i.size,i.bytes))=some (some enZero.agg,5,56):=by kernel_rfl
 cases hi:Tryz.prog.info? 59 with
 | none=>rw[hi]at h;cases h
 | some i =>
  rw[hi]at h;simp only[Option.map_some,Option.some.injEq,Prod.mk.injEq]at h;exact⟨i,rfl,h.1,h.2.1,h.2.2⟩
def mF0 (W:World) (sb n:Nat) (so:List En) (k:Nat):Prop :=
 ∃da:Array Value,W.heap[sb]?=some (.cells da 59 (0,0))/\da.size=n*5/\∀i x,i<k->so[i]?=some x->∀j u,(aJ x)[j]?=some u->da[i*5+j]?=some u
theorem mF0.froz {W:World} {sb n k:Nat} {so:List En} (h:mF0 W sb n so k) (j:Nat):W.frozen? ⟨sb,j,none⟩=false:=by
 obtain⟨da,h1,_⟩:=h;simp[World.frozen?,h1]
theorem mF0.cell {W:World} {sb n k:Nat} {so:List En} (h:mF0 W sb n so k) {j:Nat} (hj:j<n*5):∃u,W.cell? ⟨sb,j,none⟩=some u:=by
 obtain⟨da,h1,h2,_⟩:=h;exact⟨da[j]'(by omega),by simp[Ai,h1,h2,hj]⟩
theorem mF0.set {W:World} {sb n k:Nat} {so:List En} (h:mF0 W sb n so k) {j:Nat} (hj:k*5<=j) (v:Value):mF0 (W.setCell ⟨sb,j,none⟩ v) sb n so k:=by
 obtain⟨da,h1,h2,h3⟩:=h;refine⟨da.setIfInBounds j v,heap_setCell_same W sb j da _ v h1,by simpa using h2,λi x hi hx m u hu=>?_⟩;have hm:m<5:=by have:=(List.getElem?_eq_some_iff.1 hu).1;rwa [lA]at this
 rw[Ab,if_neg (by omega)];exact h3 i x hi hx m u hu
theorem mF0.step {W:World} {sb n k:Nat} {so:List En} {x:En} (h:mF0 W sb n so k) (hk:k<n) (hx:so[k]?=some x) :
  mF0 (((((W.setCell ⟨sb,k*5,none⟩ (.string x.r)).setCell ⟨sb,k*5+1,none⟩ (.string x.s)).setCell ⟨sb,k*5+2,none⟩ (.int .i64 x.l)).setCell ⟨sb,k*5+3,none⟩ (.int .i64 x.t)).setCell ⟨sb,k*5+4,none⟩ (.int .i64 x.c)) sb n so (k+1):=by
 obtain⟨da,h1,h2,h3⟩:=h;refine⟨((((da.setIfInBounds (k*5) (.string x.r)).setIfInBounds (k*5+1) (.string x.s)).setIfInBounds (k*5+2) (.int .i64 x.l)).setIfInBounds (k*5+3) (.int .i64 x.t)).setIfInBounds (k*5+4) (.int .i64 x.c),heap_setCell_same _ _ _ _ _ _ (heap_setCell_same _ _ _ _ _ _ (heap_setCell_same _ _ _ _ _ _ (heap_setCell_same _ _ _ _ _ _ (heap_setCell_same W sb _ da _ _ h1)))),by simpa using h2,λi y hi hy m u hu=>?_⟩;have hm:m<5:=by have:=(List.getElem?_eq_some_iff.1 hu).1;rwa [lA]at this
 rcases Nat.lt_or_ge i k with hik|hik
 ·simp only[Ab]
  rw[if_neg (by omega),if_neg (by omega),if_neg (by omega),if_neg (by omega),if_neg (by omega)];exact h3 i y hik hy m u hu
 ·obtain rfl:i=k:=by omega
  obtain rfl:x=y:=by rw[hx]at hy;exact Option.some.inj hy
  simp only[Ab,Array.size_setIfInBounds]
  match m,hm,hu with
  | 0,_,hu=>simp[aJ]at hu;subst hu;simp[h2];omega
  | 1,_,hu=>simp[aJ]at hu;subst hu;simp[h2];omega
  | 2,_,hu=>simp[aJ]at hu;subst hu;simp[h2];omega
  | 3,_,hu=>simp[aJ]at hu;subst hu;simp[h2];omega
  | 4,_,hu=>simp[aJ]at hu;subst hu;simp[h2];omega
theorem mF0.at_ {W:World} {sb n:Nat} {so:List En} (h:mF0 W sb n so so.length):aF W (some ⟨sb,0,none⟩) 5 (so.map aJ):=λ_=>⟨sb,0,rfl,λi row hi j u hj=>by
 obtain⟨da,h1,h2,h3⟩:=h;rw[List.getElem?_map]at hi
 cases hx:so[i]? with
 | none=>rw[hx]at hi;cases hi
 | some x =>
  rw[hx]at hi;obtain rfl:aJ x=row:=by simpa using hi
  have:=h3 i x (List.getElem?_eq_some_iff.1 hx).1 hx j u hj
  simp[Ai,h1,this]⟩
theorem mF0.made {W:World} {base sb n:Nat} {so:List En} {l:List Value} (h:W.ownsRow base 59 5 (.slice (some ⟨sb,0,none⟩) n n) n l):mF0 W sb n so 0/\base<=sb:=by
 rcases h.2 with ⟨e,_⟩|⟨g,cap,da,hv,hb,hh,h1,h2,h3,h4⟩
 ·cases e
 ·cases hv
  exact⟨⟨da,hh,h3,λi x hi=>absurd hi (Nat.not_lt_zero i)⟩,hb⟩
def klE (x:En):Lit := .string (keyBytes [.string x.r.data.toList,.string x.s.data.toList,.int .i64 x.l,.int .i64 x.t,.int .i64 x.c])
theorem tM:Go.Maps.Keyed Tryz.prog 59:=Go.Maps.Keyed.of_law (deep_law_laid pL0 (m:=3) (by decide) (of_decide_eq_true (by kernel_rfl)) (by kernel_rfl) (by kernel_rfl))
theorem iE1 {x:En} (h:uO x):Go.keyOf Tryz.prog 59 x.agg=some (klE x):=by
 obtain⟨m,hm⟩:∃m,Tryz.prog.types.size=m+1:=⟨Tryz.prog.types.size-1,by have:0<Tryz.prog.types.size:=of_decide_eq_true (by kernel_rfl);omega⟩
 have hS:∀(s:ByteArray),s.size<=maxLen->Tryz.prog.keyLits (m+1) 9 [.string s]=some [.string s.data.toList]:=λs hs=>by
  unfold Program.keyLits;simp only[Tryz.underlying9,if_pos hs]
 have hI:∀(n:Int),(Lit.int .i64 n).wf=true->Tryz.prog.keyLits (m+1) 3 [.int .i64 n]=some [.int .i64 n]:=λn hn=>by
  unfold Program.keyLits;simp only[Tryz.underlying3,hn,and_self,if_true]
 have hk:Tryz.prog.keyType 59=true:=by kernel_rfl
 have hc:Tryz.prog.cellsOf 59=5:=by kernel_rfl
 have eo:Tryz.prog.cellsOf 9=1:=by kernel_rfl
 have hci:Tryz.prog.cellsOf 3=1:=by kernel_rfl
 obtain⟨r,s,l,t,c⟩:=x;obtain⟨h1,h2,h3,h4,h5⟩:=h;have g1:=hS r h1;have g2:=hS s h2;have g3:=hI l h3;have g4:=hI t h4;have g5:=hI c h5;unfold Go.keyOf;simp only[Tryz.underlying59,hk,Ah];unfold Value.formed En.agg;simp only[Tryz.underlying59,hc];have hz:((#[Value.string r,.string s,.int .i64 l,.int .i64 t,.int .i64 c]:Array Value).size==5)=true:=rfl;rw[if_pos hz,hm];unfold Program.keyLits;simp only[Tryz.underlying59,hc,Value.cells];simp[eo,hci,g1,g2,g3,g4,g5,klE]
theorem nO0 {x y:En} (hx:uO x) (hy:uO y) (h:klE x=klE y):x=y:=by
 have h1:=iE1 hx;have h2:=iE1 hy;rw[h]at h1
 have:=tM.inj h1 h2
 obtain⟨a,b,c,d,e⟩:=x;obtain⟨a',b',c',d',e'⟩:=y;simpa [En.agg] using this
theorem qK0 {key:Value} {kl:Lit} (h:Go.keyOf Tryz.prog 59 key=some kl):∃x:En,uO x/\key=x.agg/\kl=klE x:=by
 obtain⟨m,hm⟩:∃m,Tryz.prog.types.size=m+1:=⟨Tryz.prog.types.size-1,by have:0<Tryz.prog.types.size:=of_decide_eq_true (by kernel_rfl);omega⟩
 have hS:∀(v:Value) (ls:List Lit),Tryz.prog.keyLits (m+1) 9 [v]=some ls->∃s:ByteArray,v=.string s/\s.size<=maxLen/\ls=[.string s.data.toList]:=λv ls h=>by
  unfold Program.keyLits at h;simp only[Tryz.underlying9]at h;cases v<;>simp at h
  rename_i s
  exact⟨s,rfl,h.1,h.2.symm⟩
 have hI:∀(v:Value) (ls:List Lit),Tryz.prog.keyLits (m+1) 3 [v]=some ls->∃n:Int,v=.int .i64 n/\(Lit.int .i64 n).wf=true/\ls=[.int .i64 n]:=λv ls h=>by
  unfold Program.keyLits at h;simp only[Tryz.underlying3]at h;cases v<;>simp at h
  obtain⟨⟨rfl,h2⟩,h3⟩:=h;exact⟨_,rfl,h2,h3.symm⟩
 have hk:Tryz.prog.keyType 59=true:=by kernel_rfl
 have hc:Tryz.prog.cellsOf 59=5:=by kernel_rfl
 have eo:Tryz.prog.cellsOf 9=1:=by kernel_rfl
 have hci:Tryz.prog.cellsOf 3=1:=by kernel_rfl
 unfold Go.keyOf at h;simp only[Tryz.underlying59,hk,Ah]at h;split at h
 ·rename_i hf
  rw[hm]at h
  obtain⟨cs,rfl,dp⟩:∃cs,key=.agg cs/\cs.size=5:=by
   unfold Value.formed at hf;cases key<;>simp[Tryz.underlying59,hc]at hf
   exact⟨_,rfl,hf⟩
  obtain⟨l⟩:=cs
  match l,dp with
  | [c0,c1,c2,c3,c4],_ =>
   rw[rJ Tryz.underlying59]at h;simp only[Value.cells]at h;simp[eo,hci,hc,Option.bind_eq_some_iff,List.mapM_cons]at h;obtain⟨l0,g0,a1,⟨l1,g1,a2,⟨l2,g2,a3,⟨l3,g3,a4,⟨l4,g4,rfl⟩,rfl⟩,rfl⟩,rfl⟩,rfl⟩:=h;obtain⟨s0,rfl,z0,rfl⟩:=hS _ _ g0;obtain⟨s1,rfl,z1,rfl⟩:=hS _ _ g1;obtain⟨n2,rfl,z2,rfl⟩:=hI _ _ g2;obtain⟨n3,rfl,z3,rfl⟩:=hI _ _ g3;obtain⟨n4,rfl,z4,rfl⟩:=hI _ _ g4;exact⟨⟨s0,s1,n2,n3,n4⟩,⟨z0,z1,z2,z3,z4⟩,rfl,by simp[klE]⟩
 ·cases h
end
section
open Go Go.RowKit
def jY (x:En):En:={ x with c:=0 }
theorem uO.key {x:En} (h:uO x):uO (jY x):=⟨h.r,h.s,h.l,h.t,by show (Lit.int .i64 0).wf=true; decide⟩
theorem cG0 {z y:En} (hy:y.c=0) (h:dU z y):y=jY z:=by
 obtain⟨a,b,c,d,e⟩:=z;obtain⟨a',b',c',d',e'⟩:=y;obtain⟨rfl,rfl,rfl,rfl⟩:=h;simp only at hy;subst hy;rfl
theorem zA (z:En):dU z (jY z):=⟨rfl,rfl,rfl,rfl⟩
theorem zQ0 (y:En):WideAt.IsKeyLit (klE y):=by simp[klE,WideAt.IsKeyLit]
theorem eN1 (y:En):(klE y).sameKey (klE y)=true:=by simp[klE,Lit.sameKey]
section
variable {H:Type}
def AtE (D:DataW H) (y:En):Option Int->Prop
 | none=>Maps.has D (klE y)=false
 | some c=>Maps.has D (klE y)=true/\∀zd,D.atKey (klE y) zd=.lit (.int .i64 c)
def pU0 (l:List En) (y:En):Option Int->Prop
 | none=>∀z∈l,¬dU z y
 | some c=>(∃z∈l,dU z y/\z.c=c)/\∀z∈l,dU z y->c<=z.c
def vK0 (l:List En) (D:DataW H):Prop:=∀y,uO y->(y.c≠0->Maps.has D (klE y)=false)/\(y.c=0->∃o,pU0 l y o/\AtE D y o)
theorem AtE.unique {D:DataW H} {y:En} {o o':Option Int} (h:AtE D y o) (h':AtE D y o'):o=o':=by
 cases o with
 | none=>cases o' with
  | none=>rfl
  | some c=>have h1:Maps.has D (klE y)=false:=h;rw[h'.1]at h1;cases h1
 | some c=>cases o' with
  | none=>have h1:Maps.has D (klE y)=false:=h';rw[h.1]at h1;cases h1
  | some c' =>
   have h1:=h.2 (.lit (.int .i64 0));rw[h'.2]at h1;simpa using h1.symm
theorem pU0.snoc_other {l:List En} {y z:En} {o:Option Int} (h:pU0 l y o) (hn:¬dU z y):pU0 (l++[z]) y o:=by
 cases o with
 | none =>
  intro x hx;rcases List.mem_append.1 hx with hx|hx
  ·exact h x hx
  ·obtain rfl:x=z:=by simpa using hx
   exact hn
 | some c =>
  obtain⟨⟨x,hx,h1,h2⟩,h3⟩:=h;refine⟨⟨x,Aa _ hx,h1,h2⟩,λx hx hk=>?_⟩;rcases List.mem_append.1 hx with hx|hx
  ·exact h3 x hx hk
  ·obtain rfl:x=z:=by simpa using hx
   exact absurd hk hn
theorem gI1:vK0 (H:=H) [] (.map []):=λy _=>⟨λ_=>rfl,λ_=>⟨none,λz hz=>by simp at hz,rfl⟩⟩
theorem vK0.skip {l:List En} {D:DataW H} (h:vK0 l D) {z:En} {c:Int} (ha:AtE D (jY z) (some c)) (hc:c<=z.c):vK0 (l++[z]) D:=λy hy=>by
 refine⟨(h y hy).1,λh0=>?_⟩;obtain⟨o,ho,hD⟩:=(h y hy).2 h0;by_cases hk:dU z y
 ·have e:=cG0 h0 hk
  subst e;obtain rfl:=hD.unique ha;refine⟨some c,⟨?_,λx hx hk=>?_⟩,ha⟩
  ·obtain⟨⟨x,hx,h1,h2⟩,_⟩:=ho
   exact⟨x,Aa _ hx,h1,h2⟩
  ·rcases List.mem_append.1 hx with hx|hx
   ·exact ho.2 x hx hk
   ·obtain rfl:x=z:=by simpa using hx
    exact hc
 ·exact⟨o,ho.snoc_other hk,hD⟩
theorem vK0.store {l:List En} {D:DataW H} (h:vK0 l D) (hm:Maps.IsMap D) {z:En} (hz:uO z) {o:Option Int} (ha:AtE D (jY z) o) (hc:∀c,o=some c->z.c<c):vK0 (l++[z]) (D.put (klE (jY z)) (.lit (.int .i64 z.c))):=λy hy=>by
 refine⟨λh0=>?_,λh0=>?_⟩
 ·have aj:klE y≠klE (jY z):=λe=>h0 (by rw[nO0 hy hz.key e];rfl)
  rw[Maps.has_put_other aj];exact(h y hy).1 h0
 ·obtain⟨o',ho,hD⟩:=(h y hy).2 h0
  by_cases hk:dU z y
  ·have e:=cG0 h0 hk
   subst e;obtain rfl:=hD.unique ha;refine⟨some z.c,⟨⟨z,by simp,zA z,rfl⟩,λx hx hk=>?_⟩,Maps.has_put_same hm (zQ0 _) _,λzd=>Maps.atKey_put_same hm (zQ0 _) _ _⟩;rcases List.mem_append.1 hx with hx|hx
   ·cases o' with
    | none=>exact absurd hk (ho x hx)
    | some c =>
     have h1:=ho.2 x hx hk;have h2:=hc c rfl;omega
   ·obtain rfl:x=z:=by simpa using hx
    exact Int.le_refl _
  ·have aj:klE y≠klE (jY z):=λe=>hk (by rw[nO0 hy hz.key e];exact zA z)
   refine⟨o',ho.snoc_other hk,?_⟩
   cases o' with
   | none =>
    show Maps.has _ _=false
    rw[Maps.has_put_other aj];exact hD
   | some c=>exact⟨by rw[Maps.has_put_other aj];exact hD.1,λzd=>by rw[Maps.atKey_put_other aj];exact hD.2 zd⟩
def pH0 (D:DataW H) (left:Lit->Bool) (ys:List En):Prop:=ys.Nodup/\(∀y∈ys,uO y)/\∀y,uO y->(y∈ys↔AtE D (jY y) (some y.c)/\left (klE (jY y))=false)
theorem oQ0 (D:DataW H):pH0 D (Maps.has D) []:=⟨List.nodup_nil,λy hy=>by simp at hy,λy _=>⟨λh=>by simp at h,λ⟨h1,h2⟩=>by rw[h1.1]at h2; cases h2⟩⟩
theorem pH0.step {l:List En} {D:DataW H} {left:Lit->Bool} {ys:List En} (h:pH0 D left ys) (hM:vK0 l D) {x:En} (hx:uO x) {c:Int} (hc:(Lit.int .i64 c).wf=true) (hl:left (klE x)=true) (ac:∀zd,D.atKey (klE x) zd=.lit (.int .i64 c)) :
  pH0 D (λz=>left z && !z.sameKey (klE x)) (ys++[{ x with c:=c }]):=by
 have nc:=Maps.has_true_of_atKey ac
 have h0:x.c=0:=Decidable.byContradiction λhn=>by
  have:=(hM x hx).1 hn
  rw[this]at nc;cases nc
 have hkx:jY { x with c:=c }=x:=by
  obtain⟨a,b,d,e,f⟩:=x;simp only at h0;subst h0;rfl
 have hxA:AtE D x (some c):=⟨nc,ac⟩;have aek:uO { x with c:=c }:=⟨hx.r,hx.s,hx.l,hx.t,hc⟩
 obtain⟨h1,h2,h3⟩:=h;refine⟨?_,λy hy=>?_,λy hy=>?_⟩
 ·refine List.nodup_append.2 ⟨h1,by simp,λy hy z hz e=>?_⟩
  obtain rfl:z={ x with c:=c }:=by simpa using hz
  subst e
  have:=((h3 _ aek).1 hy).2
  rw[hkx,hl]at this;cases this
 ·rcases List.mem_append.1 hy with hy|hy
  ·exact h2 y hy
  ·obtain rfl:y={ x with c:=c }:=by simpa using hy
   exact aek
 ·constructor
  ·intro hm
   rcases List.mem_append.1 hm with hm|hm
   ·obtain⟨k1,k2⟩:=(h3 y hy).1 hm
    exact⟨k1,by simp[k2]⟩
   ·obtain rfl:y={ x with c:=c }:=by simpa using hm
    rw[hkx];exact⟨hxA,by simp[eN1]⟩
  ·rintro⟨k1,k2⟩
   by_cases hk:klE (jY y)=klE x
   ·have e:=nO0 hy.key hx hk
    rw[e]at k1;have e2:y.c=c:=by simpa using k1.unique hxA
    have:y={ x with c:=c }:=by
     rw[<-e,<-e2];obtain⟨a,b,d,e,f⟩:=y;rfl
    rw[this];simp
   ·have k3:(left (klE (jY y)) && !(klE (jY y)).sameKey (klE x))=false:=k2
    rw[Maps.sameKey_ne hk]at k3;exact Aa _ ((h3 y hy).2 ⟨k1,by simpa using k3⟩)
theorem pH0.least {l:List En} {D:DataW H} {left:Lit->Bool} {ys:List En} (h:pH0 D left ys) (hM:vK0 l D) (hl:∀x∈l,uO x) (h0:∀kl,left kl=false) (y:En):y∈ys↔cA0 l y:=by
 have key:∀y,uO y->(AtE D (jY y) (some y.c)↔cA0 l y):=λy hy=>by
  obtain⟨o,ho,hD⟩:=(hM (jY y) hy.key).2 rfl;constructor
  ·intro h1
   obtain rfl:=hD.unique h1;obtain⟨⟨z,hz,k1,k2⟩,k3⟩:=ho;refine⟨?_,λx hx hk=>k3 x hx hk⟩
   have:z=y:=by
    obtain⟨a,b,d,e,f⟩:=z;obtain⟨a',b',d',e',f'⟩:=y;obtain⟨rfl,rfl,rfl,rfl⟩:=k1;simp only at k2;subst k2;rfl
   rw[<-this];exact hz
  ·rintro⟨hy2,h2⟩
   cases o with
   | none=>exact absurd (zA y) (ho y hy2)
   | some c =>
    obtain⟨⟨z,hz,k1,k2⟩,k3⟩:=ho;have e1:=k3 y hy2 (zA y);have e2:=h2 z hz k1
    have:c=y.c:=by omega
    rw[<-this];exact hD
 constructor
 ·intro hy
  have ag:=h.2.1 y hy;exact(key y ag).1 ((h.2.2 y ag).1 hy).1
 ·intro hy
  have ag:=hl y hy.1;exact(h.2.2 y ag).2 ⟨(key y ag).2 hy,h0 _⟩
end
end
end Go.Proofs.YtcijgkfpobpdbaaGreatDoor
