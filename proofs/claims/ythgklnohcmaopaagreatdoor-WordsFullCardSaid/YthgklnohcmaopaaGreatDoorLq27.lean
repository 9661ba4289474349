/- The texts DicB wR0, one behind the other. -/
import Derived.Test.YthgklnohcmaopaaGreatDoorLq2
import Derived.Test.YthgklnohcmaopaaGreatDoorLq19
import Derived.Maps.Views
import Derived.Maps.OwnSet
open List renaming length_cons → Aa,filter_sublist → Ab
namespace Go.Proofs.YthgklnohcmaopaaGreatDoor
section
open Go Go.RowKit
def iI (es:List En) (s:ByteArray):List En:=es.filter λx=>decide (x.r=s)
def lF0 (s p:ByteArray):Bool:=(bl p).isPrefixOf (bl s)
def oK0 (s:ByteArray) (n:Nat):ByteArray:=mkB ((bl s).take n)
def lO0 (es:List En) (s:ByteArray):List En:=(List.range (min s.size 256+1)).flatMap λn=>iI es (oK0 s n)
end
section
open Go Go.RowKit
def lF (x:Nd):Nd:={ x with c:=0,k:=0 }
theorem kX {x y:Nd}:lF x=lF y↔cK x y:=by
 unfold lF cK;simp[Nd.mk.injEq]
theorem wf0:WfI 0:=by unfold WfI; decide
theorem gP0.key {x:Nd} (h:gP0 x):gP0 (lF x):=⟨h.f,h.t,h.s,h.l,h.r,wf0,wf0⟩
theorem mR1 (y:Nd):WideAt.IsKeyLit (klN y):=by simp[klN,WideAt.IsKeyLit]
section
variable {H:Type}
def ndD (x:Nd):DataW H := .agg [.lit (.int .i64 x.f),.lit (.int .i64 x.t),.lit (.string x.s.data.toList),.lit (.int .i64 x.l),.lit (.int .i64 x.r),.lit (.int .i64 x.c),.lit (.int .i64 x.k)]
theorem pQ0 {x y:Nd} (h:ndD (H:=H) x=ndD y):x=y:=by
 obtain⟨a,b,c,d,e,f,g⟩:=x;obtain⟨a',b',c',d',e',f',g'⟩:=y;simp only[ndD,DataW.agg.injEq,List.cons.injEq,DataW.lit.injEq,Lit.int.injEq,Lit.string.injEq,true_and,and_true]at h;obtain⟨rfl,rfl,h3,rfl,rfl,rfl,rfl⟩:=h;rw[show c=c' by rw[<-pK c,<-pK c',h3]]
def eB (v:Value):Option (DataW H×List MemPlace) :=
 match v with
 | .agg xs=>(match xs.toList with|[.int .i64 f,.int .i64 t,.string s,.int .i64 l,.int .i64 r,.int .i64 c,.int .i64 k]=>some (ndD ⟨f,t,s,l,r,c,k⟩,[])|_=>none)
 | _=>none
theorem iA (x:Nd):eB (H:=H) x.agg=some (ndD x,[]):=rfl
theorem qR {v:Value} {z:DataW H×List MemPlace} (h:eB v=some z):∃x:Nd,v=x.agg/\z=(ndD x,[]):=by
 cases v with
 | agg xs =>
  obtain⟨l⟩:=xs;unfold eB at h;simp only at h;split at h
  ·rename_i f t s l' r c k
   exact⟨⟨f,t,s,l',r,c,k⟩,rfl,(Option.some.inj h).symm⟩
  ·cases h
 | _=>simp[eB]at h
structure wR0 (V:List Nd) (D:DataW H):Prop where
 tidy:Maps.Tidy D
 size:Maps.size D=V.length
 ok:∀x∈V,gP0 x
 one:V.Pairwise λx y=>¬cK x y
 has:∀y,gP0 y->(Maps.has D (klN y)=true↔∃x∈V,lF x=y)
 at_:∀x∈V,∀zd,D.atKey (klN (lF x)) zd=ndD x
theorem fS1:wR0 (H:=H) [] (.map []):=⟨Maps.tidy_empty,rfl,λx h=>(by cases h),List.Pairwise.nil,λy _=>⟨λh=>(by cases h),λ⟨x,h,_⟩=>(by cases h)⟩,λx h=>(by cases h)⟩
theorem dE0 {x:Nd}:∀ {V:List Nd},(V.Pairwise λx y=>¬cK x y)->(V.filter λy => !decide (cK y x)).length+(if ∃y∈V,cK y x then 1 else 0)=V.length
 | [],_=>by simp
 | y::V,h=>by
  obtain⟨h1,h2⟩:=List.pairwise_cons.1 h;have ih:=dE0 (x:=x) h2;by_cases hs:cK y x
  ·have g9:¬ ∃z∈V,cK z x:=λ⟨z,hz,hzx⟩=>h1 z hz (hs.trans hzx.symm)
   rw[if_neg g9]at ih;rw[List.filter_cons_of_neg (by simp[hs]),if_pos ⟨y,by simp,hs⟩,Aa];omega
  ·rw[List.filter_cons_of_pos (by simp[hs]),Aa,Aa]
   have e:(∃z∈y::V,cK z x)↔∃z∈V,cK z x:=⟨λ⟨z,hz,hzx⟩=>by
    rcases List.mem_cons.1 hz with rfl|hz
    ·exact absurd hzx hs
    ·exact⟨z,hz,hzx⟩,λ⟨z,hz,hzx⟩=>⟨z,by simp[hz],hzx⟩⟩
   simp only[e];omega
def stN (V:List Nd) (x:Nd):List Nd:=x::V.filter λy => !decide (cK y x)
theorem iJ {V:List Nd} {x y:Nd}:y∈V.filter (λy => !decide (cK y x))↔y∈V/\¬cK y x:=by
 rw[List.mem_filter];simp
theorem wR0.store {V:List Nd} {D:DataW H} (h:wR0 V D) {x:Nd} (hx:gP0 x):wR0 (stN V x) (D.put (klN (lF x)) (ndD x)):=by
 have hk:=mR1 (lF x);refine⟨h.tidy.put hk _,?_,λy hy=>?_,List.pairwise_cons.2 ⟨λy hy e=>(iJ.1 hy).2 e.symm,h.one.sublist Ab⟩,λy hy=>?_,λy hy zd=>?_⟩
 ·rw[Maps.size_put h.tidy,h.size]
  have hl:=dE0 (x:=x) h.one;unfold stN;rw[Aa];by_cases hh:∃y∈V,cK y x
  ·rw[if_pos hh]at hl
   obtain⟨y,hy,hs⟩:=hh;rw[if_pos ((h.has _ hx.key).2 ⟨y,hy,kX.2 hs⟩)];omega
  ·rw[if_neg hh]at hl
   rw[if_neg (λhc=>hh (let ⟨y,hy,e⟩:=(h.has _ hx.key).1 hc;⟨y,hy,kX.1 e⟩))];omega
 ·rcases List.mem_cons.1 hy with rfl|hy
  ·exact hx
  ·exact h.ok y (iJ.1 hy).1
 ·by_cases e:lF x=y
  ·subst e
   exact⟨λ_=>⟨x,by simp[stN],rfl⟩,λ_=>Maps.has_put_same h.tidy.isMap hk _⟩
  ·have aj:klN y≠klN (lF x):=λe2=>e (oE0 hy hx.key e2).symm
   rw[Maps.has_put_other aj,h.has y hy];constructor
   ·rintro⟨z,hz,rfl⟩
    exact⟨z,List.mem_cons.2 (Or.inr (iJ.2 ⟨hz,λhs=>e (kX.2 hs.symm)⟩)),rfl⟩
   ·rintro⟨z,hz,rfl⟩
    rcases List.mem_cons.1 hz with rfl|hz
    ·exact absurd rfl e
    ·exact⟨z,(iJ.1 hz).1,rfl⟩
 ·rcases List.mem_cons.1 hy with rfl|hy
  ·exact Maps.atKey_put_same h.tidy.isMap hk _ _
  ·obtain⟨h1,h2⟩:=iJ.1 hy
   have aj:klN (lF y)≠klN (lF x):=λe2=>h2 (kX.1 (oE0 (h.ok y h1).key hx.key e2));rw[Maps.atKey_put_other aj];exact h.at_ y h1 zd
theorem wR0.look {V:List Nd} {D:DataW H} (h:wR0 V D) {x:Nd} (hx:gP0 x):(Maps.has D (klN (lF x))=false/\∀y∈V, ¬cK y x)\/∃y∈V,cK y x/\Maps.has D (klN (lF x))=true/\∀zd,D.atKey (klN (lF x)) zd=ndD y:=by
 cases hb:Maps.has D (klN (lF x)) with
 | false =>
  refine Or.inl ⟨rfl,λy hy hs=>?_⟩
  have:=(h.has _ hx.key).2 ⟨y,hy,kX.2 hs⟩
  rw[hb]at this;cases this
 | true =>
  obtain⟨y,hy,e⟩:=(h.has _ hx.key).1 hb;refine Or.inr ⟨y,hy,kX.1 e,rfl,λzd=>?_⟩;rw[<-e];exact h.at_ y hy zd
def jP1 (V:List Nd) (x:Nd):List Nd:=if V.any λy=>decide (cK y x/\cF y x) then V else stN V x
theorem Bests.add {O:Nd->Prop} {V:List Nd} (h:Bests O V) (x:Nd):Bests (λy=>O y\/y=x) (jP1 V x):=by
 unfold jP1;split
 ·rename_i ha
  obtain⟨z,hz,hb⟩:=List.any_eq_true.1 ha;have hb:=of_decide_eq_true hb;refine⟨λy hy=>Or.inl (h.sub y hy),λy hy=>?_,h.one⟩;rcases hy with hy|rfl
  ·exact h.cov y hy
  ·exact⟨z,hz,hb⟩
 ·rename_i ha
  have g9:∀y∈V,cK y x->¬cF y x:=λy hy hs hb=>ha (List.any_eq_true.2 ⟨y,hy,decide_eq_true ⟨hs,hb⟩⟩);refine⟨λy hy=>?_,λy hy=>?_,List.pairwise_cons.2 ⟨λy hy e=>(iJ.1 hy).2 e.symm,h.one.sublist Ab⟩⟩
  ·rcases List.mem_cons.1 hy with rfl|hy
   ·exact Or.inr rfl
   ·exact Or.inl (h.sub y (iJ.1 hy).1)
  ·rcases hy with hy|rfl
   ·obtain⟨z,hz,h1,h2⟩:=h.cov y hy
    by_cases hs:cK z x
    ·exact⟨x,by simp[stN],hs.symm.trans h1,(dK0 (g9 z hz hs)).trans h2⟩
    ·exact⟨z,List.mem_cons.2 (Or.inr (iJ.2 ⟨hz,hs⟩)),h1,h2⟩
   ·exact⟨y,by simp[stN],cK.refl y,cF.refl y⟩
structure nK0 (V:List Nd) (left:Lit->Bool) (ys:List Nd):Prop where
 nd:ys.Nodup
 sub:∀y∈ys,y∈V
 iff:∀y∈V,y∈ys↔left (klN (lF y))=false
theorem wR0.start {V:List Nd} {D:DataW H} (h:wR0 V D):nK0 V (Maps.has D) []:=⟨List.nodup_nil,λy hy=>(by cases hy),λy hy=>by
 rw[(h.has _ (h.ok y hy).key).2 ⟨y,hy,rfl⟩];simp⟩
theorem nK0.step {V:List Nd} {D:DataW H} (hM:wR0 V D) {left:Lit->Bool} {ys:List Nd} (h:nK0 V left ys) {x:Nd} (hx:x∈V) (hl:left (klN (lF x))=true):nK0 V (λz=>left z && !z.sameKey (klN (lF x))) (ys++[x]):=by
 have vr:x∉ys:=λhm=>by
  have:=(h.iff x hx).1 hm
  rw[hl]at this;cases this
 have aed:(klN (lF x)).sameKey (klN (lF x))=true:=by simp[klN,Lit.sameKey]
 refine⟨List.nodup_append.2 ⟨h.nd,by simp,λa ha b hb e=>?_⟩,λy hy=>?_,λy hy=>?_⟩
 ·obtain rfl:b=x:=by simpa using hb
  exact vr (e▸ha)
 ·rcases List.mem_append.1 hy with hy|hy
  ·exact h.sub y hy
  ·obtain rfl:y=x:=by simpa using hy
   exact hx
 ·rw[List.mem_append,h.iff y hy]
  by_cases e:klN (lF y)=klN (lF x)
  ·obtain rfl:=pC0 hM.one hy hx (kX.1 (oE0 (hM.ok y hy).key (hM.ok x hx).key e))
   simp[aed]
  ·rw[Maps.sameKey_ne e]
   have:y≠x:=λe2=>e (by rw[e2])
   simp[this]
theorem nK0.perm {V:List Nd} {D:DataW H} (hM:wR0 V D) {left:Lit->Bool} {ys:List Nd} (h:nK0 V left ys) (h0:∀kl,left kl=false):ys.Perm V :=
 (List.perm_ext_iff_of_nodup h.nd (List.nodup_iff_pairwise_ne.2 (hM.one.imp λ{a _} hn e=>hn (by rw[<-e];exact cK.refl a)))).2 λy=>⟨h.sub y,λhy=>(h.iff y hy).2 (h0 _)⟩
end
end
end Go.Proofs.YthgklnohcmaopaaGreatDoor
