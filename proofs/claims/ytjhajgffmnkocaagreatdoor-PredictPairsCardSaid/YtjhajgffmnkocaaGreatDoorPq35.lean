/- The texts PrdP PrdL, one behind the other. -/
import Derived.Test.YtjhajgffmnkocaaGreatDoorPq28
import Derived.Test.YtjhajgffmnkocaaGreatDoorPq34
import Derived.Test.YtjhajgffmnkocaaGreatDoorPq2
open List renaming find?_cons_of_neg → Aa,find?_cons_of_pos → Ab,mem_of_mem_take → Ad,find?_some → Ae,cons_append → Ag,mem_filter → Ah,mem_cons → Ai,getElem?_take → Aj,mem_map → Ak,take_sublist → Al,length_take → Am
open Option renaming map_some → Ac
open Go.Lib renaming bitLenAux → Af,bitLen → Ao
open Nat renaming le_refl → An
open Int renaming le_refl → Ap
namespace Go.Proofs.YtjhajgffmnkocaaGreatDoor
section
open Go Go.RowKit
instance:DecidableEq Gs:=λx y=>decidable_of_iff (x.r=y.r/\x.s=y.s/\x.c=y.c) (by cases x; cases y; simp)
def isW (r s:ByteArray) (x:En):Bool:=decide (x.r=r/\x.s=s)
def mA1 (o:Option Int) (c:Int):Int:=match o with
 | none=>c
 | some n=>if c<n then c else n
def sT (l:List En) (o:Option Int):Option Int:=l.foldl (λo x=>some (mA1 o x.c)) o
def uS (es:List En) (r s:ByteArray):Int:=(sT (es.filter (isW r s)) none).getD 8000
theorem rK0 (l:List En) (x:En) (o:Option Int):sT (l++[x]) o=some (mA1 (sT l o) x.c):=by
 unfold sT;rw[List.foldl_append,List.foldl_cons,List.foldl_nil]
theorem uM:∀(l:List En),(sT l none=none/\l=[])\/∃n,sT l none=some n/\(∃x∈l,x.c=n)/\∀x∈l,n<=x.c:=λl=>by
 have H:∀(l:List En) (o:Int),∃n,sT l (some o)=some n/\(n=o\/∃x∈l,x.c=n)/\n<=o/\∀x∈l,n<=x.c:=λl=>by
  induction l with
  | nil=>intro o;exact⟨o,rfl,Or.inl rfl,Ap _,λx h=>by cases h⟩
  | cons x l ih =>
   intro o;obtain⟨n,h1,h2,h3,h4⟩:=ih (if x.c<o then x.c else o)
   refine⟨n,h1,?_,?_,λy hy=>?_⟩
   ·rcases h2 with h2|⟨y,hy,h2⟩
    ·split at h2
     ·exact Or.inr ⟨x,by simp,h2.symm⟩
     ·exact Or.inl h2
    ·exact Or.inr ⟨y,by simp[hy],h2⟩
   ·split at h3<;>omega
   ·rcases List.mem_cons.1 hy with rfl|hy
    ·split at h3<;>omega
    ·exact h4 y hy
 cases l with
 | nil=>exact Or.inl ⟨rfl,rfl⟩
 | cons x l =>
  obtain⟨n,h1,h2,h3,h4⟩:=H l x.c;refine Or.inr ⟨n,h1,?_,λy hy=>?_⟩
  ·rcases h2 with rfl|⟨y,hy,h2⟩
   ·exact⟨x,by simp,rfl⟩
   ·exact⟨y,by simp[hy],h2⟩
  ·rcases List.mem_cons.1 hy with rfl|hy
   ·exact h3
   ·exact h4 y hy
def kS0 (P:En->Prop) (n:Int):Prop:=((∃x,P x/\x.c=n)/\∀x,P x->n<=x.c)\/((∀x, ¬P x)/\n=8000)
theorem kS0.unique {P:En->Prop} {n m:Int} (h:kS0 P n) (h':kS0 P m):n=m:=by
 rcases h with ⟨⟨x,hx,rfl⟩,h2⟩|⟨h1,rfl⟩
 ·rcases h' with ⟨⟨y,hy,rfl⟩,h4⟩|⟨h3,_⟩
  ·have:=h2 y hy;have:=h4 x hx;omega
  ·exact absurd hx (h3 x)
 ·rcases h' with ⟨⟨y,hy,_⟩,_⟩|⟨_,rfl⟩
  ·exact absurd hy (h1 y)
  ·rfl
theorem aB0 (es:List En) (r s:ByteArray):kS0 (λx=>x∈es/\x.r=r/\x.s=s) (uS es r s):=by
 unfold uS;have hm:∀x,x∈es.filter (isW r s)↔x∈es/\x.r=r/\x.s=s:=λx=>by rw[Ah];simp[isW]
 rcases uM (es.filter (isW r s)) with ⟨h1,h2⟩|⟨n,h1,⟨x,hx,h2⟩,h3⟩
 ·rw[h1]
  refine Or.inr ⟨λx hx=>?_,rfl⟩
  have:=(hm x).2 hx
  rw[h2]at this;cases this
 ·rw[h1]
  exact Or.inl ⟨⟨x,(hm x).1 hx,h2⟩,λy hy=>h3 y ((hm y).2 hy)⟩
def gsW (es:List En) (cs:List Cnt) (p v:ByteArray) (r s:ByteArray):Bool :=
 qR r p&&(((!(bl p).isEmpty&&(jQ es p 200).any (isW r s))||(decide (0<bonK cs 1 r s)&&(!(bl p).isEmpty||decide (0<bonK cs 2 v s))))||(es.any (isW r s)&&decide (0<bonK cs 2 v s)))
def gsS (es:List En) (cs:List Cnt) (v:ByteArray) (r s:ByteArray):Int:=bonK cs 1 r s+bonK cs 2 v s-uS es r s/10
def wV0 (es:List En) (cs:List Cnt):List (ByteArray×ByteArray):=es.map (λx=>(x.r,x.s))++cs.map λc=>(dR c.k).2
def cO1 {α:Type} [DecidableEq α] (l:List α):List α:=l.foldr (λx L=>if x∈L then L else x::L) []
theorem lC0 {α:Type} [DecidableEq α]:∀l:List α,(cO1 l).Nodup/\∀x,x∈cO1 l↔x∈l
 | []=>⟨List.nodup_nil,λ_=>Iff.rfl⟩
 | y::l=>by
  obtain⟨h1,h2⟩:=lC0 l;show (if y∈cO1 l then cO1 l else y::cO1 l).Nodup/\∀x,x∈(if y∈cO1 l then cO1 l else y::cO1 l)↔x∈y::l
  split
  ·rename_i hy
   refine⟨h1,λx=>?_⟩;rw[h2,Ai];exact⟨Or.inr,λh=>h.elim (λe=>e▸(h2 y).1 hy) id⟩
  ·rename_i hy
   refine⟨List.nodup_cons.2 ⟨hy,h1⟩,λx=>?_⟩;rw[Ai,h2,Ai]
def cB0 (es:List En) (cs:List Cnt) (p v:ByteArray):List Gs :=
 sortG ((cO1 ((wV0 es cs).filter λx=>gsW es cs p v x.1 x.2)).map λx=>⟨x.1,x.2,gsS es cs v x.1 x.2⟩)
structure uK (es:List En) (cs:List Cnt) (p v r s:ByteArray):Prop where
 beg:qR r p=true
 why:(p≠⟨#[]⟩/\∃x∈jQ es p 200,x.r=r/\x.s=s)\/(0<bonK cs 1 r s/\(p≠⟨#[]⟩\/0<bonK cs 2 v s))\/((∃x∈es,x.r=r/\x.s=s)/\0<bonK cs 2 v s)
theorem dQ1 {p:ByteArray}:(bl p).isEmpty=false↔p≠⟨#[]⟩:=by
 rw[List.isEmpty_eq_false_iff];exact⟨λh e=>h (by rw[e];rfl),λh e=>h (qY e)⟩
theorem aD1 {es:List En} {cs:List Cnt} {p v r s:ByteArray}:gsW es cs p v r s=true↔uK es cs p v r s:=by
 unfold gsW;simp only[Bool.and_eq_true,Bool.or_eq_true,Bool.not_eq_true',decide_eq_true_eq,List.any_eq_true,isW,dQ1,or_assoc];exact⟨λh=>⟨h.1,h.2⟩,λh=>⟨h.1,h.2⟩⟩
theorem rI0 {es:List En} {cs:List Cnt} {p v r s:ByteArray} (h:uK es cs p v r s):(r,s)∈wV0 es cs:=by
 unfold wV0;rw[List.mem_append,Ak,Ak];rcases h.why with ⟨_,x,hx,rfl,rfl⟩|⟨h1,_⟩|⟨⟨x,hx,rfl,rfl⟩,_⟩
 ·exact Or.inl ⟨x,(List.mem_filter.1 (Ad hx)).1,rfl⟩
 ·obtain⟨c,hc,hk⟩:=yA h1
  exact Or.inr ⟨c,hc,by rw[mF hk]⟩
 ·exact Or.inl ⟨x,hx,rfl⟩
theorem mW (es:List En) (cs:List Cnt) (p v:ByteArray):mV (uK es cs p v) (gsS es cs v) (cB0 es cs p v):=by
 obtain⟨h1,h2⟩:=lC0 ((wV0 es cs).filter λx=>gsW es cs p v x.1 x.2)
 have hn:((cO1 ((wV0 es cs).filter λx=>gsW es cs p v x.1 x.2)).map λx=>(⟨x.1,x.2,gsS es cs v x.1 x.2⟩:Gs)).Nodup:=by
  refine List.pairwise_map.2 (List.Pairwise.imp (λ{a b} eo e=>eo ?_) h1);simp only[Gs.mk.injEq]at e;exact Prod.ext e.1 e.2.1
 obtain⟨k1,k2⟩:=rO0 _ hn;refine⟨k1,λx=>?_⟩;rw[cB0,k2,Ak];constructor
 ·rintro⟨⟨r,s⟩,hy,rfl⟩
  rw[h2,Ah]at hy;exact⟨aD1.1 hy.2,rfl⟩
 ·rintro⟨hw,he⟩
  refine⟨(x.r,x.s),?_,?_⟩
  ·rw[h2,Ah]
   exact⟨rI0 hw,aD1.2 hw⟩
  ·obtain⟨r,s,c⟩:=x
   simp only at he;rw[he]
def fI (es:List En) (cs:List Cnt) (p v:ByteArray) (ar:Int):List Gs:=(cB0 es cs p v).take (min ar 60).toNat
structure kD1 (es:List En) (cs:List Cnt) (p v:ByteArray) (V:ByteArray->ByteArray->Prop):Prop where
 iff:∀r s,V r s↔qR r p=true/\((p≠⟨#[]⟩/\∃x∈jQ es p 200,x.r=r/\x.s=s)\/∃c∈cs,pS cs c.k≠0/\((kU c.k 1 r s/\(p≠⟨#[]⟩\/0<bonK cs 2 v s))\/(kU c.k 2 v s/\∃x∈ofL es s,x.r=r/\x.s=s)))
theorem kD1.pred {es:List En} {cs:List Cnt} {p v:ByteArray} {V:ByteArray->ByteArray->Prop} (h:kD1 es cs p v V) (r s:ByteArray):V r s↔uK es cs p v r s:=by
 rw[h.iff];constructor
 ·rintro⟨hb,h1|⟨c,hc,h0,⟨hk,h2⟩|⟨hk,x,hx,e1,e2⟩⟩⟩
  ·exact⟨hb,Or.inl h1⟩
  ·have:=mQ cs c.k
   refine⟨hb,Or.inr (Or.inl ⟨?_,h2⟩)⟩;rw[uX hk];omega
  ·have:=mQ cs c.k
   refine⟨hb,Or.inr (Or.inr ⟨⟨x,(List.mem_filter.1 hx).1,e1,e2⟩,?_⟩)⟩;rw[uX hk];omega
 ·rintro⟨hb,h1|⟨h1,h2⟩|⟨⟨x,hx,e1,e2⟩,h2⟩⟩
  ·exact⟨hb,Or.inl h1⟩
  ·obtain⟨c,hc,hk⟩:=yA h1
   rw[uX hk]at h1;exact⟨hb,Or.inr ⟨c,hc,by omega,Or.inl ⟨hk,h2⟩⟩⟩
  ·obtain⟨c,hc,hk⟩:=yA h2
   rw[uX hk]at h2;exact⟨hb,Or.inr ⟨c,hc,by omega,Or.inr ⟨hk,x,List.mem_filter.2 ⟨hx,by simpa using e2⟩,e1,e2⟩⟩⟩
end
section
open Go Go.RowKit
theorem bG1 {es:List En} {cs:List Cnt} {p v:ByteArray} {ar:Int} {i:Nat} {x:Gs} (h:(fI es cs p v ar)[i]?=some x):(cB0 es cs p v)[i]?=some x/\i<(min ar 60).toNat:=by
 unfold fI at h;rw[Aj]at h;split at h
 ·exact⟨h,by assumption⟩
 ·cases h
theorem qE {es:List En} {cs:List Cnt} {p v:ByteArray} {ar:Int} {x:Gs} (h:x∈fI es cs p v ar):uK es cs p v x.r x.s/\x.c=gsS es cs v x.r x.s:=((mW es cs p v).mem x).1 (Ad h)
theorem guessL_len (es:List En) (cs:List Cnt) (p v:ByteArray) (ar:Int):(fI es cs p v ar).length<=(max 0 (min ar 60)).toNat:=by
 unfold fI;rw[Am];omega
theorem guessL_srt (es:List En) (cs:List Cnt) (p v:ByteArray) (ar:Int):(fI es cs p v ar).Pairwise λx y=>dG x y=true:=(mW es cs p v).srt.sublist (Al _ _)
theorem guessL_fewer (es:List En) (cs:List Cnt) (p v:ByteArray) {a b:Int} (h:a<=b):fI es cs p v a=(fI es cs p v b).take (fI es cs p v a).length:=by
 unfold fI;rw[List.take_take,Am,Nat.min_comm,List.take_eq_take_iff];omega
def qW (l:List Gs) (r s:ByteArray):Int :=
 match l.findIdx? λx=>decide (x.r=r/\x.s=s) with
 | some i=>(i:Nat)
 | none => -1
theorem yN0 {l:List Gs} {i:Nat} {x:Gs} (hn:l.Pairwise λx y=>¬(x.r=y.r/\x.s=y.s)) (h:l[i]?=some x):qW l x.r x.s=i:=by
 unfold qW;have hi:=(List.getElem?_eq_some_iff.1 h).1
 have e:l.findIdx? (λy=>decide (y.r=x.r/\y.s=x.s))=some i:=by
  rw[List.findIdx?_eq_some_iff_getElem];have hx:=(List.getElem?_eq_some_iff.1 h).2;refine⟨hi,by rw[hx];simp,λj hj=>?_⟩
  have:=List.pairwise_iff_getElem.1 hn j i (by omega) hi hj
  rw[hx]at this;simpa using this
 rw[e]
theorem kF0 (es:List En) (cs:List Cnt) (p v:ByteArray):(cB0 es cs p v).Pairwise λx y=>¬(x.r=y.r/\x.s=y.s):=(mW es cs p v).nodup
theorem iQ0 (es:List En) (cs:List Cnt) (p v:ByteArray) (ar:Int):(fI es cs p v ar).Pairwise λx y=>¬(x.r=y.r/\x.s=y.s):=(kF0 es cs p v).sublist (Al _ _)
def rzL (k:ByteArray) (f:Int->Int):List Cnt->List Cnt
 | []=>[]
 | c::l=>if c.k=k then ⟨c.k,f c.v⟩::l else c::rzL k f l
def aY1 (k:ByteArray) (l:List Cnt):Bool:=l.any λc=>decide (c.k=k)
def rzA (k:ByteArray) (f:Int->Int) (n:Int) (l:List Cnt):List Cnt:=if aY1 k l then rzL k f l else l++[⟨k,n⟩]
theorem fW1 (k:ByteArray) (f:Int->Int) (c:Cnt):∀l:List Cnt,rzL k f (l++[c])=rzL k f l++[if c.k=k/\aY1 k l=false then ⟨c.k,f c.v⟩ else c]
 | []=>by
  unfold rzL aY1;by_cases h:c.k=k
  ·simp[h]
  ·simp[h,rzL]
 | d::l=>by
  rw[Ag];unfold rzL;by_cases h:d.k=k
  ·rw[if_pos h,if_pos h,Ag,if_neg]
   rintro⟨_,h2⟩;simp[aY1,h]at h2
  ·rw[if_neg h,if_neg h,fW1 k f c l,Ag]
   have:aY1 k (d::l)=aY1 k l:=by simp[aY1,h]
   rw[this]
theorem mU1 {k:ByteArray} {f:Int->Int}:∀ {l:List Cnt},aY1 k l=false->rzL k f l=l
 | [],_=>rfl
 | c::l,h=>by
  have h1:¬c.k=k/\aY1 k l=false:=by simpa [aY1] using h
  unfold rzL;rw[if_neg h1.1,mU1 h1.2]
theorem fJ0 {k:ByteArray} {f:Int->Int} (key:ByteArray):∀l:List Cnt,(rzL k f l).find? (λc=>decide (c.k=key))=(l.find? λc=>decide (c.k=key)).map λc=>if c.k=k then ⟨c.k,f c.v⟩ else c
 | []=>rfl
 | c::l=>by
  have ih:=fJ0 (k:=k) (f:=f) key l;unfold rzL;by_cases h:c.k=k
  ·rw[if_pos h]
   by_cases h2:c.k=key
   ·rw[Ab (by simpa using h2),Ab (by simpa using h2),Ac,if_pos h]
   ·rw[Aa (by simpa using h2),Aa (by simpa using h2)]
    cases hf:l.find? λc=>decide (c.k=key) with
    | none=>rfl
    | some d =>
     have hd:d.k=key:=by simpa using Ae hf
     rw[Ac,if_neg (λe=>h2 (by rw[h,<-e,hd]))]
  ·rw[if_neg h]
   by_cases h2:c.k=key
   ·rw[Ab (by simpa using h2),Ab (by simpa using h2),Ac,if_neg h]
   ·rw[Aa (by simpa using h2),Aa (by simpa using h2),ih]
theorem rF0 {k key:ByteArray} {f:Int->Int} {n:Int} {l:List Cnt} (h:key≠k):pS (rzA k f n l) key=pS l key:=by
 unfold rzA;split
 ·unfold pS
  rw[fJ0]
  cases hf:l.find? λc=>decide (c.k=key) with
  | none=>rfl
  | some d =>
   have hd:d.k=key:=by simpa using Ae hf
   rw[Ac,if_neg (λe=>h (by rw[<-e,hd]))]
 ·unfold pS
  rw[List.find?_append]
  cases hf:l.find? λc=>decide (c.k=key) with
  | some d=>rfl
  | none =>
   rw[Option.none_or,Aa (by simpa using Ne.symm h)];rfl
theorem fR0:∀(f n m:Nat),n<=m->Af f n<=Af f m/\Af f m<=f
 | 0,_,_,_=>⟨An _,An _⟩
 | f+1,n,m,h=>by
  obtain⟨h1,h2⟩:=fR0 f (n/2) (m/2) (Nat.div_le_div_right h);unfold Af;split<;>split<;>omega
theorem dU1 {n m:Nat} (h:n<=m):Ao n<=Ao m:=(fR0 64 n m h).1
theorem gN1 (n:Nat):Ao n<=64:=(fR0 64 n n (An _)).2
theorem vV0 {v u:Int} (h:v<=u):bonI v<=bonI u:=by
 have hr:=uC u;unfold bonI at *;by_cases h0:v<=0
 ·rw[if_pos h0];exact hr.1
 ·rw[if_neg h0,if_neg (by omega)]
  have:(v/65536).toNat<=(u/65536).toNat:=by omega
  have:=dU1 this
  omega
theorem wB0 {k:ByteArray} {f:Int->Int} {n:Int} {l:List Cnt} (hf:∀v,v<=f v):pS l k<=pS (rzA k f n l) k:=by
 unfold rzA
 cases hh:aY1 k l with
 | true =>
  rw[if_pos rfl];unfold pS;rw[fJ0]
  cases hq:l.find? λc=>decide (c.k=k) with
  | none=>exact Ap _
  | some d =>
   have hd:d.k=k:=by simpa using Ae hq
   rw[Ac,if_pos hd];exact vV0 (hf _)
 | false =>
  have:l.find? (λc=>decide (c.k=k))=none:=by
   rw[List.find?_eq_none];intro x hx
   have:=List.any_eq_false.1 hh x hx
   exact this
  have e:pS l k=0:=by
   unfold pS;rw[this]
  rw[e];exact(mQ _ _).1
section
variable {es:List En} {cs:List Cnt} {p v r s k:ByteArray} {f:Int->Int} {n:Int}
theorem qD (hk:kU k 1 r s) {kd:Int} {a b:ByteArray} (h:¬(kd=1/\a=r/\b=s)):bonK (rzA k f n cs) kd a b=bonK cs kd a b:=by
 unfold bonK;split
 ·rename_i ho
  refine rF0 λe=>h ?_
  have:=kU.inj (⟨ho,rfl⟩:kU (keyK kd a b) kd a b) (by rw[e];exact hk)
  exact⟨this.1,this.2.1,this.2.2⟩
 ·rfl
theorem kA0 (hk:kU k 1 r s) (hf:∀v,v<=f v):bonK cs 1 r s<=bonK (rzA k f n cs) 1 r s:=by
 rw[uX hk,uX hk];exact wB0 hf
theorem aW1 (hk:kU k 1 r s) (hf:∀v,v<=f v) (hw:uK es cs p v r s) (a b:ByteArray):uK es (rzA k f n cs) p v a b↔uK es cs p v a b:=by
 have h2:=qD (f:=f) (n:=n) (cs:=cs) hk (kd:=2) (a:=v) (b:=b) (λe=>by cases e.1);by_cases e:a=r/\b=s
 ·obtain⟨rfl,rfl⟩:=e
  have h1:=kA0 (n:=n) (cs:=cs) hk hf;refine⟨λ_=>hw,λ_=>⟨hw.beg,?_⟩⟩;rw[h2];rcases hw.why with h|⟨h,h'⟩|h
  ·exact Or.inl h
  ·exact Or.inr (Or.inl ⟨by omega,h'⟩)
  ·exact Or.inr (Or.inr h)
 ·have h1:=qD (f:=f) (n:=n) (cs:=cs) hk (kd:=1) (a:=a) (b:=b) (λh=>e h.2)
  constructor
  ·rintro⟨hb,h⟩
   rw[h1,h2]at h;exact⟨hb,h⟩
  ·rintro⟨hb,h⟩
   rw[<-h1,<-h2]at h;exact⟨hb,h⟩
theorem guessL_rises (hk:kU k 1 r s) (hf:∀v,v<=f v) {ar:Int} {i:Nat} {x:Gs} (hx:(fI es cs p v ar)[i]?=some x) (hr:x.r=r) (hs:x.s=s) :
  0<=qW (fI es (rzA k f n cs) p v ar) r s/\qW (fI es (rzA k f n cs) p v ar) r s<=i:=by
 obtain⟨h1,h2⟩:=bG1 hx;have hw:=(qE (List.mem_of_getElem? hx)).1;rw[hr,hs]at hw;have hG:=mW es cs p v;have hG':=(mW es (rzA k f n cs) p v).congr (aW1 hk hf hw);have hb:∀b,bonK (rzA k f n cs) 2 v b=bonK cs 2 v b:=λb=>qD hk λe=>by cases e.1
 obtain⟨j,y,hj,hy,e1,e2⟩:=hG.rises hG' (r:=r) (s:=s) (by
   unfold gsS;rw[hb]
   have:=kA0 (n:=n) (cs:=cs) hk hf
   omega) (λa b he=>by
   unfold gsS;rw[hb,qD hk λh=>he h.2]) h1 hr hs
 have hy':(fI es (rzA k f n cs) p v ar)[j]?=some y:=by
  unfold fI;rw[Aj,if_pos (by omega)];exact hy
 have:=yN0 (iQ0 _ _ _ _ _) hy'
 rw[e1,e2]at this;rw[this];omega
end
theorem guess_pairs {es:List En} {cs:List Cnt} {v:ByteArray} {ar:Int} {x:Gs} (h:x∈fI es cs ⟨#[]⟩ v ar):okK 2 v x.s=true/\∃c∈cs,c.k=keyK 2 v x.s/\0<bonI c.v:=by
 have hw:=(qE h).1
 have h2:0<bonK cs 2 v x.s:=by
  rcases hw.why with ⟨h,_⟩|⟨_,h|h⟩|⟨_,h⟩
  ·exact absurd rfl h
  ·exact absurd rfl h
  ·exact h
  ·exact h
 unfold bonK at h2;split at h2
 ·rename_i ho
  refine⟨ho,?_⟩;unfold pS at h2;split at h2
  ·rename_i c hc
   exact⟨c,List.mem_of_find?_eq_some hc,by simpa using Ae hc,h2⟩
  ·omega
 ·omega
theorem rA0 (k:Int) (a b:ByteArray):bonK [] k a b=0:=by
 unfold bonK;split<;>rfl
theorem guess_none {es:List En} {p v:ByteArray} {ar:Int} {x:Gs} (h:x∈fI es [] p v ar):p≠⟨#[]⟩/\∃y∈es,y.r=x.r/\y.s=x.s:=by
 have hw:=(qE h).1;rcases hw.why with ⟨h,y,hy,e⟩|⟨h,_⟩|⟨_,h⟩
 ·exact⟨h,y,(List.mem_filter.1 (Ad hy)).1,e⟩
 ·rw[rA0]at h;omega
 ·rw[rA0]at h;omega
theorem cost_sort (l:List En) (r s:ByteArray):kS0 (λx=>x∈l/\x.r=r/\x.s=s) (uS (sortS l) r s):=by
 have hs:=(dM l).2;rcases aB0 (sortS l) r s with ⟨⟨x,hx,hc⟩,h2⟩|⟨h1,h2⟩
 ·refine Or.inl ⟨⟨x,⟨((hs x).1 hx.1).1,hx.2⟩,hc⟩,λy hy=>?_⟩
  obtain⟨z,hz,h3,h4⟩:∃z∈sortS l,eB z y/\z.c<=y.c:=by
   rcases uM (l.filter λz=>decide (eB z y)) with ⟨_,h⟩|⟨n,_,⟨z,hz,hn⟩,h⟩
   ·have:y∈l.filter λz=>decide (eB z y):=List.mem_filter.2 ⟨hy.1,by simp[eB]⟩
    rw[h]at this;cases this
   ·obtain⟨zy,fw⟩:=List.mem_filter.1 hz
    have fw:=of_decide_eq_true fw;refine⟨z,(hs z).2 ⟨zy,λu hu hk=>?_⟩,fw,?_⟩
    ·rw[hn]
     refine h u (List.mem_filter.2 ⟨hu,decide_eq_true ?_⟩);exact⟨hk.1.trans fw.1,hk.2.1.trans fw.2.1,hk.2.2.1.trans fw.2.2.1,hk.2.2.2.trans fw.2.2.2⟩
    ·rw[hn]
     exact h y (List.mem_filter.2 ⟨hy.1,by simp[eB]⟩)
  have:=h2 z ⟨hz,h3.1.trans hy.2.1,h3.2.1.trans hy.2.2⟩
  omega
 ·refine Or.inr ⟨λx hx=>?_,h2⟩
  rcases uM (l.filter λz=>decide (eB z x)) with ⟨_,h⟩|⟨n,_,⟨z,hz,hn⟩,h⟩
  ·have:x∈l.filter λz=>decide (eB z x):=List.mem_filter.2 ⟨hx.1,by simp[eB]⟩
   rw[h]at this;cases this
  ·obtain⟨zy,fw⟩:=List.mem_filter.1 hz
   have fw:=of_decide_eq_true fw;refine h1 z ⟨(hs z).2 ⟨zy,λu hu hk=>?_⟩,fw.1.trans hx.2.1,fw.2.1.trans hx.2.2⟩;rw[hn];refine h u (List.mem_filter.2 ⟨hu,decide_eq_true ?_⟩);exact⟨hk.1.trans fw.1,hk.2.1.trans fw.2.1,hk.2.2.1.trans fw.2.2.1,hk.2.2.2.trans fw.2.2.2⟩
theorem guess_score {es:List En} {cs:List Cnt} {p v:ByteArray} {ar:Int} {x:Gs} (h:x∈fI es cs p v ar) : -(uS es x.r x.s/10)<=x.c/\x.c<=6000-uS es x.r x.s/10:=by
 rw[(qE h).2];unfold gsS;have h1:=mB cs 1 x.r x.s;have h2:=mB cs 2 v x.s;omega
end
end Go.Proofs.YtjhajgffmnkocaaGreatDoor
