/- The texts KeyK, one behind the other. -/
import Derived.Test.YtjhajgffmnkocaaGreatDoorPq19
import Derived.WalkKit
import Derived.Lib.BitFns
import Derived.Lib.ValidLaws
import Derived.Lib.ValidU
open Bool renaming and_eq_true → Aa,or_eq_true → Ac
open UInt8 renaming ofNat → Ab
open List renaming tail_cons → Ad,drop_one → Ae
open Go.Lib renaming validD → Af
namespace Go.Proofs.YtjhajgffmnkocaaGreatDoor
open Go Go.RowKit
def partK (s:ByteArray):Bool := !(bl s).isEmpty&&Af (bl s)&&(bl s).all λc=>c != 0
def keyK (k:Int) (a b:ByteArray):ByteArray:=mkB (Ab (48+k.toNat)::(bl a++0::bl b))
def okK (k:Int) (a b:ByteArray):Bool:=(decide (k=1)||decide (k=2))&&partK a&&partK b&&decide (a.size+b.size<=398)
def kU (key:ByteArray) (k:Int) (a b:ByteArray):Prop:=okK k a b=true/\key=keyK k a b
def noK:Int×ByteArray×ByteArray:=(0,⟨#[]⟩,⟨#[]⟩)
def bM0 (l:List UInt8):ByteArray×ByteArray:=(mkB (l.takeWhile λc=>c != 0),mkB ((l.dropWhile λc=>c != 0).drop 1))
def dR (key:ByteArray):Int×ByteArray×ByteArray :=
 match bl key with
 | []=>noK
 | c::l=>if okK ((c.toNat:Int)-48) (bM0 l).1 (bM0 l).2 then ((c.toNat:Int)-48,(bM0 l).1,(bM0 l).2) else noK
theorem tB {k:Int} {a b:ByteArray} (h:okK k a b=true):k=1\/k=2:=by
 unfold okK at h;simp only[Aa,Ac,decide_eq_true_eq]at h;exact h.1.1.1
theorem mT {k:Int} {a b:ByteArray} (h:okK k a b=true):partK a=true/\partK b=true/\a.size+b.size<=398:=by
 unfold okK at h;simp only[Aa,Ac,decide_eq_true_eq]at h;exact⟨h.1.1.2,h.1.2,h.2⟩
theorem gA0 {s:ByteArray} (h:partK s=true):bl s≠[]/\Af (bl s)=true/\∀c∈bl s,c≠0:=by
 unfold partK at h;simp only[Aa,Bool.not_eq_true',List.isEmpty_eq_false_iff,List.all_eq_true,bne_iff_ne,ne_eq]at h;exact⟨h.1.1,h.1.2,h.2⟩
theorem xF:∀(a b:List UInt8),(∀c∈a,c≠0)->(a++0::b).takeWhile (λc=>c != 0)=a/\(a++0::b).dropWhile (λc=>c != 0)=0::b
 | [],b,_=>⟨rfl,rfl⟩
 | x::a,b,h=>by
  have hx:(x != 0)=true:=by simpa using h x (by simp)
  obtain⟨h1,h2⟩:=xF a b λc hc=>h c (by simp[hc]);rw[List.cons_append,List.takeWhile_cons,List.dropWhile_cons,if_pos hx,if_pos hx,h1,h2];exact⟨rfl,rfl⟩
theorem kP1 {a b:ByteArray} (h:∀c∈bl a,c≠0):bM0 (bl a++0::bl b)=(a,b):=by
 obtain⟨h1,h2⟩:=xF (bl a) (bl b) h;unfold bM0;rw[h1,h2,Ae,Ad];exact Prod.ext (lI a) (lI b)
theorem mR0 (k:Int) (a b:ByteArray):bl (keyK k a b)=Ab (48+k.toNat)::(bl a++0::bl b):=rfl
theorem mF {key:ByteArray} {k:Int} {a b:ByteArray} (h:kU key k a b):dR key=(k,a,b):=by
 obtain⟨h1,rfl⟩:=h;have hp:=(gA0 (mT h1).1).2.2
 have hc:((Ab (48+k.toNat)).toNat:Int)-48=k:=by
  rcases tB h1 with rfl|rfl<;>rfl
 unfold dR;rw[mR0];simp only;rw[kP1 hp,hc,if_pos h1]
theorem fO1 {l:List UInt8} (h:bl (bM0 l).2≠[]):l=bl (bM0 l).1++0::bl (bM0 l).2:=by
 show l=(l.takeWhile λc=>c != 0)++0::((l.dropWhile λc=>c != 0).drop 1)
 replace h:((l.dropWhile λc=>c != 0).drop 1)≠[]:=h;have e:=List.takeWhile_append_dropWhile (p:=λc:UInt8=>c != 0) (l:=l)
 cases hd:l.dropWhile λc=>c != 0 with
 | nil=>rw[hd]at h;simp at h
 | cons z r =>
  have hz:z=0:=by
   have:=List.head_dropWhile_not (p:=λc:UInt8=>c != 0) (l:=l) (by rw[hd];simp)
   simp only[hd,List.head_cons]at this;simpa using this
  subst hz;rw[hd]at e;rw[Ae,Ad];exact e.symm
theorem yD0 {key:ByteArray} (h:(dR key).1≠0):kU key (dR key).1 (dR key).2.1 (dR key).2.2:=by
 unfold dR at *
 cases hb:bl key with
 | nil=>rw[hb]at h;exact absurd rfl h
 | cons c l =>
  rw[hb]at h;simp only at h ⊢;by_cases ho:okK ((c.toNat:Int)-48) (bM0 l).1 (bM0 l).2=true
  ·rw[if_pos ho]
   refine⟨ho,qY ?_⟩;rw[hb,mR0]
   have hc:Ab (48+((c.toNat:Int)-48).toNat)=c:=by
    have:48+((c.toNat:Int)-48).toNat=c.toNat:=by rcases tB ho with e|e<;>omega
    rw[this];simp
   rw[hc,<-fO1 (gA0 (mT ho).2.1).1]
  ·rw[if_neg ho]at h
   exact absurd rfl h
theorem mL {key:ByteArray} {k:Int} {a b:ByteArray}:kU key k a b↔dR key=(k,a,b)/\k≠0:=by
 constructor
 ·intro h
  refine⟨mF h,?_⟩;rcases tB h.1 with rfl|rfl<;>decide
 ·rintro⟨h,h0⟩
  have:=yD0 (key:=key) (by rw[h];exact h0)
  rw[h]at this;exact this
theorem kU.inj {key:ByteArray} {k k':Int} {a b a' b':ByteArray} (h:kU key k a b) (h':kU key k' a' b'):k=k'/\a=a'/\b=b':=by
 have:=(mF h).symm.trans (mF h')
 simpa using this
theorem parseK_no {key:ByteArray} (h:(dR key).1=0):dR key=noK:=by
 unfold dR at *
 cases hb:bl key with
 | nil=>rfl
 | cons c l =>
  rw[hb]at h;simp only at h ⊢;split
  ·rename_i ho
   rw[if_pos ho]at h;rcases tB ho with e|e
   ·rw[e]at h;cases h
   ·rw[e]at h;cases h
  ·rfl
def bonI (v:Int):Int:=if v<=0 then 0 else min 3000 (500+250*(Lib.bitLen (v/65536).toNat:Int))
structure Cnt where
 k:ByteArray
 v:Int
def kC (x:Cnt):List Value:=[.string x.k,.int .i64 x.v]
def pS (cs:List Cnt) (k:ByteArray):Int :=
 match cs.find? λc=>decide (c.k=k) with
 | some c=>bonI c.v
 | none=>0
def bonK (cs:List Cnt) (k:Int) (a b:ByteArray):Int:=if okK k a b then pS cs (keyK k a b) else 0
theorem uC (v:Int):0<=bonI v/\bonI v<=3000:=by
 unfold bonI;split
 ·omega
 ·omega
theorem mQ (cs:List Cnt) (k:ByteArray):0<=pS cs k/\pS cs k<=3000:=by
 unfold pS;split
 ·exact uC _
 ·omega
theorem mB (cs:List Cnt) (k:Int) (a b:ByteArray):0<=bonK cs k a b/\bonK cs k a b<=3000:=by
 unfold bonK;split
 ·exact mQ _ _
 ·omega
theorem uX {cs:List Cnt} {key:ByteArray} {k:Int} {a b:ByteArray} (h:kU key k a b):bonK cs k a b=pS cs key:=by
 unfold bonK;rw[if_pos h.1,h.2]
theorem pD0 {cs:List Cnt} {k:ByteArray} (h:0<pS cs k):∃c∈cs,c.k=k:=by
 unfold pS at h;split at h
 ·rename_i c hc
  exact⟨c,List.mem_of_find?_eq_some hc,by simpa using List.find?_some hc⟩
 ·omega
theorem yA {cs:List Cnt} {k:Int} {a b:ByteArray} (h:0<bonK cs k a b):∃c∈cs,kU c.k k a b:=by
 unfold bonK at h;split at h
 ·rename_i ho
  obtain⟨c,hc,e⟩:=pD0 h;exact⟨c,hc,ho,e⟩
 ·omega
end Go.Proofs.YtjhajgffmnkocaaGreatDoor
