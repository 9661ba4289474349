/- The texts Cmp EnD OrderP LoudP LoudQ LoudR LoudT StabP Pos KeyP, one behind the other. -/
import Derived.Test.YtheiocndipepaaaGreatDoorProg
import Derived.Test.YtheiocndipepaaaGreatDoorKq2
import Derived.WalkKit
import Derived.WalkLawsBesides
import Derived.Lib.Hide
import Derived.Test.YtheiocndipepaaaGreatDoorKq1
import Derived.DeepKeys4
import Derived.Maps.RangeWalk
open Go.Op renaming bytesLess → Aa
open Nat renaming lt_or_ge → Ab,le_refl → Ac,succ_pos → At,zero_le → Av,eq_zero_or_pos → Bc,le_trans → Bf
open Bool renaming and_eq_true → Ad,or_eq_true → Ah,true_and → Bl
open List renaming getElem?_eq_getElem → Ae,flatMap_cons → Af,filter_append → Ag,mem_of_getElem? → Ai,flatMap_append → Aj,range' → Ak,length_append → Al,take_add_one → Am,filter_eq_nil_iff → Ap,range → Aq,range'_append_1 → Ar,map_append → As,getElem?_append_right → Au,mem_range'_1 → Aw,flatMap_map → Ax,range_succ_eq_map → Ay,range_succ → Az,append_nil → Ba,map_congr_left → Bb,range'_concat → Bd,length_take → Bg,flatMap_nil → Bh,cons_append → Bi,replicate → Bk
open Classical renaming byContradiction → An
open Go.Lib renaming hid → Ao
open Option renaming toList_some → Be
open ByteArray renaming empty → Bj
set_option maxHeartbeats 1000000
namespace Go.Proofs.YtheiocndipepaaaGreatDoor
set_option maxRecDepth 100000
section
open Go Go.RowKit
def orI:List Int->Int
 | []=>0
 | z::l=>if z=0 then orI l else z
theorem iC0:∀(zs:List Int) (k:Nat),(∀j,j<k->zs[j]?.getD 0=0)->orI zs=orI (zs.drop k)
 | [],k,_=>by simp
 | z::l,0,_=>by simp
 | z::l,k+1,h=>by
  have h0:z=0:=by simpa using h 0 (by omega)
  simp only[orI,h0,if_true,List.drop_succ_cons];exact iC0 l k λj hj=>by simpa using h (j+1) (by omega)
theorem lX1 {zs:List Int} {k:Nat} (hk:k<zs.length) (h:∀j,j<k->zs[j]?.getD 0=0) (hz:zs[k]?.getD 0≠0):orI zs=zs[k]?.getD 0:=by
 rw[iC0 zs k h,List.drop_eq_getElem_cons hk,orI];simp[hk]at hz ⊢;simp[hz]
theorem eW1 {zs:List Int} (h:∀j,j<zs.length->zs[j]?.getD 0=0):orI zs=0:=by
 rw[iC0 zs _ h];simp[orI]
theorem zE0 (zs:List Int) (b off cap:Nat) (w:World) (hl:zs.length<=4611686018427387904) (hc:∀k,k<zs.length->w.cell? ⟨b,off+k,none⟩=some (.int .i64 (zs[k]?.getD 0))) :
  Calls Tryz.prog 121 #[.slice (some ⟨b,off,none⟩) zs.length cap] w λe w'=>e=.returned (.int .i64 (orI zs))/\w=w':=by
 have HC:=Ao hc;clear hc;go_enter Tryz.func121,Tryz.ntmps121
 go_wp2
 go_loop [8] (λi=>∃k:Nat,k<=zs.length/\i=.int .i64 k/\Hid (∀j,j<k->zs[j]?.getD 0=0)) (λi=>zs.length-(intOf i).toNat)
 case atStart=>exact⟨0,Av _,rfl,λj hj=>by omega⟩
 case round =>
  obtain⟨k,hk,rfl,hz⟩:=hrel;by_cases ae:k<zs.length
  ·have jp:=HC.out k ae
   obtain⟨z,hze⟩:=exq (zs[k]?.getD 0);rw[<-hze]at jp;have HE:=Ao hze;clear hze;by_cases h0:z=0
   ·have h0':(z != 0)=false:=by simp[h0]
    have H0:=Ao h0;clear h0;go_wp2
    go_round
    case rel=>exact⟨k+1,by omega,by go_num,λj hj=>by
     rcases Nat.lt_succ_iff_lt_or_eq.1 hj with h|rfl
     ·exact hz.out j h
     ·rw[<-HE.out];exact H0.out⟩
    case measure=>simp[intOf];omega
   ·have h0':(z != 0)=true:=by simpa using h0
    have au:=Ao ((lX1 ae hz.out (by rw[<-HE.out];exact h0)).trans HE.out.symm);clear h0;go_wp2
    go_ret;exact⟨by rw[au.out];rfl,rfl⟩
  ·obtain rfl:k=zs.length:=by omega
   have au:=Ao (eW1 hz.out);go_wp2
   go_ret;exact⟨by rw[au.out];rfl,rfl⟩
def cmpI (x y:Int):Int:=if x<y then -1 else if y<x then 1 else 0
def cmpS (a b:ByteArray):Int:=if Aa a.toList b.toList then -1 else if !Aa a.toList b.toList && !(a.toList==b.toList) then 1 else 0
theorem pL (x y:Int) (w:World) :
  Calls Tryz.prog 123 #[.int .i64 x,.int .i64 y] w λe w'=>e=.returned (.int .i64 (cmpI x y))/\w=w':=by
 go_enter Tryz.func123,Tryz.ntmps123
 go_wp2
 all_goals (go_ret;refine⟨aF0 ?_,rfl⟩;unfold cmpI;(repeat' split)<;>first|rfl|(exfalso;omega))
theorem yL (x y:ByteArray) (w:World) :
  Calls Tryz.prog 122 #[.string x,.string y] w λe w'=>e=.returned (.int .i64 (cmpS x y))/\w=w':=by
 go_enter Tryz.func122,Tryz.ntmps122
 go_wp2
 all_goals (go_ret;exact⟨aF0 (by simp[cmpS, *]),rfl⟩)
structure En where
 r:ByteArray
 s:ByteArray
 l:Int
 t:Int
 c:Int
def aQ (x:En):List Value:=[.string x.r,.string x.s,.int .i64 x.l,.int .i64 x.t,.int .i64 x.c]
def enZero:En:=⟨Bj,Bj,0,0,0⟩
theorem lW (x:En):(aQ x).length=5:=rfl
def En.agg (x:En):Value := .agg #[.string x.r,.string x.s,.int .i64 x.l,.int .i64 x.t,.int .i64 x.c]
def pI (x y:En):Int:=orI [cmpS x.r y.r,cmpI x.c y.c,cmpS x.s y.s,cmpI x.l y.l,cmpI x.t y.t]
def lessS (x y:En):Bool:=decide (pI x y<0)
instance:DecidableEq En:=λx y=>decidable_of_iff (x.r=y.r/\x.s=y.s/\x.l=y.l/\x.t=y.t/\x.c=y.c) (by cases x; cases y; simp)
theorem dV {x y:ByteArray} (h:x.toList=y.toList):x=y:=cX0.1 (by unfold seq; rw[h]; simp)
structure rZ (x:En):Prop where
 r:x.r.size<=maxLen
 s:x.s.size<=maxLen
 l:(Lit.int .i64 x.l).wf=true
 t:(Lit.int .i64 x.t).wf=true
 c:(Lit.int .i64 x.c).wf=true
theorem aN0 (x:En):∀u∈aQ x,u.oneCell'=true:=by
 intro u hu;simp[aQ]at hu;rcases hu with rfl|rfl|rfl|rfl|rfl<;>rfl
theorem bytesLess_irrefl:∀l:List UInt8,Aa l l=false
 | []=>rfl
 | x::l=>by simp[Aa,bytesLess_irrefl l]
theorem gJ:∀ {a b c:List UInt8},Aa a b=true->Aa b c=true->Aa a c=true
 | [],_,[],_,h=>by cases ‹List UInt8› <;> simp[Aa]at h
 | [],_,_::_,_,_=>rfl
 | _::_,[],_,h,_=>by simp[Aa]at h
 | _::_,_::_,[],_,h=>by simp[Aa]at h
 | x::a,y::b,z::c,h1,h2=>by
  simp only[Aa,Ah,Ad,decide_eq_true_eq,beq_iff_eq]at h1 h2 ⊢;rcases h1 with h1|⟨rfl,h1⟩<;>rcases h2 with h2|⟨rfl,h2⟩
  ·exact Or.inl (Nat.lt_trans h1 h2)
  ·exact Or.inl h1
  ·exact Or.inl h2
  ·exact Or.inr ⟨rfl,gJ h1 h2⟩
theorem dM:∀ {a b:List UInt8},Aa a b=false->a≠b->Aa b a=true
 | [],[],_,h=>absurd rfl h
 | [],_::_,h,_=>by simp[Aa]at h
 | _::_,[],_,_=>rfl
 | x::a,y::b,h1,h2=>by
  simp only[Aa,Bool.or_eq_false_iff,Bool.and_eq_false_iff,decide_eq_false_iff_not,beq_eq_false_iff_ne,Ah,Ad,decide_eq_true_eq,beq_iff_eq]at h1 ⊢;obtain⟨h1,h3⟩:=h1;by_cases p8:y<x
  ·exact Or.inl p8
  ·have h4:x.toNat=y.toNat:=by
    have h5:¬x.toNat<y.toNat:=h1;have h6:¬y.toNat<x.toNat:=p8;omega
   obtain rfl:x=y:=UInt8.toNat_inj.1 h4;rcases h3 with h3|h3
   ·exact absurd rfl h3
   ·exact Or.inr ⟨rfl,dM h3 (λh=>h2 (by rw[h]))⟩
structure lC1 {α:Type} (f:α->α->Int):Prop where
 zero:∀x y,f x y=0↔x=y
 trans:∀x y z,f x y<0->f y z<0->f x z<0
 flip:∀x y,f x y<0↔0<f y x
theorem hQ0:lC1 cmpI where
 zero x y:=by unfold cmpI;split<;>(try split)<;>omega
 trans x y z:=by unfold cmpI;intro h1 h2;split at h1<;>split at h2<;>(try split at h1)<;>(try split at h2)<;>(split<;>omega)
 flip x y:=by unfold cmpI;split<;>(try split)<;>(try split)<;>omega
theorem xN (a b:ByteArray):cmpS a b=if Aa a.toList b.toList then -1 else if a=b then 0 else 1:=by
 unfold cmpS;by_cases h1:Aa a.toList b.toList=true
 ·rw[if_pos h1,if_pos h1]
 ·rw[if_neg h1,if_neg h1]
  by_cases h2:a=b
  ·simp[h2]
  ·have h3:(a.toList==b.toList)=false:=by
    rw[beq_eq_false_iff_ne];exact λh=>h2 (dV h)
   simp[h1,h2,h3]
theorem lO {a b:List UInt8} (h:Aa a b=true):¬Aa b a=true:=λh2=>by
 have:=gJ h h2
 rw[bytesLess_irrefl]at this;cases this
theorem oY0:lC1 cmpS where
 zero x y:=by
  rw[xN];split
  ·rename_i h
   refine⟨λh=>by omega,λe=>?_⟩;rw[e,bytesLess_irrefl]at h;cases h
  ·split
   ·rename_i h;simp[h]
   ·rename_i h;simp[h]
 trans x y z:=by
  rw[xN,xN,xN];intro h1 h2
  have g1:Aa x.toList y.toList=true:=by
   by_cases h:Aa x.toList y.toList=true
   ·exact h
   ·rw[if_neg h]at h1;split at h1<;>omega
  have g2:Aa y.toList z.toList=true:=by
   by_cases h:Aa y.toList z.toList=true
   ·exact h
   ·rw[if_neg h]at h2;split at h2<;>omega
  rw[if_pos (gJ g1 g2)];omega
 flip x y:=by
  rw[xN,xN];by_cases h:Aa x.toList y.toList=true
  ·have h2:=lO h
   have h3:¬y=x:=λe=>by rw[e,bytesLess_irrefl]at h;cases h
   rw[if_pos h,if_neg h2,if_neg h3];omega
  ·rw[if_neg h]
   by_cases e:x=y
   ·subst e;rw[if_pos rfl,if_neg h]
   ·have h2:=dM (by simpa using h) (λh=>e (dV h))
    rw[if_neg e,if_pos h2];omega
def eZ1 {α β:Type} (f:α->α->Int) (g:β->β->Int) (x y:α×β):Int:=if f x.1 y.1=0 then g x.2 y.2 else f x.1 y.1
theorem lC1.refl {α:Type} {f:α->α->Int} (h:lC1 f) (x:α):f x x=0:=(h.zero x x).2 rfl
theorem jY {α β:Type} {f:α->α->Int} {g:β->β->Int} (hf:lC1 f) (hg:lC1 g):lC1 (eZ1 f g) where
 zero x y:=by
  unfold eZ1;by_cases h:f x.1 y.1=0
  ·rw[if_pos h,hg.zero]
   have:=(hf.zero _ _).1 h
   constructor
   ·intro h2;exact Prod.ext this h2
   ·intro h2;rw[h2]
  ·rw[if_neg h]
   exact⟨λh2=>absurd h2 h,λh2=>absurd (by rw[h2];exact hf.refl _) h⟩
 trans x y z:=by
  unfold eZ1;intro h1 h2;by_cases e1:f x.1 y.1=0
  ·rw[if_pos e1]at h1
   have e:=(hf.zero _ _).1 e1;rw[e];by_cases e2:f y.1 z.1=0
   ·rw[if_pos e2]at h2 ⊢;exact hg.trans _ _ _ h1 h2
   ·rw[if_neg e2]at h2 ⊢;exact h2
  ·rw[if_neg e1]at h1
   by_cases e2:f y.1 z.1=0
   ·have e:=(hf.zero _ _).1 e2
    rw[<-e,if_neg e1];exact h1
   ·rw[if_neg e2]at h2
    have h3:=hf.trans _ _ _ h1 h2;rw[if_neg (by omega)];exact h3
 flip x y:=by
  unfold eZ1;have hz:f x.1 y.1=0↔f y.1 x.1=0:=by rw[hf.zero,hf.zero];exact eq_comm
  by_cases e1:f x.1 y.1=0
  ·rw[if_pos e1,if_pos (hz.1 e1)];exact hg.flip _ _
  ·rw[if_neg e1,if_neg (λh=>e1 (hz.2 h))];exact hf.flip _ _
def gS1 (x:En):ByteArray×Int×ByteArray×Int×Int:=(x.r,x.c,x.s,x.l,x.t)
theorem nJ (x y:En):pI x y=eZ1 cmpS (eZ1 cmpI (eZ1 cmpS (eZ1 cmpI cmpI))) (gS1 x) (gS1 y):=by
 have hl:∀z:Int,orI [z]=z:=λz=>by unfold orI;split<;>simp_all [orI]
 unfold pI eZ1 gS1;simp only[orI];repeat' split
 all_goals simp_all
theorem lA0:lC1 pI where
 zero x y:=by
  rw[nJ,(jY oY0 (jY hQ0 (jY oY0 (jY hQ0 hQ0)))).zero];constructor
  ·intro h
   obtain⟨xr,xs,xl,xt,xc⟩:=x;obtain⟨yr,ys,yl,yt,yc⟩:=y;simp only[gS1,Prod.mk.injEq]at h;obtain⟨rfl,rfl,rfl,rfl,rfl⟩:=h;rfl
  ·intro h;rw[h]
 trans x y z:=by rw[nJ,nJ,nJ];exact(jY oY0 (jY hQ0 (jY oY0 (jY hQ0 hQ0)))).trans _ _ _
 flip x y:=by rw[nJ,nJ];exact(jY oY0 (jY hQ0 (jY oY0 (jY hQ0 hQ0)))).flip _ _
theorem lQ {x y z:En} (h1:lessS x y=true) (h2:lessS y z=true):lessS x z=true:=by
 unfold lessS at *;simp only[decide_eq_true_eq] at *;exact lA0.trans _ _ _ h1 h2
theorem fF (x:En):lessS x x=false:=by
 unfold lessS;rw[lA0.refl];simp
theorem uO {x y:En} (h:x≠y):lessS y x = !lessS x y:=by
 unfold lessS;have h1:=lA0.flip x y;have h2:pI x y≠0:=λh0=>h ((lA0.zero _ _).1 h0);have h3:=lA0.flip y x;by_cases h4:pI x y<0
 ·have h5:¬pI y x<0:=by have:=h1.1 h4;omega
  simp[h4,h5]
 ·have h5:pI y x<0:=h3.2 (by omega)
  simp[h4,h5]
end
section
open Go
def nG:List UInt8->List UInt8->Nat
 | a::x,b::y=>if a=b then nG x y+1 else 0
 | _,_=>0
theorem sU0 (b:List UInt8):nG [] b=0:=by cases b<;>rfl
theorem dH1 (a:List UInt8):nG a []=0:=by cases a<;>rfl
theorem bQ0:∀(a b:List UInt8),nG a b<=a.length/\nG a b<=b.length
 | [],b=>by grind [nG]
 | a::x,[]=>by grind [nG]
 | a::x,b::y=>by
  have:=bQ0 x y
  grind [nG]
theorem dH0:∀(a:List UInt8),nG a a=a.length
 | []=>rfl
 | a::x=>by unfold nG;rw[if_pos rfl,dH0 x];rfl
theorem jK:∀(e:Nat) (a b:List UInt8),e<=nG a b↔e<=a.length/\e<=b.length/\a.take e=b.take e
 | 0,a,b=>by simp
 | e+1,[],b=>by rw[sU0];simp
 | e+1,a::x,[]=>by rw[dH1];simp
 | e+1,a::x,b::y=>by
  unfold nG;by_cases h:a=b
  ·subst h
   rw[if_pos rfl]
   have:=jK e x y
   simp_all
  simp_all
theorem bP0 {e:Nat} {a b:List UInt8} (h:e<=nG a b) (ha:e<a.length) (hb:e<b.length):e+1<=nG a b↔a[e]?=b[e]?:=by
 grind [jK,Am,List.append_cancel_left]
theorem qL:∀(e:Nat) {a b c:List UInt8},Aa a b=true->Aa b c=true->e<=nG a c->e<=nG a b/\e<=nG b c
 | 0,_,_,_,_,_,_=>by omega
 | e+1,[],_,c,_,_,h=>by grind [nG]
 | e+1,_::_,_,[],_,_,h=>by grind [nG]
 | e+1,_::_,[],_::_,h,_,_=>by simp[Aa]at h
 | e+1,x::a,y::b,z::c,h1,h2,h=>by
  unfold nG at h;split at h
  case isFalse=>omega
  rename_i hxz
  subst hxz;simp only[Aa,Ah,Ad,decide_eq_true_eq,beq_iff_eq]at h1 h2
  have p8:x=y:=by
   rcases h1 with h1|h1
   ·grind
   ·exact h1.1
  subst p8;have ae:¬x<x:=by simp_all
  have k1:Aa a b=true:=by
   rcases h1 with h1|h1
   ·exact absurd h1 ae
   ·exact h1.2
  have k2:Aa b c=true:=by
   rcases h2 with h2|h2
   ·exact absurd h2 ae
   ·exact h2.2
  have:=qL e k1 k2 (by omega)
  grind [nG]
theorem tN0 {e:Nat} {a b c:List UInt8} (h1:e<=nG a b) (h2:e<=nG b c):e<=nG a c:=by
 rw[jK] at *;simp_all
theorem aB0:∀(a b:List UInt8),nG a b=nG b a
 | [],b=>by grind [nG]
 | a::x,[]=>by grind [nG]
 | a::x,b::y=>by
  unfold nG;by_cases h:a=b
  ·rw[if_pos h,if_pos h.symm,aB0 x y]
  grind
theorem pV:∀ {a b:List UInt8},Aa a b=true->nG a b<b.length
 | [],[],h=>by simp[Aa]at h
 | [],_::_,_=>by rw[sU0];simp
 | _::_,[],h=>by simp[Aa]at h
 | x::a,y::b,h=>by
  simp only[Aa,Ah,Ad,decide_eq_true_eq,beq_iff_eq]at h;unfold nG;split
  ·rename_i p8
   subst p8;have ae:¬x<x:=by simp_all
   rcases h with h|h
   ·exact absurd h ae
   ·have:=pV h.2
    simp_all
  ·simp
def nth (L:List (List UInt8)) (j:Nat):List UInt8:=L.getD j []
theorem xV {L:List (List UInt8)} {j:Nat} {x:List UInt8} (h:L[j]?=some x):nth L j=x:=by
 grind [nth]
theorem iZ {L:List (List UInt8)} {j:Nat} (h:j<L.length):L[j]?=some (nth L j):=by
 grind [nth]
def cAt (L:List (List UInt8)) (j:Nat):Nat:=nG (nth L (j-1)) (nth L j)
def Asc (L:List (List UInt8)):Prop:=∀j,j+1<L.length->Aa (nth L j) (nth L (j+1))=true
theorem Asc.lt {L:List (List UInt8)} (h:Asc L):∀(j i:Nat),i<j->j<L.length->Aa (nth L i) (nth L j)=true
 | 0,i,hi,_=>by omega
 | j+1,i,hi,hj=>by
  rcases Ab i j with h1|h1
  ·exact gJ (h.lt j i h1 (by omega)) (h j hj)
  ·rw[show i=j by omega];exact h j hj
theorem Asc.all {L:List (List UInt8)} (h:Asc L) {e i j m:Nat} (hj:j<L.length) (oc:i<m) (uw:m<=j) (he:e<=nG (nth L i) (nth L j)):e<=cAt L m:=by
 have h1:e<=nG (nth L (m-1)) (nth L j):=by
  rcases Ab i (m-1) with h1|h1
  ·exact(qL e (h.lt _ _ h1 (by omega)) (h.lt _ _ (by omega) hj) he).2
  ·grind
 unfold cAt;rcases Ab m j with h2|h2
 ·exact(qL e (h.lt _ _ (by omega) (by omega)) (h.lt _ _ h2 hj) h1).1
 grind
theorem rJ {L:List (List UInt8)} {e i:Nat} (hi:e<=(nth L i).length):∀(j:Nat),i<=j->(∀m,i<m->m<=j->e<=cAt L m)->e<=nG (nth L i) (nth L j)
 | 0,hj,_=>by
  grind [dH0]
 | j+1,hj,h=>by
  rcases Ab i (j+1) with h1|h1
  ·exact tN0 (rJ hi j (by omega) (by grind)) (h (j+1) h1 (Ac _))
  grind [dH0]
def eV1 (p:Nat->Bool) (t:Nat):Nat->Nat->Nat
 | 0,k=>k
 | f+1,k=>if k<t/\p k=true then eV1 p t f (k+1) else k
def uG (p:Nat->Bool) (t k:Nat):Nat:=eV1 p t (t-k) k
theorem xS {p:Nat->Bool} {t k:Nat} (h:k<t) (hp:p k=true):uG p t k=uG p t (k+1):=by
 unfold uG;rw[show t-k=(t-(k+1))+1 by omega,eV1,if_pos ⟨h,hp⟩]
theorem lD {p:Nat->Bool} {t k:Nat} (h:¬(k<t/\p k=true)):uG p t k=k:=by
 unfold uG
 cases hf:t-k with
 | zero=>rfl
 | succ f=>rw[eV1,if_neg h]
theorem vT (p:Nat->Bool) (t:Nat):∀(f k:Nat),t-k=f->k<=t->k<=uG p t k/\uG p t k<=t/\(∀j,k<=j->j<uG p t k->p j=true)/\(uG p t k<t->p (uG p t k)=false)
 | 0,k,hf,hk=>by
  rw[lD (by omega)];grind
 | f+1,k,hf,hk=>by
  by_cases h:k<t/\p k=true
  ·rw[xS h.1 h.2]
   obtain⟨a,b,c,d⟩:=vT p t f (k+1) (by omega) (by omega);grind
  ·rw[lD h]
   grind
structure dK where
 i:Nat
 t:Nat
 d:Nat
def kH (L:List (List UInt8)) (d i k:Nat):Bool:=(nth L k)[d]?==(nth L i)[d]?
def eB (L:List (List UInt8)) (d t i:Nat):Nat:=uG (kH L d i) t (i+1)
def pC (L:List (List UInt8)) (d t:Nat):Nat->Nat->List dK
 | 0,_=>[]
 | f+1,i=>if i<t then ⟨i,eB L d t i,d+1⟩::pC L d t f (eB L d t i) else []
theorem uI (L:List (List UInt8)) {d t i:Nat} (h:i<t):i<eB L d t i/\eB L d t i<=t:=by
 have:=vT (kH L d i) t _ (i+1) rfl h
 grind [eB]
theorem bX0 (L:List (List UInt8)) (d t:Nat):∀(f g i:Nat),t-i<=f->t-i<=g->pC L d t f i=pC L d t g i
 | 0,0,_,_,_=>rfl
 | 0,g+1,i,hf,_=>by grind [pC]
 | f+1,0,i,_,hg=>by grind [pC]
 | f+1,g+1,i,hf,hg=>by
  rw[pC,pC];split
  ·rename_i h
   have:=uI L (d:=d) h
   rw[bX0 L d t f g _ (by omega) (by omega)]
  ·rfl
def fI (L:List (List UInt8)) (d t i:Nat):List dK:=pC L d t (t-i) i
theorem eN {L:List (List UInt8)} {d t i:Nat} (h:i<t):fI L d t i=⟨i,eB L d t i,d+1⟩::fI L d t (eB L d t i):=by
 have:=uI L (d:=d) h
 unfold fI;rw[show t-i=(t-i-1)+1 by omega,pC,if_pos h,bX0 L d t (t-i-1) (t-eB L d t i) _ (by omega) (by omega)]
theorem gI {L:List (List UInt8)} {d t i:Nat} (h:¬i<t):fI L d t i=[]:=by
 unfold fI;rw[show t-i=0 by omega];rfl
def iP (L:List (List UInt8)) (x:dK):Bool:=decide (x.i<x.t)&&(nth L x.i).length==x.d
def cJ (L:List (List UInt8)) (x:dK):Nat:=if iP L x then x.i+1 else x.i
def fQ (L:List (List UInt8)) (x:dK):List dK:=fI L x.d x.t (cJ L x)
structure tE (L:List (List UInt8)) (x:dK):Prop where
 le:x.i<=x.t/\x.t<=L.length
 ne:x.i<x.t\/x.d=0
 len:∀j,x.i<=j->j<x.t->x.d<=(nth L j).length
 inn:∀j,x.i<j->j<x.t->x.d<=cAt L j
 lo:x.i=0\/cAt L x.i<x.d
 hi:x.t=L.length\/cAt L x.t<x.d
def rootS (L:List (List UInt8)):dK:=⟨0,L.length,0⟩
theorem mO0 (L:List (List UInt8)):tE L (rootS L):=⟨⟨Av _,Ac _⟩,Or.inr rfl,λ_ _ _=>Av _,λ_ _ _=>Av _,Or.inl rfl,Or.inl rfl⟩
theorem tE.long {L:List (List UInt8)} (hL:Asc L) {x:dK} (g:tE L x) {j:Nat} (h1:x.i<j) (h2:j<x.t):x.d<(nth L j).length:=by
 have hc:=g.inn j h1 h2;have hl:=pV (hL.lt j (j-1) (by omega) (by have:=g.le;omega));unfold cAt at hc;omega
theorem tE.start {L:List (List UInt8)} (hL:Asc L) {x:dK} (g:tE L x) {j:Nat} (h1:cJ L x<=j) (h2:j<x.t):x.d<(nth L j).length:=by
 unfold cJ iP at h1;split at h1
 ·exact g.long hL (by omega) h2
 ·rename_i h
  rcases Ab x.i j with h3|h3
  ·exact g.long hL h3 h2
  ·have hj:j=x.i:=by omega
   have:=g.len j (by omega) h2
   grind
def sT (L:List (List UInt8)) (e:Nat):Nat->List dK->Nat->Prop
 | lo,[],hi=>lo<=hi/\∀j,lo<=j->j<hi->(nth L j).length<e
 | lo,x::xs,hi=>lo<=x.i/\(∀j,lo<=j->j<x.i->(nth L j).length<e)/\tE L x/\x.d=e/\sT L e x.t xs hi
theorem sT.le {L:List (List UInt8)} {e:Nat}:∀ {xs:List dK} {lo hi:Nat},sT L e lo xs hi->lo<=hi
 | [],_,_,h=>h.1
 | _::_,_,_,h=>by have:=sT.le h.2.2.2.2;have:=h.2.2.1.le;have:=h.1;omega
theorem sT.before {L:List (List UInt8)} {e:Nat}:∀ {xs:List dK} {lo lo' hi:Nat},lo'<=lo->(∀j,lo'<=j->j<lo->(nth L j).length<e)->sT L e lo xs hi->sT L e lo' xs hi
 | [],lo,lo',hi,h1,h2,h=>⟨Bf h1 h.1,λj a b=>by
  rcases Ab j lo with h3|h3
  ·exact h2 j a h3
  ·exact h.2 j h3 b⟩
 | _::_,lo,lo',hi,h1,h2,h=>⟨Bf h1 h.1,λj a b=>by
  rcases Ab j lo with h3|h3
  ·exact h2 j a h3
  ·exact h.2.1 j h3 b,h.2.2⟩
theorem sT.append {L:List (List UInt8)} {e:Nat}:∀ {xs ys:List dK} {lo ar hi:Nat},sT L e lo xs ar->sT L e ar ys hi->sT L e lo (xs++ys) hi
 | [],_,_,_,_,h1,h2=>sT.before h1.1 h1.2 h2
 | _::_,_,_,_,_,h1,h2=>⟨h1.1,h1.2.1,h1.2.2.1,h1.2.2.2.1,sT.append h1.2.2.2.2 h2⟩
theorem xU {L:List (List UInt8)} (hL:Asc L) {x:dK} (g:tE L x):∀(f i:Nat),x.t-i<=f->cJ L x<=i->i<=x.t->(i<x.t->i=0\/cAt L i<x.d+1)->sT L (x.d+1) i (fI L x.d x.t i) x.t
 | 0,i,hf,h1,h2,_=>by
  rw[gI (by omega)];exact⟨h2,λj a b=>by omega⟩
 | f+1,i,hf,h1,h2,h3=>by
  by_cases ae:i<x.t
  case neg =>
   rw[gI ae];exact⟨h2,λj a b=>by omega⟩
  rw[eN ae];obtain⟨e1,e2,e3,e4⟩:=vT (kH L x.d i) x.t _ (i+1) rfl ae;have hn:=g.le;have hsx:x.i<=i:=by unfold cJ at h1;split at h1<;>omega
  have jf:∀j,i<j->j<eB L x.d x.t i->x.d+1<=cAt L j:=by
   intro j
   induction j with
   | zero=>intro a;omega
   | succ j ih =>
    intro a b;have hj:j+1<x.t:=by unfold eB at b;omega
    have s1:=e3 (j+1) a b
    have s2:kH L x.d i j=true:=by
     rcases Ab i j with h|h
     ·exact e3 j h (by unfold eB at b;omega)
     ·rw[show j=i by omega];simp[kH]
    unfold kH at s1 s2;simp only[beq_iff_eq]at s1 s2;have hc:=g.inn (j+1) (by omega) hj;unfold cAt at hc ⊢;rw[Nat.add_sub_cancel]at hc ⊢;exact(bP0 hc (g.start hL (by omega) (by omega)) (g.start hL (by omega) hj)).2 (s2.trans s1.symm)
  have m0:eB L x.d x.t i<x.t->cAt L (eB L x.d x.t i)<x.d+1:=by
   intro hk;have s1:=e4 hk;generalize hK:eB L x.d x.t i=K at *;have ml:uG (kH L x.d i) x.t (i+1)=K:=hK;rw[ml]at e1 e2 e3 e4 s1;apply An
   intro p9;have hc:x.d+1<=cAt L K:=by omega
   have h0:x.d+1<=nG (nth L i) (nth L K):=rJ (g.start hL h1 ae) K (by omega) (by grind);have h4:=(bP0 (Nat.le_of_succ_le h0) (g.start hL h1 ae) (g.start hL (by omega) hk)).1 h0;unfold kH at s1;rw[h4]at s1;simp at s1
  have hgt:=uI L (d:=x.d) ae;refine⟨Ac _,by grind,⟨by grind,Or.inl hgt.1,λj a b=>?_,jf,h3 ae,?_⟩,rfl,?_⟩
  ·have b':j<eB L x.d x.t i:=b
   exact g.start hL (Bf h1 a) (by omega)
  ·show eB L x.d x.t i=L.length\/cAt L (eB L x.d x.t i)<x.d+1
   rcases Ab (eB L x.d x.t i) x.t with h|h
   ·exact Or.inr (m0 h)
   ·rw[show eB L x.d x.t i=x.t by omega]
    rcases g.hi with h2|h2
    ·exact Or.inl h2
    omega
  ·have ko:=hgt.2
   have kp:=hgt.1;exact xU hL g f (eB L x.d x.t i) (by omega) (by omega) ko (by omega)
theorem bO0 {L:List (List UInt8)} (hL:Asc L) {x:dK} (g:tE L x):sT L (x.d+1) x.i (fQ L x) x.t:=by
 have hs:x.i<=cJ L x/\cJ L x<=x.t:=by
  unfold cJ iP
  have:=g.le
  split
  ·grind
  ·omega
 refine sT.before hs.1 (λj a b=>?_) (xU hL g _ _ (Ac _) (Ac _) hs.2 (λh=>?_))
 ·unfold cJ at b
  split at b
  ·rename_i h
   unfold iP at h;grind
  ·omega
 ·unfold cJ at h ⊢
  split
  ·rename_i hh
   rw[if_pos hh]at h;unfold iP at hh;simp only[Ad,beq_iff_eq]at hh;refine Or.inr ?_
   have:=(bQ0 (nth L (x.i+1-1)) (nth L (x.i+1))).1
   unfold cAt;grind
  ·rcases g.lo with h2|h2
   ·exact Or.inl h2
   omega
theorem kV0 {L:List (List UInt8)} (hL:Asc L) {e:Nat}:∀ {xs:List dK} {lo hi:Nat},sT L e lo xs hi->sT L (e+1) lo (xs.flatMap (fQ L)) hi
 | [],_,_,h=>by grind [sT]
 | x::xs,lo,hi,h=>by
  obtain⟨h1,h2,h3,h4,h5⟩:=h
  have:=bO0 hL h3
  rw[h4]at this;rw[Af];exact(this.before h1 (by grind)).append (kV0 hL h5)
def lv (L:List (List UInt8)):Nat->List dK
 | 0=>[rootS L]
 | d+1=>(lv L d).flatMap (fQ L)
theorem lP {L:List (List UInt8)} (hL:Asc L):∀d,sT L d 0 (lv L d) L.length
 | 0=>⟨Ac _,λ_ a b=>absurd b (Nat.not_lt.2 a),mO0 L,rfl,Ac _,λ_ a b=>absurd b (Nat.not_lt.2 a)⟩
 | d+1=>kV0 hL (lP hL d)
theorem sT.mem {L:List (List UInt8)} {e:Nat}:∀ {xs:List dK} {lo hi:Nat},sT L e lo xs hi->∀x∈xs,tE L x/\x.d=e/\lo<=x.i/\x.t<=hi
 | [],_,_,_,x,hx=>by simp at hx
 | y::xs,lo,hi,h,x,hx=>by
  obtain⟨h1,h2,h3,h4,h5⟩:=h;rcases List.mem_cons.1 hx with rfl|hx
  ·exact⟨h3,h4,h1,sT.le h5⟩
  ·obtain⟨a,b,c,d⟩:=sT.mem h5 x hx
   exact⟨a,b,by have:=h3.le;omega,d⟩
def eI (L:List (List UInt8)) (e j:Nat):Bool:=decide (e<=(nth L j).length)&&(j==0||decide (cAt L j<e))
theorem sT.firsts {L:List (List UInt8)} {e:Nat} (he:0<e):∀ {xs:List dK} {lo hi:Nat},sT L e lo xs hi->xs.map (λx=>x.i)=(Ak lo (hi-lo)).filter (eI L e)
 | [],lo,hi,h=>by
  symm
  rw[List.map_nil,Ap];intro j hj;rw[Aw]at hj
  have:=h.2 j hj.1 (by omega)
  grind [eI]
 | x::xs,lo,hi,h=>by
  obtain⟨h1,h2,h3,h4,h5⟩:=h;have h6:=sT.le h5;have h7:=h3.le;have h8:x.i<x.t:=by rcases h3.ne with h|h<;>omega
  rw[List.map_cons,sT.firsts he h5,show hi-lo=(x.i-lo)+((1+(x.t-x.i-1))+(hi-x.t)) by omega,<-Ar,<-Ar,<-Ar,Ag,Ag,Ag]
  have e1:(Ak lo (x.i-lo)).filter (eI L e)=[]:=by
   rw[Ap];intro j hj;rw[Aw]at hj
   have:=h2 j hj.1 (by omega)
   simp only[eI,Ad,decide_eq_true_eq];omega
  have e2:(Ak (lo+(x.i-lo)) 1).filter (eI L e)=[x.i]:=by
   rw[show lo+(x.i-lo)=x.i by omega]
   have:eI L e x.i=true:=by
    unfold eI;have a1:=h3.len x.i (Ac _) h8;rw[h4]at a1;simp only[Ad,decide_eq_true_eq,Ah,beq_iff_eq];refine⟨a1,?_⟩;rcases h3.lo with a2|a2
    ·exact Or.inl a2
    ·omega
   simp[Ak,this]
  have e3:(Ak (lo+(x.i-lo)+1) (x.t-x.i-1)).filter (eI L e)=[]:=by
   rw[Ap];intro j hj;rw[Aw]at hj
   have:=h3.inn j (by omega) (by omega)
   have re:¬j=0:=by omega
   have hc:¬cAt L j<e:=by omega
   simp[eI,re,hc]
  grind
end
section
open Go
def spanS (L:List (List UInt8)) (x:dK):List UInt8:=(nth L x.i).take x.d
def nodesA (L:List (List UInt8)):List dK:=(Aq 257).flatMap (lv L)
theorem tE.slen {L:List (List UInt8)} {x:dK} (g:tE L x):(spanS L x).length=x.d:=by
 unfold spanS;rw[Bg];rcases g.ne with h|h
 ·have:=g.len x.i (Ac _) h;omega
 ·omega
theorem tE.same {L:List (List UInt8)} {x y:dK} (gx:tE L x) (gy:tE L y) (hi:x.i=y.i) (hd:x.d=y.d):x=y:=by
 have key:∀ {x y:dK},tE L x->tE L y->x.i=y.i->x.d=y.d->¬x.t<y.t:=by
  intro x y gx gy hi hd h;have h1:=gx.hi;have h2:=gy.le;rcases h1 with h1|h1
  ·omega
  ·rcases gx.ne with h3|h3
   ·have:=gy.inn x.t (by omega) h;omega
   ·omega
 have k1:=key gx gy hi hd;have k2:=key gy gx hi.symm hd.symm;obtain⟨xi,xt,xd⟩:=x;obtain⟨yi,yt,yd⟩:=y;simp only at hi hd k1 k2;subst hi;subst hd;rw[show xt=yt by omega]
theorem tE.inj {L:List (List UInt8)} (hL:Asc L) {x y:dK} (gx:tE L x) (gy:tE L y) (h:spanS L x=spanS L y):x=y:=by
 have hd:x.d=y.d:=by rw[<-gx.slen,<-gy.slen,h]
 refine gx.same gy ?_ hd
 have key:∀ {x y:dK},tE L x->tE L y->x.d=y.d->spanS L x=spanS L y->¬x.i<y.i:=by
  intro x y gx gy hd h ae;rcases gy.ne with h3|h3
  ·have a1:x.d<=(nth L x.i).length:=by
    have:=gx.slen;unfold spanS at this;rw[Bg]at this;omega
   have a2:=gy.len y.i (Ac _) h3;unfold spanS at h
   have:=hL.all (i:=x.i) (j:=y.i) (m:=y.i) (by have:=gy.le;omega) ae (Ac _) ((jK x.d _ _).2 (by simp_all))
   rcases gy.lo with h4|h4<;>omega
  ·rcases gy.lo with h4|h4<;>omega
 grind
theorem nM {L:List (List UInt8)} (hL:Asc L) {x:dK} (h:x∈nodesA L):tE L x:=by
 unfold nodesA at h;obtain⟨d,_,h⟩:=List.mem_flatMap.1 h;exact((lP hL d).mem x h).1
def tM0 (x y:dK):Prop:=x.d<y.d\/(x.d=y.d/\x.i<y.i)
theorem sT.pairwise {L:List (List UInt8)} {e:Nat} (he:0<e):∀ {xs:List dK} {lo hi:Nat},sT L e lo xs hi->xs.Pairwise tM0
 | [],_,_,_=>List.Pairwise.nil
 | x::xs,lo,hi,h=>by
  obtain⟨_,_,h3,h4,h5⟩:=h;refine List.pairwise_cons.2 ⟨λy hy=>?_,sT.pairwise he h5⟩;obtain⟨_,k2,k3,_⟩:=h5.mem y hy;refine Or.inr ⟨by omega,?_⟩;rcases h3.ne with h|h<;>omega
theorem jH {L:List (List UInt8)} (hL:Asc L):(nodesA L).Pairwise tM0:=by
 unfold nodesA;rw[List.pairwise_flatMap];refine⟨λd _=>?_,?_⟩
 ·cases d with
  | zero=>simp[lv]
  | succ d=>exact(lP hL (d+1)).pairwise (At _)
 ·refine List.pairwise_lt_range.imp ?_
  intro a b fi x hx y hy;have h1:=((lP hL a).mem x hx).2.1;have h2:=((lP hL b).mem y hy).2.1;exact Or.inl (by omega)
theorem pH1 {L:List (List UInt8)} (hL:Asc L) {d:Nat} (hd0:0<d) (h:∀s∈L,s.length<d):lv L d=[]:=by
 apply List.eq_nil_iff_forall_not_mem.2
 intro x hx;obtain⟨g,hd,_,_⟩:=(lP hL d).mem x hx;rcases g.ne with h1|h1
 ·have h2:=g.len x.i (Ac _) h1
  have h3:=h (nth L x.i) (Ai (iZ (by have:=g.le;omega)));omega
 ·omega
theorem wF0 {L:List (List UInt8)} (hL:Asc L) {n:Nat} (h:∀s∈L,s.length<n+1):(Aq (n+1)).flatMap (lv L)=rootS L::((Aq (n+1)).flatMap (lv L)).flatMap (fQ L):=by
 have e2:((Aq (n+1)).flatMap (lv L)).flatMap (fQ L)=(Aq (n+1)).flatMap (λd=>lv L (d+1)):=by
  rw[List.flatMap_assoc];rfl
 rw[e2,Az,Aj (f:=λd=>lv L (d+1))];simp only[Af,Bh,Ba];rw[pH1 hL (At n) h,Ba,<-Az,Ay,Af,Ax];rfl
theorem bS1 {L:List (List UInt8)} (hL:Asc L) (h:∀s∈L,s.length<=256):nodesA L=rootS L::(nodesA L).flatMap (fQ L) :=
 (by grind [wF0,nodesA])
section bfs
variable {α:Type} {r:α} {kd:α->List α} {A:List α}
def fD (r:α) (kd:α->List α) (A:List α) (i:Nat):List α:=r::(A.take i).flatMap kd
theorem sG (hA:A=r::A.flatMap kd) (i:Nat):A=fD r kd A i++(A.drop i).flatMap kd:=by
 unfold fD;rw[Bi,<-Aj,List.take_append_drop];exact hA
theorem qV {i:Nat} {x:α} (h:A[i]?=some x):fD r kd A (i+1)=fD r kd A i++kd x:=by
 unfold fD;rw[Am,h,Aj];simp
theorem fG1 (hA:A=r::A.flatMap kd) (i:Nat):(fD r kd A i).length<=A.length:=by
 have:=congrArg List.length (sG hA i)
 grind
theorem jM0 (hA:A=r::A.flatMap kd) {i k:Nat} (h:k<(fD r kd A i).length):(fD r kd A i)[k]?=A[k]?:=by
 have h1:A[k]?=(fD r kd A i++(A.drop i).flatMap kd)[k]?:=congrArg (λl=>l[k]?) (sG hA i);grind
theorem wL0 {i j:Nat} (h:i<=j):(fD r kd A i).length<=(fD r kd A j).length:=by
 unfold fD;obtain⟨d,rfl⟩:∃d,j=i+d:=⟨j-i,by omega⟩;grind
theorem aS1 (hA:A=r::A.flatMap kd) (dep:α->Nat) (hd:∀x, ∀y∈kd x,dep y=dep x+1) (hp:A.Pairwise λx y=>dep x<=dep y) {i:Nat} (hi:i<A.length):i<(fD r kd A i).length:=by
 apply An
 intro p9;have h1:=sG hA i
 have h2:A[i]∈(A.drop i).flatMap kd:=by
  have h3:A[i]?=(fD r kd A i++(A.drop i).flatMap kd)[i]?:=by grind
  rw[Au (by omega),Ae hi]at h3;exact by grind
 obtain⟨x,hx,hk⟩:=List.mem_flatMap.1 h2;have h4:=hd x _ hk;obtain⟨j,hj⟩:=List.mem_iff_getElem?.1 hx;rw[List.getElem?_drop]at hj;obtain⟨hj1,m4⟩:=List.getElem?_eq_some_iff.1 hj;rcases Bc j with h5|h5
 ·subst h5
  grind
 grind [List.pairwise_iff_getElem]
theorem mQ0 (hA:A=r::A.flatMap kd):fD r kd A A.length=A:=by
 grind [fD]
theorem yE (hA:A=r::A.flatMap kd):∀(i k:Nat),1<=k->k<(fD r kd A i).length->∃p,p<i/\(fD r kd A p).length<=k/\k<(fD r kd A (p+1)).length
 | 0,k,h1,h2=>by grind [fD]
 | i+1,k,h1,h2=>by
  rcases Ab k (fD r kd A i).length with h|h
  ·obtain⟨p,a,b,c⟩:=yE hA i k h1 h
   grind
  grind
theorem uF (hA:A=r::A.flatMap kd) {p k:Nat} {x:α} (hx:A[p]?=some x) (h1:(fD r kd A p).length<=k) (h2:k<(fD r kd A (p+1)).length):A[k]?=(kd x)[k-(fD r kd A p).length]?:=by
 rw[<-jM0 hA h2,qV hx,Au h1]
end bfs
theorem vW0 {L:List (List UInt8)} (hL:Asc L):(nodesA L).Pairwise λx y=>x.d<=y.d:=(jH hL).imp λh=>by rcases h with h|h<;>omega
theorem sF0 (L:List (List UInt8)) (d t:Nat):∀(f i:Nat), ∀y∈pC L d t f i,y.d=d+1
 | 0,_,y,h=>by simp[pC]at h
 | f+1,i,y,h=>by
  rw[pC]at h;split at h
  ·rcases List.mem_cons.1 h with rfl|h
   ·rfl
   ·exact sF0 L d t f _ y h
  ·simp at h
theorem kF0 (L:List (List UInt8)) (x:dK):∀y∈fQ L x,y.d=x.d+1:=sF0 L x.d x.t _ _
theorem wU {L:List (List UInt8)} (hL:Asc L) {x y:dK} (g:tE L x) (h:y∈fQ L x):spanS L y=spanS L x++[(nth L y.i).getD x.d 0]:=by
 obtain⟨gy,hd,h1,h2⟩:=(bO0 hL g).mem y h;have h3:y.i<y.t:=by rcases gy.ne with h|h<;>omega
 have h4:=gy.len y.i (Ac _) h3
 have h5:(nth L y.i).take x.d=(nth L x.i).take x.d:=by
  rcases Ab x.i y.i with h6|h6
  ·have:=rJ (L:=L) (e:=x.d) (i:=x.i) (g.len x.i (Ac _) (by omega)) y.i (by omega) (λm a b=>g.inn m a (by omega))
   exact((jK _ _ _).1 this).2.2.symm
  ·grind
 unfold spanS;rw[hd,Am,h5,Ae (by omega),List.getD_eq_getElem?_getD,Ae (by omega)];rfl
def shapeL (L:List (List UInt8)) (A:List dK):List Bool:=[true,false]++A.flatMap λx=>Bk (fQ L x).length true++[false]
def qB (L:List (List UInt8)) (x y:dK):UInt8:=(nth L y.i).getD x.d 0
def labelsL (L:List (List UInt8)) (A:List dK):List UInt8:=A.flatMap λx=>(fQ L x).map (qB L x)
def isL (L:List (List UInt8)) (A:List dK):List Bool:=A.map (iP L)
def idsL (L:List (List UInt8)) (A:List dK):List Nat:=(A.filter (iP L)).map λx=>x.i
theorem aX0 {L:List (List UInt8)} (hL:Asc L):∀(A:List dK),(∀x∈A,tE L x)->labelsL L A=(A.flatMap (fQ L)).map λy=>(spanS L y).getLastD 0
 | [],_=>rfl
 | x::A,h=>by
  have:=aX0 hL A (by simp_all)
  unfold labelsL at *;rw[Af,Af,As,this];congr 1
  apply Bb
  intro y hy;rw[wU hL (h x (by simp)) hy];simp[qB]
theorem qU {L:List (List UInt8)} (hL:Asc L) {x:dK} (g:tE L x) (ai:∀s∈L,s≠[]) (j:Nat):(L[j]?=some (spanS L x))↔iP L x=true/\j=x.i:=by
 unfold iP;simp only[Ad,decide_eq_true_eq,beq_iff_eq];constructor
 ·intro h
  have hj:=(List.getElem?_eq_some_iff.1 h).1;have hs:=xV h
  have hd:x.d≠0:=λh0=>by
   have:=g.slen
   rw[h0]at this;exact ai _ (Ai h) (List.length_eq_zero_iff.1 this)
  have hit:x.i<x.t:=by rcases g.ne with h|h<;>omega
  have hlj:(nth L j).length=x.d:=by rw[hs,g.slen]
  have hcj:x.d<=nG (nth L x.i) (nth L j):=(jK _ _ _).2 ⟨g.len _ (Ac _) hit,by omega,by rw[hs];unfold spanS;rw[List.take_take,Nat.min_self]⟩
  have e1:¬j<x.i:=λae=>by
   have h1:=pV (hL.lt _ _ ae (by have:=g.le;omega));rw[aB0]at hcj
   have:=hL.all (m:=x.i) (by have:=g.le;omega) ae (Ac _) hcj
   rcases g.lo with h4|h4<;>omega
  have e2:¬x.i<j:=λae=>by
   have:=pV (hL.lt _ _ ae hj);omega
  have e3:j=x.i:=by omega
  subst e3;exact⟨⟨hit,hlj⟩,rfl⟩
 ·rintro⟨⟨h1,h2⟩,rfl⟩
  rw[iZ (by have:=g.le;omega)];unfold spanS;rw[List.take_of_length_le (by omega)]
end
section
open Go
def mS (n:Nat) (out:List (List UInt8)) (s:List UInt8):List (List UInt8) :=
 if n<=s.length/\(out=[]\/out.getLastD []≠s.take n) then out++[s.take n] else out
def lB1 (L:List (List UInt8)) (n:Nat):List (List UInt8):=L.foldl (mS n) []
def lL (L:List (List UInt8)) (n m:Nat):List (List UInt8):=((Ak 0 m).filter (eI L n)).map λj=>(nth L j).take n
theorem lN0 (L:List (List UInt8)) (n m:Nat):lL L n (m+1)=if eI L n m then lL L n m++[(nth L m).take n] else lL L n m:=by
 unfold lL;rw[Bd,Ag,As];grind
theorem eH1 (L:List (List UInt8)) (m:Nat):cAt L m<=(nth L (m-1)).length/\cAt L m<=(nth L m).length:=bQ0 _ _
theorem mN0 {L:List (List UInt8)} (hL:Asc L) {n:Nat} (hn:0<n):∀m,m<=L.length->(L.take m).foldl (mS n) []=lL L n m /\
  (((∀j,j<m->(nth L j).length<n)/\lL L n m=[])\/∃j,j<m/\n<=(nth L j).length/\(∀k,j<k->k<m->(nth L k).length<n)/\lL L n m≠[]/\(lL L n m).getLastD []=(nth L j).take n)
 | 0,_=>by grind [lL]
 | m+1,hm=>by
  obtain⟨h1,h2⟩:=mN0 hL hn m (by omega);rw[Am,iZ (by omega),List.foldl_append,h1];simp only[Be,List.foldl_cons,List.foldl_nil];rw[lN0];by_cases hs:n<=(nth L m).length
  ·rcases h2 with ⟨h2,h3⟩|⟨j,h2,h3,h4,h5,h6⟩
   ·have hf:eI L n m=true:=by
     unfold eI;simp only[Ad,decide_eq_true_eq,Ah,beq_iff_eq];refine⟨hs,?_⟩;rcases Bc m with h|h
     ·exact Or.inl h
     ·grind [eH1]
    grind [mS]
   ·by_cases hq:(nth L j).take n=(nth L m).take n
    ·have hc:=(jK n _ _).2 ⟨h3,hs,hq⟩
     have hc2:=hL.all (m:=m) (by omega) h2 (Ac _) hc;grind [mS,eI]
    ·have hf:eI L n m=true:=by
      unfold eI;simp only[Ad,decide_eq_true_eq,Ah,beq_iff_eq];refine⟨hs,Or.inr ?_⟩;apply An
      intro p9;have h7:=(eH1 L m).1
      have h8:j=m-1:=by
       rcases Ab j (m-1) with h|h
       ·grind
       ·omega
      have h9:n<=cAt L m:=by omega
      unfold cAt at h9;rw[<-h8]at h9;exact by grind [jK]
     grind [mS]
  grind [mS,eI]
theorem qG0 {L:List (List UInt8)} (hL:Asc L) {n:Nat} (hn:0<n):lB1 L n=lL L n L.length:=by
 have:=(mN0 hL hn L.length (Ac _)).1
 grind [lB1]
def kR1 (L:List (List UInt8)):List (List UInt8):=[]::(Ak 1 256).flatMap (lB1 L)
theorem nU1 {L:List (List UInt8)} (hL:Asc L) (d:Nat):(lv L (d+1)).map (spanS L)=lB1 L (d+1):=by
 have ht:=lP hL (d+1);rw[qG0 hL (At d)];unfold lL;have hf:=ht.firsts (At d);rw[Nat.sub_zero]at hf;rw[<-hf,List.map_map];apply Bb
 intro x hx;show (nth L x.i).take x.d=(nth L x.i).take (d+1)
 rw[(ht.mem x hx).2.1]
theorem wV0 {L:List (List UInt8)} (hL:Asc L):(nodesA L).map (spanS L)=kR1 L:=by
 have key:∀n,((Aq (n+1)).flatMap (lv L)).map (spanS L)=[]::(Ak 1 n).flatMap (lB1 L):=by
  intro n;rw[Ay,Af,As,Ax,List.map_flatMap,List.range'_eq_map_range,Ax]
  have:(lv L 0).map (spanS L)=[[]]:=by simp[lv,spanS,rootS]
  rw[this];simp only[Bi,List.nil_append,List.cons.injEq,true_and];congr 1
  funext d
  rw[nU1 hL d,Nat.add_comm]
 exact key 256
def eD1 (L:List (List UInt8)) (j:Nat):Nat:=(nth L j).length-(if j=0 then 0 else cAt L j)
def lK (L:List (List UInt8)):Nat->Nat
 | 0=>1
 | m+1=>lK L m+eD1 L m
def eG (L:List (List UInt8)):Nat:=lK L L.length
def mZ (L:List (List UInt8)) (n m:Nat):Nat:=((Ak 0 m).filter (eI L n)).length
theorem kE0 (L:List (List UInt8)) (n m:Nat):mZ L n (m+1)=mZ L n m+(if eI L n m then 1 else 0):=by
 unfold mZ;rw[Bd,Ag,Al];grind
def nB (f:Nat->Nat):Nat->Nat
 | 0=>0
 | k+1=>nB f k+f (k+1)
theorem nE0 (f g:Nat->Nat):∀k,nB (λn=>f n+g n) k=nB f k+nB g k
 | 0=>rfl
 | k+1=>by simp only[nB];rw[nE0 f g k];omega
theorem aG0 (L:List (List UInt8)) (j:Nat):∀k,nB (λn=>if eI L n j then 1 else 0) k=min k (nth L j).length-(if j=0 then 0 else min k (cAt L j))
 | 0=>by simp[nB]
 | k+1=>by
  have hc:=(eH1 L j).2;simp only[nB];rw[aG0 L j k];grind [eI]
theorem eM0:∀k,nB (λ_=>0) k=0
 | 0=>rfl
 | k+1=>by simp only[nB];rw[eM0 k]
theorem nR0 {f g:Nat->Nat}:∀k,(∀n,1<=n->n<=k->f n=g n)->nB f k=nB g k
 | 0,_=>rfl
 | k+1,h=>by simp only[nB];rw[nR0 k (λn a b=>h n a (by omega)),h (k+1) (by omega) (Ac _)]
theorem tH (L:List (List UInt8)) (h:∀s∈L,s.length<=256):∀m,m<=L.length->1+nB (λn=>mZ L n m) 256=lK L m
 | 0,_=>by
  have:nB (λn=>mZ L n 0) 256=nB (λ_=>0) 256:=by grind [mZ]
  rw[this,eM0];rfl
 | m+1,hm=>by
  have ih:=tH L h m (by omega);have e:nB (λn=>mZ L n (m+1)) 256=nB (λn=>mZ L n m+(if eI L n m then 1 else 0)) 256:=by grind [kE0]
  rw[e,nE0,aG0,lK,<-ih];grind [nth,eD1]
theorem eX {L:List (List UInt8)} (hL:Asc L) (h:∀s∈L,s.length<=256):(nodesA L).length=eG L:=by
 have key:∀n,((Aq (n+1)).flatMap (lv L)).length=1+nB (λd=>mZ L d L.length) n:=by
  intro n
  induction n with
  | zero=>rfl
  | succ n ih =>
   rw[Az,Aj,Al,ih];simp only[Af,Bh,Ba,nB];have hf:=(lP hL (n+1)).firsts (At n);grind [mZ]
 unfold eG;rw[<-tH L h L.length (Ac _)];exact key 256
structure OkL (L:List (List UInt8)):Prop where
 asc:Asc L
 pos:∀s∈L,s≠[]
 len:∀s∈L,s.length<=256
def offA (L:List (List UInt8)) (i:Nat):Nat:=(fD (rootS L) (fQ L) (nodesA L) i).length
theorem OkL.fix {L:List (List UInt8)} (h:OkL L):nodesA L=rootS L::(nodesA L).flatMap (fQ L):=bS1 h.asc h.len
theorem uB (L:List (List UInt8)):offA L 0=1:=rfl
theorem iO {L:List (List UInt8)} {i:Nat} {x:dK} (h:(nodesA L)[i]?=some x):offA L (i+1)=offA L i+(fQ L x).length:=by
 unfold offA;rw[qV h,Al]
theorem lM {L:List (List UInt8)} {i j:Nat} (h:i<=j):offA L i<=offA L j:=wL0 h
theorem OkL.off_all {L:List (List UInt8)} (h:OkL L):offA L (nodesA L).length=(nodesA L).length:=by
 unfold offA;rw[mQ0 h.fix]
theorem OkL.off_le {L:List (List UInt8)} (h:OkL L) (i:Nat):offA L i<=(nodesA L).length:=fG1 h.fix i
theorem OkL.off_gt {L:List (List UInt8)} (h:OkL L) {i:Nat} (hi:i<(nodesA L).length):i<offA L i :=
 aS1 h.fix (λx=>x.d) (kF0 L) (vW0 h.asc) hi
theorem OkL.good {L:List (List UInt8)} (h:OkL L) {i:Nat} {x:dK} (hx:(nodesA L)[i]?=some x):tE L x:=nM h.asc (Ai hx)
theorem OkL.uniq {L:List (List UInt8)} (h:OkL L) {i j:Nat} {x:dK} (hi:(nodesA L)[i]?=some x) (hj:(nodesA L)[j]?=some x):i=j:=by
 have key:∀ {i j:Nat},(nodesA L)[i]?=some x->(nodesA L)[j]?=some x->¬i<j:=by
  intro i j hi hj ae;obtain⟨h1,h2⟩:=List.getElem?_eq_some_iff.1 hi;obtain⟨h3,h4⟩:=List.getElem?_eq_some_iff.1 hj
  have:=List.pairwise_iff_getElem.1 (jH h.asc) i j h1 h3 ae
  rw[h2,h4]at this;unfold tM0 at this;omega
 have k1:=key hi hj;have k2:=key hj hi;omega
theorem OkL.parent {L:List (List UInt8)} (h:OkL L) {k:Nat} {y:dK} (h1:1<=k) (hy:(nodesA L)[k]?=some y):∃p x,(nodesA L)[p]?=some x/\p<k/\offA L p<=k/\k<offA L (p+1)/\y∈fQ L x:=by
 have hk:=(List.getElem?_eq_some_iff.1 hy).1;obtain⟨p,a,b,c⟩:=yE h.fix (nodesA L).length k h1 (by rw[mQ0 h.fix];exact hk);obtain⟨x,hx⟩:∃x,(nodesA L)[p]?=some x:=⟨_,Ae a⟩;have hp:=h.off_gt a;have yj:=uF h.fix hx b c;rw[hy]at yj;exact⟨p,x,hx,by unfold offA at hp;omega,b,c,Ai yj.symm⟩
theorem OkL.kid {L:List (List UInt8)} (h:OkL L) {i k:Nat} {x y:dK} (hx:(nodesA L)[i]?=some x) (h1:offA L i<=k) (h2:k<offA L (i+1)) (hy:(nodesA L)[k]?=some y):y∈fQ L x:=by
 have yj:=uF h.fix hx h1 h2;rw[hy]at yj;exact Ai yj.symm
theorem oE (L:List (List UInt8)) (A:List dK) (x:dK):shapeL L (A++[x])=shapeL L A++Bk (fQ L x).length true++[false]:=by
 unfold shapeL;rw[Aj];simp
theorem rR0 (L:List (List UInt8)) (A:List dK) (x:dK):isL L (A++[x])=isL L A++[iP L x]:=by simp[isL]
theorem lK0 (L:List (List UInt8)) (A:List dK) (x:dK):idsL L (A++[x])=idsL L A++if iP L x then [x.i] else []:=by
 unfold idsL;rw[Ag,As];by_cases h:iP L x=true<;>simp[h]
theorem OkL.labels {L:List (List UInt8)} (h:OkL L):labelsL L (nodesA L)=((nodesA L).drop 1).map λy=>(spanS L y).getLastD 0:=by
 rw[aX0 h.asc _ (λx hx=>nM h.asc hx)];congr 1
 have h1:(nodesA L).drop 1=(rootS L::(nodesA L).flatMap (fQ L)).drop 1:=congrArg (List.drop 1) h.fix;rw[h1];rfl
def fG (b:List UInt8):List UInt8:=leB 4 b.length++b
def loudE (L:List (List UInt8)):List UInt8 :=
 fG (pH (shapeL L (nodesA L)))++fG (labelsL L (nodesA L))++fG (pH (isL L (nodesA L)))++fG (packE (idsL L (nodesA L)))
theorem fC (L:List (List UInt8)):∀i,i<=(nodesA L).length->(shapeL L ((nodesA L).take i)).length=offA L i+i+1
 | 0,_=>rfl
 | i+1,hi=>by
  obtain⟨x,hx⟩:∃x,(nodesA L)[i]?=some x:=⟨_,Ae hi⟩;have ih:=fC L i (by omega);rw[Am,hx,Be,oE,Al,Al,ih,iO hx,List.length_replicate];simp;omega
def ltK (k:Nat->Nat) (x y:Nat):Prop:=k x<k y\/(k x=k y/\x<y)
theorem bF0 {k:Nat->Nat} {x y z:Nat} (h1:ltK k x y) (h2:ltK k y z):ltK k x z:=by unfold ltK at *; omega
theorem qS {k:Nat->Nat} {x:Nat}:¬ltK k x x:=by unfold ltK; omega
theorem mT {k:Nat->Nat} {x y:Nat} (h:x<y):ltK k y x↔k y<k x:=by unfold ltK; omega
theorem zV {k:Nat->Nat} {x y:Nat} (h:x<y):ltK k x y↔¬k y<k x:=by unfold ltK; omega
def gB (D:Nat->Nat) (a m b i:Nat):Nat:=if i<a then D i else if i<a+(b-m) then D (i+(m-a)) else if i<b then D (i-(b-m)) else D i
def nO0 (D:Nat->Nat) (a b n i:Nat):Nat:=if a<=i/\i<a+n then D (i-a+b) else if b<=i/\i<b+n then D (i-b+a) else D i
structure fB (D D':Nat->Nat) (a b:Nat):Prop where
 out:∀i,(i<a\/b<=i)->D' i=D i
 fro:∀i,a<=i->i<b->∃j,a<=j/\j<b/\D' i=D j
 to:∀j,a<=j->j<b->∃i,a<=i/\i<b/\D' i=D j
theorem fB.refl (D:Nat->Nat) (a b:Nat):fB D D a b:=⟨λ_ _=>rfl,λi h1 h2=>⟨i,h1,h2,rfl⟩,λi h1 h2=>⟨i,h1,h2,rfl⟩⟩
theorem fB.trans {D D' D'':Nat->Nat} {a b:Nat} (h:fB D D' a b) (h':fB D' D'' a b):fB D D'' a b where
 out i hi:=(h'.out i hi).trans (h.out i hi)
 fro i h1 h2:=by
  obtain⟨j,j1,j2,e⟩:=h'.fro i h1 h2;obtain⟨j',j1',j2',e'⟩:=h.fro j j1 j2;grind
 to j h1 h2:=by
  obtain⟨i,i1,i2,e⟩:=h.to j h1 h2;obtain⟨i',i1',i2',e'⟩:=h'.to i i1 i2;grind
theorem fB.wide {D D':Nat->Nat} {a b a' b':Nat} (h:fB D D' a b) (ha:a'<=a) (hb:b<=b'):fB D D' a' b' where
 out i hi:=h.out i (by omega)
 fro i h1 h2:=by
  by_cases hi:a<=i/\i<b
  ·obtain⟨j,j1,j2,e⟩:=h.fro i hi.1 hi.2
   grind
  ·exact⟨i,h1,h2,h.out i (by omega)⟩
 to i h1 h2:=by
  by_cases hi:a<=i/\i<b
  ·obtain⟨j,j1,j2,e⟩:=h.to i hi.1 hi.2
   grind
  ·exact⟨i,h1,h2,h.out i (by omega)⟩
theorem dL1 {D:Nat->Nat} {a m b i:Nat} (h:i<a):gB D a m b i=D i:=by grind [gB]
theorem pD1 {D:Nat->Nat} {a m b i:Nat} (h1:a<=i) (h2:i<a+(b-m)):gB D a m b i=D (i+(m-a)):=by
 grind [gB]
theorem pP1 {D:Nat->Nat} {a m b i:Nat} (h1:a+(b-m)<=i) (h2:i<b):gB D a m b i=D (i-(b-m)):=by
 grind [gB]
theorem oG1 {D:Nat->Nat} {a m b i:Nat} (ha:a<=m) (hm:m<=b) (h:b<=i):gB D a m b i=D i:=by
 grind [gB]
theorem dD {D:Nat->Nat} {a m b:Nat} (ha:a<=m) (hm:m<=b):fB D (gB D a m b) a b where
 out i hi:=by
  grind [gB]
 fro i h1 h2:=by
  grind [Ab,gB]
 to j h1 h2:=by
  rcases Ab j m with h|h
  ·exact⟨j+(b-m),by omega,by omega,by grind [gB]⟩
  ·exact⟨j-(m-a),by omega,by omega,by grind [gB]⟩
theorem dK0 {D:Nat->Nat} {a b:Nat} (h:a<=b):gB D a a b=D:=by
 grind [gB]
theorem eH0 {D:Nat->Nat} {a b:Nat}:gB D a b b=D:=by
 grind [gB]
theorem bQ1 (D:Nat->Nat) (a b:Nat):nO0 D a b 0=D:=by
 grind [nO0]
def yC0 (D:Nat->Nat) (j v i:Nat):Nat:=if i=j then v else D i
theorem zB0 {D:Nat->Nat} {a b n:Nat} (h:a+n<b):yC0 (yC0 (nO0 D a b n) (a+n) (nO0 D a b n (b+n))) (b+n) (nO0 D a b n (a+n))=nO0 D a b (n+1):=by
 grind [yC0,nO0]
theorem nJ1 {D:Nat->Nat} {m i j:Nat} (hi:i<=m) (h:j<i):gB (nO0 D (m-i) m j) (m-(i-j)) m (m+j)=gB D (m-i) m (m+j):=by
 grind [gB,nO0]
theorem cN1 {D:Nat->Nat} {m i j:Nat} (hi:i<=m) (h:i<j):gB (nO0 D (m-i) (m+j-i) i) (m-i) m (m+(j-i))=gB D (m-i) m (m+j):=by
 grind [gB,nO0]
theorem iN1 {D:Nat->Nat} {m i:Nat} (hi:i<=m):nO0 D (m-i) m i=gB D (m-i) m (m+i):=by
 grind [nO0,gB]
theorem sK0 {D:Nat->Nat} {i j:Nat} (h0:0<j) (h:j<=i):yC0 (yC0 (gB D j i (i+1)) j (gB D j i (i+1) (j-1))) (j-1) (gB D j i (i+1) j)=gB D (j-1) i (i+1):=by
 grind [yC0,gB]
theorem oN1 {D:Nat->Nat} {a j:Nat} (h:a<=j):yC0 (yC0 (gB D a (a+1) (j+1)) j (gB D a (a+1) (j+1) (j+1))) (j+1) (gB D a (a+1) (j+1) j)=gB D a (a+1) (j+2):=by
 grind [yC0,gB]
def Srt (k D:Nat->Nat) (a b:Nat):Prop:=∀i j,a<=i->i<j->j<b->ltK k (D i) (D j)
def Apt (D:Nat->Nat) (a m b:Nat):Prop:=∀i j,a<=i->i<m->m<=j->j<b->D i<D j
theorem Srt.of_eq {k D D':Nat->Nat} {a b:Nat} (h:Srt k D a b) (he:∀i,a<=i->i<b->D' i=D i):Srt k D' a b:=λi j h1 h2 h3=>by
 rw[he i h1 (by omega),he j (by omega) h3];exact h i j h1 h2 h3
theorem Srt.le {k D:Nat->Nat} {a b:Nat} (h:Srt k D a b) {i j x:Nat} (h1:a<=i) (h2:i<=j) (h3:j<b) (hx:ltK k x (D i)):ltK k x (D j):=by
 rcases Ab i j with h4|h4
 ·exact bF0 hx (h i j h1 h4 h3)
 grind
theorem Srt.ge {k D:Nat->Nat} {a b:Nat} (h:Srt k D a b) {i j x:Nat} (h1:a<=i) (h2:i<=j) (h3:j<b) (hx:ltK k (D j) x):ltK k (D i) x:=by
 rcases Ab i j with h4|h4
 ·exact bF0 (h i j h1 h4 h3) hx
 grind
theorem iA1 {k D:Nat->Nat} {a m b:Nat} (h1:Srt k D a m) (h2:Srt k D m b) (h:∀i j,a<=i->i<m->m<=j->j<b->ltK k (D i) (D j)):Srt k D a b:=by grind [Srt]
theorem gC0 {k D:Nat->Nat} {a i j:Nat} (hs:Srt k D a i) (ha:a<=j) (hj:j<=i) (h1:∀c,a<=c->c<j->ltK k (D c) (D i)) (h2:∀c,j<=c->c<i->ltK k (D i) (D c)):Srt k (gB D j i (i+1)) a (i+1):=by
 grind [Srt,gB]
theorem oS1 {k D:Nat->Nat} {a i b:Nat} (hs:Srt k D (a+1) b) (ha:a+1<=i) (hi:i<=b) (h1:∀c,a+1<=c->c<i->ltK k (D c) (D a)) (h2:∀c,i<=c->c<b->ltK k (D a) (D c)):Srt k (gB D a (a+1) i) a b:=by
 grind [Srt,gB]
structure nJ0 (a m b ar lo hi:Nat):Prop where
 am:a<m
 mb:m<b
 mid1:2*ar<=a+b
 mid2:a+b<=2*ar+1
 big:ar<m->lo=ar+m-b/\hi=ar
 small:m<=ar->lo=a/\hi=m
theorem nJ0.in {a m b ar lo hi c:Nat} (h:nJ0 a m b ar lo hi) (h1:lo<=c) (h2:c<hi):a<=c/\c<m/\m<=ar+m-1-c/\ar+m-1-c<b/\c<ar+m:=by
 obtain⟨h3,h4,h5,h6,h7,h8⟩:=h;omega
theorem nJ0.rng {a m b ar lo hi:Nat} (h:nJ0 a m b ar lo hi):a<=lo/\lo<=hi/\hi<=m/\hi<=ar/\ar+m-lo<=b/\m<=ar+m-hi/\ar+m-lo >= m:=by
 obtain⟨h3,h4,h5,h6,h7,h8⟩:=h;omega
theorem rW0 {k D:Nat->Nat} {a m b ar lo hi c c':Nat} (h:nJ0 a m b ar lo hi) (s1:Srt k D a m) (s2:Srt k D m b) (ap:Apt D a m b) (h1:lo<=c) (h2:c<=c') (h3:c'<hi)
  (hc:k (D (ar+m-1-c))<k (D c)):k (D (ar+m-1-c'))<k (D c'):=by
 obtain⟨a1,a2,a3,a4,a5⟩:=h.in h1 (by omega);obtain⟨b1,b2,b3,b4,b5⟩:=h.in (c:=c') (by omega) h3;rw[<-mT (ap _ _ b1 b2 b3 b4)];rw[<-mT (ap _ _ a1 a2 a3 a4)]at hc;exact s1.le a1 h2 b2 (s2.ge b3 (by omega) a4 hc)
theorem eA1 {k D:Nat->Nat} {a m b ar lo hi s:Nat} (h:nJ0 a m b ar lo hi) (s1:Srt k D a m) (s2:Srt k D m b) (ap:Apt D a m b) (gw:lo<=s) (ws:s<=hi)
  (h1:∀c,lo<=c->c<s->¬k (D (ar+m-1-c))<k (D c)) (h2:∀c,s<=c->c<hi->k (D (ar+m-1-c))<k (D c)) :
  Srt k (gB D s m (ar+m-s)) a s/\Srt k (gB D s m (ar+m-s)) s ar/\Srt k (gB D s m (ar+m-s)) ar (ar+m-s)/\Srt k (gB D s m (ar+m-s)) (ar+m-s) b /\
  Apt (gB D s m (ar+m-s)) a s ar/\Apt (gB D s m (ar+m-s)) ar (ar+m-s) b /\
  ∀i j,a<=i->i<ar->ar<=j->j<b->ltK k (gB D s m (ar+m-s) i) (gB D s m (ar+m-s) j):=by
 obtain⟨r1,r2,r3,r4,r5,r6,r7⟩:=h.rng;have m0:ar+m-s<=b:=by omega
 have A1:∀i,i<s->gB D s m (ar+m-s) i=D i:=λi hi=>dL1 hi;have A2:∀i,s<=i->i<ar->gB D s m (ar+m-s) i=D (i+(m-s)):=by grind [gB]
 have A3:∀i,ar<=i->i<ar+m-s->gB D s m (ar+m-s) i=D (i-(ar-s)):=λi h1 h2=>by
  rw[pP1 (by omega) h2];congr 1;omega
 have A4:∀i,ar+m-s<=i->gB D s m (ar+m-s) i=D i:=λi h=>oG1 (by omega) (by omega) h
 -- what lies left of the cut is less than what lies right of it
 have X1:∀c q,a<=c->c<s->ar+m-s<=q->q<b->ltK k (D c) (D q):=λc q c1 c2 q1 q2=>by
  rcases Ab lo s with hl|hl
  ·obtain⟨y1,y2,y3,y4,y5⟩:=h.in (c:=s-1) (by omega) (by omega)
   have:=h1 (s-1) (by omega) (by omega)
   rw[<-zV (ap _ _ y1 y2 y3 y4)]at this;exact s1.ge (j:=s-1) c1 (by omega) y2 (s2.le y3 (by omega) q2 this)
  ·exfalso
   obtain⟨h3,h4,h5,h6,h7,h8⟩:=h;omega
 have X2:∀q c,m<=q->q<ar+m-s->s<=c->c<m->ltK k (D q) (D c):=λq c q1 q2 c1 c2=>by
  rcases Ab s hi with hl|hl
  ·obtain⟨y1,y2,y3,y4,y5⟩:=h.in (c:=s) (by omega) hl
   have:=h2 s (Ac _) hl
   rw[<-mT (ap _ _ y1 y2 y3 y4)]at this;exact s1.le y1 c1 c2 (s2.ge q1 (by omega) y4 this)
  ·exfalso
   obtain⟨h3,h4,h5,h6,h7,h8⟩:=h;omega
 refine⟨?_,?_,?_,?_,?_,?_,?_⟩
 ·grind [Srt]
 ·intro i j i1 i2 i3
  rw[A2 i i1 (by omega),A2 j (by omega) i3];exact s2 _ _ (by omega) (by omega) (by omega)
 ·intro i j i1 i2 i3
  rw[A3 i i1 (by omega),A3 j (by omega) i3];exact s1 _ _ (by omega) (by omega) (by omega)
 ·intro i j i1 i2 i3
  rw[A4 i i1,A4 j (by omega)];exact s2 _ _ (by omega) (by omega) (by omega)
 ·intro i j i1 i2 i3 i4
  rw[A1 i i2,A2 j i3 i4];exact ap _ _ i1 (by omega) (by omega) (by omega)
 ·intro i j i1 i2 i3 i4
  rw[A3 i i1 i2,A4 j i3];exact ap _ _ (by omega) (by omega) (by omega) i4
 ·intro i j i1 i2 i3 i4
  rcases Ab i s with h3|h3
  ·rw[A1 i h3]
   rcases Ab j (ar+m-s) with h4|h4
   ·rw[A3 j i3 h4];exact s1 _ _ i1 (by omega) (by omega)
   simp_all
  ·rw[A2 i h3 i2]
   rcases Ab j (ar+m-s) with h4|h4
   ·rw[A3 j i3 h4];exact X2 _ _ (by omega) (by omega) (by omega) (by omega)
   ·rw[A4 j h4];exact s2 _ _ (by omega) (by omega) (by omega)
theorem iW {k D1 D2 D3:Nat->Nat} {a ar b:Nat} (ham:a<=ar) (hmb:ar<=b) (hx:∀i j,a<=i->i<ar->ar<=j->j<b->ltK k (D1 i) (D1 j)) (e1:fB D1 D2 a ar) (s1:Srt k D2 a ar) (e2:fB D2 D3 ar b) (s2:Srt k D3 ar b) :
  Srt k D3 a b/\fB D1 D3 a b:=by
 refine⟨iA1 (m:=ar) (s1.of_eq λi h1 h2=>e2.out i (Or.inl h2)) s2 ?_,(e1.wide (Ac _) hmb).trans (e2.wide ham (Ac _))⟩;intro i j i1 i2 j1 j2;rw[e2.out i (Or.inl i2)];obtain⟨i',p1,p2,p3⟩:=e1.fro i i1 i2;obtain⟨j',q1,q2,q3⟩:=e2.fro j j1 j2;rw[p3,q3,e1.out j' (Or.inr q1)];simp_all
structure Win (k D:Nat->Nat) (a b:Nat):Prop where
 srt:Srt k D a b
 inn:∀i,a<=i->i<b->a<=D i/\D i<b
 all:∀v,a<=v->v<b->∃i,a<=i/\i<b/\D i=v
theorem Win.none (k D:Nat->Nat) (a:Nat):Win k D a a:=⟨λi j h1 h2 h3=>by omega,λi h1 h2=>by omega,λv h1 h2=>by omega⟩
theorem Win.apt {k D:Nat->Nat} {a m b:Nat} (h1:Win k D a m) (h2:Win k D m b):Apt D a m b:=λi j i1 i2 j1 j2=>by
 have:=h1.inn i i1 i2
 have:=h2.inn j j1 j2
 omega
theorem Win.merge {k D D':Nat->Nat} {a m b:Nat} (h1:Win k D a m) (h2:Win k D m b) (ham:a<=m) (hmb:m<=b) (hs:fB D D' a b) (h:Srt k D' a b):Win k D' a b:=by
 refine⟨h,λi i1 i2=>?_,λv v1 v2=>?_⟩
 ·obtain⟨j,j1,j2,e⟩:=hs.fro i i1 i2
  rw[e];rcases Ab j m with hj|hj
  ·have:=h1.inn j j1 hj;omega
  ·have:=h2.inn j hj j2;omega
 ·rcases Ab v m with hv|hv
  ·obtain⟨j,j1,j2,e⟩:=h1.all v v1 hv
   obtain⟨i,i1,i2,e2⟩:=hs.to j j1 (by omega);grind
  ·obtain⟨j,j1,j2,e⟩:=h2.all v hv v2
   obtain⟨i,i1,i2,e2⟩:=hs.to j (by omega) j2;grind
theorem Win.of_eq {k D D':Nat->Nat} {a b:Nat} (h:Win k D a b) (he:∀i,a<=i->i<b->D' i=D i):Win k D' a b :=
 ⟨h.srt.of_eq he,λi h1 h2=>by rw[he i h1 h2];exact h.inn i h1 h2,λv h1 h2=>by obtain⟨i,a,b,c⟩:=h.all v h1 h2;grind⟩
def kU1 (k D:Nat->Nat) (B n:Nat):Prop:=∀t,t*B<n->Win k D (t*B) (min (t*B+B) n)
theorem iM {α:Type} {r:α->α->Prop} (ahu:∀a, ¬r a a) (htr:∀a b c,r a b->r b c->r a c):∀ {l1 l2:List α},l1.Pairwise r->l2.Pairwise r->(∀x,x∈l1↔x∈l2)->l1=l2
 | [],[],_,_,_=>rfl
 | [],y::_,_,_,h=>by have:=(h y).2 (by simp);simp at this
 | x::_,[],_,_,h=>by have:=(h x).1 (by simp);simp at this
 | x::l1,y::l2,h1,h2,h=>by
  obtain⟨a1,a2⟩:=List.pairwise_cons.1 h1;obtain⟨b1,b2⟩:=List.pairwise_cons.1 h2
  have p8:x=y:=by
   rcases List.mem_cons.1 ((h x).1 (by simp)) with e|e
   ·exact e
   ·rcases List.mem_cons.1 ((h y).2 (by simp)) with e2|e2
    ·exact e2.symm
    grind
  subst p8;rw[iM ahu htr a2 b2 λz=>?_];grind
end
section
open Go Go.RowKit
attribute [local go_sem] aM
theorem aE1 (p:cH) (name:ByteArray) (b:Nat) (w:World) (hc:w.cell? ⟨b,0,none⟩=some (.string name)) (hb:b<w.heap.size) :
  Calls Tryz.prog 189 #[.agg #[.string p.name,.int .i64 p.kind],.pointer (some ⟨b,0,none⟩)] w λe w'=>e=.returned (.bool (seq p.name name))/\Grows w w':=by
 have ai:b≠w.heap.size:=by omega
 go_enter Tryz.func189,Tryz.ntmps189
 go_wp2
 go_ret;exact⟨rfl,Grows.alloc _ _⟩
def rR1 (o:Option Nat):Int:=match o with|some k=>k|none => -1
theorem iA0 (l:List cH) (name:ByteArray) (a:Option Addr) (cap b:Nat) (w:World) (hl:l.length<=4611686018427387904) (hs:aF w a 2 (l.map bG)) (hc:w.cell? ⟨b,0,none⟩=some (.string name)) :
  Calls Tryz.prog 188 #[.slice a l.length cap,.func (.func 189) #[] #[.pointer (some ⟨b,0,none⟩)]] w λe w'=>e=.returned (.int .i64 (rR1 (posFind l name)))/\Grows w w':=by
 have HS:=Ao hs;have HC:=Ao hc;clear hs hc;go_enter Tryz.func188,Tryz.ntmps188
 go_wp2
 go_loopw [8] (λi wr=>∃k:Nat,k<=l.length/\i=.int .i64 k/\Hid (∀j q,j<k->l[j]?=some q->seq q.name name=false)/\Grows w wr) (λi _=>l.length-(intOf i).toNat)
 case atStart=>exact⟨0,Av _,rfl,λj q hj=>by omega,Grows.refl _⟩
 case round =>
  obtain⟨k,hk,rfl,hz,hg⟩:=hrel;by_cases ae:k<l.length
  ·obtain⟨p,hp⟩:∃p,l[k]?=some p:=⟨_,Ae ae⟩
   obtain⟨bl,off,rfl,bv⟩:=(HS.out.grows hg).get (aH ae);have c0:wr.cell? ⟨bl,off+k*2,none⟩=some (.string p.name):=bv k p hp 0 _ rfl;have c1:wr.cell? ⟨bl,off+k*2+1,none⟩=some (.int .i64 p.kind):=bv k p hp 1 _ rfl;clear bv;have HP:=Ao hp;clear hp;have il:=aE1 p name b wr (hg.cell HC.out) (World.block_lt_of_cell? wr _ (hg.cell HC.out));have HCON:=Ao il;clear il;cases hq:seq p.name name
   ·rw[hq]at HCON
    have HQ:=Ao hq;clear hq;go_wp2_with (go_at_call 189;refine HCON.out.mono ?_;rintro e w' ⟨rfl,af⟩)
    go_roundw
    case rel=>exact⟨k+1,by omega,by go_num,λj q hj hq=>by
     rcases Nat.lt_succ_iff_lt_or_eq.1 hj with h|rfl
     ·exact hz.out j q h hq
     ·rw[HP.out]at hq;obtain rfl:=Option.some.inj hq;exact HQ.out,hg.tr af⟩
    case measure=>simp[intOf];omega
   ·rw[hq]at HCON
    have au:=Ao (cI0 HP.out hz.out hq);clear hq;go_wp2_with (go_at_call 189;refine HCON.out.mono ?_;rintro e w' ⟨rfl,af⟩)
    go_ret;exact⟨by rw[au.out];rfl,hg.tr af⟩
  ·obtain rfl:k=l.length:=by omega
   have au:=Ao (yJ hz.out);go_wp2
   go_ret;exact⟨by rw[au.out];rfl,hg⟩
def yP0 (o:Option Nat):Int:=match o with|some k=>k|none=>0
theorem pP0 (l:List cH) (name:ByteArray) (a:Option Addr) (cap:Nat) (w:World) (hl:l.length<=4611686018427387904) (hs:aF w a 2 (l.map bG)) :
  Calls Tryz.prog 134 #[.slice a l.length cap,.string name] w λe w'=>e=.returned (.tuple #[.int .i64 (yP0 (posFind l name)),.bool (posFind l name).isSome])/\Grows w w':=by
 have il:=Ao (iA0 l name a cap w.heap.size (w.alloc (.cells #[.string name] 9)) hl (hs.grows (Grows.alloc _ _)) (aT _ _ _ _ _ _ rfl));clear hs
 cases hq:posFind l name with
 | none =>
  rw[hq]at il;clear hq;go_enter Tryz.func134,Tryz.ntmps134
  go_wp2_with (go_at_call 188;refine il.out.mono ?_;rintro e w' ⟨rfl,af⟩)
  go_ret2;exact⟨rfl,(Grows.alloc _ _).tr af⟩
 | some k =>
  rw[hq]at il;clear hq;go_enter Tryz.func134,Tryz.ntmps134
  go_wp2_with (go_at_call 188;refine il.out.mono ?_;rintro e w' ⟨rfl,af⟩)
  go_ret2;exact⟨rfl,(Grows.alloc _ _).tr af⟩
end
section
open Go Go.RowKit
theorem rX {P:Program} {d:Nat} {t:TypeId} {fs:Array Field} {cs:List Value} (h:P.underlying t=some (.struct fs)) :
  P.keyLits (d + 1) t cs = if cs.length = P.cellsOf t ∧ fs.all (·.name != "_") = true then (fs.toList.mapM fun f => P.keyLits d f.type ((cs.drop f.offset).take (P.cellsOf f.type))).map List.flatten else none := by
 conv=>lhs;unfold Program.keyLits
 simp only[h]
def aA1 (x:Int×Int):Value := .agg #[.int .i64 x.1,.int .i64 x.2]
def WfI (n:Int):Prop:=(Lit.int .i64 n).wf=true
def klP (x:Int×Int):Lit := .string (keyBytes [.int .i64 x.1,.int .i64 x.2])
theorem tF0:laidOutB Tryz.prog=true:=by kernel_rfl
theorem uA:Go.Maps.Keyed Tryz.prog 164:=Go.Maps.Keyed.of_law (deep_law_laid tF0 (m:=3) (by decide) (of_decide_eq_true (by kernel_rfl)) (by kernel_rfl) (by kernel_rfl))
theorem oV1 {x:Int×Int} (h1:WfI x.1) (h2:WfI x.2):Go.keyOf Tryz.prog 164 (aA1 x)=some (klP x):=by
 obtain⟨m,hm⟩:∃m,Tryz.prog.types.size=m+1:=⟨Tryz.prog.types.size-1,by have:0<Tryz.prog.types.size:=of_decide_eq_true (by kernel_rfl);omega⟩
 have hI:∀(n:Int),WfI n->Tryz.prog.keyLits (m+1) 3 [.int .i64 n]=some [.int .i64 n]:=λn hn=>by
  unfold Program.keyLits;unfold WfI at hn;simp only[Tryz.underlying3,hn,and_self,if_true]
 have hk:Tryz.prog.keyType 164=true:=by kernel_rfl
 have hc:Tryz.prog.cellsOf 164=2:=by kernel_rfl
 have hci:Tryz.prog.cellsOf 3=1:=by kernel_rfl
 obtain⟨a,b⟩:=x;have g1:=hI a h1;have g2:=hI b h2;unfold Go.keyOf;simp only[Tryz.underlying164,hk,Bl];unfold Value.formed aA1;simp only[Tryz.underlying164,hc];have hz:((#[Value.int .i64 a,.int .i64 b]:Array Value).size==2)=true:=rfl;rw[if_pos hz,hm];unfold Program.keyLits;simp only[Tryz.underlying164,hc,Value.cells];simp[hci,g1,g2,klP]
theorem oR0 {x y:Int×Int} (h1:WfI x.1) (h2:WfI x.2) (h3:WfI y.1) (h4:WfI y.2) (h:klP x=klP y):x=y:=by
 have k1:=oV1 h1 h2;have k2:=oV1 h3 h4;rw[h]at k1
 have:=uA.inj k1 k2
 obtain⟨a,b⟩:=x;obtain⟨a',b'⟩:=y;simpa [aA1] using this
theorem jA0 {key:Value} {kl:Lit} (h:Go.keyOf Tryz.prog 164 key=some kl):∃x:Int×Int,WfI x.1/\WfI x.2/\key=aA1 x/\kl=klP x:=by
 obtain⟨m,hm⟩:∃m,Tryz.prog.types.size=m+1:=⟨Tryz.prog.types.size-1,by have:0<Tryz.prog.types.size:=of_decide_eq_true (by kernel_rfl);omega⟩
 have hI:∀(v:Value) (ls:List Lit),Tryz.prog.keyLits (m+1) 3 [v]=some ls->∃n:Int,v=.int .i64 n/\WfI n/\ls=[.int .i64 n]:=λv ls h=>by
  unfold Program.keyLits at h;simp only[Tryz.underlying3]at h;cases v<;>simp at h
  obtain⟨⟨rfl,h2⟩,h3⟩:=h;exact⟨_,rfl,h2,h3.symm⟩
 have hk:Tryz.prog.keyType 164=true:=by kernel_rfl
 have hc:Tryz.prog.cellsOf 164=2:=by kernel_rfl
 have hci:Tryz.prog.cellsOf 3=1:=by kernel_rfl
 unfold Go.keyOf at h;simp only[Tryz.underlying164,hk,Bl]at h;split at h
 ·rename_i hf
  rw[hm]at h
  obtain⟨cs,rfl,di⟩:∃cs,key=.agg cs/\cs.size=2:=by
   unfold Value.formed at hf;cases key<;>simp[Tryz.underlying164,hc]at hf
   exact⟨_,rfl,hf⟩
  obtain⟨l⟩:=cs
  match l,di with
  | [c0,c1],_ =>
   rw[rX Tryz.underlying164]at h;simp only[Value.cells]at h;simp[hci,hc,Option.bind_eq_some_iff,List.mapM_cons]at h;obtain⟨l0,g0,ls,⟨l1,g1,rfl⟩,rfl⟩:=h;obtain⟨n2,rfl,z2,rfl⟩:=hI _ _ g0;obtain⟨n3,rfl,z3,rfl⟩:=hI _ _ g1;exact⟨⟨n2,n3⟩,z2,z3,rfl,by simp[klP]⟩
 ·cases h
end
end Go.Proofs.YtheiocndipepaaaGreatDoor
