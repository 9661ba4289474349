/- The texts Cmp EnD OrderP LoudP LoudQ LoudR LoudT, one behind the other. -/
import Derived.Test.YtcijgkfpobpdbaaGreatDoorProg
import Derived.Test.YtcijgkfpobpdbaaGreatDoorBq2
import Derived.WalkKit
import Derived.WalkLawsBesides
import Derived.Lib.Hide
import Derived.Test.YtcijgkfpobpdbaaGreatDoorBq1
open Go.Op renaming bytesLess → Aa
open Bool renaming and_eq_true → Ab,or_eq_true → Ai
open List renaming getElem?_eq_getElem → Ac,mem_of_getElem? → Af,flatMap_cons → Ah,flatMap_append → Aj,filter_append → Ak,length_append → Al,take_add_one → Am,range' → An,filter_eq_nil_iff → Ap,range → Aq,range'_append_1 → Ar,map_append → As,getD_eq_getElem?_getD → Au,getElem?_append_right → Av,mem_range'_1 → Aw,length_cons → Ax,flatMap_map → Ay,range_succ_eq_map → Ba,range_succ → Bb,append_nil → Bc,map_congr_left → Bd,range'_concat → Bg,length_take → Bk,flatMap_nil → Bl,cons_append → Bn,take_length → Bo,filter_cons → Bp,filter_nil → Br,replicate → Bt
open Nat renaming le_refl → Ad,lt_or_ge → Ae,zero_le → Ag,succ_pos → At,lt_succ_self → Az,add_sub_cancel → Be,eq_zero_or_pos → Bf,le_trans → Bi,lt_succ_of_lt → Bj,lt_irrefl → Bu,add_zero → Bv,zero_add → Bw,sub_zero → By,one_mul → Bz
open Classical renaming byContradiction → Ao
open Option renaming toList_some → Bh
open ByteArray renaming empty → Bq
open Go.Lib renaming hid → Bs
set_option maxHeartbeats 400000
namespace Go.Proofs.YtcijgkfpobpdbaaGreatDoor
section
open Go Go.RowKit
def orI:List Int->Int
 | []=>0
 | z::l=>if z=0 then orI l else z
theorem hH0:∀(zs:List Int) (k:Nat),(∀j,j<k->zs[j]?.getD 0=0)->orI zs=orI (zs.drop k)
 | [],k,_=>by simp
 | z::l,0,_=>by simp
 | z::l,k+1,h=>by
  have h0:z=0:=by simpa using h 0 (by omega)
  simp only[orI,h0,if_true,List.drop_succ_cons];exact hH0 l k λj hj=>by simpa using h (j+1) (by omega)
theorem jP1 {zs:List Int} {k:Nat} (hk:k<zs.length) (h:∀j,j<k->zs[j]?.getD 0=0) (hz:zs[k]?.getD 0≠0):orI zs=zs[k]?.getD 0:=by
 rw[hH0 zs k h,List.drop_eq_getElem_cons hk,orI];simp[hk]at hz ⊢;simp[hz]
theorem eO1 {zs:List Int} (h:∀j,j<zs.length->zs[j]?.getD 0=0):orI zs=0:=by
 rw[hH0 zs _ h];simp[orI]
theorem iI1 (zs:List Int) (b off cap:Nat) (w:World) (hl:zs.length<=4611686018427387904) (hc:∀k,k<zs.length->w.cell? ⟨b,off+k,none⟩=some (.int .i64 (zs[k]?.getD 0))) :
  Calls Tryz.prog 167 #[.slice (some ⟨b,off,none⟩) zs.length cap] w λe w'=>e=.returned (.int .i64 (orI zs))/\w=w':=by
 have HC:=Bs hc;clear hc;go_enter Tryz.func167,Tryz.ntmps167
 go_wp2
 go_loop [8] (λi=>∃k:Nat,k<=zs.length/\i=.int .i64 k/\Hid (∀j,j<k->zs[j]?.getD 0=0)) (λi=>zs.length-(intOf i).toNat)
 case atStart=>exact⟨0,Ag _,rfl,λj hj=>by omega⟩
 case round =>
  obtain⟨k,hk,rfl,hz⟩:=hrel;by_cases ae:k<zs.length
  ·have jb:=HC.out k ae
   obtain⟨z,hze⟩:=exq (zs[k]?.getD 0);rw[<-hze]at jb;have HE:=Bs hze;clear hze;by_cases h0:z=0
   ·have h0':(z != 0)=false:=by simp[h0]
    have H0:=Bs h0;clear h0;go_wp2
    go_round
    case rel=>exact⟨k+1,by omega,by go_num,λj hj=>by
     rcases Nat.lt_succ_iff_lt_or_eq.1 hj with h|rfl
     ·exact hz.out j h
     ·rw[<-HE.out];exact H0.out⟩
    case measure=>simp[intOf];omega
   ·have h0':(z != 0)=true:=by simpa using h0
    have au:=Bs ((jP1 ae hz.out (by rw[<-HE.out];exact h0)).trans HE.out.symm);clear h0;go_wp2
    go_ret;exact⟨by rw[au.out];rfl,rfl⟩
  ·obtain rfl:k=zs.length:=by omega
   have au:=Bs (eO1 hz.out);go_wp2
   go_ret;exact⟨by rw[au.out];rfl,rfl⟩
def kF (x y:Int):Int:=if x<y then -1 else if y<x then 1 else 0
def yB (a b:ByteArray):Int:=if Aa a.toList b.toList then -1 else if !Aa a.toList b.toList && !(a.toList==b.toList) then 1 else 0
theorem xN (x y:Int) (w:World) :
  Calls Tryz.prog 169 #[.int .i64 x,.int .i64 y] w λe w'=>e=.returned (.int .i64 (kF x y))/\w=w':=by
 go_enter Tryz.func169,Tryz.ntmps169
 go_wp2
 all_goals (go_ret;refine⟨bN0 ?_,rfl⟩;unfold kF;(repeat' split)<;>first|rfl|(exfalso;omega))
theorem kV0 (x y:ByteArray) (w:World) :
  Calls Tryz.prog 168 #[.string x,.string y] w λe w'=>e=.returned (.int .i64 (yB x y))/\w=w':=by
 go_enter Tryz.func168,Tryz.ntmps168
 go_wp2
 all_goals (go_ret;exact⟨bN0 (by simp[yB, *]),rfl⟩)
structure En where
 r:ByteArray
 s:ByteArray
 l:Int
 t:Int
 c:Int
def aJ (x:En):List Value:=[.string x.r,.string x.s,.int .i64 x.l,.int .i64 x.t,.int .i64 x.c]
def enZero:En:=⟨Bq,Bq,0,0,0⟩
theorem lA (x:En):(aJ x).length=5:=rfl
def En.agg (x:En):Value := .agg #[.string x.r,.string x.s,.int .i64 x.l,.int .i64 x.t,.int .i64 x.c]
def oV (x y:En):Int:=orI [yB x.r y.r,kF x.c y.c,yB x.s y.s,kF x.l y.l,kF x.t y.t]
def lessS (x y:En):Bool:=decide (oV x y<0)
instance:DecidableEq En:=λx y=>decidable_of_iff (x.r=y.r/\x.s=y.s/\x.l=y.l/\x.t=y.t/\x.c=y.c) (by cases x; cases y; simp)
theorem gG {x y:ByteArray} (h:x.toList=y.toList):x=y:=zN.1 (by unfold seq; rw[h]; simp)
structure uO (x:En):Prop where
 r:x.r.size<=maxLen
 s:x.s.size<=maxLen
 l:(Lit.int .i64 x.l).wf=true
 t:(Lit.int .i64 x.t).wf=true
 c:(Lit.int .i64 x.c).wf=true
theorem bD0 (x:En):∀u∈aJ x,u.oneCell'=true:=by
 intro u hu;simp[aJ]at hu;rcases hu with rfl|rfl|rfl|rfl|rfl<;>rfl
theorem bytesLess_irrefl:∀l:List UInt8,Aa l l=false
 | []=>rfl
 | x::l=>by simp[Aa,bytesLess_irrefl l]
theorem gA:∀ {a b c:List UInt8},Aa a b=true->Aa b c=true->Aa a c=true
 | [],_,[],_,h=>by cases ‹List UInt8› <;> simp[Aa]at h
 | [],_,_::_,_,_=>rfl
 | _::_,[],_,h,_=>by simp[Aa]at h
 | _::_,_::_,[],_,h=>by simp[Aa]at h
 | x::a,y::b,z::c,h1,h2=>by
  simp only[Aa,Ai,Ab,decide_eq_true_eq,beq_iff_eq]at h1 h2 ⊢;rcases h1 with h1|⟨rfl,h1⟩<;>rcases h2 with h2|⟨rfl,h2⟩
  ·exact Or.inl (Nat.lt_trans h1 h2)
  ·exact Or.inl h1
  ·exact Or.inl h2
  ·exact Or.inr ⟨rfl,gA h1 h2⟩
theorem dI:∀ {a b:List UInt8},Aa a b=false->a≠b->Aa b a=true
 | [],[],_,h=>absurd rfl h
 | [],_::_,h,_=>by simp[Aa]at h
 | _::_,[],_,_=>rfl
 | x::a,y::b,h1,h2=>by
  simp only[Aa,Bool.or_eq_false_iff,Bool.and_eq_false_iff,decide_eq_false_iff_not,beq_eq_false_iff_ne,Ai,Ab,decide_eq_true_eq,beq_iff_eq]at h1 ⊢;obtain⟨h1,h3⟩:=h1;by_cases us:y<x
  ·exact Or.inl us
  ·have h4:x.toNat=y.toNat:=by
    have h5:¬x.toNat<y.toNat:=h1;have h6:¬y.toNat<x.toNat:=us;omega
   obtain rfl:x=y:=UInt8.toNat_inj.1 h4;rcases h3 with h3|h3
   ·exact absurd rfl h3
   ·exact Or.inr ⟨rfl,dI h3 (λh=>h2 (by rw[h]))⟩
structure iJ1 {α:Type} (f:α->α->Int):Prop where
 zero:∀x y,f x y=0↔x=y
 trans:∀x y z,f x y<0->f y z<0->f x z<0
 flip:∀x y,f x y<0↔0<f y x
theorem gL0:iJ1 kF where
 zero x y:=by unfold kF;split<;>(try split)<;>omega
 trans x y z:=by unfold kF;intro h1 h2;split at h1<;>split at h2<;>(try split at h1)<;>(try split at h2)<;>(split<;>omega)
 flip x y:=by unfold kF;split<;>(try split)<;>(try split)<;>omega
theorem vE (a b:ByteArray):yB a b=if Aa a.toList b.toList then -1 else if a=b then 0 else 1:=by
 unfold yB;by_cases h1:Aa a.toList b.toList=true
 ·rw[if_pos h1,if_pos h1]
 ·rw[if_neg h1,if_neg h1]
  by_cases h2:a=b
  ·simp[h2]
  ·have h3:(a.toList==b.toList)=false:=by
    rw[beq_eq_false_iff_ne];exact λh=>h2 (gG h)
   simp[h1,h2,h3]
theorem lL {a b:List UInt8} (h:Aa a b=true):¬Aa b a=true:=λh2=>by
 have:=gA h h2
 rw[bytesLess_irrefl]at this;cases this
theorem oK0:iJ1 yB where
 zero x y:=by
  rw[vE];split
  ·rename_i h
   refine⟨λh=>by omega,λe=>?_⟩;rw[e,bytesLess_irrefl]at h;cases h
  ·split
   ·rename_i h;simp[h]
   ·rename_i h;simp[h]
 trans x y z:=by
  rw[vE,vE,vE];intro h1 h2
  have g1:Aa x.toList y.toList=true:=by
   by_cases h:Aa x.toList y.toList=true
   ·exact h
   ·rw[if_neg h]at h1;split at h1<;>omega
  have g2:Aa y.toList z.toList=true:=by
   by_cases h:Aa y.toList z.toList=true
   ·exact h
   ·rw[if_neg h]at h2;split at h2<;>omega
  rw[if_pos (gA g1 g2)];omega
 flip x y:=by
  rw[vE,vE];by_cases h:Aa x.toList y.toList=true
  ·have h2:=lL h
   have h3:¬y=x:=λe=>by rw[e,bytesLess_irrefl]at h;cases h
   rw[if_pos h,if_neg h2,if_neg h3];omega
  ·rw[if_neg h]
   by_cases e:x=y
   ·subst e;rw[if_pos rfl,if_neg h]
   ·have h2:=dI (by simpa using h) (λh=>e (gG h))
    rw[if_neg e,if_pos h2];omega
def gY1 {α β:Type} (f:α->α->Int) (g:β->β->Int) (x y:α×β):Int:=if f x.1 y.1=0 then g x.2 y.2 else f x.1 y.1
theorem iJ1.refl {α:Type} {f:α->α->Int} (h:iJ1 f) (x:α):f x x=0:=(h.zero x x).2 rfl
theorem jQ {α β:Type} {f:α->α->Int} {g:β->β->Int} (hf:iJ1 f) (hg:iJ1 g):iJ1 (gY1 f g) where
 zero x y:=by
  unfold gY1;by_cases h:f x.1 y.1=0
  ·rw[if_pos h,hg.zero]
   have:=(hf.zero _ _).1 h
   constructor
   ·intro h2;exact Prod.ext this h2
   ·intro h2;rw[h2]
  ·rw[if_neg h]
   exact⟨λh2=>absurd h2 h,λh2=>absurd (by rw[h2];exact hf.refl _) h⟩
 trans x y z:=by
  unfold gY1;intro h1 h2;by_cases e1:f x.1 y.1=0
  ·rw[if_pos e1]at h1
   have e:=(hf.zero _ _).1 e1;rw[e];by_cases e2:f y.1 z.1=0
   ·rw[if_pos e2]at h2 ⊢;exact hg.trans _ _ _ h1 h2
   ·rw[if_neg e2]at h2 ⊢;exact h2
  ·rw[if_neg e1]at h1
   by_cases e2:f y.1 z.1=0
   ·have e:=(hf.zero _ _).1 e2
    rw[<-e,if_neg e1];exact h1
   ·rw[if_neg e2]at h2
    have h3:=hf.trans _ _ _ h1 h2;rw[if_neg (by omega)];exact h3
 flip x y:=by
  unfold gY1;have hz:f x.1 y.1=0↔f y.1 x.1=0:=by rw[hf.zero,hf.zero];exact eq_comm
  by_cases e1:f x.1 y.1=0
  ·rw[if_pos e1,if_pos (hz.1 e1)];exact hg.flip _ _
  ·rw[if_neg e1,if_neg (λh=>e1 (hz.2 h))];exact hf.flip _ _
def eB1 (x:En):ByteArray×Int×ByteArray×Int×Int:=(x.r,x.c,x.s,x.l,x.t)
theorem mU (x y:En):oV x y=gY1 yB (gY1 kF (gY1 yB (gY1 kF kF))) (eB1 x) (eB1 y):=by
 have hl:∀z:Int,orI [z]=z:=λz=>by unfold orI;split<;>simp_all [orI]
 unfold oV gY1 eB1;simp only[orI];repeat' split
 all_goals simp_all
theorem lR0:iJ1 oV where
 zero x y:=by
  rw[mU,(jQ oK0 (jQ gL0 (jQ oK0 (jQ gL0 gL0)))).zero];constructor
  ·intro h
   obtain⟨xr,xs,xl,xt,xc⟩:=x;obtain⟨yr,ys,yl,yt,yc⟩:=y;simp only[eB1,Prod.mk.injEq]at h;obtain⟨rfl,rfl,rfl,rfl,rfl⟩:=h;rfl
  ·intro h;rw[h]
 trans x y z:=by rw[mU,mU,mU];exact(jQ oK0 (jQ gL0 (jQ oK0 (jQ gL0 gL0)))).trans _ _ _
 flip x y:=by rw[mU,mU];exact(jQ oK0 (jQ gL0 (jQ oK0 (jQ gL0 gL0)))).flip _ _
theorem kY {x y z:En} (h1:lessS x y=true) (h2:lessS y z=true):lessS x z=true:=by
 unfold lessS at *;simp only[decide_eq_true_eq] at *;exact lR0.trans _ _ _ h1 h2
theorem fU (x:En):lessS x x=false:=by
 unfold lessS;rw[lR0.refl];simp
theorem sH {x y:En} (h:x≠y):lessS y x = !lessS x y:=by
 unfold lessS;have h1:=lR0.flip x y;have h2:oV x y≠0:=λh0=>h ((lR0.zero _ _).1 h0);have h3:=lR0.flip y x;by_cases h4:oV x y<0
 ·have h5:¬oV y x<0:=by have:=h1.1 h4;omega
  simp[h4,h5]
 ·have h5:oV y x<0:=h3.2 (by omega)
  simp[h4,h5]
end
section
open Go
def pC:List UInt8->List UInt8->Nat
 | a::x,b::y=>if a=b then pC x y+1 else 0
 | _,_=>0
theorem qO (b:List UInt8):pC [] b=0:=by cases b<;>rfl
theorem pK (a:List UInt8):pC a []=0:=by cases a<;>rfl
theorem zD:∀(a b:List UInt8),pC a b<=a.length/\pC a b<=b.length
 | [],b=>by rw[qO];exact⟨Ag _,Ag _⟩
 | a::x,[]=>by rw[pK];exact⟨Ag _,Ag _⟩
 | a::x,b::y=>by
  have:=zD x y
  unfold pC;split
  ·simp only[Ax];omega
  ·exact⟨Ag _,Ag _⟩
theorem cF0:∀(a:List UInt8),pC a a=a.length
 | []=>rfl
 | a::x=>by unfold pC;rw[if_pos rfl,cF0 x];rfl
theorem jF:∀(e:Nat) (a b:List UInt8),e<=pC a b↔e<=a.length/\e<=b.length/\a.take e=b.take e
 | 0,a,b=>by simp
 | e+1,[],b=>by rw[qO];simp
 | e+1,a::x,[]=>by rw[pK];simp
 | e+1,a::x,b::y=>by
  unfold pC;by_cases h:a=b
  ·subst h
   rw[if_pos rfl]
   have:=jF e x y
   simp only[Ax,List.take_succ_cons,List.cons.injEq,true_and,Nat.add_le_add_iff_right];exact this
  ·rw[if_neg h]
   simp[h]
theorem bW0 {e:Nat} {a b:List UInt8} (h:e<=pC a b) (ha:e<a.length) (hb:e<b.length):e+1<=pC a b↔a[e]?=b[e]?:=by
 rw[jF]at h ⊢;obtain⟨_,_,h⟩:=h;rw[Am,Am,h];constructor
 ·rintro⟨_,_,h2⟩
  have h3:=List.append_cancel_left h2;rw[Ac ha,Ac hb]at h3 ⊢;simpa using h3
 ·intro h2
  exact⟨ha,hb,by rw[h2]⟩
theorem pV:∀(e:Nat) {a b c:List UInt8},Aa a b=true->Aa b c=true->e<=pC a c->e<=pC a b/\e<=pC b c
 | 0,_,_,_,_,_,_=>⟨Ag _,Ag _⟩
 | e+1,[],_,c,_,_,h=>by rw[qO]at h;omega
 | e+1,_::_,_,[],_,_,h=>by rw[pK]at h;omega
 | e+1,_::_,[],_::_,h,_,_=>by simp[Aa]at h
 | e+1,x::a,y::b,z::c,h1,h2,h=>by
  unfold pC at h;split at h
  case isFalse=>omega
  rename_i hxz
  subst hxz;simp only[Aa,Ai,Ab,decide_eq_true_eq,beq_iff_eq]at h1 h2
  have us:x=y:=by
   rcases h1 with h1|h1
   ·rcases h2 with h2|h2
    ·have a1:x.toNat<y.toNat:=h1
     have a2:y.toNat<x.toNat:=h2;omega
    ·exact h2.1.symm
   ·exact h1.1
  subst us;have ae:¬x<x:=λh:x.toNat<x.toNat=>Bu _ h
  have k1:Aa a b=true:=by
   rcases h1 with h1|h1
   ·exact absurd h1 ae
   ·exact h1.2
  have k2:Aa b c=true:=by
   rcases h2 with h2|h2
   ·exact absurd h2 ae
   ·exact h2.2
  have:=pV e k1 k2 (by omega)
  unfold pC;rw[if_pos rfl,if_pos rfl];omega
theorem sG0 {e:Nat} {a b c:List UInt8} (h1:e<=pC a b) (h2:e<=pC b c):e<=pC a c:=by
 rw[jF] at *;exact⟨h1.1,h2.2.1,h1.2.2.trans h2.2.2⟩
theorem aW0:∀(a b:List UInt8),pC a b=pC b a
 | [],b=>by rw[qO,pK]
 | a::x,[]=>by rw[qO,pK]
 | a::x,b::y=>by
  unfold pC;by_cases h:a=b
  ·rw[if_pos h,if_pos h.symm,aW0 x y]
  ·rw[if_neg h,if_neg (Ne.symm h)]
theorem pB:∀ {a b:List UInt8},Aa a b=true->pC a b<b.length
 | [],[],h=>by simp[Aa]at h
 | [],_::_,_=>by rw[qO];simp
 | _::_,[],h=>by simp[Aa]at h
 | x::a,y::b,h=>by
  simp only[Aa,Ai,Ab,decide_eq_true_eq,beq_iff_eq]at h;unfold pC;split
  ·rename_i us
   subst us;have ae:¬x<x:=λh:x.toNat<x.toNat=>Bu _ h;rcases h with h|h
   ·exact absurd h ae
   ·have:=pB h.2
    simp only[Ax];omega
  ·simp
def nth (L:List (List UInt8)) (j:Nat):List UInt8:=L.getD j []
theorem tY {L:List (List UInt8)} {j:Nat} {x:List UInt8} (h:L[j]?=some x):nth L j=x:=by
 unfold nth;rw[Au,h];rfl
theorem gT {L:List (List UInt8)} {j:Nat} (h:j<L.length):L[j]?=some (nth L j):=by
 rw[Ac h,<-tY (Ac h)]
def cAt (L:List (List UInt8)) (j:Nat):Nat:=pC (nth L (j-1)) (nth L j)
def Asc (L:List (List UInt8)):Prop:=∀j,j+1<L.length->Aa (nth L j) (nth L (j+1))=true
theorem Asc.lt {L:List (List UInt8)} (h:Asc L):∀(j i:Nat),i<j->j<L.length->Aa (nth L i) (nth L j)=true
 | 0,i,hi,_=>by omega
 | j+1,i,hi,hj=>by
  rcases Ae i j with h1|h1
  ·exact gA (h.lt j i h1 (by omega)) (h j hj)
  ·rw[show i=j by omega];exact h j hj
theorem Asc.all {L:List (List UInt8)} (h:Asc L) {e i j m:Nat} (hj:j<L.length) (oh:i<m) (na:m<=j) (he:e<=pC (nth L i) (nth L j)):e<=cAt L m:=by
 have h1:e<=pC (nth L (m-1)) (nth L j):=by
  rcases Ae i (m-1) with h1|h1
  ·exact(pV e (h.lt _ _ h1 (by omega)) (h.lt _ _ (by omega) hj) he).2
  ·rw[show m-1=i by omega];exact he
 unfold cAt;rcases Ae m j with h2|h2
 ·exact(pV e (h.lt _ _ (by omega) (by omega)) (h.lt _ _ h2 hj) h1).1
 ·obtain rfl:m=j:=by omega
  exact h1
theorem qJ {L:List (List UInt8)} {e i:Nat} (hi:e<=(nth L i).length):∀(j:Nat),i<=j->(∀m,i<m->m<=j->e<=cAt L m)->e<=pC (nth L i) (nth L j)
 | 0,hj,_=>by
  obtain rfl:i=0:=by omega
  rw[cF0];exact hi
 | j+1,hj,h=>by
  rcases Ae i (j+1) with h1|h1
  ·exact sG0 (qJ hi j (by omega) (λm a b=>h m a (by omega))) (h (j+1) h1 (Ad _))
  ·obtain rfl:i=j+1:=by omega
   rw[cF0];exact hi
def fP1 (p:Nat->Bool) (t:Nat):Nat->Nat->Nat
 | 0,k=>k
 | f+1,k=>if k<t/\p k=true then fP1 p t f (k+1) else k
def sT (p:Nat->Bool) (t k:Nat):Nat:=fP1 p t (t-k) k
theorem vB {p:Nat->Bool} {t k:Nat} (h:k<t) (hp:p k=true):sT p t k=sT p t (k+1):=by
 unfold sT;rw[show t-k=(t-(k+1))+1 by omega,fP1,if_pos ⟨h,hp⟩]
theorem kU {p:Nat->Bool} {t k:Nat} (h:¬(k<t/\p k=true)):sT p t k=k:=by
 unfold sT
 cases hf:t-k with
 | zero=>rfl
 | succ f=>rw[fP1,if_neg h]
theorem uR (p:Nat->Bool) (t:Nat):∀(f k:Nat),t-k=f->k<=t->k<=sT p t k/\sT p t k<=t/\(∀j,k<=j->j<sT p t k->p j=true)/\(sT p t k<t->p (sT p t k)=false)
 | 0,k,hf,hk=>by
  rw[kU (by omega)];exact⟨Ad _,hk,λj a b=>by omega,λa=>by omega⟩
 | f+1,k,hf,hk=>by
  by_cases h:k<t/\p k=true
  ·rw[vB h.1 h.2]
   obtain⟨a,b,c,d⟩:=uR p t f (k+1) (by omega) (by omega);refine⟨by omega,b,λj h1 h2=>?_,d⟩;rcases Ae k j with h3|h3
   ·exact c j h3 h2
   ·rw[show j=k by omega];exact h.2
  ·rw[kU h]
   refine⟨Ad _,hk,λj a b=>by omega,λa=>?_⟩;simpa [a] using h
structure dH where
 i:Nat
 t:Nat
 d:Nat
def kE (L:List (List UInt8)) (d i k:Nat):Bool:=(nth L k)[d]?==(nth L i)[d]?
def dW (L:List (List UInt8)) (d t i:Nat):Nat:=sT (kE L d i) t (i+1)
def mH (L:List (List UInt8)) (d t:Nat):Nat->Nat->List dH
 | 0,_=>[]
 | f+1,i=>if i<t then ⟨i,dW L d t i,d+1⟩::mH L d t f (dW L d t i) else []
theorem uC (L:List (List UInt8)) {d t i:Nat} (h:i<t):i<dW L d t i/\dW L d t i<=t:=by
 have:=uR (kE L d i) t _ (i+1) rfl h
 exact⟨this.1,this.2.1⟩
theorem zI (L:List (List UInt8)) (d t:Nat):∀(f g i:Nat),t-i<=f->t-i<=g->mH L d t f i=mH L d t g i
 | 0,0,_,_,_=>rfl
 | 0,g+1,i,hf,_=>by rw[mH,mH,if_neg (by omega)]
 | f+1,0,i,_,hg=>by rw[mH,mH,if_neg (by omega)]
 | f+1,g+1,i,hf,hg=>by
  rw[mH,mH];split
  ·rename_i h
   have:=uC L (d:=d) h
   rw[zI L d t f g _ (by omega) (by omega)]
  ·rfl
def fB (L:List (List UInt8)) (d t i:Nat):List dH:=mH L d t (t-i) i
theorem eC {L:List (List UInt8)} {d t i:Nat} (h:i<t):fB L d t i=⟨i,dW L d t i,d+1⟩::fB L d t (dW L d t i):=by
 have:=uC L (d:=d) h
 unfold fB;rw[show t-i=(t-i-1)+1 by omega,mH,if_pos h,zI L d t (t-i-1) (t-dW L d t i) _ (by omega) (by omega)]
theorem gB {L:List (List UInt8)} {d t i:Nat} (h:¬i<t):fB L d t i=[]:=by
 unfold fB;rw[show t-i=0 by omega];rfl
def iI (L:List (List UInt8)) (x:dH):Bool:=decide (x.i<x.t)&&(nth L x.i).length==x.d
def cF (L:List (List UInt8)) (x:dH):Nat:=if iI L x then x.i+1 else x.i
def eY (L:List (List UInt8)) (x:dH):List dH:=fB L x.d x.t (cF L x)
structure tH (L:List (List UInt8)) (x:dH):Prop where
 le:x.i<=x.t/\x.t<=L.length
 ne:x.i<x.t\/x.d=0
 len:∀j,x.i<=j->j<x.t->x.d<=(nth L j).length
 inn:∀j,x.i<j->j<x.t->x.d<=cAt L j
 lo:x.i=0\/cAt L x.i<x.d
 hi:x.t=L.length\/cAt L x.t<x.d
def rootS (L:List (List UInt8)):dH:=⟨0,L.length,0⟩
theorem kN0 (L:List (List UInt8)):tH L (rootS L):=⟨⟨Ag _,Ad _⟩,Or.inr rfl,λ_ _ _=>Ag _,λ_ _ _=>Ag _,Or.inl rfl,Or.inl rfl⟩
theorem tH.long {L:List (List UInt8)} (hL:Asc L) {x:dH} (g:tH L x) {j:Nat} (h1:x.i<j) (h2:j<x.t):x.d<(nth L j).length:=by
 have hc:=g.inn j h1 h2;have hl:=pB (hL.lt j (j-1) (by omega) (by have:=g.le;omega));unfold cAt at hc;omega
theorem tH.start {L:List (List UInt8)} (hL:Asc L) {x:dH} (g:tH L x) {j:Nat} (h1:cF L x<=j) (h2:j<x.t):x.d<(nth L j).length:=by
 unfold cF iI at h1;split at h1
 ·exact g.long hL (by omega) h2
 ·rename_i h
  rcases Ae x.i j with h3|h3
  ·exact g.long hL h3 h2
  ·have hj:j=x.i:=by omega
   have:=g.len j (by omega) h2
   simp only[Ab,decide_eq_true_eq,beq_iff_eq,not_and]at h
   have:=h (by omega)
   subst hj;omega
def sF (L:List (List UInt8)) (e:Nat):Nat->List dH->Nat->Prop
 | lo,[],hi=>lo<=hi/\∀j,lo<=j->j<hi->(nth L j).length<e
 | lo,x::xs,hi=>lo<=x.i/\(∀j,lo<=j->j<x.i->(nth L j).length<e)/\tH L x/\x.d=e/\sF L e x.t xs hi
theorem sF.le {L:List (List UInt8)} {e:Nat}:∀ {xs:List dH} {lo hi:Nat},sF L e lo xs hi->lo<=hi
 | [],_,_,h=>h.1
 | _::_,_,_,h=>by have:=sF.le h.2.2.2.2;have:=h.2.2.1.le;have:=h.1;omega
theorem sF.before {L:List (List UInt8)} {e:Nat}:∀ {xs:List dH} {lo lo' hi:Nat},lo'<=lo->(∀j,lo'<=j->j<lo->(nth L j).length<e)->sF L e lo xs hi->sF L e lo' xs hi
 | [],lo,lo',hi,h1,h2,h=>⟨Bi h1 h.1,λj a b=>by
  rcases Ae j lo with h3|h3
  ·exact h2 j a h3
  ·exact h.2 j h3 b⟩
 | _::_,lo,lo',hi,h1,h2,h=>⟨Bi h1 h.1,λj a b=>by
  rcases Ae j lo with h3|h3
  ·exact h2 j a h3
  ·exact h.2.1 j h3 b,h.2.2⟩
theorem sF.append {L:List (List UInt8)} {e:Nat}:∀ {xs ys:List dH} {lo ar hi:Nat},sF L e lo xs ar->sF L e ar ys hi->sF L e lo (xs++ys) hi
 | [],_,_,_,_,h1,h2=>sF.before h1.1 h1.2 h2
 | _::_,_,_,_,_,h1,h2=>⟨h1.1,h1.2.1,h1.2.2.1,h1.2.2.2.1,sF.append h1.2.2.2.2 h2⟩
theorem wZ {L:List (List UInt8)} (hL:Asc L) {x:dH} (g:tH L x):∀(f i:Nat),x.t-i<=f->cF L x<=i->i<=x.t->(i<x.t->i=0\/cAt L i<x.d+1)->sF L (x.d+1) i (fB L x.d x.t i) x.t
 | 0,i,hf,h1,h2,_=>by
  rw[gB (by omega)];exact⟨h2,λj a b=>by omega⟩
 | f+1,i,hf,h1,h2,h3=>by
  by_cases ae:i<x.t
  case neg =>
   rw[gB ae];exact⟨h2,λj a b=>by omega⟩
  rw[eC ae];obtain⟨e1,e2,e3,e4⟩:=uR (kE L x.d i) x.t _ (i+1) rfl ae;have hn:=g.le;have hsx:x.i<=i:=by unfold cF at h1;split at h1<;>omega
  have ir:∀j,i<j->j<dW L x.d x.t i->x.d+1<=cAt L j:=by
   intro j
   induction j with
   | zero=>intro a;omega
   | succ j ih =>
    intro a b;have hj:j+1<x.t:=by unfold dW at b;omega
    have s1:=e3 (j+1) a b
    have s2:kE L x.d i j=true:=by
     rcases Ae i j with h|h
     ·exact e3 j h (by unfold dW at b;omega)
     ·rw[show j=i by omega];simp[kE]
    unfold kE at s1 s2;simp only[beq_iff_eq]at s1 s2;have hc:=g.inn (j+1) (by omega) hj;unfold cAt at hc ⊢;rw[Be]at hc ⊢;exact(bW0 hc (g.start hL (by omega) (by omega)) (g.start hL (by omega) hj)).2 (s2.trans s1.symm)
  have kn:dW L x.d x.t i<x.t->cAt L (dW L x.d x.t i)<x.d+1:=by
   intro hk;have s1:=e4 hk;generalize hK:dW L x.d x.t i=K at *;have lr:sT (kE L x.d i) x.t (i+1)=K:=hK;rw[lr]at e1 e2 e3 e4 s1;apply Ao
   intro o0;have hc:x.d+1<=cAt L K:=by omega
   have h0:x.d+1<=pC (nth L i) (nth L K):=qJ (g.start hL h1 ae) K (by omega) (λm a b=>by
    rcases Ae m K with h|h
    ·exact ir m a h
    ·rw[show m=K by omega];exact hc)
   have h4:=(bW0 (Nat.le_of_succ_le h0) (g.start hL h1 ae) (g.start hL (by omega) hk)).1 h0;unfold kE at s1;rw[h4]at s1;simp at s1
  have hgt:=uC L (d:=x.d) ae;refine⟨Ad _,λj a b=>absurd b (Nat.not_lt.2 a),⟨⟨Nat.le_of_lt hgt.1,by show dW L x.d x.t i<=L.length;omega⟩,Or.inl hgt.1,λj a b=>?_,ir,h3 ae,?_⟩,rfl,?_⟩
  ·have b':j<dW L x.d x.t i:=b
   exact g.start hL (Bi h1 a) (by omega)
  ·show dW L x.d x.t i=L.length\/cAt L (dW L x.d x.t i)<x.d+1
   rcases Ae (dW L x.d x.t i) x.t with h|h
   ·exact Or.inr (kn h)
   ·rw[show dW L x.d x.t i=x.t by omega]
    rcases g.hi with h2|h2
    ·exact Or.inl h2
    ·exact Or.inr (by omega)
  ·have agv:=hgt.2
   have aiv:=hgt.1;exact wZ hL g f (dW L x.d x.t i) (by omega) (by omega) agv (λh=>Or.inr (kn h))
theorem bJ0 {L:List (List UInt8)} (hL:Asc L) {x:dH} (g:tH L x):sF L (x.d+1) x.i (eY L x) x.t:=by
 have hs:x.i<=cF L x/\cF L x<=x.t:=by
  unfold cF iI
  have:=g.le
  split
  ·rename_i h;simp only[Ab,decide_eq_true_eq]at h;omega
  ·omega
 refine sF.before hs.1 (λj a b=>?_) (wZ hL g _ _ (Ad _) (Ad _) hs.2 (λh=>?_))
 ·unfold cF at b
  split at b
  ·rename_i h
   unfold iI at h;simp only[Ab,beq_iff_eq]at h;rw[show j=x.i by omega]
   omega
  ·omega
 ·unfold cF at h ⊢
  split
  ·rename_i hh
   rw[if_pos hh]at h;unfold iI at hh;simp only[Ab,beq_iff_eq]at hh;refine Or.inr ?_
   have:=(zD (nth L (x.i+1-1)) (nth L (x.i+1))).1
   unfold cAt;rw[Be]at this ⊢;omega
  ·rcases g.lo with h2|h2
   ·exact Or.inl h2
   ·exact Or.inr (by omega)
theorem lM0 {L:List (List UInt8)} (hL:Asc L) {e:Nat}:∀ {xs:List dH} {lo hi:Nat},sF L e lo xs hi->sF L (e+1) lo (xs.flatMap (eY L)) hi
 | [],_,_,h=>⟨h.1,λj a b=>Bj (h.2 j a b)⟩
 | x::xs,lo,hi,h=>by
  obtain⟨h1,h2,h3,h4,h5⟩:=h
  have:=bJ0 hL h3
  rw[h4]at this;rw[Ah];exact(this.before h1 (λj a b=>Bj (h2 j a b))).append (lM0 hL h5)
def lv (L:List (List UInt8)):Nat->List dH
 | 0=>[rootS L]
 | d+1=>(lv L d).flatMap (eY L)
theorem lD {L:List (List UInt8)} (hL:Asc L):∀d,sF L d 0 (lv L d) L.length
 | 0=>⟨Ad _,λ_ a b=>absurd b (Nat.not_lt.2 a),kN0 L,rfl,Ad _,λ_ a b=>absurd b (Nat.not_lt.2 a)⟩
 | d+1=>lM0 hL (lD hL d)
theorem sF.mem {L:List (List UInt8)} {e:Nat}:∀ {xs:List dH} {lo hi:Nat},sF L e lo xs hi->∀x∈xs,tH L x/\x.d=e/\lo<=x.i/\x.t<=hi
 | [],_,_,_,x,hx=>by simp at hx
 | y::xs,lo,hi,h,x,hx=>by
  obtain⟨h1,h2,h3,h4,h5⟩:=h;rcases List.mem_cons.1 hx with rfl|hx
  ·exact⟨h3,h4,h1,sF.le h5⟩
  ·obtain⟨a,b,c,d⟩:=sF.mem h5 x hx
   exact⟨a,b,by have:=h3.le;omega,d⟩
def dQ (L:List (List UInt8)) (e j:Nat):Bool:=decide (e<=(nth L j).length)&&(j==0||decide (cAt L j<e))
theorem sF.firsts {L:List (List UInt8)} {e:Nat} (he:0<e):∀ {xs:List dH} {lo hi:Nat},sF L e lo xs hi->xs.map (λx=>x.i)=(An lo (hi-lo)).filter (dQ L e)
 | [],lo,hi,h=>by
  symm
  rw[List.map_nil,Ap];intro j hj;rw[Aw]at hj
  have:=h.2 j hj.1 (by omega)
  simp only[dQ,Ab,decide_eq_true_eq];omega
 | x::xs,lo,hi,h=>by
  obtain⟨h1,h2,h3,h4,h5⟩:=h;have h6:=sF.le h5;have h7:=h3.le;have h8:x.i<x.t:=by rcases h3.ne with h|h<;>omega
  rw[List.map_cons,sF.firsts he h5,show hi-lo=(x.i-lo)+((1+(x.t-x.i-1))+(hi-x.t)) by omega,<-Ar,<-Ar,<-Ar,Ak,Ak,Ak]
  have e1:(An lo (x.i-lo)).filter (dQ L e)=[]:=by
   rw[Ap];intro j hj;rw[Aw]at hj
   have:=h2 j hj.1 (by omega)
   simp only[dQ,Ab,decide_eq_true_eq];omega
  have e2:(An (lo+(x.i-lo)) 1).filter (dQ L e)=[x.i]:=by
   rw[show lo+(x.i-lo)=x.i by omega]
   have:dQ L e x.i=true:=by
    unfold dQ;have a1:=h3.len x.i (Ad _) h8;rw[h4]at a1;simp only[Ab,decide_eq_true_eq,Ai,beq_iff_eq];refine⟨a1,?_⟩;rcases h3.lo with a2|a2
    ·exact Or.inl a2
    ·rw[h4]at a2;exact Or.inr a2
   simp[An,this]
  have e3:(An (lo+(x.i-lo)+1) (x.t-x.i-1)).filter (dQ L e)=[]:=by
   rw[Ap];intro j hj;rw[Aw]at hj
   have:=h3.inn j (by omega) (by omega)
   have qe:¬j=0:=by omega
   have hc:¬cAt L j<e:=by omega
   simp[dQ,qe,hc]
  rw[e1,e2,e3,show lo+(x.i-lo)+(1+(x.t-x.i-1))=x.t by omega]
  simp
end
section
open Go
def spanS (L:List (List UInt8)) (x:dH):List UInt8:=(nth L x.i).take x.d
def nodesA (L:List (List UInt8)):List dH:=(Aq 257).flatMap (lv L)
theorem tH.slen {L:List (List UInt8)} {x:dH} (g:tH L x):(spanS L x).length=x.d:=by
 unfold spanS;rw[Bk];rcases g.ne with h|h
 ·have:=g.len x.i (Ad _) h;omega
 ·omega
theorem tH.same {L:List (List UInt8)} {x y:dH} (gx:tH L x) (gy:tH L y) (hi:x.i=y.i) (hd:x.d=y.d):x=y:=by
 have key:∀ {x y:dH},tH L x->tH L y->x.i=y.i->x.d=y.d->¬x.t<y.t:=by
  intro x y gx gy hi hd h;have h1:=gx.hi;have h2:=gy.le;rcases h1 with h1|h1
  ·omega
  ·rcases gx.ne with h3|h3
   ·have:=gy.inn x.t (by omega) h;omega
   ·omega
 have k1:=key gx gy hi hd;have k2:=key gy gx hi.symm hd.symm;obtain⟨xi,xt,xd⟩:=x;obtain⟨yi,yt,yd⟩:=y;simp only at hi hd k1 k2;subst hi;subst hd;rw[show xt=yt by omega]
theorem tH.inj {L:List (List UInt8)} (hL:Asc L) {x y:dH} (gx:tH L x) (gy:tH L y) (h:spanS L x=spanS L y):x=y:=by
 have hd:x.d=y.d:=by rw[<-gx.slen,<-gy.slen,h]
 refine gx.same gy ?_ hd
 have key:∀ {x y:dH},tH L x->tH L y->x.d=y.d->spanS L x=spanS L y->¬x.i<y.i:=by
  intro x y gx gy hd h ae;rcases gy.ne with h3|h3
  ·have a1:x.d<=(nth L x.i).length:=by
    have:=gx.slen;unfold spanS at this;rw[Bk]at this;omega
   have a2:=gy.len y.i (Ad _) h3;unfold spanS at h
   have:=hL.all (i:=x.i) (j:=y.i) (m:=y.i) (by have:=gy.le;omega) ae (Ad _) ((jF x.d _ _).2 ⟨a1,by omega,by rw[h,hd]⟩)
   rcases gy.lo with h4|h4<;>omega
  ·rcases gy.lo with h4|h4<;>omega
 have k1:=key gx gy hd h;have k2:=key gy gx hd.symm h.symm;omega
theorem mR {L:List (List UInt8)} (hL:Asc L) {x:dH} (h:x∈nodesA L):tH L x:=by
 unfold nodesA at h;obtain⟨d,_,h⟩:=List.mem_flatMap.1 h;exact((lD hL d).mem x h).1
def qU0 (x y:dH):Prop:=x.d<y.d\/(x.d=y.d/\x.i<y.i)
theorem sF.pairwise {L:List (List UInt8)} {e:Nat} (he:0<e):∀ {xs:List dH} {lo hi:Nat},sF L e lo xs hi->xs.Pairwise qU0
 | [],_,_,_=>List.Pairwise.nil
 | x::xs,lo,hi,h=>by
  obtain⟨_,_,h3,h4,h5⟩:=h;refine List.pairwise_cons.2 ⟨λy hy=>?_,sF.pairwise he h5⟩;obtain⟨_,k2,k3,_⟩:=h5.mem y hy;refine Or.inr ⟨by omega,?_⟩;rcases h3.ne with h|h<;>omega
theorem jE {L:List (List UInt8)} (hL:Asc L):(nodesA L).Pairwise qU0:=by
 unfold nodesA;rw[List.pairwise_flatMap];refine⟨λd _=>?_,?_⟩
 ·cases d with
  | zero=>simp[lv]
  | succ d=>exact(lD hL (d+1)).pairwise (At _)
 ·refine List.pairwise_lt_range.imp ?_
  intro a b ev x hx y hy;have h1:=((lD hL a).mem x hx).2.1;have h2:=((lD hL b).mem y hy).2.1;exact Or.inl (by omega)
theorem mI1 {L:List (List UInt8)} (hL:Asc L) {d:Nat} (hd0:0<d) (h:∀s∈L,s.length<d):lv L d=[]:=by
 apply List.eq_nil_iff_forall_not_mem.2
 intro x hx;obtain⟨g,hd,_,_⟩:=(lD hL d).mem x hx;rcases g.ne with h1|h1
 ·have h2:=g.len x.i (Ad _) h1
  have h3:=h (nth L x.i) (Af (gT (by have:=g.le;omega)));omega
 ·omega
theorem sR0 {L:List (List UInt8)} (hL:Asc L) {n:Nat} (h:∀s∈L,s.length<n+1):(Aq (n+1)).flatMap (lv L)=rootS L::((Aq (n+1)).flatMap (lv L)).flatMap (eY L):=by
 have e2:((Aq (n+1)).flatMap (lv L)).flatMap (eY L)=(Aq (n+1)).flatMap (λd=>lv L (d+1)):=by
  rw[List.flatMap_assoc];rfl
 rw[e2,Bb,Aj (f:=λd=>lv L (d+1))];simp only[Ah,Bl,Bc];rw[mI1 hL (At n) h,Bc,<-Bb,Ba,Ah,Ay];rfl
theorem zT0 {L:List (List UInt8)} (hL:Asc L) (h:∀s∈L,s.length<=256):nodesA L=rootS L::(nodesA L).flatMap (eY L) :=
 sR0 hL (n:=256) (λs hs=>Nat.lt_succ_of_le (h s hs))
section bfs
variable {α:Type} {r:α} {kd:α->List α} {A:List α}
def eP (r:α) (kd:α->List α) (A:List α) (i:Nat):List α:=r::(A.take i).flatMap kd
theorem rV (hA:A=r::A.flatMap kd) (i:Nat):A=eP r kd A i++(A.drop i).flatMap kd:=by
 unfold eP;rw[Bn,<-Aj,List.take_append_drop];exact hA
theorem qW {i:Nat} {x:α} (h:A[i]?=some x):eP r kd A (i+1)=eP r kd A i++kd x:=by
 unfold eP;rw[Am,h,Aj];simp
theorem eJ1 (hA:A=r::A.flatMap kd) (i:Nat):(eP r kd A i).length<=A.length:=by
 have:=congrArg List.length (rV hA i)
 rw[Al]at this;omega
theorem kO0 (hA:A=r::A.flatMap kd) {i k:Nat} (h:k<(eP r kd A i).length):(eP r kd A i)[k]?=A[k]?:=by
 have h1:A[k]?=(eP r kd A i++(A.drop i).flatMap kd)[k]?:=congrArg (λl=>l[k]?) (rV hA i);rw[h1,List.getElem?_append_left h]
theorem sC0 {i j:Nat} (h:i<=j):(eP r kd A i).length<=(eP r kd A j).length:=by
 unfold eP;obtain⟨d,rfl⟩:∃d,j=i+d:=⟨j-i,by omega⟩;rw[List.take_add,Aj];simp
theorem aY1 (hA:A=r::A.flatMap kd) (dep:α->Nat) (hd:∀x, ∀y∈kd x,dep y=dep x+1) (hp:A.Pairwise λx y=>dep x<=dep y) {i:Nat} (hi:i<A.length):i<(eP r kd A i).length:=by
 apply Ao
 intro o0;have h1:=rV hA i
 have h2:A[i]∈(A.drop i).flatMap kd:=by
  have h3:A[i]?=(eP r kd A i++(A.drop i).flatMap kd)[i]?:=congrArg (λl=>l[i]?) h1;rw[Av (by omega),Ac hi]at h3;exact Af h3.symm
 obtain⟨x,hx,hk⟩:=List.mem_flatMap.1 h2;have h4:=hd x _ hk;obtain⟨j,hj⟩:=List.mem_iff_getElem?.1 hx;rw[List.getElem?_drop]at hj;obtain⟨hj1,km⟩:=List.getElem?_eq_some_iff.1 hj;rcases Bf j with h5|h5
 ·subst h5
  rw[Bv]at hj1;simp only[Bv]at km;rw[km]at h4;omega
 ·have:=List.pairwise_iff_getElem.1 hp i (i+j) hi hj1 (by omega)
  rw[km]at this;omega
theorem jY0 (hA:A=r::A.flatMap kd):eP r kd A A.length=A:=by
 unfold eP;rw[Bo];exact hA.symm
theorem xX (hA:A=r::A.flatMap kd):∀(i k:Nat),1<=k->k<(eP r kd A i).length->∃p,p<i/\(eP r kd A p).length<=k/\k<(eP r kd A (p+1)).length
 | 0,k,h1,h2=>by simp[eP]at h2;omega
 | i+1,k,h1,h2=>by
  rcases Ae k (eP r kd A i).length with h|h
  ·obtain⟨p,a,b,c⟩:=xX hA i k h1 h
   exact⟨p,by omega,b,c⟩
  ·exact⟨i,by omega,h,h2⟩
theorem sN (hA:A=r::A.flatMap kd) {p k:Nat} {x:α} (hx:A[p]?=some x) (h1:(eP r kd A p).length<=k) (h2:k<(eP r kd A (p+1)).length):A[k]?=(kd x)[k-(eP r kd A p).length]?:=by
 rw[<-kO0 hA h2,qW hx,Av h1]
end bfs
theorem uP0 {L:List (List UInt8)} (hL:Asc L):(nodesA L).Pairwise λx y=>x.d<=y.d:=(jE hL).imp λh=>by rcases h with h|h<;>omega
theorem qT0 (L:List (List UInt8)) (d t:Nat):∀(f i:Nat), ∀y∈mH L d t f i,y.d=d+1
 | 0,_,y,h=>by simp[mH]at h
 | f+1,i,y,h=>by
  rw[mH]at h;split at h
  ·rcases List.mem_cons.1 h with rfl|h
   ·rfl
   ·exact qT0 L d t f _ y h
  ·simp at h
theorem kM0 (L:List (List UInt8)) (x:dH):∀y∈eY L x,y.d=x.d+1:=qT0 L x.d x.t _ _
theorem vQ {L:List (List UInt8)} (hL:Asc L) {x y:dH} (g:tH L x) (h:y∈eY L x):spanS L y=spanS L x++[(nth L y.i).getD x.d 0]:=by
 obtain⟨gy,hd,h1,h2⟩:=(bJ0 hL g).mem y h;have h3:y.i<y.t:=by rcases gy.ne with h|h<;>omega
 have h4:=gy.len y.i (Ad _) h3
 have h5:(nth L y.i).take x.d=(nth L x.i).take x.d:=by
  rcases Ae x.i y.i with h6|h6
  ·have:=qJ (L:=L) (e:=x.d) (i:=x.i) (g.len x.i (Ad _) (by omega)) y.i (by omega) (λm a b=>g.inn m a (by omega))
   exact((jF _ _ _).1 this).2.2.symm
  ·rw[show y.i=x.i by omega]
 unfold spanS;rw[hd,Am,h5,Ac (by omega),Au,Ac (by omega)];rfl
def shapeL (L:List (List UInt8)) (A:List dH):List Bool:=[true,false]++A.flatMap λx=>Bt (eY L x).length true++[false]
def pS (L:List (List UInt8)) (x y:dH):UInt8:=(nth L y.i).getD x.d 0
def labelsL (L:List (List UInt8)) (A:List dH):List UInt8:=A.flatMap λx=>(eY L x).map (pS L x)
def isL (L:List (List UInt8)) (A:List dH):List Bool:=A.map (iI L)
def idsL (L:List (List UInt8)) (A:List dH):List Nat:=(A.filter (iI L)).map λx=>x.i
theorem cD0 {L:List (List UInt8)} (hL:Asc L):∀(A:List dH),(∀x∈A,tH L x)->labelsL L A=(A.flatMap (eY L)).map λy=>(spanS L y).getLastD 0
 | [],_=>rfl
 | x::A,h=>by
  have:=cD0 hL A (λy hy=>h y (by simp[hy]))
  unfold labelsL at *;rw[Ah,Ah,As,this];congr 1
  apply Bd
  intro y hy;rw[vQ hL (h x (by simp)) hy];simp[pS]
theorem qR {L:List (List UInt8)} (hL:Asc L) {x:dH} (g:tH L x) (aj:∀s∈L,s≠[]) (j:Nat):(L[j]?=some (spanS L x))↔iI L x=true/\j=x.i:=by
 unfold iI;simp only[Ab,decide_eq_true_eq,beq_iff_eq];constructor
 ·intro h
  have hj:=(List.getElem?_eq_some_iff.1 h).1;have hs:=tY h
  have hd:x.d≠0:=λh0=>by
   have:=g.slen
   rw[h0]at this;exact aj _ (Af h) (List.length_eq_zero_iff.1 this)
  have hit:x.i<x.t:=by rcases g.ne with h|h<;>omega
  have hlj:(nth L j).length=x.d:=by rw[hs,g.slen]
  have hcj:x.d<=pC (nth L x.i) (nth L j):=(jF _ _ _).2 ⟨g.len _ (Ad _) hit,by omega,by rw[hs];unfold spanS;rw[List.take_take,Nat.min_self]⟩
  have e1:¬j<x.i:=λae=>by
   have h1:=pB (hL.lt _ _ ae (by have:=g.le;omega));rw[aW0]at hcj
   have:=hL.all (m:=x.i) (by have:=g.le;omega) ae (Ad _) hcj
   rcases g.lo with h4|h4<;>omega
  have e2:¬x.i<j:=λae=>by
   have:=pB (hL.lt _ _ ae hj);omega
  have e3:j=x.i:=by omega
  subst e3;exact⟨⟨hit,hlj⟩,rfl⟩
 ·rintro⟨⟨h1,h2⟩,rfl⟩
  rw[gT (by have:=g.le;omega)];unfold spanS;rw[List.take_of_length_le (by omega)]
end
section
open Go
def mI (n:Nat) (out:List (List UInt8)) (s:List UInt8):List (List UInt8) :=
 if n<=s.length/\(out=[]\/out.getLastD []≠s.take n) then out++[s.take n] else out
def jJ1 (L:List (List UInt8)) (n:Nat):List (List UInt8):=L.foldl (mI n) []
def mN (L:List (List UInt8)) (n m:Nat):List (List UInt8):=((An 0 m).filter (dQ L n)).map λj=>(nth L j).take n
theorem iN0 (L:List (List UInt8)) (n m:Nat):mN L n (m+1)=if dQ L n m then mN L n m++[(nth L m).take n] else mN L n m:=by
 unfold mN;rw[Bg,Ak,As];simp only[Bw,Bz,Bp,Br];split<;>simp
theorem qI0 (L:List (List UInt8)) (m:Nat):cAt L m<=(nth L (m-1)).length/\cAt L m<=(nth L m).length:=zD _ _
theorem iS0 {L:List (List UInt8)} (hL:Asc L) {n:Nat} (hn:0<n):∀m,m<=L.length->(L.take m).foldl (mI n) []=mN L n m /\
  (((∀j,j<m->(nth L j).length<n)/\mN L n m=[])\/∃j,j<m/\n<=(nth L j).length/\(∀k,j<k->k<m->(nth L k).length<n)/\mN L n m≠[]/\(mN L n m).getLastD []=(nth L j).take n)
 | 0,_=>⟨rfl,Or.inl ⟨λj h=>by omega,rfl⟩⟩
 | m+1,hm=>by
  obtain⟨h1,h2⟩:=iS0 hL hn m (by omega);rw[Am,gT (by omega),List.foldl_append,h1];simp only[Bh,List.foldl_cons,List.foldl_nil];rw[iN0];by_cases hs:n<=(nth L m).length
  ·rcases h2 with ⟨h2,h3⟩|⟨j,h2,h3,h4,h5,h6⟩
   ·have hf:dQ L n m=true:=by
     unfold dQ;simp only[Ab,decide_eq_true_eq,Ai,beq_iff_eq];refine⟨hs,?_⟩;rcases Bf m with h|h
     ·exact Or.inl h
     ·have:=h2 (m-1) (by omega)
      have:=(qI0 L m).1
      exact Or.inr (by omega)
    unfold mI;rw[if_pos hf,if_pos ⟨hs,Or.inl h3⟩];refine⟨rfl,Or.inr ⟨m,Az m,hs,λk a b=>by omega,by simp,by simp⟩⟩
   ·by_cases hq:(nth L j).take n=(nth L m).take n
    ·have hc:=(jF n _ _).2 ⟨h3,hs,hq⟩
     have hc2:=hL.all (m:=m) (by omega) h2 (Ad _) hc
     have hf:¬dQ L n m=true:=by
      unfold dQ;simp only[Ab,decide_eq_true_eq,Ai,beq_iff_eq];omega
     unfold mI;rw[if_neg hf,if_neg (by rw[h6,hq];simp[h5])];exact⟨rfl,Or.inr ⟨m,Az m,hs,λk a b=>by omega,h5,by rw[h6,hq]⟩⟩
    ·have hf:dQ L n m=true:=by
      unfold dQ;simp only[Ab,decide_eq_true_eq,Ai,beq_iff_eq];refine⟨hs,Or.inr ?_⟩;apply Ao
      intro o0;have h7:=(qI0 L m).1
      have h8:j=m-1:=by
       rcases Ae j (m-1) with h|h
       ·have:=h4 (m-1) h (by omega);omega
       ·omega
      have h9:n<=cAt L m:=by omega
      unfold cAt at h9;rw[<-h8]at h9;exact hq ((jF _ _ _).1 h9).2.2
     unfold mI;rw[if_pos hf,if_pos ⟨hs,Or.inr (by rw[h6];exact hq)⟩];exact⟨rfl,Or.inr ⟨m,Az m,hs,λk a b=>by omega,by simp,by simp⟩⟩
  ·have hf:¬dQ L n m=true:=by
    unfold dQ;simp only[Ab,decide_eq_true_eq];omega
   unfold mI;rw[if_neg hf,if_neg (by omega)];refine⟨rfl,?_⟩;rcases h2 with ⟨h2,h3⟩|⟨j,h2,h3,h4,h5,h6⟩
   ·refine Or.inl ⟨λk hk=>?_,h3⟩
    rcases Ae k m with h|h
    ·exact h2 k h
    ·rw[show k=m by omega];omega
   ·refine Or.inr ⟨j,by omega,h3,λk a b=>?_,h5,h6⟩
    rcases Ae k m with h|h
    ·exact h4 k a h
    ·rw[show k=m by omega];omega
theorem oC0 {L:List (List UInt8)} (hL:Asc L) {n:Nat} (hn:0<n):jJ1 L n=mN L n L.length:=by
 have:=(iS0 hL hn L.length (Ad _)).1
 rw[Bo]at this;exact this
def hU1 (L:List (List UInt8)):List (List UInt8):=[]::(An 1 256).flatMap (jJ1 L)
theorem kD1 {L:List (List UInt8)} (hL:Asc L) (d:Nat):(lv L (d+1)).map (spanS L)=jJ1 L (d+1):=by
 have ht:=lD hL (d+1);rw[oC0 hL (At d)];unfold mN;have hf:=ht.firsts (At d);rw[By]at hf;rw[<-hf,List.map_map];apply Bd
 intro x hx;show (nth L x.i).take x.d=(nth L x.i).take (d+1)
 rw[(ht.mem x hx).2.1]
theorem tH0 {L:List (List UInt8)} (hL:Asc L):(nodesA L).map (spanS L)=hU1 L:=by
 have key:∀n,((Aq (n+1)).flatMap (lv L)).map (spanS L)=[]::(An 1 n).flatMap (jJ1 L):=by
  intro n;rw[Ba,Ah,As,Ay,List.map_flatMap,List.range'_eq_map_range,Ay]
  have:(lv L 0).map (spanS L)=[[]]:=by simp[lv,spanS,rootS]
  rw[this];simp only[Bn,List.nil_append,List.cons.injEq,true_and];congr 1
  funext d
  rw[kD1 hL d,Nat.add_comm]
 exact key 256
def xS0 (L:List (List UInt8)) (j:Nat):Nat:=(nth L j).length-(if j=0 then 0 else cAt L j)
def lM (L:List (List UInt8)):Nat->Nat
 | 0=>1
 | m+1=>lM L m+xS0 L m
def dZ (L:List (List UInt8)):Nat:=lM L L.length
def mL (L:List (List UInt8)) (n m:Nat):Nat:=((An 0 m).filter (dQ L n)).length
theorem jL0 (L:List (List UInt8)) (n m:Nat):mL L n (m+1)=mL L n m+(if dQ L n m then 1 else 0):=by
 unfold mL;rw[Bg,Ak,Al];simp only[Bw,Bz,Bp,Br];split<;>simp
def mS (f:Nat->Nat):Nat->Nat
 | 0=>0
 | k+1=>mS f k+f (k+1)
theorem lI0 (f g:Nat->Nat):∀k,mS (λn=>f n+g n) k=mS f k+mS g k
 | 0=>rfl
 | k+1=>by simp only[mS];rw[lI0 f g k];omega
theorem cJ0 (L:List (List UInt8)) (j:Nat):∀k,mS (λn=>if dQ L n j then 1 else 0) k=min k (nth L j).length-(if j=0 then 0 else min k (cAt L j))
 | 0=>by simp[mS]
 | k+1=>by
  have hc:=(qI0 L j).2;simp only[mS];rw[cJ0 L j k];unfold dQ;by_cases h0:j=0
  ·simp only[h0,if_true,beq_self_eq_true,Bool.true_or,Bool.and_true,decide_eq_true_eq]
   split<;>omega
  ·have h0':(j==0)=false:=by simp[h0]
   simp only[h0',if_neg h0,Bool.false_or,Ab,decide_eq_true_eq];split<;>omega
theorem dG0:∀k,mS (λ_=>0) k=0
 | 0=>rfl
 | k+1=>by simp only[mS];rw[dG0 k]
theorem sA {f g:Nat->Nat}:∀k,(∀n,1<=n->n<=k->f n=g n)->mS f k=mS g k
 | 0,_=>rfl
 | k+1,h=>by simp only[mS];rw[sA k (λn a b=>h n a (by omega)),h (k+1) (by omega) (Ad _)]
theorem tT (L:List (List UInt8)) (h:∀s∈L,s.length<=256):∀m,m<=L.length->1+mS (λn=>mL L n m) 256=lM L m
 | 0,_=>by
  have:mS (λn=>mL L n 0) 256=mS (λ_=>0) 256:=sA _ (λn _ _=>rfl)
  rw[this,dG0];rfl
 | m+1,hm=>by
  have ih:=tT L h m (by omega);have e:mS (λn=>mL L n (m+1)) 256=mS (λn=>mL L n m+(if dQ L n m then 1 else 0)) 256:=sA _ (λn _ _=>jL0 L n m)
  rw[e,lI0,cJ0,lM,<-ih];have h1:=h _ (Af (gT (L:=L) (j:=m) (by omega)));have h2:=(qI0 L m).2;unfold xS0;split<;>omega
theorem eH {L:List (List UInt8)} (hL:Asc L) (h:∀s∈L,s.length<=256):(nodesA L).length=dZ L:=by
 have key:∀n,((Aq (n+1)).flatMap (lv L)).length=1+mS (λd=>mL L d L.length) n:=by
  intro n
  induction n with
  | zero=>rfl
  | succ n ih =>
   rw[Bb,Aj,Al,ih];simp only[Ah,Bl,Bc,mS];have hf:=(lD hL (n+1)).firsts (At n);rw[By]at hf
   have:(lv L (n+1)).length=mL L (n+1) L.length:=by
    unfold mL;rw[<-hf,List.length_map]
   omega
 unfold dZ;rw[<-tT L h L.length (Ad _)];exact key 256
structure OkL (L:List (List UInt8)):Prop where
 asc:Asc L
 pos:∀s∈L,s≠[]
 len:∀s∈L,s.length<=256
def offA (L:List (List UInt8)) (i:Nat):Nat:=(eP (rootS L) (eY L) (nodesA L) i).length
theorem OkL.fix {L:List (List UInt8)} (h:OkL L):nodesA L=rootS L::(nodesA L).flatMap (eY L):=zT0 h.asc h.len
theorem tX (L:List (List UInt8)):offA L 0=1:=rfl
theorem iN {L:List (List UInt8)} {i:Nat} {x:dH} (h:(nodesA L)[i]?=some x):offA L (i+1)=offA L i+(eY L x).length:=by
 unfold offA;rw[qW h,Al]
theorem lP {L:List (List UInt8)} {i j:Nat} (h:i<=j):offA L i<=offA L j:=sC0 h
theorem OkL.off_all {L:List (List UInt8)} (h:OkL L):offA L (nodesA L).length=(nodesA L).length:=by
 unfold offA;rw[jY0 h.fix]
theorem OkL.off_le {L:List (List UInt8)} (h:OkL L) (i:Nat):offA L i<=(nodesA L).length:=eJ1 h.fix i
theorem OkL.off_gt {L:List (List UInt8)} (h:OkL L) {i:Nat} (hi:i<(nodesA L).length):i<offA L i :=
 aY1 h.fix (λx=>x.d) (kM0 L) (uP0 h.asc) hi
theorem OkL.good {L:List (List UInt8)} (h:OkL L) {i:Nat} {x:dH} (hx:(nodesA L)[i]?=some x):tH L x:=mR h.asc (Af hx)
theorem OkL.uniq {L:List (List UInt8)} (h:OkL L) {i j:Nat} {x:dH} (hi:(nodesA L)[i]?=some x) (hj:(nodesA L)[j]?=some x):i=j:=by
 have key:∀ {i j:Nat},(nodesA L)[i]?=some x->(nodesA L)[j]?=some x->¬i<j:=by
  intro i j hi hj ae;obtain⟨h1,h2⟩:=List.getElem?_eq_some_iff.1 hi;obtain⟨h3,h4⟩:=List.getElem?_eq_some_iff.1 hj
  have:=List.pairwise_iff_getElem.1 (jE h.asc) i j h1 h3 ae
  rw[h2,h4]at this;unfold qU0 at this;omega
 have k1:=key hi hj;have k2:=key hj hi;omega
theorem OkL.parent {L:List (List UInt8)} (h:OkL L) {k:Nat} {y:dH} (h1:1<=k) (hy:(nodesA L)[k]?=some y):∃p x,(nodesA L)[p]?=some x/\p<k/\offA L p<=k/\k<offA L (p+1)/\y∈eY L x:=by
 have hk:=(List.getElem?_eq_some_iff.1 hy).1;obtain⟨p,a,b,c⟩:=xX h.fix (nodesA L).length k h1 (by rw[jY0 h.fix];exact hk);obtain⟨x,hx⟩:∃x,(nodesA L)[p]?=some x:=⟨_,Ac a⟩;have hp:=h.off_gt a;have vw:=sN h.fix hx b c;rw[hy]at vw;exact⟨p,x,hx,by unfold offA at hp;omega,b,c,Af vw.symm⟩
theorem OkL.kid {L:List (List UInt8)} (h:OkL L) {i k:Nat} {x y:dH} (hx:(nodesA L)[i]?=some x) (h1:offA L i<=k) (h2:k<offA L (i+1)) (hy:(nodesA L)[k]?=some y):y∈eY L x:=by
 have vw:=sN h.fix hx h1 h2;rw[hy]at vw;exact Af vw.symm
theorem lJ (L:List (List UInt8)) (A:List dH) (x:dH):shapeL L (A++[x])=shapeL L A++Bt (eY L x).length true++[false]:=by
 unfold shapeL;rw[Aj];simp
theorem pW0 (L:List (List UInt8)) (A:List dH) (x:dH):isL L (A++[x])=isL L A++[iI L x]:=by simp[isL]
theorem lU0 (L:List (List UInt8)) (A:List dH) (x:dH):idsL L (A++[x])=idsL L A++if iI L x then [x.i] else []:=by
 unfold idsL;rw[Ak,As];by_cases h:iI L x=true<;>simp[h]
theorem OkL.labels {L:List (List UInt8)} (h:OkL L):labelsL L (nodesA L)=((nodesA L).drop 1).map λy=>(spanS L y).getLastD 0:=by
 rw[cD0 h.asc _ (λx hx=>mR h.asc hx)];congr 1
 have h1:(nodesA L).drop 1=(rootS L::(nodesA L).flatMap (eY L)).drop 1:=congrArg (List.drop 1) h.fix;rw[h1];rfl
def eI (b:List UInt8):List UInt8:=leB 4 b.length++b
def loudE (L:List (List UInt8)):List UInt8 :=
 eI (oY (shapeL L (nodesA L)))++eI (labelsL L (nodesA L))++eI (oY (isL L (nodesA L)))++eI (packE (idsL L (nodesA L)))
theorem eW (L:List (List UInt8)):∀i,i<=(nodesA L).length->(shapeL L ((nodesA L).take i)).length=offA L i+i+1
 | 0,_=>rfl
 | i+1,hi=>by
  obtain⟨x,hx⟩:∃x,(nodesA L)[i]?=some x:=⟨_,Ac hi⟩;have ih:=eW L i (by omega);rw[Am,hx,Bh,lJ,Al,Al,ih,iN hx,List.length_replicate];simp;omega
end
end Go.Proofs.YtcijgkfpobpdbaaGreatDoor
