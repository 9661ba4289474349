/- The texts Pos Cmp EnD OrderP LoudP LoudQ LoudR KeyP Mx StabP GrpP SortP Less2 Variants SortR SortWP RuneL Bsrt KeyE MapE, one behind the other. -/
import Derived.Test.YtiopheoljccmpaaGreatDoorProg
import Derived.Test.YtiopheoljccmpaaGreatDoorCq1
import Derived.WalkKit
import Derived.WalkLawsBesides
import Derived.Lib.Hide
import Derived.DeepKeys4
import Derived.Maps.RangeWalk
import Derived.Maps.Views
import Derived.Laws.OwnMore
import Derived.Laws.Rows
import Derived.OwnWalk
open Go.Op renaming bytesLess → Aa
open Nat renaming lt_or_ge → Ab,le_refl → Ac,zero_le → Ap,eq_zero_or_pos → Aw,succ_pos → Ba,le_trans → Bi,div_add_mod → Bn,mul_comm → Cc
open Bool renaming and_eq_true → Ad,or_eq_true → Ak,true_and → Be,not_eq_true' → Bu
open List renaming getElem?_eq_getElem → Ae,range' → Af,filter_append → Ag,range → Ah,flatMap_cons → Ai,range'_append_1 → Al,mem_of_getElem? → Am,mem_append_left → An,flatMap_append → Ao,filter_eq_nil_iff → Aq,take_add_one → As,mem_range'_1 → At,range_succ → Av,length_take → Ax,append_nil → Ay,map_append → Az,getElem?_append_right → Bb,length_append → Bc,pairwise_iff_getElem → Bd,flatMap_map → Bf,length_cons → Bh,range_succ_eq_map → Bj,pairwise_lt_range → Bk,range_eq_range' → Bo,map_congr_left → Bp,getElem_of_mem → Bq,range'_concat → Br,getElem_range → Bs,pairwise_map → Bt,flatMap_nil → Bv,cons_append → Bw,replicate → Bz,mapM_cons → Ca,mem_cons → Cb,mem_map → Cd,getD → Cf
open Go.Lib renaming hid → Aj
open Array renaming getElem?_setIfInBounds → Ar
open Classical renaming byContradiction → Au
open Option renaming bind_eq_some_iff → Bg
open ByteArray renaming empty → By
open Go.World renaming cell? → Ce
set_option maxHeartbeats 2000000
namespace Go.Proofs.YtiopheoljccmpaaGreatDoor
set_option maxRecDepth 100000
section
open Go Go.RowKit
attribute [local go_sem] aM
theorem uR0 (p:bT) (name:ByteArray) (b:Nat) (w:World) (hc:w.cell? ⟨b,0,none⟩=some (.string name)) (hb:b<w.heap.size) :
  Calls Tryz.prog 77 #[.agg #[.string p.name,.int .i64 p.kind],.pointer (some ⟨b,0,none⟩)] w λe w'=>e=.returned (.bool (seq p.name name))/\aB w w':=by
 have aw:b≠w.heap.size:=by omega
 go_enter Tryz.func77,Tryz.ntmps77
 go_wp2
 go_ret;exact⟨rfl,aB.alloc _ _⟩
def idxI (o:Option Nat):Int:=match o with|some k=>k|none => -1
theorem fR0 (l:List bT) (name:ByteArray) (a:Option Addr) (cap b:Nat) (w:World) (hl:l.length<=4611686018427387904) (hs:aF w a 2 (l.map bI)) (hc:w.cell? ⟨b,0,none⟩=some (.string name)) :
  Calls Tryz.prog 76 #[.slice a l.length cap,.func (.func 77) #[] #[.pointer (some ⟨b,0,none⟩)]] w λe w'=>e=.returned (.int .i64 (idxI (posFind l name)))/\aB w w':=by
 have HS:=Aj hs;have HC:=Aj hc;clear hs hc;go_enter Tryz.func76,Tryz.ntmps76
 go_wp2
 go_loopw [8] (λi wr=>∃k:Nat,k<=l.length/\i=.int .i64 k/\Hid (∀j q,j<k->l[j]?=some q->seq q.name name=false)/\aB w wr) (λi _=>l.length-(intOf i).toNat)
 case atStart=>exact⟨0,Ap _,rfl,λj q hj=>by omega,aB.refl _⟩
 case round =>
  obtain⟨k,hk,rfl,hz,hg⟩:=hrel;by_cases af:k<l.length
  ·obtain⟨p,hp⟩:∃p,l[k]?=some p:=⟨_,Ae af⟩
   obtain⟨bl,off,rfl,bj⟩:=(HS.out.grows hg).get (aH af);have c0:wr.cell? ⟨bl,off+k*2,none⟩=some (.string p.name):=bj k p hp 0 _ rfl;have c1:wr.cell? ⟨bl,off+k*2+1,none⟩=some (.int .i64 p.kind):=bj k p hp 1 _ rfl;clear bj;have HP:=Aj hp;clear hp;have fm:=uR0 p name b wr (hg.cell HC.out) (World.block_lt_of_cell? wr _ (hg.cell HC.out));have HCON:=Aj fm;clear fm;cases hq:seq p.name name
   ·rw[hq]at HCON
    have HQ:=Aj hq;clear hq;go_wp2_with (go_at_call 77;refine HCON.out.mono ?_;rintro e w' ⟨rfl,an⟩)
    go_roundw
    case rel=>exact⟨k+1,by omega,by go_num,λj q hj hq=>by
     rcases Nat.lt_succ_iff_lt_or_eq.1 hj with h|rfl
     ·exact hz.out j q h hq
     ·rw[HP.out]at hq;obtain rfl:=Option.some.inj hq;exact HQ.out,hg.tr an⟩
    case measure=>simp[intOf];omega
   ·rw[hq]at HCON
    have au:=Aj (yZ HP.out hz.out hq);clear hq;go_wp2_with (go_at_call 77;refine HCON.out.mono ?_;rintro e w' ⟨rfl,an⟩)
    go_ret;exact⟨by rw[au.out];rfl,hg.tr an⟩
  ·obtain rfl:k=l.length:=by omega
   have au:=Aj (xG hz.out);go_wp2
   go_ret;exact⟨by rw[au.out];rfl,hg⟩
def findI (o:Option Nat):Int:=match o with|some k=>k|none=>0
theorem iR (l:List bT) (name:ByteArray) (a:Option Addr) (cap:Nat) (w:World) (hl:l.length<=4611686018427387904) (hs:aF w a 2 (l.map bI)) :
  Calls Tryz.prog 23 #[.slice a l.length cap,.string name] w λe w'=>e=.returned (.tuple #[.int .i64 (findI (posFind l name)),.bool (posFind l name).isSome])/\aB w w':=by
 have fm:=Aj (fR0 l name a cap w.heap.size (w.alloc (.cells #[.string name] 9)) hl (hs.grows (aB.alloc _ _)) (aX _ _ _ _ _ _ rfl));clear hs
 cases hq:posFind l name with
 | none =>
  rw[hq]at fm;clear hq;go_enter Tryz.func23,Tryz.ntmps23
  go_wp2_with (go_at_call 76;refine fm.out.mono ?_;rintro e w' ⟨rfl,an⟩)
  go_ret2;exact⟨rfl,(aB.alloc _ _).tr an⟩
 | some k =>
  rw[hq]at fm;clear hq;go_enter Tryz.func23,Tryz.ntmps23
  go_wp2_with (go_at_call 76;refine fm.out.mono ?_;rintro e w' ⟨rfl,an⟩)
  go_ret2;exact⟨rfl,(aB.alloc _ _).tr an⟩
end
section
open Go Go.RowKit
def orI:List Int->Int
 | []=>0
 | z::l=>if z=0 then orI l else z
theorem eV0:∀(zs:List Int) (k:Nat),(∀j,j<k->zs[j]?.getD 0=0)->orI zs=orI (zs.drop k)
 | [],k,_=>by simp
 | z::l,0,_=>by simp
 | z::l,k+1,h=>by
  have h0:z=0:=by simpa using h 0 (by omega)
  simp only[orI,h0,if_true,List.drop_succ_cons];exact eV0 l k λj hj=>by simpa using h (j+1) (by omega)
theorem fI1 {zs:List Int} {k:Nat} (hk:k<zs.length) (h:∀j,j<k->zs[j]?.getD 0=0) (hz:zs[k]?.getD 0≠0):orI zs=zs[k]?.getD 0:=by
 rw[eV0 zs k h,List.drop_eq_getElem_cons hk,orI];simp[hk]at hz ⊢;simp[hz]
theorem cX1 {zs:List Int} (h:∀j,j<zs.length->zs[j]?.getD 0=0):orI zs=0:=by
 rw[eV0 zs _ h];simp[orI]
theorem fA1 (zs:List Int) (b off cap:Nat) (w:World) (hl:zs.length<=4611686018427387904) (hc:∀k,k<zs.length->w.cell? ⟨b,off+k,none⟩=some (.int .i64 (zs[k]?.getD 0))) :
  Calls Tryz.prog 149 #[.slice (some ⟨b,off,none⟩) zs.length cap] w λe w'=>e=.returned (.int .i64 (orI zs))/\w=w':=by
 have HC:=Aj hc;clear hc;go_enter Tryz.func149,Tryz.ntmps149
 go_wp2
 go_loop [8] (λi=>∃k:Nat,k<=zs.length/\i=.int .i64 k/\Hid (∀j,j<k->zs[j]?.getD 0=0)) (λi=>zs.length-(intOf i).toNat)
 case atStart=>exact⟨0,Ap _,rfl,λj hj=>by omega⟩
 case round =>
  obtain⟨k,hk,rfl,hz⟩:=hrel;by_cases af:k<zs.length
  ·have jy:=HC.out k af
   obtain⟨z,hze⟩:=exq (zs[k]?.getD 0);rw[<-hze]at jy;have HE:=Aj hze;clear hze;by_cases h0:z=0
   ·have h0':(z != 0)=false:=by simp[h0]
    have H0:=Aj h0;clear h0;go_wp2
    go_round
    case rel=>exact⟨k+1,by omega,by go_num,λj hj=>by
     rcases Nat.lt_succ_iff_lt_or_eq.1 hj with h|rfl
     ·exact hz.out j h
     ·rw[<-HE.out];exact H0.out⟩
    case measure=>simp[intOf];omega
   ·have h0':(z != 0)=true:=by simpa using h0
    have au:=Aj ((fI1 af hz.out (by rw[<-HE.out];exact h0)).trans HE.out.symm);clear h0;go_wp2
    go_ret;exact⟨by rw[au.out];rfl,rfl⟩
  ·obtain rfl:k=zs.length:=by omega
   have au:=Aj (cX1 hz.out);go_wp2
   go_ret;exact⟨by rw[au.out];rfl,rfl⟩
def jT (x y:Int):Int:=if x<y then -1 else if y<x then 1 else 0
def xO (a b:ByteArray):Int:=if Aa a.toList b.toList then -1 else if !Aa a.toList b.toList && !(a.toList==b.toList) then 1 else 0
theorem vV (x y:Int) (w:World) :
  Calls Tryz.prog 151 #[.int .i64 x,.int .i64 y] w λe w'=>e=.returned (.int .i64 (jT x y))/\w=w':=by
 go_enter Tryz.func151,Tryz.ntmps151
 go_wp2
 all_goals (go_ret;refine⟨lK0 ?_,rfl⟩;unfold jT;(repeat' split)<;>first|rfl|(exfalso;omega))
theorem gT0 (x y:ByteArray) (w:World) :
  Calls Tryz.prog 150 #[.string x,.string y] w λe w'=>e=.returned (.int .i64 (xO x y))/\w=w':=by
 go_enter Tryz.func150,Tryz.ntmps150
 go_wp2
 all_goals (go_ret;exact⟨lK0 (by simp[xO, *]),rfl⟩)
structure En where
 r:ByteArray
 s:ByteArray
 l:Int
 t:Int
 c:Int
def bE (x:En):List Value:=[.string x.r,.string x.s,.int .i64 x.l,.int .i64 x.t,.int .i64 x.c]
def enZero:En:=⟨By,By,0,0,0⟩
theorem gM (x:En):(bE x).length=5:=rfl
def En.agg (x:En):Value := .agg #[.string x.r,.string x.s,.int .i64 x.l,.int .i64 x.t,.int .i64 x.c]
def qW (x y:En):Int:=orI [xO x.r y.r,jT x.c y.c,xO x.s y.s,jT x.l y.l,jT x.t y.t]
def lessS (x y:En):Bool:=decide (qW x y<0)
instance:DecidableEq En:=λx y=>decidable_of_iff (x.r=y.r/\x.s=y.s/\x.l=y.l/\x.t=y.t/\x.c=y.c) (by cases x; cases y; simp)
theorem dR {x y:ByteArray} (h:x.toList=y.toList):x=y:=rK.1 (by unfold seq; rw[h]; simp)
structure xM (x:En):Prop where
 r:x.r.size<=maxLen
 s:x.s.size<=maxLen
 l:(Lit.int .i64 x.l).wf=true
 t:(Lit.int .i64 x.t).wf=true
 c:(Lit.int .i64 x.c).wf=true
theorem nD (x:En):∀u∈bE x,u.oneCell'=true:=by
 intro u hu;simp[bE]at hu;rcases hu with rfl|rfl|rfl|rfl|rfl<;>rfl
theorem bytesLess_irrefl:∀l:List UInt8,Aa l l=false
 | []=>rfl
 | x::l=>by simp[Aa,bytesLess_irrefl l]
theorem fP:∀ {a b c:List UInt8},Aa a b=true->Aa b c=true->Aa a c=true
 | [],_,[],_,h=>by cases ‹List UInt8› <;> simp[Aa]at h
 | [],_,_::_,_,_=>rfl
 | _::_,[],_,h,_=>by simp[Aa]at h
 | _::_,_::_,[],_,h=>by simp[Aa]at h
 | x::a,y::b,z::c,h1,h2=>by
  simp only[Aa,Ak,Ad,decide_eq_true_eq,beq_iff_eq]at h1 h2 ⊢;rcases h1 with h1|⟨rfl,h1⟩<;>rcases h2 with h2|⟨rfl,h2⟩
  ·grind
  ·exact Or.inl h1
  ·exact Or.inl h2
  ·exact Or.inr ⟨rfl,fP h1 h2⟩
theorem dB:∀ {a b:List UInt8},Aa a b=false->a≠b->Aa b a=true
 | [],[],_,h=>absurd rfl h
 | [],_::_,h,_=>by simp[Aa]at h
 | _::_,[],_,_=>rfl
 | x::a,y::b,h1,h2=>by
  simp only[Aa,Bool.or_eq_false_iff,Bool.and_eq_false_iff,decide_eq_false_iff_not,beq_eq_false_iff_ne,Ak,Ad,decide_eq_true_eq,beq_iff_eq]at h1 ⊢;obtain⟨h1,h3⟩:=h1;by_cases hxy:y<x
  ·exact Or.inl hxy
  ·have h4:x.toNat=y.toNat:=by
    have h5:¬x.toNat<y.toNat:=h1;have h6:¬y.toNat<x.toNat:=hxy;omega
   obtain rfl:x=y:=UInt8.toNat_inj.1 h4;rcases h3 with h3|h3
   ·exact absurd rfl h3
   ·exact Or.inr ⟨rfl,dB h3 (by simp_all)⟩
structure eW1 {α:Type} (f:α->α->Int):Prop where
 zero:∀x y,f x y=0↔x=y
 trans:∀x y z,f x y<0->f y z<0->f x z<0
 flip:∀x y,f x y<0↔0<f y x
theorem iH1:eW1 jT where
 zero x y:=by grind [jT]
 trans x y z:=by grind [jT]
 flip x y:=by grind [jT]
theorem uE (a b:ByteArray):xO a b=if Aa a.toList b.toList then -1 else if a=b then 0 else 1:=by
 unfold xO;by_cases h1:Aa a.toList b.toList=true
 ·simp_all
 ·rw[if_neg h1,if_neg h1]
  grind [dR]
theorem kH {a b:List UInt8} (h:Aa a b=true):¬Aa b a=true:=by grind [fP,bytesLess_irrefl]
theorem mS0:eW1 xO where
 zero x y:=by
  rw[uE];split
  ·rename_i h
   refine⟨λh=>by omega,λe=>?_⟩;rw[e,bytesLess_irrefl]at h;cases h
  ·split
   ·rename_i h;simp[h]
   ·rename_i h;simp[h]
 trans x y z:=by
  rw[uE,uE,uE];intro h1 h2
  have g1:Aa x.toList y.toList=true:=by
   by_cases h:Aa x.toList y.toList=true
   ·exact h
   ·rw[if_neg h]at h1;split at h1<;>omega
  have g2:Aa y.toList z.toList=true:=by
   by_cases h:Aa y.toList z.toList=true
   ·exact h
   ·rw[if_neg h]at h2;split at h2<;>omega
  rw[if_pos (fP g1 g2)];omega
 flip x y:=by
  rw[uE,uE];by_cases h:Aa x.toList y.toList=true
  ·have h2:=kH h
   have h3:¬y=x:=λe=>by rw[e,bytesLess_irrefl]at h;cases h
   rw[if_pos h,if_neg h2,if_neg h3];omega
  ·rw[if_neg h]
   by_cases e:x=y
   ·subst e;rw[if_pos rfl,if_neg h]
   ·have h2:=dB (by simpa using h) (λh=>e (dR h))
    rw[if_neg e,if_pos h2];omega
def bO1 {α β:Type} (f:α->α->Int) (g:β->β->Int) (x y:α×β):Int:=if f x.1 y.1=0 then g x.2 y.2 else f x.1 y.1
theorem eW1.refl {α:Type} {f:α->α->Int} (h:eW1 f) (x:α):f x x=0:=(h.zero x x).2 rfl
theorem uT {α β:Type} {f:α->α->Int} {g:β->β->Int} (hf:eW1 f) (hg:eW1 g):eW1 (bO1 f g) where
 zero x y:=by
  unfold bO1;by_cases h:f x.1 y.1=0
  ·rw[if_pos h,hg.zero]
   have:=(hf.zero _ _).1 h
   grind
  ·rw[if_neg h]
   exact⟨λh2=>absurd h2 h,λh2=>absurd (by rw[h2];exact hf.refl _) h⟩
 trans x y z:=by
  unfold bO1;intro h1 h2;by_cases e1:f x.1 y.1=0
  ·rw[if_pos e1]at h1
   have e:=(hf.zero _ _).1 e1;rw[e];by_cases e2:f y.1 z.1=0
   ·rw[if_pos e2]at h2 ⊢;exact hg.trans _ _ _ h1 h2
   omega
  ·rw[if_neg e1]at h1
   by_cases e2:f y.1 z.1=0
   ·have e:=(hf.zero _ _).1 e2
    simp_all
   ·rw[if_neg e2]at h2
    have h3:=hf.trans _ _ _ h1 h2;omega
 flip x y:=by
  unfold bO1;have hz:f x.1 y.1=0↔f y.1 x.1=0:=by rw[hf.zero,hf.zero];exact eq_comm
  by_cases e1:f x.1 y.1=0
  ·rw[if_pos e1,if_pos (hz.1 e1)];exact hg.flip _ _
  ·rw[if_neg e1,if_neg (λh=>e1 (hz.2 h))];exact hf.flip _ _
def eM0 (x:En):ByteArray×Int×ByteArray×Int×Int:=(x.r,x.c,x.s,x.l,x.t)
theorem mM (x y:En):qW x y=bO1 xO (bO1 jT (bO1 xO (bO1 jT jT))) (eM0 x) (eM0 y):=by
 have hl:∀z:Int,orI [z]=z:=by grind [orI]
 unfold qW bO1 eM0;simp only[orI];omega
theorem iN0:eW1 qW where
 zero x y:=by
  rw[mM,(uT mS0 (by grind [uT,iH1,mS0])).zero];constructor
  ·intro h
   obtain⟨xr,xs,xl,xt,xc⟩:=x;obtain⟨yr,ys,yl,yt,yc⟩:=y;simp only[eM0,Prod.mk.injEq]at h;simp_all
  ·intro h;rw[h]
 trans x y z:=by rw[mM,mM,mM];exact(uT mS0 (by grind [uT,iH1,mS0])).trans _ _ _
 flip x y:=by rw[mM,mM];exact(uT mS0 (by grind [uT,iH1,mS0])).flip _ _
theorem kN {x y z:En} (h1:lessS x y=true) (h2:lessS y z=true):lessS x z=true:=by
 unfold lessS at *;simp only[decide_eq_true_eq] at *;exact iN0.trans _ _ _ h1 h2
theorem eO (x:En):lessS x x=false:=by
 unfold lessS;rw[iN0.refl];simp
theorem tJ {x y:En} (h:x≠y):lessS y x = !lessS x y:=by
 unfold lessS;have h1:=iN0.flip x y;have h2:qW x y≠0:=λh0=>h ((iN0.zero _ _).1 h0);have h3:=iN0.flip y x;grind
end
section
open Go
def mS:List UInt8->List UInt8->Nat
 | a::x,b::y=>if a=b then mS x y+1 else 0
 | _,_=>0
theorem nO0 (b:List UInt8):mS [] b=0:=by cases b<;>rfl
theorem wZ0 (a:List UInt8):mS a []=0:=by cases a<;>rfl
theorem bG0:∀(a b:List UInt8),mS a b<=a.length/\mS a b<=b.length
 | [],b=>by grind [mS]
 | a::x,[]=>by grind [mS]
 | a::x,b::y=>by
  have:=bG0 x y
  grind [mS]
theorem yR:∀(a:List UInt8),mS a a=a.length
 | []=>rfl
 | a::x=>by unfold mS;rw[if_pos rfl,yR x];rfl
theorem kW:∀(e:Nat) (a b:List UInt8),e<=mS a b↔e<=a.length/\e<=b.length/\a.take e=b.take e
 | 0,a,b=>by simp
 | e+1,[],b=>by rw[nO0];simp
 | e+1,a::x,[]=>by rw[wZ0];simp
 | e+1,a::x,b::y=>by
  unfold mS;by_cases h:a=b
  ·subst h
   rw[if_pos rfl]
   have:=kW e x y
   simp_all
  simp_all
theorem zF {e:Nat} {a b:List UInt8} (h:e<=mS a b) (ha:e<a.length) (hb:e<b.length):e+1<=mS a b↔a[e]?=b[e]?:=by
 grind [kW,As,List.append_cancel_left]
theorem oP:∀(e:Nat) {a b c:List UInt8},Aa a b=true->Aa b c=true->e<=mS a c->e<=mS a b/\e<=mS b c
 | 0,_,_,_,_,_,_=>by omega
 | e+1,[],_,c,_,_,h=>by grind [mS]
 | e+1,_::_,_,[],_,_,h=>by grind [mS]
 | e+1,_::_,[],_::_,h,_,_=>by simp[Aa]at h
 | e+1,x::a,y::b,z::c,h1,h2,h=>by
  unfold mS at h;split at h
  case isFalse=>omega
  rename_i hxz
  subst hxz;simp only[Aa,Ak,Ad,decide_eq_true_eq,beq_iff_eq]at h1 h2
  have hxy:x=y:=by
   rcases h1 with h1|h1
   ·grind
   ·exact h1.1
  subst hxy;have af:¬x<x:=by simp_all
  have k1:Aa a b=true:=by
   rcases h1 with h1|h1
   ·exact absurd h1 af
   ·exact h1.2
  have k2:Aa b c=true:=by
   rcases h2 with h2|h2
   ·exact absurd h2 af
   ·exact h2.2
  have:=oP e k1 k2 (by omega)
  grind [mS]
theorem tS0 {e:Nat} {a b c:List UInt8} (h1:e<=mS a b) (h2:e<=mS b c):e<=mS a c:=by
 rw[kW] at *;simp_all
theorem jG0:∀(a b:List UInt8),mS a b=mS b a
 | [],b=>by grind [mS]
 | a::x,[]=>by grind [mS]
 | a::x,b::y=>by
  unfold mS;by_cases h:a=b
  ·rw[if_pos h,if_pos h.symm,jG0 x y]
  grind
theorem pM:∀ {a b:List UInt8},Aa a b=true->mS a b<b.length
 | [],[],h=>by simp[Aa]at h
 | [],_::_,_=>by rw[nO0];simp
 | _::_,[],h=>by simp[Aa]at h
 | x::a,y::b,h=>by
  simp only[Aa,Ak,Ad,decide_eq_true_eq,beq_iff_eq]at h;unfold mS;split
  ·rename_i hxy
   subst hxy;have af:¬x<x:=by simp_all
   rcases h with h|h
   ·exact absurd h af
   ·have:=pM h.2
    simp_all
  ·simp
def nth (L:List (List UInt8)) (j:Nat):List UInt8:=L.getD j []
theorem pE0 {L:List (List UInt8)} {j:Nat} {x:List UInt8} (h:L[j]?=some x):nth L j=x:=by
 grind [nth]
theorem jV {L:List (List UInt8)} {j:Nat} (h:j<L.length):L[j]?=some (nth L j):=by
 grind [nth]
def cAt (L:List (List UInt8)) (j:Nat):Nat:=mS (nth L (j-1)) (nth L j)
def Asc (L:List (List UInt8)):Prop:=∀j,j+1<L.length->Aa (nth L j) (nth L (j+1))=true
theorem Asc.lt {L:List (List UInt8)} (h:Asc L):∀(j i:Nat),i<j->j<L.length->Aa (nth L i) (nth L j)=true
 | 0,i,hi,_=>by omega
 | j+1,i,hi,hj=>by
  rcases Ab i j with h1|h1
  ·exact fP (h.lt j i h1 (by omega)) (h j hj)
  ·rw[show i=j by omega];exact h j hj
theorem Asc.all {L:List (List UInt8)} (h:Asc L) {e i j m:Nat} (hj:j<L.length) (tu:i<m) (zw:m<=j) (he:e<=mS (nth L i) (nth L j)):e<=cAt L m:=by
 have h1:e<=mS (nth L (m-1)) (nth L j):=by
  rcases Ab i (m-1) with h1|h1
  ·exact(oP e (h.lt _ _ h1 (by omega)) (h.lt _ _ (by omega) hj) he).2
  ·grind
 unfold cAt;rcases Ab m j with h2|h2
 ·exact(oP e (h.lt _ _ (by omega) (by omega)) (h.lt _ _ h2 hj) h1).1
 grind
theorem vF {L:List (List UInt8)} {e i:Nat} (hi:e<=(nth L i).length):∀(j:Nat),i<=j->(∀m,i<m->m<=j->e<=cAt L m)->e<=mS (nth L i) (nth L j)
 | 0,hj,_=>by
  grind [yR]
 | j+1,hj,h=>by
  rcases Ab i (j+1) with h1|h1
  ·exact tS0 (vF hi j (by omega) (by grind)) (h (j+1) h1 (Ac _))
  grind [yR]
def bC1 (p:Nat->Bool) (t:Nat):Nat->Nat->Nat
 | 0,k=>k
 | f+1,k=>if k<t/\p k=true then bC1 p t f (k+1) else k
def tX (p:Nat->Bool) (t k:Nat):Nat:=bC1 p t (t-k) k
theorem uK {p:Nat->Bool} {t k:Nat} (h:k<t) (hp:p k=true):tX p t k=tX p t (k+1):=by
 unfold tX;rw[show t-k=(t-(k+1))+1 by omega,bC1,if_pos ⟨h,hp⟩]
theorem jZ {p:Nat->Bool} {t k:Nat} (h:¬(k<t/\p k=true)):tX p t k=k:=by
 unfold tX
 cases hf:t-k with
 | zero=>rfl
 | succ f=>rw[bC1,if_neg h]
theorem uS (p:Nat->Bool) (t:Nat):∀(f k:Nat),t-k=f->k<=t->k<=tX p t k/\tX p t k<=t/\(∀j,k<=j->j<tX p t k->p j=true)/\(tX p t k<t->p (tX p t k)=false)
 | 0,k,hf,hk=>by
  rw[jZ (by omega)];grind
 | f+1,k,hf,hk=>by
  by_cases h:k<t/\p k=true
  ·rw[uK h.1 h.2]
   obtain⟨a,b,c,d⟩:=uS p t f (k+1) (by omega) (by omega);grind
  ·rw[jZ h]
   grind
structure eA where
 i:Nat
 t:Nat
 d:Nat
def jO (L:List (List UInt8)) (d i k:Nat):Bool:=(nth L k)[d]?==(nth L i)[d]?
def eU (L:List (List UInt8)) (d t i:Nat):Nat:=tX (jO L d i) t (i+1)
def nQ (L:List (List UInt8)) (d t:Nat):Nat->Nat->List eA
 | 0,_=>[]
 | f+1,i=>if i<t then ⟨i,eU L d t i,d+1⟩::nQ L d t f (eU L d t i) else []
theorem zH (L:List (List UInt8)) {d t i:Nat} (h:i<t):i<eU L d t i/\eU L d t i<=t:=by
 have:=uS (jO L d i) t _ (i+1) rfl h
 grind [eU]
theorem aR0 (L:List (List UInt8)) (d t:Nat):∀(f g i:Nat),t-i<=f->t-i<=g->nQ L d t f i=nQ L d t g i
 | 0,0,_,_,_=>rfl
 | 0,g+1,i,hf,_=>by grind [nQ]
 | f+1,0,i,_,hg=>by grind [nQ]
 | f+1,g+1,i,hf,hg=>by
  rw[nQ,nQ];split
  ·rename_i h
   have:=zH L (d:=d) h
   rw[aR0 L d t f g _ (by omega) (by omega)]
  ·rfl
def fU (L:List (List UInt8)) (d t i:Nat):List eA:=nQ L d t (t-i) i
theorem iH {L:List (List UInt8)} {d t i:Nat} (h:i<t):fU L d t i=⟨i,eU L d t i,d+1⟩::fU L d t (eU L d t i):=by
 have:=zH L (d:=d) h
 unfold fU;rw[show t-i=(t-i-1)+1 by omega,nQ,if_pos h,aR0 L d t (t-i-1) (t-eU L d t i) _ (by omega) (by omega)]
theorem iY {L:List (List UInt8)} {d t i:Nat} (h:¬i<t):fU L d t i=[]:=by
 unfold fU;rw[show t-i=0 by omega];rfl
def lQ (L:List (List UInt8)) (x:eA):Bool:=decide (x.i<x.t)&&(nth L x.i).length==x.d
def cM (L:List (List UInt8)) (x:eA):Nat:=if lQ L x then x.i+1 else x.i
def fH (L:List (List UInt8)) (x:eA):List eA:=fU L x.d x.t (cM L x)
structure vK (L:List (List UInt8)) (x:eA):Prop where
 le:x.i<=x.t/\x.t<=L.length
 ne:x.i<x.t\/x.d=0
 len:∀j,x.i<=j->j<x.t->x.d<=(nth L j).length
 inn:∀j,x.i<j->j<x.t->x.d<=cAt L j
 lo:x.i=0\/cAt L x.i<x.d
 hi:x.t=L.length\/cAt L x.t<x.d
def rootS (L:List (List UInt8)):eA:=⟨0,L.length,0⟩
theorem uP0 (L:List (List UInt8)):vK L (rootS L):=⟨⟨Ap _,Ac _⟩,Or.inr rfl,λ_ _ _=>Ap _,λ_ _ _=>Ap _,Or.inl rfl,Or.inl rfl⟩
theorem vK.long {L:List (List UInt8)} (hL:Asc L) {x:eA} (g:vK L x) {j:Nat} (h1:x.i<j) (h2:j<x.t):x.d<(nth L j).length:=by
 have hc:=g.inn j h1 h2;have hl:=pM (hL.lt j (j-1) (by omega) (by have:=g.le;omega));unfold cAt at hc;omega
theorem vK.start {L:List (List UInt8)} (hL:Asc L) {x:eA} (g:vK L x) {j:Nat} (h1:cM L x<=j) (h2:j<x.t):x.d<(nth L j).length:=by
 unfold cM lQ at h1;split at h1
 ·exact g.long hL (by omega) h2
 ·rename_i h
  rcases Ab x.i j with h3|h3
  ·exact g.long hL h3 h2
  ·have hj:j=x.i:=by omega
   have:=g.len j (by omega) h2
   grind
def rY (L:List (List UInt8)) (e:Nat):Nat->List eA->Nat->Prop
 | lo,[],hi=>lo<=hi/\∀j,lo<=j->j<hi->(nth L j).length<e
 | lo,x::xs,hi=>lo<=x.i/\(∀j,lo<=j->j<x.i->(nth L j).length<e)/\vK L x/\x.d=e/\rY L e x.t xs hi
theorem rY.le {L:List (List UInt8)} {e:Nat}:∀ {xs:List eA} {lo hi:Nat},rY L e lo xs hi->lo<=hi
 | [],_,_,h=>h.1
 | _::_,_,_,h=>by have:=rY.le h.2.2.2.2;have:=h.2.2.1.le;have:=h.1;omega
theorem rY.before {L:List (List UInt8)} {e:Nat}:∀ {xs:List eA} {lo lo' hi:Nat},lo'<=lo->(∀j,lo'<=j->j<lo->(nth L j).length<e)->rY L e lo xs hi->rY L e lo' xs hi
 | [],lo,lo',hi,h1,h2,h=>⟨Bi h1 h.1,λj a b=>by
  rcases Ab j lo with h3|h3
  ·exact h2 j a h3
  ·exact h.2 j h3 b⟩
 | _::_,lo,lo',hi,h1,h2,h=>⟨Bi h1 h.1,λj a b=>by
  rcases Ab j lo with h3|h3
  ·exact h2 j a h3
  ·exact h.2.1 j h3 b,h.2.2⟩
theorem rY.append {L:List (List UInt8)} {e:Nat}:∀ {xs ys:List eA} {lo az hi:Nat},rY L e lo xs az->rY L e az ys hi->rY L e lo (xs++ys) hi
 | [],_,_,_,_,h1,h2=>rY.before h1.1 h1.2 h2
 | _::_,_,_,_,_,h1,h2=>⟨h1.1,h1.2.1,h1.2.2.1,h1.2.2.2.1,rY.append h1.2.2.2.2 h2⟩
theorem wO {L:List (List UInt8)} (hL:Asc L) {x:eA} (g:vK L x):∀(f i:Nat),x.t-i<=f->cM L x<=i->i<=x.t->(i<x.t->i=0\/cAt L i<x.d+1)->rY L (x.d+1) i (fU L x.d x.t i) x.t
 | 0,i,hf,h1,h2,_=>by
  rw[iY (by omega)];exact⟨h2,λj a b=>by omega⟩
 | f+1,i,hf,h1,h2,h3=>by
  by_cases af:i<x.t
  case neg =>
   rw[iY af];exact⟨h2,λj a b=>by omega⟩
  rw[iH af];obtain⟨e1,e2,e3,e4⟩:=uS (jO L x.d i) x.t _ (i+1) rfl af;have hn:=g.le;have hsx:x.i<=i:=by unfold cM at h1;split at h1<;>omega
  have jg:∀j,i<j->j<eU L x.d x.t i->x.d+1<=cAt L j:=by
   intro j
   induction j with
   | zero=>intro a;omega
   | succ j ih =>
    intro a b;have hj:j+1<x.t:=by unfold eU at b;omega
    have s1:=e3 (j+1) a b
    have s2:jO L x.d i j=true:=by
     rcases Ab i j with h|h
     ·exact e3 j h (by unfold eU at b;omega)
     ·rw[show j=i by omega];simp[jO]
    unfold jO at s1 s2;simp only[beq_iff_eq]at s1 s2;have hc:=g.inn (j+1) (by omega) hj;unfold cAt at hc ⊢;rw[Nat.add_sub_cancel]at hc ⊢;exact(zF hc (g.start hL (by omega) (by omega)) (g.start hL (by omega) hj)).2 (s2.trans s1.symm)
  have mr:eU L x.d x.t i<x.t->cAt L (eU L x.d x.t i)<x.d+1:=by
   intro hk;have s1:=e4 hk;generalize hK:eU L x.d x.t i=K at *;have qp:tX (jO L x.d i) x.t (i+1)=K:=hK;rw[qp]at e1 e2 e3 e4 s1;apply Au
   intro oz;have hc:x.d+1<=cAt L K:=by omega
   have h0:x.d+1<=mS (nth L i) (nth L K):=vF (g.start hL h1 af) K (by omega) (by grind);have h4:=(zF (Nat.le_of_succ_le h0) (g.start hL h1 af) (g.start hL (by omega) hk)).1 h0;unfold jO at s1;rw[h4]at s1;simp at s1
  have hgt:=zH L (d:=x.d) af;refine⟨Ac _,by grind,⟨by grind,Or.inl hgt.1,λj a b=>?_,jg,h3 af,?_⟩,rfl,?_⟩
  ·have b':j<eU L x.d x.t i:=b
   exact g.start hL (Bi h1 a) (by omega)
  ·show eU L x.d x.t i=L.length\/cAt L (eU L x.d x.t i)<x.d+1
   rcases Ab (eU L x.d x.t i) x.t with h|h
   ·exact Or.inr (mr h)
   ·rw[show eU L x.d x.t i=x.t by omega]
    rcases g.hi with h2|h2
    ·exact Or.inl h2
    omega
  ·have ahl:=hgt.2
   have ajv:=hgt.1;exact wO hL g f (eU L x.d x.t i) (by omega) (by omega) ahl (by omega)
theorem yT {L:List (List UInt8)} (hL:Asc L) {x:eA} (g:vK L x):rY L (x.d+1) x.i (fH L x) x.t:=by
 have hs:x.i<=cM L x/\cM L x<=x.t:=by
  unfold cM lQ
  have:=g.le
  split
  ·grind
  ·omega
 refine rY.before hs.1 (λj a b=>?_) (wO hL g _ _ (Ac _) (Ac _) hs.2 (λh=>?_))
 ·unfold cM at b
  split at b
  ·rename_i h
   unfold lQ at h;grind
  ·omega
 ·unfold cM at h ⊢
  split
  ·rename_i hh
   rw[if_pos hh]at h;unfold lQ at hh;simp only[Ad,beq_iff_eq]at hh;refine Or.inr ?_
   have:=(bG0 (nth L (x.i+1-1)) (nth L (x.i+1))).1
   unfold cAt;grind
  ·rcases g.lo with h2|h2
   ·exact Or.inl h2
   omega
theorem hH0 {L:List (List UInt8)} (hL:Asc L) {e:Nat}:∀ {xs:List eA} {lo hi:Nat},rY L e lo xs hi->rY L (e+1) lo (xs.flatMap (fH L)) hi
 | [],_,_,h=>by grind [rY]
 | x::xs,lo,hi,h=>by
  obtain⟨h1,h2,h3,h4,h5⟩:=h
  have:=yT hL h3
  rw[h4]at this;rw[Ai];exact(this.before h1 (by grind)).append (hH0 hL h5)
def lv (L:List (List UInt8)):Nat->List eA
 | 0=>[rootS L]
 | d+1=>(lv L d).flatMap (fH L)
theorem gY {L:List (List UInt8)} (hL:Asc L):∀d,rY L d 0 (lv L d) L.length
 | 0=>⟨Ac _,λ_ a b=>absurd b (Nat.not_lt.2 a),uP0 L,rfl,Ac _,λ_ a b=>absurd b (Nat.not_lt.2 a)⟩
 | d+1=>hH0 hL (gY hL d)
theorem rY.mem {L:List (List UInt8)} {e:Nat}:∀ {xs:List eA} {lo hi:Nat},rY L e lo xs hi->∀x∈xs,vK L x/\x.d=e/\lo<=x.i/\x.t<=hi
 | [],_,_,_,x,hx=>by simp at hx
 | y::xs,lo,hi,h,x,hx=>by
  obtain⟨h1,h2,h3,h4,h5⟩:=h;rcases List.mem_cons.1 hx with rfl|hx
  ·exact⟨h3,h4,h1,rY.le h5⟩
  ·obtain⟨a,b,c,d⟩:=rY.mem h5 x hx
   exact⟨a,b,by have:=h3.le;omega,d⟩
def dP (L:List (List UInt8)) (e j:Nat):Bool:=decide (e<=(nth L j).length)&&(j==0||decide (cAt L j<e))
theorem rY.firsts {L:List (List UInt8)} {e:Nat} (he:0<e):∀ {xs:List eA} {lo hi:Nat},rY L e lo xs hi->xs.map (λx=>x.i)=(Af lo (hi-lo)).filter (dP L e)
 | [],lo,hi,h=>by
  symm
  rw[List.map_nil,Aq];intro j hj;rw[At]at hj
  have:=h.2 j hj.1 (by omega)
  grind [dP]
 | x::xs,lo,hi,h=>by
  obtain⟨h1,h2,h3,h4,h5⟩:=h;have h6:=rY.le h5;have h7:=h3.le;have h8:x.i<x.t:=by rcases h3.ne with h|h<;>omega
  rw[List.map_cons,rY.firsts he h5,show hi-lo=(x.i-lo)+((1+(x.t-x.i-1))+(hi-x.t)) by omega,<-Al,<-Al,<-Al,Ag,Ag,Ag]
  have e1:(Af lo (x.i-lo)).filter (dP L e)=[]:=by
   rw[Aq];intro j hj;rw[At]at hj
   have:=h2 j hj.1 (by omega)
   simp only[dP,Ad,decide_eq_true_eq];omega
  have e2:(Af (lo+(x.i-lo)) 1).filter (dP L e)=[x.i]:=by
   rw[show lo+(x.i-lo)=x.i by omega]
   have:dP L e x.i=true:=by
    unfold dP;have a1:=h3.len x.i (Ac _) h8;rw[h4]at a1;simp only[Ad,decide_eq_true_eq,Ak,beq_iff_eq];refine⟨a1,?_⟩;rcases h3.lo with a2|a2
    ·exact Or.inl a2
    ·omega
   simp[Af,this]
  have e3:(Af (lo+(x.i-lo)+1) (x.t-x.i-1)).filter (dP L e)=[]:=by
   rw[Aq];intro j hj;rw[At]at hj
   have:=h3.inn j (by omega) (by omega)
   have ow:¬j=0:=by omega
   have hc:¬cAt L j<e:=by omega
   simp[dP,ow,hc]
  grind
end
section
open Go
def eX (L:List (List UInt8)) (x:eA):List UInt8:=(nth L x.i).take x.d
def nodesA (L:List (List UInt8)):List eA:=(Ah 257).flatMap (lv L)
theorem vK.slen {L:List (List UInt8)} {x:eA} (g:vK L x):(eX L x).length=x.d:=by
 unfold eX;rw[Ax];rcases g.ne with h|h
 ·have:=g.len x.i (Ac _) h;omega
 ·omega
theorem vK.same {L:List (List UInt8)} {x y:eA} (gx:vK L x) (gy:vK L y) (hi:x.i=y.i) (hd:x.d=y.d):x=y:=by
 have key:∀ {x y:eA},vK L x->vK L y->x.i=y.i->x.d=y.d->¬x.t<y.t:=by
  intro x y gx gy hi hd h;have h1:=gx.hi;have h2:=gy.le;rcases h1 with h1|h1
  ·omega
  ·rcases gx.ne with h3|h3
   ·have:=gy.inn x.t (by omega) h;omega
   ·omega
 have k1:=key gx gy hi hd;have k2:=key gy gx hi.symm hd.symm;obtain⟨xi,xt,xd⟩:=x;obtain⟨yi,yt,yd⟩:=y;simp only at hi hd k1 k2;subst hi;subst hd;rw[show xt=yt by omega]
theorem vK.inj {L:List (List UInt8)} (hL:Asc L) {x y:eA} (gx:vK L x) (gy:vK L y) (h:eX L x=eX L y):x=y:=by
 have hd:x.d=y.d:=by rw[<-gx.slen,<-gy.slen,h]
 refine gx.same gy ?_ hd
 have key:∀ {x y:eA},vK L x->vK L y->x.d=y.d->eX L x=eX L y->¬x.i<y.i:=by
  intro x y gx gy hd h af;rcases gy.ne with h3|h3
  ·have a1:x.d<=(nth L x.i).length:=by
    have:=gx.slen;unfold eX at this;rw[Ax]at this;omega
   have a2:=gy.len y.i (Ac _) h3;unfold eX at h
   have:=hL.all (i:=x.i) (j:=y.i) (m:=y.i) (by have:=gy.le;omega) af (Ac _) ((kW x.d _ _).2 (by simp_all))
   rcases gy.lo with h4|h4<;>omega
  ·rcases gy.lo with h4|h4<;>omega
 grind
theorem tT {L:List (List UInt8)} (hL:Asc L) {x:eA} (h:x∈nodesA L):vK L x:=by
 unfold nodesA at h;obtain⟨d,_,h⟩:=List.mem_flatMap.1 h;exact((gY hL d).mem x h).1
def zH0 (x y:eA):Prop:=x.d<y.d\/(x.d=y.d/\x.i<y.i)
theorem rY.pairwise {L:List (List UInt8)} {e:Nat} (he:0<e):∀ {xs:List eA} {lo hi:Nat},rY L e lo xs hi->xs.Pairwise zH0
 | [],_,_,_=>List.Pairwise.nil
 | x::xs,lo,hi,h=>by
  obtain⟨_,_,h3,h4,h5⟩:=h;refine List.pairwise_cons.2 ⟨λy hy=>?_,rY.pairwise he h5⟩;obtain⟨_,k2,k3,_⟩:=h5.mem y hy;refine Or.inr ⟨by omega,?_⟩;rcases h3.ne with h|h<;>omega
theorem qU {L:List (List UInt8)} (hL:Asc L):(nodesA L).Pairwise zH0:=by
 unfold nodesA;rw[List.pairwise_flatMap];refine⟨λd _=>?_,?_⟩
 ·cases d with
  | zero=>simp[lv]
  | succ d=>exact(gY hL (d+1)).pairwise (Ba _)
 ·refine List.pairwise_lt_range.imp ?_
  intro a b qd x hx y hy;have h1:=((gY hL a).mem x hx).2.1;have h2:=((gY hL b).mem y hy).2.1;exact Or.inl (by omega)
theorem iW1 {L:List (List UInt8)} (hL:Asc L) {d:Nat} (hd0:0<d) (h:∀s∈L,s.length<d):lv L d=[]:=by
 apply List.eq_nil_iff_forall_not_mem.2
 intro x hx;obtain⟨g,hd,_,_⟩:=(gY hL d).mem x hx;rcases g.ne with h1|h1
 ·have h2:=g.len x.i (Ac _) h1
  have h3:=h (nth L x.i) (Am (jV (by have:=g.le;omega)));omega
 ·omega
theorem tC0 {L:List (List UInt8)} (hL:Asc L) {n:Nat} (h:∀s∈L,s.length<n+1):(Ah (n+1)).flatMap (lv L)=rootS L::((Ah (n+1)).flatMap (lv L)).flatMap (fH L):=by
 have e2:((Ah (n+1)).flatMap (lv L)).flatMap (fH L)=(Ah (n+1)).flatMap (λd=>lv L (d+1)):=by
  rw[List.flatMap_assoc];rfl
 rw[e2,Av,Ao (f:=λd=>lv L (d+1))];simp only[Ai,Bv,Ay];rw[iW1 hL (Ba n) h,Ay,<-Av,Bj,Ai,Bf];rfl
theorem vK0 {L:List (List UInt8)} (hL:Asc L) (h:∀s∈L,s.length<=256):nodesA L=rootS L::(nodesA L).flatMap (fH L) :=
 (by grind [tC0,nodesA])
section bfs
variable {α:Type} {r:α} {kd:α->List α} {A:List α}
def eF (r:α) (kd:α->List α) (A:List α) (i:Nat):List α:=r::(A.take i).flatMap kd
theorem rJ (hA:A=r::A.flatMap kd) (i:Nat):A=eF r kd A i++(A.drop i).flatMap kd:=by
 unfold eF;rw[Bw,<-Ao,List.take_append_drop];exact hA
theorem qJ {i:Nat} {x:α} (h:A[i]?=some x):eF r kd A (i+1)=eF r kd A i++kd x:=by
 unfold eF;rw[As,h,Ao];simp
theorem bA1 (hA:A=r::A.flatMap kd) (i:Nat):(eF r kd A i).length<=A.length:=by
 have:=congrArg List.length (rJ hA i)
 grind
theorem gY0 (hA:A=r::A.flatMap kd) {i k:Nat} (h:k<(eF r kd A i).length):(eF r kd A i)[k]?=A[k]?:=by
 have h1:A[k]?=(eF r kd A i++(A.drop i).flatMap kd)[k]?:=congrArg (λl=>l[k]?) (rJ hA i);grind
theorem sM0 {i j:Nat} (h:i<=j):(eF r kd A i).length<=(eF r kd A j).length:=by
 unfold eF;obtain⟨d,rfl⟩:∃d,j=i+d:=⟨j-i,by omega⟩;grind
theorem xB0 (hA:A=r::A.flatMap kd) (dep:α->Nat) (hd:∀x, ∀y∈kd x,dep y=dep x+1) (hp:A.Pairwise λx y=>dep x<=dep y) {i:Nat} (hi:i<A.length):i<(eF r kd A i).length:=by
 apply Au
 intro oz;have h1:=rJ hA i
 have h2:A[i]∈(A.drop i).flatMap kd:=by
  have h3:A[i]?=(eF r kd A i++(A.drop i).flatMap kd)[i]?:=by grind
  rw[Bb (by omega),Ae hi]at h3;exact by grind
 obtain⟨x,hx,hk⟩:=List.mem_flatMap.1 h2;have h4:=hd x _ hk;obtain⟨j,hj⟩:=List.mem_iff_getElem?.1 hx;rw[List.getElem?_drop]at hj;obtain⟨hj1,od⟩:=List.getElem?_eq_some_iff.1 hj;rcases Aw j with h5|h5
 ·subst h5
  grind
 grind [Bd]
theorem kD0 (hA:A=r::A.flatMap kd):eF r kd A A.length=A:=by
 grind [eF]
theorem vT (hA:A=r::A.flatMap kd):∀(i k:Nat),1<=k->k<(eF r kd A i).length->∃p,p<i/\(eF r kd A p).length<=k/\k<(eF r kd A (p+1)).length
 | 0,k,h1,h2=>by grind [eF]
 | i+1,k,h1,h2=>by
  rcases Ab k (eF r kd A i).length with h|h
  ·obtain⟨p,a,b,c⟩:=vT hA i k h1 h
   grind
  grind
theorem hP0 (hA:A=r::A.flatMap kd) {p k:Nat} {x:α} (hx:A[p]?=some x) (h1:(eF r kd A p).length<=k) (h2:k<(eF r kd A (p+1)).length):A[k]?=(kd x)[k-(eF r kd A p).length]?:=by
 rw[<-gY0 hA h2,qJ hx,Bb h1]
end bfs
theorem sB0 {L:List (List UInt8)} (hL:Asc L):(nodesA L).Pairwise λx y=>x.d<=y.d:=(qU hL).imp λh=>by rcases h with h|h<;>omega
theorem nJ0 (L:List (List UInt8)) (d t:Nat):∀(f i:Nat), ∀y∈nQ L d t f i,y.d=d+1
 | 0,_,y,h=>by simp[nQ]at h
 | f+1,i,y,h=>by
  rw[nQ]at h;split at h
  ·rcases List.mem_cons.1 h with rfl|h
   ·rfl
   ·exact nJ0 L d t f _ y h
  ·simp at h
theorem jF1 (L:List (List UInt8)) (x:eA):∀y∈fH L x,y.d=x.d+1:=nJ0 L x.d x.t _ _
theorem zC {L:List (List UInt8)} (hL:Asc L) {x y:eA} (g:vK L x) (h:y∈fH L x):eX L y=eX L x++[(nth L y.i).getD x.d 0]:=by
 obtain⟨gy,hd,h1,h2⟩:=(yT hL g).mem y h;have h3:y.i<y.t:=by rcases gy.ne with h|h<;>omega
 have h4:=gy.len y.i (Ac _) h3
 have h5:(nth L y.i).take x.d=(nth L x.i).take x.d:=by
  rcases Ab x.i y.i with h6|h6
  ·have:=vF (L:=L) (e:=x.d) (i:=x.i) (g.len x.i (Ac _) (by omega)) y.i (by omega) (λm a b=>g.inn m a (by omega))
   exact((kW _ _ _).1 this).2.2.symm
  ·grind
 unfold eX;rw[hd,As,h5,Ae (by omega),List.getD_eq_getElem?_getD,Ae (by omega)];rfl
def shapeL (L:List (List UInt8)) (A:List eA):List Bool:=[true,false]++A.flatMap λx=>Bz (fH L x).length true++[false]
def pG (L:List (List UInt8)) (x y:eA):UInt8:=(nth L y.i).getD x.d 0
def labelsL (L:List (List UInt8)) (A:List eA):List UInt8:=A.flatMap λx=>(fH L x).map (pG L x)
def isL (L:List (List UInt8)) (A:List eA):List Bool:=A.map (lQ L)
def idsL (L:List (List UInt8)) (A:List eA):List Nat:=(A.filter (lQ L)).map λx=>x.i
theorem zA {L:List (List UInt8)} (hL:Asc L):∀(A:List eA),(∀x∈A,vK L x)->labelsL L A=(A.flatMap (fH L)).map λy=>(eX L y).getLastD 0
 | [],_=>rfl
 | x::A,h=>by
  have:=zA hL A (by simp_all)
  unfold labelsL at *;rw[Ai,Ai,Az,this];congr 1
  apply Bp
  intro y hy;rw[zC hL (h x (by simp)) hy];simp[pG]
theorem iJ {L:List (List UInt8)} (hL:Asc L) {x:eA} (g:vK L x) (aw:∀s∈L,s≠[]) (j:Nat):(L[j]?=some (eX L x))↔lQ L x=true/\j=x.i:=by
 unfold lQ;simp only[Ad,decide_eq_true_eq,beq_iff_eq];constructor
 ·intro h
  have hj:=(List.getElem?_eq_some_iff.1 h).1;have hs:=pE0 h
  have hd:x.d≠0:=λh0=>by
   have:=g.slen
   rw[h0]at this;exact aw _ (Am h) (List.length_eq_zero_iff.1 this)
  have hit:x.i<x.t:=by rcases g.ne with h|h<;>omega
  have hlj:(nth L j).length=x.d:=by rw[hs,g.slen]
  have hcj:x.d<=mS (nth L x.i) (nth L j):=(kW _ _ _).2 ⟨g.len _ (Ac _) hit,by omega,by rw[hs];unfold eX;rw[List.take_take,Nat.min_self]⟩
  have e1:¬j<x.i:=λaf=>by
   have h1:=pM (hL.lt _ _ af (by have:=g.le;omega));rw[jG0]at hcj
   have:=hL.all (m:=x.i) (by have:=g.le;omega) af (Ac _) hcj
   rcases g.lo with h4|h4<;>omega
  have e2:¬x.i<j:=λaf=>by
   have:=pM (hL.lt _ _ af hj);omega
  have e3:j=x.i:=by omega
  subst e3;exact⟨⟨hit,hlj⟩,rfl⟩
 ·rintro⟨⟨h1,h2⟩,rfl⟩
  rw[jV (by have:=g.le;omega)];unfold eX;rw[List.take_of_length_le (by omega)]
end
section
open Go
def dV (n:Nat) (out:List (List UInt8)) (s:List UInt8):List (List UInt8) :=
 if n<=s.length/\(out=[]\/out.getLastD []≠s.take n) then out++[s.take n] else out
def aL1 (L:List (List UInt8)) (n:Nat):List (List UInt8):=L.foldl (dV n) []
def kC (L:List (List UInt8)) (n m:Nat):List (List UInt8):=((Af 0 m).filter (dP L n)).map λj=>(nth L j).take n
theorem hQ0 (L:List (List UInt8)) (n m:Nat):kC L n (m+1)=if dP L n m then kC L n m++[(nth L m).take n] else kC L n m:=by
 unfold kC;rw[Br,Ag,Az];grind
theorem uN0 (L:List (List UInt8)) (m:Nat):cAt L m<=(nth L (m-1)).length/\cAt L m<=(nth L m).length:=bG0 _ _
theorem iL0 {L:List (List UInt8)} (hL:Asc L) {n:Nat} (hn:0<n):∀m,m<=L.length->(L.take m).foldl (dV n) []=kC L n m /\
  (((∀j,j<m->(nth L j).length<n)/\kC L n m=[])\/∃j,j<m/\n<=(nth L j).length/\(∀k,j<k->k<m->(nth L k).length<n)/\kC L n m≠[]/\(kC L n m).getLastD []=(nth L j).take n)
 | 0,_=>by grind [kC]
 | m+1,hm=>by
  obtain⟨h1,h2⟩:=iL0 hL hn m (by omega);rw[As,jV (by omega),List.foldl_append,h1];simp only[Option.toList_some,List.foldl_cons,List.foldl_nil];rw[hQ0];by_cases hs:n<=(nth L m).length
  ·rcases h2 with ⟨h2,h3⟩|⟨j,h2,h3,h4,h5,h6⟩
   ·have hf:dP L n m=true:=by
     unfold dP;simp only[Ad,decide_eq_true_eq,Ak,beq_iff_eq];refine⟨hs,?_⟩;rcases Aw m with h|h
     ·exact Or.inl h
     ·grind [uN0]
    grind [dV]
   ·by_cases hq:(nth L j).take n=(nth L m).take n
    ·have hc:=(kW n _ _).2 ⟨h3,hs,hq⟩
     have th:=hL.all (m:=m) (by omega) h2 (Ac _) hc;grind [dV,dP]
    ·have hf:dP L n m=true:=by
      unfold dP;simp only[Ad,decide_eq_true_eq,Ak,beq_iff_eq];refine⟨hs,Or.inr ?_⟩;apply Au
      intro oz;have h7:=(uN0 L m).1
      have h8:j=m-1:=by
       rcases Ab j (m-1) with h|h
       ·grind
       ·omega
      have h9:n<=cAt L m:=by omega
      unfold cAt at h9;rw[<-h8]at h9;exact by grind [kW]
     grind [dV]
  grind [dV,dP]
theorem lX0 {L:List (List UInt8)} (hL:Asc L) {n:Nat} (hn:0<n):aL1 L n=kC L n L.length:=by
 have:=(iL0 hL hn L.length (Ac _)).1
 grind [aL1]
def nR0 (L:List (List UInt8)):List (List UInt8):=[]::(Af 1 256).flatMap (aL1 L)
theorem gH1 {L:List (List UInt8)} (hL:Asc L) (d:Nat):(lv L (d+1)).map (eX L)=aL1 L (d+1):=by
 have ht:=gY hL (d+1);rw[lX0 hL (Ba d)];unfold kC;have hf:=ht.firsts (Ba d);rw[Nat.sub_zero]at hf;rw[<-hf,List.map_map];apply Bp
 intro x hx;show (nth L x.i).take x.d=(nth L x.i).take (d+1)
 rw[(ht.mem x hx).2.1]
theorem dA0 {L:List (List UInt8)} (hL:Asc L):(nodesA L).map (eX L)=nR0 L:=by
 have key:∀n,((Ah (n+1)).flatMap (lv L)).map (eX L)=[]::(Af 1 n).flatMap (aL1 L):=by
  intro n;rw[Bj,Ai,Az,Bf,List.map_flatMap,List.range'_eq_map_range,Bf]
  have:(lv L 0).map (eX L)=[[]]:=by simp[lv,eX,rootS]
  rw[this];simp only[Bw,List.nil_append,List.cons.injEq,true_and];congr 1
  funext d
  rw[gH1 hL d,Nat.add_comm]
 exact key 256
def sA0 (L:List (List UInt8)) (j:Nat):Nat:=(nth L j).length-(if j=0 then 0 else cAt L j)
def iG (L:List (List UInt8)):Nat->Nat
 | 0=>1
 | m+1=>iG L m+sA0 L m
def dF (L:List (List UInt8)):Nat:=iG L L.length
def lL (L:List (List UInt8)) (n m:Nat):Nat:=((Af 0 m).filter (dP L n)).length
theorem kF0 (L:List (List UInt8)) (n m:Nat):lL L n (m+1)=lL L n m+(if dP L n m then 1 else 0):=by
 unfold lL;rw[Br,Ag,Bc];grind
def oT (f:Nat->Nat):Nat->Nat
 | 0=>0
 | k+1=>oT f k+f (k+1)
theorem jB0 (f g:Nat->Nat):∀k,oT (λn=>f n+g n) k=oT f k+oT g k
 | 0=>rfl
 | k+1=>by simp only[oT];rw[jB0 f g k];omega
theorem zO (L:List (List UInt8)) (j:Nat):∀k,oT (λn=>if dP L n j then 1 else 0) k=min k (nth L j).length-(if j=0 then 0 else min k (cAt L j))
 | 0=>by simp[oT]
 | k+1=>by
  have hc:=(uN0 L j).2;simp only[oT];rw[zO L j k];grind [dP]
theorem cC0:∀k,oT (λ_=>0) k=0
 | 0=>rfl
 | k+1=>by simp only[oT];rw[cC0 k]
theorem sU (L:List (List UInt8)) (h:∀s∈L,s.length<=256):∀m,m<=L.length->1+oT (λn=>lL L n m) 256=iG L m
 | 0,_=>by
  have:oT (λn=>lL L n 0) 256=oT (λ_=>0) 256:=by grind [lL]
  rw[this,cC0];rfl
 | m+1,hm=>by
  have ih:=sU L h m (by omega);have e:oT (λn=>lL L n (m+1)) 256=oT (λn=>lL L n m+(if dP L n m then 1 else 0)) 256:=by grind [kF0]
  rw[e,jB0,zO,iG,<-ih];grind [nth,sA0]
theorem iP {L:List (List UInt8)} (hL:Asc L) (h:∀s∈L,s.length<=256):(nodesA L).length=dF L:=by
 have key:∀n,((Ah (n+1)).flatMap (lv L)).length=1+oT (λd=>lL L d L.length) n:=by
  intro n
  induction n with
  | zero=>rfl
  | succ n ih =>
   rw[Av,Ao,Bc,ih];simp only[Ai,Bv,Ay,oT];have hf:=(gY hL (n+1)).firsts (Ba n);grind [lL]
 unfold dF;rw[<-sU L h L.length (Ac _)];exact key 256
end
section
open Go Go.RowKit
theorem qS {P:Program} {d:Nat} {t:TypeId} {fs:Array Field} {cs:List Value} (h:P.underlying t=some (.struct fs)) :
  P.keyLits (d + 1) t cs = if cs.length = P.cellsOf t ∧ fs.all (·.name != "_") = true then (fs.toList.mapM fun f => P.keyLits d f.type ((cs.drop f.offset).take (P.cellsOf f.type))).map List.flatten else none := by
 conv=>lhs;unfold Program.keyLits
 simp only[h]
def vM0 (x:Int×Int):Value := .agg #[.int .i64 x.1,.int .i64 x.2]
def WfI (n:Int):Prop:=(Lit.int .i64 n).wf=true
def klP (x:Int×Int):Lit := .string (keyBytes [.int .i64 x.1,.int .i64 x.2])
theorem gK0:laidOutB Tryz.prog=true:=by kernel_rfl
theorem qP:Go.Maps.Keyed Tryz.prog 84:=Go.Maps.Keyed.of_law (deep_law_laid gK0 (m:=3) (by decide) (of_decide_eq_true (by kernel_rfl)) (by kernel_rfl) (by kernel_rfl))
theorem iR1 {x:Int×Int} (h1:WfI x.1) (h2:WfI x.2):Go.keyOf Tryz.prog 84 (vM0 x)=some (klP x):=by
 obtain⟨m,hm⟩:∃m,Tryz.prog.types.size=m+1:=⟨Tryz.prog.types.size-1,by have:0<Tryz.prog.types.size:=of_decide_eq_true (by kernel_rfl);omega⟩
 have hI:∀(n:Int),WfI n->Tryz.prog.keyLits (m+1) 3 [.int .i64 n]=some [.int .i64 n]:=λn hn=>by
  unfold Program.keyLits;unfold WfI at hn;simp only[Tryz.underlying3,hn,and_self,if_true]
 have hk:Tryz.prog.keyType 84=true:=by kernel_rfl
 have hc:Tryz.prog.cellsOf 84=2:=by kernel_rfl
 have hci:Tryz.prog.cellsOf 3=1:=by kernel_rfl
 obtain⟨a,b⟩:=x;have g1:=hI a h1;have g2:=hI b h2;unfold Go.keyOf;simp only[Tryz.underlying84,hk,Be];unfold Value.formed vM0;simp only[Tryz.underlying84,hc];have hz:((#[Value.int .i64 a,.int .i64 b]:Array Value).size==2)=true:=rfl;rw[if_pos hz,hm];unfold Program.keyLits;simp only[Tryz.underlying84,hc,Value.cells];simp[hci,g1,g2,klP]
theorem gF0 {x y:Int×Int} (h1:WfI x.1) (h2:WfI x.2) (h3:WfI y.1) (h4:WfI y.2) (h:klP x=klP y):x=y:=by
 have k1:=iR1 h1 h2;have k2:=iR1 h3 h4;rw[h]at k1
 have:=qP.inj k1 k2
 obtain⟨a,b⟩:=x;obtain⟨a',b'⟩:=y;simpa [vM0] using this
theorem eK0 {key:Value} {kl:Lit} (h:Go.keyOf Tryz.prog 84 key=some kl):∃x:Int×Int,WfI x.1/\WfI x.2/\key=vM0 x/\kl=klP x:=by
 obtain⟨m,hm⟩:∃m,Tryz.prog.types.size=m+1:=⟨Tryz.prog.types.size-1,by have:0<Tryz.prog.types.size:=of_decide_eq_true (by kernel_rfl);omega⟩
 have hI:∀(v:Value) (ls:List Lit),Tryz.prog.keyLits (m+1) 3 [v]=some ls->∃n:Int,v=.int .i64 n/\WfI n/\ls=[.int .i64 n]:=λv ls h=>by
  unfold Program.keyLits at h;simp only[Tryz.underlying3]at h;cases v<;>simp at h
  obtain⟨⟨rfl,h2⟩,h3⟩:=h;exact⟨_,rfl,h2,h3.symm⟩
 have hk:Tryz.prog.keyType 84=true:=by kernel_rfl
 have hc:Tryz.prog.cellsOf 84=2:=by kernel_rfl
 have hci:Tryz.prog.cellsOf 3=1:=by kernel_rfl
 unfold Go.keyOf at h;simp only[Tryz.underlying84,hk,Be]at h;split at h
 ·rename_i hf
  rw[hm]at h
  obtain⟨cs,rfl,dm⟩:∃cs,key=.agg cs/\cs.size=2:=by
   unfold Value.formed at hf;cases key<;>simp[Tryz.underlying84,hc]at hf
   exact⟨_,rfl,hf⟩
  obtain⟨l⟩:=cs
  match l,dm with
  | [c0,c1],_ =>
   rw[qS Tryz.underlying84]at h;simp only[Value.cells]at h;simp[hci,hc,Bg,Ca]at h;obtain⟨l0,g0,ls,⟨l1,g1,rfl⟩,rfl⟩:=h;obtain⟨n2,rfl,z2,rfl⟩:=hI _ _ g0;obtain⟨n3,rfl,z3,rfl⟩:=hI _ _ g1;exact⟨⟨n2,n3⟩,z2,z3,rfl,by simp[klP]⟩
 ·cases h
end
section
open Go Go.RowKit
structure Mx where
 n:Nat
 d:Int
 cs:List Int
structure Mx.OK (m:Mx):Prop where
 n1:1<=m.n
 n2:m.n<=64
 d1:0<=m.d
 d2:m.d<=30000
 len:m.cs.length=m.n*m.n
 cost:∀c∈m.cs,0<=c/\c<=30000
def isC (c:Int):Bool:=decide (0<=c)&&decide (c<=30000)
theorem pI {c:Int}:isC c=true↔0<=c/\c<=30000:=by simp[isC]
def uD0 (n d:Int):Bool:=decide (1<=n)&&decide (n<=64)&&isC d
theorem lD {n d:Int}:uD0 n d=true↔1<=n/\n<=64/\0<=d/\d<=30000:=by simp[uD0,isC,and_assoc]
def newM (n d:Int):Mx:=⟨n.toNat,d,Bz (n.toNat*n.toNat) d⟩
theorem yN {n d:Int} (h:uD0 n d=true):(newM n d).OK:=by
 obtain⟨h1,h2,h3,h4⟩:=lD.1 h;refine⟨?_,?_,h3,h4,by simp[newM],λc hc=>?_⟩
 ·show 1<=n.toNat;omega
 ·show n.toNat<=64;omega
 ·obtain rfl:c=d:=(List.mem_replicate.1 hc).2
  exact⟨h3,h4⟩
def inR (n:Nat) (r:Int):Bool:=decide (0<=r)&&decide (r<n)
theorem iG1 {n:Nat} {r:Int}:inR n r=true↔0<=r/\r<n:=by simp[inR]
def at2 (n:Nat) (x:Int×Int):Nat:=x.1.toNat*n+x.2.toNat
def inP (n:Nat) (x:Int×Int):Bool:=inR n x.1&&inR n x.2
theorem lJ {n:Nat} {x:Int×Int}:inP n x=true↔(0<=x.1/\x.1<n)/\0<=x.2/\x.2<n:=by simp[inP,iG1]
theorem sC {n:Nat} {x:Int×Int} (h:inP n x=true):at2 n x<n*n:=by
 obtain⟨⟨h1,h2⟩,h3,h4⟩:=lJ.1 h;unfold at2;have k1:x.1.toNat+1<=n:=by omega
 have k2:x.2.toNat<n:=by omega
 have:=Nat.mul_le_mul_right n k1
 grind
theorem fW1 {n:Nat} {x:Int×Int} (h:inP n x=true):at2 n x/n=x.1.toNat/\at2 n x%n=x.2.toNat:=by
 obtain⟨⟨h1,h2⟩,h3,h4⟩:=lJ.1 h;have k2:x.2.toNat<n:=by omega
 unfold at2;constructor
 ·rw[Cc,Nat.mul_add_div (by omega),Nat.div_eq_of_lt k2,Nat.add_zero]
 ·rw[Cc,Nat.mul_add_mod,Nat.mod_eq_of_lt k2]
theorem uY0 {n:Nat} {x y:Int×Int} (hx:inP n x=true) (hy:inP n y=true) (h:at2 n x=at2 n y):x=y:=by
 grind [fW1,lJ]
def Mx.cost (m:Mx) (x:Int×Int):Int:=if inP m.n x then m.cs.getD (at2 m.n x) 0 else 30000
def Mx.setB (m:Mx) (x:Int×Int) (c:Int):Bool:=inP m.n x&&isC c
def Mx.set (m:Mx) (x:Int×Int) (c:Int):Mx:={ m with cs:=m.cs.set (at2 m.n x) c }
def Mx.setIf (m:Mx) (x:Int×Int) (c:Int):Mx:=if m.setB x c then m.set x c else m
theorem Mx.OK.set {m:Mx} (h:m.OK) {x:Int×Int} {c:Int} (hs:m.setB x c=true):(m.set x c).OK:=by
 simp only[Mx.setB,Ad]at hs;refine⟨h.n1,h.n2,h.d1,h.d2,by simp[Mx.set,h.len],λz hz=>?_⟩;rcases List.mem_or_eq_of_mem_set hz with hz|rfl
 ·exact h.cost z hz
 ·exact pI.1 hs.2
theorem Mx.OK.setIf {m:Mx} (h:m.OK) (x:Int×Int) (c:Int):(m.setIf x c).OK:=by
 unfold Mx.setIf;split
 ·rename_i hs;exact h.set hs
 ·exact h
theorem Mx.cost_set {m:Mx} (h:m.OK) {x:Int×Int} {c:Int} (hx:inP m.n x=true) (y:Int×Int):(m.set x c).cost y=if y=x then c else m.cost y:=by
 have hl:at2 m.n x<m.cs.length:=by rw[h.len];exact sC hx
 unfold Mx.cost;show (if inP m.n y then (m.cs.set (at2 m.n x) c).getD (at2 m.n y) 0 else 30000)=_
 by_cases hy:inP m.n y=true
 ·rw[if_pos hy,if_pos hy]
  by_cases e:y=x
  ·simp_all
  ·rw[if_neg e]
   have:at2 m.n x≠at2 m.n y:=λh=>e (uY0 hx hy h).symm
   simp_all
 grind
theorem Mx.cost_new {n d:Int} (x:Int×Int):(newM n d).cost x=if inP n.toNat x then d else 30000:=by
 unfold Mx.cost newM;simp only;by_cases h:inP n.toNat x=true
 ·rw[if_pos h,if_pos h]
  simp[Cf,sC h]
 simp_all
theorem Mx.cost_ok {m:Mx} (h:m.OK) (x:Int×Int):0<=m.cost x/\m.cost x<=30000:=by
 unfold Mx.cost;split
 ·rename_i hx
  have hl:at2 m.n x<m.cs.length:=by rw[h.len];exact sC hx
  have:m.cs.getD (at2 m.n x) 0=m.cs[at2 m.n x]:=by simp[Cf,hl]
  rw[this];exact h.cost _ (List.getElem_mem _)
 ·omega
theorem pX {n:Nat} (hn:n<=64) {x:Int×Int} (h:inP n x=true):WfI x.1/\WfI x.2:=by
 grind [lJ,WalkArith.wf_i64,WfI]
section
variable {H:Type}
def pI0 (m:Mx) (D:DataW H):Prop:=∀x:Int×Int,WfI x.1->WfI x.2->(Maps.has D (klP x)=(inP m.n x&&decide (m.cost x≠m.d)))/\(Maps.has D (klP x)=true->∀zd,D.atKey (klP x) zd=.lit (.int .i64 (m.cost x)))
theorem yL (x:Int×Int):WideAt.IsKeyLit (klP x):=by simp[klP,WideAt.IsKeyLit]
theorem nP0 (x:Int×Int):(klP x).sameKey (klP x)=true:=by simp[klP,Lit.sameKey]
theorem cW1 (n d:Int):pI0 (H:=H) (newM n d) (.map []):=λx _ _=>by
 refine⟨?_,λh=>by cases h⟩;show false=_
 rw[Mx.cost_new];show false=(inP n.toNat x&&decide ((if inP n.toNat x then d else 30000)≠d))
 simp_all
theorem pI0.put {m:Mx} {D:DataW H} (h:pI0 m D) (hm:Maps.IsMap D) (be:m.OK) {x:Int×Int} {c:Int} (hs:m.setB x c=true) (hc:c≠m.d):pI0 (m.set x c) (D.put (klP x) (.lit (.int .i64 c))):=λy h1 h2=>by
 simp only[Mx.setB,Ad]at hs;have hw:=pX be.n2 hs.1;rw[Mx.cost_set be hs.1];show Maps.has _ _=(inP m.n y&&decide (_≠m.d))/\_
 by_cases e:y=x
 ·subst e
  rw[if_pos rfl,Maps.has_put_same hm (yL _),hs.1];exact⟨by simp[hc],λ_ zd=>Maps.atKey_put_same hm (yL _) _ _⟩
 ·have aw:klP y≠klP x:=λh=>e (gF0 h1 h2 hw.1 hw.2 h)
  rw[if_neg e,Maps.has_put_other aw];refine⟨(h y h1 h2).1,λhh zd=>?_⟩;rw[Maps.atKey_put_other aw];exact(h y h1 h2).2 hh zd
theorem pI0.del {m:Mx} {D:DataW H} (h:pI0 m D) (be:m.OK) {x:Int×Int} (hx:inP m.n x=true):pI0 (m.set x m.d) (D.del (klP x)):=λy h1 h2=>by
 have hw:=pX be.n2 hx;rw[Mx.cost_set be hx];show Maps.has _ _=(inP m.n y&&decide (_≠m.d))/\_
 by_cases e:y=x
 ·subst e
  rw[if_pos rfl,Maps.has_del_same];simp_all
 ·have aw:klP y≠klP x:=λh=>e (gF0 h1 h2 hw.1 hw.2 h)
  rw[if_neg e,Maps.has_del_other aw];refine⟨(h y h1 h2).1,λhh zd=>?_⟩;rw[Maps.atKey_del_other aw];exact(h y h1 h2).2 hh zd
theorem pI0.look {m:Mx} {D:DataW H} (h:pI0 m D) (be:m.OK) {x:Int×Int} (hx:inP m.n x=true) {c:Int} (hc:D.atKey (klP x) (.lit (.int .i64 0))=.lit (.int .i64 c)):(Maps.has D (klP x)=true->c=m.cost x)/\(Maps.has D (klP x)=false->m.cost x=m.d):=by
 have hw:=pX be.n2 hx;obtain⟨h1,h2⟩:=h x hw.1 hw.2;grind
end
def Mx.idx (m:Mx):List Nat:=(Ah (m.n*m.n)).filter λi=>decide (m.cs.getD i 0≠m.d)
def eP (n i:Nat):Int×Int:=(((i/n:Nat):Int),((i%n:Nat):Int))
def Mx.pairs (m:Mx):List (Int×Int):=m.idx.map (eP m.n)
theorem mA {n i:Nat} (h:i<n*n):inP n (eP n i)=true/\at2 n (eP n i)=i:=by
 have hn:0<n:=by
  rcases Aw n with h0|h0
  ·subst h0;simp at h
  ·exact h0
 have h1:i/n<n:=Nat.div_lt_of_lt_mul h;have h2:i%n<n:=Nat.mod_lt _ hn;grind [lJ,Bn,eP,at2]
theorem cS0 {n:Nat} {x:Int×Int} (h:inP n x=true):eP n (at2 n x)=x:=by grind [uY0,mA,sC]
theorem Mx.mem_idx {m:Mx} {i:Nat}:i∈m.idx↔i<m.n*m.n/\m.cs.getD i 0≠m.d:=by simp[Mx.idx]
theorem Mx.mem_pairs {m:Mx} {x:Int×Int}:x∈m.pairs↔inP m.n x=true/\m.cost x≠m.d:=by
 unfold Mx.pairs;rw[Cd];constructor
 ·rintro⟨i,hi,rfl⟩
  obtain⟨h1,h2⟩:=Mx.mem_idx.1 hi;obtain⟨h3,h4⟩:=mA h1;refine⟨h3,?_⟩;unfold Mx.cost;simp_all
 ·rintro⟨h1,h2⟩
  refine⟨at2 m.n x,Mx.mem_idx.2 ⟨sC h1,?_⟩,cS0 h1⟩;unfold Mx.cost at h2;rwa [if_pos h1]at h2
def aP1 (a b:Int×Int):Int:=orI [jT a.1 b.1,jT a.2 b.2]
def ltP (a b:Int×Int):Prop:=a.1<b.1\/a.1=b.1/\a.2<b.2
theorem gC1 (a b:Int×Int):aP1 a b<0↔ltP a b:=by
 unfold aP1 ltP;grind [orI,jT]
theorem dC0 (a:Int×Int):¬ltP a a:=by unfold ltP; omega
theorem iA0 {a b c:Int×Int} (h1:ltP a b) (h2:ltP b c):ltP a c:=by unfold ltP at *; omega
theorem xD0 {a b:Int×Int} (h:a≠b):ltP a b\/ltP b a:=by
 grind [ltP]
theorem wH0 {n i j:Nat} (h:i<j):ltP (eP n i) (eP n j):=by
 have h1:i/n<=j/n:=Nat.div_le_div_right (Nat.le_of_lt h);unfold ltP eP;simp only;by_cases e:i/n=j/n
 ·right
  refine⟨by omega,?_⟩;have h2:=Bn i n;have h3:=Bn j n;rw[e]at h2;omega
 ·left;omega
theorem Mx.pairs_sorted (m:Mx):m.pairs.Pairwise ltP:=by
 unfold Mx.pairs Mx.idx;rw[Bt];exact(List.Pairwise.filter _ Bk).imp λh=>wH0 h
theorem aS0 {α:Type} {lt:α->α->Prop} (hi:∀a, ¬lt a a) (ht:∀ {a b c},lt a b->lt b c->lt a c):∀ {o o':List α},o.Pairwise lt->o'.Pairwise lt->(∀y,y∈o↔y∈o')->o=o'
 | [],[],_,_,_=>rfl
 | [],b::s,_,_,h=>by have:=(h b).2 (by simp);cases this
 | a::r,[],_,_,h=>by have:=(h a).1 (by simp);cases this
 | a::r,b::s,h1,h2,h=>by
  obtain⟨ha,hr⟩:=List.pairwise_cons.1 h1;obtain⟨hb,hs⟩:=List.pairwise_cons.1 h2
  have qd:a=b:=by
   rcases List.mem_cons.1 ((h a).1 (by simp)) with e|e
   ·exact e
   ·rcases List.mem_cons.1 ((h b).2 (by simp)) with e'|e'
    ·exact e'.symm
    grind
  subst qd;have j6:a∉r:=by grind
  have ii:a∉s:=by grind
  rw[aS0 hi ht hr hs λy=>?_];grind
theorem Mx.pairs_len {m:Mx} (h:m.OK):m.pairs.length<=4096:=by
 unfold Mx.pairs;rw[List.length_map];refine Bi (List.length_filter_le _ _) ?_;rw[List.length_range]
 have:=h.n2
 exact Nat.mul_le_mul this this
theorem dI {α:Type} [DecidableEq α]:∀ {l l':List α},l.Nodup->(∀x∈l,x∈l')->l.length<=l'.length
 | [],_,_,_=>Ap _
 | x::r,l',hn,hs=>by
  obtain⟨h1,h2⟩:=List.nodup_cons.1 hn;have hx:=hs x (by simp);have hr:=dI (l':=l'.erase x) h2 λy hy=>(List.mem_erase_of_ne (λ(e:y=x)=>h1 (by rw[<-e];exact hy))).2 (hs y (by simp[hy]));rw[List.length_erase_of_mem hx]at hr
  have:=List.length_pos_of_mem hx
  simp only[Bh];omega
end
section
open Go
def ltK (k:Nat->Nat) (x y:Nat):Prop:=k x<k y\/(k x=k y/\x<y)
theorem jP0 {k:Nat->Nat} {x y z:Nat} (h1:ltK k x y) (h2:ltK k y z):ltK k x z:=by unfold ltK at *; omega
theorem cM0 {k:Nat->Nat} {x:Nat}:¬ltK k x x:=by unfold ltK; omega
theorem lN {k:Nat->Nat} {x y:Nat} (h:x<y):ltK k y x↔k y<k x:=by unfold ltK; omega
theorem xX {k:Nat->Nat} {x y:Nat} (h:x<y):ltK k x y↔¬k y<k x:=by unfold ltK; omega
def fG (D:Nat->Nat) (a m b i:Nat):Nat:=if i<a then D i else if i<a+(b-m) then D (i+(m-a)) else if i<b then D (i-(b-m)) else D i
def kQ0 (D:Nat->Nat) (a b n i:Nat):Nat:=if a<=i/\i<a+n then D (i-a+b) else if b<=i/\i<b+n then D (i-b+a) else D i
structure eB (D D':Nat->Nat) (a b:Nat):Prop where
 out:∀i,(i<a\/b<=i)->D' i=D i
 fro:∀i,a<=i->i<b->∃j,a<=j/\j<b/\D' i=D j
 to:∀j,a<=j->j<b->∃i,a<=i/\i<b/\D' i=D j
theorem eB.refl (D:Nat->Nat) (a b:Nat):eB D D a b:=⟨λ_ _=>rfl,λi h1 h2=>⟨i,h1,h2,rfl⟩,λi h1 h2=>⟨i,h1,h2,rfl⟩⟩
theorem eB.trans {D D' D'':Nat->Nat} {a b:Nat} (h:eB D D' a b) (h':eB D' D'' a b):eB D D'' a b where
 out i hi:=(h'.out i hi).trans (h.out i hi)
 fro i h1 h2:=by
  obtain⟨j,j1,j2,e⟩:=h'.fro i h1 h2;obtain⟨j',j1',j2',e'⟩:=h.fro j j1 j2;grind
 to j h1 h2:=by
  obtain⟨i,i1,i2,e⟩:=h.to j h1 h2;obtain⟨i',i1',i2',e'⟩:=h'.to i i1 i2;grind
theorem eB.wide {D D':Nat->Nat} {a b a' b':Nat} (h:eB D D' a b) (ha:a'<=a) (hb:b<=b'):eB D D' a' b' where
 out i hi:=h.out i (by omega)
 fro i h1 h2:=by
  by_cases hi:a<=i/\i<b
  ·obtain⟨j,j1,j2,e⟩:=h.fro i hi.1 hi.2
   grind
  ·exact⟨i,h1,h2,h.out i (by omega)⟩
 to i h1 h2:=by
  by_cases hi:a<=i/\i<b
  ·obtain⟨j,j1,j2,e⟩:=h.to i hi.1 hi.2
   grind
  ·exact⟨i,h1,h2,h.out i (by omega)⟩
theorem wF0 {D:Nat->Nat} {a m b i:Nat} (h:i<a):fG D a m b i=D i:=by grind [fG]
theorem iV1 {D:Nat->Nat} {a m b i:Nat} (h1:a<=i) (h2:i<a+(b-m)):fG D a m b i=D (i+(m-a)):=by
 grind [fG]
theorem iZ1 {D:Nat->Nat} {a m b i:Nat} (h1:a+(b-m)<=i) (h2:i<b):fG D a m b i=D (i-(b-m)):=by
 grind [fG]
theorem fT1 {D:Nat->Nat} {a m b i:Nat} (ha:a<=m) (hm:m<=b) (h:b<=i):fG D a m b i=D i:=by
 grind [fG]
theorem cK {D:Nat->Nat} {a m b:Nat} (ha:a<=m) (hm:m<=b):eB D (fG D a m b) a b where
 out i hi:=by
  grind [fG]
 fro i h1 h2:=by
  grind [Ab,fG]
 to j h1 h2:=by
  rcases Ab j m with h|h
  ·exact⟨j+(b-m),by omega,by omega,by grind [fG]⟩
  ·exact⟨j-(m-a),by omega,by omega,by grind [fG]⟩
theorem yP {D:Nat->Nat} {a b:Nat} (h:a<=b):fG D a a b=D:=by
 grind [fG]
theorem cL0 {D:Nat->Nat} {a b:Nat}:fG D a b b=D:=by
 grind [fG]
theorem wY0 (D:Nat->Nat) (a b:Nat):kQ0 D a b 0=D:=by
 grind [kQ0]
def uB0 (D:Nat->Nat) (j v i:Nat):Nat:=if i=j then v else D i
theorem vR0 {D:Nat->Nat} {a b n:Nat} (h:a+n<b):uB0 (uB0 (kQ0 D a b n) (a+n) (kQ0 D a b n (b+n))) (b+n) (kQ0 D a b n (a+n))=kQ0 D a b (n+1):=by
 grind [uB0,kQ0]
theorem iP1 {D:Nat->Nat} {m i j:Nat} (hi:i<=m) (h:j<i):fG (kQ0 D (m-i) m j) (m-(i-j)) m (m+j)=fG D (m-i) m (m+j):=by
 grind [fG,kQ0]
theorem aC1 {D:Nat->Nat} {m i j:Nat} (hi:i<=m) (h:i<j):fG (kQ0 D (m-i) (m+j-i) i) (m-i) m (m+(j-i))=fG D (m-i) m (m+j):=by
 grind [fG,kQ0]
theorem eG1 {D:Nat->Nat} {m i:Nat} (hi:i<=m):kQ0 D (m-i) m i=fG D (m-i) m (m+i):=by
 grind [kQ0,fG]
theorem oU0 {D:Nat->Nat} {i j:Nat} (h0:0<j) (h:j<=i):uB0 (uB0 (fG D j i (i+1)) j (fG D j i (i+1) (j-1))) (j-1) (fG D j i (i+1) j)=fG D (j-1) i (i+1):=by
 grind [uB0,fG]
theorem jQ1 {D:Nat->Nat} {a j:Nat} (h:a<=j):uB0 (uB0 (fG D a (a+1) (j+1)) j (fG D a (a+1) (j+1) (j+1))) (j+1) (fG D a (a+1) (j+1) j)=fG D a (a+1) (j+2):=by
 grind [uB0,fG]
def Srt (k D:Nat->Nat) (a b:Nat):Prop:=∀i j,a<=i->i<j->j<b->ltK k (D i) (D j)
def Apt (D:Nat->Nat) (a m b:Nat):Prop:=∀i j,a<=i->i<m->m<=j->j<b->D i<D j
theorem Srt.of_eq {k D D':Nat->Nat} {a b:Nat} (h:Srt k D a b) (he:∀i,a<=i->i<b->D' i=D i):Srt k D' a b:=λi j h1 h2 h3=>by
 rw[he i h1 (by omega),he j (by omega) h3];exact h i j h1 h2 h3
theorem Srt.le {k D:Nat->Nat} {a b:Nat} (h:Srt k D a b) {i j x:Nat} (h1:a<=i) (h2:i<=j) (h3:j<b) (hx:ltK k x (D i)):ltK k x (D j):=by
 rcases Ab i j with h4|h4
 ·exact jP0 hx (h i j h1 h4 h3)
 grind
theorem Srt.ge {k D:Nat->Nat} {a b:Nat} (h:Srt k D a b) {i j x:Nat} (h1:a<=i) (h2:i<=j) (h3:j<b) (hx:ltK k (D j) x):ltK k (D i) x:=by
 rcases Ab i j with h4|h4
 ·exact jP0 (h i j h1 h4 h3) hx
 grind
theorem bD1 {k D:Nat->Nat} {a m b:Nat} (h1:Srt k D a m) (h2:Srt k D m b) (h:∀i j,a<=i->i<m->m<=j->j<b->ltK k (D i) (D j)):Srt k D a b:=by grind [Srt]
theorem eP0 {k D:Nat->Nat} {a i j:Nat} (hs:Srt k D a i) (ha:a<=j) (hj:j<=i) (h1:∀c,a<=c->c<j->ltK k (D c) (D i)) (h2:∀c,j<=c->c<i->ltK k (D i) (D c)):Srt k (fG D j i (i+1)) a (i+1):=by
 grind [Srt,fG]
theorem jG1 {k D:Nat->Nat} {a i b:Nat} (hs:Srt k D (a+1) b) (ha:a+1<=i) (hi:i<=b) (h1:∀c,a+1<=c->c<i->ltK k (D c) (D a)) (h2:∀c,i<=c->c<b->ltK k (D a) (D c)):Srt k (fG D a (a+1) i) a b:=by
 grind [Srt,fG]
structure jC0 (a m b az lo hi:Nat):Prop where
 am:a<m
 mb:m<b
 mid1:2*az<=a+b
 mid2:a+b<=2*az+1
 big:az<m->lo=az+m-b/\hi=az
 small:m<=az->lo=a/\hi=m
theorem jC0.in {a m b az lo hi c:Nat} (h:jC0 a m b az lo hi) (h1:lo<=c) (h2:c<hi):a<=c/\c<m/\m<=az+m-1-c/\az+m-1-c<b/\c<az+m:=by
 obtain⟨h3,h4,h5,h6,h7,h8⟩:=h;omega
theorem jC0.rng {a m b az lo hi:Nat} (h:jC0 a m b az lo hi):a<=lo/\lo<=hi/\hi<=m/\hi<=az/\az+m-lo<=b/\m<=az+m-hi/\az+m-lo >= m:=by
 obtain⟨h3,h4,h5,h6,h7,h8⟩:=h;omega
theorem pL0 {k D:Nat->Nat} {a m b az lo hi c c':Nat} (h:jC0 a m b az lo hi) (s1:Srt k D a m) (s2:Srt k D m b) (ap:Apt D a m b) (h1:lo<=c) (h2:c<=c') (h3:c'<hi)
  (hc:k (D (az+m-1-c))<k (D c)):k (D (az+m-1-c'))<k (D c'):=by
 obtain⟨a1,a2,a3,a4,a5⟩:=h.in h1 (by omega);obtain⟨b1,b2,b3,b4,b5⟩:=h.in (c:=c') (by omega) h3;rw[<-lN (ap _ _ b1 b2 b3 b4)];rw[<-lN (ap _ _ a1 a2 a3 a4)]at hc;exact s1.le a1 h2 b2 (s2.ge b3 (by omega) a4 hc)
theorem yU0 {k D:Nat->Nat} {a m b az lo hi s:Nat} (h:jC0 a m b az lo hi) (s1:Srt k D a m) (s2:Srt k D m b) (ap:Apt D a m b) (qe:lo<=s) (y6:s<=hi)
  (h1:∀c,lo<=c->c<s->¬k (D (az+m-1-c))<k (D c)) (h2:∀c,s<=c->c<hi->k (D (az+m-1-c))<k (D c)) :
  Srt k (fG D s m (az+m-s)) a s/\Srt k (fG D s m (az+m-s)) s az/\Srt k (fG D s m (az+m-s)) az (az+m-s)/\Srt k (fG D s m (az+m-s)) (az+m-s) b /\
  Apt (fG D s m (az+m-s)) a s az/\Apt (fG D s m (az+m-s)) az (az+m-s) b /\
  ∀i j,a<=i->i<az->az<=j->j<b->ltK k (fG D s m (az+m-s) i) (fG D s m (az+m-s) j):=by
 obtain⟨r1,r2,r3,r4,r5,r6,r7⟩:=h.rng;have mr:az+m-s<=b:=by omega
 have A1:∀i,i<s->fG D s m (az+m-s) i=D i:=λi hi=>wF0 hi;have A2:∀i,s<=i->i<az->fG D s m (az+m-s) i=D (i+(m-s)):=by grind [fG]
 have A3:∀i,az<=i->i<az+m-s->fG D s m (az+m-s) i=D (i-(az-s)):=λi h1 h2=>by
  rw[iZ1 (by omega) h2];congr 1;omega
 have A4:∀i,az+m-s<=i->fG D s m (az+m-s) i=D i:=λi h=>fT1 (by omega) (by omega) h
 -- what lies left of the cut is less than what lies right of it
 have X1:∀c q,a<=c->c<s->az+m-s<=q->q<b->ltK k (D c) (D q):=λc q c1 c2 q1 q2=>by
  rcases Ab lo s with hl|hl
  ·obtain⟨y1,y2,y3,y4,y5⟩:=h.in (c:=s-1) (by omega) (by omega)
   have:=h1 (s-1) (by omega) (by omega)
   rw[<-xX (ap _ _ y1 y2 y3 y4)]at this;exact s1.ge (j:=s-1) c1 (by omega) y2 (s2.le y3 (by omega) q2 this)
  ·exfalso
   obtain⟨h3,h4,h5,h6,h7,h8⟩:=h;omega
 have X2:∀q c,m<=q->q<az+m-s->s<=c->c<m->ltK k (D q) (D c):=λq c q1 q2 c1 c2=>by
  rcases Ab s hi with hl|hl
  ·obtain⟨y1,y2,y3,y4,y5⟩:=h.in (c:=s) (by omega) hl
   have:=h2 s (Ac _) hl
   rw[<-lN (ap _ _ y1 y2 y3 y4)]at this;exact s1.le y1 c1 c2 (s2.ge q1 (by omega) y4 this)
  ·exfalso
   obtain⟨h3,h4,h5,h6,h7,h8⟩:=h;omega
 refine⟨?_,?_,?_,?_,?_,?_,?_⟩
 ·grind [Srt]
 ·intro i j i1 i2 i3
  rw[A2 i i1 (by omega),A2 j (by omega) i3];exact s2 _ _ (by omega) (by omega) (by omega)
 ·intro i j i1 i2 i3
  rw[A3 i i1 (by omega),A3 j (by omega) i3];exact s1 _ _ (by omega) (by omega) (by omega)
 ·intro i j i1 i2 i3
  rw[A4 i i1,A4 j (by omega)];exact s2 _ _ (by omega) (by omega) (by omega)
 ·intro i j i1 i2 i3 i4
  rw[A1 i i2,A2 j i3 i4];exact ap _ _ i1 (by omega) (by omega) (by omega)
 ·intro i j i1 i2 i3 i4
  rw[A3 i i1 i2,A4 j i3];exact ap _ _ (by omega) (by omega) (by omega) i4
 ·intro i j i1 i2 i3 i4
  rcases Ab i s with h3|h3
  ·rw[A1 i h3]
   rcases Ab j (az+m-s) with h4|h4
   ·rw[A3 j i3 h4];exact s1 _ _ i1 (by omega) (by omega)
   simp_all
  ·rw[A2 i h3 i2]
   rcases Ab j (az+m-s) with h4|h4
   ·rw[A3 j i3 h4];exact X2 _ _ (by omega) (by omega) (by omega) (by omega)
   ·rw[A4 j h4];exact s2 _ _ (by omega) (by omega) (by omega)
theorem iA {k D1 D2 D3:Nat->Nat} {a az b:Nat} (ham:a<=az) (zy:az<=b) (hx:∀i j,a<=i->i<az->az<=j->j<b->ltK k (D1 i) (D1 j)) (e1:eB D1 D2 a az) (s1:Srt k D2 a az) (e2:eB D2 D3 az b) (s2:Srt k D3 az b) :
  Srt k D3 a b/\eB D1 D3 a b:=by
 refine⟨bD1 (m:=az) (s1.of_eq λi h1 h2=>e2.out i (Or.inl h2)) s2 ?_,(e1.wide (Ac _) zy).trans (e2.wide ham (Ac _))⟩;intro i j i1 i2 j1 j2;rw[e2.out i (Or.inl i2)];obtain⟨i',p1,p2,p3⟩:=e1.fro i i1 i2;obtain⟨j',q1,q2,q3⟩:=e2.fro j j1 j2;rw[p3,q3,e1.out j' (Or.inr q1)];simp_all
structure Win (k D:Nat->Nat) (a b:Nat):Prop where
 srt:Srt k D a b
 inn:∀i,a<=i->i<b->a<=D i/\D i<b
 all:∀v,a<=v->v<b->∃i,a<=i/\i<b/\D i=v
theorem Win.one (k D:Nat->Nat) {a:Nat} (h:D a=a):Win k D a (a+1):=⟨λi j h1 h2 h3=>by omega,by grind,by grind⟩
theorem Win.none (k D:Nat->Nat) (a:Nat):Win k D a a:=⟨λi j h1 h2 h3=>by omega,λi h1 h2=>by omega,λv h1 h2=>by omega⟩
theorem Win.apt {k D:Nat->Nat} {a m b:Nat} (h1:Win k D a m) (h2:Win k D m b):Apt D a m b:=λi j i1 i2 j1 j2=>by
 have:=h1.inn i i1 i2
 have:=h2.inn j j1 j2
 omega
theorem Win.merge {k D D':Nat->Nat} {a m b:Nat} (h1:Win k D a m) (h2:Win k D m b) (ham:a<=m) (zy:m<=b) (hs:eB D D' a b) (h:Srt k D' a b):Win k D' a b:=by
 refine⟨h,λi i1 i2=>?_,λv v1 v2=>?_⟩
 ·obtain⟨j,j1,j2,e⟩:=hs.fro i i1 i2
  rw[e];rcases Ab j m with hj|hj
  ·have:=h1.inn j j1 hj;omega
  ·have:=h2.inn j hj j2;omega
 ·rcases Ab v m with hv|hv
  ·obtain⟨j,j1,j2,e⟩:=h1.all v v1 hv
   obtain⟨i,i1,i2,e2⟩:=hs.to j j1 (by omega);grind
  ·obtain⟨j,j1,j2,e⟩:=h2.all v hv v2
   obtain⟨i,i1,i2,e2⟩:=hs.to j (by omega) j2;grind
theorem Win.of_eq {k D D':Nat->Nat} {a b:Nat} (h:Win k D a b) (he:∀i,a<=i->i<b->D' i=D i):Win k D' a b :=
 ⟨h.srt.of_eq he,λi h1 h2=>by rw[he i h1 h2];exact h.inn i h1 h2,λv h1 h2=>by obtain⟨i,a,b,c⟩:=h.all v h1 h2;grind⟩
def eP1 (k D:Nat->Nat) (B n:Nat):Prop:=∀t,t*B<n->Win k D (t*B) (min (t*B+B) n)
theorem kE {α:Type} {r:α->α->Prop} (ahm:∀a, ¬r a a) (htr:∀a b c,r a b->r b c->r a c):∀ {l1 l2:List α},l1.Pairwise r->l2.Pairwise r->(∀x,x∈l1↔x∈l2)->l1=l2
 | [],[],_,_,_=>rfl
 | [],y::_,_,_,h=>by have:=(h y).2 (by simp);simp at this
 | x::_,[],_,_,h=>by have:=(h x).1 (by simp);simp at this
 | x::l1,y::l2,h1,h2,h=>by
  obtain⟨a1,a2⟩:=List.pairwise_cons.1 h1;obtain⟨b1,b2⟩:=List.pairwise_cons.1 h2
  have hxy:x=y:=by
   rcases List.mem_cons.1 ((h x).1 (by simp)) with e|e
   ·exact e
   ·rcases List.mem_cons.1 ((h y).2 (by simp)) with e2|e2
    ·exact e2.symm
    grind
  subst hxy;rw[kE ahm htr a2 b2 λz=>?_];grind
def grp (k:Nat->Nat) (n s:Nat):List Nat:=(Ah n).filter λi=>k i==s
def grpsL (k:Nat->Nat) (n S:Nat):List Nat:=(Ah S).flatMap (grp k n)
def atsL (k:Nat->Nat) (n S:Nat):List Nat:=(Ah S).map λs=>(grpsL k n s).length
theorem uI (k:Nat->Nat) (n S:Nat):grpsL k n (S+1)=grpsL k n S++grp k n S:=by
 unfold grpsL;rw[Av,Ao];simp
theorem jR0 (k:Nat->Nat) (n S:Nat):atsL k n (S+1)=atsL k n S++[(grpsL k n S).length]:=by
 unfold atsL;rw[Av,Az];rfl
theorem fC0 {k:Nat->Nat} {n s i:Nat}:i∈grp k n s↔i<n/\k i=s:=by
 grind [grp]
theorem kP {k:Nat->Nat} {n S i:Nat}:i∈grpsL k n S↔i<n/\k i<S:=by
 unfold grpsL;rw[List.mem_flatMap];constructor
 ·grind [grp]
 ·rintro⟨h1,h2⟩
  exact⟨k i,List.mem_range.2 h2,fC0.2 ⟨h1,rfl⟩⟩
theorem kI0 (k:Nat->Nat) (n s:Nat):(grp k n s).Pairwise (ltK k):=by
 have h:(grp k n s).Pairwise (· < ·):=List.Pairwise.filter _ Bk;grind [Bd,ltK,grp]
theorem lI (k:Nat->Nat) (n:Nat):∀S,(grpsL k n S).Pairwise (ltK k)
 | 0=>by simp[grpsL]
 | S+1=>by
  rw[uI];refine List.pairwise_append.2 ⟨lI k n S,kI0 k n S,λa ha b hb=>?_⟩;grind [kP,fC0,ltK]
def bL0 (k:Nat->Nat) (l:List Nat) (i:Nat):Bool:=i==0||k (l.getD i 0) != k (l.getD (i-1) 0)
def iK0 (k:Nat->Nat) (l:List Nat):List Nat:=(Ah l.length).filter (bL0 k l)
theorem sC0 {k:Nat->Nat} {l g:List Nat} {s:Nat} (hg:g≠[]) (h1:∀x∈l,k x<s) (h2:∀x∈g,k x=s):iK0 k (l++g)=iK0 k l++[l.length]:=by
 have ay:0<g.length:=by grind
 have L1:∀i,i<l.length->(l++g).getD i 0=l.getD i 0:=by grind
 have L2:∀i,(l++g).getD (l.length+i) 0=g.getD i 0:=by grind
 have G:∀i,i<g.length->k (g.getD i 0)=s:=by simp_all
 have LL:∀i,i<l.length->k (l.getD i 0)<s:=by simp_all
 unfold iK0;rw[Bc,show l.length+g.length=l.length+(1+(g.length-1)) by omega,Bo,<-Al,<-Al,Ag,Ag]
 have e1:(Af 0 l.length).filter (bL0 k (l++g))=(Ah l.length).filter (bL0 k l):=by
  rw[Bo];apply List.filter_congr
  intro i hi;rw[At]at hi;unfold bL0;rw[L1 i (by omega),L1 (i-1) (by omega)]
 have e2:(Af (0+l.length) 1).filter (bL0 k (l++g))=[l.length]:=by
  rw[Nat.zero_add]
  have:bL0 k (l++g) l.length=true:=by
   unfold bL0;rcases Aw l.length with h|h
   ·rw[h];rfl
   ·grind
  simp[Af,this]
 have e3:(Af (0+l.length+1) (g.length-1)).filter (bL0 k (l++g))=[]:=by
  rw[Aq];intro i hi;rw[At]at hi;have a:=L2 (i-l.length);have b:=L2 (i-l.length-1);rw[show l.length+(i-l.length)=i by omega]at a
  rw[show l.length+(i-l.length-1)=i-1 by omega]at b
  unfold bL0;rw[a,b,G _ (by omega),G _ (by omega)]
  have:i≠0:=by omega
  simp[this]
 simp_all
theorem aH0 (k:Nat->Nat) (n:Nat):∀S,(∀s,s<S->∃i,i<n/\k i=s)->iK0 k (grpsL k n S)=atsL k n S
 | 0,_=>rfl
 | S+1,h=>by
  rw[uI,jR0,<-aH0 k n S λs hs=>h s (by omega)];refine sC0 (s:=S) ?_ (λx hx=>(kP.1 hx).2) (λx hx=>(fC0.1 hx).2);obtain⟨i,hi,hk⟩:=h S (by omega);exact List.ne_nil_of_mem (fC0.2 ⟨hi,hk⟩)
theorem eA1 {k D:Nat->Nat} {n S:Nat} (h:Win k D 0 n) (hS:∀i,i<n->k i<S):(Ah n).map D=grpsL k n S:=by
 refine kE (λ_=>cM0) (by grind [ltK]) ?_ (lI k n S) λx=>?_
 ·rw[Bt]
  refine List.pairwise_iff_getElem.2 λi j hi hj hij=>?_;rw[Bs,Bs];exact h.srt i j (Ap _) hij (by simpa using hj)
 ·rw[kP,Cd]
  constructor
  ·rintro⟨i,hi,rfl⟩
   have:=h.inn i (Ap _) (List.mem_range.1 hi)
   simp_all
  ·rintro⟨h1,_⟩
   obtain⟨i,_,h3,h4⟩:=h.all x (Ap _) h1;grind
def dO (x y:En):Prop:=x.r=y.r/\x.s=y.s/\x.l=y.l/\x.t=y.t
instance (x y:En):Decidable (dO x y):=by unfold dO; exact inferInstance
def rU (l:List En) (y:En):Prop:=y∈l/\∀z∈l,dO z y->y.c<=z.c
def jK (o:List En):Prop:=o.Pairwise λx y=>lessS x y=true
def qQ (l o:List En):Prop:=jK o/\∀y,y∈o↔rU l y
theorem tM:∀ {o o':List En},jK o->jK o'->(∀y,y∈o↔y∈o')->o=o'
 | [],[],_,_,_=>rfl
 | [],b::s,_,_,h=>by have:=(h b).2 (by simp);cases this
 | a::r,[],_,_,h=>by have:=(h a).1 (by simp);cases this
 | a::r,b::s,h1,h2,h=>by
  obtain⟨ha,hr⟩:=List.pairwise_cons.1 h1;obtain⟨hb,hs⟩:=List.pairwise_cons.1 h2
  have qd:a=b:=by
   rcases List.mem_cons.1 ((h a).1 (by simp)) with e|e
   ·exact e
   ·rcases List.mem_cons.1 ((h b).2 (by simp)) with e'|e'
    ·exact e'.symm
    grind [kN,eO]
  subst qd;have j6:a∉r:=by grind [eO]
  have ii:a∉s:=by grind [eO]
  rw[tM hr hs λy=>?_];grind
theorem qQ.unique {l o o':List En} (h:qQ l o) (h':qQ l o'):o=o':=tM h.1 h'.1 λy=>(h.2 y).trans (h'.2 y).symm
theorem qQ.of_mem {l l' o:List En} (h:qQ l o) (hm:∀y,y∈l↔y∈l'):qQ l' o:=by
 refine⟨h.1,λy=>(h.2 y).trans ?_⟩;grind [rU]
def gN0 (x:En):List En->List En
 | []=>[x]
 | y::r=>if lessS y x then y::gN0 x r else x::y::r
theorem yF {x y:En}:∀ {o:List En},y∈gN0 x o↔y=x\/y∈o
 | []=>by simp[gN0]
 | z::r=>by
  unfold gN0;split
  ·rw[Cb,yF (o:=r),Cb]
   grind
  ·simp
theorem rM {x:En}:∀ {o:List En},jK o->x∉o->jK (gN0 x o)
 | [],_,_=>by simp[gN0,jK]
 | z::r,h,hx=>by
  obtain⟨hz,hr⟩:=List.pairwise_cons.1 h;have hxz:x≠z:=by simp_all
  have hxr:x∉r:=by simp_all
  unfold gN0;split
  ·rename_i hl
   refine List.pairwise_cons.2 ⟨λy hy=>?_,rM hr hxr⟩;grind [yF]
  ·rename_i hl
   have zz:lessS x z=true:=by
    have:=tJ (x:=z) (y:=x) (Ne.symm hxz)
    rw[this];simpa using hl
   refine List.pairwise_cons.2 ⟨λy hy=>?_,h⟩;rcases List.mem_cons.1 hy with rfl|hy
   ·exact zz
   grind [kN]
def tV (l:List En) (y:En):Bool:=l.all λz => !decide (dO z y)||decide (y.c<=z.c)
theorem lY {l:List En} {y:En} (hy:y∈l):tV l y=true↔rU l y:=by
 grind [tV,rU]
def cG0 (l:List En):List En->List En->List En
 | [],o=>o
 | x::r,o=>if tV l x && !decide (x∈o) then cG0 l r (gN0 x o) else cG0 l r o
def sortS (l:List En):List En:=cG0 l l []
theorem rV (l:List En):∀(r done o:List En),l=done++r->jK o->(∀y,y∈o↔y∈done/\tV l y=true)->qQ l (cG0 l r o)
 | [],done,o,hl,hs,hm=>by
  refine⟨hs,λy=>?_⟩;rw[Ay]at hl;grind [lY,cG0,rU]
 | x::r,done,o,hl,hs,hm=>by
  have ja:l=(done++[x])++r:=by rw[hl];simp
  unfold cG0;split
  ·rename_i hc
   simp only[Ad,Bu,decide_eq_false_iff_not]at hc;refine rV l r _ _ ja (rM hs hc.2) λy=>?_;rw[yF,hm y];grind
  ·rename_i hc
   simp only[Ad,Bu,decide_eq_false_iff_not,not_and,Decidable.not_not]at hc;refine rV l r _ _ ja hs λy=>?_;grind
theorem fZ (l:List En):qQ l (sortS l):=rV l l [] [] rfl (by simp[jK]) (by simp)
end
section
open Go Go.RowKit
attribute [local go_sem] aM
theorem vT0 {a b:ByteArray} (h:a≠b):xO a b≠0/\decide (xO a b<0)=Aa a.toList b.toList:=by
 have aw:(a.toList==b.toList)=false:=by
  have:=mJ.2 h;exact this
 unfold xO;rw[aw];cases Aa a.toList b.toList<;>simp
theorem mB (a:ByteArray):xO a a=0:=(mS0.zero a a).2 rfl
theorem nD0 {a b:Int} (h:a≠b):jT a b≠0/\decide (jT a b<0)=decide (a<b):=by
 unfold jT;by_cases h1:a<b
 ·simp[h1]
 ·have:b<a:=by omega
  simp[h1,this]
theorem oK (a:Int):jT a a=0:=by unfold jT; simp
theorem gM1 {x y:En} (h:x.r≠y.r):lessS x y=Aa x.r.toList y.r.toList:=by
 obtain⟨h1,h2⟩:=vT0 h;unfold lessS qW;simp only[orI,if_neg h1];exact h2
theorem hY1 {x y:En} (h:x.r=y.r) (hc:x.c≠y.c):lessS x y=decide (x.c<y.c):=by
 obtain⟨h1,h2⟩:=nD0 hc;unfold lessS qW;rw[h,mB];simp only[orI,if_neg h1,if_true];exact h2
theorem hT1 {x y:En} (h:x.r=y.r) (hc:x.c=y.c) (hs:x.s≠y.s):lessS x y=Aa x.s.toList y.s.toList:=by
 obtain⟨h1,h2⟩:=vT0 hs;unfold lessS qW;rw[h,hc,mB,oK];simp only[orI,if_neg h1,if_true];exact h2
theorem gF1 {x y:En} (h:x.r=y.r) (hc:x.c=y.c) (hs:x.s=y.s) (hl:x.l≠y.l):lessS x y=decide (x.l<y.l):=by
 obtain⟨h1,h2⟩:=nD0 hl;unfold lessS qW;rw[h,hc,hs,mB,oK,mB];simp only[orI,if_neg h1,if_true];exact h2
theorem gU1 {x y:En} (h:x.r=y.r) (hc:x.c=y.c) (hs:x.s=y.s) (hl:x.l=y.l):lessS x y=decide (x.t<y.t):=by
 unfold lessS qW;rw[h,hc,hs,hl,mB,oK,mB,oK];simp only[orI,if_true];by_cases ht:x.t=y.t
 ·rw[ht,oK];simp
 ·obtain⟨h1,h2⟩:=nD0 ht
  rw[if_neg h1];exact h2
theorem xY0 (x y:En) (w:World) :
  Calls Tryz.prog 173 #[x.agg,y.agg] w λe w'=>e=.returned (.bool (lessS x y))/\aB w w':=by
 have L1:=gM1 (x:=x) (y:=y);have L2:=hY1 (x:=x) (y:=y);have L3:=hT1 (x:=x) (y:=y);have L4:=gF1 (x:=x) (y:=y);have L5:=gU1 (x:=x) (y:=y);generalize lessS x y=R at *;obtain⟨xr,xs,xl,xt,xc⟩:=x;obtain⟨yr,ys,yl,yt,yc⟩:=y;simp only at L1 L2 L3 L4 L5;unfold En.agg;have hg:aB w ((w.alloc (.cells #[.string xr,.string xs,.int .i64 xl,.int .i64 xt,.int .i64 xc] 89)).alloc (.cells #[.string yr,.string ys,.int .i64 yl,.int .i64 yt,.int .i64 yc] 89)):=(aB.alloc _ _).al _;by_cases h1:xr=yr
 ·have b1:(xr.toList==yr.toList)=true:=rK.2 h1
  by_cases h2:xc=yc
  ·have b2:(xc==yc)=true:=by simp[h2]
   by_cases h3:xs=ys
   ·have b3:(xs.toList==ys.toList)=true:=rK.2 h3
    by_cases h4:xl=yl
    ·have HL:=Aj (L5 h1 h2 h3 h4)
     subst h1 h2 h3 h4;clear L1 L2 L3 L4 L5 b1 b2 b3;go_enter Tryz.func173,Tryz.ntmps173
     go_wp2
     go_ret;exact⟨aZ HL.out.symm,hg⟩
    ·have HL:=Aj (L4 h1 h2 h3 h4)
     have b4:(xl != yl)=true:=by simpa using h4
     subst h1 h2 h3;clear L1 L2 L3 L4 L5 b1 b2 b3 h4;go_enter Tryz.func173,Tryz.ntmps173
     go_wp2
     go_ret;exact⟨aZ HL.out.symm,hg⟩
   ·have HL:=Aj (L3 h1 h2 h3)
    have b3:(xs.toList==ys.toList)=false:=mJ.2 h3;have b3':¬xs.toList=ys.toList:=by simpa using b3
    subst h1 h2;clear L1 L2 L3 L4 L5 b1 b2 h3;go_enter Tryz.func173,Tryz.ntmps173
    go_wp2
    go_ret;exact⟨aZ HL.out.symm,hg⟩
  ·have HL:=Aj (L2 h1 h2)
   have b2:(xc != yc)=true:=by simpa using h2
   subst h1;clear L1 L2 L3 L4 L5 b1 h2;go_enter Tryz.func173,Tryz.ntmps173
   go_wp2
   go_ret;exact⟨aZ HL.out.symm,hg⟩
 ·have HL:=Aj (L1 h1)
  have b1:(xr.toList==yr.toList)=false:=mJ.2 h1;have b1':¬xr.toList=yr.toList:=by simpa using b1
  clear L1 L2 L3 L4 L5 h1;go_enter Tryz.func173,Tryz.ntmps173
  go_wp2
  go_ret;exact⟨aZ HL.out.symm,hg⟩
theorem iX0 (x y:En) (w:World) :
  Calls Tryz.prog 172 #[x.agg,y.agg] w λe w'=>e=.returned (.bool (decide (dO x y)))/\aB w w':=by
 obtain⟨R,hR⟩:=exq (decide (dO x y));rw[<-hR];obtain⟨xr,xs,xl,xt,xc⟩:=x;obtain⟨yr,ys,yl,yt,yc⟩:=y;unfold dO at hR;simp only at hR;have HR:=Aj hR;clear hR;unfold En.agg;have hg:aB w ((w.alloc (.cells #[.string xr,.string xs,.int .i64 xl,.int .i64 xt,.int .i64 xc] 89)).alloc (.cells #[.string yr,.string ys,.int .i64 yl,.int .i64 yt,.int .i64 yc] 89)):=(aB.alloc _ _).al _;by_cases h1:xr=yr
 ·by_cases h3:xs=ys
  ·by_cases h4:xl=yl
   ·by_cases h5:xt=yt
    ·have hf:R=true:=by rw[HR.out];simp[h1,h3,h4,h5]
     subst hf h1 h3 h4 h5;clear HR;go_enter Tryz.func172,Tryz.ntmps172
     go_wp2
     go_ret;exact⟨rfl,hg⟩
    ·have hf:R=false:=by rw[HR.out];simp[h5]
     have b5:(xt==yt)=false:=by simpa using h5
     subst hf h1 h3 h4;clear HR h5;go_enter Tryz.func172,Tryz.ntmps172
     go_wp2
     go_ret;exact⟨rfl,hg⟩
   ·have hf:R=false:=by rw[HR.out];simp[h4]
    have b4:(xl==yl)=false:=by simpa using h4
    subst hf h1 h3;clear HR h4;go_enter Tryz.func172,Tryz.ntmps172
    go_wp2
    go_ret;exact⟨rfl,hg⟩
  ·have hf:R=false:=by rw[HR.out];simp[h3]
   have b3:(xs.toList==ys.toList)=false:=mJ.2 h3;have b3':¬xs.toList=ys.toList:=by simpa using b3
   subst hf h1;clear HR h3;go_enter Tryz.func172,Tryz.ntmps172
   go_wp2
   go_ret;exact⟨rfl,hg⟩
 ·have hf:R=false:=by rw[HR.out];simp[h1]
  have b1:(xr.toList==yr.toList)=false:=mJ.2 h1;have b1':¬xr.toList=yr.toList:=by simpa using b1
  subst hf;clear HR h1;go_enter Tryz.func172,Tryz.ntmps172
  go_wp2
  go_ret;exact⟨rfl,hg⟩
end
section
open Go
def Bad (x:En) (i:Nat) (y:En) (j:Nat):Prop:=dO x y/\(y.c<x.c\/y.c=x.c/\j<i)
instance (x:En) (i:Nat) (y:En) (j:Nat):Decidable (Bad x i y j):=by unfold Bad; exact inferInstance
theorem vP {x y:En} (h:dO x y):dO y x:=⟨h.1.symm,h.2.1.symm,h.2.2.1.symm,h.2.2.2.symm⟩
theorem iD1 {x y:En} (h:dO x y) (hc:y.c=x.c):x=y:=by
 obtain⟨a,b,c,d,e⟩:=x;obtain⟨a',b',c',d',e'⟩:=y;obtain⟨rfl,rfl,rfl,rfl⟩:=h;simp only at hc;subst hc;rfl
theorem cU1 {l:List En} {i:Nat} {x:En} (hx:l[i]?=some x):(∀j y,j<l.length->l[j]?=some y->¬Bad x i y j)↔tV l x=true/\x∉l.take i:=by
 have hm:x∈l:=Am hx;constructor
 ·intro h
  refine⟨(lY hm).2 ⟨hm,λz hz hk=>?_⟩,λht=>?_⟩
  ·obtain⟨j,hj,rfl⟩:=Bq hz
   have h1:=h j l[j] hj (Ae hj);exact Int.not_lt.1 λaf=>h1 ⟨vP hk,Or.inl af⟩
  ·obtain⟨j,hj,he⟩:=Bq ht
   have hj':j<i:=by have:=hj;rw[Ax]at this;omega
   have od:j<l.length:=by have:=hj;rw[Ax]at this;omega
   rw[List.getElem_take]at he;exact h j x od (by rw[Ae od,he]) ⟨⟨rfl,rfl,rfl,rfl⟩,Or.inr ⟨rfl,hj'⟩⟩
 ·rintro⟨h1,h2⟩ j y hj hy ⟨hk,hc⟩
  have h3:=((lY hm).1 h1).2 y (Am hy) (vP hk);rcases hc with hc|⟨hc,i6⟩
  ·omega
  ·refine h2 ?_
   rw[iD1 hk hc];exact Am (i:=j) (by rw[List.getElem?_take_of_lt i6];exact hy)
def kU0 (l:List En) (i:Nat) (o:List En):Prop:=jK o/\∀y,y∈o↔y∈l.take i/\tV l y=true
theorem kU0.start (l:List En):kU0 l 0 []:=⟨by simp[jK],by simp⟩
theorem zN {l:List En} {i:Nat} {x:En} (hx:l[i]?=some x):l.take (i+1)=l.take i++[x]:=by rw[As,hx]; rfl
theorem kU0.skip {l o:List En} {i:Nat} {x:En} (h:kU0 l i o) (hx:l[i]?=some x) (hk:¬(tV l x=true/\x∉l.take i)):kU0 l (i+1) o:=by
 refine⟨h.1,λy=>?_⟩;rw[h.2 y,zN hx];constructor
 ·rintro⟨a,b⟩
  exact⟨An _ a,b⟩
 ·rintro⟨a,b⟩
  rcases List.mem_append.1 a with a|a
  ·exact⟨a,b⟩
  ·obtain rfl:y=x:=by simpa using a
   exact⟨Decidable.byContradiction λhn=>hk ⟨b,hn⟩,b⟩
theorem kU0.ins {l o:List En} {i:Nat} {x:En} (h:kU0 l i o) (hx:l[i]?=some x) (h1:tV l x=true) (h2:x∉l.take i):kU0 l (i+1) (gN0 x o):=by
 refine⟨rM h.1 λhm=>h2 ((h.2 x).1 hm).1,λy=>?_⟩;rw[yF,h.2 y,zN hx];constructor
 ·rintro(rfl|⟨a,b⟩)
  ·exact⟨by simp,h1⟩
  ·exact⟨An _ a,b⟩
 ·rintro⟨a,b⟩
  rcases List.mem_append.1 a with a|a
  ·exact Or.inr ⟨a,b⟩
  ·exact Or.inl (by simpa using a)
theorem kU0.isSort {l o:List En} (h:kU0 l l.length o):qQ l o:=by
 refine⟨h.1,λy=>?_⟩;rw[h.2 y,List.take_length];exact⟨λ⟨a,b⟩=>(lY a).1 b,λh=>⟨h.1,(lY h.1).2 h⟩⟩
theorem kU0.done {l o:List En} (h:kU0 l l.length o):o=sortS l:=h.isSort.unique (fZ l)
theorem rP (x:En):∀o:List En,(gN0 x o).length=o.length+1
 | []=>rfl
 | y::r=>by
  unfold gN0;split
  ·rw[Bh,rP x r,Bh]
  ·rfl
theorem nF0 {x:En}:∀ {o:List En} {k:Nat},k<=o.length->(∀j y,j<k->o[j]?=some y->lessS y x=true)->(k=o.length\/∃y,o[k]?=some y/\lessS y x=false)->gN0 x o=o.take k++([x]++o.drop k)
 | [],k,hk,_,_=>by
  obtain rfl:k=0:=by simpa using hk
  rfl
 | y::r,0,_,_,h=>by
  rcases h with h|⟨z,hz,hl⟩
  ·simp at h
  ·obtain rfl:y=z:=by simpa using hz
   unfold gN0;rw[if_neg (by rw[hl];simp)];rfl
 | y::r,k+1,hk,ha,h=>by
  have h0:=ha 0 y (by omega) rfl;unfold gN0;rw[if_pos h0]
  have hr:gN0 x r=r.take k++([x]++r.drop k):=nF0 (by simpa using hk) (λj z hj hz=>ha (j+1) z (by omega) (by simpa using hz)) (by
   rcases h with h|⟨z,hz,hl⟩
   ·exact Or.inl (by simpa using h)
   ·exact Or.inr ⟨z,by simpa using hz,hl⟩)
  rw[hr];rfl
end
section
open Go Go.RowKit
theorem sT:eG Tryz.prog 41 89 5 56 bE where
 sl:=Tryz.underlying41
 info:=eY (z:=.agg #[.string ⟨#[]⟩,.string ⟨#[]⟩,.int .i64 0,.int .i64 0,.int .i64 0]) (by kernel_rfl) rfl
 pos:=by decide
 by1:=by decide
 len _:=rfl
 one:=nD
def iD0 (l:List En) (w:World) (e:Ending) (w':World):Prop:=∃v,e=.returned v/\aO w' w.heap.size 89 5 bE v (sortS l)/\aB w w'
def wC0 (c:Nat):List Value:=[.int .i32 c]
theorem uQ0:eG Tryz.prog 243 21 1 4 wC0 where
 sl:=Tryz.underlying243
 info:=eY (z:=.int .i32 0) (by kernel_rfl) rfl
 pos:=by decide
 by1:=by decide
 len _:=rfl
 one x u hu:=by
  simp[wC0]at hu;subst hu;rfl
theorem jJ1:∃i,Tryz.prog.info? 89=some i/\i.zero=some enZero.agg/\i.size=5/\i.bytes=56:=by
 have h:(Tryz.prog.info? 89).map (λi=>(i.zero,i.size,i.bytes))=some (some enZero.agg,5,56):=by kernel_rfl
 cases hi:Tryz.prog.info? 89 with
 | none=>rw[hi]at h;cases h
 | some i =>
  rw[hi]at h;simp only[Option.map_some,Option.some.injEq,Prod.mk.injEq]at h;exact⟨i,rfl,h.1,h.2.1,h.2.2⟩
def kS0 (W:World) (sb n:Nat) (so:List En) (k:Nat):Prop :=
 ∃ei:Array Value,W.heap[sb]?=some (.cells ei 89 (0,0))/\ei.size=n*5/\∀i x,i<k->so[i]?=some x->∀j u,(bE x)[j]?=some u->ei[i*5+j]?=some u
theorem kS0.froz {W:World} {sb n k:Nat} {so:List En} (h:kS0 W sb n so k) (j:Nat):W.frozen? ⟨sb,j,none⟩=false:=by
 obtain⟨ei,h1,_⟩:=h;simp[World.frozen?,h1]
theorem kS0.cell {W:World} {sb n k:Nat} {so:List En} (h:kS0 W sb n so k) {j:Nat} (hj:j<n*5):∃u,W.cell? ⟨sb,j,none⟩=some u:=by
 obtain⟨ei,h1,h2,_⟩:=h;exact⟨ei[j]'(by omega),by simp[Ce,h1,h2,hj]⟩
theorem kS0.set {W:World} {sb n k:Nat} {so:List En} (h:kS0 W sb n so k) {j:Nat} (hj:k*5<=j) (v:Value):kS0 (W.setCell ⟨sb,j,none⟩ v) sb n so k:=by
 obtain⟨ei,h1,h2,h3⟩:=h;refine⟨ei.setIfInBounds j v,heap_setCell_same W sb j ei _ v h1,by simpa using h2,λi x hi hx m u hu=>?_⟩;have hm:m<5:=by have:=(List.getElem?_eq_some_iff.1 hu).1;rwa [gM]at this
 rw[Ar,if_neg (by omega)];exact h3 i x hi hx m u hu
theorem kS0.step {W:World} {sb n k:Nat} {so:List En} {x:En} (h:kS0 W sb n so k) (hk:k<n) (hx:so[k]?=some x) :
  kS0 (((((W.setCell ⟨sb,k*5,none⟩ (.string x.r)).setCell ⟨sb,k*5+1,none⟩ (.string x.s)).setCell ⟨sb,k*5+2,none⟩ (.int .i64 x.l)).setCell ⟨sb,k*5+3,none⟩ (.int .i64 x.t)).setCell ⟨sb,k*5+4,none⟩ (.int .i64 x.c)) sb n so (k+1):=by
 obtain⟨ei,h1,h2,h3⟩:=h;refine⟨((((ei.setIfInBounds (k*5) (.string x.r)).setIfInBounds (k*5+1) (.string x.s)).setIfInBounds (k*5+2) (.int .i64 x.l)).setIfInBounds (k*5+3) (.int .i64 x.t)).setIfInBounds (k*5+4) (.int .i64 x.c),heap_setCell_same _ _ _ _ _ _ (heap_setCell_same _ _ _ _ _ _ (heap_setCell_same _ _ _ _ _ _ (heap_setCell_same _ _ _ _ _ _ (heap_setCell_same W sb _ ei _ _ h1)))),by simpa using h2,λi y hi hy m u hu=>?_⟩;have hm:m<5:=by have:=(List.getElem?_eq_some_iff.1 hu).1;rwa [gM]at this
 rcases Ab i k with hik|hik
 ·simp only[Ar]
  rw[if_neg (by omega),if_neg (by omega),if_neg (by omega),if_neg (by omega),if_neg (by omega)];exact h3 i y hik hy m u hu
 ·obtain rfl:i=k:=by omega
  obtain rfl:x=y:=by rw[hx]at hy;exact Option.some.inj hy
  simp only[Ar,Array.size_setIfInBounds]
  match m,hm,hu with
  | 0,_,hu=>simp[bE]at hu;subst hu;simp[h2];omega
  | 1,_,hu=>simp[bE]at hu;subst hu;simp[h2];omega
  | 2,_,hu=>simp[bE]at hu;subst hu;simp[h2];omega
  | 3,_,hu=>simp[bE]at hu;subst hu;simp[h2];omega
  | 4,_,hu=>simp[bE]at hu;subst hu;simp[h2];omega
theorem kS0.at_ {W:World} {sb n:Nat} {so:List En} (h:kS0 W sb n so so.length):aF W (some ⟨sb,0,none⟩) 5 (so.map bE):=λ_=>⟨sb,0,rfl,λi row hi j u hj=>by
 obtain⟨ei,h1,h2,h3⟩:=h;rw[List.getElem?_map]at hi
 cases hx:so[i]? with
 | none=>rw[hx]at hi;cases hi
 | some x =>
  rw[hx]at hi;obtain rfl:bE x=row:=by simpa using hi
  have:=h3 i x (List.getElem?_eq_some_iff.1 hx).1 hx j u hj
  simp[Ce,h1,this]⟩
theorem kS0.made {W:World} {base sb n:Nat} {so:List En} {l:List Value} (h:W.ownsRow base 89 5 (.slice (some ⟨sb,0,none⟩) n n) n l):kS0 W sb n so 0/\base<=sb:=by
 rcases h.2 with ⟨e,_⟩|⟨g,cap,ei,hv,hb,hh,h1,h2,h3,h4⟩
 ·cases e
 ·cases hv
  exact⟨⟨ei,hh,h3,λi x hi=>absurd hi (Nat.not_lt_zero i)⟩,hb⟩
def klE (x:En):Lit := .string (keyBytes [.string x.r.data.toList,.string x.s.data.toList,.int .i64 x.l,.int .i64 x.t,.int .i64 x.c])
theorem sP:Go.Maps.Keyed Tryz.prog 89:=Go.Maps.Keyed.of_law (deep_law_laid gK0 (m:=3) (by decide) (of_decide_eq_true (by kernel_rfl)) (by kernel_rfl) (by kernel_rfl))
theorem fE1 {x:En} (h:xM x):Go.keyOf Tryz.prog 89 x.agg=some (klE x):=by
 obtain⟨m,hm⟩:∃m,Tryz.prog.types.size=m+1:=⟨Tryz.prog.types.size-1,by have:0<Tryz.prog.types.size:=of_decide_eq_true (by kernel_rfl);omega⟩
 have hS:∀(s:ByteArray),s.size<=maxLen->Tryz.prog.keyLits (m+1) 9 [.string s]=some [.string s.data.toList]:=λs hs=>by
  unfold Program.keyLits;simp only[Tryz.underlying9,if_pos hs]
 have hI:∀(n:Int),(Lit.int .i64 n).wf=true->Tryz.prog.keyLits (m+1) 3 [.int .i64 n]=some [.int .i64 n]:=λn hn=>by
  unfold Program.keyLits;simp only[Tryz.underlying3,hn,and_self,if_true]
 have hk:Tryz.prog.keyType 89=true:=by kernel_rfl
 have hc:Tryz.prog.cellsOf 89=5:=by kernel_rfl
 have dz:Tryz.prog.cellsOf 9=1:=by kernel_rfl
 have hci:Tryz.prog.cellsOf 3=1:=by kernel_rfl
 obtain⟨r,s,l,t,c⟩:=x;obtain⟨h1,h2,h3,h4,h5⟩:=h;have g1:=hS r h1;have g2:=hS s h2;have g3:=hI l h3;have g4:=hI t h4;have g5:=hI c h5;unfold Go.keyOf;simp only[Tryz.underlying89,hk,Be];unfold Value.formed En.agg;simp only[Tryz.underlying89,hc];have hz:((#[Value.string r,.string s,.int .i64 l,.int .i64 t,.int .i64 c]:Array Value).size==5)=true:=rfl;rw[if_pos hz,hm];unfold Program.keyLits;simp only[Tryz.underlying89,hc,Value.cells];simp[dz,hci,g1,g2,g3,g4,g5,klE]
theorem mK0 {x y:En} (hx:xM x) (hy:xM y) (h:klE x=klE y):x=y:=by
 have h1:=fE1 hx;have h2:=fE1 hy;rw[h]at h1
 have:=sP.inj h1 h2
 obtain⟨a,b,c,d,e⟩:=x;obtain⟨a',b',c',d',e'⟩:=y;simpa [En.agg] using this
theorem oX0 {key:Value} {kl:Lit} (h:Go.keyOf Tryz.prog 89 key=some kl):∃x:En,xM x/\key=x.agg/\kl=klE x:=by
 obtain⟨m,hm⟩:∃m,Tryz.prog.types.size=m+1:=⟨Tryz.prog.types.size-1,by have:0<Tryz.prog.types.size:=of_decide_eq_true (by kernel_rfl);omega⟩
 have hS:∀(v:Value) (ls:List Lit),Tryz.prog.keyLits (m+1) 9 [v]=some ls->∃s:ByteArray,v=.string s/\s.size<=maxLen/\ls=[.string s.data.toList]:=λv ls h=>by
  unfold Program.keyLits at h;simp only[Tryz.underlying9]at h;cases v<;>simp at h
  rename_i s
  exact⟨s,rfl,h.1,h.2.symm⟩
 have hI:∀(v:Value) (ls:List Lit),Tryz.prog.keyLits (m+1) 3 [v]=some ls->∃n:Int,v=.int .i64 n/\(Lit.int .i64 n).wf=true/\ls=[.int .i64 n]:=λv ls h=>by
  unfold Program.keyLits at h;simp only[Tryz.underlying3]at h;cases v<;>simp at h
  obtain⟨⟨rfl,h2⟩,h3⟩:=h;exact⟨_,rfl,h2,h3.symm⟩
 have hk:Tryz.prog.keyType 89=true:=by kernel_rfl
 have hc:Tryz.prog.cellsOf 89=5:=by kernel_rfl
 have dz:Tryz.prog.cellsOf 9=1:=by kernel_rfl
 have hci:Tryz.prog.cellsOf 3=1:=by kernel_rfl
 unfold Go.keyOf at h;simp only[Tryz.underlying89,hk,Be]at h;split at h
 ·rename_i hf
  rw[hm]at h
  obtain⟨cs,rfl,dm⟩:∃cs,key=.agg cs/\cs.size=5:=by
   unfold Value.formed at hf;cases key<;>simp[Tryz.underlying89,hc]at hf
   exact⟨_,rfl,hf⟩
  obtain⟨l⟩:=cs
  match l,dm with
  | [c0,c1,c2,c3,c4],_ =>
   rw[qS Tryz.underlying89]at h;simp only[Value.cells]at h;simp[dz,hci,hc,Bg,Ca]at h;obtain⟨l0,g0,a1,⟨l1,g1,a2,⟨l2,g2,a3,⟨l3,g3,a4,⟨l4,g4,rfl⟩,rfl⟩,rfl⟩,rfl⟩,rfl⟩:=h;obtain⟨s0,rfl,z0,rfl⟩:=hS _ _ g0;obtain⟨s1,rfl,z1,rfl⟩:=hS _ _ g1;obtain⟨n2,rfl,z2,rfl⟩:=hI _ _ g2;obtain⟨n3,rfl,z3,rfl⟩:=hI _ _ g3;obtain⟨n4,rfl,z4,rfl⟩:=hI _ _ g4;exact⟨⟨s0,s1,n2,n3,n4⟩,⟨z0,z1,z2,z3,z4⟩,rfl,by simp[klE]⟩
 ·cases h
end
section
open Go Go.RowKit
def jQ (x:En):En:={ x with c:=0 }
theorem xM.key {x:En} (h:xM x):xM (jQ x):=⟨h.r,h.s,h.l,h.t,by show (Lit.int .i64 0).wf=true; decide⟩
theorem zV {z y:En} (hy:y.c=0) (h:dO z y):y=jQ z:=by
 obtain⟨a,b,c,d,e⟩:=z;obtain⟨a',b',c',d',e'⟩:=y;obtain⟨rfl,rfl,rfl,rfl⟩:=h;simp only at hy;subst hy;rfl
theorem xZ (z:En):dO z (jQ z):=⟨rfl,rfl,rfl,rfl⟩
theorem xA0 (y:En):WideAt.IsKeyLit (klE y):=by simp[klE,WideAt.IsKeyLit]
theorem bP1 (y:En):(klE y).sameKey (klE y)=true:=by simp[klE,Lit.sameKey]
section
variable {H:Type}
def AtE (D:DataW H) (y:En):Option Int->Prop
 | none=>Maps.has D (klE y)=false
 | some c=>Maps.has D (klE y)=true/\∀zd,D.atKey (klE y) zd=.lit (.int .i64 c)
def pG0 (l:List En) (y:En):Option Int->Prop
 | none=>∀z∈l,¬dO z y
 | some c=>(∃z∈l,dO z y/\z.c=c)/\∀z∈l,dO z y->c<=z.c
def rV0 (l:List En) (D:DataW H):Prop:=∀y,xM y->(y.c≠0->Maps.has D (klE y)=false)/\(y.c=0->∃o,pG0 l y o/\AtE D y o)
theorem AtE.unique {D:DataW H} {y:En} {o o':Option Int} (h:AtE D y o) (h':AtE D y o'):o=o':=by
 cases o with
 | none=>cases o' with
  | none=>rfl
  | some c=>have h1:Maps.has D (klE y)=false:=h;rw[h'.1]at h1;cases h1
 | some c=>cases o' with
  | none=>have h1:Maps.has D (klE y)=false:=h';rw[h.1]at h1;cases h1
  | some c' =>
   have h1:=h.2 (.lit (.int .i64 0));rw[h'.2]at h1;simpa using h1.symm
theorem pG0.snoc_other {l:List En} {y z:En} {o:Option Int} (h:pG0 l y o) (hn:¬dO z y):pG0 (l++[z]) y o:=by
 cases o with
 | none =>
  intro x hx;rcases List.mem_append.1 hx with hx|hx
  ·exact h x hx
  ·obtain rfl:x=z:=by simpa using hx
   exact hn
 | some c =>
  obtain⟨⟨x,hx,h1,h2⟩,h3⟩:=h;refine⟨⟨x,An _ hx,h1,h2⟩,λx hx hk=>?_⟩;rcases List.mem_append.1 hx with hx|hx
  ·exact h3 x hx hk
  ·obtain rfl:x=z:=by simpa using hx
   exact absurd hk hn
theorem dR1:rV0 (H:=H) [] (.map []):=λy _=>⟨λ_=>rfl,λ_=>⟨none,λz hz=>by simp at hz,rfl⟩⟩
theorem rV0.skip {l:List En} {D:DataW H} (h:rV0 l D) {z:En} {c:Int} (ha:AtE D (jQ z) (some c)) (hc:c<=z.c):rV0 (l++[z]) D:=λy hy=>by
 refine⟨(h y hy).1,λh0=>?_⟩;obtain⟨o,ho,hD⟩:=(h y hy).2 h0;by_cases hk:dO z y
 ·have e:=zV h0 hk
  subst e;obtain rfl:=hD.unique ha;refine⟨some c,⟨?_,λx hx hk=>?_⟩,ha⟩
  ·obtain⟨⟨x,hx,h1,h2⟩,_⟩:=ho
   exact⟨x,An _ hx,h1,h2⟩
  ·rcases List.mem_append.1 hx with hx|hx
   ·exact ho.2 x hx hk
   ·obtain rfl:x=z:=by simpa using hx
    exact hc
 ·exact⟨o,ho.snoc_other hk,hD⟩
theorem rV0.store {l:List En} {D:DataW H} (h:rV0 l D) (hm:Maps.IsMap D) {z:En} (hz:xM z) {o:Option Int} (ha:AtE D (jQ z) o) (hc:∀c,o=some c->z.c<c):rV0 (l++[z]) (D.put (klE (jQ z)) (.lit (.int .i64 z.c))):=λy hy=>by
 refine⟨λh0=>?_,λh0=>?_⟩
 ·have aw:klE y≠klE (jQ z):=λe=>h0 (by rw[mK0 hy hz.key e];rfl)
  rw[Maps.has_put_other aw];exact(h y hy).1 h0
 ·obtain⟨o',ho,hD⟩:=(h y hy).2 h0
  by_cases hk:dO z y
  ·have e:=zV h0 hk
   subst e;obtain rfl:=hD.unique ha;refine⟨some z.c,⟨⟨z,by simp,xZ z,rfl⟩,λx hx hk=>?_⟩,Maps.has_put_same hm (xA0 _) _,λzd=>Maps.atKey_put_same hm (xA0 _) _ _⟩;rcases List.mem_append.1 hx with hx|hx
   ·cases o' with
    | none=>exact absurd hk (ho x hx)
    | some c =>
     have h1:=ho.2 x hx hk;have h2:=hc c rfl;omega
   ·obtain rfl:x=z:=by simpa using hx
    exact Int.le_refl _
  ·have aw:klE y≠klE (jQ z):=λe=>hk (by rw[mK0 hy hz.key e];exact xZ z)
   refine⟨o',ho.snoc_other hk,?_⟩
   cases o' with
   | none =>
    show Maps.has _ _=false
    rw[Maps.has_put_other aw];exact hD
   | some c=>exact⟨by rw[Maps.has_put_other aw];exact hD.1,λzd=>by rw[Maps.atKey_put_other aw];exact hD.2 zd⟩
def lY0 (D:DataW H) (left:Lit->Bool) (ys:List En):Prop:=ys.Nodup/\(∀y∈ys,xM y)/\∀y,xM y->(y∈ys↔AtE D (jQ y) (some y.c)/\left (klE (jQ y))=false)
theorem lO0 (D:DataW H):lY0 D (Maps.has D) []:=⟨List.nodup_nil,λy hy=>by simp at hy,λy _=>⟨λh=>by simp at h,λ⟨h1,h2⟩=>by rw[h1.1]at h2; cases h2⟩⟩
theorem lY0.step {l:List En} {D:DataW H} {left:Lit->Bool} {ys:List En} (h:lY0 D left ys) (hM:rV0 l D) {x:En} (hx:xM x) {c:Int} (hc:(Lit.int .i64 c).wf=true) (hl:left (klE x)=true) (ah:∀zd,D.atKey (klE x) zd=.lit (.int .i64 c)) :
  lY0 D (λz=>left z && !z.sameKey (klE x)) (ys++[{ x with c:=c }]):=by
 have o0:=Maps.has_true_of_atKey ah
 have h0:x.c=0:=Decidable.byContradiction λhn=>by
  have:=(hM x hx).1 hn
  rw[this]at o0;cases o0
 have hkx:jQ { x with c:=c }=x:=by
  obtain⟨a,b,d,e,f⟩:=x;simp only at h0;subst h0;rfl
 have hxA:AtE D x (some c):=⟨o0,ah⟩;have afe:xM { x with c:=c }:=⟨hx.r,hx.s,hx.l,hx.t,hc⟩
 obtain⟨h1,h2,h3⟩:=h;refine⟨?_,λy hy=>?_,λy hy=>?_⟩
 ·refine List.nodup_append.2 ⟨h1,by simp,λy hy z hz e=>?_⟩
  obtain rfl:z={ x with c:=c }:=by simpa using hz
  subst e
  have:=((h3 _ afe).1 hy).2
  rw[hkx,hl]at this;cases this
 ·rcases List.mem_append.1 hy with hy|hy
  ·exact h2 y hy
  ·obtain rfl:y={ x with c:=c }:=by simpa using hy
   exact afe
 ·constructor
  ·intro hm
   rcases List.mem_append.1 hm with hm|hm
   ·obtain⟨k1,k2⟩:=(h3 y hy).1 hm
    exact⟨k1,by simp[k2]⟩
   ·obtain rfl:y={ x with c:=c }:=by simpa using hm
    rw[hkx];exact⟨hxA,by simp[bP1]⟩
  ·rintro⟨k1,k2⟩
   by_cases hk:klE (jQ y)=klE x
   ·have e:=mK0 hy.key hx hk
    rw[e]at k1;have e2:y.c=c:=by simpa using k1.unique hxA
    have:y={ x with c:=c }:=by
     rw[<-e,<-e2];obtain⟨a,b,d,e,f⟩:=y;rfl
    rw[this];simp
   ·have k3:(left (klE (jQ y)) && !(klE (jQ y)).sameKey (klE x))=false:=k2
    rw[Maps.sameKey_ne hk]at k3;exact An _ ((h3 y hy).2 ⟨k1,by simpa using k3⟩)
theorem lY0.least {l:List En} {D:DataW H} {left:Lit->Bool} {ys:List En} (h:lY0 D left ys) (hM:rV0 l D) (hl:∀x∈l,xM x) (h0:∀kl,left kl=false) (y:En):y∈ys↔rU l y:=by
 have key:∀y,xM y->(AtE D (jQ y) (some y.c)↔rU l y):=λy hy=>by
  obtain⟨o,ho,hD⟩:=(hM (jQ y) hy.key).2 rfl;constructor
  ·intro h1
   obtain rfl:=hD.unique h1;obtain⟨⟨z,hz,k1,k2⟩,k3⟩:=ho;refine⟨?_,λx hx hk=>k3 x hx hk⟩
   have:z=y:=by
    obtain⟨a,b,d,e,f⟩:=z;obtain⟨a',b',d',e',f'⟩:=y;obtain⟨rfl,rfl,rfl,rfl⟩:=k1;simp only at k2;subst k2;rfl
   rw[<-this];exact hz
  ·rintro⟨hy2,h2⟩
   cases o with
   | none=>exact absurd (xZ y) (ho y hy2)
   | some c =>
    obtain⟨⟨z,hz,k1,k2⟩,k3⟩:=ho;have e1:=k3 y hy2 (xZ y);have e2:=h2 z hz k1
    have:c=y.c:=by omega
    rw[<-this];exact hD
 constructor
 ·intro hy
  have be:=h.2.1 y hy;exact(key y be).1 ((h.2.2 y be).1 hy).1
 ·intro hy
  have be:=hl y hy.1;exact(h.2.2 y be).2 ⟨(key y be).2 hy,h0 _⟩
end
end
end Go.Proofs.YtiopheoljccmpaaGreatDoor
