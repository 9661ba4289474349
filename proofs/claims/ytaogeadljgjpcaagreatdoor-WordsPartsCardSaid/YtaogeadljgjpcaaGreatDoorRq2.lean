/- The texts Cmp EnD OrderP KeyP Mx NodP Pos KeyN RuneL LoudP LoudQ LoudR StabP GrpP SortP Less2 Variants SortR SortWP Bsrt KeyE MapE, one behind the other. -/
import Derived.Test.YtaogeadljgjpcaaGreatDoorProg
import Derived.Test.YtaogeadljgjpcaaGreatDoorRq1
import Derived.WalkKit
import Derived.WalkLawsBesides
import Derived.Lib.Hide
import Derived.DeepKeys4
import Derived.Maps.RangeWalk
import Derived.Maps.Views
import Derived.Laws.OwnMore
import Derived.Laws.Rows
import Derived.OwnWalk
open Go.Op renaming bytesLess → Aa
open Nat renaming lt_or_ge → Ab,le_refl → Ac,zero_le → Am,eq_zero_or_pos → Av,succ_pos → Bb,le_trans → Bh,div_add_mod → Bj,mul_comm → Cb
open Bool renaming and_eq_true → Ad,or_eq_true → Ai,true_and → As,not_eq_true' → Bu
open List renaming range' → Ae,range → Af,filter_append → Ag,flatMap_cons → Ah,range'_append_1 → Aj,getElem?_eq_getElem → Ak,flatMap_append → Al,filter_eq_nil_iff → An,take_add_one → Ap,mem_range'_1 → Aq,range_succ → Au,mem_cons → Ax,mem_append_left → Ay,append_nil → Az,map_append → Ba,getElem?_append_right → Bc,length_append → Bd,pairwise_iff_getElem → Be,flatMap_map → Bf,pairwise_lt_range → Bg,range_succ_eq_map → Bi,mapM_cons → Bk,mem_of_getElem? → Bn,range_eq_range' → Bo,filter_sublist → Bp,map_congr_left → Bq,range'_concat → Br,getElem_range → Bs,pairwise_map → Bt,length_take → Bv,flatMap_nil → Bw,cons_append → By,replicate → Ca,mem_map → Cc,getD → Cf
open Array renaming getElem?_setIfInBounds → Ao
open Classical renaming byContradiction → Ar
open Go.Lib renaming hid → At
open Option renaming bind_eq_some_iff → Aw
open ByteArray renaming empty → Bz
open Int renaming le_refl → Cd
open Go.World renaming cell? → Ce
set_option maxHeartbeats 1000000
namespace Go.Proofs.YtaogeadljgjpcaaGreatDoor
set_option maxRecDepth 100000
section
open Go Go.RowKit
def orI:List Int->Int
 | []=>0
 | z::l=>if z=0 then orI l else z
theorem gF0:∀(zs:List Int) (k:Nat),(∀j,j<k->zs[j]?.getD 0=0)->orI zs=orI (zs.drop k)
 | [],k,_=>by simp
 | z::l,0,_=>by simp
 | z::l,k+1,h=>by
  have h0:z=0:=by simpa using h 0 (by omega)
  simp only[orI,h0,if_true,List.drop_succ_cons];exact gF0 l k λj hj=>by simpa using h (j+1) (by omega)
theorem nD1 {zs:List Int} {k:Nat} (hk:k<zs.length) (h:∀j,j<k->zs[j]?.getD 0=0) (hz:zs[k]?.getD 0≠0):orI zs=zs[k]?.getD 0:=by
 rw[gF0 zs k h,List.drop_eq_getElem_cons hk,orI];simp[hk]at hz ⊢;simp[hz]
theorem fJ1 {zs:List Int} (h:∀j,j<zs.length->zs[j]?.getD 0=0):orI zs=0:=by
 rw[gF0 zs _ h];simp[orI]
theorem cK1 (zs:List Int) (b off cap:Nat) (w:World) (hl:zs.length<=4611686018427387904) (hc:∀k,k<zs.length->w.cell? ⟨b,off+k,none⟩=some (.int .i64 (zs[k]?.getD 0))) :
  Calls Tryz.prog 91 #[.slice (some ⟨b,off,none⟩) zs.length cap] w λe w'=>e=.returned (.int .i64 (orI zs))/\w=w':=by
 have HC:=At hc;clear hc;go_enter Tryz.func91,Tryz.ntmps91
 go_wp2
 go_loop [8] (λi=>∃k:Nat,k<=zs.length/\i=.int .i64 k/\Hid (∀j,j<k->zs[j]?.getD 0=0)) (λi=>zs.length-(intOf i).toNat)
 case atStart=>exact⟨0,Am _,rfl,λj hj=>by omega⟩
 case round =>
  obtain⟨k,hk,rfl,hz⟩:=hrel;by_cases ae:k<zs.length
  ·have gq:=HC.out k ae
   obtain⟨z,hze⟩:=exq (zs[k]?.getD 0);rw[<-hze]at gq;have HE:=At hze;clear hze;by_cases h0:z=0
   ·have h0':(z != 0)=false:=by simp[h0]
    have H0:=At h0;clear h0;go_wp2
    go_round
    case rel=>exact⟨k+1,by omega,by go_num,λj hj=>by
     rcases Nat.lt_succ_iff_lt_or_eq.1 hj with h|rfl
     ·exact hz.out j h
     ·rw[<-HE.out];exact H0.out⟩
    case measure=>simp[intOf];omega
   ·have h0':(z != 0)=true:=by simpa using h0
    have aw:=At ((nD1 ae hz.out (by rw[<-HE.out];exact h0)).trans HE.out.symm);clear h0;go_wp2
    go_ret;exact⟨by rw[aw.out];rfl,rfl⟩
  ·obtain rfl:k=zs.length:=by omega
   have aw:=At (fJ1 hz.out);go_wp2
   go_ret;exact⟨by rw[aw.out];rfl,rfl⟩
def dV (x y:Int):Int:=if x<y then -1 else if y<x then 1 else 0
def qX (a b:ByteArray):Int:=if Aa a.toList b.toList then -1 else if !Aa a.toList b.toList && !(a.toList==b.toList) then 1 else 0
theorem pN (x y:Int) (w:World) :
  Calls Tryz.prog 92 #[.int .i64 x,.int .i64 y] w λe w'=>e=.returned (.int .i64 (dV x y))/\w=w':=by
 go_enter Tryz.func92,Tryz.ntmps92
 go_wp2
 all_goals (go_ret;refine⟨yR0 ?_,rfl⟩;unfold dV;(repeat' split)<;>first|rfl|(exfalso;omega))
theorem xC (x y:ByteArray) (w:World) :
  Calls Tryz.prog 93 #[.string x,.string y] w λe w'=>e=.returned (.int .i64 (qX x y))/\w=w':=by
 go_enter Tryz.func93,Tryz.ntmps93
 go_wp2
 all_goals (go_ret;exact⟨yR0 (by simp[qX, *]),rfl⟩)
structure En where
 r:ByteArray
 s:ByteArray
 l:Int
 t:Int
 c:Int
def bF (x:En):List Value:=[.string x.r,.string x.s,.int .i64 x.l,.int .i64 x.t,.int .i64 x.c]
def enZero:En:=⟨Bz,Bz,0,0,0⟩
theorem nY (x:En):(bF x).length=5:=rfl
def En.agg (x:En):Value := .agg #[.string x.r,.string x.s,.int .i64 x.l,.int .i64 x.t,.int .i64 x.c]
def aN0 (x y:En):Int:=orI [qX x.r y.r,dV x.c y.c,qX x.s y.s,dV x.l y.l,dV x.t y.t]
def mA (x y:En):Bool:=decide (aN0 x y<0)
instance:DecidableEq En:=λx y=>decidable_of_iff (x.r=y.r/\x.s=y.s/\x.l=y.l/\x.t=y.t/\x.c=y.c) (by cases x; cases y; simp)
theorem ne5 {α:Type} {p1 p2 p3 p4 p5:Prop} [Decidable p1] [Decidable p2] [Decidable p3] [Decidable p4] [Decidable p5] {x y:α} (h:¬(p1/\p2/\p3/\p4/\p5)):(if p1 then if p2 then if p3 then if p4 then if p5 then x else y else y else y else y else y)=y:=by
 by_cases h1:p1<;>by_cases h2:p2<;>by_cases h3:p3<;>by_cases h4:p4<;>by_cases h5:p5<;>simp_all
theorem kN {x y:ByteArray} (h:x.toList=y.toList):x=y:=mW0.1 (by unfold seq; rw[h]; simp)
structure uE (x:En):Prop where
 r:x.r.size<=maxLen
 s:x.s.size<=maxLen
 l:(Lit.int .i64 x.l).wf=true
 t:(Lit.int .i64 x.t).wf=true
 c:(Lit.int .i64 x.c).wf=true
theorem zG (x:En):∀u∈bF x,u.oneCell'=true:=by
 intro u hu;simp[bF]at hu;rcases hu with rfl|rfl|rfl|rfl|rfl<;>rfl
theorem bytesLess_irrefl:∀l:List UInt8,Aa l l=false
 | []=>rfl
 | x::l=>by simp[Aa,bytesLess_irrefl l]
theorem gF:∀ {a b c:List UInt8},Aa a b=true->Aa b c=true->Aa a c=true
 | [],_,[],_,h=>by cases ‹List UInt8› <;> simp[Aa]at h
 | [],_,_::_,_,_=>rfl
 | _::_,[],_,h,_=>by simp[Aa]at h
 | _::_,_::_,[],_,h=>by simp[Aa]at h
 | x::a,y::b,z::c,h1,h2=>by
  simp only[Aa,Ai,Ad,decide_eq_true_eq,beq_iff_eq]at h1 h2 ⊢;rcases h1 with h1|⟨rfl,h1⟩<;>rcases h2 with h2|⟨rfl,h2⟩
  ·grind
  ·exact Or.inl h1
  ·exact Or.inl h2
  ·exact Or.inr ⟨rfl,gF h1 h2⟩
theorem dT:∀ {a b:List UInt8},Aa a b=false->a≠b->Aa b a=true
 | [],[],_,h=>absurd rfl h
 | [],_::_,h,_=>by simp[Aa]at h
 | _::_,[],_,_=>rfl
 | x::a,y::b,h1,h2=>by
  simp only[Aa,Bool.or_eq_false_iff,Bool.and_eq_false_iff,decide_eq_false_iff_not,beq_eq_false_iff_ne,Ai,Ad,decide_eq_true_eq,beq_iff_eq]at h1 ⊢;obtain⟨h1,h3⟩:=h1;by_cases up:y<x
  ·exact Or.inl up
  ·have h4:x.toNat=y.toNat:=by
    have h5:¬x.toNat<y.toNat:=h1;have h6:¬y.toNat<x.toNat:=up;omega
   obtain rfl:x=y:=UInt8.toNat_inj.1 h4;rcases h3 with h3|h3
   ·exact absurd rfl h3
   ·exact Or.inr ⟨rfl,dT h3 (by simp_all)⟩
structure wC0 {α:Type} (f:α->α->Int):Prop where
 zero:∀x y,f x y=0↔x=y
 trans:∀x y z,f x y<0->f y z<0->f x z<0
 flip:∀x y,f x y<0↔0<f y x
theorem kS0:wC0 dV where
 zero x y:=by grind [dV]
 trans x y z:=by grind [dV]
 flip x y:=by grind [dV]
theorem vE (a b:ByteArray):qX a b=if Aa a.toList b.toList then -1 else if a=b then 0 else 1:=by
 unfold qX;by_cases h1:Aa a.toList b.toList=true
 ·simp_all
 ·rw[if_neg h1,if_neg h1]
  grind [kN]
theorem oV {a b:List UInt8} (h:Aa a b=true):¬Aa b a=true:=by grind [gF,bytesLess_irrefl]
theorem oN0:wC0 qX where
 zero x y:=by
  rw[vE];split
  ·rename_i h
   refine⟨λh=>by omega,λe=>?_⟩;rw[e,bytesLess_irrefl]at h;cases h
  ·split
   ·rename_i h;simp[h]
   ·rename_i h;simp[h]
 trans x y z:=by
  rw[vE,vE,vE];intro h1 h2
  have g1:Aa x.toList y.toList=true:=by
   by_cases h:Aa x.toList y.toList=true
   ·exact h
   ·rw[if_neg h]at h1;split at h1<;>omega
  have g2:Aa y.toList z.toList=true:=by
   by_cases h:Aa y.toList z.toList=true
   ·exact h
   ·rw[if_neg h]at h2;split at h2<;>omega
  rw[if_pos (gF g1 g2)];omega
 flip x y:=by
  rw[vE,vE];by_cases h:Aa x.toList y.toList=true
  ·have h2:=oV h
   have h3:¬y=x:=λe=>by rw[e,bytesLess_irrefl]at h;cases h
   rw[if_pos h,if_neg h2,if_neg h3];omega
  ·rw[if_neg h]
   by_cases e:x=y
   ·subst e;rw[if_pos rfl,if_neg h]
   ·have h2:=dT (by simpa using h) (λh=>e (kN h))
    rw[if_neg e,if_pos h2];omega
def cY0 {α β:Type} (f:α->α->Int) (g:β->β->Int) (x y:α×β):Int:=if f x.1 y.1=0 then g x.2 y.2 else f x.1 y.1
theorem wC0.refl {α:Type} {f:α->α->Int} (h:wC0 f) (x:α):f x x=0:=(h.zero x x).2 rfl
theorem kX {α β:Type} {f:α->α->Int} {g:β->β->Int} (hf:wC0 f) (hg:wC0 g):wC0 (cY0 f g) where
 zero x y:=by
  unfold cY0;by_cases h:f x.1 y.1=0
  ·rw[if_pos h,hg.zero]
   have:=(hf.zero _ _).1 h
   grind
  ·rw[if_neg h]
   exact⟨λh2=>absurd h2 h,λh2=>absurd (by rw[h2];exact hf.refl _) h⟩
 trans x y z:=by
  unfold cY0;intro h1 h2;by_cases e1:f x.1 y.1=0
  ·rw[if_pos e1]at h1
   have e:=(hf.zero _ _).1 e1;rw[e];by_cases e2:f y.1 z.1=0
   ·rw[if_pos e2]at h2 ⊢;exact hg.trans _ _ _ h1 h2
   omega
  ·rw[if_neg e1]at h1
   by_cases e2:f y.1 z.1=0
   ·have e:=(hf.zero _ _).1 e2
    simp_all
   ·rw[if_neg e2]at h2
    have h3:=hf.trans _ _ _ h1 h2;omega
 flip x y:=by
  unfold cY0;have hz:f x.1 y.1=0↔f y.1 x.1=0:=by rw[hf.zero,hf.zero];exact eq_comm
  by_cases e1:f x.1 y.1=0
  ·rw[if_pos e1,if_pos (hz.1 e1)];exact hg.flip _ _
  ·rw[if_neg e1,if_neg (λh=>e1 (hz.2 h))];exact hf.flip _ _
def hE1 (x:En):ByteArray×Int×ByteArray×Int×Int:=(x.r,x.c,x.s,x.l,x.t)
theorem mH (x y:En):aN0 x y=cY0 qX (cY0 dV (cY0 qX (cY0 dV dV))) (hE1 x) (hE1 y):=by
 have hl:∀z:Int,orI [z]=z:=by grind [orI]
 unfold aN0 cY0 hE1;simp only[orI];omega
theorem lP0:wC0 aN0 where
 zero x y:=by
  rw[mH,(kX oN0 (by grind [kX,kS0,oN0])).zero];constructor
  ·intro h
   obtain⟨xr,xs,xl,xt,xc⟩:=x;obtain⟨yr,ys,yl,yt,yc⟩:=y;simp only[hE1,Prod.mk.injEq]at h;simp_all
  ·intro h;rw[h]
 trans x y z:=by rw[mH,mH,mH];exact(kX oN0 (by grind [kX,kS0,oN0])).trans _ _ _
 flip x y:=by rw[mH,mH];exact(kX oN0 (by grind [kX,kS0,oN0])).flip _ _
theorem lI {x y z:En} (h1:mA x y=true) (h2:mA y z=true):mA x z=true:=by
 unfold mA at *;simp only[decide_eq_true_eq] at *;exact lP0.trans _ _ _ h1 h2
theorem fA (x:En):mA x x=false:=by
 unfold mA;rw[lP0.refl];simp
theorem sO {x y:En} (h:x≠y):mA y x = !mA x y:=by
 unfold mA;have h1:=lP0.flip x y;have h2:aN0 x y≠0:=λh0=>h ((lP0.zero _ _).1 h0);have h3:=lP0.flip y x;grind
theorem jH {P:Program} {d:Nat} {t:TypeId} {fs:Array Field} {cs:List Value} (h:P.underlying t=some (.struct fs)) :
  P.keyLits (d + 1) t cs = if cs.length = P.cellsOf t ∧ fs.all (·.name != "_") = true then (fs.toList.mapM fun f => P.keyLits d f.type ((cs.drop f.offset).take (P.cellsOf f.type))).map List.flatten else none := by
 conv=>lhs;unfold Program.keyLits
 simp only[h]
def xU0 (x:Int×Int):Value := .agg #[.int .i64 x.1,.int .i64 x.2]
def WfI (n:Int):Prop:=(Lit.int .i64 n).wf=true
def klP (x:Int×Int):Lit := .string (keyBytes [.int .i64 x.1,.int .i64 x.2])
theorem xS:laidOutB Tryz.prog=true:=by kernel_rfl
theorem zC:Go.Maps.Keyed Tryz.prog 258:=Go.Maps.Keyed.of_law (deep_law_laid xS (m:=3) (by decide) (of_decide_eq_true (by kernel_rfl)) (by kernel_rfl) (by kernel_rfl))
theorem pE1 {x:Int×Int} (h1:WfI x.1) (h2:WfI x.2):Go.keyOf Tryz.prog 258 (xU0 x)=some (klP x):=by
 obtain⟨m,hm⟩:∃m,Tryz.prog.types.size=m+1:=⟨Tryz.prog.types.size-1,by have:0<Tryz.prog.types.size:=of_decide_eq_true (by kernel_rfl);omega⟩
 have hI:∀(n:Int),WfI n->Tryz.prog.keyLits (m+1) 3 [.int .i64 n]=some [.int .i64 n]:=λn hn=>by
  unfold Program.keyLits;unfold WfI at hn;simp only[Tryz.underlying3,hn,and_self,if_true]
 have hk:Tryz.prog.keyType 258=true:=by kernel_rfl
 have hc:Tryz.prog.cellsOf 258=2:=by kernel_rfl
 have uq:Tryz.prog.cellsOf 3=1:=by kernel_rfl
 obtain⟨a,b⟩:=x;have g1:=hI a h1;have g2:=hI b h2;unfold Go.keyOf;simp only[Tryz.underlying258,hk,As];unfold Value.formed xU0;simp only[Tryz.underlying258,hc];have hz:((#[Value.int .i64 a,.int .i64 b]:Array Value).size==2)=true:=rfl;rw[if_pos hz,hm];unfold Program.keyLits;simp only[Tryz.underlying258,hc,Value.cells];simp[uq,g1,g2,klP]
theorem nB0 {x y:Int×Int} (h1:WfI x.1) (h2:WfI x.2) (h3:WfI y.1) (h4:WfI y.2) (h:klP x=klP y):x=y:=by
 have k1:=pE1 h1 h2;have k2:=pE1 h3 h4;rw[h]at k1
 have:=zC.inj k1 k2
 obtain⟨a,b⟩:=x;obtain⟨a',b'⟩:=y;simpa [xU0] using this
theorem eR0 {key:Value} {kl:Lit} (h:Go.keyOf Tryz.prog 258 key=some kl):∃x:Int×Int,WfI x.1/\WfI x.2/\key=xU0 x/\kl=klP x:=by
 obtain⟨m,hm⟩:∃m,Tryz.prog.types.size=m+1:=⟨Tryz.prog.types.size-1,by have:0<Tryz.prog.types.size:=of_decide_eq_true (by kernel_rfl);omega⟩
 have hI:∀(v:Value) (ls:List Lit),Tryz.prog.keyLits (m+1) 3 [v]=some ls->∃n:Int,v=.int .i64 n/\WfI n/\ls=[.int .i64 n]:=λv ls h=>by
  unfold Program.keyLits at h;simp only[Tryz.underlying3]at h;cases v<;>simp at h
  obtain⟨⟨rfl,h2⟩,h3⟩:=h;exact⟨_,rfl,h2,h3.symm⟩
 have hk:Tryz.prog.keyType 258=true:=by kernel_rfl
 have hc:Tryz.prog.cellsOf 258=2:=by kernel_rfl
 have uq:Tryz.prog.cellsOf 3=1:=by kernel_rfl
 unfold Go.keyOf at h;simp only[Tryz.underlying258,hk,As]at h;split at h
 ·rename_i hf
  rw[hm]at h
  obtain⟨cs,rfl,du⟩:∃cs,key=.agg cs/\cs.size=2:=by
   unfold Value.formed at hf;cases key<;>simp[Tryz.underlying258,hc]at hf
   exact⟨_,rfl,hf⟩
  obtain⟨l⟩:=cs
  match l,du with
  | [c0,c1],_ =>
   rw[jH Tryz.underlying258]at h;simp only[Value.cells]at h;simp[uq,hc,Aw,Bk]at h;obtain⟨l0,g0,ls,⟨l1,g1,rfl⟩,rfl⟩:=h;obtain⟨n2,rfl,z2,rfl⟩:=hI _ _ g0;obtain⟨n3,rfl,z3,rfl⟩:=hI _ _ g1;exact⟨⟨n2,n3⟩,z2,z3,rfl,by simp[klP]⟩
 ·cases h
end
section
open Go Go.RowKit
structure Mx where
 n:Nat
 d:Int
 cs:List Int
structure Mx.OK (m:Mx):Prop where
 n1:1<=m.n
 n2:m.n<=64
 d1:0<=m.d
 d2:m.d<=30000
 len:m.cs.length=m.n*m.n
 cost:∀c∈m.cs,0<=c/\c<=30000
def isC (c:Int):Bool:=decide (0<=c)&&decide (c<=30000)
theorem uM {c:Int}:isC c=true↔0<=c/\c<=30000:=by simp[isC]
def nO0 (n d:Int):Bool:=decide (1<=n)&&decide (n<=64)&&isC d
theorem nP {n d:Int}:nO0 n d=true↔1<=n/\n<=64/\0<=d/\d<=30000:=by simp[nO0,isC,and_assoc]
def newM (n d:Int):Mx:=⟨n.toNat,d,Ca (n.toNat*n.toNat) d⟩
theorem gE0 {n d:Int} (h:nO0 n d=true):(newM n d).OK:=by
 obtain⟨h1,h2,h3,h4⟩:=nP.1 h;refine⟨?_,?_,h3,h4,by simp[newM],λc hc=>?_⟩
 ·show 1<=n.toNat;omega
 ·show n.toNat<=64;omega
 ·obtain rfl:c=d:=(List.mem_replicate.1 hc).2
  exact⟨h3,h4⟩
def inR (n:Nat) (r:Int):Bool:=decide (0<=r)&&decide (r<n)
theorem lV1 {n:Nat} {r:Int}:inR n r=true↔0<=r/\r<n:=by simp[inR]
def at2 (n:Nat) (x:Int×Int):Nat:=x.1.toNat*n+x.2.toNat
def inP (n:Nat) (x:Int×Int):Bool:=inR n x.1&&inR n x.2
theorem lX {n:Nat} {x:Int×Int}:inP n x=true↔(0<=x.1/\x.1<n)/\0<=x.2/\x.2<n:=by simp[inP,lV1]
theorem vM {n:Nat} {x:Int×Int} (h:inP n x=true):at2 n x<n*n:=by
 obtain⟨⟨h1,h2⟩,h3,h4⟩:=lX.1 h;unfold at2;have k1:x.1.toNat+1<=n:=by omega
 have k2:x.2.toNat<n:=by omega
 have:=Nat.mul_le_mul_right n k1
 grind
theorem mD1 {n:Nat} {x:Int×Int} (h:inP n x=true):at2 n x/n=x.1.toNat/\at2 n x%n=x.2.toNat:=by
 obtain⟨⟨h1,h2⟩,h3,h4⟩:=lX.1 h;have k2:x.2.toNat<n:=by omega
 unfold at2;constructor
 ·rw[Cb,Nat.mul_add_div (by omega),Nat.div_eq_of_lt k2,Nat.add_zero]
 ·rw[Cb,Nat.mul_add_mod,Nat.mod_eq_of_lt k2]
theorem bD1 {n:Nat} {x y:Int×Int} (hx:inP n x=true) (hy:inP n y=true) (h:at2 n x=at2 n y):x=y:=by
 grind [mD1,lX]
def Mx.cost (m:Mx) (x:Int×Int):Int:=if inP m.n x then m.cs.getD (at2 m.n x) 0 else 30000
def Mx.setB (m:Mx) (x:Int×Int) (c:Int):Bool:=inP m.n x&&isC c
def Mx.set (m:Mx) (x:Int×Int) (c:Int):Mx:={ m with cs:=m.cs.set (at2 m.n x) c }
def Mx.setIf (m:Mx) (x:Int×Int) (c:Int):Mx:=if m.setB x c then m.set x c else m
theorem Mx.OK.set {m:Mx} (h:m.OK) {x:Int×Int} {c:Int} (hs:m.setB x c=true):(m.set x c).OK:=by
 simp only[Mx.setB,Ad]at hs;refine⟨h.n1,h.n2,h.d1,h.d2,by simp[Mx.set,h.len],λz hz=>?_⟩;rcases List.mem_or_eq_of_mem_set hz with hz|rfl
 ·exact h.cost z hz
 ·exact uM.1 hs.2
theorem Mx.OK.setIf {m:Mx} (h:m.OK) (x:Int×Int) (c:Int):(m.setIf x c).OK:=by
 unfold Mx.setIf;split
 ·rename_i hs;exact h.set hs
 ·exact h
theorem Mx.cost_set {m:Mx} (h:m.OK) {x:Int×Int} {c:Int} (hx:inP m.n x=true) (y:Int×Int):(m.set x c).cost y=if y=x then c else m.cost y:=by
 have hl:at2 m.n x<m.cs.length:=by rw[h.len];exact vM hx
 unfold Mx.cost;show (if inP m.n y then (m.cs.set (at2 m.n x) c).getD (at2 m.n y) 0 else 30000)=_
 by_cases hy:inP m.n y=true
 ·rw[if_pos hy,if_pos hy]
  by_cases e:y=x
  ·simp_all
  ·rw[if_neg e]
   have:at2 m.n x≠at2 m.n y:=λh=>e (bD1 hx hy h).symm
   simp_all
 grind
theorem Mx.cost_new {n d:Int} (x:Int×Int):(newM n d).cost x=if inP n.toNat x then d else 30000:=by
 unfold Mx.cost newM;simp only;by_cases h:inP n.toNat x=true
 ·rw[if_pos h,if_pos h]
  simp[Cf,vM h]
 simp_all
theorem Mx.cost_ok {m:Mx} (h:m.OK) (x:Int×Int):0<=m.cost x/\m.cost x<=30000:=by
 unfold Mx.cost;split
 ·rename_i hx
  have hl:at2 m.n x<m.cs.length:=by rw[h.len];exact vM hx
  have:m.cs.getD (at2 m.n x) 0=m.cs[at2 m.n x]:=by simp[Cf,hl]
  rw[this];exact h.cost _ (List.getElem_mem _)
 ·omega
theorem qC {n:Nat} (hn:n<=64) {x:Int×Int} (h:inP n x=true):WfI x.1/\WfI x.2:=by
 grind [lX,WalkArith.wf_i64,WfI]
section
variable {H:Type}
def qB0 (m:Mx) (D:DataW H):Prop:=∀x:Int×Int,WfI x.1->WfI x.2->(Maps.has D (klP x)=(inP m.n x&&decide (m.cost x≠m.d)))/\(Maps.has D (klP x)=true->∀zd,D.atKey (klP x) zd=.lit (.int .i64 (m.cost x)))
theorem xL0 (x:Int×Int):WideAt.IsKeyLit (klP x):=by simp[klP,WideAt.IsKeyLit]
theorem pX0 (x:Int×Int):(klP x).sameKey (klP x)=true:=by simp[klP,Lit.sameKey]
theorem gF1 (n d:Int):qB0 (H:=H) (newM n d) (.map []):=λx _ _=>by
 refine⟨?_,λh=>by cases h⟩;show false=_
 rw[Mx.cost_new];show false=(inP n.toNat x&&decide ((if inP n.toNat x then d else 30000)≠d))
 simp_all
theorem qB0.put {m:Mx} {D:DataW H} (h:qB0 m D) (hm:Maps.IsMap D) (ag:m.OK) {x:Int×Int} {c:Int} (hs:m.setB x c=true) (hc:c≠m.d):qB0 (m.set x c) (D.put (klP x) (.lit (.int .i64 c))):=λy h1 h2=>by
 simp only[Mx.setB,Ad]at hs;have hw:=qC ag.n2 hs.1;rw[Mx.cost_set ag hs.1];show Maps.has _ _=(inP m.n y&&decide (_≠m.d))/\_
 by_cases e:y=x
 ·subst e
  rw[if_pos rfl,Maps.has_put_same hm (xL0 _),hs.1];exact⟨by simp[hc],λ_ zd=>Maps.atKey_put_same hm (xL0 _) _ _⟩
 ·have aj:klP y≠klP x:=λh=>e (nB0 h1 h2 hw.1 hw.2 h)
  rw[if_neg e,Maps.has_put_other aj];refine⟨(h y h1 h2).1,λhh zd=>?_⟩;rw[Maps.atKey_put_other aj];exact(h y h1 h2).2 hh zd
theorem qB0.del {m:Mx} {D:DataW H} (h:qB0 m D) (ag:m.OK) {x:Int×Int} (hx:inP m.n x=true):qB0 (m.set x m.d) (D.del (klP x)):=λy h1 h2=>by
 have hw:=qC ag.n2 hx;rw[Mx.cost_set ag hx];show Maps.has _ _=(inP m.n y&&decide (_≠m.d))/\_
 by_cases e:y=x
 ·subst e
  rw[if_pos rfl,Maps.has_del_same];simp_all
 ·have aj:klP y≠klP x:=λh=>e (nB0 h1 h2 hw.1 hw.2 h)
  rw[if_neg e,Maps.has_del_other aj];refine⟨(h y h1 h2).1,λhh zd=>?_⟩;rw[Maps.atKey_del_other aj];exact(h y h1 h2).2 hh zd
theorem qB0.look {m:Mx} {D:DataW H} (h:qB0 m D) (ag:m.OK) {x:Int×Int} (hx:inP m.n x=true) {c:Int} (hc:D.atKey (klP x) (.lit (.int .i64 0))=.lit (.int .i64 c)):(Maps.has D (klP x)=true->c=m.cost x)/\(Maps.has D (klP x)=false->m.cost x=m.d):=by
 have hw:=qC ag.n2 hx;obtain⟨h1,h2⟩:=h x hw.1 hw.2;grind
end
def Mx.idx (m:Mx):List Nat:=(Af (m.n*m.n)).filter λi=>decide (m.cs.getD i 0≠m.d)
def eA (n i:Nat):Int×Int:=(((i/n:Nat):Int),((i%n:Nat):Int))
def Mx.pairs (m:Mx):List (Int×Int):=m.idx.map (eA m.n)
theorem kR {n i:Nat} (h:i<n*n):inP n (eA n i)=true/\at2 n (eA n i)=i:=by
 have hn:0<n:=by
  rcases Av n with h0|h0
  ·subst h0;simp at h
  ·exact h0
 have h1:i/n<n:=Nat.div_lt_of_lt_mul h;have h2:i%n<n:=Nat.mod_lt _ hn;grind [lX,Bj,eA,at2]
theorem dB0 {n:Nat} {x:Int×Int} (h:inP n x=true):eA n (at2 n x)=x:=by grind [bD1,kR,vM]
theorem Mx.mem_idx {m:Mx} {i:Nat}:i∈m.idx↔i<m.n*m.n/\m.cs.getD i 0≠m.d:=by simp[Mx.idx]
theorem Mx.mem_pairs {m:Mx} {x:Int×Int}:x∈m.pairs↔inP m.n x=true/\m.cost x≠m.d:=by
 unfold Mx.pairs;rw[Cc];constructor
 ·rintro⟨i,hi,rfl⟩
  obtain⟨h1,h2⟩:=Mx.mem_idx.1 hi;obtain⟨h3,h4⟩:=kR h1;refine⟨h3,?_⟩;unfold Mx.cost;simp_all
 ·rintro⟨h1,h2⟩
  refine⟨at2 m.n x,Mx.mem_idx.2 ⟨vM h1,?_⟩,dB0 h1⟩;unfold Mx.cost at h2;rwa [if_pos h1]at h2
def cZ1 (a b:Int×Int):Int:=orI [dV a.1 b.1,dV a.2 b.2]
def ltP (a b:Int×Int):Prop:=a.1<b.1\/a.1=b.1/\a.2<b.2
theorem lR1 (a b:Int×Int):cZ1 a b<0↔ltP a b:=by
 unfold cZ1 ltP;grind [orI,dV]
theorem cV0 (a:Int×Int):¬ltP a a:=by unfold ltP; omega
theorem iY0 {a b c:Int×Int} (h1:ltP a b) (h2:ltP b c):ltP a c:=by unfold ltP at *; omega
theorem zZ0 {a b:Int×Int} (h:a≠b):ltP a b\/ltP b a:=by
 grind [ltP]
theorem wJ0 {n i j:Nat} (h:i<j):ltP (eA n i) (eA n j):=by
 have h1:i/n<=j/n:=Nat.div_le_div_right (Nat.le_of_lt h);unfold ltP eA;simp only;by_cases e:i/n=j/n
 ·right
  refine⟨by omega,?_⟩;have h2:=Bj i n;have h3:=Bj j n;rw[e]at h2;omega
 ·left;omega
theorem Mx.pairs_sorted (m:Mx):m.pairs.Pairwise ltP:=by
 unfold Mx.pairs Mx.idx;rw[Bt];exact(List.Pairwise.filter _ Bg).imp λh=>wJ0 h
theorem sC {α:Type} {lt:α->α->Prop} (hi:∀a, ¬lt a a) (ht:∀ {a b c},lt a b->lt b c->lt a c):∀ {o o':List α},o.Pairwise lt->o'.Pairwise lt->(∀y,y∈o↔y∈o')->o=o'
 | [],[],_,_,_=>rfl
 | [],b::s,_,_,h=>by have:=(h b).2 (by simp);cases this
 | a::r,[],_,_,h=>by have:=(h a).1 (by simp);cases this
 | a::r,b::s,h1,h2,h=>by
  obtain⟨ha,hr⟩:=List.pairwise_cons.1 h1;obtain⟨hb,hs⟩:=List.pairwise_cons.1 h2
  have ic:a=b:=by
   rcases List.mem_cons.1 ((h a).1 (by simp)) with e|e
   ·exact e
   ·rcases List.mem_cons.1 ((h b).2 (by simp)) with e'|e'
    ·exact e'.symm
    grind
  subst ic;have io:a∉r:=by grind
  have km:a∉s:=by grind
  rw[sC hi ht hr hs λy=>?_];grind
theorem Mx.pairs_len {m:Mx} (h:m.OK):m.pairs.length<=4096:=by
 unfold Mx.pairs;rw[List.length_map];refine Bh (List.length_filter_le _ _) ?_;rw[List.length_range]
 have:=h.n2
 exact Nat.mul_le_mul this this
theorem cM {α:Type} [DecidableEq α]:∀ {l l':List α},l.Nodup->(∀x∈l,x∈l')->l.length<=l'.length
 | [],_,_,_=>Am _
 | x::r,l',hn,hs=>by
  obtain⟨h1,h2⟩:=List.nodup_cons.1 hn;have hx:=hs x (by simp);have hr:=cM (l':=l'.erase x) h2 λy hy=>(List.mem_erase_of_ne (λ(e:y=x)=>h1 (by rw[<-e];exact hy))).2 (hs y (by simp[hy]));rw[List.length_erase_of_mem hx]at hr
  have:=List.length_pos_of_mem hx
  simp only[List.length_cons];omega
end
section
open Go Go.RowKit
structure Nd where
 f:Int
 t:Int
 s:ByteArray
 l:Int
 r:Int
 c:Int
 k:Int
instance:DecidableEq Nd:=λx y=>decidable_of_iff (x.f=y.f/\x.t=y.t/\x.s=y.s/\x.l=y.l/\x.r=y.r/\x.c=y.c/\x.k=y.k) (by cases x; cases y; simp)
def oF0 (x y:Nd):Int:=orI [dV x.f y.f,dV y.t x.t,dV x.c y.c,qX x.s y.s,dV x.l y.l,dV x.r y.r]
def gY (x y:Nd):Bool:=decide (oF0 x y<0)
theorem wC0.rev {α:Type} {f:α->α->Int} (h:wC0 f):wC0 λx y=>f y x where
 zero x y:=(h.zero y x).trans eq_comm
 trans x y z h1 h2:=h.trans z y x h2 h1
 flip x y:=h.flip y x
def fT (x:Nd):Int×Int×Int×ByteArray×Int×Int:=(x.f,x.t,x.c,x.s,x.l,x.r)
theorem rY (x y:Nd):oF0 x y=cY0 dV (cY0 (λa b=>dV b a) (cY0 dV (cY0 qX (cY0 dV dV)))) (fT x) (fT y):=by
 unfold oF0 cY0 fT;simp only[orI];repeat' split
 all_goals simp_all
theorem mF:wC0 (cY0 dV (cY0 (λa b=>dV b a) (cY0 dV (cY0 qX (cY0 dV dV))))):=kX kS0 (kX kS0.rev (kX kS0 (kX oN0 (kX kS0 kS0))))
theorem sY (x:Nd):¬gY x x=true:=by
 unfold gY;rw[rY,mF.refl];simp
theorem pJ {x y z:Nd} (h1:gY x y=true) (h2:gY y z=true):gY x z=true:=by
 unfold gY at *;simp only[decide_eq_true_eq,rY] at *;exact mF.trans _ _ _ h1 h2
theorem xD {x y:Nd} (h:fT x≠fT y) (hn:¬gY x y=true):gY y x=true:=by
 unfold gY at *;simp only[decide_eq_true_eq,rY] at *;have h1:=mF.flip (fT x) (fT y);have h2:_≠(0:Int):=λh0=>h ((mF.zero (fT x) (fT y)).1 h0);have h3:=mF.flip (fT y) (fT x);omega
def cG (x y:Nd):Prop:=x.f=y.f/\x.t=y.t/\x.s=y.s/\x.l=y.l/\x.r=y.r
instance (x y:Nd):Decidable (cG x y):=by unfold cG; exact inferInstance
theorem cG.refl (x:Nd):cG x x:=⟨rfl,rfl,rfl,rfl,rfl⟩
theorem cG.symm {x y:Nd} (h:cG x y):cG y x:=⟨h.1.symm,h.2.1.symm,h.2.2.1.symm,h.2.2.2.1.symm,h.2.2.2.2.symm⟩
theorem cG.trans {x y z:Nd} (h:cG x y) (k:cG y z):cG x z:=⟨h.1.trans k.1,h.2.1.trans k.2.1,h.2.2.1.trans k.2.2.1,h.2.2.2.1.trans k.2.2.2.1,h.2.2.2.2.trans k.2.2.2.2⟩
theorem kZ0 {x y:Nd} (h:fT x=fT y):cG x y:=by
 simp only[fT,Prod.mk.injEq]at h;exact⟨h.1,h.2.1,h.2.2.2.1,h.2.2.2.2.1,h.2.2.2.2.2⟩
theorem pD0 {x y:Nd} (h:cG x y) (hc:x.c=y.c) (hk:x.k=y.k):x=y:=by
 obtain⟨a,b,d,e,g,i,j⟩:=x;obtain⟨a',b',d',e',g',i',j'⟩:=y;obtain⟨h1,h2,h3,h4,h5⟩:=h;simp only at h1 h2 h3 h4 h5 hc hk;subst h1 h2 h3 h4 h5 hc hk;rfl
def bT (x y:Nd):Prop:=x.c<y.c\/(x.c=y.c/\x.k<=y.k)
instance (x y:Nd):Decidable (bT x y):=by unfold bT; exact inferInstance
theorem bT.refl (x:Nd):bT x x:=Or.inr ⟨rfl,Cd _⟩
theorem bT.trans {x y z:Nd} (h:bT x y) (k:bT y z):bT x z:=by
 unfold bT at *;omega
theorem cX0 {x y:Nd} (h:¬bT x y):bT y x:=by
 unfold bT at *;omega
structure Bests (O:Nd->Prop) (L:List Nd):Prop where
 sub:∀x∈L,O x
 cov:∀y,O y->∃z∈L,cG z y/\bT z y
 one:L.Pairwise λx y=>¬cG x y
structure iP (O:Nd->Prop) (L:List Nd):Prop extends Bests O L where
 srt:L.Pairwise λx y=>gY x y=true
theorem mE0 {L:List Nd} (h:L.Pairwise λx y=>¬cG x y) {x y:Nd} (hx:x∈L) (hy:y∈L) (hs:cG x y):x=y:=by
 induction L with
 | nil=>cases hx
 | cons a L ih =>
  obtain⟨h1,h2⟩:=List.pairwise_cons.1 h;rcases List.mem_cons.1 hx with rfl|qw<;>rcases List.mem_cons.1 hy with rfl|hy'
  ·rfl
  ·exact absurd hs (h1 y hy')
  ·exact absurd hs.symm (h1 x qw)
  ·exact ih h2 qw hy'
theorem Bests.same {O:Nd->Prop} {L:List Nd} (h:Bests O L) {x y:Nd} (hx:x∈L) (hy:y∈L) (hs:cG x y):x=y:=mE0 h.one hx hy hs
theorem Bests.best {O:Nd->Prop} {L:List Nd} (h:Bests O L) {x y:Nd} (hx:x∈L) (hy:O y) (hs:cG x y):bT x y:=by
 obtain⟨z,hz,h1,h2⟩:=h.cov y hy;rw[h.same hx hz (hs.trans h1.symm)];exact h2
theorem Bests.mem {O:Nd->Prop} {L:List Nd} (h:Bests O L) (x:Nd):x∈L↔O x/\∀y,O y->cG x y->bT x y:=by
 constructor
 ·exact λhx=>⟨h.sub x hx,λy hy hs=>h.best hx hy hs⟩
 ·rintro⟨hx,hb⟩
  obtain⟨z,hz,h1,h2⟩:=h.cov x hx;have h3:=hb z (h.sub z hz) h1.symm;rw[show x=z from pD0 h1.symm (by unfold bT at h2 h3;omega) (by unfold bT at h2 h3;omega)]
  exact hz
theorem Bests.congr {O O':Nd->Prop} {L:List Nd} (h:Bests O L) (he:∀x,O x↔O' x):Bests O' L:=⟨λx hx=>(he x).1 (h.sub x hx),λy hy=>h.cov y ((he y).2 hy),h.one⟩
theorem iP.congr {O O':Nd->Prop} {L:List Nd} (h:iP O L) (he:∀x,O x↔O' x):iP O' L:=⟨h.toBests.congr he,h.srt⟩
theorem iP.unique {O:Nd->Prop} {L L':List Nd} (h:iP O L) (h':iP O L'):L=L' :=
 sC (lt:=λx y=>gY x y=true) sY pJ h.srt h'.srt λy=>(h.mem y).trans (h'.mem y).symm
theorem pM1 {O:Nd->Prop} {L:List Nd} (h:Bests O L):L.Nodup:=List.nodup_iff_pairwise_ne.2 (h.one.imp λ{a _} hn e=>hn (by rw[<-e]; exact cG.refl a))
theorem Bests.sorted {O:Nd->Prop} {L L':List Nd} (h:Bests O L) (hp:L'.Perm L) (hs:L'.Pairwise λx y=>gY x y=true):iP O L' :=
 ⟨⟨λx hx=>h.sub x (hp.mem_iff.1 hx),λy hy=>let ⟨z,hz,k⟩:=h.cov y hy;⟨z,hp.mem_iff.2 hz,k⟩,h.one.perm hp.symm λ{_a _b} hn e=>hn e.symm⟩,hs⟩
def lH0 (x:Nd):Int×Int×ByteArray×Int×Int:=(x.f,x.t,x.s,x.l,x.r)
theorem cO0 {x y:Nd}:lH0 x=lH0 y↔cG x y:=by
 unfold lH0 cG;simp only[Prod.mk.injEq]
theorem Bests.len {O:Nd->Prop} {L L0:List Nd} (h:Bests O L) (h1:∀x∈L0,O x) (h2:L0.Pairwise λx y=>¬cG x y):L0.length<=L.length:=by
 have:=cM (l:=L0.map lH0) (l':=L.map lH0) (List.pairwise_map.2 (h2.imp λ{a b} hn e=>hn (cO0.1 e))) (λk hk=>by
  obtain⟨x,hx,rfl⟩:=List.mem_map.1 hk;obtain⟨z,hz,hs,_⟩:=h.cov x (h1 x hx);exact List.mem_map.2 ⟨z,hz,cO0.2 hs⟩)
 simpa using this
theorem Bests.mono_len {O O':Nd->Prop} {L L':List Nd} (h:Bests O L) (h':Bests O' L') (hs:∀x,O x->O' x):L.length<=L'.length:=h'.len (λx hx=>hs x (h.sub x hx)) h.one
theorem yL0:Bests (λ_=>False) []:=⟨λx hx=>(by cases hx),λ_ h=>h.elim,List.Pairwise.nil⟩
def aV1 (x:Nd):List Nd->List Nd
 | []=>[x]
 | y::r=>if gY x y then x::y::r else y::aV1 x r
def qF1 (L:List Nd) (x:Nd):List Nd:=if L.any λy=>decide (cG y x/\bT y x) then L else aV1 x (L.filter λy => !decide (cG y x))
theorem nH {x y:Nd}:∀ {L:List Nd},y∈aV1 x L↔y=x\/y∈L
 | []=>by simp[aV1]
 | z::r=>by
  unfold aV1;split
  ·simp
  ·rw[Ax,nH (L:=r),Ax]
   grind
theorem qS0 {x:Nd}:∀ {L:List Nd},(L.Pairwise λx y=>gY x y=true)->(∀y∈L, ¬cG y x)->(aV1 x L).Pairwise λx y=>gY x y=true
 | [],_,_=>by simp[aV1]
 | z::r,h,hx=>by
  obtain⟨hz,hr⟩:=List.pairwise_cons.1 h;unfold aV1;split
  ·rename_i hl
   refine List.pairwise_cons.2 ⟨λy hy=>?_,h⟩;rcases List.mem_cons.1 hy with rfl|hy
   ·exact hl
   ·exact pJ hl (hz y hy)
  ·rename_i hl
   refine List.pairwise_cons.2 ⟨λy hy=>?_,qS0 hr λy hy=>hx y (by simp[hy])⟩;rcases nH.1 hy with rfl|hy
   ·exact xD (λe=>hx z (by simp) (kZ0 e.symm)) hl
   ·exact hz y hy
theorem qO0 {x:Nd}:∀ {L:List Nd},(L.Pairwise λx y=>¬cG x y)->(∀y∈L, ¬cG y x)->(aV1 x L).Pairwise λx y=>¬cG x y
 | [],_,_=>by simp[aV1]
 | z::r,h,hx=>by
  obtain⟨hz,hr⟩:=List.pairwise_cons.1 h;unfold aV1;split
  ·exact List.pairwise_cons.2 ⟨λy hy e=>hx y hy e.symm,h⟩
  ·refine List.pairwise_cons.2 ⟨λy hy=>?_,qO0 hr λy hy=>hx y (by simp[hy])⟩
   rcases nH.1 hy with rfl|hy
   ·exact hx z (by simp)
   ·exact hz y hy
theorem iP.put {O:Nd->Prop} {L:List Nd} (h:iP O L) (x:Nd):iP (λy=>O y\/y=x) (qF1 L x):=by
 unfold qF1;split
 ·rename_i ha
  obtain⟨z,hz,hb⟩:=List.any_eq_true.1 ha;have hb:=of_decide_eq_true hb;refine⟨⟨λy hy=>Or.inl (h.sub y hy),λy hy=>?_,h.one⟩,h.srt⟩;rcases hy with hy|rfl
  ·exact h.cov y hy
  ·exact⟨z,hz,hb⟩
 ·rename_i ha
  have im:∀y∈L,cG y x->¬bT y x:=λy hy hs hb=>ha (List.any_eq_true.2 ⟨y,hy,decide_eq_true ⟨hs,hb⟩⟩);have hf:∀y,y∈L.filter (λy => !decide (cG y x))↔y∈L/\¬cG y x:=λy=>by rw[List.mem_filter];simp
  refine⟨⟨λy hy=>?_,λy hy=>?_,qO0 (h.one.sublist Bp) λy hy=>((hf y).1 hy).2⟩,qS0 (h.srt.sublist Bp) λy hy=>((hf y).1 hy).2⟩
  ·rcases nH.1 hy with rfl|hy
   ·exact Or.inr rfl
   ·exact Or.inl (h.sub y ((hf y).1 hy).1)
  ·rcases hy with hy|rfl
   ·obtain⟨z,hz,h1,h2⟩:=h.cov y hy
    by_cases hs:cG z x
    ·exact⟨x,nH.2 (Or.inl rfl),hs.symm.trans h1,(cX0 (im z hz hs)).trans h2⟩
    ·exact⟨z,nH.2 (Or.inr ((hf z).2 ⟨hz,hs⟩)),h1,h2⟩
   ·exact⟨y,nH.2 (Or.inl rfl),cG.refl y,bT.refl y⟩
def zE0 (L:List Nd) (l:List Nd):List Nd:=l.foldl qF1 L
theorem iP.putAll {O:Nd->Prop}:∀(l:List Nd) {L:List Nd},iP O L->iP (λy=>O y\/y∈l) (zE0 L l)
 | [],L,h=>h.congr λx=>by simp
 | x::l,L,h=>by
  refine(iP.putAll l (h.put x)).congr λy=>?_;rw[Ax];grind
theorem yA0:iP (λ_=>False) []:=⟨yL0,List.Pairwise.nil⟩
theorem iS0 (l:List Nd):iP (λy=>y∈l) (zE0 [] l):=(yA0.putAll l).congr λx=>by simp
end
section
open Go Go.RowKit
attribute [local go_sem] aQ
theorem bU1 (p:cO) (name:ByteArray) (b:Nat) (w:World) (hc:w.cell? ⟨b,0,none⟩=some (.string name)) (hb:b<w.heap.size) :
  Calls Tryz.prog 237 #[.agg #[.string p.name,.int .i64 p.kind],.pointer (some ⟨b,0,none⟩)] w λe w'=>e=.returned (.bool (seq p.name name))/\aB w w':=by
 have aj:b≠w.heap.size:=by omega
 go_enter Tryz.func237,Tryz.ntmps237
 go_wp2
 go_ret;exact⟨rfl,aB.alloc _ _⟩
def qW1 (o:Option Nat):Int:=match o with|some k=>k|none => -1
theorem gQ0 (l:List cO) (name:ByteArray) (a:Option Addr) (cap b:Nat) (w:World) (hl:l.length<=4611686018427387904) (hs:aG w a 2 (l.map bN)) (hc:w.cell? ⟨b,0,none⟩=some (.string name)) :
  Calls Tryz.prog 236 #[.slice a l.length cap,.func (.func 237) #[] #[.pointer (some ⟨b,0,none⟩)]] w λe w'=>e=.returned (.int .i64 (qW1 (lY l name)))/\aB w w':=by
 have HS:=At hs;have HC:=At hc;clear hs hc;go_enter Tryz.func236,Tryz.ntmps236
 go_wp2
 go_loopw [8] (λi wr=>∃k:Nat,k<=l.length/\i=.int .i64 k/\Hid (∀j q,j<k->l[j]?=some q->seq q.name name=false)/\aB w wr) (λi _=>l.length-(intOf i).toNat)
 case atStart=>exact⟨0,Am _,rfl,λj q hj=>by omega,aB.refl _⟩
 case round =>
  obtain⟨k,hk,rfl,hz,hg⟩:=hrel;by_cases ae:k<l.length
  ·obtain⟨p,hp⟩:∃p,l[k]?=some p:=⟨_,Ak ae⟩
   obtain⟨bl,off,rfl,bv⟩:=(HS.out.grows hg).get (aK ae);have c0:wr.cell? ⟨bl,off+k*2,none⟩=some (.string p.name):=bv k p hp 0 _ rfl;have c1:wr.cell? ⟨bl,off+k*2+1,none⟩=some (.int .i64 p.kind):=bv k p hp 1 _ rfl;clear bv;have HP:=At hp;clear hp;have ij:=bU1 p name b wr (hg.cell HC.out) (World.block_lt_of_cell? wr _ (hg.cell HC.out));have HCON:=At ij;clear ij;cases hq:seq p.name name
   ·rw[hq]at HCON
    have HQ:=At hq;clear hq;go_wp2_with (go_at_call 237;refine HCON.out.mono ?_;rintro e w' ⟨rfl,af⟩)
    go_roundw
    case rel=>exact⟨k+1,by omega,by go_num,λj q hj hq=>by
     rcases Nat.lt_succ_iff_lt_or_eq.1 hj with h|rfl
     ·exact hz.out j q h hq
     ·rw[HP.out]at hq;obtain rfl:=Option.some.inj hq;exact HQ.out,hg.tr af⟩
    case measure=>simp[intOf];omega
   ·rw[hq]at HCON
    have aw:=At (oA0 HP.out hz.out hq);clear hq;go_wp2_with (go_at_call 237;refine HCON.out.mono ?_;rintro e w' ⟨rfl,af⟩)
    go_ret;exact⟨by rw[aw.out];rfl,hg.tr af⟩
  ·obtain rfl:k=l.length:=by omega
   have aw:=At (lS0 hz.out);go_wp2
   go_ret;exact⟨by rw[aw.out];rfl,hg⟩
def mE1 (o:Option Nat):Int:=match o with|some k=>k|none=>0
theorem nN0 (l:List cO) (name:ByteArray) (a:Option Addr) (cap:Nat) (w:World) (hl:l.length<=4611686018427387904) (hs:aG w a 2 (l.map bN)) :
  Calls Tryz.prog 195 #[.slice a l.length cap,.string name] w λe w'=>e=.returned (.tuple #[.int .i64 (mE1 (lY l name)),.bool (lY l name).isSome])/\aB w w':=by
 have ij:=At (gQ0 l name a cap w.heap.size (w.alloc (.cells #[.string name] 9)) hl (hs.grows (aB.alloc _ _)) (aT _ _ _ _ _ _ rfl));clear hs
 cases hq:lY l name with
 | none =>
  rw[hq]at ij;clear hq;go_enter Tryz.func195,Tryz.ntmps195
  go_wp2_with (go_at_call 236;refine ij.out.mono ?_;rintro e w' ⟨rfl,af⟩)
  go_ret2;exact⟨rfl,(aB.alloc _ _).tr af⟩
 | some k =>
  rw[hq]at ij;clear hq;go_enter Tryz.func195,Tryz.ntmps195
  go_wp2_with (go_at_call 236;refine ij.out.mono ?_;rintro e w' ⟨rfl,af⟩)
  go_ret2;exact⟨rfl,(aB.alloc _ _).tr af⟩
end
section
open Go Go.RowKit
def dX (x:Nd):List Value:=[.int .i64 x.f,.int .i64 x.t,.string x.s,.int .i64 x.l,.int .i64 x.r,.int .i64 x.c,.int .i64 x.k]
def Nd.agg (x:Nd):Value := .agg #[.int .i64 x.f,.int .i64 x.t,.string x.s,.int .i64 x.l,.int .i64 x.r,.int .i64 x.c,.int .i64 x.k]
structure hE0 (x:Nd):Prop where
 f:WfI x.f
 t:WfI x.t
 s:x.s.size<=maxLen
 l:WfI x.l
 r:WfI x.r
 c:WfI x.c
 k:WfI x.k
def klN (x:Nd):Lit := .string (keyBytes [.int .i64 x.f,.int .i64 x.t,.string x.s.data.toList,.int .i64 x.l,.int .i64 x.r,.int .i64 x.c,.int .i64 x.k])
theorem fZ:Go.Maps.Keyed Tryz.prog 49:=Go.Maps.Keyed.of_law (deep_law_laid xS (m:=3) (by decide) (of_decide_eq_true (by kernel_rfl)) (by kernel_rfl) (by kernel_rfl))
theorem pK1 {x:Nd} (h:hE0 x):Go.keyOf Tryz.prog 49 x.agg=some (klN x):=by
 obtain⟨m,hm⟩:∃m,Tryz.prog.types.size=m+1:=⟨Tryz.prog.types.size-1,by have:0<Tryz.prog.types.size:=of_decide_eq_true (by kernel_rfl);omega⟩
 have hS:∀(s:ByteArray),s.size<=maxLen->Tryz.prog.keyLits (m+1) 9 [.string s]=some [.string s.data.toList]:=λs hs=>by
  unfold Program.keyLits;simp only[Tryz.underlying9,if_pos hs]
 have hI:∀(n:Int),WfI n->Tryz.prog.keyLits (m+1) 3 [.int .i64 n]=some [.int .i64 n]:=λn hn=>by
  unfold Program.keyLits;unfold WfI at hn;simp only[Tryz.underlying3,hn,and_self,if_true]
 have hk:Tryz.prog.keyType 49=true:=by kernel_rfl
 have hc:Tryz.prog.cellsOf 49=7:=by kernel_rfl
 have ck:Tryz.prog.cellsOf 9=1:=by kernel_rfl
 have uq:Tryz.prog.cellsOf 3=1:=by kernel_rfl
 obtain⟨f,t,s,l,r,c,k⟩:=x;obtain⟨h1,h2,h3,h4,h5,h6,h7⟩:=h;have g1:=hI f h1;have g2:=hI t h2;have g3:=hS s h3;have g4:=hI l h4;have g5:=hI r h5;have g6:=hI c h6;have g7:=hI k h7;unfold Go.keyOf;simp only[Tryz.underlying49,hk,As];unfold Value.formed Nd.agg;simp only[Tryz.underlying49,hc];have hz:((#[Value.int .i64 f,.int .i64 t,.string s,.int .i64 l,.int .i64 r,.int .i64 c,.int .i64 k]:Array Value).size==7)=true:=rfl;rw[if_pos hz,hm];unfold Program.keyLits;simp only[Tryz.underlying49,hc,Value.cells];simp[ck,uq,g1,g2,g3,g4,g5,g6,g7,klN]
theorem nX0 {x y:Nd} (hx:hE0 x) (hy:hE0 y) (h:klN x=klN y):x=y:=by
 have h1:=pK1 hx;have h2:=pK1 hy;rw[h]at h1
 have:=fZ.inj h1 h2
 obtain⟨a,b,c,d,e,f,g⟩:=x;obtain⟨a',b',c',d',e',f',g'⟩:=y;simpa [Nd.agg] using this
theorem pP0 {key:Value} {kl:Lit} (h:Go.keyOf Tryz.prog 49 key=some kl):∃x:Nd,hE0 x/\key=x.agg/\kl=klN x:=by
 obtain⟨m,hm⟩:∃m,Tryz.prog.types.size=m+1:=⟨Tryz.prog.types.size-1,by have:0<Tryz.prog.types.size:=of_decide_eq_true (by kernel_rfl);omega⟩
 have hS:∀(v:Value) (ls:List Lit),Tryz.prog.keyLits (m+1) 9 [v]=some ls->∃s:ByteArray,v=.string s/\s.size<=maxLen/\ls=[.string s.data.toList]:=λv ls h=>by
  unfold Program.keyLits at h;simp only[Tryz.underlying9]at h;cases v<;>simp at h
  rename_i s
  exact⟨s,rfl,h.1,h.2.symm⟩
 have hI:∀(v:Value) (ls:List Lit),Tryz.prog.keyLits (m+1) 3 [v]=some ls->∃n:Int,v=.int .i64 n/\WfI n/\ls=[.int .i64 n]:=λv ls h=>by
  unfold Program.keyLits at h;simp only[Tryz.underlying3]at h;cases v<;>simp at h
  obtain⟨⟨rfl,h2⟩,h3⟩:=h;exact⟨_,rfl,h2,h3.symm⟩
 have hk:Tryz.prog.keyType 49=true:=by kernel_rfl
 have hc:Tryz.prog.cellsOf 49=7:=by kernel_rfl
 have ck:Tryz.prog.cellsOf 9=1:=by kernel_rfl
 have uq:Tryz.prog.cellsOf 3=1:=by kernel_rfl
 unfold Go.keyOf at h;simp only[Tryz.underlying49,hk,As]at h;split at h
 ·rename_i hf
  rw[hm]at h
  obtain⟨cs,rfl,du⟩:∃cs,key=.agg cs/\cs.size=7:=by
   unfold Value.formed at hf;cases key<;>simp[Tryz.underlying49,hc]at hf
   exact⟨_,rfl,hf⟩
  obtain⟨l⟩:=cs
  match l,du with
  | [c0,c1,c2,c3,c4,c5,c6],_ =>
   rw[jH Tryz.underlying49]at h;simp only[Value.cells]at h;simp[ck,uq,hc,Aw,Bk]at h;obtain⟨l0,g0,a1,⟨l1,g1,a2,⟨l2,g2,a3,⟨l3,g3,a4,⟨l4,g4,a5,⟨l5,g5,a6,⟨l6,g6,rfl⟩,rfl⟩,rfl⟩,rfl⟩,rfl⟩,rfl⟩,rfl⟩:=h;obtain⟨n0,rfl,z0,rfl⟩:=hI _ _ g0;obtain⟨n1,rfl,z1,rfl⟩:=hI _ _ g1;obtain⟨s2,rfl,z2,rfl⟩:=hS _ _ g2;obtain⟨n3,rfl,z3,rfl⟩:=hI _ _ g3;obtain⟨n4,rfl,z4,rfl⟩:=hI _ _ g4;obtain⟨n5,rfl,z5,rfl⟩:=hI _ _ g5;obtain⟨n6,rfl,z6,rfl⟩:=hI _ _ g6;exact⟨⟨n0,n1,s2,n3,n4,n5,n6⟩,⟨z0,z1,z2,z3,z4,z5,z6⟩,rfl,by simp[klN]⟩
 ·cases h
def nI (c:Nat):List Value:=[.int .i32 c]
theorem runeLay:dO Tryz.prog 71 21 1 4 nI where
 sl:=Tryz.underlying71
 info:=fG (z:=.int .i32 0) (by kernel_rfl) rfl
 pos:=by decide
 by1:=by decide
 len _:=rfl
 one x u hu:=by
  simp[nI]at hu;subst hu;rfl
end
section
open Go
def oO:List UInt8->List UInt8->Nat
 | a::x,b::y=>if a=b then oO x y+1 else 0
 | _,_=>0
theorem pF0 (b:List UInt8):oO [] b=0:=by cases b<;>rfl
theorem aH1 (a:List UInt8):oO a []=0:=by cases a<;>rfl
theorem nA0:∀(a b:List UInt8),oO a b<=a.length/\oO a b<=b.length
 | [],b=>by grind [oO]
 | a::x,[]=>by grind [oO]
 | a::x,b::y=>by
  have:=nA0 x y
  grind [oO]
theorem yS:∀(a:List UInt8),oO a a=a.length
 | []=>rfl
 | a::x=>by unfold oO;rw[if_pos rfl,yS x];rfl
theorem lW:∀(e:Nat) (a b:List UInt8),e<=oO a b↔e<=a.length/\e<=b.length/\a.take e=b.take e
 | 0,a,b=>by simp
 | e+1,[],b=>by rw[pF0];simp
 | e+1,a::x,[]=>by rw[aH1];simp
 | e+1,a::x,b::y=>by
  unfold oO;by_cases h:a=b
  ·subst h
   rw[if_pos rfl]
   have:=lW e x y
   simp_all
  simp_all
theorem jN0 {e:Nat} {a b:List UInt8} (h:e<=oO a b) (ha:e<a.length) (hb:e<b.length):e+1<=oO a b↔a[e]?=b[e]?:=by
 grind [lW,Ap,List.append_cancel_left]
theorem pT:∀(e:Nat) {a b c:List UInt8},Aa a b=true->Aa b c=true->e<=oO a c->e<=oO a b/\e<=oO b c
 | 0,_,_,_,_,_,_=>by omega
 | e+1,[],_,c,_,_,h=>by grind [oO]
 | e+1,_::_,_,[],_,_,h=>by grind [oO]
 | e+1,_::_,[],_::_,h,_,_=>by simp[Aa]at h
 | e+1,x::a,y::b,z::c,h1,h2,h=>by
  unfold oO at h;split at h
  case isFalse=>omega
  rename_i hxz
  subst hxz;simp only[Aa,Ai,Ad,decide_eq_true_eq,beq_iff_eq]at h1 h2
  have up:x=y:=by
   rcases h1 with h1|h1
   ·grind
   ·exact h1.1
  subst up;have ae:¬x<x:=by simp_all
  have k1:Aa a b=true:=by
   rcases h1 with h1|h1
   ·exact absurd h1 ae
   ·exact h1.2
  have k2:Aa b c=true:=by
   rcases h2 with h2|h2
   ·exact absurd h2 ae
   ·exact h2.2
  have:=pT e k1 k2 (by omega)
  grind [oO]
theorem uX0 {e:Nat} {a b c:List UInt8} (h1:e<=oO a b) (h2:e<=oO b c):e<=oO a c:=by
 rw[lW] at *;simp_all
theorem kB0:∀(a b:List UInt8),oO a b=oO b a
 | [],b=>by grind [oO]
 | a::x,[]=>by grind [oO]
 | a::x,b::y=>by
  unfold oO;by_cases h:a=b
  ·rw[if_pos h,if_pos h.symm,kB0 x y]
  grind
theorem pP:∀ {a b:List UInt8},Aa a b=true->oO a b<b.length
 | [],[],h=>by simp[Aa]at h
 | [],_::_,_=>by rw[pF0];simp
 | _::_,[],h=>by simp[Aa]at h
 | x::a,y::b,h=>by
  simp only[Aa,Ai,Ad,decide_eq_true_eq,beq_iff_eq]at h;unfold oO;split
  ·rename_i up
   subst up;have ae:¬x<x:=by simp_all
   rcases h with h|h
   ·exact absurd h ae
   ·have:=pP h.2
    simp_all
  ·simp
def nth (L:List (List UInt8)) (j:Nat):List UInt8:=L.getD j []
theorem dS0 {L:List (List UInt8)} {j:Nat} {x:List UInt8} (h:L[j]?=some x):nth L j=x:=by
 grind [nth]
theorem kJ {L:List (List UInt8)} {j:Nat} (h:j<L.length):L[j]?=some (nth L j):=by
 grind [nth]
def cAt (L:List (List UInt8)) (j:Nat):Nat:=oO (nth L (j-1)) (nth L j)
def Asc (L:List (List UInt8)):Prop:=∀j,j+1<L.length->Aa (nth L j) (nth L (j+1))=true
theorem Asc.lt {L:List (List UInt8)} (h:Asc L):∀(j i:Nat),i<j->j<L.length->Aa (nth L i) (nth L j)=true
 | 0,i,hi,_=>by omega
 | j+1,i,hi,hj=>by
  rcases Ab i j with h1|h1
  ·exact gF (h.lt j i h1 (by omega)) (h j hj)
  ·rw[show i=j by omega];exact h j hj
theorem Asc.all {L:List (List UInt8)} (h:Asc L) {e i j m:Nat} (hj:j<L.length) (m9:i<m) (na:m<=j) (he:e<=oO (nth L i) (nth L j)):e<=cAt L m:=by
 have h1:e<=oO (nth L (m-1)) (nth L j):=by
  rcases Ab i (m-1) with h1|h1
  ·exact(pT e (h.lt _ _ h1 (by omega)) (h.lt _ _ (by omega) hj) he).2
  ·grind
 unfold cAt;rcases Ab m j with h2|h2
 ·exact(pT e (h.lt _ _ (by omega) (by omega)) (h.lt _ _ h2 hj) h1).1
 grind
theorem uQ {L:List (List UInt8)} {e i:Nat} (hi:e<=(nth L i).length):∀(j:Nat),i<=j->(∀m,i<m->m<=j->e<=cAt L m)->e<=oO (nth L i) (nth L j)
 | 0,hj,_=>by
  grind [yS]
 | j+1,hj,h=>by
  rcases Ab i (j+1) with h1|h1
  ·exact uX0 (uQ hi j (by omega) (by grind)) (h (j+1) h1 (Ac _))
  grind [yS]
def gH1 (p:Nat->Bool) (t:Nat):Nat->Nat->Nat
 | 0,k=>k
 | f+1,k=>if k<t/\p k=true then gH1 p t f (k+1) else k
def sE (p:Nat->Bool) (t k:Nat):Nat:=gH1 p t (t-k) k
theorem tO {p:Nat->Bool} {t k:Nat} (h:k<t) (hp:p k=true):sE p t k=sE p t (k+1):=by
 unfold sE;rw[show t-k=(t-(k+1))+1 by omega,gH1,if_pos ⟨h,hp⟩]
theorem kL {p:Nat->Bool} {t k:Nat} (h:¬(k<t/\p k=true)):sE p t k=k:=by
 unfold sE
 cases hf:t-k with
 | zero=>rfl
 | succ f=>rw[gH1,if_neg h]
theorem tS (p:Nat->Bool) (t:Nat):∀(f k:Nat),t-k=f->k<=t->k<=sE p t k/\sE p t k<=t/\(∀j,k<=j->j<sE p t k->p j=true)/\(sE p t k<t->p (sE p t k)=false)
 | 0,k,hf,hk=>by
  rw[kL (by omega)];grind
 | f+1,k,hf,hk=>by
  by_cases h:k<t/\p k=true
  ·rw[tO h.1 h.2]
   obtain⟨a,b,c,d⟩:=tS p t f (k+1) (by omega) (by omega);grind
  ·rw[kL h]
   grind
structure dM where
 i:Nat
 t:Nat
 d:Nat
def jY (L:List (List UInt8)) (d i k:Nat):Bool:=(nth L k)[d]?==(nth L i)[d]?
def eY (L:List (List UInt8)) (d t i:Nat):Nat:=sE (jY L d i) t (i+1)
def oJ (L:List (List UInt8)) (d t:Nat):Nat->Nat->List dM
 | 0,_=>[]
 | f+1,i=>if i<t then ⟨i,eY L d t i,d+1⟩::oJ L d t f (eY L d t i) else []
theorem aR0 (L:List (List UInt8)) {d t i:Nat} (h:i<t):i<eY L d t i/\eY L d t i<=t:=by
 have:=tS (jY L d i) t _ (i+1) rfl h
 grind [eY]
theorem aK0 (L:List (List UInt8)) (d t:Nat):∀(f g i:Nat),t-i<=f->t-i<=g->oJ L d t f i=oJ L d t g i
 | 0,0,_,_,_=>rfl
 | 0,g+1,i,hf,_=>by grind [oJ]
 | f+1,0,i,_,hg=>by grind [oJ]
 | f+1,g+1,i,hf,hg=>by
  rw[oJ,oJ];split
  ·rename_i h
   have:=aR0 L (d:=d) h
   rw[aK0 L d t f g _ (by omega) (by omega)]
  ·rfl
def gH (L:List (List UInt8)) (d t i:Nat):List dM:=oJ L d t (t-i) i
theorem iV {L:List (List UInt8)} {d t i:Nat} (h:i<t):gH L d t i=⟨i,eY L d t i,d+1⟩::gH L d t (eY L d t i):=by
 have:=aR0 L (d:=d) h
 unfold gH;rw[show t-i=(t-i-1)+1 by omega,oJ,if_pos h,aK0 L d t (t-i-1) (t-eY L d t i) _ (by omega) (by omega)]
theorem jO {L:List (List UInt8)} {d t i:Nat} (h:¬i<t):gH L d t i=[]:=by
 unfold gH;rw[show t-i=0 by omega];rfl
def jG (L:List (List UInt8)) (x:dM):Bool:=decide (x.i<x.t)&&(nth L x.i).length==x.d
def cY (L:List (List UInt8)) (x:dM):Nat:=if jG L x then x.i+1 else x.i
def fP (L:List (List UInt8)) (x:dM):List dM:=gH L x.d x.t (cY L x)
structure uF (L:List (List UInt8)) (x:dM):Prop where
 le:x.i<=x.t/\x.t<=L.length
 ne:x.i<x.t\/x.d=0
 len:∀j,x.i<=j->j<x.t->x.d<=(nth L j).length
 inn:∀j,x.i<j->j<x.t->x.d<=cAt L j
 lo:x.i=0\/cAt L x.i<x.d
 hi:x.t=L.length\/cAt L x.t<x.d
def rootS (L:List (List UInt8)):dM:=⟨0,L.length,0⟩
theorem bR1 (L:List (List UInt8)):uF L (rootS L):=⟨⟨Am _,Ac _⟩,Or.inr rfl,λ_ _ _=>Am _,λ_ _ _=>Am _,Or.inl rfl,Or.inl rfl⟩
theorem uF.long {L:List (List UInt8)} (hL:Asc L) {x:dM} (g:uF L x) {j:Nat} (h1:x.i<j) (h2:j<x.t):x.d<(nth L j).length:=by
 have hc:=g.inn j h1 h2;have hl:=pP (hL.lt j (j-1) (by omega) (by have:=g.le;omega));unfold cAt at hc;omega
theorem uF.start {L:List (List UInt8)} (hL:Asc L) {x:dM} (g:uF L x) {j:Nat} (h1:cY L x<=j) (h2:j<x.t):x.d<(nth L j).length:=by
 unfold cY jG at h1;split at h1
 ·exact g.long hL (by omega) h2
 ·rename_i h
  rcases Ab x.i j with h3|h3
  ·exact g.long hL h3 h2
  ·have hj:j=x.i:=by omega
   have:=g.len j (by omega) h2
   grind
def rD (L:List (List UInt8)) (e:Nat):Nat->List dM->Nat->Prop
 | lo,[],hi=>lo<=hi/\∀j,lo<=j->j<hi->(nth L j).length<e
 | lo,x::xs,hi=>lo<=x.i/\(∀j,lo<=j->j<x.i->(nth L j).length<e)/\uF L x/\x.d=e/\rD L e x.t xs hi
theorem rD.le {L:List (List UInt8)} {e:Nat}:∀ {xs:List dM} {lo hi:Nat},rD L e lo xs hi->lo<=hi
 | [],_,_,h=>h.1
 | _::_,_,_,h=>by have:=rD.le h.2.2.2.2;have:=h.2.2.1.le;have:=h.1;omega
theorem rD.before {L:List (List UInt8)} {e:Nat}:∀ {xs:List dM} {lo lo' hi:Nat},lo'<=lo->(∀j,lo'<=j->j<lo->(nth L j).length<e)->rD L e lo xs hi->rD L e lo' xs hi
 | [],lo,lo',hi,h1,h2,h=>⟨Bh h1 h.1,λj a b=>by
  rcases Ab j lo with h3|h3
  ·exact h2 j a h3
  ·exact h.2 j h3 b⟩
 | _::_,lo,lo',hi,h1,h2,h=>⟨Bh h1 h.1,λj a b=>by
  rcases Ab j lo with h3|h3
  ·exact h2 j a h3
  ·exact h.2.1 j h3 b,h.2.2⟩
theorem rD.append {L:List (List UInt8)} {e:Nat}:∀ {xs ys:List dM} {lo ak hi:Nat},rD L e lo xs ak->rD L e ak ys hi->rD L e lo (xs++ys) hi
 | [],_,_,_,_,h1,h2=>rD.before h1.1 h1.2 h2
 | _::_,_,_,_,_,h1,h2=>⟨h1.1,h1.2.1,h1.2.2.1,h1.2.2.2.1,rD.append h1.2.2.2.2 h2⟩
theorem wP {L:List (List UInt8)} (hL:Asc L) {x:dM} (g:uF L x):∀(f i:Nat),x.t-i<=f->cY L x<=i->i<=x.t->(i<x.t->i=0\/cAt L i<x.d+1)->rD L (x.d+1) i (gH L x.d x.t i) x.t
 | 0,i,hf,h1,h2,_=>by
  rw[jO (by omega)];exact⟨h2,λj a b=>by omega⟩
 | f+1,i,hf,h1,h2,h3=>by
  by_cases ae:i<x.t
  case neg =>
   rw[jO ae];exact⟨h2,λj a b=>by omega⟩
  rw[iV ae];obtain⟨e1,e2,e3,e4⟩:=tS (jY L x.d i) x.t _ (i+1) rfl ae;have hn:=g.le;have hsx:x.i<=i:=by unfold cY at h1;split at h1<;>omega
  have i7:∀j,i<j->j<eY L x.d x.t i->x.d+1<=cAt L j:=by
   intro j
   induction j with
   | zero=>intro a;omega
   | succ j ih =>
    intro a b;have hj:j+1<x.t:=by unfold eY at b;omega
    have s1:=e3 (j+1) a b
    have s2:jY L x.d i j=true:=by
     rcases Ab i j with h|h
     ·exact e3 j h (by unfold eY at b;omega)
     ·rw[show j=i by omega];simp[jY]
    unfold jY at s1 s2;simp only[beq_iff_eq]at s1 s2;have hc:=g.inn (j+1) (by omega) hj;unfold cAt at hc ⊢;rw[Nat.add_sub_cancel]at hc ⊢;exact(jN0 hc (g.start hL (by omega) (by omega)) (g.start hL (by omega) hj)).2 (s2.trans s1.symm)
  have jg:eY L x.d x.t i<x.t->cAt L (eY L x.d x.t i)<x.d+1:=by
   intro hk;have s1:=e4 hk;generalize hK:eY L x.d x.t i=K at *;have nc:sE (jY L x.d i) x.t (i+1)=K:=hK;rw[nc]at e1 e2 e3 e4 s1;apply Ar
   intro nr;have hc:x.d+1<=cAt L K:=by omega
   have h0:x.d+1<=oO (nth L i) (nth L K):=uQ (g.start hL h1 ae) K (by omega) (by grind);have h4:=(jN0 (Nat.le_of_succ_le h0) (g.start hL h1 ae) (g.start hL (by omega) hk)).1 h0;unfold jY at s1;rw[h4]at s1;simp at s1
  have hgt:=aR0 L (d:=x.d) ae;refine⟨Ac _,by grind,⟨by grind,Or.inl hgt.1,λj a b=>?_,i7,h3 ae,?_⟩,rfl,?_⟩
  ·have b':j<eY L x.d x.t i:=b
   exact g.start hL (Bh h1 a) (by omega)
  ·show eY L x.d x.t i=L.length\/cAt L (eY L x.d x.t i)<x.d+1
   rcases Ab (eY L x.d x.t i) x.t with h|h
   ·exact Or.inr (jg h)
   ·rw[show eY L x.d x.t i=x.t by omega]
    rcases g.hi with h2|h2
    ·exact Or.inl h2
    omega
  ·have agr:=hgt.2
   have aiz:=hgt.1;exact wP hL g f (eY L x.d x.t i) (by omega) (by omega) agr (by omega)
theorem aJ0 {L:List (List UInt8)} (hL:Asc L) {x:dM} (g:uF L x):rD L (x.d+1) x.i (fP L x) x.t:=by
 have hs:x.i<=cY L x/\cY L x<=x.t:=by
  unfold cY jG
  have:=g.le
  split
  ·grind
  ·omega
 refine rD.before hs.1 (λj a b=>?_) (wP hL g _ _ (Ac _) (Ac _) hs.2 (λh=>?_))
 ·unfold cY at b
  split at b
  ·rename_i h
   unfold jG at h;grind
  ·omega
 ·unfold cY at h ⊢
  split
  ·rename_i hh
   rw[if_pos hh]at h;unfold jG at hh;simp only[Ad,beq_iff_eq]at hh;refine Or.inr ?_
   have:=(nA0 (nth L (x.i+1-1)) (nth L (x.i+1))).1
   unfold cAt;grind
  ·rcases g.lo with h2|h2
   ·exact Or.inl h2
   omega
theorem iA0 {L:List (List UInt8)} (hL:Asc L) {e:Nat}:∀ {xs:List dM} {lo hi:Nat},rD L e lo xs hi->rD L (e+1) lo (xs.flatMap (fP L)) hi
 | [],_,_,h=>by grind [rD]
 | x::xs,lo,hi,h=>by
  obtain⟨h1,h2,h3,h4,h5⟩:=h
  have:=aJ0 hL h3
  rw[h4]at this;rw[Ah];exact(this.before h1 (by grind)).append (iA0 hL h5)
def lv (L:List (List UInt8)):Nat->List dM
 | 0=>[rootS L]
 | d+1=>(lv L d).flatMap (fP L)
theorem lG {L:List (List UInt8)} (hL:Asc L):∀d,rD L d 0 (lv L d) L.length
 | 0=>⟨Ac _,λ_ a b=>absurd b (Nat.not_lt.2 a),bR1 L,rfl,Ac _,λ_ a b=>absurd b (Nat.not_lt.2 a)⟩
 | d+1=>iA0 hL (lG hL d)
theorem rD.mem {L:List (List UInt8)} {e:Nat}:∀ {xs:List dM} {lo hi:Nat},rD L e lo xs hi->∀x∈xs,uF L x/\x.d=e/\lo<=x.i/\x.t<=hi
 | [],_,_,_,x,hx=>by simp at hx
 | y::xs,lo,hi,h,x,hx=>by
  obtain⟨h1,h2,h3,h4,h5⟩:=h;rcases List.mem_cons.1 hx with rfl|hx
  ·exact⟨h3,h4,h1,rD.le h5⟩
  ·obtain⟨a,b,c,d⟩:=rD.mem h5 x hx
   exact⟨a,b,by have:=h3.le;omega,d⟩
def dU (L:List (List UInt8)) (e j:Nat):Bool:=decide (e<=(nth L j).length)&&(j==0||decide (cAt L j<e))
theorem rD.firsts {L:List (List UInt8)} {e:Nat} (he:0<e):∀ {xs:List dM} {lo hi:Nat},rD L e lo xs hi->xs.map (λx=>x.i)=(Ae lo (hi-lo)).filter (dU L e)
 | [],lo,hi,h=>by
  symm
  rw[List.map_nil,An];intro j hj;rw[Aq]at hj
  have:=h.2 j hj.1 (by omega)
  grind [dU]
 | x::xs,lo,hi,h=>by
  obtain⟨h1,h2,h3,h4,h5⟩:=h;have h6:=rD.le h5;have h7:=h3.le;have h8:x.i<x.t:=by rcases h3.ne with h|h<;>omega
  rw[List.map_cons,rD.firsts he h5,show hi-lo=(x.i-lo)+((1+(x.t-x.i-1))+(hi-x.t)) by omega,<-Aj,<-Aj,<-Aj,Ag,Ag,Ag]
  have e1:(Ae lo (x.i-lo)).filter (dU L e)=[]:=by
   rw[An];intro j hj;rw[Aq]at hj
   have:=h2 j hj.1 (by omega)
   simp only[dU,Ad,decide_eq_true_eq];omega
  have e2:(Ae (lo+(x.i-lo)) 1).filter (dU L e)=[x.i]:=by
   rw[show lo+(x.i-lo)=x.i by omega]
   have:dU L e x.i=true:=by
    unfold dU;have a1:=h3.len x.i (Ac _) h8;rw[h4]at a1;simp only[Ad,decide_eq_true_eq,Ai,beq_iff_eq];refine⟨a1,?_⟩;rcases h3.lo with a2|a2
    ·exact Or.inl a2
    ·omega
   simp[Ae,this]
  have e3:(Ae (lo+(x.i-lo)+1) (x.t-x.i-1)).filter (dU L e)=[]:=by
   rw[An];intro j hj;rw[Aq]at hj
   have:=h3.inn j (by omega) (by omega)
   have o6:¬j=0:=by omega
   have hc:¬cAt L j<e:=by omega
   simp[dU,o6,hc]
  grind
end
section
open Go
def spanS (L:List (List UInt8)) (x:dM):List UInt8:=(nth L x.i).take x.d
def nodesA (L:List (List UInt8)):List dM:=(Af 257).flatMap (lv L)
theorem uF.slen {L:List (List UInt8)} {x:dM} (g:uF L x):(spanS L x).length=x.d:=by
 unfold spanS;rw[Bv];rcases g.ne with h|h
 ·have:=g.len x.i (Ac _) h;omega
 ·omega
theorem uF.same {L:List (List UInt8)} {x y:dM} (gx:uF L x) (gy:uF L y) (hi:x.i=y.i) (hd:x.d=y.d):x=y:=by
 have key:∀ {x y:dM},uF L x->uF L y->x.i=y.i->x.d=y.d->¬x.t<y.t:=by
  intro x y gx gy hi hd h;have h1:=gx.hi;have h2:=gy.le;rcases h1 with h1|h1
  ·omega
  ·rcases gx.ne with h3|h3
   ·have:=gy.inn x.t (by omega) h;omega
   ·omega
 have k1:=key gx gy hi hd;have k2:=key gy gx hi.symm hd.symm;obtain⟨xi,xt,xd⟩:=x;obtain⟨yi,yt,yd⟩:=y;simp only at hi hd k1 k2;subst hi;subst hd;rw[show xt=yt by omega]
theorem uF.inj {L:List (List UInt8)} (hL:Asc L) {x y:dM} (gx:uF L x) (gy:uF L y) (h:spanS L x=spanS L y):x=y:=by
 have hd:x.d=y.d:=by rw[<-gx.slen,<-gy.slen,h]
 refine gx.same gy ?_ hd
 have key:∀ {x y:dM},uF L x->uF L y->x.d=y.d->spanS L x=spanS L y->¬x.i<y.i:=by
  intro x y gx gy hd h ae;rcases gy.ne with h3|h3
  ·have a1:x.d<=(nth L x.i).length:=by
    have:=gx.slen;unfold spanS at this;rw[Bv]at this;omega
   have a2:=gy.len y.i (Ac _) h3;unfold spanS at h
   have:=hL.all (i:=x.i) (j:=y.i) (m:=y.i) (by have:=gy.le;omega) ae (Ac _) ((lW x.d _ _).2 (by simp_all))
   rcases gy.lo with h4|h4<;>omega
  ·rcases gy.lo with h4|h4<;>omega
 grind
theorem mI {L:List (List UInt8)} (hL:Asc L) {x:dM} (h:x∈nodesA L):uF L x:=by
 unfold nodesA at h;obtain⟨d,_,h⟩:=List.mem_flatMap.1 h;exact((lG hL d).mem x h).1
def pO0 (x y:dM):Prop:=x.d<y.d\/(x.d=y.d/\x.i<y.i)
theorem rD.pairwise {L:List (List UInt8)} {e:Nat} (he:0<e):∀ {xs:List dM} {lo hi:Nat},rD L e lo xs hi->xs.Pairwise pO0
 | [],_,_,_=>List.Pairwise.nil
 | x::xs,lo,hi,h=>by
  obtain⟨_,_,h3,h4,h5⟩:=h;refine List.pairwise_cons.2 ⟨λy hy=>?_,rD.pairwise he h5⟩;obtain⟨_,k2,k3,_⟩:=h5.mem y hy;refine Or.inr ⟨by omega,?_⟩;rcases h3.ne with h|h<;>omega
theorem jL {L:List (List UInt8)} (hL:Asc L):(nodesA L).Pairwise pO0:=by
 unfold nodesA;rw[List.pairwise_flatMap];refine⟨λd _=>?_,?_⟩
 ·cases d with
  | zero=>simp[lv]
  | succ d=>exact(lG hL (d+1)).pairwise (Bb _)
 ·refine List.pairwise_lt_range.imp ?_
  intro a b ic x hx y hy;have h1:=((lG hL a).mem x hx).2.1;have h2:=((lG hL b).mem y hy).2.1;exact Or.inl (by omega)
theorem oU1 {L:List (List UInt8)} (hL:Asc L) {d:Nat} (hd0:0<d) (h:∀s∈L,s.length<d):lv L d=[]:=by
 apply List.eq_nil_iff_forall_not_mem.2
 intro x hx;obtain⟨g,hd,_,_⟩:=(lG hL d).mem x hx;rcases g.ne with h1|h1
 ·have h2:=g.len x.i (Ac _) h1
  have h3:=h (nth L x.i) (Bn (kJ (by have:=g.le;omega)));omega
 ·omega
theorem sL0 {L:List (List UInt8)} (hL:Asc L) {n:Nat} (h:∀s∈L,s.length<n+1):(Af (n+1)).flatMap (lv L)=rootS L::((Af (n+1)).flatMap (lv L)).flatMap (fP L):=by
 have e2:((Af (n+1)).flatMap (lv L)).flatMap (fP L)=(Af (n+1)).flatMap (λd=>lv L (d+1)):=by
  rw[List.flatMap_assoc];rfl
 rw[e2,Au,Al (f:=λd=>lv L (d+1))];simp only[Ah,Bw,Az];rw[oU1 hL (Bb n) h,Az,<-Au,Bi,Ah,Bf];rfl
theorem yO0 {L:List (List UInt8)} (hL:Asc L) (h:∀s∈L,s.length<=256):nodesA L=rootS L::(nodesA L).flatMap (fP L) :=
 (by grind [sL0,nodesA])
section bfs
variable {α:Type} {r:α} {kd:α->List α} {A:List α}
def eI (r:α) (kd:α->List α) (A:List α) (i:Nat):List α:=r::(A.take i).flatMap kd
theorem rN (hA:A=r::A.flatMap kd) (i:Nat):A=eI r kd A i++(A.drop i).flatMap kd:=by
 unfold eI;rw[By,<-Al,List.take_append_drop];exact hA
theorem pY {i:Nat} {x:α} (h:A[i]?=some x):eI r kd A (i+1)=eI r kd A i++kd x:=by
 unfold eI;rw[Ap,h,Al];simp
theorem eF1 (hA:A=r::A.flatMap kd) (i:Nat):(eI r kd A i).length<=A.length:=by
 have:=congrArg List.length (rN hA i)
 grind
theorem iN0 (hA:A=r::A.flatMap kd) {i k:Nat} (h:k<(eI r kd A i).length):(eI r kd A i)[k]?=A[k]?:=by
 have h1:A[k]?=(eI r kd A i++(A.drop i).flatMap kd)[k]?:=congrArg (λl=>l[k]?) (rN hA i);grind
theorem sP0 {i j:Nat} (h:i<=j):(eI r kd A i).length<=(eI r kd A j).length:=by
 unfold eI;obtain⟨d,rfl⟩:∃d,j=i+d:=⟨j-i,by omega⟩;grind
theorem cJ1 (hA:A=r::A.flatMap kd) (dep:α->Nat) (hd:∀x, ∀y∈kd x,dep y=dep x+1) (hp:A.Pairwise λx y=>dep x<=dep y) {i:Nat} (hi:i<A.length):i<(eI r kd A i).length:=by
 apply Ar
 intro nr;have h1:=rN hA i
 have h2:A[i]∈(A.drop i).flatMap kd:=by
  have h3:A[i]?=(eI r kd A i++(A.drop i).flatMap kd)[i]?:=by grind
  rw[Bc (by omega),Ak hi]at h3;exact by grind
 obtain⟨x,hx,hk⟩:=List.mem_flatMap.1 h2;have h4:=hd x _ hk;obtain⟨j,hj⟩:=List.mem_iff_getElem?.1 hx;rw[List.getElem?_drop]at hj;obtain⟨hj1,lf⟩:=List.getElem?_eq_some_iff.1 hj;rcases Av j with h5|h5
 ·subst h5
  grind
 grind [Be]
theorem hP0 (hA:A=r::A.flatMap kd):eI r kd A A.length=A:=by
 grind [eI]
theorem wO (hA:A=r::A.flatMap kd):∀(i k:Nat),1<=k->k<(eI r kd A i).length->∃p,p<i/\(eI r kd A p).length<=k/\k<(eI r kd A (p+1)).length
 | 0,k,h1,h2=>by grind [eI]
 | i+1,k,h1,h2=>by
  rcases Ab k (eI r kd A i).length with h|h
  ·obtain⟨p,a,b,c⟩:=wO hA i k h1 h
   grind
  grind
theorem kU0 (hA:A=r::A.flatMap kd) {p k:Nat} {x:α} (hx:A[p]?=some x) (h1:(eI r kd A p).length<=k) (h2:k<(eI r kd A (p+1)).length):A[k]?=(kd x)[k-(eI r kd A p).length]?:=by
 rw[<-iN0 hA h2,pY hx,Bc h1]
end bfs
theorem tN0 {L:List (List UInt8)} (hL:Asc L):(nodesA L).Pairwise λx y=>x.d<=y.d:=(jL hL).imp λh=>by rcases h with h|h<;>omega
theorem pQ0 (L:List (List UInt8)) (d t:Nat):∀(f i:Nat), ∀y∈oJ L d t f i,y.d=d+1
 | 0,_,y,h=>by simp[oJ]at h
 | f+1,i,y,h=>by
  rw[oJ]at h;split at h
  ·rcases List.mem_cons.1 h with rfl|h
   ·rfl
   ·exact pQ0 L d t f _ y h
  ·simp at h
theorem lF0 (L:List (List UInt8)) (x:dM):∀y∈fP L x,y.d=x.d+1:=pQ0 L x.d x.t _ _
theorem uV {L:List (List UInt8)} (hL:Asc L) {x y:dM} (g:uF L x) (h:y∈fP L x):spanS L y=spanS L x++[(nth L y.i).getD x.d 0]:=by
 obtain⟨gy,hd,h1,h2⟩:=(aJ0 hL g).mem y h;have h3:y.i<y.t:=by rcases gy.ne with h|h<;>omega
 have h4:=gy.len y.i (Ac _) h3
 have h5:(nth L y.i).take x.d=(nth L x.i).take x.d:=by
  rcases Ab x.i y.i with h6|h6
  ·have:=uQ (L:=L) (e:=x.d) (i:=x.i) (g.len x.i (Ac _) (by omega)) y.i (by omega) (λm a b=>g.inn m a (by omega))
   exact((lW _ _ _).1 this).2.2.symm
  ·grind
 unfold spanS;rw[hd,Ap,h5,Ak (by omega),List.getD_eq_getElem?_getD,Ak (by omega)];rfl
def shapeL (L:List (List UInt8)) (A:List dM):List Bool:=[true,false]++A.flatMap λx=>Ca (fP L x).length true++[false]
def pO (L:List (List UInt8)) (x y:dM):UInt8:=(nth L y.i).getD x.d 0
def labelsL (L:List (List UInt8)) (A:List dM):List UInt8:=A.flatMap λx=>(fP L x).map (pO L x)
def isL (L:List (List UInt8)) (A:List dM):List Bool:=A.map (jG L)
def idsL (L:List (List UInt8)) (A:List dM):List Nat:=(A.filter (jG L)).map λx=>x.i
theorem yO {L:List (List UInt8)} (hL:Asc L):∀(A:List dM),(∀x∈A,uF L x)->labelsL L A=(A.flatMap (fP L)).map λy=>(spanS L y).getLastD 0
 | [],_=>rfl
 | x::A,h=>by
  have:=yO hL A (by simp_all)
  unfold labelsL at *;rw[Ah,Ah,Ba,this];congr 1
  apply Bq
  intro y hy;rw[uV hL (h x (by simp)) hy];simp[pO]
theorem pW {L:List (List UInt8)} (hL:Asc L) {x:dM} (g:uF L x) (aj:∀s∈L,s≠[]) (j:Nat):(L[j]?=some (spanS L x))↔jG L x=true/\j=x.i:=by
 unfold jG;simp only[Ad,decide_eq_true_eq,beq_iff_eq];constructor
 ·intro h
  have hj:=(List.getElem?_eq_some_iff.1 h).1;have hs:=dS0 h
  have hd:x.d≠0:=λh0=>by
   have:=g.slen
   rw[h0]at this;exact aj _ (Bn h) (List.length_eq_zero_iff.1 this)
  have hit:x.i<x.t:=by rcases g.ne with h|h<;>omega
  have hlj:(nth L j).length=x.d:=by rw[hs,g.slen]
  have hcj:x.d<=oO (nth L x.i) (nth L j):=(lW _ _ _).2 ⟨g.len _ (Ac _) hit,by omega,by rw[hs];unfold spanS;rw[List.take_take,Nat.min_self]⟩
  have e1:¬j<x.i:=λae=>by
   have h1:=pP (hL.lt _ _ ae (by have:=g.le;omega));rw[kB0]at hcj
   have:=hL.all (m:=x.i) (by have:=g.le;omega) ae (Ac _) hcj
   rcases g.lo with h4|h4<;>omega
  have e2:¬x.i<j:=λae=>by
   have:=pP (hL.lt _ _ ae hj);omega
  have e3:j=x.i:=by omega
  subst e3;exact⟨⟨hit,hlj⟩,rfl⟩
 ·rintro⟨⟨h1,h2⟩,rfl⟩
  rw[kJ (by have:=g.le;omega)];unfold spanS;rw[List.take_of_length_le (by omega)]
end
section
open Go
def mB (n:Nat) (out:List (List UInt8)) (s:List UInt8):List (List UInt8) :=
 if n<=s.length/\(out=[]\/out.getLastD []≠s.take n) then out++[s.take n] else out
def jL1 (L:List (List UInt8)) (n:Nat):List (List UInt8):=L.foldl (mB n) []
def lC (L:List (List UInt8)) (n m:Nat):List (List UInt8):=((Ae 0 m).filter (dU L n)).map λj=>(nth L j).take n
theorem iK0 (L:List (List UInt8)) (n m:Nat):lC L n (m+1)=if dU L n m then lC L n m++[(nth L m).take n] else lC L n m:=by
 unfold lC;rw[Br,Ag,Ba];grind
theorem zP0 (L:List (List UInt8)) (m:Nat):cAt L m<=(nth L (m-1)).length/\cAt L m<=(nth L m).length:=nA0 _ _
theorem iZ0 {L:List (List UInt8)} (hL:Asc L) {n:Nat} (hn:0<n):∀m,m<=L.length->(L.take m).foldl (mB n) []=lC L n m /\
  (((∀j,j<m->(nth L j).length<n)/\lC L n m=[])\/∃j,j<m/\n<=(nth L j).length/\(∀k,j<k->k<m->(nth L k).length<n)/\lC L n m≠[]/\(lC L n m).getLastD []=(nth L j).take n)
 | 0,_=>by grind [lC]
 | m+1,hm=>by
  obtain⟨h1,h2⟩:=iZ0 hL hn m (by omega);rw[Ap,kJ (by omega),List.foldl_append,h1];simp only[Option.toList_some,List.foldl_cons,List.foldl_nil];rw[iK0];by_cases hs:n<=(nth L m).length
  ·rcases h2 with ⟨h2,h3⟩|⟨j,h2,h3,h4,h5,h6⟩
   ·have hf:dU L n m=true:=by
     unfold dU;simp only[Ad,decide_eq_true_eq,Ai,beq_iff_eq];refine⟨hs,?_⟩;rcases Av m with h|h
     ·exact Or.inl h
     ·grind [zP0]
    grind [mB]
   ·by_cases hq:(nth L j).take n=(nth L m).take n
    ·have hc:=(lW n _ _).2 ⟨h3,hs,hq⟩
     have hc2:=hL.all (m:=m) (by omega) h2 (Ac _) hc;grind [mB,dU]
    ·have hf:dU L n m=true:=by
      unfold dU;simp only[Ad,decide_eq_true_eq,Ai,beq_iff_eq];refine⟨hs,Or.inr ?_⟩;apply Ar
      intro nr;have h7:=(zP0 L m).1
      have h8:j=m-1:=by
       rcases Ab j (m-1) with h|h
       ·grind
       ·omega
      have h9:n<=cAt L m:=by omega
      unfold cAt at h9;rw[<-h8]at h9;exact by grind [lW]
     grind [mB]
  grind [mB,dU]
theorem oV0 {L:List (List UInt8)} (hL:Asc L) {n:Nat} (hn:0<n):jL1 L n=lC L n L.length:=by
 have:=(iZ0 hL hn L.length (Ac _)).1
 grind [jL1]
def jB1 (L:List (List UInt8)):List (List UInt8):=[]::(Ae 1 256).flatMap (jL1 L)
theorem kG1 {L:List (List UInt8)} (hL:Asc L) (d:Nat):(lv L (d+1)).map (spanS L)=jL1 L (d+1):=by
 have ht:=lG hL (d+1);rw[oV0 hL (Bb d)];unfold lC;have hf:=ht.firsts (Bb d);rw[Nat.sub_zero]at hf;rw[<-hf,List.map_map];apply Bq
 intro x hx;show (nth L x.i).take x.d=(nth L x.i).take (d+1)
 rw[(ht.mem x hx).2.1]
theorem sF0 {L:List (List UInt8)} (hL:Asc L):(nodesA L).map (spanS L)=jB1 L:=by
 have key:∀n,((Af (n+1)).flatMap (lv L)).map (spanS L)=[]::(Ae 1 n).flatMap (jL1 L):=by
  intro n;rw[Bi,Ah,Ba,Bf,List.map_flatMap,List.range'_eq_map_range,Bf]
  have:(lv L 0).map (spanS L)=[[]]:=by simp[lv,spanS,rootS]
  rw[this];simp only[By,List.nil_append,List.cons.injEq,true_and];congr 1
  funext d
  rw[kG1 hL d,Nat.add_comm]
 exact key 256
def mA1 (L:List (List UInt8)) (j:Nat):Nat:=(nth L j).length-(if j=0 then 0 else cAt L j)
def vB (L:List (List UInt8)):Nat->Nat
 | 0=>1
 | m+1=>vB L m+mA1 L m
def gB (L:List (List UInt8)):Nat:=vB L L.length
def mD (L:List (List UInt8)) (n m:Nat):Nat:=((Ae 0 m).filter (dU L n)).length
theorem jX0 (L:List (List UInt8)) (n m:Nat):mD L n (m+1)=mD L n m+(if dU L n m then 1 else 0):=by
 unfold mD;rw[Br,Ag,Bd];grind
def oQ (f:Nat->Nat):Nat->Nat
 | 0=>0
 | k+1=>oQ f k+f (k+1)
theorem hQ0 (f g:Nat->Nat):∀k,oQ (λn=>f n+g n) k=oQ f k+oQ g k
 | 0=>rfl
 | k+1=>by simp only[oQ];rw[hQ0 f g k];omega
theorem zA (L:List (List UInt8)) (j:Nat):∀k,oQ (λn=>if dU L n j then 1 else 0) k=min k (nth L j).length-(if j=0 then 0 else min k (cAt L j))
 | 0=>by simp[oQ]
 | k+1=>by
  have hc:=(zP0 L j).2;simp only[oQ];rw[zA L j k];grind [dU]
theorem dJ0:∀k,oQ (λ_=>0) k=0
 | 0=>rfl
 | k+1=>by simp only[oQ];rw[dJ0 k]
theorem tD (L:List (List UInt8)) (h:∀s∈L,s.length<=256):∀m,m<=L.length->1+oQ (λn=>mD L n m) 256=vB L m
 | 0,_=>by
  have:oQ (λn=>mD L n 0) 256=oQ (λ_=>0) 256:=by grind [mD]
  rw[this,dJ0];rfl
 | m+1,hm=>by
  have ih:=tD L h m (by omega);have e:oQ (λn=>mD L n (m+1)) 256=oQ (λn=>mD L n m+(if dU L n m then 1 else 0)) 256:=by grind [jX0]
  rw[e,hQ0,zA,vB,<-ih];grind [nth,mA1]
theorem fB {L:List (List UInt8)} (hL:Asc L) (h:∀s∈L,s.length<=256):(nodesA L).length=gB L:=by
 have key:∀n,((Af (n+1)).flatMap (lv L)).length=1+oQ (λd=>mD L d L.length) n:=by
  intro n
  induction n with
  | zero=>rfl
  | succ n ih =>
   rw[Au,Al,Bd,ih];simp only[Ah,Bw,Az,oQ];have hf:=(lG hL (n+1)).firsts (Bb n);grind [mD]
 unfold gB;rw[<-tD L h L.length (Ac _)];exact key 256
def ltK (k:Nat->Nat) (x y:Nat):Prop:=k x<k y\/(k x=k y/\x<y)
theorem yV {k:Nat->Nat} {x y z:Nat} (h1:ltK k x y) (h2:ltK k y z):ltK k x z:=by unfold ltK at *; omega
theorem qD {k:Nat->Nat} {x:Nat}:¬ltK k x x:=by unfold ltK; omega
theorem mC {k:Nat->Nat} {x y:Nat} (h:x<y):ltK k y x↔k y<k x:=by unfold ltK; omega
theorem yE {k:Nat->Nat} {x y:Nat} (h:x<y):ltK k x y↔¬k y<k x:=by unfold ltK; omega
def fO (D:Nat->Nat) (a m b i:Nat):Nat:=if i<a then D i else if i<a+(b-m) then D (i+(m-a)) else if i<b then D (i-(b-m)) else D i
def lY0 (D:Nat->Nat) (a b n i:Nat):Nat:=if a<=i/\i<a+n then D (i-a+b) else if b<=i/\i<b+n then D (i-b+a) else D i
structure eF (D D':Nat->Nat) (a b:Nat):Prop where
 out:∀i,(i<a\/b<=i)->D' i=D i
 fro:∀i,a<=i->i<b->∃j,a<=j/\j<b/\D' i=D j
 to:∀j,a<=j->j<b->∃i,a<=i/\i<b/\D' i=D j
theorem eF.refl (D:Nat->Nat) (a b:Nat):eF D D a b:=⟨λ_ _=>rfl,λi h1 h2=>⟨i,h1,h2,rfl⟩,λi h1 h2=>⟨i,h1,h2,rfl⟩⟩
theorem eF.trans {D D' D'':Nat->Nat} {a b:Nat} (h:eF D D' a b) (h':eF D' D'' a b):eF D D'' a b where
 out i hi:=(h'.out i hi).trans (h.out i hi)
 fro i h1 h2:=by
  obtain⟨j,j1,j2,e⟩:=h'.fro i h1 h2;obtain⟨j',j1',j2',e'⟩:=h.fro j j1 j2;grind
 to j h1 h2:=by
  obtain⟨i,i1,i2,e⟩:=h.to j h1 h2;obtain⟨i',i1',i2',e'⟩:=h'.to i i1 i2;grind
theorem eF.wide {D D':Nat->Nat} {a b a' b':Nat} (h:eF D D' a b) (ha:a'<=a) (hb:b<=b'):eF D D' a' b' where
 out i hi:=h.out i (by omega)
 fro i h1 h2:=by
  by_cases hi:a<=i/\i<b
  ·obtain⟨j,j1,j2,e⟩:=h.fro i hi.1 hi.2
   grind
  ·exact⟨i,h1,h2,h.out i (by omega)⟩
 to i h1 h2:=by
  by_cases hi:a<=i/\i<b
  ·obtain⟨j,j1,j2,e⟩:=h.to i hi.1 hi.2
   grind
  ·exact⟨i,h1,h2,h.out i (by omega)⟩
theorem xX0 {D:Nat->Nat} {a m b i:Nat} (h:i<a):fO D a m b i=D i:=by grind [fO]
theorem oO1 {D:Nat->Nat} {a m b i:Nat} (h1:a<=i) (h2:i<a+(b-m)):fO D a m b i=D (i+(m-a)):=by
 grind [fO]
theorem nX1 {D:Nat->Nat} {a m b i:Nat} (h1:a+(b-m)<=i) (h2:i<b):fO D a m b i=D (i-(b-m)):=by
 grind [fO]
theorem lB1 {D:Nat->Nat} {a m b i:Nat} (ha:a<=m) (hm:m<=b) (h:b<=i):fO D a m b i=D i:=by
 grind [fO]
theorem cX {D:Nat->Nat} {a m b:Nat} (ha:a<=m) (hm:m<=b):eF D (fO D a m b) a b where
 out i hi:=by
  grind [fO]
 fro i h1 h2:=by
  grind [Ab,fO]
 to j h1 h2:=by
  rcases Ab j m with h|h
  ·exact⟨j+(b-m),by omega,by omega,by grind [fO]⟩
  ·exact⟨j-(m-a),by omega,by omega,by grind [fO]⟩
theorem aP0 {D:Nat->Nat} {a b:Nat} (h:a<=b):fO D a a b=D:=by
 grind [fO]
theorem cH0 {D:Nat->Nat} {a b:Nat}:fO D a b b=D:=by
 grind [fO]
theorem yT0 (D:Nat->Nat) (a b:Nat):lY0 D a b 0=D:=by
 grind [lY0]
def vX0 (D:Nat->Nat) (j v i:Nat):Nat:=if i=j then v else D i
theorem aM1 {D:Nat->Nat} {a b n:Nat} (h:a+n<b):vX0 (vX0 (lY0 D a b n) (a+n) (lY0 D a b n (b+n))) (b+n) (lY0 D a b n (a+n))=lY0 D a b (n+1):=by
 grind [vX0,lY0]
theorem mO1 {D:Nat->Nat} {m i j:Nat} (hi:i<=m) (h:j<i):fO (lY0 D (m-i) m j) (m-(i-j)) m (m+j)=fO D (m-i) m (m+j):=by
 grind [fO,lY0]
theorem wR0 {D:Nat->Nat} {m i j:Nat} (hi:i<=m) (h:i<j):fO (lY0 D (m-i) (m+j-i) i) (m-i) m (m+(j-i))=fO D (m-i) m (m+j):=by
 grind [fO,lY0]
theorem hC1 {D:Nat->Nat} {m i:Nat} (hi:i<=m):lY0 D (m-i) m i=fO D (m-i) m (m+i):=by
 grind [lY0,fO]
theorem rG0 {D:Nat->Nat} {i j:Nat} (h0:0<j) (h:j<=i):vX0 (vX0 (fO D j i (i+1)) j (fO D j i (i+1) (j-1))) (j-1) (fO D j i (i+1) j)=fO D (j-1) i (i+1):=by
 grind [vX0,fO]
theorem oZ1 {D:Nat->Nat} {a j:Nat} (h:a<=j):vX0 (vX0 (fO D a (a+1) (j+1)) j (fO D a (a+1) (j+1) (j+1))) (j+1) (fO D a (a+1) (j+1) j)=fO D a (a+1) (j+2):=by
 grind [vX0,fO]
def Srt (k D:Nat->Nat) (a b:Nat):Prop:=∀i j,a<=i->i<j->j<b->ltK k (D i) (D j)
def Apt (D:Nat->Nat) (a m b:Nat):Prop:=∀i j,a<=i->i<m->m<=j->j<b->D i<D j
theorem Srt.of_eq {k D D':Nat->Nat} {a b:Nat} (h:Srt k D a b) (he:∀i,a<=i->i<b->D' i=D i):Srt k D' a b:=λi j h1 h2 h3=>by
 rw[he i h1 (by omega),he j (by omega) h3];exact h i j h1 h2 h3
theorem Srt.le {k D:Nat->Nat} {a b:Nat} (h:Srt k D a b) {i j x:Nat} (h1:a<=i) (h2:i<=j) (h3:j<b) (hx:ltK k x (D i)):ltK k x (D j):=by
 rcases Ab i j with h4|h4
 ·exact yV hx (h i j h1 h4 h3)
 grind
theorem Srt.ge {k D:Nat->Nat} {a b:Nat} (h:Srt k D a b) {i j x:Nat} (h1:a<=i) (h2:i<=j) (h3:j<b) (hx:ltK k (D j) x):ltK k (D i) x:=by
 rcases Ab i j with h4|h4
 ·exact yV (h i j h1 h4 h3) hx
 grind
theorem eJ1 {k D:Nat->Nat} {a m b:Nat} (h1:Srt k D a m) (h2:Srt k D m b) (h:∀i j,a<=i->i<m->m<=j->j<b->ltK k (D i) (D j)):Srt k D a b:=by grind [Srt]
theorem fP0 {k D:Nat->Nat} {a i j:Nat} (hs:Srt k D a i) (ha:a<=j) (hj:j<=i) (h1:∀c,a<=c->c<j->ltK k (D c) (D i)) (h2:∀c,j<=c->c<i->ltK k (D i) (D c)):Srt k (fO D j i (i+1)) a (i+1):=by
 grind [Srt,fO]
theorem oX1 {k D:Nat->Nat} {a i b:Nat} (hs:Srt k D (a+1) b) (ha:a+1<=i) (hi:i<=b) (h1:∀c,a+1<=c->c<i->ltK k (D c) (D a)) (h2:∀c,i<=c->c<b->ltK k (D a) (D c)):Srt k (fO D a (a+1) i) a b:=by
 grind [Srt,fO]
structure jV0 (a m b ak lo hi:Nat):Prop where
 am:a<m
 mb:m<b
 mid1:2*ak<=a+b
 mid2:a+b<=2*ak+1
 big:ak<m->lo=ak+m-b/\hi=ak
 small:m<=ak->lo=a/\hi=m
theorem jV0.in {a m b ak lo hi c:Nat} (h:jV0 a m b ak lo hi) (h1:lo<=c) (h2:c<hi):a<=c/\c<m/\m<=ak+m-1-c/\ak+m-1-c<b/\c<ak+m:=by
 obtain⟨h3,h4,h5,h6,h7,h8⟩:=h;omega
theorem jV0.rng {a m b ak lo hi:Nat} (h:jV0 a m b ak lo hi):a<=lo/\lo<=hi/\hi<=m/\hi<=ak/\ak+m-lo<=b/\m<=ak+m-hi/\ak+m-lo >= m:=by
 obtain⟨h3,h4,h5,h6,h7,h8⟩:=h;omega
theorem rN0 {k D:Nat->Nat} {a m b ak lo hi c c':Nat} (h:jV0 a m b ak lo hi) (s1:Srt k D a m) (s2:Srt k D m b) (ap:Apt D a m b) (h1:lo<=c) (h2:c<=c') (h3:c'<hi)
  (hc:k (D (ak+m-1-c))<k (D c)):k (D (ak+m-1-c'))<k (D c'):=by
 obtain⟨a1,a2,a3,a4,a5⟩:=h.in h1 (by omega);obtain⟨b1,b2,b3,b4,b5⟩:=h.in (c:=c') (by omega) h3;rw[<-mC (ap _ _ b1 b2 b3 b4)];rw[<-mC (ap _ _ a1 a2 a3 a4)]at hc;exact s1.le a1 h2 b2 (s2.ge b3 (by omega) a4 hc)
theorem wU0 {k D:Nat->Nat} {a m b ak lo hi s:Nat} (h:jV0 a m b ak lo hi) (s1:Srt k D a m) (s2:Srt k D m b) (ap:Apt D a m b) (iq:lo<=s) (tq:s<=hi)
  (h1:∀c,lo<=c->c<s->¬k (D (ak+m-1-c))<k (D c)) (h2:∀c,s<=c->c<hi->k (D (ak+m-1-c))<k (D c)) :
  Srt k (fO D s m (ak+m-s)) a s/\Srt k (fO D s m (ak+m-s)) s ak/\Srt k (fO D s m (ak+m-s)) ak (ak+m-s)/\Srt k (fO D s m (ak+m-s)) (ak+m-s) b /\
  Apt (fO D s m (ak+m-s)) a s ak/\Apt (fO D s m (ak+m-s)) ak (ak+m-s) b /\
  ∀i j,a<=i->i<ak->ak<=j->j<b->ltK k (fO D s m (ak+m-s) i) (fO D s m (ak+m-s) j):=by
 obtain⟨r1,r2,r3,r4,r5,r6,r7⟩:=h.rng;have jg:ak+m-s<=b:=by omega
 have A1:∀i,i<s->fO D s m (ak+m-s) i=D i:=λi hi=>xX0 hi;have A2:∀i,s<=i->i<ak->fO D s m (ak+m-s) i=D (i+(m-s)):=by grind [fO]
 have A3:∀i,ak<=i->i<ak+m-s->fO D s m (ak+m-s) i=D (i-(ak-s)):=λi h1 h2=>by
  rw[nX1 (by omega) h2];congr 1;omega
 have A4:∀i,ak+m-s<=i->fO D s m (ak+m-s) i=D i:=λi h=>lB1 (by omega) (by omega) h
 -- what lies left of the cut is less than what lies right of it
 have X1:∀c q,a<=c->c<s->ak+m-s<=q->q<b->ltK k (D c) (D q):=λc q c1 c2 q1 q2=>by
  rcases Ab lo s with hl|hl
  ·obtain⟨y1,y2,y3,y4,y5⟩:=h.in (c:=s-1) (by omega) (by omega)
   have:=h1 (s-1) (by omega) (by omega)
   rw[<-yE (ap _ _ y1 y2 y3 y4)]at this;exact s1.ge (j:=s-1) c1 (by omega) y2 (s2.le y3 (by omega) q2 this)
  ·exfalso
   obtain⟨h3,h4,h5,h6,h7,h8⟩:=h;omega
 have X2:∀q c,m<=q->q<ak+m-s->s<=c->c<m->ltK k (D q) (D c):=λq c q1 q2 c1 c2=>by
  rcases Ab s hi with hl|hl
  ·obtain⟨y1,y2,y3,y4,y5⟩:=h.in (c:=s) (by omega) hl
   have:=h2 s (Ac _) hl
   rw[<-mC (ap _ _ y1 y2 y3 y4)]at this;exact s1.le y1 c1 c2 (s2.ge q1 (by omega) y4 this)
  ·exfalso
   obtain⟨h3,h4,h5,h6,h7,h8⟩:=h;omega
 refine⟨?_,?_,?_,?_,?_,?_,?_⟩
 ·grind [Srt]
 ·intro i j i1 i2 i3
  rw[A2 i i1 (by omega),A2 j (by omega) i3];exact s2 _ _ (by omega) (by omega) (by omega)
 ·intro i j i1 i2 i3
  rw[A3 i i1 (by omega),A3 j (by omega) i3];exact s1 _ _ (by omega) (by omega) (by omega)
 ·intro i j i1 i2 i3
  rw[A4 i i1,A4 j (by omega)];exact s2 _ _ (by omega) (by omega) (by omega)
 ·intro i j i1 i2 i3 i4
  rw[A1 i i2,A2 j i3 i4];exact ap _ _ i1 (by omega) (by omega) (by omega)
 ·intro i j i1 i2 i3 i4
  rw[A3 i i1 i2,A4 j i3];exact ap _ _ (by omega) (by omega) (by omega) i4
 ·intro i j i1 i2 i3 i4
  rcases Ab i s with h3|h3
  ·rw[A1 i h3]
   rcases Ab j (ak+m-s) with h4|h4
   ·rw[A3 j i3 h4];exact s1 _ _ i1 (by omega) (by omega)
   simp_all
  ·rw[A2 i h3 i2]
   rcases Ab j (ak+m-s) with h4|h4
   ·rw[A3 j i3 h4];exact X2 _ _ (by omega) (by omega) (by omega) (by omega)
   ·rw[A4 j h4];exact s2 _ _ (by omega) (by omega) (by omega)
theorem iJ {k D1 D2 D3:Nat->Nat} {a ak b:Nat} (ham:a<=ak) (pu:ak<=b) (hx:∀i j,a<=i->i<ak->ak<=j->j<b->ltK k (D1 i) (D1 j)) (e1:eF D1 D2 a ak) (s1:Srt k D2 a ak) (e2:eF D2 D3 ak b) (s2:Srt k D3 ak b) :
  Srt k D3 a b/\eF D1 D3 a b:=by
 refine⟨eJ1 (m:=ak) (s1.of_eq λi h1 h2=>e2.out i (Or.inl h2)) s2 ?_,(e1.wide (Ac _) pu).trans (e2.wide ham (Ac _))⟩;intro i j i1 i2 j1 j2;rw[e2.out i (Or.inl i2)];obtain⟨i',p1,p2,p3⟩:=e1.fro i i1 i2;obtain⟨j',q1,q2,q3⟩:=e2.fro j j1 j2;rw[p3,q3,e1.out j' (Or.inr q1)];simp_all
structure Win (k D:Nat->Nat) (a b:Nat):Prop where
 srt:Srt k D a b
 inn:∀i,a<=i->i<b->a<=D i/\D i<b
 all:∀v,a<=v->v<b->∃i,a<=i/\i<b/\D i=v
theorem Win.none (k D:Nat->Nat) (a:Nat):Win k D a a:=⟨λi j h1 h2 h3=>by omega,λi h1 h2=>by omega,λv h1 h2=>by omega⟩
theorem Win.apt {k D:Nat->Nat} {a m b:Nat} (h1:Win k D a m) (h2:Win k D m b):Apt D a m b:=λi j i1 i2 j1 j2=>by
 have:=h1.inn i i1 i2
 have:=h2.inn j j1 j2
 omega
theorem Win.merge {k D D':Nat->Nat} {a m b:Nat} (h1:Win k D a m) (h2:Win k D m b) (ham:a<=m) (pu:m<=b) (hs:eF D D' a b) (h:Srt k D' a b):Win k D' a b:=by
 refine⟨h,λi i1 i2=>?_,λv v1 v2=>?_⟩
 ·obtain⟨j,j1,j2,e⟩:=hs.fro i i1 i2
  rw[e];rcases Ab j m with hj|hj
  ·have:=h1.inn j j1 hj;omega
  ·have:=h2.inn j hj j2;omega
 ·rcases Ab v m with hv|hv
  ·obtain⟨j,j1,j2,e⟩:=h1.all v v1 hv
   obtain⟨i,i1,i2,e2⟩:=hs.to j j1 (by omega);grind
  ·obtain⟨j,j1,j2,e⟩:=h2.all v hv v2
   obtain⟨i,i1,i2,e2⟩:=hs.to j (by omega) j2;grind
theorem Win.of_eq {k D D':Nat->Nat} {a b:Nat} (h:Win k D a b) (he:∀i,a<=i->i<b->D' i=D i):Win k D' a b :=
 ⟨h.srt.of_eq he,λi h1 h2=>by rw[he i h1 h2];exact h.inn i h1 h2,λv h1 h2=>by obtain⟨i,a,b,c⟩:=h.all v h1 h2;grind⟩
def jF1 (k D:Nat->Nat) (B n:Nat):Prop:=∀t,t*B<n->Win k D (t*B) (min (t*B+B) n)
theorem iT {α:Type} {r:α->α->Prop} (ags:∀a, ¬r a a) (htr:∀a b c,r a b->r b c->r a c):∀ {l1 l2:List α},l1.Pairwise r->l2.Pairwise r->(∀x,x∈l1↔x∈l2)->l1=l2
 | [],[],_,_,_=>rfl
 | [],y::_,_,_,h=>by have:=(h y).2 (by simp);simp at this
 | x::_,[],_,_,h=>by have:=(h x).1 (by simp);simp at this
 | x::l1,y::l2,h1,h2,h=>by
  obtain⟨a1,a2⟩:=List.pairwise_cons.1 h1;obtain⟨b1,b2⟩:=List.pairwise_cons.1 h2
  have up:x=y:=by
   rcases List.mem_cons.1 ((h x).1 (by simp)) with e|e
   ·exact e
   ·rcases List.mem_cons.1 ((h y).2 (by simp)) with e2|e2
    ·exact e2.symm
    grind
  subst up;rw[iT ags htr a2 b2 λz=>?_];grind
def grp (k:Nat->Nat) (n s:Nat):List Nat:=(Af n).filter λi=>k i==s
def dI (k:Nat->Nat) (n S:Nat):List Nat:=(Af S).flatMap (grp k n)
def rJ0 (k:Nat->Nat) (n S:Nat):List Nat:=(Af S).map λs=>(dI k n s).length
theorem mT (k:Nat->Nat) (n S:Nat):dI k n (S+1)=dI k n S++grp k n S:=by
 unfold dI;rw[Au,Al];simp
theorem yK0 (k:Nat->Nat) (n S:Nat):rJ0 k n (S+1)=rJ0 k n S++[(dI k n S).length]:=by
 unfold rJ0;rw[Au,Ba];rfl
theorem hM0 {k:Nat->Nat} {n s i:Nat}:i∈grp k n s↔i<n/\k i=s:=by
 grind [grp]
theorem gC {k:Nat->Nat} {n S i:Nat}:i∈dI k n S↔i<n/\k i<S:=by
 unfold dI;rw[List.mem_flatMap];constructor
 ·grind [grp]
 ·rintro⟨h1,h2⟩
  exact⟨k i,List.mem_range.2 h2,hM0.2 ⟨h1,rfl⟩⟩
theorem iX0 (k:Nat->Nat) (n s:Nat):(grp k n s).Pairwise (ltK k):=by
 have h:(grp k n s).Pairwise (· < ·):=List.Pairwise.filter _ Bg;grind [Be,ltK,grp]
theorem gR (k:Nat->Nat) (n:Nat):∀S,(dI k n S).Pairwise (ltK k)
 | 0=>by simp[dI]
 | S+1=>by
  rw[mT];refine List.pairwise_append.2 ⟨gR k n S,iX0 k n S,λa ha b hb=>?_⟩;grind [gC,hM0,ltK]
def aV0 (k:Nat->Nat) (l:List Nat) (i:Nat):Bool:=i==0||k (l.getD i 0) != k (l.getD (i-1) 0)
def eC0 (k:Nat->Nat) (l:List Nat):List Nat:=(Af l.length).filter (aV0 k l)
theorem uU0 {k:Nat->Nat} {l g:List Nat} {s:Nat} (hg:g≠[]) (h1:∀x∈l,k x<s) (h2:∀x∈g,k x=s):eC0 k (l++g)=eC0 k l++[l.length]:=by
 have ah:0<g.length:=by grind
 have L1:∀i,i<l.length->(l++g).getD i 0=l.getD i 0:=by grind
 have L2:∀i,(l++g).getD (l.length+i) 0=g.getD i 0:=by grind
 have G:∀i,i<g.length->k (g.getD i 0)=s:=by simp_all
 have LL:∀i,i<l.length->k (l.getD i 0)<s:=by simp_all
 unfold eC0;rw[Bd,show l.length+g.length=l.length+(1+(g.length-1)) by omega,Bo,<-Aj,<-Aj,Ag,Ag]
 have e1:(Ae 0 l.length).filter (aV0 k (l++g))=(Af l.length).filter (aV0 k l):=by
  rw[Bo];apply List.filter_congr
  intro i hi;rw[Aq]at hi;unfold aV0;rw[L1 i (by omega),L1 (i-1) (by omega)]
 have e2:(Ae (0+l.length) 1).filter (aV0 k (l++g))=[l.length]:=by
  rw[Nat.zero_add]
  have:aV0 k (l++g) l.length=true:=by
   unfold aV0;rcases Av l.length with h|h
   ·rw[h];rfl
   ·grind
  simp[Ae,this]
 have e3:(Ae (0+l.length+1) (g.length-1)).filter (aV0 k (l++g))=[]:=by
  rw[An];intro i hi;rw[Aq]at hi;have a:=L2 (i-l.length);have b:=L2 (i-l.length-1);rw[show l.length+(i-l.length)=i by omega]at a
  rw[show l.length+(i-l.length-1)=i-1 by omega]at b
  unfold aV0;rw[a,b,G _ (by omega),G _ (by omega)]
  have:i≠0:=by omega
  simp[this]
 simp_all
theorem rF (k:Nat->Nat) (n:Nat):∀S,(∀s,s<S->∃i,i<n/\k i=s)->eC0 k (dI k n S)=rJ0 k n S
 | 0,_=>rfl
 | S+1,h=>by
  rw[mT,yK0,<-rF k n S λs hs=>h s (by omega)];refine uU0 (s:=S) ?_ (λx hx=>(gC.1 hx).2) (λx hx=>(hM0.1 hx).2);obtain⟨i,hi,hk⟩:=h S (by omega);exact List.ne_nil_of_mem (hM0.2 ⟨hi,hk⟩)
theorem eD1 {k D:Nat->Nat} {n S:Nat} (h:Win k D 0 n) (hS:∀i,i<n->k i<S):(Af n).map D=dI k n S:=by
 refine iT (λ_=>qD) (by grind [ltK]) ?_ (gR k n S) λx=>?_
 ·rw[Bt]
  refine List.pairwise_iff_getElem.2 λi j hi hj jf=>?_;rw[Bs,Bs];exact h.srt i j (Am _) jf (by simpa using hj)
 ·rw[gC,Cc]
  constructor
  ·rintro⟨i,hi,rfl⟩
   have:=h.inn i (Am _) (List.mem_range.1 hi)
   simp_all
  ·rintro⟨h1,_⟩
   obtain⟨i,_,h3,h4⟩:=h.all x (Am _) h1;grind
def iZ (x y:En):Prop:=x.r=y.r/\x.s=y.s/\x.l=y.l/\x.t=y.t
instance (x y:En):Decidable (iZ x y):=by unfold iZ; exact inferInstance
def uY (l:List En) (y:En):Prop:=y∈l/\∀z∈l,iZ z y->y.c<=z.c
def iL (o:List En):Prop:=o.Pairwise λx y=>mA x y=true
def yJ (l o:List En):Prop:=iL o/\∀y,y∈o↔uY l y
theorem tC:∀ {o o':List En},iL o->iL o'->(∀y,y∈o↔y∈o')->o=o'
 | [],[],_,_,_=>rfl
 | [],b::s,_,_,h=>by have:=(h b).2 (by simp);cases this
 | a::r,[],_,_,h=>by have:=(h a).1 (by simp);cases this
 | a::r,b::s,h1,h2,h=>by
  obtain⟨ha,hr⟩:=List.pairwise_cons.1 h1;obtain⟨hb,hs⟩:=List.pairwise_cons.1 h2
  have ic:a=b:=by
   rcases List.mem_cons.1 ((h a).1 (by simp)) with e|e
   ·exact e
   ·rcases List.mem_cons.1 ((h b).2 (by simp)) with e'|e'
    ·exact e'.symm
    grind [lI,fA]
  subst ic;have io:a∉r:=by grind [fA]
  have km:a∉s:=by grind [fA]
  rw[tC hr hs λy=>?_];grind
theorem yJ.unique {l o o':List En} (h:yJ l o) (h':yJ l o'):o=o':=tC h.1 h'.1 λy=>(h.2 y).trans (h'.2 y).symm
def jM1 (x:En):List En->List En
 | []=>[x]
 | y::r=>if mA y x then y::jM1 x r else x::y::r
theorem hH0 {x y:En}:∀ {o:List En},y∈jM1 x o↔y=x\/y∈o
 | []=>by simp[jM1]
 | z::r=>by
  unfold jM1;split
  ·rw[Ax,hH0 (o:=r),Ax]
   grind
  ·simp
theorem bD0 {x:En}:∀ {o:List En},iL o->x∉o->iL (jM1 x o)
 | [],_,_=>by simp[jM1,iL]
 | z::r,h,hx=>by
  obtain⟨hz,hr⟩:=List.pairwise_cons.1 h;have hxz:x≠z:=by simp_all
  have hxr:x∉r:=by simp_all
  unfold jM1;split
  ·rename_i hl
   refine List.pairwise_cons.2 ⟨λy hy=>?_,bD0 hr hxr⟩;grind [hH0]
  ·rename_i hl
   have hl':mA x z=true:=by
    have:=sO (x:=z) (y:=x) (Ne.symm hxz)
    rw[this];simpa using hl
   refine List.pairwise_cons.2 ⟨λy hy=>?_,h⟩;rcases List.mem_cons.1 hy with rfl|hy
   ·exact hl'
   grind [lI]
def qI0 (l:List En) (y:En):Bool:=l.all λz => !decide (iZ z y)||decide (y.c<=z.c)
theorem vT0 {l:List En} {y:En} (hy:y∈l):qI0 l y=true↔uY l y:=by
 grind [qI0,uY]
def cR0 (l:List En):List En->List En->List En
 | [],o=>o
 | x::r,o=>if qI0 l x && !decide (x∈o) then cR0 l r (jM1 x o) else cR0 l r o
def sortS (l:List En):List En:=cR0 l l []
theorem rO (l:List En):∀(r done o:List En),l=done++r->iL o->(∀y,y∈o↔y∈done/\qI0 l y=true)->yJ l (cR0 l r o)
 | [],done,o,hl,hs,hm=>by
  refine⟨hs,λy=>?_⟩;rw[Az]at hl;grind [vT0,cR0,uY]
 | x::r,done,o,hl,hs,hm=>by
  have lg:l=(done++[x])++r:=by rw[hl];simp
  unfold cR0;split
  ·rename_i hc
   simp only[Ad,Bu,decide_eq_false_iff_not]at hc;refine rO l r _ _ lg (bD0 hs hc.2) λy=>?_;rw[hH0,hm y];grind
  ·rename_i hc
   simp only[Ad,Bu,decide_eq_false_iff_not,not_and,Decidable.not_not]at hc;refine rO l r _ _ lg hs λy=>?_;grind
theorem dQ (l:List En):yJ l (sortS l):=rO l l [] [] rfl (by simp[iL]) (by simp)
end
section
open Go Go.RowKit
attribute [local go_sem] aQ
theorem lL1 {a b:ByteArray} (h:a≠b):qX a b≠0/\decide (qX a b<0)=Aa a.toList b.toList:=by
 have aj:(a.toList==b.toList)=false:=by
  have:=lE0.2 h;exact this
 unfold qX;rw[aj];cases Aa a.toList b.toList<;>simp
theorem lG1 {x y:En} (h:x.r≠y.r):mA x y=Aa x.r.toList y.r.toList:=by
 obtain⟨h1,h2⟩:=lL1 h;unfold mA aN0;simp only[orI,if_neg h1];exact h2
end
section
open Go
def Bad (x:En) (i:Nat) (y:En) (j:Nat):Prop:=iZ x y/\(y.c<x.c\/y.c=x.c/\j<i)
instance (x:En) (i:Nat) (y:En) (j:Nat):Decidable (Bad x i y j):=by unfold Bad; exact inferInstance
theorem aU1 {l:List En} {i:Nat} {x:En} (hx:l[i]?=some x):l.take (i+1)=l.take i++[x]:=by rw[Ap,hx]; rfl
end
section
open Go Go.RowKit
theorem aW0:dO Tryz.prog 28 62 5 56 bF where
 sl:=Tryz.underlying28
 info:=fG (z:=.agg #[.string ⟨#[]⟩,.string ⟨#[]⟩,.int .i64 0,.int .i64 0,.int .i64 0]) (by kernel_rfl) rfl
 pos:=by decide
 by1:=by decide
 len _:=rfl
 one:=zG
def aC1 (l:List En) (w:World) (e:Ending) (w':World):Prop:=∃v,e=.returned v/\aV w' w.heap.size 62 5 bF v (sortS l)/\aB w w'
theorem oL1:∃i,Tryz.prog.info? 62=some i/\i.zero=some enZero.agg/\i.size=5/\i.bytes=56:=by
 have h:(Tryz.prog.info? 62).map (λi=>(i.zero,i.size,i.bytes))=some (some enZero.agg,5,56):=by kernel_rfl
 cases hi:Tryz.prog.info? 62 with
 | none=>rw[hi]at h;cases h
 | some i =>
  rw[hi]at h;simp only[Option.map_some,Option.some.injEq,Prod.mk.injEq]at h;exact⟨i,rfl,h.1,h.2.1,h.2.2⟩
def lZ0 (W:World) (sb n:Nat) (so:List En) (k:Nat):Prop :=
 ∃cj:Array Value,W.heap[sb]?=some (.cells cj 62 (0,0))/\cj.size=n*5/\∀i x,i<k->so[i]?=some x->∀j u,(bF x)[j]?=some u->cj[i*5+j]?=some u
theorem lZ0.froz {W:World} {sb n k:Nat} {so:List En} (h:lZ0 W sb n so k) (j:Nat):W.frozen? ⟨sb,j,none⟩=false:=by
 obtain⟨cj,h1,_⟩:=h;simp[World.frozen?,h1]
theorem lZ0.cell {W:World} {sb n k:Nat} {so:List En} (h:lZ0 W sb n so k) {j:Nat} (hj:j<n*5):∃u,W.cell? ⟨sb,j,none⟩=some u:=by
 obtain⟨cj,h1,h2,_⟩:=h;exact⟨cj[j]'(by omega),by simp[Ce,h1,h2,hj]⟩
theorem lZ0.set {W:World} {sb n k:Nat} {so:List En} (h:lZ0 W sb n so k) {j:Nat} (hj:k*5<=j) (v:Value):lZ0 (W.setCell ⟨sb,j,none⟩ v) sb n so k:=by
 obtain⟨cj,h1,h2,h3⟩:=h;refine⟨cj.setIfInBounds j v,heap_setCell_same W sb j cj _ v h1,by simpa using h2,λi x hi hx m u hu=>?_⟩;have hm:m<5:=by have:=(List.getElem?_eq_some_iff.1 hu).1;rwa [nY]at this
 rw[Ao,if_neg (by omega)];exact h3 i x hi hx m u hu
theorem lZ0.step {W:World} {sb n k:Nat} {so:List En} {x:En} (h:lZ0 W sb n so k) (hk:k<n) (hx:so[k]?=some x) :
  lZ0 (((((W.setCell ⟨sb,k*5,none⟩ (.string x.r)).setCell ⟨sb,k*5+1,none⟩ (.string x.s)).setCell ⟨sb,k*5+2,none⟩ (.int .i64 x.l)).setCell ⟨sb,k*5+3,none⟩ (.int .i64 x.t)).setCell ⟨sb,k*5+4,none⟩ (.int .i64 x.c)) sb n so (k+1):=by
 obtain⟨cj,h1,h2,h3⟩:=h;refine⟨((((cj.setIfInBounds (k*5) (.string x.r)).setIfInBounds (k*5+1) (.string x.s)).setIfInBounds (k*5+2) (.int .i64 x.l)).setIfInBounds (k*5+3) (.int .i64 x.t)).setIfInBounds (k*5+4) (.int .i64 x.c),heap_setCell_same _ _ _ _ _ _ (heap_setCell_same _ _ _ _ _ _ (heap_setCell_same _ _ _ _ _ _ (heap_setCell_same _ _ _ _ _ _ (heap_setCell_same W sb _ cj _ _ h1)))),by simpa using h2,λi y hi hy m u hu=>?_⟩;have hm:m<5:=by have:=(List.getElem?_eq_some_iff.1 hu).1;rwa [nY]at this
 rcases Ab i k with hik|hik
 ·simp only[Ao]
  rw[if_neg (by omega),if_neg (by omega),if_neg (by omega),if_neg (by omega),if_neg (by omega)];exact h3 i y hik hy m u hu
 ·obtain rfl:i=k:=by omega
  obtain rfl:x=y:=by rw[hx]at hy;exact Option.some.inj hy
  simp only[Ao,Array.size_setIfInBounds]
  match m,hm,hu with
  | 0,_,hu=>simp[bF]at hu;subst hu;simp[h2];omega
  | 1,_,hu=>simp[bF]at hu;subst hu;simp[h2];omega
  | 2,_,hu=>simp[bF]at hu;subst hu;simp[h2];omega
  | 3,_,hu=>simp[bF]at hu;subst hu;simp[h2];omega
  | 4,_,hu=>simp[bF]at hu;subst hu;simp[h2];omega
theorem lZ0.at_ {W:World} {sb n:Nat} {so:List En} (h:lZ0 W sb n so so.length):aG W (some ⟨sb,0,none⟩) 5 (so.map bF):=λ_=>⟨sb,0,rfl,λi row hi j u hj=>by
 obtain⟨cj,h1,h2,h3⟩:=h;rw[List.getElem?_map]at hi
 cases hx:so[i]? with
 | none=>rw[hx]at hi;cases hi
 | some x =>
  rw[hx]at hi;obtain rfl:bF x=row:=by simpa using hi
  have:=h3 i x (List.getElem?_eq_some_iff.1 hx).1 hx j u hj
  simp[Ce,h1,this]⟩
theorem lZ0.made {W:World} {base sb n:Nat} {so:List En} {l:List Value} (h:W.ownsRow base 62 5 (.slice (some ⟨sb,0,none⟩) n n) n l):lZ0 W sb n so 0/\base<=sb:=by
 rcases h.2 with ⟨e,_⟩|⟨g,cap,cj,hv,hb,hh,h1,h2,h3,h4⟩
 ·cases e
 ·cases hv
  exact⟨⟨cj,hh,h3,λi x hi=>absurd hi (Nat.not_lt_zero i)⟩,hb⟩
def klE (x:En):Lit := .string (keyBytes [.string x.r.data.toList,.string x.s.data.toList,.int .i64 x.l,.int .i64 x.t,.int .i64 x.c])
theorem tH:Go.Maps.Keyed Tryz.prog 62:=Go.Maps.Keyed.of_law (deep_law_laid xS (m:=3) (by decide) (of_decide_eq_true (by kernel_rfl)) (by kernel_rfl) (by kernel_rfl))
theorem jY1 {x:En} (h:uE x):Go.keyOf Tryz.prog 62 x.agg=some (klE x):=by
 obtain⟨m,hm⟩:∃m,Tryz.prog.types.size=m+1:=⟨Tryz.prog.types.size-1,by have:0<Tryz.prog.types.size:=of_decide_eq_true (by kernel_rfl);omega⟩
 have hS:∀(s:ByteArray),s.size<=maxLen->Tryz.prog.keyLits (m+1) 9 [.string s]=some [.string s.data.toList]:=λs hs=>by
  unfold Program.keyLits;simp only[Tryz.underlying9,if_pos hs]
 have hI:∀(n:Int),(Lit.int .i64 n).wf=true->Tryz.prog.keyLits (m+1) 3 [.int .i64 n]=some [.int .i64 n]:=λn hn=>by
  unfold Program.keyLits;simp only[Tryz.underlying3,hn,and_self,if_true]
 have hk:Tryz.prog.keyType 62=true:=by kernel_rfl
 have hc:Tryz.prog.cellsOf 62=5:=by kernel_rfl
 have ck:Tryz.prog.cellsOf 9=1:=by kernel_rfl
 have uq:Tryz.prog.cellsOf 3=1:=by kernel_rfl
 obtain⟨r,s,l,t,c⟩:=x;obtain⟨h1,h2,h3,h4,h5⟩:=h;have g1:=hS r h1;have g2:=hS s h2;have g3:=hI l h3;have g4:=hI t h4;have g5:=hI c h5;unfold Go.keyOf;simp only[Tryz.underlying62,hk,As];unfold Value.formed En.agg;simp only[Tryz.underlying62,hc];have hz:((#[Value.string r,.string s,.int .i64 l,.int .i64 t,.int .i64 c]:Array Value).size==5)=true:=rfl;rw[if_pos hz,hm];unfold Program.keyLits;simp only[Tryz.underlying62,hc,Value.cells];simp[ck,uq,g1,g2,g3,g4,g5,klE]
theorem nV0 {x y:En} (hx:uE x) (hy:uE y) (h:klE x=klE y):x=y:=by
 have h1:=jY1 hx;have h2:=jY1 hy;rw[h]at h1
 have:=tH.inj h1 h2
 obtain⟨a,b,c,d,e⟩:=x;obtain⟨a',b',c',d',e'⟩:=y;simpa [En.agg] using this
theorem pG0 {key:Value} {kl:Lit} (h:Go.keyOf Tryz.prog 62 key=some kl):∃x:En,uE x/\key=x.agg/\kl=klE x:=by
 obtain⟨m,hm⟩:∃m,Tryz.prog.types.size=m+1:=⟨Tryz.prog.types.size-1,by have:0<Tryz.prog.types.size:=of_decide_eq_true (by kernel_rfl);omega⟩
 have hS:∀(v:Value) (ls:List Lit),Tryz.prog.keyLits (m+1) 9 [v]=some ls->∃s:ByteArray,v=.string s/\s.size<=maxLen/\ls=[.string s.data.toList]:=λv ls h=>by
  unfold Program.keyLits at h;simp only[Tryz.underlying9]at h;cases v<;>simp at h
  rename_i s
  exact⟨s,rfl,h.1,h.2.symm⟩
 have hI:∀(v:Value) (ls:List Lit),Tryz.prog.keyLits (m+1) 3 [v]=some ls->∃n:Int,v=.int .i64 n/\(Lit.int .i64 n).wf=true/\ls=[.int .i64 n]:=λv ls h=>by
  unfold Program.keyLits at h;simp only[Tryz.underlying3]at h;cases v<;>simp at h
  obtain⟨⟨rfl,h2⟩,h3⟩:=h;exact⟨_,rfl,h2,h3.symm⟩
 have hk:Tryz.prog.keyType 62=true:=by kernel_rfl
 have hc:Tryz.prog.cellsOf 62=5:=by kernel_rfl
 have ck:Tryz.prog.cellsOf 9=1:=by kernel_rfl
 have uq:Tryz.prog.cellsOf 3=1:=by kernel_rfl
 unfold Go.keyOf at h;simp only[Tryz.underlying62,hk,As]at h;split at h
 ·rename_i hf
  rw[hm]at h
  obtain⟨cs,rfl,du⟩:∃cs,key=.agg cs/\cs.size=5:=by
   unfold Value.formed at hf;cases key<;>simp[Tryz.underlying62,hc]at hf
   exact⟨_,rfl,hf⟩
  obtain⟨l⟩:=cs
  match l,du with
  | [c0,c1,c2,c3,c4],_ =>
   rw[jH Tryz.underlying62]at h;simp only[Value.cells]at h;simp[ck,uq,hc,Aw,Bk]at h;obtain⟨l0,g0,a1,⟨l1,g1,a2,⟨l2,g2,a3,⟨l3,g3,a4,⟨l4,g4,rfl⟩,rfl⟩,rfl⟩,rfl⟩,rfl⟩:=h;obtain⟨s0,rfl,z0,rfl⟩:=hS _ _ g0;obtain⟨s1,rfl,z1,rfl⟩:=hS _ _ g1;obtain⟨n2,rfl,z2,rfl⟩:=hI _ _ g2;obtain⟨n3,rfl,z3,rfl⟩:=hI _ _ g3;obtain⟨n4,rfl,z4,rfl⟩:=hI _ _ g4;exact⟨⟨s0,s1,n2,n3,n4⟩,⟨z0,z1,z2,z3,z4⟩,rfl,by simp[klE]⟩
 ·cases h
end
section
open Go Go.RowKit
def jX (x:En):En:={ x with c:=0 }
theorem uE.key {x:En} (h:uE x):uE (jX x):=⟨h.r,h.s,h.l,h.t,by show (Lit.int .i64 0).wf=true; decide⟩
theorem yM {z y:En} (hy:y.c=0) (h:iZ z y):y=jX z:=by
 obtain⟨a,b,c,d,e⟩:=z;obtain⟨a',b',c',d',e'⟩:=y;obtain⟨rfl,rfl,rfl,rfl⟩:=h;simp only at hy;subst hy;rfl
theorem xV (z:En):iZ z (jX z):=⟨rfl,rfl,rfl,rfl⟩
theorem yN0 (y:En):WideAt.IsKeyLit (klE y):=by simp[klE,WideAt.IsKeyLit]
theorem fK1 (y:En):(klE y).sameKey (klE y)=true:=by simp[klE,Lit.sameKey]
section
variable {H:Type}
def AtE (D:DataW H) (y:En):Option Int->Prop
 | none=>Maps.has D (klE y)=false
 | some c=>Maps.has D (klE y)=true/\∀zd,D.atKey (klE y) zd=.lit (.int .i64 c)
def pB0 (l:List En) (y:En):Option Int->Prop
 | none=>∀z∈l,¬iZ z y
 | some c=>(∃z∈l,iZ z y/\z.c=c)/\∀z∈l,iZ z y->c<=z.c
def uB0 (l:List En) (D:DataW H):Prop:=∀y,uE y->(y.c≠0->Maps.has D (klE y)=false)/\(y.c=0->∃o,pB0 l y o/\AtE D y o)
theorem AtE.unique {D:DataW H} {y:En} {o o':Option Int} (h:AtE D y o) (h':AtE D y o'):o=o':=by
 cases o with
 | none=>cases o' with
  | none=>rfl
  | some c=>have h1:Maps.has D (klE y)=false:=h;rw[h'.1]at h1;cases h1
 | some c=>cases o' with
  | none=>have h1:Maps.has D (klE y)=false:=h';rw[h.1]at h1;cases h1
  | some c' =>
   have h1:=h.2 (.lit (.int .i64 0));rw[h'.2]at h1;simpa using h1.symm
theorem pB0.snoc_other {l:List En} {y z:En} {o:Option Int} (h:pB0 l y o) (hn:¬iZ z y):pB0 (l++[z]) y o:=by
 cases o with
 | none =>
  intro x hx;rcases List.mem_append.1 hx with hx|hx
  ·exact h x hx
  ·obtain rfl:x=z:=by simpa using hx
   exact hn
 | some c =>
  obtain⟨⟨x,hx,h1,h2⟩,h3⟩:=h;refine⟨⟨x,Ay _ hx,h1,h2⟩,λx hx hk=>?_⟩;rcases List.mem_append.1 hx with hx|hx
  ·exact h3 x hx hk
  ·obtain rfl:x=z:=by simpa using hx
   exact absurd hk hn
theorem iO1:uB0 (H:=H) [] (.map []):=λy _=>⟨λ_=>rfl,λ_=>⟨none,λz hz=>by simp at hz,rfl⟩⟩
theorem uB0.skip {l:List En} {D:DataW H} (h:uB0 l D) {z:En} {c:Int} (ha:AtE D (jX z) (some c)) (hc:c<=z.c):uB0 (l++[z]) D:=λy hy=>by
 refine⟨(h y hy).1,λh0=>?_⟩;obtain⟨o,ho,hD⟩:=(h y hy).2 h0;by_cases hk:iZ z y
 ·have e:=yM h0 hk
  subst e;obtain rfl:=hD.unique ha;refine⟨some c,⟨?_,λx hx hk=>?_⟩,ha⟩
  ·obtain⟨⟨x,hx,h1,h2⟩,_⟩:=ho
   exact⟨x,Ay _ hx,h1,h2⟩
  ·rcases List.mem_append.1 hx with hx|hx
   ·exact ho.2 x hx hk
   ·obtain rfl:x=z:=by simpa using hx
    exact hc
 ·exact⟨o,ho.snoc_other hk,hD⟩
theorem uB0.store {l:List En} {D:DataW H} (h:uB0 l D) (hm:Maps.IsMap D) {z:En} (hz:uE z) {o:Option Int} (ha:AtE D (jX z) o) (hc:∀c,o=some c->z.c<c):uB0 (l++[z]) (D.put (klE (jX z)) (.lit (.int .i64 z.c))):=λy hy=>by
 refine⟨λh0=>?_,λh0=>?_⟩
 ·have aj:klE y≠klE (jX z):=λe=>h0 (by rw[nV0 hy hz.key e];rfl)
  rw[Maps.has_put_other aj];exact(h y hy).1 h0
 ·obtain⟨o',ho,hD⟩:=(h y hy).2 h0
  by_cases hk:iZ z y
  ·have e:=yM h0 hk
   subst e;obtain rfl:=hD.unique ha;refine⟨some z.c,⟨⟨z,by simp,xV z,rfl⟩,λx hx hk=>?_⟩,Maps.has_put_same hm (yN0 _) _,λzd=>Maps.atKey_put_same hm (yN0 _) _ _⟩;rcases List.mem_append.1 hx with hx|hx
   ·cases o' with
    | none=>exact absurd hk (ho x hx)
    | some c =>
     have h1:=ho.2 x hx hk;have h2:=hc c rfl;omega
   ·obtain rfl:x=z:=by simpa using hx
    exact Cd _
  ·have aj:klE y≠klE (jX z):=λe=>hk (by rw[nV0 hy hz.key e];exact xV z)
   refine⟨o',ho.snoc_other hk,?_⟩
   cases o' with
   | none =>
    show Maps.has _ _=false
    rw[Maps.has_put_other aj];exact hD
   | some c=>exact⟨by rw[Maps.has_put_other aj];exact hD.1,λzd=>by rw[Maps.atKey_put_other aj];exact hD.2 zd⟩
def oQ0 (D:DataW H) (left:Lit->Bool) (ys:List En):Prop:=ys.Nodup/\(∀y∈ys,uE y)/\∀y,uE y->(y∈ys↔AtE D (jX y) (some y.c)/\left (klE (jX y))=false)
theorem mB0 (D:DataW H):oQ0 D (Maps.has D) []:=⟨List.nodup_nil,λy hy=>by simp at hy,λy _=>⟨λh=>by simp at h,λ⟨h1,h2⟩=>by rw[h1.1]at h2; cases h2⟩⟩
theorem oQ0.step {l:List En} {D:DataW H} {left:Lit->Bool} {ys:List En} (h:oQ0 D left ys) (hM:uB0 l D) {x:En} (hx:uE x) {c:Int} (hc:(Lit.int .i64 c).wf=true) (hl:left (klE x)=true) (ac:∀zd,D.atKey (klE x) zd=.lit (.int .i64 c)) :
  oQ0 D (λz=>left z && !z.sameKey (klE x)) (ys++[{ x with c:=c }]):=by
 have mc:=Maps.has_true_of_atKey ac
 have h0:x.c=0:=Decidable.byContradiction λhn=>by
  have:=(hM x hx).1 hn
  rw[this]at mc;cases mc
 have hkx:jX { x with c:=c }=x:=by
  obtain⟨a,b,d,e,f⟩:=x;simp only at h0;subst h0;rfl
 have hxA:AtE D x (some c):=⟨mc,ac⟩;have aef:uE { x with c:=c }:=⟨hx.r,hx.s,hx.l,hx.t,hc⟩
 obtain⟨h1,h2,h3⟩:=h;refine⟨?_,λy hy=>?_,λy hy=>?_⟩
 ·refine List.nodup_append.2 ⟨h1,by simp,λy hy z hz e=>?_⟩
  obtain rfl:z={ x with c:=c }:=by simpa using hz
  subst e
  have:=((h3 _ aef).1 hy).2
  rw[hkx,hl]at this;cases this
 ·rcases List.mem_append.1 hy with hy|hy
  ·exact h2 y hy
  ·obtain rfl:y={ x with c:=c }:=by simpa using hy
   exact aef
 ·constructor
  ·intro hm
   rcases List.mem_append.1 hm with hm|hm
   ·obtain⟨k1,k2⟩:=(h3 y hy).1 hm
    exact⟨k1,by simp[k2]⟩
   ·obtain rfl:y={ x with c:=c }:=by simpa using hm
    rw[hkx];exact⟨hxA,by simp[fK1]⟩
  ·rintro⟨k1,k2⟩
   by_cases hk:klE (jX y)=klE x
   ·have e:=nV0 hy.key hx hk
    rw[e]at k1;have e2:y.c=c:=by simpa using k1.unique hxA
    have:y={ x with c:=c }:=by
     rw[<-e,<-e2];obtain⟨a,b,d,e,f⟩:=y;rfl
    rw[this];simp
   ·have k3:(left (klE (jX y)) && !(klE (jX y)).sameKey (klE x))=false:=k2
    rw[Maps.sameKey_ne hk]at k3;exact Ay _ ((h3 y hy).2 ⟨k1,by simpa using k3⟩)
theorem oQ0.least {l:List En} {D:DataW H} {left:Lit->Bool} {ys:List En} (h:oQ0 D left ys) (hM:uB0 l D) (hl:∀x∈l,uE x) (h0:∀kl,left kl=false) (y:En):y∈ys↔uY l y:=by
 have key:∀y,uE y->(AtE D (jX y) (some y.c)↔uY l y):=λy hy=>by
  obtain⟨o,ho,hD⟩:=(hM (jX y) hy.key).2 rfl;constructor
  ·intro h1
   obtain rfl:=hD.unique h1;obtain⟨⟨z,hz,k1,k2⟩,k3⟩:=ho;refine⟨?_,λx hx hk=>k3 x hx hk⟩
   have:z=y:=by
    obtain⟨a,b,d,e,f⟩:=z;obtain⟨a',b',d',e',f'⟩:=y;obtain⟨rfl,rfl,rfl,rfl⟩:=k1;simp only at k2;subst k2;rfl
   rw[<-this];exact hz
  ·rintro⟨hy2,h2⟩
   cases o with
   | none=>exact absurd (xV y) (ho y hy2)
   | some c =>
    obtain⟨⟨z,hz,k1,k2⟩,k3⟩:=ho;have e1:=k3 y hy2 (xV y);have e2:=h2 z hz k1
    have:c=y.c:=by omega
    rw[<-this];exact hD
 constructor
 ·intro hy
  have ag:=h.2.1 y hy;exact(key y ag).1 ((h.2.2 y ag).1 hy).1
 ·intro hy
  have ag:=hl y hy.1;exact(h.2.2 y ag).2 ⟨(key y ag).2 hy,h0 _⟩
end
end
end Go.Proofs.YtaogeadljgjpcaaGreatDoor
