/- The texts Cmp EnD OrderP KeyP Mx NodP Pos KeyN RuneL LoudP LoudQ LoudR StabP GrpP SortP Less2 Variants SortR SortWP Bsrt KeyE MapE, one behind the other. -/
import Derived.Test.YthgklnohcmaopaaGreatDoorProg
import Derived.Test.YthgklnohcmaopaaGreatDoorLq1
import Derived.WalkKit
import Derived.WalkLawsBesides
import Derived.Lib.Hide
import Derived.DeepKeys4
import Derived.Maps.RangeWalk
import Derived.Maps.Views
import Derived.Laws.OwnMore
import Derived.Laws.Rows
import Derived.OwnWalk
open Go.Op renaming bytesLess → Aa
open Nat renaming lt_or_ge → Ab,le_refl → Ac,zero_le → Am,eq_zero_or_pos → Av,succ_pos → Ba,le_trans → Bh,div_add_mod → Bj,mul_comm → Cb
open Bool renaming and_eq_true → Ad,or_eq_true → Ai,true_and → As,not_eq_true' → Bu
open List renaming range' → Ae,range → Af,filter_append → Ag,flatMap_cons → Ah,range'_append_1 → Aj,getElem?_eq_getElem → Ak,flatMap_append → Al,filter_eq_nil_iff → An,take_add_one → Ap,mem_range'_1 → Aq,range_succ → Au,mem_append_left → Ax,append_nil → Ay,map_append → Az,getElem?_append_right → Bb,length_append → Bc,pairwise_iff_getElem → Bd,mem_cons → Be,flatMap_map → Bf,pairwise_lt_range → Bg,range_succ_eq_map → Bi,mapM_cons → Bk,mem_of_getElem? → Bn,range_eq_range' → Bo,filter_sublist → Bp,map_congr_left → Bq,range'_concat → Br,getElem_range → Bs,pairwise_map → Bt,length_take → Bv,flatMap_nil → Bw,cons_append → By,replicate → Ca,mem_map → Cc,getD → Ce
open Array renaming getElem?_setIfInBounds → Ao
open Classical renaming byContradiction → Ar
open Go.Lib renaming hid → At
open Option renaming bind_eq_some_iff → Aw
open ByteArray renaming empty → Bz
open Go.World renaming cell? → Cd
set_option maxHeartbeats 1000000
namespace Go.Proofs.YthgklnohcmaopaaGreatDoor
set_option maxRecDepth 100000
section
open Go Go.RowKit
def orI:List Int->Int
 | []=>0
 | z::l=>if z=0 then orI l else z
theorem hO0:∀(zs:List Int) (k:Nat),(∀j,j<k->zs[j]?.getD 0=0)->orI zs=orI (zs.drop k)
 | [],k,_=>by simp
 | z::l,0,_=>by simp
 | z::l,k+1,h=>by
  have h0:z=0:=by simpa using h 0 (by omega)
  simp only[orI,h0,if_true,List.drop_succ_cons];exact hO0 l k λj hj=>by simpa using h (j+1) (by omega)
theorem kY1 {zs:List Int} {k:Nat} (hk:k<zs.length) (h:∀j,j<k->zs[j]?.getD 0=0) (hz:zs[k]?.getD 0≠0):orI zs=zs[k]?.getD 0:=by
 rw[hO0 zs k h,List.drop_eq_getElem_cons hk,orI];simp[hk]at hz ⊢;simp[hz]
theorem eI1 {zs:List Int} (h:∀j,j<zs.length->zs[j]?.getD 0=0):orI zs=0:=by
 rw[hO0 zs _ h];simp[orI]
theorem yK0 (zs:List Int) (b off cap:Nat) (w:World) (hl:zs.length<=4611686018427387904) (hc:∀k,k<zs.length->w.cell? ⟨b,off+k,none⟩=some (.int .i64 (zs[k]?.getD 0))) :
  Calls Tryz.prog 109 #[.slice (some ⟨b,off,none⟩) zs.length cap] w λe w'=>e=.returned (.int .i64 (orI zs))/\w=w':=by
 have HC:=At hc;clear hc;go_enter Tryz.func109,Tryz.ntmps109
 go_wp2
 go_loop [8] (λi=>∃k:Nat,k<=zs.length/\i=.int .i64 k/\Hid (∀j,j<k->zs[j]?.getD 0=0)) (λi=>zs.length-(intOf i).toNat)
 case atStart=>exact⟨0,Am _,rfl,λj hj=>by omega⟩
 case round =>
  obtain⟨k,hk,rfl,hz⟩:=hrel;by_cases ae:k<zs.length
  ·have gn:=HC.out k ae
   obtain⟨z,hze⟩:=exq (zs[k]?.getD 0);rw[<-hze]at gn;have HE:=At hze;clear hze;by_cases h0:z=0
   ·have h0':(z != 0)=false:=by simp[h0]
    have H0:=At h0;clear h0;go_wp2
    go_round
    case rel=>exact⟨k+1,by omega,by go_num,λj hj=>by
     rcases Nat.lt_succ_iff_lt_or_eq.1 hj with h|rfl
     ·exact hz.out j h
     ·rw[<-HE.out];exact H0.out⟩
    case measure=>simp[intOf];omega
   ·have h0':(z != 0)=true:=by simpa using h0
    have av:=At ((kY1 ae hz.out (by rw[<-HE.out];exact h0)).trans HE.out.symm);clear h0;go_wp2
    go_ret;exact⟨by rw[av.out];rfl,rfl⟩
  ·obtain rfl:k=zs.length:=by omega
   have av:=At (eI1 hz.out);go_wp2
   go_ret;exact⟨by rw[av.out];rfl,rfl⟩
def eD (x y:Int):Int:=if x<y then -1 else if y<x then 1 else 0
def rE (a b:ByteArray):Int:=if Aa a.toList b.toList then -1 else if !Aa a.toList b.toList && !(a.toList==b.toList) then 1 else 0
theorem pU (x y:Int) (w:World) :
  Calls Tryz.prog 110 #[.int .i64 x,.int .i64 y] w λe w'=>e=.returned (.int .i64 (eD x y))/\w=w':=by
 go_enter Tryz.func110,Tryz.ntmps110
 go_wp2
 all_goals (go_ret;refine⟨xC0 ?_,rfl⟩;unfold eD;(repeat' split)<;>first|rfl|(exfalso;omega))
theorem wX (x y:ByteArray) (w:World) :
  Calls Tryz.prog 111 #[.string x,.string y] w λe w'=>e=.returned (.int .i64 (rE x y))/\w=w':=by
 go_enter Tryz.func111,Tryz.ntmps111
 go_wp2
 all_goals (go_ret;exact⟨xC0 (by simp[rE, *]),rfl⟩)
structure En where
 r:ByteArray
 s:ByteArray
 l:Int
 t:Int
 c:Int
def bF (x:En):List Value:=[.string x.r,.string x.s,.int .i64 x.l,.int .i64 x.t,.int .i64 x.c]
def enZero:En:=⟨Bz,Bz,0,0,0⟩
theorem nY (x:En):(bF x).length=5:=rfl
def En.agg (x:En):Value := .agg #[.string x.r,.string x.s,.int .i64 x.l,.int .i64 x.t,.int .i64 x.c]
def cA0 (x y:En):Int:=orI [rE x.r y.r,eD x.c y.c,rE x.s y.s,eD x.l y.l,eD x.t y.t]
def mD (x y:En):Bool:=decide (cA0 x y<0)
instance:DecidableEq En:=λx y=>decidable_of_iff (x.r=y.r/\x.s=y.s/\x.l=y.l/\x.t=y.t/\x.c=y.c) (by cases x; cases y; simp)
theorem kO {x y:ByteArray} (h:x.toList=y.toList):x=y:=nA0.1 (by unfold seq; rw[h]; simp)
structure yB (x:En):Prop where
 r:x.r.size<=maxLen
 s:x.s.size<=maxLen
 l:(Lit.int .i64 x.l).wf=true
 t:(Lit.int .i64 x.t).wf=true
 c:(Lit.int .i64 x.c).wf=true
theorem zM (x:En):∀u∈bF x,u.oneCell'=true:=by
 intro u hu;simp[bF]at hu;rcases hu with rfl|rfl|rfl|rfl|rfl<;>rfl
theorem bytesLess_irrefl:∀l:List UInt8,Aa l l=false
 | []=>rfl
 | x::l=>by simp[Aa,bytesLess_irrefl l]
theorem gK:∀ {a b c:List UInt8},Aa a b=true->Aa b c=true->Aa a c=true
 | [],_,[],_,h=>by cases ‹List UInt8› <;> simp[Aa]at h
 | [],_,_::_,_,_=>rfl
 | _::_,[],_,h,_=>by simp[Aa]at h
 | _::_,_::_,[],_,h=>by simp[Aa]at h
 | x::a,y::b,z::c,h1,h2=>by
  simp only[Aa,Ai,Ad,decide_eq_true_eq,beq_iff_eq]at h1 h2 ⊢;rcases h1 with h1|⟨rfl,h1⟩<;>rcases h2 with h2|⟨rfl,h2⟩
  ·grind
  ·exact Or.inl h1
  ·exact Or.inl h2
  ·exact Or.inr ⟨rfl,gK h1 h2⟩
theorem dW:∀ {a b:List UInt8},Aa a b=false->a≠b->Aa b a=true
 | [],[],_,h=>absurd rfl h
 | [],_::_,h,_=>by simp[Aa]at h
 | _::_,[],_,_=>rfl
 | x::a,y::b,h1,h2=>by
  simp only[Aa,Bool.or_eq_false_iff,Bool.and_eq_false_iff,decide_eq_false_iff_not,beq_eq_false_iff_ne,Ai,Ad,decide_eq_true_eq,beq_iff_eq]at h1 ⊢;obtain⟨h1,h3⟩:=h1;by_cases wg:y<x
  ·exact Or.inl wg
  ·have h4:x.toNat=y.toNat:=by
    have h5:¬x.toNat<y.toNat:=h1;have h6:¬y.toNat<x.toNat:=wg;omega
   obtain rfl:x=y:=UInt8.toNat_inj.1 h4;rcases h3 with h3|h3
   ·exact absurd rfl h3
   ·exact Or.inr ⟨rfl,dW h3 (by simp_all)⟩
structure sR0 {α:Type} (f:α->α->Int):Prop where
 zero:∀x y,f x y=0↔x=y
 trans:∀x y z,f x y<0->f y z<0->f x z<0
 flip:∀x y,f x y<0↔0<f y x
theorem eT1:sR0 eD where
 zero x y:=by grind [eD]
 trans x y z:=by grind [eD]
 flip x y:=by grind [eD]
theorem uH (a b:ByteArray):rE a b=if Aa a.toList b.toList then -1 else if a=b then 0 else 1:=by
 unfold rE;by_cases h1:Aa a.toList b.toList=true
 ·simp_all
 ·rw[if_neg h1,if_neg h1]
  grind [kO]
theorem pI {a b:List UInt8} (h:Aa a b=true):¬Aa b a=true:=by grind [gK,bytesLess_irrefl]
theorem nT0:sR0 rE where
 zero x y:=by
  rw[uH];split
  ·rename_i h
   refine⟨λh=>by omega,λe=>?_⟩;rw[e,bytesLess_irrefl]at h;cases h
  ·split
   ·rename_i h;simp[h]
   ·rename_i h;simp[h]
 trans x y z:=by
  rw[uH,uH,uH];intro h1 h2
  have g1:Aa x.toList y.toList=true:=by
   by_cases h:Aa x.toList y.toList=true
   ·exact h
   ·rw[if_neg h]at h1;split at h1<;>omega
  have g2:Aa y.toList z.toList=true:=by
   by_cases h:Aa y.toList z.toList=true
   ·exact h
   ·rw[if_neg h]at h2;split at h2<;>omega
  rw[if_pos (gK g1 g2)];omega
 flip x y:=by
  rw[uH,uH];by_cases h:Aa x.toList y.toList=true
  ·have h2:=pI h
   have h3:¬y=x:=λe=>by rw[e,bytesLess_irrefl]at h;cases h
   rw[if_pos h,if_neg h2,if_neg h3];omega
  ·rw[if_neg h]
   by_cases e:x=y
   ·subst e;rw[if_pos rfl,if_neg h]
   ·have h2:=dW (by simpa using h) (λh=>e (kO h))
    rw[if_neg e,if_pos h2];omega
def eX0 {α β:Type} (f:α->α->Int) (g:β->β->Int) (x y:α×β):Int:=if f x.1 y.1=0 then g x.2 y.2 else f x.1 y.1
theorem sR0.refl {α:Type} {f:α->α->Int} (h:sR0 f) (x:α):f x x=0:=(h.zero x x).2 rfl
theorem rZ {α β:Type} {f:α->α->Int} {g:β->β->Int} (hf:sR0 f) (hg:sR0 g):sR0 (eX0 f g) where
 zero x y:=by
  unfold eX0;by_cases h:f x.1 y.1=0
  ·rw[if_pos h,hg.zero]
   have:=(hf.zero _ _).1 h
   grind
  ·rw[if_neg h]
   exact⟨λh2=>absurd h2 h,λh2=>absurd (by rw[h2];exact hf.refl _) h⟩
 trans x y z:=by
  unfold eX0;intro h1 h2;by_cases e1:f x.1 y.1=0
  ·rw[if_pos e1]at h1
   have e:=(hf.zero _ _).1 e1;rw[e];by_cases e2:f y.1 z.1=0
   ·rw[if_pos e2]at h2 ⊢;exact hg.trans _ _ _ h1 h2
   omega
  ·rw[if_neg e1]at h1
   by_cases e2:f y.1 z.1=0
   ·have e:=(hf.zero _ _).1 e2
    simp_all
   ·rw[if_neg e2]at h2
    have h3:=hf.trans _ _ _ h1 h2;omega
 flip x y:=by
  unfold eX0;have hz:f x.1 y.1=0↔f y.1 x.1=0:=by rw[hf.zero,hf.zero];exact eq_comm
  by_cases e1:f x.1 y.1=0
  ·rw[if_pos e1,if_pos (hz.1 e1)];exact hg.flip _ _
  ·rw[if_neg e1,if_neg (λh=>e1 (hz.2 h))];exact hf.flip _ _
def gZ1 (x:En):ByteArray×Int×ByteArray×Int×Int:=(x.r,x.c,x.s,x.l,x.t)
theorem mM (x y:En):cA0 x y=eX0 rE (eX0 eD (eX0 rE (eX0 eD eD))) (gZ1 x) (gZ1 y):=by
 have hl:∀z:Int,orI [z]=z:=by grind [orI]
 unfold cA0 eX0 gZ1;simp only[orI];omega
theorem jT0:sR0 cA0 where
 zero x y:=by
  rw[mM,(rZ nT0 (by grind [rZ,eT1,nT0])).zero];constructor
  ·intro h
   obtain⟨xr,xs,xl,xt,xc⟩:=x;obtain⟨yr,ys,yl,yt,yc⟩:=y;simp only[gZ1,Prod.mk.injEq]at h;simp_all
  ·intro h;rw[h]
 trans x y z:=by rw[mM,mM,mM];exact(rZ nT0 (by grind [rZ,eT1,nT0])).trans _ _ _
 flip x y:=by rw[mM,mM];exact(rZ nT0 (by grind [rZ,eT1,nT0])).flip _ _
theorem lE {x y z:En} (h1:mD x y=true) (h2:mD y z=true):mD x z=true:=by
 unfold mD at *;simp only[decide_eq_true_eq] at *;exact jT0.trans _ _ _ h1 h2
theorem fF (x:En):mD x x=false:=by
 unfold mD;rw[jT0.refl];simp
theorem uC {x y:En} (h:x≠y):mD y x = !mD x y:=by
 unfold mD;have h1:=jT0.flip x y;have h2:cA0 x y≠0:=λh0=>h ((jT0.zero _ _).1 h0);have h3:=jT0.flip y x;grind
theorem jL {P:Program} {d:Nat} {t:TypeId} {fs:Array Field} {cs:List Value} (h:P.underlying t=some (.struct fs)) :
  P.keyLits (d + 1) t cs = if cs.length = P.cellsOf t ∧ fs.all (·.name != "_") = true then (fs.toList.mapM fun f => P.keyLits d f.type ((cs.drop f.offset).take (P.cellsOf f.type))).map List.flatten else none := by
 conv=>lhs;unfold Program.keyLits
 simp only[h]
def dR1 (x:Int×Int):Value := .agg #[.int .i64 x.1,.int .i64 x.2]
def WfI (n:Int):Prop:=(Lit.int .i64 n).wf=true
def klP (x:Int×Int):Lit := .string (keyBytes [.int .i64 x.1,.int .i64 x.2])
theorem yX:laidOutB Tryz.prog=true:=by kernel_rfl
theorem zO:Go.Maps.Keyed Tryz.prog 158:=Go.Maps.Keyed.of_law (deep_law_laid yX (m:=3) (by decide) (of_decide_eq_true (by kernel_rfl)) (by kernel_rfl) (by kernel_rfl))
theorem pT1 {x:Int×Int} (h1:WfI x.1) (h2:WfI x.2):Go.keyOf Tryz.prog 158 (dR1 x)=some (klP x):=by
 obtain⟨m,hm⟩:∃m,Tryz.prog.types.size=m+1:=⟨Tryz.prog.types.size-1,by have:0<Tryz.prog.types.size:=of_decide_eq_true (by kernel_rfl);omega⟩
 have hI:∀(n:Int),WfI n->Tryz.prog.keyLits (m+1) 3 [.int .i64 n]=some [.int .i64 n]:=λn hn=>by
  unfold Program.keyLits;unfold WfI at hn;simp only[Tryz.underlying3,hn,and_self,if_true]
 have hk:Tryz.prog.keyType 158=true:=by kernel_rfl
 have hc:Tryz.prog.cellsOf 158=2:=by kernel_rfl
 have wl:Tryz.prog.cellsOf 3=1:=by kernel_rfl
 obtain⟨a,b⟩:=x;have g1:=hI a h1;have g2:=hI b h2;unfold Go.keyOf;simp only[Tryz.underlying158,hk,As];unfold Value.formed dR1;simp only[Tryz.underlying158,hc];have hz:((#[Value.int .i64 a,.int .i64 b]:Array Value).size==2)=true:=rfl;rw[if_pos hz,hm];unfold Program.keyLits;simp only[Tryz.underlying158,hc,Value.cells];simp[wl,g1,g2,klP]
theorem pO0 {x y:Int×Int} (h1:WfI x.1) (h2:WfI x.2) (h3:WfI y.1) (h4:WfI y.2) (h:klP x=klP y):x=y:=by
 have k1:=pT1 h1 h2;have k2:=pT1 h3 h4;rw[h]at k1
 have:=zO.inj k1 k2
 obtain⟨a,b⟩:=x;obtain⟨a',b'⟩:=y;simpa [dR1] using this
theorem gV0 {key:Value} {kl:Lit} (h:Go.keyOf Tryz.prog 158 key=some kl):∃x:Int×Int,WfI x.1/\WfI x.2/\key=dR1 x/\kl=klP x:=by
 obtain⟨m,hm⟩:∃m,Tryz.prog.types.size=m+1:=⟨Tryz.prog.types.size-1,by have:0<Tryz.prog.types.size:=of_decide_eq_true (by kernel_rfl);omega⟩
 have hI:∀(v:Value) (ls:List Lit),Tryz.prog.keyLits (m+1) 3 [v]=some ls->∃n:Int,v=.int .i64 n/\WfI n/\ls=[.int .i64 n]:=λv ls h=>by
  unfold Program.keyLits at h;simp only[Tryz.underlying3]at h;cases v<;>simp at h
  obtain⟨⟨rfl,h2⟩,h3⟩:=h;exact⟨_,rfl,h2,h3.symm⟩
 have hk:Tryz.prog.keyType 158=true:=by kernel_rfl
 have hc:Tryz.prog.cellsOf 158=2:=by kernel_rfl
 have wl:Tryz.prog.cellsOf 3=1:=by kernel_rfl
 unfold Go.keyOf at h;simp only[Tryz.underlying158,hk,As]at h;split at h
 ·rename_i hf
  rw[hm]at h
  obtain⟨cs,rfl,de⟩:∃cs,key=.agg cs/\cs.size=2:=by
   unfold Value.formed at hf;cases key<;>simp[Tryz.underlying158,hc]at hf
   exact⟨_,rfl,hf⟩
  obtain⟨l⟩:=cs
  match l,de with
  | [c0,c1],_ =>
   rw[jL Tryz.underlying158]at h;simp only[Value.cells]at h;simp[wl,hc,Aw,Bk]at h;obtain⟨l0,g0,ls,⟨l1,g1,rfl⟩,rfl⟩:=h;obtain⟨n2,rfl,z2,rfl⟩:=hI _ _ g0;obtain⟨n3,rfl,z3,rfl⟩:=hI _ _ g1;exact⟨⟨n2,n3⟩,z2,z3,rfl,by simp[klP]⟩
 ·cases h
end
section
open Go Go.RowKit
structure Mx where
 n:Nat
 d:Int
 cs:List Int
structure Mx.OK (m:Mx):Prop where
 n1:1<=m.n
 n2:m.n<=64
 d1:0<=m.d
 d2:m.d<=30000
 len:m.cs.length=m.n*m.n
 cost:∀c∈m.cs,0<=c/\c<=30000
def isC (c:Int):Bool:=decide (0<=c)&&decide (c<=30000)
theorem gD0 {c:Int}:isC c=true↔0<=c/\c<=30000:=by simp[isC]
def cJ1 (n d:Int):Bool:=decide (1<=n)&&decide (n<=64)&&isC d
theorem tR {n d:Int}:cJ1 n d=true↔1<=n/\n<=64/\0<=d/\d<=30000:=by simp[cJ1,isC,and_assoc]
def newM (n d:Int):Mx:=⟨n.toNat,d,Ca (n.toNat*n.toNat) d⟩
theorem nB0 {n d:Int} (h:cJ1 n d=true):(newM n d).OK:=by
 obtain⟨h1,h2,h3,h4⟩:=tR.1 h;refine⟨?_,?_,h3,h4,by simp[newM],λc hc=>?_⟩
 ·show 1<=n.toNat;omega
 ·show n.toNat<=64;omega
 ·obtain rfl:c=d:=(List.mem_replicate.1 hc).2
  exact⟨h3,h4⟩
def inR (n:Nat) (r:Int):Bool:=decide (0<=r)&&decide (r<n)
theorem nF1 {n:Nat} {r:Int}:inR n r=true↔0<=r/\r<n:=by simp[inR]
def at2 (n:Nat) (x:Int×Int):Nat:=x.1.toNat*n+x.2.toNat
def inP (n:Nat) (x:Int×Int):Bool:=inR n x.1&&inR n x.2
theorem rU {n:Nat} {x:Int×Int}:inP n x=true↔(0<=x.1/\x.1<n)/\0<=x.2/\x.2<n:=by simp[inP,nF1]
theorem dD0 {n:Nat} {x:Int×Int} (h:inP n x=true):at2 n x<n*n:=by
 obtain⟨⟨h1,h2⟩,h3,h4⟩:=rU.1 h;unfold at2;have k1:x.1.toNat+1<=n:=by omega
 have k2:x.2.toNat<n:=by omega
 have:=Nat.mul_le_mul_right n k1
 grind
theorem mY1 {n:Nat} {x:Int×Int} (h:inP n x=true):at2 n x/n=x.1.toNat/\at2 n x%n=x.2.toNat:=by
 obtain⟨⟨h1,h2⟩,h3,h4⟩:=rU.1 h;have k2:x.2.toNat<n:=by omega
 unfold at2;constructor
 ·rw[Cb,Nat.mul_add_div (by omega),Nat.div_eq_of_lt k2,Nat.add_zero]
 ·rw[Cb,Nat.mul_add_mod,Nat.mod_eq_of_lt k2]
theorem aD1 {n:Nat} {x y:Int×Int} (hx:inP n x=true) (hy:inP n y=true) (h:at2 n x=at2 n y):x=y:=by
 grind [mY1,rU]
def Mx.cost (m:Mx) (x:Int×Int):Int:=if inP m.n x then m.cs.getD (at2 m.n x) 0 else 30000
def Mx.setB (m:Mx) (x:Int×Int) (c:Int):Bool:=inP m.n x&&isC c
def Mx.set (m:Mx) (x:Int×Int) (c:Int):Mx:={ m with cs:=m.cs.set (at2 m.n x) c }
def Mx.setIf (m:Mx) (x:Int×Int) (c:Int):Mx:=if m.setB x c then m.set x c else m
theorem Mx.OK.set {m:Mx} (h:m.OK) {x:Int×Int} {c:Int} (hs:m.setB x c=true):(m.set x c).OK:=by
 simp only[Mx.setB,Ad]at hs;refine⟨h.n1,h.n2,h.d1,h.d2,by simp[Mx.set,h.len],λz hz=>?_⟩;rcases List.mem_or_eq_of_mem_set hz with hz|rfl
 ·exact h.cost z hz
 ·exact gD0.1 hs.2
theorem Mx.OK.setIf {m:Mx} (h:m.OK) (x:Int×Int) (c:Int):(m.setIf x c).OK:=by
 unfold Mx.setIf;split
 ·rename_i hs;exact h.set hs
 ·exact h
theorem Mx.cost_set {m:Mx} (h:m.OK) {x:Int×Int} {c:Int} (hx:inP m.n x=true) (y:Int×Int):(m.set x c).cost y=if y=x then c else m.cost y:=by
 have hl:at2 m.n x<m.cs.length:=by rw[h.len];exact dD0 hx
 unfold Mx.cost;show (if inP m.n y then (m.cs.set (at2 m.n x) c).getD (at2 m.n y) 0 else 30000)=_
 by_cases hy:inP m.n y=true
 ·rw[if_pos hy,if_pos hy]
  by_cases e:y=x
  ·simp_all
  ·rw[if_neg e]
   have:at2 m.n x≠at2 m.n y:=λh=>e (aD1 hx hy h).symm
   simp_all
 grind
theorem Mx.cost_new {n d:Int} (x:Int×Int):(newM n d).cost x=if inP n.toNat x then d else 30000:=by
 unfold Mx.cost newM;simp only;by_cases h:inP n.toNat x=true
 ·rw[if_pos h,if_pos h]
  simp[Ce,dD0 h]
 simp_all
theorem Mx.cost_ok {m:Mx} (h:m.OK) (x:Int×Int):0<=m.cost x/\m.cost x<=30000:=by
 unfold Mx.cost;split
 ·rename_i hx
  have hl:at2 m.n x<m.cs.length:=by rw[h.len];exact dD0 hx
  have:m.cs.getD (at2 m.n x) 0=m.cs[at2 m.n x]:=by simp[Ce,hl]
  rw[this];exact h.cost _ (List.getElem_mem _)
 ·omega
theorem qZ {n:Nat} (hn:n<=64) {x:Int×Int} (h:inP n x=true):WfI x.1/\WfI x.2:=by
 grind [rU,WalkArith.wf_i64,WfI]
section
variable {H:Type}
def rT0 (m:Mx) (D:DataW H):Prop:=∀x:Int×Int,WfI x.1->WfI x.2->(Maps.has D (klP x)=(inP m.n x&&decide (m.cost x≠m.d)))/\(Maps.has D (klP x)=true->∀zd,D.atKey (klP x) zd=.lit (.int .i64 (m.cost x)))
theorem bF1 (x:Int×Int):WideAt.IsKeyLit (klP x):=by simp[klP,WideAt.IsKeyLit]
theorem rY0 (x:Int×Int):(klP x).sameKey (klP x)=true:=by simp[klP,Lit.sameKey]
theorem eP1 (n d:Int):rT0 (H:=H) (newM n d) (.map []):=λx _ _=>by
 refine⟨?_,λh=>by cases h⟩;show false=_
 rw[Mx.cost_new];show false=(inP n.toNat x&&decide ((if inP n.toNat x then d else 30000)≠d))
 simp_all
theorem rT0.put {m:Mx} {D:DataW H} (h:rT0 m D) (hm:Maps.IsMap D) (ag:m.OK) {x:Int×Int} {c:Int} (hs:m.setB x c=true) (hc:c≠m.d):rT0 (m.set x c) (D.put (klP x) (.lit (.int .i64 c))):=λy h1 h2=>by
 simp only[Mx.setB,Ad]at hs;have hw:=qZ ag.n2 hs.1;rw[Mx.cost_set ag hs.1];show Maps.has _ _=(inP m.n y&&decide (_≠m.d))/\_
 by_cases e:y=x
 ·subst e
  rw[if_pos rfl,Maps.has_put_same hm (bF1 _),hs.1];exact⟨by simp[hc],λ_ zd=>Maps.atKey_put_same hm (bF1 _) _ _⟩
 ·have aj:klP y≠klP x:=λh=>e (pO0 h1 h2 hw.1 hw.2 h)
  rw[if_neg e,Maps.has_put_other aj];refine⟨(h y h1 h2).1,λhh zd=>?_⟩;rw[Maps.atKey_put_other aj];exact(h y h1 h2).2 hh zd
theorem rT0.del {m:Mx} {D:DataW H} (h:rT0 m D) (ag:m.OK) {x:Int×Int} (hx:inP m.n x=true):rT0 (m.set x m.d) (D.del (klP x)):=λy h1 h2=>by
 have hw:=qZ ag.n2 hx;rw[Mx.cost_set ag hx];show Maps.has _ _=(inP m.n y&&decide (_≠m.d))/\_
 by_cases e:y=x
 ·subst e
  rw[if_pos rfl,Maps.has_del_same];simp_all
 ·have aj:klP y≠klP x:=λh=>e (pO0 h1 h2 hw.1 hw.2 h)
  rw[if_neg e,Maps.has_del_other aj];refine⟨(h y h1 h2).1,λhh zd=>?_⟩;rw[Maps.atKey_del_other aj];exact(h y h1 h2).2 hh zd
theorem rT0.look {m:Mx} {D:DataW H} (h:rT0 m D) (ag:m.OK) {x:Int×Int} (hx:inP m.n x=true) {c:Int} (hc:D.atKey (klP x) (.lit (.int .i64 0))=.lit (.int .i64 c)):(Maps.has D (klP x)=true->c=m.cost x)/\(Maps.has D (klP x)=false->m.cost x=m.d):=by
 have hw:=qZ ag.n2 hx;obtain⟨h1,h2⟩:=h x hw.1 hw.2;grind
end
def Mx.idx (m:Mx):List Nat:=(Af (m.n*m.n)).filter λi=>decide (m.cs.getD i 0≠m.d)
def eE (n i:Nat):Int×Int:=(((i/n:Nat):Int),((i%n:Nat):Int))
def Mx.pairs (m:Mx):List (Int×Int):=m.idx.map (eE m.n)
theorem kV {n i:Nat} (h:i<n*n):inP n (eE n i)=true/\at2 n (eE n i)=i:=by
 have hn:0<n:=by
  rcases Av n with h0|h0
  ·subst h0;simp at h
  ·exact h0
 have h1:i/n<n:=Nat.div_lt_of_lt_mul h;have h2:i%n<n:=Nat.mod_lt _ hn;grind [rU,Bj,eE,at2]
theorem dW0 {n:Nat} {x:Int×Int} (h:inP n x=true):eE n (at2 n x)=x:=by grind [aD1,kV,dD0]
theorem Mx.mem_idx {m:Mx} {i:Nat}:i∈m.idx↔i<m.n*m.n/\m.cs.getD i 0≠m.d:=by simp[Mx.idx]
theorem Mx.mem_pairs {m:Mx} {x:Int×Int}:x∈m.pairs↔inP m.n x=true/\m.cost x≠m.d:=by
 unfold Mx.pairs;rw[Cc];constructor
 ·rintro⟨i,hi,rfl⟩
  obtain⟨h1,h2⟩:=Mx.mem_idx.1 hi;obtain⟨h3,h4⟩:=kV h1;refine⟨h3,?_⟩;unfold Mx.cost;simp_all
 ·rintro⟨h1,h2⟩
  refine⟨at2 m.n x,Mx.mem_idx.2 ⟨dD0 h1,?_⟩,dW0 h1⟩;unfold Mx.cost at h2;rwa [if_pos h1]at h2
def dZ1 (a b:Int×Int):Int:=orI [eD a.1 b.1,eD a.2 b.2]
def ltP (a b:Int×Int):Prop:=a.1<b.1\/a.1=b.1/\a.2<b.2
theorem nN1 (a b:Int×Int):dZ1 a b<0↔ltP a b:=by
 unfold dZ1 ltP;grind [orI,eD]
theorem eK0 (a:Int×Int):¬ltP a a:=by unfold ltP; omega
theorem jY0 {a b c:Int×Int} (h1:ltP a b) (h2:ltP b c):ltP a c:=by unfold ltP at *; omega
theorem zX0 {a b:Int×Int} (h:a≠b):ltP a b\/ltP b a:=by
 grind [ltP]
theorem xG0 {n i j:Nat} (h:i<j):ltP (eE n i) (eE n j):=by
 have h1:i/n<=j/n:=Nat.div_le_div_right (Nat.le_of_lt h);unfold ltP eE;simp only;by_cases e:i/n=j/n
 ·right
  refine⟨by omega,?_⟩;have h2:=Bj i n;have h3:=Bj j n;rw[e]at h2;omega
 ·left;omega
theorem Mx.pairs_sorted (m:Mx):m.pairs.Pairwise ltP:=by
 unfold Mx.pairs Mx.idx;rw[Bt];exact(List.Pairwise.filter _ Bg).imp λh=>xG0 h
theorem sW {α:Type} {lt:α->α->Prop} (hi:∀a, ¬lt a a) (ht:∀ {a b c},lt a b->lt b c->lt a c):∀ {o o':List α},o.Pairwise lt->o'.Pairwise lt->(∀y,y∈o↔y∈o')->o=o'
 | [],[],_,_,_=>rfl
 | [],b::s,_,_,h=>by have:=(h b).2 (by simp);cases this
 | a::r,[],_,_,h=>by have:=(h a).1 (by simp);cases this
 | a::r,b::s,h1,h2,h=>by
  obtain⟨ha,hr⟩:=List.pairwise_cons.1 h1;obtain⟨hb,hs⟩:=List.pairwise_cons.1 h2
  have gp:a=b:=by
   rcases List.mem_cons.1 ((h a).1 (by simp)) with e|e
   ·exact e
   ·rcases List.mem_cons.1 ((h b).2 (by simp)) with e'|e'
    ·exact e'.symm
    grind
  subst gp;have jf:a∉r:=by grind
  have od:a∉s:=by grind
  rw[sW hi ht hr hs λy=>?_];grind
theorem Mx.pairs_len {m:Mx} (h:m.OK):m.pairs.length<=4096:=by
 unfold Mx.pairs;rw[List.length_map];refine Bh (List.length_filter_le _ _) ?_;rw[List.length_range]
 have:=h.n2
 exact Nat.mul_le_mul this this
theorem cG {α:Type} [DecidableEq α]:∀ {l l':List α},l.Nodup->(∀x∈l,x∈l')->l.length<=l'.length
 | [],_,_,_=>Am _
 | x::r,l',hn,hs=>by
  obtain⟨h1,h2⟩:=List.nodup_cons.1 hn;have hx:=hs x (by simp);have hr:=cG (l':=l'.erase x) h2 λy hy=>(List.mem_erase_of_ne (λ(e:y=x)=>h1 (by rw[<-e];exact hy))).2 (hs y (by simp[hy]));rw[List.length_erase_of_mem hx]at hr
  have:=List.length_pos_of_mem hx
  simp only[List.length_cons];omega
end
section
open Go Go.RowKit
structure Nd where
 f:Int
 t:Int
 s:ByteArray
 l:Int
 r:Int
 c:Int
 k:Int
instance:DecidableEq Nd:=λx y=>decidable_of_iff (x.f=y.f/\x.t=y.t/\x.s=y.s/\x.l=y.l/\x.r=y.r/\x.c=y.c/\x.k=y.k) (by cases x; cases y; simp)
def sW0 (x y:Nd):Int:=orI [eD x.f y.f,eD y.t x.t,eD x.c y.c,rE x.s y.s,eD x.l y.l,eD x.r y.r]
def iZ (x y:Nd):Bool:=decide (sW0 x y<0)
theorem sR0.rev {α:Type} {f:α->α->Int} (h:sR0 f):sR0 λx y=>f y x where
 zero x y:=(h.zero y x).trans eq_comm
 trans x y z h1 h2:=h.trans z y x h2 h1
 flip x y:=h.flip y x
def gA (x:Nd):Int×Int×Int×ByteArray×Int×Int:=(x.f,x.t,x.c,x.s,x.l,x.r)
theorem tH (x y:Nd):sW0 x y=eX0 eD (eX0 (λa b=>eD b a) (eX0 eD (eX0 rE (eX0 eD eD)))) (gA x) (gA y):=by
 unfold sW0 eX0 gA;simp only[orI];omega
theorem mP:sR0 (eX0 eD (eX0 (λa b=>eD b a) (eX0 eD (eX0 rE (eX0 eD eD))))):=by grind [rZ,eT1,sR0.rev,nT0]
theorem sY (x:Nd):¬iZ x x=true:=by
 unfold iZ;rw[tH,mP.refl];simp
theorem pV {x y z:Nd} (h1:iZ x y=true) (h2:iZ y z=true):iZ x z=true:=by
 unfold iZ at *;simp only[decide_eq_true_eq,tH] at *;exact mP.trans _ _ _ h1 h2
theorem xY {x y:Nd} (h:gA x≠gA y) (hn:¬iZ x y=true):iZ y x=true:=by
 unfold iZ at *;simp only[decide_eq_true_eq,tH] at *;have h1:=mP.flip (gA x) (gA y);have h2:_≠(0:Int):=λh0=>h ((mP.zero (gA x) (gA y)).1 h0);have h3:=mP.flip (gA y) (gA x);omega
def cK (x y:Nd):Prop:=x.f=y.f/\x.t=y.t/\x.s=y.s/\x.l=y.l/\x.r=y.r
instance (x y:Nd):Decidable (cK x y):=by unfold cK; exact inferInstance
theorem cK.refl (x:Nd):cK x x:=⟨rfl,rfl,rfl,rfl,rfl⟩
theorem cK.symm {x y:Nd} (h:cK x y):cK y x:=⟨h.1.symm,h.2.1.symm,h.2.2.1.symm,h.2.2.2.1.symm,h.2.2.2.2.symm⟩
theorem cK.trans {x y z:Nd} (h:cK x y) (k:cK y z):cK x z:=⟨h.1.trans k.1,h.2.1.trans k.2.1,h.2.2.1.trans k.2.2.1,h.2.2.2.1.trans k.2.2.2.1,h.2.2.2.2.trans k.2.2.2.2⟩
theorem iW0 {x y:Nd} (h:gA x=gA y):cK x y:=by
 simp only[gA,Prod.mk.injEq]at h;grind [cK]
theorem qU0 {x y:Nd} (h:cK x y) (hc:x.c=y.c) (hk:x.k=y.k):x=y:=by
 obtain⟨a,b,d,e,g,i,j⟩:=x;obtain⟨a',b',d',e',g',i',j'⟩:=y;obtain⟨h1,h2,h3,h4,h5⟩:=h;simp_all
def cF (x y:Nd):Prop:=x.c<y.c\/(x.c=y.c/\x.k<=y.k)
instance (x y:Nd):Decidable (cF x y):=by unfold cF; exact inferInstance
theorem cF.refl (x:Nd):cF x x:=Or.inr (by omega)
theorem cF.trans {x y z:Nd} (h:cF x y) (k:cF y z):cF x z:=by
 unfold cF at *;omega
theorem dK0 {x y:Nd} (h:¬cF x y):cF y x:=by
 grind [cF]
structure Bests (O:Nd->Prop) (L:List Nd):Prop where
 sub:∀x∈L,O x
 cov:∀y,O y->∃z∈L,cK z y/\cF z y
 one:L.Pairwise λx y=>¬cK x y
structure iN (O:Nd->Prop) (L:List Nd):Prop extends Bests O L where
 srt:L.Pairwise λx y=>iZ x y=true
theorem pC0 {L:List Nd} (h:L.Pairwise λx y=>¬cK x y) {x y:Nd} (hx:x∈L) (hy:y∈L) (hs:cK x y):x=y:=by
 induction L with
 | nil=>cases hx
 | cons a L ih =>
  obtain⟨h1,h2⟩:=List.pairwise_cons.1 h;rcases List.mem_cons.1 hx with rfl|q8<;>rcases List.mem_cons.1 hy with rfl|hy'
  ·rfl
  ·simp_all
  ·grind [cK.symm]
  ·exact ih h2 q8 hy'
theorem Bests.same {O:Nd->Prop} {L:List Nd} (h:Bests O L) {x y:Nd} (hx:x∈L) (hy:y∈L) (hs:cK x y):x=y:=pC0 h.one hx hy hs
theorem Bests.best {O:Nd->Prop} {L:List Nd} (h:Bests O L) {x y:Nd} (hx:x∈L) (hy:O y) (hs:cK x y):cF x y:=by
 obtain⟨z,hz,h1,h2⟩:=h.cov y hy;rw[h.same hx hz (hs.trans h1.symm)];exact h2
theorem Bests.mem {O:Nd->Prop} {L:List Nd} (h:Bests O L) (x:Nd):x∈L↔O x/\∀y,O y->cK x y->cF x y:=by
 constructor
 ·exact λhx=>⟨h.sub x hx,λy hy hs=>h.best hx hy hs⟩
 ·rintro⟨hx,hb⟩
  obtain⟨z,hz,h1,h2⟩:=h.cov x hx;have h3:=hb z (h.sub z hz) h1.symm;rw[show x=z from qU0 h1.symm (by unfold cF at h2 h3;omega) (by unfold cF at h2 h3;omega)]
  exact hz
theorem Bests.congr {O O':Nd->Prop} {L:List Nd} (h:Bests O L) (he:∀x,O x↔O' x):Bests O' L:=⟨λx hx=>(he x).1 (h.sub x hx),λy hy=>h.cov y ((he y).2 hy),h.one⟩
theorem iN.congr {O O':Nd->Prop} {L:List Nd} (h:iN O L) (he:∀x,O x↔O' x):iN O' L:=⟨h.toBests.congr he,h.srt⟩
theorem iN.unique {O:Nd->Prop} {L L':List Nd} (h:iN O L) (h':iN O L'):L=L' :=
 sW (lt:=λx y=>iZ x y=true) sY pV h.srt h'.srt λy=>(h.mem y).trans (h'.mem y).symm
theorem qF1 {O:Nd->Prop} {L:List Nd} (h:Bests O L):L.Nodup:=List.nodup_iff_pairwise_ne.2 (h.one.imp (by grind [cK]))
theorem Bests.sorted {O:Nd->Prop} {L L':List Nd} (h:Bests O L) (hp:L'.Perm L) (hs:L'.Pairwise λx y=>iZ x y=true):iN O L' :=
 ⟨⟨λx hx=>h.sub x (hp.mem_iff.1 hx),λy hy=>let ⟨z,hz,k⟩:=h.cov y hy;(by grind),h.one.perm hp.symm λ{_a _b} hn e=>hn e.symm⟩,hs⟩
def lQ0 (x:Nd):Int×Int×ByteArray×Int×Int:=(x.f,x.t,x.s,x.l,x.r)
theorem eA0 {x y:Nd}:lQ0 x=lQ0 y↔cK x y:=by
 grind [lQ0,cK]
theorem Bests.len {O:Nd->Prop} {L L0:List Nd} (h:Bests O L) (h1:∀x∈L0,O x) (h2:L0.Pairwise λx y=>¬cK x y):L0.length<=L.length:=by
 have:=cG (l:=L0.map lQ0) (l':=L.map lQ0) (List.pairwise_map.2 (h2.imp λ{a b} hn e=>hn (eA0.1 e))) (λk hk=>by
  obtain⟨x,hx,rfl⟩:=List.mem_map.1 hk;obtain⟨z,hz,hs,_⟩:=h.cov x (h1 x hx);exact List.mem_map.2 ⟨z,hz,eA0.2 hs⟩)
 simpa using this
theorem zL0:Bests (λ_=>False) []:=⟨by simp_all,λ_ h=>h.elim,List.Pairwise.nil⟩
def dK1 (x:Nd):List Nd->List Nd
 | []=>[x]
 | y::r=>if iZ x y then x::y::r else y::dK1 x r
def qK1 (L:List Nd) (x:Nd):List Nd:=if L.any λy=>decide (cK y x/\cF y x) then L else dK1 x (L.filter λy => !decide (cK y x))
theorem nP {x y:Nd}:∀ {L:List Nd},y∈dK1 x L↔y=x\/y∈L
 | []=>by simp[dK1]
 | z::r=>by
  unfold dK1;split
  ·simp
  ·rw[Be,nP (L:=r),Be]
   grind
theorem sG0 {x:Nd}:∀ {L:List Nd},(L.Pairwise λx y=>iZ x y=true)->(∀y∈L, ¬cK y x)->(dK1 x L).Pairwise λx y=>iZ x y=true
 | [],_,_=>by simp[dK1]
 | z::r,h,hx=>by
  obtain⟨hz,hr⟩:=List.pairwise_cons.1 h;unfold dK1;split
  ·rename_i hl
   refine List.pairwise_cons.2 ⟨λy hy=>?_,h⟩;rcases List.mem_cons.1 hy with rfl|hy
   ·exact hl
   ·exact pV hl (hz y hy)
  ·rename_i hl
   refine List.pairwise_cons.2 ⟨λy hy=>?_,sG0 hr (by simp_all)⟩;rcases nP.1 hy with rfl|hy
   ·exact xY (λe=>hx z (by simp) (iW0 e.symm)) hl
   ·exact hz y hy
theorem sJ0 {x:Nd}:∀ {L:List Nd},(L.Pairwise λx y=>¬cK x y)->(∀y∈L, ¬cK y x)->(dK1 x L).Pairwise λx y=>¬cK x y
 | [],_,_=>by simp[dK1]
 | z::r,h,hx=>by
  obtain⟨hz,hr⟩:=List.pairwise_cons.1 h;unfold dK1;split
  ·grind [List.pairwise_cons,cK]
  ·refine List.pairwise_cons.2 ⟨λy hy=>?_,sJ0 hr (by simp_all)⟩
   grind [nP]
theorem iN.put {O:Nd->Prop} {L:List Nd} (h:iN O L) (x:Nd):iN (λy=>O y\/y=x) (qK1 L x):=by
 unfold qK1;split
 ·rename_i ha
  obtain⟨z,hz,hb⟩:=List.any_eq_true.1 ha;have hb:=of_decide_eq_true hb;refine⟨⟨λy hy=>Or.inl (h.sub y hy),λy hy=>?_,h.one⟩,h.srt⟩;rcases hy with hy|rfl
  ·exact h.cov y hy
  simp_all
 ·rename_i ha
  have g9:∀y∈L,cK y x->¬cF y x:=by simp_all
  have hf:∀y,y∈L.filter (λy => !decide (cK y x))↔y∈L/\¬cK y x:=by simp_all
  refine⟨⟨λy hy=>?_,λy hy=>?_,sJ0 (h.one.sublist Bp) (by simp_all)⟩,sG0 (h.srt.sublist Bp) (by simp_all)⟩
  ·rcases nP.1 hy with rfl|hy
   ·exact Or.inr rfl
   ·exact Or.inl (h.sub y ((hf y).1 hy).1)
  ·rcases hy with hy|rfl
   ·obtain⟨z,hz,h1,h2⟩:=h.cov y hy
    by_cases hs:cK z x
    ·exact⟨x,nP.2 (Or.inl rfl),hs.symm.trans h1,(dK0 (g9 z hz hs)).trans h2⟩
    grind [nP]
   ·exact⟨y,nP.2 (Or.inl rfl),cK.refl y,cF.refl y⟩
def xF0 (L:List Nd) (l:List Nd):List Nd:=l.foldl qK1 L
theorem iN.putAll {O:Nd->Prop}:∀(l:List Nd) {L:List Nd},iN O L->iN (λy=>O y\/y∈l) (xF0 L l)
 | [],L,h=>h.congr λx=>by simp
 | x::l,L,h=>by
  refine(iN.putAll l (h.put x)).congr λy=>?_;grind
theorem cZ1:iN (λ_=>False) []:=⟨zL0,List.Pairwise.nil⟩
theorem kL0 (l:List Nd):iN (λy=>y∈l) (xF0 [] l):=(cZ1.putAll l).congr λx=>by simp
end
section
open Go Go.RowKit
attribute [local go_sem] aO
theorem bB1 (p:dE) (name:ByteArray) (b:Nat) (w:World) (hc:w.cell? ⟨b,0,none⟩=some (.string name)) (hb:b<w.heap.size) :
  Calls Tryz.prog 199 #[.agg #[.string p.name,.int .i64 p.kind],.pointer (some ⟨b,0,none⟩)] w λe w'=>e=.returned (.bool (seq p.name name))/\aB w w':=by
 have aj:b≠w.heap.size:=by omega
 go_enter Tryz.func199,Tryz.ntmps199
 go_wp2
 go_ret;exact⟨rfl,aB.alloc _ _⟩
def rF1 (o:Option Nat):Int:=match o with|some k=>k|none => -1
theorem hP0 (l:List dE) (name:ByteArray) (a:Option Addr) (cap b:Nat) (w:World) (hl:l.length<=4611686018427387904) (hs:aG w a 2 (l.map cX)) (hc:w.cell? ⟨b,0,none⟩=some (.string name)) :
  Calls Tryz.prog 198 #[.slice a l.length cap,.func (.func 199) #[] #[.pointer (some ⟨b,0,none⟩)]] w λe w'=>e=.returned (.int .i64 (rF1 (mC l name)))/\aB w w':=by
 have HS:=At hs;have HC:=At hc;clear hs hc;go_enter Tryz.func198,Tryz.ntmps198
 go_wp2
 go_loopw [8] (λi wr=>∃k:Nat,k<=l.length/\i=.int .i64 k/\Hid (∀j q,j<k->l[j]?=some q->seq q.name name=false)/\aB w wr) (λi _=>l.length-(intOf i).toNat)
 case atStart=>exact⟨0,Am _,rfl,λj q hj=>by omega,aB.refl _⟩
 case round =>
  obtain⟨k,hk,rfl,hz,hg⟩:=hrel;by_cases ae:k<l.length
  ·obtain⟨p,hp⟩:∃p,l[k]?=some p:=⟨_,Ak ae⟩
   obtain⟨bl,off,rfl,bj⟩:=(HS.out.grows hg).get (aK ae);have c0:wr.cell? ⟨bl,off+k*2,none⟩=some (.string p.name):=bj k p hp 0 _ rfl;have c1:wr.cell? ⟨bl,off+k*2+1,none⟩=some (.int .i64 p.kind):=bj k p hp 1 _ rfl;clear bj;have HP:=At hp;clear hp;have ii:=bB1 p name b wr (hg.cell HC.out) (World.block_lt_of_cell? wr _ (hg.cell HC.out));have HCON:=At ii;clear ii;cases hq:seq p.name name
   ·rw[hq]at HCON
    have HQ:=At hq;clear hq;go_wp2_with (go_at_call 199;refine HCON.out.mono ?_;rintro e w' ⟨rfl,af⟩)
    go_roundw
    case rel=>exact⟨k+1,by omega,by go_num,λj q hj hq=>by
     rcases Nat.lt_succ_iff_lt_or_eq.1 hj with h|rfl
     ·exact hz.out j q h hq
     ·rw[HP.out]at hq;obtain rfl:=Option.some.inj hq;exact HQ.out,hg.tr af⟩
    case measure=>simp[intOf];omega
   ·rw[hq]at HCON
    have av:=At (nF0 HP.out hz.out hq);clear hq;go_wp2_with (go_at_call 199;refine HCON.out.mono ?_;rintro e w' ⟨rfl,af⟩)
    go_ret;exact⟨by rw[av.out];rfl,hg.tr af⟩
  ·obtain rfl:k=l.length:=by omega
   have av:=At (kN0 hz.out);go_wp2
   go_ret;exact⟨by rw[av.out];rfl,hg⟩
def lU1 (o:Option Nat):Int:=match o with|some k=>k|none=>0
theorem pL0 (l:List dE) (name:ByteArray) (a:Option Addr) (cap:Nat) (w:World) (hl:l.length<=4611686018427387904) (hs:aG w a 2 (l.map cX)) :
  Calls Tryz.prog 137 #[.slice a l.length cap,.string name] w λe w'=>e=.returned (.tuple #[.int .i64 (lU1 (mC l name)),.bool (mC l name).isSome])/\aB w w':=by
 have ii:=At (hP0 l name a cap w.heap.size (w.alloc (.cells #[.string name] 9)) hl (hs.grows (aB.alloc _ _)) (aT _ _ _ _ _ _ rfl));clear hs
 cases hq:mC l name with
 | none =>
  rw[hq]at ii;clear hq;go_enter Tryz.func137,Tryz.ntmps137
  go_wp2_with (go_at_call 198;refine ii.out.mono ?_;rintro e w' ⟨rfl,af⟩)
  go_ret2;exact⟨rfl,(aB.alloc _ _).tr af⟩
 | some k =>
  rw[hq]at ii;clear hq;go_enter Tryz.func137,Tryz.ntmps137
  go_wp2_with (go_at_call 198;refine ii.out.mono ?_;rintro e w' ⟨rfl,af⟩)
  go_ret2;exact⟨rfl,(aB.alloc _ _).tr af⟩
end
section
open Go Go.RowKit
def dD (x:Nd):List Value:=[.int .i64 x.f,.int .i64 x.t,.string x.s,.int .i64 x.l,.int .i64 x.r,.int .i64 x.c,.int .i64 x.k]
def Nd.agg (x:Nd):Value := .agg #[.int .i64 x.f,.int .i64 x.t,.string x.s,.int .i64 x.l,.int .i64 x.r,.int .i64 x.c,.int .i64 x.k]
structure gP0 (x:Nd):Prop where
 f:WfI x.f
 t:WfI x.t
 s:x.s.size<=maxLen
 l:WfI x.l
 r:WfI x.r
 c:WfI x.c
 k:WfI x.k
def klN (x:Nd):Lit := .string (keyBytes [.int .i64 x.f,.int .i64 x.t,.string x.s.data.toList,.int .i64 x.l,.int .i64 x.r,.int .i64 x.c,.int .i64 x.k])
theorem gG:Go.Maps.Keyed Tryz.prog 51:=Go.Maps.Keyed.of_law (deep_law_laid yX (m:=3) (by decide) (of_decide_eq_true (by kernel_rfl)) (by kernel_rfl) (by kernel_rfl))
theorem qA1 {x:Nd} (h:gP0 x):Go.keyOf Tryz.prog 51 x.agg=some (klN x):=by
 obtain⟨m,hm⟩:∃m,Tryz.prog.types.size=m+1:=⟨Tryz.prog.types.size-1,by have:0<Tryz.prog.types.size:=of_decide_eq_true (by kernel_rfl);omega⟩
 have hS:∀(s:ByteArray),s.size<=maxLen->Tryz.prog.keyLits (m+1) 9 [.string s]=some [.string s.data.toList]:=λs hs=>by
  unfold Program.keyLits;simp only[Tryz.underlying9,if_pos hs]
 have hI:∀(n:Int),WfI n->Tryz.prog.keyLits (m+1) 3 [.int .i64 n]=some [.int .i64 n]:=λn hn=>by
  unfold Program.keyLits;unfold WfI at hn;simp only[Tryz.underlying3,hn,and_self,if_true]
 have hk:Tryz.prog.keyType 51=true:=by kernel_rfl
 have hc:Tryz.prog.cellsOf 51=7:=by kernel_rfl
 have cj:Tryz.prog.cellsOf 9=1:=by kernel_rfl
 have wl:Tryz.prog.cellsOf 3=1:=by kernel_rfl
 obtain⟨f,t,s,l,r,c,k⟩:=x;obtain⟨h1,h2,h3,h4,h5,h6,h7⟩:=h;have g1:=hI f h1;have g2:=hI t h2;have g3:=hS s h3;have g4:=hI l h4;have g5:=hI r h5;have g6:=hI c h6;have g7:=hI k h7;unfold Go.keyOf;simp only[Tryz.underlying51,hk,As];unfold Value.formed Nd.agg;simp only[Tryz.underlying51,hc];have hz:((#[Value.int .i64 f,.int .i64 t,.string s,.int .i64 l,.int .i64 r,.int .i64 c,.int .i64 k]:Array Value).size==7)=true:=rfl;rw[if_pos hz,hm];unfold Program.keyLits;simp only[Tryz.underlying51,hc,Value.cells];simp[cj,wl,g1,g2,g3,g4,g5,g6,g7,klN]
theorem oE0 {x y:Nd} (hx:gP0 x) (hy:gP0 y) (h:klN x=klN y):x=y:=by
 have h1:=qA1 hx;have h2:=qA1 hy;rw[h]at h1
 have:=gG.inj h1 h2
 obtain⟨a,b,c,d,e,f,g⟩:=x;obtain⟨a',b',c',d',e',f',g'⟩:=y;simpa [Nd.agg] using this
theorem qN0 {key:Value} {kl:Lit} (h:Go.keyOf Tryz.prog 51 key=some kl):∃x:Nd,gP0 x/\key=x.agg/\kl=klN x:=by
 obtain⟨m,hm⟩:∃m,Tryz.prog.types.size=m+1:=⟨Tryz.prog.types.size-1,by have:0<Tryz.prog.types.size:=of_decide_eq_true (by kernel_rfl);omega⟩
 have hS:∀(v:Value) (ls:List Lit),Tryz.prog.keyLits (m+1) 9 [v]=some ls->∃s:ByteArray,v=.string s/\s.size<=maxLen/\ls=[.string s.data.toList]:=λv ls h=>by
  unfold Program.keyLits at h;simp only[Tryz.underlying9]at h;cases v<;>simp at h
  rename_i s
  exact⟨s,rfl,h.1,h.2.symm⟩
 have hI:∀(v:Value) (ls:List Lit),Tryz.prog.keyLits (m+1) 3 [v]=some ls->∃n:Int,v=.int .i64 n/\WfI n/\ls=[.int .i64 n]:=λv ls h=>by
  unfold Program.keyLits at h;simp only[Tryz.underlying3]at h;cases v<;>simp at h
  obtain⟨⟨rfl,h2⟩,h3⟩:=h;exact⟨_,rfl,h2,h3.symm⟩
 have hk:Tryz.prog.keyType 51=true:=by kernel_rfl
 have hc:Tryz.prog.cellsOf 51=7:=by kernel_rfl
 have cj:Tryz.prog.cellsOf 9=1:=by kernel_rfl
 have wl:Tryz.prog.cellsOf 3=1:=by kernel_rfl
 unfold Go.keyOf at h;simp only[Tryz.underlying51,hk,As]at h;split at h
 ·rename_i hf
  rw[hm]at h
  obtain⟨cs,rfl,de⟩:∃cs,key=.agg cs/\cs.size=7:=by
   unfold Value.formed at hf;cases key<;>simp[Tryz.underlying51,hc]at hf
   exact⟨_,rfl,hf⟩
  obtain⟨l⟩:=cs
  match l,de with
  | [c0,c1,c2,c3,c4,c5,c6],_ =>
   rw[jL Tryz.underlying51]at h;simp only[Value.cells]at h;simp[cj,wl,hc,Aw,Bk]at h;obtain⟨l0,g0,a1,⟨l1,g1,a2,⟨l2,g2,a3,⟨l3,g3,a4,⟨l4,g4,a5,⟨l5,g5,a6,⟨l6,g6,rfl⟩,rfl⟩,rfl⟩,rfl⟩,rfl⟩,rfl⟩,rfl⟩:=h;obtain⟨n0,rfl,z0,rfl⟩:=hI _ _ g0;obtain⟨n1,rfl,z1,rfl⟩:=hI _ _ g1;obtain⟨s2,rfl,z2,rfl⟩:=hS _ _ g2;obtain⟨n3,rfl,z3,rfl⟩:=hI _ _ g3;obtain⟨n4,rfl,z4,rfl⟩:=hI _ _ g4;obtain⟨n5,rfl,z5,rfl⟩:=hI _ _ g5;obtain⟨n6,rfl,z6,rfl⟩:=hI _ _ g6;exact⟨⟨n0,n1,s2,n3,n4,n5,n6⟩,⟨z0,z1,z2,z3,z4,z5,z6⟩,rfl,by simp[klN]⟩
 ·cases h
def pZ (c:Nat):List Value:=[.int .i32 c]
end
section
open Go
def oR:List UInt8->List UInt8->Nat
 | a::x,b::y=>if a=b then oR x y+1 else 0
 | _,_=>0
theorem sI0 (b:List UInt8):oR [] b=0:=by cases b<;>rfl
theorem bS1 (a:List UInt8):oR a []=0:=by cases a<;>rfl
theorem nD0:∀(a b:List UInt8),oR a b<=a.length/\oR a b<=b.length
 | [],b=>by grind [oR]
 | a::x,[]=>by grind [oR]
 | a::x,b::y=>by
  have:=nD0 x y
  grind [oR]
theorem aR0:∀(a:List UInt8),oR a a=a.length
 | []=>rfl
 | a::x=>by unfold oR;rw[if_pos rfl,aR0 x];rfl
theorem lY:∀(e:Nat) (a b:List UInt8),e<=oR a b↔e<=a.length/\e<=b.length/\a.take e=b.take e
 | 0,a,b=>by simp
 | e+1,[],b=>by rw[sI0];simp
 | e+1,a::x,[]=>by rw[bS1];simp
 | e+1,a::x,b::y=>by
  unfold oR;by_cases h:a=b
  ·subst h
   rw[if_pos rfl]
   have:=lY e x y
   simp_all
  simp_all
theorem kO0 {e:Nat} {a b:List UInt8} (h:e<=oR a b) (ha:e<a.length) (hb:e<b.length):e+1<=oR a b↔a[e]?=b[e]?:=by
 grind [lY,Ap,List.append_cancel_left]
theorem pG:∀(e:Nat) {a b c:List UInt8},Aa a b=true->Aa b c=true->e<=oR a c->e<=oR a b/\e<=oR b c
 | 0,_,_,_,_,_,_=>by omega
 | e+1,[],_,c,_,_,h=>by grind [oR]
 | e+1,_::_,_,[],_,_,h=>by grind [oR]
 | e+1,_::_,[],_::_,h,_,_=>by simp[Aa]at h
 | e+1,x::a,y::b,z::c,h1,h2,h=>by
  unfold oR at h;split at h
  case isFalse=>omega
  rename_i hxz
  subst hxz;simp only[Aa,Ai,Ad,decide_eq_true_eq,beq_iff_eq]at h1 h2
  have wg:x=y:=by
   rcases h1 with h1|h1
   ·grind
   ·exact h1.1
  subst wg;have ae:¬x<x:=by simp_all
  have k1:Aa a b=true:=by
   rcases h1 with h1|h1
   ·exact absurd h1 ae
   ·exact h1.2
  have k2:Aa b c=true:=by
   rcases h2 with h2|h2
   ·exact absurd h2 ae
   ·exact h2.2
  have:=pG e k1 k2 (by omega)
  grind [oR]
theorem wL0 {e:Nat} {a b c:List UInt8} (h1:e<=oR a b) (h2:e<=oR b c):e<=oR a c:=by
 rw[lY] at *;simp_all
theorem lJ0:∀(a b:List UInt8),oR a b=oR b a
 | [],b=>by grind [oR]
 | a::x,[]=>by grind [oR]
 | a::x,b::y=>by
  unfold oR;by_cases h:a=b
  ·rw[if_pos h,if_pos h.symm,lJ0 x y]
  grind
theorem pW:∀ {a b:List UInt8},Aa a b=true->oR a b<b.length
 | [],[],h=>by simp[Aa]at h
 | [],_::_,_=>by rw[sI0];simp
 | _::_,[],h=>by simp[Aa]at h
 | x::a,y::b,h=>by
  simp only[Aa,Ai,Ad,decide_eq_true_eq,beq_iff_eq]at h;unfold oR;split
  ·rename_i wg
   subst wg;have ae:¬x<x:=by simp_all
   rcases h with h|h
   ·exact absurd h ae
   ·have:=pW h.2
    simp_all
  ·simp
def nth (L:List (List UInt8)) (j:Nat):List UInt8:=L.getD j []
theorem eE0 {L:List (List UInt8)} {j:Nat} {x:List UInt8} (h:L[j]?=some x):nth L j=x:=by
 grind [nth]
theorem iX {L:List (List UInt8)} {j:Nat} (h:j<L.length):L[j]?=some (nth L j):=by
 grind [nth]
def cAt (L:List (List UInt8)) (j:Nat):Nat:=oR (nth L (j-1)) (nth L j)
def Asc (L:List (List UInt8)):Prop:=∀j,j+1<L.length->Aa (nth L j) (nth L (j+1))=true
theorem Asc.lt {L:List (List UInt8)} (h:Asc L):∀(j i:Nat),i<j->j<L.length->Aa (nth L i) (nth L j)=true
 | 0,i,hi,_=>by omega
 | j+1,i,hi,hj=>by
  rcases Ab i j with h1|h1
  ·exact gK (h.lt j i h1 (by omega)) (h j hj)
  ·rw[show i=j by omega];exact h j hj
theorem Asc.all {L:List (List UInt8)} (h:Asc L) {e i j m:Nat} (hj:j<L.length) (q9:i<m) (qn:m<=j) (he:e<=oR (nth L i) (nth L j)):e<=cAt L m:=by
 have h1:e<=oR (nth L (m-1)) (nth L j):=by
  rcases Ab i (m-1) with h1|h1
  ·exact(pG e (h.lt _ _ h1 (by omega)) (h.lt _ _ (by omega) hj) he).2
  ·grind
 unfold cAt;rcases Ab m j with h2|h2
 ·exact(pG e (h.lt _ _ (by omega) (by omega)) (h.lt _ _ h2 hj) h1).1
 grind
theorem vV {L:List (List UInt8)} {e i:Nat} (hi:e<=(nth L i).length):∀(j:Nat),i<=j->(∀m,i<m->m<=j->e<=cAt L m)->e<=oR (nth L i) (nth L j)
 | 0,hj,_=>by
  grind [aR0]
 | j+1,hj,h=>by
  rcases Ab i (j+1) with h1|h1
  ·exact wL0 (vV hi j (by omega) (by grind)) (h (j+1) h1 (Ac _))
  grind [aR0]
def jH1 (p:Nat->Bool) (t:Nat):Nat->Nat->Nat
 | 0,k=>k
 | f+1,k=>if k<t/\p k=true then jH1 p t f (k+1) else k
def tV (p:Nat->Bool) (t k:Nat):Nat:=jH1 p t (t-k) k
theorem uS {p:Nat->Bool} {t k:Nat} (h:k<t) (hp:p k=true):tV p t k=tV p t (k+1):=by
 unfold tV;rw[show t-k=(t-(k+1))+1 by omega,jH1,if_pos ⟨h,hp⟩]
theorem kM {p:Nat->Bool} {t k:Nat} (h:¬(k<t/\p k=true)):tV p t k=k:=by
 unfold tV
 cases hf:t-k with
 | zero=>rfl
 | succ f=>rw[jH1,if_neg h]
theorem uG (p:Nat->Bool) (t:Nat):∀(f k:Nat),t-k=f->k<=t->k<=tV p t k/\tV p t k<=t/\(∀j,k<=j->j<tV p t k->p j=true)/\(tV p t k<t->p (tV p t k)=false)
 | 0,k,hf,hk=>by
  rw[kM (by omega)];grind
 | f+1,k,hf,hk=>by
  by_cases h:k<t/\p k=true
  ·rw[uS h.1 h.2]
   obtain⟨a,b,c,d⟩:=uG p t f (k+1) (by omega) (by omega);grind
  ·rw[kM h]
   grind
structure dP where
 i:Nat
 t:Nat
 d:Nat
def kB (L:List (List UInt8)) (d i k:Nat):Bool:=(nth L k)[d]?==(nth L i)[d]?
def fE (L:List (List UInt8)) (d t i:Nat):Nat:=tV (kB L d i) t (i+1)
def oM (L:List (List UInt8)) (d t:Nat):Nat->Nat->List dP
 | 0,_=>[]
 | f+1,i=>if i<t then ⟨i,fE L d t i,d+1⟩::oM L d t f (fE L d t i) else []
theorem aS0 (L:List (List UInt8)) {d t i:Nat} (h:i<t):i<fE L d t i/\fE L d t i<=t:=by
 have:=uG (kB L d i) t _ (i+1) rfl h
 grind [fE]
theorem zR (L:List (List UInt8)) (d t:Nat):∀(f g i:Nat),t-i<=f->t-i<=g->oM L d t f i=oM L d t g i
 | 0,0,_,_,_=>rfl
 | 0,g+1,i,hf,_=>by grind [oM]
 | f+1,0,i,_,hg=>by grind [oM]
 | f+1,g+1,i,hf,hg=>by
  rw[oM,oM];split
  ·rename_i h
   have:=aS0 L (d:=d) h
   rw[zR L d t f g _ (by omega) (by omega)]
  ·rfl
def gO (L:List (List UInt8)) (d t i:Nat):List dP:=oM L d t (t-i) i
theorem iQ {L:List (List UInt8)} {d t i:Nat} (h:i<t):gO L d t i=⟨i,fE L d t i,d+1⟩::gO L d t (fE L d t i):=by
 have:=aS0 L (d:=d) h
 unfold gO;rw[show t-i=(t-i-1)+1 by omega,oM,if_pos h,zR L d t (t-i-1) (t-fE L d t i) _ (by omega) (by omega)]
theorem jO {L:List (List UInt8)} {d t i:Nat} (h:¬i<t):gO L d t i=[]:=by
 unfold gO;rw[show t-i=0 by omega];rfl
def jB (L:List (List UInt8)) (x:dP):Bool:=decide (x.i<x.t)&&(nth L x.i).length==x.d
def dB (L:List (List UInt8)) (x:dP):Nat:=if jB L x then x.i+1 else x.i
def fX (L:List (List UInt8)) (x:dP):List dP:=gO L x.d x.t (dB L x)
structure vZ (L:List (List UInt8)) (x:dP):Prop where
 le:x.i<=x.t/\x.t<=L.length
 ne:x.i<x.t\/x.d=0
 len:∀j,x.i<=j->j<x.t->x.d<=(nth L j).length
 inn:∀j,x.i<j->j<x.t->x.d<=cAt L j
 lo:x.i=0\/cAt L x.i<x.d
 hi:x.t=L.length\/cAt L x.t<x.d
def rootS (L:List (List UInt8)):dP:=⟨0,L.length,0⟩
theorem cB1 (L:List (List UInt8)):vZ L (rootS L):=⟨⟨Am _,Ac _⟩,Or.inr rfl,λ_ _ _=>Am _,λ_ _ _=>Am _,Or.inl rfl,Or.inl rfl⟩
theorem vZ.long {L:List (List UInt8)} (hL:Asc L) {x:dP} (g:vZ L x) {j:Nat} (h1:x.i<j) (h2:j<x.t):x.d<(nth L j).length:=by
 have hc:=g.inn j h1 h2;have hl:=pW (hL.lt j (j-1) (by omega) (by have:=g.le;omega));unfold cAt at hc;omega
theorem vZ.start {L:List (List UInt8)} (hL:Asc L) {x:dP} (g:vZ L x) {j:Nat} (h1:dB L x<=j) (h2:j<x.t):x.d<(nth L j).length:=by
 unfold dB jB at h1;split at h1
 ·exact g.long hL (by omega) h2
 ·rename_i h
  rcases Ab x.i j with h3|h3
  ·exact g.long hL h3 h2
  ·have hj:j=x.i:=by omega
   have:=g.len j (by omega) h2
   grind
def rT (L:List (List UInt8)) (e:Nat):Nat->List dP->Nat->Prop
 | lo,[],hi=>lo<=hi/\∀j,lo<=j->j<hi->(nth L j).length<e
 | lo,x::xs,hi=>lo<=x.i/\(∀j,lo<=j->j<x.i->(nth L j).length<e)/\vZ L x/\x.d=e/\rT L e x.t xs hi
theorem rT.le {L:List (List UInt8)} {e:Nat}:∀ {xs:List dP} {lo hi:Nat},rT L e lo xs hi->lo<=hi
 | [],_,_,h=>h.1
 | _::_,_,_,h=>by have:=rT.le h.2.2.2.2;have:=h.2.2.1.le;have:=h.1;omega
theorem rT.before {L:List (List UInt8)} {e:Nat}:∀ {xs:List dP} {lo lo' hi:Nat},lo'<=lo->(∀j,lo'<=j->j<lo->(nth L j).length<e)->rT L e lo xs hi->rT L e lo' xs hi
 | [],lo,lo',hi,h1,h2,h=>⟨Bh h1 h.1,λj a b=>by
  rcases Ab j lo with h3|h3
  ·exact h2 j a h3
  ·exact h.2 j h3 b⟩
 | _::_,lo,lo',hi,h1,h2,h=>⟨Bh h1 h.1,λj a b=>by
  rcases Ab j lo with h3|h3
  ·exact h2 j a h3
  ·exact h.2.1 j h3 b,h.2.2⟩
theorem rT.append {L:List (List UInt8)} {e:Nat}:∀ {xs ys:List dP} {lo ak hi:Nat},rT L e lo xs ak->rT L e ak ys hi->rT L e lo (xs++ys) hi
 | [],_,_,_,_,h1,h2=>rT.before h1.1 h1.2 h2
 | _::_,_,_,_,_,h1,h2=>⟨h1.1,h1.2.1,h1.2.2.1,h1.2.2.2.1,rT.append h1.2.2.2.2 h2⟩
theorem xS {L:List (List UInt8)} (hL:Asc L) {x:dP} (g:vZ L x):∀(f i:Nat),x.t-i<=f->dB L x<=i->i<=x.t->(i<x.t->i=0\/cAt L i<x.d+1)->rT L (x.d+1) i (gO L x.d x.t i) x.t
 | 0,i,hf,h1,h2,_=>by
  rw[jO (by omega)];exact⟨h2,λj a b=>by omega⟩
 | f+1,i,hf,h1,h2,h3=>by
  by_cases ae:i<x.t
  case neg =>
   rw[jO ae];exact⟨h2,λj a b=>by omega⟩
  rw[iQ ae];obtain⟨e1,e2,e3,e4⟩:=uG (kB L x.d i) x.t _ (i+1) rfl ae;have hn:=g.le;have hsx:x.i<=i:=by unfold dB at h1;split at h1<;>omega
  have ja:∀j,i<j->j<fE L x.d x.t i->x.d+1<=cAt L j:=by
   intro j
   induction j with
   | zero=>intro a;omega
   | succ j ih =>
    intro a b;have hj:j+1<x.t:=by unfold fE at b;omega
    have s1:=e3 (j+1) a b
    have s2:kB L x.d i j=true:=by
     rcases Ab i j with h|h
     ·exact e3 j h (by unfold fE at b;omega)
     ·rw[show j=i by omega];simp[kB]
    unfold kB at s1 s2;simp only[beq_iff_eq]at s1 s2;have hc:=g.inn (j+1) (by omega) hj;unfold cAt at hc ⊢;rw[Nat.add_sub_cancel]at hc ⊢;exact(kO0 hc (g.start hL (by omega) (by omega)) (g.start hL (by omega) hj)).2 (s2.trans s1.symm)
  have jg:fE L x.d x.t i<x.t->cAt L (fE L x.d x.t i)<x.d+1:=by
   intro hk;have s1:=e4 hk;generalize hK:fE L x.d x.t i=K at *;have oe:tV (kB L x.d i) x.t (i+1)=K:=hK;rw[oe]at e1 e2 e3 e4 s1;apply Ar
   intro ou;have hc:x.d+1<=cAt L K:=by omega
   have h0:x.d+1<=oR (nth L i) (nth L K):=vV (g.start hL h1 ae) K (by omega) (by grind);have h4:=(kO0 (Nat.le_of_succ_le h0) (g.start hL h1 ae) (g.start hL (by omega) hk)).1 h0;unfold kB at s1;rw[h4]at s1;simp at s1
  have hgt:=aS0 L (d:=x.d) ae;refine⟨Ac _,by grind,⟨by grind,Or.inl hgt.1,λj a b=>?_,ja,h3 ae,?_⟩,rfl,?_⟩
  ·have b':j<fE L x.d x.t i:=b
   exact g.start hL (Bh h1 a) (by omega)
  ·show fE L x.d x.t i=L.length\/cAt L (fE L x.d x.t i)<x.d+1
   rcases Ab (fE L x.d x.t i) x.t with h|h
   ·exact Or.inr (jg h)
   ·rw[show fE L x.d x.t i=x.t by omega]
    rcases g.hi with h2|h2
    ·exact Or.inl h2
    omega
  ·have ag5:=hgt.2
   have ajb:=hgt.1;exact xS hL g f (fE L x.d x.t i) (by omega) (by omega) ag5 (by omega)
theorem bO0 {L:List (List UInt8)} (hL:Asc L) {x:dP} (g:vZ L x):rT L (x.d+1) x.i (fX L x) x.t:=by
 have hs:x.i<=dB L x/\dB L x<=x.t:=by
  unfold dB jB
  have:=g.le
  split
  ·grind
  ·omega
 refine rT.before hs.1 (λj a b=>?_) (xS hL g _ _ (Ac _) (Ac _) hs.2 (λh=>?_))
 ·unfold dB at b
  split at b
  ·rename_i h
   unfold jB at h;grind
  ·omega
 ·unfold dB at h ⊢
  split
  ·rename_i hh
   rw[if_pos hh]at h;unfold jB at hh;simp only[Ad,beq_iff_eq]at hh;refine Or.inr ?_
   have:=(nD0 (nth L (x.i+1-1)) (nth L (x.i+1))).1
   unfold cAt;grind
  ·rcases g.lo with h2|h2
   ·exact Or.inl h2
   omega
theorem iX0 {L:List (List UInt8)} (hL:Asc L) {e:Nat}:∀ {xs:List dP} {lo hi:Nat},rT L e lo xs hi->rT L (e+1) lo (xs.flatMap (fX L)) hi
 | [],_,_,h=>by grind [rT]
 | x::xs,lo,hi,h=>by
  obtain⟨h1,h2,h3,h4,h5⟩:=h
  have:=bO0 hL h3
  rw[h4]at this;rw[Ah];exact(this.before h1 (by grind)).append (iX0 hL h5)
def lv (L:List (List UInt8)):Nat->List dP
 | 0=>[rootS L]
 | d+1=>(lv L d).flatMap (fX L)
theorem kY {L:List (List UInt8)} (hL:Asc L):∀d,rT L d 0 (lv L d) L.length
 | 0=>⟨Ac _,λ_ a b=>absurd b (Nat.not_lt.2 a),cB1 L,rfl,Ac _,λ_ a b=>absurd b (Nat.not_lt.2 a)⟩
 | d+1=>iX0 hL (kY hL d)
theorem rT.mem {L:List (List UInt8)} {e:Nat}:∀ {xs:List dP} {lo hi:Nat},rT L e lo xs hi->∀x∈xs,vZ L x/\x.d=e/\lo<=x.i/\x.t<=hi
 | [],_,_,_,x,hx=>by simp at hx
 | y::xs,lo,hi,h,x,hx=>by
  obtain⟨h1,h2,h3,h4,h5⟩:=h;rcases List.mem_cons.1 hx with rfl|hx
  ·exact⟨h3,h4,h1,rT.le h5⟩
  ·obtain⟨a,b,c,d⟩:=rT.mem h5 x hx
   exact⟨a,b,by have:=h3.le;omega,d⟩
def dV (L:List (List UInt8)) (e j:Nat):Bool:=decide (e<=(nth L j).length)&&(j==0||decide (cAt L j<e))
theorem rT.firsts {L:List (List UInt8)} {e:Nat} (he:0<e):∀ {xs:List dP} {lo hi:Nat},rT L e lo xs hi->xs.map (λx=>x.i)=(Ae lo (hi-lo)).filter (dV L e)
 | [],lo,hi,h=>by
  symm
  rw[List.map_nil,An];intro j hj;rw[Aq]at hj
  have:=h.2 j hj.1 (by omega)
  grind [dV]
 | x::xs,lo,hi,h=>by
  obtain⟨h1,h2,h3,h4,h5⟩:=h;have h6:=rT.le h5;have h7:=h3.le;have h8:x.i<x.t:=by rcases h3.ne with h|h<;>omega
  rw[List.map_cons,rT.firsts he h5,show hi-lo=(x.i-lo)+((1+(x.t-x.i-1))+(hi-x.t)) by omega,<-Aj,<-Aj,<-Aj,Ag,Ag,Ag]
  have e1:(Ae lo (x.i-lo)).filter (dV L e)=[]:=by
   rw[An];intro j hj;rw[Aq]at hj
   have:=h2 j hj.1 (by omega)
   simp only[dV,Ad,decide_eq_true_eq];omega
  have e2:(Ae (lo+(x.i-lo)) 1).filter (dV L e)=[x.i]:=by
   rw[show lo+(x.i-lo)=x.i by omega]
   have:dV L e x.i=true:=by
    unfold dV;have a1:=h3.len x.i (Ac _) h8;rw[h4]at a1;simp only[Ad,decide_eq_true_eq,Ai,beq_iff_eq];refine⟨a1,?_⟩;rcases h3.lo with a2|a2
    ·exact Or.inl a2
    ·omega
   simp[Ae,this]
  have e3:(Ae (lo+(x.i-lo)+1) (x.t-x.i-1)).filter (dV L e)=[]:=by
   rw[An];intro j hj;rw[Aq]at hj
   have:=h3.inn j (by omega) (by omega)
   have qk:¬j=0:=by omega
   have hc:¬cAt L j<e:=by omega
   simp[dV,qk,hc]
  grind
end
section
open Go
def spanS (L:List (List UInt8)) (x:dP):List UInt8:=(nth L x.i).take x.d
def nodesA (L:List (List UInt8)):List dP:=(Af 257).flatMap (lv L)
theorem vZ.slen {L:List (List UInt8)} {x:dP} (g:vZ L x):(spanS L x).length=x.d:=by
 unfold spanS;rw[Bv];rcases g.ne with h|h
 ·have:=g.len x.i (Ac _) h;omega
 ·omega
theorem vZ.same {L:List (List UInt8)} {x y:dP} (gx:vZ L x) (gy:vZ L y) (hi:x.i=y.i) (hd:x.d=y.d):x=y:=by
 have key:∀ {x y:dP},vZ L x->vZ L y->x.i=y.i->x.d=y.d->¬x.t<y.t:=by
  intro x y gx gy hi hd h;have h1:=gx.hi;have h2:=gy.le;rcases h1 with h1|h1
  ·omega
  ·rcases gx.ne with h3|h3
   ·have:=gy.inn x.t (by omega) h;omega
   ·omega
 have k1:=key gx gy hi hd;have k2:=key gy gx hi.symm hd.symm;obtain⟨xi,xt,xd⟩:=x;obtain⟨yi,yt,yd⟩:=y;simp only at hi hd k1 k2;subst hi;subst hd;rw[show xt=yt by omega]
theorem vZ.inj {L:List (List UInt8)} (hL:Asc L) {x y:dP} (gx:vZ L x) (gy:vZ L y) (h:spanS L x=spanS L y):x=y:=by
 have hd:x.d=y.d:=by rw[<-gx.slen,<-gy.slen,h]
 refine gx.same gy ?_ hd
 have key:∀ {x y:dP},vZ L x->vZ L y->x.d=y.d->spanS L x=spanS L y->¬x.i<y.i:=by
  intro x y gx gy hd h ae;rcases gy.ne with h3|h3
  ·have a1:x.d<=(nth L x.i).length:=by
    have:=gx.slen;unfold spanS at this;rw[Bv]at this;omega
   have a2:=gy.len y.i (Ac _) h3;unfold spanS at h
   have:=hL.all (i:=x.i) (j:=y.i) (m:=y.i) (by have:=gy.le;omega) ae (Ac _) ((lY x.d _ _).2 (by simp_all))
   rcases gy.lo with h4|h4<;>omega
  ·rcases gy.lo with h4|h4<;>omega
 grind
theorem mU {L:List (List UInt8)} (hL:Asc L) {x:dP} (h:x∈nodesA L):vZ L x:=by
 unfold nodesA at h;obtain⟨d,_,h⟩:=List.mem_flatMap.1 h;exact((kY hL d).mem x h).1
def rD0 (x y:dP):Prop:=x.d<y.d\/(x.d=y.d/\x.i<y.i)
theorem rT.pairwise {L:List (List UInt8)} {e:Nat} (he:0<e):∀ {xs:List dP} {lo hi:Nat},rT L e lo xs hi->xs.Pairwise rD0
 | [],_,_,_=>List.Pairwise.nil
 | x::xs,lo,hi,h=>by
  obtain⟨_,_,h3,h4,h5⟩:=h;refine List.pairwise_cons.2 ⟨λy hy=>?_,rT.pairwise he h5⟩;obtain⟨_,k2,k3,_⟩:=h5.mem y hy;refine Or.inr ⟨by omega,?_⟩;rcases h3.ne with h|h<;>omega
theorem jN {L:List (List UInt8)} (hL:Asc L):(nodesA L).Pairwise rD0:=by
 unfold nodesA;rw[List.pairwise_flatMap];refine⟨λd _=>?_,?_⟩
 ·cases d with
  | zero=>simp[lv]
  | succ d=>exact(kY hL (d+1)).pairwise (Ba _)
 ·refine List.pairwise_lt_range.imp ?_
  intro a b gp x hx y hy;have h1:=((kY hL a).mem x hx).2.1;have h2:=((kY hL b).mem y hy).2.1;exact Or.inl (by omega)
theorem pL1 {L:List (List UInt8)} (hL:Asc L) {d:Nat} (hd0:0<d) (h:∀s∈L,s.length<d):lv L d=[]:=by
 apply List.eq_nil_iff_forall_not_mem.2
 intro x hx;obtain⟨g,hd,_,_⟩:=(kY hL d).mem x hx;rcases g.ne with h1|h1
 ·have h2:=g.len x.i (Ac _) h1
  have h3:=h (nth L x.i) (Bn (iX (by have:=g.le;omega)));omega
 ·omega
theorem uT0 {L:List (List UInt8)} (hL:Asc L) {n:Nat} (h:∀s∈L,s.length<n+1):(Af (n+1)).flatMap (lv L)=rootS L::((Af (n+1)).flatMap (lv L)).flatMap (fX L):=by
 have e2:((Af (n+1)).flatMap (lv L)).flatMap (fX L)=(Af (n+1)).flatMap (λd=>lv L (d+1)):=by
  rw[List.flatMap_assoc];rfl
 rw[e2,Au,Al (f:=λd=>lv L (d+1))];simp only[Ah,Bw,Ay];rw[pL1 hL (Ba n) h,Ay,<-Au,Bi,Ah,Bf];rfl
theorem wW0 {L:List (List UInt8)} (hL:Asc L) (h:∀s∈L,s.length<=256):nodesA L=rootS L::(nodesA L).flatMap (fX L) :=
 (by grind [uT0,nodesA])
section bfs
variable {α:Type} {r:α} {kd:α->List α} {A:List α}
def eX (r:α) (kd:α->List α) (A:List α) (i:Nat):List α:=r::(A.take i).flatMap kd
theorem rX (hA:A=r::A.flatMap kd) (i:Nat):A=eX r kd A i++(A.drop i).flatMap kd:=by
 unfold eX;rw[By,<-Al,List.take_append_drop];exact hA
theorem qL {i:Nat} {x:α} (h:A[i]?=some x):eX r kd A (i+1)=eX r kd A i++kd x:=by
 unfold eX;rw[Ap,h,Al];simp
theorem fW1 (hA:A=r::A.flatMap kd) (i:Nat):(eX r kd A i).length<=A.length:=by
 have:=congrArg List.length (rX hA i)
 grind
theorem lD0 (hA:A=r::A.flatMap kd) {i k:Nat} (h:k<(eX r kd A i).length):(eX r kd A i)[k]?=A[k]?:=by
 have h1:A[k]?=(eX r kd A i++(A.drop i).flatMap kd)[k]?:=congrArg (λl=>l[k]?) (rX hA i);grind
theorem wJ0 {i j:Nat} (h:i<=j):(eX r kd A i).length<=(eX r kd A j).length:=by
 unfold eX;obtain⟨d,rfl⟩:∃d,j=i+d:=⟨j-i,by omega⟩;grind
theorem zT0 (hA:A=r::A.flatMap kd) (dep:α->Nat) (hd:∀x, ∀y∈kd x,dep y=dep x+1) (hp:A.Pairwise λx y=>dep x<=dep y) {i:Nat} (hi:i<A.length):i<(eX r kd A i).length:=by
 apply Ar
 intro ou;have h1:=rX hA i
 have h2:A[i]∈(A.drop i).flatMap kd:=by
  have h3:A[i]?=(eX r kd A i++(A.drop i).flatMap kd)[i]?:=by grind
  rw[Bb (by omega),Ak hi]at h3;exact by grind
 obtain⟨x,hx,hk⟩:=List.mem_flatMap.1 h2;have h4:=hd x _ hk;obtain⟨j,hj⟩:=List.mem_iff_getElem?.1 hx;rw[List.getElem?_drop]at hj;obtain⟨hj1,lx⟩:=List.getElem?_eq_some_iff.1 hj;rcases Av j with h5|h5
 ·subst h5
  grind
 grind [Bd]
theorem jN0 (hA:A=r::A.flatMap kd):eX r kd A A.length=A:=by
 grind [eX]
theorem wG (hA:A=r::A.flatMap kd):∀(i k:Nat),1<=k->k<(eX r kd A i).length->∃p,p<i/\(eX r kd A p).length<=k/\k<(eX r kd A (p+1)).length
 | 0,k,h1,h2=>by grind [eX]
 | i+1,k,h1,h2=>by
  rcases Ab k (eX r kd A i).length with h|h
  ·obtain⟨p,a,b,c⟩:=wG hA i k h1 h
   grind
  grind
theorem lV0 (hA:A=r::A.flatMap kd) {p k:Nat} {x:α} (hx:A[p]?=some x) (h1:(eX r kd A p).length<=k) (h2:k<(eX r kd A (p+1)).length):A[k]?=(kd x)[k-(eX r kd A p).length]?:=by
 rw[<-lD0 hA h2,qL hx,Bb h1]
end bfs
theorem tO0 {L:List (List UInt8)} (hL:Asc L):(nodesA L).Pairwise λx y=>x.d<=y.d:=(jN hL).imp λh=>by rcases h with h|h<;>omega
theorem rK0 (L:List (List UInt8)) (d t:Nat):∀(f i:Nat), ∀y∈oM L d t f i,y.d=d+1
 | 0,_,y,h=>by simp[oM]at h
 | f+1,i,y,h=>by
  rw[oM]at h;split at h
  ·rcases List.mem_cons.1 h with rfl|h
   ·rfl
   ·exact rK0 L d t f _ y h
  ·simp at h
theorem jH0 (L:List (List UInt8)) (x:dP):∀y∈fX L x,y.d=x.d+1:=rK0 L x.d x.t _ _
theorem vE {L:List (List UInt8)} (hL:Asc L) {x y:dP} (g:vZ L x) (h:y∈fX L x):spanS L y=spanS L x++[(nth L y.i).getD x.d 0]:=by
 obtain⟨gy,hd,h1,h2⟩:=(bO0 hL g).mem y h;have h3:y.i<y.t:=by rcases gy.ne with h|h<;>omega
 have h4:=gy.len y.i (Ac _) h3
 have h5:(nth L y.i).take x.d=(nth L x.i).take x.d:=by
  rcases Ab x.i y.i with h6|h6
  ·have:=vV (L:=L) (e:=x.d) (i:=x.i) (g.len x.i (Ac _) (by omega)) y.i (by omega) (λm a b=>g.inn m a (by omega))
   exact((lY _ _ _).1 this).2.2.symm
  ·grind
 unfold spanS;rw[hd,Ap,h5,Ak (by omega),List.getD_eq_getElem?_getD,Ak (by omega)];rfl
def shapeL (L:List (List UInt8)) (A:List dP):List Bool:=[true,false]++A.flatMap λx=>Ca (fX L x).length true++[false]
def pS (L:List (List UInt8)) (x y:dP):UInt8:=(nth L y.i).getD x.d 0
def labelsL (L:List (List UInt8)) (A:List dP):List UInt8:=A.flatMap λx=>(fX L x).map (pS L x)
def isL (L:List (List UInt8)) (A:List dP):List Bool:=A.map (jB L)
def idsL (L:List (List UInt8)) (A:List dP):List Nat:=(A.filter (jB L)).map λx=>x.i
theorem bR0 {L:List (List UInt8)} (hL:Asc L):∀(A:List dP),(∀x∈A,vZ L x)->labelsL L A=(A.flatMap (fX L)).map λy=>(spanS L y).getLastD 0
 | [],_=>rfl
 | x::A,h=>by
  have:=bR0 hL A (by simp_all)
  unfold labelsL at *;rw[Ah,Ah,Az,this];congr 1
  apply Bq
  intro y hy;rw[vE hL (h x (by simp)) hy];simp[pS]
theorem qH {L:List (List UInt8)} (hL:Asc L) {x:dP} (g:vZ L x) (aj:∀s∈L,s≠[]) (j:Nat):(L[j]?=some (spanS L x))↔jB L x=true/\j=x.i:=by
 unfold jB;simp only[Ad,decide_eq_true_eq,beq_iff_eq];constructor
 ·intro h
  have hj:=(List.getElem?_eq_some_iff.1 h).1;have hs:=eE0 h
  have hd:x.d≠0:=λh0=>by
   have:=g.slen
   rw[h0]at this;exact aj _ (Bn h) (List.length_eq_zero_iff.1 this)
  have hit:x.i<x.t:=by rcases g.ne with h|h<;>omega
  have hlj:(nth L j).length=x.d:=by rw[hs,g.slen]
  have hcj:x.d<=oR (nth L x.i) (nth L j):=(lY _ _ _).2 ⟨g.len _ (Ac _) hit,by omega,by rw[hs];unfold spanS;rw[List.take_take,Nat.min_self]⟩
  have e1:¬j<x.i:=λae=>by
   have h1:=pW (hL.lt _ _ ae (by have:=g.le;omega));rw[lJ0]at hcj
   have:=hL.all (m:=x.i) (by have:=g.le;omega) ae (Ac _) hcj
   rcases g.lo with h4|h4<;>omega
  have e2:¬x.i<j:=λae=>by
   have:=pW (hL.lt _ _ ae hj);omega
  have e3:j=x.i:=by omega
  subst e3;exact⟨⟨hit,hlj⟩,rfl⟩
 ·rintro⟨⟨h1,h2⟩,rfl⟩
  rw[iX (by have:=g.le;omega)];unfold spanS;rw[List.take_of_length_le (by omega)]
end
section
open Go
def lZ (n:Nat) (out:List (List UInt8)) (s:List UInt8):List (List UInt8) :=
 if n<=s.length/\(out=[]\/out.getLastD []≠s.take n) then out++[s.take n] else out
def kE1 (L:List (List UInt8)) (n:Nat):List (List UInt8):=L.foldl (lZ n) []
def lB (L:List (List UInt8)) (n m:Nat):List (List UInt8):=((Ae 0 m).filter (dV L n)).map λj=>(nth L j).take n
theorem iT0 (L:List (List UInt8)) (n m:Nat):lB L n (m+1)=if dV L n m then lB L n m++[(nth L m).take n] else lB L n m:=by
 unfold lB;rw[Br,Ag,Az];grind
theorem dM1 (L:List (List UInt8)) (m:Nat):cAt L m<=(nth L (m-1)).length/\cAt L m<=(nth L m).length:=nD0 _ _
theorem jA0 {L:List (List UInt8)} (hL:Asc L) {n:Nat} (hn:0<n):∀m,m<=L.length->(L.take m).foldl (lZ n) []=lB L n m /\
  (((∀j,j<m->(nth L j).length<n)/\lB L n m=[])\/∃j,j<m/\n<=(nth L j).length/\(∀k,j<k->k<m->(nth L k).length<n)/\lB L n m≠[]/\(lB L n m).getLastD []=(nth L j).take n)
 | 0,_=>by grind [lB]
 | m+1,hm=>by
  obtain⟨h1,h2⟩:=jA0 hL hn m (by omega);rw[Ap,iX (by omega),List.foldl_append,h1];simp only[Option.toList_some,List.foldl_cons,List.foldl_nil];rw[iT0];by_cases hs:n<=(nth L m).length
  ·rcases h2 with ⟨h2,h3⟩|⟨j,h2,h3,h4,h5,h6⟩
   ·have hf:dV L n m=true:=by
     unfold dV;simp only[Ad,decide_eq_true_eq,Ai,beq_iff_eq];refine⟨hs,?_⟩;rcases Av m with h|h
     ·exact Or.inl h
     ·grind [dM1]
    grind [lZ]
   ·by_cases hq:(nth L j).take n=(nth L m).take n
    ·have hc:=(lY n _ _).2 ⟨h3,hs,hq⟩
     have hc2:=hL.all (m:=m) (by omega) h2 (Ac _) hc;grind [lZ,dV]
    ·have hf:dV L n m=true:=by
      unfold dV;simp only[Ad,decide_eq_true_eq,Ai,beq_iff_eq];refine⟨hs,Or.inr ?_⟩;apply Ar
      intro ou;have h7:=(dM1 L m).1
      have h8:j=m-1:=by
       rcases Ab j (m-1) with h|h
       ·grind
       ·omega
      have h9:n<=cAt L m:=by omega
      unfold cAt at h9;rw[<-h8]at h9;exact by grind [lY]
     grind [lZ]
  grind [lZ,dV]
theorem pB0 {L:List (List UInt8)} (hL:Asc L) {n:Nat} (hn:0<n):kE1 L n=lB L n L.length:=by
 have:=(jA0 hL hn L.length (Ac _)).1
 grind [kE1]
def kB1 (L:List (List UInt8)):List (List UInt8):=[]::(Ae 1 256).flatMap (kE1 L)
theorem lO1 {L:List (List UInt8)} (hL:Asc L) (d:Nat):(lv L (d+1)).map (spanS L)=kE1 L (d+1):=by
 have ht:=kY hL (d+1);rw[pB0 hL (Ba d)];unfold lB;have hf:=ht.firsts (Ba d);rw[Nat.sub_zero]at hf;rw[<-hf,List.map_map];apply Bq
 intro x hx;show (nth L x.i).take x.d=(nth L x.i).take (d+1)
 rw[(ht.mem x hx).2.1]
theorem uU0 {L:List (List UInt8)} (hL:Asc L):(nodesA L).map (spanS L)=kB1 L:=by
 have key:∀n,((Af (n+1)).flatMap (lv L)).map (spanS L)=[]::(Ae 1 n).flatMap (kE1 L):=by
  intro n;rw[Bi,Ah,Az,Bf,List.map_flatMap,List.range'_eq_map_range,Bf]
  have:(lv L 0).map (spanS L)=[[]]:=by simp[lv,spanS,rootS]
  rw[this];simp only[By,List.nil_append,List.cons.injEq,true_and];congr 1
  funext d
  rw[lO1 hL d,Nat.add_comm]
 exact key 256
def lX1 (L:List (List UInt8)) (j:Nat):Nat:=(nth L j).length-(if j=0 then 0 else cAt L j)
def uU (L:List (List UInt8)):Nat->Nat
 | 0=>1
 | m+1=>uU L m+lX1 L m
def eA (L:List (List UInt8)):Nat:=uU L L.length
def mE (L:List (List UInt8)) (n m:Nat):Nat:=((Ae 0 m).filter (dV L n)).length
theorem jX0 (L:List (List UInt8)) (n m:Nat):mE L n (m+1)=mE L n m+(if dV L n m then 1 else 0):=by
 unfold mE;rw[Br,Ag,Bc];grind
def pN (f:Nat->Nat):Nat->Nat
 | 0=>0
 | k+1=>pN f k+f (k+1)
theorem jU0 (f g:Nat->Nat):∀k,pN (λn=>f n+g n) k=pN f k+pN g k
 | 0=>rfl
 | k+1=>by simp only[pN];rw[jU0 f g k];omega
theorem aZ0 (L:List (List UInt8)) (j:Nat):∀k,pN (λn=>if dV L n j then 1 else 0) k=min k (nth L j).length-(if j=0 then 0 else min k (cAt L j))
 | 0=>by simp[pN]
 | k+1=>by
  have hc:=(dM1 L j).2;simp only[pN];rw[aZ0 L j k];grind [dV]
theorem dP0:∀k,pN (λ_=>0) k=0
 | 0=>rfl
 | k+1=>by simp only[pN];rw[dP0 k]
theorem sU (L:List (List UInt8)) (h:∀s∈L,s.length<=256):∀m,m<=L.length->1+pN (λn=>mE L n m) 256=uU L m
 | 0,_=>by
  have:pN (λn=>mE L n 0) 256=pN (λ_=>0) 256:=by grind [mE]
  rw[this,dP0];rfl
 | m+1,hm=>by
  have ih:=sU L h m (by omega);have e:pN (λn=>mE L n (m+1)) 256=pN (λn=>mE L n m+(if dV L n m then 1 else 0)) 256:=by grind [jX0]
  rw[e,jU0,aZ0,uU,<-ih];grind [nth,lX1]
theorem fH {L:List (List UInt8)} (hL:Asc L) (h:∀s∈L,s.length<=256):(nodesA L).length=eA L:=by
 have key:∀n,((Af (n+1)).flatMap (lv L)).length=1+pN (λd=>mE L d L.length) n:=by
  intro n
  induction n with
  | zero=>rfl
  | succ n ih =>
   rw[Au,Al,Bc,ih];simp only[Ah,Bw,Ay,pN];have hf:=(kY hL (n+1)).firsts (Ba n);grind [mE]
 unfold eA;rw[<-sU L h L.length (Ac _)];exact key 256
def ltK (k:Nat->Nat) (x y:Nat):Prop:=k x<k y\/(k x=k y/\x<y)
theorem bX0 {k:Nat->Nat} {x y z:Nat} (h1:ltK k x y) (h2:ltK k y z):ltK k x z:=by unfold ltK at *; omega
theorem qN {k:Nat->Nat} {x:Nat}:¬ltK k x x:=by unfold ltK; omega
theorem mB {k:Nat->Nat} {x y:Nat} (h:x<y):ltK k y x↔k y<k x:=by unfold ltK; omega
theorem yJ {k:Nat->Nat} {x y:Nat} (h:x<y):ltK k x y↔¬k y<k x:=by unfold ltK; omega
def fW (D:Nat->Nat) (a m b i:Nat):Nat:=if i<a then D i else if i<a+(b-m) then D (i+(m-a)) else if i<b then D (i-(b-m)) else D i
def mM0 (D:Nat->Nat) (a b n i:Nat):Nat:=if a<=i/\i<a+n then D (i-a+b) else if b<=i/\i<b+n then D (i-b+a) else D i
structure eN (D D':Nat->Nat) (a b:Nat):Prop where
 out:∀i,(i<a\/b<=i)->D' i=D i
 fro:∀i,a<=i->i<b->∃j,a<=j/\j<b/\D' i=D j
 to:∀j,a<=j->j<b->∃i,a<=i/\i<b/\D' i=D j
theorem eN.refl (D:Nat->Nat) (a b:Nat):eN D D a b:=⟨λ_ _=>rfl,λi h1 h2=>⟨i,h1,h2,rfl⟩,λi h1 h2=>⟨i,h1,h2,rfl⟩⟩
theorem eN.trans {D D' D'':Nat->Nat} {a b:Nat} (h:eN D D' a b) (h':eN D' D'' a b):eN D D'' a b where
 out i hi:=(h'.out i hi).trans (h.out i hi)
 fro i h1 h2:=by
  obtain⟨j,j1,j2,e⟩:=h'.fro i h1 h2;obtain⟨j',j1',j2',e'⟩:=h.fro j j1 j2;grind
 to j h1 h2:=by
  obtain⟨i,i1,i2,e⟩:=h.to j h1 h2;obtain⟨i',i1',i2',e'⟩:=h'.to i i1 i2;grind
theorem eN.wide {D D':Nat->Nat} {a b a' b':Nat} (h:eN D D' a b) (ha:a'<=a) (hb:b<=b'):eN D D' a' b' where
 out i hi:=h.out i (by omega)
 fro i h1 h2:=by
  by_cases hi:a<=i/\i<b
  ·obtain⟨j,j1,j2,e⟩:=h.fro i hi.1 hi.2
   grind
  ·exact⟨i,h1,h2,h.out i (by omega)⟩
 to i h1 h2:=by
  by_cases hi:a<=i/\i<b
  ·obtain⟨j,j1,j2,e⟩:=h.to i hi.1 hi.2
   grind
  ·exact⟨i,h1,h2,h.out i (by omega)⟩
theorem yB0 {D:Nat->Nat} {a m b i:Nat} (h:i<a):fW D a m b i=D i:=by grind [fW]
theorem oP1 {D:Nat->Nat} {a m b i:Nat} (h1:a<=i) (h2:i<a+(b-m)):fW D a m b i=D (i+(m-a)):=by
 grind [fW]
theorem pD1 {D:Nat->Nat} {a m b i:Nat} (h1:a+(b-m)<=i) (h2:i<b):fW D a m b i=D (i-(b-m)):=by
 grind [fW]
theorem kK1 {D:Nat->Nat} {a m b i:Nat} (ha:a<=m) (hm:m<=b) (h:b<=i):fW D a m b i=D i:=by
 grind [fW]
theorem cZ {D:Nat->Nat} {a m b:Nat} (ha:a<=m) (hm:m<=b):eN D (fW D a m b) a b where
 out i hi:=by
  grind [fW]
 fro i h1 h2:=by
  grind [Ab,fW]
 to j h1 h2:=by
  rcases Ab j m with h|h
  ·exact⟨j+(b-m),by omega,by omega,by grind [fW]⟩
  ·exact⟨j-(m-a),by omega,by omega,by grind [fW]⟩
theorem aL0 {D:Nat->Nat} {a b:Nat} (h:a<=b):fW D a a b=D:=by
 grind [fW]
theorem cW0 {D:Nat->Nat} {a b:Nat}:fW D a b b=D:=by
 grind [fW]
theorem yP0 (D:Nat->Nat) (a b:Nat):mM0 D a b 0=D:=by
 grind [mM0]
def wP0 (D:Nat->Nat) (j v i:Nat):Nat:=if i=j then v else D i
theorem zE0 {D:Nat->Nat} {a b n:Nat} (h:a+n<b):wP0 (wP0 (mM0 D a b n) (a+n) (mM0 D a b n (b+n))) (b+n) (mM0 D a b n (a+n))=mM0 D a b (n+1):=by
 grind [wP0,mM0]
theorem mH1 {D:Nat->Nat} {m i j:Nat} (hi:i<=m) (h:j<i):fW (mM0 D (m-i) m j) (m-(i-j)) m (m+j)=fW D (m-i) m (m+j):=by
 grind [fW,mM0]
theorem xS0 {D:Nat->Nat} {m i j:Nat} (hi:i<=m) (h:i<j):fW (mM0 D (m-i) (m+j-i) i) (m-i) m (m+(j-i))=fW D (m-i) m (m+j):=by
 grind [fW,mM0]
theorem gT1 {D:Nat->Nat} {m i:Nat} (hi:i<=m):mM0 D (m-i) m i=fW D (m-i) m (m+i):=by
 grind [mM0,fW]
theorem rC0 {D:Nat->Nat} {i j:Nat} (h0:0<j) (h:j<=i):wP0 (wP0 (fW D j i (i+1)) j (fW D j i (i+1) (j-1))) (j-1) (fW D j i (i+1) j)=fW D (j-1) i (i+1):=by
 grind [wP0,fW]
theorem oM1 {D:Nat->Nat} {a j:Nat} (h:a<=j):wP0 (wP0 (fW D a (a+1) (j+1)) j (fW D a (a+1) (j+1) (j+1))) (j+1) (fW D a (a+1) (j+1) j)=fW D a (a+1) (j+2):=by
 grind [wP0,fW]
def Srt (k D:Nat->Nat) (a b:Nat):Prop:=∀i j,a<=i->i<j->j<b->ltK k (D i) (D j)
def Apt (D:Nat->Nat) (a m b:Nat):Prop:=∀i j,a<=i->i<m->m<=j->j<b->D i<D j
theorem Srt.of_eq {k D D':Nat->Nat} {a b:Nat} (h:Srt k D a b) (he:∀i,a<=i->i<b->D' i=D i):Srt k D' a b:=λi j h1 h2 h3=>by
 rw[he i h1 (by omega),he j (by omega) h3];exact h i j h1 h2 h3
theorem Srt.le {k D:Nat->Nat} {a b:Nat} (h:Srt k D a b) {i j x:Nat} (h1:a<=i) (h2:i<=j) (h3:j<b) (hx:ltK k x (D i)):ltK k x (D j):=by
 rcases Ab i j with h4|h4
 ·exact bX0 hx (h i j h1 h4 h3)
 grind
theorem Srt.ge {k D:Nat->Nat} {a b:Nat} (h:Srt k D a b) {i j x:Nat} (h1:a<=i) (h2:i<=j) (h3:j<b) (hx:ltK k (D j) x):ltK k (D i) x:=by
 rcases Ab i j with h4|h4
 ·exact bX0 (h i j h1 h4 h3) hx
 grind
theorem jD1 {k D:Nat->Nat} {a m b:Nat} (h1:Srt k D a m) (h2:Srt k D m b) (h:∀i j,a<=i->i<m->m<=j->j<b->ltK k (D i) (D j)):Srt k D a b:=by grind [Srt]
theorem fB0 {k D:Nat->Nat} {a i j:Nat} (hs:Srt k D a i) (ha:a<=j) (hj:j<=i) (h1:∀c,a<=c->c<j->ltK k (D c) (D i)) (h2:∀c,j<=c->c<i->ltK k (D i) (D c)):Srt k (fW D j i (i+1)) a (i+1):=by
 grind [Srt,fW]
theorem pI1 {k D:Nat->Nat} {a i b:Nat} (hs:Srt k D (a+1) b) (ha:a+1<=i) (hi:i<=b) (h1:∀c,a+1<=c->c<i->ltK k (D c) (D a)) (h2:∀c,i<=c->c<b->ltK k (D a) (D c)):Srt k (fW D a (a+1) i) a b:=by
 grind [Srt,fW]
structure mF0 (a m b ak lo hi:Nat):Prop where
 am:a<m
 mb:m<b
 mid1:2*ak<=a+b
 mid2:a+b<=2*ak+1
 big:ak<m->lo=ak+m-b/\hi=ak
 small:m<=ak->lo=a/\hi=m
theorem mF0.in {a m b ak lo hi c:Nat} (h:mF0 a m b ak lo hi) (h1:lo<=c) (h2:c<hi):a<=c/\c<m/\m<=ak+m-1-c/\ak+m-1-c<b/\c<ak+m:=by
 obtain⟨h3,h4,h5,h6,h7,h8⟩:=h;omega
theorem mF0.rng {a m b ak lo hi:Nat} (h:mF0 a m b ak lo hi):a<=lo/\lo<=hi/\hi<=m/\hi<=ak/\ak+m-lo<=b/\m<=ak+m-hi/\ak+m-lo >= m:=by
 obtain⟨h3,h4,h5,h6,h7,h8⟩:=h;omega
theorem qH0 {k D:Nat->Nat} {a m b ak lo hi c c':Nat} (h:mF0 a m b ak lo hi) (s1:Srt k D a m) (s2:Srt k D m b) (ap:Apt D a m b) (h1:lo<=c) (h2:c<=c') (h3:c'<hi)
  (hc:k (D (ak+m-1-c))<k (D c)):k (D (ak+m-1-c'))<k (D c'):=by
 obtain⟨a1,a2,a3,a4,a5⟩:=h.in h1 (by omega);obtain⟨b1,b2,b3,b4,b5⟩:=h.in (c:=c') (by omega) h3;rw[<-mB (ap _ _ b1 b2 b3 b4)];rw[<-mB (ap _ _ a1 a2 a3 a4)]at hc;exact s1.le a1 h2 b2 (s2.ge b3 (by omega) a4 hc)
theorem yY0 {k D:Nat->Nat} {a m b ak lo hi s:Nat} (h:mF0 a m b ak lo hi) (s1:Srt k D a m) (s2:Srt k D m b) (ap:Apt D a m b) (iq:lo<=s) (vj:s<=hi)
  (h1:∀c,lo<=c->c<s->¬k (D (ak+m-1-c))<k (D c)) (h2:∀c,s<=c->c<hi->k (D (ak+m-1-c))<k (D c)) :
  Srt k (fW D s m (ak+m-s)) a s/\Srt k (fW D s m (ak+m-s)) s ak/\Srt k (fW D s m (ak+m-s)) ak (ak+m-s)/\Srt k (fW D s m (ak+m-s)) (ak+m-s) b /\
  Apt (fW D s m (ak+m-s)) a s ak/\Apt (fW D s m (ak+m-s)) ak (ak+m-s) b /\
  ∀i j,a<=i->i<ak->ak<=j->j<b->ltK k (fW D s m (ak+m-s) i) (fW D s m (ak+m-s) j):=by
 obtain⟨r1,r2,r3,r4,r5,r6,r7⟩:=h.rng;have jg:ak+m-s<=b:=by omega
 have A1:∀i,i<s->fW D s m (ak+m-s) i=D i:=λi hi=>yB0 hi;have A2:∀i,s<=i->i<ak->fW D s m (ak+m-s) i=D (i+(m-s)):=by grind [fW]
 have A3:∀i,ak<=i->i<ak+m-s->fW D s m (ak+m-s) i=D (i-(ak-s)):=λi h1 h2=>by
  rw[pD1 (by omega) h2];congr 1;omega
 have A4:∀i,ak+m-s<=i->fW D s m (ak+m-s) i=D i:=λi h=>kK1 (by omega) (by omega) h
 -- what lies left of the cut is less than what lies right of it
 have X1:∀c q,a<=c->c<s->ak+m-s<=q->q<b->ltK k (D c) (D q):=λc q c1 c2 q1 q2=>by
  rcases Ab lo s with hl|hl
  ·obtain⟨y1,y2,y3,y4,y5⟩:=h.in (c:=s-1) (by omega) (by omega)
   have:=h1 (s-1) (by omega) (by omega)
   rw[<-yJ (ap _ _ y1 y2 y3 y4)]at this;exact s1.ge (j:=s-1) c1 (by omega) y2 (s2.le y3 (by omega) q2 this)
  ·exfalso
   obtain⟨h3,h4,h5,h6,h7,h8⟩:=h;omega
 have X2:∀q c,m<=q->q<ak+m-s->s<=c->c<m->ltK k (D q) (D c):=λq c q1 q2 c1 c2=>by
  rcases Ab s hi with hl|hl
  ·obtain⟨y1,y2,y3,y4,y5⟩:=h.in (c:=s) (by omega) hl
   have:=h2 s (Ac _) hl
   rw[<-mB (ap _ _ y1 y2 y3 y4)]at this;exact s1.le y1 c1 c2 (s2.ge q1 (by omega) y4 this)
  ·exfalso
   obtain⟨h3,h4,h5,h6,h7,h8⟩:=h;omega
 refine⟨?_,?_,?_,?_,?_,?_,?_⟩
 ·grind [Srt]
 ·intro i j i1 i2 i3
  rw[A2 i i1 (by omega),A2 j (by omega) i3];exact s2 _ _ (by omega) (by omega) (by omega)
 ·intro i j i1 i2 i3
  rw[A3 i i1 (by omega),A3 j (by omega) i3];exact s1 _ _ (by omega) (by omega) (by omega)
 ·intro i j i1 i2 i3
  rw[A4 i i1,A4 j (by omega)];exact s2 _ _ (by omega) (by omega) (by omega)
 ·intro i j i1 i2 i3 i4
  rw[A1 i i2,A2 j i3 i4];exact ap _ _ i1 (by omega) (by omega) (by omega)
 ·intro i j i1 i2 i3 i4
  rw[A3 i i1 i2,A4 j i3];exact ap _ _ (by omega) (by omega) (by omega) i4
 ·intro i j i1 i2 i3 i4
  rcases Ab i s with h3|h3
  ·rw[A1 i h3]
   rcases Ab j (ak+m-s) with h4|h4
   ·rw[A3 j i3 h4];exact s1 _ _ i1 (by omega) (by omega)
   simp_all
  ·rw[A2 i h3 i2]
   rcases Ab j (ak+m-s) with h4|h4
   ·rw[A3 j i3 h4];exact X2 _ _ (by omega) (by omega) (by omega) (by omega)
   ·rw[A4 j h4];exact s2 _ _ (by omega) (by omega) (by omega)
theorem iS {k D1 D2 D3:Nat->Nat} {a ak b:Nat} (ham:a<=ak) (jo:ak<=b) (hx:∀i j,a<=i->i<ak->ak<=j->j<b->ltK k (D1 i) (D1 j)) (e1:eN D1 D2 a ak) (s1:Srt k D2 a ak) (e2:eN D2 D3 ak b) (s2:Srt k D3 ak b) :
  Srt k D3 a b/\eN D1 D3 a b:=by
 refine⟨jD1 (m:=ak) (s1.of_eq λi h1 h2=>e2.out i (Or.inl h2)) s2 ?_,(e1.wide (Ac _) jo).trans (e2.wide ham (Ac _))⟩;intro i j i1 i2 j1 j2;rw[e2.out i (Or.inl i2)];obtain⟨i',p1,p2,p3⟩:=e1.fro i i1 i2;obtain⟨j',q1,q2,q3⟩:=e2.fro j j1 j2;rw[p3,q3,e1.out j' (Or.inr q1)];simp_all
structure Win (k D:Nat->Nat) (a b:Nat):Prop where
 srt:Srt k D a b
 inn:∀i,a<=i->i<b->a<=D i/\D i<b
 all:∀v,a<=v->v<b->∃i,a<=i/\i<b/\D i=v
theorem Win.none (k D:Nat->Nat) (a:Nat):Win k D a a:=⟨λi j h1 h2 h3=>by omega,λi h1 h2=>by omega,λv h1 h2=>by omega⟩
theorem Win.apt {k D:Nat->Nat} {a m b:Nat} (h1:Win k D a m) (h2:Win k D m b):Apt D a m b:=λi j i1 i2 j1 j2=>by
 have:=h1.inn i i1 i2
 have:=h2.inn j j1 j2
 omega
theorem Win.merge {k D D':Nat->Nat} {a m b:Nat} (h1:Win k D a m) (h2:Win k D m b) (ham:a<=m) (jo:m<=b) (hs:eN D D' a b) (h:Srt k D' a b):Win k D' a b:=by
 refine⟨h,λi i1 i2=>?_,λv v1 v2=>?_⟩
 ·obtain⟨j,j1,j2,e⟩:=hs.fro i i1 i2
  rw[e];rcases Ab j m with hj|hj
  ·have:=h1.inn j j1 hj;omega
  ·have:=h2.inn j hj j2;omega
 ·rcases Ab v m with hv|hv
  ·obtain⟨j,j1,j2,e⟩:=h1.all v v1 hv
   obtain⟨i,i1,i2,e2⟩:=hs.to j j1 (by omega);grind
  ·obtain⟨j,j1,j2,e⟩:=h2.all v hv v2
   obtain⟨i,i1,i2,e2⟩:=hs.to j (by omega) j2;grind
theorem Win.of_eq {k D D':Nat->Nat} {a b:Nat} (h:Win k D a b) (he:∀i,a<=i->i<b->D' i=D i):Win k D' a b :=
 ⟨h.srt.of_eq he,λi h1 h2=>by rw[he i h1 h2];exact h.inn i h1 h2,λv h1 h2=>by obtain⟨i,a,b,c⟩:=h.all v h1 h2;grind⟩
def jY1 (k D:Nat->Nat) (B n:Nat):Prop:=∀t,t*B<n->Win k D (t*B) (min (t*B+B) n)
theorem iV {α:Type} {r:α->α->Prop} (ag6:∀a, ¬r a a) (htr:∀a b c,r a b->r b c->r a c):∀ {l1 l2:List α},l1.Pairwise r->l2.Pairwise r->(∀x,x∈l1↔x∈l2)->l1=l2
 | [],[],_,_,_=>rfl
 | [],y::_,_,_,h=>by have:=(h y).2 (by simp);simp at this
 | x::_,[],_,_,h=>by have:=(h x).1 (by simp);simp at this
 | x::l1,y::l2,h1,h2,h=>by
  obtain⟨a1,a2⟩:=List.pairwise_cons.1 h1;obtain⟨b1,b2⟩:=List.pairwise_cons.1 h2
  have wg:x=y:=by
   rcases List.mem_cons.1 ((h x).1 (by simp)) with e|e
   ·exact e
   ·rcases List.mem_cons.1 ((h y).2 (by simp)) with e2|e2
    ·exact e2.symm
    grind
  subst wg;rw[iV ag6 htr a2 b2 λz=>?_];grind
def grp (k:Nat->Nat) (n s:Nat):List Nat:=(Af n).filter λi=>k i==s
def dR (k:Nat->Nat) (n S:Nat):List Nat:=(Af S).flatMap (grp k n)
def sD0 (k:Nat->Nat) (n S:Nat):List Nat:=(Af S).map λs=>(dR k n s).length
theorem mV (k:Nat->Nat) (n S:Nat):dR k n (S+1)=dR k n S++grp k n S:=by
 unfold dR;rw[Au,Al];simp
theorem dA1 (k:Nat->Nat) (n S:Nat):sD0 k n (S+1)=sD0 k n S++[(dR k n S).length]:=by
 unfold sD0;rw[Au,Az];rfl
theorem fT0 {k:Nat->Nat} {n s i:Nat}:i∈grp k n s↔i<n/\k i=s:=by
 grind [grp]
theorem fZ {k:Nat->Nat} {n S i:Nat}:i∈dR k n S↔i<n/\k i<S:=by
 unfold dR;rw[List.mem_flatMap];constructor
 ·grind [grp]
 ·rintro⟨h1,h2⟩
  exact⟨k i,List.mem_range.2 h2,fT0.2 ⟨h1,rfl⟩⟩
theorem mI0 (k:Nat->Nat) (n s:Nat):(grp k n s).Pairwise (ltK k):=by
 have h:(grp k n s).Pairwise (· < ·):=List.Pairwise.filter _ Bg;grind [Bd,ltK,grp]
theorem iB (k:Nat->Nat) (n:Nat):∀S,(dR k n S).Pairwise (ltK k)
 | 0=>by simp[dR]
 | S+1=>by
  rw[mV];refine List.pairwise_append.2 ⟨iB k n S,mI0 k n S,λa ha b hb=>?_⟩;grind [fZ,fT0,ltK]
def zT (k:Nat->Nat) (l:List Nat) (i:Nat):Bool:=i==0||k (l.getD i 0) != k (l.getD (i-1) 0)
def eT0 (k:Nat->Nat) (l:List Nat):List Nat:=(Af l.length).filter (zT k l)
theorem vA0 {k:Nat->Nat} {l g:List Nat} {s:Nat} (hg:g≠[]) (h1:∀x∈l,k x<s) (h2:∀x∈g,k x=s):eT0 k (l++g)=eT0 k l++[l.length]:=by
 have ah:0<g.length:=by grind
 have L1:∀i,i<l.length->(l++g).getD i 0=l.getD i 0:=by grind
 have L2:∀i,(l++g).getD (l.length+i) 0=g.getD i 0:=by grind
 have G:∀i,i<g.length->k (g.getD i 0)=s:=by simp_all
 have LL:∀i,i<l.length->k (l.getD i 0)<s:=by simp_all
 unfold eT0;rw[Bc,show l.length+g.length=l.length+(1+(g.length-1)) by omega,Bo,<-Aj,<-Aj,Ag,Ag]
 have e1:(Ae 0 l.length).filter (zT k (l++g))=(Af l.length).filter (zT k l):=by
  rw[Bo];apply List.filter_congr
  intro i hi;rw[Aq]at hi;unfold zT;rw[L1 i (by omega),L1 (i-1) (by omega)]
 have e2:(Ae (0+l.length) 1).filter (zT k (l++g))=[l.length]:=by
  rw[Nat.zero_add]
  have:zT k (l++g) l.length=true:=by
   unfold zT;rcases Av l.length with h|h
   ·rw[h];rfl
   ·grind
  simp[Ae,this]
 have e3:(Ae (0+l.length+1) (g.length-1)).filter (zT k (l++g))=[]:=by
  rw[An];intro i hi;rw[Aq]at hi;have a:=L2 (i-l.length);have b:=L2 (i-l.length-1);rw[show l.length+(i-l.length)=i by omega]at a
  rw[show l.length+(i-l.length-1)=i-1 by omega]at b
  unfold zT;rw[a,b,G _ (by omega),G _ (by omega)]
  have:i≠0:=by omega
  simp[this]
 simp_all
theorem rY (k:Nat->Nat) (n:Nat):∀S,(∀s,s<S->∃i,i<n/\k i=s)->eT0 k (dR k n S)=sD0 k n S
 | 0,_=>rfl
 | S+1,h=>by
  rw[mV,dA1,<-rY k n S λs hs=>h s (by omega)];refine vA0 (s:=S) ?_ (λx hx=>(fZ.1 hx).2) (λx hx=>(fT0.1 hx).2);obtain⟨i,hi,hk⟩:=h S (by omega);exact List.ne_nil_of_mem (fT0.2 ⟨hi,hk⟩)
theorem eW1 {k D:Nat->Nat} {n S:Nat} (h:Win k D 0 n) (hS:∀i,i<n->k i<S):(Af n).map D=dR k n S:=by
 refine iV (λ_=>qN) (by grind [ltK]) ?_ (iB k n S) λx=>?_
 ·rw[Bt]
  refine List.pairwise_iff_getElem.2 λi j hi hj kw=>?_;rw[Bs,Bs];exact h.srt i j (Am _) kw (by simpa using hj)
 ·rw[fZ,Cc]
  constructor
  ·rintro⟨i,hi,rfl⟩
   have:=h.inn i (Am _) (List.mem_range.1 hi)
   simp_all
  ·rintro⟨h1,_⟩
   obtain⟨i,_,h3,h4⟩:=h.all x (Am _) h1;grind
def jF (x y:En):Prop:=x.r=y.r/\x.s=y.s/\x.l=y.l/\x.t=y.t
instance (x y:En):Decidable (jF x y):=by unfold jF; exact inferInstance
def uI (l:List En) (y:En):Prop:=y∈l/\∀z∈l,jF z y->y.c<=z.c
def iR (o:List En):Prop:=o.Pairwise λx y=>mD x y=true
def aN0 (l o:List En):Prop:=iR o/\∀y,y∈o↔uI l y
theorem tT:∀ {o o':List En},iR o->iR o'->(∀y,y∈o↔y∈o')->o=o'
 | [],[],_,_,_=>rfl
 | [],b::s,_,_,h=>by have:=(h b).2 (by simp);cases this
 | a::r,[],_,_,h=>by have:=(h a).1 (by simp);cases this
 | a::r,b::s,h1,h2,h=>by
  obtain⟨ha,hr⟩:=List.pairwise_cons.1 h1;obtain⟨hb,hs⟩:=List.pairwise_cons.1 h2
  have gp:a=b:=by
   rcases List.mem_cons.1 ((h a).1 (by simp)) with e|e
   ·exact e
   ·rcases List.mem_cons.1 ((h b).2 (by simp)) with e'|e'
    ·exact e'.symm
    grind [lE,fF]
  subst gp;have jf:a∉r:=by grind [fF]
  have od:a∉s:=by grind [fF]
  rw[tT hr hs λy=>?_];grind
theorem aN0.unique {l o o':List En} (h:aN0 l o) (h':aN0 l o'):o=o':=tT h.1 h'.1 λy=>(h.2 y).trans (h'.2 y).symm
def kG1 (x:En):List En->List En
 | []=>[x]
 | y::r=>if mD y x then y::kG1 x r else x::y::r
theorem hU0 {x y:En}:∀ {o:List En},y∈kG1 x o↔y=x\/y∈o
 | []=>by simp[kG1]
 | z::r=>by
  unfold kG1;split
  ·rw[Be,hU0 (o:=r),Be]
   grind
  ·simp
theorem bU0 {x:En}:∀ {o:List En},iR o->x∉o->iR (kG1 x o)
 | [],_,_=>by simp[kG1,iR]
 | z::r,h,hx=>by
  obtain⟨hz,hr⟩:=List.pairwise_cons.1 h;have hxz:x≠z:=by simp_all
  have hxr:x∉r:=by simp_all
  unfold kG1;split
  ·rename_i hl
   refine List.pairwise_cons.2 ⟨λy hy=>?_,bU0 hr hxr⟩;grind [hU0]
  ·rename_i hl
   have hl':mD x z=true:=by
    have:=uC (x:=z) (y:=x) (Ne.symm hxz)
    rw[this];simpa using hl
   refine List.pairwise_cons.2 ⟨λy hy=>?_,h⟩;rcases List.mem_cons.1 hy with rfl|hy
   ·exact hl'
   grind [lE]
def qO0 (l:List En) (y:En):Bool:=l.all λz => !decide (jF z y)||decide (y.c<=z.c)
theorem wG0 {l:List En} {y:En} (hy:y∈l):qO0 l y=true↔uI l y:=by
 grind [qO0,uI]
def cZ0 (l:List En):List En->List En->List En
 | [],o=>o
 | x::r,o=>if qO0 l x && !decide (x∈o) then cZ0 l r (kG1 x o) else cZ0 l r o
def sortS (l:List En):List En:=cZ0 l l []
theorem rK (l:List En):∀(r done o:List En),l=done++r->iR o->(∀y,y∈o↔y∈done/\qO0 l y=true)->aN0 l (cZ0 l r o)
 | [],done,o,hl,hs,hm=>by
  refine⟨hs,λy=>?_⟩;rw[Ay]at hl;grind [wG0,cZ0,uI]
 | x::r,done,o,hl,hs,hm=>by
  have ky:l=(done++[x])++r:=by rw[hl];simp
  unfold cZ0;split
  ·rename_i hc
   simp only[Ad,Bu,decide_eq_false_iff_not]at hc;refine rK l r _ _ ky (bU0 hs hc.2) λy=>?_;rw[hU0,hm y];grind
  ·rename_i hc
   simp only[Ad,Bu,decide_eq_false_iff_not,not_and,Decidable.not_not]at hc;refine rK l r _ _ ky hs λy=>?_;grind
theorem dJ (l:List En):aN0 l (sortS l):=rK l l [] [] rfl (by simp[iR]) (by simp)
end
section
open Go Go.RowKit
attribute [local go_sem] aO
theorem kQ1 {a b:ByteArray} (h:a≠b):rE a b≠0/\decide (rE a b<0)=Aa a.toList b.toList:=by
 have aj:(a.toList==b.toList)=false:=by
  have:=lC0.2 h;exact this
 unfold rE;rw[aj];cases Aa a.toList b.toList<;>simp
theorem kT1 {x y:En} (h:x.r≠y.r):mD x y=Aa x.r.toList y.r.toList:=by
 obtain⟨h1,h2⟩:=kQ1 h;unfold mD cA0;simp only[orI,if_neg h1];exact h2
end
section
open Go
def Bad (x:En) (i:Nat) (y:En) (j:Nat):Prop:=jF x y/\(y.c<x.c\/y.c=x.c/\j<i)
instance (x:En) (i:Nat) (y:En) (j:Nat):Decidable (Bad x i y j):=by unfold Bad; exact inferInstance
theorem cC1 {l:List En} {i:Nat} {x:En} (hx:l[i]?=some x):l.take (i+1)=l.take i++[x]:=by rw[Ap,hx]; rfl
end
section
open Go Go.RowKit
theorem bP0:eG Tryz.prog 24 30 5 56 bF where
 sl:=Tryz.underlying24
 info:=gV (z:=.agg #[.string ⟨#[]⟩,.string ⟨#[]⟩,.int .i64 0,.int .i64 0,.int .i64 0]) (by kernel_rfl) rfl
 pos:=by decide
 by1:=by decide
 len _:=rfl
 one:=zM
def wY0 (l:List En) (w:World) (e:Ending) (w':World):Prop:=∃v,e=.returned v/\aX w' w.heap.size 30 5 bF v (sortS l)/\aB w w'
theorem oX1:∃i,Tryz.prog.info? 30=some i/\i.zero=some enZero.agg/\i.size=5/\i.bytes=56:=by
 have h:(Tryz.prog.info? 30).map (λi=>(i.zero,i.size,i.bytes))=some (some enZero.agg,5,56):=by kernel_rfl
 cases hi:Tryz.prog.info? 30 with
 | none=>rw[hi]at h;cases h
 | some i =>
  rw[hi]at h;simp only[Option.map_some,Option.some.injEq,Prod.mk.injEq]at h;exact⟨i,rfl,h.1,h.2.1,h.2.2⟩
def mO0 (W:World) (sb n:Nat) (so:List En) (k:Nat):Prop :=
 ∃cp:Array Value,W.heap[sb]?=some (.cells cp 30 (0,0))/\cp.size=n*5/\∀i x,i<k->so[i]?=some x->∀j u,(bF x)[j]?=some u->cp[i*5+j]?=some u
theorem mO0.froz {W:World} {sb n k:Nat} {so:List En} (h:mO0 W sb n so k) (j:Nat):W.frozen? ⟨sb,j,none⟩=false:=by
 obtain⟨cp,h1,_⟩:=h;simp[World.frozen?,h1]
theorem mO0.cell {W:World} {sb n k:Nat} {so:List En} (h:mO0 W sb n so k) {j:Nat} (hj:j<n*5):∃u,W.cell? ⟨sb,j,none⟩=some u:=by
 obtain⟨cp,h1,h2,_⟩:=h;exact⟨cp[j]'(by omega),by simp[Cd,h1,h2,hj]⟩
theorem mO0.set {W:World} {sb n k:Nat} {so:List En} (h:mO0 W sb n so k) {j:Nat} (hj:k*5<=j) (v:Value):mO0 (W.setCell ⟨sb,j,none⟩ v) sb n so k:=by
 obtain⟨cp,h1,h2,h3⟩:=h;refine⟨cp.setIfInBounds j v,heap_setCell_same W sb j cp _ v h1,by simpa using h2,λi x hi hx m u hu=>?_⟩;have hm:m<5:=by have:=(List.getElem?_eq_some_iff.1 hu).1;rwa [nY]at this
 rw[Ao,if_neg (by omega)];exact h3 i x hi hx m u hu
theorem mO0.step {W:World} {sb n k:Nat} {so:List En} {x:En} (h:mO0 W sb n so k) (hk:k<n) (hx:so[k]?=some x) :
  mO0 (((((W.setCell ⟨sb,k*5,none⟩ (.string x.r)).setCell ⟨sb,k*5+1,none⟩ (.string x.s)).setCell ⟨sb,k*5+2,none⟩ (.int .i64 x.l)).setCell ⟨sb,k*5+3,none⟩ (.int .i64 x.t)).setCell ⟨sb,k*5+4,none⟩ (.int .i64 x.c)) sb n so (k+1):=by
 obtain⟨cp,h1,h2,h3⟩:=h;refine⟨((((cp.setIfInBounds (k*5) (.string x.r)).setIfInBounds (k*5+1) (.string x.s)).setIfInBounds (k*5+2) (.int .i64 x.l)).setIfInBounds (k*5+3) (.int .i64 x.t)).setIfInBounds (k*5+4) (.int .i64 x.c),heap_setCell_same _ _ _ _ _ _ (heap_setCell_same _ _ _ _ _ _ (heap_setCell_same _ _ _ _ _ _ (heap_setCell_same _ _ _ _ _ _ (heap_setCell_same W sb _ cp _ _ h1)))),by simpa using h2,λi y hi hy m u hu=>?_⟩;have hm:m<5:=by have:=(List.getElem?_eq_some_iff.1 hu).1;rwa [nY]at this
 rcases Ab i k with hik|hik
 ·simp only[Ao]
  rw[if_neg (by omega),if_neg (by omega),if_neg (by omega),if_neg (by omega),if_neg (by omega)];exact h3 i y hik hy m u hu
 ·obtain rfl:i=k:=by omega
  obtain rfl:x=y:=by rw[hx]at hy;exact Option.some.inj hy
  simp only[Ao,Array.size_setIfInBounds]
  match m,hm,hu with
  | 0,_,hu=>simp[bF]at hu;subst hu;simp[h2];omega
  | 1,_,hu=>simp[bF]at hu;subst hu;simp[h2];omega
  | 2,_,hu=>simp[bF]at hu;subst hu;simp[h2];omega
  | 3,_,hu=>simp[bF]at hu;subst hu;simp[h2];omega
  | 4,_,hu=>simp[bF]at hu;subst hu;simp[h2];omega
theorem mO0.at_ {W:World} {sb n:Nat} {so:List En} (h:mO0 W sb n so so.length):aG W (some ⟨sb,0,none⟩) 5 (so.map bF):=λ_=>⟨sb,0,rfl,λi row hi j u hj=>by
 obtain⟨cp,h1,h2,h3⟩:=h;rw[List.getElem?_map]at hi
 cases hx:so[i]? with
 | none=>rw[hx]at hi;cases hi
 | some x =>
  rw[hx]at hi;obtain rfl:bF x=row:=by simpa using hi
  have:=h3 i x (List.getElem?_eq_some_iff.1 hx).1 hx j u hj
  simp[Cd,h1,this]⟩
theorem mO0.made {W:World} {base sb n:Nat} {so:List En} {l:List Value} (h:W.ownsRow base 30 5 (.slice (some ⟨sb,0,none⟩) n n) n l):mO0 W sb n so 0/\base<=sb:=by
 rcases h.2 with ⟨e,_⟩|⟨g,cap,cp,hv,hb,hh,h1,h2,h3,h4⟩
 ·cases e
 ·cases hv
  exact⟨⟨cp,hh,h3,λi x hi=>absurd hi (Nat.not_lt_zero i)⟩,hb⟩
def klE (x:En):Lit := .string (keyBytes [.string x.r.data.toList,.string x.s.data.toList,.int .i64 x.l,.int .i64 x.t,.int .i64 x.c])
theorem sL:Go.Maps.Keyed Tryz.prog 30:=Go.Maps.Keyed.of_law (deep_law_laid yX (m:=3) (by decide) (of_decide_eq_true (by kernel_rfl)) (by kernel_rfl) (by kernel_rfl))
theorem jS1 {x:En} (h:yB x):Go.keyOf Tryz.prog 30 x.agg=some (klE x):=by
 obtain⟨m,hm⟩:∃m,Tryz.prog.types.size=m+1:=⟨Tryz.prog.types.size-1,by have:0<Tryz.prog.types.size:=of_decide_eq_true (by kernel_rfl);omega⟩
 have hS:∀(s:ByteArray),s.size<=maxLen->Tryz.prog.keyLits (m+1) 9 [.string s]=some [.string s.data.toList]:=λs hs=>by
  unfold Program.keyLits;simp only[Tryz.underlying9,if_pos hs]
 have hI:∀(n:Int),(Lit.int .i64 n).wf=true->Tryz.prog.keyLits (m+1) 3 [.int .i64 n]=some [.int .i64 n]:=λn hn=>by
  unfold Program.keyLits;simp only[Tryz.underlying3,hn,and_self,if_true]
 have hk:Tryz.prog.keyType 30=true:=by kernel_rfl
 have hc:Tryz.prog.cellsOf 30=5:=by kernel_rfl
 have cj:Tryz.prog.cellsOf 9=1:=by kernel_rfl
 have wl:Tryz.prog.cellsOf 3=1:=by kernel_rfl
 obtain⟨r,s,l,t,c⟩:=x;obtain⟨h1,h2,h3,h4,h5⟩:=h;have g1:=hS r h1;have g2:=hS s h2;have g3:=hI l h3;have g4:=hI t h4;have g5:=hI c h5;unfold Go.keyOf;simp only[Tryz.underlying30,hk,As];unfold Value.formed En.agg;simp only[Tryz.underlying30,hc];have hz:((#[Value.string r,.string s,.int .i64 l,.int .i64 t,.int .i64 c]:Array Value).size==5)=true:=rfl;rw[if_pos hz,hm];unfold Program.keyLits;simp only[Tryz.underlying30,hc,Value.cells];simp[cj,wl,g1,g2,g3,g4,g5,klE]
theorem nM0 {x y:En} (hx:yB x) (hy:yB y) (h:klE x=klE y):x=y:=by
 have h1:=jS1 hx;have h2:=jS1 hy;rw[h]at h1
 have:=sL.inj h1 h2
 obtain⟨a,b,c,d,e⟩:=x;obtain⟨a',b',c',d',e'⟩:=y;simpa [En.agg] using this
theorem rH0 {key:Value} {kl:Lit} (h:Go.keyOf Tryz.prog 30 key=some kl):∃x:En,yB x/\key=x.agg/\kl=klE x:=by
 obtain⟨m,hm⟩:∃m,Tryz.prog.types.size=m+1:=⟨Tryz.prog.types.size-1,by have:0<Tryz.prog.types.size:=of_decide_eq_true (by kernel_rfl);omega⟩
 have hS:∀(v:Value) (ls:List Lit),Tryz.prog.keyLits (m+1) 9 [v]=some ls->∃s:ByteArray,v=.string s/\s.size<=maxLen/\ls=[.string s.data.toList]:=λv ls h=>by
  unfold Program.keyLits at h;simp only[Tryz.underlying9]at h;cases v<;>simp at h
  rename_i s
  exact⟨s,rfl,h.1,h.2.symm⟩
 have hI:∀(v:Value) (ls:List Lit),Tryz.prog.keyLits (m+1) 3 [v]=some ls->∃n:Int,v=.int .i64 n/\(Lit.int .i64 n).wf=true/\ls=[.int .i64 n]:=λv ls h=>by
  unfold Program.keyLits at h;simp only[Tryz.underlying3]at h;cases v<;>simp at h
  obtain⟨⟨rfl,h2⟩,h3⟩:=h;exact⟨_,rfl,h2,h3.symm⟩
 have hk:Tryz.prog.keyType 30=true:=by kernel_rfl
 have hc:Tryz.prog.cellsOf 30=5:=by kernel_rfl
 have cj:Tryz.prog.cellsOf 9=1:=by kernel_rfl
 have wl:Tryz.prog.cellsOf 3=1:=by kernel_rfl
 unfold Go.keyOf at h;simp only[Tryz.underlying30,hk,As]at h;split at h
 ·rename_i hf
  rw[hm]at h
  obtain⟨cs,rfl,de⟩:∃cs,key=.agg cs/\cs.size=5:=by
   unfold Value.formed at hf;cases key<;>simp[Tryz.underlying30,hc]at hf
   exact⟨_,rfl,hf⟩
  obtain⟨l⟩:=cs
  match l,de with
  | [c0,c1,c2,c3,c4],_ =>
   rw[jL Tryz.underlying30]at h;simp only[Value.cells]at h;simp[cj,wl,hc,Aw,Bk]at h;obtain⟨l0,g0,a1,⟨l1,g1,a2,⟨l2,g2,a3,⟨l3,g3,a4,⟨l4,g4,rfl⟩,rfl⟩,rfl⟩,rfl⟩,rfl⟩:=h;obtain⟨s0,rfl,z0,rfl⟩:=hS _ _ g0;obtain⟨s1,rfl,z1,rfl⟩:=hS _ _ g1;obtain⟨n2,rfl,z2,rfl⟩:=hI _ _ g2;obtain⟨n3,rfl,z3,rfl⟩:=hI _ _ g3;obtain⟨n4,rfl,z4,rfl⟩:=hI _ _ g4;exact⟨⟨s0,s1,n2,n3,n4⟩,⟨z0,z1,z2,z3,z4⟩,rfl,by simp[klE]⟩
 ·cases h
end
section
open Go Go.RowKit
def kC (x:En):En:={ x with c:=0 }
theorem yB.key {x:En} (h:yB x):yB (kC x):=⟨h.r,h.s,h.l,h.t,by show (Lit.int .i64 0).wf=true; decide⟩
theorem zI {z y:En} (hy:y.c=0) (h:jF z y):y=kC z:=by
 obtain⟨a,b,c,d,e⟩:=z;obtain⟨a',b',c',d',e'⟩:=y;obtain⟨rfl,rfl,rfl,rfl⟩:=h;simp only at hy;subst hy;rfl
theorem yU (z:En):jF z (kC z):=⟨rfl,rfl,rfl,rfl⟩
theorem aI1 (y:En):WideAt.IsKeyLit (klE y):=by simp[klE,WideAt.IsKeyLit]
theorem gX1 (y:En):(klE y).sameKey (klE y)=true:=by simp[klE,Lit.sameKey]
section
variable {H:Type}
def AtE (D:DataW H) (y:En):Option Int->Prop
 | none=>Maps.has D (klE y)=false
 | some c=>Maps.has D (klE y)=true/\∀zd,D.atKey (klE y) zd=.lit (.int .i64 c)
def qI0 (l:List En) (y:En):Option Int->Prop
 | none=>∀z∈l,¬jF z y
 | some c=>(∃z∈l,jF z y/\z.c=c)/\∀z∈l,jF z y->c<=z.c
def sQ0 (l:List En) (D:DataW H):Prop:=∀y,yB y->(y.c≠0->Maps.has D (klE y)=false)/\(y.c=0->∃o,qI0 l y o/\AtE D y o)
theorem AtE.unique {D:DataW H} {y:En} {o o':Option Int} (h:AtE D y o) (h':AtE D y o'):o=o':=by
 cases o with
 | none=>cases o' with
  | none=>rfl
  | some c=>have h1:Maps.has D (klE y)=false:=h;rw[h'.1]at h1;cases h1
 | some c=>cases o' with
  | none=>have h1:Maps.has D (klE y)=false:=h';rw[h.1]at h1;cases h1
  | some c' =>
   have h1:=h.2 (.lit (.int .i64 0));rw[h'.2]at h1;simpa using h1.symm
theorem qI0.snoc_other {l:List En} {y z:En} {o:Option Int} (h:qI0 l y o) (hn:¬jF z y):qI0 (l++[z]) y o:=by
 cases o with
 | none =>
  intro x hx;rcases List.mem_append.1 hx with hx|hx
  ·exact h x hx
  ·obtain rfl:x=z:=by simpa using hx
   exact hn
 | some c =>
  obtain⟨⟨x,hx,h1,h2⟩,h3⟩:=h;refine⟨⟨x,Ax _ hx,h1,h2⟩,λx hx hk=>?_⟩;rcases List.mem_append.1 hx with hx|hx
  ·exact h3 x hx hk
  ·obtain rfl:x=z:=by simpa using hx
   exact absurd hk hn
theorem jC1:sQ0 (H:=H) [] (.map []):=λy _=>⟨λ_=>rfl,λ_=>⟨none,λz hz=>by simp at hz,rfl⟩⟩
theorem sQ0.skip {l:List En} {D:DataW H} (h:sQ0 l D) {z:En} {c:Int} (ha:AtE D (kC z) (some c)) (hc:c<=z.c):sQ0 (l++[z]) D:=λy hy=>by
 refine⟨(h y hy).1,λh0=>?_⟩;obtain⟨o,ho,hD⟩:=(h y hy).2 h0;by_cases hk:jF z y
 ·have e:=zI h0 hk
  subst e;obtain rfl:=hD.unique ha;refine⟨some c,⟨?_,λx hx hk=>?_⟩,ha⟩
  ·obtain⟨⟨x,hx,h1,h2⟩,_⟩:=ho
   exact⟨x,Ax _ hx,h1,h2⟩
  ·rcases List.mem_append.1 hx with hx|hx
   ·exact ho.2 x hx hk
   ·obtain rfl:x=z:=by simpa using hx
    exact hc
 ·exact⟨o,ho.snoc_other hk,hD⟩
theorem sQ0.store {l:List En} {D:DataW H} (h:sQ0 l D) (hm:Maps.IsMap D) {z:En} (hz:yB z) {o:Option Int} (ha:AtE D (kC z) o) (hc:∀c,o=some c->z.c<c):sQ0 (l++[z]) (D.put (klE (kC z)) (.lit (.int .i64 z.c))):=λy hy=>by
 refine⟨λh0=>?_,λh0=>?_⟩
 ·have aj:klE y≠klE (kC z):=λe=>h0 (by rw[nM0 hy hz.key e];rfl)
  rw[Maps.has_put_other aj];exact(h y hy).1 h0
 ·obtain⟨o',ho,hD⟩:=(h y hy).2 h0
  by_cases hk:jF z y
  ·have e:=zI h0 hk
   subst e;obtain rfl:=hD.unique ha;refine⟨some z.c,⟨⟨z,by simp,yU z,rfl⟩,λx hx hk=>?_⟩,Maps.has_put_same hm (aI1 _) _,λzd=>Maps.atKey_put_same hm (aI1 _) _ _⟩;rcases List.mem_append.1 hx with hx|hx
   ·cases o' with
    | none=>exact absurd hk (ho x hx)
    | some c =>
     have h1:=ho.2 x hx hk;have h2:=hc c rfl;omega
   ·obtain rfl:x=z:=by simpa using hx
    exact Int.le_refl _
  ·have aj:klE y≠klE (kC z):=λe=>hk (by rw[nM0 hy hz.key e];exact yU z)
   refine⟨o',ho.snoc_other hk,?_⟩
   cases o' with
   | none =>
    show Maps.has _ _=false
    rw[Maps.has_put_other aj];exact hD
   | some c=>exact⟨by rw[Maps.has_put_other aj];exact hD.1,λzd=>by rw[Maps.atKey_put_other aj];exact hD.2 zd⟩
def oH0 (D:DataW H) (left:Lit->Bool) (ys:List En):Prop:=ys.Nodup/\(∀y∈ys,yB y)/\∀y,yB y->(y∈ys↔AtE D (kC y) (some y.c)/\left (klE (kC y))=false)
theorem oV0 (D:DataW H):oH0 D (Maps.has D) []:=⟨List.nodup_nil,λy hy=>by simp at hy,λy _=>⟨λh=>by simp at h,λ⟨h1,h2⟩=>by rw[h1.1]at h2; cases h2⟩⟩
theorem oH0.step {l:List En} {D:DataW H} {left:Lit->Bool} {ys:List En} (h:oH0 D left ys) (hM:sQ0 l D) {x:En} (hx:yB x) {c:Int} (hc:(Lit.int .i64 c).wf=true) (hl:left (klE x)=true) (ac:∀zd,D.atKey (klE x) zd=.lit (.int .i64 c)) :
  oH0 D (λz=>left z && !z.sameKey (klE x)) (ys++[{ x with c:=c }]):=by
 have m7:=Maps.has_true_of_atKey ac
 have h0:x.c=0:=Decidable.byContradiction λhn=>by
  have:=(hM x hx).1 hn
  rw[this]at m7;cases m7
 have hkx:kC { x with c:=c }=x:=by
  obtain⟨a,b,d,e,f⟩:=x;simp only at h0;subst h0;rfl
 have hxA:AtE D x (some c):=⟨m7,ac⟩;have aeq:yB { x with c:=c }:=⟨hx.r,hx.s,hx.l,hx.t,hc⟩
 obtain⟨h1,h2,h3⟩:=h;refine⟨?_,λy hy=>?_,λy hy=>?_⟩
 ·refine List.nodup_append.2 ⟨h1,by simp,λy hy z hz e=>?_⟩
  obtain rfl:z={ x with c:=c }:=by simpa using hz
  subst e
  have:=((h3 _ aeq).1 hy).2
  rw[hkx,hl]at this;cases this
 ·rcases List.mem_append.1 hy with hy|hy
  ·exact h2 y hy
  ·obtain rfl:y={ x with c:=c }:=by simpa using hy
   exact aeq
 ·constructor
  ·intro hm
   rcases List.mem_append.1 hm with hm|hm
   ·obtain⟨k1,k2⟩:=(h3 y hy).1 hm
    exact⟨k1,by simp[k2]⟩
   ·obtain rfl:y={ x with c:=c }:=by simpa using hm
    rw[hkx];exact⟨hxA,by simp[gX1]⟩
  ·rintro⟨k1,k2⟩
   by_cases hk:klE (kC y)=klE x
   ·have e:=nM0 hy.key hx hk
    rw[e]at k1;have e2:y.c=c:=by simpa using k1.unique hxA
    have:y={ x with c:=c }:=by
     rw[<-e,<-e2];obtain⟨a,b,d,e,f⟩:=y;rfl
    rw[this];simp
   ·have k3:(left (klE (kC y)) && !(klE (kC y)).sameKey (klE x))=false:=k2
    rw[Maps.sameKey_ne hk]at k3;exact Ax _ ((h3 y hy).2 ⟨k1,by simpa using k3⟩)
theorem oH0.least {l:List En} {D:DataW H} {left:Lit->Bool} {ys:List En} (h:oH0 D left ys) (hM:sQ0 l D) (hl:∀x∈l,yB x) (h0:∀kl,left kl=false) (y:En):y∈ys↔uI l y:=by
 have key:∀y,yB y->(AtE D (kC y) (some y.c)↔uI l y):=λy hy=>by
  obtain⟨o,ho,hD⟩:=(hM (kC y) hy.key).2 rfl;constructor
  ·intro h1
   obtain rfl:=hD.unique h1;obtain⟨⟨z,hz,k1,k2⟩,k3⟩:=ho;refine⟨?_,λx hx hk=>k3 x hx hk⟩
   have:z=y:=by
    obtain⟨a,b,d,e,f⟩:=z;obtain⟨a',b',d',e',f'⟩:=y;obtain⟨rfl,rfl,rfl,rfl⟩:=k1;simp only at k2;subst k2;rfl
   rw[<-this];exact hz
  ·rintro⟨hy2,h2⟩
   cases o with
   | none=>exact absurd (yU y) (ho y hy2)
   | some c =>
    obtain⟨⟨z,hz,k1,k2⟩,k3⟩:=ho;have e1:=k3 y hy2 (yU y);have e2:=h2 z hz k1
    have:c=y.c:=by omega
    rw[<-this];exact hD
 constructor
 ·intro hy
  have ag:=h.2.1 y hy;exact(key y ag).1 ((h.2.2 y ag).1 hy).1
 ·intro hy
  have ag:=hl y hy.1;exact(h.2.2 y ag).2 ⟨(key y ag).2 hy,h0 _⟩
end
end
end Go.Proofs.YthgklnohcmaopaaGreatDoor
