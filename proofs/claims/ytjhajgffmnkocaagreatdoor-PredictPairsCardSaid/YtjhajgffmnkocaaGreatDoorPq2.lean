/- The texts Pos Cmp EnD OrderP KeyP Mx GueP SortP LoudP LoudQ LoudR StabP GrpP Less2 Variants SortR SortWP RuneL Bsrt KeyE MapE, one behind the other. -/
import Derived.Test.YtjhajgffmnkocaaGreatDoorProg
import Derived.Test.YtjhajgffmnkocaaGreatDoorPq1
import Derived.WalkKit
import Derived.WalkLawsBesides
import Derived.Lib.Hide
import Derived.DeepKeys4
import Derived.Maps.RangeWalk
import Derived.Maps.Views
import Derived.Laws.OwnMore
import Derived.Laws.Rows
import Derived.OwnWalk
open Go.Op renaming bytesLess → Aa
open Nat renaming lt_or_ge → Ab,le_refl → Ac,zero_le → An,eq_zero_or_pos → Av,succ_pos → Bb,le_trans → Bj,div_add_mod → Bn,mul_comm → Cc
open Bool renaming and_eq_true → Ad,or_eq_true → Aj,true_and → Bf,not_eq_true' → Bt
open List renaming range' → Ae,range → Af,filter_append → Ag,flatMap_cons → Ah,filter_eq_nil_iff → Ai,range'_append_1 → Ak,getElem?_eq_getElem → Al,flatMap_append → Am,take_add_one → Ap,mem_range'_1 → Aq,mem_of_getElem? → Ar,range_succ → Au,length_cons → Aw,mem_cons → Ax,mem_append_left → Ay,append_nil → Az,map_append → Ba,getElem?_append_right → Bc,length_append → Bd,pairwise_iff_getElem → Be,flatMap_map → Bh,pairwise_lt_range → Bi,range_succ_eq_map → Bk,range_eq_range' → Bo,map_congr_left → Bp,range'_concat → Bq,getElem_range → Br,pairwise_map → Bs,length_take → Bu,flatMap_nil → Bv,cons_append → Bw,foldl_cons → Bz,mapM_cons → Ca,replicate → Cb,mem_map → Cd,getD → Cf
open Array renaming getElem?_setIfInBounds → Ao
open Classical renaming byContradiction → As
open Go.Lib renaming hid → At
open Option renaming bind_eq_some_iff → Bg
open ByteArray renaming empty → By
open Go.World renaming cell? → Ce
set_option maxHeartbeats 1000000
namespace Go.Proofs.YtjhajgffmnkocaaGreatDoor
set_option maxRecDepth 100000
section
open Go Go.RowKit
attribute [local go_sem] aO
theorem yK0 (p:cY) (name:ByteArray) (b:Nat) (w:World) (hc:w.cell? ⟨b,0,none⟩=some (.string name)) (hb:b<w.heap.size) :
  Calls Tryz.prog 232 #[.agg #[.string p.name,.int .i64 p.kind],.pointer (some ⟨b,0,none⟩)] w λe w'=>e=.returned (.bool (seq p.name name))/\aB w w':=by
 have ak:b≠w.heap.size:=by omega
 go_enter Tryz.func232,Tryz.ntmps232
 go_wp2
 go_ret;exact⟨rfl,aB.alloc _ _⟩
def pD1 (o:Option Nat):Int:=match o with|some k=>k|none => -1
theorem eE0 (l:List cY) (name:ByteArray) (a:Option Addr) (cap b:Nat) (w:World) (hl:l.length<=4611686018427387904) (hs:aG w a 2 (l.map cB)) (hc:w.cell? ⟨b,0,none⟩=some (.string name)) :
  Calls Tryz.prog 231 #[.slice a l.length cap,.func (.func 232) #[] #[.pointer (some ⟨b,0,none⟩)]] w λe w'=>e=.returned (.int .i64 (pD1 (lY l name)))/\aB w w':=by
 have HS:=At hs;have HC:=At hc;clear hs hc;go_enter Tryz.func231,Tryz.ntmps231
 go_wp2
 go_loopw [8] (λi wr=>∃k:Nat,k<=l.length/\i=.int .i64 k/\Hid (∀j q,j<k->l[j]?=some q->seq q.name name=false)/\aB w wr) (λi _=>l.length-(intOf i).toNat)
 case atStart=>exact⟨0,An _,rfl,λj q hj=>by omega,aB.refl _⟩
 case round =>
  obtain⟨k,hk,rfl,hz,hg⟩:=hrel;by_cases af:k<l.length
  ·obtain⟨p,hp⟩:∃p,l[k]?=some p:=⟨_,Al af⟩
   obtain⟨bl,off,rfl,cg⟩:=(HS.out.grows hg).get (aJ af);have c0:wr.cell? ⟨bl,off+k*2,none⟩=some (.string p.name):=cg k p hp 0 _ rfl;have c1:wr.cell? ⟨bl,off+k*2+1,none⟩=some (.int .i64 p.kind):=cg k p hp 1 _ rfl;clear cg;have HP:=At hp;clear hp;have ie:=yK0 p name b wr (hg.cell HC.out) (World.block_lt_of_cell? wr _ (hg.cell HC.out));have HCON:=At ie;clear ie;cases hq:seq p.name name
   ·rw[hq]at HCON
    have HQ:=At hq;clear hq;go_wp2_with (go_at_call 232;refine HCON.out.mono ?_;rintro e w' ⟨rfl,ae⟩)
    go_roundw
    case rel=>exact⟨k+1,by omega,by go_num,λj q hj hq=>by
     rcases Nat.lt_succ_iff_lt_or_eq.1 hj with h|rfl
     ·exact hz.out j q h hq
     ·rw[HP.out]at hq;obtain rfl:=Option.some.inj hq;exact HQ.out,hg.tr ae⟩
    case measure=>simp[intOf];omega
   ·rw[hq]at HCON
    have ax:=At (mA0 HP.out hz.out hq);clear hq;go_wp2_with (go_at_call 232;refine HCON.out.mono ?_;rintro e w' ⟨rfl,ae⟩)
    go_ret;exact⟨by rw[ax.out];rfl,hg.tr ae⟩
  ·obtain rfl:k=l.length:=by omega
   have ax:=At (gY0 hz.out);go_wp2
   go_ret;exact⟨by rw[ax.out];rfl,hg⟩
def jC1 (o:Option Nat):Int:=match o with|some k=>k|none=>0
theorem lT0 (l:List cY) (name:ByteArray) (a:Option Addr) (cap:Nat) (w:World) (hl:l.length<=4611686018427387904) (hs:aG w a 2 (l.map cB)) :
  Calls Tryz.prog 189 #[.slice a l.length cap,.string name] w λe w'=>e=.returned (.tuple #[.int .i64 (jC1 (lY l name)),.bool (lY l name).isSome])/\aB w w':=by
 have ie:=At (eE0 l name a cap w.heap.size (w.alloc (.cells #[.string name] 9)) hl (hs.grows (aB.alloc _ _)) (aT _ _ _ _ _ _ rfl));clear hs
 cases hq:lY l name with
 | none =>
  rw[hq]at ie;clear hq;go_enter Tryz.func189,Tryz.ntmps189
  go_wp2_with (go_at_call 231;refine ie.out.mono ?_;rintro e w' ⟨rfl,ae⟩)
  go_ret2;exact⟨rfl,(aB.alloc _ _).tr ae⟩
 | some k =>
  rw[hq]at ie;clear hq;go_enter Tryz.func189,Tryz.ntmps189
  go_wp2_with (go_at_call 231;refine ie.out.mono ?_;rintro e w' ⟨rfl,ae⟩)
  go_ret2;exact⟨rfl,(aB.alloc _ _).tr ae⟩
end
section
open Go Go.RowKit
def orI:List Int->Int
 | []=>0
 | z::l=>if z=0 then orI l else z
theorem eY0:∀(zs:List Int) (k:Nat),(∀j,j<k->zs[j]?.getD 0=0)->orI zs=orI (zs.drop k)
 | [],k,_=>by simp
 | z::l,0,_=>by simp
 | z::l,k+1,h=>by
  have h0:z=0:=by simpa using h 0 (by omega)
  simp only[orI,h0,if_true,List.drop_succ_cons];exact eY0 l k λj hj=>by simpa using h (j+1) (by omega)
theorem kS1 {zs:List Int} {k:Nat} (hk:k<zs.length) (h:∀j,j<k->zs[j]?.getD 0=0) (hz:zs[k]?.getD 0≠0):orI zs=zs[k]?.getD 0:=by
 rw[eY0 zs k h,List.drop_eq_getElem_cons hk,orI];simp[hk]at hz ⊢;simp[hz]
theorem eZ1 {zs:List Int} (h:∀j,j<zs.length->zs[j]?.getD 0=0):orI zs=0:=by
 rw[eY0 zs _ h];simp[orI]
theorem zU0 (zs:List Int) (b off cap:Nat) (w:World) (hl:zs.length<=4611686018427387904) (hc:∀k,k<zs.length->w.cell? ⟨b,off+k,none⟩=some (.int .i64 (zs[k]?.getD 0))) :
  Calls Tryz.prog 43 #[.slice (some ⟨b,off,none⟩) zs.length cap] w λe w'=>e=.returned (.int .i64 (orI zs))/\w=w':=by
 have HC:=At hc;clear hc;go_enter Tryz.func43,Tryz.ntmps43
 go_wp2
 go_loop [8] (λi=>∃k:Nat,k<=zs.length/\i=.int .i64 k/\Hid (∀j,j<k->zs[j]?.getD 0=0)) (λi=>zs.length-(intOf i).toNat)
 case atStart=>exact⟨0,An _,rfl,λj hj=>by omega⟩
 case round =>
  obtain⟨k,hk,rfl,hz⟩:=hrel;by_cases af:k<zs.length
  ·have jc:=HC.out k af
   obtain⟨z,hze⟩:=exq (zs[k]?.getD 0);rw[<-hze]at jc;have HE:=At hze;clear hze;by_cases h0:z=0
   ·have h0':(z != 0)=false:=by simp[h0]
    have H0:=At h0;clear h0;go_wp2
    go_round
    case rel=>exact⟨k+1,by omega,by go_num,λj hj=>by
     rcases Nat.lt_succ_iff_lt_or_eq.1 hj with h|rfl
     ·exact hz.out j h
     ·rw[<-HE.out];exact H0.out⟩
    case measure=>simp[intOf];omega
   ·have h0':(z != 0)=true:=by simpa using h0
    have ax:=At ((kS1 af hz.out (by rw[<-HE.out];exact h0)).trans HE.out.symm);clear h0;go_wp2
    go_ret;exact⟨by rw[ax.out];rfl,rfl⟩
  ·obtain rfl:k=zs.length:=by omega
   have ax:=At (eZ1 hz.out);go_wp2
   go_ret;exact⟨by rw[ax.out];rfl,rfl⟩
def iD (x y:Int):Int:=if x<y then -1 else if y<x then 1 else 0
def lA (a b:ByteArray):Int:=if Aa a.toList b.toList then -1 else if !Aa a.toList b.toList && !(a.toList==b.toList) then 1 else 0
theorem oC (x y:Int) (w:World) :
  Calls Tryz.prog 44 #[.int .i64 x,.int .i64 y] w λe w'=>e=.returned (.int .i64 (iD x y))/\w=w':=by
 go_enter Tryz.func44,Tryz.ntmps44
 go_wp2
 all_goals (go_ret;refine⟨aM1 ?_,rfl⟩;unfold iD;(repeat' split)<;>first|rfl|(exfalso;omega))
theorem wO (x y:ByteArray) (w:World) :
  Calls Tryz.prog 45 #[.string x,.string y] w λe w'=>e=.returned (.int .i64 (lA x y))/\w=w':=by
 go_enter Tryz.func45,Tryz.ntmps45
 go_wp2
 all_goals (go_ret;exact⟨aM1 (by simp[lA, *]),rfl⟩)
structure En where
 r:ByteArray
 s:ByteArray
 l:Int
 t:Int
 c:Int
def bF (x:En):List Value:=[.string x.r,.string x.s,.int .i64 x.l,.int .i64 x.t,.int .i64 x.c]
def enZero:En:=⟨By,By,0,0,0⟩
theorem nO (x:En):(bF x).length=5:=rfl
def En.agg (x:En):Value := .agg #[.string x.r,.string x.s,.int .i64 x.l,.int .i64 x.t,.int .i64 x.c]
def zR (x y:En):Int:=orI [lA x.r y.r,iD x.c y.c,lA x.s y.s,iD x.l y.l,iD x.t y.t]
def lV (x y:En):Bool:=decide (zR x y<0)
instance:DecidableEq En:=λx y=>decidable_of_iff (x.r=y.r/\x.s=y.s/\x.l=y.l/\x.t=y.t/\x.c=y.c) (by cases x; cases y; simp)
theorem iV {x y:ByteArray} (h:x.toList=y.toList):x=y:=oC0.1 (by unfold seq; rw[h]; simp)
structure tS (x:En):Prop where
 r:x.r.size<=maxLen
 s:x.s.size<=maxLen
 l:(Lit.int .i64 x.l).wf=true
 t:(Lit.int .i64 x.t).wf=true
 c:(Lit.int .i64 x.c).wf=true
theorem aU0 (x:En):∀u∈bF x,u.oneCell'=true:=by
 intro u hu;simp[bF]at hu;rcases hu with rfl|rfl|rfl|rfl|rfl<;>rfl
theorem bytesLess_irrefl:∀l:List UInt8,Aa l l=false
 | []=>rfl
 | x::l=>by simp[Aa,bytesLess_irrefl l]
theorem fW:∀ {a b c:List UInt8},Aa a b=true->Aa b c=true->Aa a c=true
 | [],_,[],_,h=>by cases ‹List UInt8› <;> simp[Aa]at h
 | [],_,_::_,_,_=>rfl
 | _::_,[],_,h,_=>by simp[Aa]at h
 | _::_,_::_,[],_,h=>by simp[Aa]at h
 | x::a,y::b,z::c,h1,h2=>by
  simp only[Aa,Aj,Ad,decide_eq_true_eq,beq_iff_eq]at h1 h2 ⊢;rcases h1 with h1|⟨rfl,h1⟩<;>rcases h2 with h2|⟨rfl,h2⟩
  ·grind
  ·exact Or.inl h1
  ·exact Or.inl h2
  ·exact Or.inr ⟨rfl,fW h1 h2⟩
theorem dO:∀ {a b:List UInt8},Aa a b=false->a≠b->Aa b a=true
 | [],[],_,h=>absurd rfl h
 | [],_::_,h,_=>by simp[Aa]at h
 | _::_,[],_,_=>rfl
 | x::a,y::b,h1,h2=>by
  simp only[Aa,Bool.or_eq_false_iff,Bool.and_eq_false_iff,decide_eq_false_iff_not,beq_eq_false_iff_ne,Aj,Ad,decide_eq_true_eq,beq_iff_eq]at h1 ⊢;obtain⟨h1,h3⟩:=h1;by_cases um:y<x
  ·exact Or.inl um
  ·have h4:x.toNat=y.toNat:=by
    have h5:¬x.toNat<y.toNat:=h1;have h6:¬y.toNat<x.toNat:=um;omega
   obtain rfl:x=y:=UInt8.toNat_inj.1 h4;rcases h3 with h3|h3
   ·exact absurd rfl h3
   ·exact Or.inr ⟨rfl,dO h3 (by simp_all)⟩
structure vP0 {α:Type} (f:α->α->Int):Prop where
 zero:∀x y,f x y=0↔x=y
 trans:∀x y z,f x y<0->f y z<0->f x z<0
 flip:∀x y,f x y<0↔0<f y x
theorem dZ1:vP0 iD where
 zero x y:=by grind [iD]
 trans x y z:=by grind [iD]
 flip x y:=by grind [iD]
theorem uD (a b:ByteArray):lA a b=if Aa a.toList b.toList then -1 else if a=b then 0 else 1:=by
 unfold lA;by_cases h1:Aa a.toList b.toList=true
 ·simp_all
 ·rw[if_neg h1,if_neg h1]
  grind [iV]
theorem oE {a b:List UInt8} (h:Aa a b=true):¬Aa b a=true:=by grind [fW,bytesLess_irrefl]
theorem bT0:vP0 lA where
 zero x y:=by
  rw[uD];split
  ·rename_i h
   refine⟨λh=>by omega,λe=>?_⟩;rw[e,bytesLess_irrefl]at h;cases h
  ·split
   ·rename_i h;simp[h]
   ·rename_i h;simp[h]
 trans x y z:=by
  rw[uD,uD,uD];intro h1 h2
  have g1:Aa x.toList y.toList=true:=by
   by_cases h:Aa x.toList y.toList=true
   ·exact h
   ·rw[if_neg h]at h1;split at h1<;>omega
  have g2:Aa y.toList z.toList=true:=by
   by_cases h:Aa y.toList z.toList=true
   ·exact h
   ·rw[if_neg h]at h2;split at h2<;>omega
  rw[if_pos (fW g1 g2)];omega
 flip x y:=by
  rw[uD,uD];by_cases h:Aa x.toList y.toList=true
  ·have h2:=oE h
   have h3:¬y=x:=λe=>by rw[e,bytesLess_irrefl]at h;cases h
   rw[if_pos h,if_neg h2,if_neg h3];omega
  ·rw[if_neg h]
   by_cases e:x=y
   ·subst e;rw[if_pos rfl,if_neg h]
   ·have h2:=dO (by simpa using h) (λh=>e (iV h))
    rw[if_neg e,if_pos h2];omega
def oY0 {α β:Type} (f:α->α->Int) (g:β->β->Int) (x y:α×β):Int:=if f x.1 y.1=0 then g x.2 y.2 else f x.1 y.1
theorem vP0.refl {α:Type} {f:α->α->Int} (h:vP0 f) (x:α):f x x=0:=(h.zero x x).2 rfl
theorem oM {α β:Type} {f:α->α->Int} {g:β->β->Int} (hf:vP0 f) (hg:vP0 g):vP0 (oY0 f g) where
 zero x y:=by
  unfold oY0;by_cases h:f x.1 y.1=0
  ·rw[if_pos h,hg.zero]
   have:=(hf.zero _ _).1 h
   grind
  ·rw[if_neg h]
   exact⟨λh2=>absurd h2 h,λh2=>absurd (by rw[h2];exact hf.refl _) h⟩
 trans x y z:=by
  unfold oY0;intro h1 h2;by_cases e1:f x.1 y.1=0
  ·rw[if_pos e1]at h1
   have e:=(hf.zero _ _).1 e1;rw[e];by_cases e2:f y.1 z.1=0
   ·rw[if_pos e2]at h2 ⊢;exact hg.trans _ _ _ h1 h2
   omega
  ·rw[if_neg e1]at h1
   by_cases e2:f y.1 z.1=0
   ·have e:=(hf.zero _ _).1 e2
    simp_all
   ·rw[if_neg e2]at h2
    have h3:=hf.trans _ _ _ h1 h2;omega
 flip x y:=by
  unfold oY0;have hz:f x.1 y.1=0↔f y.1 x.1=0:=by rw[hf.zero,hf.zero];exact eq_comm
  by_cases e1:f x.1 y.1=0
  ·rw[if_pos e1,if_pos (hz.1 e1)];exact hg.flip _ _
  ·rw[if_neg e1,if_neg (λh=>e1 (hz.2 h))];exact hf.flip _ _
def hJ1 (x:En):ByteArray×Int×ByteArray×Int×Int:=(x.r,x.c,x.s,x.l,x.t)
theorem mP (x y:En):zR x y=oY0 lA (oY0 iD (oY0 lA (oY0 iD iD))) (hJ1 x) (hJ1 y):=by
 have hl:∀z:Int,orI [z]=z:=by grind [orI]
 unfold zR oY0 hJ1;simp only[orI];omega
theorem jI0:vP0 zR where
 zero x y:=by
  rw[mP,(oM bT0 (by grind [oM,dZ1,bT0])).zero];constructor
  ·intro h
   obtain⟨xr,xs,xl,xt,xc⟩:=x;obtain⟨yr,ys,yl,yt,yc⟩:=y;simp only[hJ1,Prod.mk.injEq]at h;simp_all
  ·intro h;rw[h]
 trans x y z:=by rw[mP,mP,mP];exact(oM bT0 (by grind [oM,dZ1,bT0])).trans _ _ _
 flip x y:=by rw[mP,mP];exact(oM bT0 (by grind [oM,dZ1,bT0])).flip _ _
theorem kS {x y z:En} (h1:lV x y=true) (h2:lV y z=true):lV x z=true:=by
 unfold lV at *;simp only[decide_eq_true_eq] at *;exact jI0.trans _ _ _ h1 h2
theorem fP (x:En):lV x x=false:=by
 unfold lV;rw[jI0.refl];simp
theorem sJ {x y:En} (h:x≠y):lV y x = !lV x y:=by
 unfold lV;have h1:=jI0.flip x y;have h2:zR x y≠0:=λh0=>h ((jI0.zero _ _).1 h0);have h3:=jI0.flip y x;grind
theorem lW {P:Program} {d:Nat} {t:TypeId} {fs:Array Field} {cs:List Value} (h:P.underlying t=some (.struct fs)) :
  P.keyLits (d + 1) t cs = if cs.length = P.cellsOf t ∧ fs.all (·.name != "_") = true then (fs.toList.mapM fun f => P.keyLits d f.type ((cs.drop f.offset).take (P.cellsOf f.type))).map List.flatten else none := by
 conv=>lhs;unfold Program.keyLits
 simp only[h]
def cA1 (x:Int×Int):Value := .agg #[.int .i64 x.1,.int .i64 x.2]
def WfI (n:Int):Prop:=(Lit.int .i64 n).wf=true
def klP (x:Int×Int):Lit := .string (keyBytes [.int .i64 x.1,.int .i64 x.2])
theorem fD0:laidOutB Tryz.prog=true:=by kernel_rfl
theorem yV:Go.Maps.Keyed Tryz.prog 243:=Go.Maps.Keyed.of_law (deep_law_laid fD0 (m:=3) (by decide) (of_decide_eq_true (by kernel_rfl)) (by kernel_rfl) (by kernel_rfl))
theorem nR1 {x:Int×Int} (h1:WfI x.1) (h2:WfI x.2):Go.keyOf Tryz.prog 243 (cA1 x)=some (klP x):=by
 obtain⟨m,hm⟩:∃m,Tryz.prog.types.size=m+1:=⟨Tryz.prog.types.size-1,by have:0<Tryz.prog.types.size:=of_decide_eq_true (by kernel_rfl);omega⟩
 have hI:∀(n:Int),WfI n->Tryz.prog.keyLits (m+1) 3 [.int .i64 n]=some [.int .i64 n]:=λn hn=>by
  unfold Program.keyLits;unfold WfI at hn;simp only[Tryz.underlying3,hn,and_self,if_true]
 have hk:Tryz.prog.keyType 243=true:=by kernel_rfl
 have hc:Tryz.prog.cellsOf 243=2:=by kernel_rfl
 have hci:Tryz.prog.cellsOf 3=1:=by kernel_rfl
 obtain⟨a,b⟩:=x;have g1:=hI a h1;have g2:=hI b h2;unfold Go.keyOf;simp only[Tryz.underlying243,hk,Bf];unfold Value.formed cA1;simp only[Tryz.underlying243,hc];have hz:((#[Value.int .i64 a,.int .i64 b]:Array Value).size==2)=true:=rfl;rw[if_pos hz,hm];unfold Program.keyLits;simp only[Tryz.underlying243,hc,Value.cells];simp[hci,g1,g2,klP]
theorem lW0 {x y:Int×Int} (h1:WfI x.1) (h2:WfI x.2) (h3:WfI y.1) (h4:WfI y.2) (h:klP x=klP y):x=y:=by
 have k1:=nR1 h1 h2;have k2:=nR1 h3 h4;rw[h]at k1
 have:=yV.inj k1 k2
 obtain⟨a,b⟩:=x;obtain⟨a',b'⟩:=y;simpa [cA1] using this
theorem fO0 {key:Value} {kl:Lit} (h:Go.keyOf Tryz.prog 243 key=some kl):∃x:Int×Int,WfI x.1/\WfI x.2/\key=cA1 x/\kl=klP x:=by
 obtain⟨m,hm⟩:∃m,Tryz.prog.types.size=m+1:=⟨Tryz.prog.types.size-1,by have:0<Tryz.prog.types.size:=of_decide_eq_true (by kernel_rfl);omega⟩
 have hI:∀(v:Value) (ls:List Lit),Tryz.prog.keyLits (m+1) 3 [v]=some ls->∃n:Int,v=.int .i64 n/\WfI n/\ls=[.int .i64 n]:=λv ls h=>by
  unfold Program.keyLits at h;simp only[Tryz.underlying3]at h;cases v<;>simp at h
  obtain⟨⟨rfl,h2⟩,h3⟩:=h;exact⟨_,rfl,h2,h3.symm⟩
 have hk:Tryz.prog.keyType 243=true:=by kernel_rfl
 have hc:Tryz.prog.cellsOf 243=2:=by kernel_rfl
 have hci:Tryz.prog.cellsOf 3=1:=by kernel_rfl
 unfold Go.keyOf at h;simp only[Tryz.underlying243,hk,Bf]at h;split at h
 ·rename_i hf
  rw[hm]at h
  obtain⟨cs,rfl,dm⟩:∃cs,key=.agg cs/\cs.size=2:=by
   unfold Value.formed at hf;cases key<;>simp[Tryz.underlying243,hc]at hf
   exact⟨_,rfl,hf⟩
  obtain⟨l⟩:=cs
  match l,dm with
  | [c0,c1],_ =>
   rw[lW Tryz.underlying243]at h;simp only[Value.cells]at h;simp[hci,hc,Bg,Ca]at h;obtain⟨l0,g0,ls,⟨l1,g1,rfl⟩,rfl⟩:=h;obtain⟨n2,rfl,z2,rfl⟩:=hI _ _ g0;obtain⟨n3,rfl,z3,rfl⟩:=hI _ _ g1;exact⟨⟨n2,n3⟩,z2,z3,rfl,by simp[klP]⟩
 ·cases h
end
section
open Go Go.RowKit
structure Mx where
 n:Nat
 d:Int
 cs:List Int
structure Mx.OK (m:Mx):Prop where
 n1:1<=m.n
 n2:m.n<=64
 d1:0<=m.d
 d2:m.d<=30000
 len:m.cs.length=m.n*m.n
 cost:∀c∈m.cs,0<=c/\c<=30000
def isC (c:Int):Bool:=decide (0<=c)&&decide (c<=30000)
theorem gG0 {c:Int}:isC c=true↔0<=c/\c<=30000:=by simp[isC]
def vW0 (n d:Int):Bool:=decide (1<=n)&&decide (n<=64)&&isC d
theorem rU {n d:Int}:vW0 n d=true↔1<=n/\n<=64/\0<=d/\d<=30000:=by simp[vW0,isC,and_assoc]
def newM (n d:Int):Mx:=⟨n.toNat,d,Cb (n.toNat*n.toNat) d⟩
theorem lY0 {n d:Int} (h:vW0 n d=true):(newM n d).OK:=by
 obtain⟨h1,h2,h3,h4⟩:=rU.1 h;refine⟨?_,?_,h3,h4,by simp[newM],λc hc=>?_⟩
 ·show 1<=n.toNat;omega
 ·show n.toNat<=64;omega
 ·obtain rfl:c=d:=(List.mem_replicate.1 hc).2
  exact⟨h3,h4⟩
def inR (n:Nat) (r:Int):Bool:=decide (0<=r)&&decide (r<n)
theorem kT1 {n:Nat} {r:Int}:inR n r=true↔0<=r/\r<n:=by simp[inR]
def at2 (n:Nat) (x:Int×Int):Nat:=x.1.toNat*n+x.2.toNat
def inP (n:Nat) (x:Int×Int):Bool:=inR n x.1&&inR n x.2
theorem rD {n:Nat} {x:Int×Int}:inP n x=true↔(0<=x.1/\x.1<n)/\0<=x.2/\x.2<n:=by simp[inP,kT1]
theorem cN0 {n:Nat} {x:Int×Int} (h:inP n x=true):at2 n x<n*n:=by
 obtain⟨⟨h1,h2⟩,h3,h4⟩:=rD.1 h;unfold at2;have k1:x.1.toNat+1<=n:=by omega
 have k2:x.2.toNat<n:=by omega
 have:=Nat.mul_le_mul_right n k1
 grind
theorem kX1 {n:Nat} {x:Int×Int} (h:inP n x=true):at2 n x/n=x.1.toNat/\at2 n x%n=x.2.toNat:=by
 obtain⟨⟨h1,h2⟩,h3,h4⟩:=rD.1 h;have k2:x.2.toNat<n:=by omega
 unfold at2;constructor
 ·rw[Cc,Nat.mul_add_div (by omega),Nat.div_eq_of_lt k2,Nat.add_zero]
 ·rw[Cc,Nat.mul_add_mod,Nat.mod_eq_of_lt k2]
theorem bY1 {n:Nat} {x y:Int×Int} (hx:inP n x=true) (hy:inP n y=true) (h:at2 n x=at2 n y):x=y:=by
 grind [kX1,rD]
def Mx.cost (m:Mx) (x:Int×Int):Int:=if inP m.n x then m.cs.getD (at2 m.n x) 0 else 30000
def Mx.setB (m:Mx) (x:Int×Int) (c:Int):Bool:=inP m.n x&&isC c
def Mx.set (m:Mx) (x:Int×Int) (c:Int):Mx:={ m with cs:=m.cs.set (at2 m.n x) c }
def Mx.setIf (m:Mx) (x:Int×Int) (c:Int):Mx:=if m.setB x c then m.set x c else m
theorem Mx.OK.set {m:Mx} (h:m.OK) {x:Int×Int} {c:Int} (hs:m.setB x c=true):(m.set x c).OK:=by
 simp only[Mx.setB,Ad]at hs;refine⟨h.n1,h.n2,h.d1,h.d2,by simp[Mx.set,h.len],λz hz=>?_⟩;rcases List.mem_or_eq_of_mem_set hz with hz|rfl
 ·exact h.cost z hz
 ·exact gG0.1 hs.2
theorem Mx.OK.setIf {m:Mx} (h:m.OK) (x:Int×Int) (c:Int):(m.setIf x c).OK:=by
 unfold Mx.setIf;split
 ·rename_i hs;exact h.set hs
 ·exact h
theorem Mx.cost_set {m:Mx} (h:m.OK) {x:Int×Int} {c:Int} (hx:inP m.n x=true) (y:Int×Int):(m.set x c).cost y=if y=x then c else m.cost y:=by
 have hl:at2 m.n x<m.cs.length:=by rw[h.len];exact cN0 hx
 unfold Mx.cost;show (if inP m.n y then (m.cs.set (at2 m.n x) c).getD (at2 m.n y) 0 else 30000)=_
 by_cases hy:inP m.n y=true
 ·rw[if_pos hy,if_pos hy]
  by_cases e:y=x
  ·simp_all
  ·rw[if_neg e]
   have:at2 m.n x≠at2 m.n y:=λh=>e (bY1 hx hy h).symm
   simp_all
 grind
theorem Mx.cost_new {n d:Int} (x:Int×Int):(newM n d).cost x=if inP n.toNat x then d else 30000:=by
 unfold Mx.cost newM;simp only;by_cases h:inP n.toNat x=true
 ·rw[if_pos h,if_pos h]
  simp[Cf,cN0 h]
 simp_all
theorem Mx.cost_ok {m:Mx} (h:m.OK) (x:Int×Int):0<=m.cost x/\m.cost x<=30000:=by
 unfold Mx.cost;split
 ·rename_i hx
  have hl:at2 m.n x<m.cs.length:=by rw[h.len];exact cN0 hx
  have:m.cs.getD (at2 m.n x) 0=m.cs[at2 m.n x]:=by simp[Cf,hl]
  rw[this];exact h.cost _ (List.getElem_mem _)
 ·omega
theorem pW {n:Nat} (hn:n<=64) {x:Int×Int} (h:inP n x=true):WfI x.1/\WfI x.2:=by
 grind [rD,WalkArith.wf_i64,WfI]
section
variable {H:Type}
def oW0 (m:Mx) (D:DataW H):Prop:=∀x:Int×Int,WfI x.1->WfI x.2->(Maps.has D (klP x)=(inP m.n x&&decide (m.cost x≠m.d)))/\(Maps.has D (klP x)=true->∀zd,D.atKey (klP x) zd=.lit (.int .i64 (m.cost x)))
theorem bR1 (x:Int×Int):WideAt.IsKeyLit (klP x):=by simp[klP,WideAt.IsKeyLit]
theorem oV0 (x:Int×Int):(klP x).sameKey (klP x)=true:=by simp[klP,Lit.sameKey]
theorem dV1 (n d:Int):oW0 (H:=H) (newM n d) (.map []):=λx _ _=>by
 refine⟨?_,λh=>by cases h⟩;show false=_
 rw[Mx.cost_new];show false=(inP n.toNat x&&decide ((if inP n.toNat x then d else 30000)≠d))
 simp_all
theorem oW0.put {m:Mx} {D:DataW H} (h:oW0 m D) (hm:Maps.IsMap D) (ag:m.OK) {x:Int×Int} {c:Int} (hs:m.setB x c=true) (hc:c≠m.d):oW0 (m.set x c) (D.put (klP x) (.lit (.int .i64 c))):=λy h1 h2=>by
 simp only[Mx.setB,Ad]at hs;have hw:=pW ag.n2 hs.1;rw[Mx.cost_set ag hs.1];show Maps.has _ _=(inP m.n y&&decide (_≠m.d))/\_
 by_cases e:y=x
 ·subst e
  rw[if_pos rfl,Maps.has_put_same hm (bR1 _),hs.1];exact⟨by simp[hc],λ_ zd=>Maps.atKey_put_same hm (bR1 _) _ _⟩
 ·have ak:klP y≠klP x:=λh=>e (lW0 h1 h2 hw.1 hw.2 h)
  rw[if_neg e,Maps.has_put_other ak];refine⟨(h y h1 h2).1,λhh zd=>?_⟩;rw[Maps.atKey_put_other ak];exact(h y h1 h2).2 hh zd
theorem oW0.del {m:Mx} {D:DataW H} (h:oW0 m D) (ag:m.OK) {x:Int×Int} (hx:inP m.n x=true):oW0 (m.set x m.d) (D.del (klP x)):=λy h1 h2=>by
 have hw:=pW ag.n2 hx;rw[Mx.cost_set ag hx];show Maps.has _ _=(inP m.n y&&decide (_≠m.d))/\_
 by_cases e:y=x
 ·subst e
  rw[if_pos rfl,Maps.has_del_same];simp_all
 ·have ak:klP y≠klP x:=λh=>e (lW0 h1 h2 hw.1 hw.2 h)
  rw[if_neg e,Maps.has_del_other ak];refine⟨(h y h1 h2).1,λhh zd=>?_⟩;rw[Maps.atKey_del_other ak];exact(h y h1 h2).2 hh zd
theorem oW0.look {m:Mx} {D:DataW H} (h:oW0 m D) (ag:m.OK) {x:Int×Int} (hx:inP m.n x=true) {c:Int} (hc:D.atKey (klP x) (.lit (.int .i64 0))=.lit (.int .i64 c)):(Maps.has D (klP x)=true->c=m.cost x)/\(Maps.has D (klP x)=false->m.cost x=m.d):=by
 have hw:=pW ag.n2 hx;obtain⟨h1,h2⟩:=h x hw.1 hw.2;grind
end
def Mx.idx (m:Mx):List Nat:=(Af (m.n*m.n)).filter λi=>decide (m.cs.getD i 0≠m.d)
def dU (n i:Nat):Int×Int:=(((i/n:Nat):Int),((i%n:Nat):Int))
def Mx.pairs (m:Mx):List (Int×Int):=m.idx.map (dU m.n)
theorem kY {n i:Nat} (h:i<n*n):inP n (dU n i)=true/\at2 n (dU n i)=i:=by
 have hn:0<n:=by
  rcases Av n with h0|h0
  ·subst h0;simp at h
  ·exact h0
 have h1:i/n<n:=Nat.div_lt_of_lt_mul h;have h2:i%n<n:=Nat.mod_lt _ hn;grind [rD,Bn,dU,at2]
theorem cC0 {n:Nat} {x:Int×Int} (h:inP n x=true):dU n (at2 n x)=x:=by grind [bY1,kY,cN0]
theorem Mx.mem_idx {m:Mx} {i:Nat}:i∈m.idx↔i<m.n*m.n/\m.cs.getD i 0≠m.d:=by simp[Mx.idx]
theorem Mx.mem_pairs {m:Mx} {x:Int×Int}:x∈m.pairs↔inP m.n x=true/\m.cost x≠m.d:=by
 unfold Mx.pairs;rw[Cd];constructor
 ·rintro⟨i,hi,rfl⟩
  obtain⟨h1,h2⟩:=Mx.mem_idx.1 hi;obtain⟨h3,h4⟩:=kY h1;refine⟨h3,?_⟩;unfold Mx.cost;simp_all
 ·rintro⟨h1,h2⟩
  refine⟨at2 m.n x,Mx.mem_idx.2 ⟨cN0 h1,?_⟩,cC0 h1⟩;unfold Mx.cost at h2;rwa [if_pos h1]at h2
def cP1 (a b:Int×Int):Int:=orI [iD a.1 b.1,iD a.2 b.2]
def ltP (a b:Int×Int):Prop:=a.1<b.1\/a.1=b.1/\a.2<b.2
theorem iS1 (a b:Int×Int):cP1 a b<0↔ltP a b:=by
 unfold cP1 ltP;grind [orI,iD]
theorem dS0 (a:Int×Int):¬ltP a a:=by unfold ltP; omega
theorem hV0 {a b c:Int×Int} (h1:ltP a b) (h2:ltP b c):ltP a c:=by unfold ltP at *; omega
theorem wA0 {a b:Int×Int} (h:a≠b):ltP a b\/ltP b a:=by
 grind [ltP]
theorem wJ0 {n i j:Nat} (h:i<j):ltP (dU n i) (dU n j):=by
 have h1:i/n<=j/n:=Nat.div_le_div_right (Nat.le_of_lt h);unfold ltP dU;simp only;by_cases e:i/n=j/n
 ·right
  refine⟨by omega,?_⟩;have h2:=Bn i n;have h3:=Bn j n;rw[e]at h2;omega
 ·left;omega
theorem Mx.pairs_sorted (m:Mx):m.pairs.Pairwise ltP:=by
 unfold Mx.pairs Mx.idx;rw[Bs];exact(List.Pairwise.filter _ Bi).imp λh=>wJ0 h
theorem rX {α:Type} {lt:α->α->Prop} (hi:∀a, ¬lt a a) (ht:∀ {a b c},lt a b->lt b c->lt a c):∀ {o o':List α},o.Pairwise lt->o'.Pairwise lt->(∀y,y∈o↔y∈o')->o=o'
 | [],[],_,_,_=>rfl
 | [],b::s,_,_,h=>by have:=(h b).2 (by simp);cases this
 | a::r,[],_,_,h=>by have:=(h a).1 (by simp);cases this
 | a::r,b::s,h1,h2,h=>by
  obtain⟨ha,hr⟩:=List.pairwise_cons.1 h1;obtain⟨hb,hs⟩:=List.pairwise_cons.1 h2
  have eo:a=b:=by
   rcases List.mem_cons.1 ((h a).1 (by simp)) with e|e
   ·exact e
   ·rcases List.mem_cons.1 ((h b).2 (by simp)) with e'|e'
    ·exact e'.symm
    grind
  subst eo;have jl:a∉r:=by grind
  have nl:a∉s:=by grind
  rw[rX hi ht hr hs λy=>?_];grind
theorem Mx.pairs_len {m:Mx} (h:m.OK):m.pairs.length<=4096:=by
 unfold Mx.pairs;rw[List.length_map];refine Bj (List.length_filter_le _ _) ?_;rw[List.length_range]
 have:=h.n2
 exact Nat.mul_le_mul this this
theorem cU {α:Type} [DecidableEq α]:∀ {l l':List α},l.Nodup->(∀x∈l,x∈l')->l.length<=l'.length
 | [],_,_,_=>An _
 | x::r,l',hn,hs=>by
  obtain⟨h1,h2⟩:=List.nodup_cons.1 hn;have hx:=hs x (by simp);have hr:=cU (l':=l'.erase x) h2 λy hy=>(List.mem_erase_of_ne (λ(e:y=x)=>h1 (by rw[<-e];exact hy))).2 (hs y (by simp[hy]));rw[List.length_erase_of_mem hx]at hr
  have:=List.length_pos_of_mem hx
  simp only[Aw];omega
end
section
open Go Go.RowKit
structure Gs where
 r:ByteArray
 s:ByteArray
 c:Int
def bZ0 (x y:Gs):Int:=orI [iD y.c x.c,lA x.r y.r,lA x.s y.s]
def dG (x y:Gs):Bool:=decide (bZ0 x y<0)
theorem vP0.rev' {α:Type} {f:α->α->Int} (h:vP0 f):vP0 λx y=>f y x where
 zero x y:=(h.zero y x).trans eq_comm
 trans x y z h1 h2:=h.trans z y x h2 h1
 flip x y:=h.flip y x
def gK (x:Gs):Int×ByteArray×ByteArray:=(x.c,x.r,x.s)
theorem aT1 {x y:Gs} (h:gK x=gK y):x=y:=by
 obtain⟨a,b,c⟩:=x;obtain⟨a',b',c'⟩:=y;simp only[gK,Prod.mk.injEq]at h;obtain⟨rfl,rfl,rfl⟩:=h;rfl
theorem rR (x y:Gs):bZ0 x y=oY0 (λa b=>iD b a) (oY0 lA lA) (gK x) (gK y):=by
 unfold bZ0 oY0 gK;simp only[orI];repeat' split
 all_goals simp_all
theorem mN:vP0 (oY0 (λa b=>iD b a) (oY0 lA lA)):=oM dZ1.rev' (oM bT0 bT0)
theorem dK (x:Gs):¬dG x x=true:=by
 unfold dG;rw[rR,mN.refl];simp
theorem fK {x y z:Gs} (h1:dG x y=true) (h2:dG y z=true):dG x z=true:=by
 unfold dG at *;simp only[decide_eq_true_eq,rR] at *;exact mN.trans _ _ _ h1 h2
theorem oG {x y:Gs} (h:x≠y) (hn:¬dG x y=true):dG y x=true:=by
 unfold dG at *;simp only[decide_eq_true_eq,rR] at *;have h1:=mN.flip (gK x) (gK y);have h2:_≠(0:Int):=λh0=>h (aT1 ((mN.zero (gK x) (gK y)).1 h0));have h3:=mN.flip (gK y) (gK x);omega
structure mV (W:ByteArray->ByteArray->Prop) (sc:ByteArray->ByteArray->Int) (L:List Gs):Prop where
 srt:L.Pairwise λx y=>dG x y=true
 mem:∀x,x∈L↔W x.r x.s/\x.c=sc x.r x.s
theorem mV.unique {W:ByteArray->ByteArray->Prop} {sc:ByteArray->ByteArray->Int} {L L':List Gs} (h:mV W sc L) (h':mV W sc L'):L=L' :=
 rX (lt:=λx y=>dG x y=true) dK fK h.srt h'.srt λy=>(h.mem y).trans (h'.mem y).symm
theorem mV.congr {W W':ByteArray->ByteArray->Prop} {sc:ByteArray->ByteArray->Int} {L:List Gs} (h:mV W sc L) (he:∀r s,W r s↔W' r s):mV W' sc L:=⟨h.srt,λx=>(h.mem x).trans (by rw[he])⟩
theorem mV.nodup {W:ByteArray->ByteArray->Prop} {sc:ByteArray->ByteArray->Int} {L:List Gs} (h:mV W sc L):L.Pairwise λx y=>¬(x.r=y.r/\x.s=y.s):=by
 refine h.srt.imp_of_mem λ{x y} hx hy hl e=>?_;have h1:=((h.mem x).1 hx).2;have h2:=((h.mem y).1 hy).2
 have:x=y:=by
  obtain⟨a,b,c⟩:=x;obtain⟨a',b',c'⟩:=y;simp only at e h1 h2;obtain⟨rfl,rfl⟩:=e;rw[h1,h2]
 subst this;exact dK _ hl
def sP0 (x:Gs):List Gs->List Gs
 | []=>[x]
 | y::r=>if dG x y then x::y::r else y::sP0 x r
theorem xQ {x y:Gs}:∀ {L:List Gs},y∈sP0 x L↔y=x\/y∈L
 | []=>by simp[sP0]
 | z::r=>by
  unfold sP0;split
  ·simp
  ·rw[Ax,xQ (L:=r),Ax]
   grind
theorem pI0 {x:Gs}:∀ {L:List Gs},(L.Pairwise λx y=>dG x y=true)->x∉L->(sP0 x L).Pairwise λx y=>dG x y=true
 | [],_,_=>by simp[sP0]
 | z::r,h,hx=>by
  obtain⟨hz,hr⟩:=List.pairwise_cons.1 h;unfold sP0;split
  ·rename_i hl
   refine List.pairwise_cons.2 ⟨λy hy=>?_,h⟩;rcases List.mem_cons.1 hy with rfl|hy
   ·exact hl
   ·exact fK hl (hz y hy)
  ·rename_i hl
   refine List.pairwise_cons.2 ⟨λy hy=>?_,pI0 hr λhy=>hx (by simp[hy])⟩;rcases xQ.1 hy with rfl|hy
   ·exact oG (λe=>hx (by simp[e])) hl
   ·exact hz y hy
theorem fJ1 {x:Gs}:∀ {L:List Gs},(sP0 x L).length=L.length+1
 | []=>rfl
 | z::r=>by
  unfold sP0;split
  ·rfl
  ·rw[Aw,fJ1 (L:=r),Aw]
def sortG (l:List Gs):List Gs:=l.foldl (λL x=>sP0 x L) []
theorem rO0 (l:List Gs):l.Nodup->(sortG l).Pairwise (λx y=>dG x y=true)/\(∀y,y∈sortG l↔y∈l):=by
 unfold sortG
 have:∀(l L:List Gs),(L.Pairwise λx y=>dG x y=true)->l.Nodup->(∀x∈l,x∉L)->(l.foldl (λL x=>sP0 x L) L).Pairwise (λx y=>dG x y=true)/\∀y,y∈l.foldl (λL x=>sP0 x L) L↔y∈L\/y∈l:=λl=>by
  induction l with
  | nil=>intro L h _ _;exact⟨h,λy=>by simp⟩
  | cons x l ih =>
   intro L h hn hd;obtain⟨h1,h2⟩:=List.nodup_cons.1 hn
   obtain⟨k1,k2⟩:=ih (sP0 x L) (pI0 h (hd x (by simp))) h2 (λz hz hm=>by
    rcases xQ.1 hm with rfl|hm
    ·exact h1 hz
    ·exact hd z (by simp[hz]) hm)
   refine⟨k1,λy=>?_⟩;rw[Bz,k2,xQ,Ax];grind
 intro hn;obtain⟨h1,h2⟩:=this l [] List.Pairwise.nil hn (by simp);exact⟨h1,λy=>by rw[h2];simp⟩
def wQ0 (L:List Gs) (x:Gs):Nat:=(L.filter λy=>dG y x).length
theorem nK0:∀ {L:List Gs} {i:Nat} {x:Gs},(L.Pairwise λx y=>dG x y=true)->L[i]?=some x->wQ0 L x=i
 | [],_,_,_,h=>by cases h
 | y::L,0,x,hs,h=>by
  obtain⟨h1,h2⟩:=List.pairwise_cons.1 hs;obtain rfl:y=x:=by simpa using h
  unfold wQ0;rw[List.length_eq_zero_iff,Ai];intro z hz hl;rcases List.mem_cons.1 hz with rfl|hz
  ·exact dK _ hl
  ·exact dK _ (fK hl (h1 z hz))
 | y::L,i+1,x,hs,h=>by
  obtain⟨h1,h2⟩:=List.pairwise_cons.1 hs;have h':L[i]?=some x:=by simpa using h
  unfold wQ0;rw[List.filter_cons,if_pos (h1 x (Ar h')),Aw]
  have:=nK0 h2 h'
  unfold wQ0 at this;omega
theorem mV.rises {W:ByteArray->ByteArray->Prop} {sc un:ByteArray->ByteArray->Int} {L L':List Gs} (h:mV W sc L) (h':mV W un L') {r s:ByteArray} (gv:sc r s<=un r s) (yo:∀a b, ¬(a=r/\b=s)->un a b=sc a b) {i:Nat} {x:Gs}
  (hx:L[i]?=some x) (hr:x.r=r) (hs:x.s=s):∃j y,j<=i/\L'[j]?=some y/\y.r=r/\y.s=s:=by
 have hm:=(h.mem x).1 (Ar hx);rw[hr,hs]at hm;have hy:(⟨r,s,un r s⟩:Gs)∈L':=(h'.mem _).2 ⟨hm.1,rfl⟩;obtain⟨j,hj⟩:=List.mem_iff_getElem?.1 hy;refine⟨j,_,?_,hj,rfl,rfl⟩;have e1:=nK0 h.srt hx;have e2:=nK0 h'.srt hj;rw[<-e1,<-e2];unfold wQ0
 have acf:∀y∈L'.filter (λy=>dG y ⟨r,s,un r s⟩),y∈L.filter λy=>dG y x:=λy hy=>by
  obtain⟨h1,h2⟩:=List.mem_filter.1 hy;have k:=(h'.mem y).1 h1
  have ak:¬(y.r=r/\y.s=s):=λe=>by
   have:y=⟨r,s,un r s⟩:=by
    obtain⟨a,b,c⟩:=y;simp only at e k;obtain⟨rfl,rfl⟩:=e;rw[k.2]
   rw[this]at h2;exact dK _ h2
  rw[yo _ _ ak]at k;refine List.mem_filter.2 ⟨(h.mem y).2 k,?_⟩;by_cases he:dG y x=true
  ·exact he
  ·exfalso
   have h3:=oG (λe=>ak (by rw[e];exact⟨hr,hs⟩)) he
   have h4:dG (⟨r,s,un r s⟩:Gs) x=true\/(⟨r,s,un r s⟩:Gs)=x:=by
    by_cases hc:un r s=sc r s
    ·refine Or.inr ?_
     obtain⟨a,b,c⟩:=x;simp only at hr hs hm;rw[hr,hs,hm.2,hc]
    ·refine Or.inl ?_
     unfold dG bZ0;rw[hr,hs,hm.2]
     have:iD (sc r s) (un r s) = -1:=by
      unfold iD;rw[if_pos (by omega)]
     simp[orI,this]
   rcases h4 with h4|h4
   ·exact dK _ (fK h2 (fK h4 h3))
   ·rw[h4]at h2
    exact dK _ (fK h2 h3)
 have yq:(L'.filter λy=>dG y ⟨r,s,un r s⟩).Nodup:=(List.nodup_iff_pairwise_ne.2 (h'.srt.imp λ{a b} hl e=>by rw[e]at hl;exact dK _ hl)).sublist List.filter_sublist
 have:DecidableEq Gs:=λ_ _=>Classical.propDecidable _
 exact cU yq acf
end
section
open Go
def eB (x y:En):Prop:=x.r=y.r/\x.s=y.s/\x.l=y.l/\x.t=y.t
instance (x y:En):Decidable (eB x y):=by unfold eB; exact inferInstance
def uV (l:List En) (y:En):Prop:=y∈l/\∀z∈l,eB z y->y.c<=z.c
def gA (o:List En):Prop:=o.Pairwise λx y=>lV x y=true
def zD (l o:List En):Prop:=gA o/\∀y,y∈o↔uV l y
theorem tA:∀ {o o':List En},gA o->gA o'->(∀y,y∈o↔y∈o')->o=o'
 | [],[],_,_,_=>rfl
 | [],b::s,_,_,h=>by have:=(h b).2 (by simp);cases this
 | a::r,[],_,_,h=>by have:=(h a).1 (by simp);cases this
 | a::r,b::s,h1,h2,h=>by
  obtain⟨ha,hr⟩:=List.pairwise_cons.1 h1;obtain⟨hb,hs⟩:=List.pairwise_cons.1 h2
  have eo:a=b:=by
   rcases List.mem_cons.1 ((h a).1 (by simp)) with e|e
   ·exact e
   ·rcases List.mem_cons.1 ((h b).2 (by simp)) with e'|e'
    ·exact e'.symm
    grind [kS,fP]
  subst eo;have jl:a∉r:=by grind [fP]
  have nl:a∉s:=by grind [fP]
  rw[tA hr hs λy=>?_];grind
theorem zD.unique {l o o':List En} (h:zD l o) (h':zD l o'):o=o':=tA h.1 h'.1 λy=>(h.2 y).trans (h'.2 y).symm
def iD1 (x:En):List En->List En
 | []=>[x]
 | y::r=>if lV y x then y::iD1 x r else x::y::r
theorem fS0 {x y:En}:∀ {o:List En},y∈iD1 x o↔y=x\/y∈o
 | []=>by simp[iD1]
 | z::r=>by
  unfold iD1;split
  ·rw[Ax,fS0 (o:=r),Ax]
   grind
  ·simp
theorem zY {x:En}:∀ {o:List En},gA o->x∉o->gA (iD1 x o)
 | [],_,_=>by simp[iD1,gA]
 | z::r,h,hx=>by
  obtain⟨hz,hr⟩:=List.pairwise_cons.1 h;have hxz:x≠z:=by simp_all
  have hxr:x∉r:=by simp_all
  unfold iD1;split
  ·rename_i hl
   refine List.pairwise_cons.2 ⟨λy hy=>?_,zY hr hxr⟩;grind [fS0]
  ·rename_i hl
   have hl':lV x z=true:=by
    have:=sJ (x:=z) (y:=x) (Ne.symm hxz)
    rw[this];simpa using hl
   refine List.pairwise_cons.2 ⟨λy hy=>?_,h⟩;rcases List.mem_cons.1 hy with rfl|hy
   ·exact hl'
   grind [kS]
def oT0 (l:List En) (y:En):Bool:=l.all λz => !decide (eB z y)||decide (y.c<=z.c)
theorem uD0 {l:List En} {y:En} (hy:y∈l):oT0 l y=true↔uV l y:=by
 grind [oT0,uV]
def dO0 (l:List En):List En->List En->List En
 | [],o=>o
 | x::r,o=>if oT0 l x && !decide (x∈o) then dO0 l r (iD1 x o) else dO0 l r o
def sortS (l:List En):List En:=dO0 l l []
theorem rK (l:List En):∀(r done o:List En),l=done++r->gA o->(∀y,y∈o↔y∈done/\oT0 l y=true)->zD l (dO0 l r o)
 | [],done,o,hl,hs,hm=>by
  refine⟨hs,λy=>?_⟩;rw[Az]at hl;grind [uD0,dO0,uV]
 | x::r,done,o,hl,hs,hm=>by
  have np:l=(done++[x])++r:=by rw[hl];simp
  unfold dO0;split
  ·rename_i hc
   simp only[Ad,Bt,decide_eq_false_iff_not]at hc;refine rK l r _ _ np (zY hs hc.2) λy=>?_;rw[fS0,hm y];grind
  ·rename_i hc
   simp only[Ad,Bt,decide_eq_false_iff_not,not_and,Decidable.not_not]at hc;refine rK l r _ _ np hs λy=>?_;grind
theorem dM (l:List En):zD l (sortS l):=rK l l [] [] rfl (by simp[gA]) (by simp)
def nX:List UInt8->List UInt8->Nat
 | a::x,b::y=>if a=b then nX x y+1 else 0
 | _,_=>0
theorem qQ0 (b:List UInt8):nX [] b=0:=by cases b<;>rfl
theorem vU0 (a:List UInt8):nX a []=0:=by cases a<;>rfl
theorem oE0:∀(a b:List UInt8),nX a b<=a.length/\nX a b<=b.length
 | [],b=>by grind [nX]
 | a::x,[]=>by grind [nX]
 | a::x,b::y=>by
  have:=oE0 x y
  grind [nX]
theorem zP:∀(a:List UInt8),nX a a=a.length
 | []=>rfl
 | a::x=>by unfold nX;rw[if_pos rfl,zP x];rfl
theorem jA:∀(e:Nat) (a b:List UInt8),e<=nX a b↔e<=a.length/\e<=b.length/\a.take e=b.take e
 | 0,a,b=>by simp
 | e+1,[],b=>by rw[qQ0];simp
 | e+1,a::x,[]=>by rw[vU0];simp
 | e+1,a::x,b::y=>by
  unfold nX;by_cases h:a=b
  ·subst h
   rw[if_pos rfl]
   have:=jA e x y
   simp_all
  simp_all
theorem kK0 {e:Nat} {a b:List UInt8} (h:e<=nX a b) (ha:e<a.length) (hb:e<b.length):e+1<=nX a b↔a[e]?=b[e]?:=by
 grind [jA,Ap,List.append_cancel_left]
theorem oY:∀(e:Nat) {a b c:List UInt8},Aa a b=true->Aa b c=true->e<=nX a c->e<=nX a b/\e<=nX b c
 | 0,_,_,_,_,_,_=>by omega
 | e+1,[],_,c,_,_,h=>by grind [nX]
 | e+1,_::_,_,[],_,_,h=>by grind [nX]
 | e+1,_::_,[],_::_,h,_,_=>by simp[Aa]at h
 | e+1,x::a,y::b,z::c,h1,h2,h=>by
  unfold nX at h;split at h
  case isFalse=>omega
  rename_i hxz
  subst hxz;simp only[Aa,Aj,Ad,decide_eq_true_eq,beq_iff_eq]at h1 h2
  have um:x=y:=by
   rcases h1 with h1|h1
   ·grind
   ·exact h1.1
  subst um;have af:¬x<x:=by simp_all
  have k1:Aa a b=true:=by
   rcases h1 with h1|h1
   ·exact absurd h1 af
   ·exact h1.2
  have k2:Aa b c=true:=by
   rcases h2 with h2|h2
   ·exact absurd h2 af
   ·exact h2.2
  have:=oY e k1 k2 (by omega)
  grind [nX]
theorem uO0 {e:Nat} {a b c:List UInt8} (h1:e<=nX a b) (h2:e<=nX b c):e<=nX a c:=by
 rw[jA] at *;simp_all
theorem aG0:∀(a b:List UInt8),nX a b=nX b a
 | [],b=>by grind [nX]
 | a::x,[]=>by grind [nX]
 | a::x,b::y=>by
  unfold nX;by_cases h:a=b
  ·rw[if_pos h,if_pos h.symm,aG0 x y]
  grind
theorem oJ:∀ {a b:List UInt8},Aa a b=true->nX a b<b.length
 | [],[],h=>by simp[Aa]at h
 | [],_::_,_=>by rw[qQ0];simp
 | _::_,[],h=>by simp[Aa]at h
 | x::a,y::b,h=>by
  simp only[Aa,Aj,Ad,decide_eq_true_eq,beq_iff_eq]at h;unfold nX;split
  ·rename_i um
   subst um;have af:¬x<x:=by simp_all
   rcases h with h|h
   ·exact absurd h af
   ·have:=oJ h.2
    simp_all
  ·simp
def nth (L:List (List UInt8)) (j:Nat):List UInt8:=L.getD j []
theorem vY {L:List (List UInt8)} {j:Nat} {x:List UInt8} (h:L[j]?=some x):nth L j=x:=by
 grind [nth]
theorem iP {L:List (List UInt8)} {j:Nat} (h:j<L.length):L[j]?=some (nth L j):=by
 grind [nth]
def cAt (L:List (List UInt8)) (j:Nat):Nat:=nX (nth L (j-1)) (nth L j)
def Asc (L:List (List UInt8)):Prop:=∀j,j+1<L.length->Aa (nth L j) (nth L (j+1))=true
theorem Asc.lt {L:List (List UInt8)} (h:Asc L):∀(j i:Nat),i<j->j<L.length->Aa (nth L i) (nth L j)=true
 | 0,i,hi,_=>by omega
 | j+1,i,hi,hj=>by
  rcases Ab i j with h1|h1
  ·exact fW (h.lt j i h1 (by omega)) (h j hj)
  ·rw[show i=j by omega];exact h j hj
theorem Asc.all {L:List (List UInt8)} (h:Asc L) {e i j m:Nat} (hj:j<L.length) (pz:i<m) (ti:m<=j) (he:e<=nX (nth L i) (nth L j)):e<=cAt L m:=by
 have h1:e<=nX (nth L (m-1)) (nth L j):=by
  rcases Ab i (m-1) with h1|h1
  ·exact(oY e (h.lt _ _ h1 (by omega)) (h.lt _ _ (by omega) hj) he).2
  ·grind
 unfold cAt;rcases Ab m j with h2|h2
 ·exact(oY e (h.lt _ _ (by omega) (by omega)) (h.lt _ _ h2 hj) h1).1
 grind
theorem pR {L:List (List UInt8)} {e i:Nat} (hi:e<=(nth L i).length):∀(j:Nat),i<=j->(∀m,i<m->m<=j->e<=cAt L m)->e<=nX (nth L i) (nth L j)
 | 0,hj,_=>by
  grind [zP]
 | j+1,hj,h=>by
  rcases Ab i (j+1) with h1|h1
  ·exact uO0 (pR hi j (by omega) (by grind)) (h (j+1) h1 (Ac _))
  grind [zP]
def fN1 (p:Nat->Bool) (t:Nat):Nat->Nat->Nat
 | 0,k=>k
 | f+1,k=>if k<t/\p k=true then fN1 p t f (k+1) else k
def tK (p:Nat->Bool) (t k:Nat):Nat:=fN1 p t (t-k) k
theorem uT {p:Nat->Bool} {t k:Nat} (h:k<t) (hp:p k=true):tK p t k=tK p t (k+1):=by
 unfold tK;rw[show t-k=(t-(k+1))+1 by omega,fN1,if_pos ⟨h,hp⟩]
theorem kH {p:Nat->Bool} {t k:Nat} (h:¬(k<t/\p k=true)):tK p t k=k:=by
 unfold tK
 cases hf:t-k with
 | zero=>rfl
 | succ f=>rw[fN1,if_neg h]
theorem vF (p:Nat->Bool) (t:Nat):∀(f k:Nat),t-k=f->k<=t->k<=tK p t k/\tK p t k<=t/\(∀j,k<=j->j<tK p t k->p j=true)/\(tK p t k<t->p (tK p t k)=false)
 | 0,k,hf,hk=>by
  rw[kH (by omega)];grind
 | f+1,k,hf,hk=>by
  by_cases h:k<t/\p k=true
  ·rw[uT h.1 h.2]
   obtain⟨a,b,c,d⟩:=vF p t f (k+1) (by omega) (by omega);grind
  ·rw[kH h]
   grind
structure dC where
 i:Nat
 t:Nat
 d:Nat
def jR (L:List (List UInt8)) (d i k:Nat):Bool:=(nth L k)[d]?==(nth L i)[d]?
def dP (L:List (List UInt8)) (d t i:Nat):Nat:=tK (jR L d i) t (i+1)
def nV (L:List (List UInt8)) (d t:Nat):Nat->Nat->List dC
 | 0,_=>[]
 | f+1,i=>if i<t then ⟨i,dP L d t i,d+1⟩::nV L d t f (dP L d t i) else []
theorem rS (L:List (List UInt8)) {d t i:Nat} (h:i<t):i<dP L d t i/\dP L d t i<=t:=by
 have:=vF (jR L d i) t _ (i+1) rfl h
 grind [dP]
theorem bH0 (L:List (List UInt8)) (d t:Nat):∀(f g i:Nat),t-i<=f->t-i<=g->nV L d t f i=nV L d t g i
 | 0,0,_,_,_=>rfl
 | 0,g+1,i,hf,_=>by grind [nV]
 | f+1,0,i,_,hg=>by grind [nV]
 | f+1,g+1,i,hf,hg=>by
  rw[nV,nV];split
  ·rename_i h
   have:=rS L (d:=d) h
   rw[bH0 L d t f g _ (by omega) (by omega)]
  ·rfl
def eW (L:List (List UInt8)) (d t i:Nat):List dC:=nV L d t (t-i) i
theorem dV {L:List (List UInt8)} {d t i:Nat} (h:i<t):eW L d t i=⟨i,dP L d t i,d+1⟩::eW L d t (dP L d t i):=by
 have:=rS L (d:=d) h
 unfold eW;rw[show t-i=(t-i-1)+1 by omega,nV,if_pos h,bH0 L d t (t-i-1) (t-dP L d t i) _ (by omega) (by omega)]
theorem fV {L:List (List UInt8)} {d t i:Nat} (h:¬i<t):eW L d t i=[]:=by
 unfold eW;rw[show t-i=0 by omega];rfl
def iK (L:List (List UInt8)) (x:dC):Bool:=decide (x.i<x.t)&&(nth L x.i).length==x.d
def bQ (L:List (List UInt8)) (x:dC):Nat:=if iK L x then x.i+1 else x.i
def eZ (L:List (List UInt8)) (x:dC):List dC:=eW L x.d x.t (bQ L x)
structure tM (L:List (List UInt8)) (x:dC):Prop where
 le:x.i<=x.t/\x.t<=L.length
 ne:x.i<x.t\/x.d=0
 len:∀j,x.i<=j->j<x.t->x.d<=(nth L j).length
 inn:∀j,x.i<j->j<x.t->x.d<=cAt L j
 lo:x.i=0\/cAt L x.i<x.d
 hi:x.t=L.length\/cAt L x.t<x.d
def rootS (L:List (List UInt8)):dC:=⟨0,L.length,0⟩
theorem iK0 (L:List (List UInt8)):tM L (rootS L):=⟨⟨An _,Ac _⟩,Or.inr rfl,λ_ _ _=>An _,λ_ _ _=>An _,Or.inl rfl,Or.inl rfl⟩
theorem tM.long {L:List (List UInt8)} (hL:Asc L) {x:dC} (g:tM L x) {j:Nat} (h1:x.i<j) (h2:j<x.t):x.d<(nth L j).length:=by
 have hc:=g.inn j h1 h2;have hl:=oJ (hL.lt j (j-1) (by omega) (by have:=g.le;omega));unfold cAt at hc;omega
theorem tM.start {L:List (List UInt8)} (hL:Asc L) {x:dC} (g:tM L x) {j:Nat} (h1:bQ L x<=j) (h2:j<x.t):x.d<(nth L j).length:=by
 unfold bQ iK at h1;split at h1
 ·exact g.long hL (by omega) h2
 ·rename_i h
  rcases Ab x.i j with h3|h3
  ·exact g.long hL h3 h2
  ·have hj:j=x.i:=by omega
   have:=g.len j (by omega) h2
   grind
def rG (L:List (List UInt8)) (e:Nat):Nat->List dC->Nat->Prop
 | lo,[],hi=>lo<=hi/\∀j,lo<=j->j<hi->(nth L j).length<e
 | lo,x::xs,hi=>lo<=x.i/\(∀j,lo<=j->j<x.i->(nth L j).length<e)/\tM L x/\x.d=e/\rG L e x.t xs hi
theorem rG.le {L:List (List UInt8)} {e:Nat}:∀ {xs:List dC} {lo hi:Nat},rG L e lo xs hi->lo<=hi
 | [],_,_,h=>h.1
 | _::_,_,_,h=>by have:=rG.le h.2.2.2.2;have:=h.2.2.1.le;have:=h.1;omega
theorem rG.before {L:List (List UInt8)} {e:Nat}:∀ {xs:List dC} {lo lo' hi:Nat},lo'<=lo->(∀j,lo'<=j->j<lo->(nth L j).length<e)->rG L e lo xs hi->rG L e lo' xs hi
 | [],lo,lo',hi,h1,h2,h=>⟨Bj h1 h.1,λj a b=>by
  rcases Ab j lo with h3|h3
  ·exact h2 j a h3
  ·exact h.2 j h3 b⟩
 | _::_,lo,lo',hi,h1,h2,h=>⟨Bj h1 h.1,λj a b=>by
  rcases Ab j lo with h3|h3
  ·exact h2 j a h3
  ·exact h.2.1 j h3 b,h.2.2⟩
theorem rG.append {L:List (List UInt8)} {e:Nat}:∀ {xs ys:List dC} {lo an hi:Nat},rG L e lo xs an->rG L e an ys hi->rG L e lo (xs++ys) hi
 | [],_,_,_,_,h1,h2=>rG.before h1.1 h1.2 h2
 | _::_,_,_,_,_,h1,h2=>⟨h1.1,h1.2.1,h1.2.2.1,h1.2.2.2.1,rG.append h1.2.2.2.2 h2⟩
theorem vG {L:List (List UInt8)} (hL:Asc L) {x:dC} (g:tM L x):∀(f i:Nat),x.t-i<=f->bQ L x<=i->i<=x.t->(i<x.t->i=0\/cAt L i<x.d+1)->rG L (x.d+1) i (eW L x.d x.t i) x.t
 | 0,i,hf,h1,h2,_=>by
  rw[fV (by omega)];exact⟨h2,λj a b=>by omega⟩
 | f+1,i,hf,h1,h2,h3=>by
  by_cases af:i<x.t
  case neg =>
   rw[fV af];exact⟨h2,λj a b=>by omega⟩
  rw[dV af];obtain⟨e1,e2,e3,e4⟩:=vF (jR L x.d i) x.t _ (i+1) rfl af;have hn:=g.le;have hsx:x.i<=i:=by unfold bQ at h1;split at h1<;>omega
  have jd:∀j,i<j->j<dP L x.d x.t i->x.d+1<=cAt L j:=by
   intro j
   induction j with
   | zero=>intro a;omega
   | succ j ih =>
    intro a b;have hj:j+1<x.t:=by unfold dP at b;omega
    have s1:=e3 (j+1) a b
    have s2:jR L x.d i j=true:=by
     rcases Ab i j with h|h
     ·exact e3 j h (by unfold dP at b;omega)
     ·rw[show j=i by omega];simp[jR]
    unfold jR at s1 s2;simp only[beq_iff_eq]at s1 s2;have hc:=g.inn (j+1) (by omega) hj;unfold cAt at hc ⊢;rw[Nat.add_sub_cancel]at hc ⊢;exact(kK0 hc (g.start hL (by omega) (by omega)) (g.start hL (by omega) hj)).2 (s2.trans s1.symm)
  have lq:dP L x.d x.t i<x.t->cAt L (dP L x.d x.t i)<x.d+1:=by
   intro hk;have s1:=e4 hk;generalize hK:dP L x.d x.t i=K at *;have ld:tK (jR L x.d i) x.t (i+1)=K:=hK;rw[ld]at e1 e2 e3 e4 s1;apply As
   intro oc;have hc:x.d+1<=cAt L K:=by omega
   have h0:x.d+1<=nX (nth L i) (nth L K):=pR (g.start hL h1 af) K (by omega) (by grind);have h4:=(kK0 (Nat.le_of_succ_le h0) (g.start hL h1 af) (g.start hL (by omega) hk)).1 h0;unfold jR at s1;rw[h4]at s1;simp at s1
  have hgt:=rS L (d:=x.d) af;refine⟨Ac _,by grind,⟨by grind,Or.inl hgt.1,λj a b=>?_,jd,h3 af,?_⟩,rfl,?_⟩
  ·have b':j<dP L x.d x.t i:=b
   exact g.start hL (Bj h1 a) (by omega)
  ·show dP L x.d x.t i=L.length\/cAt L (dP L x.d x.t i)<x.d+1
   rcases Ab (dP L x.d x.t i) x.t with h|h
   ·exact Or.inr (lq h)
   ·rw[show dP L x.d x.t i=x.t by omega]
    rcases g.hi with h2|h2
    ·exact Or.inl h2
    omega
  ·have agk:=hgt.2
   have aiq:=hgt.1;exact vG hL g f (dP L x.d x.t i) (by omega) (by omega) agk (by omega)
theorem yY {L:List (List UInt8)} (hL:Asc L) {x:dC} (g:tM L x):rG L (x.d+1) x.i (eZ L x) x.t:=by
 have hs:x.i<=bQ L x/\bQ L x<=x.t:=by
  unfold bQ iK
  have:=g.le
  split
  ·grind
  ·omega
 refine rG.before hs.1 (λj a b=>?_) (vG hL g _ _ (Ac _) (Ac _) hs.2 (λh=>?_))
 ·unfold bQ at b
  split at b
  ·rename_i h
   unfold iK at h;grind
  ·omega
 ·unfold bQ at h ⊢
  split
  ·rename_i hh
   rw[if_pos hh]at h;unfold iK at hh;simp only[Ad,beq_iff_eq]at hh;refine Or.inr ?_
   have:=(oE0 (nth L (x.i+1-1)) (nth L (x.i+1))).1
   unfold cAt;grind
  ·rcases g.lo with h2|h2
   ·exact Or.inl h2
   omega
theorem lM0 {L:List (List UInt8)} (hL:Asc L) {e:Nat}:∀ {xs:List dC} {lo hi:Nat},rG L e lo xs hi->rG L (e+1) lo (xs.flatMap (eZ L)) hi
 | [],_,_,h=>by grind [rG]
 | x::xs,lo,hi,h=>by
  obtain⟨h1,h2,h3,h4,h5⟩:=h
  have:=yY hL h3
  rw[h4]at this;rw[Ah];exact(this.before h1 (by grind)).append (lM0 hL h5)
def lv (L:List (List UInt8)):Nat->List dC
 | 0=>[rootS L]
 | d+1=>(lv L d).flatMap (eZ L)
theorem kN {L:List (List UInt8)} (hL:Asc L):∀d,rG L d 0 (lv L d) L.length
 | 0=>⟨Ac _,λ_ a b=>absurd b (Nat.not_lt.2 a),iK0 L,rfl,Ac _,λ_ a b=>absurd b (Nat.not_lt.2 a)⟩
 | d+1=>lM0 hL (kN hL d)
theorem rG.mem {L:List (List UInt8)} {e:Nat}:∀ {xs:List dC} {lo hi:Nat},rG L e lo xs hi->∀x∈xs,tM L x/\x.d=e/\lo<=x.i/\x.t<=hi
 | [],_,_,_,x,hx=>by simp at hx
 | y::xs,lo,hi,h,x,hx=>by
  obtain⟨h1,h2,h3,h4,h5⟩:=h;rcases List.mem_cons.1 hx with rfl|hx
  ·exact⟨h3,h4,h1,rG.le h5⟩
  ·obtain⟨a,b,c,d⟩:=rG.mem h5 x hx
   exact⟨a,b,by have:=h3.le;omega,d⟩
def dN (L:List (List UInt8)) (e j:Nat):Bool:=decide (e<=(nth L j).length)&&(j==0||decide (cAt L j<e))
theorem rG.firsts {L:List (List UInt8)} {e:Nat} (he:0<e):∀ {xs:List dC} {lo hi:Nat},rG L e lo xs hi->xs.map (λx=>x.i)=(Ae lo (hi-lo)).filter (dN L e)
 | [],lo,hi,h=>by
  symm
  rw[List.map_nil,Ai];intro j hj;rw[Aq]at hj
  have:=h.2 j hj.1 (by omega)
  grind [dN]
 | x::xs,lo,hi,h=>by
  obtain⟨h1,h2,h3,h4,h5⟩:=h;have h6:=rG.le h5;have h7:=h3.le;have h8:x.i<x.t:=by rcases h3.ne with h|h<;>omega
  rw[List.map_cons,rG.firsts he h5,show hi-lo=(x.i-lo)+((1+(x.t-x.i-1))+(hi-x.t)) by omega,<-Ak,<-Ak,<-Ak,Ag,Ag,Ag]
  have e1:(Ae lo (x.i-lo)).filter (dN L e)=[]:=by
   rw[Ai];intro j hj;rw[Aq]at hj
   have:=h2 j hj.1 (by omega)
   simp only[dN,Ad,decide_eq_true_eq];omega
  have e2:(Ae (lo+(x.i-lo)) 1).filter (dN L e)=[x.i]:=by
   rw[show lo+(x.i-lo)=x.i by omega]
   have:dN L e x.i=true:=by
    unfold dN;have a1:=h3.len x.i (Ac _) h8;rw[h4]at a1;simp only[Ad,decide_eq_true_eq,Aj,beq_iff_eq];refine⟨a1,?_⟩;rcases h3.lo with a2|a2
    ·exact Or.inl a2
    ·omega
   simp[Ae,this]
  have e3:(Ae (lo+(x.i-lo)+1) (x.t-x.i-1)).filter (dN L e)=[]:=by
   rw[Ai];intro j hj;rw[Aq]at hj
   have:=h3.inn j (by omega) (by omega)
   have pj:¬j=0:=by omega
   have hc:¬cAt L j<e:=by omega
   simp[dN,pj,hc]
  grind
end
section
open Go
def spanS (L:List (List UInt8)) (x:dC):List UInt8:=(nth L x.i).take x.d
def nodesA (L:List (List UInt8)):List dC:=(Af 257).flatMap (lv L)
theorem tM.slen {L:List (List UInt8)} {x:dC} (g:tM L x):(spanS L x).length=x.d:=by
 unfold spanS;rw[Bu];rcases g.ne with h|h
 ·have:=g.len x.i (Ac _) h;omega
 ·omega
theorem tM.same {L:List (List UInt8)} {x y:dC} (gx:tM L x) (gy:tM L y) (hi:x.i=y.i) (hd:x.d=y.d):x=y:=by
 have key:∀ {x y:dC},tM L x->tM L y->x.i=y.i->x.d=y.d->¬x.t<y.t:=by
  intro x y gx gy hi hd h;have h1:=gx.hi;have h2:=gy.le;rcases h1 with h1|h1
  ·omega
  ·rcases gx.ne with h3|h3
   ·have:=gy.inn x.t (by omega) h;omega
   ·omega
 have k1:=key gx gy hi hd;have k2:=key gy gx hi.symm hd.symm;obtain⟨xi,xt,xd⟩:=x;obtain⟨yi,yt,yd⟩:=y;simp only at hi hd k1 k2;subst hi;subst hd;rw[show xt=yt by omega]
theorem tM.inj {L:List (List UInt8)} (hL:Asc L) {x y:dC} (gx:tM L x) (gy:tM L y) (h:spanS L x=spanS L y):x=y:=by
 have hd:x.d=y.d:=by rw[<-gx.slen,<-gy.slen,h]
 refine gx.same gy ?_ hd
 have key:∀ {x y:dC},tM L x->tM L y->x.d=y.d->spanS L x=spanS L y->¬x.i<y.i:=by
  intro x y gx gy hd h af;rcases gy.ne with h3|h3
  ·have a1:x.d<=(nth L x.i).length:=by
    have:=gx.slen;unfold spanS at this;rw[Bu]at this;omega
   have a2:=gy.len y.i (Ac _) h3;unfold spanS at h
   have:=hL.all (i:=x.i) (j:=y.i) (m:=y.i) (by have:=gy.le;omega) af (Ac _) ((jA x.d _ _).2 (by simp_all))
   rcases gy.lo with h4|h4<;>omega
  ·rcases gy.lo with h4|h4<;>omega
 grind
theorem mC {L:List (List UInt8)} (hL:Asc L) {x:dC} (h:x∈nodesA L):tM L x:=by
 unfold nodesA at h;obtain⟨d,_,h⟩:=List.mem_flatMap.1 h;exact((kN hL d).mem x h).1
def pN0 (x y:dC):Prop:=x.d<y.d\/(x.d=y.d/\x.i<y.i)
theorem rG.pairwise {L:List (List UInt8)} {e:Nat} (he:0<e):∀ {xs:List dC} {lo hi:Nat},rG L e lo xs hi->xs.Pairwise pN0
 | [],_,_,_=>List.Pairwise.nil
 | x::xs,lo,hi,h=>by
  obtain⟨_,_,h3,h4,h5⟩:=h;refine List.pairwise_cons.2 ⟨λy hy=>?_,rG.pairwise he h5⟩;obtain⟨_,k2,k3,_⟩:=h5.mem y hy;refine Or.inr ⟨by omega,?_⟩;rcases h3.ne with h|h<;>omega
theorem iZ {L:List (List UInt8)} (hL:Asc L):(nodesA L).Pairwise pN0:=by
 unfold nodesA;rw[List.pairwise_flatMap];refine⟨λd _=>?_,?_⟩
 ·cases d with
  | zero=>simp[lv]
  | succ d=>exact(kN hL (d+1)).pairwise (Bb _)
 ·refine List.pairwise_lt_range.imp ?_
  intro a b eo x hx y hy;have h1:=((kN hL a).mem x hx).2.1;have h2:=((kN hL b).mem y hy).2.1;exact Or.inl (by omega)
theorem nF1 {L:List (List UInt8)} (hL:Asc L) {d:Nat} (hd0:0<d) (h:∀s∈L,s.length<d):lv L d=[]:=by
 apply List.eq_nil_iff_forall_not_mem.2
 intro x hx;obtain⟨g,hd,_,_⟩:=(kN hL d).mem x hx;rcases g.ne with h1|h1
 ·have h2:=g.len x.i (Ac _) h1
  have h3:=h (nth L x.i) (Ar (iP (by have:=g.le;omega)));omega
 ·omega
theorem sL0 {L:List (List UInt8)} (hL:Asc L) {n:Nat} (h:∀s∈L,s.length<n+1):(Af (n+1)).flatMap (lv L)=rootS L::((Af (n+1)).flatMap (lv L)).flatMap (eZ L):=by
 have e2:((Af (n+1)).flatMap (lv L)).flatMap (eZ L)=(Af (n+1)).flatMap (λd=>lv L (d+1)):=by
  rw[List.flatMap_assoc];rfl
 rw[e2,Au,Am (f:=λd=>lv L (d+1))];simp only[Ah,Bv,Az];rw[nF1 hL (Bb n) h,Az,<-Au,Bk,Ah,Bh];rfl
theorem wG0 {L:List (List UInt8)} (hL:Asc L) (h:∀s∈L,s.length<=256):nodesA L=rootS L::(nodesA L).flatMap (eZ L) :=
 (by grind [sL0,nodesA])
section bfs
variable {α:Type} {r:α} {kd:α->List α} {A:List α}
def eI (r:α) (kd:α->List α) (A:List α) (i:Nat):List α:=r::(A.take i).flatMap kd
theorem rB (hA:A=r::A.flatMap kd) (i:Nat):A=eI r kd A i++(A.drop i).flatMap kd:=by
 unfold eI;rw[Bw,<-Am,List.take_append_drop];exact hA
theorem qB {i:Nat} {x:α} (h:A[i]?=some x):eI r kd A (i+1)=eI r kd A i++kd x:=by
 unfold eI;rw[Ap,h,Am];simp
theorem hD1 (hA:A=r::A.flatMap kd) (i:Nat):(eI r kd A i).length<=A.length:=by
 have:=congrArg List.length (rB hA i)
 grind
theorem hQ0 (hA:A=r::A.flatMap kd) {i k:Nat} (h:k<(eI r kd A i).length):(eI r kd A i)[k]?=A[k]?:=by
 have h1:A[k]?=(eI r kd A i++(A.drop i).flatMap kd)[k]?:=congrArg (λl=>l[k]?) (rB hA i);grind
theorem vB0 {i j:Nat} (h:i<=j):(eI r kd A i).length<=(eI r kd A j).length:=by
 unfold eI;obtain⟨d,rfl⟩:∃d,j=i+d:=⟨j-i,by omega⟩;grind
theorem bJ1 (hA:A=r::A.flatMap kd) (dep:α->Nat) (hd:∀x, ∀y∈kd x,dep y=dep x+1) (hp:A.Pairwise λx y=>dep x<=dep y) {i:Nat} (hi:i<A.length):i<(eI r kd A i).length:=by
 apply As
 intro oc;have h1:=rB hA i
 have h2:A[i]∈(A.drop i).flatMap kd:=by
  have h3:A[i]?=(eI r kd A i++(A.drop i).flatMap kd)[i]?:=by grind
  rw[Bc (by omega),Al hi]at h3;exact by grind
 obtain⟨x,hx,hk⟩:=List.mem_flatMap.1 h2;have h4:=hd x _ hk;obtain⟨j,hj⟩:=List.mem_iff_getElem?.1 hx;rw[List.getElem?_drop]at hj;obtain⟨hj1,nr⟩:=List.getElem?_eq_some_iff.1 hj;rcases Av j with h5|h5
 ·subst h5
  grind
 grind [Be]
theorem kV0 (hA:A=r::A.flatMap kd):eI r kd A A.length=A:=by
 grind [eI]
theorem xE (hA:A=r::A.flatMap kd):∀(i k:Nat),1<=k->k<(eI r kd A i).length->∃p,p<i/\(eI r kd A p).length<=k/\k<(eI r kd A (p+1)).length
 | 0,k,h1,h2=>by grind [eI]
 | i+1,k,h1,h2=>by
  rcases Ab k (eI r kd A i).length with h|h
  ·obtain⟨p,a,b,c⟩:=xE hA i k h1 h
   grind
  grind
theorem tF (hA:A=r::A.flatMap kd) {p k:Nat} {x:α} (hx:A[p]?=some x) (h1:(eI r kd A p).length<=k) (h2:k<(eI r kd A (p+1)).length):A[k]?=(kd x)[k-(eI r kd A p).length]?:=by
 rw[<-hQ0 hA h2,qB hx,Bc h1]
end bfs
theorem sG0 {L:List (List UInt8)} (hL:Asc L):(nodesA L).Pairwise λx y=>x.d<=y.d:=(iZ hL).imp λh=>by rcases h with h|h<;>omega
theorem rC0 (L:List (List UInt8)) (d t:Nat):∀(f i:Nat), ∀y∈nV L d t f i,y.d=d+1
 | 0,_,y,h=>by simp[nV]at h
 | f+1,i,y,h=>by
  rw[nV]at h;split at h
  ·rcases List.mem_cons.1 h with rfl|h
   ·rfl
   ·exact rC0 L d t f _ y h
  ·simp at h
theorem hT0 (L:List (List UInt8)) (x:dC):∀y∈eZ L x,y.d=x.d+1:=rC0 L x.d x.t _ _
theorem tW {L:List (List UInt8)} (hL:Asc L) {x y:dC} (g:tM L x) (h:y∈eZ L x):spanS L y=spanS L x++[(nth L y.i).getD x.d 0]:=by
 obtain⟨gy,hd,h1,h2⟩:=(yY hL g).mem y h;have h3:y.i<y.t:=by rcases gy.ne with h|h<;>omega
 have h4:=gy.len y.i (Ac _) h3
 have h5:(nth L y.i).take x.d=(nth L x.i).take x.d:=by
  rcases Ab x.i y.i with h6|h6
  ·have:=pR (L:=L) (e:=x.d) (i:=x.i) (g.len x.i (Ac _) (by omega)) y.i (by omega) (λm a b=>g.inn m a (by omega))
   exact((jA _ _ _).1 this).2.2.symm
  ·grind
 unfold spanS;rw[hd,Ap,h5,Al (by omega),List.getD_eq_getElem?_getD,Al (by omega)];rfl
def shapeL (L:List (List UInt8)) (A:List dC):List Bool:=[true,false]++A.flatMap λx=>Cb (eZ L x).length true++[false]
def oU (L:List (List UInt8)) (x y:dC):UInt8:=(nth L y.i).getD x.d 0
def labelsL (L:List (List UInt8)) (A:List dC):List UInt8:=A.flatMap λx=>(eZ L x).map (oU L x)
def isL (L:List (List UInt8)) (A:List dC):List Bool:=A.map (iK L)
def idsL (L:List (List UInt8)) (A:List dC):List Nat:=(A.filter (iK L)).map λx=>x.i
theorem bK0 {L:List (List UInt8)} (hL:Asc L):∀(A:List dC),(∀x∈A,tM L x)->labelsL L A=(A.flatMap (eZ L)).map λy=>(spanS L y).getLastD 0
 | [],_=>rfl
 | x::A,h=>by
  have:=bK0 hL A (by simp_all)
  unfold labelsL at *;rw[Ah,Ah,Ba,this];congr 1
  apply Bp
  intro y hy;rw[tW hL (h x (by simp)) hy];simp[oU]
theorem qI {L:List (List UInt8)} (hL:Asc L) {x:dC} (g:tM L x) (ak:∀s∈L,s≠[]) (j:Nat):(L[j]?=some (spanS L x))↔iK L x=true/\j=x.i:=by
 unfold iK;simp only[Ad,decide_eq_true_eq,beq_iff_eq];constructor
 ·intro h
  have hj:=(List.getElem?_eq_some_iff.1 h).1;have hs:=vY h
  have hd:x.d≠0:=λh0=>by
   have:=g.slen
   rw[h0]at this;exact ak _ (Ar h) (List.length_eq_zero_iff.1 this)
  have hit:x.i<x.t:=by rcases g.ne with h|h<;>omega
  have hlj:(nth L j).length=x.d:=by rw[hs,g.slen]
  have hcj:x.d<=nX (nth L x.i) (nth L j):=(jA _ _ _).2 ⟨g.len _ (Ac _) hit,by omega,by rw[hs];unfold spanS;rw[List.take_take,Nat.min_self]⟩
  have e1:¬j<x.i:=λaf=>by
   have h1:=oJ (hL.lt _ _ af (by have:=g.le;omega));rw[aG0]at hcj
   have:=hL.all (m:=x.i) (by have:=g.le;omega) af (Ac _) hcj
   rcases g.lo with h4|h4<;>omega
  have e2:¬x.i<j:=λaf=>by
   have:=oJ (hL.lt _ _ af hj);omega
  have e3:j=x.i:=by omega
  subst e3;exact⟨⟨hit,hlj⟩,rfl⟩
 ·rintro⟨⟨h1,h2⟩,rfl⟩
  rw[iP (by have:=g.le;omega)];unfold spanS;rw[List.take_of_length_le (by omega)]
end
section
open Go
def lP (n:Nat) (out:List (List UInt8)) (s:List UInt8):List (List UInt8) :=
 if n<=s.length/\(out=[]\/out.getLastD []≠s.take n) then out++[s.take n] else out
def iO1 (L:List (List UInt8)) (n:Nat):List (List UInt8):=L.foldl (lP n) []
def kM (L:List (List UInt8)) (n m:Nat):List (List UInt8):=((Ae 0 m).filter (dN L n)).map λj=>(nth L j).take n
theorem iF0 (L:List (List UInt8)) (n m:Nat):kM L n (m+1)=if dN L n m then kM L n m++[(nth L m).take n] else kM L n m:=by
 unfold kM;rw[Bq,Ag,Ba];grind
theorem yJ0 (L:List (List UInt8)) (m:Nat):cAt L m<=(nth L (m-1)).length/\cAt L m<=(nth L m).length:=oE0 _ _
theorem gZ0 {L:List (List UInt8)} (hL:Asc L) {n:Nat} (hn:0<n):∀m,m<=L.length->(L.take m).foldl (lP n) []=kM L n m /\
  (((∀j,j<m->(nth L j).length<n)/\kM L n m=[])\/∃j,j<m/\n<=(nth L j).length/\(∀k,j<k->k<m->(nth L k).length<n)/\kM L n m≠[]/\(kM L n m).getLastD []=(nth L j).take n)
 | 0,_=>by grind [kM]
 | m+1,hm=>by
  obtain⟨h1,h2⟩:=gZ0 hL hn m (by omega);rw[Ap,iP (by omega),List.foldl_append,h1];simp only[Option.toList_some,Bz,List.foldl_nil];rw[iF0];by_cases hs:n<=(nth L m).length
  ·rcases h2 with ⟨h2,h3⟩|⟨j,h2,h3,h4,h5,h6⟩
   ·have hf:dN L n m=true:=by
     unfold dN;simp only[Ad,decide_eq_true_eq,Aj,beq_iff_eq];refine⟨hs,?_⟩;rcases Av m with h|h
     ·exact Or.inl h
     ·grind [yJ0]
    grind [lP]
   ·by_cases hq:(nth L j).take n=(nth L m).take n
    ·have hc:=(jA n _ _).2 ⟨h3,hs,hq⟩
     have hc2:=hL.all (m:=m) (by omega) h2 (Ac _) hc;grind [lP,dN]
    ·have hf:dN L n m=true:=by
      unfold dN;simp only[Ad,decide_eq_true_eq,Aj,beq_iff_eq];refine⟨hs,Or.inr ?_⟩;apply As
      intro oc;have h7:=(yJ0 L m).1
      have h8:j=m-1:=by
       rcases Ab j (m-1) with h|h
       ·grind
       ·omega
      have h9:n<=cAt L m:=by omega
      unfold cAt at h9;rw[<-h8]at h9;exact by grind [jA]
     grind [lP]
  grind [lP,dN]
theorem mW0 {L:List (List UInt8)} (hL:Asc L) {n:Nat} (hn:0<n):iO1 L n=kM L n L.length:=by
 have:=(gZ0 hL hn L.length (Ac _)).1
 grind [iO1]
def iH1 (L:List (List UInt8)):List (List UInt8):=[]::(Ae 1 256).flatMap (iO1 L)
theorem jI1 {L:List (List UInt8)} (hL:Asc L) (d:Nat):(lv L (d+1)).map (spanS L)=iO1 L (d+1):=by
 have ht:=kN hL (d+1);rw[mW0 hL (Bb d)];unfold kM;have hf:=ht.firsts (Bb d);rw[Nat.sub_zero]at hf;rw[<-hf,List.map_map];apply Bp
 intro x hx;show (nth L x.i).take x.d=(nth L x.i).take (d+1)
 rw[(ht.mem x hx).2.1]
theorem tF0 {L:List (List UInt8)} (hL:Asc L):(nodesA L).map (spanS L)=iH1 L:=by
 have key:∀n,((Af (n+1)).flatMap (lv L)).map (spanS L)=[]::(Ae 1 n).flatMap (iO1 L):=by
  intro n;rw[Bk,Ah,Ba,Bh,List.map_flatMap,List.range'_eq_map_range,Bh]
  have:(lv L 0).map (spanS L)=[[]]:=by simp[lv,spanS,rootS]
  rw[this];simp only[Bw,List.nil_append,List.cons.injEq,true_and];congr 1
  funext d
  rw[jI1 hL d,Nat.add_comm]
 exact key 256
def iW1 (L:List (List UInt8)) (j:Nat):Nat:=(nth L j).length-(if j=0 then 0 else cAt L j)
def uZ (L:List (List UInt8)):Nat->Nat
 | 0=>1
 | m+1=>uZ L m+iW1 L m
def gC (L:List (List UInt8)):Nat:=uZ L L.length
def mA (L:List (List UInt8)) (n m:Nat):Nat:=((Ae 0 m).filter (dN L n)).length
theorem iG0 (L:List (List UInt8)) (n m:Nat):mA L n (m+1)=mA L n m+(if dN L n m then 1 else 0):=by
 unfold mA;rw[Bq,Ag,Bd];grind
def pM (f:Nat->Nat):Nat->Nat
 | 0=>0
 | k+1=>pM f k+f (k+1)
theorem kQ0 (f g:Nat->Nat):∀k,pM (λn=>f n+g n) k=pM f k+pM g k
 | 0=>rfl
 | k+1=>by simp only[pM];rw[kQ0 f g k];omega
theorem zB (L:List (List UInt8)) (j:Nat):∀k,pM (λn=>if dN L n j then 1 else 0) k=min k (nth L j).length-(if j=0 then 0 else min k (cAt L j))
 | 0=>by simp[pM]
 | k+1=>by
  have hc:=(yJ0 L j).2;simp only[pM];rw[zB L j k];grind [dN]
theorem dR0:∀k,pM (λ_=>0) k=0
 | 0=>rfl
 | k+1=>by simp only[pM];rw[dR0 k]
theorem sH (L:List (List UInt8)) (h:∀s∈L,s.length<=256):∀m,m<=L.length->1+pM (λn=>mA L n m) 256=uZ L m
 | 0,_=>by
  have:pM (λn=>mA L n 0) 256=pM (λ_=>0) 256:=by grind [mA]
  rw[this,dR0];rfl
 | m+1,hm=>by
  have ih:=sH L h m (by omega);have e:pM (λn=>mA L n (m+1)) 256=pM (λn=>mA L n m+(if dN L n m then 1 else 0)) 256:=by grind [iG0]
  rw[e,kQ0,zB,uZ,<-ih];grind [nth,iW1]
theorem dY {L:List (List UInt8)} (hL:Asc L) (h:∀s∈L,s.length<=256):(nodesA L).length=gC L:=by
 have key:∀n,((Af (n+1)).flatMap (lv L)).length=1+pM (λd=>mA L d L.length) n:=by
  intro n
  induction n with
  | zero=>rfl
  | succ n ih =>
   rw[Au,Am,Bd,ih];simp only[Ah,Bv,Az,pM];have hf:=(kN hL (n+1)).firsts (Bb n);grind [mA]
 unfold gC;rw[<-sH L h L.length (Ac _)];exact key 256
def ltK (k:Nat->Nat) (x y:Nat):Prop:=k x<k y\/(k x=k y/\x<y)
theorem zK {k:Nat->Nat} {x y z:Nat} (h1:ltK k x y) (h2:ltK k y z):ltK k x z:=by unfold ltK at *; omega
theorem qN {k:Nat->Nat} {x:Nat}:¬ltK k x x:=by unfold ltK; omega
theorem lT {k:Nat->Nat} {x y:Nat} (h:x<y):ltK k y x↔k y<k x:=by unfold ltK; omega
theorem xS {k:Nat->Nat} {x y:Nat} (h:x<y):ltK k x y↔¬k y<k x:=by unfold ltK; omega
def fH (D:Nat->Nat) (a m b i:Nat):Nat:=if i<a then D i else if i<a+(b-m) then D (i+(m-a)) else if i<b then D (i-(b-m)) else D i
def lQ0 (D:Nat->Nat) (a b n i:Nat):Nat:=if a<=i/\i<a+n then D (i-a+b) else if b<=i/\i<b+n then D (i-b+a) else D i
structure eF (D D':Nat->Nat) (a b:Nat):Prop where
 out:∀i,(i<a\/b<=i)->D' i=D i
 fro:∀i,a<=i->i<b->∃j,a<=j/\j<b/\D' i=D j
 to:∀j,a<=j->j<b->∃i,a<=i/\i<b/\D' i=D j
theorem eF.refl (D:Nat->Nat) (a b:Nat):eF D D a b:=⟨λ_ _=>rfl,λi h1 h2=>⟨i,h1,h2,rfl⟩,λi h1 h2=>⟨i,h1,h2,rfl⟩⟩
theorem eF.trans {D D' D'':Nat->Nat} {a b:Nat} (h:eF D D' a b) (h':eF D' D'' a b):eF D D'' a b where
 out i hi:=(h'.out i hi).trans (h.out i hi)
 fro i h1 h2:=by
  obtain⟨j,j1,j2,e⟩:=h'.fro i h1 h2;obtain⟨j',j1',j2',e'⟩:=h.fro j j1 j2;grind
 to j h1 h2:=by
  obtain⟨i,i1,i2,e⟩:=h.to j h1 h2;obtain⟨i',i1',i2',e'⟩:=h'.to i i1 i2;grind
theorem eF.wide {D D':Nat->Nat} {a b a' b':Nat} (h:eF D D' a b) (ha:a'<=a) (hb:b<=b'):eF D D' a' b' where
 out i hi:=h.out i (by omega)
 fro i h1 h2:=by
  by_cases hi:a<=i/\i<b
  ·obtain⟨j,j1,j2,e⟩:=h.fro i hi.1 hi.2
   grind
  ·exact⟨i,h1,h2,h.out i (by omega)⟩
 to i h1 h2:=by
  by_cases hi:a<=i/\i<b
  ·obtain⟨j,j1,j2,e⟩:=h.to i hi.1 hi.2
   grind
  ·exact⟨i,h1,h2,h.out i (by omega)⟩
theorem xL0 {D:Nat->Nat} {a m b i:Nat} (h:i<a):fH D a m b i=D i:=by grind [fH]
theorem nO1 {D:Nat->Nat} {a m b i:Nat} (h1:a<=i) (h2:i<a+(b-m)):fH D a m b i=D (i+(m-a)):=by
 grind [fH]
theorem nL1 {D:Nat->Nat} {a m b i:Nat} (h1:a+(b-m)<=i) (h2:i<b):fH D a m b i=D (i-(b-m)):=by
 grind [fH]
theorem jN1 {D:Nat->Nat} {a m b i:Nat} (ha:a<=m) (hm:m<=b) (h:b<=i):fH D a m b i=D i:=by
 grind [fH]
theorem cT {D:Nat->Nat} {a m b:Nat} (ha:a<=m) (hm:m<=b):eF D (fH D a m b) a b where
 out i hi:=by
  grind [fH]
 fro i h1 h2:=by
  grind [Ab,fH]
 to j h1 h2:=by
  rcases Ab j m with h|h
  ·exact⟨j+(b-m),by omega,by omega,by grind [fH]⟩
  ·exact⟨j-(m-a),by omega,by omega,by grind [fH]⟩
theorem zV {D:Nat->Nat} {a b:Nat} (h:a<=b):fH D a a b=D:=by
 grind [fH]
theorem cZ0 {D:Nat->Nat} {a b:Nat}:fH D a b b=D:=by
 grind [fH]
theorem aX1 (D:Nat->Nat) (a b:Nat):lQ0 D a b 0=D:=by
 grind [lQ0]
def vJ0 (D:Nat->Nat) (j v i:Nat):Nat:=if i=j then v else D i
theorem cI1 {D:Nat->Nat} {a b n:Nat} (h:a+n<b):vJ0 (vJ0 (lQ0 D a b n) (a+n) (lQ0 D a b n (b+n))) (b+n) (lQ0 D a b n (a+n))=lQ0 D a b (n+1):=by
 grind [vJ0,lQ0]
theorem lH1 {D:Nat->Nat} {m i j:Nat} (hi:i<=m) (h:j<i):fH (lQ0 D (m-i) m j) (m-(i-j)) m (m+j)=fH D (m-i) m (m+j):=by
 grind [fH,lQ0]
theorem bB1 {D:Nat->Nat} {m i j:Nat} (hi:i<=m) (h:i<j):fH (lQ0 D (m-i) (m+j-i) i) (m-i) m (m+(j-i))=fH D (m-i) m (m+j):=by
 grind [fH,lQ0]
theorem cS1 {D:Nat->Nat} {m i:Nat} (hi:i<=m):lQ0 D (m-i) m i=fH D (m-i) m (m+i):=by
 grind [lQ0,fH]
theorem oP0 {D:Nat->Nat} {i j:Nat} (h0:0<j) (h:j<=i):vJ0 (vJ0 (fH D j i (i+1)) j (fH D j i (i+1) (j-1))) (j-1) (fH D j i (i+1) j)=fH D (j-1) i (i+1):=by
 grind [vJ0,fH]
theorem mM1 {D:Nat->Nat} {a j:Nat} (h:a<=j):vJ0 (vJ0 (fH D a (a+1) (j+1)) j (fH D a (a+1) (j+1) (j+1))) (j+1) (fH D a (a+1) (j+1) j)=fH D a (a+1) (j+2):=by
 grind [vJ0,fH]
def Srt (k D:Nat->Nat) (a b:Nat):Prop:=∀i j,a<=i->i<j->j<b->ltK k (D i) (D j)
def Apt (D:Nat->Nat) (a m b:Nat):Prop:=∀i j,a<=i->i<m->m<=j->j<b->D i<D j
theorem Srt.of_eq {k D D':Nat->Nat} {a b:Nat} (h:Srt k D a b) (he:∀i,a<=i->i<b->D' i=D i):Srt k D' a b:=λi j h1 h2 h3=>by
 rw[he i h1 (by omega),he j (by omega) h3];exact h i j h1 h2 h3
theorem Srt.le {k D:Nat->Nat} {a b:Nat} (h:Srt k D a b) {i j x:Nat} (h1:a<=i) (h2:i<=j) (h3:j<b) (hx:ltK k x (D i)):ltK k x (D j):=by
 rcases Ab i j with h4|h4
 ·exact zK hx (h i j h1 h4 h3)
 grind
theorem Srt.ge {k D:Nat->Nat} {a b:Nat} (h:Srt k D a b) {i j x:Nat} (h1:a<=i) (h2:i<=j) (h3:j<b) (hx:ltK k (D j) x):ltK k (D i) x:=by
 rcases Ab i j with h4|h4
 ·exact zK (h i j h1 h4 h3) hx
 grind
theorem fK1 {k D:Nat->Nat} {a m b:Nat} (h1:Srt k D a m) (h2:Srt k D m b) (h:∀i j,a<=i->i<m->m<=j->j<b->ltK k (D i) (D j)):Srt k D a b:=by grind [Srt]
theorem eQ0 {k D:Nat->Nat} {a i j:Nat} (hs:Srt k D a i) (ha:a<=j) (hj:j<=i) (h1:∀c,a<=c->c<j->ltK k (D c) (D i)) (h2:∀c,j<=c->c<i->ltK k (D i) (D c)):Srt k (fH D j i (i+1)) a (i+1):=by
 grind [Srt,fH]
theorem mF1 {k D:Nat->Nat} {a i b:Nat} (hs:Srt k D (a+1) b) (ha:a+1<=i) (hi:i<=b) (h1:∀c,a+1<=c->c<i->ltK k (D c) (D a)) (h2:∀c,i<=c->c<b->ltK k (D a) (D c)):Srt k (fH D a (a+1) i) a b:=by
 grind [Srt,fH]
structure gV0 (a m b an lo hi:Nat):Prop where
 am:a<m
 mb:m<b
 mid1:2*an<=a+b
 mid2:a+b<=2*an+1
 big:an<m->lo=an+m-b/\hi=an
 small:m<=an->lo=a/\hi=m
theorem gV0.in {a m b an lo hi c:Nat} (h:gV0 a m b an lo hi) (h1:lo<=c) (h2:c<hi):a<=c/\c<m/\m<=an+m-1-c/\an+m-1-c<b/\c<an+m:=by
 obtain⟨h3,h4,h5,h6,h7,h8⟩:=h;omega
theorem gV0.rng {a m b an lo hi:Nat} (h:gV0 a m b an lo hi):a<=lo/\lo<=hi/\hi<=m/\hi<=an/\an+m-lo<=b/\m<=an+m-hi/\an+m-lo >= m:=by
 obtain⟨h3,h4,h5,h6,h7,h8⟩:=h;omega
theorem qM0 {k D:Nat->Nat} {a m b an lo hi c c':Nat} (h:gV0 a m b an lo hi) (s1:Srt k D a m) (s2:Srt k D m b) (ap:Apt D a m b) (h1:lo<=c) (h2:c<=c') (h3:c'<hi)
  (hc:k (D (an+m-1-c))<k (D c)):k (D (an+m-1-c'))<k (D c'):=by
 obtain⟨a1,a2,a3,a4,a5⟩:=h.in h1 (by omega);obtain⟨b1,b2,b3,b4,b5⟩:=h.in (c:=c') (by omega) h3;rw[<-lT (ap _ _ b1 b2 b3 b4)];rw[<-lT (ap _ _ a1 a2 a3 a4)]at hc;exact s1.le a1 h2 b2 (s2.ge b3 (by omega) a4 hc)
theorem bD1 {k D:Nat->Nat} {a m b an lo hi s:Nat} (h:gV0 a m b an lo hi) (s1:Srt k D a m) (s2:Srt k D m b) (ap:Apt D a m b) (je:lo<=s) (tj:s<=hi)
  (h1:∀c,lo<=c->c<s->¬k (D (an+m-1-c))<k (D c)) (h2:∀c,s<=c->c<hi->k (D (an+m-1-c))<k (D c)) :
  Srt k (fH D s m (an+m-s)) a s/\Srt k (fH D s m (an+m-s)) s an/\Srt k (fH D s m (an+m-s)) an (an+m-s)/\Srt k (fH D s m (an+m-s)) (an+m-s) b /\
  Apt (fH D s m (an+m-s)) a s an/\Apt (fH D s m (an+m-s)) an (an+m-s) b /\
  ∀i j,a<=i->i<an->an<=j->j<b->ltK k (fH D s m (an+m-s) i) (fH D s m (an+m-s) j):=by
 obtain⟨r1,r2,r3,r4,r5,r6,r7⟩:=h.rng;have lq:an+m-s<=b:=by omega
 have A1:∀i,i<s->fH D s m (an+m-s) i=D i:=λi hi=>xL0 hi;have A2:∀i,s<=i->i<an->fH D s m (an+m-s) i=D (i+(m-s)):=by grind [fH]
 have A3:∀i,an<=i->i<an+m-s->fH D s m (an+m-s) i=D (i-(an-s)):=λi h1 h2=>by
  rw[nL1 (by omega) h2];congr 1;omega
 have A4:∀i,an+m-s<=i->fH D s m (an+m-s) i=D i:=λi h=>jN1 (by omega) (by omega) h
 -- what lies left of the cut is less than what lies right of it
 have X1:∀c q,a<=c->c<s->an+m-s<=q->q<b->ltK k (D c) (D q):=λc q c1 c2 q1 q2=>by
  rcases Ab lo s with hl|hl
  ·obtain⟨y1,y2,y3,y4,y5⟩:=h.in (c:=s-1) (by omega) (by omega)
   have:=h1 (s-1) (by omega) (by omega)
   rw[<-xS (ap _ _ y1 y2 y3 y4)]at this;exact s1.ge (j:=s-1) c1 (by omega) y2 (s2.le y3 (by omega) q2 this)
  ·exfalso
   obtain⟨h3,h4,h5,h6,h7,h8⟩:=h;omega
 have X2:∀q c,m<=q->q<an+m-s->s<=c->c<m->ltK k (D q) (D c):=λq c q1 q2 c1 c2=>by
  rcases Ab s hi with hl|hl
  ·obtain⟨y1,y2,y3,y4,y5⟩:=h.in (c:=s) (by omega) hl
   have:=h2 s (Ac _) hl
   rw[<-lT (ap _ _ y1 y2 y3 y4)]at this;exact s1.le y1 c1 c2 (s2.ge q1 (by omega) y4 this)
  ·exfalso
   obtain⟨h3,h4,h5,h6,h7,h8⟩:=h;omega
 refine⟨?_,?_,?_,?_,?_,?_,?_⟩
 ·grind [Srt]
 ·intro i j i1 i2 i3
  rw[A2 i i1 (by omega),A2 j (by omega) i3];exact s2 _ _ (by omega) (by omega) (by omega)
 ·intro i j i1 i2 i3
  rw[A3 i i1 (by omega),A3 j (by omega) i3];exact s1 _ _ (by omega) (by omega) (by omega)
 ·intro i j i1 i2 i3
  rw[A4 i i1,A4 j (by omega)];exact s2 _ _ (by omega) (by omega) (by omega)
 ·intro i j i1 i2 i3 i4
  rw[A1 i i2,A2 j i3 i4];exact ap _ _ i1 (by omega) (by omega) (by omega)
 ·intro i j i1 i2 i3 i4
  rw[A3 i i1 i2,A4 j i3];exact ap _ _ (by omega) (by omega) (by omega) i4
 ·intro i j i1 i2 i3 i4
  rcases Ab i s with h3|h3
  ·rw[A1 i h3]
   rcases Ab j (an+m-s) with h4|h4
   ·rw[A3 j i3 h4];exact s1 _ _ i1 (by omega) (by omega)
   simp_all
  ·rw[A2 i h3 i2]
   rcases Ab j (an+m-s) with h4|h4
   ·rw[A3 j i3 h4];exact X2 _ _ (by omega) (by omega) (by omega) (by omega)
   ·rw[A4 j h4];exact s2 _ _ (by omega) (by omega) (by omega)
theorem iM {k D1 D2 D3:Nat->Nat} {a an b:Nat} (ham:a<=an) (tp:an<=b) (hx:∀i j,a<=i->i<an->an<=j->j<b->ltK k (D1 i) (D1 j)) (e1:eF D1 D2 a an) (s1:Srt k D2 a an) (e2:eF D2 D3 an b) (s2:Srt k D3 an b) :
  Srt k D3 a b/\eF D1 D3 a b:=by
 refine⟨fK1 (m:=an) (s1.of_eq λi h1 h2=>e2.out i (Or.inl h2)) s2 ?_,(e1.wide (Ac _) tp).trans (e2.wide ham (Ac _))⟩;intro i j i1 i2 j1 j2;rw[e2.out i (Or.inl i2)];obtain⟨i',p1,p2,p3⟩:=e1.fro i i1 i2;obtain⟨j',q1,q2,q3⟩:=e2.fro j j1 j2;rw[p3,q3,e1.out j' (Or.inr q1)];simp_all
structure Win (k D:Nat->Nat) (a b:Nat):Prop where
 srt:Srt k D a b
 inn:∀i,a<=i->i<b->a<=D i/\D i<b
 all:∀v,a<=v->v<b->∃i,a<=i/\i<b/\D i=v
theorem Win.none (k D:Nat->Nat) (a:Nat):Win k D a a:=⟨λi j h1 h2 h3=>by omega,λi h1 h2=>by omega,λv h1 h2=>by omega⟩
theorem Win.apt {k D:Nat->Nat} {a m b:Nat} (h1:Win k D a m) (h2:Win k D m b):Apt D a m b:=λi j i1 i2 j1 j2=>by
 have:=h1.inn i i1 i2
 have:=h2.inn j j1 j2
 omega
theorem Win.merge {k D D':Nat->Nat} {a m b:Nat} (h1:Win k D a m) (h2:Win k D m b) (ham:a<=m) (tp:m<=b) (hs:eF D D' a b) (h:Srt k D' a b):Win k D' a b:=by
 refine⟨h,λi i1 i2=>?_,λv v1 v2=>?_⟩
 ·obtain⟨j,j1,j2,e⟩:=hs.fro i i1 i2
  rw[e];rcases Ab j m with hj|hj
  ·have:=h1.inn j j1 hj;omega
  ·have:=h2.inn j hj j2;omega
 ·rcases Ab v m with hv|hv
  ·obtain⟨j,j1,j2,e⟩:=h1.all v v1 hv
   obtain⟨i,i1,i2,e2⟩:=hs.to j j1 (by omega);grind
  ·obtain⟨j,j1,j2,e⟩:=h2.all v hv v2
   obtain⟨i,i1,i2,e2⟩:=hs.to j (by omega) j2;grind
theorem Win.of_eq {k D D':Nat->Nat} {a b:Nat} (h:Win k D a b) (he:∀i,a<=i->i<b->D' i=D i):Win k D' a b :=
 ⟨h.srt.of_eq he,λi h1 h2=>by rw[he i h1 h2];exact h.inn i h1 h2,λv h1 h2=>by obtain⟨i,a,b,c⟩:=h.all v h1 h2;grind⟩
def iF1 (k D:Nat->Nat) (B n:Nat):Prop:=∀t,t*B<n->Win k D (t*B) (min (t*B+B) n)
theorem iO {α:Type} {r:α->α->Prop} (agl:∀a, ¬r a a) (htr:∀a b c,r a b->r b c->r a c):∀ {l1 l2:List α},l1.Pairwise r->l2.Pairwise r->(∀x,x∈l1↔x∈l2)->l1=l2
 | [],[],_,_,_=>rfl
 | [],y::_,_,_,h=>by have:=(h y).2 (by simp);simp at this
 | x::_,[],_,_,h=>by have:=(h x).1 (by simp);simp at this
 | x::l1,y::l2,h1,h2,h=>by
  obtain⟨a1,a2⟩:=List.pairwise_cons.1 h1;obtain⟨b1,b2⟩:=List.pairwise_cons.1 h2
  have um:x=y:=by
   rcases List.mem_cons.1 ((h x).1 (by simp)) with e|e
   ·exact e
   ·rcases List.mem_cons.1 ((h y).2 (by simp)) with e2|e2
    ·exact e2.symm
    grind
  subst um;rw[iO agl htr a2 b2 λz=>?_];grind
def grp (k:Nat->Nat) (n s:Nat):List Nat:=(Af n).filter λi=>k i==s
def grpsL (k:Nat->Nat) (n S:Nat):List Nat:=(Af S).flatMap (grp k n)
def qI0 (k:Nat->Nat) (n S:Nat):List Nat:=(Af S).map λs=>(grpsL k n s).length
theorem kI (k:Nat->Nat) (n S:Nat):grpsL k n (S+1)=grpsL k n S++grp k n S:=by
 unfold grpsL;rw[Au,Am];simp
theorem vZ0 (k:Nat->Nat) (n S:Nat):qI0 k n (S+1)=qI0 k n S++[(grpsL k n S).length]:=by
 unfold qI0;rw[Au,Ba];rfl
theorem zF {k:Nat->Nat} {n s i:Nat}:i∈grp k n s↔i<n/\k i=s:=by
 grind [grp]
theorem fX {k:Nat->Nat} {n S i:Nat}:i∈grpsL k n S↔i<n/\k i<S:=by
 unfold grpsL;rw[List.mem_flatMap];constructor
 ·grind [grp]
 ·rintro⟨h1,h2⟩
  exact⟨k i,List.mem_range.2 h2,zF.2 ⟨h1,rfl⟩⟩
theorem lN0 (k:Nat->Nat) (n s:Nat):(grp k n s).Pairwise (ltK k):=by
 have h:(grp k n s).Pairwise (· < ·):=List.Pairwise.filter _ Bi;grind [Be,ltK,grp]
theorem gM (k:Nat->Nat) (n:Nat):∀S,(grpsL k n S).Pairwise (ltK k)
 | 0=>by simp[grpsL]
 | S+1=>by
  rw[kI];refine List.pairwise_append.2 ⟨gM k n S,lN0 k n S,λa ha b hb=>?_⟩;grind [fX,zF,ltK]
def zJ (k:Nat->Nat) (l:List Nat) (i:Nat):Bool:=i==0||k (l.getD i 0) != k (l.getD (i-1) 0)
def dX0 (k:Nat->Nat) (l:List Nat):List Nat:=(Af l.length).filter (zJ k l)
theorem uC0 {k:Nat->Nat} {l g:List Nat} {s:Nat} (hg:g≠[]) (h1:∀x∈l,k x<s) (h2:∀x∈g,k x=s):dX0 k (l++g)=dX0 k l++[l.length]:=by
 have aj:0<g.length:=by grind
 have L1:∀i,i<l.length->(l++g).getD i 0=l.getD i 0:=by grind
 have L2:∀i,(l++g).getD (l.length+i) 0=g.getD i 0:=by grind
 have G:∀i,i<g.length->k (g.getD i 0)=s:=by simp_all
 have LL:∀i,i<l.length->k (l.getD i 0)<s:=by simp_all
 unfold dX0;rw[Bd,show l.length+g.length=l.length+(1+(g.length-1)) by omega,Bo,<-Ak,<-Ak,Ag,Ag]
 have e1:(Ae 0 l.length).filter (zJ k (l++g))=(Af l.length).filter (zJ k l):=by
  rw[Bo];apply List.filter_congr
  intro i hi;rw[Aq]at hi;unfold zJ;rw[L1 i (by omega),L1 (i-1) (by omega)]
 have e2:(Ae (0+l.length) 1).filter (zJ k (l++g))=[l.length]:=by
  rw[Nat.zero_add]
  have:zJ k (l++g) l.length=true:=by
   unfold zJ;rcases Av l.length with h|h
   ·rw[h];rfl
   ·grind
  simp[Ae,this]
 have e3:(Ae (0+l.length+1) (g.length-1)).filter (zJ k (l++g))=[]:=by
  rw[Ai];intro i hi;rw[Aq]at hi;have a:=L2 (i-l.length);have b:=L2 (i-l.length-1);rw[show l.length+(i-l.length)=i by omega]at a
  rw[show l.length+(i-l.length-1)=i-1 by omega]at b
  unfold zJ;rw[a,b,G _ (by omega),G _ (by omega)]
  have:i≠0:=by omega
  simp[this]
 simp_all
theorem rN (k:Nat->Nat) (n:Nat):∀S,(∀s,s<S->∃i,i<n/\k i=s)->dX0 k (grpsL k n S)=qI0 k n S
 | 0,_=>rfl
 | S+1,h=>by
  rw[kI,vZ0,<-rN k n S λs hs=>h s (by omega)];refine uC0 (s:=S) ?_ (λx hx=>(fX.1 hx).2) (λx hx=>(zF.1 hx).2);obtain⟨i,hi,hk⟩:=h S (by omega);exact List.ne_nil_of_mem (zF.2 ⟨hi,hk⟩)
theorem fC1 {k D:Nat->Nat} {n S:Nat} (h:Win k D 0 n) (hS:∀i,i<n->k i<S):(Af n).map D=grpsL k n S:=by
 refine iO (λ_=>qN) (by grind [ltK]) ?_ (gM k n S) λx=>?_
 ·rw[Bs]
  refine List.pairwise_iff_getElem.2 λi j hi hj r9=>?_;rw[Br,Br];exact h.srt i j (An _) r9 (by simpa using hj)
 ·rw[fX,Cd]
  constructor
  ·rintro⟨i,hi,rfl⟩
   have:=h.inn i (An _) (List.mem_range.1 hi)
   simp_all
  ·rintro⟨h1,_⟩
   obtain⟨i,_,h3,h4⟩:=h.all x (An _) h1;grind
end
section
open Go Go.RowKit
attribute [local go_sem] aO
theorem kI1 {a b:ByteArray} (h:a≠b):lA a b≠0/\decide (lA a b<0)=Aa a.toList b.toList:=by
 have ak:(a.toList==b.toList)=false:=by
  have:=iD0.2 h;exact this
 unfold lA;rw[ak];cases Aa a.toList b.toList<;>simp
theorem jL1 {x y:En} (h:x.r≠y.r):lV x y=Aa x.r.toList y.r.toList:=by
 obtain⟨h1,h2⟩:=kI1 h;unfold lV zR;simp only[orI,if_neg h1];exact h2
end
section
open Go
def Bad (x:En) (i:Nat) (y:En) (j:Nat):Prop:=eB x y/\(y.c<x.c\/y.c=x.c/\j<i)
instance (x:En) (i:Nat) (y:En) (j:Nat):Decidable (Bad x i y j):=by unfold Bad; exact inferInstance
theorem yG0 {l:List En} {i:Nat} {x:En} (hx:l[i]?=some x):l.take (i+1)=l.take i++[x]:=by rw[Ap,hx]; rfl
end
section
open Go Go.RowKit
theorem dK0:dZ Tryz.prog 24 62 5 56 bF where
 sl:=Tryz.underlying24
 info:=iH (z:=.agg #[.string ⟨#[]⟩,.string ⟨#[]⟩,.int .i64 0,.int .i64 0,.int .i64 0]) (by kernel_rfl) rfl
 pos:=by decide
 by1:=by decide
 len _:=rfl
 one:=aU0
def zY0 (l:List En) (w:World) (e:Ending) (w':World):Prop:=∃v,e=.returned v/\aU w' w.heap.size 62 5 bF v (sortS l)/\aB w w'
def fD1 (c:Nat):List Value:=[.int .i32 c]
theorem wP0:dZ Tryz.prog 147 21 1 4 fD1 where
 sl:=Tryz.underlying147
 info:=iH (z:=.int .i32 0) (by kernel_rfl) rfl
 pos:=by decide
 by1:=by decide
 len _:=rfl
 one x u hu:=by
  simp[fD1]at hu;subst hu;rfl
theorem mZ1:∃i,Tryz.prog.info? 62=some i/\i.zero=some enZero.agg/\i.size=5/\i.bytes=56:=by
 have h:(Tryz.prog.info? 62).map (λi=>(i.zero,i.size,i.bytes))=some (some enZero.agg,5,56):=by kernel_rfl
 cases hi:Tryz.prog.info? 62 with
 | none=>rw[hi]at h;cases h
 | some i =>
  rw[hi]at h;simp only[Option.map_some,Option.some.injEq,Prod.mk.injEq]at h;exact⟨i,rfl,h.1,h.2.1,h.2.2⟩
def lO0 (W:World) (sb n:Nat) (so:List En) (k:Nat):Prop :=
 ∃ct:Array Value,W.heap[sb]?=some (.cells ct 62 (0,0))/\ct.size=n*5/\∀i x,i<k->so[i]?=some x->∀j u,(bF x)[j]?=some u->ct[i*5+j]?=some u
theorem lO0.froz {W:World} {sb n k:Nat} {so:List En} (h:lO0 W sb n so k) (j:Nat):W.frozen? ⟨sb,j,none⟩=false:=by
 obtain⟨ct,h1,_⟩:=h;simp[World.frozen?,h1]
theorem lO0.cell {W:World} {sb n k:Nat} {so:List En} (h:lO0 W sb n so k) {j:Nat} (hj:j<n*5):∃u,W.cell? ⟨sb,j,none⟩=some u:=by
 obtain⟨ct,h1,h2,_⟩:=h;exact⟨ct[j]'(by omega),by simp[Ce,h1,h2,hj]⟩
theorem lO0.set {W:World} {sb n k:Nat} {so:List En} (h:lO0 W sb n so k) {j:Nat} (hj:k*5<=j) (v:Value):lO0 (W.setCell ⟨sb,j,none⟩ v) sb n so k:=by
 obtain⟨ct,h1,h2,h3⟩:=h;refine⟨ct.setIfInBounds j v,heap_setCell_same W sb j ct _ v h1,by simpa using h2,λi x hi hx m u hu=>?_⟩;have hm:m<5:=by have:=(List.getElem?_eq_some_iff.1 hu).1;rwa [nO]at this
 rw[Ao,if_neg (by omega)];exact h3 i x hi hx m u hu
theorem lO0.step {W:World} {sb n k:Nat} {so:List En} {x:En} (h:lO0 W sb n so k) (hk:k<n) (hx:so[k]?=some x) :
  lO0 (((((W.setCell ⟨sb,k*5,none⟩ (.string x.r)).setCell ⟨sb,k*5+1,none⟩ (.string x.s)).setCell ⟨sb,k*5+2,none⟩ (.int .i64 x.l)).setCell ⟨sb,k*5+3,none⟩ (.int .i64 x.t)).setCell ⟨sb,k*5+4,none⟩ (.int .i64 x.c)) sb n so (k+1):=by
 obtain⟨ct,h1,h2,h3⟩:=h;refine⟨((((ct.setIfInBounds (k*5) (.string x.r)).setIfInBounds (k*5+1) (.string x.s)).setIfInBounds (k*5+2) (.int .i64 x.l)).setIfInBounds (k*5+3) (.int .i64 x.t)).setIfInBounds (k*5+4) (.int .i64 x.c),heap_setCell_same _ _ _ _ _ _ (heap_setCell_same _ _ _ _ _ _ (heap_setCell_same _ _ _ _ _ _ (heap_setCell_same _ _ _ _ _ _ (heap_setCell_same W sb _ ct _ _ h1)))),by simpa using h2,λi y hi hy m u hu=>?_⟩;have hm:m<5:=by have:=(List.getElem?_eq_some_iff.1 hu).1;rwa [nO]at this
 rcases Ab i k with hik|hik
 ·simp only[Ao]
  rw[if_neg (by omega),if_neg (by omega),if_neg (by omega),if_neg (by omega),if_neg (by omega)];exact h3 i y hik hy m u hu
 ·obtain rfl:i=k:=by omega
  obtain rfl:x=y:=by rw[hx]at hy;exact Option.some.inj hy
  simp only[Ao,Array.size_setIfInBounds]
  match m,hm,hu with
  | 0,_,hu=>simp[bF]at hu;subst hu;simp[h2];omega
  | 1,_,hu=>simp[bF]at hu;subst hu;simp[h2];omega
  | 2,_,hu=>simp[bF]at hu;subst hu;simp[h2];omega
  | 3,_,hu=>simp[bF]at hu;subst hu;simp[h2];omega
  | 4,_,hu=>simp[bF]at hu;subst hu;simp[h2];omega
theorem lO0.at_ {W:World} {sb n:Nat} {so:List En} (h:lO0 W sb n so so.length):aG W (some ⟨sb,0,none⟩) 5 (so.map bF):=λ_=>⟨sb,0,rfl,λi row hi j u hj=>by
 obtain⟨ct,h1,h2,h3⟩:=h;rw[List.getElem?_map]at hi
 cases hx:so[i]? with
 | none=>rw[hx]at hi;cases hi
 | some x =>
  rw[hx]at hi;obtain rfl:bF x=row:=by simpa using hi
  have:=h3 i x (List.getElem?_eq_some_iff.1 hx).1 hx j u hj
  simp[Ce,h1,this]⟩
theorem lO0.made {W:World} {base sb n:Nat} {so:List En} {l:List Value} (h:W.ownsRow base 62 5 (.slice (some ⟨sb,0,none⟩) n n) n l):lO0 W sb n so 0/\base<=sb:=by
 rcases h.2 with ⟨e,_⟩|⟨g,cap,ct,hv,hb,hh,h1,h2,h3,h4⟩
 ·cases e
 ·cases hv
  exact⟨⟨ct,hh,h3,λi x hi=>absurd hi (Nat.not_lt_zero i)⟩,hb⟩
def klE (x:En):Lit := .string (keyBytes [.string x.r.data.toList,.string x.s.data.toList,.int .i64 x.l,.int .i64 x.t,.int .i64 x.c])
theorem sR:Go.Maps.Keyed Tryz.prog 62:=Go.Maps.Keyed.of_law (deep_law_laid fD0 (m:=3) (by decide) (of_decide_eq_true (by kernel_rfl)) (by kernel_rfl) (by kernel_rfl))
theorem iB1 {x:En} (h:tS x):Go.keyOf Tryz.prog 62 x.agg=some (klE x):=by
 obtain⟨m,hm⟩:∃m,Tryz.prog.types.size=m+1:=⟨Tryz.prog.types.size-1,by have:0<Tryz.prog.types.size:=of_decide_eq_true (by kernel_rfl);omega⟩
 have hS:∀(s:ByteArray),s.size<=maxLen->Tryz.prog.keyLits (m+1) 9 [.string s]=some [.string s.data.toList]:=λs hs=>by
  unfold Program.keyLits;simp only[Tryz.underlying9,if_pos hs]
 have hI:∀(n:Int),(Lit.int .i64 n).wf=true->Tryz.prog.keyLits (m+1) 3 [.int .i64 n]=some [.int .i64 n]:=λn hn=>by
  unfold Program.keyLits;simp only[Tryz.underlying3,hn,and_self,if_true]
 have hk:Tryz.prog.keyType 62=true:=by kernel_rfl
 have hc:Tryz.prog.cellsOf 62=5:=by kernel_rfl
 have dg:Tryz.prog.cellsOf 9=1:=by kernel_rfl
 have hci:Tryz.prog.cellsOf 3=1:=by kernel_rfl
 obtain⟨r,s,l,t,c⟩:=x;obtain⟨h1,h2,h3,h4,h5⟩:=h;have g1:=hS r h1;have g2:=hS s h2;have g3:=hI l h3;have g4:=hI t h4;have g5:=hI c h5;unfold Go.keyOf;simp only[Tryz.underlying62,hk,Bf];unfold Value.formed En.agg;simp only[Tryz.underlying62,hc];have hz:((#[Value.string r,.string s,.int .i64 l,.int .i64 t,.int .i64 c]:Array Value).size==5)=true:=rfl;rw[if_pos hz,hm];unfold Program.keyLits;simp only[Tryz.underlying62,hc,Value.cells];simp[dg,hci,g1,g2,g3,g4,g5,klE]
theorem nN0 {x y:En} (hx:tS x) (hy:tS y) (h:klE x=klE y):x=y:=by
 have h1:=iB1 hx;have h2:=iB1 hy;rw[h]at h1
 have:=sR.inj h1 h2
 obtain⟨a,b,c,d,e⟩:=x;obtain⟨a',b',c',d',e'⟩:=y;simpa [En.agg] using this
theorem oO0 {key:Value} {kl:Lit} (h:Go.keyOf Tryz.prog 62 key=some kl):∃x:En,tS x/\key=x.agg/\kl=klE x:=by
 obtain⟨m,hm⟩:∃m,Tryz.prog.types.size=m+1:=⟨Tryz.prog.types.size-1,by have:0<Tryz.prog.types.size:=of_decide_eq_true (by kernel_rfl);omega⟩
 have hS:∀(v:Value) (ls:List Lit),Tryz.prog.keyLits (m+1) 9 [v]=some ls->∃s:ByteArray,v=.string s/\s.size<=maxLen/\ls=[.string s.data.toList]:=λv ls h=>by
  unfold Program.keyLits at h;simp only[Tryz.underlying9]at h;cases v<;>simp at h
  rename_i s
  exact⟨s,rfl,h.1,h.2.symm⟩
 have hI:∀(v:Value) (ls:List Lit),Tryz.prog.keyLits (m+1) 3 [v]=some ls->∃n:Int,v=.int .i64 n/\(Lit.int .i64 n).wf=true/\ls=[.int .i64 n]:=λv ls h=>by
  unfold Program.keyLits at h;simp only[Tryz.underlying3]at h;cases v<;>simp at h
  obtain⟨⟨rfl,h2⟩,h3⟩:=h;exact⟨_,rfl,h2,h3.symm⟩
 have hk:Tryz.prog.keyType 62=true:=by kernel_rfl
 have hc:Tryz.prog.cellsOf 62=5:=by kernel_rfl
 have dg:Tryz.prog.cellsOf 9=1:=by kernel_rfl
 have hci:Tryz.prog.cellsOf 3=1:=by kernel_rfl
 unfold Go.keyOf at h;simp only[Tryz.underlying62,hk,Bf]at h;split at h
 ·rename_i hf
  rw[hm]at h
  obtain⟨cs,rfl,dm⟩:∃cs,key=.agg cs/\cs.size=5:=by
   unfold Value.formed at hf;cases key<;>simp[Tryz.underlying62,hc]at hf
   exact⟨_,rfl,hf⟩
  obtain⟨l⟩:=cs
  match l,dm with
  | [c0,c1,c2,c3,c4],_ =>
   rw[lW Tryz.underlying62]at h;simp only[Value.cells]at h;simp[dg,hci,hc,Bg,Ca]at h;obtain⟨l0,g0,a1,⟨l1,g1,a2,⟨l2,g2,a3,⟨l3,g3,a4,⟨l4,g4,rfl⟩,rfl⟩,rfl⟩,rfl⟩,rfl⟩:=h;obtain⟨s0,rfl,z0,rfl⟩:=hS _ _ g0;obtain⟨s1,rfl,z1,rfl⟩:=hS _ _ g1;obtain⟨n2,rfl,z2,rfl⟩:=hI _ _ g2;obtain⟨n3,rfl,z3,rfl⟩:=hI _ _ g3;obtain⟨n4,rfl,z4,rfl⟩:=hI _ _ g4;exact⟨⟨s0,s1,n2,n3,n4⟩,⟨z0,z1,z2,z3,z4⟩,rfl,by simp[klE]⟩
 ·cases h
end
section
open Go Go.RowKit
def jP (x:En):En:={ x with c:=0 }
theorem tS.key {x:En} (h:tS x):tS (jP x):=⟨h.r,h.s,h.l,h.t,by show (Lit.int .i64 0).wf=true; decide⟩
theorem zZ {z y:En} (hy:y.c=0) (h:eB z y):y=jP z:=by
 obtain⟨a,b,c,d,e⟩:=z;obtain⟨a',b',c',d',e'⟩:=y;obtain⟨rfl,rfl,rfl,rfl⟩:=h;simp only at hy;subst hy;rfl
theorem xR (z:En):eB z (jP z):=⟨rfl,rfl,rfl,rfl⟩
theorem wN0 (y:En):WideAt.IsKeyLit (klE y):=by simp[klE,WideAt.IsKeyLit]
theorem hG1 (y:En):(klE y).sameKey (klE y)=true:=by simp[klE,Lit.sameKey]
section
variable {H:Type}
def AtE (D:DataW H) (y:En):Option Int->Prop
 | none=>Maps.has D (klE y)=false
 | some c=>Maps.has D (klE y)=true/\∀zd,D.atKey (klE y) zd=.lit (.int .i64 c)
def qU0 (l:List En) (y:En):Option Int->Prop
 | none=>∀z∈l,¬eB z y
 | some c=>(∃z∈l,eB z y/\z.c=c)/\∀z∈l,eB z y->c<=z.c
def tR0 (l:List En) (D:DataW H):Prop:=∀y,tS y->(y.c≠0->Maps.has D (klE y)=false)/\(y.c=0->∃o,qU0 l y o/\AtE D y o)
theorem AtE.unique {D:DataW H} {y:En} {o o':Option Int} (h:AtE D y o) (h':AtE D y o'):o=o':=by
 cases o with
 | none=>cases o' with
  | none=>rfl
  | some c=>have h1:Maps.has D (klE y)=false:=h;rw[h'.1]at h1;cases h1
 | some c=>cases o' with
  | none=>have h1:Maps.has D (klE y)=false:=h';rw[h.1]at h1;cases h1
  | some c' =>
   have h1:=h.2 (.lit (.int .i64 0));rw[h'.2]at h1;simpa using h1.symm
theorem qU0.snoc_other {l:List En} {y z:En} {o:Option Int} (h:qU0 l y o) (hn:¬eB z y):qU0 (l++[z]) y o:=by
 cases o with
 | none =>
  intro x hx;rcases List.mem_append.1 hx with hx|hx
  ·exact h x hx
  ·obtain rfl:x=z:=by simpa using hx
   exact hn
 | some c =>
  obtain⟨⟨x,hx,h1,h2⟩,h3⟩:=h;refine⟨⟨x,Ay _ hx,h1,h2⟩,λx hx hk=>?_⟩;rcases List.mem_append.1 hx with hx|hx
  ·exact h3 x hx hk
  ·obtain rfl:x=z:=by simpa using hx
   exact absurd hk hn
theorem hE1:tR0 (H:=H) [] (.map []):=λy _=>⟨λ_=>rfl,λ_=>⟨none,λz hz=>by simp at hz,rfl⟩⟩
theorem tR0.skip {l:List En} {D:DataW H} (h:tR0 l D) {z:En} {c:Int} (ha:AtE D (jP z) (some c)) (hc:c<=z.c):tR0 (l++[z]) D:=λy hy=>by
 refine⟨(h y hy).1,λh0=>?_⟩;obtain⟨o,ho,hD⟩:=(h y hy).2 h0;by_cases hk:eB z y
 ·have e:=zZ h0 hk
  subst e;obtain rfl:=hD.unique ha;refine⟨some c,⟨?_,λx hx hk=>?_⟩,ha⟩
  ·obtain⟨⟨x,hx,h1,h2⟩,_⟩:=ho
   exact⟨x,Ay _ hx,h1,h2⟩
  ·rcases List.mem_append.1 hx with hx|hx
   ·exact ho.2 x hx hk
   ·obtain rfl:x=z:=by simpa using hx
    exact hc
 ·exact⟨o,ho.snoc_other hk,hD⟩
theorem tR0.store {l:List En} {D:DataW H} (h:tR0 l D) (hm:Maps.IsMap D) {z:En} (hz:tS z) {o:Option Int} (ha:AtE D (jP z) o) (hc:∀c,o=some c->z.c<c):tR0 (l++[z]) (D.put (klE (jP z)) (.lit (.int .i64 z.c))):=λy hy=>by
 refine⟨λh0=>?_,λh0=>?_⟩
 ·have ak:klE y≠klE (jP z):=λe=>h0 (by rw[nN0 hy hz.key e];rfl)
  rw[Maps.has_put_other ak];exact(h y hy).1 h0
 ·obtain⟨o',ho,hD⟩:=(h y hy).2 h0
  by_cases hk:eB z y
  ·have e:=zZ h0 hk
   subst e;obtain rfl:=hD.unique ha;refine⟨some z.c,⟨⟨z,by simp,xR z,rfl⟩,λx hx hk=>?_⟩,Maps.has_put_same hm (wN0 _) _,λzd=>Maps.atKey_put_same hm (wN0 _) _ _⟩;rcases List.mem_append.1 hx with hx|hx
   ·cases o' with
    | none=>exact absurd hk (ho x hx)
    | some c =>
     have h1:=ho.2 x hx hk;have h2:=hc c rfl;omega
   ·obtain rfl:x=z:=by simpa using hx
    exact Int.le_refl _
  ·have ak:klE y≠klE (jP z):=λe=>hk (by rw[nN0 hy hz.key e];exact xR z)
   refine⟨o',ho.snoc_other hk,?_⟩
   cases o' with
   | none =>
    show Maps.has _ _=false
    rw[Maps.has_put_other ak];exact hD
   | some c=>exact⟨by rw[Maps.has_put_other ak];exact hD.1,λzd=>by rw[Maps.atKey_put_other ak];exact hD.2 zd⟩
def lX0 (D:DataW H) (left:Lit->Bool) (ys:List En):Prop:=ys.Nodup/\(∀y∈ys,tS y)/\∀y,tS y->(y∈ys↔AtE D (jP y) (some y.c)/\left (klE (jP y))=false)
theorem lZ0 (D:DataW H):lX0 D (Maps.has D) []:=⟨List.nodup_nil,λy hy=>by simp at hy,λy _=>⟨λh=>by simp at h,λ⟨h1,h2⟩=>by rw[h1.1]at h2; cases h2⟩⟩
theorem lX0.step {l:List En} {D:DataW H} {left:Lit->Bool} {ys:List En} (h:lX0 D left ys) (hM:tR0 l D) {x:En} (hx:tS x) {c:Int} (hc:(Lit.int .i64 c).wf=true) (hl:left (klE x)=true) (ac:∀zd,D.atKey (klE x) zd=.lit (.int .i64 c)) :
  lX0 D (λz=>left z && !z.sameKey (klE x)) (ys++[{ x with c:=c }]):=by
 have ml:=Maps.has_true_of_atKey ac
 have h0:x.c=0:=Decidable.byContradiction λhn=>by
  have:=(hM x hx).1 hn
  rw[this]at ml;cases ml
 have hkx:jP { x with c:=c }=x:=by
  obtain⟨a,b,d,e,f⟩:=x;simp only at h0;subst h0;rfl
 have hxA:AtE D x (some c):=⟨ml,ac⟩;have aea:tS { x with c:=c }:=⟨hx.r,hx.s,hx.l,hx.t,hc⟩
 obtain⟨h1,h2,h3⟩:=h;refine⟨?_,λy hy=>?_,λy hy=>?_⟩
 ·refine List.nodup_append.2 ⟨h1,by simp,λy hy z hz e=>?_⟩
  obtain rfl:z={ x with c:=c }:=by simpa using hz
  subst e
  have:=((h3 _ aea).1 hy).2
  rw[hkx,hl]at this;cases this
 ·rcases List.mem_append.1 hy with hy|hy
  ·exact h2 y hy
  ·obtain rfl:y={ x with c:=c }:=by simpa using hy
   exact aea
 ·constructor
  ·intro hm
   rcases List.mem_append.1 hm with hm|hm
   ·obtain⟨k1,k2⟩:=(h3 y hy).1 hm
    exact⟨k1,by simp[k2]⟩
   ·obtain rfl:y={ x with c:=c }:=by simpa using hm
    rw[hkx];exact⟨hxA,by simp[hG1]⟩
  ·rintro⟨k1,k2⟩
   by_cases hk:klE (jP y)=klE x
   ·have e:=nN0 hy.key hx hk
    rw[e]at k1;have e2:y.c=c:=by simpa using k1.unique hxA
    have:y={ x with c:=c }:=by
     rw[<-e,<-e2];obtain⟨a,b,d,e,f⟩:=y;rfl
    rw[this];simp
   ·have k3:(left (klE (jP y)) && !(klE (jP y)).sameKey (klE x))=false:=k2
    rw[Maps.sameKey_ne hk]at k3;exact Ay _ ((h3 y hy).2 ⟨k1,by simpa using k3⟩)
theorem lX0.least {l:List En} {D:DataW H} {left:Lit->Bool} {ys:List En} (h:lX0 D left ys) (hM:tR0 l D) (hl:∀x∈l,tS x) (h0:∀kl,left kl=false) (y:En):y∈ys↔uV l y:=by
 have key:∀y,tS y->(AtE D (jP y) (some y.c)↔uV l y):=λy hy=>by
  obtain⟨o,ho,hD⟩:=(hM (jP y) hy.key).2 rfl;constructor
  ·intro h1
   obtain rfl:=hD.unique h1;obtain⟨⟨z,hz,k1,k2⟩,k3⟩:=ho;refine⟨?_,λx hx hk=>k3 x hx hk⟩
   have:z=y:=by
    obtain⟨a,b,d,e,f⟩:=z;obtain⟨a',b',d',e',f'⟩:=y;obtain⟨rfl,rfl,rfl,rfl⟩:=k1;simp only at k2;subst k2;rfl
   rw[<-this];exact hz
  ·rintro⟨hy2,h2⟩
   cases o with
   | none=>exact absurd (xR y) (ho y hy2)
   | some c =>
    obtain⟨⟨z,hz,k1,k2⟩,k3⟩:=ho;have e1:=k3 y hy2 (xR y);have e2:=h2 z hz k1
    have:c=y.c:=by omega
    rw[<-this];exact hD
 constructor
 ·intro hy
  have ag:=h.2.1 y hy;exact(key y ag).1 ((h.2.2 y ag).1 hy).1
 ·intro hy
  have ag:=hl y hy.1;exact(h.2.2 y ag).2 ⟨(key y ag).2 hy,h0 _⟩
end
end
end Go.Proofs.YtjhajgffmnkocaaGreatDoor
