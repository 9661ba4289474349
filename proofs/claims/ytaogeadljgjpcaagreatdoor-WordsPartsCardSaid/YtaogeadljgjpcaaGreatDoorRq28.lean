/- The texts OffP KeyW BonW WrdL WrdP WrdF, one behind the other. -/
import Derived.Test.YtaogeadljgjpcaaGreatDoorRq2
import Derived.Test.YtaogeadljgjpcaaGreatDoorRq5
import Derived.Test.YtaogeadljgjpcaaGreatDoorRq27
import Derived.Test.YtaogeadljgjpcaaGreatDoorRq8
import Derived.DeepKeys4
import Derived.Maps.RangeWalk
import Derived.Maps.Views
import Derived.Test.YtaogeadljgjpcaaGreatDoorRq11
import Derived.Test.YtaogeadljgjpcaaGreatDoorRq20
import Derived.Maps.Own
import Derived.Carry
import Derived.Maps.AppendAt
open List renaming replicate → Aa,mem_range → Ab,mem_append_left → Ac,length_drop → Ad,length_replicate → Ae,foldl_append → Af,length_map → Ai,foldl_cons → Aj,mem_append_right → Ak,mem_of_mem_take → Al,mem_of_mem_drop → Am,filter_sublist → An,length_take → At,mem_flatMap → Au,length_cons → Av,append_nil → Aw,range → Az
open Nat renaming add_sub_cancel_left → Ag,lt_of_lt_of_le → Aq
open Bool renaming and_eq_true → Ah,not_eq_true' → Ar,true_and → Ax
open Go.Lib renaming validD → Ao,hid → As
open Go.World renaming drew → Ap
open Int renaming le_refl → Ay
set_option maxHeartbeats 4000000
namespace Go.Proofs.YtaogeadljgjpcaaGreatDoor
set_option maxRecDepth 100000
section
open Go Go.RowKit
structure Lrn where
 r:ByteArray
 s:ByteArray
 b:Int
def dG (ls:List Lrn) (r s:ByteArray):Int:=ls.foldl (λn x=>if x.r=r/\x.s=s then max n (min x.b 30000) else n) 0
def ptC (C:List (List UInt8)) (i j:Nat):ByteArray:=mkB ((C.drop i).take (j-i)).flatten
def xT0 (c:List UInt8):Bool := !jW ((Lib.decodeL c).1:Int)
def xO (C:List (List UInt8)) (i:Nat):Bool:=(C[i]?.map xT0).getD false
def cD1 (C:List (List UInt8)) (i:Nat):Nat:=i+((C.drop i).takeWhile xT0).length
def jA1 (es:List En) (r s:ByteArray):Bool:=es.any λx=>decide (x.r=r/\x.s=s)
def gO (ls:List Lrn) (i j:Nat) (x:En):Nd:=⟨i,j,x.s,x.l,x.t,max 0 (x.c-dG ls x.r x.s),1⟩
def iU (ls:List Lrn) (pl:Int) (i j:Nat) (r s:ByteArray):Nd:=⟨i,j,s,pl,pl,max 0 (8000-dG ls r s),2⟩
def cJ0 (C:List (List UInt8)) (pl:Int) (i j:Nat) (c:Int):Nd:=⟨i,j,ptC C i j,pl,pl,c,3⟩
def jR0 (C:List (List UInt8)) (es:List En) (ls:List Lrn) (i j:Nat):List Nd:=(es.filter λx=>decide (x.r=ptC C i j)).map (gO ls i j)
def jP0 (C:List (List UInt8)) (es:List En) (ls:List Lrn) (pl:Int) (i j:Nat):List Nd:=(ls.filter λx=>decide (x.r=ptC C i j)&&(surfaceS x.s && !jA1 es (ptC C i j) x.s)).map λx=>iU ls pl i j (ptC C i j) x.s
def nQ0 (C:List (List UInt8)) (pl:Int) (i:Nat):List Nd:=cJ0 C pl i (i+1) 10000::if i+1<cD1 C i/\(i=0\/xO C (i-1)=false) then [cJ0 C pl i (cD1 C i) 9000] else []
def tQ (C:List (List UInt8)) (es:List En) (ls:List Lrn) (pl:Int) (i:Nat):List Nd:=((Az (C.length-i)).flatMap λd=>jR0 C es ls i (i+1+d)++jP0 C es ls pl i (i+1+d))++nQ0 C pl i
def jP1 (C:List (List UInt8)) (es:List En) (ls:List Lrn) (pl:Int):List Nd:=(Az C.length).flatMap (tQ C es ls pl)
def fS (C:List (List UInt8)) (es:List En) (ls:List Lrn) (pl:Int):List Nd:=zE0 [] (jP1 C es ls pl)
theorem jC1 (l:List UInt8):bl (mkB l)=l:=rfl
theorem wG (C:List (List UInt8)) (i j:Nat):bl (ptC C i j)=((C.drop i).take (j-i)).flatten:=rfl
theorem xK0 (C:List (List UInt8)) (i:Nat):bl (ptC C i C.length)=(C.drop i).flatten:=by
 rw[wG,List.take_of_length_le (by rw[Ad];omega)]
theorem gY1 {s p:ByteArray}:hO0 s p=true↔bl p <+: bl s:=by
 unfold hO0;exact List.isPrefixOf_iff_prefix
theorem tU {C:List (List UInt8)} (hC:iQ C) {i j:Nat} (hj:j<=C.length):(bD (bl (ptC C i j))).length=j-i/\Ao (bl (ptC C i j))=true:=by
 have h:=fR ((hC.drop i).take (j-i));rw[wG,h.2];refine⟨?_,h.1⟩;unfold uP;rw[Ai,At,Ad];omega
theorem mL0 {C:List (List UInt8)} (hC:iQ C) {i j:Nat} (hi:i<j) (hj:j<=C.length):(ptC C i j).size≠0:=by
 intro h0;have h:=(tU hC (i:=i) hj).1
 have:=kO (bl (ptC C i j))
 rw[dJ]at this;omega
theorem yC {C:List (List UInt8)} (hC:iQ C) {i:Nat} {r:ByteArray} (hr:Ao (bl r)=true) (aj:r.size≠0) :
  hO0 (ptC C i C.length) r=true↔i<i+(bD (bl r)).length/\i+(bD (bl r)).length<=C.length/\r=ptC C i (i+(bD (bl r)).length):=by
 obtain⟨R,hR,hf⟩:=kY.1 hr
 have ah:(bD (bl r)).length=R.length:=by
  rw[<-hf,(fR hR).2];unfold uP;rw[Ai]
 have t9:R≠[]:=λe=>by
  rw[e]at hf
  have:=dJ r
  rw[<-hf]at this;exact aj this.symm
 have hR1:1<=R.length:=List.length_pos_iff.2 t9;rw[gY1,xK0,<-hf,lV hR (hC.drop i),hf,ah];constructor
 ·intro h
  have h1:=h.length_le;rw[Ad]at h1;refine⟨by omega,by omega,yC0 ?_⟩;rw[wG,Ag,<-hf,<-List.prefix_iff_eq_take.1 h]
 ·rintro⟨h1,h2,h3⟩
  have h4:bl r=_:=congrArg bl h3;rw[wG,Ag,<-hf]at h4;have h5:=zB0 hR ((hC.drop i).take _) h4;rw[h5];exact List.take_prefix _ _
def tG0 (C:List (List UInt8)) (es:List En) (ls:List Lrn) (pl:Int) (i:Nat) (x:Nd):Prop :=
 (∃e∈es,hO0 (ptC C i C.length) e.r=true/\x=gO ls i (i+(bD (bl e.r)).length) e) \/
 (∃y∈ls,y.r.size≠0/\hO0 (ptC C i C.length) y.r=true/\Ao (bl y.r)=true/\surfaceS y.s=true/\jA1 es y.r y.s=false/\x=iU ls pl i (i+(bD (bl y.r)).length) y.r y.s)\/x∈nQ0 C pl i
theorem gZ1 {C:List (List UInt8)} (hC:iQ C) {es:List En} (hE:∀e∈es,Ao (bl e.r)=true/\e.r.size≠0) (ls:List Lrn) (pl:Int) (i:Nat) (x:Nd):tG0 C es ls pl i x↔x∈tQ C es ls pl i:=by
 unfold tG0 tQ jR0 jP0;simp only[List.mem_append,Au,Ab,List.mem_map,List.mem_filter,decide_eq_true_eq,Ah,Ar];constructor
 ·rintro(⟨e,he,hb,rfl⟩|⟨y,hy,h0,hb,hv,hs,hn,rfl⟩|h)
  ·obtain⟨h1,h2,h3⟩:=(yC hC (hE e he).1 (hE e he).2).1 hb
   refine Or.inl ⟨(bD (bl e.r)).length-1,by omega,Or.inl ⟨e,⟨he,?_⟩,?_⟩⟩
   ·rw[show i+1+((bD (bl e.r)).length-1)=i+(bD (bl e.r)).length by omega]
    exact h3
   ·rw[show i+1+((bD (bl e.r)).length-1)=i+(bD (bl e.r)).length by omega]
  ·obtain⟨h1,h2,h3⟩:=(yC hC hv h0).1 hb
   refine Or.inl ⟨(bD (bl y.r)).length-1,by omega,Or.inr ⟨y,?_⟩⟩;rw[show i+1+((bD (bl y.r)).length-1)=i+(bD (bl y.r)).length by omega,<-h3]
   exact⟨⟨hy,rfl,hs,hn⟩,rfl⟩
  ·exact Or.inr h
 ·rintro(⟨d,hd,⟨e,⟨he,hr⟩,rfl⟩|⟨y,⟨hy,hr,hs,hn⟩,rfl⟩⟩|h)
  ·have h1:=(tU hC (i:=i) (j:=i+1+d) (by omega)).1
   rw[<-hr]at h1;have h2:i+(bD (bl e.r)).length=i+1+d:=by omega
   refine Or.inl ⟨e,he,(yC hC (hE e he).1 (hE e he).2).2 ?_,by rw[h2]⟩;rw[h2];exact⟨by omega,by omega,hr⟩
  ·have h1:=tU hC (i:=i) (j:=i+1+d) (by omega)
   have h0:=mL0 hC (show i<i+1+d by omega) (by omega)
   rw[<-hr]at h1 h0 hn ⊢;have h2:i+(bD (bl y.r)).length=i+1+d:=by omega
   refine Or.inr (Or.inl ⟨y,hy,h0,(yC hC h1.2 h0).2 ?_,h1.2,hs,hn,by rw[h2]⟩);rw[h2];exact⟨by omega,by omega,hr⟩
  ·exact Or.inr (Or.inr h)
theorem gN0 {C:List (List UInt8)} {es:List En} {ls:List Lrn} {pl:Int} {x:Nd}:x∈jP1 C es ls pl↔∃i,i<C.length/\x∈tQ C es ls pl i:=by
 unfold jP1;simp[Au]
theorem fC (C:List (List UInt8)) (es:List En) (ls:List Lrn) (pl:Int):iP (λx=>∃i,i<C.length/\x∈tQ C es ls pl i) (fS C es ls pl):=(iS0 _).congr λ_=>gN0
theorem bonus_step {ls:List Lrn} {k:Nat} {x:Lrn} (h:ls[k]?=some x) (r s:ByteArray):dG (ls.take (k+1)) r s=if x.r=r/\x.s=s then max (dG (ls.take k) r s) (min x.b 30000) else dG (ls.take k) r s:=by
 unfold dG;rw[bM h,Af];rfl
theorem bonus_none {ls:List Lrn} {r s:ByteArray} (h:∀x∈ls, ¬(x.r=r/\x.s=s)):dG ls r s=0:=by
 unfold dG
 have:∀(l:List Lrn) (n:Int),(∀x∈l,¬(x.r=r/\x.s=s))->l.foldl (λn x=>if x.r=r/\x.s=s then max n (min x.b 30000) else n) n=n:=λl=>by
  induction l with
  | nil=>intro n _;rfl
  | cons x l ih =>
   intro n h;rw[Aj,if_neg (h x (by simp)),ih n λy hy=>h y (by simp[hy])]
 exact this ls 0 h
theorem lH (ls:List Lrn) (r s:ByteArray):0<=dG ls r s/\dG ls r s<=30000:=by
 unfold dG
 have:∀(l:List Lrn) (n:Int),0<=n->n<=30000->0<=l.foldl (λn x=>if x.r=r/\x.s=s then max n (min x.b 30000) else n) n/\l.foldl (λn x=>if x.r=r/\x.s=s then max n (min x.b 30000) else n) n<=30000:=λl=>by
  induction l with
  | nil=>intro n h1 h2;exact⟨h1,h2⟩
  | cons x l ih =>
   intro n h1 h2;rw[Aj];split
   ·exact ih _ (by omega) (by omega)
   ·exact ih _ h1 h2
 exact this ls 0 (by omega) (by omega)
end
section
open Go Go.RowKit
def uO0 (r s:ByteArray):Value := .agg #[.string r,.string s]
def klW (r s:ByteArray):Lit := .string (keyBytes [.string r.data.toList,.string s.data.toList])
theorem iG0:Go.Maps.Keyed Tryz.prog 90:=Go.Maps.Keyed.of_law (deep_law_laid xS (m:=3) (by decide) (of_decide_eq_true (by kernel_rfl)) (by kernel_rfl) (by kernel_rfl))
theorem pH1 {r s:ByteArray} (h1:r.size<=maxLen) (h2:s.size<=maxLen):Go.keyOf Tryz.prog 90 (uO0 r s)=some (klW r s):=by
 obtain⟨m,hm⟩:∃m,Tryz.prog.types.size=m+1:=⟨Tryz.prog.types.size-1,by have:0<Tryz.prog.types.size:=of_decide_eq_true (by kernel_rfl);omega⟩
 have hS:∀(s:ByteArray),s.size<=maxLen->Tryz.prog.keyLits (m+1) 9 [.string s]=some [.string s.data.toList]:=λs hs=>by
  unfold Program.keyLits;simp only[Tryz.underlying9,if_pos hs]
 have hk:Tryz.prog.keyType 90=true:=by kernel_rfl
 have hc:Tryz.prog.cellsOf 90=2:=by kernel_rfl
 have ck:Tryz.prog.cellsOf 9=1:=by kernel_rfl
 have g1:=hS r h1;have g2:=hS s h2;unfold Go.keyOf;simp only[Tryz.underlying90,hk,Ax];unfold Value.formed uO0;simp only[Tryz.underlying90,hc];have hz:((#[Value.string r,.string s]:Array Value).size==2)=true:=rfl;rw[if_pos hz,hm];unfold Program.keyLits;simp only[Tryz.underlying90,hc,Value.cells];simp[ck,g1,g2,klW]
theorem nH0 {r s r' s':ByteArray} (h1:r.size<=maxLen) (h2:s.size<=maxLen) (h3:r'.size<=maxLen) (h4:s'.size<=maxLen) (h:klW r s=klW r' s'):r=r'/\s=s':=by
 have k1:=pH1 h1 h2;have k2:=pH1 h3 h4;rw[h]at k1
 have:=iG0.inj k1 k2
 simpa [uO0] using this
theorem rO0 {key:Value} {kl:Lit} (h:Go.keyOf Tryz.prog 90 key=some kl):∃r s:ByteArray,r.size<=maxLen/\s.size<=maxLen/\key=uO0 r s/\kl=klW r s:=by
 obtain⟨m,hm⟩:∃m,Tryz.prog.types.size=m+1:=⟨Tryz.prog.types.size-1,by have:0<Tryz.prog.types.size:=of_decide_eq_true (by kernel_rfl);omega⟩
 have hS:∀(v:Value) (ls:List Lit),Tryz.prog.keyLits (m+1) 9 [v]=some ls->∃s:ByteArray,v=.string s/\s.size<=maxLen/\ls=[.string s.data.toList]:=λv ls h=>by
  unfold Program.keyLits at h;simp only[Tryz.underlying9]at h;cases v<;>simp at h
  rename_i s
  exact⟨s,rfl,h.1,h.2.symm⟩
 have hk:Tryz.prog.keyType 90=true:=by kernel_rfl
 have hc:Tryz.prog.cellsOf 90=2:=by kernel_rfl
 have ck:Tryz.prog.cellsOf 9=1:=by kernel_rfl
 unfold Go.keyOf at h;simp only[Tryz.underlying90,hk,Ax]at h;split at h
 ·rename_i hf
  rw[hm]at h
  obtain⟨cs,rfl,du⟩:∃cs,key=.agg cs/\cs.size=2:=by
   unfold Value.formed at hf;cases key<;>simp[Tryz.underlying90,hc]at hf
   exact⟨_,rfl,hf⟩
  obtain⟨l⟩:=cs
  match l,du with
  | [c0,c1],_ =>
   rw[jH Tryz.underlying90]at h;simp only[Value.cells]at h;simp[ck,hc,Option.bind_eq_some_iff,List.mapM_cons]at h;obtain⟨l0,g0,ls,⟨l1,g1,rfl⟩,rfl⟩:=h;obtain⟨s0,rfl,z0,rfl⟩:=hS _ _ g0;obtain⟨s1,rfl,z1,rfl⟩:=hS _ _ g1;exact⟨s0,s1,z0,z1,rfl,by simp[klW]⟩
 ·cases h
theorem xD0 (r s:ByteArray):WideAt.IsKeyLit (klW r s):=by simp[klW,WideAt.IsKeyLit]
theorem fY1 (r s:ByteArray):(klW r s).sameKey (klW r s)=true:=by simp[klW,Lit.sameKey]
structure fK0 (x:Lrn):Prop where
 r:x.r.size<=maxLen
 s:x.s.size<=maxLen
 b:WfI x.b
section
variable {H:Type}
structure nK1 (ls:List Lrn) (D:DataW H):Prop where
 map:Maps.IsMap D
 has:∀r s:ByteArray,r.size<=maxLen->s.size<=maxLen->(Maps.has D (klW r s)=true↔∃x∈ls,x.r=r/\x.s=s)
 at_:∀r s:ByteArray,r.size<=maxLen->s.size<=maxLen->D.atKey (klW r s) (.lit (.int .i64 0))=.lit (.int .i64 (dG ls r s))
theorem iT1:nK1 (H:=H) [] (.map []):=⟨Maps.isMap_empty,λr s _ _=>⟨λh=>(by cases h),λ⟨x,h,_⟩=>(by cases h)⟩,λr s _ _=>rfl⟩
theorem nK1.store {ls:List Lrn} {D:DataW H} (h:nK1 ls D) {x:Lrn} (hx:fK0 x):nK1 (ls++[x]) (D.put (klW x.r x.s) (.lit (.int .i64 (max (dG ls x.r x.s) (min x.b 30000))))):=by
 have ad5:∀r s,dG (ls++[x]) r s=if x.r=r/\x.s=s then max (dG ls r s) (min x.b 30000) else dG ls r s:=λr s=>by
  unfold dG;rw[Af];rfl
 refine⟨h.map.put _ _,λr s hr hs=>?_,λr s hr hs=>?_⟩
 ·by_cases e:x.r=r/\x.s=s
  ·obtain⟨rfl,rfl⟩:=e
   exact⟨λ_=>⟨x,by simp,rfl,rfl⟩,λ_=>Maps.has_put_same h.map (xD0 _ _) _⟩
  ·have aj:klW r s≠klW x.r x.s:=λe2=>e (let ⟨a,b⟩:=nH0 hr hs hx.r hx.s e2;⟨a.symm,b.symm⟩)
   rw[Maps.has_put_other aj,h.has r s hr hs];constructor
   ·rintro⟨y,hy,k⟩
    exact⟨y,by simp[hy],k⟩
   ·rintro⟨y,hy,k⟩
    rcases List.mem_append.1 hy with hy|hy
    ·exact⟨y,hy,k⟩
    ·obtain rfl:y=x:=by simpa using hy
     exact absurd k e
 ·rw[ad5]
  by_cases e:x.r=r/\x.s=s
  ·rw[if_pos e]
   obtain⟨rfl,rfl⟩:=e;exact Maps.atKey_put_same h.map (xD0 _ _) _ _
  ·have aj:klW r s≠klW x.r x.s:=λe2=>e (let ⟨a,b⟩:=nH0 hr hs hx.r hx.s e2;⟨a.symm,b.symm⟩)
   rw[if_neg e,Maps.atKey_put_other aj];exact h.at_ r s hr hs
end
end
section
open Go Go.RowKit
attribute [local go_sem] aM
def iW (x:Lrn):List Value:=[.string x.r,.string x.s,.int .i64 x.b]
theorem oY1 (w:World):(zeroValue 3).run Tryz.prog w=.ok (.int .i64 0) w:=by kernel_rfl
def sF (w:World) (mb N:Nat) (ls:List Lrn):Prop:=∃D:DataW Unit,w.ownsMap Tryz.prog 90 (plainElem Tryz.prog 3) mb N D/\nK1 ls D
theorem sF.grows {w w':World} {mb N:Nat} {ls:List Lrn} (h:sF w mb N ls) (hg:aB w w'):sF w' mb N ls:=let ⟨D,h1,h2⟩:=h; ⟨D,aJ h1 hg,h2⟩
theorem sF.lt {w:World} {mb N:Nat} {ls:List Lrn} (h:sF w mb N ls):mb<w.heap.size:=let ⟨_,h1,_⟩:=h; h1.lt
theorem sF.kept {w w':World} {mb N b:Nat} {ls:List Lrn} (h:sF w mb N ls) (hg:w.grownBy w' (some b)) (aj:mb≠b):sF w' mb N ls:=let ⟨D,h1,h2⟩:=h; ⟨D,h1.kept hg (λe=>aj (Option.some.inj e)),h2⟩
theorem sF.look {w:World} {mb N:Nat} {ls:List Lrn} (h:sF w mb N ls) {r s:ByteArray} (hr:r.size<=maxLen) (hs:s.size<=maxLen) :
  (Instr.lookup 82 (.map (some mb)) (uO0 r s) false).run Tryz.prog w=.ok (.int .i64 (dG ls r s)) w:=by
 obtain⟨D,h1,h2⟩:=h;obtain⟨c,iw,ac,_⟩:=h1.lookup_int iG0 Tryz.underlying82 Tryz.underlying3 (oY1 w) (pH1 hr hs);rw[h2.at_ r s hr hs]at ac
 have:c=dG ls r s:=by simpa using ac.symm
 rw[iw,this]
theorem bM1 {x:Int} (h:WfI x):WfI (min x 30000):=by
 by_cases h0:x<=30000
 ·rw[show min x 30000=x by omega];exact h
 ·rw[show min x 30000=30000 by omega];unfold WfI;decide
theorem bX1 {ls:List Lrn} (h:∀x∈ls,fK0 x) (r s:ByteArray):WfI (dG ls r s):=by
 unfold dG
 have H:∀(l:List Lrn) (n:Int),(∀x∈l,fK0 x)->WfI n->WfI (l.foldl (λn x=>if x.r=r/\x.s=s then max n (min x.b 30000) else n) n):=by
  intro l
  induction l with
  | nil=>intro n _ hn;exact hn
  | cons x l ih =>
   intro n hx hn;rw[Aj];refine ih _ (λy hy=>hx y (by simp[hy])) ?_;split
   ·by_cases h0:n<=min x.b 30000
    ·rw[show max n (min x.b 30000)=min x.b 30000 by omega];exact bM1 (hx x (by simp)).b
    ·rw[show max n (min x.b 30000)=n by omega];exact hn
   ·exact hn
 exact H ls 0 h (by unfold WfI;decide)
theorem oJ1 {a b:Int} (ha:WfI a) (hb:WfI b):WfI (max a b):=by
 by_cases h0:a<=b
 ·rw[show max a b=b by omega];exact hb
 ·rw[show max a b=a by omega];exact ha
theorem mY0 (l:List Lrn) (a:Option Addr) (c:Nat) (w:World) (hl:l.length<=1048576) (ag:∀x∈l,fK0 x) (ac:aG w a 3 (l.map iW)) :
  Calls Tryz.prog 39 #[.slice a l.length c] w λe w'=>e=.returned (.map (some w.heap.size))/\sF w' w.heap.size l.length l/\aB w w':=by
 have bv:∀k x,l[k]?=some x->∃b o,a=some ⟨b,o,none⟩/\w.cell? ⟨b,o+k*3,none⟩=some (.string x.r)/\w.cell? ⟨b,o+k*3+1,none⟩=some (.string x.s)/\w.cell? ⟨b,o+k*3+2,none⟩=some (.int .i64 x.b):=by
  intro k x hx;have aj:l≠[]:=by rintro rfl;simp at hx
  obtain⟨b,o,ha,hc⟩:=ac.get aj;exact⟨b,o,ha,hc k x hx 0 _ rfl,hc k x hx 1 _ rfl,hc k x hx 2 _ rfl⟩
 have HC:=As bv;have HOK:=As ag;clear bv ac ag;have q6:=@run_makeMap Tryz.prog;go_enter Tryz.func39,Tryz.ntmps39
 go_wp2_with fail
 have jd:=World.ownsMap_made w Tryz.prog 90 (plainElem (H:=Unit) Tryz.prog 3);have cm:aB w (w.alloc (.map #[] 0)):=aB.alloc _ _;have hbw:w.heap.size<(w.alloc (.map #[] 0)).heap.size:=by simp
 obtain⟨mb,pu⟩:=exq w.heap.size;generalize w.alloc (.map #[] 0)=w1 at jd cm hbw ⊢;rw[<-pu]at jd hbw ⊢;have HMB:=As pu;clear pu q6;go_loopw [10] (λi wr=>∃k:Nat,k<=l.length/\i=.int .i64 k/\Hid (sF wr mb k (l.take k))/\mb<wr.heap.size/\aB w wr) (λi _=>l.length-(intOf i).toNat)
 case atStart=>exact⟨0,Nat.zero_le _,rfl,⟨_,jd,iT1⟩,hbw,cm⟩
 case round =>
  obtain⟨k,hk,rfl,hB,abm,hg⟩:=hrel;by_cases ae:k<l.length
  ·obtain⟨⟨xr,xs,xb⟩,hx⟩:∃x,l[k]?=some x:=⟨_,List.getElem?_eq_getElem ae⟩
   obtain⟨b,o,rfl,d0,d1,d2⟩:=HC.out k _ hx;have c0:=hg.cell d0;have c1:=hg.cell d1;have c2:=hg.cell d2;have HX:=As (HOK.out _ (List.mem_of_getElem? hx));have HTK:Hid (l.take (k+1)=l.take k++[⟨xr,xs,xb⟩]):=bM hx;have HWF:=As (bX1 (λy hy=>HOK.out y (Al (i:=k) hy)) xr xs);have cn:(k:Int)<l.length:=by omega
   simp only at c0 c1 c2;clear hx d0 d1 d2;go_wp2_with fail
   have ms:=((aB.alloc wr (.cells #[.string xr,.string xs,.int .i64 xb] 51)).al (.cells #[.string xr,.string xs] 90)).dr;have y0:(Ap ((wr.alloc (.cells #[.string xr,.string xs,.int .i64 xb] 51)).alloc (.cells #[.string xr,.string xs] 90))).cell? ⟨wr.heap.size,2,none⟩=some (.int .i64 xb):=((aB.alloc _ _).dr).cell (aT wr _ _ (0,0) 2 _ rfl);have z0:(Ap ((wr.alloc (.cells #[.string xr,.string xs,.int .i64 xb] 51)).alloc (.cells #[.string xr,.string xs] 90))).cell? ⟨wr.heap.size+1,0,none⟩=some (.string xr):=(aB.drew _).cell (by simp);have z1:(Ap ((wr.alloc (.cells #[.string xr,.string xs,.int .i64 xb] 51)).alloc (.cells #[.string xr,.string xs] 90))).cell? ⟨wr.heap.size+1,1,none⟩=some (.string xs):=(aB.drew _).cell (by simp);refine jV 9 (bB 9 []) (by kernel_rfl) (λd _ _ _ _ h=>by cases d<;>exact h) ?_
   obtain⟨WA,hWA⟩:=exq (Ap ((wr.alloc (.cells #[.string xr,.string xs,.int .i64 xb] 51)).alloc (.cells #[.string xr,.string xs] 90)));rw[<-hWA]at ms y0 z0 z1 ⊢;have ql:∀x:Ext aB WA,(Instr.lookup 82 (.map (some mb)) (.agg #[.string xr,.string xs]) false).run Tryz.prog x.u=.ok (.int .i64 (dG (l.take k) xr xs)) x.u:=λx=>(hB.out.grows (ms.tr x.h)).look HX.out.r HX.out.s;have qy:∀x:Ext aB WA,x.u.cell? ⟨wr.heap.size,2,none⟩=some (.int .i64 xb):=λx=>x.h.cell y0;have qz0:∀x:Ext aB WA,x.u.cell? ⟨wr.heap.size+1,0,none⟩=some (.string xr):=λx=>x.h.cell z0;have qz1:∀x:Ext aB WA,x.u.cell? ⟨wr.heap.size+1,1,none⟩=some (.string xs):=λx=>x.h.cell z1;iterate 9 (refine aH rfl (λK hK=>?_);go_simp;refine hK _ ?_;clear hK K)
   refine bQ ?_;simp only[List.drop_succ_cons,List.drop_zero];obtain⟨D,aa,hM⟩:=hB.out;have ai:=aJ aa ms;have hmW:Hid (mb<WA.heap.size):=Aq abm ms.size;have gh:=hg.tr ms;have HM2:=As (hM.store HX.out);have eu:Go.keyOf Tryz.prog 90 (.agg #[.string xr,.string xs])=some (klW xr xs):=pH1 HX.out.r HX.out.s;have hwf:WfI (max (dG (l.take k) xr xs) (min xb 30000)):=oJ1 HWF.out (bM1 HX.out.b);have hkm:k<maxLen:=by unfold maxLen;omega
   obtain⟨mx,hmx⟩:=exq (max (dG (l.take k) xr xs) (min xb 30000));rw[<-hmx]at hwf HM2 ⊢;clear ql qy qz0 qz1 y0 z0 z1 hM aa hmx hWA c0 c1 c2 hB;go_wp2_with (at_mapUpdate;refine wpList_mapUpdate_own _ rfl _ _ _ 82 rfl 90 3 iG0 Tryz.underlying82 _ mb k D rfl ai hkm _ _ (klW xr xs) rfl rfl eu _ [] (plainElem_int Tryz.underlying3 hwf) ?_;intro w3 au fy)
   have iz:Hid (sF w3 mb (k+1) (l.take (k+1))):=⟨_,au,by rw[HTK.out];exact HM2.out⟩;go_roundw
   case rel=>exact⟨k+1,ae,by go_num,iz,Aq hmW.out fy.size,gh.grown fy (λq hq=>by cases hq;exact Nat.le_of_eq HMB.out.symm)⟩
   case measure=>simp[intOf];omega
  ·obtain rfl:k=l.length:=by omega
   have cn:¬((l.length:Nat):Int)<l.length:=by omega
   rw[List.take_length]at hB;go_wp2_with fail
   go_ret;exact⟨by rw[HMB.out];rfl,by rw[<-HMB.out];exact hB.out,hg⟩
end
section
open Go Go.RowKit
theorem nA1 {C:List (List UInt8)} {i:Nat} (hi:i<=C.length):cD1 C i<=C.length:=by
 unfold cD1
 have:=(List.takeWhile_prefix xT0 (l:=C.drop i)).length_le
 rw[Ad]at this;omega
theorem iY {C:List (List UInt8)} {es:List En} {ls:List Lrn} {pl:Int} {i:Nat} (hi:i<C.length) {x:Nd} (h:x∈tQ C es ls pl i) :
  ∃j,i<j/\j<=C.length/\((∃e∈es,e.r=ptC C i j/\x=gO ls i j e)\/(∃y∈ls,y.r=ptC C i j/\surfaceS y.s=true/\jA1 es (ptC C i j) y.s=false/\x=iU ls pl i j (ptC C i j) y.s) \/
   (j=i+1/\x=cJ0 C pl i j 10000)\/(i+1<cD1 C i/\(i=0\/xO C (i-1)=false)/\j=cD1 C i/\x=cJ0 C pl i j 9000)):=by
 unfold tQ at h;rcases List.mem_append.1 h with h|h
 ·obtain⟨d,hd,h⟩:=List.mem_flatMap.1 h
  rw[Ab]at hd;refine⟨i+1+d,by omega,by omega,?_⟩;rcases List.mem_append.1 h with h|h
  ·unfold jR0 at h
   obtain⟨e,he,rfl⟩:=List.mem_map.1 h;obtain⟨h1,h2⟩:=List.mem_filter.1 he;exact Or.inl ⟨e,h1,of_decide_eq_true h2,rfl⟩
  ·unfold jP0 at h
   obtain⟨y,hy,rfl⟩:=List.mem_map.1 h;obtain⟨h1,h2⟩:=List.mem_filter.1 hy;simp only[Ah,decide_eq_true_eq,Ar]at h2;exact Or.inr (Or.inl ⟨y,h1,h2.1,h2.2.1,h2.2.2,rfl⟩)
 ·unfold nQ0 at h
  rcases List.mem_cons.1 h with rfl|h
  ·exact⟨i+1,by omega,hi,Or.inr (Or.inr (Or.inl ⟨rfl,rfl⟩))⟩
  ·split at h
   ·rename_i hc
    obtain rfl:x=_:=by simpa using h
    exact⟨cD1 C i,by omega,nA1 (Nat.le_of_lt hi),Or.inr (Or.inr (Or.inr ⟨hc.1,hc.2,rfl,rfl⟩))⟩
   ·cases h
theorem aI0 {C:List (List UInt8)} {es:List En} (ls:List Lrn) (pl:Int) {i j:Nat} (hi:i<j) (hj:j<=C.length) {e:En} (he:e∈es) (hr:e.r=ptC C i j):gO ls i j e∈tQ C es ls pl i:=by
 unfold tQ;refine Ac _ (List.mem_flatMap.2 ⟨j-i-1,by rw[Ab];omega,Ac _ ?_⟩);rw[show i+1+(j-i-1)=j by omega]
 exact List.mem_map.2 ⟨e,List.mem_filter.2 ⟨he,decide_eq_true hr⟩,rfl⟩
theorem xR {C:List (List UInt8)} {es:List En} {ls:List Lrn} (pl:Int) {i j:Nat} (hi:i<j) (hj:j<=C.length) {y:Lrn} (hy:y∈ls) (hr:y.r=ptC C i j) (hs:surfaceS y.s=true) (hn:jA1 es (ptC C i j) y.s=false) :
  iU ls pl i j (ptC C i j) y.s∈tQ C es ls pl i:=by
 unfold tQ;refine Ac _ (List.mem_flatMap.2 ⟨j-i-1,by rw[Ab];omega,Ak _ ?_⟩);rw[show i+1+(j-i-1)=j by omega]
 exact List.mem_map.2 ⟨y,List.mem_filter.2 ⟨hy,by simp[hr,hs,hn]⟩,rfl⟩
theorem aU0 {C:List (List UInt8)} {es:List En} {ls:List Lrn} {pl:Int} {i:Nat} {x:Nd} (h:x∈nQ0 C pl i):x∈tQ C es ls pl i:=by
 unfold tQ;exact Ak _ h
theorem uG0 {s:ByteArray} (h:surfaceS s=true):s.size≠0:=by
 rw[tZ0]at h;simp only[Ah,decide_eq_true_eq]at h
 have:=kO s.data.toList
 have h2:s.data.toList.length=s.size:=dJ s;omega
theorem nodes_ok {C:List (List UInt8)} (hC:iQ C) {es:List En} {n:Int} (hE:∀e∈es,e.s.size≠0/\0<=e.l/\e.l<n/\0<=e.t/\e.t<n/\0<=e.c/\e.c<=30000) (ls:List Lrn) {pl:Int} (hp:0<=pl/\pl<n) {x:Nd} (hx:x∈fS C es ls pl) :
  0<=x.f/\x.f<x.t/\x.t<=C.length/\0<=x.c/\x.c<=30000/\x.s.size≠0/\0<=x.l/\x.l<n/\0<=x.r/\x.r<n/\1<=x.k/\x.k<=3:=by
 obtain⟨i,hi,ho⟩:=(fC C es ls pl).sub x hx;obtain⟨j,jf,hj,h⟩:=iY hi ho;rcases h with ⟨e,he,hr,rfl⟩|⟨y,hy,hr,hs,hn,rfl⟩|⟨rfl,rfl⟩|⟨hr,_,rfl,rfl⟩
 ·obtain⟨h1,h2,h3,h4,h5,h6,h7⟩:=hE e he
  have hb:=lH ls e.r e.s;refine⟨?_,?_,?_,?_,?_,h1,h2,h3,h4,h5,?_,?_⟩<;>simp only[gO]<;>omega
 ·have hb:=lH ls (ptC C i j) y.s
  refine⟨?_,?_,?_,?_,?_,uG0 hs,hp.1,hp.2,hp.1,hp.2,?_,?_⟩<;>simp only[iU]<;>omega
 ·refine⟨?_,?_,?_,?_,?_,mL0 hC jf hj,hp.1,hp.2,hp.1,hp.2,?_,?_⟩<;>simp only[cJ0]<;>omega
 ·refine⟨?_,?_,?_,?_,?_,mL0 hC jf hj,hp.1,hp.2,hp.1,hp.2,?_,?_⟩<;>simp only[cJ0]<;>omega
theorem nodes_alone (C:List (List UInt8)) (es:List En) (ls:List Lrn) (pl:Int) {i:Nat} (hi:i<C.length):∃x∈fS C es ls pl,x.f=i/\x.t=i+1:=by
 obtain⟨z,hz,hs,_⟩:=(fC C es ls pl).cov (cJ0 C pl i (i+1) 10000) ⟨i,hi,aU0 (by simp[nQ0])⟩;exact⟨z,hz,hs.1,by rw[hs.2.1];simp[cJ0]⟩
theorem nodes_found {C:List (List UInt8)} {es:List En} (ls:List Lrn) (pl:Int) {i j:Nat} (hi:i<j) (hj:j<=C.length) {e:En} (he:e∈es) (hr:e.r=ptC C i j) (hc:0<=e.c) :
  (∃y∈fS C es ls pl,y.f=i/\y.t=j/\y.s=e.s/\y.l=e.l/\y.r=e.t)/\∀y∈fS C es ls pl,y.f=i->y.t=j->y.s=e.s->y.l=e.l->y.r=e.t->y.c<=e.c:=by
 have h:=fC C es ls pl;have ho:(λx=>∃i,i<C.length/\x∈tQ C es ls pl i) (gO ls i j e):=⟨i,by omega,aI0 ls pl hi hj he hr⟩;constructor
 ·obtain⟨z,hz,hs,_⟩:=h.cov _ ho
  exact⟨z,hz,hs.1,hs.2.1,hs.2.2.1,hs.2.2.2.1,hs.2.2.2.2⟩
 ·intro y hy h1 h2 h3 h4 h5
  have hb:=h.best hy ho ⟨h1,h2,h3,h4,h5⟩
  have:=lH ls e.r e.s
  unfold bT gO at hb;simp only at hb;omega
theorem mJ (ls:List Lrn) (m:Lrn) (r s:ByteArray):dG (ls++[m]) r s=if m.r=r/\m.s=s then max (dG ls r s) (min m.b 30000) else dG ls r s:=by
 unfold dG;rw[Af];rfl
theorem qG0 (ls:List Lrn) (m:Lrn) (r s:ByteArray):dG ls r s<=dG (ls++[m]) r s:=by
 rw[mJ];split<;>omega
theorem fM1 {C:List (List UInt8)} {es:List En} {ls:List Lrn} {pl:Int} (m:Lrn) {i:Nat} (hi:i<C.length) {x:Nd} (h:x∈tQ C es ls pl i) :
  ∃y∈tQ C es (ls++[m]) pl i,cG y x/\y.k=x.k/\y.c<=x.c/\(y=x\/∃j:Nat,x.t=j/\ptC C i j=m.r/\x.s=m.s):=by
 obtain⟨j,jf,hj,h⟩:=iY hi h;rcases h with ⟨e,he,hr,rfl⟩|⟨y,hy,hr,hs,hn,rfl⟩|⟨rfl,rfl⟩|⟨h1,h2,rfl,rfl⟩
 ·refine⟨_,aI0 (ls++[m]) pl jf hj he hr,cG.refl _,rfl,?_,?_⟩
  ·have:=qG0 ls m e.r e.s
   simp only[gO];omega
  ·by_cases hm:m.r=e.r/\m.s=e.s
   ·exact Or.inr ⟨j,rfl,by rw[<-hr,hm.1],hm.2.symm⟩
   ·refine Or.inl ?_
    unfold gO;rw[mJ,if_neg hm]
 ·refine⟨_,xR (ls:=ls++[m]) pl jf hj (Ac _ hy) hr hs hn,cG.refl _,rfl,?_,?_⟩
  ·have:=qG0 ls m (ptC C i j) y.s
   simp only[iU];omega
  ·by_cases hm:m.r=ptC C i j/\m.s=y.s
   ·exact Or.inr ⟨j,rfl,hm.1.symm,hm.2.symm⟩
   ·refine Or.inl ?_
    unfold iU;rw[mJ,if_neg hm]
 ·exact⟨_,aU0 (by simp[nQ0]),cG.refl _,rfl,Ay _,Or.inl rfl⟩
 ·exact⟨_,aU0 (by simp[nQ0,h1,h2]),cG.refl _,rfl,Ay _,Or.inl rfl⟩
theorem fO1 {C:List (List UInt8)} {es:List En} {ls:List Lrn} {pl:Int} {m:Lrn} {i:Nat} (hi:i<C.length) {x:Nd} (h:x∈tQ C es (ls++[m]) pl i) :
  x∈tQ C es ls pl i\/∃j:Nat,x.f=i/\x.t=j/\ptC C i j=m.r/\x.s=m.s:=by
 obtain⟨j,jf,hj,h⟩:=iY hi h;rcases h with ⟨e,he,hr,rfl⟩|⟨y,hy,hr,hs,hn,rfl⟩|⟨rfl,rfl⟩|⟨h1,h2,rfl,rfl⟩
 ·by_cases hm:m.r=e.r/\m.s=e.s
  ·exact Or.inr ⟨j,rfl,rfl,by rw[<-hr,hm.1],hm.2.symm⟩
  ·refine Or.inl ?_
   unfold gO;rw[mJ,if_neg hm];exact aI0 ls pl jf hj he hr
 ·by_cases hm:m.r=ptC C i j/\m.s=y.s
  ·exact Or.inr ⟨j,rfl,rfl,hm.1.symm,hm.2.symm⟩
  ·refine Or.inl ?_
   unfold iU;rw[mJ,if_neg hm];rcases List.mem_append.1 hy with hy|hy
   ·exact xR pl jf hj hy hr hs hn
   ·obtain rfl:y=m:=by simpa using hy
    exact absurd ⟨hr,rfl⟩ hm
 ·exact Or.inl (aU0 (by simp[nQ0]))
 ·exact Or.inl (aU0 (by simp[nQ0,h1,h2]))
theorem nodes_more (C:List (List UInt8)) (es:List En) (ls:List Lrn) (pl:Int) (m:Lrn) {x:Nd} (hx:x∈fS C es ls pl) :
  (∃y∈fS C es (ls++[m]) pl,cG x y)/\∀y∈fS C es (ls++[m]) pl,cG x y->y.c<=x.c/\(y=x\/∃i j:Nat,x.f=i/\x.t=j/\ptC C i j=m.r/\x.s=m.s):=by
 have h:=fC C es ls pl;have h':=fC C es (ls++[m]) pl;obtain⟨i,hi,ho⟩:=h.sub x hx
 have hfi:x.f=i:=by
  obtain⟨j,_,_,k⟩:=iY hi ho;rcases k with ⟨e,_,_,rfl⟩|⟨y,_,_,_,_,rfl⟩|⟨_,rfl⟩|⟨_,_,_,rfl⟩<;>rfl
 obtain⟨z,hz,h1,h2,h3,h4⟩:=fM1 m hi ho;constructor
 ·obtain⟨y,hy,k1,k2⟩:=h'.cov z ⟨i,hi,hz⟩
  exact⟨y,hy,(k1.trans h1).symm⟩
 ·intro y hy hs
  have hb:=h'.best hy ⟨i,hi,hz⟩ (hs.symm.trans h1.symm);refine⟨by unfold bT at hb;omega,?_⟩;rcases h4 with rfl|⟨j,h4,h5,h6⟩
  ·obtain⟨i',yz,ho'⟩:=h'.sub y hy
   rcases fO1 yz ho' with ho2|⟨j,k0,k1,k2,k3⟩
   ·have ct:=h.best hx ⟨i',yz,ho2⟩ hs
    refine Or.inl (pD0 hs.symm ?_ ?_)<;>unfold bT at hb ct<;>omega
   ·exact Or.inr ⟨i',j,by rw[hs.1,k0],by rw[hs.2.1,k1],k2,by rw[hs.2.2.1,k3]⟩
  ·exact Or.inr ⟨i,j,hfi,h4,h5,h6⟩
end
section
open Go Go.RowKit
def zM0 (C:List (List UInt8)) (a b:Nat):List (List UInt8):=(C.drop a).take (b-a)
theorem gC0 {C:List (List UInt8)} {a b:Nat} (hb:b<=C.length):(zM0 C a b).length=b-a:=by
 unfold zM0;rw[At,Ad];omega
theorem zQ0 {C:List (List UInt8)} {a b i j:Nat} (hj:j<=b-a):ptC (zM0 C a b) i j=ptC C (a+i) (a+j):=by
 refine yC0 ?_;rw[wG,wG,zM0,List.drop_take,List.take_take,List.drop_drop,show min (j-i) (b-a-i)=a+j-(a+i) by omega]
def iN (a:Nat) (x:Nd):Nd:={ x with f:=x.f-a,t:=x.t-a }
theorem gR0 {C:List (List UInt8)} (h:∀c∈C,xT0 c=false) (i:Nat):cD1 C i=i:=by
 unfold cD1
 cases hd:C.drop i with
 | nil=>rfl
 | cons c r =>
  rw[List.takeWhile_cons_of_neg (by rw[h c (Am (by rw[hd];simp))];decide)];rfl
theorem iS1 {C:List (List UInt8)} (h:∀c∈C,xT0 c=false) (a b:Nat):∀c∈zM0 C a b,xT0 c=false:=λc hc=>h c (Am (Al hc))
section
variable {C:List (List UInt8)} {es:List En} {ls:List Lrn} {pl:Int} {a b:Nat}
theorem lN1 (hh:∀c∈C,xT0 c=false) (hb:b<=C.length) {i:Nat} (hi:i<b-a) {y:Nd} (h:y∈tQ (zM0 C a b) es ls pl i) :
  ∃x∈tQ C es ls pl (a+i),iN a x=y/\a<=x.f/\x.t<=b:=by
 have hl:=gC0 (a:=a) hb;obtain⟨j,jf,hj,h⟩:=iY (by omega) h;rw[hl]at hj;have hp:=zQ0 (C:=C) (i:=i) hj;rcases h with ⟨e,he,hr,rfl⟩|⟨y,hy,hr,hs,hn,rfl⟩|⟨rfl,rfl⟩|⟨h1,h2,rfl,rfl⟩
 ·refine⟨_,aI0 ls pl (show a+i<a+j by omega) (by omega) he (by rw[hr,hp]),?_,?_,?_⟩
  ·simp only[iN,gO,Nd.mk.injEq,eq_self,and_true];omega
  ·simp only[gO];omega
  ·simp only[gO];omega
 ·refine⟨_,xR pl (show a+i<a+j by omega) (by omega) hy (by rw[hr,hp]) hs (by rw[<-hp];exact hn),?_,?_,?_⟩
  ·simp only[iN,iU,Nd.mk.injEq,hp,eq_self,and_true];omega
  ·simp only[iU];omega
  ·simp only[iU];omega
 ·refine⟨cJ0 C pl (a+i) (a+i+1) 10000,aU0 (by simp[nQ0]),?_,?_,?_⟩
  ·simp only[iN,cJ0,Nd.mk.injEq,hp,Nat.add_assoc,eq_self,and_true];omega
  ·simp only[cJ0];omega
  ·simp only[cJ0];omega
 ·rw[gR0 (iS1 hh a b)]at h1
  omega
theorem nV1 (hh:∀c∈C,xT0 c=false) (hb:b<=C.length) {i:Nat} (hi:a+i<C.length) {x:Nd} (h:x∈tQ C es ls pl (a+i)) (hx:x.t<=b):i<b-a/\iN a x∈tQ (zM0 C a b) es ls pl i:=by
 have hl:=gC0 (a:=a) hb;obtain⟨j,jf,hj,h⟩:=iY hi h;obtain⟨d,rfl⟩:∃d,j=a+d:=⟨j-a,by omega⟩
 have htj:x.t=(a+d:Nat):=by
  rcases h with ⟨e,_,_,rfl⟩|⟨y,_,_,_,_,rfl⟩|⟨_,rfl⟩|⟨_,_,_,rfl⟩<;>rfl
 have hd:d<=b-a:=by omega
 have hp:=zQ0 (C:=C) (i:=i) hd;refine⟨by omega,?_⟩;rcases h with ⟨e,he,hr,rfl⟩|⟨y,hy,hr,hs,hn,rfl⟩|⟨lf,rfl⟩|⟨h1,h2,lf,rfl⟩
 ·rw[show iN a (gO ls (a+i) (a+d) e)=gO ls i d e by simp only[iN,gO,Nd.mk.injEq,eq_self,and_true];omega]
  exact aI0 ls pl (by omega) (by omega) he (by rw[hr,hp])
 ·rw[show iN a (iU ls pl (a+i) (a+d) (ptC C (a+i) (a+d)) y.s)=iU ls pl i d (ptC (zM0 C a b) i d) y.s by simp only[iN,iU,Nd.mk.injEq,hp,eq_self,and_true];omega]
  exact xR pl (by omega) (by omega) hy (by rw[hr,hp]) hs (by rw[hp];exact hn)
 ·obtain rfl:d=i+1:=by omega
  rw[show iN a (cJ0 C pl (a+i) (a+(i+1)) 10000)=cJ0 (zM0 C a b) pl i (i+1) 10000 by simp only[iN,cJ0,Nd.mk.injEq,hp,eq_self,and_true];omega]
  exact aU0 (by simp[nQ0])
 ·rw[gR0 hh]at h1
  omega
theorem cL0 {x y:Nd}:cG (iN a x) (iN a y)↔cG x y:=by
 unfold cG iN;simp only;constructor<;>rintro⟨h1,h2,h3⟩<;>exact⟨by omega,by omega,h3⟩
theorem sU0 (x y c:Int):dV (x-c) (y-c)=dV x y:=by
 unfold dV;by_cases h:x<y
 ·rw[if_pos h,if_pos (by omega)]
 ·rw[if_neg h,if_neg (by omega)]
  by_cases h2:y<x
  ·rw[if_pos h2,if_pos (by omega)]
  ·rw[if_neg h2,if_neg (by omega)]
theorem tY0 (x y:Nd):gY (iN a x) (iN a y)=gY x y:=by
 unfold gY oF0 iN;simp only[sU0]
theorem nodes_part (es:List En) (ls:List Lrn) (pl:Int) (hh:∀c∈C,xT0 c=false) (hb:b<=C.length) :
  fS (zM0 C a b) es ls pl=((fS C es ls pl).filter λx=>decide ((a:Int)<=x.f/\x.t<=(b:Int))).map (iN a):=by
 have h:=fC C es ls pl;have hl:=gC0 (a:=a) hb
 have hf:∀ {x:Nd} {k:Nat},k<C.length->x∈tQ C es ls pl k->x.f=k:=λ{x k} hk ho=>by
  obtain⟨j,_,_,q⟩:=iY hk ho;rcases q with ⟨e,_,_,rfl⟩|⟨y,_,_,_,_,rfl⟩|⟨_,rfl⟩|⟨_,_,_,rfl⟩<;>rfl
 refine(fC (zM0 C a b) es ls pl).unique ⟨⟨λy hy=>?_,λy hy=>?_,?_⟩,?_⟩
 ·obtain⟨x,hx,rfl⟩:=List.mem_map.1 hy
  obtain⟨h1,h2⟩:=List.mem_filter.1 hx;have h2:=of_decide_eq_true h2;obtain⟨k,hk,ho⟩:=h.sub x h1
  have:=hf hk ho
  obtain⟨i,rfl⟩:∃i,k=a+i:=⟨k-a,by omega⟩;obtain⟨k1,k2⟩:=nV1 hh hb hk ho h2.2;exact⟨i,by omega,k2⟩
 ·obtain⟨i,hi,ho⟩:=hy
  rw[hl]at hi;obtain⟨x,hx,rfl,k1,k2⟩:=lN1 hh hb hi ho;obtain⟨z,hz,hs,vq⟩:=h.cov x ⟨a+i,by omega,hx⟩;refine⟨iN a z,List.mem_map.2 ⟨z,List.mem_filter.2 ⟨hz,decide_eq_true ⟨by rw[hs.1];exact k1,by rw[hs.2.1];exact k2⟩⟩,rfl⟩,cL0.2 hs,vq⟩
 ·exact List.pairwise_map.2 ((h.one.sublist An).imp λ{x y} hn e=>hn (cL0.1 e))
 ·exact List.pairwise_map.2 ((h.srt.sublist An).imp λ{x y} hn=>by rw[tY0];exact hn)
end
end
section
open Go Go.RowKit
section
variable {n:Nat} {kc:List UInt8} {es:List En} {pl:Int}
theorem pL0 (hk:kc≠[]) {i j:Nat} (hi:i<j) (hj:j<=n):ptC (Aa n kc) i j=mkB kc↔j=i+1:=by
 have hl:bl (ptC (Aa n kc) i j)=(Aa (j-i) kc).flatten:=by
  rw[wG,List.drop_replicate,List.take_replicate,show min (j-i) (n-i)=j-i by omega]
 constructor
 ·intro h
  have h2:=congrArg List.length (hl.symm.trans (congrArg bl h));rw[jC1,List.length_flatten,List.map_replicate,List.sum_replicate_nat]at h2;have h3:0<kc.length:=List.length_pos_iff.2 hk;have h4:(j-i)*kc.length=1*kc.length:=by omega
  have:=Nat.eq_of_mul_eq_mul_right h3 h4
  omega
 ·rintro rfl
  refine yC0 ?_;rw[hl,show i+1-i=1 by omega]
  simp[jC1]
theorem gX0 (hk:kc≠[]) (hh:xT0 kc=false) (hr:∀e∈es,e.r=mkB kc) {i:Nat} (hi:i<n):tQ (Aa n kc) es [] pl i=es.map (gO [] i (i+1))++[cJ0 (Aa n kc) pl i (i+1) 10000]:=by
 have hw:∀d,d<n-i->jR0 (Aa n kc) es [] i (i+1+d)++jP0 (Aa n kc) es [] pl i (i+1+d)=if d=0 then es.map (gO [] i (i+1)) else []:=λd hd=>by
  have hp:=pL0 (n:=n) hk (show i<i+1+d by omega) (by omega)
  unfold jR0 jP0;rw[List.filter_nil,List.map_nil,Aw];by_cases h0:d=0
  ·subst h0
   rw[if_pos rfl,List.filter_eq_self.2 λe he=>decide_eq_true ((hr e he).trans (hp.2 rfl).symm)]
  ·rw[if_neg h0,List.filter_eq_nil_iff.2 λe he h=>h0 (by have:=hp.1 ((of_decide_eq_true h).symm.trans (hr e he));omega)]
   rfl
 unfold tQ nQ0;rw[gR0 (λc hc=>by rw[List.eq_of_mem_replicate hc];exact hh),if_neg (by omega),Ae];obtain⟨m,hm⟩:∃m,n-i=m+1:=⟨n-i-1,by omega⟩;rw[hm,List.range_succ_eq_map,List.flatMap_cons,hw 0 (by omega),if_pos rfl]
 rw[List.flatMap_eq_nil_iff.2 λd hd=>by
  obtain⟨q,hq,rfl⟩:=List.mem_map.1 hd;rw[Ab]at hq;rw[hw (q+1) (by omega),if_neg (by omega)],Aw]
theorem nodes_rep (hk:kc≠[]) (hh:xT0 kc=false) (hr:∀e∈es,e.r=mkB kc) (hs:∀e∈es,e.s≠mkB kc) (hd:es.Pairwise λx y=>¬(x.s=y.s/\x.l=y.l/\x.t=y.t)) :
  (fS (Aa n kc) es [] pl).length=n*(es.length+1):=by
 have h:=fC (Aa n kc) es [] pl
 have y8:(jP1 (Aa n kc) es [] pl).Pairwise λx y=>¬cG x y:=by
  unfold jP1;rw[Ae,List.pairwise_flatMap];refine⟨λi hi=>?_,?_⟩
  ·rw[Ab]at hi
   rw[gX0 hk hh hr hi];refine List.pairwise_append.2 ⟨List.pairwise_map.2 (hd.imp λ{x y} hn e=>hn ⟨e.2.2.1,e.2.2.2.1,e.2.2.2.2⟩),by simp,λx hx y hy e=>?_⟩;obtain⟨z,hz,rfl⟩:=List.mem_map.1 hx;obtain rfl:y=_:=by simpa using hy
   exact hs z hz (e.2.2.1.trans ((pL0 hk (by omega) (by omega)).2 rfl))
  ·refine(List.pairwise_lt_range (n:=n)).imp_of_mem λ{a b} ha hb ic x hx y hy e=>?_
   rw[Ab]at ha hb
   have hf:∀ {i:Nat},i<n->∀ {z:Nd},z∈tQ (Aa n kc) es [] pl i->z.f=i:=λ{i} hi {z} hz=>by
    rw[gX0 hk hh hr hi]at hz;rcases List.mem_append.1 hz with hz|hz
    ·obtain⟨q,_,rfl⟩:=List.mem_map.1 hz
     rfl
    ·obtain rfl:z=_:=by simpa using hz
     rfl
   have h1:=hf ha hx;have h2:=hf hb hy;have h3:=e.1;omega
 have ah:(jP1 (Aa n kc) es [] pl).length=n*(es.length+1):=by
  unfold jP1;rw[Ae,List.length_flatMap]
  have:∀l:List Nat,(∀i∈l,i<n)->(l.map λi=>(tQ (Aa n kc) es [] pl i).length).sum=l.length*(es.length+1):=λl=>by
   induction l with
   | nil=>intro _;simp
   | cons a l ih =>
    intro hl;rw[List.map_cons,List.sum_cons,ih λi hi=>hl i (by simp[hi]),gX0 hk hh hr (hl a (by simp)),List.length_append,Ai,Av,Av,List.length_nil,Nat.add_mul];omega
  rw[this _ λi hi=>List.mem_range.1 hi,List.length_range]
 refine Nat.le_antisymm ?_ ?_
 ·rw[<-ah]
  have:=cM (l:=(fS (Aa n kc) es [] pl)) (l':=jP1 (Aa n kc) es [] pl) (pM1 h.toBests) λx hx=>gN0.2 (h.sub x hx)
  exact this
 ·rw[<-ah]
  exact h.len (λx hx=>gN0.1 hx) y8
end
end
end Go.Proofs.YtaogeadljgjpcaaGreatDoor
