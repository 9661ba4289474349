/- The texts OffP KeyW BonW WrdL WrdP WrdF, one behind the other. -/
import Derived.Test.YthgklnohcmaopaaGreatDoorLq2
import Derived.Test.YthgklnohcmaopaaGreatDoorLq5
import Derived.Test.YthgklnohcmaopaaGreatDoorLq27
import Derived.Test.YthgklnohcmaopaaGreatDoorLq9
import Derived.DeepKeys4
import Derived.Maps.RangeWalk
import Derived.Maps.Views
import Derived.Test.YthgklnohcmaopaaGreatDoorLq11
import Derived.Test.YthgklnohcmaopaaGreatDoorLq20
import Derived.Maps.Own
import Derived.Carry
import Derived.Maps.AppendAt
open List renaming replicate → Aa,mem_range → Ab,mem_append_left → Ac,length_replicate → Ad,length_drop → Ae,length_map → Ah,mem_append_right → Ai,foldl_append → An,mem_flatMap → Ap,length_cons → Aq,foldl_cons → Ar,append_nil → As,range → Av
open Nat renaming add_sub_cancel_left → Af,lt_of_lt_of_le → Al
open Bool renaming and_eq_true → Ag,not_eq_true' → Am,true_and → At
open Go.Lib renaming validD → Aj,hid → Ao
open Go.World renaming drew → Ak
open Int renaming le_refl → Au
set_option maxHeartbeats 4000000
namespace Go.Proofs.YthgklnohcmaopaaGreatDoor
set_option maxRecDepth 100000
section
open Go Go.RowKit
structure Lrn where
 r:ByteArray
 s:ByteArray
 b:Int
def eK (ls:List Lrn) (r s:ByteArray):Int:=ls.foldl (λn x=>if x.r=r/\x.s=s then max n (min x.b 30000) else n) 0
def ptC (C:List (List UInt8)) (i j:Nat):ByteArray:=mkB ((C.drop i).take (j-i)).flatten
def nX1 (c:List UInt8):Bool := !kA ((Lib.decodeL c).1:Int)
def yR (C:List (List UInt8)) (i:Nat):Bool:=(C[i]?.map nX1).getD false
def cN1 (C:List (List UInt8)) (i:Nat):Nat:=i+((C.drop i).takeWhile nX1).length
def kI1 (es:List En) (r s:ByteArray):Bool:=es.any λx=>decide (x.r=r/\x.s=s)
def jX (ls:List Lrn) (i j:Nat) (x:En):Nd:=⟨i,j,x.s,x.l,x.t,max 0 (x.c-eK ls x.r x.s),1⟩
def nD (ls:List Lrn) (pl:Int) (i j:Nat) (r s:ByteArray):Nd:=⟨i,j,s,pl,pl,max 0 (8000-eK ls r s),2⟩
def xE0 (C:List (List UInt8)) (pl:Int) (i j:Nat) (c:Int):Nd:=⟨i,j,ptC C i j,pl,pl,c,3⟩
def kK0 (C:List (List UInt8)) (es:List En) (ls:List Lrn) (i j:Nat):List Nd:=(es.filter λx=>decide (x.r=ptC C i j)).map (jX ls i j)
def lL0 (C:List (List UInt8)) (es:List En) (ls:List Lrn) (pl:Int) (i j:Nat):List Nd:=(ls.filter λx=>decide (x.r=ptC C i j)&&(surfaceS x.s && !kI1 es (ptC C i j) x.s)).map λx=>nD ls pl i j (ptC C i j) x.s
def wQ0 (C:List (List UInt8)) (pl:Int) (i:Nat):List Nd:=xE0 C pl i (i+1) 10000::if i+1<cN1 C i/\(i=0\/yR C (i-1)=false) then [xE0 C pl i (cN1 C i) 9000] else []
def cV0 (C:List (List UInt8)) (es:List En) (ls:List Lrn) (pl:Int) (i:Nat):List Nd:=((Av (C.length-i)).flatMap λd=>kK0 C es ls i (i+1+d)++lL0 C es ls pl i (i+1+d))++wQ0 C pl i
def kH1 (C:List (List UInt8)) (es:List En) (ls:List Lrn) (pl:Int):List Nd:=(Av C.length).flatMap (cV0 C es ls pl)
def fP (C:List (List UInt8)) (es:List En) (ls:List Lrn) (pl:Int):List Nd:=xF0 [] (kH1 C es ls pl)
theorem jT1 (l:List UInt8):bl (mkB l)=l:=rfl
theorem bH0 (C:List (List UInt8)) (i j:Nat):bl (ptC C i j)=((C.drop i).take (j-i)).flatten:=rfl
theorem lL1 (C:List (List UInt8)) (i:Nat):bl (ptC C i C.length)=(C.drop i).flatten:=by
 rw[bH0,List.take_of_length_le (by rw[Ae];omega)]
theorem eZ1 {s p:ByteArray}:lF0 s p=true↔bl p <+: bl s:=by
 unfold lF0;exact List.isPrefixOf_iff_prefix
theorem uZ {C:List (List UInt8)} (hC:fJ C) {i j:Nat} (hj:j<=C.length):(bD (bl (ptC C i j))).length=j-i/\Aj (bl (ptC C i j))=true:=by
 have h:=dY ((hC.drop i).take (j-i));rw[bH0,h.2];refine⟨?_,h.1⟩;unfold rS;rw[Ah,List.length_take,Ae];omega
theorem pK0 {C:List (List UInt8)} (hC:fJ C) {i j:Nat} (hi:i<j) (hj:j<=C.length):(ptC C i j).size≠0:=by
 intro h0;have h:=(uZ hC (i:=i) hj).1
 have:=jH (bl (ptC C i j))
 rw[dO]at this;omega
theorem yN {C:List (List UInt8)} (hC:fJ C) {i:Nat} {r:ByteArray} (hr:Aj (bl r)=true) (aj:r.size≠0) :
  lF0 (ptC C i C.length) r=true↔i<i+(bD (bl r)).length/\i+(bD (bl r)).length<=C.length/\r=ptC C i (i+(bD (bl r)).length):=by
 obtain⟨R,hR,hf⟩:=gC.1 hr
 have ah:(bD (bl r)).length=R.length:=by
  rw[<-hf,(dY hR).2];unfold rS;rw[Ah]
 have vm:R≠[]:=λe=>by
  rw[e]at hf
  have:=dO r
  rw[<-hf]at this;exact aj this.symm
 have hR1:1<=R.length:=List.length_pos_iff.2 vm;rw[eZ1,lL1,<-hf,lO hR (hC.drop i),hf,ah];constructor
 ·intro h
  have h1:=h.length_le;rw[Ae]at h1;refine⟨by omega,by omega,rM0 ?_⟩;rw[bH0,Af,<-hf,<-List.prefix_iff_eq_take.1 h]
 ·rintro⟨h1,h2,h3⟩
  have h4:bl r=_:=congrArg bl h3;rw[bH0,Af,<-hf]at h4;have h5:=aJ1 hR ((hC.drop i).take _) h4;rw[h5];exact List.take_prefix _ _
def sO0 (C:List (List UInt8)) (es:List En) (ls:List Lrn) (pl:Int) (i:Nat) (x:Nd):Prop :=
 (∃e∈es,lF0 (ptC C i C.length) e.r=true/\x=jX ls i (i+(bD (bl e.r)).length) e) \/
 (∃y∈ls,y.r.size≠0/\lF0 (ptC C i C.length) y.r=true/\Aj (bl y.r)=true/\surfaceS y.s=true/\kI1 es y.r y.s=false/\x=nD ls pl i (i+(bD (bl y.r)).length) y.r y.s)\/x∈wQ0 C pl i
theorem eQ1 {C:List (List UInt8)} (hC:fJ C) {es:List En} (hE:∀e∈es,Aj (bl e.r)=true/\e.r.size≠0) (ls:List Lrn) (pl:Int) (i:Nat) (x:Nd):sO0 C es ls pl i x↔x∈cV0 C es ls pl i:=by
 unfold sO0 cV0 kK0 lL0;simp only[List.mem_append,Ap,Ab,List.mem_map,List.mem_filter,decide_eq_true_eq,Ag,Am];constructor
 ·rintro(⟨e,he,hb,rfl⟩|⟨y,hy,h0,hb,hv,hs,hn,rfl⟩|h)
  ·obtain⟨h1,h2,h3⟩:=(yN hC (hE e he).1 (hE e he).2).1 hb
   refine Or.inl ⟨(bD (bl e.r)).length-1,by omega,Or.inl ⟨e,⟨he,?_⟩,?_⟩⟩
   ·rw[show i+1+((bD (bl e.r)).length-1)=i+(bD (bl e.r)).length by omega]
    exact h3
   ·rw[show i+1+((bD (bl e.r)).length-1)=i+(bD (bl e.r)).length by omega]
  ·obtain⟨h1,h2,h3⟩:=(yN hC hv h0).1 hb
   refine Or.inl ⟨(bD (bl y.r)).length-1,by omega,Or.inr ⟨y,?_⟩⟩;rw[show i+1+((bD (bl y.r)).length-1)=i+(bD (bl y.r)).length by omega,<-h3]
   exact⟨⟨hy,rfl,hs,hn⟩,rfl⟩
  ·exact Or.inr h
 ·rintro(⟨d,hd,⟨e,⟨he,hr⟩,rfl⟩|⟨y,⟨hy,hr,hs,hn⟩,rfl⟩⟩|h)
  ·have h1:=(uZ hC (i:=i) (j:=i+1+d) (by omega)).1
   rw[<-hr]at h1;have h2:i+(bD (bl e.r)).length=i+1+d:=by omega
   refine Or.inl ⟨e,he,(yN hC (hE e he).1 (hE e he).2).2 ?_,by rw[h2]⟩;rw[h2];exact⟨by omega,by omega,hr⟩
  ·have h1:=uZ hC (i:=i) (j:=i+1+d) (by omega)
   have h0:=pK0 hC (show i<i+1+d by omega) (by omega)
   rw[<-hr]at h1 h0 hn ⊢;have h2:i+(bD (bl y.r)).length=i+1+d:=by omega
   refine Or.inr (Or.inl ⟨y,hy,h0,(yN hC h1.2 h0).2 ?_,h1.2,hs,hn,by rw[h2]⟩);rw[h2];exact⟨by omega,by omega,hr⟩
  ·exact Or.inr (Or.inr h)
theorem gK0 {C:List (List UInt8)} {es:List En} {ls:List Lrn} {pl:Int} {x:Nd}:x∈kH1 C es ls pl↔∃i,i<C.length/\x∈cV0 C es ls pl i:=by
 unfold kH1;simp[Ap]
theorem lA (C:List (List UInt8)) (es:List En) (ls:List Lrn) (pl:Int):iN (λx=>∃i,i<C.length/\x∈cV0 C es ls pl i) (fP C es ls pl):=(kL0 _).congr λ_=>gK0
theorem oJ (ls:List Lrn) (r s:ByteArray):0<=eK ls r s/\eK ls r s<=30000:=by
 unfold eK
 have:∀(l:List Lrn) (n:Int),0<=n->n<=30000->0<=l.foldl (λn x=>if x.r=r/\x.s=s then max n (min x.b 30000) else n) n/\l.foldl (λn x=>if x.r=r/\x.s=s then max n (min x.b 30000) else n) n<=30000:=λl=>by
  induction l with
  | nil=>intro n h1 h2;exact⟨h1,h2⟩
  | cons x l ih =>
   intro n h1 h2;rw[Ar];split
   ·exact ih _ (by omega) (by omega)
   ·exact ih _ h1 h2
 exact this ls 0 (by omega) (by omega)
end
section
open Go Go.RowKit
def wA0 (r s:ByteArray):Value := .agg #[.string r,.string s]
def klW (r s:ByteArray):Lit := .string (keyBytes [.string r.data.toList,.string s.data.toList])
theorem kA0:Go.Maps.Keyed Tryz.prog 87:=Go.Maps.Keyed.of_law (deep_law_laid yX (m:=3) (by decide) (of_decide_eq_true (by kernel_rfl)) (by kernel_rfl) (by kernel_rfl))
theorem pV1 {r s:ByteArray} (h1:r.size<=maxLen) (h2:s.size<=maxLen):Go.keyOf Tryz.prog 87 (wA0 r s)=some (klW r s):=by
 obtain⟨m,hm⟩:∃m,Tryz.prog.types.size=m+1:=⟨Tryz.prog.types.size-1,by have:0<Tryz.prog.types.size:=of_decide_eq_true (by kernel_rfl);omega⟩
 have hS:∀(s:ByteArray),s.size<=maxLen->Tryz.prog.keyLits (m+1) 9 [.string s]=some [.string s.data.toList]:=λs hs=>by
  unfold Program.keyLits;simp only[Tryz.underlying9,if_pos hs]
 have hk:Tryz.prog.keyType 87=true:=by kernel_rfl
 have hc:Tryz.prog.cellsOf 87=2:=by kernel_rfl
 have cj:Tryz.prog.cellsOf 9=1:=by kernel_rfl
 have g1:=hS r h1;have g2:=hS s h2;unfold Go.keyOf;simp only[Tryz.underlying87,hk,At];unfold Value.formed wA0;simp only[Tryz.underlying87,hc];have hz:((#[Value.string r,.string s]:Array Value).size==2)=true:=rfl;rw[if_pos hz,hm];unfold Program.keyLits;simp only[Tryz.underlying87,hc,Value.cells];simp[cj,g1,g2,klW]
theorem pD0 {r s r' s':ByteArray} (h1:r.size<=maxLen) (h2:s.size<=maxLen) (h3:r'.size<=maxLen) (h4:s'.size<=maxLen) (h:klW r s=klW r' s'):r=r'/\s=s':=by
 have k1:=pV1 h1 h2;have k2:=pV1 h3 h4;rw[h]at k1
 have:=kA0.inj k1 k2
 simpa [wA0] using this
theorem rB0 {key:Value} {kl:Lit} (h:Go.keyOf Tryz.prog 87 key=some kl):∃r s:ByteArray,r.size<=maxLen/\s.size<=maxLen/\key=wA0 r s/\kl=klW r s:=by
 obtain⟨m,hm⟩:∃m,Tryz.prog.types.size=m+1:=⟨Tryz.prog.types.size-1,by have:0<Tryz.prog.types.size:=of_decide_eq_true (by kernel_rfl);omega⟩
 have hS:∀(v:Value) (ls:List Lit),Tryz.prog.keyLits (m+1) 9 [v]=some ls->∃s:ByteArray,v=.string s/\s.size<=maxLen/\ls=[.string s.data.toList]:=λv ls h=>by
  unfold Program.keyLits at h;simp only[Tryz.underlying9]at h;cases v<;>simp at h
  rename_i s
  exact⟨s,rfl,h.1,h.2.symm⟩
 have hk:Tryz.prog.keyType 87=true:=by kernel_rfl
 have hc:Tryz.prog.cellsOf 87=2:=by kernel_rfl
 have cj:Tryz.prog.cellsOf 9=1:=by kernel_rfl
 unfold Go.keyOf at h;simp only[Tryz.underlying87,hk,At]at h;split at h
 ·rename_i hf
  rw[hm]at h
  obtain⟨cs,rfl,de⟩:∃cs,key=.agg cs/\cs.size=2:=by
   unfold Value.formed at hf;cases key<;>simp[Tryz.underlying87,hc]at hf
   exact⟨_,rfl,hf⟩
  obtain⟨l⟩:=cs
  match l,de with
  | [c0,c1],_ =>
   rw[jL Tryz.underlying87]at h;simp only[Value.cells]at h;simp[cj,hc,Option.bind_eq_some_iff,List.mapM_cons]at h;obtain⟨l0,g0,ls,⟨l1,g1,rfl⟩,rfl⟩:=h;obtain⟨s0,rfl,z0,rfl⟩:=hS _ _ g0;obtain⟨s1,rfl,z1,rfl⟩:=hS _ _ g1;exact⟨s0,s1,z0,z1,rfl,by simp[klW]⟩
 ·cases h
theorem cL1 (r s:ByteArray):WideAt.IsKeyLit (klW r s):=by simp[klW,WideAt.IsKeyLit]
theorem eV1 (r s:ByteArray):(klW r s).sameKey (klW r s)=true:=by simp[klW,Lit.sameKey]
structure vG (x:Lrn):Prop where
 r:x.r.size<=maxLen
 s:x.s.size<=maxLen
 b:WfI x.b
section
variable {H:Type}
structure nV1 (ls:List Lrn) (D:DataW H):Prop where
 map:Maps.IsMap D
 has:∀r s:ByteArray,r.size<=maxLen->s.size<=maxLen->(Maps.has D (klW r s)=true↔∃x∈ls,x.r=r/\x.s=s)
 at_:∀r s:ByteArray,r.size<=maxLen->s.size<=maxLen->D.atKey (klW r s) (.lit (.int .i64 0))=.lit (.int .i64 (eK ls r s))
theorem eC1:nV1 (H:=H) [] (.map []):=⟨Maps.isMap_empty,λr s _ _=>⟨λh=>(by cases h),λ⟨x,h,_⟩=>(by cases h)⟩,λr s _ _=>rfl⟩
theorem nV1.store {ls:List Lrn} {D:DataW H} (h:nV1 ls D) {x:Lrn} (hx:vG x):nV1 (ls++[x]) (D.put (klW x.r x.s) (.lit (.int .i64 (max (eK ls x.r x.s) (min x.b 30000))))):=by
 have aee:∀r s,eK (ls++[x]) r s=if x.r=r/\x.s=s then max (eK ls r s) (min x.b 30000) else eK ls r s:=λr s=>by
  unfold eK;rw[An];rfl
 refine⟨h.map.put _ _,λr s hr hs=>?_,λr s hr hs=>?_⟩
 ·by_cases e:x.r=r/\x.s=s
  ·obtain⟨rfl,rfl⟩:=e
   exact⟨λ_=>⟨x,by simp,rfl,rfl⟩,λ_=>Maps.has_put_same h.map (cL1 _ _) _⟩
  ·have aj:klW r s≠klW x.r x.s:=λe2=>e (let ⟨a,b⟩:=pD0 hr hs hx.r hx.s e2;⟨a.symm,b.symm⟩)
   rw[Maps.has_put_other aj,h.has r s hr hs];constructor
   ·rintro⟨y,hy,k⟩
    exact⟨y,by simp[hy],k⟩
   ·rintro⟨y,hy,k⟩
    rcases List.mem_append.1 hy with hy|hy
    ·exact⟨y,hy,k⟩
    ·obtain rfl:y=x:=by simpa using hy
     exact absurd k e
 ·rw[aee]
  by_cases e:x.r=r/\x.s=s
  ·rw[if_pos e]
   obtain⟨rfl,rfl⟩:=e;exact Maps.atKey_put_same h.map (cL1 _ _) _ _
  ·have aj:klW r s≠klW x.r x.s:=λe2=>e (let ⟨a,b⟩:=pD0 hr hs hx.r hx.s e2;⟨a.symm,b.symm⟩)
   rw[if_neg e,Maps.atKey_put_other aj];exact h.at_ r s hr hs
end
end
section
open Go Go.RowKit
attribute [local go_sem] aM
def cU (x:Lrn):List Value:=[.string x.r,.string x.s,.int .i64 x.b]
theorem oK1 (w:World):(zeroValue 3).run Tryz.prog w=.ok (.int .i64 0) w:=by kernel_rfl
def tB (w:World) (mb N:Nat) (ls:List Lrn):Prop:=∃D:DataW Unit,w.ownsMap Tryz.prog 87 (plainElem Tryz.prog 3) mb N D/\nV1 ls D
theorem tB.grows {w w':World} {mb N:Nat} {ls:List Lrn} (h:tB w mb N ls) (hg:aB w w'):tB w' mb N ls:=let ⟨D,h1,h2⟩:=h; ⟨D,aJ h1 hg,h2⟩
theorem tB.lt {w:World} {mb N:Nat} {ls:List Lrn} (h:tB w mb N ls):mb<w.heap.size:=let ⟨_,h1,_⟩:=h; h1.lt
theorem tB.kept {w w':World} {mb N b:Nat} {ls:List Lrn} (h:tB w mb N ls) (hg:w.grownBy w' (some b)) (aj:mb≠b):tB w' mb N ls:=let ⟨D,h1,h2⟩:=h; ⟨D,h1.kept hg (λe=>aj (Option.some.inj e)),h2⟩
theorem tB.look {w:World} {mb N:Nat} {ls:List Lrn} (h:tB w mb N ls) {r s:ByteArray} (hr:r.size<=maxLen) (hs:s.size<=maxLen) :
  (Instr.lookup 79 (.map (some mb)) (wA0 r s) false).run Tryz.prog w=.ok (.int .i64 (eK ls r s)) w:=by
 obtain⟨D,h1,h2⟩:=h;obtain⟨c,ix,ac,_⟩:=h1.lookup_int kA0 Tryz.underlying79 Tryz.underlying3 (oK1 w) (pV1 hr hs);rw[h2.at_ r s hr hs]at ac
 have:c=eK ls r s:=by simpa using ac.symm
 rw[ix,this]
theorem yJ0 {x:Int} (h:WfI x):WfI (min x 30000):=by
 by_cases h0:x<=30000
 ·rw[show min x 30000=x by omega];exact h
 ·rw[show min x 30000=30000 by omega];unfold WfI;decide
theorem zK0 {ls:List Lrn} (h:∀x∈ls,vG x) (r s:ByteArray):WfI (eK ls r s):=by
 unfold eK
 have H:∀(l:List Lrn) (n:Int),(∀x∈l,vG x)->WfI n->WfI (l.foldl (λn x=>if x.r=r/\x.s=s then max n (min x.b 30000) else n) n):=by
  intro l
  induction l with
  | nil=>intro n _ hn;exact hn
  | cons x l ih =>
   intro n hx hn;rw[Ar];refine ih _ (λy hy=>hx y (by simp[hy])) ?_;split
   ·by_cases h0:n<=min x.b 30000
    ·rw[show max n (min x.b 30000)=min x.b 30000 by omega];exact yJ0 (hx x (by simp)).b
    ·rw[show max n (min x.b 30000)=n by omega];exact hn
   ·exact hn
 exact H ls 0 h (by unfold WfI;decide)
theorem oT1 {a b:Int} (ha:WfI a) (hb:WfI b):WfI (max a b):=by
 by_cases h0:a<=b
 ·rw[show max a b=b by omega];exact hb
 ·rw[show max a b=a by omega];exact ha
theorem pJ0 (l:List Lrn) (a:Option Addr) (c:Nat) (w:World) (hl:l.length<=1048576) (ag:∀x∈l,vG x) (ac:aG w a 3 (l.map cU)) :
  Calls Tryz.prog 29 #[.slice a l.length c] w λe w'=>e=.returned (.map (some w.heap.size))/\tB w' w.heap.size l.length l/\aB w w':=by
 have bj:∀k x,l[k]?=some x->∃b o,a=some ⟨b,o,none⟩/\w.cell? ⟨b,o+k*3,none⟩=some (.string x.r)/\w.cell? ⟨b,o+k*3+1,none⟩=some (.string x.s)/\w.cell? ⟨b,o+k*3+2,none⟩=some (.int .i64 x.b):=by
  intro k x hx;have aj:l≠[]:=by rintro rfl;simp at hx
  obtain⟨b,o,ha,hc⟩:=ac.get aj;exact⟨b,o,ha,hc k x hx 0 _ rfl,hc k x hx 1 _ rfl,hc k x hx 2 _ rfl⟩
 have HC:=Ao bj;have HOK:=Ao ag;clear bj ac ag;have s8:=@run_makeMap Tryz.prog;go_enter Tryz.func29,Tryz.ntmps29
 go_wp2_with fail
 have jd:=World.ownsMap_made w Tryz.prog 87 (plainElem (H:=Unit) Tryz.prog 3);have ck:aB w (w.alloc (.map #[] 0)):=aB.alloc _ _;have hbw:w.heap.size<(w.alloc (.map #[] 0)).heap.size:=by simp
 obtain⟨mb,jo⟩:=exq w.heap.size;generalize w.alloc (.map #[] 0)=w1 at jd ck hbw ⊢;rw[<-jo]at jd hbw ⊢;have HMB:=Ao jo;clear jo s8;go_loopw [10] (λi wr=>∃k:Nat,k<=l.length/\i=.int .i64 k/\Hid (tB wr mb k (l.take k))/\mb<wr.heap.size/\aB w wr) (λi _=>l.length-(intOf i).toNat)
 case atStart=>exact⟨0,Nat.zero_le _,rfl,⟨_,jd,eC1⟩,hbw,ck⟩
 case round =>
  obtain⟨k,hk,rfl,hB,abp,hg⟩:=hrel;by_cases ae:k<l.length
  ·obtain⟨⟨xr,xs,xb⟩,hx⟩:∃x,l[k]?=some x:=⟨_,List.getElem?_eq_getElem ae⟩
   obtain⟨b,o,rfl,d0,d1,d2⟩:=HC.out k _ hx;have c0:=hg.cell d0;have c1:=hg.cell d1;have c2:=hg.cell d2;have HX:=Ao (HOK.out _ (List.mem_of_getElem? hx));have HTK:Hid (l.take (k+1)=l.take k++[⟨xr,xs,xb⟩]):=bM hx;have HWF:=Ao (zK0 (λy hy=>HOK.out y (List.mem_of_mem_take (i:=k) hy)) xr xs);have cn:(k:Int)<l.length:=by omega
   simp only at c0 c1 c2;clear hx d0 d1 d2;go_wp2_with fail
   have nj:=((aB.alloc wr (.cells #[.string xr,.string xs,.int .i64 xb] 45)).al (.cells #[.string xr,.string xs] 87)).dr;have y0:(Ak ((wr.alloc (.cells #[.string xr,.string xs,.int .i64 xb] 45)).alloc (.cells #[.string xr,.string xs] 87))).cell? ⟨wr.heap.size,2,none⟩=some (.int .i64 xb):=((aB.alloc _ _).dr).cell (aT wr _ _ (0,0) 2 _ rfl);have z0:(Ak ((wr.alloc (.cells #[.string xr,.string xs,.int .i64 xb] 45)).alloc (.cells #[.string xr,.string xs] 87))).cell? ⟨wr.heap.size+1,0,none⟩=some (.string xr):=(aB.drew _).cell (by simp);have z1:(Ak ((wr.alloc (.cells #[.string xr,.string xs,.int .i64 xb] 45)).alloc (.cells #[.string xr,.string xs] 87))).cell? ⟨wr.heap.size+1,1,none⟩=some (.string xs):=(aB.drew _).cell (by simp);refine lC 9 (bB 9 []) (by kernel_rfl) (λd _ _ _ _ h=>by cases d<;>exact h) ?_
   obtain⟨WA,hWA⟩:=exq (Ak ((wr.alloc (.cells #[.string xr,.string xs,.int .i64 xb] 45)).alloc (.cells #[.string xr,.string xs] 87)));rw[<-hWA]at nj y0 z0 z1 ⊢;have ql:∀x:Ext aB WA,(Instr.lookup 79 (.map (some mb)) (.agg #[.string xr,.string xs]) false).run Tryz.prog x.u=.ok (.int .i64 (eK (l.take k) xr xs)) x.u:=λx=>(hB.out.grows (nj.tr x.h)).look HX.out.r HX.out.s;have qy:∀x:Ext aB WA,x.u.cell? ⟨wr.heap.size,2,none⟩=some (.int .i64 xb):=λx=>x.h.cell y0;have qz0:∀x:Ext aB WA,x.u.cell? ⟨wr.heap.size+1,0,none⟩=some (.string xr):=λx=>x.h.cell z0;have qz1:∀x:Ext aB WA,x.u.cell? ⟨wr.heap.size+1,1,none⟩=some (.string xs):=λx=>x.h.cell z1;iterate 9 (refine aH rfl (λK hK=>?_);go_simp;refine hK _ ?_;clear hK K)
   refine cB ?_;simp only[List.drop_succ_cons,List.drop_zero];obtain⟨D,aa,hM⟩:=hB.out;have ai:=aJ aa nj;have hmW:Hid (mb<WA.heap.size):=Al abp nj.size;have gk:=hg.tr nj;have HM2:=Ao (hM.store HX.out);have er:Go.keyOf Tryz.prog 87 (.agg #[.string xr,.string xs])=some (klW xr xs):=pV1 HX.out.r HX.out.s;have hwf:WfI (max (eK (l.take k) xr xs) (min xb 30000)):=oT1 HWF.out (yJ0 HX.out.b);have hkm:k<maxLen:=by unfold maxLen;omega
   obtain⟨mx,hmx⟩:=exq (max (eK (l.take k) xr xs) (min xb 30000));rw[<-hmx]at hwf HM2 ⊢;clear ql qy qz0 qz1 y0 z0 z1 hM aa hmx hWA c0 c1 c2 hB;go_wp2_with (at_mapUpdate;refine wpList_mapUpdate_own _ rfl _ _ _ 79 rfl 87 3 kA0 Tryz.underlying79 _ mb k D rfl ai hkm _ _ (klW xr xs) rfl rfl er _ [] (plainElem_int Tryz.underlying3 hwf) ?_;intro w3 au fy)
   have ju:Hid (tB w3 mb (k+1) (l.take (k+1))):=⟨_,au,by rw[HTK.out];exact HM2.out⟩;go_roundw
   case rel=>exact⟨k+1,ae,by go_num,ju,Al hmW.out fy.size,gk.grown fy (λq hq=>by cases hq;exact Nat.le_of_eq HMB.out.symm)⟩
   case measure=>simp[intOf];omega
  ·obtain rfl:k=l.length:=by omega
   have cn:¬((l.length:Nat):Int)<l.length:=by omega
   rw[List.take_length]at hB;go_wp2_with fail
   go_ret;exact⟨by rw[HMB.out];rfl,by rw[<-HMB.out];exact hB.out,hg⟩
end
section
open Go Go.RowKit
theorem kV1 {C:List (List UInt8)} {i:Nat} (hi:i<=C.length):cN1 C i<=C.length:=by
 unfold cN1
 have:=(List.takeWhile_prefix nX1 (l:=C.drop i)).length_le
 rw[Ae]at this;omega
theorem qT {C:List (List UInt8)} {es:List En} {ls:List Lrn} {pl:Int} {i:Nat} (hi:i<C.length) {x:Nd} (h:x∈cV0 C es ls pl i) :
  ∃j,i<j/\j<=C.length/\((∃e∈es,e.r=ptC C i j/\x=jX ls i j e)\/(∃y∈ls,y.r=ptC C i j/\surfaceS y.s=true/\kI1 es (ptC C i j) y.s=false/\x=nD ls pl i j (ptC C i j) y.s) \/
   (j=i+1/\x=xE0 C pl i j 10000)\/(i+1<cN1 C i/\(i=0\/yR C (i-1)=false)/\j=cN1 C i/\x=xE0 C pl i j 9000)):=by
 unfold cV0 at h;rcases List.mem_append.1 h with h|h
 ·obtain⟨d,hd,h⟩:=List.mem_flatMap.1 h
  rw[Ab]at hd;refine⟨i+1+d,by omega,by omega,?_⟩;rcases List.mem_append.1 h with h|h
  ·unfold kK0 at h
   obtain⟨e,he,rfl⟩:=List.mem_map.1 h;obtain⟨h1,h2⟩:=List.mem_filter.1 he;exact Or.inl ⟨e,h1,of_decide_eq_true h2,rfl⟩
  ·unfold lL0 at h
   obtain⟨y,hy,rfl⟩:=List.mem_map.1 h;obtain⟨h1,h2⟩:=List.mem_filter.1 hy;simp only[Ag,decide_eq_true_eq,Am]at h2;exact Or.inr (Or.inl ⟨y,h1,h2.1,h2.2.1,h2.2.2,rfl⟩)
 ·unfold wQ0 at h
  rcases List.mem_cons.1 h with rfl|h
  ·exact⟨i+1,by omega,hi,Or.inr (Or.inr (Or.inl ⟨rfl,rfl⟩))⟩
  ·split at h
   ·rename_i hc
    obtain rfl:x=_:=by simpa using h
    exact⟨cN1 C i,by omega,kV1 (Nat.le_of_lt hi),Or.inr (Or.inr (Or.inr ⟨hc.1,hc.2,rfl,rfl⟩))⟩
   ·cases h
theorem xQ0 {C:List (List UInt8)} {es:List En} (ls:List Lrn) (pl:Int) {i j:Nat} (hi:i<j) (hj:j<=C.length) {e:En} (he:e∈es) (hr:e.r=ptC C i j):jX ls i j e∈cV0 C es ls pl i:=by
 unfold cV0;refine Ac _ (List.mem_flatMap.2 ⟨j-i-1,by rw[Ab];omega,Ac _ ?_⟩);rw[show i+1+(j-i-1)=j by omega]
 exact List.mem_map.2 ⟨e,List.mem_filter.2 ⟨he,decide_eq_true hr⟩,rfl⟩
theorem pR0 {C:List (List UInt8)} {es:List En} {ls:List Lrn} (pl:Int) {i j:Nat} (hi:i<j) (hj:j<=C.length) {y:Lrn} (hy:y∈ls) (hr:y.r=ptC C i j) (hs:surfaceS y.s=true) (hn:kI1 es (ptC C i j) y.s=false) :
  nD ls pl i j (ptC C i j) y.s∈cV0 C es ls pl i:=by
 unfold cV0;refine Ac _ (List.mem_flatMap.2 ⟨j-i-1,by rw[Ab];omega,Ai _ ?_⟩);rw[show i+1+(j-i-1)=j by omega]
 exact List.mem_map.2 ⟨y,List.mem_filter.2 ⟨hy,by simp[hr,hs,hn]⟩,rfl⟩
theorem rP0 {C:List (List UInt8)} {es:List En} {ls:List Lrn} {pl:Int} {i:Nat} {x:Nd} (h:x∈wQ0 C pl i):x∈cV0 C es ls pl i:=by
 unfold cV0;exact Ai _ h
theorem eN0 {s:ByteArray} (h:surfaceS s=true):s.size≠0:=by
 rw[uX0]at h;simp only[Ag,decide_eq_true_eq]at h
 have:=jH s.data.toList
 have h2:s.data.toList.length=s.size:=dO s;omega
theorem hP1 {C:List (List UInt8)} (hC:fJ C) {es:List En} {n:Int} (hE:∀e∈es,e.s.size≠0/\0<=e.l/\e.l<n/\0<=e.t/\e.t<n/\0<=e.c/\e.c<=30000) (ls:List Lrn) {pl:Int} (hp:0<=pl/\pl<n) {x:Nd} (hx:x∈fP C es ls pl) :
  0<=x.f/\x.f<x.t/\x.t<=C.length/\0<=x.c/\x.c<=30000/\x.s.size≠0/\0<=x.l/\x.l<n/\0<=x.r/\x.r<n/\1<=x.k/\x.k<=3:=by
 obtain⟨i,hi,ho⟩:=(lA C es ls pl).sub x hx;obtain⟨j,kw,hj,h⟩:=qT hi ho;rcases h with ⟨e,he,hr,rfl⟩|⟨y,hy,hr,hs,hn,rfl⟩|⟨rfl,rfl⟩|⟨hr,_,rfl,rfl⟩
 ·obtain⟨h1,h2,h3,h4,h5,h6,h7⟩:=hE e he
  have hb:=oJ ls e.r e.s;refine⟨?_,?_,?_,?_,?_,h1,h2,h3,h4,h5,?_,?_⟩<;>simp only[jX]<;>omega
 ·have hb:=oJ ls (ptC C i j) y.s
  refine⟨?_,?_,?_,?_,?_,eN0 hs,hp.1,hp.2,hp.1,hp.2,?_,?_⟩<;>simp only[nD]<;>omega
 ·refine⟨?_,?_,?_,?_,?_,pK0 hC kw hj,hp.1,hp.2,hp.1,hp.2,?_,?_⟩<;>simp only[xE0]<;>omega
 ·refine⟨?_,?_,?_,?_,?_,pK0 hC kw hj,hp.1,hp.2,hp.1,hp.2,?_,?_⟩<;>simp only[xE0]<;>omega
theorem mF (ls:List Lrn) (m:Lrn) (r s:ByteArray):eK (ls++[m]) r s=if m.r=r/\m.s=s then max (eK ls r s) (min m.b 30000) else eK ls r s:=by
 unfold eK;rw[An];rfl
theorem qE0 (ls:List Lrn) (m:Lrn) (r s:ByteArray):eK ls r s<=eK (ls++[m]) r s:=by
 rw[mF];split<;>omega
theorem fP1 {C:List (List UInt8)} {es:List En} {ls:List Lrn} {pl:Int} (m:Lrn) {i:Nat} (hi:i<C.length) {x:Nd} (h:x∈cV0 C es ls pl i) :
  ∃y∈cV0 C es (ls++[m]) pl i,cK y x/\y.k=x.k/\y.c<=x.c/\(y=x\/∃j:Nat,x.t=j/\ptC C i j=m.r/\x.s=m.s):=by
 obtain⟨j,kw,hj,h⟩:=qT hi h;rcases h with ⟨e,he,hr,rfl⟩|⟨y,hy,hr,hs,hn,rfl⟩|⟨rfl,rfl⟩|⟨h1,h2,rfl,rfl⟩
 ·refine⟨_,xQ0 (ls++[m]) pl kw hj he hr,cK.refl _,rfl,?_,?_⟩
  ·have:=qE0 ls m e.r e.s
   simp only[jX];omega
  ·by_cases hm:m.r=e.r/\m.s=e.s
   ·exact Or.inr ⟨j,rfl,by rw[<-hr,hm.1],hm.2.symm⟩
   ·refine Or.inl ?_
    unfold jX;rw[mF,if_neg hm]
 ·refine⟨_,pR0 (ls:=ls++[m]) pl kw hj (Ac _ hy) hr hs hn,cK.refl _,rfl,?_,?_⟩
  ·have:=qE0 ls m (ptC C i j) y.s
   simp only[nD];omega
  ·by_cases hm:m.r=ptC C i j/\m.s=y.s
   ·exact Or.inr ⟨j,rfl,hm.1.symm,hm.2.symm⟩
   ·refine Or.inl ?_
    unfold nD;rw[mF,if_neg hm]
 ·exact⟨_,rP0 (by simp[wQ0]),cK.refl _,rfl,Au _,Or.inl rfl⟩
 ·exact⟨_,rP0 (by simp[wQ0,h1,h2]),cK.refl _,rfl,Au _,Or.inl rfl⟩
theorem eY1 {C:List (List UInt8)} {es:List En} {ls:List Lrn} {pl:Int} {m:Lrn} {i:Nat} (hi:i<C.length) {x:Nd} (h:x∈cV0 C es (ls++[m]) pl i) :
  x∈cV0 C es ls pl i\/∃j:Nat,x.f=i/\x.t=j/\ptC C i j=m.r/\x.s=m.s:=by
 obtain⟨j,kw,hj,h⟩:=qT hi h;rcases h with ⟨e,he,hr,rfl⟩|⟨y,hy,hr,hs,hn,rfl⟩|⟨rfl,rfl⟩|⟨h1,h2,rfl,rfl⟩
 ·by_cases hm:m.r=e.r/\m.s=e.s
  ·exact Or.inr ⟨j,rfl,rfl,by rw[<-hr,hm.1],hm.2.symm⟩
  ·refine Or.inl ?_
   unfold jX;rw[mF,if_neg hm];exact xQ0 ls pl kw hj he hr
 ·by_cases hm:m.r=ptC C i j/\m.s=y.s
  ·exact Or.inr ⟨j,rfl,rfl,hm.1.symm,hm.2.symm⟩
  ·refine Or.inl ?_
   unfold nD;rw[mF,if_neg hm];rcases List.mem_append.1 hy with hy|hy
   ·exact pR0 pl kw hj hy hr hs hn
   ·obtain rfl:y=m:=by simpa using hy
    exact absurd ⟨hr,rfl⟩ hm
 ·exact Or.inl (rP0 (by simp[wQ0]))
 ·exact Or.inl (rP0 (by simp[wQ0,h1,h2]))
theorem tE0 (C:List (List UInt8)) (es:List En) (ls:List Lrn) (pl:Int) (m:Lrn) {x:Nd} (hx:x∈fP C es ls pl) :
  (∃y∈fP C es (ls++[m]) pl,cK x y)/\∀y∈fP C es (ls++[m]) pl,cK x y->y.c<=x.c/\(y=x\/∃i j:Nat,x.f=i/\x.t=j/\ptC C i j=m.r/\x.s=m.s):=by
 have h:=lA C es ls pl;have h':=lA C es (ls++[m]) pl;obtain⟨i,hi,ho⟩:=h.sub x hx
 have hfi:x.f=i:=by
  obtain⟨j,_,_,k⟩:=qT hi ho;rcases k with ⟨e,_,_,rfl⟩|⟨y,_,_,_,_,rfl⟩|⟨_,rfl⟩|⟨_,_,_,rfl⟩<;>rfl
 obtain⟨z,hz,h1,h2,h3,h4⟩:=fP1 m hi ho;constructor
 ·obtain⟨y,hy,k1,k2⟩:=h'.cov z ⟨i,hi,hz⟩
  exact⟨y,hy,(k1.trans h1).symm⟩
 ·intro y hy hs
  have hb:=h'.best hy ⟨i,hi,hz⟩ (hs.symm.trans h1.symm);refine⟨by unfold cF at hb;omega,?_⟩;rcases h4 with rfl|⟨j,h4,h5,h6⟩
  ·obtain⟨i',hi',ho'⟩:=h'.sub y hy
   rcases eY1 hi' ho' with ho2|⟨j,k0,k1,k2,k3⟩
   ·have cy:=h.best hx ⟨i',hi',ho2⟩ hs
    refine Or.inl (qU0 hs.symm ?_ ?_)<;>unfold cF at hb cy<;>omega
   ·exact Or.inr ⟨i',j,by rw[hs.1,k0],by rw[hs.2.1,k1],k2,by rw[hs.2.2.1,k3]⟩
  ·exact Or.inr ⟨i,j,hfi,h4,h5,h6⟩
end
section
open Go Go.RowKit
theorem jJ1 {C:List (List UInt8)} (h:∀c∈C,nX1 c=false) (i:Nat):cN1 C i=i:=by
 unfold cN1
 cases hd:C.drop i with
 | nil=>rfl
 | cons c r =>
  rw[List.takeWhile_cons_of_neg (by rw[h c (List.mem_of_mem_drop (by rw[hd];simp))];decide)];rfl
section
variable {C:List (List UInt8)} {es:List En} {ls:List Lrn} {pl:Int} {a b:Nat}
end
end
section
open Go Go.RowKit
section
variable {n:Nat} {kc:List UInt8} {es:List En} {pl:Int}
theorem rS0 (hk:kc≠[]) {i j:Nat} (hi:i<j) (hj:j<=n):ptC (Aa n kc) i j=mkB kc↔j=i+1:=by
 have hl:bl (ptC (Aa n kc) i j)=(Aa (j-i) kc).flatten:=by
  rw[bH0,List.drop_replicate,List.take_replicate,show min (j-i) (n-i)=j-i by omega]
 constructor
 ·intro h
  have h2:=congrArg List.length (hl.symm.trans (congrArg bl h));rw[jT1,List.length_flatten,List.map_replicate,List.sum_replicate_nat]at h2;have h3:0<kc.length:=List.length_pos_iff.2 hk;have h4:(j-i)*kc.length=1*kc.length:=by omega
  have:=Nat.eq_of_mul_eq_mul_right h3 h4
  omega
 ·rintro rfl
  refine rM0 ?_;rw[hl,show i+1-i=1 by omega]
  simp[jT1]
theorem iH0 (hk:kc≠[]) (hh:nX1 kc=false) (hr:∀e∈es,e.r=mkB kc) {i:Nat} (hi:i<n):cV0 (Aa n kc) es [] pl i=es.map (jX [] i (i+1))++[xE0 (Aa n kc) pl i (i+1) 10000]:=by
 have hw:∀d,d<n-i->kK0 (Aa n kc) es [] i (i+1+d)++lL0 (Aa n kc) es [] pl i (i+1+d)=if d=0 then es.map (jX [] i (i+1)) else []:=λd hd=>by
  have hp:=rS0 (n:=n) hk (show i<i+1+d by omega) (by omega)
  unfold kK0 lL0;rw[List.filter_nil,List.map_nil,As];by_cases h0:d=0
  ·subst h0
   rw[if_pos rfl,List.filter_eq_self.2 λe he=>decide_eq_true ((hr e he).trans (hp.2 rfl).symm)]
  ·rw[if_neg h0,List.filter_eq_nil_iff.2 λe he h=>h0 (by have:=hp.1 ((of_decide_eq_true h).symm.trans (hr e he));omega)]
   rfl
 unfold cV0 wQ0;rw[jJ1 (λc hc=>by rw[List.eq_of_mem_replicate hc];exact hh),if_neg (by omega),Ad];obtain⟨m,hm⟩:∃m,n-i=m+1:=⟨n-i-1,by omega⟩;rw[hm,List.range_succ_eq_map,List.flatMap_cons,hw 0 (by omega),if_pos rfl]
 rw[List.flatMap_eq_nil_iff.2 λd hd=>by
  obtain⟨q,hq,rfl⟩:=List.mem_map.1 hd;rw[Ab]at hq;rw[hw (q+1) (by omega),if_neg (by omega)],As]
theorem cX1 (hk:kc≠[]) (hh:nX1 kc=false) (hr:∀e∈es,e.r=mkB kc) (hs:∀e∈es,e.s≠mkB kc) (hd:es.Pairwise λx y=>¬(x.s=y.s/\x.l=y.l/\x.t=y.t)) :
  (fP (Aa n kc) es [] pl).length=n*(es.length+1):=by
 have h:=lA (Aa n kc) es [] pl
 have hpw:(kH1 (Aa n kc) es [] pl).Pairwise λx y=>¬cK x y:=by
  unfold kH1;rw[Ad,List.pairwise_flatMap];refine⟨λi hi=>?_,?_⟩
  ·rw[Ab]at hi
   rw[iH0 hk hh hr hi];refine List.pairwise_append.2 ⟨List.pairwise_map.2 (hd.imp λ{x y} hn e=>hn ⟨e.2.2.1,e.2.2.2.1,e.2.2.2.2⟩),by simp,λx hx y hy e=>?_⟩;obtain⟨z,hz,rfl⟩:=List.mem_map.1 hx;obtain rfl:y=_:=by simpa using hy
   exact hs z hz (e.2.2.1.trans ((rS0 hk (by omega) (by omega)).2 rfl))
  ·refine(List.pairwise_lt_range (n:=n)).imp_of_mem λ{a b} ha hb gp x hx y hy e=>?_
   rw[Ab]at ha hb
   have hf:∀ {i:Nat},i<n->∀ {z:Nd},z∈cV0 (Aa n kc) es [] pl i->z.f=i:=λ{i} hi {z} hz=>by
    rw[iH0 hk hh hr hi]at hz;rcases List.mem_append.1 hz with hz|hz
    ·obtain⟨q,_,rfl⟩:=List.mem_map.1 hz
     rfl
    ·obtain rfl:z=_:=by simpa using hz
     rfl
   have h1:=hf ha hx;have h2:=hf hb hy;have h3:=e.1;omega
 have ah:(kH1 (Aa n kc) es [] pl).length=n*(es.length+1):=by
  unfold kH1;rw[Ad,List.length_flatMap]
  have:∀l:List Nat,(∀i∈l,i<n)->(l.map λi=>(cV0 (Aa n kc) es [] pl i).length).sum=l.length*(es.length+1):=λl=>by
   induction l with
   | nil=>intro _;simp
   | cons a l ih =>
    intro hl;rw[List.map_cons,List.sum_cons,ih λi hi=>hl i (by simp[hi]),iH0 hk hh hr (hl a (by simp)),List.length_append,Ah,Aq,Aq,List.length_nil,Nat.add_mul];omega
  rw[this _ λi hi=>List.mem_range.1 hi,List.length_range]
 refine Nat.le_antisymm ?_ ?_
 ·rw[<-ah]
  have:=cG (l:=(fP (Aa n kc) es [] pl)) (l':=kH1 (Aa n kc) es [] pl) (qF1 h.toBests) λx hx=>gK0.2 (h.sub x hx)
  exact this
 ·rw[<-ah]
  exact h.len (λx hx=>gK0.1 hx) hpw
end
end
end Go.Proofs.YthgklnohcmaopaaGreatDoor
