/- The texts Env EnvL OpenG Split, one behind the other. -/
import Derived.Test.YthgklnohcmaopaaGreatDoorTq1
import Derived.Test.YthgklnohcmaopaaGreatDoorShelf
import Derived.WalkSmall
import Derived.Lib.LaidTab
import Derived.Test.YthgklnohcmaopaaGreatDoorTq4
import Derived.Test.YthgklnohcmaopaaGreatDoorCards
import Derived.Test.YthgklnohcmaopaaGreatDoorTie
import Derived.WalkKit
import Derived.ProofKit
import Derived.OpenShut
import Derived.Deep.DeepHandedRow
import Derived.Deep.DeepWitnessRowRef
import Derived.Lib.LaidIn
import Derived.Lib.LaidU8T
import Derived.Shelf.Vars
import Derived.SizedLaws
import Derived.Carry
import Derived.ChangeSame
import Derived.ChangeMaps5
import Derived.Deep.Slices
import Derived.Lib.SplitLaws
open ByteArray renaming size_extract → Aa
open Nat renaming le_refl → Ab
open Go.Lib renaming splitB → Ac,countB → Ad
open Go.World renaming setCell → Ae,cell? → Af
namespace Go.Proofs.YthgklnohcmaopaaGreatDoor
section
open Go Go.RowKit Go.Shelf
structure Env (w:World):Prop where
 utf:Lib.Utf8Tabs 1 2 w
 mx:∃m,w.cell? ⟨4,0,none⟩=some (.int .i64 m)
 crc:∀(i q:Nat),iB[i]?=some q->w.cell? ⟨3,i,none⟩=some (.int .u32 q)
theorem Env.grows {w w':World} (h:Env w) (hg:aB w w'):Env w' where
 utf:=⟨λc hc=>hg.cell (h.utf.1 c hc),λi hi=>⟨hg.cell (h.utf.2 i hi).1,hg.cell (h.utf.2 i hi).2⟩⟩
 mx:=let ⟨m,hm⟩:=h.mx;⟨m,hg.cell hm⟩
 crc:=λi q hq=>hg.cell (h.crc i q hq)
theorem lW0 (w:World) (k:Nat) (os:Array Obj):aB w (Sort.grow (w.drewN k) os):=by
 have h1:aB w (w.drewN k):=(Below.refl _ w).trans ⟨rfl,rfl,rfl,Ab _,λ_ _=>rfl⟩;refine h1.tr ⟨rfl,rfl,rfl,by simp[Sort.grow],λi hi=>?_⟩;show (_++os)[i]?=_
 rw[Array.getElem?_append_left hi]
theorem nN0 (w:World) (s:ByteArray) (p:Nat):aB w (w.iter s p):=aB.alloc _ _
end
section
open Go Go.ChangeShapes Go.WideShapes Go.ChangeAt Go.RowKit Go.Shelf Go.Lib
theorem own:ownKnob Tryz.prog.godebug=none:=by kernel_rfl
theorem e1:Rows.laid_unicode_utf8_first=Lib.firstData:=by kernel_rfl
theorem e2:(Rows.laid_unicode_utf8_acceptRanges:DataW Unit)=Lib.acceptData:=by kernel_rfl
theorem e4:(Rows.laid_henkan_crc_quarter:DataW Unit)=Lib.tabData .u32 (iB.map λn:Nat=>(n:Int)):=by kernel_rfl
theorem dV1 : Tryz.prog.globalNamed "henkan/crc.quarter" = some 3 := by kernel_rfl
end
section
open Go Go.ChangeShapes Go.WideShapes Go.ChangeAt Go.RowKit Go.Shelf Go.Lib
open Go.ChangeMaps (open_string shut_string)
theorem zM {α:Type} {P:Nat->α->Prop}:∀(n:Nat),(∀i,i<n->∃x,P i x)->∃l:List α,l.length=n/\∀(i:Nat) (x:α),l[i]?=some x->P i x
 | 0,_=>⟨[],rfl,λi x h=>by simp at h⟩
 | n+1,h=>by
  obtain⟨l,hl,hp⟩:=zM n (λi hi=>h i (by omega));obtain⟨x,hx⟩:=h n (by omega);refine⟨l++[x],by simp[hl],λi y hy=>?_⟩;rcases Nat.lt_or_ge i l.length with ae|jn
  ·rw[List.getElem?_append_left ae]at hy;exact hp i y hy
  ·rw[List.getElem?_append_right jn]at hy
   have h0:i-l.length=0:=by
    rcases Nat.eq_zero_or_pos (i-l.length) with h|h
    ·exact h
    ·rw[List.getElem?_eq_none (by simp;omega)]at hy;cases hy
   rw[h0]at hy;obtain rfl:x=y:=by simpa using hy
   obtain rfl:i=n:=by omega
   exact hx
theorem rA0 {w:World} {a:Addr} {v:Value} (h:w.cell? a=some v):a.spot=none:=by
 obtain⟨b,o,s⟩:=a
 cases s with
 | none=>rfl
 | some s =>
  unfold Af at h;simp at h;split at h<;>cases h
theorem mX {b o j:Nat}:(⟨b,o,none⟩:Addr).add j=⟨b,o+j,none⟩:=by
 unfold Addr.add;by_cases h0:j=0
 ·subst h0;simp
 ·simp[h0]
section
variable {H:Type} {enc:TypeId×Value->H} {P:Program} {w:World} {base:Nat} {spare:Nat->Bool} {held:Bool}
end
theorem vF {H:Type} {P:Program} {ts:List TypeId} {ds:List (DataW H)} (h:(DataW.weightsEach P ts ds).all (· <= reachBytes)=true) {j:Nat} {t e:TypeId} {d:DataW H} {n:Nat} (ht:ts[j]?=some t) (hd:ds[j]?=some d) (hu:P.underlying t=some (.slice e)) (hb:1<=P.bytesOf e)
  (hn:d=.nil/\n=0\/∃el sp,d=.slice el sp/\el.length=n):n<=140737488355328:=by
 rcases hn with ⟨_,rfl⟩|⟨el,sp,rfl,rfl⟩
 ·exact Nat.zero_le _
 ·have h1:=sized_slice h ht hd hu
  have h2:el.length+sp.length<=(el.length+sp.length)*P.bytesOf e:=Nat.le_mul_of_pos_right _ hb;have h3:reachBytes<2^47:=reachBytes_lt;omega
section
variable {H:Type} {enc:TypeId×Value->H} {P:Program} {w:World} {base:Nat} {spare:Nat->Bool} {held:Bool}
end
end
section
open Go Go.RowKit Go.Shelf
def splitS (c:UInt8) (s:ByteArray):List ByteArray:=Ac ⟨#[c]⟩ 0 (Ad s ⟨#[c]⟩) s
theorem uV (c:UInt8):∀(k:Nat) (s x:ByteArray),x∈Ac ⟨#[c]⟩ 0 k s->x.size<=s.size
 | 0,s,x,h=>by rw[Lib.splitB_zero]at h;simp at h;rw[h];exact Ab _
 | k+1,s,x,h=>by
  unfold Ac at h;split at h
  ·simp at h;rw[h];exact Ab _
  ·rcases List.mem_cons.1 h with h|h
   ·rw[h,Aa];omega
   ·have:=uV c k _ x h
    rw[Aa]at this;omega
theorem iY {c:UInt8} {s x:ByteArray} (h:x∈splitS c s):x.size<=s.size:=uV c _ s x h
theorem tH0:(Tryz.prog.info? 9).map (λi=>(i.zero,i.size,i.bytes))=some (some (.string ByteArray.empty),1,16):=by kernel_rfl
def iG0 (x:ByteArray):List Value:=[.string x]
theorem mV (c:UInt8) (s:ByteArray) (w:World) (hs:s.size<4294967281) (he:Env w) :
  Calls Tryz.prog 141 #[.string s,.string ⟨#[c]⟩] w λe w'=>e=.returned (.slice (some ⟨w.heap.size,0,none⟩) (splitS c s).length (splitS c s).length) /\
   aF w' (some ⟨w.heap.size,0,none⟩) 1 ((splitS c s).map iG0)/\aB w w':=by
 obtain⟨m,hm⟩:=he.mx;have h1c:1<=(⟨#[c]⟩:ByteArray).size:=Ab 1;have hl:=Lib.splitB_all ⟨#[c]⟩ h1c 0 _ s rfl;have h:=Any.strings_Split Tryz.laysSplit tH0 s ⟨#[c]⟩ m w hs hm h1c;refine Calls.mono h ?_;rintro e w' ⟨rfl,rfl⟩;have qk:(splitS c s).length=Ad s ⟨#[c]⟩+1:=hl;refine⟨by rw[qk],λ_=>⟨_,_,rfl,λi row hi j v hj=>?_⟩,aB.alloc _ _⟩;rw[List.getElem?_map]at hi
 cases hx:(splitS c s)[i]? with
 | none=>rw[hx]at hi;cases hi
 | some x =>
  rw[hx]at hi;obtain rfl:=Option.some.inj hi
  match j,hj with
  | 0,hj =>
   obtain rfl:=Option.some.inj hj;refine aM w _ _ _ _ _ ?_;have wy:(Ac ⟨#[c]⟩ 0 (Ad s ⟨#[c]⟩) s)[i]?=some x:=hx;simp[wy]
  | j+1,hj=>simp[iG0]at hj
theorem aB.cl {w w':World} (h:aB w w') {b:Nat} (j:Nat) (hb:b<w.heap.size):w'.cell? ⟨b,j,none⟩=w.cell? ⟨b,j,none⟩:=Below.cell h hb
theorem aB.fz {w w':World} (h:aB w w') {b:Nat} (j:Nat) (hb:b<w.heap.size):w'.frozen? ⟨b,j,none⟩=w.frozen? ⟨b,j,none⟩:=h.froz hb
theorem mM {w w':World} {cs:Array Value} {t:TypeId} (hg:aB (w.alloc (.cells cs t)) w'):(∀j v,cs[j]?=some v->w'.cell? ⟨w.heap.size,j,none⟩=some v)/\(∀j,w'.frozen? ⟨w.heap.size,j,none⟩=false):=by
 refine⟨λj v h=>hg.cell (aM w cs t _ j v h),λj=>?_⟩;rw[hg.froz (by simp)]
 have hh:(w.alloc (.cells cs t)).heap[w.heap.size]?=some (.cells cs t (0,0)):=by
  show (w.heap.push _)[w.heap.size]?=_
  simp
 unfold World.frozen?;simp only[hh];simp
theorem kV {w:World} {b j:Nat} {u:Value} (v:Value) (h:w.cell? ⟨b,j,none⟩=some u):(w.setCell ⟨b,j,none⟩ v).cell? ⟨b,j,none⟩=some v :=
 World.cell?_setCell_same' _ _ _ (by rw[h];rfl)
theorem aT {w:World} {b j b' j':Nat} (v:Value) (h:b'≠b\/j'≠j):(w.setCell ⟨b,j,none⟩ v).cell? ⟨b',j',none⟩=w.cell? ⟨b',j',none⟩:=by
 by_cases hb:b'=b
 ·subst hb
  have hj:j'≠j:=by rcases h with h|h;exact absurd rfl h;exact h
  simp only[Af,Ae,Array.getElem?_modify];simp only[if_true]
  cases hh:w.heap[b']? with
  | none=>simp
  | some o=>cases o<;>simp[Ne.symm hj]
 ·exact World.cell?_of_block (w:=w) (Below.heap_setCell _ _ _ _ (by exact hb))
theorem aP0 (w:World) (a:Addr) (v:Value) (p:Addr):(w.setCell a v).frozen? p=w.frozen? p:=World.frozen?_setCell _ _ _ _
theorem cJ0 (w:World) (a:Addr) (v:Value):(w.setCell a v).heap.size=w.heap.size:=by simp[Ae]
theorem oX0 {w:World} {b:Nat} {u0 u1 u2 u3 u4:Value} (v0 v1 v2 v3 v4:Value) (h0:w.cell? ⟨b,0,none⟩=some u0) (h1:w.cell? ⟨b,1,none⟩=some u1) (h2:w.cell? ⟨b,2,none⟩=some u2) (h3:w.cell? ⟨b,3,none⟩=some u3) (h4:w.cell? ⟨b,4,none⟩=some u4) {W:World}
  (hW:(((((w.setCell ⟨b,0,none⟩ v0).setCell ⟨b,1,none⟩ v1).setCell ⟨b,2,none⟩ v2).setCell ⟨b,3,none⟩ v3).setCell ⟨b,4,none⟩ v4)=W) :
  (W.cell? ⟨b,0,none⟩=some v0/\W.cell? ⟨b,1,none⟩=some v1/\W.cell? ⟨b,2,none⟩=some v2/\W.cell? ⟨b,3,none⟩=some v3/\W.cell? ⟨b,4,none⟩=some v4) /\
   (∀b' j',b'≠b->W.cell? ⟨b',j',none⟩=w.cell? ⟨b',j',none⟩)/\(∀p,W.frozen? p=w.frozen? p)/\W.heap.size=w.heap.size:=by
 subst hW;refine⟨⟨?_,?_,?_,?_,?_⟩,λb' j' hb=>?_,λp=>?_,?_⟩
 ·rw[aT _ (by simp),aT _ (by simp),aT _ (by simp),aT _ (by simp)];exact kV _ h0
 ·rw[aT _ (by simp),aT _ (by simp),aT _ (by simp)];exact kV (u:=u1) _ (by rw[aT _ (by simp)];exact h1)
 ·rw[aT _ (by simp),aT _ (by simp)];exact kV (u:=u2) _ (by rw[aT _ (by simp),aT _ (by simp)];exact h2)
 ·rw[aT _ (by simp)];exact kV (u:=u3) _ (by rw[aT _ (by simp),aT _ (by simp),aT _ (by simp)];exact h3)
 ·exact kV (u:=u4) _ (by rw[aT _ (by simp),aT _ (by simp),aT _ (by simp),aT _ (by simp)];exact h4)
 ·rw[aT _ (.inl hb),aT _ (.inl hb),aT _ (.inl hb),aT _ (.inl hb),aT _ (.inl hb)]
 ·simp only[aP0]
 ·simp only[cJ0]
end
end Go.Proofs.YthgklnohcmaopaaGreatDoor
