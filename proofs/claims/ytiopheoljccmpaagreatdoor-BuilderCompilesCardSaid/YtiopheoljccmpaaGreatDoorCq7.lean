/- The texts Env Split EnvL OpenG OpenTx, one behind the other. -/
import Derived.Test.YtiopheoljccmpaaGreatDoorCq1
import Derived.Test.YtiopheoljccmpaaGreatDoorShelf
import Derived.WalkSmall
import Derived.Lib.LaidTab
import Derived.Test.YtiopheoljccmpaaGreatDoorCq4
import Derived.Lib.SplitLaws
import Derived.Test.YtiopheoljccmpaaGreatDoorCards
import Derived.Test.YtiopheoljccmpaaGreatDoorTie
import Derived.WalkKit
import Derived.ProofKit
import Derived.OpenShut
import Derived.Deep.DeepHandedRow
import Derived.Deep.DeepWitnessRowRef
import Derived.Lib.LaidIn
import Derived.Lib.LaidU8T
import Derived.Shelf.Vars
import Derived.SizedLaws
import Derived.Carry
import Derived.ChangeSame
import Derived.ChangeMaps5
import Derived.Deep.Slices
open ByteArray renaming size_extract → Aa
open Go.Lib renaming splitB → Ab,countB → Ad
open Nat renaming le_refl → Ac
open Go.World renaming setCell → Ae
namespace Go.Proofs.YtiopheoljccmpaaGreatDoor
set_option maxRecDepth 100000
section
open Go Go.RowKit Go.Shelf
structure Env (w:World):Prop where
 utf:Lib.Utf8Tabs 5 6 w
 mx:∃m,w.cell? ⟨1,0,none⟩=some (.int .i64 m)
 crc:∀(i q:Nat),jY[i]?=some q->w.cell? ⟨2,i,none⟩=some (.int .u32 q)
theorem Env.grows {w w':World} (h:Env w) (hg:aB w w'):Env w' where
 utf:=⟨λc hc=>hg.cell (h.utf.1 c hc),λi hi=>⟨hg.cell (h.utf.2 i hi).1,hg.cell (h.utf.2 i hi).2⟩⟩
 mx:=let ⟨m,hm⟩:=h.mx;⟨m,hg.cell hm⟩
 crc:=λi q hq=>hg.cell (h.crc i q hq)
theorem tE0 (w:World) (s:ByteArray) (p:Nat):aB w (w.iter s p):=aB.alloc _ _
def splitS (c:UInt8) (s:ByteArray):List ByteArray:=Ab ⟨#[c]⟩ 0 (Ad s ⟨#[c]⟩) s
theorem bF0 (c:UInt8):∀(k:Nat) (s x:ByteArray),x∈Ab ⟨#[c]⟩ 0 k s->x.size<=s.size
 | 0,s,x,h=>by rw[Lib.splitB_zero]at h;simp at h;rw[h];exact Ac _
 | k+1,s,x,h=>by
  unfold Ab at h;split at h
  ·simp at h;rw[h];exact Ac _
  ·rcases List.mem_cons.1 h with h|h
   ·rw[h,Aa];omega
   ·have:=bF0 c k _ x h
    rw[Aa]at this;omega
theorem dN {c:UInt8} {s x:ByteArray} (h:x∈splitS c s):x.size<=s.size:=bF0 c _ s x h
theorem vF0:(Tryz.prog.info? 9).map (λi=>(i.zero,i.size,i.bytes))=some (some (.string ByteArray.empty),1,16):=by kernel_rfl
def mL0 (x:ByteArray):List Value:=[.string x]
theorem oQ (c:UInt8) (s:ByteArray) (w:World) (hs:s.size<4294967281) (he:Env w) :
  Calls Tryz.prog 30 #[.string s,.string ⟨#[c]⟩] w λe w'=>e=.returned (.slice (some ⟨w.heap.size,0,none⟩) (splitS c s).length (splitS c s).length) /\
   aF w' (some ⟨w.heap.size,0,none⟩) 1 ((splitS c s).map mL0)/\aB w w':=by
 obtain⟨m,hm⟩:=he.mx;have h1c:1<=(⟨#[c]⟩:ByteArray).size:=Ac 1;have hl:=Lib.splitB_all ⟨#[c]⟩ h1c 0 _ s rfl;have h:=Any.strings_Split Tryz.laysSplit vF0 s ⟨#[c]⟩ m w hs hm h1c;refine Calls.mono h ?_;rintro e w' ⟨rfl,rfl⟩;have zz:(splitS c s).length=Ad s ⟨#[c]⟩+1:=hl;refine⟨by rw[zz],λ_=>⟨_,_,rfl,λi row hi j v hj=>?_⟩,aB.alloc _ _⟩;rw[List.getElem?_map]at hi
 cases hx:(splitS c s)[i]? with
 | none=>rw[hx]at hi;cases hi
 | some x =>
  rw[hx]at hi;obtain rfl:=Option.some.inj hi
  match j,hj with
  | 0,hj =>
   obtain rfl:=Option.some.inj hj;refine aX w _ _ _ _ _ ?_;have hx':(Ab ⟨#[c]⟩ 0 (Ad s ⟨#[c]⟩) s)[i]?=some x:=hx;simp[hx']
  | j+1,hj=>simp[mL0]at hj
theorem aB.cl {w w':World} (h:aB w w') {b:Nat} (j:Nat) (hb:b<w.heap.size):w'.cell? ⟨b,j,none⟩=w.cell? ⟨b,j,none⟩:=Below.cell h hb
theorem aB.fz {w w':World} (h:aB w w') {b:Nat} (j:Nat) (hb:b<w.heap.size):w'.frozen? ⟨b,j,none⟩=w.frozen? ⟨b,j,none⟩:=h.froz hb
theorem eI {w w':World} {cs:Array Value} {t:TypeId} (hg:aB (w.alloc (.cells cs t)) w'):(∀j v,cs[j]?=some v->w'.cell? ⟨w.heap.size,j,none⟩=some v)/\(∀j,w'.frozen? ⟨w.heap.size,j,none⟩=false):=by
 refine⟨λj v h=>hg.cell (aX w cs t _ j v h),λj=>?_⟩;rw[hg.froz (by simp)]
 have hh:(w.alloc (.cells cs t)).heap[w.heap.size]?=some (.cells cs t (0,0)):=by
  show (w.heap.push _)[w.heap.size]?=_
  simp
 unfold World.frozen?;simp only[hh];simp
theorem mT {w:World} {b j:Nat} {u:Value} (v:Value) (h:w.cell? ⟨b,j,none⟩=some u):(w.setCell ⟨b,j,none⟩ v).cell? ⟨b,j,none⟩=some v :=
 World.cell?_setCell_same' _ _ _ (by rw[h];rfl)
theorem bG {w:World} {b j b' j':Nat} (v:Value) (h:b'≠b\/j'≠j):(w.setCell ⟨b,j,none⟩ v).cell? ⟨b',j',none⟩=w.cell? ⟨b',j',none⟩:=by
 by_cases hb:b'=b
 ·subst hb
  have hj:j'≠j:=by rcases h with h|h;exact absurd rfl h;exact h
  simp only[World.cell?,Ae,Array.getElem?_modify];simp only[if_true]
  cases hh:w.heap[b']? with
  | none=>simp
  | some o=>cases o<;>simp[Ne.symm hj]
 ·exact World.cell?_of_block (w:=w) (Below.heap_setCell _ _ _ _ (by exact hb))
theorem gD0 (w:World) (a:Addr) (v:Value) (p:Addr):(w.setCell a v).frozen? p=w.frozen? p:=World.frozen?_setCell _ _ _ _
theorem eL0 (w:World) (a:Addr) (v:Value):(w.setCell a v).heap.size=w.heap.size:=by simp[Ae]
theorem wS0 {w:World} {b:Nat} {u0 u1 u2 u3 u4:Value} (v0 v1 v2 v3 v4:Value) (h0:w.cell? ⟨b,0,none⟩=some u0) (h1:w.cell? ⟨b,1,none⟩=some u1) (h2:w.cell? ⟨b,2,none⟩=some u2) (h3:w.cell? ⟨b,3,none⟩=some u3) (h4:w.cell? ⟨b,4,none⟩=some u4) {W:World}
  (hW:(((((w.setCell ⟨b,0,none⟩ v0).setCell ⟨b,1,none⟩ v1).setCell ⟨b,2,none⟩ v2).setCell ⟨b,3,none⟩ v3).setCell ⟨b,4,none⟩ v4)=W) :
  (W.cell? ⟨b,0,none⟩=some v0/\W.cell? ⟨b,1,none⟩=some v1/\W.cell? ⟨b,2,none⟩=some v2/\W.cell? ⟨b,3,none⟩=some v3/\W.cell? ⟨b,4,none⟩=some v4) /\
   (∀b' j',b'≠b->W.cell? ⟨b',j',none⟩=w.cell? ⟨b',j',none⟩)/\(∀p,W.frozen? p=w.frozen? p)/\W.heap.size=w.heap.size:=by
 subst hW;refine⟨⟨?_,?_,?_,?_,?_⟩,λb' j' hb=>?_,λp=>?_,?_⟩
 ·rw[bG _ (by simp),bG _ (by simp),bG _ (by simp),bG _ (by simp)];exact mT _ h0
 ·rw[bG _ (by simp),bG _ (by simp),bG _ (by simp)];exact mT (u:=u1) _ (by rw[bG _ (by simp)];exact h1)
 ·rw[bG _ (by simp),bG _ (by simp)];exact mT (u:=u2) _ (by rw[bG _ (by simp),bG _ (by simp)];exact h2)
 ·rw[bG _ (by simp)];exact mT (u:=u3) _ (by rw[bG _ (by simp),bG _ (by simp),bG _ (by simp)];exact h3)
 ·exact mT (u:=u4) _ (by rw[bG _ (by simp),bG _ (by simp),bG _ (by simp),bG _ (by simp)];exact h4)
 ·rw[bG _ (.inl hb),bG _ (.inl hb),bG _ (.inl hb),bG _ (.inl hb),bG _ (.inl hb)]
 ·simp only[gD0]
 ·simp only[eL0]
end
section
open Go Go.ChangeShapes Go.WideShapes Go.ChangeAt Go.RowKit Go.Shelf Go.Lib
theorem own:ownKnob Tryz.prog.godebug=none:=by kernel_rfl
theorem laidOut:laidOutB Tryz.prog=true:=by kernel_rfl
def lays : List (String × DataW Unit) := [("henkan/crc.quarter", Rows.laid_henkan_crc_quarter), ("unicode/utf8.acceptRanges", Rows.laid_unicode_utf8_acceptRanges), ("unicode/utf8.first", Rows.laid_unicode_utf8_first)]
theorem e1:Rows.laid_unicode_utf8_first=Lib.firstData:=by kernel_rfl
theorem e2:(Rows.laid_unicode_utf8_acceptRanges:DataW Unit)=Lib.acceptData:=by kernel_rfl
theorem e4:(Rows.laid_henkan_crc_quarter:DataW Unit)=Lib.tabData .u32 (jY.map λn:Nat=>(n:Int)):=by kernel_rfl
theorem kZ1 : Tryz.prog.globalNamed "henkan/crc.quarter" = some 2 := by kernel_rfl
end
section
open Go Go.ChangeShapes Go.WideShapes Go.ChangeAt Go.RowKit Go.Shelf Go.Lib
open Go.ChangeMaps (open_string shut_string)
theorem pO {b o j:Nat}:(⟨b,o,none⟩:Addr).add j=⟨b,o+j,none⟩:=by
 unfold Addr.add;by_cases h0:j=0
 ·subst h0;simp
 ·simp[h0]
section
variable {H:Type} {enc:TypeId×Value->H} {P:Program} {w:World} {base:Nat} {spare:Nat->Bool} {held:Bool}
end
section
variable {H:Type} {enc:TypeId×Value->H} {P:Program} {w:World} {base:Nat} {spare:Nat->Bool} {held:Bool}
end
end
section
open Go Go.ChangeShapes Go.WideShapes Go.ChangeAt Go.RowKit Go.Shelf Go.Lib
open Go.ChangeMaps (open_string shut_string)
structure TxV where
 p:ByteArray
 m:ByteArray
 e:ByteArray
def TxV.agg (x:TxV):Value := .agg #[.string x.p,.string x.m,.string x.e]
theorem open_texts {H:Type} {enc:TypeId×Value->H} {W:World} {base b0:Nat} {sp:Nat->Bool} {hd:Bool} {r:Reach} {v:Value} {d:DataW H} {ps:List MemPlace} (my:Value.okWide Tryz.prog W r b0 23 v) (h:DataW.Trod enc Tryz.prog W base sp hd 23 v d ps) :
  ∃x:TxV,v=x.agg:=by
 obtain⟨cs,rfl,hs⟩:=okWide_struct Tryz.underlying23 my;obtain⟨ct,hf⟩:=h;obtain⟨xs,n,_,hx,hl,ay,d5⟩:=DataW.trod_struct Tryz.underlying23 hf;have jv:cs.size=3:=hs;obtain⟨l⟩:=cs
 match l,jv with
 | [x0,x1,x2],_ =>
  match xs,ay with
  | [y0,y1,y2],_ =>
   have g0:=d5 0 _ rfl;have g1:=d5 1 _ rfl;have g2:=d5 2 _ rfl;obtain⟨s0,k0,_,_⟩:=DataW.trod_string Tryz.underlying9 g0;obtain⟨s1,k1,_,_⟩:=DataW.trod_string Tryz.underlying9 g1;obtain⟨s2,k2,_,_⟩:=DataW.trod_string Tryz.underlying9 g2;have e0:x0=.string s0:=by injection (show [x0]=[_] from k0)
   have e1:x1=.string s1:=by injection (show [x1]=[_] from k1)
   have e2:x2=.string s2:=by injection (show [x2]=[_] from k2)
   subst e0 e1 e2;exact⟨⟨s0,s1,s2⟩,rfl⟩
end
end Go.Proofs.YtiopheoljccmpaaGreatDoor
