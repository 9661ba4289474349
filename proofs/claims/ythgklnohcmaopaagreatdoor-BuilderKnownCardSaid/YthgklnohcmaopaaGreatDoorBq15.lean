/- The texts Env EnvL OpenG Split, one behind the other. -/
import Derived.Test.YthgklnohcmaopaaGreatDoorBq1
import Derived.Test.YthgklnohcmaopaaGreatDoorShelf
import Derived.WalkSmall
import Derived.Lib.LaidTab
import Derived.Test.YthgklnohcmaopaaGreatDoorBq4
import Derived.Test.YthgklnohcmaopaaGreatDoorCards
import Derived.Test.YthgklnohcmaopaaGreatDoorTie
import Derived.WalkKit
import Derived.ProofKit
import Derived.OpenShut
import Derived.Deep.DeepHandedRow
import Derived.Deep.DeepWitnessRowRef
import Derived.Lib.LaidIn
import Derived.Lib.LaidU8T
import Derived.Shelf.Vars
import Derived.SizedLaws
import Derived.Carry
import Derived.ChangeSame
import Derived.ChangeMaps5
import Derived.Deep.Slices
import Derived.Lib.SplitLaws
open ByteArray renaming size_extract → Aa
open Go.Lib renaming splitB → Ab
open Nat renaming le_refl → Ac
namespace Go.Proofs.YthgklnohcmaopaaGreatDoor
section
open Go Go.RowKit Go.Shelf
structure Env (w:World):Prop where
 utf:Lib.Utf8Tabs 1 2 w
 mx:∃m,w.cell? ⟨4,0,none⟩=some (.int .i64 m)
 crc:∀(i q:Nat),gR[i]?=some q->w.cell? ⟨3,i,none⟩=some (.int .u32 q)
theorem Env.grows {w w':World} (h:Env w) (hg:aB w w'):Env w' where
 utf:=⟨λc hc=>hg.cell (h.utf.1 c hc),λi hi=>⟨hg.cell (h.utf.2 i hi).1,hg.cell (h.utf.2 i hi).2⟩⟩
 mx:=let ⟨m,hm⟩:=h.mx;⟨m,hg.cell hm⟩
 crc:=λi q hq=>hg.cell (h.crc i q hq)
theorem jL0 (w:World) (s:ByteArray) (p:Nat):aB w (w.iter s p):=aB.alloc _ _
end
section
open Go Go.ChangeShapes Go.WideShapes Go.ChangeAt Go.RowKit Go.Shelf Go.Lib
theorem own:ownKnob Tryz.prog.godebug=none:=by kernel_rfl
theorem e1:Rows.laid_unicode_utf8_first=Lib.firstData:=by kernel_rfl
theorem e2:(Rows.laid_unicode_utf8_acceptRanges:DataW Unit)=Lib.acceptData:=by kernel_rfl
theorem e4:(Rows.laid_henkan_crc_quarter:DataW Unit)=Lib.tabData .u32 (gR.map λn:Nat=>(n:Int)):=by kernel_rfl
theorem zS0 : Tryz.prog.globalNamed "henkan/crc.quarter" = some 3 := by kernel_rfl
end
section
open Go Go.ChangeShapes Go.WideShapes Go.ChangeAt Go.RowKit Go.Shelf Go.Lib
open Go.ChangeMaps (open_string shut_string)
theorem jF {b o j:Nat}:(⟨b,o,none⟩:Addr).add j=⟨b,o+j,none⟩:=by
 unfold Addr.add;by_cases h0:j=0
 ·subst h0;simp
 ·simp[h0]
section
variable {H:Type} {enc:TypeId×Value->H} {P:Program} {w:World} {base:Nat} {spare:Nat->Bool} {held:Bool}
end
section
variable {H:Type} {enc:TypeId×Value->H} {P:Program} {w:World} {base:Nat} {spare:Nat->Bool} {held:Bool}
end
end
section
open Go Go.RowKit Go.Shelf
def splitS (c:UInt8) (s:ByteArray):List ByteArray:=Ab ⟨#[c]⟩ 0 (Lib.countB s ⟨#[c]⟩) s
theorem sT (c:UInt8):∀(k:Nat) (s x:ByteArray),x∈Ab ⟨#[c]⟩ 0 k s->x.size<=s.size
 | 0,s,x,h=>by rw[Lib.splitB_zero]at h;simp at h;rw[h];exact Ac _
 | k+1,s,x,h=>by
  unfold Ab at h;split at h
  ·simp at h;rw[h];exact Ac _
  ·rcases List.mem_cons.1 h with h|h
   ·rw[h,Aa];omega
   ·have:=sT c k _ x h
    rw[Aa]at this;omega
theorem eX0 {c:UInt8} {s x:ByteArray} (h:x∈splitS c s):x.size<=s.size:=sT c _ s x h
theorem wY0:(Tryz.prog.info? 9).map (λi=>(i.zero,i.size,i.bytes))=some (some (.string ByteArray.empty),1,16):=by kernel_rfl
end
end Go.Proofs.YthgklnohcmaopaaGreatDoor
