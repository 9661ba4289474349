/- The texts Env EnvL OpenG Witness, one behind the other. -/
import Derived.Test.YthgklnohcmaopaaGreatDoorLq1
import Derived.Test.YthgklnohcmaopaaGreatDoorShelf
import Derived.WalkSmall
import Derived.Lib.LaidTab
import Derived.Test.YthgklnohcmaopaaGreatDoorLq4
import Derived.Test.YthgklnohcmaopaaGreatDoorCards
import Derived.Test.YthgklnohcmaopaaGreatDoorTie
import Derived.WalkKit
import Derived.ProofKit
import Derived.OpenShut
import Derived.Deep.DeepHandedRow
import Derived.Deep.DeepWitnessRowRef
import Derived.Lib.LaidIn
import Derived.Lib.LaidU8T
import Derived.Shelf.Vars
import Derived.SizedLaws
import Derived.Carry
import Derived.ChangeSame
import Derived.ChangeMaps5
import Derived.Deep.Slices
namespace Go.Proofs.YthgklnohcmaopaaGreatDoor
section
open Go Go.RowKit Go.Shelf
structure Env (w:World):Prop where
 utf:Lib.Utf8Tabs 1 2 w
 mx:∃m,w.cell? ⟨4,0,none⟩=some (.int .i64 m)
 crc:∀(i q:Nat),kG[i]?=some q->w.cell? ⟨3,i,none⟩=some (.int .u32 q)
theorem Env.grows {w w':World} (h:Env w) (hg:aB w w'):Env w' where
 utf:=⟨λc hc=>hg.cell (h.utf.1 c hc),λi hi=>⟨hg.cell (h.utf.2 i hi).1,hg.cell (h.utf.2 i hi).2⟩⟩
 mx:=let ⟨m,hm⟩:=h.mx;⟨m,hg.cell hm⟩
 crc:=λi q hq=>hg.cell (h.crc i q hq)
theorem tX0 (w:World) (s:ByteArray) (p:Nat):aB w (w.iter s p):=aB.alloc _ _
end
section
open Go Go.ChangeShapes Go.WideShapes Go.ChangeAt Go.RowKit Go.Shelf Go.Lib
theorem own:ownKnob Tryz.prog.godebug=none:=by kernel_rfl
def lays : List (String × DataW Unit) := [("henkan/crc.quarter", Rows.laid_henkan_crc_quarter), ("unicode/utf8.acceptRanges", Rows.laid_unicode_utf8_acceptRanges), ("unicode/utf8.first", Rows.laid_unicode_utf8_first)]
theorem gC1 {W:World} (h:laidMetH Tryz.prog lays W):laidMet Tryz.prog lays W:=h
theorem e1:Rows.laid_unicode_utf8_first=Lib.firstData:=by kernel_rfl
theorem e2:(Rows.laid_unicode_utf8_acceptRanges:DataW Unit)=Lib.acceptData:=by kernel_rfl
theorem e4:(Rows.laid_henkan_crc_quarter:DataW Unit)=Lib.tabData .u32 (kG.map λn:Nat=>(n:Int)):=by kernel_rfl
theorem rB1 : Tryz.prog.globalNamed "henkan/crc.quarter" = some 3 := by kernel_rfl
theorem env_of {W:World} (h:laidMetH Tryz.prog lays W) (hS:W.ShapedOpen Tryz.prog):Env W:=by
 have hL:=gC1 h
 have r1 : VarReads Tryz.prog W "unicode/utf8.first" firstData := by
  rw[<-e1];exact laidMet.reads hL (.tail _ (.tail _ (.head _)))
 have r2 : VarReads Tryz.prog W "unicode/utf8.acceptRanges" acceptData := by
  rw[<-e2];exact laidMet.reads hL (.tail _ (.head _))
 have r4 : VarReads Tryz.prog W "henkan/crc.quarter" (tabData .u32 (kG.map fun n : Nat => (n : Int))) := by
  rw[<-e4];exact laidMet.reads hL (.head _)
 refine⟨utf8Tabs_of_readsT (U8Types.of196 Tryz.laysValid) ⟨by kernel_rfl,by kernel_rfl,by kernel_rfl,by kernel_rfl,by kernel_rfl,by kernel_rfl,by kernel_rfl⟩ r1 r2,cell_of_shapedOpen_int (P:=Tryz.prog) (g:=4) (t:=3) (zero:=#[.int .i64 0]) hS (of_decide_eq_true (by kernel_rfl)) (by kernel_rfl) rfl (by kernel_rfl) (by kernel_rfl) Tryz.underlying3,?_⟩;obtain⟨g,t,cs,bz,p,hg,hty,ahg,hd⟩:=r4;have ht:(Tryz.prog.globals[3]?).map (·.type)=some 337:=by kernel_rfl
 obtain rfl:=Option.some.inj (rB1.symm.trans hg);obtain rfl:=Option.some.inj (ht.symm.trans hty);have cj:=cells_of_tab Tryz.underlying337 Tryz.underlying237 (by kernel_rfl) (by kernel_rfl) hd
 have T : TabIs Tryz.prog W "henkan/crc.quarter" .u32 (kG.map fun n : Nat => (n : Int)) := by
  unfold TabIs;rw[ahg,<-cj]
 intro i q hq;have hi:=(List.getElem?_eq_some_iff.1 hq).1;have hc:=T.cell rB1 i (by rw[List.length_map];exact hi);rw[hc,List.getD_eq_getElem?_getD,List.getElem?_map,hq];rfl
end
section
open Go Go.ChangeShapes Go.WideShapes Go.ChangeAt Go.RowKit Go.Shelf Go.Lib
open Go.ChangeMaps (open_string shut_string)
theorem eH0 {α:Type} {P:Nat->α->Prop}:∀(n:Nat),(∀i,i<n->∃x,P i x)->∃l:List α,l.length=n/\∀(i:Nat) (x:α),l[i]?=some x->P i x
 | 0,_=>⟨[],rfl,λi x h=>by simp at h⟩
 | n+1,h=>by
  obtain⟨l,hl,hp⟩:=eH0 n (λi hi=>h i (by omega));obtain⟨x,hx⟩:=h n (by omega);refine⟨l++[x],by simp[hl],λi y hy=>?_⟩;rcases Nat.lt_or_ge i l.length with ae|hge
  ·rw[List.getElem?_append_left ae]at hy;exact hp i y hy
  ·rw[List.getElem?_append_right hge]at hy
   have h0:i-l.length=0:=by
    rcases Nat.eq_zero_or_pos (i-l.length) with h|h
    ·exact h
    ·rw[List.getElem?_eq_none (by simp;omega)]at hy;cases hy
   rw[h0]at hy;obtain rfl:x=y:=by simpa using hy
   obtain rfl:i=n:=by omega
   exact hx
theorem xZ0 {w:World} {a:Addr} {v:Value} (h:w.cell? a=some v):a.spot=none:=by
 obtain⟨b,o,s⟩:=a
 cases s with
 | none=>rfl
 | some s =>
  unfold World.cell? at h;simp at h;split at h<;>cases h
theorem jQ {b o j:Nat}:(⟨b,o,none⟩:Addr).add j=⟨b,o+j,none⟩:=by
 unfold Addr.add;by_cases h0:j=0
 ·subst h0;simp
 ·simp[h0]
section
variable {H:Type} {enc:TypeId×Value->H} {P:Program} {w:World} {base:Nat} {spare:Nat->Bool} {held:Bool}
end
theorem tU {H:Type} {P:Program} {ts:List TypeId} {ds:List (DataW H)} (h:(DataW.weightsEach P ts ds).all (· <= reachBytes)=true) {j:Nat} {t e:TypeId} {d:DataW H} {n:Nat} (ht:ts[j]?=some t) (hd:ds[j]?=some d) (hu:P.underlying t=some (.slice e)) (hb:1<=P.bytesOf e)
  (hn:d=.nil/\n=0\/∃el sp,d=.slice el sp/\el.length=n):n<=140737488355328:=by
 rcases hn with ⟨_,rfl⟩|⟨el,sp,rfl,rfl⟩
 ·exact Nat.zero_le _
 ·have h1:=sized_slice h ht hd hu
  have h2:el.length+sp.length<=(el.length+sp.length)*P.bytesOf e:=Nat.le_mul_of_pos_right _ hb;have h3:reachBytes<2^47:=reachBytes_lt;omega
section
variable {H:Type} {enc:TypeId×Value->H} {P:Program} {w:World} {base:Nat} {spare:Nat->Bool} {held:Bool}
end
end
section
open Go Go.ChangeShapes Go.WideShapes Go.ChangeAt Go.RowKit Go.Shelf Go.Lib
noncomputable def xY0 (os:Os):World :=
 let w0:=World.holding Tryz.prog os ⟨#[],#[],[]⟩
 let put (h:Array Obj) (g:Nat) (cs:Array Value):Array Obj:=h.modify g λ
  | .cells _ t frozen => .cells cs t frozen
  | o=>o
 let h1:=put w0.heap 1 (Lib.firstTab.map λz=>Value.int .u8 z).toArray
 let h2:=put h1 2 ((List.range 16).flatMap λi=>[Value.int .u8 (Lib.accLo i),Value.int .u8 (Lib.accHi i)]).toArray
 let h3:=put h2 3 (kG.map λn:Nat=>Value.int .u32 (n:Int)).toArray
 { w0 with heap:=h3 }
theorem laid_met (os:Os) (args:Array Value):laidMet Tryz.prog lays ((xY0 os).forCall (λ_ _=>0) ⟨#[],args,[]⟩).memory :=
 (LaidIn.of_run (l:=lays) [3,2,1] 10 (by kernel_rfl) (by kernel_rfl) (by kernel_rfl) (by kernel_rfl)).met
end
end Go.Proofs.YthgklnohcmaopaaGreatDoor
