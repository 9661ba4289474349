/- The texts Witness, one behind the other. -/
import Derived.Test.YtheiocndipepaaaGreatDoorKq15
namespace Go.Proofs.YtheiocndipepaaaGreatDoor
open Go Go.ChangeShapes Go.WideShapes Go.ChangeAt Go.RowKit Go.Shelf Go.Lib
noncomputable def dW (os:Os):World :=
 let w0:=World.holding Tryz.prog os ⟨#[],#[],[]⟩
 let put (h:Array Obj) (g:Nat) (cs:Array Value):Array Obj:=h.modify g λ
  | .cells _ t frozen => .cells cs t frozen
  | o=>o
 let h1:=put w0.heap 1 (Lib.firstTab.map λz=>Value.int .u8 z).toArray
 let h2:=put h1 2 ((List.range 16).flatMap λi=>[Value.int .u8 (Lib.accLo i),Value.int .u8 (Lib.accHi i)]).toArray
 let h3:=put h2 0 (kW.map λn:Nat=>Value.int .u32 (n:Int)).toArray
 { w0 with heap:=h3 }
theorem vG (os:Os) (args:Array Value):laidMet Tryz.prog lays ((dW os).forCall (λ_ _=>0) ⟨#[],args,[]⟩).memory :=
 (LaidIn.of_run (l:=lays) [0,2,1] 10 (by kernel_rfl) (by kernel_rfl) (by kernel_rfl) (by kernel_rfl)).met
end Go.Proofs.YtheiocndipepaaaGreatDoor
