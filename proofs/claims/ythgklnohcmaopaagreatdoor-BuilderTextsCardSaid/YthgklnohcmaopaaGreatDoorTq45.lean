/- The texts RefL16 RefLw RefPar, one behind the other. -/
import Derived.Test.YthgklnohcmaopaaGreatDoorTq18
import Derived.Test.YthgklnohcmaopaaGreatDoorTq37
import Derived.Test.YthgklnohcmaopaaGreatDoorTq43
import Derived.Test.YthgklnohcmaopaaGreatDoorTq20
import Derived.OneCell
import Derived.Test.YthgklnohcmaopaaGreatDoorTq21
namespace Go.Proofs.YthgklnohcmaopaaGreatDoor
section
open Go Go.RowKit Go.Shelf
attribute [local go_sem] aK aP
theorem cU0 (c:UInt8) (s:ByteArray):splitS c s=(cE c s.data.toList).map mkB:=tS c s
theorem eJ0 (c:UInt8) (s:ByteArray):(splitS c s).length<=s.size+1:=by
 rw[cU0,List.length_map,Lib.size_eq]
 have key:∀l:List UInt8,(cE c l).length<=l.length+1:=by
  intro l
  induction l with
  | nil=>simp[cE]
  | cons b l ih =>
   obtain⟨x,r,hx⟩:=uD c l;unfold cE;rw[hx]at ih ⊢;split<;>simp at ih ⊢ <;> omega
 exact key _
end
end Go.Proofs.YthgklnohcmaopaaGreatDoor
