/- The texts SplitP Bl, one behind the other. -/
import Derived.Lib.SplitLaws
import Derived.Lib.Strings
import Derived.Lib.Join
open Go.Lib renaming size_eq → Aa
namespace Go.Proofs.YthgklnohcmaopaaGreatDoor
section
open Go
def mkB (l:List UInt8):ByteArray:=⟨l.toArray⟩
theorem gO (l:List UInt8):(mkB l).data.toList=l:=rfl
theorem gA0 (s:ByteArray):mkB s.data.toList=s:=Lib.mk_data s
theorem vA0 {a b:List UInt8} (h:mkB a=mkB b):a=b:=by grind [gO]
theorem oJ {a b:ByteArray} (h:a.data.toList=b.data.toList):a=b:=by grind [gA0]
def bl (s:ByteArray):List UInt8:=s.data.toList
theorem gJ (s:ByteArray):(bl s).length=s.size:=(Aa s).symm
theorem oV {s:ByteArray} {k:Nat} (h:k<s.size):(bl s)[k]?=some s[k]:=by
 unfold bl;rw[List.getElem?_eq_getElem (by rw[<-Aa];exact h)];rfl
theorem bM {α:Type} {l:List α} {k:Nat} {x:α} (h:l[k]?=some x):l.take (k+1)=l.take k++[x]:=by
 rw[List.take_add_one,h];rfl
end
end Go.Proofs.YthgklnohcmaopaaGreatDoor
