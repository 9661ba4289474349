/- The texts CutP, one behind the other. -/
import Derived.Test.YtheiocndipepaaaGreatDoorKq19
import Derived.WalkKit
import Derived.Lib.Strings
namespace Go.Proofs.YtheiocndipepaaaGreatDoor
open Go Go.RowKit
theorem yJ0 {s:ByteArray} {k:Nat} (h:k<s.size):s.data.toList.drop k=s[k]::s.data.toList.drop (k+1):=by
 have h2:k<s.data.toList.length:=by simpa using h
 rw[List.drop_eq_getElem_cons h2];rfl
end Go.Proofs.YtheiocndipepaaaGreatDoor
