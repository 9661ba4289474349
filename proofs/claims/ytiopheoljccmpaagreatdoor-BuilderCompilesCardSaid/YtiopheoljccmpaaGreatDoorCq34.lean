/- The texts CutP, one behind the other. -/
import Derived.Test.YtiopheoljccmpaaGreatDoorCq19
import Derived.WalkKit
import Derived.Lib.Strings
open Go.Lib renaming extract_data → Aa,size_eq → Ab
namespace Go.Proofs.YtiopheoljccmpaaGreatDoor
open Go Go.RowKit
theorem sD {s:ByteArray} {k:Nat} (h:k<s.size):s.data.toList.drop k=s[k]::s.data.toList.drop (k+1):=by
 have h2:k<s.data.toList.length:=by simpa using h
 rw[List.drop_eq_getElem_cons h2];rfl
theorem fG1 {s:ByteArray} {f k:Nat} (h1:f<=k) (_:k<=s.size):s.data.toList.drop f=(s.extract f k).data.toList++s.data.toList.drop k:=by
 rw[Aa];conv=>lhs;rw[<-List.take_append_drop (k-f) (s.data.toList.drop f)]
 rw[List.drop_drop,show f+(k-f)=k by omega]
theorem dZ1 {s:ByteArray} {f k:Nat} (h1:f<=k) (h2:k<s.size):(s.extract f (k+1)).data.toList=(s.extract f k).data.toList++[s[k]]:=by
 rw[Aa,Aa,show k+1-f=(k-f)+1 by omega]
 have h3:k-f<(s.data.toList.drop f).length:=by rw[List.length_drop,<-Ab];omega
 rw[List.take_succ_eq_append_getElem h3];congr 2
 rw[List.getElem_drop]
 have:s.data.toList[f+(k-f)]'(by rw[<-Ab];omega)=s.data.toList[k]'(by rw[<-Ab];omega):=by congr 1;omega
 rw[this];rfl
theorem kL0 (s:ByteArray) (k:Nat):(s.extract k k).data.toList=[]:=by rw[Aa]; simp
theorem nT0 {s:ByteArray} {f:Nat} (h:f<=s.size):(s.extract f s.size).data.toList=s.data.toList.drop f:=by
 have:=fG1 h (Nat.le_refl s.size)
 rw[this,Ab s,List.drop_length,List.append_nil]
end Go.Proofs.YtiopheoljccmpaaGreatDoor
