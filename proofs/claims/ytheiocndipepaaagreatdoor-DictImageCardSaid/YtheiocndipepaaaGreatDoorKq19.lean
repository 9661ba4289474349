/- The texts SplitP, one behind the other. -/
import Derived.Lib.SplitLaws
import Derived.Lib.Strings
import Derived.Lib.Join
namespace Go.Proofs.YtheiocndipepaaaGreatDoor
open Go
def mkB (l:List UInt8):ByteArray:=⟨l.toArray⟩
theorem gZ (l:List UInt8):(mkB l).data.toList=l:=rfl
theorem mR (s:ByteArray):mkB s.data.toList=s:=Lib.mk_data s
theorem lH1 {a b:List UInt8} (h:mkB a=mkB b):a=b:=by rw[<-gZ a,h,gZ]
theorem cN0 {a b:ByteArray} (h:a.data.toList=b.data.toList):a=b:=by rw[<-mR a,h,mR]
end Go.Proofs.YtheiocndipepaaaGreatDoor
