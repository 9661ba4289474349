/- The texts SplitP, one behind the other. -/
import Derived.Lib.SplitLaws
import Derived.Lib.Strings
import Derived.Lib.Join
namespace Go.Proofs.YtcijgkfpobpdbaaGreatDoor
open Go
def mkB (l:List UInt8):ByteArray:=⟨l.toArray⟩
theorem fA (l:List UInt8):(mkB l).data.toList=l:=rfl
theorem kD (s:ByteArray):mkB s.data.toList=s:=Lib.mk_data s
theorem kL1 {a b:List UInt8} (h:mkB a=mkB b):a=b:=by rw[<-fA a,h,fA]
theorem aQ0 {a b:ByteArray} (h:a.data.toList=b.data.toList):a=b:=by rw[<-kD a,h,kD]
end Go.Proofs.YtcijgkfpobpdbaaGreatDoor
