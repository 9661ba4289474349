/- The texts DecP, one behind the other. -/
import Derived.Test.YtiopheoljccmpaaGreatDoorCq17
import Derived.Lib.ItoaMem
namespace Go.Proofs.YtiopheoljccmpaaGreatDoor
open Go
theorem dG0:∀(l:List UInt8) (c:UInt8) (acc:Nat),xQ acc (l++[c])=xQ acc l*10+(c.toNat-48)
 | [],c,acc=>rfl
 | b::l,c,acc=>by
  show xQ (acc*10+(b.toNat-48)) (l++[c])=xQ (acc*10+(b.toNat-48)) l*10+_
  exact dG0 l c _
theorem mH0 (l:List UInt8) (c:UInt8):decVal (l++[c])=decVal l*10+(c.toNat-48):=dG0 l c 0
end Go.Proofs.YtiopheoljccmpaaGreatDoor
