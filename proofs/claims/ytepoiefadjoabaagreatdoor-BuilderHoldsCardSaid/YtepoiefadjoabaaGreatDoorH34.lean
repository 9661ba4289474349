/- The texts CutP, one behind the other. -/
import Derived.Test.YtepoiefadjoabaaGreatDoorH20
import Derived.WalkKit
import Derived.Lib.Strings
namespace Go.Proofs.YtepoiefadjoabaaGreatDoor
open Go Go.RowKit
end Go.Proofs.YtepoiefadjoabaaGreatDoor
