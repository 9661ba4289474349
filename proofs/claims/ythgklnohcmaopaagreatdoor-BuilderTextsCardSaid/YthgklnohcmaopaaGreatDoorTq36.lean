/- The texts CutP, one behind the other. -/
import Derived.Test.YthgklnohcmaopaaGreatDoorTq19
import Derived.WalkKit
import Derived.Lib.Strings
namespace Go.Proofs.YthgklnohcmaopaaGreatDoor
open Go Go.RowKit
end Go.Proofs.YthgklnohcmaopaaGreatDoor
