/- The texts CutP, one behind the other. -/
import Derived.Test.YtaogeadljgjpcaaGreatDoorRq19
import Derived.WalkKit
import Derived.Lib.Strings
namespace Go.Proofs.YtaogeadljgjpcaaGreatDoor
open Go Go.RowKit
end Go.Proofs.YtaogeadljgjpcaaGreatDoor
