/- The texts CutP, one behind the other. -/
import Derived.Test.YtjhajgffmnkocaaGreatDoorPq19
import Derived.WalkKit
import Derived.Lib.Strings
namespace Go.Proofs.YtjhajgffmnkocaaGreatDoor
open Go Go.RowKit
end Go.Proofs.YtjhajgffmnkocaaGreatDoor
