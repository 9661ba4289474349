/- The texts Mat4, one behind the other. -/
import Derived.Test.YtcdjponbhpchbaaDoorDq11
import Derived.Test.YtcdjponbhpchbaaDoorDq1
import Derived.Test.YtcdjponbhpchbaaDoorShelf2
import Derived.Shelf.SlMaps.Clone
namespace Go.Proofs.YtcdjponbhpchbaaDoor
open Go Go.RowKit Go.Shelf
attribute [local go_sem] quietE
end Go.Proofs.YtcdjponbhpchbaaDoor
