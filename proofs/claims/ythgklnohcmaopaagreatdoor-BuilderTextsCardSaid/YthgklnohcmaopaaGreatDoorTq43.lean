/- The texts SplitV Split16, one behind the other. -/
import Derived.Test.YthgklnohcmaopaaGreatDoorTq1
import Derived.Test.YthgklnohcmaopaaGreatDoorTq36
import Derived.Test.YthgklnohcmaopaaGreatDoorProg
namespace Go.Proofs.YthgklnohcmaopaaGreatDoor
section
open Go Go.RowKit
attribute [local go_sem] aK
def bS1 (x:ByteArray):List Value:=[.string x]
end
end Go.Proofs.YthgklnohcmaopaaGreatDoor
