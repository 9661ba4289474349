/-
  DERIVED: THE SHELF's CONTRACTS AT THIS DUMP, IN PLAIN WORDS (tools/lay-plain.mjs out of 'YtiopheoljccmpaaGreatDoorShelf3.lean', which tools/lay-shelf.mjs wrote): THE SAME DECLARATIONS UNDER THE SAME NAMES: 'import', 'namespace', 'open', 'def', 'theorem' AND NOTHING ELSE: no command of the shelf's: FOR A HAND-IN. Each laying: the table of numbers ('.._ren') and one theorem, a field a fact of the dump's own or the kernel's comparison; each contract: ONE APPLICATION.
-/
import Derived.Shelf.SlGeneric
import Derived.Shelf.SlSorted.Search
import Derived.Ground.SlsoProg
import Derived.Test.YtiopheoljccmpaaGreatDoorProg
namespace Go.Proofs
open Go.Shelf
def Tryz.searchI_ren : Go.Shelf.Ren := ⟨fun | 16 => 159 | n => n, fun | 3 => 3 | 35 => 155 | 4 => 4 | 38 => 204 | n => n, fun | n => n⟩
theorem Tryz.searchI : Go.Proofs.SlLaysO.n16 Tryz.prog Tryz.searchI_ren := {
  mixed := by kernel_rfl
  f16 := Tryz.func159.trans (congrArg some (by kernel_rfl))
  t3 := Tryz.underlying3
  a3 := Tryz.isAgg3
  z3 := Tryz.sizeOf3
  v3 := Tryz.zeroValue3
  t4 := Tryz.underlying4
  a4 := Tryz.isAgg4
  z4 := Tryz.sizeOf4
  v4 := Tryz.zeroValue4
  t35 := Tryz.underlying155
  a35 := Tryz.isAgg155
  z35 := Tryz.sizeOf155
  v35 := Tryz.zeroValue155
  t38 := Tryz.underlying204
  a38 := Tryz.isAgg204
  z38 := Tryz.sizeOf204
  v38 := Tryz.zeroValue204 }
end Go.Proofs
