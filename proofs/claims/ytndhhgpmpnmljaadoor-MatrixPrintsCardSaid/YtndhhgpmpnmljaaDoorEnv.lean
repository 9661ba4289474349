import Derived.Test.YtndhhgpmpnmljaaDoorMem
import Derived.Test.YtndhhgpmpnmljaaDoorShelf
import Derived.WalkSmall
import Derived.Lib.LaidTab
namespace Go.Proofs.YtndhhgpmpnmljaaDoor
open Go Go.RowKit Go.Shelf

/-- What the library's variables hold. -/
structure Env (w : World) : Prop where
  pow : Lib.TabIs Tryd.prog w "internal/strconv.uint64pow10" .u64 Lib.pow10Tab

theorem gPow : Tryd.prog.globalNamed "internal/strconv.uint64pow10" = some 0 := by kernel_rfl

theorem Env.grows {w w' : World} (h : Env w) (hg : Grows w w') : Env w' where
  pow := var?_below hg.below gPow (World.block_lt_of_cell? w _ (h.pow.cell gPow 0 (by decide))) h.pow
theorem grow_grows (w : World) (k : Nat) (os : Array Obj) : Grows w (Sort.grow (w.drewN k) os) := by
  have h1 : Grows w (w.drewN k) := below_drewN (Below.refl _ w) k
  refine h1.tr ⟨rfl, rfl, rfl, by simp [Sort.grow], fun i hi => ?_⟩
  show (_ ++ os)[i]? = _
  rw [Array.getElem?_append_left hi]
theorem iter_grows (w : World) (s : ByteArray) (p : Nat) : Grows w (w.iter s p) := Grows.alloc _ _
end Go.Proofs.YtndhhgpmpnmljaaDoor
