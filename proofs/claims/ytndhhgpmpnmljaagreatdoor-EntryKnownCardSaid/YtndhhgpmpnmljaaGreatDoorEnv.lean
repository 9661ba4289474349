import Derived.Test.YtndhhgpmpnmljaaGreatDoorMem
import Derived.Test.YtndhhgpmpnmljaaGreatDoorShelf
import Derived.WalkSmall
import Derived.Lib.LaidTab
namespace Go.Proofs.YtndhhgpmpnmljaaGreatDoor
open Go Go.RowKit Go.Shelf

/-- What the library's variables hold. -/
structure Env (w : World) : Prop where
  utf : Lib.Utf8Tabs 0 1 w
  mx : ∃ m, w.cell? ⟨4, 0, none⟩ = some (.int .i64 m)
  pow : Lib.TabIs Tryz.prog w "internal/strconv.uint64pow10" .u64 Lib.pow10Tab

theorem gPow : Tryz.prog.globalNamed "internal/strconv.uint64pow10" = some 5 := by kernel_rfl

theorem Env.grows {w w' : World} (h : Env w) (hg : Grows w w') : Env w' where
  utf := ⟨fun c hc => hg.cell (h.utf.1 c hc), fun i hi => ⟨hg.cell (h.utf.2 i hi).1, hg.cell (h.utf.2 i hi).2⟩⟩
  mx := let ⟨m, hm⟩ := h.mx; ⟨m, hg.cell hm⟩
  pow := var?_below hg.below gPow (World.block_lt_of_cell? w _ (h.pow.cell gPow 0 (by decide))) h.pow
theorem grow_grows (w : World) (k : Nat) (os : Array Obj) : Grows w (Sort.grow (w.drewN k) os) := by
  have h1 : Grows w (w.drewN k) := below_drewN (Below.refl _ w) k
  refine h1.tr ⟨rfl, rfl, rfl, by simp [Sort.grow], fun i hi => ?_⟩
  show (_ ++ os)[i]? = _
  rw [Array.getElem?_append_left hi]
theorem iter_grows (w : World) (s : ByteArray) (p : Nat) : Grows w (w.iter s p) := Grows.alloc _ _
end Go.Proofs.YtndhhgpmpnmljaaGreatDoor
