import Derived.Test.YtndhhgpmpnmljaaDoorCards
import Derived.Test.YtndhhgpmpnmljaaDoorTie
import Derived.Test.YtndhhgpmpnmljaaDoorEnv
import Derived.WalkKit
import Derived.ProofKit
import Derived.OpenShut
import Derived.Deep.DeepHandedRow
import Derived.Deep.DeepWitnessRowRef
import Derived.Lib.LaidTab
import Derived.Lib.LaidIn
import Derived.Lib.LaidU8T
import Derived.Shelf.Vars
import Derived.SizedLaws
import Derived.Carry
namespace Go.Proofs.YtndhhgpmpnmljaaDoor
open Go Go.ChangeShapes Go.WideShapes Go.ChangeAt Go.RowKit Go.Shelf Go.Lib

theorem own : ownKnob Tryd.prog.godebug = none := by kernel_rfl
theorem laidOut : laidOutB Tryd.prog = true := by kernel_rfl

/-- The list of the rows' variables. -/
def lays : List (String × DataW Unit) := [("math/bits.deBruijn32tab", Rows.laid_math_bits_deBruijn32tab), ("math/bits.deBruijn64tab", Rows.laid_math_bits_deBruijn64tab), ("internal/strconv.uint64pow10", Rows.laid_internal_strconv_uint64pow10)]
theorem e3 : (Rows.laid_internal_strconv_uint64pow10 : DataW Unit) = Lib.tabData .u64 Lib.pow10Tab := by kernel_rfl
theorem lays_met {W : World} (h : laidMetH Tryd.prog lays W) : laidMet Tryd.prog lays W := h
theorem env_of {W : World} (h : laidMetH Tryd.prog lays W) (_ : W.ShapedOpen Tryd.prog) : Env W := by
  have hL := lays_met h
  have r3 : VarReads Tryd.prog W "internal/strconv.uint64pow10" (tabData .u64 pow10Tab) := by
    rw [← e3]; exact laidMet.reads hL (.tail _ (.tail _ (.head _)))
  refine ⟨?_⟩
  obtain ⟨g, t, cs, fuel, p, hg, hty, hvar, hd⟩ := r3
  have ht : (Tryd.prog.globals[0]?).map (·.type) = some 131 := by kernel_rfl
  obtain rfl := Option.some.inj (gPow.symm.trans hg)
  obtain rfl := Option.some.inj (ht.symm.trans hty)
  have hcs := cells_of_tab Tryd.underlying131 Tryd.underlying83 (by kernel_rfl) (by kernel_rfl) hd
  unfold TabIs
  rw [hvar, ← hcs]
end Go.Proofs.YtndhhgpmpnmljaaDoor
