import Derived.Test.YtndhhgpmpnmljaaGreatDoorCards
import Derived.Test.YtndhhgpmpnmljaaGreatDoorTie
import Derived.Test.YtndhhgpmpnmljaaGreatDoorEnv
import Derived.WalkKit
import Derived.ProofKit
import Derived.OpenShut
import Derived.Deep.DeepHandedRow
import Derived.Deep.DeepWitnessRowRef
import Derived.Lib.LaidTab
import Derived.Lib.LaidIn
import Derived.Lib.LaidU8T
import Derived.Shelf.Vars
import Derived.SizedLaws
import Derived.Carry
namespace Go.Proofs.YtndhhgpmpnmljaaGreatDoor
open Go Go.ChangeShapes Go.WideShapes Go.ChangeAt Go.RowKit Go.Shelf Go.Lib

theorem own : ownKnob Tryz.prog.godebug = none := by kernel_rfl
theorem laidOut : laidOutB Tryz.prog = true := by kernel_rfl

/-- The list of the rows' variables. -/
def lays : List (String × DataW Unit) := [("math/bits.deBruijn32tab", Rows.laid_math_bits_deBruijn32tab), ("math/bits.deBruijn64tab", Rows.laid_math_bits_deBruijn64tab), ("internal/strconv.uint64pow10", Rows.laid_internal_strconv_uint64pow10), ("unicode/utf8.acceptRanges", Rows.laid_unicode_utf8_acceptRanges), ("strconv.ErrRange", Rows.laid_strconv_ErrRange), ("strconv.ErrSyntax", Rows.laid_strconv_ErrSyntax), ("unicode/utf8.first", Rows.laid_unicode_utf8_first)]
theorem e1 : Rows.laid_unicode_utf8_first = Lib.firstData := by kernel_rfl
theorem e2 : (Rows.laid_unicode_utf8_acceptRanges : DataW Unit) = Lib.acceptData := by kernel_rfl
theorem e3 : (Rows.laid_internal_strconv_uint64pow10 : DataW Unit) = Lib.tabData .u64 Lib.pow10Tab := by kernel_rfl
theorem lays_met {W : World} (h : laidMetH Tryz.prog lays W) : laidMet Tryz.prog lays W := h
theorem env_of {W : World} (h : laidMetH Tryz.prog lays W) (hS : W.ShapedOpen Tryz.prog) : Env W := by
  have hL := lays_met h
  have r1 : VarReads Tryz.prog W "unicode/utf8.first" firstData := by
    rw [← e1]; exact laidMet.reads hL (.tail _ (.tail _ (.tail _ (.tail _ (.tail _ (.tail _ (.head _)))))))
  have r2 : VarReads Tryz.prog W "unicode/utf8.acceptRanges" acceptData := by
    rw [← e2]; exact laidMet.reads hL (.tail _ (.tail _ (.tail _ (.head _))))
  have r3 : VarReads Tryz.prog W "internal/strconv.uint64pow10" (tabData .u64 pow10Tab) := by
    rw [← e3]; exact laidMet.reads hL (.tail _ (.tail _ (.head _)))
  refine ⟨utf8Tabs_of_readsT (U8Types.of196 Tryz.laysValid) ⟨by kernel_rfl, by kernel_rfl, by kernel_rfl, by kernel_rfl, by kernel_rfl, by kernel_rfl, by kernel_rfl⟩ r1 r2, ?_, ?_⟩
  · exact cell_of_shapedOpen_int (P := Tryz.prog) (g := 4) (t := 3) (zero := #[.int .i64 0]) hS (of_decide_eq_true (by kernel_rfl)) (by kernel_rfl) rfl (by kernel_rfl) (by kernel_rfl) Tryz.underlying3
  · obtain ⟨g, t, cs, fuel, p, hg, hty, hvar, hd⟩ := r3
    have ht : (Tryz.prog.globals[5]?).map (·.type) = some 217 := by kernel_rfl
    obtain rfl := Option.some.inj (gPow.symm.trans hg)
    obtain rfl := Option.some.inj (ht.symm.trans hty)
    have hcs := cells_of_tab Tryz.underlying217 Tryz.underlying96 (by kernel_rfl) (by kernel_rfl) hd
    unfold TabIs
    rw [hvar, ← hcs]
end Go.Proofs.YtndhhgpmpnmljaaGreatDoor
