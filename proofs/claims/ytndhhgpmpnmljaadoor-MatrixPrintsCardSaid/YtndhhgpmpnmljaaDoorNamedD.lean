import Derived.Test.YtndhhgpmpnmljaaDoorNamed
import Derived.Test.YtndhhgpmpnmljaaDoorUtfP
namespace Go.Proofs.YtndhhgpmpnmljaaDoor
open Go

theorem namedS_D (s : ByteArray) : namedS s = (!s.toList.isEmpty && decide (s.size ≤ 16) && !(runesD s.data.toList).any nameBad) := by
  unfold namedS; rw [idx_D]
end Go.Proofs.YtndhhgpmpnmljaaDoor
