import Derived.Test.YtfkebhkckcnlpaaGreatDoorKana
import Derived.Test.YtfkebhkckcnlpaaGreatDoorNamed
import Derived.Test.YtfkebhkckcnlpaaGreatDoorUtfP
namespace Go.Proofs.YtfkebhkckcnlpaaGreatDoor
open Go

theorem readingS_D (s : ByteArray) : readingS s = (Lib.validD s.data.toList && decide (1 ≤ (runesD s.data.toList).length) && decide ((runesD s.data.toList).length ≤ 64) && !(runesD s.data.toList).any kanaBad) := by
  unfold readingS countS
  rw [idx_D, runeCount_D]
  cases Lib.validD s.data.toList
  · simp
  · simp only [if_true, Bool.true_and]
    congr 2
    · rw [Bool.eq_iff_iff]; simp only [decide_eq_true_eq]; omega
    · rw [Bool.eq_iff_iff]; simp only [decide_eq_true_eq]; omega
theorem surfaceS_D (s : ByteArray) : surfaceS s = (Lib.validD s.data.toList && decide (1 ≤ (runesD s.data.toList).length) && decide ((runesD s.data.toList).length ≤ 64) && !(runesD s.data.toList).any surfBad) := by
  unfold surfaceS countS
  rw [idx_D, runeCount_D]
  cases Lib.validD s.data.toList
  · simp
  · simp only [if_true, Bool.true_and]
    congr 2
    · rw [Bool.eq_iff_iff]; simp only [decide_eq_true_eq]; omega
    · rw [Bool.eq_iff_iff]; simp only [decide_eq_true_eq]; omega
theorem namedS_D (s : ByteArray) : namedS s = (!s.toList.isEmpty && decide (s.size ≤ 16) && !(runesD s.data.toList).any nameBad) := by
  unfold namedS; rw [idx_D]
end Go.Proofs.YtfkebhkckcnlpaaGreatDoor
