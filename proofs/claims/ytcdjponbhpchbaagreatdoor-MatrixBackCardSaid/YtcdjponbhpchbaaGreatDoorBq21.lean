/- The texts CutP, one behind the other. -/
import Derived.Test.YtcdjponbhpchbaaGreatDoorBq7
import Derived.WalkKit
import Derived.Lib.Strings
namespace Go.Proofs.YtcdjponbhpchbaaGreatDoor
open Go Go.RowKit

theorem drop_step {s : ByteArray} {k : Nat} (h : k < s.size) : s.data.toList.drop k = s[k] :: s.data.toList.drop (k + 1) := by
  have h2 : k < s.data.toList.length := by simpa using h
  rw [List.drop_eq_getElem_cons h2]; rfl
theorem cut_eq {s : ByteArray} {f k : Nat} (h1 : f ≤ k) (_ : k ≤ s.size) : s.data.toList.drop f = (s.extract f k).data.toList ++ s.data.toList.drop k := by
  rw [Lib.extract_data]
  conv => lhs; rw [← List.take_append_drop (k - f) (s.data.toList.drop f)]
  rw [List.drop_drop, show f + (k - f) = k by omega]
theorem cut_snoc {s : ByteArray} {f k : Nat} (h1 : f ≤ k) (h2 : k < s.size) : (s.extract f (k + 1)).data.toList = (s.extract f k).data.toList ++ [s[k]] := by
  rw [Lib.extract_data, Lib.extract_data, show k + 1 - f = (k - f) + 1 by omega]
  have h3 : k - f < (s.data.toList.drop f).length := by rw [List.length_drop, ← Lib.size_eq]; omega
  rw [List.take_succ_eq_append_getElem h3]
  congr 2
  rw [List.getElem_drop]
  have : s.data.toList[f + (k - f)]'(by rw [← Lib.size_eq]; omega) = s.data.toList[k]'(by rw [← Lib.size_eq]; omega) := by congr 1; omega
  rw [this]; rfl
theorem cut_empty (s : ByteArray) (k : Nat) : (s.extract k k).data.toList = [] := by rw [Lib.extract_data]; simp
theorem cut_full {s : ByteArray} {f : Nat} (h : f ≤ s.size) : (s.extract f s.size).data.toList = s.data.toList.drop f := by
  have := cut_eq h (Nat.le_refl s.size)
  rw [this, Lib.size_eq s, List.drop_length, List.append_nil]
end Go.Proofs.YtcdjponbhpchbaaGreatDoor
