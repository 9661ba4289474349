/- The texts Upto, one behind the other. -/
import Derived.Test.YtcdjponbhpchbaaDoorRows
namespace Go.Proofs.YtcdjponbhpchbaaDoor
open Go

theorem bulk_pos {H : Type} (d : DataW H) : 1 ≤ Rows.uptoBulk d := by
  cases d with
  | lit l => cases l <;> simp [Rows.uptoBulk]
  | _ => simp [Rows.uptoBulk]
theorem bulk_len {H : Type} : ∀ l : List (DataW H), l.length ≤ Rows.uptoBulkAll l
  | [] => Nat.zero_le _
  | d :: r => by
    have h1 := bulk_pos d
    have h2 := bulk_len r
    simp only [List.length_cons, Rows.uptoBulkAll]
    omega
theorem bulk_mem {H : Type} {d : DataW H} : ∀ {l : List (DataW H)}, d ∈ l → Rows.uptoBulk d ≤ Rows.uptoBulkAll l
  | [], h => by cases h
  | e :: r, h => by
    simp only [Rows.uptoBulkAll]
    rcases List.mem_cons.1 h with rfl | h
    · omega
    · have := bulk_mem h
      omega
/-- A slice among the arguments is short. -/
theorem bulk_slice {H : Type} {ds : List (DataW H)} (hk : Rows.uptoSmall H ds = true) {d : DataW H} (hm : d ∈ ds) {n : Nat} (h : (d = .nil ∧ n = 0) ∨ ∃ el sp, d = .slice el sp ∧ el.length = n) : n ≤ 1048576 := by
  have h1 : Rows.uptoBulkAll ds ≤ 1048576 := of_decide_eq_true hk
  have h2 := bulk_mem hm
  rcases h with ⟨_, rfl⟩ | ⟨el, sp, rfl, rfl⟩
  · exact Nat.zero_le _
  · have h3 := bulk_len el
    simp only [Rows.uptoBulk] at h2
    omega
/-- A string among the arguments is short. -/
theorem bulk_string {H : Type} {ds : List (DataW H)} (hk : Rows.uptoSmall H ds = true) {b : List UInt8} (hm : (DataW.lit (.string b)) ∈ ds) : b.length ≤ 1048576 := by
  have h1 : Rows.uptoBulkAll ds ≤ 1048576 := of_decide_eq_true hk
  have h2 := bulk_mem hm
  simp only [Rows.uptoBulk] at h2
  omega
end Go.Proofs.YtcdjponbhpchbaaDoor
