import Derived.Test.YtndhhgpmpnmljaaGreatDoorPos
import Derived.Test.YtndhhgpmpnmljaaGreatDoorShelf
namespace Go.Proofs.YtndhhgpmpnmljaaGreatDoor
open Go Go.RowKit Go.Shelf
attribute [local go_sem] quietE

def nameBad (c : Nat) : Bool := (decide (c < 65) || decide (90 < c)) && (decide (c < 97) || decide (122 < c)) && (decide (c < 48) || decide (57 < c)) && !(c == 95) && !(c == 45)

set_option maxHeartbeats 1000000 in
theorem named1_any (w : World) : PredAt Tryz.prog 99 #[] encR nameBad w := fun W x _ => by
  unfold FnGives
  show Calls Tryz.prog 99 #[.int .i32 (x : Int)] W _
  go_enter Tryz.func99, Tryz.ntmps99
  go_wp2
  all_goals (go_ret; refine ⟨ret_bool ?_, 0, rfl⟩; rw [Bool.eq_iff_iff]; simp [nameBad]; try omega)

/-- What pos.named says. -/
def namedS (s : ByteArray) : Bool := !s.toList.isEmpty && decide (s.size ≤ 16) && !decide (0 ≤ Lib.idxFunc nameBad true s)
set_option maxHeartbeats 1000000 in
theorem named_any (s : ByteArray) (w : World) :
    Calls Tryz.prog 66 #[.string s] w fun e w' => e = .returned (.bool (namedS s)) ∧ Grows w w' := by
  have con := Lib.hid (Tryz.strings_ContainsFunc 99 #[] (enters_of Tryz.func99 (by kernel_rfl) rfl) nameBad s w (named1_any w))
  unfold namedS
  generalize decide (0 ≤ Lib.idxFunc nameBad true s) = r at con ⊢
  cases he : s.toList.isEmpty
  · have h1 : (!s.toList.isEmpty) = true := by rw [he]; rfl
    by_cases hz : s.size ≤ 16
    · have hz' : (s.size : Int) ≤ 16 := by omega
      go_enter Tryz.func66, Tryz.ntmps66
      go_wp2_with (go_at_call 93; refine con.out.mono ?_; rintro e w' ⟨rfl, hg2⟩)
      go_ret
      exact ⟨ret_bool (by simp [hz]), hg2⟩
    · go_enter Tryz.func66, Tryz.ntmps66
      go_wp2
      go_ret
      exact ⟨rfl, Grows.refl _⟩
  · go_enter Tryz.func66, Tryz.ntmps66
    go_wp2
    go_ret
    exact ⟨rfl, Grows.refl _⟩
end Go.Proofs.YtndhhgpmpnmljaaGreatDoor
