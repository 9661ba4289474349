import Derived.Test.YtndhhgpmpnmljaaDoorPos
import Derived.Test.YtndhhgpmpnmljaaDoorShelf
namespace Go.Proofs.YtndhhgpmpnmljaaDoor
open Go Go.RowKit Go.Shelf
attribute [local go_sem] quietE

def nameBad (c : Nat) : Bool := (decide (c < 65) || decide (90 < c)) && (decide (c < 97) || decide (122 < c)) && (decide (c < 48) || decide (57 < c)) && !(c == 95) && !(c == 45)

set_option maxHeartbeats 1000000 in
theorem named1_any (w : World) : PredAt Tryd.prog 59 #[] encR nameBad w := fun W x _ => by
  unfold FnGives
  show Calls Tryd.prog 59 #[.int .i32 (x : Int)] W _
  go_enter Tryd.func59, Tryd.ntmps59
  go_wp2
  all_goals (go_ret; refine ⟨ret_bool ?_, 0, rfl⟩; rw [Bool.eq_iff_iff]; simp [nameBad]; try omega)

/-- What pos.named says. -/
def namedS (s : ByteArray) : Bool := !s.toList.isEmpty && decide (s.size ≤ 16) && !decide (0 ≤ Lib.idxFunc nameBad true s)
set_option maxHeartbeats 1000000 in
theorem named_any (s : ByteArray) (w : World) :
    Calls Tryd.prog 42 #[.string s] w fun e w' => e = .returned (.bool (namedS s)) ∧ Grows w w' := by
  have con := Lib.hid (Tryd.strings_ContainsFunc 59 #[] (enters_of Tryd.func59 (by kernel_rfl) rfl) nameBad s w (named1_any w))
  unfold namedS
  generalize decide (0 ≤ Lib.idxFunc nameBad true s) = r at con ⊢
  cases he : s.toList.isEmpty
  · have h1 : (!s.toList.isEmpty) = true := by rw [he]; rfl
    by_cases hz : s.size ≤ 16
    · have hz' : (s.size : Int) ≤ 16 := by omega
      go_enter Tryd.func42, Tryd.ntmps42
      go_wp2_with (go_at_call 58; refine con.out.mono ?_; rintro e w' ⟨rfl, hg2⟩)
      go_ret
      exact ⟨ret_bool (by simp [hz]), hg2⟩
    · go_enter Tryd.func42, Tryd.ntmps42
      go_wp2
      go_ret
      exact ⟨rfl, Grows.refl _⟩
  · go_enter Tryd.func42, Tryd.ntmps42
    go_wp2
    go_ret
    exact ⟨rfl, Grows.refl _⟩
end Go.Proofs.YtndhhgpmpnmljaaDoor
