import Derived.Test.YtfkebhkckcnlpaaGreatDoorMem
import Derived.Test.YtfkebhkckcnlpaaGreatDoorProg
import Derived.Test.YtfkebhkckcnlpaaGreatDoorUtfP
namespace Go.Proofs.YtfkebhkckcnlpaaGreatDoor
open Go Go.RowKit
attribute [local go_sem] quietE

set_option maxHeartbeats 1000000 in
theorem length_any (b : Nat) (hb : b < 256) (w : World) :
    Calls Tryz.prog 123 #[.int .u8 b] w fun e w' => e = .returned (.tuple #[.int .i64 ((lenS b).1 : Nat), .int .i32 ((lenS b).2 : Nat)]) ∧ w = w' := by
  have h : (b < 128 ∧ lenS b = (1, b)) ∨ (192 ≤ b ∧ b < 224 ∧ lenS b = (2, b - 192)) ∨ (224 ≤ b ∧ b < 240 ∧ lenS b = (3, b - 224)) ∨ (240 ≤ b ∧ b < 248 ∧ lenS b = (4, b - 240)) ∨ (128 ≤ b ∧ b < 192 ∧ lenS b = (0, 0)) ∨ (248 ≤ b ∧ lenS b = (0, 0)) := by
    unfold lenS
    repeat' split
    all_goals simp only [and_true]
    all_goals omega
  rcases h with ⟨h1, h⟩ | ⟨h1, h2, h⟩ | ⟨h1, h2, h⟩ | ⟨h1, h2, h⟩ | ⟨h1, h2, h⟩ | ⟨h1, h⟩ <;> rw [h] <;> clear h
  · have g1 : (b : Int) < 128 := by omega
    go_enter Tryz.func123, Tryz.ntmps123
    go_wp2
    go_ret2
    exact ⟨rfl, rfl⟩
  · have g1 : ¬ (b : Int) < 128 := by omega
    have g2 : (192 : Int) ≤ b := by omega
    have g3 : (b : Int) < 224 := by omega
    have g4 : ((b - 192 : Nat) : Int) = (b : Int) - 192 := by omega
    rw [g4]
    go_enter Tryz.func123, Tryz.ntmps123
    go_wp2
    go_ret2
    exact ⟨rfl, rfl⟩
  · have g1 : ¬ (b : Int) < 128 := by omega
    have g2 : (192 : Int) ≤ b := by omega
    have g3 : ¬ (b : Int) < 224 := by omega
    have g5 : (224 : Int) ≤ b := by omega
    have g6 : (b : Int) < 240 := by omega
    have g4 : ((b - 224 : Nat) : Int) = (b : Int) - 224 := by omega
    rw [g4]
    go_enter Tryz.func123, Tryz.ntmps123
    go_wp2
    go_ret2
    exact ⟨rfl, rfl⟩
  · have g1 : ¬ (b : Int) < 128 := by omega
    have g2 : (192 : Int) ≤ b := by omega
    have g3 : ¬ (b : Int) < 224 := by omega
    have g5 : (224 : Int) ≤ b := by omega
    have g6 : ¬ (b : Int) < 240 := by omega
    have g7 : (240 : Int) ≤ b := by omega
    have g8 : (b : Int) < 248 := by omega
    have g4 : ((b - 240 : Nat) : Int) = (b : Int) - 240 := by omega
    rw [g4]
    go_enter Tryz.func123, Tryz.ntmps123
    go_wp2
    go_ret2
    exact ⟨rfl, rfl⟩
  · have g1 : ¬ (b : Int) < 128 := by omega
    have g2 : ¬ (192 : Int) ≤ b := by omega
    have g5 : ¬ (224 : Int) ≤ b := by omega
    have g7 : ¬ (240 : Int) ≤ b := by omega
    go_enter Tryz.func123, Tryz.ntmps123
    go_wp2
    go_ret2
    exact ⟨rfl, rfl⟩
  · have g1 : ¬ (b : Int) < 128 := by omega
    have g2 : (192 : Int) ≤ b := by omega
    have g3 : ¬ (b : Int) < 224 := by omega
    have g5 : (224 : Int) ≤ b := by omega
    have g6 : ¬ (b : Int) < 240 := by omega
    have g7 : (240 : Int) ≤ b := by omega
    have g8 : ¬ (b : Int) < 248 := by omega
    go_enter Tryz.func123, Tryz.ntmps123
    go_wp2
    go_ret2
    exact ⟨rfl, rfl⟩

set_option maxHeartbeats 1000000 in
theorem character_any (c : Int) (w : World) :
    Calls Tryz.prog 124 #[.int .i32 c] w fun e w' => e = .returned (.bool (charS c)) ∧ w = w' := by
  go_enter Tryz.func124, Tryz.ntmps124
  go_wp2
  all_goals go_ret
  · exact ⟨by unfold charS; simp [*], rfl⟩
  · exact ⟨by unfold charS; simp [*], rfl⟩
  · have h : ¬ c ≤ 1114111 := by omega
    exact ⟨by unfold charS; simp [h], rfl⟩
  · have h : ¬ 0 ≤ c := by omega
    exact ⟨by unfold charS; simp [h], rfl⟩
end Go.Proofs.YtfkebhkckcnlpaaGreatDoor
