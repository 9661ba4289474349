import Derived.Test.YtndhhgpmpnmljaaGreatDoorWorks
namespace Go.Proofs.YtndhhgpmpnmljaaGreatDoor
open Go Go.RowKit Go.Shelf
attribute [local go_sem] quietE

set_option maxHeartbeats 1000000 in
theorem wrong_any (text : ByteArray) (n e : Int) (w : World) (he : Env w) (hs : text.size < 9223372036854775807) (hp : parseS text plainL = ([], n, e)) :
    Calls Tryz.prog 32 #[.string text, .int .i64 n, .int .i64 e] w fun e w' => e = .returned (.bool true) ∧ Grows w w' := by
  have hc : ∀ W (la : Option Addr), Env W → AtCells W la 2 (plainL.map posCells) → Calls Tryz.prog 33 #[.string text, .slice la 2 2] W (EnsPost W ([], n, e)) := fun W la hE hat => by
    have h := parse_any text plainL la 2 W hs (by decide) hE hat
    rw [hp] at h
    exact h
  clear hp
  go_enter Tryz.func32, Tryz.ntmps32
  go_wp2_with fail
  refine (plain_any _).mono ?_
  rintro e w1 ⟨rfl, hp1, hg1⟩
  go_wp2_with fail
  refine (hc w1 _ (he.grows hg1) hp1).mono ?_
  rintro e w2 ⟨v, rfl, hown, hg2⟩
  obtain ⟨pa, cap, rfl, _, _, _⟩ := ownsRow_at (enc := enCells) enCells_len hown
  clear hown
  go_wp2_with fail
  go_ret
  exact ⟨rfl, hg1.tr hg2⟩
theorem ev_wrong1 : parseS ⟨#[227, 129, 139, 9, 232, 154, 138, 9, 78, 9, 78]⟩ plainL = ([], 1, 5) := by kernel_rfl
theorem ev_wrong2 : parseS ⟨#[227, 129, 139, 9, 232, 154, 138, 9, 78, 9, 78, 9, 48, 49]⟩ plainL = ([], 1, 5) := by kernel_rfl
theorem ev_wrong3 : parseS ⟨#[227, 129, 139, 9, 232, 154, 138, 9, 78, 9, 78, 9, 51, 48, 48, 48, 49]⟩ plainL = ([], 1, 6) := by kernel_rfl
theorem ev_wrong4 : parseS ⟨#[227, 129, 139, 9, 232, 154, 138, 9, 78, 9, 78, 9, 49, 48, 48, 48, 48, 48, 48, 48, 48, 48]⟩ plainL = ([], 1, 5) := by kernel_rfl
theorem ev_wrong6 : parseS ⟨#[227, 129, 139, 9, 232, 154, 138, 9, 78, 9, 78, 9, 45, 49]⟩ plainL = ([], 1, 5) := by kernel_rfl
theorem ev_wrong7 : parseS ⟨#[227, 129, 139, 9, 232, 154, 138, 9, 78, 9, 78, 9, 49, 9]⟩ plainL = ([], 1, 5) := by kernel_rfl
theorem ev_wrong8 : parseS ⟨#[227, 129, 139, 9, 232, 154, 138, 9, 78, 9, 78, 9]⟩ plainL = ([], 1, 5) := by kernel_rfl
theorem ev_none : parseS ⟨#[]⟩ plainL = ([], 0, 0) := by kernel_rfl
theorem ev_nilp : parseS ⟨#[227, 129, 139, 9, 232, 154, 138, 9, 78, 9, 78, 9, 120]⟩ [] = ([], 0, 5) := by kernel_rfl
end Go.Proofs.YtndhhgpmpnmljaaGreatDoor
