import Derived.Test.YtndhhgpmpnmljaaGreatDoorEnv
import Derived.Test.YtndhhgpmpnmljaaGreatDoorNamed
namespace Go.Proofs.YtndhhgpmpnmljaaGreatDoor
open Go Go.RowKit Go.Shelf
attribute [local go_sem] quietE

/-- The number of characters, -1 if the string is not valid. -/
def countS (s : ByteArray) : Int := if Lib.validD s.data.toList then (Lib.runeCount s : Int) else -1
set_option maxHeartbeats 1000000 in
theorem count_any (s : ByteArray) (w : World) (hs : s.size < 9223372036854775807) (he : Env w) :
    Calls Tryz.prog 92 #[.string s] w fun e w' => e = .returned (.int .i64 (countS s)) ∧ Grows w w' := by
  have cV : Calls Tryz.prog 130 #[.string s] w _ := Any.utf8_ValidString Tryz.laysValid s w (by omega) he.utf
  have CV := Lib.hid cV
  clear cV he
  unfold countS
  generalize Lib.validD s.data.toList = v at CV ⊢
  have HS := Lib.hid hs
  clear hs
  cases v
  · go_enter Tryz.func92, Tryz.ntmps92
    go_wp2_with (go_at_call 130; refine CV.out.mono ?_; rintro e w' ⟨rfl, hg⟩)
    go_ret
    exact ⟨rfl, hg⟩
  · go_enter Tryz.func92, Tryz.ntmps92
    go_wp2_with (first | (go_at_call 130; refine CV.out.mono ?_; rintro e w' ⟨rfl, hg⟩) | (go_at_call 131; refine (Tryz.utf8_RuneCountInString s _ HS.out).mono ?_; rintro e w2 ⟨rfl, pos, rfl⟩))
    go_ret
    exact ⟨rfl, hg.trans (Below.mono (iter_grows _ _ _) hg.size)⟩

def isHira (c : Int) : Bool := decide (12353 ≤ c) && decide (c ≤ 12438)
def ClassPost (c : Int) (w : World) (e : Ending) (w' : World) : Prop := ∃ r : Int, e = .returned (.int .i64 r) ∧ (r = 1 ↔ isHira c = true) ∧ w = w'
set_option maxHeartbeats 4000000 in
theorem class_any (c : Int) (w : World) : Calls Tryz.prog 95 #[.int .i32 c] w (ClassPost c w) := by
  by_cases h1 : 12353 ≤ c
  · by_cases h2 : c ≤ 12438
    · go_enter Tryz.func95, Tryz.ntmps95
      go_wp2
      go_ret
      exact ⟨1, rfl, by simp [isHira, h1, h2], rfl⟩
    · have hN := Lib.hid (show ∀ r : Int, r ≠ 1 → (r = 1 ↔ isHira c = true) from fun r hr => by simp [isHira, h2, hr])
      go_enter Tryz.func95, Tryz.ntmps95
      go_wp2
      all_goals (go_ret; exact ⟨_, rfl, hN.out _ (by decide), rfl⟩)
  · have hN := Lib.hid (show ∀ r : Int, r ≠ 1 → (r = 1 ↔ isHira c = true) from fun r hr => by simp [isHira, h1, hr])
    have h2 : c < 12353 := by omega
    go_enter Tryz.func95, Tryz.ntmps95
    go_wp2
    all_goals (go_ret; exact ⟨_, rfl, hN.out _ (by decide), rfl⟩)

def kanaBad (c : Nat) : Bool := !((c : Int) == 12540) && !isHira c
set_option maxHeartbeats 1000000 in
theorem reading1_any (w : World) : PredAt Tryz.prog 94 #[] encR kanaBad w := fun W x _ => by
  unfold FnGives
  show Calls Tryz.prog 94 #[.int .i32 (x : Int)] W _
  unfold kanaBad
  have con := Lib.hid (class_any (x : Int) W)
  generalize (x : Int) = c at con ⊢
  by_cases h : c = 12540
  · subst h
    go_enter Tryz.func94, Tryz.ntmps94
    go_wp2
    go_ret
    exact ⟨rfl, 0, rfl⟩
  · have h1 : (c != 12540) = true := by simp [h]
    have h2 : (!(c == 12540)) = true := by simp [h]
    rw [h2, Bool.true_and]
    generalize hh : isHira c = hb at con ⊢
    have HH := Lib.hid hh
    clear hh h h2
    go_enter Tryz.func94, Tryz.ntmps94
    go_wp2_with (go_at_call 95; refine con.out.mono ?_; rintro e w' ⟨r, rfl, hr, rfl⟩; have HR := Lib.hid hr; clear hr)
    all_goals (go_ret; refine ⟨ret_bool ?_, 0, rfl⟩; have h1 := HR.out; rw [HH.out] at h1; rw [Bool.eq_iff_iff]; simp; rw [h1]; simp)

/-- Is it a reading? -/
def readingS (s : ByteArray) : Bool := decide (1 ≤ countS s) && decide (countS s ≤ 64) && !decide (0 ≤ Lib.idxFunc kanaBad true s)
def surfBad (c : Nat) : Bool := decide ((c : Int) < 32) || (decide (127 ≤ (c : Int)) && decide ((c : Int) ≤ 159))
def surfaceS (s : ByteArray) : Bool := decide (1 ≤ countS s) && decide (countS s ≤ 64) && !decide (0 ≤ Lib.idxFunc surfBad true s)
set_option maxHeartbeats 1000000 in
theorem reading_any (s : ByteArray) (w : World) (hs : s.size < 9223372036854775807) (he : Env w) :
    Calls Tryz.prog 61 #[.string s] w fun e w' => e = .returned (.bool (readingS s)) ∧ Grows w w' := by
  have C1 := Lib.hid (count_any s w hs he)
  have C2 : ∀ W, Hid (Calls Tryz.prog 93 _ W _) := fun W => Lib.hid (Tryz.strings_ContainsFunc 94 #[] (enters_of Tryz.func94 (by kernel_rfl) rfl) kanaBad s W (reading1_any W))
  clear hs he
  unfold readingS
  generalize countS s = n at C1 ⊢
  generalize decide (0 ≤ Lib.idxFunc kanaBad true s) = r at C2 ⊢
  by_cases h1 : 1 ≤ n
  · by_cases h2 : n ≤ 64
    · go_enter Tryz.func61, Tryz.ntmps61
      go_wp2_with (first | (go_at_call 92; refine C1.out.mono ?_; rintro e w1 ⟨rfl, hg⟩) | (go_at_call 93; refine (C2 _).out.mono ?_; rintro e w2 ⟨rfl, hg2⟩))
      go_ret
      exact ⟨ret_bool (by simp [h1, h2]), hg.tr hg2⟩
    · go_enter Tryz.func61, Tryz.ntmps61
      go_wp2_with (first | (go_at_call 92; refine C1.out.mono ?_; rintro e w1 ⟨rfl, hg⟩))
      go_ret
      exact ⟨ret_bool (by simp; omega), hg⟩
  · go_enter Tryz.func61, Tryz.ntmps61
    go_wp2_with (first | (go_at_call 92; refine C1.out.mono ?_; rintro e w1 ⟨rfl, hg⟩))
    go_ret
    exact ⟨ret_bool (by simp; omega), hg⟩
set_option maxHeartbeats 1000000 in
theorem surf1_any (w : World) : PredAt Tryz.prog 96 #[] encR surfBad w := fun W x _ => by
  unfold FnGives
  show Calls Tryz.prog 96 #[.int .i32 (x : Int)] W _
  unfold surfBad
  generalize (x : Int) = c
  go_enter Tryz.func96, Tryz.ntmps96
  go_wp2
  all_goals (go_ret; refine ⟨ret_bool ?_, 0, rfl⟩; first | rfl | (rw [Bool.eq_iff_iff]; simp; try omega))
set_option maxHeartbeats 1000000 in
theorem isSurface_any (s : ByteArray) (w : World) (hs : s.size < 9223372036854775807) (he : Env w) :
    Calls Tryz.prog 62 #[.string s] w fun e w' => e = .returned (.bool (surfaceS s)) ∧ Grows w w' := by
  have C1 := Lib.hid (count_any s w hs he)
  have C2 : ∀ W, Hid (Calls Tryz.prog 93 _ W _) := fun W => Lib.hid (Tryz.strings_ContainsFunc 96 #[] (enters_of Tryz.func96 (by kernel_rfl) rfl) surfBad s W (surf1_any W))
  clear hs he
  unfold surfaceS
  generalize countS s = n at C1 ⊢
  generalize decide (0 ≤ Lib.idxFunc surfBad true s) = r at C2 ⊢
  by_cases h1 : 1 ≤ n
  · by_cases h2 : n ≤ 64
    · go_enter Tryz.func62, Tryz.ntmps62
      go_wp2_with (first | (go_at_call 92; refine C1.out.mono ?_; rintro e w1 ⟨rfl, hg⟩) | (go_at_call 93; refine (C2 _).out.mono ?_; rintro e w2 ⟨rfl, hg2⟩))
      go_ret
      exact ⟨ret_bool (by simp [h1, h2]), hg.tr hg2⟩
    · go_enter Tryz.func62, Tryz.ntmps62
      go_wp2_with (first | (go_at_call 92; refine C1.out.mono ?_; rintro e w1 ⟨rfl, hg⟩))
      go_ret
      exact ⟨ret_bool (by simp; omega), hg⟩
  · go_enter Tryz.func62, Tryz.ntmps62
    go_wp2_with (first | (go_at_call 92; refine C1.out.mono ?_; rintro e w1 ⟨rfl, hg⟩))
    go_ret
    exact ⟨ret_bool (by simp; omega), hg⟩
end Go.Proofs.YtndhhgpmpnmljaaGreatDoor
