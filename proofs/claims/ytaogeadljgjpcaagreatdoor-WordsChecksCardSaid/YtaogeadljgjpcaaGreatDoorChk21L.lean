import Derived.Test.YtaogeadljgjpcaaGreatDoorRq46
import Derived.Test.YtaogeadljgjpcaaGreatDoorRefRun
namespace Go.Proofs.YtaogeadljgjpcaaGreatDoor
open Go Go.RowKit Go.Shelf
attribute [local go_sem] aQ aM

set_option maxHeartbeats 1000000 in
set_option maxRecDepth 100000 in
theorem rc01_any (s : ByteArray) (w : World) (hs : s.size ≤ 35184372088832) :
    Calls Tryz.prog 32 #[.string s] w fun e w' => e = .returned (.int .i64 (countS s)) ∧ aB w w' := by
  have CR := runes_any s w hs
  unfold RunesPost at CR
  by_cases hv : Lib.validD s.data.toList = true
  · have hc : countS s = ((bD s.data.toList).length : Nat) := nR hv
    rw [hc]
    rw [hv] at CR
    simp only [if_true] at CR
    have CR := Lib.hid CR
    generalize (bD s.data.toList).length = n at CR ⊢
    clear hc hv
    go_enter Tryz.func32, Tryz.ntmps32
    go_wp2_with fail
    refine CR.out.mono ?_
    rintro e w1 ⟨a, c, rfl, _, hg⟩
    go_wp2_with fail
    go_ret
    exact ⟨rfl, hg⟩
  · rw [Bool.not_eq_true] at hv
    have hc : countS s = -1 := by unfold countS; rw [hv]; rfl
    rw [hc]
    rw [hv] at CR
    simp only [Bool.false_eq_true, if_false] at CR
    have CR := Lib.hid CR
    clear hc hv
    go_enter Tryz.func32, Tryz.ntmps32
    go_wp2_with fail
    refine CR.out.mono ?_
    rintro e w1 ⟨a, c, rfl, _, hg⟩
    go_wp2_with fail
    go_ret
    exact ⟨rfl, hg⟩
set_option maxHeartbeats 1000000 in
set_option maxRecDepth 100000 in
theorem rchk21_any (s : ByteArray) (w : World) (hs : s.size ≤ 35184372088832) :
    Calls Tryz.prog 13 #[.string s] w fun e w' => e = .returned (.int .i64 (wchk s)) ∧ aB w w' := by
  have CC := Lib.hid (rc01_any s w hs)
  unfold wchk
  generalize countS s = n at CC ⊢
  by_cases h1 : n < 0
  · rw [if_pos h1]
    go_enter Tryz.func13, Tryz.ntmps13
    go_wp2_with (go_at_call 32; refine CC.out.mono ?_; rintro e w' ⟨rfl, hg⟩)
    go_ret
    exact ⟨rfl, hg⟩
  · rw [if_neg h1]
    by_cases h2 : n = 0
    · subst h2
      rw [if_pos rfl]
      go_enter Tryz.func13, Tryz.ntmps13
      go_wp2_with (go_at_call 32; refine CC.out.mono ?_; rintro e w' ⟨rfl, hg⟩)
      go_ret
      exact ⟨rfl, hg⟩
    · rw [if_neg h2]
      have hb : (n == 0) = false := by simpa using h2
      clear h2
      by_cases h3 : 64 < n
      · rw [if_pos h3]
        go_enter Tryz.func13, Tryz.ntmps13
        go_wp2_with (go_at_call 32; refine CC.out.mono ?_; rintro e w' ⟨rfl, hg⟩)
        go_ret
        exact ⟨rfl, hg⟩
      · rw [if_neg h3]
        go_enter Tryz.func13, Tryz.ntmps13
        go_wp2_with (go_at_call 32; refine CC.out.mono ?_; rintro e w' ⟨rfl, hg⟩)
        go_ret
        exact ⟨rfl, hg⟩
set_option maxHeartbeats 2000000 in
set_option maxRecDepth 100000 in
theorem checks21_any (s : ByteArray) (w : World) (he : Env w) (hs : s.size ≤ 140737488355328) :
    Calls Tryz.prog 3 #[.string s] w fun e w' => e = .returned (.bool true) ∧ aB w w' := by
  have HE := Lib.hid he
  clear he
  by_cases hb : 3000 < s.size
  · have hbi : (3000 : Int) < s.size := by omega
    clear hb
    go_enter Tryz.func3, Tryz.ntmps3
    go_wp2_with fail
    go_ret
    exact ⟨rfl, aB.refl _⟩
  · have hbi : ¬ (3000 : Int) < s.size := by omega
    have C1 := Lib.hid (qN s w (by omega) HE.out)
    have C2 := fun u => Lib.hid (rchk21_any s u (by omega))
    have CW := fun u (hu : aB w u) => Lib.hid (works21_any u (HE.out.grows hu))
    generalize wchk s = n at C1 C2
    clear hb
    go_enter Tryz.func3, Tryz.ntmps3
    go_wp2_with fail
    refine C1.out.mono ?_
    rintro e w1 ⟨rfl, hg1⟩
    go_wp2_with fail
    refine (C2 w1).out.mono ?_
    rintro e w2 ⟨rfl, hg2⟩
    have hnn : (n == n) = true := by simp
    go_wp2_with fail
    refine (CW w2 (hg1.tr hg2)).out.mono ?_
    rintro e w3 ⟨rfl, hg3⟩
    go_wp2_with fail
    go_ret
    exact ⟨rfl, (hg1.tr hg2).tr hg3⟩
end Go.Proofs.YtaogeadljgjpcaaGreatDoor
