import Derived.Test.YtaogeadljgjpcaaGreatDoorRq46
namespace Go.Proofs.YtaogeadljgjpcaaGreatDoor
open Go Go.RowKit Go.Shelf
attribute [local go_sem] aQ aM

set_option maxHeartbeats 2000000 in
set_option maxRecDepth 100000 in
theorem nil21_any (s : ByteArray) (w : World) (he : Env w) (hs : s.size ≤ 140737488355328) :
    Calls Tryz.prog 5 #[.string s] w fun e w' => e = .returned (.bool true) ∧ aB w w' := by
  have CW := Lib.hid (works21_any w he)
  have CN := Lib.hid (wnodes_nil s none 0 0 w)
  clear he
  by_cases hb : 3000 < s.size
  · have hbi : (3000 : Int) < s.size := by omega
    clear CW CN hb
    go_enter Tryz.func5, Tryz.ntmps5
    go_wp2_with fail
    go_ret
    exact ⟨rfl, aB.refl _⟩
  · have hbi : ¬ (3000 : Int) < s.size := by omega
    clear hb
    go_enter Tryz.func5, Tryz.ntmps5
    go_wp2_with fail
    refine CN.out.mono ?_
    rintro e w1 ⟨rfl, rfl⟩
    clear CN
    go_wp2_with fail
    refine CW.out.mono ?_
    rintro e w2 ⟨rfl, hg⟩
    clear CW
    go_wp2_with fail
    go_ret
    exact ⟨rfl, hg⟩
end Go.Proofs.YtaogeadljgjpcaaGreatDoor
