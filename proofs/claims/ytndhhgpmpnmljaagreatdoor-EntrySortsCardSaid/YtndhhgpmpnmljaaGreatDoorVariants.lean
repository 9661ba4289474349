import Derived.Test.YtndhhgpmpnmljaaGreatDoorLess2
namespace Go.Proofs.YtndhhgpmpnmljaaGreatDoor
open Go Go.RowKit
attribute [local go_sem] quietE

set_option maxHeartbeats 2000000 in
set_option maxRecDepth 100000 in
theorem variants_any (x y : En) (w : World) :
    Calls Tryz.prog 60 #[x.agg, y.agg] w fun e w' => e = .returned (.bool (decide (sameKey x y))) ∧ Grows w w' := by
  obtain ⟨R, hR⟩ : ∃ R, R = decide (sameKey x y) := ⟨_, rfl⟩
  rw [← hR]
  obtain ⟨xr, xs, xl, xt, xc⟩ := x
  obtain ⟨yr, ys, yl, yt, yc⟩ := y
  unfold sameKey at hR
  simp only at hR
  have HR := Lib.hid hR
  clear hR
  unfold En.agg
  have hg : Grows w ((w.alloc (.cells #[.string xr, .string xs, .int .i64 xl, .int .i64 xt, .int .i64 xc] 54)).alloc (.cells #[.string yr, .string ys, .int .i64 yl, .int .i64 yt, .int .i64 yc] 54)) := (Grows.alloc _ _).al _
  by_cases h1 : xr = yr
  · by_cases h3 : xs = ys
    · by_cases h4 : xl = yl
      · by_cases h5 : xt = yt
        · have hf : R = true := by rw [HR.out]; simp [h1, h3, h4, h5]
          subst hf h1 h3 h4 h5
          clear HR
          go_enter Tryz.func60, Tryz.ntmps60
          go_wp2
          go_ret
          exact ⟨rfl, hg⟩
        · have hf : R = false := by rw [HR.out]; simp [h5]
          have b5 : (xt == yt) = false := by simpa using h5
          subst hf h1 h3 h4
          clear HR h5
          go_enter Tryz.func60, Tryz.ntmps60
          go_wp2
          go_ret
          exact ⟨rfl, hg⟩
      · have hf : R = false := by rw [HR.out]; simp [h4]
        have b4 : (xl == yl) = false := by simpa using h4
        subst hf h1 h3
        clear HR h4
        go_enter Tryz.func60, Tryz.ntmps60
        go_wp2
        go_ret
        exact ⟨rfl, hg⟩
    · have hf : R = false := by rw [HR.out]; simp [h3]
      have b3 : (xs.toList == ys.toList) = false := seq_false.2 h3
      have b3' : ¬ xs.toList = ys.toList := by simpa using b3
      subst hf h1
      clear HR h3
      go_enter Tryz.func60, Tryz.ntmps60
      go_wp2
      go_ret
      exact ⟨rfl, hg⟩
  · have hf : R = false := by rw [HR.out]; simp [h1]
    have b1 : (xr.toList == yr.toList) = false := seq_false.2 h1
    have b1' : ¬ xr.toList = yr.toList := by simpa using b1
    subst hf
    clear HR h1
    go_enter Tryz.func60, Tryz.ntmps60
    go_wp2
    go_ret
    exact ⟨rfl, hg⟩
end Go.Proofs.YtndhhgpmpnmljaaGreatDoor
