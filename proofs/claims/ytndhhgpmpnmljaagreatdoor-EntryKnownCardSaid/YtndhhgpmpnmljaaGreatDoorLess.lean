import Derived.Test.YtndhhgpmpnmljaaGreatDoorEcmp
import Derived.Test.YtndhhgpmpnmljaaGreatDoorPrint
namespace Go.Proofs.YtndhhgpmpnmljaaGreatDoor
open Go Go.RowKit Go.Shelf
attribute [local go_sem] quietE

def En.agg (x : En) : Value := .agg #[.string x.r, .string x.s, .int .i64 x.l, .int .i64 x.t, .int .i64 x.c]
def enCmp (x y : En) : Int := orI [cmpS x.r y.r, cmpI x.c y.c, cmpS x.s y.s, cmpI x.l y.l, cmpI x.t y.t]
def lessS (x y : En) : Bool := decide (enCmp x y < 0)

set_option maxHeartbeats 1000000 in
set_option maxRecDepth 100000 in
theorem less_any (x y : En) (w : World) :
    Calls Tryz.prog 28 #[x.agg, y.agg] w fun e w' => e = .returned (.bool (lessS x y)) ∧ Grows w w' := by
  obtain ⟨xr, xs, xl, xt, xc⟩ := x
  obtain ⟨yr, ys, yl, yt, yc⟩ := y
  have HC := fun W => Lib.hid (compare_any xr xs yr ys xl xt xc yl yt yc W)
  have hd : lessS ⟨xr, xs, xl, xt, xc⟩ ⟨yr, ys, yl, yt, yc⟩ = decide (orI [cmpS xr yr, cmpI xc yc, cmpS xs ys, cmpI xl yl, cmpI xt yt] < 0) := rfl
  rw [hd]
  unfold En.agg
  clear hd
  generalize orI [cmpS xr yr, cmpI xc yc, cmpS xs ys, cmpI xl yl, cmpI xt yt] = n at *
  go_enter Tryz.func28, Tryz.ntmps28
  go_wp2_with (first | (go_at_call 59; refine (HC _).out.mono ?_; rintro e w1 ⟨rfl, hg1⟩))
  go_ret
  exact ⟨rfl, ((Grows.alloc _ _).al _).tr hg1⟩
end Go.Proofs.YtndhhgpmpnmljaaGreatDoor
