import Derived.Test.YtndhhgpmpnmljaaGreatDoorSortP
import Derived.Test.YtndhhgpmpnmljaaGreatDoorApp
namespace Go.Proofs.YtndhhgpmpnmljaaGreatDoor
open Go Go.RowKit
attribute [local go_sem] quietE

theorem cmpS_ne {a b : ByteArray} (h : a ≠ b) : cmpS a b ≠ 0 ∧ decide (cmpS a b < 0) = Op.bytesLess a.toList b.toList := by
  have hne : (a.toList == b.toList) = false := by
    have := seq_false.2 h; exact this
  unfold cmpS
  rw [hne]
  cases Op.bytesLess a.toList b.toList <;> simp
theorem cmpS_self (a : ByteArray) : cmpS a a = 0 := (cmp3S.zero a a).2 rfl
theorem cmpI_ne {a b : Int} (h : a ≠ b) : cmpI a b ≠ 0 ∧ decide (cmpI a b < 0) = decide (a < b) := by
  unfold cmpI
  by_cases h1 : a < b
  · simp [h1]
  · have : b < a := by omega
    simp [h1, this]
theorem cmpI_self (a : Int) : cmpI a a = 0 := by unfold cmpI; simp
theorem lessS_r {x y : En} (h : x.r ≠ y.r) : lessS x y = Op.bytesLess x.r.toList y.r.toList := by
  obtain ⟨h1, h2⟩ := cmpS_ne h
  unfold lessS enCmp
  simp only [orI, if_neg h1]
  exact h2
theorem lessS_c {x y : En} (h : x.r = y.r) (hc : x.c ≠ y.c) : lessS x y = decide (x.c < y.c) := by
  obtain ⟨h1, h2⟩ := cmpI_ne hc
  unfold lessS enCmp
  rw [h, cmpS_self]
  simp only [orI, if_neg h1, if_true]
  exact h2
theorem lessS_s {x y : En} (h : x.r = y.r) (hc : x.c = y.c) (hs : x.s ≠ y.s) : lessS x y = Op.bytesLess x.s.toList y.s.toList := by
  obtain ⟨h1, h2⟩ := cmpS_ne hs
  unfold lessS enCmp
  rw [h, hc, cmpS_self, cmpI_self]
  simp only [orI, if_neg h1, if_true]
  exact h2
theorem lessS_l {x y : En} (h : x.r = y.r) (hc : x.c = y.c) (hs : x.s = y.s) (hl : x.l ≠ y.l) : lessS x y = decide (x.l < y.l) := by
  obtain ⟨h1, h2⟩ := cmpI_ne hl
  unfold lessS enCmp
  rw [h, hc, hs, cmpS_self, cmpI_self, cmpS_self]
  simp only [orI, if_neg h1, if_true]
  exact h2
theorem lessS_t {x y : En} (h : x.r = y.r) (hc : x.c = y.c) (hs : x.s = y.s) (hl : x.l = y.l) : lessS x y = decide (x.t < y.t) := by
  unfold lessS enCmp
  rw [h, hc, hs, hl, cmpS_self, cmpI_self, cmpS_self, cmpI_self]
  simp only [orI, if_true]
  by_cases ht : x.t = y.t
  · rw [ht, cmpI_self]; simp
  · obtain ⟨h1, h2⟩ := cmpI_ne ht
    rw [if_neg h1]; exact h2

set_option maxHeartbeats 2000000 in
set_option maxRecDepth 100000 in
theorem less2_any (x y : En) (w : World) :
    Calls Tryz.prog 29 #[x.agg, y.agg] w fun e w' => e = .returned (.bool (lessS x y)) ∧ Grows w w' := by
  have L1 := lessS_r (x := x) (y := y)
  have L2 := lessS_c (x := x) (y := y)
  have L3 := lessS_s (x := x) (y := y)
  have L4 := lessS_l (x := x) (y := y)
  have L5 := lessS_t (x := x) (y := y)
  generalize lessS x y = R at *
  obtain ⟨xr, xs, xl, xt, xc⟩ := x
  obtain ⟨yr, ys, yl, yt, yc⟩ := y
  simp only at L1 L2 L3 L4 L5
  unfold En.agg
  have hg : Grows w ((w.alloc (.cells #[.string xr, .string xs, .int .i64 xl, .int .i64 xt, .int .i64 xc] 54)).alloc (.cells #[.string yr, .string ys, .int .i64 yl, .int .i64 yt, .int .i64 yc] 54)) := (Grows.alloc _ _).al _
  by_cases h1 : xr = yr
  · have b1 : (xr.toList == yr.toList) = true := seq_iff.2 h1
    by_cases h2 : xc = yc
    · have b2 : (xc == yc) = true := by simp [h2]
      by_cases h3 : xs = ys
      · have b3 : (xs.toList == ys.toList) = true := seq_iff.2 h3
        by_cases h4 : xl = yl
        · have HL := Lib.hid (L5 h1 h2 h3 h4)
          subst h1 h2 h3 h4
          clear L1 L2 L3 L4 L5 b1 b2 b3
          go_enter Tryz.func29, Tryz.ntmps29
          go_wp2
          go_ret
          exact ⟨ret_bool HL.out.symm, hg⟩
        · have HL := Lib.hid (L4 h1 h2 h3 h4)
          have b4 : (xl != yl) = true := by simpa using h4
          subst h1 h2 h3
          clear L1 L2 L3 L4 L5 b1 b2 b3 h4
          go_enter Tryz.func29, Tryz.ntmps29
          go_wp2
          go_ret
          exact ⟨ret_bool HL.out.symm, hg⟩
      · have HL := Lib.hid (L3 h1 h2 h3)
        have b3 : (xs.toList == ys.toList) = false := seq_false.2 h3
        have b3' : ¬ xs.toList = ys.toList := by simpa using b3
        subst h1 h2
        clear L1 L2 L3 L4 L5 b1 b2 h3
        go_enter Tryz.func29, Tryz.ntmps29
        go_wp2
        go_ret
        exact ⟨ret_bool HL.out.symm, hg⟩
    · have HL := Lib.hid (L2 h1 h2)
      have b2 : (xc != yc) = true := by simpa using h2
      subst h1
      clear L1 L2 L3 L4 L5 b1 h2
      go_enter Tryz.func29, Tryz.ntmps29
      go_wp2
      go_ret
      exact ⟨ret_bool HL.out.symm, hg⟩
  · have HL := Lib.hid (L1 h1)
    have b1 : (xr.toList == yr.toList) = false := seq_false.2 h1
    have b1' : ¬ xr.toList = yr.toList := by simpa using b1
    clear L1 L2 L3 L4 L5 h1
    go_enter Tryz.func29, Tryz.ntmps29
    go_wp2
    go_ret
    exact ⟨ret_bool HL.out.symm, hg⟩
end Go.Proofs.YtndhhgpmpnmljaaGreatDoor
