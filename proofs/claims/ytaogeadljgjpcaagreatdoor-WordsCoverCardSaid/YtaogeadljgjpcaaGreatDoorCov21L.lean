import Derived.Test.YtaogeadljgjpcaaGreatDoorRq46
namespace Go.Proofs.YtaogeadljgjpcaaGreatDoor
open Go Go.RowKit Go.Shelf
attribute [local go_sem] aQ aM

theorem cmpI_neg {a b : Int} : dV a b < 0 ↔ a < b := by
  unfold dV
  split
  · omega
  · split <;> omega
theorem ndLess_cases {x y : Nd} (h : gY x y = true) : x.f < y.f ∨ (x.f = y.f ∧ (y.t < x.t ∨ (x.t = y.t ∧ (x.c < y.c ∨ (x.c = y.c ∧ ((x.s ≠ y.s ∧ Op.bytesLess x.s.toList y.s.toList = true) ∨ (x.s = y.s ∧ (x.l < y.l ∨ (x.l = y.l ∧ x.r < y.r))))))))) := by
  unfold gY oF0 at h
  rw [decide_eq_true_eq] at h
  by_cases e1 : x.f = y.f
  · refine Or.inr ⟨e1, ?_⟩
    rw [orI, if_pos ((kS0.zero _ _).2 e1)] at h
    by_cases e2 : x.t = y.t
    · refine Or.inr ⟨e2, ?_⟩
      rw [orI, if_pos ((kS0.zero _ _).2 e2.symm)] at h
      by_cases e3 : x.c = y.c
      · refine Or.inr ⟨e3, ?_⟩
        rw [orI, if_pos ((kS0.zero _ _).2 e3)] at h
        by_cases e4 : x.s = y.s
        · refine Or.inr ⟨e4, ?_⟩
          rw [orI, if_pos ((oN0.zero _ _).2 e4)] at h
          by_cases e5 : x.l = y.l
          · refine Or.inr ⟨e5, ?_⟩
            rw [orI, if_pos ((kS0.zero _ _).2 e5)] at h
            by_cases e6 : x.r = y.r
            · rw [orI, if_pos ((kS0.zero _ _).2 e6)] at h
              simp [orI] at h
            · rw [orI, if_neg (fun z => e6 ((kS0.zero _ _).1 z))] at h
              exact cmpI_neg.1 h
          · rw [orI, if_neg (fun z => e5 ((kS0.zero _ _).1 z))] at h
            exact Or.inl (cmpI_neg.1 h)
        · rw [orI, if_neg (fun z => e4 ((oN0.zero _ _).1 z))] at h
          refine Or.inl ⟨e4, ?_⟩
          have := (lL1 e4).2
          rw [← this]
          exact decide_eq_true h
      · rw [orI, if_neg (fun z => e3 ((kS0.zero _ _).1 z))] at h
        exact Or.inl (cmpI_neg.1 h)
    · rw [orI, if_neg (fun z => e2 ((kS0.zero _ _).1 z).symm)] at h
      exact Or.inl (cmpI_neg.1 h)
  · rw [orI, if_neg (fun z => e1 ((kS0.zero _ _).1 z))] at h
    exact Or.inl (cmpI_neg.1 h)
theorem ne_num {a b : Int} (h : a ≠ b) : (a != b) = true := by simpa using h
theorem eq_num (a : Int) : (a != a) = false := by simp
set_option maxHeartbeats 4000000 in
set_option maxRecDepth 100000 in
theorem before_any (x y : Nd) (w : World) (h : gY x y = true) :
    Calls Tryz.prog 24 #[x.agg, y.agg] w fun e w' => e = .returned (.bool true) ∧ aB w w' := by
  have hc := ndLess_cases h
  obtain ⟨xf, xt, xs, xl, xr, xc, xk⟩ := x
  obtain ⟨yf, yt, ys, yl, yr, yc, yk⟩ := y
  simp only at hc
  clear h
  unfold Nd.agg
  simp only
  have G := fun a b => (aB.alloc w a).al b
  rcases hc with h | ⟨rfl, h | ⟨rfl, h | ⟨rfl, ⟨hn, h⟩ | ⟨rfl, h | ⟨rfl, h⟩⟩⟩⟩⟩
  · have hb := ne_num (show xf ≠ yf by omega)
    have hd : decide (xf < yf) = true := decide_eq_true h
    clear h
    go_enter Tryz.func24, Tryz.ntmps24
    go_wp2_with fail
    go_ret
    exact ⟨rfl, G _ _⟩
  · have ha := eq_num xf
    have hb := ne_num (show xt ≠ yt by omega)
    have hd : decide (yt < xt) = true := decide_eq_true h
    clear h
    go_enter Tryz.func24, Tryz.ntmps24
    go_wp2_with fail
    go_ret
    exact ⟨rfl, G _ _⟩
  · have ha := eq_num xf
    have ha2 := eq_num xt
    have hb := ne_num (show xc ≠ yc by omega)
    have hd : decide (xc < yc) = true := decide_eq_true h
    clear h
    go_enter Tryz.func24, Tryz.ntmps24
    go_wp2_with fail
    go_ret
    exact ⟨rfl, G _ _⟩
  · have ha := eq_num xf
    have ha2 := eq_num xt
    have ha3 := eq_num xc
    have hb : ¬ xs.toList = ys.toList := fun e => hn (kN e)
    have hb2 : (xs.toList == ys.toList) = false := by simpa using hb
    clear hn
    go_enter Tryz.func24, Tryz.ntmps24
    go_wp2_with fail
    go_ret
    exact ⟨rfl, G _ _⟩
  · have ha := eq_num xf
    have ha2 := eq_num xt
    have ha3 := eq_num xc
    have hb := ne_num (show xl ≠ yl by omega)
    have hd : decide (xl < yl) = true := decide_eq_true h
    clear h
    go_enter Tryz.func24, Tryz.ntmps24
    go_wp2_with fail
    go_ret
    exact ⟨rfl, G _ _⟩
  · have ha := eq_num xf
    have ha2 := eq_num xt
    have ha3 := eq_num xc
    have ha4 := eq_num xl
    have hd : decide (xr < yr) = true := decide_eq_true h
    clear h
    go_enter Tryz.func24, Tryz.ntmps24
    go_wp2_with fail
    go_ret
    exact ⟨rfl, G _ _⟩
set_option maxHeartbeats 4000000 in
set_option maxRecDepth 100000 in
theorem alone_any (l : List Nd) (a : Option Addr) (c n : Nat) (w : World) (hl : l.length ≤ 1048576) (hn : n ≤ 1048576) (hat : aG w a 7 (l.map dX)) (h : ∃ x ∈ l, x.f = n ∧ x.t = n + 1) :
    Calls Tryz.prog 25 #[.slice a l.length c, .int .i64 n] w fun e w' => e = .returned (.bool true) ∧ w' = w := by
  obtain ⟨x, hx, h1, h2⟩ := h
  obtain ⟨q, hq⟩ := List.getElem?_of_mem hx
  have HQ := Lib.hid hq
  have HAT := Lib.hid hat
  have hql : q < l.length := (List.getElem?_eq_some_iff.1 hq).1
  clear hx hq hat
  go_enter Tryz.func25, Tryz.ntmps25
  go_wp2_with fail
  go_loopw [5] (fun i wr => ∃ k : Nat, k ≤ q ∧ i = .int .i64 k ∧ wr = w) (fun i _ => l.length - (intOf i).toNat)
  case atStart => exact ⟨0, Nat.zero_le _, rfl, rfl⟩
  case round =>
    obtain ⟨k, hk, rfl, rfl⟩ := hrel
    have hlt : k < l.length := by omega
    have hki : (k : Int) < l.length := by omega
    obtain ⟨⟨xf, xt, xs, xl, xr, xc, xk⟩, hx⟩ : ∃ x, l[k]? = some x := ⟨_, List.getElem?_eq_getElem hlt⟩
    obtain ⟨ba, oa, rfl, hca⟩ := HAT.out.get (aK hlt)
    have c0 : wr.cell? ⟨ba, oa + k * 7, none⟩ = some (.int .i64 xf) := hca k _ hx 0 _ rfl
    have c1 : wr.cell? ⟨ba, oa + k * 7 + 1, none⟩ = some (.int .i64 xt) := hca k _ hx 1 _ rfl
    by_cases e1 : xf = n
    · have b1 : (xf == (n : Int)) = true := by simpa using e1
      by_cases e2 : xt = (n : Int) + 1
      · have b2 : (xt == (n : Int) + 1) = true := by simpa using e2
        clear hca hx e1 e2 h1 h2
        go_wp2_with fail
        go_ret
        exact ⟨rfl, rfl⟩
      · have b2 : (xt == (n : Int) + 1) = false := by simpa using e2
        have hkq : k < q := by
          rcases Nat.lt_or_ge k q with h | h
          · exact h
          · have : k = q := by omega
            subst this
            rw [HQ.out] at hx
            cases hx
            exact absurd h2 e2
        clear hca hx e1 e2 h1 h2
        go_wp2_with fail
        go_roundw
        case rel => exact ⟨k + 1, hkq, by go_num, trivial⟩
        case measure => simp [intOf]; omega
    · have b1 : (xf == (n : Int)) = false := by simpa using e1
      have hkq : k < q := by
        rcases Nat.lt_or_ge k q with h | h
        · exact h
        · have : k = q := by omega
          subst this
          rw [HQ.out] at hx
          cases hx
          exact absurd h1 e1
      clear hca hx e1 h1 h2
      go_wp2_with fail
      go_roundw
      case rel => exact ⟨k + 1, hkq, by go_num, trivial⟩
      case measure => simp [intOf]; omega
end Go.Proofs.YtaogeadljgjpcaaGreatDoor
