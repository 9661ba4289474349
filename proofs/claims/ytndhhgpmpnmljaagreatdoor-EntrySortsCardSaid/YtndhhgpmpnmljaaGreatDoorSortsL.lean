import Derived.Test.YtndhhgpmpnmljaaGreatDoorLawB
import Derived.Test.YtndhhgpmpnmljaaGreatDoorRefS
import Derived.Test.YtndhhgpmpnmljaaGreatDoorSortW
import Derived.Test.YtndhhgpmpnmljaaGreatDoorWorks
import Derived.Test.YtndhhgpmpnmljaaGreatDoorMat
namespace Go.Proofs.YtndhhgpmpnmljaaGreatDoor
open Go Go.RowKit Go.Shelf
attribute [local go_sem] quietE

theorem has_set {w : World} {q : Addr} (p : Addr) (v : Value) (h : (∃ u, w.cell? q = some u) ∧ w.frozen? q = false) : (∃ u, (w.setCell p v).cell? q = some u) ∧ (w.setCell p v).frozen? q = false := by
  obtain ⟨⟨u, h1⟩, h2⟩ := h
  refine ⟨?_, by rw [World.frozen?_setCell]; exact h2⟩
  by_cases e : q = p
  · subst e
    exact ⟨v, World.cell?_setCell_same' _ _ _ (by rw [h1]; rfl)⟩
  · exact ⟨u, by rw [World.cell?_setCell_other _ _ _ _ (Ne.symm e)]; exact h1⟩
theorem sortS_len (l : List En) : (sortS l).length ≤ l.length := by
  have h := sortS_spec l
  have hn : (sortS l).Nodup := h.1.imp fun {a b} hab e => by rw [e, lessS_irrefl] at hab; cases hab
  exact nodup_sub_len hn fun y hy => ((h.2 y).1 hy).1
set_option maxHeartbeats 8000000 in
set_option maxRecDepth 100000 in
theorem sorts_any (l : List En) (la : Option Addr) (lc : Nat) (x y : En) (w : World) (he : Env w) (hll : l.length ≤ 140737488355328) (hok : ∀ z ∈ l, EnOK z) (hat : AtCells w la 5 (l.map enCells)) (hnil : la = none → lc = 0) :
    Calls Tryz.prog 6 #[.slice la l.length lc, x.agg, y.agg] w fun e w' => e = .returned (.bool true) ∧ Grows w w' := by
  have HAT := Lib.hid hat
  have HNIL := Lib.hid hnil
  have HOK := Lib.hid hok
  obtain ⟨xr, xs, xl, xt, xc⟩ := x
  obtain ⟨yr, ys, yl, yt, yc⟩ := y
  unfold En.agg
  have CF := fun W (hW : Grows w W) => Lib.hid (few_any l la lc W (by omega) (hat.grows hW))
  clear hat hnil hok
  go_enter Tryz.func6, Tryz.ntmps6
  go_wp2_with fail
  have HB : Hid (∀ W, Grows ((w.alloc (Obj.cells #[.string xr, .string xs, .int .i64 xl, .int .i64 xt, .int .i64 xc] 54)).alloc (Obj.cells #[.string yr, .string ys, .int .i64 yl, .int .i64 yt, .int .i64 yc] 54)) W → W.cell? ⟨w.heap.size, 0, none⟩ = some (.string xr) ∧ W.cell? ⟨w.heap.size, 1, none⟩ = some (.string xs) ∧ W.cell? ⟨w.heap.size, 2, none⟩ = some (.int .i64 xl) ∧ W.cell? ⟨w.heap.size, 3, none⟩ = some (.int .i64 xt) ∧ W.cell? ⟨w.heap.size, 4, none⟩ = some (.int .i64 xc) ∧ W.cell? ⟨w.heap.size + 1, 0, none⟩ = some (.string yr) ∧ W.cell? ⟨w.heap.size + 1, 1, none⟩ = some (.string ys) ∧ W.cell? ⟨w.heap.size + 1, 2, none⟩ = some (.int .i64 yl) ∧ W.cell? ⟨w.heap.size + 1, 3, none⟩ = some (.int .i64 yt) ∧ W.cell? ⟨w.heap.size + 1, 4, none⟩ = some (.int .i64 yc)) := fun W hW => by
    have hx : ∀ j v, #[Value.string xr, .string xs, .int .i64 xl, .int .i64 xt, .int .i64 xc][j]? = some v → W.cell? ⟨w.heap.size, j, none⟩ = some v := fun j v h => hW.cell ((Grows.alloc _ _).cell (cell_box w _ _ _ j v h))
    have hy : ∀ j v, #[Value.string yr, .string ys, .int .i64 yl, .int .i64 yt, .int .i64 yc][j]? = some v → W.cell? ⟨w.heap.size + 1, j, none⟩ = some v := fun j v h => by
      have := hW.cell (cell_box (w.alloc (Obj.cells #[.string xr, .string xs, .int .i64 xl, .int .i64 xt, .int .i64 xc] 54)) _ _ _ j v h)
      simpa using this
    exact ⟨hx 0 _ rfl, hx 1 _ rfl, hx 2 _ rfl, hx 3 _ rfl, hx 4 _ rfl, hy 0 _ rfl, hy 1 _ rfl, hy 2 _ rfl, hy 3 _ rfl, hy 4 _ rfl⟩
  have hgw : Grows w ((w.alloc (Obj.cells #[.string xr, .string xs, .int .i64 xl, .int .i64 xt, .int .i64 xc] 54)).alloc (Obj.cells #[.string yr, .string ys, .int .i64 yl, .int .i64 yt, .int .i64 yc] 54)) := (Grows.alloc _ _).al _
  generalize (w.alloc (Obj.cells #[.string xr, .string xs, .int .i64 xl, .int .i64 xt, .int .i64 xc] 54)).alloc (Obj.cells #[.string yr, .string ys, .int .i64 yl, .int .i64 yt, .int .i64 yc] 54) = W0 at HB hgw ⊢
  refine (CF _ hgw).out.mono ?_
  rintro e w1 ⟨⟨fb, rfl, hfb⟩, hgx⟩
  obtain ⟨x0, x1, x2, x3, x4, y0, y1, y2, y3, y4⟩ := HB.out _ hgx
  cases fb
  · clear hfb
    go_wp2
    go_ret
    exact ⟨rfl, hgw.tr hgx⟩
  · have HF := Lib.hid (fewS_parts2 (hfb rfl))
    clear hfb
    have hl1 : l.length ≤ 100 := HF.out.1
    go_wp2_with fail
    refine (few_any [⟨xr, xs, xl, xt, xc⟩, ⟨yr, ys, yl, yt, yc⟩] _ _ _ (by simp) (box_rows enCells_len [⟨xr, xs, xl, xt, xc⟩, ⟨yr, ys, yl, yt, yc⟩] _ _ _ rfl _ rfl)).mono ?_
    rintro e w2 ⟨⟨gb, rfl, _⟩, hg2⟩
    replace hgx := (hgx.al _).tr hg2
    clear hg2 x0 x1 x2 x3 x4 y0 y1 y2 y3 y4
    cases gb
    · go_wp2
      go_ret
      exact ⟨rfl, hgw.tr hgx⟩
    · have hgw2 := hgw.tr hgx
      have hwz := hgw2.size
      have hxz := hgx.size
      have HSRC := Lib.hid (HAT.out.grows (hgw2.al (.cells #[] 54)))
      go_wp2_with (at_builtin; refine app_many entLay rfl _ _ rfl W0.heap.size _ [] l rfl (owns_lit W0.heap.size hxz) (Grows.refl _) la lc rfl HSRC.out HNIL.out (by simp; omega) (Nat.le_trans hxz (by simp)) ?_; intro v' w3 hown3 hg3)
      have hgx3 := hg3 W0 (hgx.al _) (Nat.le_refl _)
      clear hg3 hgx hwz hxz hgw2 HSRC CF
      rw [List.nil_append] at hown3
      obtain ⟨a3, c3, rfl, _, _, hat3⟩ := hown3.at_ entLay.len
      clear hown3
      go_wp2_with fail
      refine (esort_any l a3 c3 w3 (by omega) HOK.out hat3).mono ?_
      rintro e w4 ⟨v4, rfl, hown4, hg4⟩
      have hgx4 := hgx3.tr hg4
      obtain ⟨a4, c4, rfl, h41, h42, hat4⟩ := hown4.at_ entLay.len
      have HT3 := Lib.hid hat3
      have HT4 := Lib.hid hat4
      clear hat3 hat4
      go_wp2_with fail
      have hsl : (sortS l).length ≤ 1048576 := by have := sortS_len l; omega
      refine wp_region_ord Grows [(0, false), (1, false), (2, true), (3, false), (4, false), (5, false), (6, false), (7, false), (8, false), (9, false), (10, false), (11, false), (12, false), (13, false)] Grows.refl Grows.trans (by kernel_rfl) (by kernel_rfl) (fun d _ _ _ _ h => by cases d <;> exact h) ?_
      iterate 2 (refine ord_quiet rfl (fun K hK => ?_); go_simp; refine hK _ ?_; clear hK K)
      refine ord_late_w rfl rfl (fun K hK w5 h5 => ?_)
      go_simp
      refine (rsort_any l la lc w5 (by omega) (HAT.out.grows ((hgw.tr hgx4).dr.tr h5))).mono ?_
      rintro e w6 ⟨v6, rfl, hown6, hg6⟩
      obtain ⟨a6, c6, rfl, _, _, hat6⟩ := hown6.at_ entLay.len
      have HT6 := Lib.hid hat6
      clear hown6 hat6
      refine ⟨hg6, hK _ _ ?_⟩
      clear hK K
      have hg46 := ((Grows.drew w4).tr h5).tr hg6
      clear h5 hg6
      have CL := fun W => Lib.hid (less_any ⟨xr, xs, xl, xt, xc⟩ ⟨yr, ys, yl, yt, yc⟩ W)
      have CM := fun W => Lib.hid (less2_any ⟨xr, xs, xl, xt, xc⟩ ⟨yr, ys, yl, yt, yc⟩ W)
      generalize lessS ⟨xr, xs, xl, xt, xc⟩ ⟨yr, ys, yl, yt, yc⟩ = R at CL CM
      obtain ⟨x0, x1, x2, x3, x4, y0, y1, y2, y3, y4⟩ := HB.out _ (hgx4.tr hg46); have ex0 := ext_cell (w := w6) x0; have ex1 := ext_cell (w := w6) x1; have ex2 := ext_cell (w := w6) x2; have ex3 := ext_cell (w := w6) x3; have ex4 := ext_cell (w := w6) x4; have ey0 := ext_cell (w := w6) y0; have ey1 := ext_cell (w := w6) y1; have ey2 := ext_cell (w := w6) y2; have ey3 := ext_cell (w := w6) y3; have ey4 := ext_cell (w := w6) y4; clear x0 x1 x2 x3 x4 y0 y1 y2 y3 y4
      refine ord_quiet rfl (fun K hK => ?_)
      go_simp
      apply Exists.intro
      refine ⟨fun x => ?_, hK _ ?_⟩
      · go_at_call 26; exact calls_ext (same_self2 (sortS l) _ _ _ _ _ (by omega) ((HT4.out.grows hg46).grows x.h) (HT6.out.grows x.h))
      clear hK K
      iterate 4 (refine ord_quiet rfl (fun K hK => ?_); go_simp; refine hK _ ?_; clear hK K)
      refine ord_quiet rfl (fun K hK => ?_)
      go_simp
      apply Exists.intro
      refine ⟨fun x => ?_, hK _ ?_⟩
      · go_at_call 28; exact calls_ext (CL _).out
      clear hK K
      iterate 2 (refine ord_quiet rfl (fun K hK => ?_); go_simp; refine hK _ ?_; clear hK K)
      refine ord_quiet rfl (fun K hK => ?_)
      go_simp
      apply Exists.intro
      refine ⟨fun x => ?_, hK _ ?_⟩
      · go_at_call 29; exact calls_ext (CM _).out
      clear hK K
      iterate 2 (refine ord_quiet rfl (fun K hK => ?_); go_simp; refine hK _ ?_; clear hK K)
      refine ord_end (fun w7 h7 => ?_)
      have hgr : Grows w3 w7 := (hg4.tr hg46).tr h7
      clear ex0 ex1 ex2 ex3 ex4 ey0 ey1 ey2 ey3 ey4 CL CM HB
      have hown7 := hown4.grows (hg46.tr h7)
      clear hown4 HT4 HT6 hg46 h7 hg4 hgx4
      rcases hown7.2 with ⟨hv, h0⟩ | ⟨g, cap, cur, hv, hb, hh, hn, hc, hs, ht⟩
      · obtain ⟨rfl, _, rfl⟩ : a4 = none ∧ (sortS l).length = 0 ∧ c4 = 0 := by simpa using hv
        clear hown7 hv
        generalize (sortS l).length = N at *
        subst h0
        go_wp2_with fail
        go_loopw [9] (fun i wx => i = .int .i64 0 ∧ wx = w7) (fun _ _ => 0)
        case atStart => exact ⟨rfl, rfl⟩
        case round =>
          obtain ⟨rfl, rfl⟩ := hrel
          go_wp2_with fail
          refine (same_self2 l a3 la c3 lc _ (by omega) (HT3.out.grows hgr) (HAT.out.grows ((hgw.tr hgx3).tr hgr))).mono ?_
          rintro e w8 ⟨rfl, hg8⟩
          go_wp2_with fail
          refine (works_any _ (he.grows (((hgw.tr hgx3).tr hgr).tr hg8))).mono ?_
          rintro e w9 ⟨rfl, hg9⟩
          go_wp2
          go_ret
          exact ⟨rfl, (((hgw.tr hgx3).tr hgr).tr hg8).tr hg9⟩
      · obtain ⟨rfl, rfl⟩ : a4 = some ⟨g, 0, none⟩ ∧ c4 = cap := by simpa using hv
        have hcell : Hid (∀ j, j < (sortS l).length * 5 → (∃ u, w7.cell? ⟨g, j, none⟩ = some u) ∧ w7.frozen? ⟨g, j, none⟩ = false) := fun j hj => by
          have hj2 : j < cur.size := by rw [hs]; exact Nat.lt_of_lt_of_le hj (Nat.mul_le_mul_right 5 hn)
          exact ⟨⟨cur[j], by simp [World.cell?, hh, hj2]⟩, by simp [World.frozen?, hh]⟩
        clear hown7 hv hh hs ht hc
        generalize (sortS l).length = N at *
        go_wp2_with fail
        go_loopw [9] (fun i wx => ∃ k : Nat, k ≤ N ∧ i = .int .i64 k ∧ Hid (∀ j, j < N * 5 → (∃ u, wx.cell? ⟨g, j, none⟩ = some u) ∧ wx.frozen? ⟨g, j, none⟩ = false) ∧ Grows w3 wx) (fun i _ => N - (intOf i).toNat)
        case atStart => exact ⟨0, Nat.zero_le _, rfl, hcell, hgr⟩
        case round =>
          obtain ⟨k, hk, rfl, hcl, hgr⟩ := hrel
          by_cases hlt : k < N
          · obtain ⟨⟨u0, d0⟩, f0⟩ := hcl.out (k * 5) (by omega)
            obtain ⟨⟨u1, d1⟩, f1⟩ := hcl.out (k * 5 + 1) (by omega)
            obtain ⟨⟨u2, d2⟩, f2⟩ := hcl.out (k * 5 + 2) (by omega)
            obtain ⟨⟨u3, d3⟩, f3⟩ := hcl.out (k * 5 + 3) (by omega)
            obtain ⟨⟨u4, d4⟩, f4⟩ := hcl.out (k * 5 + 4) (by omega)
            go_wp2_with fail
            go_roundw
            case rel => exact ⟨k + 1, hlt, by go_num, fun j hj => has_set _ _ (has_set _ _ (has_set _ _ (has_set _ _ (has_set _ _ (hcl.out j hj))))), ((((hgr.set hb _).set hb _).set hb _).set hb _).set hb _⟩
            case measure => simp [intOf]; omega
          · obtain rfl : k = N := by omega
            go_wp2_with fail
            refine (same_self2 l a3 la c3 lc _ (by omega) (HT3.out.grows hgr) (HAT.out.grows ((hgw.tr hgx3).tr hgr))).mono ?_
            rintro e w8 ⟨rfl, hg8⟩
            go_wp2_with fail
            refine (works_any _ (he.grows (((hgw.tr hgx3).tr hgr).tr hg8))).mono ?_
            rintro e w9 ⟨rfl, hg9⟩
            go_wp2
            go_ret
            exact ⟨rfl, (((hgw.tr hgx3).tr hgr).tr hg8).tr hg9⟩
end Go.Proofs.YtndhhgpmpnmljaaGreatDoor
