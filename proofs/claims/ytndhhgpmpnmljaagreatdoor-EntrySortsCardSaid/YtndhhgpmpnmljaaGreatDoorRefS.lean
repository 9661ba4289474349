import Derived.Test.YtndhhgpmpnmljaaGreatDoorVariants
import Derived.Test.YtndhhgpmpnmljaaGreatDoorSortR
import Derived.Test.YtndhhgpmpnmljaaGreatDoorSortWP
import Derived.Test.YtndhhgpmpnmljaaGreatDoorApp2
import Derived.Test.YtndhhgpmpnmljaaGreatDoorSlc
import Derived.Test.YtndhhgpmpnmljaaGreatDoorOrdS
namespace Go.Proofs.YtndhhgpmpnmljaaGreatDoor
open Go Go.RowKit
attribute [local go_sem] quietE

def KeepTo (l : List En) (x : En) (k m : Nat) (kb : Bool) : Prop := kb = true ↔ ∀ j y, j < m → l[j]? = some y → ¬ Bad x k y j
theorem KeepTo.start (l : List En) (x : En) (k : Nat) : KeepTo l x k 0 true := ⟨fun _ j y hj => by omega, fun _ => rfl⟩
theorem KeepTo.bad {l : List En} {x y : En} {k m : Nat} (hy : l[m]? = some y) (hb : Bad x k y m) : KeepTo l x k (m + 1) false := ⟨fun h => (by cases h), fun h => absurd hb (h m y (Nat.lt_succ_self _) hy)⟩
theorem KeepTo.good {l : List En} {x y : En} {k m : Nat} {kb : Bool} (h : KeepTo l x k m kb) (hy : l[m]? = some y) (hb : ¬ Bad x k y m) : KeepTo l x k (m + 1) kb := by
  constructor
  · intro hk j z hj hz
    rcases Nat.lt_succ_iff_lt_or_eq.1 hj with hj | rfl
    · exact h.1 hk j z hj hz
    · rw [hy] at hz
      rw [← Option.some.inj hz]; exact hb
  · intro hk
    exact h.2 fun j z hj hz => hk j z (by omega) hz
theorem KeepTo.full {l : List En} {x : En} {k : Nat} {kb : Bool} (h : KeepTo l x k l.length kb) (hx : l[k]? = some x) : kb = true ↔ leastB l x = true ∧ x ∉ l.take k := h.trans (keep_iff hx)
theorem variants_is {x y : En} {b : Bool} (hb : decide (sameKey x y) = b) (W : World) : Calls Tryz.prog 60 #[x.agg, y.agg] W fun e w' => e = .returned (.bool b) ∧ Grows W w' := hb ▸ variants_any x y W
theorem less2_is {x y : En} {b : Bool} (hb : lessS x y = b) (W : World) : Calls Tryz.prog 29 #[x.agg, y.agg] W fun e w' => e = .returned (.bool b) ∧ Grows W w' := hb ▸ less2_any x y W
theorem owns_none {α : Type} {w : World} {base : Nat} {e : TypeId} {k : Nat} {enc : α → List Value} {a : Option Addr} {n c : Nat} {xs : List α} (h : Owns w base e k enc (.slice a n c) xs) : a = none → c = 0 := by
  intro ha
  rcases h.2 with ⟨h1, _⟩ | ⟨g, cap, cur, h1, _⟩
  · have : a = none ∧ n = 0 ∧ c = 0 := by simpa using h1
    exact this.2.2
  · rw [ha] at h1; simp at h1

set_option maxHeartbeats 8000000 in
set_option maxRecDepth 100000 in
theorem rsort_any (l : List En) (la : Option Addr) (cap : Nat) (w : World) (hl : l.length ≤ 1048576) (hat : AtCells w la 5 (l.map enCells)) :
    Calls Tryz.prog 27 #[.slice la l.length cap] w (ESortPost l w) := by
  have HAT := Lib.hid hat
  clear hat
  go_enter Tryz.func27, Tryz.ntmps27
  go_wp2_with fail
  go_loopw [3, 4] (fun v i wr => ∃ (k : Nat) (o : List En), k ≤ l.length ∧ i = .int .i64 k ∧ Owns wr w.heap.size 54 5 enCells v o ∧ o.length ≤ k ∧ Hid (SInv l k o) ∧ Grows w wr) (fun _ i _ => l.length - (intOf i).toNat)
  case atStart => exact ⟨0, [], Nat.zero_le _, rfl, Owns.nil _ _ _ _ _, Nat.zero_le _, SInv.start l, Grows.refl _⟩
  case round =>
    obtain ⟨k, o, hk, rfl, hown, hol, hinv, hg⟩ := hrel
    obtain ⟨u0, rfl⟩ : ∃ u0, u0 = wr := ⟨_, rfl⟩
    by_cases hlt : k < l.length
    · obtain ⟨⟨xr, xs, xl, xt, xc⟩, hx⟩ : ∃ x, l[k]? = some x := ⟨_, List.getElem?_eq_getElem hlt⟩
      obtain ⟨a3, c3, rfl, hc1, hc2, hoat⟩ := hown.at_ entLay.len
      obtain ⟨ba, oa, rfl, hca⟩ := (HAT.out.grows hg).get (ne_nil_of_lt hlt)
      have HCA := Lib.hid hca
      have HX := Lib.hid hx
      have HO := Lib.hid hoat
      clear hca hx hoat
      go_wp2_with fail
      go_loopw [5, 6] (fun b j wx => ∃ (m : Nat) (kb : Bool), m ≤ l.length ∧ j = .int .i64 m ∧ b = .bool kb ∧ Hid (KeepTo l ⟨xr, xs, xl, xt, xc⟩ k m kb) ∧ Grows u0 wx) (fun _ j _ => l.length - (intOf j).toNat)
      case atStart => exact ⟨0, true, Nat.zero_le _, rfl, rfl, KeepTo.start _ _ _, Grows.refl _⟩
      case round =>
        obtain ⟨m, kb, hm, rfl, rfl, hkb, hgx⟩ := hrel
        by_cases hml : m < l.length
        · obtain ⟨⟨yr, ys, yl, yt, yc⟩, hy⟩ : ∃ y, l[m]? = some y := ⟨_, List.getElem?_eq_getElem hml⟩
          have HY := Lib.hid hy
          clear hy
          go_wp2_with fail
          have x0 : ∀ x : Ext Grows wr.drew, x.u.cell? ⟨ba, oa + k * 5, none⟩ = some (.string xr) := ext_cell (hgx.dr.cell (HCA.out k _ HX.out 0 _ rfl)); have x1 : ∀ x : Ext Grows wr.drew, x.u.cell? ⟨ba, oa + k * 5 + 1, none⟩ = some (.string xs) := ext_cell (hgx.dr.cell (HCA.out k _ HX.out 1 _ rfl)); have x2 : ∀ x : Ext Grows wr.drew, x.u.cell? ⟨ba, oa + k * 5 + 2, none⟩ = some (.int .i64 xl) := ext_cell (hgx.dr.cell (HCA.out k _ HX.out 2 _ rfl)); have x3 : ∀ x : Ext Grows wr.drew, x.u.cell? ⟨ba, oa + k * 5 + 3, none⟩ = some (.int .i64 xt) := ext_cell (hgx.dr.cell (HCA.out k _ HX.out 3 _ rfl)); have x4 : ∀ x : Ext Grows wr.drew, x.u.cell? ⟨ba, oa + k * 5 + 4, none⟩ = some (.int .i64 xc) := ext_cell (hgx.dr.cell (HCA.out k _ HX.out 4 _ rfl))
          have y0 : ∀ x : Ext Grows wr.drew, x.u.cell? ⟨ba, oa + m * 5, none⟩ = some (.string yr) := ext_cell (hgx.dr.cell (HCA.out m _ HY.out 0 _ rfl)); have y1 : ∀ x : Ext Grows wr.drew, x.u.cell? ⟨ba, oa + m * 5 + 1, none⟩ = some (.string ys) := ext_cell (hgx.dr.cell (HCA.out m _ HY.out 1 _ rfl)); have y2 : ∀ x : Ext Grows wr.drew, x.u.cell? ⟨ba, oa + m * 5 + 2, none⟩ = some (.int .i64 yl) := ext_cell (hgx.dr.cell (HCA.out m _ HY.out 2 _ rfl)); have y3 : ∀ x : Ext Grows wr.drew, x.u.cell? ⟨ba, oa + m * 5 + 3, none⟩ = some (.int .i64 yt) := ext_cell (hgx.dr.cell (HCA.out m _ HY.out 3 _ rfl)); have y4 : ∀ x : Ext Grows wr.drew, x.u.cell? ⟨ba, oa + m * 5 + 4, none⟩ = some (.int .i64 yc) := ext_cell (hgx.dr.cell (HCA.out m _ HY.out 4 _ rfl))
          by_cases hs : sameKey ⟨xr, xs, xl, xt, xc⟩ ⟨yr, ys, yl, yt, yc⟩
          · have HSB : Hid (decide (sameKey ⟨xr, xs, xl, xt, xc⟩ ⟨yr, ys, yl, yt, yc⟩) = true) := decide_eq_true hs
            have HS := Lib.hid hs
            clear hs
            refine s_region Grows [(0, false), (1, false), (2, false), (3, false), (4, false), (5, false), (6, false), (7, false), (8, false), (9, false), (10, false), (11, false), (12, false), (13, false), (14, false), (15, false), (16, false), (17, false), (18, false), (19, false), (20, false), (21, false), (22, false), (23, false), (24, false), (25, false), (26, false), (27, false), (28, false), (29, false), (30, false), (31, false), (32, false), (33, false), (34, false), (35, false), (36, false), (37, false), (38, false), (39, false)] Grows.refl Grows.trans (by kernel_rfl) (by kernel_rfl) (fun d _ _ _ _ h => by cases d <;> exact h) ?_
            iterate 8 (refine s_quiet rfl (fun K hK => ?_); go_simp; refine hK _ ?_; clear hK K)
            refine s_quiet rfl (fun K hK => ?_)
            go_simp
            apply Exists.intro
            refine ⟨fun x => ?_, hK _ ?_⟩
            · go_at_call 60; exact calls_ext (variants_is (x := ⟨xr, xs, xl, xt, xc⟩) (y := ⟨yr, ys, yl, yt, yc⟩) HSB.out _)
            clear hK K
            iterate 1 (refine s_quiet rfl (fun K hK => ?_); go_simp; refine hK _ ?_; clear hK K)
            iterate 12 (refine s_quiet rfl (fun K hK => ?_); go_simp; refine hK _ ?_; clear hK K)
            by_cases h1 : yc < xc
            · have HB : Hid (Bad ⟨xr, xs, xl, xt, xc⟩ k ⟨yr, ys, yl, yt, yc⟩ m) := ⟨HS.out, Or.inl h1⟩
              iterate 18 (refine s_quiet rfl (fun K hK => ?_); go_simp; refine hK _ ?_; clear hK K)
              refine s_end (fun w4 h4 => ?_)
              go_wp2_with fail
              go_roundw
              case rel => exact ⟨m + 1, false, hml, by go_num, rfl, KeepTo.bad HY.out HB.out, hgx.dr.tr h4⟩
              case measure => simp [intOf]; omega
            · iterate 12 (refine s_quiet rfl (fun K hK => ?_); go_simp; refine hK _ ?_; clear hK K)
              by_cases h2 : yc = xc
              · by_cases h3 : m < k
                · have HB : Hid (Bad ⟨xr, xs, xl, xt, xc⟩ k ⟨yr, ys, yl, yt, yc⟩ m) := ⟨HS.out, Or.inr ⟨h2, h3⟩⟩
                  iterate 6 (refine s_quiet rfl (fun K hK => ?_); go_simp; refine hK _ ?_; clear hK K)
                  refine s_end (fun w4 h4 => ?_)
                  go_wp2_with fail
                  go_roundw
                  case rel => exact ⟨m + 1, false, hml, by go_num, rfl, KeepTo.bad HY.out HB.out, hgx.dr.tr h4⟩
                  case measure => simp [intOf]; omega
                · have HB : Hid (¬ Bad ⟨xr, xs, xl, xt, xc⟩ k ⟨yr, ys, yl, yt, yc⟩ m) := fun h => by rcases h.2 with h4 | ⟨_, h4⟩ <;> (try simp only at h4) <;> omega
                  iterate 6 (refine s_quiet rfl (fun K hK => ?_); go_simp; refine hK _ ?_; clear hK K)
                  refine s_end (fun w4 h4 => ?_)
                  go_wp2_with fail
                  go_roundw
                  case rel => exact ⟨m + 1, kb, hml, by go_num, rfl, hkb.out.good HY.out HB.out, hgx.dr.tr h4⟩
                  case measure => simp [intOf]; omega
              · have HB : Hid (¬ Bad ⟨xr, xs, xl, xt, xc⟩ k ⟨yr, ys, yl, yt, yc⟩ m) := fun h => by rcases h.2 with h4 | ⟨h4, _⟩ <;> (try simp only at h4) <;> omega
                iterate 6 (refine s_quiet rfl (fun K hK => ?_); go_simp; refine hK _ ?_; clear hK K)
                refine s_end (fun w4 h4 => ?_)
                go_wp2_with fail
                go_roundw
                case rel => exact ⟨m + 1, kb, hml, by go_num, rfl, hkb.out.good HY.out HB.out, hgx.dr.tr h4⟩
                case measure => simp [intOf]; omega
          · have HSB : Hid (decide (sameKey ⟨xr, xs, xl, xt, xc⟩ ⟨yr, ys, yl, yt, yc⟩) = false) := decide_eq_false hs
            have HS := Lib.hid hs
            clear hs
            refine s_region Grows [(0, false), (1, false), (2, false), (3, false), (4, false), (5, false), (6, false), (7, false), (8, false), (9, false), (10, false), (11, false), (12, false), (13, false), (14, false), (15, false), (16, false), (17, false), (18, false), (19, false), (20, false), (21, false), (22, false), (23, false), (24, false), (25, false), (26, false), (27, false), (28, false), (29, false), (30, false), (31, false), (32, false), (33, false), (34, false), (35, false), (36, false), (37, false), (38, false), (39, false)] Grows.refl Grows.trans (by kernel_rfl) (by kernel_rfl) (fun d _ _ _ _ h => by cases d <;> exact h) ?_
            iterate 8 (refine s_quiet rfl (fun K hK => ?_); go_simp; refine hK _ ?_; clear hK K)
            refine s_quiet rfl (fun K hK => ?_)
            go_simp
            apply Exists.intro
            refine ⟨fun x => ?_, hK _ ?_⟩
            · go_at_call 60; exact calls_ext (variants_is (x := ⟨xr, xs, xl, xt, xc⟩) (y := ⟨yr, ys, yl, yt, yc⟩) HSB.out _)
            clear hK K
            iterate 1 (refine s_quiet rfl (fun K hK => ?_); go_simp; refine hK _ ?_; clear hK K)
            have HB : Hid (¬ Bad ⟨xr, xs, xl, xt, xc⟩ k ⟨yr, ys, yl, yt, yc⟩ m) := fun h => HS.out h.1
            iterate 30 (refine s_quiet rfl (fun K hK => ?_); go_simp; refine hK _ ?_; clear hK K)
            refine s_end (fun w4 h4 => ?_)
            go_wp2_with fail
            go_roundw
            case rel => exact ⟨m + 1, kb, hml, by go_num, rfl, hkb.out.good HY.out HB.out, hgx.dr.tr h4⟩
            case measure => simp [intOf]; omega
        · obtain rfl : m = l.length := by omega
          have hfull := hkb.out.full HX.out
          have hown1 := hown.grows hgx
          cases kb
          · have HN : Hid (SInv l (k + 1) o) := hinv.out.skip HX.out (fun h => by cases hfull.2 h)
            clear hfull
            go_wp2_with fail
            go_roundw
            case rel => exact ⟨k + 1, o, hlt, by go_num, hown1, by omega, HN, hg.tr hgx⟩
            case measure => simp [intOf]; omega
          · obtain ⟨hf1, hf2⟩ := hfull.1 rfl
            have HN : Hid (SInv l (k + 1) (insE ⟨xr, xs, xl, xt, xc⟩ o)) := hinv.out.ins HX.out hf1 hf2
            have HCN : Hid (a3 = none → c3 = 0) := owns_none hown
            clear hfull hf1 hf2
            obtain ⟨u1, rfl⟩ : ∃ u1, u1 = wr := ⟨_, rfl⟩
            go_wp2_with fail
            go_loopw [8] (fun a wx => ∃ (m : Nat), m ≤ o.length ∧ a = .int .i64 m ∧ Hid (∀ j y, j < m → o[j]? = some y → lessS y ⟨xr, xs, xl, xt, xc⟩ = true) ∧ Grows u0 wx) (fun a _ => o.length - (intOf a).toNat)
            case atStart => exact ⟨0, Nat.zero_le _, rfl, fun j y hj => by omega, hgx⟩
            case round =>
              obtain ⟨m, hm, rfl, hall, hgu⟩ := hrel
              obtain ⟨u2, rfl⟩ : ∃ u2, u2 = wr := ⟨_, rfl⟩
              by_cases hmo : m < o.length
              · obtain ⟨⟨yr, ys, yl, yt, yc⟩, hy⟩ : ∃ y, o[m]? = some y := ⟨_, List.getElem?_eq_getElem hmo⟩
                obtain ⟨ob, oo, rfl, hco⟩ := HO.out.get (ne_nil_of_lt hmo)
                have HCO := Lib.hid hco
                have HY := Lib.hid hy
                clear hco hy
                have x0 : ∀ x : Ext Grows u2.drew, x.u.cell? ⟨ba, oa + k * 5, none⟩ = some (.string xr) := ext_cell (hgu.dr.cell (HCA.out k _ HX.out 0 _ rfl)); have x1 : ∀ x : Ext Grows u2.drew, x.u.cell? ⟨ba, oa + k * 5 + 1, none⟩ = some (.string xs) := ext_cell (hgu.dr.cell (HCA.out k _ HX.out 1 _ rfl)); have x2 : ∀ x : Ext Grows u2.drew, x.u.cell? ⟨ba, oa + k * 5 + 2, none⟩ = some (.int .i64 xl) := ext_cell (hgu.dr.cell (HCA.out k _ HX.out 2 _ rfl)); have x3 : ∀ x : Ext Grows u2.drew, x.u.cell? ⟨ba, oa + k * 5 + 3, none⟩ = some (.int .i64 xt) := ext_cell (hgu.dr.cell (HCA.out k _ HX.out 3 _ rfl)); have x4 : ∀ x : Ext Grows u2.drew, x.u.cell? ⟨ba, oa + k * 5 + 4, none⟩ = some (.int .i64 xc) := ext_cell (hgu.dr.cell (HCA.out k _ HX.out 4 _ rfl))
                have y0 : ∀ x : Ext Grows u2.drew, x.u.cell? ⟨ob, oo + m * 5, none⟩ = some (.string yr) := ext_cell (hgu.dr.cell (HCO.out m _ HY.out 0 _ rfl)); have y1 : ∀ x : Ext Grows u2.drew, x.u.cell? ⟨ob, oo + m * 5 + 1, none⟩ = some (.string ys) := ext_cell (hgu.dr.cell (HCO.out m _ HY.out 1 _ rfl)); have y2 : ∀ x : Ext Grows u2.drew, x.u.cell? ⟨ob, oo + m * 5 + 2, none⟩ = some (.int .i64 yl) := ext_cell (hgu.dr.cell (HCO.out m _ HY.out 2 _ rfl)); have y3 : ∀ x : Ext Grows u2.drew, x.u.cell? ⟨ob, oo + m * 5 + 3, none⟩ = some (.int .i64 yt) := ext_cell (hgu.dr.cell (HCO.out m _ HY.out 3 _ rfl)); have y4 : ∀ x : Ext Grows u2.drew, x.u.cell? ⟨ob, oo + m * 5 + 4, none⟩ = some (.int .i64 yc) := ext_cell (hgu.dr.cell (HCO.out m _ HY.out 4 _ rfl))
                cases hls : lessS ⟨yr, ys, yl, yt, yc⟩ ⟨xr, xs, xl, xt, xc⟩
                · have hins := insE_at (x := ⟨xr, xs, xl, xt, xc⟩) hm hall.out (Or.inr ⟨_, HY.out, hls⟩)
                  have HIN := Lib.hid hins
                  clear hins
                  go_wp2_with fail
                  refine s_region Grows [(0, false), (1, false), (2, false), (3, false), (4, false), (5, false), (6, false), (7, false), (8, false), (9, false), (10, false), (11, false), (12, false), (13, false), (14, false)] Grows.refl Grows.trans (by kernel_rfl) (by kernel_rfl) (fun d _ _ _ _ h => by cases d <;> exact h) ?_
                  iterate 13 (refine s_quiet rfl (fun K hK => ?_); go_simp; refine hK _ ?_; clear hK K)
                  refine s_quiet rfl (fun K hK => ?_)
                  go_simp
                  apply Exists.intro
                  refine ⟨fun x => ?_, hK _ ?_⟩
                  · go_at_call 29; exact calls_ext (less2_is (x := ⟨yr, ys, yl, yt, yc⟩) (y := ⟨xr, xs, xl, xt, xc⟩) hls _)
                  clear hK K
                  iterate 1 (refine s_quiet rfl (fun K hK => ?_); go_simp; refine hK _ ?_; clear hK K)
                  refine s_end (fun w4 h4 => ?_)
                  have hgw4 := hgu.dr.tr h4
                  obtain ⟨p2, hp2, hq2, hr2⟩ := sliced_at (k := 5) (l := m) (h := o.length) (HO.out.grows hgw4) HCN.out hm (Nat.le_refl _) hc1
                  have hne : ¬ c3 = m := by omega
                  obtain rfl : p2 = some ⟨ob, oo + m * 5, none⟩ := by
                    unfold sliced at hp2
                    rw [if_neg hne, Option.map_some, add_zero_off] at hp2
                    injection hp2 with h
                    exact h.symm
                  clear hp2
                  rw [List.take_length] at hq2
                  have hq1 := at_take (HO.out.grows hgw4) m
                  have hmc : m ≤ c3 := by omega
                  have hl1 : (o.take m).length = m := by rw [List.length_take]; omega
                  have hl2 : (o.drop m).length = o.length - m := List.length_drop
                  have HQ1 := Lib.hid hq1
                  have HQ2 := Lib.hid hq2
                  clear hq1 hq2
                  go_wp2_with (first
                    | (at_builtin; refine app_many entLay rfl _ _ rfl w4.heap.size (.slice none 0 0) [] (o.take m) rfl (Owns.nil w4 _ _ _ _) (Grows.refl _) _ c3 (by rw [hl1]; rfl) HQ1.out HCN.out (by rw [hl1]; simp; omega) (Nat.le_refl _) ?_; intro v5 w5 hown5 hg5; have hgu5 := hg5 w4 (Grows.refl _) (Nat.le_refl _); clear hg5; rw [List.nil_append] at hown5; have z0 : w5.cell? ⟨ba, oa + k * 5, none⟩ = some (.string xr) := (hgw4.tr hgu5).cell (HCA.out k _ HX.out 0 _ rfl); have z1 : w5.cell? ⟨ba, oa + k * 5 + 1, none⟩ = some (.string xs) := (hgw4.tr hgu5).cell (HCA.out k _ HX.out 1 _ rfl); have z2 : w5.cell? ⟨ba, oa + k * 5 + 2, none⟩ = some (.int .i64 xl) := (hgw4.tr hgu5).cell (HCA.out k _ HX.out 2 _ rfl); have z3 : w5.cell? ⟨ba, oa + k * 5 + 3, none⟩ = some (.int .i64 xt) := (hgw4.tr hgu5).cell (HCA.out k _ HX.out 3 _ rfl); have z4 : w5.cell? ⟨ba, oa + k * 5 + 4, none⟩ = some (.int .i64 xc) := (hgw4.tr hgu5).cell (HCA.out k _ HX.out 4 _ rfl))
                    | (at_builtin; refine app_one entLay rfl _ _ rfl w4.heap.size _ (o.take m) ⟨xr, xs, xl, xt, xc⟩ rfl hown5 (Grows.refl _) _ 1 rfl _ rfl rfl (by rw [hl1]; omega) hgu5.size ?_; intro v6 w6 hown6 hg6; have hgu6 := hg6 w4 hgu5 (Nat.le_refl _); clear hg6)
                    | (at_builtin; refine app_many entLay rfl _ _ rfl w4.heap.size _ (o.take m ++ [⟨xr, xs, xl, xt, xc⟩]) (o.drop m) rfl hown6 (Grows.refl _) _ (c3 - m) (by rw [hl2]; rfl) (HQ2.out.grows hgu6) hr2 (by rw [List.length_append, hl1, hl2]; simp; omega) hgu6.size ?_; intro v7 w7 hown7 hg7; have hgu7 := hg7 w4 hgu6 (Nat.le_refl _); clear hg7))
                  go_roundw
                  case rel => exact ⟨k + 1, insE ⟨xr, xs, xl, xt, xc⟩ o, hlt, by go_num, by rw [HIN.out, ← List.append_assoc]; exact hown7.base (Nat.le_trans hg.size (hgw4.size)), by rw [length_insE]; omega, HN, (hg.tr hgw4).tr hgu7⟩
                  case measure => simp [intOf]; omega
                · have hall2 : Hid (∀ j y, j < m + 1 → o[j]? = some y → lessS y ⟨xr, xs, xl, xt, xc⟩ = true) := fun j y hj hy => by
                    rcases Nat.lt_succ_iff_lt_or_eq.1 hj with h | rfl
                    · exact hall.out j y h hy
                    · rw [HY.out] at hy
                      rw [← Option.some.inj hy]; exact hls
                  go_wp2_with fail
                  refine s_region Grows [(0, false), (1, false), (2, false), (3, false), (4, false), (5, false), (6, false), (7, false), (8, false), (9, false), (10, false), (11, false), (12, false), (13, false), (14, false)] Grows.refl Grows.trans (by kernel_rfl) (by kernel_rfl) (fun d _ _ _ _ h => by cases d <;> exact h) ?_
                  iterate 13 (refine s_quiet rfl (fun K hK => ?_); go_simp; refine hK _ ?_; clear hK K)
                  refine s_quiet rfl (fun K hK => ?_)
                  go_simp
                  apply Exists.intro
                  refine ⟨fun x => ?_, hK _ ?_⟩
                  · go_at_call 29; exact calls_ext (less2_is (x := ⟨yr, ys, yl, yt, yc⟩) (y := ⟨xr, xs, xl, xt, xc⟩) hls _)
                  clear hK K
                  iterate 1 (refine s_quiet rfl (fun K hK => ?_); go_simp; refine hK _ ?_; clear hK K)
                  refine s_end (fun w4 h4 => ?_)
                  go_wp2_with fail
                  go_roundw
                  case rel => exact ⟨m + 1, hmo, by go_num, hall2, hgu.dr.tr h4⟩
                  case measure => simp [intOf]; omega
              · have hme : m = o.length := by omega
                have hins := insE_at (x := ⟨xr, xs, xl, xt, xc⟩) hm hall.out (Or.inl hme)
                have HIN := Lib.hid hins
                clear hins hme
                go_wp2_with fail
                refine s_region Grows [(0, false), (1, false), (2, false), (3, false), (4, false), (5, false), (6, false), (7, false), (8, false), (9, false), (10, false), (11, false), (12, false), (13, false), (14, false)] Grows.refl Grows.trans (by kernel_rfl) (by kernel_rfl) (fun d _ _ _ _ h => by cases d <;> exact h) ?_
                iterate 15 (refine s_quiet rfl (fun K hK => ?_); go_simp; refine hK _ ?_; clear hK K)
                refine s_end (fun w4 h4 => ?_)
                have hgw4 := hgu.dr.tr h4
                obtain ⟨p2, hp2, hq2, hr2⟩ := sliced_at (k := 5) (l := m) (h := o.length) (HO.out.grows hgw4) HCN.out hm (Nat.le_refl _) hc1
                have hsl : (if c3 = m then a3 else Option.map (fun x => x.add (m * 5)) a3) = p2 := by
                  unfold sliced at hp2
                  injection hp2
                clear hp2
                rw [List.take_length] at hq2
                have hq1 := at_take (HO.out.grows hgw4) m
                have hmc : m ≤ c3 := by omega
                have hl1 : (o.take m).length = m := by rw [List.length_take]; omega
                have hl2 : (o.drop m).length = o.length - m := List.length_drop
                have HQ1 := Lib.hid hq1
                have HQ2 := Lib.hid hq2
                clear hq1 hq2
                go_wp2_with (first
                  | (at_builtin; refine app_many entLay rfl _ _ rfl w4.heap.size (.slice none 0 0) [] (o.take m) rfl (Owns.nil w4 _ _ _ _) (Grows.refl _) _ c3 (by rw [hl1]; rfl) HQ1.out HCN.out (by rw [hl1]; simp; omega) (Nat.le_refl _) ?_; intro v5 w5 hown5 hg5; have hgu5 := hg5 w4 (Grows.refl _) (Nat.le_refl _); clear hg5; rw [List.nil_append] at hown5; have z0 : w5.cell? ⟨ba, oa + k * 5, none⟩ = some (.string xr) := (hgw4.tr hgu5).cell (HCA.out k _ HX.out 0 _ rfl); have z1 : w5.cell? ⟨ba, oa + k * 5 + 1, none⟩ = some (.string xs) := (hgw4.tr hgu5).cell (HCA.out k _ HX.out 1 _ rfl); have z2 : w5.cell? ⟨ba, oa + k * 5 + 2, none⟩ = some (.int .i64 xl) := (hgw4.tr hgu5).cell (HCA.out k _ HX.out 2 _ rfl); have z3 : w5.cell? ⟨ba, oa + k * 5 + 3, none⟩ = some (.int .i64 xt) := (hgw4.tr hgu5).cell (HCA.out k _ HX.out 3 _ rfl); have z4 : w5.cell? ⟨ba, oa + k * 5 + 4, none⟩ = some (.int .i64 xc) := (hgw4.tr hgu5).cell (HCA.out k _ HX.out 4 _ rfl))
                  | (at_builtin; refine app_one entLay rfl _ _ rfl w4.heap.size _ (o.take m) ⟨xr, xs, xl, xt, xc⟩ rfl hown5 (Grows.refl _) _ 1 rfl _ rfl rfl (by rw [hl1]; omega) hgu5.size ?_; intro v6 w6 hown6 hg6; have hgu6 := hg6 w4 hgu5 (Nat.le_refl _); clear hg6)
                  | (at_builtin; refine app_many entLay rfl _ _ rfl w4.heap.size _ (o.take m ++ [⟨xr, xs, xl, xt, xc⟩]) (o.drop m) rfl hown6 (Grows.refl _) _ (c3 - m) (by rw [hl2]; rfl) (HQ2.out.grows hgu6) hr2 (by rw [List.length_append, hl1, hl2]; simp; omega) hgu6.size ?_; intro v7 w7 hown7 hg7; have hgu7 := hg7 w4 hgu6 (Nat.le_refl _); clear hg7))
                go_roundw
                case rel => exact ⟨k + 1, insE ⟨xr, xs, xl, xt, xc⟩ o, hlt, by go_num, by rw [HIN.out, ← List.append_assoc]; exact hown7.base (Nat.le_trans hg.size (hgw4.size)), by rw [length_insE]; omega, HN, (hg.tr hgw4).tr hgu7⟩
                case measure => simp [intOf]; omega
    · obtain rfl : k = l.length := by omega
      have HN := hinv.out.done
      go_wp2_with fail
      go_ret
      exact ⟨_, rfl, HN ▸ hown, hg⟩
end Go.Proofs.YtndhhgpmpnmljaaGreatDoor
