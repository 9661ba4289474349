import Derived.Test.YtndhhgpmpnmljaaGreatDoorLess
namespace Go.Proofs.YtndhhgpmpnmljaaGreatDoor
open Go Go.RowKit Go.Shelf
attribute [local go_sem] quietE

instance : DecidableEq En := fun x y => decidable_of_iff (x.r = y.r ∧ x.s = y.s ∧ x.l = y.l ∧ x.t = y.t ∧ x.c = y.c) (by cases x; cases y; simp)

theorem ne5 {α : Type} {p1 p2 p3 p4 p5 : Prop} [Decidable p1] [Decidable p2] [Decidable p3] [Decidable p4] [Decidable p5] {x y : α} (h : ¬ (p1 ∧ p2 ∧ p3 ∧ p4 ∧ p5)) : (if p1 then if p2 then if p3 then if p4 then if p5 then x else y else y else y else y else y) = y := by
  by_cases h1 : p1 <;> by_cases h2 : p2 <;> by_cases h3 : p3 <;> by_cases h4 : p4 <;> by_cases h5 : p5 <;> simp_all
theorem toList_inj {x y : ByteArray} (h : x.toList = y.toList) : x = y := seq_iff.1 (by unfold seq; rw [h]; simp)

set_option maxHeartbeats 1000000 in
set_option maxRecDepth 100000 in
theorem same_any (a b : List En) (pa pb : Option Addr) (ca cb : Nat) (w : World) (la : a.length ≤ 4611686018427387904) (ha : AtCells w pa 5 (a.map enCells)) (hb : AtCells w pb 5 (b.map enCells)) :
    Calls Tryz.prog 26 #[.slice pa a.length ca, .slice pb b.length cb] w fun e w' => e = .returned (.bool (decide (a = b))) ∧ Grows w w' := by
  by_cases hlen : a.length = b.length
  · have hl2 : (a.length : Int) = b.length := by omega
    go_enter Tryz.func26, Tryz.ntmps26
    go_wp2_with fail
    go_loopw [5] (fun i wr => ∃ k : Nat, k ≤ a.length ∧ i = .int .i64 k ∧ Hid (a.take k = b.take k) ∧ Grows w wr) (fun i _ => a.length - (intOf i).toNat)
    case atStart => exact ⟨0, Nat.zero_le _, rfl, rfl, Grows.refl _⟩
    case round =>
      obtain ⟨k, hk, rfl, hpr, hg⟩ := hrel
      by_cases hlt : k < a.length
      · obtain ⟨⟨xr, xs, xl, xt, xc⟩, hx⟩ : ∃ x, a[k]? = some x := ⟨_, List.getElem?_eq_getElem hlt⟩
        obtain ⟨⟨yr, ys, yl, yt, yc⟩, hy⟩ : ∃ x, b[k]? = some x := ⟨_, List.getElem?_eq_getElem (by omega)⟩
        obtain ⟨ba, oa, rfl, hca⟩ := (ha.grows hg).get (ne_nil_of_lt hlt)
        obtain ⟨bb, ob, rfl, hcb⟩ := (hb.grows hg).get (ne_nil_of_lt (k := k) (by omega))
        have c0 : wr.cell? ⟨ba, oa + k * 5, none⟩ = some (.string xr) := hca k _ hx 0 _ rfl
        have c1 : wr.cell? ⟨ba, oa + k * 5 + 1, none⟩ = some (.string xs) := hca k _ hx 1 _ rfl
        have c2 : wr.cell? ⟨ba, oa + k * 5 + 2, none⟩ = some (.int .i64 xl) := hca k _ hx 2 _ rfl
        have c3 : wr.cell? ⟨ba, oa + k * 5 + 3, none⟩ = some (.int .i64 xt) := hca k _ hx 3 _ rfl
        have c4 : wr.cell? ⟨ba, oa + k * 5 + 4, none⟩ = some (.int .i64 xc) := hca k _ hx 4 _ rfl
        have d0 : wr.cell? ⟨bb, ob + k * 5, none⟩ = some (.string yr) := hcb k _ hy 0 _ rfl
        have d1 : wr.cell? ⟨bb, ob + k * 5 + 1, none⟩ = some (.string ys) := hcb k _ hy 1 _ rfl
        have d2 : wr.cell? ⟨bb, ob + k * 5 + 2, none⟩ = some (.int .i64 yl) := hcb k _ hy 2 _ rfl
        have d3 : wr.cell? ⟨bb, ob + k * 5 + 3, none⟩ = some (.int .i64 yt) := hcb k _ hy 3 _ rfl
        have d4 : wr.cell? ⟨bb, ob + k * 5 + 4, none⟩ = some (.int .i64 yc) := hcb k _ hy 4 _ rfl
        clear hca hcb
        go_wp2_with fail
        have x0 := ext_cell (w := wr.drew) c0
        have x1 := ext_cell (w := wr.drew) c1
        have x2 := ext_cell (w := wr.drew) c2
        have x3 := ext_cell (w := wr.drew) c3
        have x4 := ext_cell (w := wr.drew) c4
        have y0 := ext_cell (w := wr.drew) d0
        have y1 := ext_cell (w := wr.drew) d1
        have y2 := ext_cell (w := wr.drew) d2
        have y3 := ext_cell (w := wr.drew) d3
        have y4 := ext_cell (w := wr.drew) d4
        refine wp_region_ord Grows [(0, false), (1, false), (2, false), (3, false), (4, false), (5, false), (6, false), (7, false), (8, false)] Grows.refl Grows.trans (by kernel_rfl) (by kernel_rfl) (fun d _ _ _ _ h => by cases d <;> exact h) ?_
        repeat (refine ord_quiet rfl (fun K hK => ?_); go_simp; first | (refine hK _ ?_; clear hK K) | (apply Exists.intro; refine ⟨fun x => ?_, hK _ ?_⟩; (fail); clear hK K))
        refine ord_quiet rfl (fun K hK => ?_)
        go_simp
        by_cases hxy : (⟨xr, xs, xl, xt, xc⟩ : En) = ⟨yr, ys, yl, yt, yc⟩
        · obtain ⟨rfl, rfl, rfl, rfl, rfl⟩ : xr = yr ∧ xs = ys ∧ xl = yl ∧ xt = yt ∧ xc = yc := by simpa using hxy
          refine ⟨.bool false, fun a => by simp, hK _ ?_⟩
          clear hK K
          refine ord_end (fun w4 h4 => ?_)
          go_wp2_with fail
          go_roundw
          case rel => exact ⟨k + 1, by omega, rfl, by
            show a.take (k + 1) = b.take (k + 1)
            rw [List.take_add_one, List.take_add_one, hpr.out, hx, hy], hg.dr.tr h4⟩
          case measure => simp [intOf]; omega
        · have h5 : ¬ (xr.toList = yr.toList ∧ xs.toList = ys.toList ∧ xl = yl ∧ xt = yt ∧ xc = yc) := fun ⟨h1, h2, h3, h4, h5⟩ => hxy (by rw [toList_inj h1, toList_inj h2, h3, h4, h5])
          refine ⟨.bool true, fun a => by rw [ne5 h5]; exact ⟨rfl, rfl⟩, hK _ ?_⟩
          clear hK K
          refine ord_end (fun w4 h4 => ?_)
          go_wp2_with fail
          go_ret
          rw [show decide (a = b) = false by simp; intro h; rw [h, hy] at hx; exact hxy (by simpa using hx.symm)]
          exact ⟨rfl, hg.dr.tr h4⟩
      · obtain rfl : k = a.length := by omega
        have hab : a = b := by
          have h := hpr.out
          rw [List.take_length] at h
          rw [h, hlen, List.take_length]
        go_wp2_with fail
        go_ret
        rw [show decide (a = b) = true by simp [hab]]
        exact ⟨rfl, hg⟩
  · have hl2 : ¬ (a.length : Int) = b.length := by omega
    have hd : decide (a = b) = false := by simp; intro h; exact hlen (by rw [h])
    rw [hd]
    clear hd hlen
    go_enter Tryz.func26, Tryz.ntmps26
    go_wp2_with fail
    go_ret
    exact ⟨rfl, Grows.refl _⟩
end Go.Proofs.YtndhhgpmpnmljaaGreatDoor
