import Derived.Test.YtfkebhkckcnlpaaGreatDoorOrderP
import Derived.Test.YtfkebhkckcnlpaaGreatDoorWorks
namespace Go.Proofs.YtfkebhkckcnlpaaGreatDoor
open Go Go.RowKit Go.Shelf
attribute [local go_sem] quietE

theorem three_box (w : World) (x y z : En) (t : TypeId) : AtCells (w.alloc (.cells #[.string x.r, .string x.s, .int .i64 x.l, .int .i64 x.t, .int .i64 x.c, .string y.r, .string y.s, .int .i64 y.l, .int .i64 y.t, .int .i64 y.c, .string z.r, .string z.s, .int .i64 z.l, .int .i64 z.t, .int .i64 z.c] t)) (some ⟨w.heap.size, 0, none⟩) 5 ([x, y, z].map enCells) := fun _ => ⟨w.heap.size, 0, rfl, fun i row hi j u hj => by
  have lt : ∀ {x : En} {j : Nat} {u : Value}, (enCells x)[j]? = some u → j < 5 := fun hj => by
    have := (List.getElem?_eq_some_iff.1 hj).1
    simpa [enCells] using this
  match i, hi with
  | 0, hi | 1, hi | 2, hi =>
    obtain rfl := Option.some.inj hi
    have h5 := lt hj
    refine cell_box _ _ _ _ _ _ ?_
    rw [← hj]
    match j, h5 with
    | 0, _ | 1, _ | 2, _ | 3, _ | 4, _ => rfl⟩

theorem few_three (b : Nat) (W : World) (hb : b = W.heap.size) (x y z : En) : Calls Tryz.prog 11 #[.slice (some ⟨b, 0, none⟩) 3 3] (W.alloc (.cells #[.string x.r, .string x.s, .int .i64 x.l, .int .i64 x.t, .int .i64 x.c, .string y.r, .string y.s, .int .i64 y.l, .int .i64 y.t, .int .i64 y.c, .string z.r, .string z.s, .int .i64 z.l, .int .i64 z.t, .int .i64 z.c] 23)) fun e w' => FewPost [x, y, z] e ∧ Grows (W.alloc (.cells #[.string x.r, .string x.s, .int .i64 x.l, .int .i64 x.t, .int .i64 x.c, .string y.r, .string y.s, .int .i64 y.l, .int .i64 y.t, .int .i64 y.c, .string z.r, .string z.s, .int .i64 z.l, .int .i64 z.t, .int .i64 z.c] 23)) w' := by
  subst hb
  exact few_any [x, y, z] (some ⟨W.heap.size, 0, none⟩) 3 _ (by simp) (three_box W x y z 23)

theorem four_cells {w : World} {A B C : Array Value} {D : Obj} {t : TypeId} {fa fb fc : Nat × Nat} {w1 : World} (hg : Grows ((((w.alloc (.cells A t fa)).alloc (.cells B t fb)).alloc (.cells C t fc)).alloc D) w1) :
    (∀ (j : Nat) (v : Value), A[j]? = some v → w1.cell? ⟨w.heap.size, j, none⟩ = some v) ∧ (∀ (j : Nat) (v : Value), B[j]? = some v → w1.cell? ⟨w.heap.size + 1, j, none⟩ = some v) ∧ (∀ (j : Nat) (v : Value), C[j]? = some v → w1.cell? ⟨w.heap.size + 1 + 1, j, none⟩ = some v) := by
  refine ⟨fun j v h => ?_, fun j v h => ?_, fun j v h => ?_⟩
  · exact ((((Grows.alloc _ _).al _).al _).tr hg).cell (cell_box w A t fa j v h)
  · have h2 := (((Grows.alloc _ _).al _).tr hg).cell (cell_box (w.alloc (.cells A t fa)) B t fb j v h)
    simpa using h2
  · have h2 := ((Grows.alloc _ _).tr hg).cell (cell_box ((w.alloc (.cells A t fa)).alloc (.cells B t fb)) C t fc j v h)
    simpa using h2

set_option maxHeartbeats 4000000 in
set_option maxRecDepth 100000 in
theorem orders_any (a b c : En) (w : World) (he : Env w) : Calls Tryz.prog 7 #[a.agg, b.agg, c.agg] w fun e w' => e = .returned (.bool true) ∧ Grows w w' := by
  have hL := fun (x y : En) (W : World) => less_any x y W
  have t1 : lessS a b = true → lessS b c = true → lessS a c = true := lessS_trans
  have t2 : a ≠ b → lessS b a = !lessS a b := lessS_one
  have t3 : a = b → lessS a b = false ∧ lessS b a = false := fun h => by subst h; exact ⟨lessS_irrefl _, lessS_irrefl _⟩
  obtain ⟨xr, xs, xl, xt, xc⟩ := a
  obtain ⟨yr, ys, yl, yt, yc⟩ := b
  obtain ⟨zr, zs, zl, zt, zc⟩ := c
  have Lab := fun W => Lib.hid (hL ⟨xr, xs, xl, xt, xc⟩ ⟨yr, ys, yl, yt, yc⟩ W)
  have Lba := fun W => Lib.hid (hL ⟨yr, ys, yl, yt, yc⟩ ⟨xr, xs, xl, xt, xc⟩ W)
  have Lbc := fun W => Lib.hid (hL ⟨yr, ys, yl, yt, yc⟩ ⟨zr, zs, zl, zt, zc⟩ W)
  have Lac := fun W => Lib.hid (hL ⟨xr, xs, xl, xt, xc⟩ ⟨zr, zs, zl, zt, zc⟩ W)
  have hF := fun (b : Nat) W (hb : b = W.heap.size) => Lib.hid (few_three b W hb ⟨xr, xs, xl, xt, xc⟩ ⟨yr, ys, yl, yt, yc⟩ ⟨zr, zs, zl, zt, zc⟩)
  clear hL
  generalize lessS ⟨xr, xs, xl, xt, xc⟩ ⟨yr, ys, yl, yt, yc⟩ = ab at *
  generalize lessS ⟨yr, ys, yl, yt, yc⟩ ⟨xr, xs, xl, xt, xc⟩ = ba at *
  generalize lessS ⟨yr, ys, yl, yt, yc⟩ ⟨zr, zs, zl, zt, zc⟩ = bc' at *
  generalize lessS ⟨xr, xs, xl, xt, xc⟩ ⟨zr, zs, zl, zt, zc⟩ = xc' at *
  unfold En.agg at *
  by_cases hxy : (⟨xr, xs, xl, xt, xc⟩ : En) = ⟨yr, ys, yl, yt, yc⟩
  · obtain ⟨rfl, rfl⟩ := t3 hxy
    obtain ⟨rfl, rfl, rfl, rfl, rfl⟩ : xr = yr ∧ xs = ys ∧ xl = yl ∧ xt = yt ∧ xc = yc := by simpa using hxy
    clear t1 t2 t3 hxy Lbc Lac Lba
    go_enter Tryz.func7, Tryz.ntmps7
    go_wp2_with (first | (go_at_call 11; refine (hF _ _ (by simp)).out.mono ?_; rintro e w1 ⟨⟨fb, rfl, _⟩, hg1⟩; obtain ⟨hg1_x, hg1_y, hg1_z⟩ := four_cells hg1; have q00 : w1.cell? ⟨w.heap.size, 0, none⟩ = some (.string xr) := hg1_x 0 _ rfl; have q01 : w1.cell? ⟨w.heap.size, 1, none⟩ = some (.string xs) := hg1_x 1 _ rfl; have q02 : w1.cell? ⟨w.heap.size, 2, none⟩ = some (.int .i64 xl) := hg1_x 2 _ rfl; have q03 : w1.cell? ⟨w.heap.size, 3, none⟩ = some (.int .i64 xt) := hg1_x 3 _ rfl; have q04 : w1.cell? ⟨w.heap.size, 4, none⟩ = some (.int .i64 xc) := hg1_x 4 _ rfl; have q10 : w1.cell? ⟨w.heap.size + 1, 0, none⟩ = some (.string xr) := hg1_y 0 _ rfl; have q11 : w1.cell? ⟨w.heap.size + 1, 1, none⟩ = some (.string xs) := hg1_y 1 _ rfl; have q12 : w1.cell? ⟨w.heap.size + 1, 2, none⟩ = some (.int .i64 xl) := hg1_y 2 _ rfl; have q13 : w1.cell? ⟨w.heap.size + 1, 3, none⟩ = some (.int .i64 xt) := hg1_y 3 _ rfl; have q14 : w1.cell? ⟨w.heap.size + 1, 4, none⟩ = some (.int .i64 xc) := hg1_y 4 _ rfl; have q20 : w1.cell? ⟨w.heap.size + 1 + 1, 0, none⟩ = some (.string zr) := hg1_z 0 _ rfl; have q21 : w1.cell? ⟨w.heap.size + 1 + 1, 1, none⟩ = some (.string zs) := hg1_z 1 _ rfl; have q22 : w1.cell? ⟨w.heap.size + 1 + 1, 2, none⟩ = some (.int .i64 zl) := hg1_z 2 _ rfl; have q23 : w1.cell? ⟨w.heap.size + 1 + 1, 3, none⟩ = some (.int .i64 zt) := hg1_z 3 _ rfl; have q24 : w1.cell? ⟨w.heap.size + 1 + 1, 4, none⟩ = some (.int .i64 zc) := hg1_z 4 _ rfl; have hgw := ((((Grows.alloc w _).al _).al _).al _).tr hg1; clear hg1 hg1_x hg1_y hg1_z; cases fb) | (go_at_call 22; refine (Lab _).out.mono ?_; rintro e w3 ⟨rfl, hg3⟩; replace q00 := hg3.cell q00; replace q01 := hg3.cell q01; replace q02 := hg3.cell q02; replace q03 := hg3.cell q03; replace q04 := hg3.cell q04; replace q10 := hg3.cell q10; replace q11 := hg3.cell q11; replace q12 := hg3.cell q12; replace q13 := hg3.cell q13; replace q14 := hg3.cell q14; replace q20 := hg3.cell q20; replace q21 := hg3.cell q21; replace q22 := hg3.cell q22; replace q23 := hg3.cell q23; replace q24 := hg3.cell q24; replace hgw := hgw.tr hg3; clear hg3) | (go_at_call 14; refine (works_any _ (he.grows hgw)).mono ?_; rintro e w4 ⟨rfl, hg4⟩; replace hgw := hgw.tr hg4; clear hg4))
    all_goals (go_ret; exact ⟨rfl, hgw⟩)
  · have h5 : ¬ (xr.toList = yr.toList ∧ xs.toList = ys.toList ∧ xl = yl ∧ xt = yt ∧ xc = yc) := fun ⟨h1, h2, h3, h4, h5⟩ => hxy (by rw [toList_inj h1, toList_inj h2, h3, h4, h5])
    obtain rfl := t2 hxy
    clear t2 t3 hxy
    cases ab
    · clear t1 Lbc Lac
      go_enter Tryz.func7, Tryz.ntmps7
      go_wp2_with (first | (go_at_call 11; refine (hF _ _ (by simp)).out.mono ?_; rintro e w1 ⟨⟨fb, rfl, _⟩, hg1⟩; obtain ⟨hg1_x, hg1_y, hg1_z⟩ := four_cells hg1; have q00 : w1.cell? ⟨w.heap.size, 0, none⟩ = some (.string xr) := hg1_x 0 _ rfl; have q01 : w1.cell? ⟨w.heap.size, 1, none⟩ = some (.string xs) := hg1_x 1 _ rfl; have q02 : w1.cell? ⟨w.heap.size, 2, none⟩ = some (.int .i64 xl) := hg1_x 2 _ rfl; have q03 : w1.cell? ⟨w.heap.size, 3, none⟩ = some (.int .i64 xt) := hg1_x 3 _ rfl; have q04 : w1.cell? ⟨w.heap.size, 4, none⟩ = some (.int .i64 xc) := hg1_x 4 _ rfl; have q10 : w1.cell? ⟨w.heap.size + 1, 0, none⟩ = some (.string yr) := hg1_y 0 _ rfl; have q11 : w1.cell? ⟨w.heap.size + 1, 1, none⟩ = some (.string ys) := hg1_y 1 _ rfl; have q12 : w1.cell? ⟨w.heap.size + 1, 2, none⟩ = some (.int .i64 yl) := hg1_y 2 _ rfl; have q13 : w1.cell? ⟨w.heap.size + 1, 3, none⟩ = some (.int .i64 yt) := hg1_y 3 _ rfl; have q14 : w1.cell? ⟨w.heap.size + 1, 4, none⟩ = some (.int .i64 yc) := hg1_y 4 _ rfl; have q20 : w1.cell? ⟨w.heap.size + 1 + 1, 0, none⟩ = some (.string zr) := hg1_z 0 _ rfl; have q21 : w1.cell? ⟨w.heap.size + 1 + 1, 1, none⟩ = some (.string zs) := hg1_z 1 _ rfl; have q22 : w1.cell? ⟨w.heap.size + 1 + 1, 2, none⟩ = some (.int .i64 zl) := hg1_z 2 _ rfl; have q23 : w1.cell? ⟨w.heap.size + 1 + 1, 3, none⟩ = some (.int .i64 zt) := hg1_z 3 _ rfl; have q24 : w1.cell? ⟨w.heap.size + 1 + 1, 4, none⟩ = some (.int .i64 zc) := hg1_z 4 _ rfl; have hgw := ((((Grows.alloc w _).al _).al _).al _).tr hg1; clear hg1 hg1_x hg1_y hg1_z; cases fb) | (go_at_call 22; refine (Lab _).out.mono ?_; rintro e w3 ⟨rfl, hg3⟩; replace q00 := hg3.cell q00; replace q01 := hg3.cell q01; replace q02 := hg3.cell q02; replace q03 := hg3.cell q03; replace q04 := hg3.cell q04; replace q10 := hg3.cell q10; replace q11 := hg3.cell q11; replace q12 := hg3.cell q12; replace q13 := hg3.cell q13; replace q14 := hg3.cell q14; replace q20 := hg3.cell q20; replace q21 := hg3.cell q21; replace q22 := hg3.cell q22; replace q23 := hg3.cell q23; replace q24 := hg3.cell q24; replace hgw := hgw.tr hg3; clear hg3) | (go_at_call 22; refine (Lba _).out.mono ?_; rintro e w3 ⟨rfl, hg3⟩; replace q00 := hg3.cell q00; replace q01 := hg3.cell q01; replace q02 := hg3.cell q02; replace q03 := hg3.cell q03; replace q04 := hg3.cell q04; replace q10 := hg3.cell q10; replace q11 := hg3.cell q11; replace q12 := hg3.cell q12; replace q13 := hg3.cell q13; replace q14 := hg3.cell q14; replace q20 := hg3.cell q20; replace q21 := hg3.cell q21; replace q22 := hg3.cell q22; replace q23 := hg3.cell q23; replace q24 := hg3.cell q24; replace hgw := hgw.tr hg3; clear hg3) | rw [ne5 h5])
      · go_ret; exact ⟨rfl, hgw⟩
      · have p00 := ext_cell (w := w3.drew) q00; have p01 := ext_cell (w := w3.drew) q01; have p02 := ext_cell (w := w3.drew) q02; have p03 := ext_cell (w := w3.drew) q03; have p04 := ext_cell (w := w3.drew) q04; have p10 := ext_cell (w := w3.drew) q10; have p11 := ext_cell (w := w3.drew) q11; have p12 := ext_cell (w := w3.drew) q12; have p13 := ext_cell (w := w3.drew) q13; have p14 := ext_cell (w := w3.drew) q14
        have hE : Env w3.drew := (he.grows hgw).grows (Grows.drew _)
        clear q00 q01 q02 q03 q04 q10 q11 q12 q13 q14 q20 q21 q22 q23 q24
        refine wp_region_ord Grows [(0, false), (1, false), (2, false), (3, false), (4, false), (5, false), (6, false), (7, false), (8, false), (9, false), (10, false)] Grows.refl Grows.trans (by kernel_rfl) (by kernel_rfl) (fun d _ _ _ _ h => by cases d <;> exact h) ?_
        repeat (refine ord_quiet rfl (fun K hK => ?_); go_simp; first | (refine hK _ ?_; clear hK K) | (apply Exists.intro; refine ⟨fun x => ?_, hK _ ?_⟩; ((first | (go_at_call 22; exact calls_ext (Lab _).out) | (go_at_call 22; exact calls_ext (Lba _).out) | (go_at_call 14; exact calls_ext (works_any _ (hE.grows x.h))))); clear hK K))
        refine ord_end (fun w4 h4 => ?_)
        go_wp2_with fail
        go_ret
        exact ⟨rfl, hgw.dr.tr h4⟩
    · cases bc'
      · clear t1 Lac
        go_enter Tryz.func7, Tryz.ntmps7
        go_wp2_with (first | (go_at_call 11; refine (hF _ _ (by simp)).out.mono ?_; rintro e w1 ⟨⟨fb, rfl, _⟩, hg1⟩; obtain ⟨hg1_x, hg1_y, hg1_z⟩ := four_cells hg1; have q00 : w1.cell? ⟨w.heap.size, 0, none⟩ = some (.string xr) := hg1_x 0 _ rfl; have q01 : w1.cell? ⟨w.heap.size, 1, none⟩ = some (.string xs) := hg1_x 1 _ rfl; have q02 : w1.cell? ⟨w.heap.size, 2, none⟩ = some (.int .i64 xl) := hg1_x 2 _ rfl; have q03 : w1.cell? ⟨w.heap.size, 3, none⟩ = some (.int .i64 xt) := hg1_x 3 _ rfl; have q04 : w1.cell? ⟨w.heap.size, 4, none⟩ = some (.int .i64 xc) := hg1_x 4 _ rfl; have q10 : w1.cell? ⟨w.heap.size + 1, 0, none⟩ = some (.string yr) := hg1_y 0 _ rfl; have q11 : w1.cell? ⟨w.heap.size + 1, 1, none⟩ = some (.string ys) := hg1_y 1 _ rfl; have q12 : w1.cell? ⟨w.heap.size + 1, 2, none⟩ = some (.int .i64 yl) := hg1_y 2 _ rfl; have q13 : w1.cell? ⟨w.heap.size + 1, 3, none⟩ = some (.int .i64 yt) := hg1_y 3 _ rfl; have q14 : w1.cell? ⟨w.heap.size + 1, 4, none⟩ = some (.int .i64 yc) := hg1_y 4 _ rfl; have q20 : w1.cell? ⟨w.heap.size + 1 + 1, 0, none⟩ = some (.string zr) := hg1_z 0 _ rfl; have q21 : w1.cell? ⟨w.heap.size + 1 + 1, 1, none⟩ = some (.string zs) := hg1_z 1 _ rfl; have q22 : w1.cell? ⟨w.heap.size + 1 + 1, 2, none⟩ = some (.int .i64 zl) := hg1_z 2 _ rfl; have q23 : w1.cell? ⟨w.heap.size + 1 + 1, 3, none⟩ = some (.int .i64 zt) := hg1_z 3 _ rfl; have q24 : w1.cell? ⟨w.heap.size + 1 + 1, 4, none⟩ = some (.int .i64 zc) := hg1_z 4 _ rfl; have hgw := ((((Grows.alloc w _).al _).al _).al _).tr hg1; clear hg1 hg1_x hg1_y hg1_z; cases fb) | (go_at_call 22; refine (Lab _).out.mono ?_; rintro e w3 ⟨rfl, hg3⟩; replace q00 := hg3.cell q00; replace q01 := hg3.cell q01; replace q02 := hg3.cell q02; replace q03 := hg3.cell q03; replace q04 := hg3.cell q04; replace q10 := hg3.cell q10; replace q11 := hg3.cell q11; replace q12 := hg3.cell q12; replace q13 := hg3.cell q13; replace q14 := hg3.cell q14; replace q20 := hg3.cell q20; replace q21 := hg3.cell q21; replace q22 := hg3.cell q22; replace q23 := hg3.cell q23; replace q24 := hg3.cell q24; replace hgw := hgw.tr hg3; clear hg3) | (go_at_call 22; refine (Lbc _).out.mono ?_; rintro e w3 ⟨rfl, hg3⟩; replace q00 := hg3.cell q00; replace q01 := hg3.cell q01; replace q02 := hg3.cell q02; replace q03 := hg3.cell q03; replace q04 := hg3.cell q04; replace q10 := hg3.cell q10; replace q11 := hg3.cell q11; replace q12 := hg3.cell q12; replace q13 := hg3.cell q13; replace q14 := hg3.cell q14; replace q20 := hg3.cell q20; replace q21 := hg3.cell q21; replace q22 := hg3.cell q22; replace q23 := hg3.cell q23; replace q24 := hg3.cell q24; replace hgw := hgw.tr hg3; clear hg3) | rw [ne5 h5])
        · go_ret; exact ⟨rfl, hgw⟩
        · have p00 := ext_cell (w := w3.drew) q00; have p01 := ext_cell (w := w3.drew) q01; have p02 := ext_cell (w := w3.drew) q02; have p03 := ext_cell (w := w3.drew) q03; have p04 := ext_cell (w := w3.drew) q04; have p10 := ext_cell (w := w3.drew) q10; have p11 := ext_cell (w := w3.drew) q11; have p12 := ext_cell (w := w3.drew) q12; have p13 := ext_cell (w := w3.drew) q13; have p14 := ext_cell (w := w3.drew) q14
          have hE : Env w3.drew := (he.grows hgw).grows (Grows.drew _)
          clear q00 q01 q02 q03 q04 q10 q11 q12 q13 q14 q20 q21 q22 q23 q24
          refine wp_region_ord Grows [(0, false), (1, false), (2, false), (3, false), (4, false), (5, false), (6, false), (7, false), (8, false), (9, false), (10, false)] Grows.refl Grows.trans (by kernel_rfl) (by kernel_rfl) (fun d _ _ _ _ h => by cases d <;> exact h) ?_
          repeat (refine ord_quiet rfl (fun K hK => ?_); go_simp; first | (refine hK _ ?_; clear hK K) | (apply Exists.intro; refine ⟨fun x => ?_, hK _ ?_⟩; ((first | (go_at_call 22; exact calls_ext (Lab _).out) | (go_at_call 22; exact calls_ext (Lba _).out) | (go_at_call 14; exact calls_ext (works_any _ (hE.grows x.h))))); clear hK K))
          refine ord_end (fun w4 h4 => ?_)
          go_wp2_with fail
          go_ret
          exact ⟨rfl, hgw.dr.tr h4⟩
      · obtain rfl := t1 rfl rfl
        go_enter Tryz.func7, Tryz.ntmps7
        go_wp2_with (first | (go_at_call 11; refine (hF _ _ (by simp)).out.mono ?_; rintro e w1 ⟨⟨fb, rfl, _⟩, hg1⟩; obtain ⟨hg1_x, hg1_y, hg1_z⟩ := four_cells hg1; have q00 : w1.cell? ⟨w.heap.size, 0, none⟩ = some (.string xr) := hg1_x 0 _ rfl; have q01 : w1.cell? ⟨w.heap.size, 1, none⟩ = some (.string xs) := hg1_x 1 _ rfl; have q02 : w1.cell? ⟨w.heap.size, 2, none⟩ = some (.int .i64 xl) := hg1_x 2 _ rfl; have q03 : w1.cell? ⟨w.heap.size, 3, none⟩ = some (.int .i64 xt) := hg1_x 3 _ rfl; have q04 : w1.cell? ⟨w.heap.size, 4, none⟩ = some (.int .i64 xc) := hg1_x 4 _ rfl; have q10 : w1.cell? ⟨w.heap.size + 1, 0, none⟩ = some (.string yr) := hg1_y 0 _ rfl; have q11 : w1.cell? ⟨w.heap.size + 1, 1, none⟩ = some (.string ys) := hg1_y 1 _ rfl; have q12 : w1.cell? ⟨w.heap.size + 1, 2, none⟩ = some (.int .i64 yl) := hg1_y 2 _ rfl; have q13 : w1.cell? ⟨w.heap.size + 1, 3, none⟩ = some (.int .i64 yt) := hg1_y 3 _ rfl; have q14 : w1.cell? ⟨w.heap.size + 1, 4, none⟩ = some (.int .i64 yc) := hg1_y 4 _ rfl; have q20 : w1.cell? ⟨w.heap.size + 1 + 1, 0, none⟩ = some (.string zr) := hg1_z 0 _ rfl; have q21 : w1.cell? ⟨w.heap.size + 1 + 1, 1, none⟩ = some (.string zs) := hg1_z 1 _ rfl; have q22 : w1.cell? ⟨w.heap.size + 1 + 1, 2, none⟩ = some (.int .i64 zl) := hg1_z 2 _ rfl; have q23 : w1.cell? ⟨w.heap.size + 1 + 1, 3, none⟩ = some (.int .i64 zt) := hg1_z 3 _ rfl; have q24 : w1.cell? ⟨w.heap.size + 1 + 1, 4, none⟩ = some (.int .i64 zc) := hg1_z 4 _ rfl; have hgw := ((((Grows.alloc w _).al _).al _).al _).tr hg1; clear hg1 hg1_x hg1_y hg1_z; cases fb) | (go_at_call 22; refine (Lab _).out.mono ?_; rintro e w3 ⟨rfl, hg3⟩; replace q00 := hg3.cell q00; replace q01 := hg3.cell q01; replace q02 := hg3.cell q02; replace q03 := hg3.cell q03; replace q04 := hg3.cell q04; replace q10 := hg3.cell q10; replace q11 := hg3.cell q11; replace q12 := hg3.cell q12; replace q13 := hg3.cell q13; replace q14 := hg3.cell q14; replace q20 := hg3.cell q20; replace q21 := hg3.cell q21; replace q22 := hg3.cell q22; replace q23 := hg3.cell q23; replace q24 := hg3.cell q24; replace hgw := hgw.tr hg3; clear hg3) | (go_at_call 22; refine (Lbc _).out.mono ?_; rintro e w3 ⟨rfl, hg3⟩; replace q00 := hg3.cell q00; replace q01 := hg3.cell q01; replace q02 := hg3.cell q02; replace q03 := hg3.cell q03; replace q04 := hg3.cell q04; replace q10 := hg3.cell q10; replace q11 := hg3.cell q11; replace q12 := hg3.cell q12; replace q13 := hg3.cell q13; replace q14 := hg3.cell q14; replace q20 := hg3.cell q20; replace q21 := hg3.cell q21; replace q22 := hg3.cell q22; replace q23 := hg3.cell q23; replace q24 := hg3.cell q24; replace hgw := hgw.tr hg3; clear hg3) | (go_at_call 22; refine (Lac _).out.mono ?_; rintro e w3 ⟨rfl, hg3⟩; replace q00 := hg3.cell q00; replace q01 := hg3.cell q01; replace q02 := hg3.cell q02; replace q03 := hg3.cell q03; replace q04 := hg3.cell q04; replace q10 := hg3.cell q10; replace q11 := hg3.cell q11; replace q12 := hg3.cell q12; replace q13 := hg3.cell q13; replace q14 := hg3.cell q14; replace q20 := hg3.cell q20; replace q21 := hg3.cell q21; replace q22 := hg3.cell q22; replace q23 := hg3.cell q23; replace q24 := hg3.cell q24; replace hgw := hgw.tr hg3; clear hg3) | rw [ne5 h5])
        · go_ret; exact ⟨rfl, hgw⟩
        · have p00 := ext_cell (w := w3.drew) q00; have p01 := ext_cell (w := w3.drew) q01; have p02 := ext_cell (w := w3.drew) q02; have p03 := ext_cell (w := w3.drew) q03; have p04 := ext_cell (w := w3.drew) q04; have p10 := ext_cell (w := w3.drew) q10; have p11 := ext_cell (w := w3.drew) q11; have p12 := ext_cell (w := w3.drew) q12; have p13 := ext_cell (w := w3.drew) q13; have p14 := ext_cell (w := w3.drew) q14
          have hE : Env w3.drew := (he.grows hgw).grows (Grows.drew _)
          clear q00 q01 q02 q03 q04 q10 q11 q12 q13 q14 q20 q21 q22 q23 q24
          refine wp_region_ord Grows [(0, false), (1, false), (2, false), (3, false), (4, false), (5, false), (6, false), (7, false), (8, false), (9, false), (10, false)] Grows.refl Grows.trans (by kernel_rfl) (by kernel_rfl) (fun d _ _ _ _ h => by cases d <;> exact h) ?_
          repeat (refine ord_quiet rfl (fun K hK => ?_); go_simp; first | (refine hK _ ?_; clear hK K) | (apply Exists.intro; refine ⟨fun x => ?_, hK _ ?_⟩; ((first | (go_at_call 22; exact calls_ext (Lab _).out) | (go_at_call 22; exact calls_ext (Lba _).out) | (go_at_call 14; exact calls_ext (works_any _ (hE.grows x.h))))); clear hK K))
          refine ord_end (fun w4 h4 => ?_)
          go_wp2_with fail
          go_ret
          exact ⟨rfl, hgw.dr.tr h4⟩
end Go.Proofs.YtfkebhkckcnlpaaGreatDoor
