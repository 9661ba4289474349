import Derived.Test.YtndhhgpmpnmljaaGreatDoorCmp
namespace Go.Proofs.YtndhhgpmpnmljaaGreatDoor
open Go Go.RowKit
attribute [local go_sem] quietE

set_option maxHeartbeats 1000000 in
set_option maxRecDepth 100000 in
theorem compare_any (xr xs yr ys : ByteArray) (xl xt xc yl yt yc : Int) (w : World) :
    Calls Tryz.prog 59 #[.agg #[.string xr, .string xs, .int .i64 xl, .int .i64 xt, .int .i64 xc], .agg #[.string yr, .string ys, .int .i64 yl, .int .i64 yt, .int .i64 yc]] w fun e w' =>
      e = .returned (.int .i64 (orI [cmpS xr yr, cmpI xc yc, cmpS xs ys, cmpI xl yl, cmpI xt yt])) ∧ Below w.heap.size w w' := by
  go_enter Tryz.func59, Tryz.ntmps59
  go_wp2
  generalize hW : (w.alloc (.cells #[.string xr, .string xs, .int .i64 xl, .int .i64 xt, .int .i64 xc] 54)).alloc (.cells #[.string yr, .string ys, .int .i64 yl, .int .i64 yt, .int .i64 yc] 54) = W
  have hB : Below w.heap.size w W := by rw [← hW]; exact ((Below.refl _ _).alloc (Nat.le_refl _) _).alloc (by simp) _
  have hx : ∀ j v, #[Value.string xr, .string xs, .int .i64 xl, .int .i64 xt, .int .i64 xc][j]? = some v → W.drew.cell? ⟨w.heap.size, j, none⟩ = some v := fun j v h => by
    rw [← hW]; exact (Grows.alloc _ _).cell (cell_box w _ _ _ j v h)
  have hy : ∀ j v, #[Value.string yr, .string ys, .int .i64 yl, .int .i64 yt, .int .i64 yc][j]? = some v → W.drew.cell? ⟨w.heap.size + 1, j, none⟩ = some v := fun j v h => by
    rw [← hW]
    have := cell_box (w.alloc (.cells #[.string xr, .string xs, .int .i64 xl, .int .i64 xt, .int .i64 xc] 54)) _ 54 (0, 0) j v h
    simpa using this
  clear hW
  have x0 : ∀ x : Ext Grows (W.drew), x.u.cell? ⟨w.heap.size, 0, none⟩ = some (.string xr) := ext_cell (hx 0 _ rfl)
  have x1 : ∀ x : Ext Grows (W.drew), x.u.cell? ⟨w.heap.size, 1, none⟩ = some (.string xs) := ext_cell (hx 1 _ rfl)
  have x2 : ∀ x : Ext Grows (W.drew), x.u.cell? ⟨w.heap.size, 2, none⟩ = some (.int .i64 xl) := ext_cell (hx 2 _ rfl)
  have x3 : ∀ x : Ext Grows (W.drew), x.u.cell? ⟨w.heap.size, 3, none⟩ = some (.int .i64 xt) := ext_cell (hx 3 _ rfl)
  have x4 : ∀ x : Ext Grows (W.drew), x.u.cell? ⟨w.heap.size, 4, none⟩ = some (.int .i64 xc) := ext_cell (hx 4 _ rfl)
  have y0 : ∀ x : Ext Grows (W.drew), x.u.cell? ⟨w.heap.size + 1, 0, none⟩ = some (.string yr) := ext_cell (hy 0 _ rfl)
  have y1 : ∀ x : Ext Grows (W.drew), x.u.cell? ⟨w.heap.size + 1, 1, none⟩ = some (.string ys) := ext_cell (hy 1 _ rfl)
  have y2 : ∀ x : Ext Grows (W.drew), x.u.cell? ⟨w.heap.size + 1, 2, none⟩ = some (.int .i64 yl) := ext_cell (hy 2 _ rfl)
  have y3 : ∀ x : Ext Grows (W.drew), x.u.cell? ⟨w.heap.size + 1, 3, none⟩ = some (.int .i64 yt) := ext_cell (hy 3 _ rfl)
  have y4 : ∀ x : Ext Grows (W.drew), x.u.cell? ⟨w.heap.size + 1, 4, none⟩ = some (.int .i64 yc) := ext_cell (hy 4 _ rfl)
  clear hx hy
  refine wp_region_ord Grows [(0, false), (1, false), (2, false), (3, false), (4, false), (5, false), (6, false), (7, false), (8, false), (9, false), (10, false), (11, false), (12, false), (13, false), (14, false), (15, false), (16, false), (17, false), (18, false), (19, false), (20, false), (21, false), (22, false), (23, false), (24, false), (25, true), (26, true), (27, true)] Grows.refl Grows.trans (by kernel_rfl) (by kernel_rfl) (fun d _ _ _ _ h => by cases d <;> exact h) ?_
  repeat (refine ord_quiet rfl (fun K hK => ?_); go_simp; first | (refine hK _ ?_; clear hK K) | (apply Exists.intro; refine ⟨fun x => ?_, hK _ ?_⟩; ((first | (go_at_call 91; exact calls_ext_same (compareS_any _ _ _)) | (go_at_call 82; exact calls_ext_same (compareI_any _ _ _)))); clear hK K))
  clear x0 x1 x2 x3 x4 y0 y1 y2 y3 y4
  refine ord_late_w rfl rfl (fun K hK w2 h2 => ?_)
  go_simp
  refine ⟨Grows.alloc _ _, hK _ _ ?_⟩
  clear hK K
  have hz : ∀ k, k < [cmpS xr yr, cmpI xc yc, cmpS xs ys, cmpI xl yl, cmpI xt yt].length → (w2.alloc (.cells #[.int .i64 (cmpS xr yr), .int .i64 (cmpI xc yc), .int .i64 (cmpS xs ys), .int .i64 (cmpI xl yl), .int .i64 (cmpI xt yt)] 3)).cell? ⟨w2.heap.size, 0 + k, none⟩ = some (.int .i64 ([cmpS xr yr, cmpI xc yc, cmpS xs ys, cmpI xl yl, cmpI xt yt][k]?.getD 0)) := fun k hk => by
    refine cell_box w2 _ _ _ _ _ ?_
    match k, hk with
    | 0, _ => rfl
    | 1, _ => rfl
    | 2, _ => rfl
    | 3, _ => rfl
    | 4, _ => rfl
  have h3 : Grows w2 (w2.alloc (.cells #[.int .i64 (cmpS xr yr), .int .i64 (cmpI xc yc), .int .i64 (cmpS xs ys), .int .i64 (cmpI xl yl), .int .i64 (cmpI xt yt)] 3)) := Grows.alloc _ _
  generalize w2.alloc _ = w3 at hz h3 ⊢
  refine ord_late_w rfl rfl (fun K hK w4 h4 => ?_)
  go_simp
  refine (or_any [cmpS xr yr, cmpI xc yc, cmpS xs ys, cmpI xl yl, cmpI xt yt] w2.heap.size 0 5 w4 (by simp) (fun k hk => h4.cell (hz k hk))).mono ?_
  rintro e w' ⟨rfl, rfl⟩
  refine ⟨Grows.refl _, hK _ _ ?_⟩
  clear hK K
  refine ord_late_w rfl rfl (fun K hK w5 h5 => ?_)
  go_simp
  refine ⟨Grows.refl _, hK _ _ ?_⟩
  clear hK K
  refine ord_end (fun w6 h6 => ?_)
  have hB6 : Below w.heap.size w w6 := ((((((hB.drew).trans (h2.mono hB.size)).trans (h3.mono (by have := hB.size; have := h2.size; simp at *; omega))).trans (h4.mono (by have := hB.size; have := h2.size; have := h3.size; simp at *; omega))).trans (h5.mono (by have := hB.size; have := h2.size; have := h3.size; have := h4.size; simp at *; omega))).trans (h6.mono (by have := hB.size; have := h2.size; have := h3.size; have := h4.size; have := h5.size; simp at *; omega)))
  go_wp2
  go_ret
  exact ⟨rfl, hB6⟩
end Go.Proofs.YtndhhgpmpnmljaaGreatDoor
