import Derived.Test.YtndhhgpmpnmljaaDoorMat
import Derived.Test.YtndhhgpmpnmljaaDoorOrdS
import Derived.Test.YtndhhgpmpnmljaaDoorShelf2
import Derived.Shelf.SlMaps.Clone
namespace Go.Proofs.YtndhhgpmpnmljaaDoor
open Go Go.RowKit Go.Shelf
attribute [local go_sem] quietE

theorem cloneM_any (w : World) (bm n : Nat) (D : DataW Unit) (hown : w.ownsMap Tryd.prog 71 (plainElem Tryd.prog 3) bm n D) :
    Calls Tryd.prog 36 #[.map (some bm)] w fun e w' => e = .returned (.map (some w.heap.size)) ∧ w'.ownsMap Tryd.prog 71 (plainElem Tryd.prog 3) w.heap.size n D ∧ Grows w w' := by
  have h := AnyW.maps_Clone_owns Tryd.cloneP 71 (plainElem Tryd.prog 3) bm n D w hown
  exact h.mono fun e w' ⟨h1, h2, _, h3⟩ => ⟨h1, h2, h3⟩

set_option maxHeartbeats 2000000 in
theorem copy_any (w : World) (mb bm : Nat) (m : Mx) (h : MatAt w mb bm m) :
    Calls Tryd.prog 16 #[.pointer (some ⟨mb, 0, none⟩)] w fun e w' => ∃ mb' bm', e = .returned (.pointer (some ⟨mb', 0, none⟩)) ∧ w.heap.size ≤ mb' ∧ w.heap.size ≤ bm' ∧ MatAt w' mb' bm' m ∧ Grows w w' := by
  have hok := h.ok
  have c0 := h.c0
  have c1 := h.c1
  have c2 := h.c2
  obtain ⟨D, hown, hM⟩ := h.own
  clear h
  go_enter Tryd.func16, Tryd.ntmps16
  go_wp2_with fail
  have x0 : ∀ x : Ext Grows w.drew, x.u.cell? ⟨mb, 0, none⟩ = some (.int .i64 m.n) := ext_cell ((Grows.drew w).cell c0)
  have x1 : ∀ x : Ext Grows w.drew, x.u.cell? ⟨mb, 1, none⟩ = some (.int .i64 m.d) := ext_cell ((Grows.drew w).cell c1)
  have x2 : ∀ x : Ext Grows w.drew, x.u.cell? ⟨mb, 2, none⟩ = some (.map (some bm)) := ext_cell ((Grows.drew w).cell c2)
  refine s_region Grows [(0, false), (1, false), (2, false), (3, false), (4, false), (5, false), (6, false), (7, false), (8, false), (9, false), (10, false), (11, false), (12, true), (13, true), (14, true), (15, true)] Grows.refl Grows.trans (by kernel_rfl) (by kernel_rfl) (fun d _ _ _ _ h => by cases d <;> exact h) ?_
  iterate 12 (refine s_quiet rfl (fun K hK => ?_); go_simp; refine hK _ ?_; clear hK K)
  clear x0 x1 x2
  refine s_late_w rfl rfl (fun K hK w2 h2 => ?_)
  go_simp
  have hg2 : Grows w w2 := (Grows.drew w).tr h2
  refine (cloneM_any w2 bm _ D (ownsMap_grows hown hg2)).mono ?_
  rintro e w3 ⟨rfl, hown3, hg3⟩
  have hb2 := hg2.size
  refine ⟨hg3, hK _ _ ?_⟩
  clear hK K
  refine s_late_w rfl rfl (fun K hK w4 h4 => ?_)
  go_simp
  refine ⟨Grows.refl _, hK _ _ ?_⟩
  clear hK K
  refine s_late_w rfl rfl (fun K hK w5 h5 => ?_)
  go_simp
  refine ⟨Grows.alloc _ _, hK _ _ ?_⟩
  clear hK K
  refine s_late_w rfl rfl (fun K hK w6 h6 => ?_)
  go_simp
  refine ⟨Grows.refl _, hK _ _ ?_⟩
  clear hK K
  refine s_end (fun w7 h7 => ?_)
  have hg5 : Grows w w5 := ((hg2.tr hg3).tr h4).tr h5
  have hg67 := h6.tr h7
  go_wp2_with fail
  go_ret
  exact ⟨_, _, rfl, hg5.size, hb2, ⟨hok, hg67.cell (cell_box _ _ _ _ 0 _ rfl), hg67.cell (cell_box _ _ _ _ 1 _ rfl), hg67.cell (cell_box _ _ _ _ 2 _ rfl), D, ownsMap_grows hown3 (((h4.tr h5).al _).tr hg67), hM⟩, (hg5.al _).tr hg67⟩
end Go.Proofs.YtndhhgpmpnmljaaDoor
