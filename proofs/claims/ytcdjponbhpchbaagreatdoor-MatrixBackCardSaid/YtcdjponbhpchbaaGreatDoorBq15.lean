/- The texts PairC Mat4, one behind the other. -/
import Derived.Test.YtcdjponbhpchbaaGreatDoorBq2
import Derived.Test.YtcdjponbhpchbaaGreatDoorBq6
import Derived.Test.YtcdjponbhpchbaaGreatDoorBq11
import Derived.Test.YtcdjponbhpchbaaGreatDoorShelf2
import Derived.Test.YtcdjponbhpchbaaGreatDoorBq12
import Derived.Test.YtcdjponbhpchbaaGreatDoorBq1
import Derived.Shelf.SlMaps.Clone
namespace Go.Proofs.YtcdjponbhpchbaaGreatDoor
open Go Go.RowKit Go.Shelf
attribute [local go_sem] quietE

def pairC (x : Int × Int) : List Value := [.int .i64 x.1, .int .i64 x.2]
set_option maxHeartbeats 1000000 in
set_option maxRecDepth 100000 in
theorem pairCmp_any (a b c d : Int) (w : World) :
    Calls Tryz.prog 57 #[.agg #[.int .i64 a, .int .i64 b], .agg #[.int .i64 c, .int .i64 d]] w fun e w' =>
      e = .returned (.int .i64 (orI [cmpI a c, cmpI b d])) ∧ GrowsD w w' := by
  go_enter Tryz.func57, Tryz.ntmps57
  go_wp2
  generalize hW : (w.alloc (.cells #[.int .i64 a, .int .i64 b] 59)).alloc (.cells #[.int .i64 c, .int .i64 d] 59) = W
  have hB : GrowsD w W := by rw [← hW]; exact (GrowsD.alloc _ _).tr (GrowsD.alloc _ _)
  have hx : ∀ j v, #[Value.int .i64 a, .int .i64 b][j]? = some v → W.drew.cell? ⟨w.heap.size, j, none⟩ = some v := fun j v h => by
    rw [← hW]; exact (Grows.alloc _ _).cell (cell_box w _ _ _ j v h)
  have hy : ∀ j v, #[Value.int .i64 c, .int .i64 d][j]? = some v → W.drew.cell? ⟨w.heap.size + 1, j, none⟩ = some v := fun j v h => by
    rw [← hW]
    have := cell_box (w.alloc (.cells #[.int .i64 a, .int .i64 b] 59)) _ 59 (0, 0) j v h
    simpa using this
  clear hW
  have x0 : ∀ x : Ext GrowsD (W.drew), x.u.cell? ⟨w.heap.size, 0, none⟩ = some (.int .i64 a) := ext_cellD (hx 0 _ rfl)
  have x1 : ∀ x : Ext GrowsD (W.drew), x.u.cell? ⟨w.heap.size, 1, none⟩ = some (.int .i64 b) := ext_cellD (hx 1 _ rfl)
  have y0 : ∀ x : Ext GrowsD (W.drew), x.u.cell? ⟨w.heap.size + 1, 0, none⟩ = some (.int .i64 c) := ext_cellD (hy 0 _ rfl)
  have y1 : ∀ x : Ext GrowsD (W.drew), x.u.cell? ⟨w.heap.size + 1, 1, none⟩ = some (.int .i64 d) := ext_cellD (hy 1 _ rfl)
  clear hx hy
  refine wp_region_ord GrowsD [(0, false), (1, false), (2, false), (3, false), (4, false), (5, false), (6, false), (7, false), (8, false), (9, false), (10, true), (11, true), (12, true)] GrowsD.refl GrowsD.trans (by kernel_rfl) (by kernel_rfl) (fun d _ _ _ _ h => by cases d <;> exact h) ?_
  repeat (refine ord_quiet rfl (fun K hK => ?_); go_simp; first | (refine hK _ ?_; clear hK K) | (apply Exists.intro; refine ⟨fun x => ?_, hK _ ?_⟩; ((first | (go_at_call 59; exact calls_ext_sameD (compareI_any _ _ _)))); clear hK K))
  clear x0 x1 y0 y1
  refine ord_late_w rfl rfl (fun K hK w2 h2 => ?_)
  go_simp
  refine ⟨GrowsD.alloc _ _, hK _ _ ?_⟩
  clear hK K
  have hz : ∀ k, k < [cmpI a c, cmpI b d].length → (w2.alloc (.cells #[.int .i64 (cmpI a c), .int .i64 (cmpI b d)] 3)).cell? ⟨w2.heap.size, 0 + k, none⟩ = some (.int .i64 ([cmpI a c, cmpI b d][k]?.getD 0)) := fun k hk => by
    refine cell_box w2 _ _ _ _ _ ?_
    match k, hk with
    | 0, _ => rfl
    | 1, _ => rfl
  have h3 : GrowsD w2 (w2.alloc (.cells #[.int .i64 (cmpI a c), .int .i64 (cmpI b d)] 3)) := GrowsD.alloc _ _
  generalize w2.alloc _ = w3 at hz h3 ⊢
  refine ord_late_w rfl rfl (fun K hK w4 h4 => ?_)
  go_simp
  refine (or_any [cmpI a c, cmpI b d] w2.heap.size 0 2 w4 (by simp) (fun k hk => h4.1.cell (hz k hk))).mono ?_
  rintro e w' ⟨rfl, rfl⟩
  refine ⟨GrowsD.refl _, hK _ _ ?_⟩
  clear hK K
  refine ord_late_w rfl rfl (fun K hK w5 h5 => ?_)
  go_simp
  refine ⟨GrowsD.refl _, hK _ _ ?_⟩
  clear hK K
  refine ord_end (fun w6 h6 => ?_)
  have hB6 : GrowsD w w6 := (((((hB.tr (GrowsD.drew _)).tr h2).tr h3).tr h4).tr h5).tr h6
  go_wp2
  go_ret
  exact ⟨rfl, hB6⟩

theorem cmpLaysP (blk off size : Nat) (w : World) : CmpLays Tryz.prog 57 #[] pairC 2 cmpP blk off size w := fun m os dk _ x y =>
  (pairCmp_any x.1 x.2 y.1 y.2 (sortWorldK pairC 2 w blk off m dk os)).mono fun _ _ ⟨he, hg⟩ => ⟨he, hg.grow⟩
theorem ltOf_P (x y : Int × Int) : ltOf cmpP x y = true ↔ ltP x y := by
  rw [← cmpP_lt]; simp [ltOf]
theorem swoP : Sort.SWO (ltOf cmpP) where
  irrefl x := by
    cases h : ltOf cmpP x x with
    | false => rfl
    | true => exact absurd ((ltOf_P x x).1 h) (ltP_irrefl x)
  trans x y z h1 h2 := (ltOf_P x z).2 (ltP_trans ((ltOf_P x y).1 h1) ((ltOf_P y z).1 h2))
  ntrans x y z h1 h2 := by
    have k1 : ¬ ltP x y := fun h => by rw [(ltOf_P x y).2 h] at h1; cases h1
    have k2 : ¬ ltP y z := fun h => by rw [(ltOf_P y z).2 h] at h2; cases h2
    cases h : ltOf cmpP x z with
    | false => rfl
    | true =>
      have k3 := (ltOf_P x z).1 h
      unfold ltP at k1 k2 k3
      exfalso; omega
theorem psf_agg (w : World) : (isAgg 59).run Tryz.prog w = .ok true w := by kernel_rfl
theorem psf_size (w : World) : (Go.sizeOf 59).run Tryz.prog w = .ok 2 w := by kernel_rfl
theorem pairC_one : ∀ (x : Int × Int), ∀ v ∈ pairC x, v.oneCell' = true := fun x v hv => by
  simp [pairC] at hv
  rcases hv with rfl | rfl <;> rfl
theorem psortf_any (w : World) (base : Nat) (v : Value) (l : List (Int × Int)) (hown : Owns w base 59 2 pairC v l) (hl : l.length < 4611686018427387904) :
    Calls Tryz.prog 81 #[v, .func (.func 57) #[] #[]] w fun e w' => e = .returned (.tuple #[]) ∧ ∃ l', l'.Perm l ∧ l'.Pairwise (fun x y => ltOf cmpP y x = false) ∧ Owns w' base 59 2 pairC v l' ∧ w.grownBy w' v.ownBlock := by
  have h := sortFunc_owns Tryz.sortP psf_agg psf_size (fun _ => rfl) (by decide) pairC_one cmpP swoP 57 #[] (enters_of Tryz.func57 (by kernel_rfl) rfl) cmpLaysP w base 59 v l hown hl
  exact h
end Go.Proofs.YtcdjponbhpchbaaGreatDoor
namespace Go.Proofs.YtcdjponbhpchbaaGreatDoor
open Go Go.RowKit Go.Shelf
attribute [local go_sem] quietE

theorem cloneM_any (w : World) (bm n : Nat) (D : DataW Unit) (hown : w.ownsMap Tryz.prog 59 (plainElem Tryz.prog 3) bm n D) :
    Calls Tryz.prog 35 #[.map (some bm)] w fun e w' => e = .returned (.map (some w.heap.size)) ∧ w'.ownsMap Tryz.prog 59 (plainElem Tryz.prog 3) w.heap.size n D ∧ Grows w w' := by
  have h := AnyW.maps_Clone_owns Tryz.cloneP 59 (plainElem Tryz.prog 3) bm n D w hown
  exact h.mono fun e w' ⟨h1, h2, _, h3⟩ => ⟨h1, h2, h3⟩

set_option maxHeartbeats 2000000 in
theorem copy_any (w : World) (mb bm : Nat) (m : Mx) (h : MatAt w mb bm m) :
    Calls Tryz.prog 15 #[.pointer (some ⟨mb, 0, none⟩)] w fun e w' => ∃ mb' bm', e = .returned (.pointer (some ⟨mb', 0, none⟩)) ∧ w.heap.size ≤ mb' ∧ w.heap.size ≤ bm' ∧ MatAt w' mb' bm' m ∧ Grows w w' := by
  have hok := h.ok
  have c0 := h.c0
  have c1 := h.c1
  have c2 := h.c2
  obtain ⟨D, hown, hM⟩ := h.own
  clear h
  go_enter Tryz.func15, Tryz.ntmps15
  go_wp2_with fail
  have x0 : ∀ x : Ext Grows w.drew, x.u.cell? ⟨mb, 0, none⟩ = some (.int .i64 m.n) := ext_cell ((Grows.drew w).cell c0)
  have x1 : ∀ x : Ext Grows w.drew, x.u.cell? ⟨mb, 1, none⟩ = some (.int .i64 m.d) := ext_cell ((Grows.drew w).cell c1)
  have x2 : ∀ x : Ext Grows w.drew, x.u.cell? ⟨mb, 2, none⟩ = some (.map (some bm)) := ext_cell ((Grows.drew w).cell c2)
  refine s_region Grows [(0, false), (1, false), (2, false), (3, false), (4, false), (5, false), (6, false), (7, false), (8, false), (9, false), (10, false), (11, false), (12, true), (13, true), (14, true), (15, true)] Grows.refl Grows.trans (by kernel_rfl) (by kernel_rfl) (fun d _ _ _ _ h => by cases d <;> exact h) ?_
  iterate 12 (refine s_quiet rfl (fun K hK => ?_); go_simp; refine hK _ ?_; clear hK K)
  clear x0 x1 x2
  refine s_late_w rfl rfl (fun K hK w2 h2 => ?_)
  go_simp
  have hg2 : Grows w w2 := (Grows.drew w).tr h2
  refine (cloneM_any w2 bm _ D (ownsMap_grows hown hg2)).mono ?_
  rintro e w3 ⟨rfl, hown3, hg3⟩
  have hb2 := hg2.size
  refine ⟨hg3, hK _ _ ?_⟩
  clear hK K
  refine s_late_w rfl rfl (fun K hK w4 h4 => ?_)
  go_simp
  refine ⟨Grows.refl _, hK _ _ ?_⟩
  clear hK K
  refine s_late_w rfl rfl (fun K hK w5 h5 => ?_)
  go_simp
  refine ⟨Grows.alloc _ _, hK _ _ ?_⟩
  clear hK K
  refine s_late_w rfl rfl (fun K hK w6 h6 => ?_)
  go_simp
  refine ⟨Grows.refl _, hK _ _ ?_⟩
  clear hK K
  refine s_end (fun w7 h7 => ?_)
  have hg5 : Grows w w5 := ((hg2.tr hg3).tr h4).tr h5
  have hg67 := h6.tr h7
  go_wp2_with fail
  go_ret
  exact ⟨_, _, rfl, hg5.size, hb2, ⟨hok, hg67.cell (cell_box _ _ _ _ 0 _ rfl), hg67.cell (cell_box _ _ _ _ 1 _ rfl), hg67.cell (cell_box _ _ _ _ 2 _ rfl), D, ownsMap_grows hown3 (((h4.tr h5).al _).tr hg67), hM⟩, (hg5.al _).tr hg67⟩
end Go.Proofs.YtcdjponbhpchbaaGreatDoor
