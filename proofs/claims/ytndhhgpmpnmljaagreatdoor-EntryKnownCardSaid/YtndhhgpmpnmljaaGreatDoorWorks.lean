import Derived.Test.YtndhhgpmpnmljaaGreatDoorEval
namespace Go.Proofs.YtndhhgpmpnmljaaGreatDoor
open Go Go.RowKit Go.Shelf
attribute [local go_sem] quietE

set_option maxHeartbeats 1000000 in
theorem plain_any (w : World) : Calls Tryz.prog 34 #[] w fun e w' => e = .returned (.slice (some ⟨w.heap.size, 0, none⟩) 2 2) ∧ AtCells w' (some ⟨w.heap.size, 0, none⟩) 2 (plainL.map posCells) ∧ Grows w w' := by
  go_enter Tryz.func34, Tryz.ntmps34
  go_wp2
  refine bodyPost_ret (v := .slice (some ⟨w.heap.size, 0, none⟩) 2 2) (by simp [results, Tryz.results34, go_sem]) rfl ⟨rfl, ?_, Grows.alloc _ _⟩
  refine fun _ => ⟨w.heap.size, 0, rfl, fun i row hi j u hj => ?_⟩
  match i, hi with
  | 0, hi => 
    obtain rfl := Option.some.inj hi
    match j, hj with
    | 0, hj => exact cell_box _ _ _ _ _ _ hj
    | 1, hj => exact cell_box _ _ _ _ _ _ hj
  | 1, hi =>
    obtain rfl := Option.some.inj hi
    match j, hj with
    | 0, hj => exact cell_box _ _ _ _ _ _ hj
    | 1, hj => exact cell_box _ _ _ _ _ _ hj

theorem one_box (w : World) (x : En) (t : TypeId) : AtCells (w.alloc (.cells #[.string x.r, .string x.s, .int .i64 x.l, .int .i64 x.t, .int .i64 x.c] t)) (some ⟨w.heap.size, 0, none⟩) 5 ([x].map enCells) := fun _ => ⟨w.heap.size, 0, rfl, fun i row hi j u hj => by
  match i, hi with
  | 0, hi =>
    obtain rfl := Option.some.inj hi
    have : j < 5 := by
      have := (List.getElem?_eq_some_iff.1 hj).1
      simpa [enCells] using this
    refine cell_box _ _ _ _ _ _ ?_
    rw [show 0 + 0 * 5 + j = j by omega]
    rw [← hj]
    match j, this with
    | 0, _ => rfl
    | 1, _ => rfl
    | 2, _ => rfl
    | 3, _ => rfl
    | 4, _ => rfl⟩

theorem parse_works (la : Option Addr) (w : World) (he : Env w) (hat : AtCells w la 2 (plainL.map posCells)) :
    Calls Tryz.prog 33 #[.string wantT, .slice la 2 2] w fun e w' => EnsPost w ([wantE], 0, 0) e w' := by
  have h := parse_any wantT plainL la 2 w (by decide) (by decide) he hat
  rw [ev_parse] at h
  exact h
theorem print_works (la pa : Option Addr) (w : World) (he : Env w) (hl : AtCells w la 5 ([wantE].map enCells)) (hp : AtCells w pa 2 (plainL.map posCells)) :
    Calls Tryz.prog 35 #[.slice la 1 1, .slice pa 2 2] w fun e w' => e = .returned (.tuple #[.string ⟨#[227, 129, 139, 9, 232, 154, 138, 9, 78, 9, 78, 9, 49, 48, 48, 10]⟩, .int .i64 0]) ∧ Grows w w' := by
  have h := print_any [wantE] plainL la pa 1 2 w (by decide) (by decide) he (fun x hx => (show x = wantE by simpa using hx) ▸ ⟨by decide, by decide⟩) hl hp
  rw [ev_print] at h
  exact h
theorem check_works2 (w : World) (he : Env w) : Calls Tryz.prog 31 #[.agg #[.string ⟨#[227, 129, 139]⟩, .string ⟨#[232, 154, 138]⟩, .int .i64 1, .int .i64 1, .int .i64 100], .int .i64 2] w fun e w' => e = .returned (.int .i64 0) ∧ Grows w w' := by
  have h := echeck_any kaB kaK 1 1 100 2 w (by decide) (by decide) he
  rw [show checkS kaB kaK 1 1 100 2 = 0 from ev_check2] at h
  exact h
theorem check_works1 (w : World) (he : Env w) : Calls Tryz.prog 31 #[.agg #[.string ⟨#[227, 129, 139]⟩, .string ⟨#[232, 154, 138]⟩, .int .i64 1, .int .i64 1, .int .i64 100], .int .i64 1] w fun e w' => e = .returned (.int .i64 150) ∧ Grows w w' := by
  have h := echeck_any kaB kaK 1 1 100 1 w (by decide) (by decide) he
  rw [show checkS kaB kaK 1 1 100 1 = 150 from ev_check1] at h
  exact h
theorem less_works (w : World) : Calls Tryz.prog 28 #[.agg #[.string ⟨#[227, 129, 139]⟩, .string ⟨#[232, 154, 138]⟩, .int .i64 1, .int .i64 1, .int .i64 100], .agg #[.string ⟨#[227, 129, 139]⟩, .string ⟨#[232, 154, 138]⟩, .int .i64 1, .int .i64 1, .int .i64 100]] w fun e w' => e = .returned (.bool false) ∧ Grows w w' := by
  have h := less_any wantE wantE w
  rw [ev_less] at h
  exact h
theorem same_works (pa pb : Option Addr) (ca cb : Nat) (w : World) (ha : AtCells w pa 5 ([wantE].map enCells)) (hb : AtCells w pb 5 ([wantE].map enCells)) :
    Calls Tryz.prog 26 #[.slice pa 1 ca, .slice pb 1 cb] w fun e w' => e = .returned (.bool true) ∧ Grows w w' := by
  have h := same_any [wantE] [wantE] pa pb ca cb w (by decide) ha hb
  rw [show decide ([wantE] = [wantE]) = true by simp] at h
  exact h

set_option maxHeartbeats 4000000 in
set_option maxRecDepth 100000 in
theorem works_any (w : World) (he : Env w) : Calls Tryz.prog 30 #[] w fun e w' => e = .returned (.bool true) ∧ Grows w w' := by
  go_enter Tryz.func30, Tryz.ntmps30
  have h0 : Grows w (w.alloc (.cells #[.string ⟨#[227, 129, 139]⟩, .string ⟨#[232, 154, 138]⟩, .int .i64 1, .int .i64 1, .int .i64 100] 54)) := Grows.alloc _ _
  have ha : Hid (AtCells (w.alloc (.cells #[.string ⟨#[227, 129, 139]⟩, .string ⟨#[232, 154, 138]⟩, .int .i64 1, .int .i64 1, .int .i64 100] 54)) (some ⟨w.heap.size, 0, none⟩) 5 ([wantE].map enCells)) := one_box w wantE 54
  go_wp2_with (first | (go_at_call 34; refine (plain_any _).mono ?_; rintro e w1 ⟨rfl, hp1, hg1⟩; try simp only [World.size_alloc] at hp1) | (go_at_call 33; refine (parse_works _ w1 (he.grows (h0.tr hg1)) hp1).mono ?_; rintro e w2 ⟨v, rfl, hown, hg2⟩; obtain ⟨pa, cap, rfl, _, _, hat⟩ := ownsRow_at (enc := enCells) enCells_len hown; clear hown hp1; have hg02 := (h0.tr hg1).tr hg2; have ha2 := Lib.hid (ha.out.grows (hg1.tr hg2)); clear ha) | (go_at_call 35; refine (print_works _ _ _ (he.grows (hg02.tr hg1)) (ha2.out.grows hg1) hp1).mono ?_; rintro e w3 ⟨rfl, hg3⟩; have hg03 := (hg02.tr hg1).tr hg3; have ha3 := Lib.hid (ha2.out.grows (hg1.tr hg3)); have hat3 := Lib.hid (hat.grows (hg1.tr hg3))))
  obtain ⟨lb, lo, hlo, hc⟩ := ha3.out.get (by simp)
  obtain ⟨rfl, rfl⟩ : w.heap.size = lb ∧ 0 = lo := by simpa using hlo
  have c0 : w3.cell? ⟨w.heap.size, 0, none⟩ = some (.string ⟨#[227, 129, 139]⟩) := hc 0 _ rfl 0 _ rfl
  have c1 : w3.cell? ⟨w.heap.size, 1, none⟩ = some (.string ⟨#[232, 154, 138]⟩) := hc 0 _ rfl 1 _ rfl
  have c2 : w3.cell? ⟨w.heap.size, 2, none⟩ = some (.int .i64 1) := hc 0 _ rfl 2 _ rfl
  have c3 : w3.cell? ⟨w.heap.size, 3, none⟩ = some (.int .i64 1) := hc 0 _ rfl 3 _ rfl
  have c4 : w3.cell? ⟨w.heap.size, 4, none⟩ = some (.int .i64 100) := hc 0 _ rfl 4 _ rfl
  have x0 := ext_cell (w := w3.drew) c0
  have x1 := ext_cell (w := w3.drew) c1
  have x2 := ext_cell (w := w3.drew) c2
  have x3 := ext_cell (w := w3.drew) c3
  have x4 := ext_cell (w := w3.drew) c4
  have hE : Env w3.drew := (he.grows hg03).grows (Grows.drew _)
  clear c0 c1 c2 c3 c4 hc hlo
  refine wp_region_ord Grows [(0, false), (1, false), (2, false), (3, false), (4, false), (5, false), (6, false), (7, false), (8, false), (9, false), (10, false), (11, false), (12, false), (13, false), (14, false), (15, false), (16, false), (17, false), (18, false), (19, false), (20, false), (21, false), (22, false), (23, false), (24, false), (25, false), (26, false), (27, false), (28, false), (29, false), (30, false), (31, false), (32, false), (33, false), (34, false), (35, false), (36, false), (37, false), (38, false), (39, false), (40, false), (41, false), (42, false), (43, false)] Grows.refl Grows.trans (by kernel_rfl) (by kernel_rfl) (fun d _ _ _ _ h => by cases d <;> exact h) ?_
  iterate 9 (refine ord_quiet rfl (fun K hK => ?_); go_simp; first | (refine hK _ ?_; clear hK K) | (apply Exists.intro; refine ⟨fun x => ?_, hK _ ?_⟩; fail))
  refine ord_quiet rfl (fun K hK => ?_)
  go_simp
  apply Exists.intro
  refine ⟨fun x => ?_, hK _ ?_⟩
  · exact calls_ext (same_works _ _ _ _ _ ((hat3.out.grows (Grows.drew _)).grows x.h) ((ha3.out.grows (Grows.drew _)).grows x.h))
  clear hK K
  iterate 13 (refine ord_quiet rfl (fun K hK => ?_); go_simp; first | (refine hK _ ?_; clear hK K) | (apply Exists.intro; refine ⟨fun x => ?_, hK _ ?_⟩; fail))
  refine ord_quiet rfl (fun K hK => ?_)
  go_simp
  apply Exists.intro
  refine ⟨fun x => ?_, hK _ ?_⟩
  · exact calls_ext (check_works2 _ (hE.grows x.h))
  clear hK K
  iterate 6 (refine ord_quiet rfl (fun K hK => ?_); go_simp; first | (refine hK _ ?_; clear hK K) | (apply Exists.intro; refine ⟨fun x => ?_, hK _ ?_⟩; fail))
  refine ord_quiet rfl (fun K hK => ?_)
  go_simp
  apply Exists.intro
  refine ⟨fun x => ?_, hK _ ?_⟩
  · exact calls_ext (check_works1 _ (hE.grows x.h))
  clear hK K
  iterate 9 (refine ord_quiet rfl (fun K hK => ?_); go_simp; first | (refine hK _ ?_; clear hK K) | (apply Exists.intro; refine ⟨fun x => ?_, hK _ ?_⟩; fail))
  refine ord_quiet rfl (fun K hK => ?_)
  go_simp
  apply Exists.intro
  refine ⟨fun x => ?_, hK _ ?_⟩
  · exact calls_ext (less_works _)
  clear hK K
  iterate 3 (refine ord_quiet rfl (fun K hK => ?_); go_simp; first | (refine hK _ ?_; clear hK K) | (apply Exists.intro; refine ⟨fun x => ?_, hK _ ?_⟩; fail))
  refine ord_end (fun w4 h4 => ?_)
  go_wp2_with fail
  go_ret
  exact ⟨rfl, hg03.dr.tr h4⟩
end Go.Proofs.YtndhhgpmpnmljaaGreatDoor
