import Derived.Test.YtfkebhkckcnlpaaGreatDoorRefK
import Derived.Test.YtfkebhkckcnlpaaGreatDoorWorks
namespace Go.Proofs.YtfkebhkckcnlpaaGreatDoor
open Go Go.RowKit Go.Shelf
attribute [local go_sem] quietE

theorem one_at (w : World) (x : En) (t : TypeId) : AtCells (w.alloc (.cells #[.string x.r, .string x.s, .int .i64 x.l, .int .i64 x.t, .int .i64 x.c] t)) (some ⟨w.heap.size, 0, none⟩) 5 ([x].map enCells) := fun _ => ⟨w.heap.size, 0, rfl, fun i row hi j u hj => by
  match i, hi with
  | 0, hi =>
    obtain rfl := Option.some.inj hi
    refine cell_box _ _ _ _ _ _ ?_
    rw [← hj]; simp [enCells]⟩
theorem few_one (b : Nat) (W : World) (hb : b = W.heap.size) (x : En) : Calls Tryz.prog 11 #[.slice (some ⟨b, 0, none⟩) 1 1] (W.alloc (.cells #[.string x.r, .string x.s, .int .i64 x.l, .int .i64 x.t, .int .i64 x.c] 23)) fun e w' => FewPost [x] e ∧ Grows (W.alloc (.cells #[.string x.r, .string x.s, .int .i64 x.l, .int .i64 x.t, .int .i64 x.c] 23)) w' := by
  subst hb
  exact few_any [x] (some ⟨W.heap.size, 0, none⟩) 1 _ (by simp) (one_at W x 23)

set_option maxHeartbeats 4000000 in
set_option maxRecDepth 100000 in
theorem checks_any (x : En) (n : Int) (w : World) (he : Env w) : Calls Tryz.prog 3 #[x.agg, .int .i64 n] w fun e w' => e = .returned (.bool true) ∧ Grows w w' := by
  obtain ⟨r, s, l, t, c⟩ := x
  have hF := fun (b : Nat) W (hb : b = W.heap.size) => Lib.hid (few_one b W hb ⟨r, s, l, t, c⟩)
  have hsz : Hid (fewS [⟨r, s, l, t, c⟩] = true → r.size ≤ 1000 ∧ s.size ≤ 1000) := fun h => by simpa [fewS, fewOne] using h
  unfold En.agg
  go_enter Tryz.func3, Tryz.ntmps3
  go_wp2_with fail
  refine (hF _ _ (by simp)).out.mono ?_
  rintro e w1 ⟨⟨fb, rfl, hfb⟩, hg1⟩
  have hgw : Grows w w1 := ((Grows.alloc w _).al _).tr hg1
  have hg0 : Grows (w.alloc (.cells #[.string r, .string s, .int .i64 l, .int .i64 t, .int .i64 c] 23)) w1 := (Grows.alloc _ _).tr hg1
  have c0 := (box_in hg0 rfl) 0 _ rfl
  have c1 := (box_in hg0 rfl) 1 _ rfl
  have c2 := (box_in hg0 rfl) 2 _ rfl
  have c3 := (box_in hg0 rfl) 3 _ rfl
  have c4 := (box_in hg0 rfl) 4 _ rfl
  clear hg0 hg1
  cases fb
  · clear hfb c0 c1 c2 c3 c4
    go_wp2
    go_ret
    exact ⟨rfl, hgw⟩
  · obtain ⟨s1, s2⟩ := hsz.out (hfb rfl)
    have hE := (he.grows hgw).grows (Grows.drew w1)
    have HC := fun W (hW : Grows w1.drew W) => Lib.hid (echeck_any r s l t c n W (by omega) (by omega) (hE.grows hW))
    have HR := fun W => Lib.hid (rcheck_any r s l t c n W (by omega) (by omega))
    have x0 := ext_cell (w := w1.drew) c0
    have x1 := ext_cell (w := w1.drew) c1
    have x2 := ext_cell (w := w1.drew) c2
    have x3 := ext_cell (w := w1.drew) c3
    have x4 := ext_cell (w := w1.drew) c4
    generalize checkS r s l t c n = no at *
    clear c0 c1 c2 c3 c4 hfb hsz hF
    go_wp2_with fail
    refine wp_region_ord Grows [(0, false), (1, false), (2, false), (3, false), (4, false), (5, false), (6, false), (7, false), (8, false), (9, false), (10, false)] Grows.refl Grows.trans (by kernel_rfl) (by kernel_rfl) (fun d _ _ _ _ h => by cases d <;> exact h) ?_
    repeat (refine ord_quiet rfl (fun K hK => ?_); go_simp; first | (refine hK _ ?_; clear hK K) | (apply Exists.intro; refine ⟨fun x => ?_, hK _ ?_⟩; ((first | (go_at_call 12; exact calls_ext (HC _ x.h).out) | (go_at_call 13; exact calls_ext (HR _).out) | (go_at_call 14; exact calls_ext (works_any _ (hE.grows x.h))))); clear hK K))
    refine ord_end (fun w4 h4 => ?_)
    go_wp2_with fail
    go_ret
    exact ⟨rfl, hgw.dr.tr h4⟩
end Go.Proofs.YtfkebhkckcnlpaaGreatDoor
