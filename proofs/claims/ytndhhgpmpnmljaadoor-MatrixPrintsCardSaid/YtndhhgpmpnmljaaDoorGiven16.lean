import Derived.Test.YtndhhgpmpnmljaaDoorOrdT
namespace Go.Proofs.YtndhhgpmpnmljaaDoor
open Go Go.RowKit
attribute [local go_sem] quietE quietE2

theorem posLay16 : ElemLay Tryd.prog 38 77 2 24 posCells where
  sl := Tryd.underlying38
  info := elem_info (z := .agg #[.string ⟨#[]⟩, .int .i64 0]) (by kernel_rfl) rfl
  pos := by decide
  by1 := by decide
  len _ := rfl
  one x u hu := by
    simp [posCells] at hu
    rcases hu with rfl | rfl <;> rfl
def Given16Post (p : List PosV) (w : World) (e : Ending) (w' : World) : Prop := ∃ a cap, e = .returned (.slice a p.length cap) ∧ AtCells w' a 2 (p.map posCells) ∧ Grows w w'
set_option maxHeartbeats 2000000 in
set_option maxRecDepth 100000 in
theorem given16_any (p : List PosV) (pa : Option Addr) (ca : Nat) (w : World) (lp : p.length * 24 ≤ 140737488355328) (hp : AtCells w pa 2 (p.map posCells)) :
    Calls Tryd.prog 14 #[.slice pa p.length ca] w (Given16Post p w) := by
  go_enter Tryd.func14, Tryd.ntmps14
  go_wp2_with fail
  go_loopw [3, 4] (fun v i wr => ∃ (k : Nat), k ≤ p.length ∧ i = .int .i64 k ∧ Owns wr w.heap.size 77 2 posCells v (p.take k) ∧ Grows w wr) (fun _ i _ => p.length - (intOf i).toNat)
  case atStart => exact ⟨0, Nat.zero_le _, rfl, Owns.nil _ _ _ _ _, Grows.refl _⟩
  case round =>
    obtain ⟨k, hk, rfl, hown, hg⟩ := hrel
    by_cases hlt : k < p.length
    · obtain ⟨⟨xn, xk⟩, hx⟩ : ∃ x, p[k]? = some x := ⟨_, List.getElem?_eq_getElem hlt⟩
      obtain ⟨ba, oa, rfl, hca⟩ := (hp.grows hg).get (ne_nil_of_lt hlt)
      have c0 : wr.cell? ⟨ba, oa + k * 2, none⟩ = some (.string xn) := hca k _ hx 0 _ rfl
      have c1 : wr.cell? ⟨ba, oa + k * 2 + 1, none⟩ = some (.int .i64 xk) := hca k _ hx 1 _ rfl
      have x0 := ext_cell (w := wr.drew) c0
      have x1 := ext_cell (w := wr.drew) c1
      have htk : p.take (k + 1) = p.take k ++ [⟨xn, xk⟩] := by rw [List.take_add_one, hx]; rfl
      have htl : (p.take k).length = k := by rw [List.length_take]; omega
      have HT := Lib.hid htk
      obtain ⟨a3, c3, rfl, hc1, hc2, _⟩ := hown.at_ posLay16.len
      rw [htl] at *
      clear hca hx htk htl
      go_wp2_with fail
      refine wp_region_tail Grows 13 [(0, false), (1, false), (2, false), (3, false), (4, false), (5, false), (6, false), (7, false), (8, false), (9, false), (10, false), (11, false), (12, true)] Grows.refl Grows.trans (by kernel_rfl) (by kernel_rfl) (fun d _ _ _ _ h => by cases d <;> exact h) ?_
      repeat (refine ord_quiet rfl (fun K hK => ?_); go_simp; first | (refine hK _ ?_; clear hK K) | (apply Exists.intro; refine ⟨fun x => ?_, hK _ ?_⟩; (fail); clear hK K))
      clear x0 x1
      refine ord_late_w rfl rfl (fun K hK w3 h3 => ?_); go_simp; refine ⟨Grows.alloc _ _, hK _ _ ?_⟩; clear hK K
      refine ord_end (fun w4 h4 => ?_)
      simp only [List.drop_succ_cons, List.drop_zero]
      have hg4 : Grows wr w4 := (((Grows.drew _).tr h3).al _).tr h4
      go_wp2_with (at_builtin; refine app_at posLay16 rfl _ _ rfl w.heap.size _ _ ⟨xn, xk⟩ rfl hown hg4 w3.heap.size 1 (box_in h4 rfl) rfl (by rw [List.length_take]; omega) hg.size ?_; intro v' w5 hown' hg5)
      have hgw5 := hg5 w hg (Nat.le_refl _)
      go_wp2
      go_roundw
      case rel => exact ⟨k + 1, hlt, by go_num, by rw [HT.out]; exact hown', hgw5⟩
      case measure => simp [intOf]; omega
    · obtain rfl : k = p.length := by omega
      rw [List.take_length] at hown
      obtain ⟨a3, c3, rfl, hc1, hc2, hat⟩ := hown.at_ posLay16.len
      go_wp2
      go_ret
      exact ⟨_, _, rfl, hat, hg⟩
end Go.Proofs.YtndhhgpmpnmljaaDoor
