import Derived.Test.YtfkebhkckcnlpaaGreatDoorApp
import Derived.Test.YtfkebhkckcnlpaaGreatDoorProg
namespace Go.Proofs.YtfkebhkckcnlpaaGreatDoor
open Go Go.RowKit
attribute [local go_sem] quietE

def shortOne (x : PosV) : Bool := decide (x.name.size ≤ 100)
def shortS (l : List PosV) : Bool := decide (l.length ≤ 100) && l.all shortOne
def ShortPost (a : List PosV) (e : Ending) : Prop := ∃ b : Bool, e = .returned (.bool b) ∧ (b = true → shortS a = true)

set_option maxHeartbeats 1000000 in
set_option maxRecDepth 100000 in
/-- short answers some bool; where it answers true, the parts of speech are few and short. -/
theorem short_any (a : List PosV) (pa : Option Addr) (ca : Nat) (w : World) (la : a.length ≤ 4611686018427387904) (ha : AtCells w pa 2 (a.map posCells)) :
    Calls Tryz.prog 15 #[.slice pa a.length ca] w fun e w' => ShortPost a e ∧ Grows w w' := by
  go_enter Tryz.func15, Tryz.ntmps15
  go_wp2_with fail
  go_loopw [3] (fun i wr => ∃ k : Nat, k ≤ a.length ∧ k ≤ 100 ∧ i = .int .i64 k ∧ Hid (∀ x, x ∈ a.take k → shortOne x = true) ∧ Grows w wr) (fun i _ => a.length - (intOf i).toNat)
  case atStart => exact ⟨0, Nat.zero_le _, by omega, rfl, by simp [Hid], Grows.refl _⟩
  case round =>
    obtain ⟨k, hk, hk2, rfl, hpr, hg⟩ := hrel
    by_cases hlt : k < a.length
    · by_cases h100 : k < 100
      · obtain ⟨⟨xn, xk⟩, hx⟩ : ∃ x, a[k]? = some x := ⟨_, List.getElem?_eq_getElem hlt⟩
        obtain ⟨ba, oa, rfl, hca⟩ := (ha.grows hg).get (ne_nil_of_lt hlt)
        have c0 : wr.cell? ⟨ba, oa + k * 2, none⟩ = some (.string xn) := hca k _ hx 0 _ rfl
        have HX := Lib.hid hx
        clear hca hx
        by_cases h1 : (100 : Int) < xn.size
        · go_wp2_with fail
          go_ret
          exact ⟨⟨false, rfl, by simp⟩, hg⟩
        · go_wp2_with fail
          go_roundw
          case rel =>
            refine ⟨k + 1, by omega, by omega, rfl, ?_, hg⟩
            intro x hx
            rw [List.take_add_one, HX.out] at hx
            rcases List.mem_append.1 hx with h | h
            · exact hpr.out x h
            · obtain rfl : x = ⟨xn, xk⟩ := by simpa using h
              unfold shortOne
              simp only [decide_eq_true_eq]
              omega
          case measure => simp [intOf]; omega
      · have hcl : ¬ (k : Int) < 100 := by omega
        go_wp2_with fail
        go_ret
        refine ⟨⟨decide ((a.length : Int) ≤ 100), rfl, fun h => ?_⟩, hg⟩
        have : (a.length : Int) ≤ 100 := by simpa using h
        omega
    · obtain rfl : k = a.length := by omega
      go_wp2_with fail
      go_ret
      refine ⟨⟨decide ((a.length : Int) ≤ 100), rfl, fun h => ?_⟩, hg⟩
      unfold shortS
      have h3 := hpr.out
      rw [List.take_length] at h3
      simp only [Bool.and_eq_true, decide_eq_true_eq, List.all_eq_true]
      exact ⟨hk2, h3⟩

theorem posLay : ElemLay Tryz.prog 32 39 2 24 posCells where
  sl := Tryz.underlying32
  info := elem_info (z := .agg #[.string ⟨#[]⟩, .int .i64 0]) (by kernel_rfl) rfl
  pos := by decide
  by1 := by decide
  len _ := rfl
  one x u hu := by
    simp [posCells] at hu
    rcases hu with rfl | rfl <;> rfl

def GivenPost (p : List PosV) (w : World) (e : Ending) (w' : World) : Prop := ∃ a cap, e = .returned (.slice a p.length cap) ∧ AtCells w' a 2 (p.map posCells) ∧ Grows w w'

set_option maxHeartbeats 2000000 in
set_option maxRecDepth 100000 in
theorem given_any (p : List PosV) (pa : Option Addr) (ca : Nat) (w : World) (lp : p.length ≤ 1000000) (hp : AtCells w pa 2 (p.map posCells)) :
    Calls Tryz.prog 16 #[.slice pa p.length ca] w (GivenPost p w) := by
  go_enter Tryz.func16, Tryz.ntmps16
  go_wp2_with fail
  go_loopw [3, 4] (fun v i wr => ∃ (k : Nat), k ≤ p.length ∧ i = .int .i64 k ∧ Owns wr w.heap.size 39 2 posCells v (p.take k) ∧ Grows w wr) (fun _ i _ => p.length - (intOf i).toNat)
  case atStart => exact ⟨0, Nat.zero_le _, rfl, Owns.nil _ _ _ _ _, Grows.refl _⟩
  case round =>
    obtain ⟨k, hk, rfl, hown, hg⟩ := hrel
    by_cases hlt : k < p.length
    · obtain ⟨⟨xn, xk⟩, hx⟩ : ∃ x, p[k]? = some x := ⟨_, List.getElem?_eq_getElem hlt⟩
      obtain ⟨ba, oa, rfl, hca⟩ := (hp.grows hg).get (ne_nil_of_lt hlt)
      have c0 : wr.cell? ⟨ba, oa + k * 2, none⟩ = some (.string xn) := hca k _ hx 0 _ rfl
      have c1 : wr.cell? ⟨ba, oa + k * 2 + 1, none⟩ = some (.int .i64 xk) := hca k _ hx 1 _ rfl
      have x0 := ext_cell (w := wr.drew) c0
      have x1 := ext_cell (w := wr.drew) c1
      have htk : p.take (k + 1) = p.take k ++ [⟨xn, xk⟩] := by rw [List.take_add_one, hx]; rfl
      have htl : (p.take k).length = k := by rw [List.length_take]; omega
      have HT := Lib.hid htk
      obtain ⟨a3, c3, rfl, hc1, hc2, _⟩ := hown.at_ posLay.len
      rw [htl] at *
      clear hca hx htk htl
      go_wp2_with fail
      refine wp_region_tail Grows 13 [(0, false), (1, false), (2, false), (3, false), (4, false), (5, false), (6, false), (7, false), (8, false), (9, false), (10, false), (11, false), (12, true)] Grows.refl Grows.trans (by kernel_rfl) (by kernel_rfl) (fun d _ _ _ _ h => by cases d <;> exact h) ?_
      repeat (refine ord_quiet rfl (fun K hK => ?_); go_simp; first | (refine hK _ ?_; clear hK K) | (apply Exists.intro; refine ⟨fun x => ?_, hK _ ?_⟩; (fail); clear hK K))
      clear x0 x1
      refine ord_late_w rfl rfl (fun K hK w3 h3 => ?_); go_simp; refine ⟨Grows.alloc _ _, hK _ _ ?_⟩; clear hK K
      refine ord_end (fun w4 h4 => ?_)
      simp only [List.drop_succ_cons, List.drop_zero]
      have hg4 : Grows wr w4 := (((Grows.drew _).tr h3).al _).tr h4
      go_wp2_with (at_builtin; refine app_at posLay rfl _ _ rfl w.heap.size _ _ ⟨xn, xk⟩ rfl hown hg4 w3.heap.size 1 (box_in h4 rfl) rfl (by rw [List.length_take]; omega) hg.size ?_; intro v' w5 hown' hg5)
      have hgw5 := hg5 w hg (Nat.le_refl _)
      go_wp2
      go_roundw
      case rel => exact ⟨k + 1, hlt, by go_num, by rw [HT.out]; exact hown', hgw5⟩
      case measure => simp [intOf]; omega
    · obtain rfl : k = p.length := by omega
      rw [List.take_length] at hown
      obtain ⟨a3, c3, rfl, hc1, hc2, hat⟩ := hown.at_ posLay.len
      go_wp2
      go_ret
      exact ⟨_, _, rfl, hat, hg⟩
end Go.Proofs.YtfkebhkckcnlpaaGreatDoor
