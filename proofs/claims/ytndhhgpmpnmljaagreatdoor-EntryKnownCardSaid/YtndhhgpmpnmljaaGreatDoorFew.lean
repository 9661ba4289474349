import Derived.Test.YtndhhgpmpnmljaaGreatDoorSame
namespace Go.Proofs.YtndhhgpmpnmljaaGreatDoor
open Go Go.RowKit Go.Shelf
attribute [local go_sem] quietE

def fewOne (x : En) : Bool := decide (x.r.size ≤ 1000) && decide (x.s.size ≤ 1000)
def fewS (l : List En) : Bool := decide (l.length ≤ 100) && l.all fewOne

def FewPost (a : List En) (e : Ending) : Prop := ∃ b : Bool, e = .returned (.bool b) ∧ (b = true → fewS a = true)

set_option maxHeartbeats 1000000 in
set_option maxRecDepth 100000 in
/-- Few answers some bool; where it answers true, the entries are few and short. -/
theorem few_any (a : List En) (pa : Option Addr) (ca : Nat) (w : World) (la : a.length ≤ 4611686018427387904) (ha : AtCells w pa 5 (a.map enCells)) :
    Calls Tryz.prog 24 #[.slice pa a.length ca] w fun e w' => FewPost a e ∧ Grows w w' := by
  go_enter Tryz.func24, Tryz.ntmps24
  go_wp2_with fail
  go_loopw [3] (fun i wr => ∃ k : Nat, k ≤ a.length ∧ k ≤ 100 ∧ i = .int .i64 k ∧ Hid (∀ x, x ∈ a.take k → fewOne x = true) ∧ Grows w wr) (fun i _ => a.length - (intOf i).toNat)
  case atStart => exact ⟨0, Nat.zero_le _, by omega, rfl, by simp [Hid], Grows.refl _⟩
  case round =>
    obtain ⟨k, hk, hk2, rfl, hpr, hg⟩ := hrel
    by_cases hlt : k < a.length
    · by_cases h100 : k < 100
      · obtain ⟨⟨xr, xs, xl, xt, xc⟩, hx⟩ : ∃ x, a[k]? = some x := ⟨_, List.getElem?_eq_getElem hlt⟩
        obtain ⟨ba, oa, rfl, hca⟩ := (ha.grows hg).get (ne_nil_of_lt hlt)
        have c0 : wr.cell? ⟨ba, oa + k * 5, none⟩ = some (.string xr) := hca k _ hx 0 _ rfl
        have c1 : wr.cell? ⟨ba, oa + k * 5 + 1, none⟩ = some (.string xs) := hca k _ hx 1 _ rfl
        have HX := Lib.hid hx
        clear hca hx
        by_cases h1 : (1000 : Int) < xr.size
        · go_wp2_with fail
          go_ret
          exact ⟨⟨false, rfl, by simp⟩, hg⟩
        · by_cases h2 : (1000 : Int) < xs.size
          · go_wp2_with fail
            go_ret
            exact ⟨⟨false, rfl, by simp⟩, hg⟩
          · go_wp2_with fail
            go_roundw
            case rel =>
              refine ⟨k + 1, by omega, by omega, rfl, ?_, hg⟩
              intro x hx
              rw [List.take_add_one, HX.out] at hx
              rcases List.mem_append.1 hx with h | h
              · exact hpr.out x h
              · obtain rfl : x = ⟨xr, xs, xl, xt, xc⟩ := by simpa using h
                unfold fewOne
                simp only [Bool.and_eq_true, decide_eq_true_eq]
                omega
            case measure => simp [intOf]; omega
      · have hcl : ¬ (k : Int) < 100 := by omega
        go_wp2_with fail
        go_ret
        refine ⟨⟨decide ((a.length : Int) ≤ 100), rfl, fun h => ?_⟩, hg⟩
        have : (a.length : Int) ≤ 100 := by simpa using h
        omega
    · obtain rfl : k = a.length := by omega
      go_wp2_with fail
      go_ret
      refine ⟨⟨decide ((a.length : Int) ≤ 100), rfl, fun h => ?_⟩, hg⟩
      unfold fewS
      have h3 := hpr.out
      rw [List.take_length] at h3
      simp only [Bool.and_eq_true, decide_eq_true_eq, List.all_eq_true]
      exact ⟨hk2, h3⟩
end Go.Proofs.YtndhhgpmpnmljaaGreatDoor
