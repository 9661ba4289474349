import Derived.Test.YtndhhgpmpnmljaaGreatDoorProg
import Derived.Test.YtndhhgpmpnmljaaGreatDoorMem
import Derived.WalkKit
import Derived.WalkLawsBesides
import Derived.Lib.Hide
namespace Go.Proofs.YtndhhgpmpnmljaaGreatDoor
open Go Go.RowKit

/-- cmp.Or at int. -/
def orI : List Int → Int
  | [] => 0
  | z :: l => if z = 0 then orI l else z

theorem orI_drop : ∀ (zs : List Int) (k : Nat), (∀ j, j < k → zs[j]?.getD 0 = 0) → orI zs = orI (zs.drop k)
  | [], k, _ => by simp
  | z :: l, 0, _ => by simp
  | z :: l, k + 1, h => by
    have h0 : z = 0 := by simpa using h 0 (by omega)
    simp only [orI, h0, if_true, List.drop_succ_cons]
    exact orI_drop l k fun j hj => by simpa using h (j + 1) (by omega)
theorem orI_hit {zs : List Int} {k : Nat} (hk : k < zs.length) (h : ∀ j, j < k → zs[j]?.getD 0 = 0) (hz : zs[k]?.getD 0 ≠ 0) : orI zs = zs[k]?.getD 0 := by
  rw [orI_drop zs k h, List.drop_eq_getElem_cons hk, orI]
  simp [hk] at hz ⊢
  simp [hz]
theorem orI_none {zs : List Int} (h : ∀ j, j < zs.length → zs[j]?.getD 0 = 0) : orI zs = 0 := by
  rw [orI_drop zs _ h]; simp [orI]

set_option maxHeartbeats 400000 in
theorem or_any (zs : List Int) (b off cap : Nat) (w : World) (hl : zs.length ≤ 4611686018427387904) (hc : ∀ k, k < zs.length → w.cell? ⟨b, off + k, none⟩ = some (.int .i64 (zs[k]?.getD 0))) :
    Calls Tryz.prog 81 #[.slice (some ⟨b, off, none⟩) zs.length cap] w fun e w' => e = .returned (.int .i64 (orI zs)) ∧ w = w' := by
  have HC := Lib.hid hc
  clear hc
  go_enter Tryz.func81, Tryz.ntmps81
  go_wp2
  go_loop [8] (fun i => ∃ k : Nat, k ≤ zs.length ∧ i = .int .i64 k ∧ Hid (∀ j, j < k → zs[j]?.getD 0 = 0)) (fun i => zs.length - (intOf i).toNat)
  case atStart => exact ⟨0, Nat.zero_le _, rfl, fun j hj => by omega⟩
  case round =>
    obtain ⟨k, hk, rfl, hz⟩ := hrel
    by_cases hlt : k < zs.length
    · have hcx := HC.out k hlt
      obtain ⟨z, hze⟩ : ∃ z, z = zs[k]?.getD 0 := ⟨_, rfl⟩
      rw [← hze] at hcx
      have HE := Lib.hid hze
      clear hze
      by_cases h0 : z = 0
      · have h0' : (z != 0) = false := by simp [h0]
        have H0 := Lib.hid h0
        clear h0
        go_wp2
        go_round
        case rel => exact ⟨k + 1, by omega, by go_num, fun j hj => by
          rcases Nat.lt_succ_iff_lt_or_eq.1 hj with h | rfl
          · exact hz.out j h
          · rw [← HE.out]; exact H0.out⟩
        case measure => simp [intOf]; omega
      · have h0' : (z != 0) = true := by simpa using h0
        have hfin := Lib.hid ((orI_hit hlt hz.out (by rw [← HE.out]; exact h0)).trans HE.out.symm)
        clear h0
        go_wp2
        go_ret
        exact ⟨by rw [hfin.out]; rfl, rfl⟩
    · obtain rfl : k = zs.length := by omega
      have hfin := Lib.hid (orI_none hz.out)
      go_wp2
      go_ret
      exact ⟨by rw [hfin.out]; rfl, rfl⟩

def cmpI (x y : Int) : Int := if x < y then -1 else if y < x then 1 else 0
def cmpS (a b : ByteArray) : Int := if Op.bytesLess a.toList b.toList then -1 else if !Op.bytesLess a.toList b.toList && !(a.toList == b.toList) then 1 else 0


set_option maxHeartbeats 400000 in
theorem compareI_any (x y : Int) (w : World) :
    Calls Tryz.prog 82 #[.int .i64 x, .int .i64 y] w fun e w' => e = .returned (.int .i64 (cmpI x y)) ∧ w = w' := by
  go_enter Tryz.func82, Tryz.ntmps82
  go_wp2
  all_goals (go_ret; refine ⟨ret_int ?_, rfl⟩; unfold cmpI; (repeat' split) <;> first | rfl | (exfalso; omega))

set_option maxHeartbeats 400000 in
theorem compareS_any (x y : ByteArray) (w : World) :
    Calls Tryz.prog 91 #[.string x, .string y] w fun e w' => e = .returned (.int .i64 (cmpS x y)) ∧ w = w' := by
  go_enter Tryz.func91, Tryz.ntmps91
  go_wp2
  all_goals (go_ret; exact ⟨ret_int (by simp [cmpS, *]), rfl⟩)
end Go.Proofs.YtndhhgpmpnmljaaGreatDoor
