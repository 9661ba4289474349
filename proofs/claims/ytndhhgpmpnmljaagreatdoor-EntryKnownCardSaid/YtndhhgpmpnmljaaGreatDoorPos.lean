import Derived.Test.YtndhhgpmpnmljaaGreatDoorProg
import Derived.Test.YtndhhgpmpnmljaaGreatDoorMem
import Derived.WalkKit
import Derived.WalkLawsBesides
namespace Go.Proofs.YtndhhgpmpnmljaaGreatDoor
open Go Go.RowKit
attribute [local go_sem] quietE

set_option maxHeartbeats 400000 in
theorem find1_any (p : PosV) (name : ByteArray) (b : Nat) (w : World) (hc : w.cell? ⟨b, 0, none⟩ = some (.string name)) (hb : b < w.heap.size) :
    Calls Tryz.prog 70 #[.agg #[.string p.name, .int .i64 p.kind], .pointer (some ⟨b, 0, none⟩)] w fun e w' => e = .returned (.bool (seq p.name name)) ∧ Grows w w' := by
  have hne : b ≠ w.heap.size := by omega
  go_enter Tryz.func70, Tryz.ntmps70
  go_wp2
  go_ret
  exact ⟨rfl, Grows.alloc _ _⟩

/-- the place, as slices.IndexFunc gives it -/
def idxI (o : Option Nat) : Int := match o with | some k => k | none => -1
set_option maxHeartbeats 1000000 in
theorem indexFunc_any (l : List PosV) (name : ByteArray) (a : Option Addr) (cap b : Nat) (w : World) (hl : l.length ≤ 4611686018427387904) (hs : AtCells w a 2 (l.map posCells)) (hc : w.cell? ⟨b, 0, none⟩ = some (.string name)) :
    Calls Tryz.prog 69 #[.slice a l.length cap, .func (.func 70) #[] #[.pointer (some ⟨b, 0, none⟩)]] w fun e w' => e = .returned (.int .i64 (idxI (posFind l name))) ∧ Grows w w' := by
  have HS := Lib.hid hs
  have HC := Lib.hid hc
  clear hs hc
  go_enter Tryz.func69, Tryz.ntmps69
  go_wp2
  go_loopw [8] (fun i wr => ∃ k : Nat, k ≤ l.length ∧ i = .int .i64 k ∧ Hid (∀ j q, j < k → l[j]? = some q → seq q.name name = false) ∧ Grows w wr) (fun i _ => l.length - (intOf i).toNat)
  case atStart => exact ⟨0, Nat.zero_le _, rfl, fun j q hj => by omega, Grows.refl _⟩
  case round =>
    obtain ⟨k, hk, rfl, hz, hg⟩ := hrel
    by_cases hlt : k < l.length
    · obtain ⟨p, hp⟩ : ∃ p, l[k]? = some p := ⟨_, List.getElem?_eq_getElem hlt⟩
      obtain ⟨bl, off, rfl, hcells⟩ := (HS.out.grows hg).get (ne_nil_of_lt hlt)
      have c0 : wr.cell? ⟨bl, off + k * 2, none⟩ = some (.string p.name) := hcells k p hp 0 _ rfl
      have c1 : wr.cell? ⟨bl, off + k * 2 + 1, none⟩ = some (.int .i64 p.kind) := hcells k p hp 1 _ rfl
      clear hcells
      have HP := Lib.hid hp
      clear hp
      have con := find1_any p name b wr (hg.cell HC.out) (World.block_lt_of_cell? wr _ (hg.cell HC.out))
      have HCON := Lib.hid con
      clear con
      cases hq : seq p.name name
      · rw [hq] at HCON
        have HQ := Lib.hid hq
        clear hq
        go_wp2_with (go_at_call 70; refine HCON.out.mono ?_; rintro e w' ⟨rfl, hg2⟩)
        go_roundw
        case rel => exact ⟨k + 1, by omega, by go_num, fun j q hj hq => by
          rcases Nat.lt_succ_iff_lt_or_eq.1 hj with h | rfl
          · exact hz.out j q h hq
          · rw [HP.out] at hq; obtain rfl := Option.some.inj hq; exact HQ.out, hg.tr hg2⟩
        case measure => simp [intOf]; omega
      · rw [hq] at HCON
        have hfin := Lib.hid (posFind_hit HP.out hz.out hq)
        clear hq
        go_wp2_with (go_at_call 70; refine HCON.out.mono ?_; rintro e w' ⟨rfl, hg2⟩)
        go_ret
        exact ⟨by rw [hfin.out]; rfl, hg.tr hg2⟩
    · obtain rfl : k = l.length := by omega
      have hfin := Lib.hid (posFind_none hz.out)
      go_wp2
      go_ret
      exact ⟨by rw [hfin.out]; rfl, hg⟩

/-- What pos.Find hands back. -/
def findI (o : Option Nat) : Int := match o with | some k => k | none => 0
set_option maxHeartbeats 1000000 in
theorem posFind_any (l : List PosV) (name : ByteArray) (a : Option Addr) (cap : Nat) (w : World) (hl : l.length ≤ 4611686018427387904) (hs : AtCells w a 2 (l.map posCells)) :
    Calls Tryz.prog 39 #[.slice a l.length cap, .string name] w fun e w' => e = .returned (.tuple #[.int .i64 (findI (posFind l name)), .bool (posFind l name).isSome]) ∧ Grows w w' := by
  have con := Lib.hid (indexFunc_any l name a cap w.heap.size (w.alloc (.cells #[.string name] 9)) hl (hs.grows (Grows.alloc _ _)) (cell_box _ _ _ _ _ _ rfl))
  clear hs
  cases hq : posFind l name with
  | none =>
    rw [hq] at con
    clear hq
    go_enter Tryz.func39, Tryz.ntmps39
    go_wp2_with (go_at_call 69; refine con.out.mono ?_; rintro e w' ⟨rfl, hg2⟩)
    go_ret2
    exact ⟨rfl, (Grows.alloc _ _).tr hg2⟩
  | some k =>
    rw [hq] at con
    clear hq
    go_enter Tryz.func39, Tryz.ntmps39
    go_wp2_with (go_at_call 69; refine con.out.mono ?_; rintro e w' ⟨rfl, hg2⟩)
    go_ret2
    exact ⟨rfl, (Grows.alloc _ _).tr hg2⟩
end Go.Proofs.YtndhhgpmpnmljaaGreatDoor
