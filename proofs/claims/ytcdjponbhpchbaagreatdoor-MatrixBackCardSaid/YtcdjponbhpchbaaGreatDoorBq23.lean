/- The texts SplitV Split16, one behind the other. -/
import Derived.Test.YtcdjponbhpchbaaGreatDoorBq1
import Derived.Test.YtcdjponbhpchbaaGreatDoorBq21
import Derived.Test.YtcdjponbhpchbaaGreatDoorProg
namespace Go.Proofs.YtcdjponbhpchbaaGreatDoor
open Go Go.RowKit
attribute [local go_sem] quietE

def strC (x : ByteArray) : List Value := [.string x]
theorem strLay : ElemLay Tryz.prog 54 9 1 16 strC where
  sl := Tryz.underlying54
  info := elem_info (z := .string ⟨#[]⟩) (by kernel_rfl) rfl
  pos := by decide
  by1 := by decide
  len _ := rfl
  one x u hu := by
    simp [strC] at hu
    subst hu; rfl
def StrsPost (xs : List ByteArray) (w : World) (e : Ending) (w' : World) : Prop := ∃ a cap, e = .returned (.slice a xs.length cap) ∧ AtCells w' a 1 (xs.map strC) ∧ Grows w w'
/-- The pieces so far, and what is left. -/
def SplitInv (c : UInt8) (s : ByteArray) (f k : Nat) (ps : List ByteArray) : Prop := (splitL c s.data.toList).map mkB = ps ++ (splitL c (s.data.toList.drop f)).map mkB ∧ c ∉ (s.extract f k).data.toList
theorem SplitInv.start (c : UInt8) (s : ByteArray) : SplitInv c s 0 0 [] := ⟨by simp, by rw [cut_empty]; simp⟩
theorem SplitInv.hit {c : UInt8} {s : ByteArray} {f k : Nat} {ps : List ByteArray} (h : SplitInv c s f k ps) (h1 : f ≤ k) (h2 : k < s.size) (hc : s[k] = c) : SplitInv c s (k + 1) (k + 1) (ps ++ [s.extract f k]) := by
  refine ⟨?_, by rw [cut_empty]; simp⟩
  rw [h.1, cut_eq h1 (Nat.le_of_lt h2), drop_step h2, hc, splitL_app _ h.2, List.map_cons, mkB_of]
  simp
theorem SplitInv.miss {c : UInt8} {s : ByteArray} {f k : Nat} {ps : List ByteArray} (h : SplitInv c s f k ps) (h1 : f ≤ k) (h2 : k < s.size) (hc : s[k] ≠ c) : SplitInv c s f (k + 1) ps := by
  refine ⟨h.1, ?_⟩
  rw [cut_snoc h1 h2]
  simp only [List.mem_append, List.mem_singleton, not_or]
  exact ⟨h.2, fun e => hc e.symm⟩
theorem SplitInv.fin {c : UInt8} {s : ByteArray} {f : Nat} {ps : List ByteArray} (h : SplitInv c s f s.size ps) (h1 : f ≤ s.size) : (splitL c s.data.toList).map mkB = ps ++ [s.extract f s.size] := by
  rw [h.1, ← cut_full h1, splitL_none h.2, List.map_singleton, mkB_of]

end Go.Proofs.YtcdjponbhpchbaaGreatDoor
namespace Go.Proofs.YtcdjponbhpchbaaGreatDoor
open Go Go.RowKit
attribute [local go_sem] quietE

set_option maxHeartbeats 2000000 in
set_option maxRecDepth 100000 in
theorem split16_any (c : UInt8) (s : ByteArray) (w : World) (hs : s.size ≤ 4294967290) :
    Calls Tryz.prog 27 #[.string s, .int .u8 c.toNat] w (StrsPost ((splitL c s.data.toList).map mkB) w) := by
  go_enter Tryz.func27, Tryz.ntmps27
  go_wp2_with fail
  go_loopw [5, 6, 7] (fun v f i wr => ∃ (j k : Nat) (ps : List ByteArray), k ≤ s.size + 1 ∧ f = .int .i64 j ∧ i = .int .i64 k ∧ Owns wr w.heap.size 9 1 strC v ps ∧ ps.length ≤ k ∧ Hid ((k ≤ s.size ∧ j ≤ k ∧ SplitInv c s j k ps) ∨ (k = s.size + 1 ∧ (splitL c s.data.toList).map mkB = ps)) ∧ Grows w wr) (fun _ _ i _ => s.size + 1 - (intOf i).toNat)
  case atStart => exact ⟨0, 0, [], Nat.zero_le _, rfl, rfl, Owns.nil _ _ _ _ _, Nat.le_refl _, Or.inl ⟨Nat.zero_le _, Nat.le_refl _, SplitInv.start _ _⟩, Grows.refl _⟩
  case round =>
    obtain ⟨j, k, ps, hk, rfl, rfl, hown, hpl, hsi, hg⟩ := hrel
    by_cases hle : k ≤ s.size
    · obtain ⟨_, hjk, hsi0⟩ := hsi.out.resolve_right (fun h => by omega)
      have HSI := Lib.hid hsi0
      clear hsi hsi0
      obtain ⟨a3, c3, rfl, hc1, hc2, _⟩ := hown.at_ strLay.len
      by_cases hlt : k < s.size
      · by_cases hc : s[k] = c
        · have hsi2 := Lib.hid (HSI.out.hit hjk hlt hc)
          have hcb : ((s[k].toNat : Int) == (c.toNat : Int)) = true := by rw [hc]; simp
          have hne : ((k : Int) == (s.size : Int)) = false := by rw [beq_eq_false_iff_ne]; omega
          clear HSI hc
          go_wp2_with (at_builtin; refine app_one strLay rfl _ _ rfl w.heap.size _ _ (s.extract j k) rfl hown (Grows.refl _) wr.heap.size 1 rfl #[.string (s.extract j k)] rfl rfl (by omega) hg.size ?_; intro v' w5 hown' hg5)
          have hgw5 := hg5 w hg (Nat.le_refl _)
          go_wp2
          go_roundw
          case rel => exact ⟨k + 1, k + 1, _, by omega, by go_num, by go_num, hown', by simp; omega, Or.inl ⟨hlt, Nat.le_refl _, hsi2.out⟩, hgw5⟩
          case measure => simp [intOf]; omega
        · have hsi2 := Lib.hid (HSI.out.miss hjk hlt hc)
          have hcb : ((s[k].toNat : Int) == (c.toNat : Int)) = false := by
            rw [beq_eq_false_iff_ne]; intro e; apply hc; rw [← UInt8.toNat_inj]; omega
          have hne : ((k : Int) == (s.size : Int)) = false := by rw [beq_eq_false_iff_ne]; omega
          clear HSI hc
          go_wp2
          go_roundw
          case rel => exact ⟨j, k + 1, ps, by omega, rfl, by go_num, hown, by omega, Or.inl ⟨hlt, by omega, hsi2.out⟩, hg⟩
          case measure => simp [intOf]; omega
      · obtain rfl : k = s.size := by omega
        have hfin := Lib.hid (HSI.out.fin hjk)
        clear HSI
        go_wp2_with (at_builtin; refine app_one strLay rfl _ _ rfl w.heap.size _ _ (s.extract j s.size) rfl hown (Grows.refl _) wr.heap.size 1 rfl #[.string (s.extract j s.size)] rfl rfl (by omega) hg.size ?_; intro v' w5 hown' hg5)
        have hgw5 := hg5 w hg (Nat.le_refl _)
        go_wp2
        go_roundw
        case rel => exact ⟨s.size + 1, s.size + 1, _, Nat.le_refl _, (by first | rfl | go_num), (by first | rfl | go_num), hown', (by first | (simp; done) | (simp; omega)), Or.inr ⟨rfl, hfin.out⟩, hgw5⟩
        case measure => first | (simp [intOf]; done) | (simp [intOf]; omega)
    · obtain ⟨rfl, hall⟩ := hsi.out.resolve_left (fun h => by omega)
      have hall2 := Lib.hid hall
      clear hsi hall
      obtain ⟨a5, c5, rfl, hd1, hd2, hat⟩ := hown.at_ strLay.len
      go_wp2
      go_ret
      rw [hall2.out]
      exact ⟨_, _, rfl, hat, hg⟩
end Go.Proofs.YtcdjponbhpchbaaGreatDoor
