import Derived.Test.YtfkebhkckcnlpaaGreatDoorApp
import Derived.Test.YtfkebhkckcnlpaaGreatDoorSplitP
import Derived.Test.YtfkebhkckcnlpaaGreatDoorProg
namespace Go.Proofs.YtfkebhkckcnlpaaGreatDoor
open Go Go.RowKit
attribute [local go_sem] quietE

def strC (x : ByteArray) : List Value := [.string x]
theorem strLay : ElemLay Tryz.prog 50 9 1 16 strC where
  sl := Tryz.underlying50
  info := elem_info (z := .string ⟨#[]⟩) (by kernel_rfl) rfl
  pos := by decide
  by1 := by decide
  len _ := rfl
  one x u hu := by
    simp [strC] at hu
    subst hu; rfl
def StrsPost (xs : List ByteArray) (w : World) (e : Ending) (w' : World) : Prop := ∃ a cap, e = .returned (.slice a xs.length cap) ∧ AtCells w' a 1 (xs.map strC) ∧ Grows w w'
theorem drop_step {s : ByteArray} {k : Nat} (h : k < s.size) : s.data.toList.drop k = s[k] :: s.data.toList.drop (k + 1) := by
  have h2 : k < s.data.toList.length := by simpa using h
  rw [List.drop_eq_getElem_cons h2]; rfl
theorem cut_eq {s : ByteArray} {f k : Nat} (h1 : f ≤ k) (h2 : k ≤ s.size) : s.data.toList.drop f = (s.extract f k).data.toList ++ s.data.toList.drop k := by
  rw [Lib.extract_data]
  conv => lhs; rw [← List.take_append_drop (k - f) (s.data.toList.drop f)]
  rw [List.drop_drop, show f + (k - f) = k by omega]
theorem cut_snoc {s : ByteArray} {f k : Nat} (h1 : f ≤ k) (h2 : k < s.size) : (s.extract f (k + 1)).data.toList = (s.extract f k).data.toList ++ [s[k]] := by
  rw [Lib.extract_data, Lib.extract_data, show k + 1 - f = (k - f) + 1 by omega]
  have h3 : k - f < (s.data.toList.drop f).length := by rw [List.length_drop, ← Lib.size_eq]; omega
  rw [List.take_succ_eq_append_getElem h3]
  congr 2
  rw [List.getElem_drop]
  have : s.data.toList[f + (k - f)]'(by rw [← Lib.size_eq]; omega) = s.data.toList[k]'(by rw [← Lib.size_eq]; omega) := by congr 1; omega
  rw [this]; rfl
theorem cut_empty (s : ByteArray) (k : Nat) : (s.extract k k).data.toList = [] := by rw [Lib.extract_data]; simp
theorem cut_full {s : ByteArray} {f : Nat} (h : f ≤ s.size) : (s.extract f s.size).data.toList = s.data.toList.drop f := by
  have := cut_eq h (Nat.le_refl s.size)
  rw [this, Lib.size_eq s, List.drop_length, List.append_nil]
/-- The pieces so far, and what is left. -/
def SplitInv (c : UInt8) (s : ByteArray) (f k : Nat) (ps : List ByteArray) : Prop := (splitL c s.data.toList).map mkB = ps ++ (splitL c (s.data.toList.drop f)).map mkB ∧ c ∉ (s.extract f k).data.toList
theorem SplitInv.start (c : UInt8) (s : ByteArray) : SplitInv c s 0 0 [] := ⟨by simp, by rw [cut_empty]; simp⟩
theorem SplitInv.hit {c : UInt8} {s : ByteArray} {f k : Nat} {ps : List ByteArray} (h : SplitInv c s f k ps) (h1 : f ≤ k) (h2 : k < s.size) (hc : s[k] = c) : SplitInv c s (k + 1) (k + 1) (ps ++ [s.extract f k]) := by
  refine ⟨?_, by rw [cut_empty]; simp⟩
  rw [h.1, cut_eq h1 (Nat.le_of_lt h2), drop_step h2, hc, splitL_app _ h.2, List.map_cons, mkB_of]
  simp
theorem SplitInv.miss {c : UInt8} {s : ByteArray} {f k : Nat} {ps : List ByteArray} (h : SplitInv c s f k ps) (h1 : f ≤ k) (h2 : k < s.size) (hc : s[k] ≠ c) : SplitInv c s f (k + 1) ps := by
  refine ⟨h.1, ?_⟩
  rw [cut_snoc h1 h2]
  simp only [List.mem_append, List.mem_singleton, not_or]
  exact ⟨h.2, fun e => hc e.symm⟩
theorem SplitInv.fin {c : UInt8} {s : ByteArray} {f : Nat} {ps : List ByteArray} (h : SplitInv c s f s.size ps) (h1 : f ≤ s.size) : (splitL c s.data.toList).map mkB = ps ++ [s.extract f s.size] := by
  rw [h.1, ← cut_full h1, splitL_none h.2, List.map_singleton, mkB_of]

set_option maxHeartbeats 2000000 in
set_option maxRecDepth 100000 in
theorem lines_any (s : ByteArray) (w : World) (hs : s.size ≤ 4294967290) :
    Calls Tryz.prog 23 #[.string s] w (StrsPost ((splitL 10 s.data.toList).map mkB) w) := by
  go_enter Tryz.func23, Tryz.ntmps23
  go_wp2_with fail
  go_loopw [3, 4, 5] (fun v f i wr => ∃ (j k : Nat) (ps : List ByteArray), j ≤ k ∧ k ≤ s.size ∧ f = .int .i64 j ∧ i = .int .i64 k ∧ Owns wr w.heap.size 9 1 strC v ps ∧ Hid (SplitInv 10 s j k ps) ∧ ps.length ≤ j ∧ Grows w wr) (fun _ _ i _ => s.size - (intOf i).toNat)
  case atStart => exact ⟨0, 0, [], Nat.le_refl _, Nat.zero_le _, rfl, rfl, Owns.nil _ _ _ _ _, SplitInv.start _ _, Nat.le_refl _, Grows.refl _⟩
  case round =>
    obtain ⟨j, k, ps, hjk, hk, rfl, rfl, hown, hsi, hpl, hg⟩ := hrel
    obtain ⟨a3, c3, rfl, hc1, hc2, _⟩ := hown.at_ strLay.len
    by_cases hlt : k < s.size
    · by_cases hc : s[k] = 10
      · have hsi2 := Lib.hid (hsi.out.hit hjk hlt hc)
        have hcb : ((s[k].toNat : Int) == 10) = true := by rw [hc]; rfl
        clear hsi hc
        go_wp2_with (at_builtin; refine app_one strLay rfl _ _ rfl w.heap.size _ _ (s.extract j k) rfl hown (Grows.refl _) wr.heap.size 1 rfl #[.string (s.extract j k)] rfl rfl (by omega) hg.size ?_; intro v' w5 hown' hg5)
        have hgw5 := hg5 w hg (Nat.le_refl _)
        go_wp2
        go_roundw
        case rel => exact ⟨k + 1, k + 1, _, Nat.le_refl _, hlt, by go_num, by go_num, hown', hsi2.out, by simp; omega, hgw5⟩
        case measure => simp [intOf]; omega
      · have hsi2 := Lib.hid (hsi.out.miss hjk hlt hc)
        have hcb : ((s[k].toNat : Int) == 10) = false := by
          rw [beq_eq_false_iff_ne]; intro e; apply hc; rw [← UInt8.toNat_inj]; show s[k].toNat = 10; omega
        clear hsi hc
        go_wp2
        go_roundw
        case rel => exact ⟨j, k + 1, ps, by omega, hlt, rfl, by go_num, hown, hsi2.out, hpl, hg⟩
        case measure => simp [intOf]; omega
    · obtain rfl : k = s.size := by omega
      have hfin := Lib.hid (hsi.out.fin hjk)
      clear hsi
      go_wp2_with (at_builtin; refine app_one strLay rfl _ _ rfl w.heap.size _ _ (s.extract j s.size) rfl hown (Grows.refl _) wr.heap.size 1 rfl #[.string (s.extract j s.size)] rfl rfl (by omega) hg.size ?_; intro v' w5 hown' hg5)
      have hgw5 := hg5 w hg (Nat.le_refl _)
      rw [← hfin.out] at hown'
      obtain ⟨a5, c5, rfl, hd1, hd2, hat⟩ := hown'.at_ strLay.len
      go_wp2
      go_ret
      exact ⟨_, _, rfl, hat, hgw5⟩
end Go.Proofs.YtfkebhkckcnlpaaGreatDoor
