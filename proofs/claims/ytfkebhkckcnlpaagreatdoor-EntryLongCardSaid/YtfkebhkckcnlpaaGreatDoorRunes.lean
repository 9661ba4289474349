import Derived.Test.YtfkebhkckcnlpaaGreatDoorRef1N
import Derived.Test.YtfkebhkckcnlpaaGreatDoorApp
namespace Go.Proofs.YtfkebhkckcnlpaaGreatDoor
open Go Go.RowKit
attribute [local go_sem] quietE

def runeC (c : Nat) : List Value := [.int .i32 c]
theorem runeLay : ElemLay Tryz.prog 108 21 1 4 runeC where
  sl := Tryz.underlying108
  info := elem_info (z := .int .i32 0) (by kernel_rfl) rfl
  pos := by decide
  by1 := by decide
  len _ := rfl
  one x u hu := by
    simp [runeC] at hu
    subst hu; rfl

theorem next_cases {s : ByteArray} {k : Nat} (hk : k < s.size) :
    ((nextS s k).2 = 0 ∧ Lib.validD (s.data.toList.drop k) = false) ∨ (1 ≤ (nextS s k).2 ∧ k + (nextS s k).2 ≤ s.size ∧ Lib.validD (s.data.toList.drop k) = Lib.validD (s.data.toList.drop (k + (nextS s k).2)) ∧ runesD (s.data.toList.drop k) = (nextS s k).1 :: runesD (s.data.toList.drop (k + (nextS s k).2))) := by
  have hne : s.data.toList.drop k ≠ [] := fun e => drop_nil_iff.1 e hk
  have hd := nextL_decode _ hne
  unfold nextS
  rw [hd, Lib.validD_step _ hne, runesD_step _ hne]
  by_cases hb : (Lib.decodeL (s.data.toList.drop k)).1 = 65533 ∧ (Lib.decodeL (s.data.toList.drop k)).2 = 1
  · rw [if_pos hb, if_pos hb]; exact Or.inl ⟨rfl, rfl⟩
  · rw [if_neg hb, if_neg hb, drop_more]
    have hs := decodeN_small (s.data.toList.drop k).length ((s.data.toList.drop k).getD 0 0).toNat ((s.data.toList.drop k).getD 1 0).toNat ((s.data.toList.drop k).getD 2 0).toNat ((s.data.toList.drop k).getD 3 0).toNat (UInt8.toNat_lt _) (UInt8.toNat_lt _) (UInt8.toNat_lt _) (by rw [← Lib.decodeL_N]; exact hb)
    rw [← Lib.decodeL_N] at hs
    refine Or.inr ⟨Lib.decodeL_width _, ?_, rfl, rfl⟩
    have hl : (s.data.toList.drop k).length = s.size - k := by rw [List.length_drop, Lib.size_eq]
    rcases hs with ⟨_, h⟩ | ⟨_, h, _⟩
    · rw [h]; show k + 1 ≤ _; omega
    · rw [hl] at h; omega

def RunesPost (s : ByteArray) (w : World) (e : Ending) (w' : World) : Prop :=
  ∃ a cap, e = .returned (.tuple #[.slice a (if Lib.validD s.data.toList then runesD s.data.toList else []).length cap, .bool (Lib.validD s.data.toList)]) ∧ AtCells w' a 1 ((if Lib.validD s.data.toList then runesD s.data.toList else []).map runeC) ∧ Grows w w'

set_option maxHeartbeats 2000000 in
set_option maxRecDepth 100000 in
theorem runes_any (s : ByteArray) (w : World) (hs : s.size ≤ 35184372088832) :
    Calls Tryz.prog 67 #[.string s] w (RunesPost s w) := by
  go_enter Tryz.func67, Tryz.ntmps67
  go_wp2_with fail
  go_loopw [4, 5] (fun v i wr => ∃ (k : Nat) (rs : List Nat), k ≤ s.size ∧ i = .int .i64 k ∧ Owns wr w.heap.size 21 1 runeC v rs ∧ Hid (Lib.validD s.data.toList = Lib.validD (s.data.toList.drop k) ∧ runesD s.data.toList = rs ++ runesD (s.data.toList.drop k)) ∧ rs.length ≤ k ∧ Grows w wr) (fun _ i _ => s.size - (intOf i).toNat)
  case atStart => exact ⟨0, [], Nat.zero_le _, rfl, Owns.nil _ _ _ _ _, ⟨rfl, rfl⟩, Nat.le_refl _, Grows.refl _⟩
  case round =>
    obtain ⟨k, rs, hk, rfl, hown, hinv, hrl, hg⟩ := hrel
    obtain ⟨a3, c3, rfl, hc1, hc2, hat⟩ := hown.at_ runeLay.len
    by_cases hlt : k < s.size
    · have HN := fun W => Lib.hid (next_any s k W (by omega) hlt)
      have hcs := next_cases hlt
      generalize nextS s k = R at *
      obtain ⟨c, n⟩ := R
      simp only at HN hcs
      rcases hcs with ⟨h0, hv⟩ | ⟨h1, h2, hv, hr⟩
      · subst h0
        have hbad : Lib.validD s.data.toList = false := hinv.out.1.trans hv
        have HB := Lib.hid hbad
        clear hbad hv hinv hat
        go_wp2_with (first | (go_at_call 96; refine (HN _).out.mono ?_; rintro e w1 ⟨rfl, hg1⟩))
        go_ret2
        unfold RunesPost
        rw [HB.out]
        exact ⟨none, 0, rfl, AtCells.nil _ _ _, hg.tr hg1⟩
      · have hinv2 : Lib.validD s.data.toList = Lib.validD (s.data.toList.drop (k + n)) ∧ runesD s.data.toList = (rs ++ [c]) ++ runesD (s.data.toList.drop (k + n)) := ⟨hinv.out.1.trans hv, by rw [hinv.out.2, hr]; simp⟩
        have HI := Lib.hid hinv2
        have hnb : ((n : Int) == 0) = false := by rw [beq_eq_false_iff_ne]; omega
        clear hinv hinv2 hv hr hat
        go_wp2_with (first | (go_at_call 96; refine (HN _).out.mono ?_; rintro e w1 ⟨rfl, hg1⟩) | (at_builtin; refine app_one runeLay rfl _ _ rfl w.heap.size _ _ c rfl (hown.grows hg1) (Grows.refl _) w1.heap.size 1 rfl #[.int .i32 c] rfl rfl (by omega) (hg.tr hg1).size ?_; intro v' w5 hown' hg5))
        have hgw5 := hg5 w (hg.tr hg1) (Nat.le_refl _)
        go_wp2
        go_roundw
        case rel => exact ⟨k + n, rs ++ [c], h2, by go_num, hown', HI.out, by simp; omega, hgw5⟩
        case measure => simp [intOf]; omega
    · obtain rfl : k = s.size := by omega
      have hfin : Lib.validD s.data.toList = true ∧ runesD s.data.toList = rs := by
        have := hinv.out
        rw [show s.data.toList.drop s.size = [] by rw [Lib.size_eq, List.drop_length]] at this
        exact ⟨this.1, by rw [this.2, runesD_nil, List.append_nil]⟩
      have HF := Lib.hid hfin
      clear hfin hinv
      go_wp2
      go_ret2
      unfold RunesPost
      rw [HF.out.1, HF.out.2, if_pos rfl]
      exact ⟨_, _, rfl, hat, hg⟩
end Go.Proofs.YtfkebhkckcnlpaaGreatDoor
