/- The document's decoder (the texts Ref1, Ref1N, Runes, for bundles that hold none of them). -/
import Derived.Test.YtaogeadljgjpcaaGreatDoorRq1
import Derived.Test.YtaogeadljgjpcaaGreatDoorProg
import Derived.Test.YtaogeadljgjpcaaGreatDoorRq5
import Derived.Test.YtaogeadljgjpcaaGreatDoorRq2
namespace Go.Proofs.YtaogeadljgjpcaaGreatDoor
open Go Go.RowKit
attribute [local go_sem] aQ

set_option maxHeartbeats 1000000 in
theorem length_any (b : Nat) (hb : b < 256) (w : World) :
    Calls Tryz.prog 165 #[.int .u8 b] w fun e w' => e = .returned (.tuple #[.int .i64 ((mY1 b).1 : Nat), .int .i32 ((mY1 b).2 : Nat)]) ∧ w = w' := by
  have h : (b < 128 ∧ mY1 b = (1, b)) ∨ (192 ≤ b ∧ b < 224 ∧ mY1 b = (2, b - 192)) ∨ (224 ≤ b ∧ b < 240 ∧ mY1 b = (3, b - 224)) ∨ (240 ≤ b ∧ b < 248 ∧ mY1 b = (4, b - 240)) ∨ (128 ≤ b ∧ b < 192 ∧ mY1 b = (0, 0)) ∨ (248 ≤ b ∧ mY1 b = (0, 0)) := by
    unfold mY1
    repeat' split
    all_goals simp only [and_true]
    all_goals omega
  rcases h with ⟨h1, h⟩ | ⟨h1, h2, h⟩ | ⟨h1, h2, h⟩ | ⟨h1, h2, h⟩ | ⟨h1, h2, h⟩ | ⟨h1, h⟩ <;> rw [h] <;> clear h
  · have g1 : (b : Int) < 128 := by omega
    go_enter Tryz.func165, Tryz.ntmps165
    go_wp2
    go_ret2
    exact ⟨rfl, rfl⟩
  · have g1 : ¬ (b : Int) < 128 := by omega
    have g2 : (192 : Int) ≤ b := by omega
    have g3 : (b : Int) < 224 := by omega
    have g4 : ((b - 192 : Nat) : Int) = (b : Int) - 192 := by omega
    rw [g4]
    go_enter Tryz.func165, Tryz.ntmps165
    go_wp2
    go_ret2
    exact ⟨rfl, rfl⟩
  · have g1 : ¬ (b : Int) < 128 := by omega
    have g2 : (192 : Int) ≤ b := by omega
    have g3 : ¬ (b : Int) < 224 := by omega
    have g5 : (224 : Int) ≤ b := by omega
    have g6 : (b : Int) < 240 := by omega
    have g4 : ((b - 224 : Nat) : Int) = (b : Int) - 224 := by omega
    rw [g4]
    go_enter Tryz.func165, Tryz.ntmps165
    go_wp2
    go_ret2
    exact ⟨rfl, rfl⟩
  · have g1 : ¬ (b : Int) < 128 := by omega
    have g2 : (192 : Int) ≤ b := by omega
    have g3 : ¬ (b : Int) < 224 := by omega
    have g5 : (224 : Int) ≤ b := by omega
    have g6 : ¬ (b : Int) < 240 := by omega
    have g7 : (240 : Int) ≤ b := by omega
    have g8 : (b : Int) < 248 := by omega
    have g4 : ((b - 240 : Nat) : Int) = (b : Int) - 240 := by omega
    rw [g4]
    go_enter Tryz.func165, Tryz.ntmps165
    go_wp2
    go_ret2
    exact ⟨rfl, rfl⟩
  · have g1 : ¬ (b : Int) < 128 := by omega
    have g2 : ¬ (192 : Int) ≤ b := by omega
    have g5 : ¬ (224 : Int) ≤ b := by omega
    have g7 : ¬ (240 : Int) ≤ b := by omega
    go_enter Tryz.func165, Tryz.ntmps165
    go_wp2
    go_ret2
    exact ⟨rfl, rfl⟩
  · have g1 : ¬ (b : Int) < 128 := by omega
    have g2 : (192 : Int) ≤ b := by omega
    have g3 : ¬ (b : Int) < 224 := by omega
    have g5 : (224 : Int) ≤ b := by omega
    have g6 : ¬ (b : Int) < 240 := by omega
    have g7 : (240 : Int) ≤ b := by omega
    have g8 : ¬ (b : Int) < 248 := by omega
    go_enter Tryz.func165, Tryz.ntmps165
    go_wp2
    go_ret2
    exact ⟨rfl, rfl⟩

set_option maxHeartbeats 1000000 in
theorem character_any (c : Int) (w : World) :
    Calls Tryz.prog 95 #[.int .i32 c] w fun e w' => e = .returned (.bool (kA0 c)) ∧ w = w' := by
  go_enter Tryz.func95, Tryz.ntmps95
  go_wp2
  all_goals go_ret
  · exact ⟨by unfold kA0; simp [*], rfl⟩
  · exact ⟨by unfold kA0; simp [*], rfl⟩
  · have h : ¬ c ≤ 1114111 := by omega
    exact ⟨by unfold kA0; simp [h], rfl⟩
  · have h : ¬ 0 ≤ c := by omega
    exact ⟨by unfold kA0; simp [h], rfl⟩
end Go.Proofs.YtaogeadljgjpcaaGreatDoor
namespace Go.Proofs.YtaogeadljgjpcaaGreatDoor
open Go Go.RowKit
attribute [local go_sem] aQ

def nextS (s : ByteArray) (i : Nat) : Nat × Nat := tH0 (s.data.toList.drop i)

theorem lenS_cases (b : Nat) (hb : b < 256) : (mY1 b).1 ≤ 4 ∧ (mY1 b).2 < 128 ∧ ((mY1 b).1 = 2 → (mY1 b).2 < 32) ∧ ((mY1 b).1 = 3 → (mY1 b).2 < 16) ∧ ((mY1 b).1 = 4 → (mY1 b).2 < 8) := by
  unfold mY1
  repeat' split
  all_goals simp only
  all_goals omega

/-- The bytes of the code from its k-th on. -/
def restS (s : ByteArray) (i n k : Nat) : List UInt8 := (s.data.toList.drop (i + k)).take (n - k)
theorem restS_cons {s : ByteArray} {i n k : Nat} (hk : k < n) (h : i + k < s.size) : restS s i n k = s[i + k] :: restS s i n (k + 1) := by
  unfold restS
  have h2 : i + k < s.data.toList.length := by simpa using h
  rw [List.drop_eq_getElem_cons h2, show n - k = (n - (k + 1)) + 1 by omega, List.take_succ_cons, show i + k + 1 = i + (k + 1) by omega]
  rfl
theorem restS_end {s : ByteArray} {i n k : Nat} (hk : n ≤ k) : restS s i n k = [] := by
  unfold restS
  rw [show n - k = 0 by omega]; rfl
theorem nextS_eq {s : ByteArray} {i n c : Nat} (hi : i < s.size) (hn : mY1 s[i].toNat = (n, c)) : nextS s i = if n = 0 ∨ s.size - i < n then (0, 0) else
    match xH (restS s i n 1) c with
    | none => (0, 0)
    | some c => if c < iR0 n ∨ kA0 c = false then (0, 0) else (c, n) := by
  unfold nextS tH0 restS
  have h2 : i < s.data.toList.length := by simpa using hi
  have h3 : s.data.toList.drop i = s[i] :: s.data.toList.drop (i + 1) := by rw [List.drop_eq_getElem_cons h2]; rfl
  rw [h3]
  simp only [hn]
  have h4 : (s.data.toList.drop (i + 1)).length + 1 = s.size - i := by
    rw [List.length_drop]; have : s.data.toList.length = s.size := rfl
    omega
  rw [h4] <;> rfl

set_option maxHeartbeats 2000000 in
set_option maxRecDepth 100000 in
theorem next_any (s : ByteArray) (i : Nat) (w : World) (hs : s.size < 4611686018427387904) (hi : i < s.size) :
    Calls Tryz.prog 94 #[.string s, .int .i64 i] w fun e w' => e = .returned (.tuple #[.int .i32 ((nextS s i).1 : Nat), .int .i64 ((nextS s i).2 : Nat)]) ∧ aB w w' := by
  obtain ⟨n, c, hn⟩ : ∃ n c, mY1 s[i].toNat = (n, c) := ⟨_, _, rfl⟩
  have hc := lenS_cases s[i].toNat (by have := s[i].toNat_lt; omega)
  have HL := fun W => Lib.hid (length_any s[i].toNat (by have := s[i].toNat_lt; omega) W)
  have hq := nextS_eq hi hn
  rw [hn] at HL hc
  simp only at HL hc
  generalize nextS s i = R at hq ⊢
  by_cases h0 : n = 0
  · have hq2 : R = (0, 0) := by rw [hq, if_pos (Or.inl h0)]
    subst hq2 h0
    clear hq hn hc
    go_enter Tryz.func94, Tryz.ntmps94
    go_wp2_with (first | (go_at_call 165; refine (HL _).out.mono ?_; rintro e w1 ⟨rfl, rfl⟩))
    all_goals (go_ret2; exact ⟨rfl, aB.refl _⟩)
  · by_cases h1 : s.size - i < n
    · have hq2 : R = (0, 0) := by rw [hq, if_pos (Or.inr h1)]
      subst hq2
      have g0 : ¬ (n : Int) = 0 := by omega
      have g1 : (s.size : Int) - i < n := by omega
      clear hq hn hc
      go_enter Tryz.func94, Tryz.ntmps94
      go_wp2_with (first | (go_at_call 165; refine (HL _).out.mono ?_; rintro e w1 ⟨rfl, rfl⟩))
      all_goals (go_ret2; exact ⟨rfl, aB.refl _⟩)
    · have g0 : ((n : Int) == 0) = false := by simpa using h0
      have g1 : ¬ (s.size : Int) - i < n := by omega
      have hn1 : i + n ≤ s.size := by omega
      rw [if_neg (by omega)] at hq
      have HQ := Lib.hid hq
      have HC := Lib.hid hc
      clear hq hn hc h1
      go_enter Tryz.func94, Tryz.ntmps94
      go_wp2_with (first | (go_at_call 165; refine (HL _).out.mono ?_; rintro e w1 ⟨rfl, rfl⟩))
      go_loop [7, 8] (fun x y => ∃ k c' : Nat, 1 ≤ k ∧ k ≤ n ∧ x = .int .i32 c' ∧ y = .int .i64 k ∧ Hid (xH (restS s i n 1) c = xH (restS s i n k) c') ∧ Hid ((c' + 1) * 64 ^ (n - k) ≤ 2097152)) (fun _ y => n - (intOf y).toNat)
      case atStart =>
        refine ⟨1, c, Nat.le_refl _, by omega, rfl, rfl, rfl, ?_⟩
        obtain ⟨q1, q2, q3, q4, q5⟩ := HC.out
        show _ ≤ _
        rcases (by omega : n = 1 ∨ n = 2 ∨ n = 3 ∨ n = 4) with rfl | rfl | rfl | rfl <;> simp <;> omega
      case round =>
        obtain ⟨k, c', k1, k2, rfl, rfl, hco, hbd⟩ := hrel
        by_cases hlt : k < n
        · have hpow : 64 ^ (n - k) = 64 * 64 ^ (n - (k + 1)) := by rw [show n - k = (n - (k + 1)) + 1 by omega, Nat.pow_succ]; omega
          have hpos : 1 ≤ 64 ^ (n - (k + 1)) := Nat.pow_pos (by omega)
          have hb1 : (c' + 1) * 64 * 64 ^ (n - (k + 1)) ≤ 2097152 := by have := hbd.out; rw [hpow, ← Nat.mul_assoc] at this; exact this
          have hb2 : (c' + 1) * 64 ≤ 2097152 := Nat.le_trans (Nat.le_mul_of_pos_right _ hpos) hb1
          have hik : i + k < s.size := by omega
          have hlt2 := s[i + k].toNat_lt
          have hcons := hco.out
          rw [restS_cons hlt hik] at hcons
          have HB1 := Lib.hid hb1
          clear hpow hpos hb1 hbd hco
          by_cases hbad : s[i + k].toNat < 128 ∨ 191 < s[i + k].toNat
          · have hR : R = (0, 0) := by
              rw [HQ.out, hcons]; unfold xH; rw [if_pos hbad]
            subst hR
            clear hcons HQ
            rcases hbad with h | h
            · have e1 : (s[i + k].toNat : Int) < 128 := by omega
              go_wp2
              go_ret2
              exact ⟨rfl, aB.refl _⟩
            · have e1 : ¬ (s[i + k].toNat : Int) < 128 := by omega
              have e2 : (191 : Int) < s[i + k].toNat := by omega
              go_wp2
              go_ret2
              exact ⟨rfl, aB.refl _⟩
          · have e1 : ¬ (s[i + k].toNat : Int) < 128 := by omega
            have e2 : ¬ (191 : Int) < s[i + k].toNat := by omega
            go_wp2
            refine ⟨⟨k + 1, 64 * c' + s[i + k].toNat - 128, by omega, hlt, ?_, ?_, ?_, ?_⟩, ?_⟩
            · rw [show ((64 * c' + s[i + k].toNat - 128 : Nat) : Int) = 64 * (c' : Int) + s[i + k].toNat - 128 by omega]
            · go_num
            · show _ = _
              rw [hcons]
              exact if_neg hbad
            · refine Nat.le_trans (Nat.mul_le_mul_right _ ?_) HB1.out
              omega
            · simp [intOf]; omega
        · obtain rfl : k = n := by omega
          have hcons := hco.out
          rw [restS_end (Nat.le_refl _)] at hcons
          have hR : R = if c' < iR0 k ∨ kA0 c' = false then (0, 0) else (c', k) := by rw [HQ.out, hcons]; rfl
          have HR := Lib.hid hR
          have hCh := fun W => Lib.hid (character_any c' W)
          generalize kA0 c' = ch at hCh HR
          clear hcons hR HQ hbd hco hlt HL
          obtain ⟨q1, _⟩ := HC.out
          clear HC
          rcases (by omega : k = 1 ∨ k = 2 ∨ k = 3 ∨ k = 4) with rfl | rfl | rfl | rfl
          · have hlo : ¬ (c' : Int) < 0 := by omega
            cases ch
            · have hR : R = (0, 0) := by rw [HR.out]; simp
              subst hR
              clear HR
              go_wp2_with (first | (go_at_call 95; refine (hCh _).out.mono ?_; rintro e w1 ⟨rfl, rfl⟩))
              go_ret2
              exact ⟨rfl, aB.alloc _ _⟩
            · have hR : R = (c', 1) := by rw [HR.out]; simp [iR0]
              subst hR
              clear HR
              go_wp2_with (first | (go_at_call 95; refine (hCh _).out.mono ?_; rintro e w1 ⟨rfl, rfl⟩))
              go_ret2
              exact ⟨rfl, aB.alloc _ _⟩
          · by_cases hl : c' < 128
            · have hlo : (c' : Int) < 128 := by omega
              have hR : R = (0, 0) := by rw [HR.out]; simp [iR0, hl]
              subst hR
              clear HR hl
              go_wp2_with (first | (go_at_call 95; refine (hCh _).out.mono ?_; rintro e w1 ⟨rfl, rfl⟩))
              go_ret2
              exact ⟨rfl, aB.alloc _ _⟩
            · have hlo : ¬ (c' : Int) < 128 := by omega
              cases ch
              · have hR : R = (0, 0) := by rw [HR.out]; simp
                subst hR
                clear HR hl
                go_wp2_with (first | (go_at_call 95; refine (hCh _).out.mono ?_; rintro e w1 ⟨rfl, rfl⟩))
                go_ret2
                exact ⟨rfl, aB.alloc _ _⟩
              · have hR : R = (c', 2) := by rw [HR.out]; simp [iR0, hl]
                subst hR
                clear HR hl
                go_wp2_with (first | (go_at_call 95; refine (hCh _).out.mono ?_; rintro e w1 ⟨rfl, rfl⟩))
                go_ret2
                exact ⟨rfl, aB.alloc _ _⟩
          · by_cases hl : c' < 2048
            · have hlo : (c' : Int) < 2048 := by omega
              have hR : R = (0, 0) := by rw [HR.out]; simp [iR0, hl]
              subst hR
              clear HR hl
              go_wp2_with (first | (go_at_call 95; refine (hCh _).out.mono ?_; rintro e w1 ⟨rfl, rfl⟩))
              go_ret2
              exact ⟨rfl, aB.alloc _ _⟩
            · have hlo : ¬ (c' : Int) < 2048 := by omega
              cases ch
              · have hR : R = (0, 0) := by rw [HR.out]; simp
                subst hR
                clear HR hl
                go_wp2_with (first | (go_at_call 95; refine (hCh _).out.mono ?_; rintro e w1 ⟨rfl, rfl⟩))
                go_ret2
                exact ⟨rfl, aB.alloc _ _⟩
              · have hR : R = (c', 3) := by rw [HR.out]; simp [iR0, hl]
                subst hR
                clear HR hl
                go_wp2_with (first | (go_at_call 95; refine (hCh _).out.mono ?_; rintro e w1 ⟨rfl, rfl⟩))
                go_ret2
                exact ⟨rfl, aB.alloc _ _⟩
          · by_cases hl : c' < 65536
            · have hlo : (c' : Int) < 65536 := by omega
              have hR : R = (0, 0) := by rw [HR.out]; simp [iR0, hl]
              subst hR
              clear HR hl
              go_wp2_with (first | (go_at_call 95; refine (hCh _).out.mono ?_; rintro e w1 ⟨rfl, rfl⟩))
              go_ret2
              exact ⟨rfl, aB.alloc _ _⟩
            · have hlo : ¬ (c' : Int) < 65536 := by omega
              cases ch
              · have hR : R = (0, 0) := by rw [HR.out]; simp
                subst hR
                clear HR hl
                go_wp2_with (first | (go_at_call 95; refine (hCh _).out.mono ?_; rintro e w1 ⟨rfl, rfl⟩))
                go_ret2
                exact ⟨rfl, aB.alloc _ _⟩
              · have hR : R = (c', 4) := by rw [HR.out]; simp [iR0, hl]
                subst hR
                clear HR hl
                go_wp2_with (first | (go_at_call 95; refine (hCh _).out.mono ?_; rintro e w1 ⟨rfl, rfl⟩))
                go_ret2
                exact ⟨rfl, aB.alloc _ _⟩
end Go.Proofs.YtaogeadljgjpcaaGreatDoor
namespace Go.Proofs.YtaogeadljgjpcaaGreatDoor
open Go Go.RowKit
attribute [local go_sem] aQ

theorem next_cases {s : ByteArray} {k : Nat} (hk : k < s.size) :
    ((nextS s k).2 = 0 ∧ Lib.validD (s.data.toList.drop k) = false) ∨ (1 ≤ (nextS s k).2 ∧ k + (nextS s k).2 ≤ s.size ∧ Lib.validD (s.data.toList.drop k) = Lib.validD (s.data.toList.drop (k + (nextS s k).2)) ∧ bD (s.data.toList.drop k) = (nextS s k).1 :: bD (s.data.toList.drop (k + (nextS s k).2))) := by
  have hne : s.data.toList.drop k ≠ [] := fun e => gA.1 e hk
  have hd := vF _ hne
  unfold nextS
  rw [hd, Lib.validD_step _ hne, jB _ hne]
  by_cases hb : (Lib.decodeL (s.data.toList.drop k)).1 = 65533 ∧ (Lib.decodeL (s.data.toList.drop k)).2 = 1
  · rw [if_pos hb, if_pos hb]; exact Or.inl ⟨rfl, rfl⟩
  · rw [if_neg hb, if_neg hb, kT0]
    have hs := eS0 (s.data.toList.drop k).length ((s.data.toList.drop k).getD 0 0).toNat ((s.data.toList.drop k).getD 1 0).toNat ((s.data.toList.drop k).getD 2 0).toNat ((s.data.toList.drop k).getD 3 0).toNat (UInt8.toNat_lt _) (UInt8.toNat_lt _) (UInt8.toNat_lt _) (by rw [← Lib.decodeL_N]; exact hb)
    rw [← Lib.decodeL_N] at hs
    refine Or.inr ⟨Lib.decodeL_width _, ?_, rfl, rfl⟩
    have hl : (s.data.toList.drop k).length = s.size - k := by rw [List.length_drop, Lib.size_eq]
    rcases hs with ⟨_, h⟩ | ⟨_, h, _⟩
    · rw [h]; show k + 1 ≤ _; omega
    · rw [hl] at h; omega

def RunesPost (s : ByteArray) (w : World) (e : Ending) (w' : World) : Prop :=
  ∃ a cap, e = .returned (.tuple #[.slice a (if Lib.validD s.data.toList then bD s.data.toList else []).length cap, .bool (Lib.validD s.data.toList)]) ∧ aG w' a 1 ((if Lib.validD s.data.toList then bD s.data.toList else []).map nI) ∧ aB w w'

set_option maxHeartbeats 2000000 in
set_option maxRecDepth 100000 in
theorem runes_any (s : ByteArray) (w : World) (hs : s.size ≤ 35184372088832) :
    Calls Tryz.prog 53 #[.string s] w (RunesPost s w) := by
  go_enter Tryz.func53, Tryz.ntmps53
  go_wp2_with fail
  go_loopw [4, 5] (fun v i wr => ∃ (k : Nat) (rs : List Nat), k ≤ s.size ∧ i = .int .i64 k ∧ aV wr w.heap.size 21 1 nI v rs ∧ Hid (Lib.validD s.data.toList = Lib.validD (s.data.toList.drop k) ∧ bD s.data.toList = rs ++ bD (s.data.toList.drop k)) ∧ rs.length ≤ k ∧ aB w wr) (fun _ i _ => s.size - (intOf i).toNat)
  case atStart => exact ⟨0, [], Nat.zero_le _, rfl, aV.nil _ _ _ _ _, ⟨rfl, rfl⟩, Nat.le_refl _, aB.refl _⟩
  case round =>
    obtain ⟨k, rs, hk, rfl, hown, hinv, hrl, hg⟩ := hrel
    obtain ⟨a3, c3, rfl, hc1, hc2, hat⟩ := hown.at_ runeLay.len
    by_cases hlt : k < s.size
    · have HN := fun W => Lib.hid (next_any s k W (by omega) hlt)
      have hcs := next_cases hlt
      generalize nextS s k = R at *
      obtain ⟨c, n⟩ := R
      simp only at HN hcs
      rcases hcs with ⟨h0, hv⟩ | ⟨h1, h2, hv, hr⟩
      · subst h0
        have hbad : Lib.validD s.data.toList = false := hinv.out.1.trans hv
        have HB := Lib.hid hbad
        clear hbad hv hinv hat
        go_wp2_with (first | (go_at_call 94; refine (HN _).out.mono ?_; rintro e w1 ⟨rfl, hg1⟩))
        go_ret2
        unfold RunesPost
        rw [HB.out]
        exact ⟨none, 0, rfl, aG.nil _ _ _, hg.tr hg1⟩
      · have hinv2 : Lib.validD s.data.toList = Lib.validD (s.data.toList.drop (k + n)) ∧ bD s.data.toList = (rs ++ [c]) ++ bD (s.data.toList.drop (k + n)) := ⟨hinv.out.1.trans hv, by rw [hinv.out.2, hr]; simp⟩
        have HI := Lib.hid hinv2
        have hnb : ((n : Int) == 0) = false := by rw [beq_eq_false_iff_ne]; omega
        clear hinv hinv2 hv hr hat
        go_wp2_with (first | (go_at_call 94; refine (HN _).out.mono ?_; rintro e w1 ⟨rfl, hg1⟩) | (at_builtin; refine bJ1 runeLay rfl _ _ rfl w.heap.size _ _ c rfl (hown.grows hg1) (aB.refl _) w1.heap.size 1 rfl #[.int .i32 c] rfl rfl (by omega) (hg.tr hg1).size ?_; intro v' w5 hown' hg5))
        have hgw5 := hg5 w (hg.tr hg1) (Nat.le_refl _)
        go_wp2
        go_roundw
        case rel => exact ⟨k + n, rs ++ [c], h2, by go_num, hown', HI.out, by simp; omega, hgw5⟩
        case measure => simp [intOf]; omega
    · obtain rfl : k = s.size := by omega
      have hfin : Lib.validD s.data.toList = true ∧ bD s.data.toList = rs := by
        have := hinv.out
        rw [show s.data.toList.drop s.size = [] by rw [Lib.size_eq, List.drop_length]] at this
        exact ⟨this.1, by rw [this.2, dT0, List.append_nil]⟩
      have HF := Lib.hid hfin
      clear hfin hinv
      go_wp2
      go_ret2
      unfold RunesPost
      rw [HF.out.1, HF.out.2, if_pos rfl]
      exact ⟨_, _, rfl, hat, hg⟩
end Go.Proofs.YtaogeadljgjpcaaGreatDoor
