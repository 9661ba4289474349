import Derived.Test.YtfkebhkckcnlpaaGreatDoorRef1
namespace Go.Proofs.YtfkebhkckcnlpaaGreatDoor
open Go Go.RowKit
attribute [local go_sem] quietE

def nextS (s : ByteArray) (i : Nat) : Nat × Nat := nextL (s.data.toList.drop i)

theorem lenS_cases (b : Nat) (hb : b < 256) : (lenS b).1 ≤ 4 ∧ (lenS b).2 < 128 ∧ ((lenS b).1 = 2 → (lenS b).2 < 32) ∧ ((lenS b).1 = 3 → (lenS b).2 < 16) ∧ ((lenS b).1 = 4 → (lenS b).2 < 8) := by
  unfold lenS
  repeat' split
  all_goals simp only
  all_goals omega

/-- The bytes of the code from its k-th on. -/
def restS (s : ByteArray) (i n k : Nat) : List UInt8 := (s.data.toList.drop (i + k)).take (n - k)
theorem restS_cons {s : ByteArray} {i n k : Nat} (hk : k < n) (h : i + k < s.size) : restS s i n k = s[i + k] :: restS s i n (k + 1) := by
  unfold restS
  have h2 : i + k < s.data.toList.length := by simpa using h
  rw [List.drop_eq_getElem_cons h2, show n - k = (n - (k + 1)) + 1 by omega, List.take_succ_cons, show i + k + 1 = i + (k + 1) by omega]
  rfl
theorem restS_end {s : ByteArray} {i n k : Nat} (hk : n ≤ k) : restS s i n k = [] := by
  unfold restS
  rw [show n - k = 0 by omega]; rfl
theorem nextS_eq {s : ByteArray} {i n c : Nat} (hi : i < s.size) (hn : lenS s[i].toNat = (n, c)) : nextS s i = if n = 0 ∨ s.size - i < n then (0, 0) else
    match contS (restS s i n 1) c with
    | none => (0, 0)
    | some c => if c < leastS n ∨ charS c = false then (0, 0) else (c, n) := by
  unfold nextS nextL restS
  have h2 : i < s.data.toList.length := by simpa using hi
  have h3 : s.data.toList.drop i = s[i] :: s.data.toList.drop (i + 1) := by rw [List.drop_eq_getElem_cons h2]; rfl
  rw [h3]
  simp only [hn]
  have h4 : (s.data.toList.drop (i + 1)).length + 1 = s.size - i := by
    rw [List.length_drop]; have : s.data.toList.length = s.size := rfl
    omega
  rw [h4]
  rfl

set_option maxHeartbeats 2000000 in
set_option maxRecDepth 100000 in
theorem next_any (s : ByteArray) (i : Nat) (w : World) (hs : s.size < 4611686018427387904) (hi : i < s.size) :
    Calls Tryz.prog 96 #[.string s, .int .i64 i] w fun e w' => e = .returned (.tuple #[.int .i32 ((nextS s i).1 : Nat), .int .i64 ((nextS s i).2 : Nat)]) ∧ Grows w w' := by
  obtain ⟨n, c, hn⟩ : ∃ n c, lenS s[i].toNat = (n, c) := ⟨_, _, rfl⟩
  have hc := lenS_cases s[i].toNat (by have := s[i].toNat_lt; omega)
  have HL := fun W => Lib.hid (length_any s[i].toNat (by have := s[i].toNat_lt; omega) W)
  have hq := nextS_eq hi hn
  rw [hn] at HL hc
  simp only at HL hc
  generalize nextS s i = R at hq ⊢
  by_cases h0 : n = 0
  · have hq2 : R = (0, 0) := by rw [hq, if_pos (Or.inl h0)]
    subst hq2 h0
    clear hq hn hc
    go_enter Tryz.func96, Tryz.ntmps96
    go_wp2_with (first | (go_at_call 123; refine (HL _).out.mono ?_; rintro e w1 ⟨rfl, rfl⟩))
    all_goals (go_ret2; exact ⟨rfl, Grows.refl _⟩)
  · by_cases h1 : s.size - i < n
    · have hq2 : R = (0, 0) := by rw [hq, if_pos (Or.inr h1)]
      subst hq2
      have g0 : ¬ (n : Int) = 0 := by omega
      have g1 : (s.size : Int) - i < n := by omega
      clear hq hn hc
      go_enter Tryz.func96, Tryz.ntmps96
      go_wp2_with (first | (go_at_call 123; refine (HL _).out.mono ?_; rintro e w1 ⟨rfl, rfl⟩))
      all_goals (go_ret2; exact ⟨rfl, Grows.refl _⟩)
    · have g0 : ((n : Int) == 0) = false := by simpa using h0
      have g1 : ¬ (s.size : Int) - i < n := by omega
      have hn1 : i + n ≤ s.size := by omega
      rw [if_neg (by omega)] at hq
      have HQ := Lib.hid hq
      have HC := Lib.hid hc
      clear hq hn hc h1
      go_enter Tryz.func96, Tryz.ntmps96
      go_wp2_with (first | (go_at_call 123; refine (HL _).out.mono ?_; rintro e w1 ⟨rfl, rfl⟩))
      go_loop [7, 8] (fun x y => ∃ k c' : Nat, 1 ≤ k ∧ k ≤ n ∧ x = .int .i32 c' ∧ y = .int .i64 k ∧ Hid (contS (restS s i n 1) c = contS (restS s i n k) c') ∧ Hid ((c' + 1) * 64 ^ (n - k) ≤ 2097152)) (fun _ y => n - (intOf y).toNat)
      case atStart =>
        refine ⟨1, c, Nat.le_refl _, by omega, rfl, rfl, rfl, ?_⟩
        obtain ⟨q1, q2, q3, q4, q5⟩ := HC.out
        show _ ≤ _
        rcases (by omega : n = 1 ∨ n = 2 ∨ n = 3 ∨ n = 4) with rfl | rfl | rfl | rfl <;> simp <;> omega
      case round =>
        obtain ⟨k, c', k1, k2, rfl, rfl, hco, hbd⟩ := hrel
        by_cases hlt : k < n
        · have hpow : 64 ^ (n - k) = 64 * 64 ^ (n - (k + 1)) := by rw [show n - k = (n - (k + 1)) + 1 by omega, Nat.pow_succ]; omega
          have hpos : 1 ≤ 64 ^ (n - (k + 1)) := Nat.pow_pos (by omega)
          have hb1 : (c' + 1) * 64 * 64 ^ (n - (k + 1)) ≤ 2097152 := by have := hbd.out; rw [hpow, ← Nat.mul_assoc] at this; exact this
          have hb2 : (c' + 1) * 64 ≤ 2097152 := Nat.le_trans (Nat.le_mul_of_pos_right _ hpos) hb1
          have hik : i + k < s.size := by omega
          have hlt2 := s[i + k].toNat_lt
          have hcons := hco.out
          rw [restS_cons hlt hik] at hcons
          have HB1 := Lib.hid hb1
          clear hpow hpos hb1 hbd hco
          by_cases hbad : s[i + k].toNat < 128 ∨ 191 < s[i + k].toNat
          · have hR : R = (0, 0) := by
              rw [HQ.out, hcons]; unfold contS; rw [if_pos hbad]
            subst hR
            clear hcons HQ
            rcases hbad with h | h
            · have e1 : (s[i + k].toNat : Int) < 128 := by omega
              go_wp2
              go_ret2
              exact ⟨rfl, Grows.refl _⟩
            · have e1 : ¬ (s[i + k].toNat : Int) < 128 := by omega
              have e2 : (191 : Int) < s[i + k].toNat := by omega
              go_wp2
              go_ret2
              exact ⟨rfl, Grows.refl _⟩
          · have e1 : ¬ (s[i + k].toNat : Int) < 128 := by omega
            have e2 : ¬ (191 : Int) < s[i + k].toNat := by omega
            go_wp2
            refine ⟨⟨k + 1, 64 * c' + s[i + k].toNat - 128, by omega, hlt, ?_, ?_, ?_, ?_⟩, ?_⟩
            · rw [show ((64 * c' + s[i + k].toNat - 128 : Nat) : Int) = 64 * (c' : Int) + s[i + k].toNat - 128 by omega]
            · go_num
            · show _ = _
              rw [hcons]
              exact if_neg hbad
            · refine Nat.le_trans (Nat.mul_le_mul_right _ ?_) HB1.out
              omega
            · simp [intOf]; omega
        · obtain rfl : k = n := by omega
          have hcons := hco.out
          rw [restS_end (Nat.le_refl _)] at hcons
          have hR : R = if c' < leastS k ∨ charS c' = false then (0, 0) else (c', k) := by rw [HQ.out, hcons]; rfl
          have HR := Lib.hid hR
          have hCh := fun W => Lib.hid (character_any c' W)
          generalize charS c' = ch at hCh HR
          clear hcons hR HQ hbd hco hlt HL
          obtain ⟨q1, _⟩ := HC.out
          clear HC
          rcases (by omega : k = 1 ∨ k = 2 ∨ k = 3 ∨ k = 4) with rfl | rfl | rfl | rfl
          · have hlo : ¬ (c' : Int) < 0 := by omega
            cases ch
            · have hR : R = (0, 0) := by rw [HR.out]; simp
              subst hR
              clear HR
              go_wp2_with (first | (go_at_call 124; refine (hCh _).out.mono ?_; rintro e w1 ⟨rfl, rfl⟩))
              go_ret2
              exact ⟨rfl, Grows.alloc _ _⟩
            · have hR : R = (c', 1) := by rw [HR.out]; simp [leastS]
              subst hR
              clear HR
              go_wp2_with (first | (go_at_call 124; refine (hCh _).out.mono ?_; rintro e w1 ⟨rfl, rfl⟩))
              go_ret2
              exact ⟨rfl, Grows.alloc _ _⟩
          · by_cases hl : c' < 128
            · have hlo : (c' : Int) < 128 := by omega
              have hR : R = (0, 0) := by rw [HR.out]; simp [leastS, hl]
              subst hR
              clear HR hl
              go_wp2_with (first | (go_at_call 124; refine (hCh _).out.mono ?_; rintro e w1 ⟨rfl, rfl⟩))
              go_ret2
              exact ⟨rfl, Grows.alloc _ _⟩
            · have hlo : ¬ (c' : Int) < 128 := by omega
              cases ch
              · have hR : R = (0, 0) := by rw [HR.out]; simp
                subst hR
                clear HR hl
                go_wp2_with (first | (go_at_call 124; refine (hCh _).out.mono ?_; rintro e w1 ⟨rfl, rfl⟩))
                go_ret2
                exact ⟨rfl, Grows.alloc _ _⟩
              · have hR : R = (c', 2) := by rw [HR.out]; simp [leastS, hl]
                subst hR
                clear HR hl
                go_wp2_with (first | (go_at_call 124; refine (hCh _).out.mono ?_; rintro e w1 ⟨rfl, rfl⟩))
                go_ret2
                exact ⟨rfl, Grows.alloc _ _⟩
          · by_cases hl : c' < 2048
            · have hlo : (c' : Int) < 2048 := by omega
              have hR : R = (0, 0) := by rw [HR.out]; simp [leastS, hl]
              subst hR
              clear HR hl
              go_wp2_with (first | (go_at_call 124; refine (hCh _).out.mono ?_; rintro e w1 ⟨rfl, rfl⟩))
              go_ret2
              exact ⟨rfl, Grows.alloc _ _⟩
            · have hlo : ¬ (c' : Int) < 2048 := by omega
              cases ch
              · have hR : R = (0, 0) := by rw [HR.out]; simp
                subst hR
                clear HR hl
                go_wp2_with (first | (go_at_call 124; refine (hCh _).out.mono ?_; rintro e w1 ⟨rfl, rfl⟩))
                go_ret2
                exact ⟨rfl, Grows.alloc _ _⟩
              · have hR : R = (c', 3) := by rw [HR.out]; simp [leastS, hl]
                subst hR
                clear HR hl
                go_wp2_with (first | (go_at_call 124; refine (hCh _).out.mono ?_; rintro e w1 ⟨rfl, rfl⟩))
                go_ret2
                exact ⟨rfl, Grows.alloc _ _⟩
          · by_cases hl : c' < 65536
            · have hlo : (c' : Int) < 65536 := by omega
              have hR : R = (0, 0) := by rw [HR.out]; simp [leastS, hl]
              subst hR
              clear HR hl
              go_wp2_with (first | (go_at_call 124; refine (hCh _).out.mono ?_; rintro e w1 ⟨rfl, rfl⟩))
              go_ret2
              exact ⟨rfl, Grows.alloc _ _⟩
            · have hlo : ¬ (c' : Int) < 65536 := by omega
              cases ch
              · have hR : R = (0, 0) := by rw [HR.out]; simp
                subst hR
                clear HR hl
                go_wp2_with (first | (go_at_call 124; refine (hCh _).out.mono ?_; rintro e w1 ⟨rfl, rfl⟩))
                go_ret2
                exact ⟨rfl, Grows.alloc _ _⟩
              · have hR : R = (c', 4) := by rw [HR.out]; simp [leastS, hl]
                subst hR
                clear HR hl
                go_wp2_with (first | (go_at_call 124; refine (hCh _).out.mono ?_; rintro e w1 ⟨rfl, rfl⟩))
                go_ret2
                exact ⟨rfl, Grows.alloc _ _⟩
end Go.Proofs.YtfkebhkckcnlpaaGreatDoor
