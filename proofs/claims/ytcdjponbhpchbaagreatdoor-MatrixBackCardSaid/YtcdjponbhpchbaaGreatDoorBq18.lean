/- The texts DecP, one behind the other. -/
import Derived.Test.YtcdjponbhpchbaaGreatDoorBq17
import Derived.Lib.ItoaMem
namespace Go.Proofs.YtcdjponbhpchbaaGreatDoor
open Go

theorem decGo_snoc : ∀ (l : List UInt8) (c : UInt8) (acc : Nat), decGo acc (l ++ [c]) = decGo acc l * 10 + (c.toNat - 48)
  | [], c, acc => rfl
  | b :: l, c, acc => by
    show decGo (acc * 10 + (b.toNat - 48)) (l ++ [c]) = decGo (acc * 10 + (b.toNat - 48)) l * 10 + _
    exact decGo_snoc l c _
theorem decVal_snoc (l : List UInt8) (c : UInt8) : decVal (l ++ [c]) = decVal l * 10 + (c.toNat - 48) := decGo_snoc l c 0
theorem digit_toNat {u : Nat} (h : u < 10) : (UInt8.ofNat (48 + u)).toNat = 48 + u := by rw [UInt8.toNat_ofNat']; omega
theorem digit_isDig {u : Nat} (h : u < 10) : isDig (UInt8.ofNat (48 + u)) = true := by unfold isDig; rw [digit_toNat h]; simp; omega
theorem decDigits_big {u : Nat} (h : ¬ u < 10) : Lib.decDigits u = Lib.decDigits (u / 10) ++ [UInt8.ofNat (48 + u % 10)] := by rw [Lib.decDigits, dif_neg h]
theorem decDigits_ne (u : Nat) : Lib.decDigits u ≠ [] := by
  by_cases h : u < 10
  · rw [Lib.decDigits_one h]; simp
  · rw [decDigits_big h]; simp
theorem decDigits_dig : ∀ (k u : Nat), u ≤ k → (Lib.decDigits u).all isDig = true
  | 0, u, hu => by obtain rfl : u = 0 := by omega
                   rw [Lib.decDigits_one (by omega)]; decide
  | k + 1, u, hu => by
    by_cases h : u < 10
    · rw [Lib.decDigits_one h, List.all_cons, digit_isDig h]; rfl
    · rw [decDigits_big h, List.all_append, decDigits_dig k (u / 10) (by omega), List.all_cons, digit_isDig (by omega)]; rfl
theorem decVal_digits : ∀ (k u : Nat), u ≤ k → decVal (Lib.decDigits u) = u
  | 0, u, hu => by obtain rfl : u = 0 := by omega
                   rw [Lib.decDigits_one (by omega)]; decide
  | k + 1, u, hu => by
    by_cases h : u < 10
    · rw [Lib.decDigits_one h]
      show 0 * 10 + ((UInt8.ofNat (48 + u)).toNat - 48) = u
      rw [digit_toNat h]; omega
    · rw [decDigits_big h, decVal_snoc, decVal_digits k (u / 10) (by omega), digit_toNat (by omega)]; omega
theorem decDigits_lead : ∀ (k u : Nat), u ≤ k → 1 ≤ u → (Lib.decDigits u).head? ≠ some 48
  | 0, u, hu, h1 => by omega
  | k + 1, u, hu, h1 => by
    by_cases h : u < 10
    · rw [Lib.decDigits_one h]
      simp only [List.head?_cons, ne_eq, Option.some.injEq]
      intro e
      have := congrArg UInt8.toNat e
      rw [digit_toNat h] at this
      simp at this; omega
    · obtain ⟨b, r, hb⟩ := List.exists_cons_of_ne_nil (decDigits_ne (u / 10))
      have ih := decDigits_lead k (u / 10) (by omega) (by omega)
      rw [hb] at ih
      rw [decDigits_big h, hb]; exact ih
theorem decDigits_short : ∀ (k u : Nat), 1 ≤ k → u < 10 ^ k → (Lib.decDigits u).length ≤ k
  | 0, u, h, _ => by omega
  | k + 1, u, _, hu => by
    by_cases h : u < 10
    · rw [Lib.decDigits_one h]; simp
    · rw [decDigits_big h, List.length_append]
      have hk : 1 ≤ k := by
        rcases Nat.eq_zero_or_pos k with h0 | h0
        · subst h0; simp at hu; omega
        · exact h0
      have := decDigits_short k (u / 10) hk (by rw [Nat.pow_succ] at hu; omega)
      simp; omega
theorem numOK_iff {l : List UInt8} : numOK l = true ↔ l ≠ [] ∧ l.length ≤ 9 ∧ (l.head? = some 48 → l = [48]) ∧ l.all isDig = true := by
  unfold numOK
  simp only [Bool.and_eq_true, Bool.not_eq_true', List.isEmpty_eq_false_iff, decide_eq_true_eq, Bool.and_eq_false_iff, Bool.not_eq_false', beq_eq_false_iff_ne, beq_iff_eq, ne_eq]
  constructor
  · rintro ⟨⟨⟨h1, h2⟩, h3⟩, h4⟩
    exact ⟨h1, h2, fun h => h3.elim (fun e => absurd h e) id, h4⟩
  · rintro ⟨h1, h2, h3, h4⟩
    exact ⟨⟨⟨h1, h2⟩, (Decidable.em (l.head? = some 48)).elim (fun h => Or.inr (h3 h)) Or.inl⟩, h4⟩
theorem numOK_digits {u : Nat} (h : u < 1000000000) : numOK (Lib.decDigits u) = true := by
  rw [numOK_iff]
  refine ⟨decDigits_ne u, decDigits_short 9 u (by omega) (by simpa using h), fun h0 => ?_, decDigits_dig u u (Nat.le_refl _)⟩
  rcases Nat.eq_zero_or_pos u with h1 | h1
  · subst h1; rw [Lib.decDigits_one (by omega)]; rfl
  · exact absurd h0 (decDigits_lead u u (Nat.le_refl _) h1)
theorem decDigits_val : ∀ (n : Nat) (l : List UInt8), l.length ≤ n → l ≠ [] → (l.head? = some 48 → l = [48]) → l.all isDig = true → Lib.decDigits (decVal l) = l
  | 0, l, hl, hne, _, _ => absurd (List.eq_nil_of_length_eq_zero (by omega)) hne
  | n + 1, l, hl, hne, h0, hd => by
    obtain ⟨i, c, rfl⟩ : ∃ i c, l = i ++ [c] := ⟨l.dropLast, l.getLast hne, (List.dropLast_concat_getLast hne).symm⟩
    rw [List.all_append, Bool.and_eq_true] at hd
    obtain ⟨hdi, hdc⟩ := hd
    have hc : 48 ≤ c.toNat ∧ c.toNat ≤ 57 := by simpa [isDig] using hdc
    have hcc : UInt8.ofNat (48 + (c.toNat - 48)) = c := by
      rw [← UInt8.toNat_inj, digit_toNat (by omega)]; omega
    rw [decVal_snoc]
    cases i with
    | nil =>
      show Lib.decDigits (0 * 10 + (c.toNat - 48)) = [c]
      rw [Nat.zero_mul, Nat.zero_add, Lib.decDigits_one (by omega), hcc]
    | cons b i =>
      have hb : (b :: i).head? ≠ some 48 := fun h => by
        have := h0 (by simpa using h)
        simp at this
      have ih := decDigits_val n (b :: i) (by simp at hl ⊢; omega) (by simp) (fun h => absurd h hb) hdi
      have hv : 1 ≤ decVal (b :: i) := by
        rcases Nat.eq_zero_or_pos (decVal (b :: i)) with h | h
        · exfalso
          rw [h, Lib.decDigits_one (by omega)] at ih
          exact hb (by rw [← ih]; rfl)
        · exact h
      rw [decDigits_big (by omega), show (decVal (b :: i) * 10 + (c.toNat - 48)) / 10 = decVal (b :: i) by omega, show (decVal (b :: i) * 10 + (c.toNat - 48)) % 10 = c.toNat - 48 by omega, ih, hcc]
theorem digits_of_numOK {l : List UInt8} (h : numOK l = true) : Lib.decDigits (decVal l) = l := by
  rw [numOK_iff] at h
  exact decDigits_val _ l (Nat.le_refl _) h.1 h.2.2.1 h.2.2.2
theorem dig_range {l : List UInt8} (h : l.all isDig = true) {b : UInt8} (hb : b ∈ l) : 48 ≤ b.toNat ∧ b.toNat ≤ 57 := by
  have := List.all_eq_true.1 h b hb
  simpa [isDig] using this
end Go.Proofs.YtcdjponbhpchbaaGreatDoor
