/- The texts NumP, one behind the other. -/
import Derived.Lib.AtoiAll
import Derived.Lib.SlTrimSet
import Derived.Lib.Strings
namespace Go.Proofs.YtcdjponbhpchbaaGreatDoor
open Go

/-- A decimal digit. -/
def isDig (b : UInt8) : Bool := decide (48 ≤ b.toNat) && decide (b.toNat ≤ 57)
def digs : ByteArray := ⟨#[48, 49, 50, 51, 52, 53, 54, 55, 56, 57]⟩
def decGo : Nat → List UInt8 → Nat
  | acc, [] => acc
  | acc, c :: r => decGo (acc * 10 + (c.toNat - 48)) r
def decVal (l : List UInt8) : Nat := decGo 0 l

theorem digs_contains (b : UInt8) : digs.data.toList.contains b = isDig b := by
  rw [Bool.eq_iff_iff]
  simp only [digs, isDig, List.contains_cons, List.contains_nil, Bool.or_false, Bool.or_eq_true, beq_iff_eq, Bool.and_eq_true, decide_eq_true_eq]
  simp only [← UInt8.toNat_inj]
  simp
  omega
theorem dropWhile_nil {p : UInt8 → Bool} : ∀ {l : List UInt8}, l.dropWhile p = [] ↔ ∀ b ∈ l, p b = true
  | [] => by simp
  | c :: r => by
    rw [List.dropWhile_cons]
    cases h : p c
    · simp [h]
    · simp [h, dropWhile_nil (l := r)]
theorem trimS_nil (l : List UInt8) : Lib.trimS l digs.data.toList = [] ↔ l.all isDig = true := by
  have e : (fun x => digs.data.toList.contains x) = isDig := funext digs_contains
  unfold Lib.trimS Lib.trimLeftS Lib.trimRightS
  rw [e, List.all_eq_true]
  constructor
  · intro h
    by_cases h2 : (l.reverse.dropWhile isDig).reverse = []
    · have h3 : l.reverse.dropWhile isDig = [] := by simpa using h2
      rw [dropWhile_nil] at h3
      intro b hb; exact h3 b (by simpa using hb)
    · exfalso
      have h3 : l.reverse.dropWhile isDig ≠ [] := by simpa using h2
      obtain ⟨x, xs, hx⟩ := List.exists_cons_of_ne_nil h3
      have hnx : isDig x = false := by
        have := List.head?_dropWhile_not isDig l.reverse
        rw [hx] at this; simpa using this
      rw [hx, dropWhile_nil] at h
      have := h x (by simp)
      rw [this] at hnx; cases hnx
  · intro h
    have h3 : l.reverse.dropWhile isDig = [] := dropWhile_nil.2 fun b hb => h b (by simpa using hb)
    rw [h3]; rfl
theorem parse_dec : ∀ (l : List UInt8) (acc : Nat), l.all isDig = true → acc < 10 ^ (18 - l.length) → l.length ≤ 18 → Lib.parseUint10 acc l = .ok (decGo acc l)
  | [], acc, _, _, _ => rfl
  | c :: r, acc, h, ha, hl => by
    simp only [List.all_cons, Bool.and_eq_true] at h
    obtain ⟨hc, hr⟩ := h
    simp only [isDig, Bool.and_eq_true, decide_eq_true_eq] at hc
    simp only [List.length_cons] at ha hl
    have hpow : (10 : Nat) ^ (18 - r.length) = 10 ^ (18 - (r.length + 1)) * 10 := by
      rw [show 18 - r.length = (18 - (r.length + 1)) + 1 by omega, Nat.pow_succ]
    have hle : (10 : Nat) ^ (18 - (r.length + 1)) ≤ 10 ^ 17 := Nat.pow_le_pow_right (by decide) (by omega)
    have h17 : (10 : Nat) ^ 17 = 100000000000000000 := by decide
    have hacc : acc < 100000000000000000 := by rw [h17] at hle; exact Nat.lt_of_lt_of_le ha hle
    have hnext : acc * 10 + (c.toNat - 48) < 10 ^ (18 - r.length) := by
      rw [hpow]
      generalize (10 : Nat) ^ (18 - (r.length + 1)) = q at ha
      omega
    clear hle hpow ha
    have h1 : ¬ 1844674407370955162 ≤ acc := by omega
    have h2 : ¬ 18446744073709551616 ≤ acc * 10 + (c.toNat - 48) := by omega
    unfold Lib.parseUint10
    rw [if_pos hc, if_neg h1, if_neg h2]
    exact parse_dec r _ hr hnext (by omega)
theorem decGo_lt : ∀ (l : List UInt8) (acc k : Nat), l.all isDig = true → acc < 10 ^ k → decGo acc l < 10 ^ (k + l.length)
  | [], acc, k, _, h => by rw [List.length_nil, Nat.add_zero]; unfold decGo; exact h
  | c :: r, acc, k, h, ha => by
    simp only [List.all_cons, Bool.and_eq_true] at h
    obtain ⟨hc, hr⟩ := h
    simp only [isDig, Bool.and_eq_true, decide_eq_true_eq] at hc
    rw [List.length_cons, show k + (r.length + 1) = (k + 1) + r.length by omega]
    show decGo (acc * 10 + (c.toNat - 48)) r < _
    exact decGo_lt r _ (k + 1) hr (by rw [Nat.pow_succ]; omega)
theorem dec_bound (l : List UInt8) (h : l.all isDig = true) (hl : l.length ≤ 9) : decVal l < 1000000000 := by
  have h1 := decGo_lt l 0 0 h (Nat.one_pos)
  rw [Nat.zero_add] at h1
  generalize hq : (10 : Nat) ^ l.length = q at h1
  have h2 : q ≤ 10 ^ 9 := by rw [← hq]; exact Nat.pow_le_pow_right (by omega) hl
  have h9 : (10 : Nat) ^ 9 = 1000000000 := rfl
  rw [h9] at h2
  exact Nat.lt_of_lt_of_le h1 h2
theorem parseMag_dec (l : List UInt8) (hne : l ≠ []) (h : l.all isDig = true) (hl : l.length ≤ 9) : Lib.parseMag l = .ok (decVal l) := by
  unfold Lib.parseMag
  rw [if_neg hne]
  exact parse_dec l 0 h (Nat.pow_pos (by omega)) (by omega)
theorem atoi_dec (l : List UInt8) (hne : l ≠ []) (h : l.all isDig = true) (hl : l.length ≤ 9) : Lib.atoiAll l = .ok (decVal l) := by
  have hm := parseMag_dec l hne h hl
  have hlt := dec_bound l h hl
  generalize decVal l = v at hm hlt ⊢
  cases l with
  | nil => exact absurd rfl hne
  | cons c r =>
    have hc : 48 ≤ c.toNat ∧ c.toNat ≤ 57 := by
      simp only [List.all_cons, Bool.and_eq_true] at h
      simpa [isDig] using h.1
    have n43 : ¬ (c.toNat = 43 ∨ c.toNat = 45) := by omega
    have n45 : ¬ c.toNat = 45 := by omega
    have n1 : ¬ (¬ c.toNat = 45 ∧ 9223372036854775808 ≤ v) := by omega
    have n2 : ¬ (c.toNat = 45 ∧ 9223372036854775808 < v) := by omega
    unfold Lib.atoiAll
    simp only [if_neg n43, hm, if_neg n1, if_neg n2, if_neg n45]
theorem digs_ascii : ∀ (j : Nat) (b : UInt8), digs.data.toList[j]? = some b → b.toNat < 128 := by
  intro j b h
  have hm : b ∈ digs.data.toList := List.mem_of_getElem? h
  have : digs.data.toList.contains b = true := by simpa using hm
  rw [digs_contains] at this
  simp [isDig] at this; omega

/-- The number that a word is, by entry.number's rules. -/
def numOK (l : List UInt8) : Bool := !l.isEmpty && decide (l.length ≤ 9) && !(l.head? == some 48 && !(l == [48])) && l.all isDig
end Go.Proofs.YtcdjponbhpchbaaGreatDoor
