/- The texts UtfP, one behind the other. -/
import Derived.Lib.ValidLaws
import Derived.Lib.RuneCount
import Derived.Shelf.GgClosure.StringsIndexFunc
namespace Go.Proofs.YtcdjponbhpchbaaGreatDoor
open Go

/-- The characters of a text, by the decoder. -/
def runesGo : Nat → List UInt8 → List Nat
  | 0, _ => []
  | n + 1, l => if l = [] then [] else (Lib.decodeL l).1 :: runesGo n (l.drop (Lib.decodeL l).2)
def runesD (l : List UInt8) : List Nat := runesGo l.length l
theorem runesGo_nil : ∀ n, runesGo n [] = []
  | 0 => rfl
  | _ + 1 => by simp [runesGo]
theorem runesGo_fuel : ∀ (n m : Nat) (l : List UInt8), l.length ≤ n → l.length ≤ m → runesGo n l = runesGo m l
  | 0, m, l, hn, _ => by
    have : l = [] := List.eq_nil_of_length_eq_zero (by omega)
    subst this
    rw [runesGo_nil, runesGo_nil]
  | n + 1, 0, l, _, hm => by
    have : l = [] := List.eq_nil_of_length_eq_zero (by omega)
    subst this
    rw [runesGo_nil, runesGo_nil]
  | n + 1, m + 1, l, hn, hm => by
    unfold runesGo
    by_cases hne : l = []
    · simp [hne]
    · have hw := Lib.decodeL_width l
      have hl : 0 < l.length := List.length_pos_iff.2 hne
      rw [if_neg hne, if_neg hne, runesGo_fuel n m (l.drop (Lib.decodeL l).2) (by rw [List.length_drop]; omega) (by rw [List.length_drop]; omega)]
theorem runesD_nil : runesD [] = [] := rfl
theorem runesD_step (l : List UInt8) (hne : l ≠ []) : runesD l = (Lib.decodeL l).1 :: runesD (l.drop (Lib.decodeL l).2) := by
  have hl : 0 < l.length := List.length_pos_iff.2 hne
  have hw := Lib.decodeL_width l
  obtain ⟨n, hn⟩ : ∃ n, l.length = n + 1 := ⟨l.length - 1, by omega⟩
  unfold runesD
  rw [hn]
  show (if l = [] then [] else _) = _
  rw [if_neg hne, runesGo_fuel n (l.drop (Lib.decodeL l).2).length _ (by rw [List.length_drop]; omega) (Nat.le_refl _)]
theorem runesD_len (l : List UInt8) : (runesD l).length ≤ l.length := by
  have key : ∀ n l, (runesGo n l).length ≤ n := by
    intro n
    induction n with
    | zero => intro l; simp [runesGo]
    | succ n ih => intro l; unfold runesGo; split; simp; simp; exact ih _
  exact key _ _
theorem drop_nil_iff {s : ByteArray} {pos : Nat} : s.data.toList.drop pos = [] ↔ ¬ pos < s.size := by
  rw [List.drop_eq_nil_iff, Lib.size_eq]; omega
theorem drop_more {s : ByteArray} {pos k : Nat} : (s.data.toList.drop pos).drop k = s.data.toList.drop (pos + k) := by rw [List.drop_drop]
theorem runeCountFrom_D (s : ByteArray) : ∀ (f pos : Nat), s.size ≤ pos + f → Lib.runeCountFrom s f pos = (runesD (s.data.toList.drop pos)).length
  | 0, pos, h => by
    have h0 : s.data.toList.drop pos = [] := drop_nil_iff.2 (by omega)
    rw [h0]; rfl
  | f + 1, pos, h => by
    unfold Lib.runeCountFrom
    by_cases hp : pos < s.size
    · have hw := Lib.width_pos s pos
      rw [if_pos hp, runeCountFrom_D s f _ (by omega), runesD_step _ (fun e => drop_nil_iff.1 e hp), Lib.decodeL_drop, drop_more, List.length_cons]; omega
    · rw [if_neg hp, drop_nil_iff.2 hp]; rfl
theorem runeCount_D (s : ByteArray) : Lib.runeCount s = (runesD s.data.toList).length := by
  unfold Lib.runeCount; rw [runeCountFrom_D s _ _ (by omega)]; rfl
theorem idxFrom_D (p : Nat → Bool) (s : ByteArray) : ∀ (f pos : Nat), s.size ≤ pos + f → decide (0 ≤ Lib.idxFuncFrom p true s f pos) = (runesD (s.data.toList.drop pos)).any p
  | 0, pos, h => by
    have h0 : s.data.toList.drop pos = [] := drop_nil_iff.2 (by omega)
    rw [h0]; rfl
  | f + 1, pos, h => by
    unfold Lib.idxFuncFrom
    by_cases hp : pos < s.size
    · have hw := Lib.width_pos s pos
      rw [if_pos hp, runesD_step _ (fun e => drop_nil_iff.1 e hp), Lib.decodeL_drop, drop_more, List.any_cons, ← idxFrom_D p s f _ (by omega)]
      cases h1 : p (Utf8.decode s pos).1
      · simp
      · simp
    · rw [if_neg hp, drop_nil_iff.2 hp]; rfl
theorem idx_D (p : Nat → Bool) (s : ByteArray) : decide (0 ≤ Lib.idxFunc p true s) = (runesD s.data.toList).any p := by
  unfold Lib.idxFunc; rw [idxFrom_D p s _ _ (by omega)]; rfl

/-- How many bytes a code has that begins with b, and the bits that b gives. -/
def lenS (b : Nat) : Nat × Nat :=
  if b < 128 then (1, b) else if 192 ≤ b ∧ b < 224 then (2, b - 192) else if 224 ≤ b ∧ b < 240 then (3, b - 224) else if 240 ≤ b ∧ b < 248 then (4, b - 240) else (0, 0)
def charS (c : Int) : Bool := decide (0 ≤ c) && decide (c ≤ 1114111) && (decide (c < 55296) || decide (57343 < c))
/-- The further bytes of a code. -/
def contS : List UInt8 → Nat → Option Nat
  | [], c => some c
  | b :: r, c => if b.toNat < 128 ∨ 191 < b.toNat then none else contS r (64 * c + b.toNat - 128)
def leastS (n : Nat) : Nat := if n = 2 then 128 else if n = 3 then 2048 else if n = 4 then 65536 else 0
/-- The character whose code begins a list, and how many bytes it has. -/
def nextL (l : List UInt8) : Nat × Nat :=
  match l with
  | [] => (0, 0)
  | b :: r => if (lenS b.toNat).1 = 0 ∨ r.length + 1 < (lenS b.toNat).1 then (0, 0) else
    match contS (r.take ((lenS b.toNat).1 - 1)) (lenS b.toNat).2 with
    | none => (0, 0)
    | some c => if c < leastS (lenS b.toNat).1 ∨ charS c = false then (0, 0) else (c, (lenS b.toNat).1)

def nextN (n b0 b1 b2 b3 : Nat) : Nat × Nat :=
  if b0 < 128 then (b0, 1)
  else if 192 ≤ b0 ∧ b0 < 224 then (if n < 2 ∨ (b1 < 128 ∨ 191 < b1) ∨ 64 * (b0 - 192) + b1 - 128 < 128 then (0, 0) else (64 * (b0 - 192) + b1 - 128, 2))
  else if 224 ≤ b0 ∧ b0 < 240 then (if n < 3 ∨ (b1 < 128 ∨ 191 < b1) ∨ (b2 < 128 ∨ 191 < b2) ∨ 64 * (64 * (b0 - 224) + b1 - 128) + b2 - 128 < 2048 ∨ charS (64 * (64 * (b0 - 224) + b1 - 128) + b2 - 128 : Nat) = false then (0, 0) else (64 * (64 * (b0 - 224) + b1 - 128) + b2 - 128, 3))
  else if 240 ≤ b0 ∧ b0 < 248 then (if n < 4 ∨ (b1 < 128 ∨ 191 < b1) ∨ (b2 < 128 ∨ 191 < b2) ∨ (b3 < 128 ∨ 191 < b3) ∨ 64 * (64 * (64 * (b0 - 240) + b1 - 128) + b2 - 128) + b3 - 128 < 65536 ∨ charS (64 * (64 * (64 * (b0 - 240) + b1 - 128) + b2 - 128) + b3 - 128 : Nat) = false then (0, 0) else (64 * (64 * (64 * (b0 - 240) + b1 - 128) + b2 - 128) + b3 - 128, 4))
  else (0, 0)
theorem charS_iff (c : Nat) : charS c = false ↔ ¬ (c ≤ 1114111 ∧ (c < 55296 ∨ 57343 < c)) := by
  unfold charS
  rw [← Bool.not_eq_true]
  simp only [Bool.and_eq_true, Bool.or_eq_true, decide_eq_true_eq]
  omega
theorem ite_or {α : Type} {p q : Prop} [Decidable p] [Decidable q] {a b : α} : (if p ∨ q then a else b) = if p then a else if q then a else b := by
  by_cases h : p <;> by_cases k : q <;> simp [h, k]
theorem nextL_N (b : UInt8) (r : List UInt8) : nextL (b :: r) = nextN (r.length + 1) b.toNat (r.getD 0 0).toNat (r.getD 1 0).toNat (r.getD 2 0).toNat := by
  have hb := b.toNat_lt
  unfold nextL nextN lenS
  by_cases h1 : b.toNat < 128
  · have hc : charS (b.toNat : Nat) = true := by rw [← Bool.not_eq_false, charS_iff]; omega
    simp [h1, contS, leastS, hc]
  · by_cases h2 : 192 ≤ b.toNat ∧ b.toNat < 224
    · simp only [h1, h2, if_false, if_true, and_self, leastS]
      match r with
      | [] => simp
      | b1 :: r =>
        have hc : ∀ h : ¬ (b1.toNat < 128 ∨ 191 < b1.toNat), charS (64 * (b.toNat - 192) + b1.toNat - 128 : Nat) = true := fun h => by rw [← Bool.not_eq_false, charS_iff]; have := b1.toNat_lt; omega
        by_cases hb1 : b1.toNat < 128 ∨ 191 < b1.toNat
        · simp [contS, hb1]
        · simp [contS, hb1, hc hb1]
          exact ite_or.symm
    · by_cases h3 : 224 ≤ b.toNat ∧ b.toNat < 240
      · have h2' : ¬ (192 ≤ b.toNat ∧ b.toNat < 224) := h2
        simp only [h1, h2', h3, if_false, if_true, and_self, leastS]
        match r with
        | [] => simp
        | [b1] => simp
        | b1 :: b2 :: r =>
          by_cases hb1 : b1.toNat < 128 ∨ 191 < b1.toNat
          · simp [contS, hb1]
          · by_cases hb2 : b2.toNat < 128 ∨ 191 < b2.toNat
            · simp [contS, hb1, hb2]
            · simp [contS, hb1, hb2]
              exact ite_or.symm
      · by_cases h4 : 240 ≤ b.toNat ∧ b.toNat < 248
        · simp only [h1, h2, h3, h4, if_false, if_true, and_self, leastS]
          match r with
          | [] => simp
          | [b1] => simp
          | [b1, b2] => simp
          | b1 :: b2 :: b3 :: r =>
            by_cases hb1 : b1.toNat < 128 ∨ 191 < b1.toNat
            · simp [contS, hb1]
            · by_cases hb2 : b2.toNat < 128 ∨ 191 < b2.toNat
              · simp [contS, hb1, hb2]
              · by_cases hb3 : b3.toNat < 128 ∨ 191 < b3.toNat
                · simp [contS, hb1, hb2, hb3]
                · simp [contS, hb1, hb2, hb3]
                  exact ite_or.symm
        · simp [h1, h2, h3, h4]
set_option maxHeartbeats 4000000 in
theorem nextN_decode (n b0 b1 b2 b3 : Nat) (h0 : b0 < 256) (h1 : b1 < 256) (h2 : b2 < 256) (h3 : b3 < 256) :
    nextN n b0 b1 b2 b3 = if (Lib.decodeN n b0 b1 b2 b3).1 = 65533 ∧ (Lib.decodeN n b0 b1 b2 b3).2 = 1 then (0, 0) else Lib.decodeN n b0 b1 b2 b3 := by
  unfold nextN
  simp only [charS_iff]
  by_cases c1 : b0 < 128
  · have : Lib.decodeN n b0 b1 b2 b3 = (b0, 1) := Lib.decodeN_ascii n b0 b1 b2 b3 c1
    rw [this, if_pos c1, if_neg (by simp only; omega)]
  · rw [if_neg c1]
    by_cases c2 : 192 ≤ b0 ∧ b0 < 224
    · rw [if_pos c2]
      by_cases g1 : n < 2 ∨ (b1 < 128 ∨ 191 < b1)
      · have hD : Lib.decodeN n b0 b1 b2 b3 = (65533, 1) := by unfold Lib.decodeN; rw [if_neg c1, if_neg (by omega), if_neg (by omega), if_neg (by omega)]
        rw [hD, if_pos (by omega)]; rfl
      · have hv : 64 * (b0 - 192) + b1 - 128 = b0 % 32 * 64 + b1 % 64 := by omega
        rw [hv]
        by_cases g2 : b0 % 32 * 64 + b1 % 64 < 128
        · have hD : Lib.decodeN n b0 b1 b2 b3 = (65533, 1) := by unfold Lib.decodeN; rw [if_neg c1, if_pos (by omega), if_neg (by omega)]
          rw [hD, if_pos (Or.inr (Or.inr g2))]; rfl
        · have hD : Lib.decodeN n b0 b1 b2 b3 = (b0 % 32 * 64 + b1 % 64, 2) := by unfold Lib.decodeN; rw [if_neg c1, if_pos (by omega), if_pos (by omega)]
          rw [hD, if_neg (by omega)]; simp
    · rw [if_neg c2]
      by_cases c3 : 224 ≤ b0 ∧ b0 < 240
      · rw [if_pos c3]
        by_cases g1 : n < 3 ∨ (b1 < 128 ∨ 191 < b1) ∨ (b2 < 128 ∨ 191 < b2)
        · have hD : Lib.decodeN n b0 b1 b2 b3 = (65533, 1) := by unfold Lib.decodeN; rw [if_neg c1, if_neg (by omega), if_neg (by omega), if_neg (by omega)]
          rw [hD, if_pos (by omega)]; rfl
        · have hv : 64 * (64 * (b0 - 224) + b1 - 128) + b2 - 128 = b0 % 16 * 4096 + b1 % 64 * 64 + b2 % 64 := by omega
          have hD0 : Lib.decodeN n b0 b1 b2 b3 = if b0 % 16 * 4096 + b1 % 64 * 64 + b2 % 64 ≥ 2048 ∧ (b0 % 16 * 4096 + b1 % 64 * 64 + b2 % 64 < 55296 ∨ (57344 ≤ b0 % 16 * 4096 + b1 % 64 * 64 + b2 % 64 ∧ b0 % 16 * 4096 + b1 % 64 * 64 + b2 % 64 ≤ 1114111)) then (b0 % 16 * 4096 + b1 % 64 * 64 + b2 % 64, 3) else (65533, 1) := by
            unfold Lib.decodeN; rw [if_neg c1, if_neg (by omega), if_pos (by omega)]
          rw [hv]
          generalize b0 % 16 * 4096 + b1 % 64 * 64 + b2 % 64 = q at *
          by_cases g2 : q < 2048 ∨ ¬ (q ≤ 1114111 ∧ (q < 55296 ∨ 57343 < q))
          · rw [if_neg (by omega)] at hD0
            rw [hD0, if_pos (Or.inr (Or.inr (Or.inr g2)))]; rfl
          · rw [if_pos (by omega)] at hD0
            rw [hD0, if_neg (by omega)]; simp
      · rw [if_neg c3]
        by_cases c4 : 240 ≤ b0 ∧ b0 < 248
        · rw [if_pos c4]
          by_cases g1 : n < 4 ∨ (b1 < 128 ∨ 191 < b1) ∨ (b2 < 128 ∨ 191 < b2) ∨ (b3 < 128 ∨ 191 < b3)
          · have hD : Lib.decodeN n b0 b1 b2 b3 = (65533, 1) := by unfold Lib.decodeN; rw [if_neg c1, if_neg (by omega), if_neg (by omega), if_neg (by omega)]
            rw [hD, if_pos (by omega)]; rfl
          · have hv : 64 * (64 * (64 * (b0 - 240) + b1 - 128) + b2 - 128) + b3 - 128 = b0 % 8 * 262144 + b1 % 64 * 4096 + b2 % 64 * 64 + b3 % 64 := by omega
            have hD0 : Lib.decodeN n b0 b1 b2 b3 = if b0 % 8 * 262144 + b1 % 64 * 4096 + b2 % 64 * 64 + b3 % 64 ≥ 65536 ∧ (b0 % 8 * 262144 + b1 % 64 * 4096 + b2 % 64 * 64 + b3 % 64 < 55296 ∨ (57344 ≤ b0 % 8 * 262144 + b1 % 64 * 4096 + b2 % 64 * 64 + b3 % 64 ∧ b0 % 8 * 262144 + b1 % 64 * 4096 + b2 % 64 * 64 + b3 % 64 ≤ 1114111)) then (b0 % 8 * 262144 + b1 % 64 * 4096 + b2 % 64 * 64 + b3 % 64, 4) else (65533, 1) := by
              unfold Lib.decodeN; rw [if_neg c1, if_neg (by omega), if_neg (by omega), if_pos (by omega)]
            rw [hv]
            generalize b0 % 8 * 262144 + b1 % 64 * 4096 + b2 % 64 * 64 + b3 % 64 = q at *
            by_cases g2 : q < 65536 ∨ ¬ (q ≤ 1114111 ∧ (q < 55296 ∨ 57343 < q))
            · rw [if_neg (by omega)] at hD0
              rw [hD0, if_pos (Or.inr (Or.inr (Or.inr (Or.inr g2))))]; rfl
            · rw [if_pos (by omega)] at hD0
              rw [hD0, if_neg (by omega)]; simp
        · have hD : Lib.decodeN n b0 b1 b2 b3 = (65533, 1) := by unfold Lib.decodeN; rw [if_neg c1, if_neg (by omega), if_neg (by omega), if_neg (by omega)]
          rw [hD, if_neg c4]; rfl
/-- The reference's step is the decoder's. -/
theorem nextL_decode (l : List UInt8) (hne : l ≠ []) : nextL l = if (Lib.decodeL l).1 = 65533 ∧ (Lib.decodeL l).2 = 1 then (0, 0) else Lib.decodeL l := by
  cases l with
  | nil => exact absurd rfl hne
  | cons b r =>
    rw [nextL_N, Lib.decodeL_N, nextN_decode _ _ _ _ _ (UInt8.toNat_lt _) (UInt8.toNat_lt _) (UInt8.toNat_lt _) (UInt8.toNat_lt _)]
    simp
theorem nextL_lt (l : List UInt8) : (nextL l).1 ≤ 1114111 ∧ (nextL l).2 ≤ 4 := by
  cases l with
  | nil => simp [nextL]
  | cons b r =>
    rw [nextL_decode _ (by simp)]
    split
    · simp
    · refine ⟨Lib.decodeL_rune _, ?_⟩
      rw [Lib.decodeL_N]
      unfold Lib.decodeN
      repeat' split
      all_goals simp
/-- Small bytes of a valid text are characters. -/
theorem decodeN_small (n b0 b1 b2 b3 : Nat) (h1 : b1 < 256) (h2 : b2 < 256) (h3 : b3 < 256) (hv : ¬ ((Lib.decodeN n b0 b1 b2 b3).1 = 65533 ∧ (Lib.decodeN n b0 b1 b2 b3).2 = 1)) :
    (b0 < 128 ∧ (Lib.decodeN n b0 b1 b2 b3) = (b0, 1)) ∨ (128 ≤ b0 ∧ (Lib.decodeN n b0 b1 b2 b3).2 ≤ n ∧ (2 ≤ (Lib.decodeN n b0 b1 b2 b3).2 → 128 ≤ b1) ∧ (3 ≤ (Lib.decodeN n b0 b1 b2 b3).2 → 128 ≤ b2) ∧ (4 ≤ (Lib.decodeN n b0 b1 b2 b3).2 → 128 ≤ b3) ∧ (Lib.decodeN n b0 b1 b2 b3).2 ≤ 4 ∧ 128 ≤ (Lib.decodeN n b0 b1 b2 b3).1) := by
  unfold Lib.decodeN at *
  repeat' split
  all_goals first
    | (left; exact ⟨by assumption, rfl⟩)
    | (right; refine ⟨by omega, ?_, ?_, ?_, ?_, ?_, ?_⟩ <;> simp only <;> omega)
    | (exfalso; apply hv; simp [*]; done)
    | (exfalso; apply hv; (repeat' split) <;> first | exact ⟨rfl, rfl⟩ | (exfalso; omega))
theorem small_mem : ∀ (n : Nat) (l : List UInt8), l.length ≤ n → Lib.validD l = true → ∀ b, b ∈ l → b.toNat < 128 → b.toNat ∈ runesD l
  | 0, l, hl, _, b, hb, _ => by
    have : l = [] := List.eq_nil_of_length_eq_zero (by omega)
    subst this; cases hb
  | n + 1, l, hl, hv, b, hb, hlt => by
    have hne : l ≠ [] := by rintro rfl; cases hb
    rw [Lib.validD_step l hne] at hv
    rw [runesD_step l hne]
    have hw := Lib.decodeL_width l
    split at hv
    · cases hv
    · rename_i hbad
      have hlen : 0 < l.length := List.length_pos_iff.2 hne
      have ih := small_mem n (l.drop (Lib.decodeL l).2) (by rw [List.length_drop]; omega) hv b
      have hd := decodeN_small l.length (l.getD 0 0).toNat (l.getD 1 0).toNat (l.getD 2 0).toNat (l.getD 3 0).toNat (UInt8.toNat_lt _) (UInt8.toNat_lt _) (UInt8.toNat_lt _) (by rw [← Lib.decodeL_N]; exact hbad)
      rw [← Lib.decodeL_N] at hd
      by_cases hin : b ∈ l.drop (Lib.decodeL l).2
      · exact List.mem_cons_of_mem _ (ih hin hlt)
      · obtain ⟨i, hi, rfl⟩ := List.getElem_of_mem hb
        have hi2 : i < (Lib.decodeL l).2 := by
          rcases Nat.lt_or_ge i (Lib.decodeL l).2 with h | h
          · exact h
          · exfalso
            apply hin
            have : l[i] = (l.drop (Lib.decodeL l).2)[i - (Lib.decodeL l).2]'(by rw [List.length_drop]; omega) := by
              rw [List.getElem_drop]; congr 1; omega
            rw [this]; exact List.getElem_mem _
        have hgd : l.getD i 0 = l[i] := by simp [List.getD, hi]
        rcases hd with ⟨h1, h2⟩ | ⟨h1, _, h3, h4, h5, h6, _⟩
        · rw [h2] at hi2 ⊢
          simp only at hi2
          obtain rfl : i = 0 := by omega
          rw [hgd]
          exact List.mem_cons_self
        · exfalso
          have : i = 0 ∨ i = 1 ∨ i = 2 ∨ i = 3 := by omega
          rcases this with rfl | rfl | rfl | rfl
          · rw [hgd] at h1; omega
          · have := h3 (by omega); rw [hgd] at this; omega
          · have := h4 (by omega); rw [hgd] at this; omega
          · have := h5 (by omega); rw [hgd] at this; omega
theorem head_rune {b : UInt8} {r : List UInt8} (h : b.toNat < 128) : ∃ t, runesD (b :: r) = b.toNat :: t := by
  rw [runesD_step _ (by simp), Lib.decodeL_ascii b r h]
  exact ⟨_, rfl⟩
end Go.Proofs.YtcdjponbhpchbaaGreatDoor
