import Derived.Test.YtndhhgpmpnmljaaGreatDoorSame
namespace Go.Proofs.YtndhhgpmpnmljaaGreatDoor
open Go Go.RowKit

theorem bytesLess_irrefl : ∀ l : List UInt8, Op.bytesLess l l = false
  | [] => rfl
  | x :: l => by simp [Op.bytesLess, bytesLess_irrefl l]
theorem bytesLess_trans : ∀ {a b c : List UInt8}, Op.bytesLess a b = true → Op.bytesLess b c = true → Op.bytesLess a c = true
  | [], _, [], _, h => by cases ‹List UInt8› <;> simp [Op.bytesLess] at h
  | [], _, _ :: _, _, _ => rfl
  | _ :: _, [], _, h, _ => by simp [Op.bytesLess] at h
  | _ :: _, _ :: _, [], _, h => by simp [Op.bytesLess] at h
  | x :: a, y :: b, z :: c, h1, h2 => by
    simp only [Op.bytesLess, Bool.or_eq_true, Bool.and_eq_true, decide_eq_true_eq, beq_iff_eq] at h1 h2 ⊢
    rcases h1 with h1 | ⟨rfl, h1⟩ <;> rcases h2 with h2 | ⟨rfl, h2⟩
    · exact Or.inl (Nat.lt_trans h1 h2)
    · exact Or.inl h1
    · exact Or.inl h2
    · exact Or.inr ⟨rfl, bytesLess_trans h1 h2⟩
theorem bytesLess_total : ∀ {a b : List UInt8}, Op.bytesLess a b = false → a ≠ b → Op.bytesLess b a = true
  | [], [], _, h => absurd rfl h
  | [], _ :: _, h, _ => by simp [Op.bytesLess] at h
  | _ :: _, [], _, _ => rfl
  | x :: a, y :: b, h1, h2 => by
    simp only [Op.bytesLess, Bool.or_eq_false_iff, Bool.and_eq_false_iff, decide_eq_false_iff_not, beq_eq_false_iff_ne, Bool.or_eq_true, Bool.and_eq_true, decide_eq_true_eq, beq_iff_eq] at h1 ⊢
    obtain ⟨h1, h3⟩ := h1
    by_cases hxy : y < x
    · exact Or.inl hxy
    · have h4 : x.toNat = y.toNat := by
        have h5 : ¬ x.toNat < y.toNat := h1
        have h6 : ¬ y.toNat < x.toNat := hxy
        omega
      obtain rfl : x = y := UInt8.toNat_inj.1 h4
      rcases h3 with h3 | h3
      · exact absurd rfl h3
      · exact Or.inr ⟨rfl, bytesLess_total h3 (fun h => h2 (by rw [h]))⟩

/-- A comparison in three. -/
structure Cmp3 {α : Type} (f : α → α → Int) : Prop where
  zero : ∀ x y, f x y = 0 ↔ x = y
  trans : ∀ x y z, f x y < 0 → f y z < 0 → f x z < 0
  flip : ∀ x y, f x y < 0 ↔ 0 < f y x
theorem cmp3I : Cmp3 cmpI where
  zero x y := by unfold cmpI; split <;> (try split) <;> omega
  trans x y z := by unfold cmpI; intro h1 h2; split at h1 <;> split at h2 <;> (try split at h1) <;> (try split at h2) <;> (split <;> omega)
  flip x y := by unfold cmpI; split <;> (try split) <;> (try split) <;> omega
theorem cmpS_eq (a b : ByteArray) : cmpS a b = if Op.bytesLess a.toList b.toList then -1 else if a = b then 0 else 1 := by
  unfold cmpS
  by_cases h1 : Op.bytesLess a.toList b.toList = true
  · rw [if_pos h1, if_pos h1]
  · rw [if_neg h1, if_neg h1]
    by_cases h2 : a = b
    · simp [h2]
    · have h3 : (a.toList == b.toList) = false := by
        rw [beq_eq_false_iff_ne]; exact fun h => h2 (toList_inj h)
      simp [h1, h2, h3]
theorem bytesLess_asymm {a b : List UInt8} (h : Op.bytesLess a b = true) : ¬ Op.bytesLess b a = true := fun h2 => by
  have := bytesLess_trans h h2
  rw [bytesLess_irrefl] at this
  cases this
theorem cmp3S : Cmp3 cmpS where
  zero x y := by
    rw [cmpS_eq]
    split
    · rename_i h
      refine ⟨fun h => by omega, fun e => ?_⟩
      rw [e, bytesLess_irrefl] at h; cases h
    · split
      · rename_i h; simp [h]
      · rename_i h; simp [h]
  trans x y z := by
    rw [cmpS_eq, cmpS_eq, cmpS_eq]
    intro h1 h2
    have g1 : Op.bytesLess x.toList y.toList = true := by
      by_cases h : Op.bytesLess x.toList y.toList = true
      · exact h
      · rw [if_neg h] at h1; split at h1 <;> omega
    have g2 : Op.bytesLess y.toList z.toList = true := by
      by_cases h : Op.bytesLess y.toList z.toList = true
      · exact h
      · rw [if_neg h] at h2; split at h2 <;> omega
    rw [if_pos (bytesLess_trans g1 g2)]
    omega
  flip x y := by
    rw [cmpS_eq, cmpS_eq]
    by_cases h : Op.bytesLess x.toList y.toList = true
    · have h2 := bytesLess_asymm h
      have h3 : ¬ y = x := fun e => by rw [e, bytesLess_irrefl] at h; cases h
      rw [if_pos h, if_neg h2, if_neg h3]; omega
    · rw [if_neg h]
      by_cases e : x = y
      · subst e; rw [if_pos rfl, if_neg h]
      · have h2 := bytesLess_total (by simpa using h) (fun h => e (toList_inj h))
        rw [if_neg e, if_pos h2]; omega
def lexI {α β : Type} (f : α → α → Int) (g : β → β → Int) (x y : α × β) : Int := if f x.1 y.1 = 0 then g x.2 y.2 else f x.1 y.1
theorem Cmp3.refl {α : Type} {f : α → α → Int} (h : Cmp3 f) (x : α) : f x x = 0 := (h.zero x x).2 rfl
theorem cmp3Lex {α β : Type} {f : α → α → Int} {g : β → β → Int} (hf : Cmp3 f) (hg : Cmp3 g) : Cmp3 (lexI f g) where
  zero x y := by
    unfold lexI
    by_cases h : f x.1 y.1 = 0
    · rw [if_pos h, hg.zero]
      have := (hf.zero _ _).1 h
      constructor
      · intro h2; exact Prod.ext this h2
      · intro h2; rw [h2]
    · rw [if_neg h]
      exact ⟨fun h2 => absurd h2 h, fun h2 => absurd (by rw [h2]; exact hf.refl _) h⟩
  trans x y z := by
    unfold lexI
    intro h1 h2
    by_cases e1 : f x.1 y.1 = 0
    · rw [if_pos e1] at h1
      have e := (hf.zero _ _).1 e1
      rw [e]
      by_cases e2 : f y.1 z.1 = 0
      · rw [if_pos e2] at h2 ⊢; exact hg.trans _ _ _ h1 h2
      · rw [if_neg e2] at h2 ⊢; exact h2
    · rw [if_neg e1] at h1
      by_cases e2 : f y.1 z.1 = 0
      · have e := (hf.zero _ _).1 e2
        rw [← e, if_neg e1]; exact h1
      · rw [if_neg e2] at h2
        have h3 := hf.trans _ _ _ h1 h2
        rw [if_neg (by omega)]; exact h3
  flip x y := by
    unfold lexI
    have hz : f x.1 y.1 = 0 ↔ f y.1 x.1 = 0 := by rw [hf.zero, hf.zero]; exact eq_comm
    by_cases e1 : f x.1 y.1 = 0
    · rw [if_pos e1, if_pos (hz.1 e1)]; exact hg.flip _ _
    · rw [if_neg e1, if_neg (fun h => e1 (hz.2 h))]; exact hf.flip _ _
def keyOf (x : En) : ByteArray × Int × ByteArray × Int × Int := (x.r, x.c, x.s, x.l, x.t)
theorem enCmp_key (x y : En) : enCmp x y = lexI cmpS (lexI cmpI (lexI cmpS (lexI cmpI cmpI))) (keyOf x) (keyOf y) := by
  have hl : ∀ z : Int, orI [z] = z := fun z => by unfold orI; split <;> simp_all [orI]
  unfold enCmp lexI keyOf
  simp only [orI]
  repeat' split
  all_goals simp_all
theorem enCmp3 : Cmp3 enCmp where
  zero x y := by
    rw [enCmp_key, (cmp3Lex cmp3S (cmp3Lex cmp3I (cmp3Lex cmp3S (cmp3Lex cmp3I cmp3I)))).zero]
    constructor
    · intro h
      obtain ⟨xr, xs, xl, xt, xc⟩ := x
      obtain ⟨yr, ys, yl, yt, yc⟩ := y
      simp only [keyOf, Prod.mk.injEq] at h
      obtain ⟨rfl, rfl, rfl, rfl, rfl⟩ := h
      rfl
    · intro h; rw [h]
  trans x y z := by rw [enCmp_key, enCmp_key, enCmp_key]; exact (cmp3Lex cmp3S (cmp3Lex cmp3I (cmp3Lex cmp3S (cmp3Lex cmp3I cmp3I)))).trans _ _ _
  flip x y := by rw [enCmp_key, enCmp_key]; exact (cmp3Lex cmp3S (cmp3Lex cmp3I (cmp3Lex cmp3S (cmp3Lex cmp3I cmp3I)))).flip _ _
theorem lessS_trans {x y z : En} (h1 : lessS x y = true) (h2 : lessS y z = true) : lessS x z = true := by
  unfold lessS at *
  simp only [decide_eq_true_eq] at *
  exact enCmp3.trans _ _ _ h1 h2
theorem lessS_irrefl (x : En) : lessS x x = false := by
  unfold lessS; rw [enCmp3.refl]; simp
theorem lessS_one {x y : En} (h : x ≠ y) : lessS y x = !lessS x y := by
  unfold lessS
  have h1 := enCmp3.flip x y
  have h2 : enCmp x y ≠ 0 := fun h0 => h ((enCmp3.zero _ _).1 h0)
  have h3 := enCmp3.flip y x
  by_cases h4 : enCmp x y < 0
  · have h5 : ¬ enCmp y x < 0 := by have := h1.1 h4; omega
    simp [h4, h5]
  · have h5 : enCmp y x < 0 := h3.2 (by omega)
    simp [h4, h5]
end Go.Proofs.YtndhhgpmpnmljaaGreatDoor
