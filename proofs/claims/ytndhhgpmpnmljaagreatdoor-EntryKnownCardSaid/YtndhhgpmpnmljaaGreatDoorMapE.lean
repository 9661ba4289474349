import Derived.Test.YtndhhgpmpnmljaaGreatDoorKeyE
import Derived.Test.YtndhhgpmpnmljaaGreatDoorSortP
import Derived.Maps.Views
namespace Go.Proofs.YtndhhgpmpnmljaaGreatDoor
open Go Go.RowKit

def keyOfE (x : En) : En := { x with c := 0 }
theorem EnOK.key {x : En} (h : EnOK x) : EnOK (keyOfE x) := ⟨h.r, h.s, h.l, h.t, by show (Lit.int .i64 0).wf = true; decide⟩
theorem sameKey_key {z y : En} (hy : y.c = 0) (h : sameKey z y) : y = keyOfE z := by
  obtain ⟨a, b, c, d, e⟩ := z
  obtain ⟨a', b', c', d', e'⟩ := y
  obtain ⟨rfl, rfl, rfl, rfl⟩ := h
  simp only at hy
  subst hy; rfl
theorem key_same (z : En) : sameKey z (keyOfE z) := ⟨rfl, rfl, rfl, rfl⟩
theorem klE_key (y : En) : WideAt.IsKeyLit (klE y) := by simp [klE, WideAt.IsKeyLit]
theorem klE_same (y : En) : (klE y).sameKey (klE y) = true := by simp [klE, Lit.sameKey]

section
variable {H : Type}
/-- What a map of least costs holds at a key. -/
def AtE (D : DataW H) (y : En) : Option Int → Prop
  | none => Maps.has D (klE y) = false
  | some c => Maps.has D (klE y) = true ∧ ∀ zd, D.atKey (klE y) zd = .lit (.int .i64 c)
/-- The least cost among the entries of one key. -/
def LeastC (l : List En) (y : En) : Option Int → Prop
  | none => ∀ z ∈ l, ¬ sameKey z y
  | some c => (∃ z ∈ l, sameKey z y ∧ z.c = c) ∧ ∀ z ∈ l, sameKey z y → c ≤ z.c
def MapD (l : List En) (D : DataW H) : Prop := ∀ y, EnOK y → (y.c ≠ 0 → Maps.has D (klE y) = false) ∧ (y.c = 0 → ∃ o, LeastC l y o ∧ AtE D y o)
theorem AtE.unique {D : DataW H} {y : En} {o o' : Option Int} (h : AtE D y o) (h' : AtE D y o') : o = o' := by
  cases o with
  | none => cases o' with
    | none => rfl
    | some c => have h1 : Maps.has D (klE y) = false := h; rw [h'.1] at h1; cases h1
  | some c => cases o' with
    | none => have h1 : Maps.has D (klE y) = false := h'; rw [h.1] at h1; cases h1
    | some c' =>
      have h1 := h.2 (.lit (.int .i64 0))
      rw [h'.2] at h1
      simpa using h1.symm
theorem LeastC.snoc_other {l : List En} {y z : En} {o : Option Int} (h : LeastC l y o) (hn : ¬ sameKey z y) : LeastC (l ++ [z]) y o := by
  cases o with
  | none =>
    intro x hx
    rcases List.mem_append.1 hx with hx | hx
    · exact h x hx
    · obtain rfl : x = z := by simpa using hx
      exact hn
  | some c =>
    obtain ⟨⟨x, hx, h1, h2⟩, h3⟩ := h
    refine ⟨⟨x, List.mem_append_left _ hx, h1, h2⟩, fun x hx hk => ?_⟩
    rcases List.mem_append.1 hx with hx | hx
    · exact h3 x hx hk
    · obtain rfl : x = z := by simpa using hx
      exact absurd hk hn
theorem mapD_nil : MapD (H := H) [] (.map []) := fun y _ => ⟨fun _ => rfl, fun _ => ⟨none, fun z hz => by simp at hz, rfl⟩⟩
/-- A dearer one changes nothing. -/
theorem MapD.skip {l : List En} {D : DataW H} (h : MapD l D) {z : En} {c : Int} (ha : AtE D (keyOfE z) (some c)) (hc : c ≤ z.c) : MapD (l ++ [z]) D := fun y hy => by
  refine ⟨(h y hy).1, fun h0 => ?_⟩
  obtain ⟨o, ho, hD⟩ := (h y hy).2 h0
  by_cases hk : sameKey z y
  · have e := sameKey_key h0 hk
    subst e
    obtain rfl := hD.unique ha
    refine ⟨some c, ⟨?_, fun x hx hk => ?_⟩, ha⟩
    · obtain ⟨⟨x, hx, h1, h2⟩, _⟩ := ho
      exact ⟨x, List.mem_append_left _ hx, h1, h2⟩
    · rcases List.mem_append.1 hx with hx | hx
      · exact ho.2 x hx hk
      · obtain rfl : x = z := by simpa using hx
        exact hc
  · exact ⟨o, ho.snoc_other hk, hD⟩
/-- A new or a cheaper one is stored. -/
theorem MapD.store {l : List En} {D : DataW H} (h : MapD l D) (hm : Maps.IsMap D) {z : En} (hz : EnOK z) {o : Option Int} (ha : AtE D (keyOfE z) o) (hc : ∀ c, o = some c → z.c < c) : MapD (l ++ [z]) (D.put (klE (keyOfE z)) (.lit (.int .i64 z.c))) := fun y hy => by
  refine ⟨fun h0 => ?_, fun h0 => ?_⟩
  · have hne : klE y ≠ klE (keyOfE z) := fun e => h0 (by rw [klE_inj hy hz.key e]; rfl)
    rw [Maps.has_put_other hne]
    exact (h y hy).1 h0
  · obtain ⟨o', ho, hD⟩ := (h y hy).2 h0
    by_cases hk : sameKey z y
    · have e := sameKey_key h0 hk
      subst e
      obtain rfl := hD.unique ha
      refine ⟨some z.c, ⟨⟨z, by simp, key_same z, rfl⟩, fun x hx hk => ?_⟩, Maps.has_put_same hm (klE_key _) _, fun zd => Maps.atKey_put_same hm (klE_key _) _ _⟩
      rcases List.mem_append.1 hx with hx | hx
      · cases o' with
        | none => exact absurd hk (ho x hx)
        | some c =>
          have h1 := ho.2 x hx hk
          have h2 := hc c rfl
          omega
      · obtain rfl : x = z := by simpa using hx
        exact Int.le_refl _
    · have hne : klE y ≠ klE (keyOfE z) := fun e => hk (by rw [klE_inj hy hz.key e]; exact key_same z)
      refine ⟨o', ho.snoc_other hk, ?_⟩
      cases o' with
      | none =>
        show Maps.has _ _ = false
        rw [Maps.has_put_other hne]; exact hD
      | some c => exact ⟨by rw [Maps.has_put_other hne]; exact hD.1, fun zd => by rw [Maps.atKey_put_other hne]; exact hD.2 zd⟩

/-- What the range over the map has given so far. -/
def CollE (D : DataW H) (left : Lit → Bool) (ys : List En) : Prop := ys.Nodup ∧ (∀ y ∈ ys, EnOK y) ∧ ∀ y, EnOK y → (y ∈ ys ↔ AtE D (keyOfE y) (some y.c) ∧ left (klE (keyOfE y)) = false)
theorem collE_start (D : DataW H) : CollE D (Maps.has D) [] := ⟨List.nodup_nil, fun y hy => by simp at hy, fun y _ => ⟨fun h => by simp at h, fun ⟨h1, h2⟩ => by rw [h1.1] at h2; cases h2⟩⟩
theorem CollE.step {l : List En} {D : DataW H} {left : Lit → Bool} {ys : List En} (h : CollE D left ys) (hM : MapD l D) {x : En} (hx : EnOK x) {c : Int} (hc : (Lit.int .i64 c).wf = true) (hl : left (klE x) = true) (hat : ∀ zd, D.atKey (klE x) zd = .lit (.int .i64 c)) :
    CollE D (fun z => left z && !z.sameKey (klE x)) (ys ++ [{ x with c := c }]) := by
  have hhas := Maps.has_true_of_atKey hat
  have h0 : x.c = 0 := Decidable.byContradiction fun hn => by
    have := (hM x hx).1 hn
    rw [this] at hhas; cases hhas
  have hkx : keyOfE { x with c := c } = x := by
    obtain ⟨a, b, d, e, f⟩ := x
    simp only at h0
    subst h0; rfl
  have hxA : AtE D x (some c) := ⟨hhas, hat⟩
  have hyOK : EnOK { x with c := c } := ⟨hx.r, hx.s, hx.l, hx.t, hc⟩
  obtain ⟨h1, h2, h3⟩ := h
  refine ⟨?_, fun y hy => ?_, fun y hy => ?_⟩
  · refine List.nodup_append.2 ⟨h1, by simp, fun y hy z hz e => ?_⟩
    obtain rfl : z = { x with c := c } := by simpa using hz
    subst e
    have := ((h3 _ hyOK).1 hy).2
    rw [hkx, hl] at this; cases this
  · rcases List.mem_append.1 hy with hy | hy
    · exact h2 y hy
    · obtain rfl : y = { x with c := c } := by simpa using hy
      exact hyOK
  · constructor
    · intro hm
      rcases List.mem_append.1 hm with hm | hm
      · obtain ⟨k1, k2⟩ := (h3 y hy).1 hm
        exact ⟨k1, by simp [k2]⟩
      · obtain rfl : y = { x with c := c } := by simpa using hm
        rw [hkx]
        exact ⟨hxA, by simp [klE_same]⟩
    · rintro ⟨k1, k2⟩
      by_cases hk : klE (keyOfE y) = klE x
      · have e := klE_inj hy.key hx hk
        rw [e] at k1
        have e2 : y.c = c := by simpa using k1.unique hxA
        have : y = { x with c := c } := by
          rw [← e, ← e2]
          obtain ⟨a, b, d, e, f⟩ := y
          rfl
        rw [this]; simp
      · have k3 : (left (klE (keyOfE y)) && !(klE (keyOfE y)).sameKey (klE x)) = false := k2
        rw [Maps.sameKey_ne hk] at k3
        exact List.mem_append_left _ ((h3 y hy).2 ⟨k1, by simpa using k3⟩)
theorem CollE.least {l : List En} {D : DataW H} {left : Lit → Bool} {ys : List En} (h : CollE D left ys) (hM : MapD l D) (hl : ∀ x ∈ l, EnOK x) (h0 : ∀ kl, left kl = false) (y : En) : y ∈ ys ↔ IsLeast l y := by
  have key : ∀ y, EnOK y → (AtE D (keyOfE y) (some y.c) ↔ IsLeast l y) := fun y hy => by
    obtain ⟨o, ho, hD⟩ := (hM (keyOfE y) hy.key).2 rfl
    constructor
    · intro h1
      obtain rfl := hD.unique h1
      obtain ⟨⟨z, hz, k1, k2⟩, k3⟩ := ho
      refine ⟨?_, fun x hx hk => k3 x hx hk⟩
      have : z = y := by
        obtain ⟨a, b, d, e, f⟩ := z
        obtain ⟨a', b', d', e', f'⟩ := y
        obtain ⟨rfl, rfl, rfl, rfl⟩ := k1
        simp only at k2
        subst k2; rfl
      rw [← this]; exact hz
    · rintro ⟨hy2, h2⟩
      cases o with
      | none => exact absurd (key_same y) (ho y hy2)
      | some c =>
        obtain ⟨⟨z, hz, k1, k2⟩, k3⟩ := ho
        have e1 := k3 y hy2 (key_same y)
        have e2 := h2 z hz k1
        have : c = y.c := by omega
        rw [← this]; exact hD
  constructor
  · intro hy
    have hok := h.2.1 y hy
    exact (key y hok).1 ((h.2.2 y hok).1 hy).1
  · intro hy
    have hok := hl y hy.1
    exact (h.2.2 y hok).2 ⟨(key y hok).2 hy, h0 _⟩
end
end Go.Proofs.YtndhhgpmpnmljaaGreatDoor
