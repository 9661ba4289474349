import Derived.Test.YtndhhgpmpnmljaaDoorKeyP
import Derived.Maps.Views
namespace Go.Proofs.YtndhhgpmpnmljaaDoor
open Go Go.RowKit

/-- A matrix: its size, its default cost, its costs row by row. -/
structure Mx where
  n : Nat
  d : Int
  cs : List Int
structure Mx.OK (m : Mx) : Prop where
  n1 : 1 ≤ m.n
  n2 : m.n ≤ 64
  d1 : 0 ≤ m.d
  d2 : m.d ≤ 30000
  len : m.cs.length = m.n * m.n
  cost : ∀ c ∈ m.cs, 0 ≤ c ∧ c ≤ 30000
def isC (c : Int) : Bool := decide (0 ≤ c) && decide (c ≤ 30000)
theorem isC_iff {c : Int} : isC c = true ↔ 0 ≤ c ∧ c ≤ 30000 := by simp [isC]
def newB (n d : Int) : Bool := decide (1 ≤ n) && decide (n ≤ 64) && isC d
theorem newB_iff {n d : Int} : newB n d = true ↔ 1 ≤ n ∧ n ≤ 64 ∧ 0 ≤ d ∧ d ≤ 30000 := by simp [newB, isC, and_assoc]
def newM (n d : Int) : Mx := ⟨n.toNat, d, List.replicate (n.toNat * n.toNat) d⟩
theorem newM_ok {n d : Int} (h : newB n d = true) : (newM n d).OK := by
  obtain ⟨h1, h2, h3, h4⟩ := newB_iff.1 h
  refine ⟨?_, ?_, h3, h4, by simp [newM], fun c hc => ?_⟩
  · show 1 ≤ n.toNat; omega
  · show n.toNat ≤ 64; omega
  · obtain rfl : c = d := (List.mem_replicate.1 hc).2
    exact ⟨h3, h4⟩
def inR (n : Nat) (r : Int) : Bool := decide (0 ≤ r) && decide (r < n)
theorem inR_iff {n : Nat} {r : Int} : inR n r = true ↔ 0 ≤ r ∧ r < n := by simp [inR]
def at2 (n : Nat) (x : Int × Int) : Nat := x.1.toNat * n + x.2.toNat
def inP (n : Nat) (x : Int × Int) : Bool := inR n x.1 && inR n x.2
theorem inP_iff {n : Nat} {x : Int × Int} : inP n x = true ↔ (0 ≤ x.1 ∧ x.1 < n) ∧ 0 ≤ x.2 ∧ x.2 < n := by simp [inP, inR_iff]
theorem at2_lt {n : Nat} {x : Int × Int} (h : inP n x = true) : at2 n x < n * n := by
  obtain ⟨⟨h1, h2⟩, h3, h4⟩ := inP_iff.1 h
  unfold at2
  have k1 : x.1.toNat + 1 ≤ n := by omega
  have k2 : x.2.toNat < n := by omega
  have := Nat.mul_le_mul_right n k1
  rw [Nat.add_mul, Nat.one_mul] at this
  omega
theorem at2_div {n : Nat} {x : Int × Int} (h : inP n x = true) : at2 n x / n = x.1.toNat ∧ at2 n x % n = x.2.toNat := by
  obtain ⟨⟨h1, h2⟩, h3, h4⟩ := inP_iff.1 h
  have k2 : x.2.toNat < n := by omega
  unfold at2
  constructor
  · rw [Nat.mul_comm, Nat.mul_add_div (by omega), Nat.div_eq_of_lt k2, Nat.add_zero]
  · rw [Nat.mul_comm, Nat.mul_add_mod, Nat.mod_eq_of_lt k2]
theorem at2_inj {n : Nat} {x y : Int × Int} (hx : inP n x = true) (hy : inP n y = true) (h : at2 n x = at2 n y) : x = y := by
  have k1 := at2_div hx
  have k2 := at2_div hy
  rw [h] at k1
  obtain ⟨⟨h1, h2⟩, h3, h4⟩ := inP_iff.1 hx
  obtain ⟨⟨g1, g2⟩, g3, g4⟩ := inP_iff.1 hy
  have e1 := k1.1.symm.trans k2.1
  have e2 := k1.2.symm.trans k2.2
  exact Prod.ext (by omega) (by omega)
def Mx.cost (m : Mx) (x : Int × Int) : Int := if inP m.n x then m.cs.getD (at2 m.n x) 0 else 30000
def Mx.setB (m : Mx) (x : Int × Int) (c : Int) : Bool := inP m.n x && isC c
def Mx.set (m : Mx) (x : Int × Int) (c : Int) : Mx := { m with cs := m.cs.set (at2 m.n x) c }
def Mx.setIf (m : Mx) (x : Int × Int) (c : Int) : Mx := if m.setB x c then m.set x c else m
theorem Mx.OK.set {m : Mx} (h : m.OK) {x : Int × Int} {c : Int} (hs : m.setB x c = true) : (m.set x c).OK := by
  simp only [Mx.setB, Bool.and_eq_true] at hs
  refine ⟨h.n1, h.n2, h.d1, h.d2, by simp [Mx.set, h.len], fun z hz => ?_⟩
  rcases List.mem_or_eq_of_mem_set hz with hz | rfl
  · exact h.cost z hz
  · exact isC_iff.1 hs.2
theorem Mx.OK.setIf {m : Mx} (h : m.OK) (x : Int × Int) (c : Int) : (m.setIf x c).OK := by
  unfold Mx.setIf
  split
  · rename_i hs; exact h.set hs
  · exact h
theorem Mx.cost_set {m : Mx} (h : m.OK) {x : Int × Int} {c : Int} (hx : inP m.n x = true) (y : Int × Int) : (m.set x c).cost y = if y = x then c else m.cost y := by
  have hl : at2 m.n x < m.cs.length := by rw [h.len]; exact at2_lt hx
  unfold Mx.cost
  show (if inP m.n y then (m.cs.set (at2 m.n x) c).getD (at2 m.n y) 0 else 30000) = _
  by_cases hy : inP m.n y = true
  · rw [if_pos hy, if_pos hy]
    by_cases e : y = x
    · subst e; rw [if_pos rfl]
      simp [List.getD, hl]
    · rw [if_neg e]
      have : at2 m.n x ≠ at2 m.n y := fun h => e (at2_inj hx hy h).symm
      simp [List.getD, List.getElem?_set_ne this]
  · rw [if_neg hy, if_neg hy, if_neg (fun e => hy (by rw [e]; exact hx))]
theorem Mx.cost_new {n d : Int} (x : Int × Int) : (newM n d).cost x = if inP n.toNat x then d else 30000 := by
  unfold Mx.cost newM
  simp only
  by_cases h : inP n.toNat x = true
  · rw [if_pos h, if_pos h]
    simp [List.getD, at2_lt h]
  · rw [if_neg h, if_neg h]
theorem Mx.cost_ok {m : Mx} (h : m.OK) (x : Int × Int) : 0 ≤ m.cost x ∧ m.cost x ≤ 30000 := by
  unfold Mx.cost
  split
  · rename_i hx
    have hl : at2 m.n x < m.cs.length := by rw [h.len]; exact at2_lt hx
    have : m.cs.getD (at2 m.n x) 0 = m.cs[at2 m.n x] := by simp [List.getD, hl]
    rw [this]
    exact h.cost _ (List.getElem_mem _)
  · omega
theorem wf_of_in {n : Nat} (hn : n ≤ 64) {x : Int × Int} (h : inP n x = true) : WfI x.1 ∧ WfI x.2 := by
  obtain ⟨⟨h1, h2⟩, h3, h4⟩ := inP_iff.1 h
  exact ⟨WalkArith.wf_i64 (by omega), WalkArith.wf_i64 (by omega)⟩

section
variable {H : Type}
/-- What the map of a matrix holds. -/
def MapM (m : Mx) (D : DataW H) : Prop := ∀ x : Int × Int, WfI x.1 → WfI x.2 → (Maps.has D (klP x) = (inP m.n x && decide (m.cost x ≠ m.d))) ∧ (Maps.has D (klP x) = true → ∀ zd, D.atKey (klP x) zd = .lit (.int .i64 (m.cost x)))
theorem klP_key (x : Int × Int) : WideAt.IsKeyLit (klP x) := by simp [klP, WideAt.IsKeyLit]
theorem klP_same (x : Int × Int) : (klP x).sameKey (klP x) = true := by simp [klP, Lit.sameKey]
theorem mapM_new (n d : Int) : MapM (H := H) (newM n d) (.map []) := fun x _ _ => by
  refine ⟨?_, fun h => by cases h⟩
  show false = _
  rw [Mx.cost_new]
  show false = (inP n.toNat x && decide ((if inP n.toNat x then d else 30000) ≠ d))
  cases inP n.toNat x <;> simp
theorem MapM.put {m : Mx} {D : DataW H} (h : MapM m D) (hm : Maps.IsMap D) (hok : m.OK) {x : Int × Int} {c : Int} (hs : m.setB x c = true) (hc : c ≠ m.d) : MapM (m.set x c) (D.put (klP x) (.lit (.int .i64 c))) := fun y h1 h2 => by
  simp only [Mx.setB, Bool.and_eq_true] at hs
  have hw := wf_of_in hok.n2 hs.1
  rw [Mx.cost_set hok hs.1]
  show Maps.has _ _ = (inP m.n y && decide (_ ≠ m.d)) ∧ _
  by_cases e : y = x
  · subst e
    rw [if_pos rfl, Maps.has_put_same hm (klP_key _), hs.1]
    exact ⟨by simp [hc], fun _ zd => Maps.atKey_put_same hm (klP_key _) _ _⟩
  · have hne : klP y ≠ klP x := fun h => e (klP_inj h1 h2 hw.1 hw.2 h)
    rw [if_neg e, Maps.has_put_other hne]
    refine ⟨(h y h1 h2).1, fun hh zd => ?_⟩
    rw [Maps.atKey_put_other hne]
    exact (h y h1 h2).2 hh zd
theorem MapM.del {m : Mx} {D : DataW H} (h : MapM m D) (hok : m.OK) {x : Int × Int} (hx : inP m.n x = true) : MapM (m.set x m.d) (D.del (klP x)) := fun y h1 h2 => by
  have hw := wf_of_in hok.n2 hx
  rw [Mx.cost_set hok hx]
  show Maps.has _ _ = (inP m.n y && decide (_ ≠ m.d)) ∧ _
  by_cases e : y = x
  · subst e
    rw [if_pos rfl, Maps.has_del_same]
    exact ⟨by simp, fun h => by cases h⟩
  · have hne : klP y ≠ klP x := fun h => e (klP_inj h1 h2 hw.1 hw.2 h)
    rw [if_neg e, Maps.has_del_other hne]
    refine ⟨(h y h1 h2).1, fun hh zd => ?_⟩
    rw [Maps.atKey_del_other hne]
    exact (h y h1 h2).2 hh zd
/-- What a look-up gives. -/
theorem MapM.look {m : Mx} {D : DataW H} (h : MapM m D) (hok : m.OK) {x : Int × Int} (hx : inP m.n x = true) {c : Int} (hc : D.atKey (klP x) (.lit (.int .i64 0)) = .lit (.int .i64 c)) : (Maps.has D (klP x) = true → c = m.cost x) ∧ (Maps.has D (klP x) = false → m.cost x = m.d) := by
  have hw := wf_of_in hok.n2 hx
  obtain ⟨h1, h2⟩ := h x hw.1 hw.2
  refine ⟨fun hh => ?_, fun hh => ?_⟩
  · have := h2 hh (.lit (.int .i64 0))
    rw [hc] at this
    simpa using this
  · rw [hh, hx] at h1
    have h3 : decide (m.cost x ≠ m.d) = false := by simpa using h1.symm
    simpa using h3
end

/-- The places whose cost is not the default cost, in order. -/
def Mx.idx (m : Mx) : List Nat := (List.range (m.n * m.n)).filter fun i => decide (m.cs.getD i 0 ≠ m.d)
def pairAt (n i : Nat) : Int × Int := (((i / n : Nat) : Int), ((i % n : Nat) : Int))
def Mx.pairs (m : Mx) : List (Int × Int) := m.idx.map (pairAt m.n)
theorem pairAt_in {n i : Nat} (h : i < n * n) : inP n (pairAt n i) = true ∧ at2 n (pairAt n i) = i := by
  have hn : 0 < n := by
    rcases Nat.eq_zero_or_pos n with h0 | h0
    · subst h0; simp at h
    · exact h0
  have h1 : i / n < n := Nat.div_lt_of_lt_mul h
  have h2 : i % n < n := Nat.mod_lt _ hn
  refine ⟨inP_iff.2 ⟨⟨Int.natCast_nonneg _, Int.ofNat_lt.2 h1⟩, Int.natCast_nonneg _, Int.ofNat_lt.2 h2⟩, ?_⟩
  simp only [at2, pairAt, Int.toNat_natCast]
  rw [Nat.mul_comm]; exact Nat.div_add_mod i n
theorem pairAt_at2 {n : Nat} {x : Int × Int} (h : inP n x = true) : pairAt n (at2 n x) = x := at2_inj (pairAt_in (at2_lt h)).1 h (pairAt_in (at2_lt h)).2
theorem Mx.mem_idx {m : Mx} {i : Nat} : i ∈ m.idx ↔ i < m.n * m.n ∧ m.cs.getD i 0 ≠ m.d := by simp [Mx.idx]
theorem Mx.mem_pairs {m : Mx} {x : Int × Int} : x ∈ m.pairs ↔ inP m.n x = true ∧ m.cost x ≠ m.d := by
  unfold Mx.pairs
  rw [List.mem_map]
  constructor
  · rintro ⟨i, hi, rfl⟩
    obtain ⟨h1, h2⟩ := Mx.mem_idx.1 hi
    obtain ⟨h3, h4⟩ := pairAt_in h1
    refine ⟨h3, ?_⟩
    unfold Mx.cost
    rw [if_pos h3, h4]; exact h2
  · rintro ⟨h1, h2⟩
    refine ⟨at2 m.n x, Mx.mem_idx.2 ⟨at2_lt h1, ?_⟩, pairAt_at2 h1⟩
    unfold Mx.cost at h2
    rwa [if_pos h1] at h2
/-- The order of pairs. -/
def cmpP (a b : Int × Int) : Int := orI [cmpI a.1 b.1, cmpI a.2 b.2]
def ltP (a b : Int × Int) : Prop := a.1 < b.1 ∨ a.1 = b.1 ∧ a.2 < b.2
theorem cmpP_lt (a b : Int × Int) : cmpP a b < 0 ↔ ltP a b := by
  unfold cmpP ltP
  simp only [orI]
  unfold cmpI
  constructor
  · intro h
    split at h <;> (repeat' split at h) <;> omega
  · intro h
    split <;> (repeat' split) <;> omega
theorem ltP_irrefl (a : Int × Int) : ¬ ltP a a := by unfold ltP; omega
theorem ltP_trans {a b c : Int × Int} (h1 : ltP a b) (h2 : ltP b c) : ltP a c := by unfold ltP at *; omega
theorem ltP_total {a b : Int × Int} (h : a ≠ b) : ltP a b ∨ ltP b a := by
  by_cases h1 : a.1 = b.1
  · have h2 : a.2 ≠ b.2 := fun h2 => h (Prod.ext h1 h2)
    unfold ltP; omega
  · unfold ltP; omega
theorem pairAt_lt {n i j : Nat} (h : i < j) : ltP (pairAt n i) (pairAt n j) := by
  have h1 : i / n ≤ j / n := Nat.div_le_div_right (Nat.le_of_lt h)
  unfold ltP pairAt
  simp only
  by_cases e : i / n = j / n
  · right
    refine ⟨by omega, ?_⟩
    have h2 := Nat.div_add_mod i n
    have h3 := Nat.div_add_mod j n
    rw [e] at h2
    omega
  · left; omega
theorem Mx.pairs_sorted (m : Mx) : m.pairs.Pairwise ltP := by
  unfold Mx.pairs Mx.idx
  rw [List.pairwise_map]
  exact (List.Pairwise.filter _ List.pairwise_lt_range).imp fun h => pairAt_lt h
theorem pw_unique {α : Type} {lt : α → α → Prop} (hi : ∀ a, ¬ lt a a) (ht : ∀ {a b c}, lt a b → lt b c → lt a c) : ∀ {o o' : List α}, o.Pairwise lt → o'.Pairwise lt → (∀ y, y ∈ o ↔ y ∈ o') → o = o'
  | [], [], _, _, _ => rfl
  | [], b :: s, _, _, h => by have := (h b).2 (by simp); cases this
  | a :: r, [], _, _, h => by have := (h a).1 (by simp); cases this
  | a :: r, b :: s, h1, h2, h => by
    obtain ⟨ha, hr⟩ := List.pairwise_cons.1 h1
    obtain ⟨hb, hs⟩ := List.pairwise_cons.1 h2
    have hab : a = b := by
      rcases List.mem_cons.1 ((h a).1 (by simp)) with e | e
      · exact e
      · rcases List.mem_cons.1 ((h b).2 (by simp)) with e' | e'
        · exact e'.symm
        · exact absurd (ht (hb a e) (ha b e')) (hi b)
    subst hab
    have hn1 : a ∉ r := fun hm => hi a (ha a hm)
    have hn2 : a ∉ s := fun hm => hi a (hb a hm)
    rw [pw_unique hi ht hr hs fun y => ?_]
    constructor
    · intro hy
      rcases List.mem_cons.1 ((h y).1 (by simp [hy])) with e | e
      · subst e; exact absurd hy hn1
      · exact e
    · intro hy
      rcases List.mem_cons.1 ((h y).2 (by simp [hy])) with e | e
      · subst e; exact absurd hy hn2
      · exact e
theorem Mx.pairs_len {m : Mx} (h : m.OK) : m.pairs.length ≤ 4096 := by
  unfold Mx.pairs
  rw [List.length_map]
  refine Nat.le_trans (List.length_filter_le _ _) ?_
  rw [List.length_range]
  have := h.n2
  exact Nat.mul_le_mul this this
end Go.Proofs.YtndhhgpmpnmljaaDoor
