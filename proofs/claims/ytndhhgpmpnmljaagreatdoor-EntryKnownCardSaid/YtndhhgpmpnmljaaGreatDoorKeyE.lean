import Derived.Test.YtndhhgpmpnmljaaGreatDoorOpenE
import Derived.Test.YtndhhgpmpnmljaaGreatDoorKeyP
import Derived.DeepKeys4
import Derived.Maps.RangeWalk
namespace Go.Proofs.YtndhhgpmpnmljaaGreatDoor
open Go Go.RowKit

/-- What an entry reads as, as a map's key. -/
def klE (x : En) : Lit := .string (keyBytes [.string x.r.data.toList, .string x.s.data.toList, .int .i64 x.l, .int .i64 x.t, .int .i64 x.c])
theorem keyedE : Go.Maps.Keyed Tryz.prog 54 := Go.Maps.Keyed.of_law (deep_law_laid laidOut (m := 3) (by decide) (of_decide_eq_true (by kernel_rfl)) (by kernel_rfl) (by kernel_rfl))
set_option maxRecDepth 100000 in
theorem keyE {x : En} (h : EnOK x) : Go.keyOf Tryz.prog 54 x.agg = some (klE x) := by
  obtain ⟨m, hm⟩ : ∃ m, Tryz.prog.types.size = m + 1 := ⟨Tryz.prog.types.size - 1, by have : 0 < Tryz.prog.types.size := of_decide_eq_true (by kernel_rfl); omega⟩
  have hS : ∀ (s : ByteArray), s.size ≤ maxLen → Tryz.prog.keyLits (m + 1) 9 [.string s] = some [.string s.data.toList] := fun s hs => by
    unfold Program.keyLits
    simp only [Tryz.underlying9, if_pos hs]
  have hI : ∀ (n : Int), (Lit.int .i64 n).wf = true → Tryz.prog.keyLits (m + 1) 3 [.int .i64 n] = some [.int .i64 n] := fun n hn => by
    unfold Program.keyLits
    simp only [Tryz.underlying3, hn, and_self, if_true]
  have hk : Tryz.prog.keyType 54 = true := by kernel_rfl
  have hc : Tryz.prog.cellsOf 54 = 5 := by kernel_rfl
  have hcs : Tryz.prog.cellsOf 9 = 1 := by kernel_rfl
  have hci : Tryz.prog.cellsOf 3 = 1 := by kernel_rfl
  obtain ⟨r, s, l, t, c⟩ := x
  obtain ⟨h1, h2, h3, h4, h5⟩ := h
  have g1 := hS r h1
  have g2 := hS s h2
  have g3 := hI l h3
  have g4 := hI t h4
  have g5 := hI c h5
  unfold Go.keyOf
  simp only [Tryz.underlying54, hk, Bool.true_and]
  unfold Value.formed En.agg
  simp only [Tryz.underlying54, hc]
  have hz : ((#[Value.string r, .string s, .int .i64 l, .int .i64 t, .int .i64 c] : Array Value).size == 5) = true := rfl
  rw [if_pos hz, hm]
  unfold Program.keyLits
  simp only [Tryz.underlying54, hc, Value.cells]
  simp [hcs, hci, g1, g2, g3, g4, g5, klE]
theorem klE_inj {x y : En} (hx : EnOK x) (hy : EnOK y) (h : klE x = klE y) : x = y := by
  have h1 := keyE hx
  have h2 := keyE hy
  rw [h] at h1
  have := keyedE.inj h1 h2
  obtain ⟨a, b, c, d, e⟩ := x
  obtain ⟨a', b', c', d', e'⟩ := y
  simpa [En.agg] using this
set_option maxRecDepth 100000 in
theorem keyE_inv {key : Value} {kl : Lit} (h : Go.keyOf Tryz.prog 54 key = some kl) : ∃ x : En, EnOK x ∧ key = x.agg ∧ kl = klE x := by
  obtain ⟨m, hm⟩ : ∃ m, Tryz.prog.types.size = m + 1 := ⟨Tryz.prog.types.size - 1, by have : 0 < Tryz.prog.types.size := of_decide_eq_true (by kernel_rfl); omega⟩
  have hS : ∀ (v : Value) (ls : List Lit), Tryz.prog.keyLits (m + 1) 9 [v] = some ls → ∃ s : ByteArray, v = .string s ∧ s.size ≤ maxLen ∧ ls = [.string s.data.toList] := fun v ls h => by
    unfold Program.keyLits at h
    simp only [Tryz.underlying9] at h
    cases v <;> simp at h
    rename_i s
    exact ⟨s, rfl, h.1, h.2.symm⟩
  have hI : ∀ (v : Value) (ls : List Lit), Tryz.prog.keyLits (m + 1) 3 [v] = some ls → ∃ n : Int, v = .int .i64 n ∧ (Lit.int .i64 n).wf = true ∧ ls = [.int .i64 n] := fun v ls h => by
    unfold Program.keyLits at h
    simp only [Tryz.underlying3] at h
    cases v <;> simp at h
    obtain ⟨⟨rfl, h2⟩, h3⟩ := h
    exact ⟨_, rfl, h2, h3.symm⟩
  have hk : Tryz.prog.keyType 54 = true := by kernel_rfl
  have hc : Tryz.prog.cellsOf 54 = 5 := by kernel_rfl
  have hcs : Tryz.prog.cellsOf 9 = 1 := by kernel_rfl
  have hci : Tryz.prog.cellsOf 3 = 1 := by kernel_rfl
  unfold Go.keyOf at h
  simp only [Tryz.underlying54, hk, Bool.true_and] at h
  split at h
  · rename_i hf
    rw [hm] at h
    obtain ⟨cs, rfl, hsz⟩ : ∃ cs, key = .agg cs ∧ cs.size = 5 := by
      unfold Value.formed at hf
      cases key <;> simp [Tryz.underlying54, hc] at hf
      exact ⟨_, rfl, hf⟩
    obtain ⟨l⟩ := cs
    match l, hsz with
    | [c0, c1, c2, c3, c4], _ =>
      rw [keyLits_struct Tryz.underlying54] at h
      simp only [Value.cells] at h
      simp [hcs, hci, hc, Option.bind_eq_some_iff, List.mapM_cons] at h
      obtain ⟨l0, g0, a1, ⟨l1, g1, a2, ⟨l2, g2, a3, ⟨l3, g3, a4, ⟨l4, g4, rfl⟩, rfl⟩, rfl⟩, rfl⟩, rfl⟩ := h
      obtain ⟨s0, rfl, z0, rfl⟩ := hS _ _ g0
      obtain ⟨s1, rfl, z1, rfl⟩ := hS _ _ g1
      obtain ⟨n2, rfl, z2, rfl⟩ := hI _ _ g2
      obtain ⟨n3, rfl, z3, rfl⟩ := hI _ _ g3
      obtain ⟨n4, rfl, z4, rfl⟩ := hI _ _ g4
      exact ⟨⟨s0, s1, n2, n3, n4⟩, ⟨z0, z1, z2, z3, z4⟩, rfl, by simp [klE]⟩
  · cases h
end Go.Proofs.YtndhhgpmpnmljaaGreatDoor
