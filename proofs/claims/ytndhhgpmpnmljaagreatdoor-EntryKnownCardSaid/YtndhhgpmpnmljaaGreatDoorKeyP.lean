import Derived.Test.YtndhhgpmpnmljaaGreatDoorCmp
import Derived.DeepKeys4
import Derived.Maps.RangeWalk

namespace Go.Proofs.YtndhhgpmpnmljaaGreatDoor
open Go Go.RowKit

theorem keyLits_struct {P : Program} {d : Nat} {t : TypeId} {fs : Array Field} {cs : List Value} (h : P.underlying t = some (.struct fs)) :
    P.keyLits (d + 1) t cs = if cs.length = P.cellsOf t ∧ fs.all (·.name != "_") = true then (fs.toList.mapM fun f => P.keyLits d f.type ((cs.drop f.offset).take (P.cellsOf f.type))).map List.flatten else none := by
  conv => lhs; unfold Program.keyLits
  simp only [h]
/-- A pair, as a value. -/
def pairV (x : Int × Int) : Value := .agg #[.int .i64 x.1, .int .i64 x.2]
def WfI (n : Int) : Prop := (Lit.int .i64 n).wf = true
/-- What a pair reads as, as a map's key. -/
def klP (x : Int × Int) : Lit := .string (keyBytes [.int .i64 x.1, .int .i64 x.2])
theorem laidOutP : laidOutB Tryz.prog = true := by kernel_rfl
theorem keyedP : Go.Maps.Keyed Tryz.prog 73 := Go.Maps.Keyed.of_law (deep_law_laid laidOutP (m := 3) (by decide) (of_decide_eq_true (by kernel_rfl)) (by kernel_rfl) (by kernel_rfl))
set_option maxRecDepth 100000 in
theorem keyP {x : Int × Int} (h1 : WfI x.1) (h2 : WfI x.2) : Go.keyOf Tryz.prog 73 (pairV x) = some (klP x) := by
  obtain ⟨m, hm⟩ : ∃ m, Tryz.prog.types.size = m + 1 := ⟨Tryz.prog.types.size - 1, by have : 0 < Tryz.prog.types.size := of_decide_eq_true (by kernel_rfl); omega⟩
  have hI : ∀ (n : Int), WfI n → Tryz.prog.keyLits (m + 1) 3 [.int .i64 n] = some [.int .i64 n] := fun n hn => by
    unfold Program.keyLits
    unfold WfI at hn
    simp only [Tryz.underlying3, hn, and_self, if_true]
  have hk : Tryz.prog.keyType 73 = true := by kernel_rfl
  have hc : Tryz.prog.cellsOf 73 = 2 := by kernel_rfl
  have hci : Tryz.prog.cellsOf 3 = 1 := by kernel_rfl
  obtain ⟨a, b⟩ := x
  have g1 := hI a h1
  have g2 := hI b h2
  unfold Go.keyOf
  simp only [Tryz.underlying73, hk, Bool.true_and]
  unfold Value.formed pairV
  simp only [Tryz.underlying73, hc]
  have hz : ((#[Value.int .i64 a, .int .i64 b] : Array Value).size == 2) = true := rfl
  rw [if_pos hz, hm]
  unfold Program.keyLits
  simp only [Tryz.underlying73, hc, Value.cells]
  simp [hci, g1, g2, klP]
theorem klP_inj {x y : Int × Int} (h1 : WfI x.1) (h2 : WfI x.2) (h3 : WfI y.1) (h4 : WfI y.2) (h : klP x = klP y) : x = y := by
  have k1 := keyP h1 h2
  have k2 := keyP h3 h4
  rw [h] at k1
  have := keyedP.inj k1 k2
  obtain ⟨a, b⟩ := x
  obtain ⟨a', b'⟩ := y
  simpa [pairV] using this
set_option maxRecDepth 100000 in
theorem keyP_inv {key : Value} {kl : Lit} (h : Go.keyOf Tryz.prog 73 key = some kl) : ∃ x : Int × Int, WfI x.1 ∧ WfI x.2 ∧ key = pairV x ∧ kl = klP x := by
  obtain ⟨m, hm⟩ : ∃ m, Tryz.prog.types.size = m + 1 := ⟨Tryz.prog.types.size - 1, by have : 0 < Tryz.prog.types.size := of_decide_eq_true (by kernel_rfl); omega⟩
  have hI : ∀ (v : Value) (ls : List Lit), Tryz.prog.keyLits (m + 1) 3 [v] = some ls → ∃ n : Int, v = .int .i64 n ∧ WfI n ∧ ls = [.int .i64 n] := fun v ls h => by
    unfold Program.keyLits at h
    simp only [Tryz.underlying3] at h
    cases v <;> simp at h
    obtain ⟨⟨rfl, h2⟩, h3⟩ := h
    exact ⟨_, rfl, h2, h3.symm⟩
  have hk : Tryz.prog.keyType 73 = true := by kernel_rfl
  have hc : Tryz.prog.cellsOf 73 = 2 := by kernel_rfl
  have hci : Tryz.prog.cellsOf 3 = 1 := by kernel_rfl
  unfold Go.keyOf at h
  simp only [Tryz.underlying73, hk, Bool.true_and] at h
  split at h
  · rename_i hf
    rw [hm] at h
    obtain ⟨cs, rfl, hsz⟩ : ∃ cs, key = .agg cs ∧ cs.size = 2 := by
      unfold Value.formed at hf
      cases key <;> simp [Tryz.underlying73, hc] at hf
      exact ⟨_, rfl, hf⟩
    obtain ⟨l⟩ := cs
    match l, hsz with
    | [c0, c1], _ =>
      rw [keyLits_struct Tryz.underlying73] at h
      simp only [Value.cells] at h
      simp [hci, hc, Option.bind_eq_some_iff, List.mapM_cons] at h
      obtain ⟨l0, g0, ls, ⟨l1, g1, rfl⟩, rfl⟩ := h
      obtain ⟨n2, rfl, z2, rfl⟩ := hI _ _ g0
      obtain ⟨n3, rfl, z3, rfl⟩ := hI _ _ g1
      exact ⟨⟨n2, n3⟩, z2, z3, rfl, by simp [klP]⟩
  · cases h
end Go.Proofs.YtndhhgpmpnmljaaGreatDoor
