import Derived.Test.YtndhhgpmpnmljaaDoorMat6
namespace Go.Proofs.YtndhhgpmpnmljaaDoor
open Go Go.RowKit

/-- A call of Set. -/
structure SetV where
  r : Int
  l : Int
  c : Int
def setC (s : SetV) : List Value := [.int .i64 s.r, .int .i64 s.l, .int .i64 s.c]
def runSets (m : Mx) (l : List SetV) : Mx := l.foldl (fun m s => m.setIf (s.r, s.l) s.c) m
theorem runSets_ok : ∀ (l : List SetV) {m : Mx}, m.OK → (runSets m l).OK
  | [], _, h => h
  | _ :: r, _, h => runSets_ok r (h.setIf _ _)
theorem runSets_take {m : Mx} {l : List SetV} {k : Nat} {s : SetV} (hs : l[k]? = some s) : runSets m (l.take (k + 1)) = (runSets m (l.take k)).setIf (s.r, s.l) s.c := by
  obtain ⟨hk, rfl⟩ := List.getElem?_eq_some_iff.1 hs
  unfold runSets
  rw [List.take_succ_eq_append_getElem hk, List.foldl_append]
  rfl
theorem setIf_n (m : Mx) (x : Int × Int) (c : Int) : (m.setIf x c).n = m.n := by unfold Mx.setIf Mx.set; split <;> rfl
theorem runSets_n (m : Mx) (l : List SetV) : (runSets m l).n = m.n := by
  unfold runSets
  induction l generalizing m with
  | nil => rfl
  | cons s r ih => rw [List.foldl_cons, ih, setIf_n]
/-- One cost alone is changed. -/
theorem setIf_cost {m : Mx} (h : m.OK) (x : Int × Int) (c : Int) (y : Int × Int) : (m.setIf x c).cost y = if m.setB x c = true ∧ y = x then c else m.cost y := by
  cases hb : m.setB x c
  · rw [setIf_no hb]; simp
  · rw [setIf_yes hb]
    have hx : inP m.n x = true := by
      unfold Mx.setB at hb
      simp only [Bool.and_eq_true] at hb
      exact hb.1
    rw [Mx.cost_set h hx]
    simp
end Go.Proofs.YtndhhgpmpnmljaaDoor
