/- The texts Env EnvL OpenG Witness, one behind the other. -/
import Derived.Test.YtcdjponbhpchbaaDoorDq1
import Derived.Test.YtcdjponbhpchbaaDoorShelf
import Derived.WalkSmall
import Derived.Lib.LaidTab
import Derived.Test.YtcdjponbhpchbaaDoorCards
import Derived.Test.YtcdjponbhpchbaaDoorTie
import Derived.WalkKit
import Derived.ProofKit
import Derived.OpenShut
import Derived.Deep.DeepHandedRow
import Derived.Deep.DeepWitnessRowRef
import Derived.Lib.LaidIn
import Derived.Lib.LaidU8T
import Derived.Shelf.Vars
import Derived.SizedLaws
import Derived.Carry
import Derived.ChangeSame
import Derived.ChangeMaps5
import Derived.Deep.Slices
namespace Go.Proofs.YtcdjponbhpchbaaDoor
open Go Go.RowKit Go.Shelf

/-- What the library's variables hold. -/
structure Env (w : World) : Prop where
  pow : Lib.TabIs Tryd.prog w "internal/strconv.uint64pow10" .u64 Lib.pow10Tab

theorem gPow : Tryd.prog.globalNamed "internal/strconv.uint64pow10" = some 0 := by kernel_rfl

theorem Env.grows {w w' : World} (h : Env w) (hg : Grows w w') : Env w' where
  pow := var?_below hg.below gPow (World.block_lt_of_cell? w _ (h.pow.cell gPow 0 (by decide))) h.pow
theorem grow_grows (w : World) (k : Nat) (os : Array Obj) : Grows w (Sort.grow (w.drewN k) os) := by
  have h1 : Grows w (w.drewN k) := (Below.refl _ w).trans ⟨rfl, rfl, rfl, Nat.le_refl _, fun _ _ => rfl⟩
  refine h1.tr ⟨rfl, rfl, rfl, by simp [Sort.grow], fun i hi => ?_⟩
  show (_ ++ os)[i]? = _
  rw [Array.getElem?_append_left hi]
theorem iter_grows (w : World) (s : ByteArray) (p : Nat) : Grows w (w.iter s p) := Grows.alloc _ _
end Go.Proofs.YtcdjponbhpchbaaDoor
namespace Go.Proofs.YtcdjponbhpchbaaDoor
open Go Go.ChangeShapes Go.WideShapes Go.ChangeAt Go.RowKit Go.Shelf Go.Lib

theorem own : ownKnob Tryd.prog.godebug = none := by kernel_rfl
theorem laidOut : laidOutB Tryd.prog = true := by kernel_rfl

/-- The list of the rows' variables. -/
def lays : List (String × DataW Unit) := [("math/bits.deBruijn32tab", Rows.laid_math_bits_deBruijn32tab), ("math/bits.deBruijn64tab", Rows.laid_math_bits_deBruijn64tab), ("internal/strconv.uint64pow10", Rows.laid_internal_strconv_uint64pow10)]
theorem e3 : (Rows.laid_internal_strconv_uint64pow10 : DataW Unit) = Lib.tabData .u64 Lib.pow10Tab := by kernel_rfl
theorem lays_met {W : World} (h : laidMetH Tryd.prog lays W) : laidMet Tryd.prog lays W := h
theorem env_of {W : World} (h : laidMetH Tryd.prog lays W) (_ : W.ShapedOpen Tryd.prog) : Env W := by
  have hL := lays_met h
  have r3 : VarReads Tryd.prog W "internal/strconv.uint64pow10" (tabData .u64 pow10Tab) := by
    rw [← e3]; exact laidMet.reads hL (.tail _ (.tail _ (.head _)))
  refine ⟨?_⟩
  obtain ⟨g, t, cs, fuel, p, hg, hty, hvar, hd⟩ := r3
  have ht : (Tryd.prog.globals[0]?).map (·.type) = some 125 := by kernel_rfl
  obtain rfl := Option.some.inj (gPow.symm.trans hg)
  obtain rfl := Option.some.inj (ht.symm.trans hty)
  have hcs := cells_of_tab Tryd.underlying125 Tryd.underlying32 (by kernel_rfl) (by kernel_rfl) hd
  unfold TabIs
  rw [hvar, ← hcs]
end Go.Proofs.YtcdjponbhpchbaaDoor
namespace Go.Proofs.YtcdjponbhpchbaaDoor
open Go Go.ChangeShapes Go.WideShapes Go.ChangeAt Go.RowKit Go.Shelf Go.Lib
open Go.ChangeMaps (open_string shut_string)

theorem build_list {α : Type} {P : Nat → α → Prop} : ∀ (n : Nat), (∀ i, i < n → ∃ x, P i x) → ∃ l : List α, l.length = n ∧ ∀ (i : Nat) (x : α), l[i]? = some x → P i x
  | 0, _ => ⟨[], rfl, fun i x h => by simp at h⟩
  | n + 1, h => by
    obtain ⟨l, hl, hp⟩ := build_list n (fun i hi => h i (by omega))
    obtain ⟨x, hx⟩ := h n (by omega)
    refine ⟨l ++ [x], by simp [hl], fun i y hy => ?_⟩
    rcases Nat.lt_or_ge i l.length with hlt | hge
    · rw [List.getElem?_append_left hlt] at hy; exact hp i y hy
    · rw [List.getElem?_append_right hge] at hy
      have h0 : i - l.length = 0 := by
        rcases Nat.eq_zero_or_pos (i - l.length) with h | h
        · exact h
        · rw [List.getElem?_eq_none (by simp; omega)] at hy; cases hy
      rw [h0] at hy
      obtain rfl : x = y := by simpa using hy
      obtain rfl : i = n := by omega
      exact hx
theorem spot_none {w : World} {a : Addr} {v : Value} (h : w.cell? a = some v) : a.spot = none := by
  obtain ⟨b, o, s⟩ := a
  cases s with
  | none => rfl
  | some s =>
    unfold World.cell? at h
    simp at h
    split at h <;> cases h
theorem add_zero_off {b o j : Nat} : (⟨b, o, none⟩ : Addr).add j = ⟨b, o + j, none⟩ := by
  unfold Addr.add
  by_cases h0 : j = 0
  · subst h0; simp
  · simp [h0]

section
variable {H : Type} {enc : TypeId × Value → H} {P : Program} {w : World} {base : Nat} {spare : Nat → Bool} {held : Bool}
/-- A slice that came in, as a list. -/
theorem open_rows {α : Type} {cells : α → List Value} {OK : α → Prop} {t e : TypeId} {k : Nat} {r : Reach} {b0 : Nat} {v : Value} {d : DataW H} {ps : List MemPlace} (ht : P.underlying t = some (.slice e)) (hC : P.cellsOf e = k) (hk : 0 < k) (hlen : ∀ y, (cells y).length = k)
    (hdec : ∀ (n : Nat) (cs : List Value) (x : DataW H × List MemPlace), cs.length = k → DataW.trod enc P w base spare held n e cs = some x → ∃ y : α, cs = cells y ∧ OK y)
    (hval : Value.okWide P w r b0 t v) (h : DataW.Trod enc P w base spare held t v d ps) :
    ∃ (a : Option Addr) (l : List α) (cap : Nat), v = .slice a l.length cap ∧ AtCells w a k (l.map cells) ∧ (∀ x ∈ l, OK x) ∧ (d = .nil ∧ l = [] ∨ ∃ el sp, d = .slice el sp ∧ el.length = l.length) := by
  obtain ⟨a, len, cap, rfl⟩ := okWide_slice ht hval
  obtain ⟨fuel, hf⟩ := h
  have hc : (Value.slice a len cap).cells.toList = [.slice a len cap] := by rfl
  rcases Go.Deep.open_slice ht (by simpa [Value.cells] using hf) with ⟨h1, h2⟩ | ⟨a', len', cap', m, n, D, Pl, h1, hb, hle, hcap, hm, hx, hi⟩
  · obtain ⟨rfl, rfl, rfl⟩ : a = none ∧ len = 0 ∧ cap = 0 := by simpa using h1
    simp only [Prod.mk.injEq] at h2
    exact ⟨none, [], 0, rfl, AtCells.nil _ _ _, by simp, Or.inl ⟨h2.1, rfl⟩⟩
  · obtain ⟨rfl, rfl, rfl⟩ : a = some a' ∧ len = len' ∧ cap = cap' := by simpa using h1
    simp only [Prod.mk.injEq] at hx
    obtain ⟨l, hl, hp⟩ := build_list (P := fun i (y : α) => OK y ∧ ∀ (j : Nat) (u : Value), (cells y)[j]? = some u → w.cell? (a'.add (i * k + j)) = some u) len (fun i hlt => by
      have him : i < m := by rw [hm]; split <;> omega
      obtain ⟨cs, hcs, htr⟩ := hi i him
      rw [hC] at hcs
      obtain ⟨_, hcl, hat⟩ := World.cells?_some hcs
      obtain ⟨y, rfl, hok⟩ := hdec _ _ _ hcl htr
      refine ⟨y, hok, fun j u hu => ?_⟩
      have hj : j < k := by rw [← hcl]; exact (List.getElem?_eq_some_iff.1 hu).1
      rw [← Go.Deep.add_add]
      exact (hat j hj).trans hu)
    subst hl
    refine ⟨some a', l, cap, rfl, fun hne => ?_, fun x hx => ?_, Or.inr ⟨_, _, hx.1, by simp⟩⟩
    · have hs : a'.spot = none := by
        cases l with
        | nil => simp at hne
        | cons y0 r =>
          have h0 : 0 < (cells y0).length := by rw [hlen]; exact hk
          have := (hp 0 y0 rfl).2 0 _ (List.getElem?_eq_getElem h0)
          have h2 := spot_none this
          rw [Nat.zero_mul, Nat.zero_add] at h2
          simpa [Addr.add] using h2
      obtain ⟨b, off, s⟩ := a'
      obtain rfl : s = none := hs
      refine ⟨b, off, rfl, fun i row hi2 j u hj => ?_⟩
      rw [List.getElem?_map] at hi2
      cases hx2 : l[i]? with
      | none => rw [hx2] at hi2; cases hi2
      | some y =>
        rw [hx2] at hi2
        obtain rfl := Option.some.inj hi2
        have := (hp i y hx2).2 j u hj
        rw [add_zero_off] at this
        rw [Nat.add_assoc]; exact this
    · obtain ⟨i, hlt, rfl⟩ := List.getElem_of_mem hx
      exact (hp i _ (List.getElem?_eq_getElem hlt)).1
end

theorem slice_nil {H : Type} {enc : TypeId × Value → H} {P : Program} {w : World} {base : Nat} {spare : Nat → Bool} {held : Bool} {t e : TypeId} {a : Option Addr} {n c : Nat} {d : DataW H} {ps : List MemPlace} (ht : P.underlying t = some (.slice e)) (h : DataW.Trod enc P w base spare held t (.slice a n c) d ps) : a = none → c = 0 := by
  intro ha
  subst ha
  obtain ⟨fuel, hf⟩ := h
  rcases Go.Deep.open_slice ht (by simpa [Value.cells] using hf) with ⟨h1, _⟩ | ⟨a', len', cap', m, n', D, Pl, h1, _⟩
  · have : n = 0 ∧ c = 0 := by simpa using h1
    exact this.2
  · simp at h1
/-- The form's reach bounds a slice's length. -/
theorem reach_len {H : Type} {P : Program} {ts : List TypeId} {ds : List (DataW H)} (h : (DataW.weightsEach P ts ds).all (· ≤ reachBytes) = true) {j : Nat} {t e : TypeId} {d : DataW H} {n : Nat} (ht : ts[j]? = some t) (hd : ds[j]? = some d) (hu : P.underlying t = some (.slice e)) (hb : 1 ≤ P.bytesOf e)
    (hn : d = .nil ∧ n = 0 ∨ ∃ el sp, d = .slice el sp ∧ el.length = n) : n ≤ 140737488355328 := by
  rcases hn with ⟨_, rfl⟩ | ⟨el, sp, rfl, rfl⟩
  · exact Nat.zero_le _
  · have h1 := sized_slice h ht hd hu
    have h2 : el.length + sp.length ≤ (el.length + sp.length) * P.bytesOf e := Nat.le_mul_of_pos_right _ hb
    have h3 : reachBytes < 2 ^ 47 := reachBytes_lt
    omega
theorem slice_cap {H : Type} {enc : TypeId × Value → H} {P : Program} {w : World} {base : Nat} {spare : Nat → Bool} {held : Bool} {t e : TypeId} {a : Option Addr} {n c : Nat} {d : DataW H} {ps : List MemPlace} (ht : P.underlying t = some (.slice e)) (h : DataW.Trod enc P w base spare held t (.slice a n c) d ps) : n ≤ c := by
  obtain ⟨fuel, hf⟩ := h
  rcases Go.Deep.open_slice ht (by simpa [Value.cells] using hf) with ⟨h1, _⟩ | ⟨a', len', cap', m, n', D, Pl, h1, hb, hle, _⟩
  · have : a = none ∧ n = 0 ∧ c = 0 := by simpa using h1
    omega
  · obtain ⟨_, rfl, rfl⟩ : a = some a' ∧ n = len' ∧ c = cap' := by simpa using h1
    exact hle
/-- .. and the bytes that its elements take. -/
theorem reach_bytes {H : Type} {P : Program} {ts : List TypeId} {ds : List (DataW H)} (h : (DataW.weightsEach P ts ds).all (· ≤ reachBytes) = true) {j : Nat} {t e : TypeId} {d : DataW H} {n k : Nat} (ht : ts[j]? = some t) (hd : ds[j]? = some d) (hu : P.underlying t = some (.slice e)) (hb : P.bytesOf e = k)
    (hn : d = .nil ∧ n = 0 ∨ ∃ el sp, d = .slice el sp ∧ el.length = n) : n * k ≤ 140737488355328 := by
  rcases hn with ⟨_, rfl⟩ | ⟨el, sp, rfl, rfl⟩
  · rw [Nat.zero_mul]; exact Nat.zero_le _
  · have h1 := sized_slice h ht hd hu
    rw [hb] at h1
    have h2 : el.length * k ≤ (el.length + sp.length) * k := Nat.mul_le_mul_right k (Nat.le_add_right _ _)
    have h3 : reachBytes < 2 ^ 47 := reachBytes_lt
    omega
section
variable {H : Type} {enc : TypeId × Value → H} {P : Program} {w : World} {base : Nat} {spare : Nat → Bool} {held : Bool}
/-- Five parameters. -/
theorem trodAll_five {t0 t1 t2 t3 t4 : TypeId} {args : Array Value} {ds : List (DataW H)} {ps : List MemPlace} (h : DataW.TrodAll enc P w base spare held [t0, t1, t2, t3, t4] args.toList ds ps) :
    ∃ v0 v1 v2 v3 v4 d0 d1 d2 d3 d4 p0 p1 p2 p3 p4, args = #[v0, v1, v2, v3, v4] ∧ ds = [d0, d1, d2, d3, d4] ∧ ps = p0 ++ p1 ++ p2 ++ p3 ++ p4 ∧ DataW.Trod enc P w base spare held t0 v0 d0 p0 ∧ DataW.Trod enc P w base spare held t1 v1 d1 p1 ∧ DataW.Trod enc P w base spare held t2 v2 d2 p2 ∧ DataW.Trod enc P w base spare held t3 v3 d3 p3 ∧ DataW.Trod enc P w base spare held t4 v4 d4 p4 := by
  obtain ⟨v0, vs0, d0, ds0, p0, q0, hargs, rfl, rfl, hd0, hrest0⟩ := trodAll_cons h
  obtain ⟨v1, vs1, d1, ds1, p1, q1, rfl, rfl, rfl, hd1, hrest1⟩ := trodAll_cons hrest0
  obtain ⟨v2, vs2, d2, ds2, p2, q2, rfl, rfl, rfl, hd2, hrest2⟩ := trodAll_cons hrest1
  obtain ⟨v3, vs3, d3, ds3, p3, q3, rfl, rfl, rfl, hd3, hrest3⟩ := trodAll_cons hrest2
  obtain ⟨v4, vs4, d4, ds4, p4, q4, rfl, rfl, rfl, hd4, hrest4⟩ := trodAll_cons hrest3
  obtain ⟨rfl, rfl, rfl⟩ := trodAll_nil hrest4
  exact ⟨v0, v1, v2, v3, v4, d0, d1, d2, d3, d4, p0, p1, p2, p3, p4, by cases args; simp_all, rfl, by simp, hd0, hd1, hd2, hd3, hd4⟩
theorem trodAll_mk5 {t0 t1 t2 t3 t4 : TypeId} {v0 v1 v2 v3 v4 : Value} {d0 d1 d2 d3 d4 : DataW H} {p0 p1 p2 p3 p4 : List MemPlace} (h0 : DataW.Trod enc P w base spare held t0 v0 d0 p0) (h1 : DataW.Trod enc P w base spare held t1 v1 d1 p1)
    (h2 : DataW.Trod enc P w base spare held t2 v2 d2 p2) (h3 : DataW.Trod enc P w base spare held t3 v3 d3 p3) (h4 : DataW.Trod enc P w base spare held t4 v4 d4 p4) : DataW.TrodAll enc P w base spare held [t0, t1, t2, t3, t4] [v0, v1, v2, v3, v4] [d0, d1, d2, d3, d4] (p0 ++ (p1 ++ (p2 ++ (p3 ++ p4)))) := ⟨p0, p1 ++ (p2 ++ (p3 ++ p4)), h0, trodAll_mk4 h1 h2 h3 h4, rfl⟩
end
end Go.Proofs.YtcdjponbhpchbaaDoor
namespace Go.Proofs.YtcdjponbhpchbaaDoor
open Go Go.ChangeShapes Go.WideShapes Go.ChangeAt Go.RowKit Go.Shelf Go.Lib

/-- A world for the witness: the settled one, the listed variables holding what their initialisers lay. -/
noncomputable def laidWorld (os : Os) : World :=
  let w0 := World.holding Tryd.prog os ⟨#[], #[], []⟩
  let put (h : Array Obj) (g : Nat) (cs : Array Value) : Array Obj := h.modify g fun
    | .cells _ t frozen => .cells cs t frozen
    | o => o
  let ints (d : DataW Unit) : Array Value := match d with
    | .agg l => (l.map fun x => match x with
      | .lit (.int k z) => Value.int k z
      | _ => .nilIface).toArray
    | _ => #[]
  let h3 := put w0.heap 0 (Lib.pow10Tab.map fun z => Value.int .u64 z).toArray
  let h4 := put h3 1 (ints Rows.laid_math_bits_deBruijn32tab)
  let h5 := put h4 2 (ints Rows.laid_math_bits_deBruijn64tab)
  { w0 with heap := h5 }
theorem laid_met (os : Os) (args : Array Value) : laidMet Tryd.prog lays ((laidWorld os).forCall (fun _ _ => 0) ⟨#[], args, []⟩).memory :=
  (LaidIn.of_run (l := lays) [0, 1, 2] 10 (by kernel_rfl) (by kernel_rfl) (by kernel_rfl) (by kernel_rfl)).met
end Go.Proofs.YtcdjponbhpchbaaDoor
