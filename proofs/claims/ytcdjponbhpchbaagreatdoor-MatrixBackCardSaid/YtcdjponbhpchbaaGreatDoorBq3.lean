/- The texts Env EnvL OpenG Witness Split, one behind the other. -/
import Derived.Test.YtcdjponbhpchbaaGreatDoorBq1
import Derived.Test.YtcdjponbhpchbaaGreatDoorShelf
import Derived.WalkSmall
import Derived.Lib.LaidTab
import Derived.Test.YtcdjponbhpchbaaGreatDoorCards
import Derived.Test.YtcdjponbhpchbaaGreatDoorTie
import Derived.WalkKit
import Derived.ProofKit
import Derived.OpenShut
import Derived.Deep.DeepHandedRow
import Derived.Deep.DeepWitnessRowRef
import Derived.Lib.LaidIn
import Derived.Lib.LaidU8T
import Derived.Shelf.Vars
import Derived.SizedLaws
import Derived.Carry
import Derived.ChangeSame
import Derived.ChangeMaps5
import Derived.Deep.Slices
import Derived.Lib.SplitLaws
namespace Go.Proofs.YtcdjponbhpchbaaGreatDoor
open Go Go.RowKit Go.Shelf

/-- What the library's variables hold. -/
structure Env (w : World) : Prop where
  mx : ∃ m, w.cell? ⟨2, 0, none⟩ = some (.int .i64 m)
  pow : Lib.TabIs Tryz.prog w "internal/strconv.uint64pow10" .u64 Lib.pow10Tab

theorem gPow : Tryz.prog.globalNamed "internal/strconv.uint64pow10" = some 3 := by kernel_rfl

theorem Env.grows {w w' : World} (h : Env w) (hg : Grows w w') : Env w' where
  mx := let ⟨m, hm⟩ := h.mx; ⟨m, hg.cell hm⟩
  pow := var?_below hg.below gPow (World.block_lt_of_cell? w _ (h.pow.cell gPow 0 (by decide))) h.pow
theorem grow_grows (w : World) (k : Nat) (os : Array Obj) : Grows w (Sort.grow (w.drewN k) os) := by
  have h1 : Grows w (w.drewN k) := (Below.refl _ w).trans ⟨rfl, rfl, rfl, Nat.le_refl _, fun _ _ => rfl⟩
  refine h1.tr ⟨rfl, rfl, rfl, by simp [Sort.grow], fun i hi => ?_⟩
  show (_ ++ os)[i]? = _
  rw [Array.getElem?_append_left hi]
theorem iter_grows (w : World) (s : ByteArray) (p : Nat) : Grows w (w.iter s p) := Grows.alloc _ _
end Go.Proofs.YtcdjponbhpchbaaGreatDoor
namespace Go.Proofs.YtcdjponbhpchbaaGreatDoor
open Go Go.ChangeShapes Go.WideShapes Go.ChangeAt Go.RowKit Go.Shelf Go.Lib

theorem own : ownKnob Tryz.prog.godebug = none := by kernel_rfl
theorem laidOut : laidOutB Tryz.prog = true := by kernel_rfl

/-- The list of the rows' variables. -/
def lays : List (String × DataW Unit) := [("math/bits.deBruijn32tab", Rows.laid_math_bits_deBruijn32tab), ("math/bits.deBruijn64tab", Rows.laid_math_bits_deBruijn64tab), ("internal/strconv.uint64pow10", Rows.laid_internal_strconv_uint64pow10), ("unicode/utf8.acceptRanges", Rows.laid_unicode_utf8_acceptRanges), ("strconv.ErrRange", Rows.laid_strconv_ErrRange), ("strconv.ErrSyntax", Rows.laid_strconv_ErrSyntax), ("unicode/utf8.first", Rows.laid_unicode_utf8_first)]
theorem e3 : (Rows.laid_internal_strconv_uint64pow10 : DataW Unit) = Lib.tabData .u64 Lib.pow10Tab := by kernel_rfl
theorem lays_met {W : World} (h : laidMetH Tryz.prog lays W) : laidMet Tryz.prog lays W := h
theorem env_of {W : World} (h : laidMetH Tryz.prog lays W) (hS : W.ShapedOpen Tryz.prog) : Env W := by
  have hL := lays_met h
  have r3 : VarReads Tryz.prog W "internal/strconv.uint64pow10" (tabData .u64 pow10Tab) := by
    rw [← e3]; exact laidMet.reads hL (.tail _ (.tail _ (.head _)))
  refine ⟨?_, ?_⟩
  · exact cell_of_shapedOpen_int (P := Tryz.prog) (g := 2) (t := 3) (zero := #[.int .i64 0]) hS (of_decide_eq_true (by kernel_rfl)) (by kernel_rfl) rfl (by kernel_rfl) (by kernel_rfl) Tryz.underlying3
  · obtain ⟨g, t, cs, fuel, p, hg, hty, hvar, hd⟩ := r3
    have ht : (Tryz.prog.globals[3]?).map (·.type) = some 177 := by kernel_rfl
    obtain rfl := Option.some.inj (gPow.symm.trans hg)
    obtain rfl := Option.some.inj (ht.symm.trans hty)
    have hcs := cells_of_tab Tryz.underlying177 Tryz.underlying82 (by kernel_rfl) (by kernel_rfl) hd
    unfold TabIs
    rw [hvar, ← hcs]
end Go.Proofs.YtcdjponbhpchbaaGreatDoor
namespace Go.Proofs.YtcdjponbhpchbaaGreatDoor
open Go Go.ChangeShapes Go.WideShapes Go.ChangeAt Go.RowKit Go.Shelf Go.Lib
open Go.ChangeMaps (open_string shut_string)

theorem build_list {α : Type} {P : Nat → α → Prop} : ∀ (n : Nat), (∀ i, i < n → ∃ x, P i x) → ∃ l : List α, l.length = n ∧ ∀ (i : Nat) (x : α), l[i]? = some x → P i x
  | 0, _ => ⟨[], rfl, fun i x h => by simp at h⟩
  | n + 1, h => by
    obtain ⟨l, hl, hp⟩ := build_list n (fun i hi => h i (by omega))
    obtain ⟨x, hx⟩ := h n (by omega)
    refine ⟨l ++ [x], by simp [hl], fun i y hy => ?_⟩
    rcases Nat.lt_or_ge i l.length with hlt | hge
    · rw [List.getElem?_append_left hlt] at hy; exact hp i y hy
    · rw [List.getElem?_append_right hge] at hy
      have h0 : i - l.length = 0 := by
        rcases Nat.eq_zero_or_pos (i - l.length) with h | h
        · exact h
        · rw [List.getElem?_eq_none (by simp; omega)] at hy; cases hy
      rw [h0] at hy
      obtain rfl : x = y := by simpa using hy
      obtain rfl : i = n := by omega
      exact hx
theorem spot_none {w : World} {a : Addr} {v : Value} (h : w.cell? a = some v) : a.spot = none := by
  obtain ⟨b, o, s⟩ := a
  cases s with
  | none => rfl
  | some s =>
    unfold World.cell? at h
    simp at h
    split at h <;> cases h
theorem add_zero_off {b o j : Nat} : (⟨b, o, none⟩ : Addr).add j = ⟨b, o + j, none⟩ := by
  unfold Addr.add
  by_cases h0 : j = 0
  · subst h0; simp
  · simp [h0]

section
variable {H : Type} {enc : TypeId × Value → H} {P : Program} {w : World} {base : Nat} {spare : Nat → Bool} {held : Bool}
/-- A slice that came in, as a list. -/
theorem open_rows {α : Type} {cells : α → List Value} {OK : α → Prop} {t e : TypeId} {k : Nat} {r : Reach} {b0 : Nat} {v : Value} {d : DataW H} {ps : List MemPlace} (ht : P.underlying t = some (.slice e)) (hC : P.cellsOf e = k) (hk : 0 < k) (hlen : ∀ y, (cells y).length = k)
    (hdec : ∀ (n : Nat) (cs : List Value) (x : DataW H × List MemPlace), cs.length = k → DataW.trod enc P w base spare held n e cs = some x → ∃ y : α, cs = cells y ∧ OK y)
    (hval : Value.okWide P w r b0 t v) (h : DataW.Trod enc P w base spare held t v d ps) :
    ∃ (a : Option Addr) (l : List α) (cap : Nat), v = .slice a l.length cap ∧ AtCells w a k (l.map cells) ∧ (∀ x ∈ l, OK x) ∧ (d = .nil ∧ l = [] ∨ ∃ el sp, d = .slice el sp ∧ el.length = l.length) := by
  obtain ⟨a, len, cap, rfl⟩ := okWide_slice ht hval
  obtain ⟨fuel, hf⟩ := h
  have hc : (Value.slice a len cap).cells.toList = [.slice a len cap] := by rfl
  rcases Go.Deep.open_slice ht (by simpa [Value.cells] using hf) with ⟨h1, h2⟩ | ⟨a', len', cap', m, n, D, Pl, h1, hb, hle, hcap, hm, hx, hi⟩
  · obtain ⟨rfl, rfl, rfl⟩ : a = none ∧ len = 0 ∧ cap = 0 := by simpa using h1
    simp only [Prod.mk.injEq] at h2
    exact ⟨none, [], 0, rfl, AtCells.nil _ _ _, by simp, Or.inl ⟨h2.1, rfl⟩⟩
  · obtain ⟨rfl, rfl, rfl⟩ : a = some a' ∧ len = len' ∧ cap = cap' := by simpa using h1
    simp only [Prod.mk.injEq] at hx
    obtain ⟨l, hl, hp⟩ := build_list (P := fun i (y : α) => OK y ∧ ∀ (j : Nat) (u : Value), (cells y)[j]? = some u → w.cell? (a'.add (i * k + j)) = some u) len (fun i hlt => by
      have him : i < m := by rw [hm]; split <;> omega
      obtain ⟨cs, hcs, htr⟩ := hi i him
      rw [hC] at hcs
      obtain ⟨_, hcl, hat⟩ := World.cells?_some hcs
      obtain ⟨y, rfl, hok⟩ := hdec _ _ _ hcl htr
      refine ⟨y, hok, fun j u hu => ?_⟩
      have hj : j < k := by rw [← hcl]; exact (List.getElem?_eq_some_iff.1 hu).1
      rw [← Go.Deep.add_add]
      exact (hat j hj).trans hu)
    subst hl
    refine ⟨some a', l, cap, rfl, fun hne => ?_, fun x hx => ?_, Or.inr ⟨_, _, hx.1, by simp⟩⟩
    · have hs : a'.spot = none := by
        cases l with
        | nil => simp at hne
        | cons y0 r =>
          have h0 : 0 < (cells y0).length := by rw [hlen]; exact hk
          have := (hp 0 y0 rfl).2 0 _ (List.getElem?_eq_getElem h0)
          have h2 := spot_none this
          rw [Nat.zero_mul, Nat.zero_add] at h2
          simpa [Addr.add] using h2
      obtain ⟨b, off, s⟩ := a'
      obtain rfl : s = none := hs
      refine ⟨b, off, rfl, fun i row hi2 j u hj => ?_⟩
      rw [List.getElem?_map] at hi2
      cases hx2 : l[i]? with
      | none => rw [hx2] at hi2; cases hi2
      | some y =>
        rw [hx2] at hi2
        obtain rfl := Option.some.inj hi2
        have := (hp i y hx2).2 j u hj
        rw [add_zero_off] at this
        rw [Nat.add_assoc]; exact this
    · obtain ⟨i, hlt, rfl⟩ := List.getElem_of_mem hx
      exact (hp i _ (List.getElem?_eq_getElem hlt)).1
end

theorem slice_nil {H : Type} {enc : TypeId × Value → H} {P : Program} {w : World} {base : Nat} {spare : Nat → Bool} {held : Bool} {t e : TypeId} {a : Option Addr} {n c : Nat} {d : DataW H} {ps : List MemPlace} (ht : P.underlying t = some (.slice e)) (h : DataW.Trod enc P w base spare held t (.slice a n c) d ps) : a = none → c = 0 := by
  intro ha
  subst ha
  obtain ⟨fuel, hf⟩ := h
  rcases Go.Deep.open_slice ht (by simpa [Value.cells] using hf) with ⟨h1, _⟩ | ⟨a', len', cap', m, n', D, Pl, h1, _⟩
  · have : n = 0 ∧ c = 0 := by simpa using h1
    exact this.2
  · simp at h1
/-- The form's reach bounds a slice's length. -/
theorem reach_len {H : Type} {P : Program} {ts : List TypeId} {ds : List (DataW H)} (h : (DataW.weightsEach P ts ds).all (· ≤ reachBytes) = true) {j : Nat} {t e : TypeId} {d : DataW H} {n : Nat} (ht : ts[j]? = some t) (hd : ds[j]? = some d) (hu : P.underlying t = some (.slice e)) (hb : 1 ≤ P.bytesOf e)
    (hn : d = .nil ∧ n = 0 ∨ ∃ el sp, d = .slice el sp ∧ el.length = n) : n ≤ 140737488355328 := by
  rcases hn with ⟨_, rfl⟩ | ⟨el, sp, rfl, rfl⟩
  · exact Nat.zero_le _
  · have h1 := sized_slice h ht hd hu
    have h2 : el.length + sp.length ≤ (el.length + sp.length) * P.bytesOf e := Nat.le_mul_of_pos_right _ hb
    have h3 : reachBytes < 2 ^ 47 := reachBytes_lt
    omega
theorem slice_cap {H : Type} {enc : TypeId × Value → H} {P : Program} {w : World} {base : Nat} {spare : Nat → Bool} {held : Bool} {t e : TypeId} {a : Option Addr} {n c : Nat} {d : DataW H} {ps : List MemPlace} (ht : P.underlying t = some (.slice e)) (h : DataW.Trod enc P w base spare held t (.slice a n c) d ps) : n ≤ c := by
  obtain ⟨fuel, hf⟩ := h
  rcases Go.Deep.open_slice ht (by simpa [Value.cells] using hf) with ⟨h1, _⟩ | ⟨a', len', cap', m, n', D, Pl, h1, hb, hle, _⟩
  · have : a = none ∧ n = 0 ∧ c = 0 := by simpa using h1
    omega
  · obtain ⟨_, rfl, rfl⟩ : a = some a' ∧ n = len' ∧ c = cap' := by simpa using h1
    exact hle
/-- .. and the bytes that its elements take. -/
theorem reach_bytes {H : Type} {P : Program} {ts : List TypeId} {ds : List (DataW H)} (h : (DataW.weightsEach P ts ds).all (· ≤ reachBytes) = true) {j : Nat} {t e : TypeId} {d : DataW H} {n k : Nat} (ht : ts[j]? = some t) (hd : ds[j]? = some d) (hu : P.underlying t = some (.slice e)) (hb : P.bytesOf e = k)
    (hn : d = .nil ∧ n = 0 ∨ ∃ el sp, d = .slice el sp ∧ el.length = n) : n * k ≤ 140737488355328 := by
  rcases hn with ⟨_, rfl⟩ | ⟨el, sp, rfl, rfl⟩
  · rw [Nat.zero_mul]; exact Nat.zero_le _
  · have h1 := sized_slice h ht hd hu
    rw [hb] at h1
    have h2 : el.length * k ≤ (el.length + sp.length) * k := Nat.mul_le_mul_right k (Nat.le_add_right _ _)
    have h3 : reachBytes < 2 ^ 47 := reachBytes_lt
    omega
section
variable {H : Type} {enc : TypeId × Value → H} {P : Program} {w : World} {base : Nat} {spare : Nat → Bool} {held : Bool}
/-- Five parameters. -/
theorem trodAll_five {t0 t1 t2 t3 t4 : TypeId} {args : Array Value} {ds : List (DataW H)} {ps : List MemPlace} (h : DataW.TrodAll enc P w base spare held [t0, t1, t2, t3, t4] args.toList ds ps) :
    ∃ v0 v1 v2 v3 v4 d0 d1 d2 d3 d4 p0 p1 p2 p3 p4, args = #[v0, v1, v2, v3, v4] ∧ ds = [d0, d1, d2, d3, d4] ∧ ps = p0 ++ p1 ++ p2 ++ p3 ++ p4 ∧ DataW.Trod enc P w base spare held t0 v0 d0 p0 ∧ DataW.Trod enc P w base spare held t1 v1 d1 p1 ∧ DataW.Trod enc P w base spare held t2 v2 d2 p2 ∧ DataW.Trod enc P w base spare held t3 v3 d3 p3 ∧ DataW.Trod enc P w base spare held t4 v4 d4 p4 := by
  obtain ⟨v0, vs0, d0, ds0, p0, q0, hargs, rfl, rfl, hd0, hrest0⟩ := trodAll_cons h
  obtain ⟨v1, vs1, d1, ds1, p1, q1, rfl, rfl, rfl, hd1, hrest1⟩ := trodAll_cons hrest0
  obtain ⟨v2, vs2, d2, ds2, p2, q2, rfl, rfl, rfl, hd2, hrest2⟩ := trodAll_cons hrest1
  obtain ⟨v3, vs3, d3, ds3, p3, q3, rfl, rfl, rfl, hd3, hrest3⟩ := trodAll_cons hrest2
  obtain ⟨v4, vs4, d4, ds4, p4, q4, rfl, rfl, rfl, hd4, hrest4⟩ := trodAll_cons hrest3
  obtain ⟨rfl, rfl, rfl⟩ := trodAll_nil hrest4
  exact ⟨v0, v1, v2, v3, v4, d0, d1, d2, d3, d4, p0, p1, p2, p3, p4, by cases args; simp_all, rfl, by simp, hd0, hd1, hd2, hd3, hd4⟩
theorem trodAll_mk5 {t0 t1 t2 t3 t4 : TypeId} {v0 v1 v2 v3 v4 : Value} {d0 d1 d2 d3 d4 : DataW H} {p0 p1 p2 p3 p4 : List MemPlace} (h0 : DataW.Trod enc P w base spare held t0 v0 d0 p0) (h1 : DataW.Trod enc P w base spare held t1 v1 d1 p1)
    (h2 : DataW.Trod enc P w base spare held t2 v2 d2 p2) (h3 : DataW.Trod enc P w base spare held t3 v3 d3 p3) (h4 : DataW.Trod enc P w base spare held t4 v4 d4 p4) : DataW.TrodAll enc P w base spare held [t0, t1, t2, t3, t4] [v0, v1, v2, v3, v4] [d0, d1, d2, d3, d4] (p0 ++ (p1 ++ (p2 ++ (p3 ++ p4)))) := ⟨p0, p1 ++ (p2 ++ (p3 ++ p4)), h0, trodAll_mk4 h1 h2 h3 h4, rfl⟩
end
end Go.Proofs.YtcdjponbhpchbaaGreatDoor
namespace Go.Proofs.YtcdjponbhpchbaaGreatDoor
open Go Go.ChangeShapes Go.WideShapes Go.ChangeAt Go.RowKit Go.Shelf Go.Lib

noncomputable def low : Nat := (World.settled Tryz.prog default).heap.size
/-- A world for the witness: the settled one, the listed variables holding what their initialisers lay. -/
noncomputable def laidWorld (os : Os) : World :=
  let w0 := World.holding Tryz.prog os ⟨#[.cells #[.string ⟨#[118, 97, 108, 117, 101, 32, 111, 117, 116, 32, 111, 102, 32, 114, 97, 110, 103, 101]⟩] 186, .cells #[.string ⟨#[105, 110, 118, 97, 108, 105, 100, 32, 115, 121, 110, 116, 97, 120]⟩] 186], #[], []⟩
  let put (h : Array Obj) (g : Nat) (cs : Array Value) : Array Obj := h.modify g fun
    | .cells _ t frozen => .cells cs t frozen
    | o => o
  let ints (d : DataW Unit) : Array Value := match d with
    | .agg l => (l.map fun x => match x with
      | .lit (.int k z) => Value.int k z
      | _ => .nilIface).toArray
    | _ => #[]
  let h1 := put w0.heap 4 (Lib.firstTab.map fun z => Value.int .u8 z).toArray
  let h2 := put h1 5 ((List.range 16).flatMap fun i => [Value.int .u8 (Lib.accLo i), Value.int .u8 (Lib.accHi i)]).toArray
  let h3 := put h2 3 (Lib.pow10Tab.map fun z => Value.int .u64 z).toArray
  let h4 := put h3 6 (ints Rows.laid_math_bits_deBruijn32tab)
  let h5 := put h4 7 (ints Rows.laid_math_bits_deBruijn64tab)
  let h6 := put h5 1 #[.iface 184 (.pointer (some ⟨low, 0, none⟩))]
  let h7 := put h6 0 #[.iface 184 (.pointer (some ⟨low + 1, 0, none⟩))]
  { w0 with heap := h7 }
theorem laid_met (os : Os) (args : Array Value) : laidMet Tryz.prog lays ((laidWorld os).forCall (fun _ _ => 0) ⟨#[], args, []⟩).memory :=
  (LaidIn.of_run (l := lays) [4, 5, 3, 6, 7, 1, 0, low, low + 1] 10 (by kernel_rfl) (by kernel_rfl) (by kernel_rfl) (by kernel_rfl)).met
end Go.Proofs.YtcdjponbhpchbaaGreatDoor
namespace Go.Proofs.YtcdjponbhpchbaaGreatDoor
open Go Go.RowKit Go.Shelf

/-- The pieces of a string between the bytes c. -/
def splitS (c : UInt8) (s : ByteArray) : List ByteArray := Lib.splitB ⟨#[c]⟩ 0 (Lib.countB s ⟨#[c]⟩) s
theorem splitB_size (c : UInt8) : ∀ (k : Nat) (s x : ByteArray), x ∈ Lib.splitB ⟨#[c]⟩ 0 k s → x.size ≤ s.size
  | 0, s, x, h => by rw [Lib.splitB_zero] at h; simp at h; rw [h]; exact Nat.le_refl _
  | k + 1, s, x, h => by
    unfold Lib.splitB at h
    split at h
    · simp at h; rw [h]; exact Nat.le_refl _
    · rcases List.mem_cons.1 h with h | h
      · rw [h, ByteArray.size_extract]; omega
      · have := splitB_size c k _ x h
        rw [ByteArray.size_extract] at this; omega
theorem splitS_size {c : UInt8} {s x : ByteArray} (h : x ∈ splitS c s) : x.size ≤ s.size := splitB_size c _ s x h
theorem infoStr : (Tryz.prog.info? 9).map (fun i => (i.zero, i.size, i.bytes)) = some (some (.string ByteArray.empty), 1, 16) := by kernel_rfl
def strCell (x : ByteArray) : List Value := [.string x]
theorem split_any (c : UInt8) (s : ByteArray) (w : World) (hs : s.size < 4294967281) (he : Env w) :
    Calls Tryz.prog 25 #[.string s, .string ⟨#[c]⟩] w fun e w' => e = .returned (.slice (some ⟨w.heap.size, 0, none⟩) (splitS c s).length (splitS c s).length) ∧
      AtCells w' (some ⟨w.heap.size, 0, none⟩) 1 ((splitS c s).map strCell) ∧ Grows w w' := by
  obtain ⟨m, hm⟩ := he.mx
  have h1c : 1 ≤ (⟨#[c]⟩ : ByteArray).size := Nat.le_refl 1
  have hl := Lib.splitB_all ⟨#[c]⟩ h1c 0 _ s rfl
  have h := Any.strings_Split Tryz.laysSplit infoStr s ⟨#[c]⟩ m w hs hm h1c
  refine Calls.mono h ?_
  rintro e w' ⟨rfl, rfl⟩
  have hl' : (splitS c s).length = Lib.countB s ⟨#[c]⟩ + 1 := hl
  refine ⟨by rw [hl'], fun _ => ⟨_, _, rfl, fun i row hi j v hj => ?_⟩, Grows.alloc _ _⟩
  rw [List.getElem?_map] at hi
  cases hx : (splitS c s)[i]? with
  | none => rw [hx] at hi; cases hi
  | some x =>
    rw [hx] at hi
    obtain rfl := Option.some.inj hi
    match j, hj with
    | 0, hj =>
      obtain rfl := Option.some.inj hj
      refine cell_box w _ _ _ _ _ ?_
      have hx' : (Lib.splitB ⟨#[c]⟩ 0 (Lib.countB s ⟨#[c]⟩) s)[i]? = some x := hx
      simp [hx']
    | j + 1, hj => simp [strCell] at hj

theorem Grows.cl {w w' : World} (h : Grows w w') {b : Nat} (j : Nat) (hb : b < w.heap.size) : w'.cell? ⟨b, j, none⟩ = w.cell? ⟨b, j, none⟩ := Below.cell h hb
theorem Grows.fz {w w' : World} (h : Grows w w') {b : Nat} (j : Nat) (hb : b < w.heap.size) : w'.frozen? ⟨b, j, none⟩ = w.frozen? ⟨b, j, none⟩ := h.froz hb
theorem box_cells {w w' : World} {cs : Array Value} {t : TypeId} (hg : Grows (w.alloc (.cells cs t)) w') : (∀ j v, cs[j]? = some v → w'.cell? ⟨w.heap.size, j, none⟩ = some v) ∧ (∀ j, w'.frozen? ⟨w.heap.size, j, none⟩ = false) := by
  refine ⟨fun j v h => hg.cell (cell_box w cs t _ j v h), fun j => ?_⟩
  rw [hg.froz (by simp)]
  have hh : (w.alloc (.cells cs t)).heap[w.heap.size]? = some (.cells cs t (0, 0)) := by
    show (w.heap.push _)[w.heap.size]? = _
    simp
  unfold World.frozen?
  simp only [hh]
  simp

theorem put_cell {w : World} {b j : Nat} {u : Value} (v : Value) (h : w.cell? ⟨b, j, none⟩ = some u) : (w.setCell ⟨b, j, none⟩ v).cell? ⟨b, j, none⟩ = some v :=
  World.cell?_setCell_same' _ _ _ (by rw [h]; rfl)
theorem put_other {w : World} {b j b' j' : Nat} (v : Value) (h : b' ≠ b ∨ j' ≠ j) : (w.setCell ⟨b, j, none⟩ v).cell? ⟨b', j', none⟩ = w.cell? ⟨b', j', none⟩ := by
  by_cases hb : b' = b
  · subst hb
    have hj : j' ≠ j := by rcases h with h | h; exact absurd rfl h; exact h
    simp only [World.cell?, World.setCell, Array.getElem?_modify]
    simp only [if_true]
    cases hh : w.heap[b']? with
    | none => simp
    | some o => cases o <;> simp [Ne.symm hj]
  · exact World.cell?_of_block (w := w) (Below.heap_setCell _ _ _ _ (by exact hb))
theorem put_froz (w : World) (a : Addr) (v : Value) (p : Addr) : (w.setCell a v).frozen? p = w.frozen? p := World.frozen?_setCell _ _ _ _
theorem put_size (w : World) (a : Addr) (v : Value) : (w.setCell a v).heap.size = w.heap.size := by simp [World.setCell]
/-- Five cells of one block are written. -/
theorem put5_spec {w : World} {b : Nat} {u0 u1 u2 u3 u4 : Value} (v0 v1 v2 v3 v4 : Value) (h0 : w.cell? ⟨b, 0, none⟩ = some u0) (h1 : w.cell? ⟨b, 1, none⟩ = some u1) (h2 : w.cell? ⟨b, 2, none⟩ = some u2) (h3 : w.cell? ⟨b, 3, none⟩ = some u3) (h4 : w.cell? ⟨b, 4, none⟩ = some u4) {W : World}
    (hW : (((((w.setCell ⟨b, 0, none⟩ v0).setCell ⟨b, 1, none⟩ v1).setCell ⟨b, 2, none⟩ v2).setCell ⟨b, 3, none⟩ v3).setCell ⟨b, 4, none⟩ v4) = W) :
    (W.cell? ⟨b, 0, none⟩ = some v0 ∧ W.cell? ⟨b, 1, none⟩ = some v1 ∧ W.cell? ⟨b, 2, none⟩ = some v2 ∧ W.cell? ⟨b, 3, none⟩ = some v3 ∧ W.cell? ⟨b, 4, none⟩ = some v4) ∧
      (∀ b' j', b' ≠ b → W.cell? ⟨b', j', none⟩ = w.cell? ⟨b', j', none⟩) ∧ (∀ p, W.frozen? p = w.frozen? p) ∧ W.heap.size = w.heap.size := by
  subst hW
  refine ⟨⟨?_, ?_, ?_, ?_, ?_⟩, fun b' j' hb => ?_, fun p => ?_, ?_⟩
  · rw [put_other _ (by simp), put_other _ (by simp), put_other _ (by simp), put_other _ (by simp)]; exact put_cell _ h0
  · rw [put_other _ (by simp), put_other _ (by simp), put_other _ (by simp)]; exact put_cell (u := u1) _ (by rw [put_other _ (by simp)]; exact h1)
  · rw [put_other _ (by simp), put_other _ (by simp)]; exact put_cell (u := u2) _ (by rw [put_other _ (by simp), put_other _ (by simp)]; exact h2)
  · rw [put_other _ (by simp)]; exact put_cell (u := u3) _ (by rw [put_other _ (by simp), put_other _ (by simp), put_other _ (by simp)]; exact h3)
  · exact put_cell (u := u4) _ (by rw [put_other _ (by simp), put_other _ (by simp), put_other _ (by simp), put_other _ (by simp)]; exact h4)
  · rw [put_other _ (.inl hb), put_other _ (.inl hb), put_other _ (.inl hb), put_other _ (.inl hb), put_other _ (.inl hb)]
  · simp only [put_froz]
  · simp only [put_size]
end Go.Proofs.YtcdjponbhpchbaaGreatDoor
