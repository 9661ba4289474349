import Derived.Test.YtndhhgpmpnmljaaDoorOpenG
import Derived.Test.YtndhhgpmpnmljaaDoorMatSets
namespace Go.Proofs.YtndhhgpmpnmljaaDoor
open Go Go.ChangeShapes Go.WideShapes Go.ChangeAt Go.RowKit Go.Shelf Go.Lib
open Go.ChangeMaps (open_string shut_string)

theorem cells3_1 {cs : Array Value} {a b c : Value} (hs : cs.size = 3) (h0 : (cs.toList.drop 0).take 1 = [a]) (h1 : (cs.toList.drop 1).take 1 = [b]) (h2 : (cs.toList.drop 2).take 1 = [c]) : cs = #[a, b, c] := by
  obtain ⟨l⟩ := cs
  match l, hs with
  | [x0, x1, x2], _ =>
    simp at h0 h1 h2
    subst h0 h1 h2
    rfl
/-- The numbers of a call of Set are of the kind's size. -/
structure SetOK (x : SetV) : Prop where
  r : (Lit.int .i64 x.r).wf = true
  l : (Lit.int .i64 x.l).wf = true
  c : (Lit.int .i64 x.c).wf = true
set_option maxRecDepth 100000 in
theorem open_set {H : Type} {enc : TypeId × Value → H} {W : World} {base b0 : Nat} {sp : Nat → Bool} {hd : Bool} {r : Reach} {v : Value} {d : DataW H} {ps : List MemPlace} (hval : Value.okWide Tryd.prog W r b0 35 v) (h : DataW.Trod enc Tryd.prog W base sp hd 35 v d ps) :
    ∃ x : SetV, v = .agg #[.int .i64 x.r, .int .i64 x.l, .int .i64 x.c] ∧ SetOK x := by
  obtain ⟨cs, rfl, hs⟩ := okWide_struct Tryd.underlying35 hval
  obtain ⟨fuel, hf⟩ := h
  obtain ⟨xs, n, _, hx, hl, hlen, hall⟩ := DataW.trod_struct Tryd.underlying35 hf
  have hs3 : cs.size = 3 := hs
  match xs, hlen with
  | [y0, y1, y2], _ =>
    have g0 := hall 0 _ rfl
    have g1 := hall 1 _ rfl
    have g2 := hall 2 _ rfl
    obtain ⟨n0, k0, _, z0⟩ := DataW.trod_int Tryd.underlying3 g0
    obtain ⟨n1, k1, _, z1⟩ := DataW.trod_int Tryd.underlying3 g1
    obtain ⟨n2, k2, _, z2⟩ := DataW.trod_int Tryd.underlying3 g2
    exact ⟨⟨n0, n1, n2⟩, by rw [cells3_1 hs3 k0 k1 k2], ⟨z0, z1, z2⟩⟩
set_option maxRecDepth 100000 in
theorem dec_set {H : Type} {enc : TypeId × Value → H} {W : World} {base : Nat} {sp : Nat → Bool} {hd : Bool} (n : Nat) (cs : List Value) (x : DataW H × List MemPlace) (hl : cs.length = 3) (h : DataW.trod enc Tryd.prog W base sp hd n 35 cs = some x) :
    ∃ y : SetV, cs = setC y ∧ SetOK y := by
  obtain ⟨xs, n, _, hx, _, hlen, hall⟩ := DataW.trod_struct Tryd.underlying35 h
  match cs, hl with
  | [c0, c1, c2], _ =>
    match xs, hlen with
    | [y0, y1, y2], _ =>
      have g0 := hall 0 _ rfl
      have g1 := hall 1 _ rfl
      have g2 := hall 2 _ rfl
      obtain ⟨n0, k0, _, z0⟩ := DataW.trod_int Tryd.underlying3 g0
      obtain ⟨n1, k1, _, z1⟩ := DataW.trod_int Tryd.underlying3 g1
      obtain ⟨n2, k2, _, z2⟩ := DataW.trod_int Tryd.underlying3 g2
      refine ⟨⟨n0, n1, n2⟩, ?_, ⟨z0, z1, z2⟩⟩
      have e0 : c0 = .int .i64 n0 := by injection k0
      have e1 : c1 = .int .i64 n1 := by injection k1
      have e2 : c2 = .int .i64 n2 := by injection k2
      subst e0 e1 e2; rfl
/-- The number of a part of speech is of the kind's size. -/
structure PPosOK (x : PosV) : Prop where
  n : x.name.size ≤ maxLen
  k : (Lit.int .i64 x.kind).wf = true
set_option maxRecDepth 100000 in
theorem dec_ppos {H : Type} {enc : TypeId × Value → H} {W : World} {base : Nat} {sp : Nat → Bool} {hd : Bool} (n : Nat) (cs : List Value) (x : DataW H × List MemPlace) (hl : cs.length = 2) (h : DataW.trod enc Tryd.prog W base sp hd n 73 cs = some x) :
    ∃ y : PosV, cs = posCells y ∧ PPosOK y := by
  obtain ⟨xs, n, _, hx, _, hlen, hall⟩ := DataW.trod_struct Tryd.underlying73 h
  match cs, hl with
  | [c0, c1], _ =>
    match xs, hlen with
    | [y0, y1], _ =>
      have g0 := hall 0 _ rfl
      have g1 := hall 1 _ rfl
      obtain ⟨s0, k0, _, z0⟩ := DataW.trod_string Tryd.underlying9 g0
      obtain ⟨n1, k1, _, z1⟩ := DataW.trod_int Tryd.underlying3 g1
      refine ⟨⟨s0, n1⟩, ?_, ⟨z0, z1⟩⟩
      have e0 : c0 = .string s0 := by injection k0
      have e1 : c1 = .int .i64 n1 := by injection k1
      subst e0 e1; rfl
section
variable {H : Type} {enc : TypeId × Value → H} {W : World} {base b0 : Nat} {sp : Nat → Bool} {hd : Bool} {r : Reach} {v : Value} {d : DataW H} {ps : List MemPlace}
set_option maxRecDepth 100000 in
theorem open_sets (hval : Value.okWide Tryd.prog W r b0 22 v) (h : DataW.Trod enc Tryd.prog W base sp hd 22 v d ps) :
    ∃ (a : Option Addr) (l : List SetV) (cap : Nat), v = .slice a l.length cap ∧ AtCells W a 3 (l.map setC) ∧ (∀ x ∈ l, SetOK x) ∧ (d = .nil ∧ l = [] ∨ ∃ el sp, d = .slice el sp ∧ el.length = l.length) :=
  open_rows Tryd.underlying22 (by kernel_rfl) (by decide) (fun _ => rfl) dec_set hval h
set_option maxRecDepth 100000 in
theorem open_ppos (hval : Value.okWide Tryd.prog W r b0 23 v) (h : DataW.Trod enc Tryd.prog W base sp hd 23 v d ps) :
    ∃ (a : Option Addr) (l : List PosV) (cap : Nat), v = .slice a l.length cap ∧ AtCells W a 2 (l.map posCells) ∧ (∀ x ∈ l, PPosOK x) ∧ (d = .nil ∧ l = [] ∨ ∃ el sp, d = .slice el sp ∧ el.length = l.length) :=
  open_rows Tryd.underlying23 (by kernel_rfl) (by decide) (fun _ => rfl) dec_ppos hval h
end
end Go.Proofs.YtndhhgpmpnmljaaDoor
