import Derived.Test.YtndhhgpmpnmljaaGreatDoorEnvL
import Derived.Test.YtndhhgpmpnmljaaGreatDoorLess
import Derived.ChangeSame
import Derived.ChangeMaps5
namespace Go.Proofs.YtndhhgpmpnmljaaGreatDoor
open Go Go.ChangeShapes Go.WideShapes Go.ChangeAt Go.RowKit Go.Shelf Go.Lib
open Go.ChangeMaps (open_string shut_string)

theorem cells5_1 {cs : Array Value} {a b c d e : Value} (hs : cs.size = 5) (h0 : (cs.toList.drop 0).take 1 = [a]) (h1 : (cs.toList.drop 1).take 1 = [b]) (h2 : (cs.toList.drop 2).take 1 = [c]) (h3 : (cs.toList.drop 3).take 1 = [d]) (h4 : (cs.toList.drop 4).take 1 = [e]) : cs = #[a, b, c, d, e] := by
  obtain ⟨l⟩ := cs
  match l, hs with
  | [x0, x1, x2, x3, x4], _ =>
    simp at h0 h1 h2 h3 h4
    subst h0 h1 h2 h3 h4
    rfl

/-- The numbers of an entry are of the kind's size; its strings are no longer than a string may be. -/
structure EnOK (x : En) : Prop where
  r : x.r.size ≤ maxLen
  s : x.s.size ≤ maxLen
  l : (Lit.int .i64 x.l).wf = true
  t : (Lit.int .i64 x.t).wf = true
  c : (Lit.int .i64 x.c).wf = true

set_option maxRecDepth 100000 in
theorem open_entry {H : Type} {enc : TypeId × Value → H} {W : World} {base b0 : Nat} {sp : Nat → Bool} {hd : Bool} {r : Reach} {v : Value} {d : DataW H} {ps : List MemPlace} (hval : Value.okWide Tryz.prog W r b0 54 v) (h : DataW.Trod enc Tryz.prog W base sp hd 54 v d ps) :
    ∃ x : En, v = x.agg ∧ EnOK x := by
  obtain ⟨cs, rfl, hs⟩ := okWide_struct Tryz.underlying54 hval
  obtain ⟨fuel, hf⟩ := h
  obtain ⟨xs, n, _, hx, hl, hlen, hall⟩ := DataW.trod_struct Tryz.underlying54 hf
  have hs5 : cs.size = 5 := hs
  match xs, hlen with
  | [y0, y1, y2, y3, y4], _ =>
    have g0 := hall 0 _ rfl
    have g1 := hall 1 _ rfl
    have g2 := hall 2 _ rfl
    have g3 := hall 3 _ rfl
    have g4 := hall 4 _ rfl
    obtain ⟨s0, k0, _, z0⟩ := DataW.trod_string Tryz.underlying9 g0
    obtain ⟨s1, k1, _, z1⟩ := DataW.trod_string Tryz.underlying9 g1
    obtain ⟨n2, k2, _, z2⟩ := DataW.trod_int Tryz.underlying3 g2
    obtain ⟨n3, k3, _, z3⟩ := DataW.trod_int Tryz.underlying3 g3
    obtain ⟨n4, k4, _, z4⟩ := DataW.trod_int Tryz.underlying3 g4
    exact ⟨⟨s0, s1, n2, n3, n4⟩, by rw [cells5_1 hs5 k0 k1 k2 k3 k4]; rfl, ⟨z0, z1, z2, z3, z4⟩⟩
end Go.Proofs.YtndhhgpmpnmljaaGreatDoor
