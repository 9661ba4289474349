import Derived.Test.YtaogeadljgjpcaaGreatDoorRq22
import Derived.Test.YtaogeadljgjpcaaGreatDoorRq45
namespace Go.Proofs.YtaogeadljgjpcaaGreatDoor
open Go Go.ChangeShapes Go.WideShapes Go.ChangeAt Go.RowKit Go.Shelf Go.Lib
open Go.ChangeMaps (open_string shut_string)

set_option maxRecDepth 100000 in
theorem dec_lrn {H : Type} {enc : TypeId × Value → H} {W : World} {base : Nat} {sp : Nat → Bool} {hd : Bool} (n : Nat) (cs : List Value) (x : DataW H × List MemPlace) (hl : cs.length = 3) (h : DataW.trod enc Tryz.prog W base sp hd n 51 cs = some x) :
    ∃ y : Lrn, cs = iW y ∧ fK0 y := by
  obtain ⟨xs, n, _, hx, _, hlen, hall⟩ := DataW.trod_struct Tryz.underlying51 h
  match cs, hl with
  | [c0, c1, c2], _ =>
    match xs, hlen with
    | [y0, y1, y2], _ =>
      have g0 := hall 0 _ rfl
      have g1 := hall 1 _ rfl
      have g2 := hall 2 _ rfl
      obtain ⟨s0, k0, _, z0⟩ := DataW.trod_string Tryz.underlying9 g0
      obtain ⟨s1, k1, _, z1⟩ := DataW.trod_string Tryz.underlying9 g1
      obtain ⟨n2, k2, _, z2⟩ := DataW.trod_int Tryz.underlying3 g2
      refine ⟨⟨s0, s1, n2⟩, ?_, ⟨z0, z1, z2⟩⟩
      have e0 : c0 = .string s0 := by injection k0
      have e1 : c1 = .string s1 := by injection k1
      have e2 : c2 = .int .i64 n2 := by injection k2
      subst e0 e1 e2; rfl
set_option maxRecDepth 100000 in
theorem open_case {H : Type} {enc : TypeId × Value → H} {W : World} {base b0 : Nat} {sp : Nat → Bool} {hd : Bool} {r : Reach} {v : Value} {d : DataW H} {ps : List MemPlace} {ts : List TypeId} {ds : List (DataW H)} {j : Nat}
    (hval : Value.okWide Tryz.prog W r b0 33 v) (h : DataW.Trod enc Tryz.prog W base sp hd 33 v d ps)
    (hz : (DataW.weightsEach Tryz.prog ts ds).all (· ≤ reachBytes) = true) (htj : ts[j]? = some 33) (hdj : ds[j]? = some d) :
    ∃ (c : xN) (A : nS0), v = A.agg c ∧ kH0 W A c ∧ jJ1 c := by
  obtain ⟨cs, rfl, hs⟩ := okWide_struct Tryz.underlying33 hval
  obtain ⟨fuel, hf⟩ := h
  obtain ⟨xs, n, _, hx, hl, hlen, hall⟩ := DataW.trod_struct Tryz.underlying33 hf
  have hs6 : cs.size = 6 := hs
  obtain ⟨l⟩ := cs
  match l, hs6 with
  | [x0, x1, x2, x3, x4, x5], _ =>
    match xs, hlen with
    | [y0, y1, y2], _ =>
      have g0 := hall 0 _ rfl
      have g1 := hall 1 _ rfl
      have g2 := hall 2 _ rfl
      obtain ⟨xs', n', _, hx', hl', hlen', hall'⟩ := DataW.trod_struct Tryz.underlying30 g0
      match xs', hlen' with
      | [u0, u1, u2, u3], _ =>
        have f0 := hall' 0 _ rfl
        have f1 := hall' 1 _ rfl
        have f2 := hall' 2 _ rfl
        have f3 := hall' 3 _ rfl
        obtain ⟨pa, p, pc, k0, hp, okp, hp2, _⟩ := tT (cells := bN) (OK := jS1) Tryz.underlying26 (by kernel_rfl) (by decide) (fun _ => rfl) fS1 f0
        obtain ⟨n1, k1, _, z1⟩ := DataW.trod_int Tryz.underlying3 f1
        obtain ⟨sa, s, sc, k2, hs', oks, hs2, _⟩ := tT (cells := nI1) (OK := nO1) Tryz.underlying27 (by kernel_rfl) (by decide) (fun _ => rfl) mS1 f2
        obtain ⟨ea, e, ec, k3, he, oke, he2, _⟩ := tT (cells := bF) (OK := uE) Tryz.underlying28 (by kernel_rfl) (by decide) nY kE0 f3
        obtain ⟨tx, k4, ex, z4⟩ := DataW.trod_string Tryz.underlying9 g1
        obtain ⟨la, ls, lc, k5, hla, okl, hl2, _⟩ := tT (cells := iW) (OK := fK0) Tryz.underlying31 (by kernel_rfl) (by decide) (fun _ => rfl) dec_lrn g2
        have hd2 : ds[j]? = some (.agg [y0.1, y1.1, y2.1]) := by
          rw [hdj]
          have e1 := congrArg Prod.fst hx
          simpa using e1
        have hw := kN0 hz htj hd2 Tryz.underlying33
        have hy0 : [y0.1, y1.1, y2.1][0]? = some (.agg [u0.1, u1.1, u2.1, u3.1]) := by
          have e1 := congrArg Prod.fst hx'
          simpa using e1
        have hw0 := kN0 hw (j := 0) (t := 30) rfl hy0 Tryz.underlying30
        have l0 := zD hw0 (j := 0) (d := u0.1) rfl rfl Tryz.underlying26 (of_decide_eq_true (by kernel_rfl)) (Or.elim hp2 (fun h => Or.inl ⟨h.1, congrArg List.length h.2⟩) Or.inr)
        have l2 := zD hw0 (j := 2) (d := u2.1) rfl rfl Tryz.underlying27 (of_decide_eq_true (by kernel_rfl)) (Or.elim hs2 (fun h => Or.inl ⟨h.1, congrArg List.length h.2⟩) Or.inr)
        have l3 := zD hw0 (j := 3) (d := u3.1) rfl rfl Tryz.underlying28 (of_decide_eq_true (by kernel_rfl)) (Or.elim he2 (fun h => Or.inl ⟨h.1, congrArg List.length h.2⟩) Or.inr)
        have l5 := zD hw (j := 2) (d := y2.1) rfl rfl Tryz.underlying31 (of_decide_eq_true (by kernel_rfl)) (Or.elim hl2 (fun h => Or.inl ⟨h.1, congrArg List.length h.2⟩) Or.inr)
        have l4 : tx.size ≤ 140737488355328 := by
          have hz2 := sized_string (bytes := tx.data.toList) hw (j := 1) rfl (by rw [show [y0.1, y1.1, y2.1][1]? = some y1.1 from rfl, ex])
          have h3 : reachBytes < 2 ^ 47 := reachBytes_lt
          rw [← Lib.size_eq] at hz2; omega
        refine ⟨⟨⟨p, n1, s, e⟩, tx, ls⟩, ⟨⟨pa, pc, sa, sc, ea, ec⟩, la, lc⟩, ?_, ⟨⟨hp, hs', he⟩, hla⟩, ⟨⟨fun y hy => (okp y hy).n, fun y hy => (oks y hy).c, oke, z1, l0, l2, l3⟩, l4, okl, l5⟩⟩
        have e0 : x0 = .slice pa p.length pc := by injection (show [x0] = [_] from k0)
        have e1 : x1 = .int .i64 n1 := by injection (show [x1] = [_] from k1)
        have e2 : x2 = .slice sa s.length sc := by injection (show [x2] = [_] from k2)
        have e3 : x3 = .slice ea e.length ec := by injection (show [x3] = [_] from k3)
        have e4 : x4 = .string tx := by injection (show [x4] = [_] from k4)
        have e5 : x5 = .slice la ls.length lc := by injection (show [x5] = [_] from k5)
        subst e0 e1 e2 e3 e4 e5
        rfl
set_option maxRecDepth 100000 in
theorem open_learned {H : Type} {enc : TypeId × Value → H} {W : World} {base b0 : Nat} {sp : Nat → Bool} {hd : Bool} {r : Reach} {v : Value} {d : DataW H} {ps : List MemPlace}
    (hval : Value.okWide Tryz.prog W r b0 51 v) (h : DataW.Trod enc Tryz.prog W base sp hd 51 v d ps) : ∃ y : Lrn, v = .agg #[.string y.r, .string y.s, .int .i64 y.b] ∧ fK0 y := by
  obtain ⟨cs, rfl, hs⟩ := okWide_struct Tryz.underlying51 hval
  obtain ⟨fuel, hf⟩ := h
  have hs3 : cs.toList.length = 3 := by rw [Array.length_toList]; exact hs
  obtain ⟨y, hy, ok⟩ := dec_lrn fuel cs.toList _ hs3 hf
  refine ⟨y, ?_, ok⟩
  obtain ⟨l⟩ := cs
  simp only [iW] at hy
  subst hy
  rfl
end Go.Proofs.YtaogeadljgjpcaaGreatDoor
