/- The texts OpenB, one behind the other. -/
import Derived.Test.YtcdjponbhpchbaaDoorDq3
import Derived.Test.YtcdjponbhpchbaaDoorDq7
namespace Go.Proofs.YtcdjponbhpchbaaDoor
open Go Go.ChangeShapes Go.WideShapes Go.ChangeAt Go.RowKit Go.Shelf Go.Lib

theorem dec_byte {H : Type} {enc : TypeId × Value → H} {W : World} {base : Nat} {sp : Nat → Bool} {hd : Bool} (n : Nat) (cs : List Value) (x : DataW H × List MemPlace) (hl : cs.length = 1) (h : DataW.trod enc Tryd.prog W base sp hd n 5 cs = some x) :
    ∃ y : UInt8, cs = byteC y ∧ True := by
  match cs, hl with
  | [c0], _ =>
    obtain ⟨m, k0, _, z0⟩ := DataW.trod_int Tryd.underlying5 h
    have e0 : c0 = .int .u8 m := by injection k0
    subst e0
    have hb : 0 ≤ m ∧ m < 256 := by
      simp [Lit.wf] at z0
      have h1 : IntKind.u8.min = 0 := by decide
      have h2 : IntKind.u8.max = 255 := by decide
      omega
    refine ⟨UInt8.ofNat m.toNat, ?_, trivial⟩
    unfold byteC
    rw [UInt8.toNat_ofNat']
    congr 2
    omega
set_option maxRecDepth 100000 in
theorem open_bytes {H : Type} {enc : TypeId × Value → H} {W : World} {base b0 : Nat} {sp : Nat → Bool} {hd : Bool} {r : Reach} {v : Value} {d : DataW H} {ps : List MemPlace} (hval : Value.okWide Tryd.prog W r b0 22 v) (h : DataW.Trod enc Tryd.prog W base sp hd 22 v d ps) :
    ∃ (a : Option Addr) (l : List UInt8) (cap : Nat), v = .slice a l.length cap ∧ AtCells W a 1 (l.map byteC) ∧ (∀ x ∈ l, True) ∧ (d = .nil ∧ l = [] ∨ ∃ el sp, d = .slice el sp ∧ el.length = l.length) :=
  open_rows Tryd.underlying22 (by kernel_rfl) (by decide) (fun _ => rfl) dec_byte hval h
end Go.Proofs.YtcdjponbhpchbaaDoor
