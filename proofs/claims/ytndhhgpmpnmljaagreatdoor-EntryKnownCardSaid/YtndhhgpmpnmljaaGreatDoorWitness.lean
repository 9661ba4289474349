import Derived.Test.YtndhhgpmpnmljaaGreatDoorEnvL
namespace Go.Proofs.YtndhhgpmpnmljaaGreatDoor
open Go Go.ChangeShapes Go.WideShapes Go.ChangeAt Go.RowKit Go.Shelf Go.Lib

noncomputable def low : Nat := (World.settled Tryz.prog default).heap.size
/-- A world for the witness: the settled one, the listed variables holding what their initialisers lay. -/
noncomputable def laidWorld (os : Os) : World :=
  let w0 := World.holding Tryz.prog os ⟨#[.cells #[.string ⟨#[118, 97, 108, 117, 101, 32, 111, 117, 116, 32, 111, 102, 32, 114, 97, 110, 103, 101]⟩] 225, .cells #[.string ⟨#[105, 110, 118, 97, 108, 105, 100, 32, 115, 121, 110, 116, 97, 120]⟩] 225], #[], []⟩
  let put (h : Array Obj) (g : Nat) (cs : Array Value) : Array Obj := h.modify g fun
    | .cells _ t frozen => .cells cs t frozen
    | o => o
  let ints (d : DataW Unit) : Array Value := match d with
    | .agg l => (l.map fun x => match x with
      | .lit (.int k z) => Value.int k z
      | _ => .nilIface).toArray
    | _ => #[]
  let h1 := put w0.heap 0 (Lib.firstTab.map fun z => Value.int .u8 z).toArray
  let h2 := put h1 1 ((List.range 16).flatMap fun i => [Value.int .u8 (Lib.accLo i), Value.int .u8 (Lib.accHi i)]).toArray
  let h3 := put h2 5 (Lib.pow10Tab.map fun z => Value.int .u64 z).toArray
  let h4 := put h3 6 (ints Rows.laid_math_bits_deBruijn32tab)
  let h5 := put h4 7 (ints Rows.laid_math_bits_deBruijn64tab)
  let h6 := put h5 3 #[.iface 223 (.pointer (some ⟨low, 0, none⟩))]
  let h7 := put h6 2 #[.iface 223 (.pointer (some ⟨low + 1, 0, none⟩))]
  { w0 with heap := h7 }
theorem laid_met (os : Os) (args : Array Value) : laidMet Tryz.prog lays ((laidWorld os).forCall (fun _ _ => 0) ⟨#[], args, []⟩).memory :=
  (LaidIn.of_run (l := lays) [0, 1, 5, 6, 7, 3, 2, low, low + 1] 10 (by kernel_rfl) (by kernel_rfl) (by kernel_rfl) (by kernel_rfl)).met
end Go.Proofs.YtndhhgpmpnmljaaGreatDoor
