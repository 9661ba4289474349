import Derived.Test.YtndhhgpmpnmljaaDoorEnvL
namespace Go.Proofs.YtndhhgpmpnmljaaDoor
open Go Go.ChangeShapes Go.WideShapes Go.ChangeAt Go.RowKit Go.Shelf Go.Lib

/-- A world for the witness: the settled one, the listed variables holding what their initialisers lay. -/
noncomputable def laidWorld (os : Os) : World :=
  let w0 := World.holding Tryd.prog os ⟨#[], #[], []⟩
  let put (h : Array Obj) (g : Nat) (cs : Array Value) : Array Obj := h.modify g fun
    | .cells _ t frozen => .cells cs t frozen
    | o => o
  let ints (d : DataW Unit) : Array Value := match d with
    | .agg l => (l.map fun x => match x with
      | .lit (.int k z) => Value.int k z
      | _ => .nilIface).toArray
    | _ => #[]
  let h3 := put w0.heap 0 (Lib.pow10Tab.map fun z => Value.int .u64 z).toArray
  let h4 := put h3 1 (ints Rows.laid_math_bits_deBruijn32tab)
  let h5 := put h4 2 (ints Rows.laid_math_bits_deBruijn64tab)
  { w0 with heap := h5 }
theorem laid_met (os : Os) (args : Array Value) : laidMet Tryd.prog lays ((laidWorld os).forCall (fun _ _ => 0) ⟨#[], args, []⟩).memory :=
  (LaidIn.of_run (l := lays) [0, 1, 2] 10 (by kernel_rfl) (by kernel_rfl) (by kernel_rfl) (by kernel_rfl)).met
end Go.Proofs.YtndhhgpmpnmljaaDoor
