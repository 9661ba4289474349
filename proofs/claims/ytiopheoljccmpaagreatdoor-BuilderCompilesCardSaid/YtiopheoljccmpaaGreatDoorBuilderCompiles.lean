/- For every three texts of a dictionary BuilderCompiles returns true and leaves its argument as it was: the card of the law, where the listed variables of the library and of the program are laid as the program's text lays them. -/
import Derived.Test.YtiopheoljccmpaaGreatDoorCq7
import Derived.Test.YtiopheoljccmpaaGreatDoorCq22
import Derived.Test.YtiopheoljccmpaaGreatDoorCpsA
namespace Go.Proofs.YtiopheoljccmpaaGreatDoor
open Go Go.ChangeShapes Go.WideShapes Go.ChangeAt Go.RowKit Go.Shelf Go.Lib
open Go.ChangeMaps (open_string shut_string)

set_option maxRecDepth 100000 in
theorem compiles18_contract (H : Type) (enc : TypeId × Value → H) (W : World) (base : Nat) (args : Array Value) (ds gs : List (DataW H)) (before : List MemPlace)
    (hval : ∀ (j : Nat) t v, Tryz.f3.params[j]? = some t → args[j]? = some v → Value.okWide Tryz.prog W .any base t v)
    (hW : DataW.Whole enc Tryz.prog Tryz.f3.params.toList Rows.builderCompilesSpec.vars false W args.toList ds gs before)
    (hz : (DataW.weightsEach Tryz.prog (Tryz.f3.params.toList ++ (OpenSpec.ofChange Rows.builderCompilesSpec).bare.plain.varTypes Tryz.prog) (ds ++ gs)).all (· ≤ reachBytes) = true) (he : pA0 W) :
    Calls Tryz.prog 3 args W fun e W' => ∃ v, e = .returned v ∧ Rows.builderCompilesSpec.post enc Tryz.prog Tryz.f3 false true false false W args v W' := by
  have hW' := hW
  obtain ⟨p, q, hA0, hV, rfl, hfz, hnd⟩ := hW
  have hA : DataW.TrodAll enc Tryz.prog W 0 (fun _ => true) true Tryz.f3.params.toList args.toList ds p := hA0
  rw [Tryz.params3] at hA hval hz
  obtain ⟨v0, d0, rfl, rfl, h0⟩ := trodAll_one hA
  obtain ⟨rfl, rfl⟩ := trodVars_none hV
  obtain ⟨x0, rfl⟩ := open_texts (hval 0 _ v0 rfl rfl) h0
  refine (compiles18_any x0 W he).mono fun e W' ⟨hr, hg⟩ => ?_
  subst hr
  have hlt : ∀ x ∈ p, x.block < W.heap.size := fun x hx => by simpa using hW'.lt x (by simpa using hx)
  refine ⟨_, rfl, _, _, _, [], p, [], hW', ?_, ?_, ?_, hg.frame _, fun h => by cases h⟩
  · exact trodAll_mk1 (shut_bool Tryz.underlying4 _)
  · exact trodAll_mk1 (Below.trod laidOut (by kernel_rfl) (of_decide_eq_true (by kernel_rfl)) h0 hg (fun x hx => hlt x (by simp [hx])))
  · rfl
theorem compiles18_witness (os : Os) {H : Type} (enc : TypeId × Value → H) :
    (OpenSpec.ofChange Rows.builderCompilesSpec).preRow enc Tryz.prog Tryz.f3 Rows.builderCompilesRow.domain false Rows.builderCompilesRow.laid ((tL0 os).forCall (fun _ _ => 0) ⟨#[], #[.agg #[.string ⟨#[]⟩, .string ⟨#[]⟩, .string ⟨#[]⟩]], []⟩).memory #[.agg #[.string ⟨#[]⟩, .string ⟨#[]⟩, .string ⟨#[]⟩]] := by
  have hw : (DataW.whole enc Tryz.prog ((tL0 os).forCall (fun _ _ => 0) ⟨#[], #[.agg #[.string ⟨#[]⟩, .string ⟨#[]⟩, .string ⟨#[]⟩]], []⟩).memory Tryz.f3.params.toList (OpenSpec.ofChange Rows.builderCompilesSpec).vars false #[.agg #[.string ⟨#[]⟩, .string ⟨#[]⟩, .string ⟨#[]⟩]].toList 8).map (fun x => (x.1, x.2.1)) =
      some ([.agg [.lit (.string []), .lit (.string []), .lit (.string [])]], []) := by kernel_rfl
  obtain ⟨⟨y1, y2, y3⟩, hx, hx1⟩ := Option.map_eq_some_iff.1 hw
  simp only [Prod.mk.injEq] at hx1
  obtain ⟨rfl, rfl⟩ := hx1
  exact OpenSpec.preRow_of_cond 8 hx (by kernel_rfl) (fun k hk => by cases hk) (by kernel_rfl) (laid9_met os _)
set_option maxRecDepth 100000 in
theorem compiles18_lifted (os : Os) (started : os.Started) (H : Type) (enc : TypeId × Value → H) (F : Stop.Interp) :
    ReturnsInHanded {} Tryz.checked os 3 .any ((OpenSpec.ofChange Rows.builderCompilesSpec).preRow enc Tryz.prog Tryz.f3 Rows.builderCompilesRow.domain false Rows.builderCompilesRow.laid) (((OpenSpec.ofChange Rows.builderCompilesSpec).at F).post enc Tryz.prog Tryz.f3 false true false false) := by
  refine returnsInHanded_of_row (C := Tryz.checked) (s := OpenSpec.ofChange Rows.builderCompilesSpec) own started (by kernel_rfl) Tryz.func3
    (witness_row_atRef (enc := enc) (C := Tryz.checked) false (tL0 os) #[.agg #[.string ⟨#[]⟩, .string ⟨#[]⟩, .string ⟨#[]⟩]] rfl (by kernel_rfl) (by kernel_rfl) (by kernel_rfl) (compiles18_witness os enc)) ?_
  intro W base args ds gs before hval hW _ _ hz hL hS _
  exact compiles18_contract H enc W base args ds gs before hval hW hz (env9_of hL hS)
theorem compiles18_f1 : laidOutB Tryz.prog = true := by kernel_rfl
theorem compiles18_f2 : mapsRowed Tryz.prog = true := by kernel_rfl
theorem compiles18_f3 : (Rows.builderCompilesRow.inPlace == Tryz.prog.inPlace 3) = true := by kernel_rfl
theorem compiles18_f4 : (Rows.builderCompilesRow.unfollowed == Tryz.prog.unfollowed 3) = true := by kernel_rfl
theorem compiles18_f5 : (Rows.builderCompilesRow.recurses == Tryz.prog.recurses 3) = true := by kernel_rfl
theorem compiles18_f6 : (Rows.builderCompilesRow.named == Tryz.prog.varsNamed 3) = true := by kernel_rfl
theorem compiles18_facts : joinedFacts Tryz.prog 3 Tryz.f3 (OpenSpec.ofChange Rows.builderCompilesSpec).bare Rows.builderCompilesRow = true := by
  unfold joinedFacts
  rw [compiles18_f1, compiles18_f2, compiles18_f3, compiles18_f4, compiles18_f5, compiles18_f6]
  kernel_rfl
theorem compiles18_said : Rows.BuilderCompilesSaid :=
  OpenClaim.holds_of_cond 3 Tryz.f3 rfl rfl rfl rfl rfl rfl rfl ⟨rfl, rfl, rfl, rfl, rfl⟩ rfl rfl rfl rfl rfl (by kernel_rfl) Tryz.func3 compiles18_facts
    (of_decide_eq_true (by kernel_rfl)) (by unfold Func.isWrapper; first | (rw [if_pos (by decide +kernel)]; kernel_rfl) | (rw [if_neg (by decide +kernel)]; exact ⟨rfl, rfl⟩))
    (fun os started H enc _ F => by rw [OpenClaim.pre_eq_preRow]; exact compiles18_lifted os started H enc F)
theorem compiles18_plain (f : FuncId) (fn : Func) (hf : Tryz.pinned.checked.prog.funcNamed "henkan/henkanlaw18.BuilderCompiles" = some f) (hfn : Tryz.pinned.checked.prog.funcs[f]? = some fn) :
    true = Tryz.pinned.checked.prog.looks [] ∧ ∀ (j : Nat) t, fn.params[j]? = some t → Tryz.pinned.checked.prog.wantsStandIn t = false := by
  obtain rfl : f = 3 := Option.some.inj ((show Tryz.prog.funcNamed "henkan/henkanlaw18.BuilderCompiles" = some 3 by kernel_rfl).symm.trans hf) |>.symm
  obtain rfl : fn = Tryz.f3 := (Option.some.inj (Tryz.func3.symm.trans hfn)).symm
  refine ⟨by kernel_rfl, fun j t ht => ?_⟩
  rw [Tryz.params3] at ht
  have hm : t = 23 := by simpa using Array.mem_of_getElem? ht
  subst hm
  exact (show Tryz.prog.wantsStandIn 23 = false by kernel_rfl)
/-- The card. -/
theorem compiles18_card : Rows.BuilderCompilesCardSaid :=
  Claim7.holds_tied_plain_at .later [] _ _ _ _ compiles18_said (fun _ h => by cases h) (by kernel_rfl) (fun _ h => by cases h) builderCompiles_row_tie rfl ⟨rfl, rfl⟩ (by kernel_rfl) rfl compiles18_plain (by kernel_rfl)
end Go.Proofs.YtiopheoljccmpaaGreatDoor
