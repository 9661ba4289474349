/- BuilderKnown returns true: the card of the law, where the listed variables of the library and of the program are laid as the program's text lays them. -/
import Derived.Test.YthgklnohcmaopaaGreatDoorBq21
import Derived.Test.YthgklnohcmaopaaGreatDoorKno18L
import Derived.Test.YthgklnohcmaopaaGreatDoorBq16
namespace Go.Proofs.YthgklnohcmaopaaGreatDoor
open Go Go.ChangeShapes Go.WideShapes Go.ChangeAt Go.RowKit Go.Shelf Go.Lib
open Go.ChangeMaps (open_string shut_string)

theorem laidOut : laidOutB Tryz.prog = true := by kernel_rfl
set_option maxRecDepth 100000 in
theorem known18_contract (H : Type) (enc : TypeId × Value → H) (W : World) (base : Nat) (args : Array Value) (ds gs : List (DataW H)) (before : List MemPlace)
    (hval : ∀ (j : Nat) t v, Tryz.f5.params[j]? = some t → args[j]? = some v → Value.okWide Tryz.prog W .any base t v)
    (hW : DataW.Whole enc Tryz.prog Tryz.f5.params.toList Rows.builderKnownSpec.vars false W args.toList ds gs before)
    (hz : (DataW.weightsEach Tryz.prog (Tryz.f5.params.toList ++ (OpenSpec.ofChange Rows.builderKnownSpec).bare.plain.varTypes Tryz.prog) (ds ++ gs)).all (· ≤ reachBytes) = true) (he : uA0 W) :
    Calls Tryz.prog 5 args W fun e W' => ∃ v, e = .returned v ∧ Rows.builderKnownSpec.post enc Tryz.prog Tryz.f5 false true false false W args v W' := by
  have hW' := hW
  obtain ⟨p, q, hA0, hV, rfl, hfz, hnd⟩ := hW
  have hA : DataW.TrodAll enc Tryz.prog W 0 (fun _ => true) true Tryz.f5.params.toList args.toList ds p := hA0
  rw [Tryz.params5] at hA hval hz
  obtain ⟨rfl, rfl, rfl⟩ := trodAll_none hA
  obtain ⟨rfl, rfl⟩ := trodVars_none hV
  refine (known18_any W he).mono fun e W' ⟨hr, hg⟩ => ?_
  subst hr
  refine ⟨_, rfl, _, _, _, [], [], [], hW', ?_, ?_, ?_, hg.frame _, fun h => by cases h⟩
  · exact trodAll_mk1 (shut_bool Tryz.underlying4 _)
  · exact trodAll_mk0
  · rfl
theorem known18_witness (os : Os) {H : Type} (enc : TypeId × Value → H) :
    (OpenSpec.ofChange Rows.builderKnownSpec).preRow enc Tryz.prog Tryz.f5 Rows.builderKnownRow.domain false Rows.builderKnownRow.laid ((iQ0 os).forCall (fun _ _ => 0) ⟨#[], #[], []⟩).memory #[] := by
  have hw : (DataW.whole enc Tryz.prog ((iQ0 os).forCall (fun _ _ => 0) ⟨#[], #[], []⟩).memory Tryz.f5.params.toList (OpenSpec.ofChange Rows.builderKnownSpec).vars false #[].toList 8).map (fun x => (x.1, x.2.1)) =
      some ([], []) := by kernel_rfl
  obtain ⟨⟨y1, y2, y3⟩, hx, hx1⟩ := Option.map_eq_some_iff.1 hw
  simp only [Prod.mk.injEq] at hx1
  obtain ⟨rfl, rfl⟩ := hx1
  exact OpenSpec.preRow_of_cond 8 hx (by kernel_rfl) (fun k hk => by cases hk) (by kernel_rfl) (laid9_met os _)
set_option maxRecDepth 100000 in
theorem known18_lifted (os : Os) (started : os.Started) (H : Type) (enc : TypeId × Value → H) (F : Stop.Interp) :
    ReturnsInHanded {} Tryz.checked os 5 .any ((OpenSpec.ofChange Rows.builderKnownSpec).preRow enc Tryz.prog Tryz.f5 Rows.builderKnownRow.domain false Rows.builderKnownRow.laid) (((OpenSpec.ofChange Rows.builderKnownSpec).at F).post enc Tryz.prog Tryz.f5 false true false false) := by
  refine returnsInHanded_of_row (C := Tryz.checked) (s := OpenSpec.ofChange Rows.builderKnownSpec) own started (by kernel_rfl) Tryz.func5
    (witness_row_atRef (enc := enc) (C := Tryz.checked) false (iQ0 os) #[] rfl (by kernel_rfl) (by kernel_rfl) (by kernel_rfl) (known18_witness os enc)) ?_
  intro W base args ds gs before hval hW _ _ hz hL hS _
  exact known18_contract H enc W base args ds gs before hval hW hz (env9_of hL hS)
theorem known18_f1 : laidOutB Tryz.prog = true := by kernel_rfl
theorem known18_f2 : mapsRowed Tryz.prog = true := by kernel_rfl
theorem known18_f3 : (Rows.builderKnownRow.inPlace == Tryz.prog.inPlace 5) = true := by kernel_rfl
theorem known18_f4 : (Rows.builderKnownRow.unfollowed == Tryz.prog.unfollowed 5) = true := by kernel_rfl
theorem known18_f5 : (Rows.builderKnownRow.recurses == Tryz.prog.recurses 5) = true := by kernel_rfl
theorem known18_f6 : (Rows.builderKnownRow.named == Tryz.prog.varsNamed 5) = true := by kernel_rfl
theorem known18_facts : joinedFacts Tryz.prog 5 Tryz.f5 (OpenSpec.ofChange Rows.builderKnownSpec).bare Rows.builderKnownRow = true := by
  unfold joinedFacts
  rw [known18_f1, known18_f2, known18_f3, known18_f4, known18_f5, known18_f6]
  kernel_rfl
theorem known18_said : Rows.BuilderKnownSaid :=
  OpenClaim.holds_of_cond 5 Tryz.f5 rfl rfl rfl rfl rfl rfl rfl ⟨rfl, rfl, rfl, rfl, rfl⟩ rfl rfl rfl rfl rfl (by kernel_rfl) Tryz.func5 known18_facts
    (of_decide_eq_true (by kernel_rfl)) (by unfold Func.isWrapper; first | (rw [if_pos (by decide +kernel)]; kernel_rfl) | (rw [if_neg (by decide +kernel)]; exact ⟨rfl, rfl⟩))
    (fun os started H enc _ F => by rw [OpenClaim.pre_eq_preRow]; exact known18_lifted os started H enc F)
theorem known18_plain (f : FuncId) (fn : Func) (hf : Tryz.pinned.checked.prog.funcNamed "henkan/henkanlaw18.BuilderKnown" = some f) (hfn : Tryz.pinned.checked.prog.funcs[f]? = some fn) :
    true = Tryz.pinned.checked.prog.looks [] ∧ ∀ (j : Nat) t, fn.params[j]? = some t → Tryz.pinned.checked.prog.wantsStandIn t = false := by
  obtain rfl : f = 5 := Option.some.inj ((show Tryz.prog.funcNamed "henkan/henkanlaw18.BuilderKnown" = some 5 by kernel_rfl).symm.trans hf) |>.symm
  obtain rfl : fn = Tryz.f5 := (Option.some.inj (Tryz.func5.symm.trans hfn)).symm
  refine ⟨by kernel_rfl, fun j t ht => ?_⟩
  rw [Tryz.params5] at ht
  simp at ht
/-- The card. -/
theorem known18_card : Rows.BuilderKnownCardSaid :=
  Claim7.holds_tied_plain_at .later [] _ _ _ _ known18_said (fun _ h => by cases h) (by kernel_rfl) (fun _ h => by cases h) builderKnown_row_tie rfl ⟨rfl, rfl⟩ (by kernel_rfl) rfl known18_plain (by kernel_rfl)
end Go.Proofs.YthgklnohcmaopaaGreatDoor
