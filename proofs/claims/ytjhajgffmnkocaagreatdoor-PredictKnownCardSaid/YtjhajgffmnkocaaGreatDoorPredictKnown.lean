/- PredictKnown returns true: the card of the law, where the listed variables of the library are laid as the program's text lays them. -/
import Derived.Test.YtjhajgffmnkocaaGreatDoorPq30
import Derived.Test.YtjhajgffmnkocaaGreatDoorPq7
import Derived.Test.YtjhajgffmnkocaaGreatDoorPrKno
namespace Go.Proofs.YtjhajgffmnkocaaGreatDoor
open Go Go.ChangeShapes Go.WideShapes Go.ChangeAt Go.RowKit Go.Shelf Go.Lib
open Go.ChangeMaps (open_string shut_string)

set_option maxRecDepth 100000 in
theorem kno38_contract (H : Type) (enc : TypeId × Value → H) (W : World) (base : Nat) (args : Array Value) (ds gs : List (DataW H)) (before : List MemPlace)
    (hval : ∀ (j : Nat) t v, Tryz.f10.params[j]? = some t → args[j]? = some v → Value.okWide Tryz.prog W .any base t v)
    (hW : DataW.Whole enc Tryz.prog Tryz.f10.params.toList Rows.predictKnownSpec.vars false W args.toList ds gs before)
    (hz : (DataW.weightsEach Tryz.prog (Tryz.f10.params.toList ++ (OpenSpec.ofChange Rows.predictKnownSpec).bare.plain.varTypes Tryz.prog) (ds ++ gs)).all (· ≤ reachBytes) = true) (he : Env W) :
    Calls Tryz.prog 10 args W fun e W' => ∃ v, e = .returned v ∧ Rows.predictKnownSpec.post enc Tryz.prog Tryz.f10 false true false false W args v W' := by
  have hW' := hW
  obtain ⟨p, q, hA0, hV, rfl, hfz, hnd⟩ := hW
  have hA : DataW.TrodAll enc Tryz.prog W 0 (fun _ => true) true Tryz.f10.params.toList args.toList ds p := hA0
  rw [Tryz.params10] at hA hval hz
  obtain ⟨rfl, rfl, rfl⟩ := trodAll_none hA
  obtain ⟨rfl, rfl⟩ := trodVars_none hV
  refine (kno38_any W he).mono fun e W' ⟨hr, hg⟩ => ?_
  subst hr
  refine ⟨_, rfl, _, _, _, [], [], [], hW', ?_, ?_, ?_, hg.frame _, fun h => by cases h⟩
  · exact trodAll_mk1 (shut_bool Tryz.underlying4 _)
  · exact trodAll_mk0
  · rfl
theorem kno38_witness (os : Os) {H : Type} (enc : TypeId × Value → H) :
    (OpenSpec.ofChange Rows.predictKnownSpec).preRow enc Tryz.prog Tryz.f10 Rows.predictKnownRow.domain false Rows.predictKnownRow.laid ((yU0 os).forCall (fun _ _ => 0) ⟨#[], #[], []⟩).memory #[] := by
  have hw : (DataW.whole enc Tryz.prog ((yU0 os).forCall (fun _ _ => 0) ⟨#[], #[], []⟩).memory Tryz.f10.params.toList (OpenSpec.ofChange Rows.predictKnownSpec).vars false #[].toList 8).map (fun x => (x.1, x.2.1)) =
      some ([], []) := by kernel_rfl
  obtain ⟨⟨y1, y2, y3⟩, hx, hx1⟩ := Option.map_eq_some_iff.1 hw
  simp only [Prod.mk.injEq] at hx1
  obtain ⟨rfl, rfl⟩ := hx1
  exact OpenSpec.preRow_of_cond 8 hx (by kernel_rfl) (fun k hk => by cases hk) (by kernel_rfl) (laid_met os _)
set_option maxRecDepth 100000 in
theorem kno38_lifted (os : Os) (started : os.Started) (H : Type) (enc : TypeId × Value → H) (F : Stop.Interp) :
    ReturnsInHanded {} Tryz.checked os 10 .any ((OpenSpec.ofChange Rows.predictKnownSpec).preRow enc Tryz.prog Tryz.f10 Rows.predictKnownRow.domain false Rows.predictKnownRow.laid) (((OpenSpec.ofChange Rows.predictKnownSpec).at F).post enc Tryz.prog Tryz.f10 false true false false) := by
  refine returnsInHanded_of_row (C := Tryz.checked) (s := OpenSpec.ofChange Rows.predictKnownSpec) own started (by kernel_rfl) Tryz.func10
    (witness_row_atRef (enc := enc) (C := Tryz.checked) false (yU0 os) #[] rfl (by kernel_rfl) (by kernel_rfl) (by kernel_rfl) (kno38_witness os enc)) ?_
  intro W base args ds gs before hval hW _ _ hz hL hS _
  exact kno38_contract H enc W base args ds gs before hval hW hz (env_of hL hS)
theorem kno38_f1 : laidOutB Tryz.prog = true := by kernel_rfl
theorem kno38_f2 : mapsRowed Tryz.prog = true := by kernel_rfl
theorem kno38_f3 : (Rows.predictKnownRow.inPlace == Tryz.prog.inPlace 10) = true := by kernel_rfl
theorem kno38_f4 : (Rows.predictKnownRow.unfollowed == Tryz.prog.unfollowed 10) = true := by kernel_rfl
theorem kno38_f5 : (Rows.predictKnownRow.recurses == Tryz.prog.recurses 10) = true := by kernel_rfl
theorem kno38_f6 : (Rows.predictKnownRow.named == Tryz.prog.varsNamed 10) = true := by kernel_rfl
theorem kno38_facts : joinedFacts Tryz.prog 10 Tryz.f10 (OpenSpec.ofChange Rows.predictKnownSpec).bare Rows.predictKnownRow = true := by
  unfold joinedFacts
  rw [kno38_f1, kno38_f2, kno38_f3, kno38_f4, kno38_f5, kno38_f6]
  kernel_rfl
theorem kno38_said : Rows.PredictKnownSaid :=
  OpenClaim.holds_of_cond 10 Tryz.f10 rfl rfl rfl rfl rfl rfl rfl ⟨rfl, rfl, rfl, rfl, rfl⟩ rfl rfl rfl rfl rfl (by kernel_rfl) Tryz.func10 kno38_facts
    (of_decide_eq_true (by kernel_rfl)) (by unfold Func.isWrapper; first | (rw [if_pos (by decide +kernel)]; kernel_rfl) | (rw [if_neg (by decide +kernel)]; exact ⟨rfl, rfl⟩))
    (fun os started H enc _ F => by rw [OpenClaim.pre_eq_preRow]; exact kno38_lifted os started H enc F)
theorem kno38_plain (f : FuncId) (fn : Func) (hf : Tryz.pinned.checked.prog.funcNamed "henkan/henkanlaw38.PredictKnown" = some f) (hfn : Tryz.pinned.checked.prog.funcs[f]? = some fn) :
    true = Tryz.pinned.checked.prog.looks [] ∧ ∀ (j : Nat) t, fn.params[j]? = some t → Tryz.pinned.checked.prog.wantsStandIn t = false := by
  obtain rfl : f = 10 := Option.some.inj ((show Tryz.prog.funcNamed "henkan/henkanlaw38.PredictKnown" = some 10 by kernel_rfl).symm.trans hf) |>.symm
  obtain rfl : fn = Tryz.f10 := (Option.some.inj (Tryz.func10.symm.trans hfn)).symm
  refine ⟨by kernel_rfl, fun j t ht => ?_⟩
  rw [Tryz.params10] at ht
  simp at ht
/-- The card. -/
theorem kno38_card : Rows.PredictKnownCardSaid :=
  Claim7.holds_tied_plain_at .later [] _ _ _ _ kno38_said (fun _ h => by cases h) (by kernel_rfl) (fun _ h => by cases h) predictKnown_row_tie rfl ⟨rfl, rfl⟩ (by kernel_rfl) rfl kno38_plain (by kernel_rfl)
end Go.Proofs.YtjhajgffmnkocaaGreatDoor
