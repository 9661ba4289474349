/- WordsKnown returns true: the card of the law, where the listed variables of the library are laid as the program's text lays them. -/
import Derived.Test.YtaogeadljgjpcaaGreatDoorRq22
import Derived.Test.YtaogeadljgjpcaaGreatDoorRq7
import Derived.Test.YtaogeadljgjpcaaGreatDoorKno21L
namespace Go.Proofs.YtaogeadljgjpcaaGreatDoor
open Go Go.ChangeShapes Go.WideShapes Go.ChangeAt Go.RowKit Go.Shelf Go.Lib
open Go.ChangeMaps (open_string shut_string)

set_option maxRecDepth 100000 in
theorem known21_contract (H : Type) (enc : TypeId × Value → H) (W : World) (base : Nat) (args : Array Value) (ds gs : List (DataW H)) (before : List MemPlace)
    (hval : ∀ (j : Nat) t v, Tryz.f8.params[j]? = some t → args[j]? = some v → Value.okWide Tryz.prog W .any base t v)
    (hW : DataW.Whole enc Tryz.prog Tryz.f8.params.toList Rows.wordsKnownSpec.vars false W args.toList ds gs before)
    (hz : (DataW.weightsEach Tryz.prog (Tryz.f8.params.toList ++ (OpenSpec.ofChange Rows.wordsKnownSpec).bare.plain.varTypes Tryz.prog) (ds ++ gs)).all (· ≤ reachBytes) = true) (he : Env W) :
    Calls Tryz.prog 8 args W fun e W' => ∃ v, e = .returned v ∧ Rows.wordsKnownSpec.post enc Tryz.prog Tryz.f8 false true false false W args v W' := by
  have hW' := hW
  obtain ⟨p, q, hA0, hV, rfl, hfz, hnd⟩ := hW
  have hA : DataW.TrodAll enc Tryz.prog W 0 (fun _ => true) true Tryz.f8.params.toList args.toList ds p := hA0
  rw [Tryz.params8] at hA hval hz
  obtain ⟨rfl, rfl, rfl⟩ := trodAll_none hA
  obtain ⟨rfl, rfl⟩ := trodVars_none hV
  refine (known21_any W he).mono fun e W' ⟨hr, hg⟩ => ?_
  subst hr
  refine ⟨_, rfl, _, _, _, [], [], [], hW', ?_, ?_, ?_, hg.frame _, fun h => by cases h⟩
  · exact trodAll_mk1 (shut_bool Tryz.underlying4 _)
  · exact trodAll_mk0
  · rfl
theorem known21_witness (os : Os) {H : Type} (enc : TypeId × Value → H) :
    (OpenSpec.ofChange Rows.wordsKnownSpec).preRow enc Tryz.prog Tryz.f8 Rows.wordsKnownRow.domain false Rows.wordsKnownRow.laid ((xB0 os).forCall (fun _ _ => 0) ⟨#[], #[], []⟩).memory #[] := by
  have hw : (DataW.whole enc Tryz.prog ((xB0 os).forCall (fun _ _ => 0) ⟨#[], #[], []⟩).memory Tryz.f8.params.toList (OpenSpec.ofChange Rows.wordsKnownSpec).vars false #[].toList 8).map (fun x => (x.1, x.2.1)) =
      some ([], []) := by kernel_rfl
  obtain ⟨⟨y1, y2, y3⟩, hx, hx1⟩ := Option.map_eq_some_iff.1 hw
  simp only [Prod.mk.injEq] at hx1
  obtain ⟨rfl, rfl⟩ := hx1
  exact OpenSpec.preRow_of_cond 8 hx (by kernel_rfl) (fun k hk => by cases hk) (by kernel_rfl) (laid_met os _)
set_option maxRecDepth 100000 in
theorem known21_lifted (os : Os) (started : os.Started) (H : Type) (enc : TypeId × Value → H) (F : Stop.Interp) :
    ReturnsInHanded {} Tryz.checked os 8 .any ((OpenSpec.ofChange Rows.wordsKnownSpec).preRow enc Tryz.prog Tryz.f8 Rows.wordsKnownRow.domain false Rows.wordsKnownRow.laid) (((OpenSpec.ofChange Rows.wordsKnownSpec).at F).post enc Tryz.prog Tryz.f8 false true false false) := by
  refine returnsInHanded_of_row (C := Tryz.checked) (s := OpenSpec.ofChange Rows.wordsKnownSpec) own started (by kernel_rfl) Tryz.func8
    (witness_row_atRef (enc := enc) (C := Tryz.checked) false (xB0 os) #[] rfl (by kernel_rfl) (by kernel_rfl) (by kernel_rfl) (known21_witness os enc)) ?_
  intro W base args ds gs before hval hW _ _ hz hL hS _
  exact known21_contract H enc W base args ds gs before hval hW hz (env_of hL hS)
theorem known21_f1 : laidOutB Tryz.prog = true := by kernel_rfl
theorem known21_f2 : mapsRowed Tryz.prog = true := by kernel_rfl
theorem known21_f3 : (Rows.wordsKnownRow.inPlace == Tryz.prog.inPlace 8) = true := by kernel_rfl
theorem known21_f4 : (Rows.wordsKnownRow.unfollowed == Tryz.prog.unfollowed 8) = true := by kernel_rfl
theorem known21_f5 : (Rows.wordsKnownRow.recurses == Tryz.prog.recurses 8) = true := by kernel_rfl
theorem known21_f6 : (Rows.wordsKnownRow.named == Tryz.prog.varsNamed 8) = true := by kernel_rfl
theorem known21_facts : joinedFacts Tryz.prog 8 Tryz.f8 (OpenSpec.ofChange Rows.wordsKnownSpec).bare Rows.wordsKnownRow = true := by
  unfold joinedFacts
  rw [known21_f1, known21_f2, known21_f3, known21_f4, known21_f5, known21_f6]
  kernel_rfl
theorem known21_said : Rows.WordsKnownSaid :=
  OpenClaim.holds_of_cond 8 Tryz.f8 rfl rfl rfl rfl rfl rfl rfl ⟨rfl, rfl, rfl, rfl, rfl⟩ rfl rfl rfl rfl rfl (by kernel_rfl) Tryz.func8 known21_facts
    (of_decide_eq_true (by kernel_rfl)) (by unfold Func.isWrapper; first | (rw [if_pos (by decide +kernel)]; kernel_rfl) | (rw [if_neg (by decide +kernel)]; exact ⟨rfl, rfl⟩))
    (fun os started H enc _ F => by rw [OpenClaim.pre_eq_preRow]; exact known21_lifted os started H enc F)
theorem known21_plain (f : FuncId) (fn : Func) (hf : Tryz.pinned.checked.prog.funcNamed "henkan/henkanlaw21.WordsKnown" = some f) (hfn : Tryz.pinned.checked.prog.funcs[f]? = some fn) :
    true = Tryz.pinned.checked.prog.looks [] ∧ ∀ (j : Nat) t, fn.params[j]? = some t → Tryz.pinned.checked.prog.wantsStandIn t = false := by
  obtain rfl : f = 8 := Option.some.inj ((show Tryz.prog.funcNamed "henkan/henkanlaw21.WordsKnown" = some 8 by kernel_rfl).symm.trans hf) |>.symm
  obtain rfl : fn = Tryz.f8 := (Option.some.inj (Tryz.func8.symm.trans hfn)).symm
  refine ⟨by kernel_rfl, fun j t ht => ?_⟩
  rw [Tryz.params8] at ht
  simp at ht
/-- The card. -/
theorem known21_card : Rows.WordsKnownCardSaid :=
  Claim7.holds_tied_plain_at .later [] _ _ _ _ known21_said (fun _ h => by cases h) (by kernel_rfl) (fun _ h => by cases h) wordsKnown_row_tie rfl ⟨rfl, rfl⟩ (by kernel_rfl) rfl known21_plain (by kernel_rfl)
end Go.Proofs.YtaogeadljgjpcaaGreatDoor
